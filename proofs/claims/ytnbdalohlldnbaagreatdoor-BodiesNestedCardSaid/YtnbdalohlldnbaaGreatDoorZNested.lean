/-
  Plain laws: a new node put behind all in another one, in one go; what an act of the builder is then. No condition.
  Plain laws: an element that has no end (the law BodiesSingle). No condition.
  Plain laws: what comes behind the body's end (the law BodiesBehind). No condition.
  Plain laws: elements nested as one likes (the law BodiesNested). No condition.
  Plain laws: elements nested as one likes (the law BodiesNested): its acts. No condition.
  What Step does with the tokens of BodiesNested. Printed by wip/mkbi3.py.
  What the walks of the laws of lazaretlaw20 share: a builder beside what lay ahead of it; does; names picked out of a list.
  A builder beside a slice of texts that grows and shrinks.
  The law BodiesNested.
  From the rows of lazaretlaw20 to what the walks ask: the scopes, the table of blanks; a token that came in.
  What the rows of lazaretlaw20 share: what is laid, and a world that a witness starts in.
  What the rows of lazaretlaw20 open: numbers of eight bits, slices of bytes.
  The statement and the card of lazaretlaw20.BodiesNested: whatever comes in, the law returns true, and what came in reads as it did.
-/
import Derived.Test.YtnbdalohlldnbaaGreatDoorM08
import Derived.Test.YtnbdalohlldnbaaGreatDoorM18
import Derived.Test.YtnbdalohlldnbaaGreatDoorRows
import Derived.ProofKit
import Derived.OpenShut
import Derived.Deep.DeepHandedRow
import Derived.Deep.DeepWitnessRowRef
import Derived.Lib.LaidTab
import Derived.Lib.LaidU8
import Derived.LaidMore
import Derived.LaidSub
import Derived.LaidHandle
import Derived.Shelf.Vars
import Derived.PinnedBridge
import Derived.Carry
import Derived.Deep.DeepLaidRun
import Derived.Test.YtnbdalohlldnbaaGreatDoorCards
import Derived.Test.YtnbdalohlldnbaaGreatDoorTie
namespace Bd
open Go
def insA (a : Ar) (p : Nat) (n : NodeL) : Ar := (a.modify p fun x => { x with kids := x.kids ++ [(a.length : Int)] }) ++ [{ bare n with parent := (p : Int) }]
theorem insA_len (a : Ar) (p : Nat) (n : NodeL) : (insA a p n).length = a.length + 1 := by simp [insA]
theorem insA_old {a : Ar} {p : Nat} {n x : NodeL} {j : Nat} (hj : a[j]? = some x) : (insA a p n)[j]? = some (if p = j then { x with kids := x.kids ++ [(a.length : Int)] } else x) := by
  have hl : j < a.length := by
    rcases Nat.lt_or_ge j a.length with h | h
    · exact h
    · rw [List.getElem?_eq_none h] at hj; cases hj
  unfold insA
  rw [List.getElem?_append_left (by rw [List.length_modify]; exact hl), List.getElem?_modify, hj]
  split <;> rfl
theorem insA_new (a : Ar) (p : Nat) (n : NodeL) : (insA a p n)[a.length]? = some { bare n with parent := (p : Int) } := by
  unfold insA
  rw [List.getElem?_append_right (by rw [List.length_modify]; exact Nat.le_refl _), List.length_modify, Nat.sub_self]
  rfl
theorem insA_back {a : Ar} {p : Nat} {n z : NodeL} {j : Nat} (hj : (insA a p n)[j]? = some z) : (∃ x, a[j]? = some x ∧ z = if p = j then { x with kids := x.kids ++ [(a.length : Int)] } else x) ∨ (j = a.length ∧ z = { bare n with parent := (p : Int) }) := by
  rcases Nat.lt_trichotomy j a.length with h | rfl | h
  · obtain ⟨x, hx⟩ : ∃ x, a[j]? = some x := ⟨_, List.getElem?_eq_getElem h⟩
    rw [insA_old hx] at hj
    exact Or.inl ⟨x, hx, (Option.some.inj hj).symm⟩
  · rw [insA_new] at hj
    exact Or.inr ⟨rfl, (Option.some.inj hj).symm⟩
  · rw [List.getElem?_eq_none (by rw [insA_len]; omega)] at hj; cases hj
theorem ins_eq {a : Ar} (h : ArOk a) {p : Nat} {z n : NodeL} (hp : a[p]? = some z) (hz : z.kind = 3 ∨ z.kind = 1) (hk : kidK n.kind = true) (ht : isTpl n = false) : (append (add a n).1 (p : Int) (add a n).2).1 = insA a p n := by
  have hA := h.snoc n (kid6 hk) ht
  have hpo := snoc_old (y := bare n) hp
  rw [add_eq h.ne hk ht]
  unfold Bd.append
  have e1 : (a ++ [bare n]).isEmpty = false := by cases a <;> rfl
  have e2 : holds (a ++ [bare n]) (p : Int) = true := by
    unfold holds
    rw [has_nat hpo, rd_nat hpo]
    rcases hz with hz | hz <;> rw [hz] <;> rfl
  have e3 : hangs (a ++ [bare n]) (a.length : Int) = true := by
    unfold hangs
    rw [has_nat (snoc_new a (bare n)), rd_nat (snoc_new a (bare n))]
    exact hk
  dsimp only
  rw [e1, e2, e3, above_new h n hp]
  show Bd.hang (a ++ [bare n]) (p : Int) (-1) (a.length : Int) = insA a p n
  have hpl : p < a.length := by
    rcases Nat.lt_or_ge p a.length with h | h
    · exact h
    · rw [List.getElem?_eq_none h] at hp; cases hp
  refine List.ext_getElem? fun j => ?_
  rw [hang_get hA (snoc_new a (bare n))]
  have hpar : (bare n).parent = -1 := rfl
  rcases Nat.lt_trichotomy j a.length with hj | rfl | hj
  · obtain ⟨x, hx⟩ : ∃ x, a[j]? = some x := ⟨_, List.getElem?_eq_getElem hj⟩
    rw [snoc_old hx, insA_old hx, Option.map_some]
    congr 1
    unfold hangN
    rw [hpar, if_neg (show ¬ (j : Int) = -1 by omega), if_neg (show ¬ j = a.length by omega)]
    by_cases e : p = j
    · subst e; rw [if_pos rfl, if_pos rfl]
    · rw [if_neg (show ¬ j = p from fun h => e h.symm), if_neg e, List.append_nil]
  · rw [snoc_new, insA_new, Option.map_some]
    congr 1
    unfold hangN
    rw [hpar, if_neg (show ¬ (a.length : Int) = -1 by omega), if_pos rfl, if_neg (show ¬ a.length = p by omega)]
    rfl
  · rw [List.getElem?_eq_none (by simp; omega), List.getElem?_eq_none (by rw [insA_len]; omega)]; rfl
theorem node_nat {a : Ar} {j : Nat} {x : NodeL} (h : a[j]? = some x) : node a (j : Int) = x := by
  unfold node
  rw [has_nat h, rd_nat h]; rfl
theorem htmlN_tpl {n : Nat} {x : NodeL} (h : NdOk n x) : htmlN x [templateS] = false := by
  have h2 := h.1.2
  unfold htmlN
  rw [show ([templateS] : List Ba).contains x.name = false by
    rw [List.contains_cons, h2]; rfl, Bool.and_false]
theorem place_eq {n : Nat} {b : BS} (H : Okb n b) {p : Nat} {z : NodeL} (hp : b.ar[p]? = some z) : place b (p : Int) = ((p : Int), -1) := by
  unfold place
  rw [H.fos, node_nat hp]
  simp only [Bool.false_and, Bool.false_eq_true, if_false]
  rw [node_nat hp, htmlN_tpl (H.nd z (List.mem_of_getElem? hp)), Bool.and_false]
  rfl
theorem target_eq {b : BS} {p : Nat} (h : topS b.st = (p : Int)) : target b = (p : Int) := by
  unfold target
  rw [h]; omega
theorem failB_0 (b : BS) : failB b 0 = b := by
  unfold failB
  rw [show ((0 : Int) != 0) = false from rfl, Bool.and_false]; rfl
theorem insertB_eq {n : Nat} {b : BS} (H : Okb n b) {t : TokL} (ht : TokOk t) {p : Nat} {z : NodeL} (hp : b.ar[p]? = some z) (hz : z.kind = 3) (htop : topS b.st = (p : Int)) (hl : b.st.length < 512) :
    insertB b t 0 = ({ b with ar := insA b.ar p (elementT t 0), st := b.st ++ [⟨(b.ar.length : Int), 0, t.name⟩] }, (b.ar.length : Int)) := by
  have hpl : b.ar[p]? = some z := hp
  have H1 := H.add (x := elementT t 0) rfl (tok_tpl ht 0) ⟨ht, Nat.zero_le _⟩
  unfold insertB
  rw [if_neg (by omega)]
  dsimp only
  rw [target_eq (b := { b with ar := (add b.ar (elementT t 0)).1 }) htop, putN _ _ _ (show ({ b with ar := (add b.ar (elementT t 0)).1 } : BS).foster = false from H.fos)]
  have hp1 : ({ b with ar := (add b.ar (elementT t 0)).1 } : BS).ar[p]? = some z := by
    show (add b.ar (elementT t 0)).1[p]? = some z
    rw [add_eq H.ar.ne rfl (tok_tpl ht 0)]
    exact snoc_old hp
  rw [place_eq H1 hp1]
  dsimp only
  rw [ins_eq H.ar hp (Or.inl hz) rfl (tok_tpl ht 0)]
  have hi : (add b.ar (elementT t 0)).2 = (b.ar.length : Int) := by rw [add_eq H.ar.ne rfl (tok_tpl ht 0)]
  rw [hi]
  have hps : pushS (insA b.ar p (elementT t 0)) b.st (b.ar.length : Int) = (b.st ++ [⟨(b.ar.length : Int), 0, t.name⟩], 0) := by
    have he : elementS (insA b.ar p (elementT t 0)) (b.ar.length : Int) = (⟨(b.ar.length : Int), 0, t.name⟩, 0) := by
      unfold elementS
      rw [node_nat (insA_new _ _ _)]
      rfl
    unfold pushS insertS
    rw [he]
    dsimp only
    rw [if_neg (by decide), if_neg (by simp), if_neg (by omega)]
    rw [Int.toNat_natCast, List.take_length, List.drop_length]
  rw [hps, failB_0]
theorem only_eq {n : Nat} {b : BS} (H : Okb n b) {t : TokL} (ht : TokOk t) {p : Nat} {z : NodeL} (hp : b.ar[p]? = some z) (hz : z.kind = 3) (htop : topS b.st = (p : Int)) (hl : b.st.length < 512) :
    (only b t).1 = { b with ar := insA b.ar p (elementT t 0) } := by
  unfold only
  rw [insertB_eq H ht hp hz htop hl]
  dsimp only
  rw [if_pos (by omega)]
  show ({ b with ar := insA b.ar p (elementT t 0), st := popS (b.st ++ [⟨(b.ar.length : Int), 0, t.name⟩]) } : BS) = _
  unfold popS
  rw [List.dropLast_concat]
theorem rebuild_nil {b : BS} (h : b.fo = []) : rebuild b = b := by
  unfold rebuild
  rw [h, List.length_nil, Nat.zero_sub]
  rfl
theorem charsB_eq {n : Nat} {b : BS} (H : Okb n b) (s : Ba) {p : Nat} {z : NodeL} (hp : b.ar[p]? = some z) (h0 : 0 < p) (htop : topS b.st = (p : Int)) :
    charsB b s = { b with ar := (textA b.ar (p : Int) (-1) s).1 } := by
  unfold charsB
  rw [target_eq htop, place_eq H hp]
  dsimp only
  rw [if_pos (by omega)]
theorem textA_new {a : Ar} (h : ArOk a) {p : Nat} {z : NodeL} (hp : a[p]? = some z) (hz : z.kind = 3) {s : Ba} (hs : (s == em) = false) (hl : ¬ (0 < z.kids.length ∧ (rd a (z.kids.getD (z.kids.length - 1) 0)).kind = 4)) :
    (textA a (p : Int) (-1) s).1 = insA a p (textN s) := by
  have e2 : holds a (p : Int) = true := by
    unfold holds
    rw [has_nat hp, rd_nat hp, hz]; rfl
  unfold textA
  rw [show a.isEmpty = false by cases a with | nil => exact absurd rfl h.ne | cons x r => rfl, e2, hs, rd_nat hp]
  simp only [Bool.false_eq_true, if_false, Bool.not_true, Bool.false_or]
  rw [if_neg (by rw [show ((-1 : Int) != -1) = false from rfl, Bool.false_and]; decide), if_neg (show ¬ (0 : Int) ≤ -1 by omega), if_neg hl, add_eq h.ne (n := textN s) rfl rfl]
  have h2 := ins_eq h hp (Or.inl hz) (n := textN s) rfl rfl
  rw [add_eq h.ne (n := textN s) rfl rfl] at h2
  rw [← h2]
  unfold Bd.append
  have hpo := snoc_old (y := bare (textN s)) hp
  have e1 : (a ++ [bare (textN s)]).isEmpty = false := by cases a <;> rfl
  have e2 : holds (a ++ [bare (textN s)]) (p : Int) = true := by
    unfold holds
    rw [has_nat hpo, rd_nat hpo, hz]; rfl
  have e3 : hangs (a ++ [bare (textN s)]) (a.length : Int) = true := by
    unfold hangs
    rw [has_nat (snoc_new a _), rd_nat (snoc_new a _)]; rfl
  dsimp only
  rw [e1, e2, e3, above_new h _ hp]
  rfl
theorem textA_old {a : Ar} (h : ArOk a) {p : Nat} {z : NodeL} (hp : a[p]? = some z) (hz : z.kind = 3) {s : Ba} (hs : (s == em) = false) {c : Nat} (hc : z.kids.getD (z.kids.length - 1) 0 = (c : Int)) (hl : 0 < z.kids.length) {y : NodeL} (hy : a[c]? = some y) (h4 : y.kind = 4) :
    (textA a (p : Int) (-1) s).1 = upd a (c : Int) fun n => { n with text := n.text ++ s } := by
  have e2 : holds a (p : Int) = true := by
    unfold holds
    rw [has_nat hp, rd_nat hp, hz]; rfl
  unfold textA
  rw [show a.isEmpty = false by cases a with | nil => exact absurd rfl h.ne | cons x r => rfl, e2, hs, rd_nat hp]
  simp only [Bool.false_eq_true, if_false, Bool.not_true, Bool.false_or]
  rw [if_neg (by rw [show ((-1 : Int) != -1) = false from rfl, Bool.false_and]; decide), if_neg (show ¬ (0 : Int) ≤ -1 by omega), hc, rd_nat hy, if_pos ⟨hl, h4⟩]
end Bd

namespace Bd
open Go
def htmlS : Ba := ⟨#[104, 116, 109, 108]⟩
def bodyS : Ba := ⟨#[98, 111, 100, 121]⟩
/-- Only the root and the body are open. -/
def stB : St := [⟨1, 0, htmlS⟩, ⟨3, 0, bodyS⟩]
def ruler (b : BS) (t : TokL) : BS := (only (closeP b) t).1
def paramB (b : BS) (t : TokL) : BS := (only b t).1
theorem Okb.ruler {n : Nat} {b : BS} (h : Okb n b) {t : TokL} (ht : TokOk t) : Okb (n + 1) (ruler b t) := h.closeP.only ht
theorem Okb.paramB {n : Nat} {b : BS} (h : Okb n b) {t : TokL} (ht : TokOk t) : Okb (n + 1) (paramB b t) := h.only ht
theorem closeP_stB {b : BS} (h : b.st = stB) : closeP b = b := by
  unfold closeP
  rw [h, show hasS stB 2 [pS] = false from by decide +kernel]; rfl
theorem other_stB {b : BS} (h : b.st = stB) {z : NodeL} (hz : b.ar[3]? = some z) (h0 : z.space = 0) (hn : z.name = bodyS) {nm : Ba} (hne : (bodyS == nm) = false) : other b nm = b := by
  have h1 : atS b.st ((1 : Nat) : Int) = ((3 : Nat) : Int) := by rw [h]; decide
  unfold other
  rw [h]
  show otherF b nm (1 + 1) = b
  unfold otherF
  dsimp only
  rw [h1, node_nat hz, h0, hn, hne, Bool.and_false, show special 0 bodyS = true from by decide +kernel]
  rfl
/-- Where the law stands. -/
structure SI (b : BS) : Prop where
  st : b.st = stB
  fo : b.fo = []
  md : b.mode = 6
  bd : ∃ z, b.ar[3]? = some z ∧ z.kind = 3 ∧ z.space = 0 ∧ z.name = bodyS
  kn : ∀ x ∈ b.ar, x.kids ≠ [] → x.name = em ∨ x.name = htmlS ∨ x.name = bodyS
theorem SI.ins {b : BS} (h : SI b) (n : NodeL) : SI { b with ar := insA b.ar 3 n } := by
  obtain ⟨z, hz, h1, h2, h3⟩ := h.bd
  refine ⟨h.st, h.fo, h.md, ⟨_, insA_old hz, ?_⟩, fun x hx hk => ?_⟩
  · rw [if_pos rfl]; exact ⟨h1, h2, h3⟩
  · obtain ⟨j, hj⟩ := List.mem_iff_getElem?.1 hx
    rcases insA_back hj with ⟨y, hy, rfl⟩ | ⟨_, rfl⟩
    · by_cases e : 3 = j
      · subst e
        obtain rfl := Option.some.inj (hz.symm.trans hy)
        rw [if_pos rfl]
        exact Or.inr (Or.inr h3)
      · rw [if_neg e] at hk ⊢
        exact h.kn y (List.mem_of_getElem? hy) hk
    · exact absurd rfl hk
theorem SI.text {b : BS} (h : SI b) (c : Nat) (f : Ba → Ba) : SI { b with ar := upd b.ar (c : Int) fun n => { n with text := f n.text } } := by
  obtain ⟨z, hz, h1, h2, h3⟩ := h.bd
  refine ⟨h.st, h.fo, h.md, ?_, fun x hx hk => ?_⟩
  · show ∃ w, (upd b.ar (c : Int) _)[3]? = some w ∧ _
    rw [upd_get, hz]
    refine ⟨_, rfl, ?_⟩
    split <;> exact ⟨h1, h2, h3⟩
  · obtain ⟨j, hj⟩ := List.mem_iff_getElem?.1 hx
    have hj' : (upd b.ar (c : Int) fun n => { n with text := f n.text })[j]? = some x := hj
    rw [upd_get] at hj'
    cases hy : b.ar[j]? with
    | none => rw [hy] at hj'; cases hj'
    | some y =>
      rw [hy, Option.map_some] at hj'
      have := Option.some.inj hj'
      subst this
      have hm := h.kn y (List.mem_of_getElem? hy)
      revert hk
      split
      · exact hm
      · exact hm
theorem top_stB {b : BS} (h : b.st = stB) : topS b.st = ((3 : Nat) : Int) := by rw [h]; decide
theorem SI.only {n : Nat} {b : BS} (h : SI b) (H : Okb n b) {t : TokL} (ht : TokOk t) : SI (only b t).1 := by
  obtain ⟨z, hz, h1, _, _⟩ := h.bd
  rw [only_eq H ht hz h1 (top_stB h.st) (by rw [h.st]; decide)]
  exact h.ins _
theorem SI.single {n : Nat} {b : BS} (h : SI b) (H : Okb n b) {t : TokL} (ht : TokOk t) : SI (single b t) := by
  unfold Bd.single
  rw [rebuild_nil h.fo]
  exact h.only H ht
theorem SI.ruler {n : Nat} {b : BS} (h : SI b) (H : Okb n b) {t : TokL} (ht : TokOk t) : SI (Bd.ruler b t) := by
  unfold Bd.ruler
  rw [closeP_stB h.st]
  exact h.only H ht
theorem SI.other {b : BS} (h : SI b) {nm : Ba} (hne : (bodyS == nm) = false) : SI (other b nm) := by
  obtain ⟨z, hz, _, h2, h3⟩ := h.bd
  rw [other_stB h.st hz h2 h3 hne]; exact h
theorem SI.chB {n : Nat} {b : BS} (h : SI b) (H : Okb n b) {t : TokL} (ht : (t.text == em) = false) : SI (chB b t) := by
  obtain ⟨z, hz, h1, _, _⟩ := h.bd
  unfold Bd.chB
  rw [rebuild_nil h.fo, charsB_eq H _ hz (by decide) (top_stB h.st)]
  by_cases hl : 0 < z.kids.length ∧ (rd b.ar (z.kids.getD (z.kids.length - 1) 0)).kind = 4
  · obtain ⟨k, hk⟩ : ∃ k, k = z.kids.getD (z.kids.length - 1) 0 := ⟨_, rfl⟩
    have hm : k ∈ z.kids := by
      rw [hk, List.getD_eq_getElem?_getD, List.getElem?_eq_getElem (by omega)]
      exact List.getElem_mem _
    obtain ⟨c, y, e, hy, _⟩ := H.ar.kid 3 z hz k hm
    have h4 := hl.2
    rw [← hk, e, rd_nat hy] at h4
    rw [textA_old H.ar hz h1 ht (hk.symm.trans e) hl.1 hy h4]
    exact h.text c (fun s => s ++ t.text)
  · rw [textA_new H.ar hz h1 ht hl]
    exact h.ins _
theorem SI.is {b : BS} (h : SI b) (nm : Ba) : isB b [nm] = (nm == bodyS) := by
  obtain ⟨z, hz, h1, h2, h3⟩ := h.bd
  unfold isB htmlN current
  rw [top_stB h.st, node_nat hz, h1, h2, h3]
  rw [show ([nm] : List Ba).contains bodyS = (bodyS == nm) by rw [List.contains_cons]; simp]
  rw [show (bodyS == nm) = (nm == bodyS) from Bool.eq_iff_iff.2 (by rw [beq_iff_eq, beq_iff_eq]; exact eq_comm)]
  rfl
theorem si_opened : SI opened :=
  ⟨by decide +kernel, by decide +kernel, by decide +kernel, ⟨_, show opened.ar[3]? = some (opened.ar.getD 3 nd0) from by decide +kernel, by decide +kernel, by decide +kernel, by decide +kernel⟩, by decide +kernel⟩
/-- The elements that have no end. -/
def namesS : List Ba := [⟨#[98, 114]⟩, ⟨#[105, 109, 103]⟩, ⟨#[105, 110, 112, 117, 116]⟩, ⟨#[119, 98, 114]⟩, ⟨#[101, 109, 98, 101, 100]⟩, ⟨#[97, 114, 101, 97]⟩, ⟨#[104, 114]⟩, ⟨#[112, 97, 114, 97, 109]⟩, ⟨#[115, 111, 117, 114, 99, 101]⟩, ⟨#[116, 114, 97, 99, 107]⟩]
theorem names_ok {nm : Ba} (h : nm ∈ namesS) : (nm.size ≤ 1000 ∧ (nm == templateS) = false) ∧ (nm == em) = false ∧ (nm == htmlS) = false ∧ (nm == bodyS) = false ∧ (bodyS == nm) = false := by
  have : ∀ x ∈ namesS, (x.size ≤ 1000 ∧ (x == templateS) = false) ∧ (x == em) = false ∧ (x == htmlS) = false ∧ (x == bodyS) = false ∧ (bodyS == x) = false := by decide +kernel
  exact this nm h
theorem SI.last {b : BS} (h : SI b) {nm : Ba} (hn : nm ∈ namesS) {x : NodeL} (hx : x ∈ b.ar) (e : x.name = nm) : x.kids = [] := by
  obtain ⟨_, h1, h2, h3, _⟩ := names_ok hn
  rcases Decidable.em (x.kids = []) with hk | hk
  · exact hk
  · exfalso
    rcases h.kn x hx hk with e2 | e2 | e2 <;> rw [e] at e2 <;> subst e2
    · simp at h1
    · simp at h2
    · simp at h3
/-- What Step does with the law's tokens. -/
def stpI (b : BS) (t : TokL) : BS × Bool :=
  if t.kind == 7 then (chB b t, false)
  else if t.kind == 2 then (if t.name == ⟨#[104, 114]⟩ then ruler b t else if t.name == ⟨#[112, 97, 114, 97, 109]⟩ || t.name == ⟨#[115, 111, 117, 114, 99, 101]⟩ || t.name == ⟨#[116, 114, 97, 99, 107]⟩ then paramB b t else single b t, false)
  else (if t.name == ⟨#[98, 114]⟩ then endBr b else other b t.name, false)
end Bd

namespace Bd
open Go
def endBodyB (b : BS) : BS := if hasS b.st 0 [bodyS] then { b with mode := 16 } else b
theorem Okb.mode {n : Nat} {b : BS} (h : Okb n b) (m : Int) : Okb n { b with mode := m } := ⟨h.ar, h.len, h.nd, h.st, h.fo, h.fos⟩
theorem Okb.endBodyB {n : Nat} {b : BS} (h : Okb n b) : Okb n (endBodyB b) := by
  unfold Bd.endBodyB
  split
  · exact h.mode 16
  · exact h
/-- What Step does with the law's tokens, in the body or behind it. -/
def stpH (b : BS) (t : TokL) : BS × Bool :=
  if b.mode == 16 then (if t.kind == 4 then (comment b t (atS b.st 0), false) else ({ b with mode := 6 }, true))
  else if t.kind == 7 then (chB b t, false) else if t.kind == 4 then (comment b t (-1), false) else (endBodyB b, false)
/-- What does does with one token, where Step asks for it once more at most once. -/
def doP (stp : BS → TokL → BS × Bool) (b : BS) (t : TokL) : BS := if (stp b t).2 then (stp (stp b t).1 t).1 else (stp b t).1
def comT (s : Ba) : TokL := { tok0 with kind := 4, text := s }
structure HI (k m : Nat) (b : BS) : Prop where
  st : b.st = stB
  fo : b.fo = []
  md : b.mode = 6
  h1 : ∃ z, b.ar[1]? = some z ∧ z.kind = 3 ∧ z.kids.length = 2 + k
  b3 : ∃ z, b.ar[3]? = some z ∧ z.kind = 3 ∧ ((k = 0 ∧ z.kids = [] ∧ b.ar.length = 4) ∨ (0 < k ∧ ∃ (c : Nat) (y : NodeL), z.kids = [(c : Int)] ∧ b.ar[c]? = some y ∧ y.kind = 4 ∧ y.text.size = k * m))
theorem hi_opened (m : Nat) : HI 0 m opened :=
  ⟨by decide +kernel, by decide +kernel, by decide +kernel, ⟨_, show opened.ar[1]? = some (opened.ar.getD 1 nd0) from by decide +kernel, by decide +kernel, by decide +kernel⟩,
    ⟨_, show opened.ar[3]? = some (opened.ar.getD 3 nd0) from by decide +kernel, by decide +kernel, Or.inl ⟨rfl, by decide +kernel, by decide +kernel⟩⟩⟩
theorem comment_eq {n : Nat} {b : BS} (H : Okb n b) (t : TokL) {p : Nat} {z : NodeL} (hp : b.ar[p]? = some z) (hz : z.kind = 3) : comment b t (p : Int) = { b with ar := insA b.ar p (commentN t) } := by
  unfold comment
  dsimp only
  rw [if_neg (by omega), ins_eq H.ar hp (Or.inl hz) (n := commentN t) rfl rfl]
theorem upd_ne {a : Ar} {c j : Nat} {f : NodeL → NodeL} {x : NodeL} (hj : a[j]? = some x) (hn : ¬ c = j) : (upd a (c : Int) f)[j]? = some x := by
  rw [upd_get, hj, Option.map_some, if_neg hn]
theorem upd_at {a : Ar} {c : Nat} {f : NodeL → NodeL} {x : NodeL} (hj : a[c]? = some x) : (upd a (c : Int) f)[c]? = some (f x) := by
  rw [upd_get, hj, Option.map_some, if_pos rfl]
/-- One round of the law. -/
def roundH (b : BS) (c s : Ba) : BS := chB { comment { b with mode := 16 } (comT c) 1 with mode := 6 } (charsT s)
theorem HI.round {k m n : Nat} {b : BS} (h : HI k m b) (H : Okb n b) {c s : Ba} (hc : c.size ≤ 1000) (hs : s.size = m) (hne : (s == em) = false) : HI (k + 1) m (roundH b c s) := by
  obtain ⟨z1, g1, k1, l1⟩ := h.h1
  obtain ⟨z3, g3, k3, d3⟩ := h.b3
  have H16 := H.mode 16
  have HC : Okb (n + 1) { comment { b with mode := 16 } (comT c) 1 with mode := 6 } := (H16.comment (t := comT c) hc 1).mode 6
  have e0 := comment_eq H16 (comT c) (p := 1) g1 k1
  unfold roundH
  rw [show ((1 : Nat) : Int) = 1 from rfl] at e0
  rw [e0] at HC ⊢
  obtain ⟨a1, ha1⟩ : ∃ a1, a1 = insA b.ar 1 (commentN (comT c)) := ⟨_, rfl⟩
  have q1 : a1[1]? = some { z1 with kids := z1.kids ++ [(b.ar.length : Int)] } := by rw [ha1]; exact insA_old g1
  have q3 : a1[3]? = some z3 := by rw [ha1]; exact insA_old g3
  have ql : a1.length = b.ar.length + 1 := by rw [ha1, insA_len]
  have qc : ∀ (j : Nat) (y : NodeL), b.ar[j]? = some y → y.kind = 4 → a1[j]? = some y := by
    intro j y hy h4
    rw [ha1, insA_old hy, if_neg]
    rintro rfl
    obtain rfl := Option.some.inj (g1.symm.trans hy)
    omega
  obtain ⟨B, hB⟩ : ∃ B : BS, B = { b with mode := 6, ar := a1 } := ⟨_, rfl⟩
  have hBe : ({ ({ b with mode := 16, ar := insA b.ar 1 (commentN (comT c)) } : BS) with mode := 6 } : BS) = B := by rw [hB, ha1]
  have HB : Okb (n + 1) B := by rw [← hBe]; exact HC
  show HI (k + 1) m (chB ({ ({ b with mode := 16, ar := insA b.ar 1 (commentN (comT c)) } : BS) with mode := 6 } : BS) (charsT s))
  rw [hBe]
  have f1 : B.st = stB := by rw [hB]; exact h.st
  have f2 : B.fo = [] := by rw [hB]; exact h.fo
  have f3 : B.ar = a1 := by rw [hB]
  have f4 : B.mode = 6 := by rw [hB]
  clear hBe HC e0 hB H16
  rw [← f3] at q1 q3 ql qc
  unfold chB
  rw [rebuild_nil f2, charsB_eq HB _ q3 (by decide) (top_stB f1)]
  show HI (k + 1) m { B with ar := (textA B.ar ((3 : Nat) : Int) (-1) s).1 }
  rcases d3 with ⟨rfl, hk, hl⟩ | ⟨h0, c0, y, hk, hy, h4, hsz⟩
  · rw [textA_new HB.ar q3 k3 hne (by rw [hk]; simp)]
    refine ⟨f1, f2, f4, ⟨_, insA_old q1, ?_, ?_⟩, ⟨_, insA_old q3, ?_, Or.inr ⟨by omega, B.ar.length, _, ?_, insA_new _ _ _, rfl, ?_⟩⟩⟩
    · exact k1
    · show (z1.kids ++ _).length = _
      rw [List.length_append, l1]; rfl
    · exact k3
    · rw [if_pos rfl, hk]; rfl
    · show s.size = _
      omega
  · rw [textA_old HB.ar q3 k3 hne (c := c0) (by rw [hk]; rfl) (by rw [hk]; exact Nat.one_pos) (qc c0 y hy h4) h4]
    have n1 : ¬ c0 = 1 := by
      rintro rfl
      obtain rfl := Option.some.inj (g1.symm.trans hy)
      omega
    have n3 : ¬ c0 = 3 := by
      rintro rfl
      obtain rfl := Option.some.inj (g3.symm.trans hy)
      omega
    refine ⟨f1, f2, f4, ⟨_, upd_ne q1 n1, k1, ?_⟩, ⟨_, upd_ne q3 n3, k3, Or.inr ⟨by omega, c0, _, hk, upd_at (qc c0 y hy h4), h4, ?_⟩⟩⟩
    · show (z1.kids ++ _).length = _
      rw [List.length_append, l1]; rfl
    · show (y.text ++ s).size = _
      rw [ByteArray.size_append, hsz, hs, Nat.succ_mul]
theorem comment_modeN (b : BS) (t : TokL) (i : Nat) : (comment b t (i : Int)).mode = b.mode := by
  unfold comment
  dsimp only
  rw [if_neg (by omega)]
theorem round_does {b : BS} (h : b.st = stB) (hm : b.mode = 6) (c s : Ba) : [endT bodyS, comT c, charsT s].foldl (doP stpH) b = roundH b c s := by
  have e1 : stpH b (endT bodyS) = ({ b with mode := 16 }, false) := by
    unfold stpH
    rw [hm, show ((6 : Int) == 16) = false from rfl]
    show (endBodyB b, false) = _
    unfold endBodyB
    rw [h, show hasS stB 0 [bodyS] = true from by decide +kernel]; rfl
  have d1 : doP stpH b (endT bodyS) = { b with mode := 16 } := by unfold doP; rw [e1]; rfl
  have e2 : stpH { b with mode := 16 } (comT c) = (comment { b with mode := 16 } (comT c) 1, false) := by
    unfold stpH
    rw [show (({ b with mode := 16 } : BS).mode == 16) = true from rfl]
    show (comment { b with mode := 16 } (comT c) (atS b.st 0), false) = _
    rw [h]; rfl
  have d2 : doP stpH { b with mode := 16 } (comT c) = comment { b with mode := 16 } (comT c) 1 := by unfold doP; rw [e2]; rfl
  obtain ⟨B, hB⟩ : ∃ B, B = comment { b with mode := 16 } (comT c) 1 := ⟨_, rfl⟩
  have m2 : B.mode = 16 := by rw [hB]; exact comment_modeN _ _ 1
  have e3 : stpH B (charsT s) = ({ B with mode := 6 }, true) := by
    unfold stpH
    rw [m2]; rfl
  have e4 : stpH { B with mode := 6 } (charsT s) = (chB { B with mode := 6 } (charsT s), false) := rfl
  have d3 : doP stpH B (charsT s) = chB { B with mode := 6 } (charsT s) := by unfold doP; rw [e3]; exact congrArg Prod.fst e4
  show doP stpH (doP stpH (doP stpH b (endT bodyS)) (comT c)) (charsT s) = _
  rw [d1, d2, ← hB, d3, hB]
  rfl
end Bd

namespace Bd
open Go
def lp : Ba := tx "("
def rp : Ba := tx ")"
/-- The kids' shapes one behind another, whatever lies outside of lo .. hi. -/
def Cl (a : Ar) (lo hi : Nat) (k : Int) (s : Ba) : Prop := ∀ a' : Ar, (∀ j, lo ≤ j → j < hi → a'[j]? = a[j]?) → hi ≤ a'.length → ∀ f, hi - lo ≤ f → shapeF a' f k = s
def Cls (a : Ar) (lo hi : Nat) (ks : List Int) (s : Ba) : Prop := ∀ a' : Ar, (∀ j, lo ≤ j → j < hi → a'[j]? = a[j]?) → hi ≤ a'.length → ∀ f, hi - lo ≤ f → ∀ s0, ks.foldl (fun s k => s ++ shapeF a' f k) s0 = s0 ++ s
theorem Cl.of {a a2 : Ar} {lo hi : Nat} {k : Int} {s : Ba} (h : Cl a lo hi k s) (he : ∀ j, lo ≤ j → j < hi → a2[j]? = a[j]?) : Cl a2 lo hi k s :=
  fun a' h1 hl f hf => h a' (fun j h2 h3 => (h1 j h2 h3).trans (he j h2 h3)) hl f hf
theorem Cls.of {a a2 : Ar} {lo hi : Nat} {ks : List Int} {s : Ba} (h : Cls a lo hi ks s) (he : ∀ j, lo ≤ j → j < hi → a2[j]? = a[j]?) : Cls a2 lo hi ks s :=
  fun a' h1 hl f hf => h a' (fun j h2 h3 => (h1 j h2 h3).trans (he j h2 h3)) hl f hf
theorem Cl.wide {a : Ar} {lo hi lo' hi' : Nat} {k : Int} {s : Ba} (h : Cl a lo hi k s) (h1 : lo' ≤ lo) (h2 : hi ≤ hi') : Cl a lo' hi' k s :=
  fun a' he hl f hf => h a' (fun j h3 h4 => he j (by omega) (by omega)) (by omega) f (by omega)
theorem Cls.wide {a : Ar} {lo hi lo' hi' : Nat} {ks : List Int} {s : Ba} (h : Cls a lo hi ks s) (h1 : lo' ≤ lo) (h2 : hi ≤ hi') : Cls a lo' hi' ks s :=
  fun a' he hl f hf => h a' (fun j h3 h4 => he j (by omega) (by omega)) (by omega) f (by omega)
theorem Cls.nil (a : Ar) (lo hi : Nat) : Cls a lo hi [] em := fun _ _ _ _ _ s0 => (show s0 = s0 ++ ByteArray.empty from ByteArray.append_empty.symm)
theorem Cls.snoc {a : Ar} {lo hi : Nat} {ks : List Int} {k : Int} {s u : Ba} (h : Cls a lo hi ks s) (hk : Cl a lo hi k u) : Cls a lo hi (ks ++ [k]) (s ++ u) := by
  intro a' he hl f hf s0
  rw [List.foldl_append, h a' he hl f hf]
  show (s0 ++ s) ++ shapeF a' f k = _
  rw [hk a' he hl f hf, ByteArray.append_assoc]
theorem rd_eq {a : Ar} {i : Nat} {x : NodeL} (h : a[i]? = some x) : i < a.length := by
  rcases Nat.lt_or_ge i a.length with h2 | h2
  · exact h2
  · rw [List.getElem?_eq_none h2] at h; cases h
theorem Cl.elem {a : Ar} {i hi : Nat} {x : NodeL} {s : Ba} (hx : a[i]? = some x) (hk : x.kind = 3) (hi' : i < hi) (h : Cls a (i + 1) hi x.kids s) : Cl a i hi (i : Int) (x.name ++ (lp ++ (s ++ rp))) := by
  intro a' he hl f hf
  obtain ⟨f', rfl⟩ : ∃ f', f = f' + 1 := ⟨f - 1, by omega⟩
  have hx' : a'[i]? = some x := (he i (Nat.le_refl _) hi').trans hx
  unfold shapeF
  rw [rd_nat hx']
  rw [show (decide ((i : Int) < 0) || decide ((a'.length : Int) ≤ (i : Int))) = false by simp; omega]
  rw [if_neg (by decide)]
  dsimp only
  rw [hk, if_neg (by decide), h a' (fun j h1 h2 => he j (by omega) h2) hl f' (by omega)]
  show x.name ++ lp ++ s ++ rp = _
  simp only [ByteArray.append_assoc]
theorem Cl.text {a : Ar} {i hi : Nat} {x : NodeL} (hx : a[i]? = some x) (hk : x.kind = 4) (hi' : i < hi) : Cl a i hi (i : Int) x.text := by
  intro a' he hl f hf
  obtain ⟨f', rfl⟩ : ∃ f', f = f' + 1 := ⟨f - 1, by omega⟩
  have hx' : a'[i]? = some x := (he i (Nat.le_refl _) hi').trans hx
  unfold shapeF
  rw [rd_nat hx']
  rw [show (decide ((i : Int) < 0) || decide ((a'.length : Int) ≤ (i : Int))) = false by simp; omega]
  rw [if_neg (by decide)]
  dsimp only
  rw [hk, if_pos (by decide)]
/-- The path of what is open, and the text so far. -/
def OpP (a : Ar) : Nat → List Nat → Ba → Prop
  | i, [], s => ∃ x u, a[i]? = some x ∧ x.kind = 3 ∧ Cls a (i + 1) a.length x.kids u ∧ s = x.name ++ (lp ++ u)
  | i, j :: r, s => ∃ x ks u s', a[i]? = some x ∧ x.kind = 3 ∧ i < j ∧ x.kids = ks ++ [(j : Int)] ∧ Cls a (i + 1) j ks u ∧ OpP a j r s' ∧ s = x.name ++ (lp ++ (u ++ s'))
def lastP : Nat → List Nat → Nat
  | i, [] => i
  | _, j :: r => lastP j r
theorem OpP.last {a : Ar} : ∀ {r : List Nat} {i : Nat} {s : Ba}, OpP a i r s → i ≤ lastP i r ∧ ∃ x, a[lastP i r]? = some x ∧ x.kind = 3
  | [], i, s, ⟨x, u, h1, h2, _⟩ => ⟨Nat.le_refl _, x, h1, h2⟩
  | j :: r, i, s, ⟨x, ks, u, s', h1, h2, h3, h4, h5, h6, h7⟩ => by
    obtain ⟨h, h'⟩ := OpP.last h6
    exact ⟨by show i ≤ lastP j r; omega, h'⟩
/-- A closed node more, in the innermost one. -/
theorem OpP.put {a a' : Ar} {n v : _} (ha : a' = insA a n v) : ∀ {r : List Nat} {i : Nat} {s w : Ba}, OpP a i r s → lastP i r = n → Cl a' a.length (a.length + 1) (a.length : Int) w → OpP a' i r (s ++ w)
  | [], i, s, w, ⟨x, u, h1, h2, h3, h4⟩, hn, hw => by
    obtain rfl : i = n := hn
    have hl := rd_eq h1
    have e := insA_old (p := i) (n := v) h1
    rw [← ha, if_pos rfl] at e
    refine ⟨_, u ++ w, e, h2, ?_, ?_⟩
    · show Cls a' (i + 1) a'.length (x.kids ++ [(a.length : Int)]) (u ++ w)
      have hl' : a'.length = a.length + 1 := by rw [ha, insA_len]
      rw [hl']
      refine Cls.snoc ((h3.of fun j q1 q2 => ?_).wide (Nat.le_refl _) (Nat.le_succ _)) (hw.wide (by omega) (Nat.le_refl _))
      obtain ⟨y, hy⟩ : ∃ y, a[j]? = some y := ⟨_, List.getElem?_eq_getElem q2⟩
      rw [ha, insA_old hy, if_neg (by omega), hy]
    · rw [h4]
      show _ = x.name ++ (lp ++ (u ++ w))
      simp only [ByteArray.append_assoc]
  | j :: r, i, s, w, ⟨x, ks, u, s', h1, h2, h3, h4, h5, h6, h7⟩, hn, hw => by
    have hn' : lastP j r = n := hn
    obtain ⟨hj, x2, hx2, _⟩ := OpP.last h6
    rw [hn'] at hj hx2
    have hl := rd_eq hx2
    have e := insA_old (p := n) (n := v) h1
    rw [← ha, if_neg (by omega)] at e
    refine ⟨x, ks, u, s' ++ w, e, h2, h3, h4, h5.of fun k q1 q2 => ?_, OpP.put ha h6 hn' hw, ?_⟩
    · obtain ⟨y, hy⟩ : ∃ y, a[k]? = some y := ⟨_, List.getElem?_eq_getElem (by omega)⟩
      rw [ha, insA_old hy, if_neg (by omega), hy]
    · rw [h7]; simp only [ByteArray.append_assoc]
/-- One more is opened, in the innermost one. -/
theorem OpP.open {a a' : Ar} {n : Nat} {v : NodeL} (ha : a' = insA a n v) (hv : v.kind = 3) : ∀ {r : List Nat} {i : Nat} {s : Ba}, OpP a i r s → lastP i r = n → OpP a' i (r ++ [a.length]) (s ++ (v.name ++ lp))
  | [], i, s, ⟨x, u, h1, h2, h3, h4⟩, hn => by
    obtain rfl : i = n := hn
    have hl := rd_eq h1
    have e := insA_old (p := i) (n := v) h1
    rw [← ha, if_pos rfl] at e
    have e2 := insA_new a i v
    rw [← ha] at e2
    refine ⟨_, x.kids, u, v.name ++ (lp ++ em), e, h2, hl, rfl, h3.of fun j q1 q2 => ?_, ⟨_, em, e2, hv, Cls.nil _ _ _, rfl⟩, ?_⟩
    · obtain ⟨y, hy⟩ : ∃ y, a[j]? = some y := ⟨_, List.getElem?_eq_getElem q2⟩
      rw [ha, insA_old hy, if_neg (by omega), hy]
    · rw [h4, show lp ++ em = lp from ByteArray.append_empty]
      simp only [ByteArray.append_assoc]
  | j :: r, i, s, ⟨x, ks, u, s', h1, h2, h3, h4, h5, h6, h7⟩, hn => by
    have hn' : lastP j r = n := hn
    obtain ⟨hj, x2, hx2, _⟩ := OpP.last h6
    rw [hn'] at hj hx2
    have hl := rd_eq hx2
    have e := insA_old (p := n) (n := v) h1
    rw [← ha, if_neg (by omega)] at e
    refine ⟨x, ks, u, s' ++ (v.name ++ lp), e, h2, h3, h4, h5.of fun k q1 q2 => ?_, OpP.open ha hv h6 hn', ?_⟩
    · obtain ⟨y, hy⟩ : ∃ y, a[k]? = some y := ⟨_, List.getElem?_eq_getElem (by omega)⟩
      rw [ha, insA_old hy, if_neg (by omega), hy]
    · rw [h7]; simp only [ByteArray.append_assoc]
/-- The innermost one is closed. -/
theorem OpP.close {a : Ar} {p : Nat} : ∀ {r : List Nat} {i : Nat} {s : Ba}, OpP a i (r ++ [p]) s → OpP a i r (s ++ rp)
  | [], i, s, ⟨x, ks, u, s', h1, h2, h3, h4, h5, ⟨y, v, g1, g2, g3, g4⟩, h7⟩ => by
    have hl := rd_eq g1
    refine ⟨x, u ++ (s' ++ rp), h1, h2, ?_, ?_⟩
    · rw [h4]
      have hc := Cl.elem g1 g2 hl g3
      rw [show y.name ++ (lp ++ (v ++ rp)) = s' ++ rp by rw [g4]; simp only [ByteArray.append_assoc]] at hc
      exact Cls.snoc (h5.wide (Nat.le_refl _) (by omega)) (hc.wide (by omega) (Nat.le_refl _))
    · rw [h7]; simp only [ByteArray.append_assoc]
  | j :: r, i, s, ⟨x, ks, u, s', h1, h2, h3, h4, h5, h6, h7⟩ => by
    refine ⟨x, ks, u, s' ++ rp, h1, h2, h3, h4, h5, OpP.close h6, ?_⟩
    rw [h7]; simp only [ByteArray.append_assoc]
def rps : Nat → Ba → Ba
  | 0, s => s
  | n + 1, s => rps n (s ++ rp)
theorem rps_succ (n : Nat) : ∀ s : Ba, rps (n + 1) s = rps n s ++ rp := by
  induction n with
  | zero => intro s; rfl
  | succ n ih => intro s; exact ih (s ++ rp)
theorem OpP.all {a : Ar} : ∀ (n : Nat) {r : List Nat} {i : Nat} {s : Ba}, r.length = n → OpP a i r s → OpP a i [] (rps n s)
  | 0, r, i, s, hn, h => by
    obtain rfl := List.length_eq_zero_iff.1 hn
    exact h
  | n + 1, r, i, s, hn, h => by
    have hne : r ≠ [] := by intro e; rw [e] at hn; cases hn
    rw [← List.dropLast_concat_getLast hne] at h
    exact OpP.all n (by rw [List.length_dropLast, hn]; rfl) h.close
theorem OpP.shape {a : Ar} {i : Nat} {s : Ba} (h : OpP a i [] s) : shapeF a (a.length + 1) (i : Int) = s ++ rp := by
  obtain ⟨x, u, h1, h2, h3, h4⟩ := h
  have hc := Cl.elem h1 h2 (rd_eq h1) h3
  rw [hc a (fun _ _ _ => rfl) (Nat.le_refl _) _ (by omega), h4]
  simp only [ByteArray.append_assoc]
end Bd

namespace Bd
open Go
def namesN : List Ba := [⟨#[100, 105, 118]⟩, ⟨#[115, 112, 97, 110]⟩, ⟨#[115, 101, 99, 116, 105, 111, 110]⟩, ⟨#[99, 105, 116, 101]⟩, ⟨#[117, 108]⟩, ⟨#[109, 97, 105, 110]⟩, ⟨#[120, 45, 121]⟩, ⟨#[98, 108, 111, 99, 107, 113, 117, 111, 116, 101]⟩]
def plainN (nm : Ba) : Bool := nm == ⟨#[115, 112, 97, 110]⟩ || nm == ⟨#[99, 105, 116, 101]⟩ || nm == ⟨#[120, 45, 121]⟩
/-- What Step does with the law's tokens. -/
def stpN (b : BS) (t : TokL) : BS × Bool :=
  if t.kind == 7 then (chB b t, false)
  else if t.kind == 2 then (if plainN t.name then plain b t else block b t, false)
  else (if plainN t.name then other b t.name else shut b t, false)
theorem namesN_ok {nm : Ba} (h : nm ∈ namesN) : (nm.size ≤ 1000 ∧ (nm == templateS) = false) ∧ impliedK nm = false ∧ (nm == pS) = false := by
  have : ∀ x ∈ namesN, (x.size ≤ 1000 ∧ (x == templateS) = false) ∧ impliedK x = false ∧ (x == pS) = false := by decide +kernel
  exact this nm h
/-- What is open, as the stack has it. -/
def opS (op : List (Nat × Ba)) : St := op.map fun o => ⟨(o.1 : Int), 0, o.2⟩
structure NI (op : List (Nat × Ba)) (want : Ba) (b : BS) : Prop where
  st : b.st = stB ++ opS op
  fo : b.fo = []
  md : b.mode = 6
  nm : ∀ o ∈ op, o.2 ∈ namesN ∧ ∃ x, b.ar[o.1]? = some x ∧ x.kind = 3 ∧ x.space = 0 ∧ x.name = o.2
  pa : OpP b.ar 3 (op.map (·.1)) want
theorem lastP_snoc (i : Nat) : ∀ (r : List Nat) (p : Nat), lastP i (r ++ [p]) = p := by
  intro r
  induction r generalizing i with
  | nil => intro p; rfl
  | cons j r ih => intro p; exact ih j p
theorem top_snoc (s : St) (o : OpenL) : topS (s ++ [o]) = o.node := by
  unfold topS atS
  rw [List.length_append, List.length_singleton]
  rw [show (decide (((s.length + 1 : Nat) : Int) - 1 < 0) || decide (((s.length + 1 : Nat) : Int) ≤ ((s.length + 1 : Nat) : Int) - 1)) = false by simp; omega]
  rw [if_neg (by decide), show (((s.length + 1 : Nat) : Int) - 1).toNat = s.length by omega]
  rw [List.map_append, List.getD_eq_getElem?_getD, List.getElem?_append_right (by rw [List.length_map]; exact Nat.le_refl _), List.length_map, Nat.sub_self]
  rfl
theorem NI.top {op : List (Nat × Ba)} {want : Ba} {b : BS} (h : NI op want b) : topS b.st = ((lastP 3 (op.map (·.1)) : Nat) : Int) := by
  rw [h.st]
  rcases List.eq_nil_or_concat op with rfl | ⟨r, o, rfl⟩
  · decide
  · rw [List.concat_eq_append, show opS (r ++ [o]) = opS r ++ [⟨(o.1 : Int), 0, o.2⟩] by unfold opS; rw [List.map_append]; rfl, ← List.append_assoc, top_snoc, List.map_append]
    show (o.1 : Int) = _
    rw [show [o].map (·.1) = [o.1] from rfl, lastP_snoc]
theorem scopeG_no (which : Int) (p : OpenL → Bool) : ∀ (s : St), (∀ o ∈ s, p o = false) → scopeG which p s = false
  | [], _ => rfl
  | o :: r, h => by
    unfold scopeG
    rw [h o (List.mem_cons_self ..), scopeG_no which p r fun x hx => h x (List.mem_cons_of_mem _ hx)]
    simp
theorem NI.closeP {op : List (Nat × Ba)} {want : Ba} {b : BS} (h : NI op want b) : closeP b = b := by
  unfold Bd.closeP
  rw [show hasS b.st 2 [pS] = false by
    unfold hasS
    refine scopeG_no _ _ _ fun o ho => ?_
    rw [List.mem_reverse, h.st] at ho
    rcases List.mem_append.1 ho with ho | ho
    · have : ∀ x ∈ stB, htmlO x [pS] = false := by decide +kernel
      exact this o ho
    · unfold opS at ho
      obtain ⟨x, hx, rfl⟩ := List.mem_map.1 ho
      have := (namesN_ok (h.nm x hx).1).2.2
      unfold htmlO
      rw [List.contains_cons, this]; rfl]
  rfl
/-- A start tag, and the text in it. -/
theorem NI.open {op : List (Nat × Ba)} {want : Ba} {b : BS} {n : Nat} (h : NI op want b) (H : Okb n b) {nm : Ba} (hn : nm ∈ namesN) (ho : op.length ≤ 100) :
    ∃ i, NI (op ++ [(i, nm)]) ((want ++ nm) ++ (lp ++ ⟨#[116]⟩)) (chB (stpN b (startT nm)).1 (charsT ⟨#[116]⟩)) := by
  obtain ⟨p, hp⟩ : ∃ p, p = lastP 3 (op.map (·.1)) := ⟨_, rfl⟩
  obtain ⟨h3p, z, hz, hzk⟩ := h.pa.last
  rw [← hp] at hz h3p
  have htop := h.top
  rw [← hp] at htop
  have hT : TokOk (startT nm) := (namesN_ok hn).1
  have hlen : b.st.length < 512 := by
    rw [h.st, List.length_append]
    show 2 + (opS op).length < 512
    unfold opS
    rw [List.length_map]; omega
  have e1 : (stpN b (startT nm)).1 = { b with ar := insA b.ar p (elementT (startT nm) 0), st := b.st ++ [⟨(b.ar.length : Int), 0, nm⟩] } := by
    unfold stpN
    rw [show ((startT nm).kind == 7) = false from rfl, show ((startT nm).kind == 2) = true from rfl]
    rw [if_neg (by decide), if_pos rfl]
    dsimp only
    split
    · unfold plain openE
      rw [rebuild_nil h.fo, insertB_eq H hT hz hzk htop hlen]
      rfl
    · unfold block openE
      rw [h.closeP, insertB_eq H hT hz hzk htop hlen]
      rfl
  have HS : Okb (n + 65) (stpN b (startT nm)).1 := by
    unfold stpN
    rw [show ((startT nm).kind == 7) = false from rfl, show ((startT nm).kind == 2) = true from rfl]
    rw [if_neg (by decide), if_pos rfl]
    dsimp only
    split
    · exact H.plain hT
    · exact (H.block hT).mono (by omega)
  obtain ⟨B, hB⟩ : ∃ B, B = (stpN b (startT nm)).1 := ⟨_, rfl⟩
  rw [← hB] at e1 HS ⊢
  obtain ⟨a1, ha1⟩ : ∃ a1, a1 = insA b.ar p (elementT (startT nm) 0) := ⟨_, rfl⟩
  have f1 : B.ar = a1 := by rw [e1, ha1]
  have f2 : B.st = b.st ++ [⟨(b.ar.length : Int), 0, nm⟩] := by rw [e1]
  have f3 : B.fo = [] := by rw [e1]; exact h.fo
  have f4 : B.mode = 6 := by rw [e1]; exact h.md
  have q := insA_new b.ar p (elementT (startT nm) 0)
  rw [← ha1, ← f1] at q
  have hl1 : B.ar.length = b.ar.length + 1 := by rw [f1, ha1, insA_len]
  have hpos : 0 < b.ar.length := by have := rd_eq hz; omega
  have htop1 : topS B.st = ((b.ar.length : Nat) : Int) := by rw [f2, top_snoc]
  have hop := OpP.open ha1 (v := elementT (startT nm) 0) rfl h.pa hp.symm
  rw [← f1] at hop
  have e2 : chB B (charsT ⟨#[116]⟩) = { B with ar := insA B.ar b.ar.length (textN ⟨#[116]⟩) } := by
    unfold chB
    rw [rebuild_nil f3, charsB_eq HS _ q hpos htop1]
    show ({ B with ar := (textA B.ar _ (-1) ⟨#[116]⟩).1 } : BS) = _
    rw [textA_new HS.ar q rfl (by decide) (by show ¬ (0 < 0 ∧ _); omega)]
  rw [e2]
  have qt := insA_new B.ar b.ar.length (textN ⟨#[116]⟩)
  have hct := Cl.text qt rfl (Nat.lt_succ_self _)
  have hput := OpP.put (v := textN ⟨#[116]⟩) (w := (textN ⟨#[116]⟩).text) rfl hop (lastP_snoc 3 _ _) hct
  have hput : OpP (insA B.ar b.ar.length (textN ⟨#[116]⟩)) 3 (op.map (·.1) ++ [b.ar.length]) ((want ++ (nm ++ lp)) ++ ⟨#[116]⟩) := hput
  refine ⟨b.ar.length, ⟨?_, f3, f4, fun o hm => ?_, ?_⟩⟩
  · show B.st = _
    rw [f2, h.st, List.append_assoc]
    unfold opS
    rw [List.map_append]; rfl
  · rcases List.mem_append.1 hm with hm | hm
    · obtain ⟨g1, x, g2, g3, g4, g5⟩ := h.nm o hm
      have k1 := insA_old (p := p) (n := elementT (startT nm) 0) g2
      rw [← ha1, ← f1] at k1
      have k2 := insA_old (p := b.ar.length) (n := textN ⟨#[116]⟩) k1
      refine ⟨g1, _, k2, ?_⟩
      split <;> split <;> exact ⟨g3, g4, g5⟩
    · obtain rfl := List.mem_singleton.1 hm
      have k2 := insA_old (p := b.ar.length) (n := textN ⟨#[116]⟩) q
      rw [if_pos rfl] at k2
      exact ⟨hn, _, k2, rfl, rfl, rfl⟩
  · show OpP _ 3 ((op ++ [(b.ar.length, nm)]).map (·.1)) _
    rw [List.map_append, show [(b.ar.length, nm)].map (·.1) = [b.ar.length] from rfl]
    rw [show (want ++ nm) ++ (lp ++ ⟨#[116]⟩) = ((want ++ (nm ++ lp)) ++ ⟨#[116]⟩ : Ba) by simp only [ByteArray.append_assoc]]
    exact hput
theorem implied_top (but : Ba) (s : St) (o : OpenL) (h : (o.space == 0 && (o.name != but && impliedK o.name)) = false) : impliedSt but (s ++ [o]) = s ++ [o] := by
  unfold impliedSt dropS
  rw [List.reverse_append, List.reverse_singleton, List.singleton_append, List.dropWhile_cons_of_neg (by rw [h]; decide), List.reverse_cons, List.reverse_reverse]
theorem last_top (p : OpenL → Bool) (s : St) (o : OpenL) (h : p o = true) : lastIdx p (s ++ [o]) = (s.length : Int) := by
  unfold lastIdx
  rw [List.reverse_append, List.reverse_singleton, List.singleton_append, List.findIdx?_cons, h, List.length_append]
  show ((s.length + 1 : Nat) : Int) - 1 - ((0 : Nat) : Int) = _
  omega
theorem at_snoc (s : St) (o : OpenL) : atS (s ++ [o]) ((s.length : Nat) : Int) = o.node := by
  have h := top_snoc s o
  unfold topS at h
  rw [List.length_append, List.length_singleton, show ((s.length + 1 : Nat) : Int) - 1 = ((s.length : Nat) : Int) by omega] at h
  exact h
/-- The end tag of the innermost one. -/
theorem NI.close {op : List (Nat × Ba)} {want : Ba} {b : BS} {o : Nat × Ba} (h : NI (op ++ [o]) want b) : NI op (want ++ rp) (stpN b (endT o.2)).1 := by
  obtain ⟨hn, x, hx, hk, hs, hnm⟩ := h.nm o (List.mem_append_right _ (List.mem_singleton.2 rfl))
  obtain ⟨_, hni, _⟩ := namesN_ok hn
  have hst : b.st = (stB ++ opS op) ++ [⟨(o.1 : Int), 0, o.2⟩] := by
    rw [h.st]
    unfold opS
    rw [List.map_append, List.append_assoc]; rfl
  have e1 : (stpN b (endT o.2)).1 = { b with st := stB ++ opS op } := by
    unfold stpN
    rw [show ((endT o.2).kind == 7) = false from rfl, show ((endT o.2).kind == 2) = false from rfl]
    rw [if_neg (by decide), if_neg (by decide)]
    dsimp only
    split
    · unfold other
      rw [hst, List.length_append, List.length_singleton]
      show otherF b o.2 _ = _
      unfold otherF
      dsimp only
      rw [hst, at_snoc]
      dsimp only
      rw [node_nat hx, hs, hnm, if_pos (by simp), implied_top _ _ _ (by simp), List.take_left]
    · unfold shut
      rw [show hasS b.st 0 [(endT o.2).name] = true by
        unfold hasS
        rw [hst, List.reverse_append, List.reverse_singleton, List.singleton_append]
        unfold scopeG htmlO
        show (if ((0 : Int) == 0 && [o.2].contains o.2) = true then true else _) = true
        rw [if_pos (by simp)]]
      rw [if_pos rfl, hst, implied_top _ _ _ (by rw [hni]; simp)]
      unfold untilS
      rw [last_top _ _ _ (by show htmlO _ [o.2] = true; unfold htmlO; simp), if_neg (by omega), Int.toNat_natCast, List.take_left]
  rw [e1]
  refine ⟨rfl, h.fo, h.md, fun o ho => h.nm o (List.mem_append_left _ ho), ?_⟩
  have hp := h.pa
  rw [List.map_append] at hp
  exact hp.close
theorem NI.final {op : List (Nat × Ba)} {want : Ba} {b : BS} (h : NI op want b) : shape b = rps (op.length + 1) want ∧ b.st.length = 2 + op.length := by
  constructor
  · have h1 := h.pa.all op.length (by rw [List.length_map])
    have h2 := h1.shape
    unfold shape
    rw [rps_succ, ← h2]; rfl
  · rw [h.st, List.length_append]
    unfold opS
    rw [List.length_map]; rfl
theorem ni_opened : NI [] (bodyS ++ lp) opened := by
  refine ⟨by decide +kernel, by decide +kernel, by decide +kernel, fun o h => absurd h (List.not_mem_nil), ?_⟩
  have e : opened.ar[3]? = some (opened.ar.getD 3 nd0) := by decide +kernel
  refine ⟨_, em, e, by decide +kernel, ?_, ?_⟩
  · rw [show (opened.ar.getD 3 nd0).kids = [] from by decide +kernel]
    exact Cls.nil _ _ _
  · rw [show (opened.ar.getD 3 nd0).name = bodyS from by decide +kernel]
    rw [show lp ++ em = lp from ByteArray.append_empty]
end Bd

namespace Go.Proofs.YtnbdalohlldnbaaGreatDoor
open Go.RowKit Bd
attribute [local go_sem ↓] Go.wp_at_zero Go.wp_at_succ
theorem look_startN {nm : List UInt8} (hn : ∀ g ∈ startK, nm ∉ Lib.fields g) : ∀ x y v, StartV nm v x y → v = .nilFunc := fun x y v ⟨S, hS, ps, hv⟩ => by
  rw [hS.none (fun g hg => hn g hg)] at hv
  exact codeV_nil hv
theorem look_endN {nm : List UInt8} (hn : ∀ g ∈ endK, nm ∉ Lib.fields g) : ∀ x y v, EndV nm v x y → v = .nilFunc := fun x y v ⟨S, hS, ps, hv⟩ => by
  rw [hS.none (fun g hg => hn g hg)] at hv
  exact codeV_nil hv
/-- The law's tokens. -/
inductive NsT : TokL → Prop
  | st (nm : Ba) (h : nm ∈ namesN) : NsT (startT nm)
  | en (nm : Ba) (h : nm ∈ namesN) : NsT (endT nm)
  | ch : NsT (charsT ⟨#[116]⟩)
set_option maxHeartbeats 4000000 in
theorem stepN {n : Nat} {own : Nat → Nat} {W : World} {bp ap sp lp : Nat} {b : BS} {t : TokL} (ht : NsT t) (hm : b.mode = 6) (hn : n + 65 ≤ 90000) (H : BX n own W bp ap sp lp b) (hE : EnvT own W) :
    Calls Tryz.prog 8 #[.pointer (some ⟨bp, 0, none⟩), tokV t] W (RX (n + 65) own bp ap sp lp (.bool (stpN b t).2) (stpN b t).1 W) := by
  cases ht with
  | st nm h =>
    simp only [namesN, List.mem_cons, List.not_mem_nil, or_false] at h
    rcases h with rfl | rfl | rfl | rfl | rfl | rfl | rfl | rfl
    · rw [show stpN b (startT ⟨#[100, 105, 118]⟩) = (Bd.block b (startT ⟨#[100, 105, 118]⟩), false) from rfl]
      exact Step_body false (startT ⟨#[100, 105, 118]⟩) hm H (fun V HV hb => (Body_start (m := n + 1) 71 (startT ⟨#[100, 105, 118]⟩) ⟨by decide, by decide +kernel⟩ rfl (tab_below hE.t hb) HV (fun x y v hv => Or.inl (look_start 23 (fun _ _ => rfl) (by decide +kernel) x y v hv)) Tryz.call71 (fun U HU => rblock_any _ ⟨by decide, by decide +kernel⟩ (by omega) HU)).mono fun _ _ hr => RX.mono hr (by omega) hn)
    · rw [show stpN b (startT ⟨#[115, 112, 97, 110]⟩) = (Bd.plain b (startT ⟨#[115, 112, 97, 110]⟩), false) from rfl]
      exact Step_body false (startT ⟨#[115, 112, 97, 110]⟩) hm H (fun V HV hb => (Body_start (m := n + 65) 30 (startT ⟨#[115, 112, 97, 110]⟩) ⟨by decide, by decide +kernel⟩ rfl (tab_below hE.t hb) HV (fun x y v hv => Or.inr ⟨look_startN (by decide +kernel) x y v hv, rfl⟩) Tryz.call30 (fun U HU => rplain_any _ ⟨by decide, by decide +kernel⟩ (by omega) HU)).mono fun _ _ hr => RX.mono hr (by omega) hn)
    · rw [show stpN b (startT ⟨#[115, 101, 99, 116, 105, 111, 110]⟩) = (Bd.block b (startT ⟨#[115, 101, 99, 116, 105, 111, 110]⟩), false) from rfl]
      exact Step_body false (startT ⟨#[115, 101, 99, 116, 105, 111, 110]⟩) hm H (fun V HV hb => (Body_start (m := n + 1) 71 (startT ⟨#[115, 101, 99, 116, 105, 111, 110]⟩) ⟨by decide, by decide +kernel⟩ rfl (tab_below hE.t hb) HV (fun x y v hv => Or.inl (look_start 22 (fun _ _ => rfl) (by decide +kernel) x y v hv)) Tryz.call71 (fun U HU => rblock_any _ ⟨by decide, by decide +kernel⟩ (by omega) HU)).mono fun _ _ hr => RX.mono hr (by omega) hn)
    · rw [show stpN b (startT ⟨#[99, 105, 116, 101]⟩) = (Bd.plain b (startT ⟨#[99, 105, 116, 101]⟩), false) from rfl]
      exact Step_body false (startT ⟨#[99, 105, 116, 101]⟩) hm H (fun V HV hb => (Body_start (m := n + 65) 30 (startT ⟨#[99, 105, 116, 101]⟩) ⟨by decide, by decide +kernel⟩ rfl (tab_below hE.t hb) HV (fun x y v hv => Or.inr ⟨look_startN (by decide +kernel) x y v hv, rfl⟩) Tryz.call30 (fun U HU => rplain_any _ ⟨by decide, by decide +kernel⟩ (by omega) HU)).mono fun _ _ hr => RX.mono hr (by omega) hn)
    · rw [show stpN b (startT ⟨#[117, 108]⟩) = (Bd.block b (startT ⟨#[117, 108]⟩), false) from rfl]
      exact Step_body false (startT ⟨#[117, 108]⟩) hm H (fun V HV hb => (Body_start (m := n + 1) 71 (startT ⟨#[117, 108]⟩) ⟨by decide, by decide +kernel⟩ rfl (tab_below hE.t hb) HV (fun x y v hv => Or.inl (look_start 22 (fun _ _ => rfl) (by decide +kernel) x y v hv)) Tryz.call71 (fun U HU => rblock_any _ ⟨by decide, by decide +kernel⟩ (by omega) HU)).mono fun _ _ hr => RX.mono hr (by omega) hn)
    · rw [show stpN b (startT ⟨#[109, 97, 105, 110]⟩) = (Bd.block b (startT ⟨#[109, 97, 105, 110]⟩), false) from rfl]
      exact Step_body false (startT ⟨#[109, 97, 105, 110]⟩) hm H (fun V HV hb => (Body_start (m := n + 1) 71 (startT ⟨#[109, 97, 105, 110]⟩) ⟨by decide, by decide +kernel⟩ rfl (tab_below hE.t hb) HV (fun x y v hv => Or.inl (look_start 22 (fun _ _ => rfl) (by decide +kernel) x y v hv)) Tryz.call71 (fun U HU => rblock_any _ ⟨by decide, by decide +kernel⟩ (by omega) HU)).mono fun _ _ hr => RX.mono hr (by omega) hn)
    · rw [show stpN b (startT ⟨#[120, 45, 121]⟩) = (Bd.plain b (startT ⟨#[120, 45, 121]⟩), false) from rfl]
      exact Step_body false (startT ⟨#[120, 45, 121]⟩) hm H (fun V HV hb => (Body_start (m := n + 65) 30 (startT ⟨#[120, 45, 121]⟩) ⟨by decide, by decide +kernel⟩ rfl (tab_below hE.t hb) HV (fun x y v hv => Or.inr ⟨look_startN (by decide +kernel) x y v hv, rfl⟩) Tryz.call30 (fun U HU => rplain_any _ ⟨by decide, by decide +kernel⟩ (by omega) HU)).mono fun _ _ hr => RX.mono hr (by omega) hn)
    · rw [show stpN b (startT ⟨#[98, 108, 111, 99, 107, 113, 117, 111, 116, 101]⟩) = (Bd.block b (startT ⟨#[98, 108, 111, 99, 107, 113, 117, 111, 116, 101]⟩), false) from rfl]
      exact Step_body false (startT ⟨#[98, 108, 111, 99, 107, 113, 117, 111, 116, 101]⟩) hm H (fun V HV hb => (Body_start (m := n + 1) 71 (startT ⟨#[98, 108, 111, 99, 107, 113, 117, 111, 116, 101]⟩) ⟨by decide, by decide +kernel⟩ rfl (tab_below hE.t hb) HV (fun x y v hv => Or.inl (look_start 23 (fun _ _ => rfl) (by decide +kernel) x y v hv)) Tryz.call71 (fun U HU => rblock_any _ ⟨by decide, by decide +kernel⟩ (by omega) HU)).mono fun _ _ hr => RX.mono hr (by omega) hn)
  | en nm h =>
    simp only [namesN, List.mem_cons, List.not_mem_nil, or_false] at h
    rcases h with rfl | rfl | rfl | rfl | rfl | rfl | rfl | rfl
    · rw [show stpN b (endT ⟨#[100, 105, 118]⟩) = (shut b (endT ⟨#[100, 105, 118]⟩), false) from rfl]
      exact Step_body false (endT ⟨#[100, 105, 118]⟩) hm H (fun V HV hb => (Body_end (m := n + 0) 95 (endT ⟨#[100, 105, 118]⟩) ⟨by decide, by decide +kernel⟩ rfl (tab_below hE.t hb) HV (fun x y v hv => Or.inl (look_end 9 (fun _ _ => rfl) (by decide +kernel) x y v hv)) Tryz.call95 (fun U HU => rshut_any _ HU) (by decide +kernel)).mono fun _ _ hr => RX.mono hr (by omega) hn)
    · rw [show stpN b (endT ⟨#[115, 112, 97, 110]⟩) = (other b ⟨#[115, 112, 97, 110]⟩, false) from rfl]
      exact Step_body false (endT ⟨#[115, 112, 97, 110]⟩) hm H (fun V HV hb => (Body_end (m := n + 0) 32 (endT ⟨#[115, 112, 97, 110]⟩) ⟨by decide, by decide +kernel⟩ rfl (tab_below hE.t hb) HV (fun x y v hv => Or.inr ⟨look_endN (by decide +kernel) x y v hv, rfl⟩) Tryz.call32 (fun U HU => rotherE_any (endT ⟨#[115, 112, 97, 110]⟩) HU) (by decide +kernel)).mono fun _ _ hr => RX.mono hr (by omega) hn)
    · rw [show stpN b (endT ⟨#[115, 101, 99, 116, 105, 111, 110]⟩) = (shut b (endT ⟨#[115, 101, 99, 116, 105, 111, 110]⟩), false) from rfl]
      exact Step_body false (endT ⟨#[115, 101, 99, 116, 105, 111, 110]⟩) hm H (fun V HV hb => (Body_end (m := n + 0) 95 (endT ⟨#[115, 101, 99, 116, 105, 111, 110]⟩) ⟨by decide, by decide +kernel⟩ rfl (tab_below hE.t hb) HV (fun x y v hv => Or.inl (look_end 8 (fun _ _ => rfl) (by decide +kernel) x y v hv)) Tryz.call95 (fun U HU => rshut_any _ HU) (by decide +kernel)).mono fun _ _ hr => RX.mono hr (by omega) hn)
    · rw [show stpN b (endT ⟨#[99, 105, 116, 101]⟩) = (other b ⟨#[99, 105, 116, 101]⟩, false) from rfl]
      exact Step_body false (endT ⟨#[99, 105, 116, 101]⟩) hm H (fun V HV hb => (Body_end (m := n + 0) 32 (endT ⟨#[99, 105, 116, 101]⟩) ⟨by decide, by decide +kernel⟩ rfl (tab_below hE.t hb) HV (fun x y v hv => Or.inr ⟨look_endN (by decide +kernel) x y v hv, rfl⟩) Tryz.call32 (fun U HU => rotherE_any (endT ⟨#[99, 105, 116, 101]⟩) HU) (by decide +kernel)).mono fun _ _ hr => RX.mono hr (by omega) hn)
    · rw [show stpN b (endT ⟨#[117, 108]⟩) = (shut b (endT ⟨#[117, 108]⟩), false) from rfl]
      exact Step_body false (endT ⟨#[117, 108]⟩) hm H (fun V HV hb => (Body_end (m := n + 0) 95 (endT ⟨#[117, 108]⟩) ⟨by decide, by decide +kernel⟩ rfl (tab_below hE.t hb) HV (fun x y v hv => Or.inl (look_end 8 (fun _ _ => rfl) (by decide +kernel) x y v hv)) Tryz.call95 (fun U HU => rshut_any _ HU) (by decide +kernel)).mono fun _ _ hr => RX.mono hr (by omega) hn)
    · rw [show stpN b (endT ⟨#[109, 97, 105, 110]⟩) = (shut b (endT ⟨#[109, 97, 105, 110]⟩), false) from rfl]
      exact Step_body false (endT ⟨#[109, 97, 105, 110]⟩) hm H (fun V HV hb => (Body_end (m := n + 0) 95 (endT ⟨#[109, 97, 105, 110]⟩) ⟨by decide, by decide +kernel⟩ rfl (tab_below hE.t hb) HV (fun x y v hv => Or.inl (look_end 8 (fun _ _ => rfl) (by decide +kernel) x y v hv)) Tryz.call95 (fun U HU => rshut_any _ HU) (by decide +kernel)).mono fun _ _ hr => RX.mono hr (by omega) hn)
    · rw [show stpN b (endT ⟨#[120, 45, 121]⟩) = (other b ⟨#[120, 45, 121]⟩, false) from rfl]
      exact Step_body false (endT ⟨#[120, 45, 121]⟩) hm H (fun V HV hb => (Body_end (m := n + 0) 32 (endT ⟨#[120, 45, 121]⟩) ⟨by decide, by decide +kernel⟩ rfl (tab_below hE.t hb) HV (fun x y v hv => Or.inr ⟨look_endN (by decide +kernel) x y v hv, rfl⟩) Tryz.call32 (fun U HU => rotherE_any (endT ⟨#[120, 45, 121]⟩) HU) (by decide +kernel)).mono fun _ _ hr => RX.mono hr (by omega) hn)
    · rw [show stpN b (endT ⟨#[98, 108, 111, 99, 107, 113, 117, 111, 116, 101]⟩) = (shut b (endT ⟨#[98, 108, 111, 99, 107, 113, 117, 111, 116, 101]⟩), false) from rfl]
      exact Step_body false (endT ⟨#[98, 108, 111, 99, 107, 113, 117, 111, 116, 101]⟩) hm H (fun V HV hb => (Body_end (m := n + 0) 95 (endT ⟨#[98, 108, 111, 99, 107, 113, 117, 111, 116, 101]⟩) ⟨by decide, by decide +kernel⟩ rfl (tab_below hE.t hb) HV (fun x y v hv => Or.inl (look_end 9 (fun _ _ => rfl) (by decide +kernel) x y v hv)) Tryz.call95 (fun U HU => rshut_any _ HU) (by decide +kernel)).mono fun _ _ hr => RX.mono hr (by omega) hn)
  | ch =>
    rw [show stpN b (charsT ⟨#[116]⟩) = (chB b (charsT ⟨#[116]⟩), false) from rfl]
    exact Step_body false (charsT ⟨#[116]⟩) hm H (fun V HV hb => (Body_chars (charsT ⟨#[116]⟩) (by decide) rfl (by omega) HV).mono fun _ _ hr => RX.mono hr (by omega) hn)
theorem stpN_no (b : BS) (t : TokL) : (stpN b t).2 = false ∧ (b.mode = 6 → (stpN b t).1.mode = 6) := by
  unfold stpN
  split
  · exact ⟨rfl, fun h => (chB_mode _ _).trans h⟩
  · split
    · refine ⟨rfl, fun h => ?_⟩
      dsimp only
      split
      · exact (plain_mode _ _).trans h
      · exact (block_mode _ _).trans h
    · refine ⟨rfl, fun h => ?_⟩
      dsimp only
      split
      · exact (other_mode _ _).trans h
      · exact (shut_mode _ _).trans h
theorem drvN {ts : List TokL} (hts : ∀ t ∈ ts, NsT t) : Drv stpN (fun b => b.mode = 6) 65 ts :=
  ⟨fun bp ap sp lp n own W b t ht hm hn H hE => stepN (hts t ht) hm hn H hE, fun b t _ hm => (stpN_no b t).2 hm, fun b t _ _ h => by rw [(stpN_no b t).1] at h; cases h⟩
end Go.Proofs.YtnbdalohlldnbaaGreatDoor

namespace Go.Proofs.YtnbdalohlldnbaaGreatDoor
open Go.RowKit Bd
attribute [local go_sem ↓] Go.wp_at_zero Go.wp_at_succ
/-- A slice of bytes, as the world holds it. -/
def SlB (w : World) (v : Value) (l : List UInt8) : Prop :=
  ∃ a c, v = .slice a l.length c ∧ l.length ≤ 9223372036854775807 ∧ ∀ (j : Nat) (b : UInt8), l[j]? = some b → ∃ B off, a = some ⟨B, off, none⟩ ∧ B < w.heap.size ∧ w.cell? ⟨B, off + j, none⟩ = some (.int .u8 b.toNat)
theorem SlB.below {w w' : World} {v : Value} {l : List UInt8} (h : SlB w v l) (hb : Below w.heap.size w w') : SlB w' v l := by
  obtain ⟨a, c, h1, h2, h3⟩ := h
  refine ⟨a, c, h1, h2, fun j b hj => ?_⟩
  obtain ⟨B, off, e1, e2, e3⟩ := h3 j b hj
  exact ⟨B, off, e1, Nat.lt_of_lt_of_le e2 hb.size, by rw [hb.cell (p := ⟨B, off + j, none⟩) e2]; exact e3⟩
/-- Names, laid one behind another. -/
def NmsAt (w : World) (g : Nat) (l : List Ba) : Prop := ∀ (j : Nat) (nm : Ba), l[j]? = some nm → w.cell? ⟨g, j, none⟩ = some (.string nm)
theorem nms_alloc (w : World) (l : List Ba) (T : TypeId) : NmsAt (w.alloc (.cells (l.map Value.string).toArray T)) w.heap.size l :=
  fun j nm hj => rowAt (heap_new _ _) _ _ (by rw [List.getElem?_toArray, List.getElem?_map, hj]; rfl)
theorem NmsAt.below {w w' : World} {g : Nat} {l : List Ba} (h : NmsAt w g l) (hb : Below w.heap.size w w') : NmsAt w' g l :=
  fun j nm hj => (hb.cell (World.block_lt_of_cell? _ _ (h j nm hj))).trans (h j nm hj)
theorem EnvT.of {W0 wr : World} {own : Nat → Nat} (hE : E2 W0) (hb : Below W0.heap.size W0 wr) (h0 : ∀ k, k < W0.heap.size → own k = 0) : EnvT own wr := by
  have hT := hE.t
  have hlt : (1 : Nat) < W0.heap.size := by
    unfold Lib.TabIs World.var? at hT
    have hg : (Tryz.prog).globalNamed "strings.asciiSpace" = some 1 := by kernel_rfl
    rw [hg] at hT
    simp only [Option.bind_some] at hT
    rcases Nat.lt_or_ge (1 : Nat) W0.heap.size with h | h
    · exact h
    · rw [Array.getElem?_eq_none h] at hT; cases hT
  exact ⟨tab_below hE.t hb, h0 _ hlt⟩
/-- A builder in order, beside all that lay in W0. -/
structure LA (n : Nat) (W0 : World) (bp ap sp lp : Nat) (b : BS) (wr : World) : Prop where
  ex : ∃ own, BX n own wr bp ap sp lp b ∧ Below W0.heap.size W0 wr ∧ ∀ k, k < W0.heap.size → own k = 0
section
variable {n : Nat} {W0 wr w' : World} {bp ap sp lp : Nat} {b : BS}
theorem LA.below (h : LA n W0 bp ap sp lp b wr) (hb : Below wr.heap.size wr w') : LA n W0 bp ap sp lp b w' := by
  obtain ⟨own, h1, h2, h3⟩ := h.ex
  exact ⟨own, h1.below hb, below_call h2 hb, h3⟩
theorem LA.mono {m : Nat} (h : LA n W0 bp ap sp lp b wr) (hm : n ≤ m) (h2 : m ≤ 90000) : LA m W0 bp ap sp lp b wr := by
  obtain ⟨own, q1, q2, q3⟩ := h.ex
  exact ⟨own, q1.mono hm h2, q2, q3⟩
theorem LA.base (h : LA n W0 bp ap sp lp b wr) : Below W0.heap.size W0 wr := by
  obtain ⟨_, _, h2, _⟩ := h.ex
  exact h2
theorem LA.okb (h : LA n W0 bp ap sp lp b wr) : Okb n b := by
  obtain ⟨_, h1, _, _⟩ := h.ex
  exact h1.G
theorem LA.rx {m : Nat} {own : Nat → Nat} {r : Value} {b' : BS} {e : Ending} (hb : Below W0.heap.size W0 wr) (h0 : ∀ k, k < W0.heap.size → own k = 0) (hr : RX m own bp ap sp lp r b' wr e w') : e = .returned r ∧ LA m W0 bp ap sp lp b' w' := by
  obtain ⟨rfl, own', h1, h2⟩ := hr
  obtain ⟨q1, q2⟩ := h2.below0 hb h0
  exact ⟨rfl, own', h1, q1, q2⟩
theorem LA.opened (hE : E2 W0) : Calls Tryz.prog 11 #[.bool false] W0 fun e w' => ∃ bp ap sp lp rp, e = .returned (.tuple #[.pointer (some ⟨bp, 0, none⟩), .pointer (some ⟨rp, 0, none⟩)]) ∧ LA 4 W0 bp ap sp lp Bd.opened w' :=
  (opened_any hE.k).mono fun _ _ ⟨bp, ap, sp, lp, rp, oB, h1, h2, h3, h4⟩ => ⟨bp, ap, sp, lp, rp, h1, oB, h2, h3, h4⟩
theorem LA.does {stp : BS → TokL → BS × Bool} {Inv : BS → Prop} {c : Nat} (ts : List TokL) (T : TypeId) (cp : Nat) (hE : E2 W0) (hD : Drv stp Inv c ts) (hlen : ts.length ≤ 1000) (hI : Inv b) (hn : n + 2 * c * ts.length ≤ 90000) (h : LA n W0 bp ap sp lp b wr) :
    Calls Tryz.prog 12 #[.pointer (some ⟨bp, 0, none⟩), .slice (some ⟨wr.heap.size, 0, none⟩) ts.length cp] (wr.alloc (.cells (ts.flatMap tkRow).toArray T)) fun e w' => e = .returned (.tuple #[]) ∧ LA (n + 2 * c * ts.length) W0 bp ap sp lp (ts.foldl (doesT stp) b) w' := by
  obtain ⟨own, h1, h2, h3⟩ := h.ex
  have hb : Below wr.heap.size wr (wr.alloc (.cells (ts.flatMap tkRow).toArray T)) := (Below.refl _ _).alloc (Nat.le_refl _) _
  have hb2 := below_call h2 hb
  exact (does_any stp Inv c ts (toks_alloc wr ts T) (h1.L _ (Nat.le_refl _)) hlen (hD.step bp ap sp lp) hD.inv hD.stop hI hn (EnvT.of hE hb2 h3) (h1.below hb)).mono fun _ _ hr => LA.rx hb2 h3 hr
theorem LA.is {v : Value} {ns : List Ba} (h : LA n W0 bp ap sp lp b wr) (hN : NmAt wr v ns) : Calls Tryz.prog 21 #[.pointer (some ⟨bp, 0, none⟩), v] wr fun e w' => e = .returned (.bool (isB b ns)) ∧ Below wr.heap.size wr w' := by
  obtain ⟨own, h1, _, _⟩ := h.ex
  exact xIs h1 hN
theorem LA.arena (h : LA n W0 bp ap sp lp b wr) : Calls Tryz.prog 17 #[.pointer (some ⟨bp, 0, none⟩)] wr fun e w' => e = .returned (.pointer (some ⟨ap, 0, none⟩)) ∧ wr = w' := by
  obtain ⟨own, h1, _, _⟩ := h.ex
  exact xArena h1
theorem LA.tree (h : LA n W0 bp ap sp lp b wr) : Calls Tryz.prog 18 #[.pointer (some ⟨ap, 0, none⟩)] wr (RTree b.ar wr) := by
  obtain ⟨own, h1, _, _⟩ := h.ex
  exact xTree h1
theorem LA.stack (h : LA n W0 bp ap sp lp b wr) : Calls Tryz.prog 19 #[.pointer (some ⟨bp, 0, none⟩)] wr fun e w' => e = .returned (.pointer (some ⟨sp, 0, none⟩)) ∧ wr = w' := by
  obtain ⟨own, h1, _, _⟩ := h.ex
  exact xStack h1
theorem LA.slen (h : LA n W0 bp ap sp lp b wr) : Calls Tryz.prog 20 #[.pointer (some ⟨sp, 0, none⟩)] wr (RI b.st.length wr) := by
  obtain ⟨own, h1, _, _⟩ := h.ex
  exact xSLen h1
theorem LA.mode (h : LA n W0 bp ap sp lp b wr) : Calls Tryz.prog 22 #[.pointer (some ⟨bp, 0, none⟩)] wr fun e w' => e = .returned (.int .i64 b.mode) ∧ wr = w' := by
  obtain ⟨own, h1, _, _⟩ := h.ex
  exact xMode h1
/-- The shape of the body, out of the tree that was read. -/
theorem LA.shape {l : List NB} {v : Value} {B : Nat} (h : LA n W0 bp ap sp lp b wr) (hl : l.map NB.n = b.ar) (hT : TreeAt wr B v l) (hs : (Bd.shape b).size ≤ 1000000000) :
    Calls Tryz.prog 16 #[v, .int .i64 3] wr fun e w' => e = .returned (.string (Bd.shape b)) ∧ Below wr.heap.size wr w' := by
  obtain ⟨own, h1, _, _⟩ := h.ex
  exact shape_of h1 hl hT hs
end
theorem Drv.fold {stp : BS → TokL → BS × Bool} {Inv : BS → Prop} {c : Nat} {ts : List TokL} (hD : Drv stp Inv c ts) : ∀ (l : List TokL) {b : BS}, (∀ t ∈ l, t ∈ ts) → Inv b → Inv (l.foldl (doesT stp) b)
  | [], _, _, h => h
  | t :: r, b, hl, h => by
    refine Drv.fold hD r (fun u hu => hl u (List.mem_cons_of_mem _ hu)) ?_
    have ht := hl t (List.mem_cons_self ..)
    unfold doesT
    split
    · exact hD.inv _ _ ht (hD.inv _ _ ht h)
    · exact hD.inv _ _ ht h
theorem toList_inj {a b : ByteArray} (h : ByteArray.toList a = ByteArray.toList b) : a = b := by
  rw [Lib.toList_data, Lib.toList_data] at h
  exact ByteArray.ext (Array.toList_inj.1 h)
/-- One of the names. -/
theorem pick_nm {l : List Ba} {m : Nat} (hl : l ≠ []) (x : Nat) (hm : m = x % l.length) : ∃ nm, l[m]? = some nm ∧ nm ∈ l := by
  have : m < l.length := by rw [hm]; exact Nat.mod_lt _ (List.length_pos_iff.2 hl)
  exact ⟨l[m], List.getElem?_eq_getElem this, List.getElem_mem this⟩
end Go.Proofs.YtnbdalohlldnbaaGreatDoor

namespace Go.Proofs.YtnbdalohlldnbaaGreatDoor
open Go.RowKit Bd
attribute [local go_sem ↓] Go.wp_at_zero Go.wp_at_succ
def strs (l : List Ba) : List Value := l.map Value.string
theorem strs_len (l : List Ba) : (strs l).length = l.length := List.length_map _
theorem strs_one (l : List Ba) : ∀ u ∈ strs l, u.oneCell' = true := by
  intro u hu
  obtain ⟨x, _, rfl⟩ := List.mem_map.1 hu
  rfl
theorem infoStr : (Tryz.prog.info? 9).map (fun i => (i.zero, i.size, i.bytes)) = some (some (.string ⟨#[]⟩), 1, 16) := by kernel_rfl
theorem opl_append_str {w : World} {ops : Array Oper} {rest : List Oper} {o : Oper} {a : Act} {Q : Exit → Act → World → Prop} {own : Nat → Nat} (hgd : o.guard = none) (s x : Operand)
    (ho : o.op = .call { callee := .builtin .append, args := #[s, x], argTypes := #[40, 40] }) (hty : o.type = 40) (hL : Lbl own w) (q : Nat) (v : Value) (n : Nat) (xs : List Ba) (hs : a.eval s = v) (hown : SlO own q w 9 1 v n (strs xs)) (g : Nat) (z : Ba) (hx : a.eval x = .slice (some ⟨g, 0, none⟩) 1 1) (hp : w.cell? ⟨g, 0, none⟩ = some (.string z))
    (hl : n + 1 ≤ 1000000)
    (h : ∀ v' w' own', SlO own' q w' 9 1 v' (xs ++ [z]).length (strs (xs ++ [z])) → Fr (fun k => k == q) own own' w w' → wpList Tryz.prog ops Q rest (a.put o.dst v') w') : wpList Tryz.prog ops Q (o :: rest) a w :=
  wpList_plain hgd fun _ hK => by
    obtain ⟨i0, hi, hz0, hz1, hz2⟩ := info_parts infoStr
    obtain ⟨v', w', own', hr, h2, h3⟩ := run_append_sl (P := Tryz.prog) w hL 40 40 9 i0 (.string ⟨#[]⟩) 1 16 Tryz.underlying40 hi hz0 hz1 hz2 rfl v n _ hown ⟨g, 0, none⟩ 1 1 (strs [z]) rfl (fun j u hj => by
        cases j with
        | zero =>
          obtain rfl := Option.some.inj hj
          rw [addr_add']; exact hp
        | succ j => simp [strs] at hj) (strs_one [z]) (by unfold maxLen; omega) (by omega)
    have e1 : strs xs ++ strs [z] = strs (xs ++ [z]) := by simp [strs]
    have e2 : n + 1 = (xs ++ [z]).length := by have := hown.1.1; rw [strs_len] at this; rw [List.length_append]; simp; omega
    rw [e1, e2] at h2
    unfold Oper.wp execOp
    simp only [ho, hty, resolve, invoke, builtin, Sem.run_bind, Sem.run_pure, Result.andThen_ok, List.map_toArray, List.map_cons, List.map_nil, hs, hx, hr]
    exact hK _ _ (h _ _ _ h2 h3)
/-- A builder in order, beside all that lay in W0, and a slice of texts. -/
structure NsA (n : Nat) (W0 : World) (bp ap sp lp : Nat) (b : BS) (v : Value) (ns : List Ba) (wr : World) : Prop where
  ex : ∃ oB oS, BX n oB wr bp ap sp lp b ∧ SlO oS 1 wr 9 1 v ns.length (strs ns) ∧ Lbl oS wr ∧ (∀ k, oB k = 0 ∨ oS k = 0) ∧ Below W0.heap.size W0 wr ∧ (∀ k, k < W0.heap.size → oB k = 0) ∧ ∀ k, k < W0.heap.size → oS k = 0
section
variable {n m : Nat} {W0 wr w' : World} {bp ap sp lp : Nat} {b b' : BS} {v : Value} {ns : List Ba}
theorem NsA.la (h : NsA n W0 bp ap sp lp b v ns wr) : LA n W0 bp ap sp lp b wr := by
  obtain ⟨oB, oS, h1, _, _, _, h5, h6, _⟩ := h.ex
  exact ⟨oB, h1, h5, h6⟩
theorem NsA.of (h : LA n W0 bp ap sp lp b wr) : NsA n W0 bp ap sp lp b (.slice none 0 0) [] wr := by
  obtain ⟨oB, h1, h2, h3⟩ := h.ex
  exact ⟨oB, fun _ => 0, h1, SlO.nil _ _ _ _ _, fun _ _ => rfl, fun _ => Or.inr rfl, h2, h3, fun _ _ => rfl⟩
theorem NsA.below (h : NsA n W0 bp ap sp lp b v ns wr) (hb : Below wr.heap.size wr w') : NsA n W0 bp ap sp lp b v ns w' := by
  obtain ⟨oB, oS, h1, h2, h3, h4, h5, h6, h7⟩ := h.ex
  exact ⟨oB, oS, h1.below hb, h2.keep (Fr.of_below (c := fun _ => false) hb h3) rfl, h3.grow hb.size, h4, below_call h5 hb, h6, h7⟩
theorem NsA.bu {oB : Nat → Nat} {oS : Nat → Nat} {r : Value} {e : Ending} (h2 : SlO oS 1 wr 9 1 v ns.length (strs ns)) (h3 : Lbl oS wr) (h4 : ∀ k, oB k = 0 ∨ oS k = 0) (h5 : Below W0.heap.size W0 wr) (h6 : ∀ k, k < W0.heap.size → oB k = 0) (h7 : ∀ k, k < W0.heap.size → oS k = 0) (hr : RX m oB bp ap sp lp r b' wr e w') : e = .returned r ∧ NsA m W0 bp ap sp lp b' v ns w' := by
  obtain ⟨rfl, oB', H, F⟩ := hr
  obtain ⟨q1, q2⟩ := F.below0 h5 h6
  have hf := F.dual h4 h3
  exact ⟨rfl, oB', oS, H, h2.keep hf rfl, hf.lbl, F.disj h4 h3, q1, q2, h7⟩
theorem NsA.does {stp : BS → TokL → BS × Bool} {Inv : BS → Prop} {c : Nat} (ts : List TokL) (T : TypeId) (cp : Nat) (hE : E2 W0) (hD : Drv stp Inv c ts) (hlen : ts.length ≤ 1000) (hI : Inv b) (hn : n + 2 * c * ts.length ≤ 90000) (h : NsA n W0 bp ap sp lp b v ns wr) :
    Calls Tryz.prog 12 #[.pointer (some ⟨bp, 0, none⟩), .slice (some ⟨wr.heap.size, 0, none⟩) ts.length cp] (wr.alloc (.cells (ts.flatMap tkRow).toArray T)) fun e w' => e = .returned (.tuple #[]) ∧ NsA (n + 2 * c * ts.length) W0 bp ap sp lp (ts.foldl (doesT stp) b) v ns w' := by
  have hb : Below wr.heap.size wr (wr.alloc (.cells (ts.flatMap tkRow).toArray T)) := (Below.refl _ _).alloc (Nat.le_refl _) _
  obtain ⟨oB, oS, g1, g2, h3, h4, g5, h6, h7⟩ := h.ex
  have h1 := g1.below hb
  have h0 := g1.L _ (Nat.le_refl wr.heap.size)
  have h2 := g2.keep (Fr.of_below (c := fun _ => false) hb h3) rfl
  have h5 := below_call g5 hb
  replace h3 := h3.grow hb.size
  exact (does_any stp Inv c ts (toks_alloc wr ts T) h0 hlen (hD.step bp ap sp lp) hD.inv hD.stop hI hn (EnvT.of hE h5 h6) h1).mono fun _ _ hr => NsA.bu h2 h3 h4 h5 h6 h7 hr
theorem NsA.form (h : NsA n W0 bp ap sp lp b v ns wr) : ∃ a c, v = .slice a ns.length c ∧ ns.length ≤ c := by
  obtain ⟨_, _, _, h2, _⟩ := h.ex
  exact h2.1.form
theorem NsA.at (h : NsA n W0 bp ap sp lp b v ns wr) {j : Nat} {z : Ba} (hj : ns[j]? = some z) : ∃ g cap, v = .slice (some ⟨g, 0, none⟩) ns.length cap ∧ ns.length ≤ cap ∧ wr.cell? ⟨g, j, none⟩ = some (.string z) := by
  obtain ⟨_, _, _, h2, _⟩ := h.ex
  exact h2.1.cell (u := .string z) (by unfold strs; rw [List.getElem?_map, hj]; rfl)
theorem NsA.pop {a : Option Addr} {c : Nat} {r : List Ba} {z : Ba} (h : NsA n W0 bp ap sp lp b (.slice a (r ++ [z]).length c) (r ++ [z]) wr) : NsA n W0 bp ap sp lp b (.slice a r.length c) r wr := by
  obtain ⟨oB, oS, h1, h2, h3⟩ := h.ex
  refine ⟨oB, oS, h1, ⟨?_, fun g hg => h2.2 g (by cases a with | none => exact hg | some p => exact hg)⟩, h3⟩
  have := SlAt.take h2.1 (k := r.length) (by simp)
  rw [Nat.mul_one, show (strs (r ++ [z])).take r.length = strs r by unfold strs; rw [List.map_append, ← List.length_map (f := Value.string), List.take_left]] at this
  exact this
theorem NsA.mono (h : NsA n W0 bp ap sp lp b v ns wr) (hm : n ≤ m) (h2 : m ≤ 90000) : NsA m W0 bp ap sp lp b v ns wr := by
  obtain ⟨oB, oS, h1, h3⟩ := h.ex
  exact ⟨oB, oS, h1.mono hm h2, h3⟩
theorem opl_push {w : World} {ops : Array Oper} {rest : List Oper} {o : Oper} {a : Act} {Q : Exit → Act → World → Prop} (hE : E2 W0) (h : NsA n W0 bp ap sp lp b v ns w) (hgd : o.guard = none) (s x : Operand)
    (ho : o.op = .call { callee := .builtin .append, args := #[s, x], argTypes := #[40, 40] }) (hty : o.type = 40) (hs : a.eval s = v) (g : Nat) (z : Ba) (hx : a.eval x = .slice (some ⟨g, 0, none⟩) 1 1) (hp : w.cell? ⟨g, 0, none⟩ = some (.string z)) (hl : ns.length + 1 ≤ 1000000)
    (hk : ∀ v' w', NsA n W0 bp ap sp lp b v' (ns ++ [z]) w' → wpList Tryz.prog ops Q rest (a.put o.dst v') w') : wpList Tryz.prog ops Q (o :: rest) a w := by
  obtain ⟨oB, oS, h1, h2, h3, h4, h5, h6, h7⟩ := h.ex
  refine opl_append_str hgd s x ho hty h3 1 v ns.length ns hs h2 g z hx hp hl (fun v' w' own' q1 q2 => hk v' w' ?_)
  have hd2 : ∀ k, oS k = 0 ∨ oB k = 0 := fun k => (h4 k).symm
  have F := q2.mono (cBu_mono (Nat.le_refl 1))
  obtain ⟨e1, e2⟩ := F.below0 h5 h7
  exact ⟨oB, own', h1.other (F.dual hd2 h1.L) (hE.k.of_below e1), q1, F.lbl, fun k => (F.disj hd2 h1.L k).symm, e1, h6, e2⟩
end
end Go.Proofs.YtnbdalohlldnbaaGreatDoor

namespace Go.Proofs.YtnbdalohlldnbaaGreatDoor
open Go.RowKit Bd
attribute [local go_sem ↓] Go.wp_at_zero Go.wp_at_succ
/-- Where the law's loop stands. -/
structure NsR (n i : Nat) (W0 : World) (bp ap sp lp : Nat) (want : Ba) (v : Value) (wr : World) : Prop where
  ex : ∃ b op, NsA n W0 bp ap sp lp b v (op.map (·.2)) wr ∧ NI op want b ∧ op.length ≤ i ∧ want.size ≤ 5 + 20 * i
theorem rps_size : ∀ (j : Nat) (s : Ba), (rps j s).size = s.size + j
  | 0, _ => rfl
  | j + 1, s => by
    show (rps j (s ++ Bd.rp)).size = _
    rw [rps_size j, ByteArray.size_append, show Bd.rp.size = 1 from by decide +kernel]
    omega
theorem nm_size {nm : Ba} (h : nm ∈ namesN) : nm.size ≤ 10 := by
  have : ∀ x ∈ namesN, x.size ≤ 10 := by decide +kernel
  exact this nm h
set_option maxHeartbeats 4000000 in
set_option maxRecDepth 100000 in
theorem BodiesNested_any {w : World} (hE : E2 w) (v : Value) (l : List UInt8) (hl : SlB w v l) : Calls Tryz.prog 4 #[v] w fun e w' => e = .returned (.bool true) ∧ Below w.heap.size w w' := by
  obtain ⟨a, c, rfl, hll, hcell⟩ := hl
  obtain ⟨L, hL⟩ : ∃ L, L = l.length := ⟨_, rfl⟩
  rw [← hL] at hll ⊢
  have HL := Lib.hid hL
  have HC := Lib.hid hcell
  clear hL hcell
  by_cases h60 : 60 < L
  · have h60I : (60 : Int) < (L : Int) := by omega
    have cS := Lib.hid (stands_any hE)
    clear hE
    go_enter Tryz.func4, Tryz.ntmps4
    go_wp2_with fail
    refine cS.out.mono ?_
    rintro e w1 ⟨rfl, hb1⟩
    have HB := Lib.hid hb1
    clear hb1 cS
    go_wp2_with fail
    go_ret
    exact ⟨rfl, HB.out⟩
  · have h60I : ¬ (60 : Int) < (L : Int) := by omega
    obtain ⟨W1, hW1⟩ : ∃ W, W = w.alloc (.cells (namesN.map Value.string).toArray 9) := ⟨_, rfl⟩
    have hb1 : Below w.heap.size w W1 := by rw [hW1]; exact (Below.refl _ w).alloc (Nat.le_refl _) _
    have hN1 : NmsAt W1 w.heap.size namesN := by rw [hW1]; exact nms_alloc w namesN _
    have hE1 := hE.below hb1
    obtain ⟨g, hg⟩ : ∃ g, g = w.heap.size := ⟨_, rfl⟩
    rw [← hg] at hN1
    have HG := Lib.hid hg
    have HW1 : Hid (w.alloc (.cells #[.string ⟨#[100, 105, 118]⟩, .string ⟨#[115, 112, 97, 110]⟩, .string ⟨#[115, 101, 99, 116, 105, 111, 110]⟩, .string ⟨#[99, 105, 116, 101]⟩, .string ⟨#[117, 108]⟩, .string ⟨#[109, 97, 105, 110]⟩, .string ⟨#[120, 45, 121]⟩, .string ⟨#[98, 108, 111, 99, 107, 113, 117, 111, 116, 101]⟩] 9) = W1) := Lib.hid (by rw [hW1]; rfl)
    have HH := Lib.hid (⟨hb1, hN1, hE1⟩ : _ ∧ _ ∧ _)
    clear hW1 hg hE hb1 hN1 hE1
    go_enter Tryz.func4, Tryz.ntmps4
    go_upto_region 4 with fail
    rw [HW1.out, ← HG.out]
    have cO := Lib.hid (LA.opened HH.out.2.2)
    go_wp2_with fail
    refine cO.out.mono ?_
    rintro e w2 ⟨bp, ap, sp, lp, rp, rfl, A2⟩
    have HR0 : Hid (NsR (4 + 260 * 0) 0 W1 bp ap sp lp ⟨#[98, 111, 100, 121, 40]⟩ (.slice none 0 0) w2) := Lib.hid ⟨Bd.opened, [], NsA.of A2, by
      have h := ni_opened
      rw [show bodyS ++ Bd.lp = (⟨#[98, 111, 100, 121, 40]⟩ : ByteArray) from by decide +kernel] at h
      exact h, Nat.le_refl _, by decide⟩
    clear cO A2
    go_wp2_with fail
    go_loopw [6, 7, 8] (fun p q u wr => ∃ (S : ByteArray) (i : Nat), p = .string S ∧ u = .int .i64 i ∧ i ≤ L ∧ Hid (NsR (4 + 260 * i) i W1 bp ap sp lp S q wr)) (fun _ _ u _ => L - (intOf u).toNat)
    case atStart => exact ⟨_, 0, rfl, rfl, Nat.zero_le _, HR0⟩
    case round =>
      obtain ⟨S, i, rfl, rfl, hi, HR⟩ := hrel
      clear HR0
      by_cases hlt : i < L
      · have hltI : (i : Int) < (L : Int) := by omega
        have hi0 : (0 : Int) ≤ (i : Int) := by omega
        obtain ⟨x, hx⟩ : ∃ x, l[i]? = some x := ⟨_, List.getElem?_eq_getElem (by rw [← HL.out]; exact hlt)⟩
        obtain ⟨b, op, hA, hS, hop, hsz⟩ := HR.out.ex
        obtain ⟨Bx, off, rfl, hBx, hc1⟩ := HC.out i x hx
        have hbw := below_call HH.out.1 hA.la.base
        have hcr : wr.cell? ⟨Bx, off + i, none⟩ = some (.int .u8 x.toNat) := by rw [hbw.cell (p := ⟨Bx, off + i, none⟩) hBx]; exact hc1
        have hx255 := x.toNat_lt
        clear hx hc1 hBx hbw HR
        obtain ⟨n, hn⟩ : ∃ n, n = (op.map (·.2)).length := ⟨_, rfl⟩
        obtain ⟨qa, qc, rfl, hqc⟩ := hA.form
        rw [← hn] at hqc hA ⊢
        have hnop : n = op.length := by rw [hn, List.length_map]
        clear hn
        have hss : S.size ≤ 1300 := by omega
        by_cases hpop : 150 ≤ x.toNat ∧ op ≠ []
        · obtain ⟨hge, hne⟩ := hpop
          rcases List.eq_nil_or_concat op with e | ⟨r, o, e⟩
          · exact absurd e hne
          rw [List.concat_eq_append] at e
          subst e
          obtain ⟨g2, cap, e2, hcap, co⟩ := hA.at (j := r.length) (z := o.2) (by rw [List.map_append, List.getElem?_append_right (by rw [List.length_map]; exact Nat.le_refl _), List.length_map, Nat.sub_self]; rfl)
          injection e2 with e3 e4 e5
          subst e3
          obtain ⟨n1, hn1⟩ : ∃ n1, n1 = r.length := ⟨_, rfl⟩
          rw [← hn1] at co
          have hnn : n = n1 + 1 := by rw [hnop, hn1]; simp
          have hgeI : (150 : Int) ≤ (x.toNat : Int) := by omega
          have hn0I : (0 : Int) < (n : Int) := by omega
          have hn1I : (n : Int) - 1 = (n1 : Int) := by omega
          have h1nI : (n1 : Int) < (n : Int) := by omega
          have h10I : (0 : Int) ≤ (n1 : Int) := by omega
          have hn61 : n ≤ 61 := by omega
          have h1cN : n1 ≤ qc := by omega
          have h1cI : (n1 : Int) ≤ (qc : Int) := by omega
          have HA := Lib.hid (⟨hA, hS, hop, hsz, hn1, hnn⟩ : _ ∧ _ ∧ _ ∧ _ ∧ _ ∧ _)
          clear hA hS hop hsz hnop hn1 hnn hne hge e4 e5 hcap
          go_wp2_with fail
          refine (tend_any o.2 _).mono ?_
          rintro e w3 ⟨rfl, hb3⟩
          have A3 := HA.out.1.below hb3
          have hin : o.2 ∈ namesN := (HA.out.2.1.nm o (by simp)).1
          have hD : Drv stpN (fun b => b.mode = 6) 65 [endT o.2] := drvN (fun t ht => by rw [List.mem_singleton.1 ht]; exact .en _ hin)
          have cD := A3.does [endT o.2] 24 1 HH.out.2.2 hD (of_decide_eq_true rfl) HA.out.2.1.md (by show 4 + 260 * i + 130 ≤ 90000; omega)
          have e1 : ([endT o.2] : List TokL).foldl (doesT stpN) b = (stpN b (endT o.2)).1 := by
            show doesT stpN b (endT o.2) = _
            unfold doesT
            rw [(stpN_no b (endT o.2)).1]; rfl
          rw [e1] at cD
          have CD := Lib.hid cD
          have HS := Lib.hid (HA.out.2.1.close)
          clear A3 hin hD cD e1 hb3 co hcr
          go_wp2_with fail
          refine CD.out.mono ?_
          rintro e w4 ⟨rfl, A4⟩
          have HR4 : Hid (NsR (4 + 260 * (i + 1)) (i + 1) W1 bp ap sp lp (S ++ ⟨#[41]⟩) (.slice (some ⟨g2, 0, none⟩) n1 qc) w4) := by
            refine Lib.hid ⟨_, r, ?_, by have := HS.out; rw [show Bd.rp = (⟨#[41]⟩ : ByteArray) from by decide +kernel] at this; exact this, ?_, ?_⟩
            · have h := A4
              rw [List.map_append, show ([o] : List (Nat × Ba)).map (·.2) = [o.2] from rfl] at h
              rw [show n = (r.map (·.2) ++ [o.2]).length by rw [HA.out.2.2.2.2.2, HA.out.2.2.2.2.1]; simp] at h
              have h2 := h.pop
              rw [List.length_map, ← HA.out.2.2.2.2.1] at h2
              exact h2.mono (by show 4 + 260 * i + 130 ≤ _; omega) (by omega)
            · have := HA.out.2.2.1
              simp at this
              omega
            · have := HA.out.2.2.2.1
              rw [ByteArray.size_append]
              show S.size + 1 ≤ _
              omega
          clear CD A4 HS HA
          go_wp2_with fail
          go_roundw
          case rel => exact ⟨_, i + 1, rfl, by go_num, by omega, HR4⟩
          case measure => simp [intOf]; omega
        · obtain ⟨r, hr⟩ : ∃ r, r = x.toNat % 8 := ⟨_, rfl⟩
          have rT : Int.tmod (x.toNat : Int) 8 = (r : Int) := by rw [Int.tmod_eq_emod_of_nonneg (by omega)]; omega
          obtain ⟨nm, hnm, hin⟩ := pick_nm (l := namesN) (by decide) x.toNat (m := r) hr
          have cr := (HH.out.2.1.below hA.la.base) r nm hnm
          have hr8 : (r : Int) < 8 := by omega
          have hr0 : (0 : Int) ≤ (r : Int) := by omega
          have hnms := nm_size hin
          have hsn : (S ++ nm).size ≤ 1310 := by rw [ByteArray.size_append]; omega
          have hc : ¬ (150 : Int) ≤ (x.toNat : Int) ∨ ((150 : Int) ≤ (x.toNat : Int) ∧ ¬ (0 : Int) < (n : Int)) := by
            rcases Nat.lt_or_ge x.toNat 150 with h | h
            · exact Or.inl (by omega)
            · refine Or.inr ⟨by omega, ?_⟩
              have : op = [] := Decidable.byContradiction fun h2 => hpop ⟨h, h2⟩
              rw [hnop, this]
              simp
          have HA := Lib.hid (⟨hA, hS, hop, hsz, hin, hnop⟩ : _ ∧ _ ∧ _ ∧ _ ∧ _ ∧ _)
          clear hA hS hop hsz hr hnm hin hnop hpop
          rcases hc with hc | ⟨hc, hn0⟩
          all_goals (
            go_wp2_with fail
            refine (tstart_any nm _).mono ?_
            rintro e w3 ⟨rfl, hb3⟩
            have HA3 := Lib.hid (HA.out.1.below hb3)
            clear hb3 hcr cr
            go_wp2_with fail
            refine (tchars_any _ _).mono ?_
            rintro e w4 ⟨rfl, hb4⟩
            have A4 := HA3.out.below hb4
            have hD : Drv stpN (fun b => b.mode = 6) 65 [startT nm, charsT ⟨#[116]⟩] := drvN (fun t ht => by
              simp only [List.mem_cons, List.not_mem_nil, or_false] at ht
              rcases ht with rfl | rfl
              · exact .st _ HA.out.2.2.2.2.1
              · exact .ch)
            have cD := A4.does [startT nm, charsT ⟨#[116]⟩] 24 2 HH.out.2.2 hD (of_decide_eq_true rfl) HA.out.2.1.md (by show 4 + 260 * i + 260 ≤ 90000; omega)
            have e1 : ([startT nm, charsT ⟨#[116]⟩] : List TokL).foldl (doesT stpN) b = chB (stpN b (startT nm)).1 (charsT ⟨#[116]⟩) := by
              show doesT stpN (doesT stpN b (startT nm)) (charsT ⟨#[116]⟩) = _
              have e2 : doesT stpN b (startT nm) = (stpN b (startT nm)).1 := by
                unfold doesT
                rw [(stpN_no b (startT nm)).1]; rfl
              rw [e2]
              rfl
            rw [e1] at cD
            have CD := Lib.hid cD
            obtain ⟨i2, hS2⟩ := HA.out.2.1.open A4.la.okb HA.out.2.2.2.2.1 (by have := HA.out.2.2.1; omega)
            rw [show Bd.lp ++ (⟨#[116]⟩ : ByteArray) = (⟨#[40, 116]⟩ : ByteArray) from by decide +kernel] at hS2
            generalize chB (stpN b (startT nm)).1 (charsT ⟨#[116]⟩) = b6 at *
            have HS := Lib.hid hS2
            clear HA3 A4 hb4 hD cD e1 hS2
            go_wp2_with fail
            refine CD.out.mono ?_
            rintro e w6 ⟨rfl, A6⟩
            have hb7 : Below w6.heap.size w6 (w6.alloc (.cells #[.string nm] 9)) := (Below.refl _ w6).alloc (Nat.le_refl _) _
            have A7 := A6.below hb7
            have c7 := rowAt (heap_new w6 (.cells #[.string nm] 9)) 0 (.string nm) rfl
            have HA7 := Lib.hid (⟨A7, c7⟩ : _ ∧ _)
            have hl1 : (op.map (·.2)).length + 1 ≤ 1000000 := by have := HA.out.2.2.1; rw [List.length_map]; omega
            clear CD A6 hb7 A7 c7
            go_wp2_with (refine opl_push HH.out.2.2 HA7.out.1 rfl (.tmp 70) (.tmp 72) rfl rfl rfl w6.heap.size nm rfl HA7.out.2 hl1 ?_; intro v8 w8 h8; have HR8 : Hid (NsR (4 + 260 * (i + 1)) (i + 1) W1 bp ap sp lp ((S ++ nm) ++ ⟨#[40, 116]⟩) v8 w8) := Lib.hid ⟨b6, op ++ [(i2, nm)], by rw [List.map_append]; exact h8, HS.out, by have := HA.out.2.2.1; simp; omega, by have := HA.out.2.2.2.1; rw [ByteArray.size_append, ByteArray.size_append]; show S.size + nm.size + 2 ≤ _; omega⟩; clear h8)
            go_roundw
            case rel => exact ⟨_, i + 1, rfl, by go_num, by omega, HR8⟩
            case measure => simp [intOf]; omega)
      · have hltI : ¬ (i : Int) < (L : Int) := by omega
        obtain ⟨b, op, hA, hS, hop, hsz⟩ := HR.out.ex
        obtain ⟨n, hn⟩ : ∃ n, n = (op.map (·.2)).length := ⟨_, rfl⟩
        obtain ⟨qa, qc, rfl, hqc⟩ := hA.form
        rw [← hn] at hqc ⊢
        have hnop : n = op.length := by rw [hn, List.length_map]
        obtain ⟨hsh, hst⟩ := hS.final
        rw [← hnop] at hsh hst
        have hn60 : n ≤ 60 := by omega
        have hss : S.size ≤ 1300 := by omega
        have HA := Lib.hid (⟨hA.la, hsh, hst⟩ : _ ∧ _ ∧ _)
        clear hA hS hop hsz hn hnop HR hsh hst
        go_wp2_with fail
        go_loopw [6, 10] (fun p u wq => ∃ j : Nat, Hid (p = .string (rps j S)) ∧ u = .int .i64 j ∧ j ≤ n + 1 ∧ Hid (wq = wr)) (fun _ u _ => n + 1 - (intOf u).toNat)
        case atStart => exact ⟨0, Lib.hid rfl, rfl, Nat.zero_le _, Lib.hid rfl⟩
        case round =>
          obtain ⟨j, hp, rfl, hj, hw⟩ := hrel
          obtain rfl := hw.out
          clear hw
          obtain ⟨F, hF⟩ : ∃ F, F = rps j S := ⟨_, rfl⟩
          rw [← hF] at hp
          obtain rfl := hp.out
          have hFs : F.size ≤ 1400 := by rw [hF, rps_size]; omega
          by_cases hlt2 : j ≤ n
          · have hltJ : (j : Int) ≤ (n : Int) := by omega
            have hF1 : rps (j + 1) S = F ++ ⟨#[41]⟩ := by rw [rps_succ, ← hF, show Bd.rp = (⟨#[41]⟩ : ByteArray) from by decide +kernel]
            have HF1 := Lib.hid hF1
            clear hF hF1 hp
            go_wp2_with fail
            go_roundw
            case rel => exact ⟨j + 1, Lib.hid (by rw [HF1.out]), by go_num, by omega, Lib.hid (by trivial)⟩
            case measure => simp [intOf]; omega
          · have hltJ : ¬ (j : Int) ≤ (n : Int) := by omega
            obtain rfl : j = n + 1 := by omega
            have hsh := HA.out.2.1
            rw [← hF] at hsh
            have cA := Lib.hid HA.out.1.arena
            have cT := Lib.hid HA.out.1.tree
            have HS := Lib.hid hsh
            clear hF hp hsh
            go_wp2_with fail
            refine cA.out.mono ?_
            rintro e w3 ⟨rfl, rfl⟩
            go_wp2_with fail
            refine cT.out.mono ?_
            rintro e w4 ⟨tv, tl, rfl, htl, hT, hb4⟩
            have hA4 := HA.out.1.below hb4
            have cS := hA4.shape htl hT (by rw [HS.out]; omega)
            rw [HS.out] at cS
            have CS := Lib.hid cS
            have HA4 := Lib.hid hA4
            clear cA cT htl hT hb4 hA4 cS
            go_wp2_with fail
            refine CS.out.mono ?_
            rintro e w5 ⟨rfl, hb5⟩
            have A5 := HA4.out.below hb5
            have cK := Lib.hid A5.stack
            have cL := A5.slen
            rw [HA.out.2.2] at cL
            obtain ⟨n2, hn2⟩ : ∃ n2, n2 = 2 + n := ⟨_, rfl⟩
            have hn2I : (2 : Int) + (n : Int) = (n2 : Int) := by omega
            rw [← hn2] at cL
            have CL := Lib.hid cL
            have cT := Lib.hid (stands_any (HH.out.2.2.below A5.base))
            have HB := Lib.hid (below_call HH.out.1 A5.base)
            clear CS HA4 A5 hb5 cL hn2
            go_wp2_with fail
            refine cK.out.mono ?_
            rintro e w7 ⟨rfl, rfl⟩
            go_wp2_with fail
            refine CL.out.mono ?_
            rintro e w7 ⟨rfl, rfl⟩
            go_wp2_with fail
            refine cT.out.mono ?_
            rintro e w8 ⟨rfl, hb8⟩
            have HF := Lib.hid (below_call HB.out hb8)
            clear cK CL cT hb8
            go_wp2_with fail
            go_ret
            exact ⟨rfl, HF.out⟩
theorem bodiesNested_any (v : Value) (l : List UInt8) (w : World) (hl : SlB w v l) (hE : E2 w) : Calls Tryz.prog 4 #[v] w (RBool true w) := BodiesNested_any hE v l hl
end Go.Proofs.YtnbdalohlldnbaaGreatDoor

set_option maxRecDepth 100000
namespace Go.Proofs.YtnbdalohlldnbaaGreatDoor
open Go.ChangeShapes Go.WideShapes Go.ChangeAt Go.RowKit
theorem laid_reads {l : List (String × DataW Unit)} {W : World} (h : laidMetH Tryz.prog l W) {n : String} {d : DataW Unit} (hm : (n, d) ∈ l) (hn : d.handleName?.isNone = true) : Lib.VarReads Tryz.prog W n d :=
  Lib.laidMet.reads (laidMetH_iff.1 h).1 (List.mem_filter.2 ⟨hm, hn⟩)
theorem tab_of_reads {W : World} {name : String} {k : IntKind} {zs : List Int} {g : Nat} {t e : TypeId} {n : Nat}
    (hg : Tryz.prog.globalNamed name = some g) (hty : (Tryz.prog.globals[g]?).map (·.type) = some t) (ht : Tryz.prog.underlying t = some (.array n e)) (he : Tryz.prog.underlying e = some (.int k)) (hce : Tryz.prog.cellsOf e = 1) (hct : Tryz.prog.cellsOf t = n)
    (h : Lib.VarReads Tryz.prog W name (Lib.tabData k zs)) : Lib.TabIs Tryz.prog W name k zs := by
  obtain ⟨g', t', cs, fuel, p, hg', ht', hvar, hd⟩ := h
  obtain rfl := Option.some.inj (hg.symm.trans hg')
  obtain rfl := Option.some.inj (hty.symm.trans ht')
  unfold Lib.TabIs
  rw [hvar, ← Lib.cells_of_tab ht he hce hct hd]
theorem gSp : Tryz.prog.globalNamed "strings.asciiSpace" = some 1 := by kernel_rfl
theorem gSc : Tryz.prog.globalNamed "lazaret/kinds.scopes" = some 4 := by kernel_rfl
theorem cellsS1 : Tryz.prog.cellsOf 9 = 1 := by kernel_rfl
theorem cellsB1 : Tryz.prog.cellsOf 4 = 1 := by kernel_rfl
theorem cellsI1 : Tryz.prog.cellsOf 3 = 1 := by kernel_rfl
theorem cellsA1 : Tryz.prog.cellsOf 22 = 1 := by kernel_rfl
theorem sc_of_laid {W : World} (h : Lib.VarReads Tryz.prog W "lazaret/kinds.scopes" Rows.laid_lazaret_kinds_scopes) : ∀ j : Nat, j < 4 → W.cell? ⟨4, j, none⟩ = some (.string (Bd.scopesL.getD j Bd.em)) := by
  obtain ⟨g', t', cs, fuel, p, hg', ht', hvar, hd⟩ := h
  obtain rfl := Option.some.inj (gSc.symm.trans hg')
  obtain rfl := Option.some.inj ((show (Tryz.prog.globals[4]?).map (·.type) = some 192 by kernel_rfl).symm.trans ht')
  obtain ⟨xs, m, _, hx, _, hxl, hcell⟩ := DataW.trod_array Tryz.underlying192 hd
  have e : (Rows.laid_lazaret_kinds_scopes : DataW Unit) = .agg (Bd.scopesL.map fun l => .lit (.string l.data.toList)) := by kernel_rfl
  have hm := congrArg Prod.fst hx
  rw [e] at hm
  dsimp only at hm
  injection hm with hm
  intro i hi
  have h1 := hcell i hi
  rw [cellsS1, Nat.mul_one, List.getElem?_eq_getElem (by rw [hxl]; exact hi)] at h1
  obtain ⟨s, hs, hy, _⟩ := DataW.trod_string (Tryz.underlying9) h1
  have hy1 : (xs[i]'(by rw [hxl]; exact hi)).1 = .lit (.string s.data.toList) := by rw [hy]
  have hl : i < Bd.scopesL.length := hi
  have h2 : (xs.map (·.1))[i]? = (Bd.scopesL.map fun l => (.lit (.string l.data.toList) : DataW Unit))[i]? := by rw [hm]
  rw [List.getElem?_map, List.getElem?_map, List.getElem?_eq_getElem (by rw [hxl]; exact hi), List.getElem?_eq_getElem hl, Option.map_some, Option.map_some, hy1] at h2
  have h3 : s = Bd.scopesL[i] := by
    have := Option.some.inj h2
    injection this with this
    injection this with this
    exact ByteArray.ext (Array.toList_inj.1 this)
  have h4 := congrArg (fun l : List Value => l[0]?) hs
  simp only [List.getElem?_take, List.getElem?_drop, Nat.add_zero] at h4
  rw [World.var?_cell gSc hvar i, ← Array.getElem?_toList, List.getD_eq_getElem?_getD, List.getElem?_eq_getElem hl, Option.getD_some, ← h3]
  simpa using h4
theorem e2_of_laid {l : List (String × DataW Unit)} {W : World} (h : laidMetH Tryz.prog l W) (hsh : W.ShapedOpen Tryz.prog) (m1 : ("strings.asciiSpace", Rows.laid_strings_asciiSpace) ∈ l) (m2 : ("lazaret/kinds.scopes", Rows.laid_lazaret_kinds_scopes) ∈ l) : E2 W :=
  ⟨⟨cell_of_shapedOpen_int (zero := #[.int .i64 0]) (t := 3) hsh (of_decide_eq_true (by kernel_rfl)) (by kernel_rfl) rfl (by kernel_rfl) (by kernel_rfl) (Tryz.underlying3), sc_of_laid (laid_reads h m2 rfl)⟩,
    tab_of_reads gSp (t := 140) (by kernel_rfl) (Tryz.underlying140) (Tryz.underlying5) (by kernel_rfl) (by kernel_rfl) (laid_reads h m1 rfl)⟩
section
variable {H : Type} {enc : TypeId × Value → H} {W : World} {base : Nat} {sp : Nat → Bool} {hd : Bool} {v : Value} {fuel : Nat} {x : Option (DataW H × List MemPlace)}
theorem bcell_str (h : DataW.trod enc Tryz.prog W base sp hd fuel 9 [v] = x) (hx : x.isSome = true) : ∃ s : ByteArray, v = .string s := by
  obtain ⟨y, rfl⟩ := Option.isSome_iff_exists.1 hx
  obtain ⟨s, h1, _⟩ := DataW.trod_string Tryz.underlying9 h
  exact ⟨s, List.singleton_inj.1 h1⟩
theorem bcell_bool (h : DataW.trod enc Tryz.prog W base sp hd fuel 4 [v] = x) (hx : x.isSome = true) : ∃ b : Bool, v = .bool b := by
  obtain ⟨y, rfl⟩ := Option.isSome_iff_exists.1 hx
  obtain ⟨b, h1, _⟩ := DataW.trod_bool Tryz.underlying4 h
  exact ⟨b, List.singleton_inj.1 h1⟩
theorem bcell_int (h : DataW.trod enc Tryz.prog W base sp hd fuel 3 [v] = x) (hx : x.isSome = true) : ∃ n : Int, v = .int .i64 n := by
  obtain ⟨y, rfl⟩ := Option.isSome_iff_exists.1 hx
  obtain ⟨n, h1, _⟩ := DataW.trod_int Tryz.underlying3 h
  exact ⟨n, List.singleton_inj.1 h1⟩
theorem bcell_attrs (h : DataW.trod enc Tryz.prog W base sp hd fuel 22 [v] = x) (hx : x.isSome = true) : ∃ a n c, v = .slice a n c := by
  obtain ⟨y, rfl⟩ := Option.isSome_iff_exists.1 hx
  rcases DataW.trod_slice Tryz.underlying22 h with ⟨h1, _⟩ | ⟨a, len, cap, _, _, _, _, h1, _⟩
  · exact ⟨_, _, _, List.singleton_inj.1 h1⟩
  · exact ⟨_, _, _, List.singleton_inj.1 h1⟩
theorem bcell_at {f : Field} {cs : List Value} {t : TypeId} {y : Option (DataW H × List MemPlace)} (h : DataW.trod enc Tryz.prog W base sp hd fuel f.type ((cs.drop f.offset).take (Tryz.prog.cellsOf f.type)) = y) (ht : f.type = t) (hc : Tryz.prog.cellsOf t = 1) {c : Value} {r : List Value} (hd' : cs.drop f.offset = c :: r) : DataW.trod enc Tryz.prog W base sp hd fuel t [c] = y := by
  subst ht
  rw [hc, hd'] at h
  exact h
theorem len9 {α : Type} {l : List α} (h : l.length = 9) : ∃ a b c d e f g i j, l = [a, b, c, d, e, f, g, i, j] := by
  match l, h with
  | [a, b, c, d, e, f, g, i, j], _ => exact ⟨a, b, c, d, e, f, g, i, j, rfl⟩
theorem cellsTok : Tryz.prog.cellsOf 24 = 9 := by kernel_rfl
set_option maxRecDepth 100000 in
/-- A token that came in. -/
theorem tok_of {d : DataW H} {ps : List MemPlace} {r : Reach} {b0 : Nat} (hv : Value.okWide Tryz.prog W r b0 24 v) (h : DataW.Trod enc Tryz.prog W base sp hd 24 v d ps) :
    ∃ (kd fr tt : Int) (nm tx0 : ByteArray) (a : Option Addr) (n c : Nat) (dp se qu : Bool), v = .agg #[.int .i64 kd, .string nm, .string tx0, .slice a n c, .bool dp, .bool se, .bool qu, .int .i64 fr, .int .i64 tt] := by
  simp only [Value.okWide, Tryz.underlying24] at hv
  obtain ⟨⟨cs⟩, rfl, hsz, _⟩ := hv
  rw [cellsTok] at hsz
  obtain ⟨fuel, hf⟩ := h
  obtain ⟨a, b, c, e, f, g, i, j, k, rfl⟩ := len9 hsz
  obtain ⟨xs, n, _, _, _, hlen, hx⟩ := DataW.trod_struct Tryz.underlying24 (show DataW.trod enc Tryz.prog W base sp hd fuel 24 [a, b, c, e, f, g, i, j, k] = some (d, ps) from hf)
  have hsome : ∀ i, i < 9 → xs[i]?.isSome = true := fun i hi => by rw [List.getElem?_eq_getElem (by rw [hlen]; exact hi)]; rfl
  obtain ⟨kd, rfl⟩ := bcell_int (bcell_at (hx 0 _ rfl) rfl cellsI1 rfl) (hsome 0 (by omega))
  obtain ⟨nm, rfl⟩ := bcell_str (bcell_at (hx 1 _ rfl) rfl cellsS1 rfl) (hsome 1 (by omega))
  obtain ⟨tx0, rfl⟩ := bcell_str (bcell_at (hx 2 _ rfl) rfl cellsS1 rfl) (hsome 2 (by omega))
  obtain ⟨a0, n0, c0, rfl⟩ := bcell_attrs (bcell_at (hx 3 _ rfl) rfl cellsA1 rfl) (hsome 3 (by omega))
  obtain ⟨dp, rfl⟩ := bcell_bool (bcell_at (hx 4 _ rfl) rfl cellsB1 rfl) (hsome 4 (by omega))
  obtain ⟨se, rfl⟩ := bcell_bool (bcell_at (hx 5 _ rfl) rfl cellsB1 rfl) (hsome 5 (by omega))
  obtain ⟨qu, rfl⟩ := bcell_bool (bcell_at (hx 6 _ rfl) rfl cellsB1 rfl) (hsome 6 (by omega))
  obtain ⟨fr, rfl⟩ := bcell_int (bcell_at (hx 7 _ rfl) rfl cellsI1 rfl) (hsome 7 (by omega))
  obtain ⟨tt, rfl⟩ := bcell_int (bcell_at (hx 8 _ rfl) rfl cellsI1 rfl) (hsome 8 (by omega))
  exact ⟨kd, fr, tt, nm, tx0, a0, n0, c0, dp, se, qu, rfl⟩
end
end Go.Proofs.YtnbdalohlldnbaaGreatDoor

set_option maxRecDepth 100000
namespace Go.Proofs.YtnbdalohlldnbaaGreatDoor
open Go.ChangeShapes Go.WideShapes Go.ChangeAt Go.RowKit
theorem laidOut : laidOutB Tryz.prog = true := by kernel_rfl
/-- The arguments read behind the call as they did. -/
theorem trodAll_below {H : Type} {enc : TypeId × Value → H} {W W' : World} (hb : Below W.heap.size W W') : ∀ {ts : List TypeId} {vs : List Value} {ds : List (DataW H)} {ps : List MemPlace},
    (∀ t ∈ ts, Tryz.prog.readableRec t = true ∧ t < Tryz.prog.types.size) → DataW.TrodAll enc Tryz.prog W 0 (fun _ => true) true ts vs ds ps → (∀ x ∈ ps, x.block < W.heap.size) →
    DataW.TrodAll enc Tryz.prog W' 0 (fun b => decide (b < W.heap.size)) true ts vs ds ps
  | [], [], [], _, _, h, _ => h
  | t :: ts, v :: vs, d :: ds, ps, ht, ⟨p, q, h1, h2, e⟩, hlt =>
    ⟨p, q, Below.trod laidOut (ht t (by simp)).1 (ht t (by simp)).2 h1 hb (fun x hx => hlt x (by rw [e]; exact List.mem_append_left _ hx)),
      trodAll_below hb (fun t' h' => ht t' (by simp [h'])) h2 (fun x hx => hlt x (by rw [e]; exact List.mem_append_right _ hx)), e⟩
  | [], _ :: _, _, _, _, h, _ => by simp [DataW.TrodAll] at h
  | [], [], _ :: _, _, _, h, _ => by simp [DataW.TrodAll] at h
  | _ :: _, [], _, _, _, h, _ => by simp [DataW.TrodAll] at h
  | _ :: _, _ :: _, [], _, _, h, _ => by simp [DataW.TrodAll] at h

theorem ownU : ownKnob Tryz.prog.godebug = none := by kernel_rfl
theorem e2_row {W : World} (h : laidMetH Tryz.prog Rows.bodiesNoneRow.laid W) (hsh : W.ShapedOpen Tryz.prog) : E2 W := e2_of_laid h hsh (.tail _ (.head _)) (.tail _ (.tail _ (.head _)))
/-- The witness starts where the door's own run ends. -/
noncomputable def startU (os : Os) : World := World.doorLaid Tryz.prog 200 os
theorem metU (os : Os) (args : Array Value) : laidMetH Tryz.prog Rows.bodiesNoneRow.laid ((startU os).forCall (fun _ _ => 0) ⟨#[], args, []⟩).memory :=
  laidMetH_of_parts3 (fuel := 8) (laidMet_of_run3 8 (by kernel_rfl) (by kernel_rfl) (by kernel_rfl)) (by kernel_rfl) (by kernel_rfl)
/-! What every row asks of the program, fact by fact: together they outgrow the kernel's memory. -/
theorem andI {a b : Bool} (h1 : a = true) (h2 : b = true) : (a && b) = true := by rw [h1, h2]; rfl
theorem mayU : Tryz.prog.mayEnter = true := by kernel_rfl
theorem liftU : (Rows.bodiesNoneRow.lifted == Tryz.prog.liftsFinal) = true := by kernel_rfl
theorem makeU : (Tryz.prog.make == some Rows.bodiesNoneRow.make) = true := by kernel_rfl
theorem mapsU : mapsRowed Tryz.prog = true := by kernel_rfl
theorem keysU : (Rows.bodiesNoneRow.plainKeys == Tryz.prog.plainKeys) = true := by kernel_rfl
theorem heardU : Tryz.prog.stopsHeard = true := by kernel_rfl
/-- A token that came in, by its parts. -/
structure TokI where
  kd : Int
  fr : Int
  tt : Int
  nm : ByteArray
  tx : ByteArray
  a : Option Addr
  n : Nat
  c : Nat
  dp : Bool
  se : Bool
  qu : Bool
def TokI.val (x : TokI) : Value := .agg #[.int .i64 x.kd, .string x.nm, .string x.tx, .slice x.a x.n x.c, .bool x.dp, .bool x.se, .bool x.qu, .int .i64 x.fr, .int .i64 x.tt]
theorem tokI_of {H : Type} {enc : TypeId × Value → H} {W : World} {base : Nat} {sp : Nat → Bool} {hd : Bool} {v : Value} {d : DataW H} {ps : List MemPlace} {r : Reach} {b0 : Nat} (hv : Value.okWide Tryz.prog W r b0 24 v) (h : DataW.Trod enc Tryz.prog W base sp hd 24 v d ps) : ∃ x : TokI, v = x.val := by
  obtain ⟨kd, fr, tt, nm, tx0, a, n, c, dp, se, qu, rfl⟩ := tok_of hv h
  exact ⟨⟨kd, fr, tt, nm, tx0, a, n, c, dp, se, qu⟩, rfl⟩
theorem bodiesNone_any (x : TokI) (w : World) (hE : E2 w) : Calls Tryz.prog 3 #[x.val] w (RBool true w) := BodiesNone_any hE x.kd x.fr x.tt x.nm x.tx x.a x.n x.c x.dp x.se x.qu
end Go.Proofs.YtnbdalohlldnbaaGreatDoor

namespace Go.Proofs.YtnbdalohlldnbaaGreatDoor
open Go.ChangeShapes Go.WideShapes Go.ChangeAt Go.RowKit
theorem cellsU8 : Tryz.prog.cellsOf 5 = 1 := by kernel_rfl
/-- A byte that came in. -/
theorem byte_of_wf {n : Int} (h : (Lit.int .u8 n).wf = true) : 0 ≤ n ∧ n ≤ 255 := by
  simp only [Lit.wf, Bool.and_eq_true, decide_eq_true_eq] at h
  have h0 : IntKind.u8.min = 0 := by decide
  have h1 : IntKind.u8.max = 255 := by decide
  rw [h0, h1] at h
  exact h

set_option maxRecDepth 100000 in
/-- A slice of bytes that came in, as its cell. -/
theorem slB_cell {H : Type} {enc : TypeId × Value → H} {W : World} {base : Nat} {sp : Nat → Bool} {hd : Bool} {v : Value} {x : DataW H × List MemPlace} {fuel : Nat}
    (hf : DataW.trod enc Tryz.prog W base sp hd fuel 39 [v] = some x) : ∃ l, SlB W v l := by
  rcases open_ints Tryz.underlying39 Tryz.underlying5 cellsU8 hf with ⟨hcs, hx⟩ | ⟨a, len', cap', zs, hcs, _, hl, hm, hz, hx, hcell, hwz⟩
  · obtain rfl := List.singleton_inj.1 hcs
    exact ⟨[], none, 0, rfl, by simp, fun j b hj => by simp at hj⟩
  · obtain rfl := List.singleton_inj.1 hcs
    have hzl : len' ≤ zs.length := by rw [hz]; split <;> omega
    have hm' : cap' ≤ 9223372036854775807 := hm
    have hlen : ((zs.take len').map (fun z => UInt8.ofNat z.toNat)).length = len' := by simp; omega
    refine ⟨(zs.take len').map (fun z => UInt8.ofNat z.toNat), some a, cap', by rw [hlen], by rw [hlen]; omega, fun j b hj => ?_⟩
    have hjl : j < len' := by
      have := (List.getElem?_eq_some_iff.1 hj).1
      rw [hlen] at this; exact this
    obtain ⟨B, off, rfl, hc⟩ := ints_at hcell (by omega)
    have h1 := hc j (by omega)
    refine ⟨B, off, rfl, World.block_lt_of_cell? _ _ h1, ?_⟩
    rw [h1]
    have hzj : zs[j]? = some (zs.getD j 0) := by
      rw [List.getD_eq_getElem?_getD, List.getElem?_eq_getElem (by omega)]; rfl
    have hb : b = UInt8.ofNat (zs.getD j 0).toNat := by
      rw [List.getElem?_map, List.getElem?_take, if_pos hjl, hzj] at hj
      exact (Option.some.inj hj).symm
    obtain ⟨w0, w1⟩ := byte_of_wf (hwz _ (List.mem_of_getElem? hzj))
    rw [hb, UInt8.toNat_ofNat']
    congr 2
    omega
set_option maxRecDepth 100000 in
/-- A slice of bytes that came in. -/
theorem slB_of {H : Type} {enc : TypeId × Value → H} {W : World} {base : Nat} {sp : Nat → Bool} {hd : Bool} {v : Value} {d : DataW H} {ps : List MemPlace} {r : Reach} {b0 : Nat}
    (hv : Value.okWide Tryz.prog W r b0 39 v) (h : DataW.Trod enc Tryz.prog W base sp hd 39 v d ps) : ∃ l, SlB W v l := by
  obtain ⟨a0, len, cap, rfl⟩ := okWide_slice Tryz.underlying39 hv
  obtain ⟨fuel, hf⟩ := h
  exact slB_cell hf
theorem nat_of_wf' {k : IntKind} {n : Int} (h : (Lit.int k n).wf = true) (hm : k.min = 0) : ∃ m : Nat, n = (m : Int) ∧ (m : Int) ≤ k.max := by
  simp only [Lit.wf, Bool.and_eq_true, decide_eq_true_eq] at h
  rw [hm] at h
  exact ⟨n.toNat, by omega, by omega⟩
theorem nat8_of_wf' {n : Int} (h : (Lit.int .u8 n).wf = true) : ∃ m : Nat, n = (m : Int) ∧ m < 256 := by
  obtain ⟨m, rfl, h1⟩ := nat_of_wf' h (by decide)
  rw [show IntKind.u8.max = 255 by decide] at h1
  exact ⟨m, rfl, by omega⟩
end Go.Proofs.YtnbdalohlldnbaaGreatDoor

namespace Go.Proofs.YtnbdalohlldnbaaGreatDoor.bodiesNested
open Go.ChangeShapes Go.WideShapes Go.ChangeAt Go.RowKit Go.Proofs.YtnbdalohlldnbaaGreatDoor

theorem walk (v0 : Value) (l0 : List UInt8) (w : World) (i0 : SlB w v0 l0) (hE : E2 w) : Calls Tryz.prog 4 #[v0] w (RBool true w) := bodiesNested_any v0 l0 w i0 hE

theorem env {W : World} (h : laidMetH Tryz.prog Rows.bodiesNoneRow.laid W) (hsh : W.ShapedOpen Tryz.prog) : E2 W := e2_row h hsh

set_option maxRecDepth 100000 in
/-- WHAT THE WALK GIVES, FOR EVERY ARGUMENT AND EVERY WORLD THAT HOLDS WHAT THE ROW LISTS. -/
theorem contract (H : Type) (enc : TypeId × Value → H) (W : World) (base : Nat) (args : Array Value) (ds gs : List (DataW H)) (before : List MemPlace)
    (hval : ∀ (j : Nat) t v, Tryz.f4.params[j]? = some t → args[j]? = some v → Value.okWide Tryz.prog W .any base t v)
    (hW : DataW.Whole enc Tryz.prog Tryz.f4.params.toList Rows.bodiesNestedSpec.vars false W args.toList ds gs before) (hL : laidMetH Tryz.prog Rows.bodiesNestedRow.laid W) (hsh : W.ShapedOpen Tryz.prog) :
    Calls Tryz.prog 4 args W fun e W' => ∃ v, e = .returned v ∧ Rows.bodiesNestedSpec.post enc Tryz.prog Tryz.f4 false true false false W args v W' := by
  have hW' := hW
  obtain ⟨p, q, hA0, hV, rfl, hfz, hnd⟩ := hW
  have hA : DataW.TrodAll enc Tryz.prog W 0 (fun _ => true) true Tryz.f4.params.toList args.toList ds p := hA0
  rw [Tryz.params4] at hA hval
  have hAk := hA
  have hlt : ∀ x ∈ p, x.block < W.heap.size := fun x hx => hW'.lt x (List.mem_append_left _ hx)
  obtain ⟨v0, d0, rfl, rfl, h0⟩ := trodAll_one hA
  obtain ⟨rfl, rfl⟩ := trodVars_none hV
  obtain ⟨l0, i0⟩ := slB_of (hval 0 39 v0 rfl rfl) h0
  clear hA0
  refine (walk v0 l0 W i0 (env hL hsh)).mono fun e W' hr => ?_
  obtain ⟨he, hb⟩ : e = .returned (.bool true) ∧ Below W.heap.size W W' := hr
  subst he
  refine ⟨_, rfl, _, _, _, [], p, [], hW', ?_, ?_, ?_, hb.frame _, ?_⟩
  · exact trodAll_mk1 (shut_bool Tryz.underlying4 true)
  · exact trodAll_below hb (by decide +kernel) hAk hlt
  · rfl
  · exact fun h => by cases h

theorem met (os : Os) (args : Array Value) : laidMetH Tryz.prog Rows.bodiesNestedRow.laid ((startU os).forCall (fun _ _ => 0) ⟨#[], args, []⟩).memory := metU os args
theorem reads (os : Os) {H : Type} (enc : TypeId × Value → H) : ∃ places, DataW.whole enc Tryz.prog ((startU os).forCall (fun _ _ => 0) ⟨#[], #[.slice none 0 0], []⟩).memory Tryz.f4.params.toList Rows.bodiesNestedSpec.vars false #[Value.slice none 0 0].toList 8 = some ([.nil], [], places) :=
  ⟨[], by kernel_rfl⟩

set_option maxRecDepth 100000 in
theorem lifted (os : Os) (started : os.Started) (H : Type) (enc : TypeId × Value → H) (F : Stop.Interp) :
    ReturnsInHanded {} Tryz.checked os 4 .any ((OpenSpec.ofChange Rows.bodiesNestedSpec).preRow enc Tryz.prog Tryz.f4 Rows.bodiesNestedRow.domain false Rows.bodiesNestedRow.laid) (((OpenSpec.ofChange Rows.bodiesNestedSpec).at F).post enc Tryz.prog Tryz.f4 false true false false) := by
  obtain ⟨places, hx⟩ := reads os enc
  refine returnsInHanded_of_row (C := Tryz.checked) (s := OpenSpec.ofChange Rows.bodiesNestedSpec) ownU started (by kernel_rfl) Tryz.func4
    (witness_row_atRef (enc := enc) (C := Tryz.checked) false (startU os) #[.slice none 0 0] rfl (by kernel_rfl) (by kernel_rfl) (by kernel_rfl)
      (OpenSpec.preRow_of_cond 8 hx (by kernel_rfl) (fun k hk => by cases hk) (by kernel_rfl) (met os _))) ?_
  intro W base args ds gs before hval hW _ _ _ hL hsh _
  exact contract H enc W base args ds gs before hval hW hL hsh

theorem c1 : Rows.bodiesNestedRow.wf (OpenSpec.ofChange Rows.bodiesNestedSpec) = true := by kernel_rfl
theorem c2 : namedTie Tryz.prog Rows.bodiesNestedRow.named Rows.bodiesNestedSpec.vars = true := by kernel_rfl
theorem c3 : (Rows.bodiesNestedRow.inPlace == Tryz.prog.inPlace 4) = true := by kernel_rfl
theorem c4 : (Rows.bodiesNestedRow.unfollowed == Tryz.prog.unfollowed 4) = true := by kernel_rfl
theorem c5 : (Rows.bodiesNestedRow.recurses == Tryz.prog.recurses 4) = true := by kernel_rfl
theorem c6 : (Rows.bodiesNestedRow.named == Tryz.prog.varsNamed 4) = true := by kernel_rfl
theorem c7 : (Rows.bodiesNestedRow.lifted == Tryz.prog.liftsFinal) = true := liftU
theorem c8 : (Tryz.prog.make == some Rows.bodiesNestedRow.make) = true := makeU
theorem c9 : (Rows.bodiesNestedRow.plainKeys == Tryz.prog.plainKeys) = true := keysU
theorem closed : joinedFacts Tryz.prog 4 Tryz.f4 Rows.bodiesNestedSpec Rows.bodiesNestedRow = true := by
  unfold joinedFacts
  repeat' (with_reducible refine andI ?_ ?_)
  all_goals first
    | with_reducible exact c1 | with_reducible exact laidOut | with_reducible exact mapsU | with_reducible exact c2 | with_reducible exact c3 | with_reducible exact c4 | with_reducible exact c5 | with_reducible exact c6
    | with_reducible exact c9 | with_reducible exact heardU | with_reducible exact mayU | with_reducible exact c7 | with_reducible exact c8
    | kernel_rfl
set_option maxRecDepth 100000 in
theorem said : Rows.BodiesNestedSaid :=
  OpenClaim.holds_of_cond 4 Tryz.f4 rfl rfl rfl rfl rfl rfl rfl ⟨rfl, rfl, rfl, rfl, rfl⟩ rfl rfl rfl rfl rfl (by kernel_rfl) Tryz.func4 closed
    (of_decide_eq_true (by kernel_rfl)) (by unfold Func.isWrapper; first | (rw [if_pos (by decide +kernel)]; kernel_rfl) | (rw [if_neg (by decide +kernel)]; exact ⟨rfl, rfl⟩))
    (fun os started H enc _ F => by rw [OpenClaim.pre_eq_preRow]; exact lifted os started H enc F)

theorem plain (f : FuncId) (fn : Func) (hf : Tryz.pinned.checked.prog.funcNamed "lazaret/lazaretlaw20.BodiesNested" = some f) (hfn : Tryz.pinned.checked.prog.funcs[f]? = some fn) :
    false = Tryz.pinned.checked.prog.looks [] ∧ ∀ (j : Nat) t, fn.params[j]? = some t → Tryz.pinned.checked.prog.wantsStandIn t = false := by
  obtain rfl : f = 4 := Option.some.inj ((show Tryz.prog.funcNamed "lazaret/lazaretlaw20.BodiesNested" = some 4 by kernel_rfl).symm.trans hf) |>.symm
  obtain rfl : fn = Tryz.f4 := (Option.some.inj (Tryz.func4.symm.trans hfn)).symm
  refine ⟨by kernel_rfl, fun j t ht => ?_⟩
  rw [Tryz.params4] at ht
  have hall : ∀ t ∈ (#[39] : Array TypeId), Tryz.prog.wantsStandIn t = false := by decide +kernel
  exact hall t (Array.mem_of_getElem? ht)

theorem card : Rows.BodiesNestedCardSaid :=
  Claim7.holds_tied_plain_at .later [] _ _ _ _ said (fun _ h => by cases h) (by kernel_rfl) (fun _ h => by cases h) bodiesNested_row_tie rfl ⟨rfl, rfl⟩ (by kernel_rfl) rfl plain (by kernel_rfl)
end Go.Proofs.YtnbdalohlldnbaaGreatDoor.bodiesNested
