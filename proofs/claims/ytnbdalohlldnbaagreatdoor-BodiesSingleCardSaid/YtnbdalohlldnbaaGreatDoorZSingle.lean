/-
  Plain laws: a new node put behind all in another one, in one go; what an act of the builder is then. No condition.
  Plain laws: an element that has no end (the law BodiesSingle). No condition.
  Rules of package bodies for elements that have no end; what Step does with the tokens of BodiesSingle. Printed by wip/mkbi.py.
  What the walks of the laws of lazaretlaw20 share: a builder beside what lay ahead of it; does; names picked out of a list.
  The law BodiesSingle.
  From the rows of lazaretlaw20 to what the walks ask: the scopes, the table of blanks; a token that came in.
  What the rows of lazaretlaw20 share: what is laid, and a world that a witness starts in.
  What the rows of lazaretlaw20 open: numbers of eight bits, slices of bytes.
  The statement and the card of lazaretlaw20.BodiesSingle: whatever comes in, the law returns true, and what came in reads as it did.
-/
import Derived.Test.YtnbdalohlldnbaaGreatDoorM08
import Derived.Test.YtnbdalohlldnbaaGreatDoorM18
import Derived.Test.YtnbdalohlldnbaaGreatDoorRows
import Derived.ProofKit
import Derived.OpenShut
import Derived.Deep.DeepHandedRow
import Derived.Deep.DeepWitnessRowRef
import Derived.Lib.LaidTab
import Derived.Lib.LaidU8
import Derived.LaidMore
import Derived.LaidSub
import Derived.LaidHandle
import Derived.Shelf.Vars
import Derived.PinnedBridge
import Derived.Carry
import Derived.Deep.DeepLaidRun
import Derived.Test.YtnbdalohlldnbaaGreatDoorCards
import Derived.Test.YtnbdalohlldnbaaGreatDoorTie
namespace Bd
open Go
def insA (a : Ar) (p : Nat) (n : NodeL) : Ar := (a.modify p fun x => { x with kids := x.kids ++ [(a.length : Int)] }) ++ [{ bare n with parent := (p : Int) }]
theorem insA_len (a : Ar) (p : Nat) (n : NodeL) : (insA a p n).length = a.length + 1 := by simp [insA]
theorem insA_old {a : Ar} {p : Nat} {n x : NodeL} {j : Nat} (hj : a[j]? = some x) : (insA a p n)[j]? = some (if p = j then { x with kids := x.kids ++ [(a.length : Int)] } else x) := by
  have hl : j < a.length := by
    rcases Nat.lt_or_ge j a.length with h | h
    · exact h
    · rw [List.getElem?_eq_none h] at hj; cases hj
  unfold insA
  rw [List.getElem?_append_left (by rw [List.length_modify]; exact hl), List.getElem?_modify, hj]
  split <;> rfl
theorem insA_new (a : Ar) (p : Nat) (n : NodeL) : (insA a p n)[a.length]? = some { bare n with parent := (p : Int) } := by
  unfold insA
  rw [List.getElem?_append_right (by rw [List.length_modify]; exact Nat.le_refl _), List.length_modify, Nat.sub_self]
  rfl
theorem insA_back {a : Ar} {p : Nat} {n z : NodeL} {j : Nat} (hj : (insA a p n)[j]? = some z) : (∃ x, a[j]? = some x ∧ z = if p = j then { x with kids := x.kids ++ [(a.length : Int)] } else x) ∨ (j = a.length ∧ z = { bare n with parent := (p : Int) }) := by
  rcases Nat.lt_trichotomy j a.length with h | rfl | h
  · obtain ⟨x, hx⟩ : ∃ x, a[j]? = some x := ⟨_, List.getElem?_eq_getElem h⟩
    rw [insA_old hx] at hj
    exact Or.inl ⟨x, hx, (Option.some.inj hj).symm⟩
  · rw [insA_new] at hj
    exact Or.inr ⟨rfl, (Option.some.inj hj).symm⟩
  · rw [List.getElem?_eq_none (by rw [insA_len]; omega)] at hj; cases hj
theorem ins_eq {a : Ar} (h : ArOk a) {p : Nat} {z n : NodeL} (hp : a[p]? = some z) (hz : z.kind = 3 ∨ z.kind = 1) (hk : kidK n.kind = true) (ht : isTpl n = false) : (append (add a n).1 (p : Int) (add a n).2).1 = insA a p n := by
  have hA := h.snoc n (kid6 hk) ht
  have hpo := snoc_old (y := bare n) hp
  rw [add_eq h.ne hk ht]
  unfold Bd.append
  have e1 : (a ++ [bare n]).isEmpty = false := by cases a <;> rfl
  have e2 : holds (a ++ [bare n]) (p : Int) = true := by
    unfold holds
    rw [has_nat hpo, rd_nat hpo]
    rcases hz with hz | hz <;> rw [hz] <;> rfl
  have e3 : hangs (a ++ [bare n]) (a.length : Int) = true := by
    unfold hangs
    rw [has_nat (snoc_new a (bare n)), rd_nat (snoc_new a (bare n))]
    exact hk
  dsimp only
  rw [e1, e2, e3, above_new h n hp]
  show Bd.hang (a ++ [bare n]) (p : Int) (-1) (a.length : Int) = insA a p n
  have hpl : p < a.length := by
    rcases Nat.lt_or_ge p a.length with h | h
    · exact h
    · rw [List.getElem?_eq_none h] at hp; cases hp
  refine List.ext_getElem? fun j => ?_
  rw [hang_get hA (snoc_new a (bare n))]
  have hpar : (bare n).parent = -1 := rfl
  rcases Nat.lt_trichotomy j a.length with hj | rfl | hj
  · obtain ⟨x, hx⟩ : ∃ x, a[j]? = some x := ⟨_, List.getElem?_eq_getElem hj⟩
    rw [snoc_old hx, insA_old hx, Option.map_some]
    congr 1
    unfold hangN
    rw [hpar, if_neg (show ¬ (j : Int) = -1 by omega), if_neg (show ¬ j = a.length by omega)]
    by_cases e : p = j
    · subst e; rw [if_pos rfl, if_pos rfl]
    · rw [if_neg (show ¬ j = p from fun h => e h.symm), if_neg e, List.append_nil]
  · rw [snoc_new, insA_new, Option.map_some]
    congr 1
    unfold hangN
    rw [hpar, if_neg (show ¬ (a.length : Int) = -1 by omega), if_pos rfl, if_neg (show ¬ a.length = p by omega)]
    rfl
  · rw [List.getElem?_eq_none (by simp; omega), List.getElem?_eq_none (by rw [insA_len]; omega)]; rfl
theorem node_nat {a : Ar} {j : Nat} {x : NodeL} (h : a[j]? = some x) : node a (j : Int) = x := by
  unfold node
  rw [has_nat h, rd_nat h]; rfl
theorem htmlN_tpl {n : Nat} {x : NodeL} (h : NdOk n x) : htmlN x [templateS] = false := by
  have h2 := h.1.2
  unfold htmlN
  rw [show ([templateS] : List Ba).contains x.name = false by
    rw [List.contains_cons, h2]; rfl, Bool.and_false]
theorem place_eq {n : Nat} {b : BS} (H : Okb n b) {p : Nat} {z : NodeL} (hp : b.ar[p]? = some z) : place b (p : Int) = ((p : Int), -1) := by
  unfold place
  rw [H.fos, node_nat hp]
  simp only [Bool.false_and, Bool.false_eq_true, if_false]
  rw [node_nat hp, htmlN_tpl (H.nd z (List.mem_of_getElem? hp)), Bool.and_false]
  rfl
theorem target_eq {b : BS} {p : Nat} (h : topS b.st = (p : Int)) : target b = (p : Int) := by
  unfold target
  rw [h]; omega
theorem failB_0 (b : BS) : failB b 0 = b := by
  unfold failB
  rw [show ((0 : Int) != 0) = false from rfl, Bool.and_false]; rfl
theorem insertB_eq {n : Nat} {b : BS} (H : Okb n b) {t : TokL} (ht : TokOk t) {p : Nat} {z : NodeL} (hp : b.ar[p]? = some z) (hz : z.kind = 3) (htop : topS b.st = (p : Int)) (hl : b.st.length < 512) :
    insertB b t 0 = ({ b with ar := insA b.ar p (elementT t 0), st := b.st ++ [⟨(b.ar.length : Int), 0, t.name⟩] }, (b.ar.length : Int)) := by
  have hpl : b.ar[p]? = some z := hp
  have H1 := H.add (x := elementT t 0) rfl (tok_tpl ht 0) ⟨ht, Nat.zero_le _⟩
  unfold insertB
  rw [if_neg (by omega)]
  dsimp only
  rw [target_eq (b := { b with ar := (add b.ar (elementT t 0)).1 }) htop, putN _ _ _ (show ({ b with ar := (add b.ar (elementT t 0)).1 } : BS).foster = false from H.fos)]
  have hp1 : ({ b with ar := (add b.ar (elementT t 0)).1 } : BS).ar[p]? = some z := by
    show (add b.ar (elementT t 0)).1[p]? = some z
    rw [add_eq H.ar.ne rfl (tok_tpl ht 0)]
    exact snoc_old hp
  rw [place_eq H1 hp1]
  dsimp only
  rw [ins_eq H.ar hp (Or.inl hz) rfl (tok_tpl ht 0)]
  have hi : (add b.ar (elementT t 0)).2 = (b.ar.length : Int) := by rw [add_eq H.ar.ne rfl (tok_tpl ht 0)]
  rw [hi]
  have hps : pushS (insA b.ar p (elementT t 0)) b.st (b.ar.length : Int) = (b.st ++ [⟨(b.ar.length : Int), 0, t.name⟩], 0) := by
    have he : elementS (insA b.ar p (elementT t 0)) (b.ar.length : Int) = (⟨(b.ar.length : Int), 0, t.name⟩, 0) := by
      unfold elementS
      rw [node_nat (insA_new _ _ _)]
      rfl
    unfold pushS insertS
    rw [he]
    dsimp only
    rw [if_neg (by decide), if_neg (by simp), if_neg (by omega)]
    rw [Int.toNat_natCast, List.take_length, List.drop_length]
  rw [hps, failB_0]
theorem only_eq {n : Nat} {b : BS} (H : Okb n b) {t : TokL} (ht : TokOk t) {p : Nat} {z : NodeL} (hp : b.ar[p]? = some z) (hz : z.kind = 3) (htop : topS b.st = (p : Int)) (hl : b.st.length < 512) :
    (only b t).1 = { b with ar := insA b.ar p (elementT t 0) } := by
  unfold only
  rw [insertB_eq H ht hp hz htop hl]
  dsimp only
  rw [if_pos (by omega)]
  show ({ b with ar := insA b.ar p (elementT t 0), st := popS (b.st ++ [⟨(b.ar.length : Int), 0, t.name⟩]) } : BS) = _
  unfold popS
  rw [List.dropLast_concat]
theorem rebuild_nil {b : BS} (h : b.fo = []) : rebuild b = b := by
  unfold rebuild
  rw [h, List.length_nil, Nat.zero_sub]
  rfl
theorem charsB_eq {n : Nat} {b : BS} (H : Okb n b) (s : Ba) {p : Nat} {z : NodeL} (hp : b.ar[p]? = some z) (h0 : 0 < p) (htop : topS b.st = (p : Int)) :
    charsB b s = { b with ar := (textA b.ar (p : Int) (-1) s).1 } := by
  unfold charsB
  rw [target_eq htop, place_eq H hp]
  dsimp only
  rw [if_pos (by omega)]
theorem textA_new {a : Ar} (h : ArOk a) {p : Nat} {z : NodeL} (hp : a[p]? = some z) (hz : z.kind = 3) {s : Ba} (hs : (s == em) = false) (hl : ¬ (0 < z.kids.length ∧ (rd a (z.kids.getD (z.kids.length - 1) 0)).kind = 4)) :
    (textA a (p : Int) (-1) s).1 = insA a p (textN s) := by
  have e2 : holds a (p : Int) = true := by
    unfold holds
    rw [has_nat hp, rd_nat hp, hz]; rfl
  unfold textA
  rw [show a.isEmpty = false by cases a with | nil => exact absurd rfl h.ne | cons x r => rfl, e2, hs, rd_nat hp]
  simp only [Bool.false_eq_true, if_false, Bool.not_true, Bool.false_or]
  rw [if_neg (by rw [show ((-1 : Int) != -1) = false from rfl, Bool.false_and]; decide), if_neg (show ¬ (0 : Int) ≤ -1 by omega), if_neg hl, add_eq h.ne (n := textN s) rfl rfl]
  have h2 := ins_eq h hp (Or.inl hz) (n := textN s) rfl rfl
  rw [add_eq h.ne (n := textN s) rfl rfl] at h2
  rw [← h2]
  unfold Bd.append
  have hpo := snoc_old (y := bare (textN s)) hp
  have e1 : (a ++ [bare (textN s)]).isEmpty = false := by cases a <;> rfl
  have e2 : holds (a ++ [bare (textN s)]) (p : Int) = true := by
    unfold holds
    rw [has_nat hpo, rd_nat hpo, hz]; rfl
  have e3 : hangs (a ++ [bare (textN s)]) (a.length : Int) = true := by
    unfold hangs
    rw [has_nat (snoc_new a _), rd_nat (snoc_new a _)]; rfl
  dsimp only
  rw [e1, e2, e3, above_new h _ hp]
  rfl
theorem textA_old {a : Ar} (h : ArOk a) {p : Nat} {z : NodeL} (hp : a[p]? = some z) (hz : z.kind = 3) {s : Ba} (hs : (s == em) = false) {c : Nat} (hc : z.kids.getD (z.kids.length - 1) 0 = (c : Int)) (hl : 0 < z.kids.length) {y : NodeL} (hy : a[c]? = some y) (h4 : y.kind = 4) :
    (textA a (p : Int) (-1) s).1 = upd a (c : Int) fun n => { n with text := n.text ++ s } := by
  have e2 : holds a (p : Int) = true := by
    unfold holds
    rw [has_nat hp, rd_nat hp, hz]; rfl
  unfold textA
  rw [show a.isEmpty = false by cases a with | nil => exact absurd rfl h.ne | cons x r => rfl, e2, hs, rd_nat hp]
  simp only [Bool.false_eq_true, if_false, Bool.not_true, Bool.false_or]
  rw [if_neg (by rw [show ((-1 : Int) != -1) = false from rfl, Bool.false_and]; decide), if_neg (show ¬ (0 : Int) ≤ -1 by omega), hc, rd_nat hy, if_pos ⟨hl, h4⟩]
end Bd

namespace Bd
open Go
def htmlS : Ba := ⟨#[104, 116, 109, 108]⟩
def bodyS : Ba := ⟨#[98, 111, 100, 121]⟩
/-- Only the root and the body are open. -/
def stB : St := [⟨1, 0, htmlS⟩, ⟨3, 0, bodyS⟩]
def ruler (b : BS) (t : TokL) : BS := (only (closeP b) t).1
def paramB (b : BS) (t : TokL) : BS := (only b t).1
theorem Okb.ruler {n : Nat} {b : BS} (h : Okb n b) {t : TokL} (ht : TokOk t) : Okb (n + 1) (ruler b t) := h.closeP.only ht
theorem Okb.paramB {n : Nat} {b : BS} (h : Okb n b) {t : TokL} (ht : TokOk t) : Okb (n + 1) (paramB b t) := h.only ht
theorem closeP_stB {b : BS} (h : b.st = stB) : closeP b = b := by
  unfold closeP
  rw [h, show hasS stB 2 [pS] = false from by decide +kernel]; rfl
theorem other_stB {b : BS} (h : b.st = stB) {z : NodeL} (hz : b.ar[3]? = some z) (h0 : z.space = 0) (hn : z.name = bodyS) {nm : Ba} (hne : (bodyS == nm) = false) : other b nm = b := by
  have h1 : atS b.st ((1 : Nat) : Int) = ((3 : Nat) : Int) := by rw [h]; decide
  unfold other
  rw [h]
  show otherF b nm (1 + 1) = b
  unfold otherF
  dsimp only
  rw [h1, node_nat hz, h0, hn, hne, Bool.and_false, show special 0 bodyS = true from by decide +kernel]
  rfl
/-- Where the law stands. -/
structure SI (b : BS) : Prop where
  st : b.st = stB
  fo : b.fo = []
  md : b.mode = 6
  bd : ∃ z, b.ar[3]? = some z ∧ z.kind = 3 ∧ z.space = 0 ∧ z.name = bodyS
  kn : ∀ x ∈ b.ar, x.kids ≠ [] → x.name = em ∨ x.name = htmlS ∨ x.name = bodyS
theorem SI.ins {b : BS} (h : SI b) (n : NodeL) : SI { b with ar := insA b.ar 3 n } := by
  obtain ⟨z, hz, h1, h2, h3⟩ := h.bd
  refine ⟨h.st, h.fo, h.md, ⟨_, insA_old hz, ?_⟩, fun x hx hk => ?_⟩
  · rw [if_pos rfl]; exact ⟨h1, h2, h3⟩
  · obtain ⟨j, hj⟩ := List.mem_iff_getElem?.1 hx
    rcases insA_back hj with ⟨y, hy, rfl⟩ | ⟨_, rfl⟩
    · by_cases e : 3 = j
      · subst e
        obtain rfl := Option.some.inj (hz.symm.trans hy)
        rw [if_pos rfl]
        exact Or.inr (Or.inr h3)
      · rw [if_neg e] at hk ⊢
        exact h.kn y (List.mem_of_getElem? hy) hk
    · exact absurd rfl hk
theorem SI.text {b : BS} (h : SI b) (c : Nat) (f : Ba → Ba) : SI { b with ar := upd b.ar (c : Int) fun n => { n with text := f n.text } } := by
  obtain ⟨z, hz, h1, h2, h3⟩ := h.bd
  refine ⟨h.st, h.fo, h.md, ?_, fun x hx hk => ?_⟩
  · show ∃ w, (upd b.ar (c : Int) _)[3]? = some w ∧ _
    rw [upd_get, hz]
    refine ⟨_, rfl, ?_⟩
    split <;> exact ⟨h1, h2, h3⟩
  · obtain ⟨j, hj⟩ := List.mem_iff_getElem?.1 hx
    have hj' : (upd b.ar (c : Int) fun n => { n with text := f n.text })[j]? = some x := hj
    rw [upd_get] at hj'
    cases hy : b.ar[j]? with
    | none => rw [hy] at hj'; cases hj'
    | some y =>
      rw [hy, Option.map_some] at hj'
      have := Option.some.inj hj'
      subst this
      have hm := h.kn y (List.mem_of_getElem? hy)
      revert hk
      split
      · exact hm
      · exact hm
theorem top_stB {b : BS} (h : b.st = stB) : topS b.st = ((3 : Nat) : Int) := by rw [h]; decide
theorem SI.only {n : Nat} {b : BS} (h : SI b) (H : Okb n b) {t : TokL} (ht : TokOk t) : SI (only b t).1 := by
  obtain ⟨z, hz, h1, _, _⟩ := h.bd
  rw [only_eq H ht hz h1 (top_stB h.st) (by rw [h.st]; decide)]
  exact h.ins _
theorem SI.single {n : Nat} {b : BS} (h : SI b) (H : Okb n b) {t : TokL} (ht : TokOk t) : SI (single b t) := by
  unfold Bd.single
  rw [rebuild_nil h.fo]
  exact h.only H ht
theorem SI.ruler {n : Nat} {b : BS} (h : SI b) (H : Okb n b) {t : TokL} (ht : TokOk t) : SI (Bd.ruler b t) := by
  unfold Bd.ruler
  rw [closeP_stB h.st]
  exact h.only H ht
theorem SI.other {b : BS} (h : SI b) {nm : Ba} (hne : (bodyS == nm) = false) : SI (other b nm) := by
  obtain ⟨z, hz, _, h2, h3⟩ := h.bd
  rw [other_stB h.st hz h2 h3 hne]; exact h
theorem SI.chB {n : Nat} {b : BS} (h : SI b) (H : Okb n b) {t : TokL} (ht : (t.text == em) = false) : SI (chB b t) := by
  obtain ⟨z, hz, h1, _, _⟩ := h.bd
  unfold Bd.chB
  rw [rebuild_nil h.fo, charsB_eq H _ hz (by decide) (top_stB h.st)]
  by_cases hl : 0 < z.kids.length ∧ (rd b.ar (z.kids.getD (z.kids.length - 1) 0)).kind = 4
  · obtain ⟨k, hk⟩ : ∃ k, k = z.kids.getD (z.kids.length - 1) 0 := ⟨_, rfl⟩
    have hm : k ∈ z.kids := by
      rw [hk, List.getD_eq_getElem?_getD, List.getElem?_eq_getElem (by omega)]
      exact List.getElem_mem _
    obtain ⟨c, y, e, hy, _⟩ := H.ar.kid 3 z hz k hm
    have h4 := hl.2
    rw [← hk, e, rd_nat hy] at h4
    rw [textA_old H.ar hz h1 ht (hk.symm.trans e) hl.1 hy h4]
    exact h.text c (fun s => s ++ t.text)
  · rw [textA_new H.ar hz h1 ht hl]
    exact h.ins _
theorem SI.is {b : BS} (h : SI b) (nm : Ba) : isB b [nm] = (nm == bodyS) := by
  obtain ⟨z, hz, h1, h2, h3⟩ := h.bd
  unfold isB htmlN current
  rw [top_stB h.st, node_nat hz, h1, h2, h3]
  rw [show ([nm] : List Ba).contains bodyS = (bodyS == nm) by rw [List.contains_cons]; simp]
  rw [show (bodyS == nm) = (nm == bodyS) from Bool.eq_iff_iff.2 (by rw [beq_iff_eq, beq_iff_eq]; exact eq_comm)]
  rfl
theorem si_opened : SI opened :=
  ⟨by decide +kernel, by decide +kernel, by decide +kernel, ⟨_, show opened.ar[3]? = some (opened.ar.getD 3 nd0) from by decide +kernel, by decide +kernel, by decide +kernel, by decide +kernel⟩, by decide +kernel⟩
/-- The elements that have no end. -/
def namesS : List Ba := [⟨#[98, 114]⟩, ⟨#[105, 109, 103]⟩, ⟨#[105, 110, 112, 117, 116]⟩, ⟨#[119, 98, 114]⟩, ⟨#[101, 109, 98, 101, 100]⟩, ⟨#[97, 114, 101, 97]⟩, ⟨#[104, 114]⟩, ⟨#[112, 97, 114, 97, 109]⟩, ⟨#[115, 111, 117, 114, 99, 101]⟩, ⟨#[116, 114, 97, 99, 107]⟩]
theorem names_ok {nm : Ba} (h : nm ∈ namesS) : (nm.size ≤ 1000 ∧ (nm == templateS) = false) ∧ (nm == em) = false ∧ (nm == htmlS) = false ∧ (nm == bodyS) = false ∧ (bodyS == nm) = false := by
  have : ∀ x ∈ namesS, (x.size ≤ 1000 ∧ (x == templateS) = false) ∧ (x == em) = false ∧ (x == htmlS) = false ∧ (x == bodyS) = false ∧ (bodyS == x) = false := by decide +kernel
  exact this nm h
theorem SI.last {b : BS} (h : SI b) {nm : Ba} (hn : nm ∈ namesS) {x : NodeL} (hx : x ∈ b.ar) (e : x.name = nm) : x.kids = [] := by
  obtain ⟨_, h1, h2, h3, _⟩ := names_ok hn
  rcases Decidable.em (x.kids = []) with hk | hk
  · exact hk
  · exfalso
    rcases h.kn x hx hk with e2 | e2 | e2 <;> rw [e] at e2 <;> subst e2
    · simp at h1
    · simp at h2
    · simp at h3
/-- What Step does with the law's tokens. -/
def stpI (b : BS) (t : TokL) : BS × Bool :=
  if t.kind == 7 then (chB b t, false)
  else if t.kind == 2 then (if t.name == ⟨#[104, 114]⟩ then ruler b t else if t.name == ⟨#[112, 97, 114, 97, 109]⟩ || t.name == ⟨#[115, 111, 117, 114, 99, 101]⟩ || t.name == ⟨#[116, 114, 97, 99, 107]⟩ then paramB b t else single b t, false)
  else (if t.name == ⟨#[98, 114]⟩ then endBr b else other b t.name, false)
end Bd

namespace Go.Proofs.YtnbdalohlldnbaaGreatDoor
open Go.RowKit Bd
attribute [local go_sem ↓] Go.wp_at_zero Go.wp_at_succ
theorem look_startN {nm : List UInt8} (hn : ∀ g ∈ startK, nm ∉ Lib.fields g) : ∀ x y v, StartV nm v x y → v = .nilFunc := fun x y v ⟨S, hS, ps, hv⟩ => by
  rw [hS.none (fun g hg => hn g hg)] at hv
  exact codeV_nil hv
theorem look_endN {nm : List UInt8} (hn : ∀ g ∈ endK, nm ∉ Lib.fields g) : ∀ x y v, EndV nm v x y → v = .nilFunc := fun x y v ⟨S, hS, ps, hv⟩ => by
  rw [hS.none (fun g hg => hn g hg)] at hv
  exact codeV_nil hv
section
variable {n : Nat} {own : Nat → Nat} {w : World} {bp ap sp lp : Nat} {b : BS}
set_option maxHeartbeats 1000000 in
set_option maxRecDepth 100000 in
theorem rparam_any (t : TokL) (ht : TokOk t) (hn : n + 1 ≤ 90000) (H : BX n own w bp ap sp lp b) : Calls Tryz.prog 84 #[.pointer (some ⟨bp, 0, none⟩), tokV t] w (RX (n + 1) own bp ap sp lp (.tuple #[]) (paramB b t) w) := by
  obtain ⟨W1, hW1⟩ : ∃ W, W = w.alloc (.cells (tokR t) 24) := ⟨_, rfl⟩
  have hb1 : Below w.heap.size w W1 := by rw [hW1]; exact (Below.refl _ w).alloc (Nat.le_refl _) _
  have hr : W1.heap[w.heap.size]? = some (.cells (tokR t) 24 (0, 0)) := by rw [hW1]; exact heap_new _ _
  have hH := H.below hb1
  have hF := H.fr hb1
  have ho : own w.heap.size = 0 := H.L _ (Nat.le_refl _)
  have HW1 := Lib.hid hW1
  obtain ⟨bx, hbx⟩ : ∃ x, x = w.heap.size := ⟨_, rfl⟩
  rw [← hbx] at hr ho
  have HBX := Lib.hid hbx
  clear hb1 hW1 H hbx
  go_enter Tryz.func84, Tryz.ntmps84
  go_upto_region 1 with fail
  rw [← HW1.out, ← HBX.out]
  have Hr := Lib.hid hr
  have cC := Lib.hid (Only_any t ht hn hH)
  have HP := Lib.hid (⟨ho, hF⟩ : _ ∧ _)
  clear hH hr ho hF
  go_wp2_with (refine wpList_load_row rfl 24 (.tmp 3) rfl bx rfl 24 _ (0, 0) _ Hr.out Tryz.underlying24 rfl tokSize ?_)
  refine cC.out.mono ?_
  rintro e w2 ⟨rfl, own2, H2, F⟩
  have hF := HP.out.2.trans F
  clear cC F HP Hr
  have HX := Lib.hid (⟨H2, hF⟩ : _ ∧ _)
  clear H2 hF
  go_wp2_with fail
  go_end0
  exact ⟨rfl, own2, HX.out.1, HX.out.2⟩
set_option maxHeartbeats 1000000 in
set_option maxRecDepth 100000 in
theorem rruler_any (t : TokL) (ht : TokOk t) (hn : n + 1 ≤ 90000) (H : BX n own w bp ap sp lp b) : Calls Tryz.prog 85 #[.pointer (some ⟨bp, 0, none⟩), tokV t] w (RX (n + 1) own bp ap sp lp (.tuple #[]) (Bd.ruler b t) w) := by
  obtain ⟨W1, hW1⟩ : ∃ W, W = w.alloc (.cells (tokR t) 24) := ⟨_, rfl⟩
  have hb1 : Below w.heap.size w W1 := by rw [hW1]; exact (Below.refl _ w).alloc (Nat.le_refl _) _
  have hr : W1.heap[w.heap.size]? = some (.cells (tokR t) 24 (0, 0)) := by rw [hW1]; exact heap_new _ _
  have hH := H.below hb1
  have hF := H.fr hb1
  have ho : own w.heap.size = 0 := H.L _ (Nat.le_refl _)
  have HW1 := Lib.hid hW1
  obtain ⟨bx, hbx⟩ : ∃ x, x = w.heap.size := ⟨_, rfl⟩
  rw [← hbx] at hr ho
  have HBX := Lib.hid hbx
  clear hb1 hW1 H hbx
  go_enter Tryz.func85, Tryz.ntmps85
  go_upto_region 1 with fail
  rw [← HW1.out, ← HBX.out]
  have Hr := Lib.hid hr
  have cC := Lib.hid (CloseP_any hH)
  have HP := Lib.hid (⟨ho, hF⟩ : _ ∧ _)
  clear hH hr ho hF
  go_wp2_with fail
  refine cC.out.mono ?_
  rintro e w2 ⟨rfl, own2, H2, F⟩
  have hF := HP.out.2.trans F
  have hr := F.keep Hr.out (by rw [HP.out.1]; rfl)
  have ho := (F.old bx (row_lt Hr.out)).trans HP.out.1
  clear cC F HP Hr
  have Hr := Lib.hid hr
  have cC := Lib.hid (Only_any t ht hn H2)
  have HP := Lib.hid (⟨ho, hF⟩ : _ ∧ _)
  clear H2 hr ho hF
  go_wp2_with (refine wpList_load_row rfl 24 (.tmp 3) rfl bx rfl 24 _ (0, 0) _ Hr.out Tryz.underlying24 rfl tokSize ?_)
  refine cC.out.mono ?_
  rintro e w3 ⟨rfl, own3, H3, F⟩
  have hF := HP.out.2.trans F
  clear cC F HP Hr
  have HX := Lib.hid (⟨H3, hF⟩ : _ ∧ _)
  clear H3 hF
  go_wp2_with fail
  go_end0
  exact ⟨rfl, own3, HX.out.1, HX.out.2⟩
end
/-- The law's tokens. -/
inductive SgT : TokL → Prop
  | st (nm : Ba) (h : nm ∈ namesS) : SgT (startT nm)
  | en (nm : Ba) (h : nm ∈ namesS) : SgT (endT nm)
  | ch : SgT (charsT ⟨#[116]⟩)
set_option maxHeartbeats 4000000 in
theorem stepI {n : Nat} {own : Nat → Nat} {W : World} {bp ap sp lp : Nat} {b : BS} {t : TokL} (ht : SgT t) (hm : b.mode = 6) (hn : n + 65 ≤ 90000) (H : BX n own W bp ap sp lp b) (hE : EnvT own W) :
    Calls Tryz.prog 8 #[.pointer (some ⟨bp, 0, none⟩), tokV t] W (RX (n + 65) own bp ap sp lp (.bool (stpI b t).2) (stpI b t).1 W) := by
  cases ht with
  | st nm h =>
    simp only [namesS, List.mem_cons, List.not_mem_nil, or_false] at h
    rcases h with rfl | rfl | rfl | rfl | rfl | rfl | rfl | rfl | rfl | rfl
    · rw [show stpI b (startT ⟨#[98, 114]⟩) = (single b (startT ⟨#[98, 114]⟩), false) from rfl]
      exact Step_body false (startT ⟨#[98, 114]⟩) hm H (fun V HV hb => (Body_start (m := n + 65) 83 (startT ⟨#[98, 114]⟩) ⟨by decide, by decide +kernel⟩ rfl (tab_below hE.t hb) HV (fun x y v hv => Or.inl (look_start 9 (fun _ _ => rfl) (by decide +kernel) x y v hv)) Tryz.call83 (fun U HU => rsingle_any _ ⟨by decide, by decide +kernel⟩ (by omega) HU)).mono fun _ _ hr => RX.mono hr (by omega) hn)
    · rw [show stpI b (startT ⟨#[105, 109, 103]⟩) = (single b (startT ⟨#[105, 109, 103]⟩), false) from rfl]
      exact Step_body false (startT ⟨#[105, 109, 103]⟩) hm H (fun V HV hb => (Body_start (m := n + 65) 83 (startT ⟨#[105, 109, 103]⟩) ⟨by decide, by decide +kernel⟩ rfl (tab_below hE.t hb) HV (fun x y v hv => Or.inl (look_start 9 (fun _ _ => rfl) (by decide +kernel) x y v hv)) Tryz.call83 (fun U HU => rsingle_any _ ⟨by decide, by decide +kernel⟩ (by omega) HU)).mono fun _ _ hr => RX.mono hr (by omega) hn)
    · rw [show stpI b (startT ⟨#[105, 110, 112, 117, 116]⟩) = (single b (startT ⟨#[105, 110, 112, 117, 116]⟩), false) from rfl]
      exact Step_body false (startT ⟨#[105, 110, 112, 117, 116]⟩) hm H (fun V HV hb => (Body_start (m := n + 65) 83 (startT ⟨#[105, 110, 112, 117, 116]⟩) ⟨by decide, by decide +kernel⟩ rfl (tab_below hE.t hb) HV (fun x y v hv => Or.inl (look_start 9 (fun _ _ => rfl) (by decide +kernel) x y v hv)) Tryz.call83 (fun U HU => rsingle_any _ ⟨by decide, by decide +kernel⟩ (by omega) HU)).mono fun _ _ hr => RX.mono hr (by omega) hn)
    · rw [show stpI b (startT ⟨#[119, 98, 114]⟩) = (single b (startT ⟨#[119, 98, 114]⟩), false) from rfl]
      exact Step_body false (startT ⟨#[119, 98, 114]⟩) hm H (fun V HV hb => (Body_start (m := n + 65) 83 (startT ⟨#[119, 98, 114]⟩) ⟨by decide, by decide +kernel⟩ rfl (tab_below hE.t hb) HV (fun x y v hv => Or.inl (look_start 9 (fun _ _ => rfl) (by decide +kernel) x y v hv)) Tryz.call83 (fun U HU => rsingle_any _ ⟨by decide, by decide +kernel⟩ (by omega) HU)).mono fun _ _ hr => RX.mono hr (by omega) hn)
    · rw [show stpI b (startT ⟨#[101, 109, 98, 101, 100]⟩) = (single b (startT ⟨#[101, 109, 98, 101, 100]⟩), false) from rfl]
      exact Step_body false (startT ⟨#[101, 109, 98, 101, 100]⟩) hm H (fun V HV hb => (Body_start (m := n + 65) 83 (startT ⟨#[101, 109, 98, 101, 100]⟩) ⟨by decide, by decide +kernel⟩ rfl (tab_below hE.t hb) HV (fun x y v hv => Or.inl (look_start 9 (fun _ _ => rfl) (by decide +kernel) x y v hv)) Tryz.call83 (fun U HU => rsingle_any _ ⟨by decide, by decide +kernel⟩ (by omega) HU)).mono fun _ _ hr => RX.mono hr (by omega) hn)
    · rw [show stpI b (startT ⟨#[97, 114, 101, 97]⟩) = (single b (startT ⟨#[97, 114, 101, 97]⟩), false) from rfl]
      exact Step_body false (startT ⟨#[97, 114, 101, 97]⟩) hm H (fun V HV hb => (Body_start (m := n + 65) 83 (startT ⟨#[97, 114, 101, 97]⟩) ⟨by decide, by decide +kernel⟩ rfl (tab_below hE.t hb) HV (fun x y v hv => Or.inl (look_start 9 (fun _ _ => rfl) (by decide +kernel) x y v hv)) Tryz.call83 (fun U HU => rsingle_any _ ⟨by decide, by decide +kernel⟩ (by omega) HU)).mono fun _ _ hr => RX.mono hr (by omega) hn)
    · rw [show stpI b (startT ⟨#[104, 114]⟩) = (Bd.ruler b (startT ⟨#[104, 114]⟩), false) from rfl]
      exact Step_body false (startT ⟨#[104, 114]⟩) hm H (fun V HV hb => (Body_start (m := n + 1) 85 (startT ⟨#[104, 114]⟩) ⟨by decide, by decide +kernel⟩ rfl (tab_below hE.t hb) HV (fun x y v hv => Or.inl (look_start 7 (fun _ _ => rfl) (by decide +kernel) x y v hv)) Tryz.call85 (fun U HU => rruler_any _ ⟨by decide, by decide +kernel⟩ (by omega) HU)).mono fun _ _ hr => RX.mono hr (by omega) hn)
    · rw [show stpI b (startT ⟨#[112, 97, 114, 97, 109]⟩) = (paramB b (startT ⟨#[112, 97, 114, 97, 109]⟩), false) from rfl]
      exact Step_body false (startT ⟨#[112, 97, 114, 97, 109]⟩) hm H (fun V HV hb => (Body_start (m := n + 1) 84 (startT ⟨#[112, 97, 114, 97, 109]⟩) ⟨by decide, by decide +kernel⟩ rfl (tab_below hE.t hb) HV (fun x y v hv => Or.inl (look_start 8 (fun _ _ => rfl) (by decide +kernel) x y v hv)) Tryz.call84 (fun U HU => rparam_any _ ⟨by decide, by decide +kernel⟩ (by omega) HU)).mono fun _ _ hr => RX.mono hr (by omega) hn)
    · rw [show stpI b (startT ⟨#[115, 111, 117, 114, 99, 101]⟩) = (paramB b (startT ⟨#[115, 111, 117, 114, 99, 101]⟩), false) from rfl]
      exact Step_body false (startT ⟨#[115, 111, 117, 114, 99, 101]⟩) hm H (fun V HV hb => (Body_start (m := n + 1) 84 (startT ⟨#[115, 111, 117, 114, 99, 101]⟩) ⟨by decide, by decide +kernel⟩ rfl (tab_below hE.t hb) HV (fun x y v hv => Or.inl (look_start 8 (fun _ _ => rfl) (by decide +kernel) x y v hv)) Tryz.call84 (fun U HU => rparam_any _ ⟨by decide, by decide +kernel⟩ (by omega) HU)).mono fun _ _ hr => RX.mono hr (by omega) hn)
    · rw [show stpI b (startT ⟨#[116, 114, 97, 99, 107]⟩) = (paramB b (startT ⟨#[116, 114, 97, 99, 107]⟩), false) from rfl]
      exact Step_body false (startT ⟨#[116, 114, 97, 99, 107]⟩) hm H (fun V HV hb => (Body_start (m := n + 1) 84 (startT ⟨#[116, 114, 97, 99, 107]⟩) ⟨by decide, by decide +kernel⟩ rfl (tab_below hE.t hb) HV (fun x y v hv => Or.inl (look_start 8 (fun _ _ => rfl) (by decide +kernel) x y v hv)) Tryz.call84 (fun U HU => rparam_any _ ⟨by decide, by decide +kernel⟩ (by omega) HU)).mono fun _ _ hr => RX.mono hr (by omega) hn)
  | en nm h =>
    simp only [namesS, List.mem_cons, List.not_mem_nil, or_false] at h
    rcases h with rfl | rfl | rfl | rfl | rfl | rfl | rfl | rfl | rfl | rfl
    · rw [show stpI b (endT ⟨#[98, 114]⟩) = (endBr b, false) from rfl]
      exact Step_body false (endT ⟨#[98, 114]⟩) hm H (fun V HV hb => (Body_end (m := n + 65) 102 (endT ⟨#[98, 114]⟩) ⟨by decide, by decide +kernel⟩ rfl (tab_below hE.t hb) HV (fun x y v hv => Or.inl (look_end 0 (fun _ _ => rfl) (by decide +kernel) x y v hv)) Tryz.call102 (fun U HU => rendBr_any _ (by omega) HU) (by decide +kernel)).mono fun _ _ hr => RX.mono hr (by omega) hn)
    · rw [show stpI b (endT ⟨#[105, 109, 103]⟩) = (other b ⟨#[105, 109, 103]⟩, false) from rfl]
      exact Step_body false (endT ⟨#[105, 109, 103]⟩) hm H (fun V HV hb => (Body_end (m := n + 0) 32 (endT ⟨#[105, 109, 103]⟩) ⟨by decide, by decide +kernel⟩ rfl (tab_below hE.t hb) HV (fun x y v hv => Or.inr ⟨look_endN (by decide +kernel) x y v hv, rfl⟩) Tryz.call32 (fun U HU => rotherE_any (endT ⟨#[105, 109, 103]⟩) HU) (by decide +kernel)).mono fun _ _ hr => RX.mono hr (by omega) hn)
    · rw [show stpI b (endT ⟨#[105, 110, 112, 117, 116]⟩) = (other b ⟨#[105, 110, 112, 117, 116]⟩, false) from rfl]
      exact Step_body false (endT ⟨#[105, 110, 112, 117, 116]⟩) hm H (fun V HV hb => (Body_end (m := n + 0) 32 (endT ⟨#[105, 110, 112, 117, 116]⟩) ⟨by decide, by decide +kernel⟩ rfl (tab_below hE.t hb) HV (fun x y v hv => Or.inr ⟨look_endN (by decide +kernel) x y v hv, rfl⟩) Tryz.call32 (fun U HU => rotherE_any (endT ⟨#[105, 110, 112, 117, 116]⟩) HU) (by decide +kernel)).mono fun _ _ hr => RX.mono hr (by omega) hn)
    · rw [show stpI b (endT ⟨#[119, 98, 114]⟩) = (other b ⟨#[119, 98, 114]⟩, false) from rfl]
      exact Step_body false (endT ⟨#[119, 98, 114]⟩) hm H (fun V HV hb => (Body_end (m := n + 0) 32 (endT ⟨#[119, 98, 114]⟩) ⟨by decide, by decide +kernel⟩ rfl (tab_below hE.t hb) HV (fun x y v hv => Or.inr ⟨look_endN (by decide +kernel) x y v hv, rfl⟩) Tryz.call32 (fun U HU => rotherE_any (endT ⟨#[119, 98, 114]⟩) HU) (by decide +kernel)).mono fun _ _ hr => RX.mono hr (by omega) hn)
    · rw [show stpI b (endT ⟨#[101, 109, 98, 101, 100]⟩) = (other b ⟨#[101, 109, 98, 101, 100]⟩, false) from rfl]
      exact Step_body false (endT ⟨#[101, 109, 98, 101, 100]⟩) hm H (fun V HV hb => (Body_end (m := n + 0) 32 (endT ⟨#[101, 109, 98, 101, 100]⟩) ⟨by decide, by decide +kernel⟩ rfl (tab_below hE.t hb) HV (fun x y v hv => Or.inr ⟨look_endN (by decide +kernel) x y v hv, rfl⟩) Tryz.call32 (fun U HU => rotherE_any (endT ⟨#[101, 109, 98, 101, 100]⟩) HU) (by decide +kernel)).mono fun _ _ hr => RX.mono hr (by omega) hn)
    · rw [show stpI b (endT ⟨#[97, 114, 101, 97]⟩) = (other b ⟨#[97, 114, 101, 97]⟩, false) from rfl]
      exact Step_body false (endT ⟨#[97, 114, 101, 97]⟩) hm H (fun V HV hb => (Body_end (m := n + 0) 32 (endT ⟨#[97, 114, 101, 97]⟩) ⟨by decide, by decide +kernel⟩ rfl (tab_below hE.t hb) HV (fun x y v hv => Or.inr ⟨look_endN (by decide +kernel) x y v hv, rfl⟩) Tryz.call32 (fun U HU => rotherE_any (endT ⟨#[97, 114, 101, 97]⟩) HU) (by decide +kernel)).mono fun _ _ hr => RX.mono hr (by omega) hn)
    · rw [show stpI b (endT ⟨#[104, 114]⟩) = (other b ⟨#[104, 114]⟩, false) from rfl]
      exact Step_body false (endT ⟨#[104, 114]⟩) hm H (fun V HV hb => (Body_end (m := n + 0) 32 (endT ⟨#[104, 114]⟩) ⟨by decide, by decide +kernel⟩ rfl (tab_below hE.t hb) HV (fun x y v hv => Or.inr ⟨look_endN (by decide +kernel) x y v hv, rfl⟩) Tryz.call32 (fun U HU => rotherE_any (endT ⟨#[104, 114]⟩) HU) (by decide +kernel)).mono fun _ _ hr => RX.mono hr (by omega) hn)
    · rw [show stpI b (endT ⟨#[112, 97, 114, 97, 109]⟩) = (other b ⟨#[112, 97, 114, 97, 109]⟩, false) from rfl]
      exact Step_body false (endT ⟨#[112, 97, 114, 97, 109]⟩) hm H (fun V HV hb => (Body_end (m := n + 0) 32 (endT ⟨#[112, 97, 114, 97, 109]⟩) ⟨by decide, by decide +kernel⟩ rfl (tab_below hE.t hb) HV (fun x y v hv => Or.inr ⟨look_endN (by decide +kernel) x y v hv, rfl⟩) Tryz.call32 (fun U HU => rotherE_any (endT ⟨#[112, 97, 114, 97, 109]⟩) HU) (by decide +kernel)).mono fun _ _ hr => RX.mono hr (by omega) hn)
    · rw [show stpI b (endT ⟨#[115, 111, 117, 114, 99, 101]⟩) = (other b ⟨#[115, 111, 117, 114, 99, 101]⟩, false) from rfl]
      exact Step_body false (endT ⟨#[115, 111, 117, 114, 99, 101]⟩) hm H (fun V HV hb => (Body_end (m := n + 0) 32 (endT ⟨#[115, 111, 117, 114, 99, 101]⟩) ⟨by decide, by decide +kernel⟩ rfl (tab_below hE.t hb) HV (fun x y v hv => Or.inr ⟨look_endN (by decide +kernel) x y v hv, rfl⟩) Tryz.call32 (fun U HU => rotherE_any (endT ⟨#[115, 111, 117, 114, 99, 101]⟩) HU) (by decide +kernel)).mono fun _ _ hr => RX.mono hr (by omega) hn)
    · rw [show stpI b (endT ⟨#[116, 114, 97, 99, 107]⟩) = (other b ⟨#[116, 114, 97, 99, 107]⟩, false) from rfl]
      exact Step_body false (endT ⟨#[116, 114, 97, 99, 107]⟩) hm H (fun V HV hb => (Body_end (m := n + 0) 32 (endT ⟨#[116, 114, 97, 99, 107]⟩) ⟨by decide, by decide +kernel⟩ rfl (tab_below hE.t hb) HV (fun x y v hv => Or.inr ⟨look_endN (by decide +kernel) x y v hv, rfl⟩) Tryz.call32 (fun U HU => rotherE_any (endT ⟨#[116, 114, 97, 99, 107]⟩) HU) (by decide +kernel)).mono fun _ _ hr => RX.mono hr (by omega) hn)
  | ch =>
    rw [show stpI b (charsT ⟨#[116]⟩) = (chB b (charsT ⟨#[116]⟩), false) from rfl]
    exact Step_body false (charsT ⟨#[116]⟩) hm H (fun V HV hb => (Body_chars (charsT ⟨#[116]⟩) (by decide) rfl (by omega) HV).mono fun _ _ hr => RX.mono hr (by omega) hn)
theorem stpI_si {b : BS} {t : TokL} (ht : SgT t) (h : SI b) (H : ∃ n, Okb n b) : SI (stpI b t).1 ∧ (∃ n, Okb n (stpI b t).1) ∧ (stpI b t).2 = false := by
  obtain ⟨n, H⟩ := H
  have fin : ∀ {nm : Ba}, nm ∈ namesS → TokOk (startT nm) := fun hn => (names_ok hn).1
  cases ht with
  | st nm hn =>
    unfold stpI
    rw [show ((startT nm).kind == 7) = false from rfl, show ((startT nm).kind == 2) = true from rfl]
    rw [if_neg (by decide), if_pos rfl]
    refine ⟨?_, ?_, rfl⟩
    · dsimp only
      split
      · exact h.ruler H (fin hn)
      · split
        · exact h.only H (fin hn)
        · exact h.single H (fin hn)
    · dsimp only
      split
      · exact ⟨_, H.ruler (fin hn)⟩
      · split
        · exact ⟨_, H.paramB (fin hn)⟩
        · exact ⟨_, H.single (fin hn)⟩
  | en nm hn =>
    unfold stpI
    rw [show ((endT nm).kind == 7) = false from rfl, show ((endT nm).kind == 2) = false from rfl]
    rw [if_neg (by decide), if_neg (by decide)]
    refine ⟨?_, ?_, rfl⟩
    · dsimp only
      split
      · exact h.single H ⟨by decide +kernel, by decide +kernel⟩
      · exact h.other (names_ok hn).2.2.2.2
    · dsimp only
      split
      · exact ⟨_, H.endBr⟩
      · exact ⟨_, H.other _⟩
  | ch =>
    rw [show stpI b (charsT ⟨#[116]⟩) = (chB b (charsT ⟨#[116]⟩), false) from rfl]
    exact ⟨h.chB H (by decide), ⟨_, H.chB (by decide)⟩, rfl⟩
theorem drvI {ts : List TokL} (hts : ∀ t ∈ ts, SgT t) : Drv stpI (fun b => SI b ∧ ∃ n, Okb n b) 65 ts :=
  ⟨fun bp ap sp lp n own W b t ht hI hn H hE => stepI (hts t ht) hI.1.md hn H hE, fun b t ht hI => ⟨(stpI_si (hts t ht) hI.1 hI.2).1, (stpI_si (hts t ht) hI.1 hI.2).2.1⟩,
    fun b t ht hI h => by rw [(stpI_si (hts t ht) hI.1 hI.2).2.2] at h; cases h⟩
end Go.Proofs.YtnbdalohlldnbaaGreatDoor

namespace Go.Proofs.YtnbdalohlldnbaaGreatDoor
open Go.RowKit Bd
attribute [local go_sem ↓] Go.wp_at_zero Go.wp_at_succ
/-- A slice of bytes, as the world holds it. -/
def SlB (w : World) (v : Value) (l : List UInt8) : Prop :=
  ∃ a c, v = .slice a l.length c ∧ l.length ≤ 9223372036854775807 ∧ ∀ (j : Nat) (b : UInt8), l[j]? = some b → ∃ B off, a = some ⟨B, off, none⟩ ∧ B < w.heap.size ∧ w.cell? ⟨B, off + j, none⟩ = some (.int .u8 b.toNat)
theorem SlB.below {w w' : World} {v : Value} {l : List UInt8} (h : SlB w v l) (hb : Below w.heap.size w w') : SlB w' v l := by
  obtain ⟨a, c, h1, h2, h3⟩ := h
  refine ⟨a, c, h1, h2, fun j b hj => ?_⟩
  obtain ⟨B, off, e1, e2, e3⟩ := h3 j b hj
  exact ⟨B, off, e1, Nat.lt_of_lt_of_le e2 hb.size, by rw [hb.cell (p := ⟨B, off + j, none⟩) e2]; exact e3⟩
/-- Names, laid one behind another. -/
def NmsAt (w : World) (g : Nat) (l : List Ba) : Prop := ∀ (j : Nat) (nm : Ba), l[j]? = some nm → w.cell? ⟨g, j, none⟩ = some (.string nm)
theorem nms_alloc (w : World) (l : List Ba) (T : TypeId) : NmsAt (w.alloc (.cells (l.map Value.string).toArray T)) w.heap.size l :=
  fun j nm hj => rowAt (heap_new _ _) _ _ (by rw [List.getElem?_toArray, List.getElem?_map, hj]; rfl)
theorem NmsAt.below {w w' : World} {g : Nat} {l : List Ba} (h : NmsAt w g l) (hb : Below w.heap.size w w') : NmsAt w' g l :=
  fun j nm hj => (hb.cell (World.block_lt_of_cell? _ _ (h j nm hj))).trans (h j nm hj)
theorem EnvT.of {W0 wr : World} {own : Nat → Nat} (hE : E2 W0) (hb : Below W0.heap.size W0 wr) (h0 : ∀ k, k < W0.heap.size → own k = 0) : EnvT own wr := by
  have hT := hE.t
  have hlt : (1 : Nat) < W0.heap.size := by
    unfold Lib.TabIs World.var? at hT
    have hg : (Tryz.prog).globalNamed "strings.asciiSpace" = some 1 := by kernel_rfl
    rw [hg] at hT
    simp only [Option.bind_some] at hT
    rcases Nat.lt_or_ge (1 : Nat) W0.heap.size with h | h
    · exact h
    · rw [Array.getElem?_eq_none h] at hT; cases hT
  exact ⟨tab_below hE.t hb, h0 _ hlt⟩
/-- A builder in order, beside all that lay in W0. -/
structure LA (n : Nat) (W0 : World) (bp ap sp lp : Nat) (b : BS) (wr : World) : Prop where
  ex : ∃ own, BX n own wr bp ap sp lp b ∧ Below W0.heap.size W0 wr ∧ ∀ k, k < W0.heap.size → own k = 0
section
variable {n : Nat} {W0 wr w' : World} {bp ap sp lp : Nat} {b : BS}
theorem LA.below (h : LA n W0 bp ap sp lp b wr) (hb : Below wr.heap.size wr w') : LA n W0 bp ap sp lp b w' := by
  obtain ⟨own, h1, h2, h3⟩ := h.ex
  exact ⟨own, h1.below hb, below_call h2 hb, h3⟩
theorem LA.mono {m : Nat} (h : LA n W0 bp ap sp lp b wr) (hm : n ≤ m) (h2 : m ≤ 90000) : LA m W0 bp ap sp lp b wr := by
  obtain ⟨own, q1, q2, q3⟩ := h.ex
  exact ⟨own, q1.mono hm h2, q2, q3⟩
theorem LA.base (h : LA n W0 bp ap sp lp b wr) : Below W0.heap.size W0 wr := by
  obtain ⟨_, _, h2, _⟩ := h.ex
  exact h2
theorem LA.okb (h : LA n W0 bp ap sp lp b wr) : Okb n b := by
  obtain ⟨_, h1, _, _⟩ := h.ex
  exact h1.G
theorem LA.rx {m : Nat} {own : Nat → Nat} {r : Value} {b' : BS} {e : Ending} (hb : Below W0.heap.size W0 wr) (h0 : ∀ k, k < W0.heap.size → own k = 0) (hr : RX m own bp ap sp lp r b' wr e w') : e = .returned r ∧ LA m W0 bp ap sp lp b' w' := by
  obtain ⟨rfl, own', h1, h2⟩ := hr
  obtain ⟨q1, q2⟩ := h2.below0 hb h0
  exact ⟨rfl, own', h1, q1, q2⟩
theorem LA.opened (hE : E2 W0) : Calls Tryz.prog 11 #[.bool false] W0 fun e w' => ∃ bp ap sp lp rp, e = .returned (.tuple #[.pointer (some ⟨bp, 0, none⟩), .pointer (some ⟨rp, 0, none⟩)]) ∧ LA 4 W0 bp ap sp lp Bd.opened w' :=
  (opened_any hE.k).mono fun _ _ ⟨bp, ap, sp, lp, rp, oB, h1, h2, h3, h4⟩ => ⟨bp, ap, sp, lp, rp, h1, oB, h2, h3, h4⟩
theorem LA.does {stp : BS → TokL → BS × Bool} {Inv : BS → Prop} {c : Nat} (ts : List TokL) (T : TypeId) (cp : Nat) (hE : E2 W0) (hD : Drv stp Inv c ts) (hlen : ts.length ≤ 1000) (hI : Inv b) (hn : n + 2 * c * ts.length ≤ 90000) (h : LA n W0 bp ap sp lp b wr) :
    Calls Tryz.prog 12 #[.pointer (some ⟨bp, 0, none⟩), .slice (some ⟨wr.heap.size, 0, none⟩) ts.length cp] (wr.alloc (.cells (ts.flatMap tkRow).toArray T)) fun e w' => e = .returned (.tuple #[]) ∧ LA (n + 2 * c * ts.length) W0 bp ap sp lp (ts.foldl (doesT stp) b) w' := by
  obtain ⟨own, h1, h2, h3⟩ := h.ex
  have hb : Below wr.heap.size wr (wr.alloc (.cells (ts.flatMap tkRow).toArray T)) := (Below.refl _ _).alloc (Nat.le_refl _) _
  have hb2 := below_call h2 hb
  exact (does_any stp Inv c ts (toks_alloc wr ts T) (h1.L _ (Nat.le_refl _)) hlen (hD.step bp ap sp lp) hD.inv hD.stop hI hn (EnvT.of hE hb2 h3) (h1.below hb)).mono fun _ _ hr => LA.rx hb2 h3 hr
theorem LA.is {v : Value} {ns : List Ba} (h : LA n W0 bp ap sp lp b wr) (hN : NmAt wr v ns) : Calls Tryz.prog 21 #[.pointer (some ⟨bp, 0, none⟩), v] wr fun e w' => e = .returned (.bool (isB b ns)) ∧ Below wr.heap.size wr w' := by
  obtain ⟨own, h1, _, _⟩ := h.ex
  exact xIs h1 hN
theorem LA.arena (h : LA n W0 bp ap sp lp b wr) : Calls Tryz.prog 17 #[.pointer (some ⟨bp, 0, none⟩)] wr fun e w' => e = .returned (.pointer (some ⟨ap, 0, none⟩)) ∧ wr = w' := by
  obtain ⟨own, h1, _, _⟩ := h.ex
  exact xArena h1
theorem LA.tree (h : LA n W0 bp ap sp lp b wr) : Calls Tryz.prog 18 #[.pointer (some ⟨ap, 0, none⟩)] wr (RTree b.ar wr) := by
  obtain ⟨own, h1, _, _⟩ := h.ex
  exact xTree h1
theorem LA.stack (h : LA n W0 bp ap sp lp b wr) : Calls Tryz.prog 19 #[.pointer (some ⟨bp, 0, none⟩)] wr fun e w' => e = .returned (.pointer (some ⟨sp, 0, none⟩)) ∧ wr = w' := by
  obtain ⟨own, h1, _, _⟩ := h.ex
  exact xStack h1
theorem LA.slen (h : LA n W0 bp ap sp lp b wr) : Calls Tryz.prog 20 #[.pointer (some ⟨sp, 0, none⟩)] wr (RI b.st.length wr) := by
  obtain ⟨own, h1, _, _⟩ := h.ex
  exact xSLen h1
theorem LA.mode (h : LA n W0 bp ap sp lp b wr) : Calls Tryz.prog 22 #[.pointer (some ⟨bp, 0, none⟩)] wr fun e w' => e = .returned (.int .i64 b.mode) ∧ wr = w' := by
  obtain ⟨own, h1, _, _⟩ := h.ex
  exact xMode h1
/-- The shape of the body, out of the tree that was read. -/
theorem LA.shape {l : List NB} {v : Value} {B : Nat} (h : LA n W0 bp ap sp lp b wr) (hl : l.map NB.n = b.ar) (hT : TreeAt wr B v l) (hs : (Bd.shape b).size ≤ 1000000000) :
    Calls Tryz.prog 16 #[v, .int .i64 3] wr fun e w' => e = .returned (.string (Bd.shape b)) ∧ Below wr.heap.size wr w' := by
  obtain ⟨own, h1, _, _⟩ := h.ex
  exact shape_of h1 hl hT hs
end
theorem Drv.fold {stp : BS → TokL → BS × Bool} {Inv : BS → Prop} {c : Nat} {ts : List TokL} (hD : Drv stp Inv c ts) : ∀ (l : List TokL) {b : BS}, (∀ t ∈ l, t ∈ ts) → Inv b → Inv (l.foldl (doesT stp) b)
  | [], _, _, h => h
  | t :: r, b, hl, h => by
    refine Drv.fold hD r (fun u hu => hl u (List.mem_cons_of_mem _ hu)) ?_
    have ht := hl t (List.mem_cons_self ..)
    unfold doesT
    split
    · exact hD.inv _ _ ht (hD.inv _ _ ht h)
    · exact hD.inv _ _ ht h
theorem toList_inj {a b : ByteArray} (h : ByteArray.toList a = ByteArray.toList b) : a = b := by
  rw [Lib.toList_data, Lib.toList_data] at h
  exact ByteArray.ext (Array.toList_inj.1 h)
/-- One of the names. -/
theorem pick_nm {l : List Ba} {m : Nat} (hl : l ≠ []) (x : Nat) (hm : m = x % l.length) : ∃ nm, l[m]? = some nm ∧ nm ∈ l := by
  have : m < l.length := by rw [hm]; exact Nat.mod_lt _ (List.length_pos_iff.2 hl)
  exact ⟨l[m], List.getElem?_eq_getElem this, List.getElem_mem this⟩
end Go.Proofs.YtnbdalohlldnbaaGreatDoor

namespace Go.Proofs.YtnbdalohlldnbaaGreatDoor
open Go.RowKit Bd
attribute [local go_sem ↓] Go.wp_at_zero Go.wp_at_succ
/-- Where the law's loop stands. -/
structure SgR (n : Nat) (W0 : World) (bp ap sp lp : Nat) (wr : World) : Prop where
  ex : ∃ b, LA n W0 bp ap sp lp b wr ∧ SI b
set_option maxHeartbeats 4000000 in
set_option maxRecDepth 100000 in
theorem BodiesSingle_any {w : World} (hE : E2 w) (m : Nat) (hm : m < 256) (v : Value) (l : List UInt8) (hl : SlB w v l) : Calls Tryz.prog 6 #[.int .u8 m, v] w fun e w' => e = .returned (.bool true) ∧ Below w.heap.size w w' := by
  obtain ⟨a, c, rfl, hll, hcell⟩ := hl
  obtain ⟨L, hL⟩ : ∃ L, L = l.length := ⟨_, rfl⟩
  rw [← hL] at hll ⊢
  have HL := Lib.hid hL
  have HC := Lib.hid hcell
  clear hL hcell
  by_cases h20 : 20 < L
  · have h20I : (20 : Int) < (L : Int) := by omega
    have cS := Lib.hid (stands_any hE)
    clear hE
    go_enter Tryz.func6, Tryz.ntmps6
    go_wp2_with fail
    refine cS.out.mono ?_
    rintro e w1 ⟨rfl, hb1⟩
    have HB := Lib.hid hb1
    clear hb1 cS
    go_wp2_with fail
    go_ret
    exact ⟨rfl, HB.out⟩
  · have h20I : ¬ (20 : Int) < (L : Int) := by omega
    obtain ⟨k, hk⟩ : ∃ k, k = m % 10 := ⟨_, rfl⟩
    have kT : Int.tmod (m : Int) 10 = (k : Int) := by rw [Int.tmod_eq_emod_of_nonneg (by omega)]; omega
    obtain ⟨nm, hnm, hin⟩ := pick_nm (l := namesS) (by decide) m (m := k) hk
    have hk10 : (k : Int) < 10 := by omega
    have hk0 : (0 : Int) ≤ (k : Int) := by omega
    obtain ⟨W1, hW1⟩ : ∃ W, W = w.alloc (.cells (namesS.map Value.string).toArray 9) := ⟨_, rfl⟩
    have hb1 : Below w.heap.size w W1 := by rw [hW1]; exact (Below.refl _ w).alloc (Nat.le_refl _) _
    have hN1 : NmsAt W1 w.heap.size namesS := by rw [hW1]; exact nms_alloc w namesS _
    have ck := hN1 k nm hnm
    have hE1 := hE.below hb1
    obtain ⟨g, hg⟩ : ∃ g, g = w.heap.size := ⟨_, rfl⟩
    rw [← hg] at hN1 ck
    have HG := Lib.hid hg
    have HW1 : Hid (w.alloc (.cells #[.string ⟨#[98, 114]⟩, .string ⟨#[105, 109, 103]⟩, .string ⟨#[105, 110, 112, 117, 116]⟩, .string ⟨#[119, 98, 114]⟩, .string ⟨#[101, 109, 98, 101, 100]⟩, .string ⟨#[97, 114, 101, 97]⟩, .string ⟨#[104, 114]⟩, .string ⟨#[112, 97, 114, 97, 109]⟩, .string ⟨#[115, 111, 117, 114, 99, 101]⟩, .string ⟨#[116, 114, 97, 99, 107]⟩] 9) = W1) := Lib.hid (by rw [hW1]; rfl)
    have HK := Lib.hid hk
    have HH := Lib.hid (⟨hin, hb1, hN1, hE1⟩ : _ ∧ _ ∧ _ ∧ _)
    clear hk hnm hW1 hg hE hin hb1 hN1 hE1
    go_enter Tryz.func6, Tryz.ntmps6
    go_upto_region 4 with fail
    rw [HW1.out, ← HG.out]
    have cO := Lib.hid (LA.opened HH.out.2.2.2)
    go_wp2_with fail
    refine cO.out.mono ?_
    rintro e w2 ⟨bp, ap, sp, lp, rp, rfl, A2⟩
    have HA := Lib.hid A2
    clear cO A2
    go_wp2_with fail
    refine (tstart_any nm _).mono ?_
    rintro e w3 ⟨rfl, hb3⟩
    have A3 := HA.out.below hb3
    have hD1 : Drv stpI (fun b => SI b ∧ ∃ n, Okb n b) 65 [startT nm] := drvI (fun t ht => by rw [List.mem_singleton.1 ht]; exact .st nm HH.out.1)
    have cD := Lib.hid (A3.does [startT nm] 24 1 HH.out.2.2.2 hD1 (of_decide_eq_true rfl) ⟨si_opened, _, A3.okb⟩ (of_decide_eq_true rfl))
    have hS4 := hD1.fold [startT nm] (b := Bd.opened) (fun _ h => h) ⟨si_opened, _, A3.okb⟩
    generalize ([startT nm] : List TokL).foldl (doesT stpI) Bd.opened = b4 at *
    have HS := Lib.hid hS4
    clear HA A3 hb3 hD1 hS4
    go_wp2_with fail
    refine cD.out.mono ?_
    rintro e w4 ⟨rfl, A4⟩
    have hb5 : Below w4.heap.size w4 (w4.alloc (.cells #[.string nm] 9)) := (Below.refl _ w4).alloc (Nat.le_refl _) _
    have A5 := A4.below hb5
    have cI := A5.is (NmAt.one w4 nm)
    rw [HS.out.1.is, (beq_eq_false_iff_ne.2 (fun e => by have := (names_ok HH.out.1).2.2.2.1; rw [e] at this; simp at this) : (nm == bodyS) = false)] at cI
    have CI := Lib.hid cI
    have HA := Lib.hid A5
    clear cD A4 hb5 A5 cI
    go_wp2_with fail
    refine CI.out.mono ?_
    rintro e w6 ⟨rfl, hb6⟩
    have A6 := HA.out.below hb6
    have hb7 : Below w6.heap.size w6 (w6.alloc (.cells #[.string bodyS] 9)) := (Below.refl _ w6).alloc (Nat.le_refl _) _
    have A7 := A6.below hb7
    have cI := A7.is (NmAt.one w6 bodyS)
    rw [HS.out.1.is, show (bodyS == bodyS) = true from by decide] at cI
    have CI2 := Lib.hid cI
    have HA2 := Lib.hid A7
    clear CI HA A6 hb7 A7 cI hb6
    go_wp2_with fail
    refine CI2.out.mono ?_
    rintro e w8 ⟨rfl, hb8⟩
    have HR0 : Hid (SgR (134 + 390 * 0) W1 bp ap sp lp w8) := Lib.hid ⟨b4, HA2.out.below hb8, HS.out.1⟩
    clear CI2 HA2 HS hb8
    clear b4
    go_wp2_with fail
    go_loopw [9] (fun u wr => ∃ i : Nat, u = .int .i64 i ∧ i ≤ L ∧ Hid (SgR (134 + 390 * i) W1 bp ap sp lp wr)) (fun u _ => L - (intOf u).toNat)
    case atStart => exact ⟨0, rfl, Nat.zero_le _, HR0⟩
    case round =>
      obtain ⟨i, rfl, hi, HR⟩ := hrel
      clear HR0
      by_cases hlt : i < L
      · have hltI : (i : Int) < (L : Int) := by omega
        have hi0 : (0 : Int) ≤ (i : Int) := by omega
        obtain ⟨x, hx⟩ : ∃ x, l[i]? = some x := ⟨_, List.getElem?_eq_getElem (by rw [← HL.out]; exact hlt)⟩
        obtain ⟨b, hA, hS⟩ := HR.out.ex
        obtain ⟨Bx, off, rfl, hBx, hc1⟩ := HC.out i x hx
        have hbw := below_call HH.out.2.1 hA.base
        have hcr : wr.cell? ⟨Bx, off + i, none⟩ = some (.int .u8 x.toNat) := by rw [hbw.cell (p := ⟨Bx, off + i, none⟩) hBx]; exact hc1
        obtain ⟨r, hr⟩ : ∃ r, r = x.toNat % 10 := ⟨_, rfl⟩
        have rT : Int.tmod (x.toNat : Int) 10 = (r : Int) := by rw [Int.tmod_eq_emod_of_nonneg (by omega)]; omega
        obtain ⟨nm2, hnm2, hin2⟩ := pick_nm (l := namesS) (by decide) x.toNat (m := r) hr
        have cr := (HH.out.2.2.1.below hA.base) r nm2 hnm2
        have hx255 := x.toNat_lt
        have hr10 : (r : Int) < 10 := by omega
        have hr0 : (0 : Int) ≤ (r : Int) := by omega
        have HA := Lib.hid (⟨hA, hS, hin2⟩ : _ ∧ _ ∧ _)
        clear hA hS hx hc1 hBx hbw hr hnm2 hin2 HR ck
        go_wp2_with fail
        refine (tstart_any nm2 _).mono ?_
        rintro e w3 ⟨rfl, hb3⟩
        have A3 := HA.out.1.below hb3
        have HA3 := Lib.hid A3
        clear hb3 A3 hcr cr
        go_wp2_with fail
        refine (tchars_any _ _).mono ?_
        rintro e w4 ⟨rfl, hb4⟩
        have HA4 := Lib.hid (HA3.out.below hb4)
        clear hb4 HA3
        go_wp2_with fail
        refine (tend_any nm _).mono ?_
        rintro e w5 ⟨rfl, hb5⟩
        have A5 := HA4.out.below hb5
        have hD : Drv stpI (fun b => SI b ∧ ∃ n, Okb n b) 65 [startT nm2, charsT ⟨#[116]⟩, endT nm] := drvI (fun t ht => by
          simp only [List.mem_cons, List.not_mem_nil, or_false] at ht
          rcases ht with rfl | rfl | rfl
          · exact .st nm2 HA.out.2.2
          · exact .ch
          · exact .en nm HH.out.1)
        have cD := Lib.hid (A5.does [startT nm2, charsT ⟨#[116]⟩, endT nm] 24 3 HH.out.2.2.2 hD (of_decide_eq_true rfl) ⟨HA.out.2.1, _, A5.okb⟩ (by show 134 + 390 * i + 390 ≤ 90000; omega))
        have hS6 := hD.fold [startT nm2, charsT ⟨#[116]⟩, endT nm] (b := b) (fun _ h => h) ⟨HA.out.2.1, _, A5.okb⟩
        generalize ([startT nm2, charsT ⟨#[116]⟩, endT nm] : List TokL).foldl (doesT stpI) b = b6 at *
        have HS := Lib.hid hS6
        clear HA HA4 A5 hb5 hD hS6
        go_wp2_with fail
        refine cD.out.mono ?_
        rintro e w6 ⟨rfl, A6⟩
        have HR6 : Hid (SgR (134 + 390 * (i + 1)) W1 bp ap sp lp w6) := Lib.hid ⟨b6, A6, HS.out.1⟩
        clear cD A6 HS
        go_wp2_with fail
        go_roundw
        case rel => exact ⟨i + 1, by go_num, by omega, HR6⟩
        case measure => simp [intOf]; omega
      · have hltI : ¬ (i : Int) < (L : Int) := by omega
        obtain ⟨b, hA, hS⟩ := HR.out.ex
        have cA := Lib.hid hA.arena
        have cT := Lib.hid hA.tree
        have HA := Lib.hid (⟨hA, hS⟩ : _ ∧ _)
        clear hA hS HR ck
        go_wp2_with fail
        refine cA.out.mono ?_
        rintro e w3 ⟨rfl, rfl⟩
        go_wp2_with fail
        refine cT.out.mono ?_
        rintro e w4 ⟨tv, tl, rfl, htl, hT, hb4⟩
        obtain ⟨ta, tc, rfl⟩ := hT.form
        have hA4 := HA.out.1.below hb4
        have htlen : tl.length ≤ 90000 := by
          obtain ⟨own, q1, _, _⟩ := hA4.ex
          have h1 := q1.G.len
          have h2 := q1.N
          rw [← htl, List.length_map] at h1
          omega
        obtain ⟨N, hN⟩ : ∃ N, N = tl.length := ⟨_, rfl⟩
        rw [← hN] at htlen ⊢
        have HT := Lib.hid (⟨htl, hT, hA4, HA.out.2, hN⟩ : _ ∧ _ ∧ _ ∧ _ ∧ _)
        clear cA cT hb4 htl hT hA4 HA hN
        go_wp2_with fail
        go_loopw [11] (fun u wr => ∃ j : Nat, u = .int .i64 j ∧ j ≤ N ∧ Hid (wr = w4)) (fun u _ => N - (intOf u).toNat)
        case atStart => exact ⟨0, rfl, Nat.zero_le _, Lib.hid rfl⟩
        case round =>
          obtain ⟨j, rfl, hj, hw⟩ := hrel
          obtain rfl := hw.out
          clear hw
          by_cases hlt2 : j < N
          · have hltJ : (j : Int) < (N : Int) := by omega
            have hj0 : (0 : Int) ≤ (j : Int) := by omega
            obtain ⟨y, hy⟩ : ∃ y, tl[j]? = some y := ⟨_, List.getElem?_eq_getElem (by rw [← HT.out.2.2.2.2]; exact hlt2)⟩
            have hsi := HT.out.2.2.2.1
            have hlast : y.n.name = nm → y.n.kids = [] := fun e => hsi.last HH.out.1 (by rw [← HT.out.1]; exact List.mem_map_of_mem (List.mem_of_getElem? hy)) e
            obtain ⟨ka, kc, ek, _⟩ := (HT.out.2.1.k y (List.mem_of_getElem? hy)).1
            obtain ⟨g2, cap, e2, hcap, hg2, hcl⟩ := HT.out.2.1.cells hy
            injection e2 with e3 e4 e5
            subst e3
            have c1 := hcl 1 (.string y.n.name) rfl
            have c8 := hcl 8 y.kv rfl
            rw [ek] at c8
            clear hsi hy e4 e5 hcap hg2 hcl
            by_cases hq : y.n.name = nm
            · rw [hlast hq] at c8
              rw [hq] at c1
              clear hlast hq ek
              go_wp2_with fail
              go_roundw
              case rel => exact ⟨j + 1, by go_num, by omega, Lib.hid (by trivial)⟩
              case measure => simp [intOf]; omega
            · have hbq : ¬ (ByteArray.toList y.n.name = ByteArray.toList nm) := fun e => hq (toList_inj e)
              clear hlast hq ek
              generalize y.n.name = nx at *
              go_wp2_with fail
              go_roundw
              case rel => exact ⟨j + 1, by go_num, by omega, Lib.hid (by trivial)⟩
              case measure => simp [intOf]; omega
          · have hltJ : ¬ (j : Int) < (N : Int) := by omega
            have cS := Lib.hid HT.out.2.2.1.stack
            have cL := HT.out.2.2.1.slen
            rw [HT.out.2.2.2.1.st] at cL
            have CL := Lib.hid cL
            have cT := Lib.hid (stands_any (HH.out.2.2.2.below HT.out.2.2.1.base))
            have HB := Lib.hid (below_call HH.out.2.1 HT.out.2.2.1.base)
            clear HT cL
            go_wp2_with fail
            refine cS.out.mono ?_
            rintro e w7 ⟨rfl, rfl⟩
            go_wp2_with fail
            refine CL.out.mono ?_
            rintro e w7 ⟨rfl, rfl⟩
            go_wp2_with fail
            refine cT.out.mono ?_
            rintro e w8 ⟨rfl, hb8⟩
            have HF := Lib.hid (below_call HB.out hb8)
            clear cS CL cT hb8
            go_wp2_with fail
            go_ret
            exact ⟨rfl, HF.out⟩
theorem bodiesSingle_any (m : Nat) (v : Value) (l : List UInt8) (w : World) (hm : m < 256) (hl : SlB w v l) (hE : E2 w) : Calls Tryz.prog 6 #[.int .u8 m, v] w (RBool true w) := BodiesSingle_any hE m hm v l hl
end Go.Proofs.YtnbdalohlldnbaaGreatDoor

set_option maxRecDepth 100000
namespace Go.Proofs.YtnbdalohlldnbaaGreatDoor
open Go.ChangeShapes Go.WideShapes Go.ChangeAt Go.RowKit
theorem laid_reads {l : List (String × DataW Unit)} {W : World} (h : laidMetH Tryz.prog l W) {n : String} {d : DataW Unit} (hm : (n, d) ∈ l) (hn : d.handleName?.isNone = true) : Lib.VarReads Tryz.prog W n d :=
  Lib.laidMet.reads (laidMetH_iff.1 h).1 (List.mem_filter.2 ⟨hm, hn⟩)
theorem tab_of_reads {W : World} {name : String} {k : IntKind} {zs : List Int} {g : Nat} {t e : TypeId} {n : Nat}
    (hg : Tryz.prog.globalNamed name = some g) (hty : (Tryz.prog.globals[g]?).map (·.type) = some t) (ht : Tryz.prog.underlying t = some (.array n e)) (he : Tryz.prog.underlying e = some (.int k)) (hce : Tryz.prog.cellsOf e = 1) (hct : Tryz.prog.cellsOf t = n)
    (h : Lib.VarReads Tryz.prog W name (Lib.tabData k zs)) : Lib.TabIs Tryz.prog W name k zs := by
  obtain ⟨g', t', cs, fuel, p, hg', ht', hvar, hd⟩ := h
  obtain rfl := Option.some.inj (hg.symm.trans hg')
  obtain rfl := Option.some.inj (hty.symm.trans ht')
  unfold Lib.TabIs
  rw [hvar, ← Lib.cells_of_tab ht he hce hct hd]
theorem gSp : Tryz.prog.globalNamed "strings.asciiSpace" = some 1 := by kernel_rfl
theorem gSc : Tryz.prog.globalNamed "lazaret/kinds.scopes" = some 4 := by kernel_rfl
theorem cellsS1 : Tryz.prog.cellsOf 9 = 1 := by kernel_rfl
theorem cellsB1 : Tryz.prog.cellsOf 4 = 1 := by kernel_rfl
theorem cellsI1 : Tryz.prog.cellsOf 3 = 1 := by kernel_rfl
theorem cellsA1 : Tryz.prog.cellsOf 22 = 1 := by kernel_rfl
theorem sc_of_laid {W : World} (h : Lib.VarReads Tryz.prog W "lazaret/kinds.scopes" Rows.laid_lazaret_kinds_scopes) : ∀ j : Nat, j < 4 → W.cell? ⟨4, j, none⟩ = some (.string (Bd.scopesL.getD j Bd.em)) := by
  obtain ⟨g', t', cs, fuel, p, hg', ht', hvar, hd⟩ := h
  obtain rfl := Option.some.inj (gSc.symm.trans hg')
  obtain rfl := Option.some.inj ((show (Tryz.prog.globals[4]?).map (·.type) = some 192 by kernel_rfl).symm.trans ht')
  obtain ⟨xs, m, _, hx, _, hxl, hcell⟩ := DataW.trod_array Tryz.underlying192 hd
  have e : (Rows.laid_lazaret_kinds_scopes : DataW Unit) = .agg (Bd.scopesL.map fun l => .lit (.string l.data.toList)) := by kernel_rfl
  have hm := congrArg Prod.fst hx
  rw [e] at hm
  dsimp only at hm
  injection hm with hm
  intro i hi
  have h1 := hcell i hi
  rw [cellsS1, Nat.mul_one, List.getElem?_eq_getElem (by rw [hxl]; exact hi)] at h1
  obtain ⟨s, hs, hy, _⟩ := DataW.trod_string (Tryz.underlying9) h1
  have hy1 : (xs[i]'(by rw [hxl]; exact hi)).1 = .lit (.string s.data.toList) := by rw [hy]
  have hl : i < Bd.scopesL.length := hi
  have h2 : (xs.map (·.1))[i]? = (Bd.scopesL.map fun l => (.lit (.string l.data.toList) : DataW Unit))[i]? := by rw [hm]
  rw [List.getElem?_map, List.getElem?_map, List.getElem?_eq_getElem (by rw [hxl]; exact hi), List.getElem?_eq_getElem hl, Option.map_some, Option.map_some, hy1] at h2
  have h3 : s = Bd.scopesL[i] := by
    have := Option.some.inj h2
    injection this with this
    injection this with this
    exact ByteArray.ext (Array.toList_inj.1 this)
  have h4 := congrArg (fun l : List Value => l[0]?) hs
  simp only [List.getElem?_take, List.getElem?_drop, Nat.add_zero] at h4
  rw [World.var?_cell gSc hvar i, ← Array.getElem?_toList, List.getD_eq_getElem?_getD, List.getElem?_eq_getElem hl, Option.getD_some, ← h3]
  simpa using h4
theorem e2_of_laid {l : List (String × DataW Unit)} {W : World} (h : laidMetH Tryz.prog l W) (hsh : W.ShapedOpen Tryz.prog) (m1 : ("strings.asciiSpace", Rows.laid_strings_asciiSpace) ∈ l) (m2 : ("lazaret/kinds.scopes", Rows.laid_lazaret_kinds_scopes) ∈ l) : E2 W :=
  ⟨⟨cell_of_shapedOpen_int (zero := #[.int .i64 0]) (t := 3) hsh (of_decide_eq_true (by kernel_rfl)) (by kernel_rfl) rfl (by kernel_rfl) (by kernel_rfl) (Tryz.underlying3), sc_of_laid (laid_reads h m2 rfl)⟩,
    tab_of_reads gSp (t := 140) (by kernel_rfl) (Tryz.underlying140) (Tryz.underlying5) (by kernel_rfl) (by kernel_rfl) (laid_reads h m1 rfl)⟩
section
variable {H : Type} {enc : TypeId × Value → H} {W : World} {base : Nat} {sp : Nat → Bool} {hd : Bool} {v : Value} {fuel : Nat} {x : Option (DataW H × List MemPlace)}
theorem bcell_str (h : DataW.trod enc Tryz.prog W base sp hd fuel 9 [v] = x) (hx : x.isSome = true) : ∃ s : ByteArray, v = .string s := by
  obtain ⟨y, rfl⟩ := Option.isSome_iff_exists.1 hx
  obtain ⟨s, h1, _⟩ := DataW.trod_string Tryz.underlying9 h
  exact ⟨s, List.singleton_inj.1 h1⟩
theorem bcell_bool (h : DataW.trod enc Tryz.prog W base sp hd fuel 4 [v] = x) (hx : x.isSome = true) : ∃ b : Bool, v = .bool b := by
  obtain ⟨y, rfl⟩ := Option.isSome_iff_exists.1 hx
  obtain ⟨b, h1, _⟩ := DataW.trod_bool Tryz.underlying4 h
  exact ⟨b, List.singleton_inj.1 h1⟩
theorem bcell_int (h : DataW.trod enc Tryz.prog W base sp hd fuel 3 [v] = x) (hx : x.isSome = true) : ∃ n : Int, v = .int .i64 n := by
  obtain ⟨y, rfl⟩ := Option.isSome_iff_exists.1 hx
  obtain ⟨n, h1, _⟩ := DataW.trod_int Tryz.underlying3 h
  exact ⟨n, List.singleton_inj.1 h1⟩
theorem bcell_attrs (h : DataW.trod enc Tryz.prog W base sp hd fuel 22 [v] = x) (hx : x.isSome = true) : ∃ a n c, v = .slice a n c := by
  obtain ⟨y, rfl⟩ := Option.isSome_iff_exists.1 hx
  rcases DataW.trod_slice Tryz.underlying22 h with ⟨h1, _⟩ | ⟨a, len, cap, _, _, _, _, h1, _⟩
  · exact ⟨_, _, _, List.singleton_inj.1 h1⟩
  · exact ⟨_, _, _, List.singleton_inj.1 h1⟩
theorem bcell_at {f : Field} {cs : List Value} {t : TypeId} {y : Option (DataW H × List MemPlace)} (h : DataW.trod enc Tryz.prog W base sp hd fuel f.type ((cs.drop f.offset).take (Tryz.prog.cellsOf f.type)) = y) (ht : f.type = t) (hc : Tryz.prog.cellsOf t = 1) {c : Value} {r : List Value} (hd' : cs.drop f.offset = c :: r) : DataW.trod enc Tryz.prog W base sp hd fuel t [c] = y := by
  subst ht
  rw [hc, hd'] at h
  exact h
theorem len9 {α : Type} {l : List α} (h : l.length = 9) : ∃ a b c d e f g i j, l = [a, b, c, d, e, f, g, i, j] := by
  match l, h with
  | [a, b, c, d, e, f, g, i, j], _ => exact ⟨a, b, c, d, e, f, g, i, j, rfl⟩
theorem cellsTok : Tryz.prog.cellsOf 24 = 9 := by kernel_rfl
set_option maxRecDepth 100000 in
/-- A token that came in. -/
theorem tok_of {d : DataW H} {ps : List MemPlace} {r : Reach} {b0 : Nat} (hv : Value.okWide Tryz.prog W r b0 24 v) (h : DataW.Trod enc Tryz.prog W base sp hd 24 v d ps) :
    ∃ (kd fr tt : Int) (nm tx0 : ByteArray) (a : Option Addr) (n c : Nat) (dp se qu : Bool), v = .agg #[.int .i64 kd, .string nm, .string tx0, .slice a n c, .bool dp, .bool se, .bool qu, .int .i64 fr, .int .i64 tt] := by
  simp only [Value.okWide, Tryz.underlying24] at hv
  obtain ⟨⟨cs⟩, rfl, hsz, _⟩ := hv
  rw [cellsTok] at hsz
  obtain ⟨fuel, hf⟩ := h
  obtain ⟨a, b, c, e, f, g, i, j, k, rfl⟩ := len9 hsz
  obtain ⟨xs, n, _, _, _, hlen, hx⟩ := DataW.trod_struct Tryz.underlying24 (show DataW.trod enc Tryz.prog W base sp hd fuel 24 [a, b, c, e, f, g, i, j, k] = some (d, ps) from hf)
  have hsome : ∀ i, i < 9 → xs[i]?.isSome = true := fun i hi => by rw [List.getElem?_eq_getElem (by rw [hlen]; exact hi)]; rfl
  obtain ⟨kd, rfl⟩ := bcell_int (bcell_at (hx 0 _ rfl) rfl cellsI1 rfl) (hsome 0 (by omega))
  obtain ⟨nm, rfl⟩ := bcell_str (bcell_at (hx 1 _ rfl) rfl cellsS1 rfl) (hsome 1 (by omega))
  obtain ⟨tx0, rfl⟩ := bcell_str (bcell_at (hx 2 _ rfl) rfl cellsS1 rfl) (hsome 2 (by omega))
  obtain ⟨a0, n0, c0, rfl⟩ := bcell_attrs (bcell_at (hx 3 _ rfl) rfl cellsA1 rfl) (hsome 3 (by omega))
  obtain ⟨dp, rfl⟩ := bcell_bool (bcell_at (hx 4 _ rfl) rfl cellsB1 rfl) (hsome 4 (by omega))
  obtain ⟨se, rfl⟩ := bcell_bool (bcell_at (hx 5 _ rfl) rfl cellsB1 rfl) (hsome 5 (by omega))
  obtain ⟨qu, rfl⟩ := bcell_bool (bcell_at (hx 6 _ rfl) rfl cellsB1 rfl) (hsome 6 (by omega))
  obtain ⟨fr, rfl⟩ := bcell_int (bcell_at (hx 7 _ rfl) rfl cellsI1 rfl) (hsome 7 (by omega))
  obtain ⟨tt, rfl⟩ := bcell_int (bcell_at (hx 8 _ rfl) rfl cellsI1 rfl) (hsome 8 (by omega))
  exact ⟨kd, fr, tt, nm, tx0, a0, n0, c0, dp, se, qu, rfl⟩
end
end Go.Proofs.YtnbdalohlldnbaaGreatDoor

set_option maxRecDepth 100000
namespace Go.Proofs.YtnbdalohlldnbaaGreatDoor
open Go.ChangeShapes Go.WideShapes Go.ChangeAt Go.RowKit
theorem laidOut : laidOutB Tryz.prog = true := by kernel_rfl
/-- The arguments read behind the call as they did. -/
theorem trodAll_below {H : Type} {enc : TypeId × Value → H} {W W' : World} (hb : Below W.heap.size W W') : ∀ {ts : List TypeId} {vs : List Value} {ds : List (DataW H)} {ps : List MemPlace},
    (∀ t ∈ ts, Tryz.prog.readableRec t = true ∧ t < Tryz.prog.types.size) → DataW.TrodAll enc Tryz.prog W 0 (fun _ => true) true ts vs ds ps → (∀ x ∈ ps, x.block < W.heap.size) →
    DataW.TrodAll enc Tryz.prog W' 0 (fun b => decide (b < W.heap.size)) true ts vs ds ps
  | [], [], [], _, _, h, _ => h
  | t :: ts, v :: vs, d :: ds, ps, ht, ⟨p, q, h1, h2, e⟩, hlt =>
    ⟨p, q, Below.trod laidOut (ht t (by simp)).1 (ht t (by simp)).2 h1 hb (fun x hx => hlt x (by rw [e]; exact List.mem_append_left _ hx)),
      trodAll_below hb (fun t' h' => ht t' (by simp [h'])) h2 (fun x hx => hlt x (by rw [e]; exact List.mem_append_right _ hx)), e⟩
  | [], _ :: _, _, _, _, h, _ => by simp [DataW.TrodAll] at h
  | [], [], _ :: _, _, _, h, _ => by simp [DataW.TrodAll] at h
  | _ :: _, [], _, _, _, h, _ => by simp [DataW.TrodAll] at h
  | _ :: _, _ :: _, [], _, _, h, _ => by simp [DataW.TrodAll] at h

theorem ownU : ownKnob Tryz.prog.godebug = none := by kernel_rfl
theorem e2_row {W : World} (h : laidMetH Tryz.prog Rows.bodiesNoneRow.laid W) (hsh : W.ShapedOpen Tryz.prog) : E2 W := e2_of_laid h hsh (.tail _ (.head _)) (.tail _ (.tail _ (.head _)))
/-- The witness starts where the door's own run ends. -/
noncomputable def startU (os : Os) : World := World.doorLaid Tryz.prog 200 os
theorem metU (os : Os) (args : Array Value) : laidMetH Tryz.prog Rows.bodiesNoneRow.laid ((startU os).forCall (fun _ _ => 0) ⟨#[], args, []⟩).memory :=
  laidMetH_of_parts3 (fuel := 8) (laidMet_of_run3 8 (by kernel_rfl) (by kernel_rfl) (by kernel_rfl)) (by kernel_rfl) (by kernel_rfl)
/-! What every row asks of the program, fact by fact: together they outgrow the kernel's memory. -/
theorem andI {a b : Bool} (h1 : a = true) (h2 : b = true) : (a && b) = true := by rw [h1, h2]; rfl
theorem mayU : Tryz.prog.mayEnter = true := by kernel_rfl
theorem liftU : (Rows.bodiesNoneRow.lifted == Tryz.prog.liftsFinal) = true := by kernel_rfl
theorem makeU : (Tryz.prog.make == some Rows.bodiesNoneRow.make) = true := by kernel_rfl
theorem mapsU : mapsRowed Tryz.prog = true := by kernel_rfl
theorem keysU : (Rows.bodiesNoneRow.plainKeys == Tryz.prog.plainKeys) = true := by kernel_rfl
theorem heardU : Tryz.prog.stopsHeard = true := by kernel_rfl
/-- A token that came in, by its parts. -/
structure TokI where
  kd : Int
  fr : Int
  tt : Int
  nm : ByteArray
  tx : ByteArray
  a : Option Addr
  n : Nat
  c : Nat
  dp : Bool
  se : Bool
  qu : Bool
def TokI.val (x : TokI) : Value := .agg #[.int .i64 x.kd, .string x.nm, .string x.tx, .slice x.a x.n x.c, .bool x.dp, .bool x.se, .bool x.qu, .int .i64 x.fr, .int .i64 x.tt]
theorem tokI_of {H : Type} {enc : TypeId × Value → H} {W : World} {base : Nat} {sp : Nat → Bool} {hd : Bool} {v : Value} {d : DataW H} {ps : List MemPlace} {r : Reach} {b0 : Nat} (hv : Value.okWide Tryz.prog W r b0 24 v) (h : DataW.Trod enc Tryz.prog W base sp hd 24 v d ps) : ∃ x : TokI, v = x.val := by
  obtain ⟨kd, fr, tt, nm, tx0, a, n, c, dp, se, qu, rfl⟩ := tok_of hv h
  exact ⟨⟨kd, fr, tt, nm, tx0, a, n, c, dp, se, qu⟩, rfl⟩
theorem bodiesNone_any (x : TokI) (w : World) (hE : E2 w) : Calls Tryz.prog 3 #[x.val] w (RBool true w) := BodiesNone_any hE x.kd x.fr x.tt x.nm x.tx x.a x.n x.c x.dp x.se x.qu
end Go.Proofs.YtnbdalohlldnbaaGreatDoor

namespace Go.Proofs.YtnbdalohlldnbaaGreatDoor
open Go.ChangeShapes Go.WideShapes Go.ChangeAt Go.RowKit
theorem cellsU8 : Tryz.prog.cellsOf 5 = 1 := by kernel_rfl
/-- A byte that came in. -/
theorem byte_of_wf {n : Int} (h : (Lit.int .u8 n).wf = true) : 0 ≤ n ∧ n ≤ 255 := by
  simp only [Lit.wf, Bool.and_eq_true, decide_eq_true_eq] at h
  have h0 : IntKind.u8.min = 0 := by decide
  have h1 : IntKind.u8.max = 255 := by decide
  rw [h0, h1] at h
  exact h

set_option maxRecDepth 100000 in
/-- A slice of bytes that came in, as its cell. -/
theorem slB_cell {H : Type} {enc : TypeId × Value → H} {W : World} {base : Nat} {sp : Nat → Bool} {hd : Bool} {v : Value} {x : DataW H × List MemPlace} {fuel : Nat}
    (hf : DataW.trod enc Tryz.prog W base sp hd fuel 39 [v] = some x) : ∃ l, SlB W v l := by
  rcases open_ints Tryz.underlying39 Tryz.underlying5 cellsU8 hf with ⟨hcs, hx⟩ | ⟨a, len', cap', zs, hcs, _, hl, hm, hz, hx, hcell, hwz⟩
  · obtain rfl := List.singleton_inj.1 hcs
    exact ⟨[], none, 0, rfl, by simp, fun j b hj => by simp at hj⟩
  · obtain rfl := List.singleton_inj.1 hcs
    have hzl : len' ≤ zs.length := by rw [hz]; split <;> omega
    have hm' : cap' ≤ 9223372036854775807 := hm
    have hlen : ((zs.take len').map (fun z => UInt8.ofNat z.toNat)).length = len' := by simp; omega
    refine ⟨(zs.take len').map (fun z => UInt8.ofNat z.toNat), some a, cap', by rw [hlen], by rw [hlen]; omega, fun j b hj => ?_⟩
    have hjl : j < len' := by
      have := (List.getElem?_eq_some_iff.1 hj).1
      rw [hlen] at this; exact this
    obtain ⟨B, off, rfl, hc⟩ := ints_at hcell (by omega)
    have h1 := hc j (by omega)
    refine ⟨B, off, rfl, World.block_lt_of_cell? _ _ h1, ?_⟩
    rw [h1]
    have hzj : zs[j]? = some (zs.getD j 0) := by
      rw [List.getD_eq_getElem?_getD, List.getElem?_eq_getElem (by omega)]; rfl
    have hb : b = UInt8.ofNat (zs.getD j 0).toNat := by
      rw [List.getElem?_map, List.getElem?_take, if_pos hjl, hzj] at hj
      exact (Option.some.inj hj).symm
    obtain ⟨w0, w1⟩ := byte_of_wf (hwz _ (List.mem_of_getElem? hzj))
    rw [hb, UInt8.toNat_ofNat']
    congr 2
    omega
set_option maxRecDepth 100000 in
/-- A slice of bytes that came in. -/
theorem slB_of {H : Type} {enc : TypeId × Value → H} {W : World} {base : Nat} {sp : Nat → Bool} {hd : Bool} {v : Value} {d : DataW H} {ps : List MemPlace} {r : Reach} {b0 : Nat}
    (hv : Value.okWide Tryz.prog W r b0 39 v) (h : DataW.Trod enc Tryz.prog W base sp hd 39 v d ps) : ∃ l, SlB W v l := by
  obtain ⟨a0, len, cap, rfl⟩ := okWide_slice Tryz.underlying39 hv
  obtain ⟨fuel, hf⟩ := h
  exact slB_cell hf
theorem nat_of_wf' {k : IntKind} {n : Int} (h : (Lit.int k n).wf = true) (hm : k.min = 0) : ∃ m : Nat, n = (m : Int) ∧ (m : Int) ≤ k.max := by
  simp only [Lit.wf, Bool.and_eq_true, decide_eq_true_eq] at h
  rw [hm] at h
  exact ⟨n.toNat, by omega, by omega⟩
theorem nat8_of_wf' {n : Int} (h : (Lit.int .u8 n).wf = true) : ∃ m : Nat, n = (m : Int) ∧ m < 256 := by
  obtain ⟨m, rfl, h1⟩ := nat_of_wf' h (by decide)
  rw [show IntKind.u8.max = 255 by decide] at h1
  exact ⟨m, rfl, by omega⟩
end Go.Proofs.YtnbdalohlldnbaaGreatDoor

namespace Go.Proofs.YtnbdalohlldnbaaGreatDoor.bodiesSingle
open Go.ChangeShapes Go.WideShapes Go.ChangeAt Go.RowKit Go.Proofs.YtnbdalohlldnbaaGreatDoor

theorem walk (m0 : Nat) (v1 : Value) (l1 : List UInt8) (w : World) (hm0 : m0 < 256) (i1 : SlB w v1 l1) (hE : E2 w) : Calls Tryz.prog 6 #[.int .u8 m0, v1] w (RBool true w) := bodiesSingle_any m0 v1 l1 w hm0 i1 hE

theorem env {W : World} (h : laidMetH Tryz.prog Rows.bodiesNoneRow.laid W) (hsh : W.ShapedOpen Tryz.prog) : E2 W := e2_row h hsh

set_option maxRecDepth 100000 in
/-- WHAT THE WALK GIVES, FOR EVERY ARGUMENT AND EVERY WORLD THAT HOLDS WHAT THE ROW LISTS. -/
theorem contract (H : Type) (enc : TypeId × Value → H) (W : World) (base : Nat) (args : Array Value) (ds gs : List (DataW H)) (before : List MemPlace)
    (hval : ∀ (j : Nat) t v, Tryz.f6.params[j]? = some t → args[j]? = some v → Value.okWide Tryz.prog W .any base t v)
    (hW : DataW.Whole enc Tryz.prog Tryz.f6.params.toList Rows.bodiesSingleSpec.vars false W args.toList ds gs before) (hL : laidMetH Tryz.prog Rows.bodiesSingleRow.laid W) (hsh : W.ShapedOpen Tryz.prog) :
    Calls Tryz.prog 6 args W fun e W' => ∃ v, e = .returned v ∧ Rows.bodiesSingleSpec.post enc Tryz.prog Tryz.f6 false true false false W args v W' := by
  have hW' := hW
  obtain ⟨p, q, hA0, hV, rfl, hfz, hnd⟩ := hW
  have hA : DataW.TrodAll enc Tryz.prog W 0 (fun _ => true) true Tryz.f6.params.toList args.toList ds p := hA0
  rw [Tryz.params6] at hA hval
  have hAk := hA
  have hlt : ∀ x ∈ p, x.block < W.heap.size := fun x hx => hW'.lt x (List.mem_append_left _ hx)
  obtain ⟨v0, v1, d0, d1, p0, p1, rfl, rfl, rfl, h0, h1⟩ := trodAll_two hA
  obtain ⟨rfl, rfl⟩ := trodVars_none hV
  obtain ⟨z0, rfl, rfl, rfl, hz0⟩ := open_int Tryz.underlying5 (hval 0 5 v0 rfl rfl) h0
  obtain ⟨m0, rfl, hm0⟩ := nat8_of_wf' hz0
  obtain ⟨l1, i1⟩ := slB_of (hval 1 39 v1 rfl rfl) h1
  clear hA0
  refine (walk m0 v1 l1 W hm0 i1 (env hL hsh)).mono fun e W' hr => ?_
  obtain ⟨he, hb⟩ : e = .returned (.bool true) ∧ Below W.heap.size W W' := hr
  subst he
  refine ⟨_, rfl, _, _, _, [], [] ++ p1, [], hW', ?_, ?_, ?_, hb.frame _, ?_⟩
  · exact trodAll_mk1 (shut_bool Tryz.underlying4 true)
  · exact trodAll_below hb (by decide +kernel) hAk hlt
  · rfl
  · exact fun h => by cases h

theorem met (os : Os) (args : Array Value) : laidMetH Tryz.prog Rows.bodiesSingleRow.laid ((startU os).forCall (fun _ _ => 0) ⟨#[], args, []⟩).memory := metU os args
theorem reads (os : Os) {H : Type} (enc : TypeId × Value → H) : ∃ places, DataW.whole enc Tryz.prog ((startU os).forCall (fun _ _ => 0) ⟨#[], #[.int .u8 0, .slice none 0 0], []⟩).memory Tryz.f6.params.toList Rows.bodiesSingleSpec.vars false #[Value.int .u8 0, .slice none 0 0].toList 8 = some ([.lit (.int .u8 0), .nil], [], places) :=
  ⟨[], by kernel_rfl⟩

set_option maxRecDepth 100000 in
theorem lifted (os : Os) (started : os.Started) (H : Type) (enc : TypeId × Value → H) (F : Stop.Interp) :
    ReturnsInHanded {} Tryz.checked os 6 .any ((OpenSpec.ofChange Rows.bodiesSingleSpec).preRow enc Tryz.prog Tryz.f6 Rows.bodiesSingleRow.domain false Rows.bodiesSingleRow.laid) (((OpenSpec.ofChange Rows.bodiesSingleSpec).at F).post enc Tryz.prog Tryz.f6 false true false false) := by
  obtain ⟨places, hx⟩ := reads os enc
  refine returnsInHanded_of_row (C := Tryz.checked) (s := OpenSpec.ofChange Rows.bodiesSingleSpec) ownU started (by kernel_rfl) Tryz.func6
    (witness_row_atRef (enc := enc) (C := Tryz.checked) false (startU os) #[.int .u8 0, .slice none 0 0] rfl (by kernel_rfl) (by kernel_rfl) (by kernel_rfl)
      (OpenSpec.preRow_of_cond 8 hx (by kernel_rfl) (fun k hk => by cases hk) (by kernel_rfl) (met os _))) ?_
  intro W base args ds gs before hval hW _ _ _ hL hsh _
  exact contract H enc W base args ds gs before hval hW hL hsh

theorem c1 : Rows.bodiesSingleRow.wf (OpenSpec.ofChange Rows.bodiesSingleSpec) = true := by kernel_rfl
theorem c2 : namedTie Tryz.prog Rows.bodiesSingleRow.named Rows.bodiesSingleSpec.vars = true := by kernel_rfl
theorem c3 : (Rows.bodiesSingleRow.inPlace == Tryz.prog.inPlace 6) = true := by kernel_rfl
theorem c4 : (Rows.bodiesSingleRow.unfollowed == Tryz.prog.unfollowed 6) = true := by kernel_rfl
theorem c5 : (Rows.bodiesSingleRow.recurses == Tryz.prog.recurses 6) = true := by kernel_rfl
theorem c6 : (Rows.bodiesSingleRow.named == Tryz.prog.varsNamed 6) = true := by kernel_rfl
theorem c7 : (Rows.bodiesSingleRow.lifted == Tryz.prog.liftsFinal) = true := liftU
theorem c8 : (Tryz.prog.make == some Rows.bodiesSingleRow.make) = true := makeU
theorem c9 : (Rows.bodiesSingleRow.plainKeys == Tryz.prog.plainKeys) = true := keysU
theorem closed : joinedFacts Tryz.prog 6 Tryz.f6 Rows.bodiesSingleSpec Rows.bodiesSingleRow = true := by
  unfold joinedFacts
  repeat' (with_reducible refine andI ?_ ?_)
  all_goals first
    | with_reducible exact c1 | with_reducible exact laidOut | with_reducible exact mapsU | with_reducible exact c2 | with_reducible exact c3 | with_reducible exact c4 | with_reducible exact c5 | with_reducible exact c6
    | with_reducible exact c9 | with_reducible exact heardU | with_reducible exact mayU | with_reducible exact c7 | with_reducible exact c8
    | kernel_rfl
set_option maxRecDepth 100000 in
theorem said : Rows.BodiesSingleSaid :=
  OpenClaim.holds_of_cond 6 Tryz.f6 rfl rfl rfl rfl rfl rfl rfl ⟨rfl, rfl, rfl, rfl, rfl⟩ rfl rfl rfl rfl rfl (by kernel_rfl) Tryz.func6 closed
    (of_decide_eq_true (by kernel_rfl)) (by unfold Func.isWrapper; first | (rw [if_pos (by decide +kernel)]; kernel_rfl) | (rw [if_neg (by decide +kernel)]; exact ⟨rfl, rfl⟩))
    (fun os started H enc _ F => by rw [OpenClaim.pre_eq_preRow]; exact lifted os started H enc F)

theorem plain (f : FuncId) (fn : Func) (hf : Tryz.pinned.checked.prog.funcNamed "lazaret/lazaretlaw20.BodiesSingle" = some f) (hfn : Tryz.pinned.checked.prog.funcs[f]? = some fn) :
    false = Tryz.pinned.checked.prog.looks [] ∧ ∀ (j : Nat) t, fn.params[j]? = some t → Tryz.pinned.checked.prog.wantsStandIn t = false := by
  obtain rfl : f = 6 := Option.some.inj ((show Tryz.prog.funcNamed "lazaret/lazaretlaw20.BodiesSingle" = some 6 by kernel_rfl).symm.trans hf) |>.symm
  obtain rfl : fn = Tryz.f6 := (Option.some.inj (Tryz.func6.symm.trans hfn)).symm
  refine ⟨by kernel_rfl, fun j t ht => ?_⟩
  rw [Tryz.params6] at ht
  have hall : ∀ t ∈ (#[5, 39] : Array TypeId), Tryz.prog.wantsStandIn t = false := by decide +kernel
  exact hall t (Array.mem_of_getElem? ht)

theorem card : Rows.BodiesSingleCardSaid :=
  Claim7.holds_tied_plain_at .later [] _ _ _ _ said (fun _ h => by cases h) (by kernel_rfl) (fun _ h => by cases h) bodiesSingle_row_tie rfl ⟨rfl, rfl⟩ (by kernel_rfl) rfl plain (by kernel_rfl)
end Go.Proofs.YtnbdalohlldnbaaGreatDoor.bodiesSingle
