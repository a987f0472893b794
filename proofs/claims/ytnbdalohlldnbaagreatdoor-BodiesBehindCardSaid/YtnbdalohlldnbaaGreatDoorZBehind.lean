/-
  Plain laws: a new node put behind all in another one, in one go; what an act of the builder is then. No condition.
  Plain laws: an element that has no end (the law BodiesSingle). No condition.
  Plain laws: what comes behind the body's end (the law BodiesBehind). No condition.
  Package builder: Comment; package bodies: endBody, behind, Step behind the body. Printed by wip/mkbi2.py.
  What the walks of the laws of lazaretlaw20 share: a builder beside what lay ahead of it; does; names picked out of a list.
  The law BodiesBehind.
  From the rows of lazaretlaw20 to what the walks ask: the scopes, the table of blanks; a token that came in.
  What the rows of lazaretlaw20 share: what is laid, and a world that a witness starts in.
  What the rows of lazaretlaw20 open: numbers of eight bits, slices of bytes.
  The statement and the card of lazaretlaw20.BodiesBehind: whatever comes in, the law returns true, and what came in reads as it did.
-/
import Derived.Test.YtnbdalohlldnbaaGreatDoorM08
import Derived.Test.YtnbdalohlldnbaaGreatDoorM18
import Derived.Test.YtnbdalohlldnbaaGreatDoorRows
import Derived.ProofKit
import Derived.OpenShut
import Derived.Deep.DeepHandedRow
import Derived.Deep.DeepWitnessRowRef
import Derived.Lib.LaidTab
import Derived.Lib.LaidU8
import Derived.LaidMore
import Derived.LaidSub
import Derived.LaidHandle
import Derived.Shelf.Vars
import Derived.PinnedBridge
import Derived.Carry
import Derived.Deep.DeepLaidRun
import Derived.Test.YtnbdalohlldnbaaGreatDoorCards
import Derived.Test.YtnbdalohlldnbaaGreatDoorTie
namespace Bd
open Go
def insA (a : Ar) (p : Nat) (n : NodeL) : Ar := (a.modify p fun x => { x with kids := x.kids ++ [(a.length : Int)] }) ++ [{ bare n with parent := (p : Int) }]
theorem insA_len (a : Ar) (p : Nat) (n : NodeL) : (insA a p n).length = a.length + 1 := by simp [insA]
theorem insA_old {a : Ar} {p : Nat} {n x : NodeL} {j : Nat} (hj : a[j]? = some x) : (insA a p n)[j]? = some (if p = j then { x with kids := x.kids ++ [(a.length : Int)] } else x) := by
  have hl : j < a.length := by
    rcases Nat.lt_or_ge j a.length with h | h
    · exact h
    · rw [List.getElem?_eq_none h] at hj; cases hj
  unfold insA
  rw [List.getElem?_append_left (by rw [List.length_modify]; exact hl), List.getElem?_modify, hj]
  split <;> rfl
theorem insA_new (a : Ar) (p : Nat) (n : NodeL) : (insA a p n)[a.length]? = some { bare n with parent := (p : Int) } := by
  unfold insA
  rw [List.getElem?_append_right (by rw [List.length_modify]; exact Nat.le_refl _), List.length_modify, Nat.sub_self]
  rfl
theorem insA_back {a : Ar} {p : Nat} {n z : NodeL} {j : Nat} (hj : (insA a p n)[j]? = some z) : (∃ x, a[j]? = some x ∧ z = if p = j then { x with kids := x.kids ++ [(a.length : Int)] } else x) ∨ (j = a.length ∧ z = { bare n with parent := (p : Int) }) := by
  rcases Nat.lt_trichotomy j a.length with h | rfl | h
  · obtain ⟨x, hx⟩ : ∃ x, a[j]? = some x := ⟨_, List.getElem?_eq_getElem h⟩
    rw [insA_old hx] at hj
    exact Or.inl ⟨x, hx, (Option.some.inj hj).symm⟩
  · rw [insA_new] at hj
    exact Or.inr ⟨rfl, (Option.some.inj hj).symm⟩
  · rw [List.getElem?_eq_none (by rw [insA_len]; omega)] at hj; cases hj
theorem ins_eq {a : Ar} (h : ArOk a) {p : Nat} {z n : NodeL} (hp : a[p]? = some z) (hz : z.kind = 3 ∨ z.kind = 1) (hk : kidK n.kind = true) (ht : isTpl n = false) : (append (add a n).1 (p : Int) (add a n).2).1 = insA a p n := by
  have hA := h.snoc n (kid6 hk) ht
  have hpo := snoc_old (y := bare n) hp
  rw [add_eq h.ne hk ht]
  unfold Bd.append
  have e1 : (a ++ [bare n]).isEmpty = false := by cases a <;> rfl
  have e2 : holds (a ++ [bare n]) (p : Int) = true := by
    unfold holds
    rw [has_nat hpo, rd_nat hpo]
    rcases hz with hz | hz <;> rw [hz] <;> rfl
  have e3 : hangs (a ++ [bare n]) (a.length : Int) = true := by
    unfold hangs
    rw [has_nat (snoc_new a (bare n)), rd_nat (snoc_new a (bare n))]
    exact hk
  dsimp only
  rw [e1, e2, e3, above_new h n hp]
  show Bd.hang (a ++ [bare n]) (p : Int) (-1) (a.length : Int) = insA a p n
  have hpl : p < a.length := by
    rcases Nat.lt_or_ge p a.length with h | h
    · exact h
    · rw [List.getElem?_eq_none h] at hp; cases hp
  refine List.ext_getElem? fun j => ?_
  rw [hang_get hA (snoc_new a (bare n))]
  have hpar : (bare n).parent = -1 := rfl
  rcases Nat.lt_trichotomy j a.length with hj | rfl | hj
  · obtain ⟨x, hx⟩ : ∃ x, a[j]? = some x := ⟨_, List.getElem?_eq_getElem hj⟩
    rw [snoc_old hx, insA_old hx, Option.map_some]
    congr 1
    unfold hangN
    rw [hpar, if_neg (show ¬ (j : Int) = -1 by omega), if_neg (show ¬ j = a.length by omega)]
    by_cases e : p = j
    · subst e; rw [if_pos rfl, if_pos rfl]
    · rw [if_neg (show ¬ j = p from fun h => e h.symm), if_neg e, List.append_nil]
  · rw [snoc_new, insA_new, Option.map_some]
    congr 1
    unfold hangN
    rw [hpar, if_neg (show ¬ (a.length : Int) = -1 by omega), if_pos rfl, if_neg (show ¬ a.length = p by omega)]
    rfl
  · rw [List.getElem?_eq_none (by simp; omega), List.getElem?_eq_none (by rw [insA_len]; omega)]; rfl
theorem node_nat {a : Ar} {j : Nat} {x : NodeL} (h : a[j]? = some x) : node a (j : Int) = x := by
  unfold node
  rw [has_nat h, rd_nat h]; rfl
theorem htmlN_tpl {n : Nat} {x : NodeL} (h : NdOk n x) : htmlN x [templateS] = false := by
  have h2 := h.1.2
  unfold htmlN
  rw [show ([templateS] : List Ba).contains x.name = false by
    rw [List.contains_cons, h2]; rfl, Bool.and_false]
theorem place_eq {n : Nat} {b : BS} (H : Okb n b) {p : Nat} {z : NodeL} (hp : b.ar[p]? = some z) : place b (p : Int) = ((p : Int), -1) := by
  unfold place
  rw [H.fos, node_nat hp]
  simp only [Bool.false_and, Bool.false_eq_true, if_false]
  rw [node_nat hp, htmlN_tpl (H.nd z (List.mem_of_getElem? hp)), Bool.and_false]
  rfl
theorem target_eq {b : BS} {p : Nat} (h : topS b.st = (p : Int)) : target b = (p : Int) := by
  unfold target
  rw [h]; omega
theorem failB_0 (b : BS) : failB b 0 = b := by
  unfold failB
  rw [show ((0 : Int) != 0) = false from rfl, Bool.and_false]; rfl
theorem insertB_eq {n : Nat} {b : BS} (H : Okb n b) {t : TokL} (ht : TokOk t) {p : Nat} {z : NodeL} (hp : b.ar[p]? = some z) (hz : z.kind = 3) (htop : topS b.st = (p : Int)) (hl : b.st.length < 512) :
    insertB b t 0 = ({ b with ar := insA b.ar p (elementT t 0), st := b.st ++ [⟨(b.ar.length : Int), 0, t.name⟩] }, (b.ar.length : Int)) := by
  have hpl : b.ar[p]? = some z := hp
  have H1 := H.add (x := elementT t 0) rfl (tok_tpl ht 0) ⟨ht, Nat.zero_le _⟩
  unfold insertB
  rw [if_neg (by omega)]
  dsimp only
  rw [target_eq (b := { b with ar := (add b.ar (elementT t 0)).1 }) htop, putN _ _ _ (show ({ b with ar := (add b.ar (elementT t 0)).1 } : BS).foster = false from H.fos)]
  have hp1 : ({ b with ar := (add b.ar (elementT t 0)).1 } : BS).ar[p]? = some z := by
    show (add b.ar (elementT t 0)).1[p]? = some z
    rw [add_eq H.ar.ne rfl (tok_tpl ht 0)]
    exact snoc_old hp
  rw [place_eq H1 hp1]
  dsimp only
  rw [ins_eq H.ar hp (Or.inl hz) rfl (tok_tpl ht 0)]
  have hi : (add b.ar (elementT t 0)).2 = (b.ar.length : Int) := by rw [add_eq H.ar.ne rfl (tok_tpl ht 0)]
  rw [hi]
  have hps : pushS (insA b.ar p (elementT t 0)) b.st (b.ar.length : Int) = (b.st ++ [⟨(b.ar.length : Int), 0, t.name⟩], 0) := by
    have he : elementS (insA b.ar p (elementT t 0)) (b.ar.length : Int) = (⟨(b.ar.length : Int), 0, t.name⟩, 0) := by
      unfold elementS
      rw [node_nat (insA_new _ _ _)]
      rfl
    unfold pushS insertS
    rw [he]
    dsimp only
    rw [if_neg (by decide), if_neg (by simp), if_neg (by omega)]
    rw [Int.toNat_natCast, List.take_length, List.drop_length]
  rw [hps, failB_0]
theorem only_eq {n : Nat} {b : BS} (H : Okb n b) {t : TokL} (ht : TokOk t) {p : Nat} {z : NodeL} (hp : b.ar[p]? = some z) (hz : z.kind = 3) (htop : topS b.st = (p : Int)) (hl : b.st.length < 512) :
    (only b t).1 = { b with ar := insA b.ar p (elementT t 0) } := by
  unfold only
  rw [insertB_eq H ht hp hz htop hl]
  dsimp only
  rw [if_pos (by omega)]
  show ({ b with ar := insA b.ar p (elementT t 0), st := popS (b.st ++ [⟨(b.ar.length : Int), 0, t.name⟩]) } : BS) = _
  unfold popS
  rw [List.dropLast_concat]
theorem rebuild_nil {b : BS} (h : b.fo = []) : rebuild b = b := by
  unfold rebuild
  rw [h, List.length_nil, Nat.zero_sub]
  rfl
theorem charsB_eq {n : Nat} {b : BS} (H : Okb n b) (s : Ba) {p : Nat} {z : NodeL} (hp : b.ar[p]? = some z) (h0 : 0 < p) (htop : topS b.st = (p : Int)) :
    charsB b s = { b with ar := (textA b.ar (p : Int) (-1) s).1 } := by
  unfold charsB
  rw [target_eq htop, place_eq H hp]
  dsimp only
  rw [if_pos (by omega)]
theorem textA_new {a : Ar} (h : ArOk a) {p : Nat} {z : NodeL} (hp : a[p]? = some z) (hz : z.kind = 3) {s : Ba} (hs : (s == em) = false) (hl : ¬ (0 < z.kids.length ∧ (rd a (z.kids.getD (z.kids.length - 1) 0)).kind = 4)) :
    (textA a (p : Int) (-1) s).1 = insA a p (textN s) := by
  have e2 : holds a (p : Int) = true := by
    unfold holds
    rw [has_nat hp, rd_nat hp, hz]; rfl
  unfold textA
  rw [show a.isEmpty = false by cases a with | nil => exact absurd rfl h.ne | cons x r => rfl, e2, hs, rd_nat hp]
  simp only [Bool.false_eq_true, if_false, Bool.not_true, Bool.false_or]
  rw [if_neg (by rw [show ((-1 : Int) != -1) = false from rfl, Bool.false_and]; decide), if_neg (show ¬ (0 : Int) ≤ -1 by omega), if_neg hl, add_eq h.ne (n := textN s) rfl rfl]
  have h2 := ins_eq h hp (Or.inl hz) (n := textN s) rfl rfl
  rw [add_eq h.ne (n := textN s) rfl rfl] at h2
  rw [← h2]
  unfold Bd.append
  have hpo := snoc_old (y := bare (textN s)) hp
  have e1 : (a ++ [bare (textN s)]).isEmpty = false := by cases a <;> rfl
  have e2 : holds (a ++ [bare (textN s)]) (p : Int) = true := by
    unfold holds
    rw [has_nat hpo, rd_nat hpo, hz]; rfl
  have e3 : hangs (a ++ [bare (textN s)]) (a.length : Int) = true := by
    unfold hangs
    rw [has_nat (snoc_new a _), rd_nat (snoc_new a _)]; rfl
  dsimp only
  rw [e1, e2, e3, above_new h _ hp]
  rfl
theorem textA_old {a : Ar} (h : ArOk a) {p : Nat} {z : NodeL} (hp : a[p]? = some z) (hz : z.kind = 3) {s : Ba} (hs : (s == em) = false) {c : Nat} (hc : z.kids.getD (z.kids.length - 1) 0 = (c : Int)) (hl : 0 < z.kids.length) {y : NodeL} (hy : a[c]? = some y) (h4 : y.kind = 4) :
    (textA a (p : Int) (-1) s).1 = upd a (c : Int) fun n => { n with text := n.text ++ s } := by
  have e2 : holds a (p : Int) = true := by
    unfold holds
    rw [has_nat hp, rd_nat hp, hz]; rfl
  unfold textA
  rw [show a.isEmpty = false by cases a with | nil => exact absurd rfl h.ne | cons x r => rfl, e2, hs, rd_nat hp]
  simp only [Bool.false_eq_true, if_false, Bool.not_true, Bool.false_or]
  rw [if_neg (by rw [show ((-1 : Int) != -1) = false from rfl, Bool.false_and]; decide), if_neg (show ¬ (0 : Int) ≤ -1 by omega), hc, rd_nat hy, if_pos ⟨hl, h4⟩]
end Bd

namespace Bd
open Go
def htmlS : Ba := ⟨#[104, 116, 109, 108]⟩
def bodyS : Ba := ⟨#[98, 111, 100, 121]⟩
/-- Only the root and the body are open. -/
def stB : St := [⟨1, 0, htmlS⟩, ⟨3, 0, bodyS⟩]
def ruler (b : BS) (t : TokL) : BS := (only (closeP b) t).1
def paramB (b : BS) (t : TokL) : BS := (only b t).1
theorem Okb.ruler {n : Nat} {b : BS} (h : Okb n b) {t : TokL} (ht : TokOk t) : Okb (n + 1) (ruler b t) := h.closeP.only ht
theorem Okb.paramB {n : Nat} {b : BS} (h : Okb n b) {t : TokL} (ht : TokOk t) : Okb (n + 1) (paramB b t) := h.only ht
theorem closeP_stB {b : BS} (h : b.st = stB) : closeP b = b := by
  unfold closeP
  rw [h, show hasS stB 2 [pS] = false from by decide +kernel]; rfl
theorem other_stB {b : BS} (h : b.st = stB) {z : NodeL} (hz : b.ar[3]? = some z) (h0 : z.space = 0) (hn : z.name = bodyS) {nm : Ba} (hne : (bodyS == nm) = false) : other b nm = b := by
  have h1 : atS b.st ((1 : Nat) : Int) = ((3 : Nat) : Int) := by rw [h]; decide
  unfold other
  rw [h]
  show otherF b nm (1 + 1) = b
  unfold otherF
  dsimp only
  rw [h1, node_nat hz, h0, hn, hne, Bool.and_false, show special 0 bodyS = true from by decide +kernel]
  rfl
/-- Where the law stands. -/
structure SI (b : BS) : Prop where
  st : b.st = stB
  fo : b.fo = []
  md : b.mode = 6
  bd : ∃ z, b.ar[3]? = some z ∧ z.kind = 3 ∧ z.space = 0 ∧ z.name = bodyS
  kn : ∀ x ∈ b.ar, x.kids ≠ [] → x.name = em ∨ x.name = htmlS ∨ x.name = bodyS
theorem SI.ins {b : BS} (h : SI b) (n : NodeL) : SI { b with ar := insA b.ar 3 n } := by
  obtain ⟨z, hz, h1, h2, h3⟩ := h.bd
  refine ⟨h.st, h.fo, h.md, ⟨_, insA_old hz, ?_⟩, fun x hx hk => ?_⟩
  · rw [if_pos rfl]; exact ⟨h1, h2, h3⟩
  · obtain ⟨j, hj⟩ := List.mem_iff_getElem?.1 hx
    rcases insA_back hj with ⟨y, hy, rfl⟩ | ⟨_, rfl⟩
    · by_cases e : 3 = j
      · subst e
        obtain rfl := Option.some.inj (hz.symm.trans hy)
        rw [if_pos rfl]
        exact Or.inr (Or.inr h3)
      · rw [if_neg e] at hk ⊢
        exact h.kn y (List.mem_of_getElem? hy) hk
    · exact absurd rfl hk
theorem SI.text {b : BS} (h : SI b) (c : Nat) (f : Ba → Ba) : SI { b with ar := upd b.ar (c : Int) fun n => { n with text := f n.text } } := by
  obtain ⟨z, hz, h1, h2, h3⟩ := h.bd
  refine ⟨h.st, h.fo, h.md, ?_, fun x hx hk => ?_⟩
  · show ∃ w, (upd b.ar (c : Int) _)[3]? = some w ∧ _
    rw [upd_get, hz]
    refine ⟨_, rfl, ?_⟩
    split <;> exact ⟨h1, h2, h3⟩
  · obtain ⟨j, hj⟩ := List.mem_iff_getElem?.1 hx
    have hj' : (upd b.ar (c : Int) fun n => { n with text := f n.text })[j]? = some x := hj
    rw [upd_get] at hj'
    cases hy : b.ar[j]? with
    | none => rw [hy] at hj'; cases hj'
    | some y =>
      rw [hy, Option.map_some] at hj'
      have := Option.some.inj hj'
      subst this
      have hm := h.kn y (List.mem_of_getElem? hy)
      revert hk
      split
      · exact hm
      · exact hm
theorem top_stB {b : BS} (h : b.st = stB) : topS b.st = ((3 : Nat) : Int) := by rw [h]; decide
theorem SI.only {n : Nat} {b : BS} (h : SI b) (H : Okb n b) {t : TokL} (ht : TokOk t) : SI (only b t).1 := by
  obtain ⟨z, hz, h1, _, _⟩ := h.bd
  rw [only_eq H ht hz h1 (top_stB h.st) (by rw [h.st]; decide)]
  exact h.ins _
theorem SI.single {n : Nat} {b : BS} (h : SI b) (H : Okb n b) {t : TokL} (ht : TokOk t) : SI (single b t) := by
  unfold Bd.single
  rw [rebuild_nil h.fo]
  exact h.only H ht
theorem SI.ruler {n : Nat} {b : BS} (h : SI b) (H : Okb n b) {t : TokL} (ht : TokOk t) : SI (Bd.ruler b t) := by
  unfold Bd.ruler
  rw [closeP_stB h.st]
  exact h.only H ht
theorem SI.other {b : BS} (h : SI b) {nm : Ba} (hne : (bodyS == nm) = false) : SI (other b nm) := by
  obtain ⟨z, hz, _, h2, h3⟩ := h.bd
  rw [other_stB h.st hz h2 h3 hne]; exact h
theorem SI.chB {n : Nat} {b : BS} (h : SI b) (H : Okb n b) {t : TokL} (ht : (t.text == em) = false) : SI (chB b t) := by
  obtain ⟨z, hz, h1, _, _⟩ := h.bd
  unfold Bd.chB
  rw [rebuild_nil h.fo, charsB_eq H _ hz (by decide) (top_stB h.st)]
  by_cases hl : 0 < z.kids.length ∧ (rd b.ar (z.kids.getD (z.kids.length - 1) 0)).kind = 4
  · obtain ⟨k, hk⟩ : ∃ k, k = z.kids.getD (z.kids.length - 1) 0 := ⟨_, rfl⟩
    have hm : k ∈ z.kids := by
      rw [hk, List.getD_eq_getElem?_getD, List.getElem?_eq_getElem (by omega)]
      exact List.getElem_mem _
    obtain ⟨c, y, e, hy, _⟩ := H.ar.kid 3 z hz k hm
    have h4 := hl.2
    rw [← hk, e, rd_nat hy] at h4
    rw [textA_old H.ar hz h1 ht (hk.symm.trans e) hl.1 hy h4]
    exact h.text c (fun s => s ++ t.text)
  · rw [textA_new H.ar hz h1 ht hl]
    exact h.ins _
theorem SI.is {b : BS} (h : SI b) (nm : Ba) : isB b [nm] = (nm == bodyS) := by
  obtain ⟨z, hz, h1, h2, h3⟩ := h.bd
  unfold isB htmlN current
  rw [top_stB h.st, node_nat hz, h1, h2, h3]
  rw [show ([nm] : List Ba).contains bodyS = (bodyS == nm) by rw [List.contains_cons]; simp]
  rw [show (bodyS == nm) = (nm == bodyS) from Bool.eq_iff_iff.2 (by rw [beq_iff_eq, beq_iff_eq]; exact eq_comm)]
  rfl
theorem si_opened : SI opened :=
  ⟨by decide +kernel, by decide +kernel, by decide +kernel, ⟨_, show opened.ar[3]? = some (opened.ar.getD 3 nd0) from by decide +kernel, by decide +kernel, by decide +kernel, by decide +kernel⟩, by decide +kernel⟩
/-- The elements that have no end. -/
def namesS : List Ba := [⟨#[98, 114]⟩, ⟨#[105, 109, 103]⟩, ⟨#[105, 110, 112, 117, 116]⟩, ⟨#[119, 98, 114]⟩, ⟨#[101, 109, 98, 101, 100]⟩, ⟨#[97, 114, 101, 97]⟩, ⟨#[104, 114]⟩, ⟨#[112, 97, 114, 97, 109]⟩, ⟨#[115, 111, 117, 114, 99, 101]⟩, ⟨#[116, 114, 97, 99, 107]⟩]
theorem names_ok {nm : Ba} (h : nm ∈ namesS) : (nm.size ≤ 1000 ∧ (nm == templateS) = false) ∧ (nm == em) = false ∧ (nm == htmlS) = false ∧ (nm == bodyS) = false ∧ (bodyS == nm) = false := by
  have : ∀ x ∈ namesS, (x.size ≤ 1000 ∧ (x == templateS) = false) ∧ (x == em) = false ∧ (x == htmlS) = false ∧ (x == bodyS) = false ∧ (bodyS == x) = false := by decide +kernel
  exact this nm h
theorem SI.last {b : BS} (h : SI b) {nm : Ba} (hn : nm ∈ namesS) {x : NodeL} (hx : x ∈ b.ar) (e : x.name = nm) : x.kids = [] := by
  obtain ⟨_, h1, h2, h3, _⟩ := names_ok hn
  rcases Decidable.em (x.kids = []) with hk | hk
  · exact hk
  · exfalso
    rcases h.kn x hx hk with e2 | e2 | e2 <;> rw [e] at e2 <;> subst e2
    · simp at h1
    · simp at h2
    · simp at h3
/-- What Step does with the law's tokens. -/
def stpI (b : BS) (t : TokL) : BS × Bool :=
  if t.kind == 7 then (chB b t, false)
  else if t.kind == 2 then (if t.name == ⟨#[104, 114]⟩ then ruler b t else if t.name == ⟨#[112, 97, 114, 97, 109]⟩ || t.name == ⟨#[115, 111, 117, 114, 99, 101]⟩ || t.name == ⟨#[116, 114, 97, 99, 107]⟩ then paramB b t else single b t, false)
  else (if t.name == ⟨#[98, 114]⟩ then endBr b else other b t.name, false)
end Bd

namespace Bd
open Go
def endBodyB (b : BS) : BS := if hasS b.st 0 [bodyS] then { b with mode := 16 } else b
theorem Okb.mode {n : Nat} {b : BS} (h : Okb n b) (m : Int) : Okb n { b with mode := m } := ⟨h.ar, h.len, h.nd, h.st, h.fo, h.fos⟩
theorem Okb.endBodyB {n : Nat} {b : BS} (h : Okb n b) : Okb n (endBodyB b) := by
  unfold Bd.endBodyB
  split
  · exact h.mode 16
  · exact h
/-- What Step does with the law's tokens, in the body or behind it. -/
def stpH (b : BS) (t : TokL) : BS × Bool :=
  if b.mode == 16 then (if t.kind == 4 then (comment b t (atS b.st 0), false) else ({ b with mode := 6 }, true))
  else if t.kind == 7 then (chB b t, false) else if t.kind == 4 then (comment b t (-1), false) else (endBodyB b, false)
/-- What does does with one token, where Step asks for it once more at most once. -/
def doP (stp : BS → TokL → BS × Bool) (b : BS) (t : TokL) : BS := if (stp b t).2 then (stp (stp b t).1 t).1 else (stp b t).1
def comT (s : Ba) : TokL := { tok0 with kind := 4, text := s }
structure HI (k m : Nat) (b : BS) : Prop where
  st : b.st = stB
  fo : b.fo = []
  md : b.mode = 6
  h1 : ∃ z, b.ar[1]? = some z ∧ z.kind = 3 ∧ z.kids.length = 2 + k
  b3 : ∃ z, b.ar[3]? = some z ∧ z.kind = 3 ∧ ((k = 0 ∧ z.kids = [] ∧ b.ar.length = 4) ∨ (0 < k ∧ ∃ (c : Nat) (y : NodeL), z.kids = [(c : Int)] ∧ b.ar[c]? = some y ∧ y.kind = 4 ∧ y.text.size = k * m))
theorem hi_opened (m : Nat) : HI 0 m opened :=
  ⟨by decide +kernel, by decide +kernel, by decide +kernel, ⟨_, show opened.ar[1]? = some (opened.ar.getD 1 nd0) from by decide +kernel, by decide +kernel, by decide +kernel⟩,
    ⟨_, show opened.ar[3]? = some (opened.ar.getD 3 nd0) from by decide +kernel, by decide +kernel, Or.inl ⟨rfl, by decide +kernel, by decide +kernel⟩⟩⟩
theorem comment_eq {n : Nat} {b : BS} (H : Okb n b) (t : TokL) {p : Nat} {z : NodeL} (hp : b.ar[p]? = some z) (hz : z.kind = 3) : comment b t (p : Int) = { b with ar := insA b.ar p (commentN t) } := by
  unfold comment
  dsimp only
  rw [if_neg (by omega), ins_eq H.ar hp (Or.inl hz) (n := commentN t) rfl rfl]
theorem upd_ne {a : Ar} {c j : Nat} {f : NodeL → NodeL} {x : NodeL} (hj : a[j]? = some x) (hn : ¬ c = j) : (upd a (c : Int) f)[j]? = some x := by
  rw [upd_get, hj, Option.map_some, if_neg hn]
theorem upd_at {a : Ar} {c : Nat} {f : NodeL → NodeL} {x : NodeL} (hj : a[c]? = some x) : (upd a (c : Int) f)[c]? = some (f x) := by
  rw [upd_get, hj, Option.map_some, if_pos rfl]
/-- One round of the law. -/
def roundH (b : BS) (c s : Ba) : BS := chB { comment { b with mode := 16 } (comT c) 1 with mode := 6 } (charsT s)
theorem HI.round {k m n : Nat} {b : BS} (h : HI k m b) (H : Okb n b) {c s : Ba} (hc : c.size ≤ 1000) (hs : s.size = m) (hne : (s == em) = false) : HI (k + 1) m (roundH b c s) := by
  obtain ⟨z1, g1, k1, l1⟩ := h.h1
  obtain ⟨z3, g3, k3, d3⟩ := h.b3
  have H16 := H.mode 16
  have HC : Okb (n + 1) { comment { b with mode := 16 } (comT c) 1 with mode := 6 } := (H16.comment (t := comT c) hc 1).mode 6
  have e0 := comment_eq H16 (comT c) (p := 1) g1 k1
  unfold roundH
  rw [show ((1 : Nat) : Int) = 1 from rfl] at e0
  rw [e0] at HC ⊢
  obtain ⟨a1, ha1⟩ : ∃ a1, a1 = insA b.ar 1 (commentN (comT c)) := ⟨_, rfl⟩
  have q1 : a1[1]? = some { z1 with kids := z1.kids ++ [(b.ar.length : Int)] } := by rw [ha1]; exact insA_old g1
  have q3 : a1[3]? = some z3 := by rw [ha1]; exact insA_old g3
  have ql : a1.length = b.ar.length + 1 := by rw [ha1, insA_len]
  have qc : ∀ (j : Nat) (y : NodeL), b.ar[j]? = some y → y.kind = 4 → a1[j]? = some y := by
    intro j y hy h4
    rw [ha1, insA_old hy, if_neg]
    rintro rfl
    obtain rfl := Option.some.inj (g1.symm.trans hy)
    omega
  obtain ⟨B, hB⟩ : ∃ B : BS, B = { b with mode := 6, ar := a1 } := ⟨_, rfl⟩
  have hBe : ({ ({ b with mode := 16, ar := insA b.ar 1 (commentN (comT c)) } : BS) with mode := 6 } : BS) = B := by rw [hB, ha1]
  have HB : Okb (n + 1) B := by rw [← hBe]; exact HC
  show HI (k + 1) m (chB ({ ({ b with mode := 16, ar := insA b.ar 1 (commentN (comT c)) } : BS) with mode := 6 } : BS) (charsT s))
  rw [hBe]
  have f1 : B.st = stB := by rw [hB]; exact h.st
  have f2 : B.fo = [] := by rw [hB]; exact h.fo
  have f3 : B.ar = a1 := by rw [hB]
  have f4 : B.mode = 6 := by rw [hB]
  clear hBe HC e0 hB H16
  rw [← f3] at q1 q3 ql qc
  unfold chB
  rw [rebuild_nil f2, charsB_eq HB _ q3 (by decide) (top_stB f1)]
  show HI (k + 1) m { B with ar := (textA B.ar ((3 : Nat) : Int) (-1) s).1 }
  rcases d3 with ⟨rfl, hk, hl⟩ | ⟨h0, c0, y, hk, hy, h4, hsz⟩
  · rw [textA_new HB.ar q3 k3 hne (by rw [hk]; simp)]
    refine ⟨f1, f2, f4, ⟨_, insA_old q1, ?_, ?_⟩, ⟨_, insA_old q3, ?_, Or.inr ⟨by omega, B.ar.length, _, ?_, insA_new _ _ _, rfl, ?_⟩⟩⟩
    · exact k1
    · show (z1.kids ++ _).length = _
      rw [List.length_append, l1]; rfl
    · exact k3
    · rw [if_pos rfl, hk]; rfl
    · show s.size = _
      omega
  · rw [textA_old HB.ar q3 k3 hne (c := c0) (by rw [hk]; rfl) (by rw [hk]; exact Nat.one_pos) (qc c0 y hy h4) h4]
    have n1 : ¬ c0 = 1 := by
      rintro rfl
      obtain rfl := Option.some.inj (g1.symm.trans hy)
      omega
    have n3 : ¬ c0 = 3 := by
      rintro rfl
      obtain rfl := Option.some.inj (g3.symm.trans hy)
      omega
    refine ⟨f1, f2, f4, ⟨_, upd_ne q1 n1, k1, ?_⟩, ⟨_, upd_ne q3 n3, k3, Or.inr ⟨by omega, c0, _, hk, upd_at (qc c0 y hy h4), h4, ?_⟩⟩⟩
    · show (z1.kids ++ _).length = _
      rw [List.length_append, l1]; rfl
    · show (y.text ++ s).size = _
      rw [ByteArray.size_append, hsz, hs, Nat.succ_mul]
theorem comment_modeN (b : BS) (t : TokL) (i : Nat) : (comment b t (i : Int)).mode = b.mode := by
  unfold comment
  dsimp only
  rw [if_neg (by omega)]
theorem round_does {b : BS} (h : b.st = stB) (hm : b.mode = 6) (c s : Ba) : [endT bodyS, comT c, charsT s].foldl (doP stpH) b = roundH b c s := by
  have e1 : stpH b (endT bodyS) = ({ b with mode := 16 }, false) := by
    unfold stpH
    rw [hm, show ((6 : Int) == 16) = false from rfl]
    show (endBodyB b, false) = _
    unfold endBodyB
    rw [h, show hasS stB 0 [bodyS] = true from by decide +kernel]; rfl
  have d1 : doP stpH b (endT bodyS) = { b with mode := 16 } := by unfold doP; rw [e1]; rfl
  have e2 : stpH { b with mode := 16 } (comT c) = (comment { b with mode := 16 } (comT c) 1, false) := by
    unfold stpH
    rw [show (({ b with mode := 16 } : BS).mode == 16) = true from rfl]
    show (comment { b with mode := 16 } (comT c) (atS b.st 0), false) = _
    rw [h]; rfl
  have d2 : doP stpH { b with mode := 16 } (comT c) = comment { b with mode := 16 } (comT c) 1 := by unfold doP; rw [e2]; rfl
  obtain ⟨B, hB⟩ : ∃ B, B = comment { b with mode := 16 } (comT c) 1 := ⟨_, rfl⟩
  have m2 : B.mode = 16 := by rw [hB]; exact comment_modeN _ _ 1
  have e3 : stpH B (charsT s) = ({ B with mode := 6 }, true) := by
    unfold stpH
    rw [m2]; rfl
  have e4 : stpH { B with mode := 6 } (charsT s) = (chB { B with mode := 6 } (charsT s), false) := rfl
  have d3 : doP stpH B (charsT s) = chB { B with mode := 6 } (charsT s) := by unfold doP; rw [e3]; exact congrArg Prod.fst e4
  show doP stpH (doP stpH (doP stpH b (endT bodyS)) (comT c)) (charsT s) = _
  rw [d1, d2, ← hB, d3, hB]
  rfl
end Bd

namespace Go.Proofs.YtnbdalohlldnbaaGreatDoor
open Go.RowKit Bd
attribute [local go_sem ↓] Go.wp_at_zero Go.wp_at_succ
theorem load_tok {x : Operand} {f : Operand → Value} {o : Oper} (t : TokL) (g : Nat) (w : World) (ho : o.op = .load 24 x) (hx : f x = .pointer (some ⟨g, 0, none⟩)) (hg : w.heap[g]? = some (.cells (tokR t) 24 (0, 0))) : (execOp f o).run Tryz.prog w = .ok (.value (tokV t)) w := by
  unfold execOp
  simp only [ho, hx, Instr.loadAt, Instr.sureAddr, Sem.run_bind, Sem.run_pure, Result.andThen_ok, run_loadVar_row w g 24 24 (tokR t) (0, 0) _ hg Tryz.underlying24 rfl tokSize]
section
variable {n : Nat} {own : Nat → Nat} {w : World} {bp ap sp lp : Nat} {b : BS}
set_option maxHeartbeats 2000000 in
set_option maxRecDepth 100000 in
theorem Comment_any (t : TokL) (into : Int) (hs : t.text.size ≤ 1000) (hn : n + 1 ≤ 90000) (H : BX n own w bp ap sp lp b) :
    Calls Tryz.prog 26 #[.pointer (some ⟨bp, 0, none⟩), tokV t, .int .i64 into] w (RX (n + 1) own bp ap sp lp (.tuple #[]) (comment b t into) w) := by
  obtain ⟨W1, hW1⟩ : ∃ W, W = w.alloc (.cells (tokR t) 24) := ⟨_, rfl⟩
  have hb1 : Below w.heap.size w W1 := by rw [hW1]; exact (Below.refl _ w).alloc (Nat.le_refl _) _
  have hr : W1.heap[w.heap.size]? = some (.cells (tokR t) 24 (0, 0)) := by rw [hW1]; exact heap_new _ _
  have hH := H.below hb1
  have hF := H.fr hb1
  have ho : own w.heap.size = 0 := H.L _ (Nat.le_refl _)
  have HW1 := Lib.hid hW1
  obtain ⟨bx, hbx⟩ : ∃ x, x = w.heap.size := ⟨_, rfl⟩
  rw [← hbx] at hr ho
  have HBX := Lib.hid hbx
  clear hb1 hW1 H hbx
  obtain ⟨R, hR⟩ : ∃ R, R = comment b t into := ⟨_, rfl⟩
  rw [← hR]
  unfold comment at hR
  have cN := Lib.hid (xNone hH)
  have HA : Hid (∀ own V, BX n own V bp ap sp lp b → Calls Tryz.prog 59 #[.pointer (some ⟨ap, 0, none⟩), NB.val ⟨commentN t, .slice none 0 0⟩] V (RX (n + 1) own bp ap sp lp (.int .i64 (add b.ar (commentN t)).2) { b with ar := (add b.ar (commentN t)).1 } V)) := Lib.hid (fun own V hV =>
    xAdd ⟨commentN t, .slice none 0 0⟩ rfl rfl rfl ⟨⟨Nat.zero_le _, rfl⟩, by show t.text.size ≤ 1000 * (n + 1); omega⟩ hn hV)
  dsimp only at hR
  generalize (add b.ar (commentN t)).2 = i at *
  generalize hb1 : { b with ar := (add b.ar (commentN t)).1 } = b1 at *
  have HB1 := Lib.hid hb1
  clear hb1
  have HQ := Lib.hid hR
  have HH := Lib.hid hH
  have HP := Lib.hid (⟨ho, hF⟩ : _ ∧ _)
  have c2 := rowAt hr 2 (.string t.text) rfl
  have c0 := hH.c0
  clear hR hH hr ho hF hs
  go_enter Tryz.func26, Tryz.ntmps26
  go_upto_region 1 with fail
  rw [← HW1.out, ← HBX.out]
  go_wp2_with fail
  refine cN.out.mono ?_
  rintro e w2 ⟨rfl, rfl⟩
  clear cN
  go_upto_region 2 with fail
  have hd := (Below.refl W1.heap.size W1).drew
  have c0' := (hd.cell (World.block_lt_of_cell? _ _ c0)).trans c0
  have c2' := (hd.cell (World.block_lt_of_cell? _ _ c2)).trans c2
  refine wp_region_held_drew (S := fun U => U.cell? ⟨bp, 0, none⟩ = some (.pointer (some ⟨ap, 0, none⟩)) ∧ U.cell? ⟨bx, 2, none⟩ = some (.string t.text)) (by kernel_rfl) (⟨c0', c2'⟩) (fun hHeld => ?_)
  generalize W1.drew = V at hHeld hd c0' c2' ⊢
  refine TkH 0 9 ?_; refine TkH 1 10 ?_; refine TkH 2 11 ?_
  (try simp only [Act.put]); (try simp only [List.setIfInBounds_toArray]); (try simp only [List.set_cons_zero, List.set_cons_succ])
  refine TkD 3 (some 12) (v := ?_) rfl rfl ?_ ?_; rotate_left
  · (intro W hSw; (try dsimp only at hSw); have cc := hSw.1; go_simp; try with_reducible rfl)
  (try simp only [Act.put]); (try simp only [List.setIfInBounds_toArray]); (try simp only [List.set_cons_zero, List.set_cons_succ])
  refine TkH 4 13 ?_
  (try simp only [Act.put]); (try simp only [List.setIfInBounds_toArray]); (try simp only [List.set_cons_zero, List.set_cons_succ])
  refine TkD 5 (some 14) (v := ?_) rfl rfl ?_ ?_; rotate_left
  · (intro W hSw; (try dsimp only at hSw); have cc := hSw.2; go_simp; try with_reducible rfl)
  (try simp only [Act.put]); (try simp only [List.setIfInBounds_toArray]); (try simp only [List.set_cons_zero, List.set_cons_succ])
  refine TkH 6 15 ?_
  (try simp only [Act.put]); (try simp only [List.setIfInBounds_toArray]); (try simp only [List.set_cons_zero, List.set_cons_succ])
  refine wpAnyH_ready (rs := [7]) (by kernel_rfl) (by simp) ?_
  refine AllReadyH.cons rfl (fun K hK => ?_) AllReadyH.nil
  go_simp
  refine (HA.out _ _ (HH.out.below hd)).mono ?_
  rintro e V9 ⟨rfl, own9, H9, F9⟩
  have hF9 := (HH.out.fr hd).trans F9
  have k0 := H9.c0
  have k2 : V9.cell? ⟨bx, 2, none⟩ = some (.string t.text) := Fr_cell F9 hHeld.2 (by show cBu (own bx) = false; rw [HP.out.1]; rfl)
  clear hHeld
  refine hK.out _ _ ⟨k0, k2⟩ (fun hHeld => ?_)
  clear hK K k0 k2 hd F9 c0' c2'
  clear V
  obtain ⟨V, rfl⟩ : ∃ U, U = V9 := ⟨_, rfl⟩
  (try simp only [Act.put]); (try simp only [List.setIfInBounds_toArray]); (try simp only [List.set_cons_zero, List.set_cons_succ])
  focus (refine TkH 8 6 ?_)
  (try simp only [Act.put]); (try simp only [List.setIfInBounds_toArray]); (try simp only [List.set_cons_zero, List.set_cons_succ])
  refine wpAnyH_done (by kernel_rfl) ?_ _
  have HX := Lib.hid (⟨H9, HP.out.2.trans hF9⟩ : _ ∧ _)
  clear H9 hF9 HP HA HH c0 c2 hHeld
  by_cases h0 : into < 0
  · have HQ2 : Hid (R = putB b1 i (target b1)) := by show _ = _; rw [HQ.out, if_pos h0]
    have cT := Lib.hid (xTarget HX.out.1)
    have cP := Lib.hid (xPut i (target b1) HX.out.1)
    clear HQ
    go_wp2_with fail
    refine cT.out.mono ?_
    rintro e w3 ⟨rfl, rfl⟩
    go_wp2_with fail
    refine cP.out.mono ?_
    rintro e w3 ⟨rfl, own3, H3, F3⟩
    have HY := Lib.hid (⟨H3, HX.out.2.trans F3⟩ : _ ∧ _)
    clear cT cP H3 F3 HX
    go_wp2_with fail
    go_end0
    rw [HQ2.out]
    exact ⟨rfl, own3, HY.out.1, HY.out.2⟩
  · have HQ2 : Hid (R = { b1 with ar := (append b1.ar into i).1 }) := by show _ = _; rw [HQ.out, if_neg h0, ← HB1.out]
    have cP := Lib.hid (xAppend into i HX.out.1)
    have c0 := HX.out.1.c0
    clear HQ
    go_wp2_with fail
    refine cP.out.mono ?_
    rintro e w3 ⟨rfl, own3, H3, F3⟩
    have HY := Lib.hid (⟨H3, HX.out.2.trans F3⟩ : _ ∧ _)
    clear cP H3 F3 HX c0
    go_wp2_with fail
    go_end0
    rw [HQ2.out]
    exact ⟨rfl, own3, HY.out.1, HY.out.2⟩

set_option maxHeartbeats 1000000 in
set_option maxRecDepth 100000 in
theorem rendBody_any (t : TokL) (H : BX n own w bp ap sp lp b) : Calls Tryz.prog 94 #[.pointer (some ⟨bp, 0, none⟩), tokV t] w (RX n own bp ap sp lp (.tuple #[]) (endBodyB b) w) := by
  obtain ⟨W1, hW1⟩ : ∃ W, W = w.alloc (.cells (tokR t) 24) := ⟨_, rfl⟩
  have hb1 : Below w.heap.size w W1 := by rw [hW1]; exact (Below.refl _ w).alloc (Nat.le_refl _) _
  have hr : W1.heap[w.heap.size]? = some (.cells (tokR t) 24 (0, 0)) := by rw [hW1]; exact heap_new _ _
  have hH := H.below hb1
  have hF := H.fr hb1
  have ho : own w.heap.size = 0 := H.L _ (Nat.le_refl _)
  have HW1 := Lib.hid hW1
  obtain ⟨bx, hbx⟩ : ∃ x, x = w.heap.size := ⟨_, rfl⟩
  rw [← hbx] at hr ho
  have HBX := Lib.hid hbx
  clear hb1 hW1 H hbx
  obtain ⟨R, hR⟩ : ∃ R, R = endBodyB b := ⟨_, rfl⟩
  rw [← hR]
  unfold endBodyB at hR
  have hb2 : Below W1.heap.size W1 (W1.alloc (.cells #[.string bodyS] 9)) := (Below.refl _ W1).alloc (Nat.le_refl _) _
  have cH := Lib.hid (xHas 0 (hH.below hb2) (NmAt.one W1 bodyS))
  have HF2 := Lib.hid (hF.trans (hH.fr hb2))
  have HH2 := Lib.hid (hH.below hb2)
  have cS := Lib.hid (xStack hH)
  obtain ⟨q, hq⟩ : ∃ q, hasS b.st 0 [bodyS] = q := ⟨_, rfl⟩
  rw [hq] at hR cH
  have HR := Lib.hid hR
  clear hb2 hF hH hr ho hR hq
  go_enter Tryz.func94, Tryz.ntmps94
  go_upto_region 1 with fail
  rw [← HW1.out, ← HBX.out]
  go_wp2_with fail
  refine cS.out.mono ?_
  rintro e w2 ⟨rfl, rfl⟩
  go_wp2_with fail
  refine cH.out.mono ?_
  rintro e w3 ⟨rfl, hb3⟩
  have H3 := HH2.out.below hb3
  have HF3 := Lib.hid (HF2.out.trans (HH2.out.fr hb3))
  clear hb3 HH2 HF2 cS cH
  cases q with
  | true =>
    have HQ : Hid (R = { b with mode := 16 }) := HR.out
    have cC := Lib.hid (xSet 16 H3)
    clear HR H3
    go_wp2_with fail
    refine cC.out.mono ?_
    rintro e w4 ⟨rfl, own4, H4, F4⟩
    have HX := Lib.hid (⟨H4, HF3.out.trans F4⟩ : _ ∧ _)
    clear cC H4 F4
    go_wp2_with fail
    go_end0
    rw [HQ.out]
    exact ⟨rfl, own4, HX.out.1, HX.out.2⟩
  | false =>
    have HQ : Hid (R = b) := HR.out
    have HX := Lib.hid H3
    clear HR H3
    go_wp2_with fail
    go_end0
    rw [HQ.out]
    exact ⟨rfl, own, HX.out, HF3.out⟩
set_option maxHeartbeats 1000000 in
set_option maxRecDepth 100000 in
theorem Body_comment (t : TokL) (hs : t.text.size ≤ 1000) (hkd : t.kind = 4) (hn : n + 1 ≤ 90000) (H : BX n own w bp ap sp lp b) :
    Calls Tryz.prog 9 #[.pointer (some ⟨bp, 0, none⟩), tokV t] w (RX (n + 1) own bp ap sp lp (.bool false) (comment b t (-1)) w) := by
  obtain ⟨W1, hW1⟩ : ∃ W, W = w.alloc (.cells (tokR t) 24) := ⟨_, rfl⟩
  have hb1 : Below w.heap.size w W1 := by rw [hW1]; exact (Below.refl _ w).alloc (Nat.le_refl _) _
  have hr : W1.heap[w.heap.size]? = some (.cells (tokR t) 24 (0, 0)) := by rw [hW1]; exact heap_new _ _
  have hH := H.below hb1
  have hF := H.fr hb1
  have ho : own w.heap.size = 0 := H.L _ (Nat.le_refl _)
  have HW1 := Lib.hid hW1
  obtain ⟨bx, hbx⟩ : ∃ x, x = w.heap.size := ⟨_, rfl⟩
  rw [← hbx] at hr ho
  have HBX := Lib.hid hbx
  clear hb1 hW1 H hbx
  have cN := Lib.hid (xArena hH)
  have HO := Lib.hid (⟨ho, hF⟩ : _ ∧ _)
  have cC := Lib.hid (Comment_any t (-1) hs hn hH)
  have Hr := Lib.hid hr
  have c0 := rowAt hr 0 (.int .i64 4) (by unfold tokR; rw [hkd]; rfl)
  clear hH hF hr ho hkd
  go_enter Tryz.func9, Tryz.ntmps9
  go_upto_region 1 with fail
  rw [← HW1.out, ← HBX.out]
  go_wp2_with fail
  refine cN.out.mono ?_
  rintro e w2 ⟨rfl, rfl⟩
  go_wp2_with (refine wpList_load_row rfl 24 (.tmp 3) rfl bx rfl 24 _ (0, 0) _ Hr.out Tryz.underlying24 rfl tokSize ?_)
  refine cC.out.mono ?_
  rintro e w3 ⟨rfl, own3, H3, F3⟩
  have HX := Lib.hid (⟨H3, HO.out.2.trans F3⟩ : _ ∧ _)
  clear cN cC HO Hr H3 F3
  go_wp2_with fail
  go_ret
  exact ⟨rfl, own3, HX.out.1, HX.out.2⟩
set_option maxHeartbeats 2000000 in
set_option maxRecDepth 100000 in
theorem behind_comment (t : TokL) (hs : t.text.size ≤ 1000) (hkd : t.kind = 4) (hn : n + 1 ≤ 90000) (H : BX n own w bp ap sp lp b) :
    Calls Tryz.prog 23 #[.pointer (some ⟨bp, 0, none⟩), tokV t, .bool false] w (RX (n + 1) own bp ap sp lp (.bool false) (comment b t (atS b.st 0)) w) := by
  obtain ⟨W1, hW1⟩ : ∃ W, W = w.alloc (.cells (tokR t) 24) := ⟨_, rfl⟩
  have hb1 : Below w.heap.size w W1 := by rw [hW1]; exact (Below.refl _ w).alloc (Nat.le_refl _) _
  have hr : W1.heap[w.heap.size]? = some (.cells (tokR t) 24 (0, 0)) := by rw [hW1]; exact heap_new _ _
  have hH := H.below hb1
  have hF := H.fr hb1
  have ho : own w.heap.size = 0 := H.L _ (Nat.le_refl _)
  have HW1 := Lib.hid hW1
  obtain ⟨bx, hbx⟩ : ∃ x, x = w.heap.size := ⟨_, rfl⟩
  rw [← hbx] at hr ho
  have HBX := Lib.hid hbx
  clear hb1 hW1 H hbx
  have HC : Hid (∀ V, BX n own V bp ap sp lp b → Calls Tryz.prog 26 #[.pointer (some ⟨bp, 0, none⟩), tokV t, .int .i64 (atS b.st 0)] V (RX (n + 1) own bp ap sp lp (.tuple #[]) (comment b t (atS b.st 0)) V)) := Lib.hid (fun V hV => Comment_any t _ hs hn hV)
  have HH := Lib.hid hH
  have HF := Lib.hid hF
  have Hr := Lib.hid hr
  have c0 := rowAt hr 0 (.int .i64 4) (by unfold tokR; rw [hkd]; rfl)
  have HO := Lib.hid ho
  clear hH hF hr ho hkd hs
  go_enter Tryz.func23, Tryz.ntmps23
  go_upto_region 1 with fail
  rw [← HW1.out, ← HBX.out]
  go_upto_region 9 with fail
  clear c0
  have hd := (Below.refl W1.heap.size W1).drew
  refine wp_region_held_drew (S := fun U => U.heap[bx]? = some (.cells (tokR t) 24 (0, 0))) (by kernel_rfl) ((hd.block _ (row_lt Hr.out)).trans Hr.out) (fun hHeld => ?_)
  generalize W1.drew = V at hHeld hd ⊢
  refine TkH 0 39 ?_
  (try simp only [Act.put]); (try simp only [List.setIfInBounds_toArray]); (try simp only [List.set_cons_zero, List.set_cons_succ])
  refine TkD 1 (some 40) (v := tokV t) rfl rfl ?_ ?_
  · (intro W hSw; (try dsimp only at hSw); exact load_tok t bx W rfl rfl hSw)
  (try simp only [Act.put]); (try simp only [List.setIfInBounds_toArray]); (try simp only [List.set_cons_zero, List.set_cons_succ])
  refine TkH 2 41 ?_
  (try simp only [Act.put]); (try simp only [List.setIfInBounds_toArray]); (try simp only [List.set_cons_zero, List.set_cons_succ])
  refine wpAnyH_ready (rs := [3]) (by kernel_rfl) (by simp) ?_
  refine AllReadyH.cons rfl (fun K hK => ?_) AllReadyH.nil
  go_simp
  go_at_call 19
  refine (xStack (HH.out.below hd)).mono ?_
  rintro e V9 ⟨rfl, rfl⟩
  refine hK.out _ _ hHeld (fun hSx => ?_)
  clear hSx hK K
  (try simp only [Act.put]); (try simp only [List.setIfInBounds_toArray]); (try simp only [List.set_cons_zero, List.set_cons_succ])
  refine wpAnyH_ready (rs := [4]) (by kernel_rfl) (by simp) ?_
  refine AllReadyH.cons rfl (fun K hK => ?_) AllReadyH.nil
  go_simp
  refine (xSAt 0 (HH.out.below hd)).mono ?_
  rintro e V9 ⟨rfl, rfl⟩
  refine hK.out _ _ hHeld (fun hSx => ?_)
  clear hSx hK K
  (try simp only [Act.put]); (try simp only [List.setIfInBounds_toArray]); (try simp only [List.set_cons_zero, List.set_cons_succ])
  refine wpAnyH_ready (rs := [5]) (by kernel_rfl) (by simp) ?_
  refine AllReadyH.cons rfl (fun K hK => ?_) AllReadyH.nil
  go_simp
  refine (HC.out _ (HH.out.below hd)).mono ?_
  rintro e V9 ⟨rfl, own9, H9, F9⟩
  have hF9 := (HH.out.fr hd).trans F9
  have k2 := F9.keep hHeld (by rw [HO.out]; rfl)
  clear hHeld
  refine hK.out _ _ k2 (fun hHeld => ?_)
  clear hK K k2 hd F9
  clear V
  obtain ⟨V, rfl⟩ : ∃ U, U = V9 := ⟨_, rfl⟩
  (try simp only [Act.put]); (try simp only [List.setIfInBounds_toArray]); (try simp only [List.set_cons_zero, List.set_cons_succ])
  refine wpAnyH_done (by kernel_rfl) ?_ _
  have HX := Lib.hid (⟨H9, HF.out.trans hF9⟩ : _ ∧ _)
  clear H9 hF9 HC HH HF HO hHeld
  go_wp2_with fail
  go_ret
  exact ⟨rfl, own9, HX.out.1, HX.out.2⟩

set_option maxHeartbeats 2000000 in
set_option maxRecDepth 100000 in
theorem behind_chars (t : TokL) (hkd : t.kind = 7) (H : BX n own w bp ap sp lp b) :
    Calls Tryz.prog 23 #[.pointer (some ⟨bp, 0, none⟩), tokV t, .bool false] w (RX n own bp ap sp lp (.bool true) { b with mode := 6 } w) := by
  obtain ⟨W1, hW1⟩ : ∃ W, W = w.alloc (.cells (tokR t) 24) := ⟨_, rfl⟩
  have hb1 : Below w.heap.size w W1 := by rw [hW1]; exact (Below.refl _ w).alloc (Nat.le_refl _) _
  have hr : W1.heap[w.heap.size]? = some (.cells (tokR t) 24 (0, 0)) := by rw [hW1]; exact heap_new _ _
  have hH := H.below hb1
  have hF := H.fr hb1
  have ho : own w.heap.size = 0 := H.L _ (Nat.le_refl _)
  have HW1 := Lib.hid hW1
  obtain ⟨bx, hbx⟩ : ∃ x, x = w.heap.size := ⟨_, rfl⟩
  rw [← hbx] at hr ho
  have HBX := Lib.hid hbx
  clear hb1 hW1 H hbx
  have cS := Lib.hid (xSet 6 hH)
  have HF := Lib.hid hF
  have c0 := rowAt hr 0 (.int .i64 7) (by unfold tokR; rw [hkd]; rfl)
  clear hH hF hr ho hkd
  go_enter Tryz.func23, Tryz.ntmps23
  go_upto_region 1 with fail
  rw [← HW1.out, ← HBX.out]
  go_wp2_with fail
  refine cS.out.mono ?_
  rintro e w3 ⟨rfl, own3, H3, F3⟩
  have HX := Lib.hid (⟨H3, HF.out.trans F3⟩ : _ ∧ _)
  clear cS H3 F3 HF c0
  go_wp2_with fail
  go_ret
  exact ⟨rfl, own3, HX.out.1, HX.out.2⟩
set_option maxHeartbeats 2000000 in
set_option maxRecDepth 100000 in
theorem behind_body (t : TokL) (hnm : t.name = ⟨#[98, 111, 100, 121]⟩) (hkd : t.kind = 3) (H : BX n own w bp ap sp lp b) :
    Calls Tryz.prog 23 #[.pointer (some ⟨bp, 0, none⟩), tokV t, .bool false] w (RX n own bp ap sp lp (.bool true) { b with mode := 6 } w) := by
  obtain ⟨W1, hW1⟩ : ∃ W, W = w.alloc (.cells (tokR t) 24) := ⟨_, rfl⟩
  have hb1 : Below w.heap.size w W1 := by rw [hW1]; exact (Below.refl _ w).alloc (Nat.le_refl _) _
  have hr : W1.heap[w.heap.size]? = some (.cells (tokR t) 24 (0, 0)) := by rw [hW1]; exact heap_new _ _
  have hH := H.below hb1
  have hF := H.fr hb1
  have ho : own w.heap.size = 0 := H.L _ (Nat.le_refl _)
  have HW1 := Lib.hid hW1
  obtain ⟨bx, hbx⟩ : ∃ x, x = w.heap.size := ⟨_, rfl⟩
  rw [← hbx] at hr ho
  have HBX := Lib.hid hbx
  clear hb1 hW1 H hbx
  have cS := Lib.hid (xSet 6 hH)
  have HF := Lib.hid hF
  have c0 := rowAt hr 0 (.int .i64 3) (by unfold tokR; rw [hkd]; rfl)
  have c1 := rowAt hr 1 (.string ⟨#[98, 111, 100, 121]⟩) (by unfold tokR; rw [hnm]; rfl)
  clear hH hF hr ho hkd
  go_enter Tryz.func23, Tryz.ntmps23
  go_upto_region 1 with fail
  rw [← HW1.out, ← HBX.out]
  go_wp2_with fail
  refine cS.out.mono ?_
  rintro e w3 ⟨rfl, own3, H3, F3⟩
  have HX := Lib.hid (⟨H3, HF.out.trans F3⟩ : _ ∧ _)
  clear cS H3 F3 HF c0 c1
  go_wp2_with fail
  go_ret
  exact ⟨rfl, own3, HX.out.1, HX.out.2⟩
set_option maxHeartbeats 2000000 in
set_option maxRecDepth 100000 in
theorem Step_behind {m : Nat} {f : BS} (q : Bool) (t : TokL) (hmd : b.mode = 16) (H : BX n own w bp ap sp lp b)
    (hB : ∀ W, BX n own W bp ap sp lp b → Calls Tryz.prog 23 #[.pointer (some ⟨bp, 0, none⟩), tokV t, .bool false] W (RX m own bp ap sp lp (.bool q) f W)) :
    Calls Tryz.prog 8 #[.pointer (some ⟨bp, 0, none⟩), tokV t] w (RX m own bp ap sp lp (.bool q) f w) := by
  obtain ⟨W1, hW1⟩ : ∃ W, W = w.alloc (.cells (tokR t) 24) := ⟨_, rfl⟩
  have hb1 : Below w.heap.size w W1 := by rw [hW1]; exact (Below.refl _ w).alloc (Nat.le_refl _) _
  have hr : W1.heap[w.heap.size]? = some (.cells (tokR t) 24 (0, 0)) := by rw [hW1]; exact heap_new _ _
  have hH := H.below hb1
  have hF := H.fr hb1
  have ho : own w.heap.size = 0 := H.L _ (Nat.le_refl _)
  have HW1 := Lib.hid hW1
  obtain ⟨bx, hbx⟩ : ∃ x, x = w.heap.size := ⟨_, rfl⟩
  rw [← hbx] at hr ho
  have HBX := Lib.hid hbx
  clear hb1 hW1 H hbx
  have cN := Lib.hid (xArena hH)
  have HM : Hid (∀ V, BX n own V bp ap sp lp b → Calls Tryz.prog 22 #[.pointer (some ⟨bp, 0, none⟩)] V fun e w' => e = .returned (.int .i64 16) ∧ V = w') := Lib.hid (fun V hV => by have := xMode hV; rwa [hmd] at this)
  have HB := Lib.hid hB
  have HH := Lib.hid hH
  have HF := Lib.hid hF
  have Hr := Lib.hid hr
  have HO := Lib.hid ho
  clear hH hF hr ho hmd hB
  go_enter Tryz.func8, Tryz.ntmps8
  go_upto_region 1 with fail
  rw [← HW1.out, ← HBX.out]
  go_wp2_with fail
  refine cN.out.mono ?_
  rintro e w2 ⟨rfl, rfl⟩
  go_wp2_with fail
  refine (HM.out _ HH.out).mono ?_
  rintro e w2 ⟨rfl, rfl⟩
  clear cN
  go_upto_region 8 with fail
  have hd := (Below.refl W1.heap.size W1).drew
  refine wp_region_held_drew (S := fun U => U.heap[bx]? = some (.cells (tokR t) 24 (0, 0))) (by kernel_rfl) ((hd.block _ (row_lt Hr.out)).trans Hr.out) (fun hHeld => ?_)
  generalize W1.drew = V at hHeld hd ⊢
  refine TkH 0 18 ?_
  (try simp only [Act.put]); (try simp only [List.setIfInBounds_toArray]); (try simp only [List.set_cons_zero, List.set_cons_succ])
  refine TkD 1 (some 19) (v := tokV t) rfl rfl ?_ ?_
  · (intro W hSw; (try dsimp only at hSw); exact load_tok t bx W rfl rfl hSw)
  (try simp only [Act.put]); (try simp only [List.setIfInBounds_toArray]); (try simp only [List.set_cons_zero, List.set_cons_succ])
  refine TkH 2 20 ?_
  (try simp only [Act.put]); (try simp only [List.setIfInBounds_toArray]); (try simp only [List.set_cons_zero, List.set_cons_succ])
  refine wpAnyH_ready (rs := [3]) (by kernel_rfl) (by simp) ?_
  refine AllReadyH.cons rfl (fun K hK => ?_) AllReadyH.nil
  go_simp
  go_at_call 22
  refine (HM.out _ (HH.out.below hd)).mono ?_
  rintro e V9 ⟨rfl, rfl⟩
  refine hK.out _ _ hHeld (fun hSx => ?_)
  clear hSx hK K
  (try simp only [Act.put]); (try simp only [List.setIfInBounds_toArray]); (try simp only [List.set_cons_zero, List.set_cons_succ])
  focus (refine TkH 4 22 ?_)
  (try simp only [Act.put]); (try simp only [List.setIfInBounds_toArray]); (try simp only [List.set_cons_zero, List.set_cons_succ])
  refine wpAnyH_ready (rs := [5]) (by kernel_rfl) (by simp) ?_
  refine AllReadyH.cons rfl (fun K hK => ?_) AllReadyH.nil
  go_simp
  refine (HB.out _ (HH.out.below hd)).mono ?_
  rintro e V9 ⟨rfl, own9, H9, F9⟩
  have hF9 := (HH.out.fr hd).trans F9
  have k2 := F9.keep hHeld (by rw [HO.out]; rfl)
  clear hHeld
  refine hK.out _ _ k2 (fun hHeld => ?_)
  clear hK K k2 hd F9
  clear V
  obtain ⟨V, rfl⟩ : ∃ U, U = V9 := ⟨_, rfl⟩
  (try simp only [Act.put]); (try simp only [List.setIfInBounds_toArray]); (try simp only [List.set_cons_zero, List.set_cons_succ])
  focus (refine TkH 6 4 ?_)
  (try simp only [Act.put]); (try simp only [List.setIfInBounds_toArray]); (try simp only [List.set_cons_zero, List.set_cons_succ])
  refine wpAnyH_done (by kernel_rfl) ?_ _
  have HX := Lib.hid (⟨H9, HF.out.trans hF9⟩ : _ ∧ _)
  clear H9 hF9 HB HH HF HM HO hHeld
  go_wp2_with fail
  go_ret
  exact ⟨rfl, own9, HX.out.1, HX.out.2⟩

end
/-- The law's tokens. -/
inductive BhT : TokL → Prop
  | en : BhT (endT bodyS)
  | co (s : Ba) (h : s.size ≤ 1000) : BhT (comT s)
  | ch (s : Ba) (h : s.size ≤ 1000) : BhT (charsT s)
theorem drvH {ts : List TokL} (hts : ∀ t ∈ ts, BhT t) : Drv stpH (fun b => b.mode = 6 ∨ b.mode = 16) 65 ts := by
  refine ⟨fun bp ap sp lp n own W b t ht hm hn H hE => ?_, fun b t ht hm => ?_, fun b t ht hm h => ?_⟩
  · rcases hm with hm | hm
    · cases hts t ht with
      | en =>
        rw [show stpH b (endT bodyS) = (endBodyB b, false) by unfold stpH; rw [hm]; rfl]
        exact Step_body false (endT bodyS) hm H (fun V HV hb => (Body_end (m := n) 94 (endT bodyS) ⟨by decide, by decide +kernel⟩ rfl (tab_below hE.t hb) HV (fun x y v hv => Or.inl (look_end 10 (fun _ _ => rfl) (by decide +kernel) x y v hv)) Tryz.call94 (fun U HU => rendBody_any _ HU) (by decide +kernel)).mono fun _ _ hr => RX.mono hr (by omega) hn)
      | co s h =>
        rw [show stpH b (comT s) = (comment b (comT s) (-1), false) by unfold stpH; rw [hm]; rfl]
        exact Step_body false (comT s) hm H (fun V HV hb => (Body_comment (comT s) h rfl (by omega) HV).mono fun _ _ hr => RX.mono hr (by omega) hn)
      | ch s h =>
        rw [show stpH b (charsT s) = (chB b (charsT s), false) by unfold stpH; rw [hm]; rfl]
        exact Step_body false (charsT s) hm H (fun V HV hb => (Body_chars (charsT s) h rfl (by omega) HV).mono fun _ _ hr => RX.mono hr (by omega) hn)
    · cases hts t ht with
      | en =>
        rw [show stpH b (endT bodyS) = ({ b with mode := 6 }, true) by unfold stpH; rw [hm]; rfl]
        exact (Step_behind true (endT bodyS) hm H (fun V HV => behind_body (endT bodyS) rfl rfl HV)).mono fun _ _ hr => RX.mono hr (by omega) hn
      | co s h =>
        rw [show stpH b (comT s) = (comment b (comT s) (atS b.st 0), false) by unfold stpH; rw [hm]; rfl]
        exact (Step_behind false (comT s) hm H (fun V HV => behind_comment (comT s) h rfl (by omega) HV)).mono fun _ _ hr => RX.mono hr (by omega) hn
      | ch s h =>
        rw [show stpH b (charsT s) = ({ b with mode := 6 }, true) by unfold stpH; rw [hm]; rfl]
        exact (Step_behind true (charsT s) hm H (fun V HV => behind_chars (charsT s) rfl HV)).mono fun _ _ hr => RX.mono hr (by omega) hn
  · unfold stpH
    have hcom : ∀ (i : Int), (comment b t i).mode = b.mode := fun i => by
      unfold comment
      dsimp only
      split
      · exact putB_mode _ _ _
      · rfl
    split
    · split
      · exact Or.inr ((hcom _).trans (by rename_i h1 _; exact eq_of_beq h1))
      · exact Or.inl rfl
    · rename_i h16
      have h6 : b.mode = 6 := hm.resolve_right (fun e => h16 (by rw [e]; rfl))
      split
      · exact Or.inl ((chB_mode _ _).trans h6)
      · split
        · exact Or.inl ((hcom _).trans h6)
        · unfold endBodyB
          split
          · exact Or.inr rfl
          · exact Or.inl h6
  · unfold stpH at h
    split at h
    · split at h
      · cases h
      · rename_i h1 h2
        have e : (stpH b t).1 = { b with mode := 6 } := by unfold stpH; rw [if_pos h1, if_neg h2]
        rw [e]
        unfold stpH
        rw [show (({ b with mode := 6 } : BS).mode == 16) = false from rfl, if_neg (by decide)]
        repeat' split
        all_goals rfl
    · split at h
      · cases h
      · split at h <;> cases h
end Go.Proofs.YtnbdalohlldnbaaGreatDoor

namespace Go.Proofs.YtnbdalohlldnbaaGreatDoor
open Go.RowKit Bd
attribute [local go_sem ↓] Go.wp_at_zero Go.wp_at_succ
/-- A slice of bytes, as the world holds it. -/
def SlB (w : World) (v : Value) (l : List UInt8) : Prop :=
  ∃ a c, v = .slice a l.length c ∧ l.length ≤ 9223372036854775807 ∧ ∀ (j : Nat) (b : UInt8), l[j]? = some b → ∃ B off, a = some ⟨B, off, none⟩ ∧ B < w.heap.size ∧ w.cell? ⟨B, off + j, none⟩ = some (.int .u8 b.toNat)
theorem SlB.below {w w' : World} {v : Value} {l : List UInt8} (h : SlB w v l) (hb : Below w.heap.size w w') : SlB w' v l := by
  obtain ⟨a, c, h1, h2, h3⟩ := h
  refine ⟨a, c, h1, h2, fun j b hj => ?_⟩
  obtain ⟨B, off, e1, e2, e3⟩ := h3 j b hj
  exact ⟨B, off, e1, Nat.lt_of_lt_of_le e2 hb.size, by rw [hb.cell (p := ⟨B, off + j, none⟩) e2]; exact e3⟩
/-- Names, laid one behind another. -/
def NmsAt (w : World) (g : Nat) (l : List Ba) : Prop := ∀ (j : Nat) (nm : Ba), l[j]? = some nm → w.cell? ⟨g, j, none⟩ = some (.string nm)
theorem nms_alloc (w : World) (l : List Ba) (T : TypeId) : NmsAt (w.alloc (.cells (l.map Value.string).toArray T)) w.heap.size l :=
  fun j nm hj => rowAt (heap_new _ _) _ _ (by rw [List.getElem?_toArray, List.getElem?_map, hj]; rfl)
theorem NmsAt.below {w w' : World} {g : Nat} {l : List Ba} (h : NmsAt w g l) (hb : Below w.heap.size w w') : NmsAt w' g l :=
  fun j nm hj => (hb.cell (World.block_lt_of_cell? _ _ (h j nm hj))).trans (h j nm hj)
theorem EnvT.of {W0 wr : World} {own : Nat → Nat} (hE : E2 W0) (hb : Below W0.heap.size W0 wr) (h0 : ∀ k, k < W0.heap.size → own k = 0) : EnvT own wr := by
  have hT := hE.t
  have hlt : (1 : Nat) < W0.heap.size := by
    unfold Lib.TabIs World.var? at hT
    have hg : (Tryz.prog).globalNamed "strings.asciiSpace" = some 1 := by kernel_rfl
    rw [hg] at hT
    simp only [Option.bind_some] at hT
    rcases Nat.lt_or_ge (1 : Nat) W0.heap.size with h | h
    · exact h
    · rw [Array.getElem?_eq_none h] at hT; cases hT
  exact ⟨tab_below hE.t hb, h0 _ hlt⟩
/-- A builder in order, beside all that lay in W0. -/
structure LA (n : Nat) (W0 : World) (bp ap sp lp : Nat) (b : BS) (wr : World) : Prop where
  ex : ∃ own, BX n own wr bp ap sp lp b ∧ Below W0.heap.size W0 wr ∧ ∀ k, k < W0.heap.size → own k = 0
section
variable {n : Nat} {W0 wr w' : World} {bp ap sp lp : Nat} {b : BS}
theorem LA.below (h : LA n W0 bp ap sp lp b wr) (hb : Below wr.heap.size wr w') : LA n W0 bp ap sp lp b w' := by
  obtain ⟨own, h1, h2, h3⟩ := h.ex
  exact ⟨own, h1.below hb, below_call h2 hb, h3⟩
theorem LA.mono {m : Nat} (h : LA n W0 bp ap sp lp b wr) (hm : n ≤ m) (h2 : m ≤ 90000) : LA m W0 bp ap sp lp b wr := by
  obtain ⟨own, q1, q2, q3⟩ := h.ex
  exact ⟨own, q1.mono hm h2, q2, q3⟩
theorem LA.base (h : LA n W0 bp ap sp lp b wr) : Below W0.heap.size W0 wr := by
  obtain ⟨_, _, h2, _⟩ := h.ex
  exact h2
theorem LA.okb (h : LA n W0 bp ap sp lp b wr) : Okb n b := by
  obtain ⟨_, h1, _, _⟩ := h.ex
  exact h1.G
theorem LA.rx {m : Nat} {own : Nat → Nat} {r : Value} {b' : BS} {e : Ending} (hb : Below W0.heap.size W0 wr) (h0 : ∀ k, k < W0.heap.size → own k = 0) (hr : RX m own bp ap sp lp r b' wr e w') : e = .returned r ∧ LA m W0 bp ap sp lp b' w' := by
  obtain ⟨rfl, own', h1, h2⟩ := hr
  obtain ⟨q1, q2⟩ := h2.below0 hb h0
  exact ⟨rfl, own', h1, q1, q2⟩
theorem LA.opened (hE : E2 W0) : Calls Tryz.prog 11 #[.bool false] W0 fun e w' => ∃ bp ap sp lp rp, e = .returned (.tuple #[.pointer (some ⟨bp, 0, none⟩), .pointer (some ⟨rp, 0, none⟩)]) ∧ LA 4 W0 bp ap sp lp Bd.opened w' :=
  (opened_any hE.k).mono fun _ _ ⟨bp, ap, sp, lp, rp, oB, h1, h2, h3, h4⟩ => ⟨bp, ap, sp, lp, rp, h1, oB, h2, h3, h4⟩
theorem LA.does {stp : BS → TokL → BS × Bool} {Inv : BS → Prop} {c : Nat} (ts : List TokL) (T : TypeId) (cp : Nat) (hE : E2 W0) (hD : Drv stp Inv c ts) (hlen : ts.length ≤ 1000) (hI : Inv b) (hn : n + 2 * c * ts.length ≤ 90000) (h : LA n W0 bp ap sp lp b wr) :
    Calls Tryz.prog 12 #[.pointer (some ⟨bp, 0, none⟩), .slice (some ⟨wr.heap.size, 0, none⟩) ts.length cp] (wr.alloc (.cells (ts.flatMap tkRow).toArray T)) fun e w' => e = .returned (.tuple #[]) ∧ LA (n + 2 * c * ts.length) W0 bp ap sp lp (ts.foldl (doesT stp) b) w' := by
  obtain ⟨own, h1, h2, h3⟩ := h.ex
  have hb : Below wr.heap.size wr (wr.alloc (.cells (ts.flatMap tkRow).toArray T)) := (Below.refl _ _).alloc (Nat.le_refl _) _
  have hb2 := below_call h2 hb
  exact (does_any stp Inv c ts (toks_alloc wr ts T) (h1.L _ (Nat.le_refl _)) hlen (hD.step bp ap sp lp) hD.inv hD.stop hI hn (EnvT.of hE hb2 h3) (h1.below hb)).mono fun _ _ hr => LA.rx hb2 h3 hr
theorem LA.is {v : Value} {ns : List Ba} (h : LA n W0 bp ap sp lp b wr) (hN : NmAt wr v ns) : Calls Tryz.prog 21 #[.pointer (some ⟨bp, 0, none⟩), v] wr fun e w' => e = .returned (.bool (isB b ns)) ∧ Below wr.heap.size wr w' := by
  obtain ⟨own, h1, _, _⟩ := h.ex
  exact xIs h1 hN
theorem LA.arena (h : LA n W0 bp ap sp lp b wr) : Calls Tryz.prog 17 #[.pointer (some ⟨bp, 0, none⟩)] wr fun e w' => e = .returned (.pointer (some ⟨ap, 0, none⟩)) ∧ wr = w' := by
  obtain ⟨own, h1, _, _⟩ := h.ex
  exact xArena h1
theorem LA.tree (h : LA n W0 bp ap sp lp b wr) : Calls Tryz.prog 18 #[.pointer (some ⟨ap, 0, none⟩)] wr (RTree b.ar wr) := by
  obtain ⟨own, h1, _, _⟩ := h.ex
  exact xTree h1
theorem LA.stack (h : LA n W0 bp ap sp lp b wr) : Calls Tryz.prog 19 #[.pointer (some ⟨bp, 0, none⟩)] wr fun e w' => e = .returned (.pointer (some ⟨sp, 0, none⟩)) ∧ wr = w' := by
  obtain ⟨own, h1, _, _⟩ := h.ex
  exact xStack h1
theorem LA.slen (h : LA n W0 bp ap sp lp b wr) : Calls Tryz.prog 20 #[.pointer (some ⟨sp, 0, none⟩)] wr (RI b.st.length wr) := by
  obtain ⟨own, h1, _, _⟩ := h.ex
  exact xSLen h1
theorem LA.mode (h : LA n W0 bp ap sp lp b wr) : Calls Tryz.prog 22 #[.pointer (some ⟨bp, 0, none⟩)] wr fun e w' => e = .returned (.int .i64 b.mode) ∧ wr = w' := by
  obtain ⟨own, h1, _, _⟩ := h.ex
  exact xMode h1
/-- The shape of the body, out of the tree that was read. -/
theorem LA.shape {l : List NB} {v : Value} {B : Nat} (h : LA n W0 bp ap sp lp b wr) (hl : l.map NB.n = b.ar) (hT : TreeAt wr B v l) (hs : (Bd.shape b).size ≤ 1000000000) :
    Calls Tryz.prog 16 #[v, .int .i64 3] wr fun e w' => e = .returned (.string (Bd.shape b)) ∧ Below wr.heap.size wr w' := by
  obtain ⟨own, h1, _, _⟩ := h.ex
  exact shape_of h1 hl hT hs
end
theorem Drv.fold {stp : BS → TokL → BS × Bool} {Inv : BS → Prop} {c : Nat} {ts : List TokL} (hD : Drv stp Inv c ts) : ∀ (l : List TokL) {b : BS}, (∀ t ∈ l, t ∈ ts) → Inv b → Inv (l.foldl (doesT stp) b)
  | [], _, _, h => h
  | t :: r, b, hl, h => by
    refine Drv.fold hD r (fun u hu => hl u (List.mem_cons_of_mem _ hu)) ?_
    have ht := hl t (List.mem_cons_self ..)
    unfold doesT
    split
    · exact hD.inv _ _ ht (hD.inv _ _ ht h)
    · exact hD.inv _ _ ht h
theorem toList_inj {a b : ByteArray} (h : ByteArray.toList a = ByteArray.toList b) : a = b := by
  rw [Lib.toList_data, Lib.toList_data] at h
  exact ByteArray.ext (Array.toList_inj.1 h)
/-- One of the names. -/
theorem pick_nm {l : List Ba} {m : Nat} (hl : l ≠ []) (x : Nat) (hm : m = x % l.length) : ∃ nm, l[m]? = some nm ∧ nm ∈ l := by
  have : m < l.length := by rw [hm]; exact Nat.mod_lt _ (List.length_pos_iff.2 hl)
  exact ⟨l[m], List.getElem?_eq_getElem this, List.getElem_mem this⟩
end Go.Proofs.YtnbdalohlldnbaaGreatDoor

namespace Go.Proofs.YtnbdalohlldnbaaGreatDoor
open Go.RowKit Bd
attribute [local go_sem ↓] Go.wp_at_zero Go.wp_at_succ
/-- Where the law's loop stands. -/
structure BhR (n i z : Nat) (W0 : World) (bp ap sp lp : Nat) (wr : World) : Prop where
  ex : ∃ b, LA n W0 bp ap sp lp b wr ∧ HI i z b
theorem nb_atB {l : List NB} {a : Ar} {j : Nat} {z : NodeL} (hl : l.map NB.n = a) (hj : a[j]? = some z) : ∃ y, l[j]? = some y ∧ y.n = z := by
  rw [← hl, List.getElem?_map, Option.map_eq_some_iff] at hj
  exact hj
set_option maxHeartbeats 4000000 in
set_option maxRecDepth 100000 in
theorem BodiesBehind_any {w : World} (hE : E2 w) (s : ByteArray) (m : Nat) (hm : m < 256) : Calls Tryz.prog 7 #[.string s, .int .u8 m] w fun e w' => e = .returned (.bool true) ∧ Below w.heap.size w w' := by
  by_cases h0 : 100 < s.size ∨ s = ⟨#[]⟩
  · have cS := Lib.hid (stands_any hE)
    clear hE
    rcases h0 with h0 | rfl
    · have h0I : (100 : Int) < (s.size : Int) := by omega
      clear h0
      go_enter Tryz.func7, Tryz.ntmps7
      go_wp2_with fail
      refine cS.out.mono ?_
      rintro e w1 ⟨rfl, hb1⟩
      have HB := Lib.hid hb1
      clear hb1 cS
      go_wp2_with fail
      go_ret
      exact ⟨rfl, HB.out⟩
    · go_enter Tryz.func7, Tryz.ntmps7
      go_wp2_with fail
      refine cS.out.mono ?_
      rintro e w1 ⟨rfl, hb1⟩
      have HB := Lib.hid hb1
      clear hb1 cS
      go_wp2_with fail
      go_ret
      exact ⟨rfl, HB.out⟩
  · have h1 : s.size ≤ 100 := Nat.not_lt.1 fun h => h0 (Or.inl h)
    have h2 : s ≠ ⟨#[]⟩ := fun h => h0 (Or.inr h)
    have h1I : ¬ (100 : Int) < (s.size : Int) := by omega
    have h2I : s.toList.isEmpty = false := by
      rw [Lib.toList_data]
      cases hd : s.data.toList with
      | nil => exact absurd (ByteArray.ext (Array.toList_inj.1 (by rw [hd]))) h2
      | cons a b => rfl
    have h2b : (s == em) = false := beq_eq_false_iff_ne.2 h2
    obtain ⟨K, hK⟩ : ∃ K, K = m % 10 := ⟨_, rfl⟩
    have kT : Int.tmod (m : Int) 10 = (K : Int) := by rw [Int.tmod_eq_emod_of_nonneg (by omega)]; omega
    have hK10 : K < 10 := by omega
    have HH := Lib.hid (⟨h1, h2b, hE⟩ : _ ∧ _ ∧ _)
    have HK := Lib.hid hK
    have cO := Lib.hid (LA.opened hE)
    clear h0 h1 h2 h2b hE hK
    go_enter Tryz.func7, Tryz.ntmps7
    go_wp2_with fail
    refine cO.out.mono ?_
    rintro e w2 ⟨bp, ap, sp, lp, rp, rfl, A2⟩
    have HR0 : Hid (BhR (4 + 390 * 0) 0 s.size w bp ap sp lp w2) := Lib.hid ⟨Bd.opened, A2, hi_opened _⟩
    clear cO A2 h2I
    go_wp2_with fail
    go_loopw [7] (fun u wr => ∃ i : Nat, u = .int .i64 i ∧ i ≤ K ∧ Hid (BhR (4 + 390 * i) i s.size w bp ap sp lp wr)) (fun u _ => K - (intOf u).toNat)
    case atStart => exact ⟨0, rfl, Nat.zero_le _, HR0⟩
    case round =>
      obtain ⟨i, rfl, hi, HR⟩ := hrel
      clear HR0
      by_cases hlt : i < K
      · have hltI : (i : Int) < (K : Int) := by omega
        have hi0 : (0 : Int) ≤ (i : Int) := by omega
        obtain ⟨b, hA, hS⟩ := HR.out.ex
        have HA := Lib.hid (⟨hA, hS⟩ : _ ∧ _)
        clear hA hS HR
        go_wp2_with fail
        refine (tend_any _ _).mono ?_
        rintro e w3 ⟨rfl, hb3⟩
        have HA3 := Lib.hid (HA.out.1.below hb3)
        clear hb3
        go_wp2_with fail
        refine (tchars_any _ _).mono ?_
        rintro e w4 ⟨rfl, hb4⟩
        have A4 := HA3.out.below hb4
        have hD : Drv stpH (fun b => b.mode = 6 ∨ b.mode = 16) 65 [endT bodyS, comT ⟨#[99]⟩, charsT s] := drvH (fun t ht => by
          simp only [List.mem_cons, List.not_mem_nil, or_false] at ht
          rcases ht with rfl | rfl | rfl
          · exact .en
          · exact .co _ (by decide)
          · exact .ch s (by have := HH.out.1; omega))
        have cD := A4.does [endT bodyS, comT ⟨#[99]⟩, charsT s] 24 3 HH.out.2.2 hD (of_decide_eq_true rfl) (Or.inl HA.out.2.md) (by show 4 + 390 * i + 390 ≤ 90000; omega)
        rw [show ([endT bodyS, comT ⟨#[99]⟩, charsT s] : List TokL).foldl (doesT stpH) b = roundH b ⟨#[99]⟩ s from round_does HA.out.2.st HA.out.2.md ⟨#[99]⟩ s] at cD
        have hS6 := HA.out.2.round A4.okb (c := ⟨#[99]⟩) (s := s) (by decide) rfl HH.out.2.1
        generalize roundH b ⟨#[99]⟩ s = b6 at *
        have CD := Lib.hid cD
        have HS := Lib.hid hS6
        clear HA HA3 A4 hb4 hD hS6 cD
        go_wp2_with fail
        refine CD.out.mono ?_
        rintro e w6 ⟨rfl, A6⟩
        have cM := A6.mode
        rw [HS.out.md] at cM
        have CM := Lib.hid cM
        have HR6 : Hid (BhR (4 + 390 * (i + 1)) (i + 1) s.size w bp ap sp lp w6) := Lib.hid ⟨b6, A6, HS.out⟩
        clear CD A6 HS cM
        go_wp2_with fail
        refine CM.out.mono ?_
        rintro e w7 ⟨rfl, rfl⟩
        clear CM
        go_wp2_with fail
        go_roundw
        case rel => exact ⟨i + 1, by go_num, by omega, HR6⟩
        case measure => simp [intOf]; omega
      · have hltI : ¬ (i : Int) < (K : Int) := by omega
        obtain rfl : i = K := by omega
        obtain ⟨b, hA, hS⟩ := HR.out.ex
        have cA := Lib.hid hA.arena
        have cT := Lib.hid hA.tree
        have HA := Lib.hid (⟨hA, hS⟩ : _ ∧ _)
        clear hA hS HR
        go_wp2_with fail
        refine cA.out.mono ?_
        rintro e w3 ⟨rfl, rfl⟩
        go_wp2_with fail
        refine cT.out.mono ?_
        rintro e w4 ⟨tv, tl, rfl, htl, hT, hb4⟩
        obtain ⟨ta, tc, rfl⟩ := hT.form
        have hA4 := HA.out.1.below hb4
        have cS := Lib.hid (stands_any (HH.out.2.2.below hA4.base))
        have HB := Lib.hid hA4.base
        obtain ⟨z1, g1, _, l1⟩ := HA.out.2.h1
        obtain ⟨z3, g3, _, d3⟩ := HA.out.2.b3
        obtain ⟨y1, hy1, ez1⟩ := nb_atB htl g1
        obtain ⟨y3, hy3, ez3⟩ := nb_atB htl g3
        have hN4 : 3 < tl.length := by
          rcases Nat.lt_or_ge 3 tl.length with h | h
          · exact h
          · rw [List.getElem?_eq_none h] at hy3; cases hy3
        rcases d3 with ⟨hi0, hk, hl4⟩ | ⟨h0, c, y, hk, hy, h4, hsz⟩
        · have hl4' : tl.length = 4 := by rw [← htl, List.length_map] at hl4; exact hl4
          rw [hl4']
          subst hi0
          clear cA cT hA4 HA htl hT hb4 g1 g3 hy1 hy3 l1 hk hl4 hl4' hN4 ez1 ez3 hltI hlt
          go_wp2_with fail
          refine cS.out.mono ?_
          rintro e w8 ⟨rfl, hb8⟩
          have HF := Lib.hid (below_call HB.out hb8)
          clear cS hb8
          go_wp2_with fail
          go_ret
          exact ⟨rfl, HF.out⟩
        · obtain ⟨N, hN⟩ : ∃ N, N = tl.length := ⟨_, rfl⟩
          obtain ⟨yc, hyc, ezc⟩ := nb_atB htl hy
          have hcN : c < tl.length := by
            rcases Nat.lt_or_ge c tl.length with h | h
            · exact h
            · rw [List.getElem?_eq_none h] at hyc; cases hyc
          obtain ⟨g2, cap, e2, _, _, hc1⟩ := hT.cells hy1
          injection e2 with e3 e4 e5
          subst e3
          obtain ⟨g2', _, e2', _, _, hc3⟩ := hT.cells hy3
          injection e2' with e3' _ _
          injection e3' with e3'
          injection e3' with e3'
          subst e3'
          obtain ⟨g2', _, e2', _, _, hcc⟩ := hT.cells hyc
          injection e2' with e3' _ _
          injection e3' with e3'
          injection e3' with e3'
          subst e3'
          obtain ⟨a1, k1, ek1, _⟩ := (hT.k y1 (List.mem_of_getElem? hy1)).1
          obtain ⟨a3, k3, ek3, hk3⟩ := (hT.k y3 (List.mem_of_getElem? hy3)).1
          obtain ⟨gk, off, rfl, hkc⟩ := hk3 0 (c : Int) (by rw [ez3, hk]; rfl)
          rw [Nat.add_zero] at hkc
          have q1 := hc1 8 y1.kv rfl
          have q3 := hc3 8 y3.kv rfl
          have q2 := hcc 2 (.string yc.n.text) rfl
          obtain ⟨n2, hn2⟩ : ∃ n2, n2 = 2 + i := ⟨_, rfl⟩
          have hn2I : (2 : Int) + (i : Int) = (n2 : Int) := by omega
          rw [ek1, ez1, l1, ← hn2] at q1
          clear hn2
          rw [ek3, ez3, hk] at q3
          rw [ezc] at q2
          obtain ⟨P, hP⟩ : ∃ P, P = i * s.size := ⟨_, rfl⟩
          have hPI : (i : Int) * (s.size : Int) = (P : Int) := by rw [hP]; exact (Int.natCast_mul _ _).symm
          have hyP : (y.text.size : Int) = (P : Int) := by rw [hP, hsz]
          have hP900 : P ≤ 900 := by rw [hP]; exact Nat.le_trans (Nat.mul_le_mul (show i ≤ 9 by omega) HH.out.1) (Nat.le_refl _)
          have hi0 : (0 : Int) < (i : Int) := by omega
          have hib : ((i : Int) == 0) = false := beq_eq_false_iff_ne.2 (by omega)
          have hN4I : ¬ (N : Int) < 4 := by omega
          have h1N : (1 : Int) < (N : Int) := by omega
          have h3N : (3 : Int) < (N : Int) := by omega
          have hcNI : (c : Int) < (N : Int) := by omega
          have hc0 : (0 : Int) ≤ (c : Int) := by omega
          rw [← hN]
          generalize y.text = yt at *
          clear cA cT hA4 HA htl hT hb4 g1 g3 hy1 hy3 l1 hk hN4 ez1 ez3 ezc hltI hlt hN hyc hcN e4 e5 hc1 hc3 hcc ek1 ek3 hk3 hP h0 hy h4 hsz
          go_wp2_with fail
          refine cS.out.mono ?_
          rintro e w8 ⟨rfl, hb8⟩
          have HF := Lib.hid (below_call HB.out hb8)
          clear cS hb8
          go_wp2_with fail
          go_ret
          exact ⟨rfl, HF.out⟩
theorem bodiesBehind_any (s : ByteArray) (m : Nat) (w : World) (hm : m < 256) (hE : E2 w) : Calls Tryz.prog 7 #[.string s, .int .u8 m] w (RBool true w) := BodiesBehind_any hE s m hm
end Go.Proofs.YtnbdalohlldnbaaGreatDoor

set_option maxRecDepth 100000
namespace Go.Proofs.YtnbdalohlldnbaaGreatDoor
open Go.ChangeShapes Go.WideShapes Go.ChangeAt Go.RowKit
theorem laid_reads {l : List (String × DataW Unit)} {W : World} (h : laidMetH Tryz.prog l W) {n : String} {d : DataW Unit} (hm : (n, d) ∈ l) (hn : d.handleName?.isNone = true) : Lib.VarReads Tryz.prog W n d :=
  Lib.laidMet.reads (laidMetH_iff.1 h).1 (List.mem_filter.2 ⟨hm, hn⟩)
theorem tab_of_reads {W : World} {name : String} {k : IntKind} {zs : List Int} {g : Nat} {t e : TypeId} {n : Nat}
    (hg : Tryz.prog.globalNamed name = some g) (hty : (Tryz.prog.globals[g]?).map (·.type) = some t) (ht : Tryz.prog.underlying t = some (.array n e)) (he : Tryz.prog.underlying e = some (.int k)) (hce : Tryz.prog.cellsOf e = 1) (hct : Tryz.prog.cellsOf t = n)
    (h : Lib.VarReads Tryz.prog W name (Lib.tabData k zs)) : Lib.TabIs Tryz.prog W name k zs := by
  obtain ⟨g', t', cs, fuel, p, hg', ht', hvar, hd⟩ := h
  obtain rfl := Option.some.inj (hg.symm.trans hg')
  obtain rfl := Option.some.inj (hty.symm.trans ht')
  unfold Lib.TabIs
  rw [hvar, ← Lib.cells_of_tab ht he hce hct hd]
theorem gSp : Tryz.prog.globalNamed "strings.asciiSpace" = some 1 := by kernel_rfl
theorem gSc : Tryz.prog.globalNamed "lazaret/kinds.scopes" = some 4 := by kernel_rfl
theorem cellsS1 : Tryz.prog.cellsOf 9 = 1 := by kernel_rfl
theorem cellsB1 : Tryz.prog.cellsOf 4 = 1 := by kernel_rfl
theorem cellsI1 : Tryz.prog.cellsOf 3 = 1 := by kernel_rfl
theorem cellsA1 : Tryz.prog.cellsOf 22 = 1 := by kernel_rfl
theorem sc_of_laid {W : World} (h : Lib.VarReads Tryz.prog W "lazaret/kinds.scopes" Rows.laid_lazaret_kinds_scopes) : ∀ j : Nat, j < 4 → W.cell? ⟨4, j, none⟩ = some (.string (Bd.scopesL.getD j Bd.em)) := by
  obtain ⟨g', t', cs, fuel, p, hg', ht', hvar, hd⟩ := h
  obtain rfl := Option.some.inj (gSc.symm.trans hg')
  obtain rfl := Option.some.inj ((show (Tryz.prog.globals[4]?).map (·.type) = some 192 by kernel_rfl).symm.trans ht')
  obtain ⟨xs, m, _, hx, _, hxl, hcell⟩ := DataW.trod_array Tryz.underlying192 hd
  have e : (Rows.laid_lazaret_kinds_scopes : DataW Unit) = .agg (Bd.scopesL.map fun l => .lit (.string l.data.toList)) := by kernel_rfl
  have hm := congrArg Prod.fst hx
  rw [e] at hm
  dsimp only at hm
  injection hm with hm
  intro i hi
  have h1 := hcell i hi
  rw [cellsS1, Nat.mul_one, List.getElem?_eq_getElem (by rw [hxl]; exact hi)] at h1
  obtain ⟨s, hs, hy, _⟩ := DataW.trod_string (Tryz.underlying9) h1
  have hy1 : (xs[i]'(by rw [hxl]; exact hi)).1 = .lit (.string s.data.toList) := by rw [hy]
  have hl : i < Bd.scopesL.length := hi
  have h2 : (xs.map (·.1))[i]? = (Bd.scopesL.map fun l => (.lit (.string l.data.toList) : DataW Unit))[i]? := by rw [hm]
  rw [List.getElem?_map, List.getElem?_map, List.getElem?_eq_getElem (by rw [hxl]; exact hi), List.getElem?_eq_getElem hl, Option.map_some, Option.map_some, hy1] at h2
  have h3 : s = Bd.scopesL[i] := by
    have := Option.some.inj h2
    injection this with this
    injection this with this
    exact ByteArray.ext (Array.toList_inj.1 this)
  have h4 := congrArg (fun l : List Value => l[0]?) hs
  simp only [List.getElem?_take, List.getElem?_drop, Nat.add_zero] at h4
  rw [World.var?_cell gSc hvar i, ← Array.getElem?_toList, List.getD_eq_getElem?_getD, List.getElem?_eq_getElem hl, Option.getD_some, ← h3]
  simpa using h4
theorem e2_of_laid {l : List (String × DataW Unit)} {W : World} (h : laidMetH Tryz.prog l W) (hsh : W.ShapedOpen Tryz.prog) (m1 : ("strings.asciiSpace", Rows.laid_strings_asciiSpace) ∈ l) (m2 : ("lazaret/kinds.scopes", Rows.laid_lazaret_kinds_scopes) ∈ l) : E2 W :=
  ⟨⟨cell_of_shapedOpen_int (zero := #[.int .i64 0]) (t := 3) hsh (of_decide_eq_true (by kernel_rfl)) (by kernel_rfl) rfl (by kernel_rfl) (by kernel_rfl) (Tryz.underlying3), sc_of_laid (laid_reads h m2 rfl)⟩,
    tab_of_reads gSp (t := 140) (by kernel_rfl) (Tryz.underlying140) (Tryz.underlying5) (by kernel_rfl) (by kernel_rfl) (laid_reads h m1 rfl)⟩
section
variable {H : Type} {enc : TypeId × Value → H} {W : World} {base : Nat} {sp : Nat → Bool} {hd : Bool} {v : Value} {fuel : Nat} {x : Option (DataW H × List MemPlace)}
theorem bcell_str (h : DataW.trod enc Tryz.prog W base sp hd fuel 9 [v] = x) (hx : x.isSome = true) : ∃ s : ByteArray, v = .string s := by
  obtain ⟨y, rfl⟩ := Option.isSome_iff_exists.1 hx
  obtain ⟨s, h1, _⟩ := DataW.trod_string Tryz.underlying9 h
  exact ⟨s, List.singleton_inj.1 h1⟩
theorem bcell_bool (h : DataW.trod enc Tryz.prog W base sp hd fuel 4 [v] = x) (hx : x.isSome = true) : ∃ b : Bool, v = .bool b := by
  obtain ⟨y, rfl⟩ := Option.isSome_iff_exists.1 hx
  obtain ⟨b, h1, _⟩ := DataW.trod_bool Tryz.underlying4 h
  exact ⟨b, List.singleton_inj.1 h1⟩
theorem bcell_int (h : DataW.trod enc Tryz.prog W base sp hd fuel 3 [v] = x) (hx : x.isSome = true) : ∃ n : Int, v = .int .i64 n := by
  obtain ⟨y, rfl⟩ := Option.isSome_iff_exists.1 hx
  obtain ⟨n, h1, _⟩ := DataW.trod_int Tryz.underlying3 h
  exact ⟨n, List.singleton_inj.1 h1⟩
theorem bcell_attrs (h : DataW.trod enc Tryz.prog W base sp hd fuel 22 [v] = x) (hx : x.isSome = true) : ∃ a n c, v = .slice a n c := by
  obtain ⟨y, rfl⟩ := Option.isSome_iff_exists.1 hx
  rcases DataW.trod_slice Tryz.underlying22 h with ⟨h1, _⟩ | ⟨a, len, cap, _, _, _, _, h1, _⟩
  · exact ⟨_, _, _, List.singleton_inj.1 h1⟩
  · exact ⟨_, _, _, List.singleton_inj.1 h1⟩
theorem bcell_at {f : Field} {cs : List Value} {t : TypeId} {y : Option (DataW H × List MemPlace)} (h : DataW.trod enc Tryz.prog W base sp hd fuel f.type ((cs.drop f.offset).take (Tryz.prog.cellsOf f.type)) = y) (ht : f.type = t) (hc : Tryz.prog.cellsOf t = 1) {c : Value} {r : List Value} (hd' : cs.drop f.offset = c :: r) : DataW.trod enc Tryz.prog W base sp hd fuel t [c] = y := by
  subst ht
  rw [hc, hd'] at h
  exact h
theorem len9 {α : Type} {l : List α} (h : l.length = 9) : ∃ a b c d e f g i j, l = [a, b, c, d, e, f, g, i, j] := by
  match l, h with
  | [a, b, c, d, e, f, g, i, j], _ => exact ⟨a, b, c, d, e, f, g, i, j, rfl⟩
theorem cellsTok : Tryz.prog.cellsOf 24 = 9 := by kernel_rfl
set_option maxRecDepth 100000 in
/-- A token that came in. -/
theorem tok_of {d : DataW H} {ps : List MemPlace} {r : Reach} {b0 : Nat} (hv : Value.okWide Tryz.prog W r b0 24 v) (h : DataW.Trod enc Tryz.prog W base sp hd 24 v d ps) :
    ∃ (kd fr tt : Int) (nm tx0 : ByteArray) (a : Option Addr) (n c : Nat) (dp se qu : Bool), v = .agg #[.int .i64 kd, .string nm, .string tx0, .slice a n c, .bool dp, .bool se, .bool qu, .int .i64 fr, .int .i64 tt] := by
  simp only [Value.okWide, Tryz.underlying24] at hv
  obtain ⟨⟨cs⟩, rfl, hsz, _⟩ := hv
  rw [cellsTok] at hsz
  obtain ⟨fuel, hf⟩ := h
  obtain ⟨a, b, c, e, f, g, i, j, k, rfl⟩ := len9 hsz
  obtain ⟨xs, n, _, _, _, hlen, hx⟩ := DataW.trod_struct Tryz.underlying24 (show DataW.trod enc Tryz.prog W base sp hd fuel 24 [a, b, c, e, f, g, i, j, k] = some (d, ps) from hf)
  have hsome : ∀ i, i < 9 → xs[i]?.isSome = true := fun i hi => by rw [List.getElem?_eq_getElem (by rw [hlen]; exact hi)]; rfl
  obtain ⟨kd, rfl⟩ := bcell_int (bcell_at (hx 0 _ rfl) rfl cellsI1 rfl) (hsome 0 (by omega))
  obtain ⟨nm, rfl⟩ := bcell_str (bcell_at (hx 1 _ rfl) rfl cellsS1 rfl) (hsome 1 (by omega))
  obtain ⟨tx0, rfl⟩ := bcell_str (bcell_at (hx 2 _ rfl) rfl cellsS1 rfl) (hsome 2 (by omega))
  obtain ⟨a0, n0, c0, rfl⟩ := bcell_attrs (bcell_at (hx 3 _ rfl) rfl cellsA1 rfl) (hsome 3 (by omega))
  obtain ⟨dp, rfl⟩ := bcell_bool (bcell_at (hx 4 _ rfl) rfl cellsB1 rfl) (hsome 4 (by omega))
  obtain ⟨se, rfl⟩ := bcell_bool (bcell_at (hx 5 _ rfl) rfl cellsB1 rfl) (hsome 5 (by omega))
  obtain ⟨qu, rfl⟩ := bcell_bool (bcell_at (hx 6 _ rfl) rfl cellsB1 rfl) (hsome 6 (by omega))
  obtain ⟨fr, rfl⟩ := bcell_int (bcell_at (hx 7 _ rfl) rfl cellsI1 rfl) (hsome 7 (by omega))
  obtain ⟨tt, rfl⟩ := bcell_int (bcell_at (hx 8 _ rfl) rfl cellsI1 rfl) (hsome 8 (by omega))
  exact ⟨kd, fr, tt, nm, tx0, a0, n0, c0, dp, se, qu, rfl⟩
end
end Go.Proofs.YtnbdalohlldnbaaGreatDoor

set_option maxRecDepth 100000
namespace Go.Proofs.YtnbdalohlldnbaaGreatDoor
open Go.ChangeShapes Go.WideShapes Go.ChangeAt Go.RowKit
theorem laidOut : laidOutB Tryz.prog = true := by kernel_rfl
/-- The arguments read behind the call as they did. -/
theorem trodAll_below {H : Type} {enc : TypeId × Value → H} {W W' : World} (hb : Below W.heap.size W W') : ∀ {ts : List TypeId} {vs : List Value} {ds : List (DataW H)} {ps : List MemPlace},
    (∀ t ∈ ts, Tryz.prog.readableRec t = true ∧ t < Tryz.prog.types.size) → DataW.TrodAll enc Tryz.prog W 0 (fun _ => true) true ts vs ds ps → (∀ x ∈ ps, x.block < W.heap.size) →
    DataW.TrodAll enc Tryz.prog W' 0 (fun b => decide (b < W.heap.size)) true ts vs ds ps
  | [], [], [], _, _, h, _ => h
  | t :: ts, v :: vs, d :: ds, ps, ht, ⟨p, q, h1, h2, e⟩, hlt =>
    ⟨p, q, Below.trod laidOut (ht t (by simp)).1 (ht t (by simp)).2 h1 hb (fun x hx => hlt x (by rw [e]; exact List.mem_append_left _ hx)),
      trodAll_below hb (fun t' h' => ht t' (by simp [h'])) h2 (fun x hx => hlt x (by rw [e]; exact List.mem_append_right _ hx)), e⟩
  | [], _ :: _, _, _, _, h, _ => by simp [DataW.TrodAll] at h
  | [], [], _ :: _, _, _, h, _ => by simp [DataW.TrodAll] at h
  | _ :: _, [], _, _, _, h, _ => by simp [DataW.TrodAll] at h
  | _ :: _, _ :: _, [], _, _, h, _ => by simp [DataW.TrodAll] at h

theorem ownU : ownKnob Tryz.prog.godebug = none := by kernel_rfl
theorem e2_row {W : World} (h : laidMetH Tryz.prog Rows.bodiesNoneRow.laid W) (hsh : W.ShapedOpen Tryz.prog) : E2 W := e2_of_laid h hsh (.tail _ (.head _)) (.tail _ (.tail _ (.head _)))
/-- The witness starts where the door's own run ends. -/
noncomputable def startU (os : Os) : World := World.doorLaid Tryz.prog 200 os
theorem metU (os : Os) (args : Array Value) : laidMetH Tryz.prog Rows.bodiesNoneRow.laid ((startU os).forCall (fun _ _ => 0) ⟨#[], args, []⟩).memory :=
  laidMetH_of_parts3 (fuel := 8) (laidMet_of_run3 8 (by kernel_rfl) (by kernel_rfl) (by kernel_rfl)) (by kernel_rfl) (by kernel_rfl)
/-! What every row asks of the program, fact by fact: together they outgrow the kernel's memory. -/
theorem andI {a b : Bool} (h1 : a = true) (h2 : b = true) : (a && b) = true := by rw [h1, h2]; rfl
theorem mayU : Tryz.prog.mayEnter = true := by kernel_rfl
theorem liftU : (Rows.bodiesNoneRow.lifted == Tryz.prog.liftsFinal) = true := by kernel_rfl
theorem makeU : (Tryz.prog.make == some Rows.bodiesNoneRow.make) = true := by kernel_rfl
theorem mapsU : mapsRowed Tryz.prog = true := by kernel_rfl
theorem keysU : (Rows.bodiesNoneRow.plainKeys == Tryz.prog.plainKeys) = true := by kernel_rfl
theorem heardU : Tryz.prog.stopsHeard = true := by kernel_rfl
/-- A token that came in, by its parts. -/
structure TokI where
  kd : Int
  fr : Int
  tt : Int
  nm : ByteArray
  tx : ByteArray
  a : Option Addr
  n : Nat
  c : Nat
  dp : Bool
  se : Bool
  qu : Bool
def TokI.val (x : TokI) : Value := .agg #[.int .i64 x.kd, .string x.nm, .string x.tx, .slice x.a x.n x.c, .bool x.dp, .bool x.se, .bool x.qu, .int .i64 x.fr, .int .i64 x.tt]
theorem tokI_of {H : Type} {enc : TypeId × Value → H} {W : World} {base : Nat} {sp : Nat → Bool} {hd : Bool} {v : Value} {d : DataW H} {ps : List MemPlace} {r : Reach} {b0 : Nat} (hv : Value.okWide Tryz.prog W r b0 24 v) (h : DataW.Trod enc Tryz.prog W base sp hd 24 v d ps) : ∃ x : TokI, v = x.val := by
  obtain ⟨kd, fr, tt, nm, tx0, a, n, c, dp, se, qu, rfl⟩ := tok_of hv h
  exact ⟨⟨kd, fr, tt, nm, tx0, a, n, c, dp, se, qu⟩, rfl⟩
theorem bodiesNone_any (x : TokI) (w : World) (hE : E2 w) : Calls Tryz.prog 3 #[x.val] w (RBool true w) := BodiesNone_any hE x.kd x.fr x.tt x.nm x.tx x.a x.n x.c x.dp x.se x.qu
end Go.Proofs.YtnbdalohlldnbaaGreatDoor

namespace Go.Proofs.YtnbdalohlldnbaaGreatDoor
open Go.ChangeShapes Go.WideShapes Go.ChangeAt Go.RowKit
theorem cellsU8 : Tryz.prog.cellsOf 5 = 1 := by kernel_rfl
/-- A byte that came in. -/
theorem byte_of_wf {n : Int} (h : (Lit.int .u8 n).wf = true) : 0 ≤ n ∧ n ≤ 255 := by
  simp only [Lit.wf, Bool.and_eq_true, decide_eq_true_eq] at h
  have h0 : IntKind.u8.min = 0 := by decide
  have h1 : IntKind.u8.max = 255 := by decide
  rw [h0, h1] at h
  exact h

set_option maxRecDepth 100000 in
/-- A slice of bytes that came in, as its cell. -/
theorem slB_cell {H : Type} {enc : TypeId × Value → H} {W : World} {base : Nat} {sp : Nat → Bool} {hd : Bool} {v : Value} {x : DataW H × List MemPlace} {fuel : Nat}
    (hf : DataW.trod enc Tryz.prog W base sp hd fuel 39 [v] = some x) : ∃ l, SlB W v l := by
  rcases open_ints Tryz.underlying39 Tryz.underlying5 cellsU8 hf with ⟨hcs, hx⟩ | ⟨a, len', cap', zs, hcs, _, hl, hm, hz, hx, hcell, hwz⟩
  · obtain rfl := List.singleton_inj.1 hcs
    exact ⟨[], none, 0, rfl, by simp, fun j b hj => by simp at hj⟩
  · obtain rfl := List.singleton_inj.1 hcs
    have hzl : len' ≤ zs.length := by rw [hz]; split <;> omega
    have hm' : cap' ≤ 9223372036854775807 := hm
    have hlen : ((zs.take len').map (fun z => UInt8.ofNat z.toNat)).length = len' := by simp; omega
    refine ⟨(zs.take len').map (fun z => UInt8.ofNat z.toNat), some a, cap', by rw [hlen], by rw [hlen]; omega, fun j b hj => ?_⟩
    have hjl : j < len' := by
      have := (List.getElem?_eq_some_iff.1 hj).1
      rw [hlen] at this; exact this
    obtain ⟨B, off, rfl, hc⟩ := ints_at hcell (by omega)
    have h1 := hc j (by omega)
    refine ⟨B, off, rfl, World.block_lt_of_cell? _ _ h1, ?_⟩
    rw [h1]
    have hzj : zs[j]? = some (zs.getD j 0) := by
      rw [List.getD_eq_getElem?_getD, List.getElem?_eq_getElem (by omega)]; rfl
    have hb : b = UInt8.ofNat (zs.getD j 0).toNat := by
      rw [List.getElem?_map, List.getElem?_take, if_pos hjl, hzj] at hj
      exact (Option.some.inj hj).symm
    obtain ⟨w0, w1⟩ := byte_of_wf (hwz _ (List.mem_of_getElem? hzj))
    rw [hb, UInt8.toNat_ofNat']
    congr 2
    omega
set_option maxRecDepth 100000 in
/-- A slice of bytes that came in. -/
theorem slB_of {H : Type} {enc : TypeId × Value → H} {W : World} {base : Nat} {sp : Nat → Bool} {hd : Bool} {v : Value} {d : DataW H} {ps : List MemPlace} {r : Reach} {b0 : Nat}
    (hv : Value.okWide Tryz.prog W r b0 39 v) (h : DataW.Trod enc Tryz.prog W base sp hd 39 v d ps) : ∃ l, SlB W v l := by
  obtain ⟨a0, len, cap, rfl⟩ := okWide_slice Tryz.underlying39 hv
  obtain ⟨fuel, hf⟩ := h
  exact slB_cell hf
theorem nat_of_wf' {k : IntKind} {n : Int} (h : (Lit.int k n).wf = true) (hm : k.min = 0) : ∃ m : Nat, n = (m : Int) ∧ (m : Int) ≤ k.max := by
  simp only [Lit.wf, Bool.and_eq_true, decide_eq_true_eq] at h
  rw [hm] at h
  exact ⟨n.toNat, by omega, by omega⟩
theorem nat8_of_wf' {n : Int} (h : (Lit.int .u8 n).wf = true) : ∃ m : Nat, n = (m : Int) ∧ m < 256 := by
  obtain ⟨m, rfl, h1⟩ := nat_of_wf' h (by decide)
  rw [show IntKind.u8.max = 255 by decide] at h1
  exact ⟨m, rfl, by omega⟩
end Go.Proofs.YtnbdalohlldnbaaGreatDoor

namespace Go.Proofs.YtnbdalohlldnbaaGreatDoor.bodiesBehind
open Go.ChangeShapes Go.WideShapes Go.ChangeAt Go.RowKit Go.Proofs.YtnbdalohlldnbaaGreatDoor

theorem walk (s0 : ByteArray) (m1 : Nat) (w : World) (hm1 : m1 < 256) (hE : E2 w) : Calls Tryz.prog 7 #[.string s0, .int .u8 m1] w (RBool true w) := bodiesBehind_any s0 m1 w hm1 hE

theorem env {W : World} (h : laidMetH Tryz.prog Rows.bodiesNoneRow.laid W) (hsh : W.ShapedOpen Tryz.prog) : E2 W := e2_row h hsh

set_option maxRecDepth 100000 in
/-- WHAT THE WALK GIVES, FOR EVERY ARGUMENT AND EVERY WORLD THAT HOLDS WHAT THE ROW LISTS. -/
theorem contract (H : Type) (enc : TypeId × Value → H) (W : World) (base : Nat) (args : Array Value) (ds gs : List (DataW H)) (before : List MemPlace)
    (hval : ∀ (j : Nat) t v, Tryz.f7.params[j]? = some t → args[j]? = some v → Value.okWide Tryz.prog W .any base t v)
    (hW : DataW.Whole enc Tryz.prog Tryz.f7.params.toList Rows.bodiesBehindSpec.vars false W args.toList ds gs before) (hL : laidMetH Tryz.prog Rows.bodiesBehindRow.laid W) (hsh : W.ShapedOpen Tryz.prog) :
    Calls Tryz.prog 7 args W fun e W' => ∃ v, e = .returned v ∧ Rows.bodiesBehindSpec.post enc Tryz.prog Tryz.f7 false true false false W args v W' := by
  have hW' := hW
  obtain ⟨p, q, hA0, hV, rfl, hfz, hnd⟩ := hW
  have hA : DataW.TrodAll enc Tryz.prog W 0 (fun _ => true) true Tryz.f7.params.toList args.toList ds p := hA0
  rw [Tryz.params7] at hA hval
  have hAk := hA
  have hlt : ∀ x ∈ p, x.block < W.heap.size := fun x hx => hW'.lt x (List.mem_append_left _ hx)
  obtain ⟨v0, v1, d0, d1, p0, p1, rfl, rfl, rfl, h0, h1⟩ := trodAll_two hA
  obtain ⟨rfl, rfl⟩ := trodVars_none hV
  obtain ⟨s0, rfl, rfl, rfl, hs0⟩ := Go.ChangeMaps.open_string Tryz.underlying9 (hval 0 9 v0 rfl rfl) h0
  obtain ⟨z1, rfl, rfl, rfl, hz1⟩ := open_int Tryz.underlying5 (hval 1 5 v1 rfl rfl) h1
  obtain ⟨m1, rfl, hm1⟩ := nat8_of_wf' hz1
  clear hA0
  refine (walk s0 m1 W hm1 (env hL hsh)).mono fun e W' hr => ?_
  obtain ⟨he, hb⟩ : e = .returned (.bool true) ∧ Below W.heap.size W W' := hr
  subst he
  refine ⟨_, rfl, _, _, _, [], [] ++ [], [], hW', ?_, ?_, ?_, hb.frame _, ?_⟩
  · exact trodAll_mk1 (shut_bool Tryz.underlying4 true)
  · exact trodAll_below hb (by decide +kernel) hAk hlt
  · rfl
  · exact fun h => by cases h

theorem met (os : Os) (args : Array Value) : laidMetH Tryz.prog Rows.bodiesBehindRow.laid ((startU os).forCall (fun _ _ => 0) ⟨#[], args, []⟩).memory := metU os args
theorem reads (os : Os) {H : Type} (enc : TypeId × Value → H) : ∃ places, DataW.whole enc Tryz.prog ((startU os).forCall (fun _ _ => 0) ⟨#[], #[.string ⟨#[]⟩, .int .u8 0], []⟩).memory Tryz.f7.params.toList Rows.bodiesBehindSpec.vars false #[Value.string ⟨#[]⟩, .int .u8 0].toList 8 = some ([.lit (.string []), .lit (.int .u8 0)], [], places) :=
  ⟨[], by kernel_rfl⟩

set_option maxRecDepth 100000 in
theorem lifted (os : Os) (started : os.Started) (H : Type) (enc : TypeId × Value → H) (F : Stop.Interp) :
    ReturnsInHanded {} Tryz.checked os 7 .any ((OpenSpec.ofChange Rows.bodiesBehindSpec).preRow enc Tryz.prog Tryz.f7 Rows.bodiesBehindRow.domain false Rows.bodiesBehindRow.laid) (((OpenSpec.ofChange Rows.bodiesBehindSpec).at F).post enc Tryz.prog Tryz.f7 false true false false) := by
  obtain ⟨places, hx⟩ := reads os enc
  refine returnsInHanded_of_row (C := Tryz.checked) (s := OpenSpec.ofChange Rows.bodiesBehindSpec) ownU started (by kernel_rfl) Tryz.func7
    (witness_row_atRef (enc := enc) (C := Tryz.checked) false (startU os) #[.string ⟨#[]⟩, .int .u8 0] rfl (by kernel_rfl) (by kernel_rfl) (by kernel_rfl)
      (OpenSpec.preRow_of_cond 8 hx (by kernel_rfl) (fun k hk => by cases hk) (by kernel_rfl) (met os _))) ?_
  intro W base args ds gs before hval hW _ _ _ hL hsh _
  exact contract H enc W base args ds gs before hval hW hL hsh

theorem c1 : Rows.bodiesBehindRow.wf (OpenSpec.ofChange Rows.bodiesBehindSpec) = true := by kernel_rfl
theorem c2 : namedTie Tryz.prog Rows.bodiesBehindRow.named Rows.bodiesBehindSpec.vars = true := by kernel_rfl
theorem c3 : (Rows.bodiesBehindRow.inPlace == Tryz.prog.inPlace 7) = true := by kernel_rfl
theorem c4 : (Rows.bodiesBehindRow.unfollowed == Tryz.prog.unfollowed 7) = true := by kernel_rfl
theorem c5 : (Rows.bodiesBehindRow.recurses == Tryz.prog.recurses 7) = true := by kernel_rfl
theorem c6 : (Rows.bodiesBehindRow.named == Tryz.prog.varsNamed 7) = true := by kernel_rfl
theorem c7 : (Rows.bodiesBehindRow.lifted == Tryz.prog.liftsFinal) = true := liftU
theorem c8 : (Tryz.prog.make == some Rows.bodiesBehindRow.make) = true := makeU
theorem c9 : (Rows.bodiesBehindRow.plainKeys == Tryz.prog.plainKeys) = true := keysU
theorem closed : joinedFacts Tryz.prog 7 Tryz.f7 Rows.bodiesBehindSpec Rows.bodiesBehindRow = true := by
  unfold joinedFacts
  repeat' (with_reducible refine andI ?_ ?_)
  all_goals first
    | with_reducible exact c1 | with_reducible exact laidOut | with_reducible exact mapsU | with_reducible exact c2 | with_reducible exact c3 | with_reducible exact c4 | with_reducible exact c5 | with_reducible exact c6
    | with_reducible exact c9 | with_reducible exact heardU | with_reducible exact mayU | with_reducible exact c7 | with_reducible exact c8
    | kernel_rfl
set_option maxRecDepth 100000 in
theorem said : Rows.BodiesBehindSaid :=
  OpenClaim.holds_of_cond 7 Tryz.f7 rfl rfl rfl rfl rfl rfl rfl ⟨rfl, rfl, rfl, rfl, rfl⟩ rfl rfl rfl rfl rfl (by kernel_rfl) Tryz.func7 closed
    (of_decide_eq_true (by kernel_rfl)) (by unfold Func.isWrapper; first | (rw [if_pos (by decide +kernel)]; kernel_rfl) | (rw [if_neg (by decide +kernel)]; exact ⟨rfl, rfl⟩))
    (fun os started H enc _ F => by rw [OpenClaim.pre_eq_preRow]; exact lifted os started H enc F)

theorem plain (f : FuncId) (fn : Func) (hf : Tryz.pinned.checked.prog.funcNamed "lazaret/lazaretlaw20.BodiesBehind" = some f) (hfn : Tryz.pinned.checked.prog.funcs[f]? = some fn) :
    false = Tryz.pinned.checked.prog.looks [] ∧ ∀ (j : Nat) t, fn.params[j]? = some t → Tryz.pinned.checked.prog.wantsStandIn t = false := by
  obtain rfl : f = 7 := Option.some.inj ((show Tryz.prog.funcNamed "lazaret/lazaretlaw20.BodiesBehind" = some 7 by kernel_rfl).symm.trans hf) |>.symm
  obtain rfl : fn = Tryz.f7 := (Option.some.inj (Tryz.func7.symm.trans hfn)).symm
  refine ⟨by kernel_rfl, fun j t ht => ?_⟩
  rw [Tryz.params7] at ht
  have hall : ∀ t ∈ (#[9, 5] : Array TypeId), Tryz.prog.wantsStandIn t = false := by decide +kernel
  exact hall t (Array.mem_of_getElem? ht)

theorem card : Rows.BodiesBehindCardSaid :=
  Claim7.holds_tied_plain_at .later [] _ _ _ _ said (fun _ h => by cases h) (by kernel_rfl) (fun _ h => by cases h) bodiesBehind_row_tie rfl ⟨rfl, rfl⟩ (by kernel_rfl) rfl plain (by kernel_rfl)
end Go.Proofs.YtnbdalohlldnbaaGreatDoor.bodiesBehind
