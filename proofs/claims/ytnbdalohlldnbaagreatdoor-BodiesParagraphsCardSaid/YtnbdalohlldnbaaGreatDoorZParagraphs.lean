/-
  Plain laws: a new node put behind all in another one, in one go; what an act of the builder is then. No condition.
  Plain laws: an element that has no end (the law BodiesSingle). No condition.
  Plain laws: what comes behind the body's end (the law BodiesBehind). No condition.
  Plain laws: elements nested as one likes (the law BodiesNested). No condition.
  Plain laws: elements nested as one likes (the law BodiesNested): its acts. No condition.
  Plain laws: what stands in a paragraph (the law BodiesParagraphs): the arena. No condition.
  Plain laws: what stands in a paragraph (the law BodiesParagraphs): the builder. No condition.
  Plain laws: what stands in a paragraph (the law BodiesParagraphs): rules without adoption. No condition.
  Plain laws: what stands in a paragraph (the law BodiesParagraphs): adoption. No condition.
  Plain laws: what stands in a paragraph (the law BodiesParagraphs): adoption to its end; the law's tokens. No condition.
  What the walks of the laws of lazaretlaw20 share: a builder beside what lay ahead of it; does; names picked out of a list.
  Package bodies: heading, lines, endHeading, endItem's closure. Printed by wip/mkbi4.py.
  The law's does, told of one more thing that lies still. Printed by wip/mkbi5.py.
  What Step does with the tokens of BodiesParagraphs. Printed by wip/mkbi5.py.
  The law BodiesParagraphs.
  From the rows of lazaretlaw20 to what the walks ask: the scopes, the table of blanks; a token that came in.
  What the rows of lazaretlaw20 share: what is laid, and a world that a witness starts in.
  What the rows of lazaretlaw20 open: numbers of eight bits, slices of bytes.
  From the rows of lazaretlaw20 to what BodiesParagraphs asks: the names of headings.
  The statement and the card of lazaretlaw20.BodiesParagraphs: whatever comes in, the law returns true, and what came in reads as it did.
-/
import Derived.Test.YtnbdalohlldnbaaGreatDoorM08
import Derived.Test.YtnbdalohlldnbaaGreatDoorM18
import Derived.Test.YtnbdalohlldnbaaGreatDoorRows
import Derived.ProofKit
import Derived.OpenShut
import Derived.Deep.DeepHandedRow
import Derived.Deep.DeepWitnessRowRef
import Derived.Lib.LaidTab
import Derived.Lib.LaidU8
import Derived.LaidMore
import Derived.LaidSub
import Derived.LaidHandle
import Derived.Shelf.Vars
import Derived.PinnedBridge
import Derived.Carry
import Derived.Deep.DeepLaidRun
import Derived.Test.YtnbdalohlldnbaaGreatDoorCards
import Derived.Test.YtnbdalohlldnbaaGreatDoorTie
namespace Bd
open Go
def insA (a : Ar) (p : Nat) (n : NodeL) : Ar := (a.modify p fun x => { x with kids := x.kids ++ [(a.length : Int)] }) ++ [{ bare n with parent := (p : Int) }]
theorem insA_len (a : Ar) (p : Nat) (n : NodeL) : (insA a p n).length = a.length + 1 := by simp [insA]
theorem insA_old {a : Ar} {p : Nat} {n x : NodeL} {j : Nat} (hj : a[j]? = some x) : (insA a p n)[j]? = some (if p = j then { x with kids := x.kids ++ [(a.length : Int)] } else x) := by
  have hl : j < a.length := by
    rcases Nat.lt_or_ge j a.length with h | h
    · exact h
    · rw [List.getElem?_eq_none h] at hj; cases hj
  unfold insA
  rw [List.getElem?_append_left (by rw [List.length_modify]; exact hl), List.getElem?_modify, hj]
  split <;> rfl
theorem insA_new (a : Ar) (p : Nat) (n : NodeL) : (insA a p n)[a.length]? = some { bare n with parent := (p : Int) } := by
  unfold insA
  rw [List.getElem?_append_right (by rw [List.length_modify]; exact Nat.le_refl _), List.length_modify, Nat.sub_self]
  rfl
theorem insA_back {a : Ar} {p : Nat} {n z : NodeL} {j : Nat} (hj : (insA a p n)[j]? = some z) : (∃ x, a[j]? = some x ∧ z = if p = j then { x with kids := x.kids ++ [(a.length : Int)] } else x) ∨ (j = a.length ∧ z = { bare n with parent := (p : Int) }) := by
  rcases Nat.lt_trichotomy j a.length with h | rfl | h
  · obtain ⟨x, hx⟩ : ∃ x, a[j]? = some x := ⟨_, List.getElem?_eq_getElem h⟩
    rw [insA_old hx] at hj
    exact Or.inl ⟨x, hx, (Option.some.inj hj).symm⟩
  · rw [insA_new] at hj
    exact Or.inr ⟨rfl, (Option.some.inj hj).symm⟩
  · rw [List.getElem?_eq_none (by rw [insA_len]; omega)] at hj; cases hj
theorem ins_eq {a : Ar} (h : ArOk a) {p : Nat} {z n : NodeL} (hp : a[p]? = some z) (hz : z.kind = 3 ∨ z.kind = 1) (hk : kidK n.kind = true) (ht : isTpl n = false) : (append (add a n).1 (p : Int) (add a n).2).1 = insA a p n := by
  have hA := h.snoc n (kid6 hk) ht
  have hpo := snoc_old (y := bare n) hp
  rw [add_eq h.ne hk ht]
  unfold Bd.append
  have e1 : (a ++ [bare n]).isEmpty = false := by cases a <;> rfl
  have e2 : holds (a ++ [bare n]) (p : Int) = true := by
    unfold holds
    rw [has_nat hpo, rd_nat hpo]
    rcases hz with hz | hz <;> rw [hz] <;> rfl
  have e3 : hangs (a ++ [bare n]) (a.length : Int) = true := by
    unfold hangs
    rw [has_nat (snoc_new a (bare n)), rd_nat (snoc_new a (bare n))]
    exact hk
  dsimp only
  rw [e1, e2, e3, above_new h n hp]
  show Bd.hang (a ++ [bare n]) (p : Int) (-1) (a.length : Int) = insA a p n
  have hpl : p < a.length := by
    rcases Nat.lt_or_ge p a.length with h | h
    · exact h
    · rw [List.getElem?_eq_none h] at hp; cases hp
  refine List.ext_getElem? fun j => ?_
  rw [hang_get hA (snoc_new a (bare n))]
  have hpar : (bare n).parent = -1 := rfl
  rcases Nat.lt_trichotomy j a.length with hj | rfl | hj
  · obtain ⟨x, hx⟩ : ∃ x, a[j]? = some x := ⟨_, List.getElem?_eq_getElem hj⟩
    rw [snoc_old hx, insA_old hx, Option.map_some]
    congr 1
    unfold hangN
    rw [hpar, if_neg (show ¬ (j : Int) = -1 by omega), if_neg (show ¬ j = a.length by omega)]
    by_cases e : p = j
    · subst e; rw [if_pos rfl, if_pos rfl]
    · rw [if_neg (show ¬ j = p from fun h => e h.symm), if_neg e, List.append_nil]
  · rw [snoc_new, insA_new, Option.map_some]
    congr 1
    unfold hangN
    rw [hpar, if_neg (show ¬ (a.length : Int) = -1 by omega), if_pos rfl, if_neg (show ¬ a.length = p by omega)]
    rfl
  · rw [List.getElem?_eq_none (by simp; omega), List.getElem?_eq_none (by rw [insA_len]; omega)]; rfl
theorem node_nat {a : Ar} {j : Nat} {x : NodeL} (h : a[j]? = some x) : node a (j : Int) = x := by
  unfold node
  rw [has_nat h, rd_nat h]; rfl
theorem htmlN_tpl {n : Nat} {x : NodeL} (h : NdOk n x) : htmlN x [templateS] = false := by
  have h2 := h.1.2
  unfold htmlN
  rw [show ([templateS] : List Ba).contains x.name = false by
    rw [List.contains_cons, h2]; rfl, Bool.and_false]
theorem place_eq {n : Nat} {b : BS} (H : Okb n b) {p : Nat} {z : NodeL} (hp : b.ar[p]? = some z) : place b (p : Int) = ((p : Int), -1) := by
  unfold place
  rw [H.fos, node_nat hp]
  simp only [Bool.false_and, Bool.false_eq_true, if_false]
  rw [node_nat hp, htmlN_tpl (H.nd z (List.mem_of_getElem? hp)), Bool.and_false]
  rfl
theorem target_eq {b : BS} {p : Nat} (h : topS b.st = (p : Int)) : target b = (p : Int) := by
  unfold target
  rw [h]; omega
theorem failB_0 (b : BS) : failB b 0 = b := by
  unfold failB
  rw [show ((0 : Int) != 0) = false from rfl, Bool.and_false]; rfl
theorem insertB_eq {n : Nat} {b : BS} (H : Okb n b) {t : TokL} (ht : TokOk t) {p : Nat} {z : NodeL} (hp : b.ar[p]? = some z) (hz : z.kind = 3) (htop : topS b.st = (p : Int)) (hl : b.st.length < 512) :
    insertB b t 0 = ({ b with ar := insA b.ar p (elementT t 0), st := b.st ++ [⟨(b.ar.length : Int), 0, t.name⟩] }, (b.ar.length : Int)) := by
  have hpl : b.ar[p]? = some z := hp
  have H1 := H.add (x := elementT t 0) rfl (tok_tpl ht 0) ⟨ht, Nat.zero_le _⟩
  unfold insertB
  rw [if_neg (by omega)]
  dsimp only
  rw [target_eq (b := { b with ar := (add b.ar (elementT t 0)).1 }) htop, putN _ _ _ (show ({ b with ar := (add b.ar (elementT t 0)).1 } : BS).foster = false from H.fos)]
  have hp1 : ({ b with ar := (add b.ar (elementT t 0)).1 } : BS).ar[p]? = some z := by
    show (add b.ar (elementT t 0)).1[p]? = some z
    rw [add_eq H.ar.ne rfl (tok_tpl ht 0)]
    exact snoc_old hp
  rw [place_eq H1 hp1]
  dsimp only
  rw [ins_eq H.ar hp (Or.inl hz) rfl (tok_tpl ht 0)]
  have hi : (add b.ar (elementT t 0)).2 = (b.ar.length : Int) := by rw [add_eq H.ar.ne rfl (tok_tpl ht 0)]
  rw [hi]
  have hps : pushS (insA b.ar p (elementT t 0)) b.st (b.ar.length : Int) = (b.st ++ [⟨(b.ar.length : Int), 0, t.name⟩], 0) := by
    have he : elementS (insA b.ar p (elementT t 0)) (b.ar.length : Int) = (⟨(b.ar.length : Int), 0, t.name⟩, 0) := by
      unfold elementS
      rw [node_nat (insA_new _ _ _)]
      rfl
    unfold pushS insertS
    rw [he]
    dsimp only
    rw [if_neg (by decide), if_neg (by simp), if_neg (by omega)]
    rw [Int.toNat_natCast, List.take_length, List.drop_length]
  rw [hps, failB_0]
theorem only_eq {n : Nat} {b : BS} (H : Okb n b) {t : TokL} (ht : TokOk t) {p : Nat} {z : NodeL} (hp : b.ar[p]? = some z) (hz : z.kind = 3) (htop : topS b.st = (p : Int)) (hl : b.st.length < 512) :
    (only b t).1 = { b with ar := insA b.ar p (elementT t 0) } := by
  unfold only
  rw [insertB_eq H ht hp hz htop hl]
  dsimp only
  rw [if_pos (by omega)]
  show ({ b with ar := insA b.ar p (elementT t 0), st := popS (b.st ++ [⟨(b.ar.length : Int), 0, t.name⟩]) } : BS) = _
  unfold popS
  rw [List.dropLast_concat]
theorem rebuild_nil {b : BS} (h : b.fo = []) : rebuild b = b := by
  unfold rebuild
  rw [h, List.length_nil, Nat.zero_sub]
  rfl
theorem charsB_eq {n : Nat} {b : BS} (H : Okb n b) (s : Ba) {p : Nat} {z : NodeL} (hp : b.ar[p]? = some z) (h0 : 0 < p) (htop : topS b.st = (p : Int)) :
    charsB b s = { b with ar := (textA b.ar (p : Int) (-1) s).1 } := by
  unfold charsB
  rw [target_eq htop, place_eq H hp]
  dsimp only
  rw [if_pos (by omega)]
theorem textA_new {a : Ar} (h : ArOk a) {p : Nat} {z : NodeL} (hp : a[p]? = some z) (hz : z.kind = 3) {s : Ba} (hs : (s == em) = false) (hl : ¬ (0 < z.kids.length ∧ (rd a (z.kids.getD (z.kids.length - 1) 0)).kind = 4)) :
    (textA a (p : Int) (-1) s).1 = insA a p (textN s) := by
  have e2 : holds a (p : Int) = true := by
    unfold holds
    rw [has_nat hp, rd_nat hp, hz]; rfl
  unfold textA
  rw [show a.isEmpty = false by cases a with | nil => exact absurd rfl h.ne | cons x r => rfl, e2, hs, rd_nat hp]
  simp only [Bool.false_eq_true, if_false, Bool.not_true, Bool.false_or]
  rw [if_neg (by rw [show ((-1 : Int) != -1) = false from rfl, Bool.false_and]; decide), if_neg (show ¬ (0 : Int) ≤ -1 by omega), if_neg hl, add_eq h.ne (n := textN s) rfl rfl]
  have h2 := ins_eq h hp (Or.inl hz) (n := textN s) rfl rfl
  rw [add_eq h.ne (n := textN s) rfl rfl] at h2
  rw [← h2]
  unfold Bd.append
  have hpo := snoc_old (y := bare (textN s)) hp
  have e1 : (a ++ [bare (textN s)]).isEmpty = false := by cases a <;> rfl
  have e2 : holds (a ++ [bare (textN s)]) (p : Int) = true := by
    unfold holds
    rw [has_nat hpo, rd_nat hpo, hz]; rfl
  have e3 : hangs (a ++ [bare (textN s)]) (a.length : Int) = true := by
    unfold hangs
    rw [has_nat (snoc_new a _), rd_nat (snoc_new a _)]; rfl
  dsimp only
  rw [e1, e2, e3, above_new h _ hp]
  rfl
theorem textA_old {a : Ar} (h : ArOk a) {p : Nat} {z : NodeL} (hp : a[p]? = some z) (hz : z.kind = 3) {s : Ba} (hs : (s == em) = false) {c : Nat} (hc : z.kids.getD (z.kids.length - 1) 0 = (c : Int)) (hl : 0 < z.kids.length) {y : NodeL} (hy : a[c]? = some y) (h4 : y.kind = 4) :
    (textA a (p : Int) (-1) s).1 = upd a (c : Int) fun n => { n with text := n.text ++ s } := by
  have e2 : holds a (p : Int) = true := by
    unfold holds
    rw [has_nat hp, rd_nat hp, hz]; rfl
  unfold textA
  rw [show a.isEmpty = false by cases a with | nil => exact absurd rfl h.ne | cons x r => rfl, e2, hs, rd_nat hp]
  simp only [Bool.false_eq_true, if_false, Bool.not_true, Bool.false_or]
  rw [if_neg (by rw [show ((-1 : Int) != -1) = false from rfl, Bool.false_and]; decide), if_neg (show ¬ (0 : Int) ≤ -1 by omega), hc, rd_nat hy, if_pos ⟨hl, h4⟩]
end Bd

namespace Bd
open Go
def htmlS : Ba := ⟨#[104, 116, 109, 108]⟩
def bodyS : Ba := ⟨#[98, 111, 100, 121]⟩
/-- Only the root and the body are open. -/
def stB : St := [⟨1, 0, htmlS⟩, ⟨3, 0, bodyS⟩]
def ruler (b : BS) (t : TokL) : BS := (only (closeP b) t).1
def paramB (b : BS) (t : TokL) : BS := (only b t).1
theorem Okb.ruler {n : Nat} {b : BS} (h : Okb n b) {t : TokL} (ht : TokOk t) : Okb (n + 1) (ruler b t) := h.closeP.only ht
theorem Okb.paramB {n : Nat} {b : BS} (h : Okb n b) {t : TokL} (ht : TokOk t) : Okb (n + 1) (paramB b t) := h.only ht
theorem closeP_stB {b : BS} (h : b.st = stB) : closeP b = b := by
  unfold closeP
  rw [h, show hasS stB 2 [pS] = false from by decide +kernel]; rfl
theorem other_stB {b : BS} (h : b.st = stB) {z : NodeL} (hz : b.ar[3]? = some z) (h0 : z.space = 0) (hn : z.name = bodyS) {nm : Ba} (hne : (bodyS == nm) = false) : other b nm = b := by
  have h1 : atS b.st ((1 : Nat) : Int) = ((3 : Nat) : Int) := by rw [h]; decide
  unfold other
  rw [h]
  show otherF b nm (1 + 1) = b
  unfold otherF
  dsimp only
  rw [h1, node_nat hz, h0, hn, hne, Bool.and_false, show special 0 bodyS = true from by decide +kernel]
  rfl
/-- Where the law stands. -/
structure SI (b : BS) : Prop where
  st : b.st = stB
  fo : b.fo = []
  md : b.mode = 6
  bd : ∃ z, b.ar[3]? = some z ∧ z.kind = 3 ∧ z.space = 0 ∧ z.name = bodyS
  kn : ∀ x ∈ b.ar, x.kids ≠ [] → x.name = em ∨ x.name = htmlS ∨ x.name = bodyS
theorem SI.ins {b : BS} (h : SI b) (n : NodeL) : SI { b with ar := insA b.ar 3 n } := by
  obtain ⟨z, hz, h1, h2, h3⟩ := h.bd
  refine ⟨h.st, h.fo, h.md, ⟨_, insA_old hz, ?_⟩, fun x hx hk => ?_⟩
  · rw [if_pos rfl]; exact ⟨h1, h2, h3⟩
  · obtain ⟨j, hj⟩ := List.mem_iff_getElem?.1 hx
    rcases insA_back hj with ⟨y, hy, rfl⟩ | ⟨_, rfl⟩
    · by_cases e : 3 = j
      · subst e
        obtain rfl := Option.some.inj (hz.symm.trans hy)
        rw [if_pos rfl]
        exact Or.inr (Or.inr h3)
      · rw [if_neg e] at hk ⊢
        exact h.kn y (List.mem_of_getElem? hy) hk
    · exact absurd rfl hk
theorem SI.text {b : BS} (h : SI b) (c : Nat) (f : Ba → Ba) : SI { b with ar := upd b.ar (c : Int) fun n => { n with text := f n.text } } := by
  obtain ⟨z, hz, h1, h2, h3⟩ := h.bd
  refine ⟨h.st, h.fo, h.md, ?_, fun x hx hk => ?_⟩
  · show ∃ w, (upd b.ar (c : Int) _)[3]? = some w ∧ _
    rw [upd_get, hz]
    refine ⟨_, rfl, ?_⟩
    split <;> exact ⟨h1, h2, h3⟩
  · obtain ⟨j, hj⟩ := List.mem_iff_getElem?.1 hx
    have hj' : (upd b.ar (c : Int) fun n => { n with text := f n.text })[j]? = some x := hj
    rw [upd_get] at hj'
    cases hy : b.ar[j]? with
    | none => rw [hy] at hj'; cases hj'
    | some y =>
      rw [hy, Option.map_some] at hj'
      have := Option.some.inj hj'
      subst this
      have hm := h.kn y (List.mem_of_getElem? hy)
      revert hk
      split
      · exact hm
      · exact hm
theorem top_stB {b : BS} (h : b.st = stB) : topS b.st = ((3 : Nat) : Int) := by rw [h]; decide
theorem SI.only {n : Nat} {b : BS} (h : SI b) (H : Okb n b) {t : TokL} (ht : TokOk t) : SI (only b t).1 := by
  obtain ⟨z, hz, h1, _, _⟩ := h.bd
  rw [only_eq H ht hz h1 (top_stB h.st) (by rw [h.st]; decide)]
  exact h.ins _
theorem SI.single {n : Nat} {b : BS} (h : SI b) (H : Okb n b) {t : TokL} (ht : TokOk t) : SI (single b t) := by
  unfold Bd.single
  rw [rebuild_nil h.fo]
  exact h.only H ht
theorem SI.ruler {n : Nat} {b : BS} (h : SI b) (H : Okb n b) {t : TokL} (ht : TokOk t) : SI (Bd.ruler b t) := by
  unfold Bd.ruler
  rw [closeP_stB h.st]
  exact h.only H ht
theorem SI.other {b : BS} (h : SI b) {nm : Ba} (hne : (bodyS == nm) = false) : SI (other b nm) := by
  obtain ⟨z, hz, _, h2, h3⟩ := h.bd
  rw [other_stB h.st hz h2 h3 hne]; exact h
theorem SI.chB {n : Nat} {b : BS} (h : SI b) (H : Okb n b) {t : TokL} (ht : (t.text == em) = false) : SI (chB b t) := by
  obtain ⟨z, hz, h1, _, _⟩ := h.bd
  unfold Bd.chB
  rw [rebuild_nil h.fo, charsB_eq H _ hz (by decide) (top_stB h.st)]
  by_cases hl : 0 < z.kids.length ∧ (rd b.ar (z.kids.getD (z.kids.length - 1) 0)).kind = 4
  · obtain ⟨k, hk⟩ : ∃ k, k = z.kids.getD (z.kids.length - 1) 0 := ⟨_, rfl⟩
    have hm : k ∈ z.kids := by
      rw [hk, List.getD_eq_getElem?_getD, List.getElem?_eq_getElem (by omega)]
      exact List.getElem_mem _
    obtain ⟨c, y, e, hy, _⟩ := H.ar.kid 3 z hz k hm
    have h4 := hl.2
    rw [← hk, e, rd_nat hy] at h4
    rw [textA_old H.ar hz h1 ht (hk.symm.trans e) hl.1 hy h4]
    exact h.text c (fun s => s ++ t.text)
  · rw [textA_new H.ar hz h1 ht hl]
    exact h.ins _
theorem SI.is {b : BS} (h : SI b) (nm : Ba) : isB b [nm] = (nm == bodyS) := by
  obtain ⟨z, hz, h1, h2, h3⟩ := h.bd
  unfold isB htmlN current
  rw [top_stB h.st, node_nat hz, h1, h2, h3]
  rw [show ([nm] : List Ba).contains bodyS = (bodyS == nm) by rw [List.contains_cons]; simp]
  rw [show (bodyS == nm) = (nm == bodyS) from Bool.eq_iff_iff.2 (by rw [beq_iff_eq, beq_iff_eq]; exact eq_comm)]
  rfl
theorem si_opened : SI opened :=
  ⟨by decide +kernel, by decide +kernel, by decide +kernel, ⟨_, show opened.ar[3]? = some (opened.ar.getD 3 nd0) from by decide +kernel, by decide +kernel, by decide +kernel, by decide +kernel⟩, by decide +kernel⟩
/-- The elements that have no end. -/
def namesS : List Ba := [⟨#[98, 114]⟩, ⟨#[105, 109, 103]⟩, ⟨#[105, 110, 112, 117, 116]⟩, ⟨#[119, 98, 114]⟩, ⟨#[101, 109, 98, 101, 100]⟩, ⟨#[97, 114, 101, 97]⟩, ⟨#[104, 114]⟩, ⟨#[112, 97, 114, 97, 109]⟩, ⟨#[115, 111, 117, 114, 99, 101]⟩, ⟨#[116, 114, 97, 99, 107]⟩]
theorem names_ok {nm : Ba} (h : nm ∈ namesS) : (nm.size ≤ 1000 ∧ (nm == templateS) = false) ∧ (nm == em) = false ∧ (nm == htmlS) = false ∧ (nm == bodyS) = false ∧ (bodyS == nm) = false := by
  have : ∀ x ∈ namesS, (x.size ≤ 1000 ∧ (x == templateS) = false) ∧ (x == em) = false ∧ (x == htmlS) = false ∧ (x == bodyS) = false ∧ (bodyS == x) = false := by decide +kernel
  exact this nm h
theorem SI.last {b : BS} (h : SI b) {nm : Ba} (hn : nm ∈ namesS) {x : NodeL} (hx : x ∈ b.ar) (e : x.name = nm) : x.kids = [] := by
  obtain ⟨_, h1, h2, h3, _⟩ := names_ok hn
  rcases Decidable.em (x.kids = []) with hk | hk
  · exact hk
  · exfalso
    rcases h.kn x hx hk with e2 | e2 | e2 <;> rw [e] at e2 <;> subst e2
    · simp at h1
    · simp at h2
    · simp at h3
/-- What Step does with the law's tokens. -/
def stpI (b : BS) (t : TokL) : BS × Bool :=
  if t.kind == 7 then (chB b t, false)
  else if t.kind == 2 then (if t.name == ⟨#[104, 114]⟩ then ruler b t else if t.name == ⟨#[112, 97, 114, 97, 109]⟩ || t.name == ⟨#[115, 111, 117, 114, 99, 101]⟩ || t.name == ⟨#[116, 114, 97, 99, 107]⟩ then paramB b t else single b t, false)
  else (if t.name == ⟨#[98, 114]⟩ then endBr b else other b t.name, false)
end Bd

namespace Bd
open Go
def endBodyB (b : BS) : BS := if hasS b.st 0 [bodyS] then { b with mode := 16 } else b
theorem Okb.mode {n : Nat} {b : BS} (h : Okb n b) (m : Int) : Okb n { b with mode := m } := ⟨h.ar, h.len, h.nd, h.st, h.fo, h.fos⟩
theorem Okb.endBodyB {n : Nat} {b : BS} (h : Okb n b) : Okb n (endBodyB b) := by
  unfold Bd.endBodyB
  split
  · exact h.mode 16
  · exact h
/-- What Step does with the law's tokens, in the body or behind it. -/
def stpH (b : BS) (t : TokL) : BS × Bool :=
  if b.mode == 16 then (if t.kind == 4 then (comment b t (atS b.st 0), false) else ({ b with mode := 6 }, true))
  else if t.kind == 7 then (chB b t, false) else if t.kind == 4 then (comment b t (-1), false) else (endBodyB b, false)
/-- What does does with one token, where Step asks for it once more at most once. -/
def doP (stp : BS → TokL → BS × Bool) (b : BS) (t : TokL) : BS := if (stp b t).2 then (stp (stp b t).1 t).1 else (stp b t).1
def comT (s : Ba) : TokL := { tok0 with kind := 4, text := s }
structure HI (k m : Nat) (b : BS) : Prop where
  st : b.st = stB
  fo : b.fo = []
  md : b.mode = 6
  h1 : ∃ z, b.ar[1]? = some z ∧ z.kind = 3 ∧ z.kids.length = 2 + k
  b3 : ∃ z, b.ar[3]? = some z ∧ z.kind = 3 ∧ ((k = 0 ∧ z.kids = [] ∧ b.ar.length = 4) ∨ (0 < k ∧ ∃ (c : Nat) (y : NodeL), z.kids = [(c : Int)] ∧ b.ar[c]? = some y ∧ y.kind = 4 ∧ y.text.size = k * m))
theorem hi_opened (m : Nat) : HI 0 m opened :=
  ⟨by decide +kernel, by decide +kernel, by decide +kernel, ⟨_, show opened.ar[1]? = some (opened.ar.getD 1 nd0) from by decide +kernel, by decide +kernel, by decide +kernel⟩,
    ⟨_, show opened.ar[3]? = some (opened.ar.getD 3 nd0) from by decide +kernel, by decide +kernel, Or.inl ⟨rfl, by decide +kernel, by decide +kernel⟩⟩⟩
theorem comment_eq {n : Nat} {b : BS} (H : Okb n b) (t : TokL) {p : Nat} {z : NodeL} (hp : b.ar[p]? = some z) (hz : z.kind = 3) : comment b t (p : Int) = { b with ar := insA b.ar p (commentN t) } := by
  unfold comment
  dsimp only
  rw [if_neg (by omega), ins_eq H.ar hp (Or.inl hz) (n := commentN t) rfl rfl]
theorem upd_ne {a : Ar} {c j : Nat} {f : NodeL → NodeL} {x : NodeL} (hj : a[j]? = some x) (hn : ¬ c = j) : (upd a (c : Int) f)[j]? = some x := by
  rw [upd_get, hj, Option.map_some, if_neg hn]
theorem upd_at {a : Ar} {c : Nat} {f : NodeL → NodeL} {x : NodeL} (hj : a[c]? = some x) : (upd a (c : Int) f)[c]? = some (f x) := by
  rw [upd_get, hj, Option.map_some, if_pos rfl]
/-- One round of the law. -/
def roundH (b : BS) (c s : Ba) : BS := chB { comment { b with mode := 16 } (comT c) 1 with mode := 6 } (charsT s)
theorem HI.round {k m n : Nat} {b : BS} (h : HI k m b) (H : Okb n b) {c s : Ba} (hc : c.size ≤ 1000) (hs : s.size = m) (hne : (s == em) = false) : HI (k + 1) m (roundH b c s) := by
  obtain ⟨z1, g1, k1, l1⟩ := h.h1
  obtain ⟨z3, g3, k3, d3⟩ := h.b3
  have H16 := H.mode 16
  have HC : Okb (n + 1) { comment { b with mode := 16 } (comT c) 1 with mode := 6 } := (H16.comment (t := comT c) hc 1).mode 6
  have e0 := comment_eq H16 (comT c) (p := 1) g1 k1
  unfold roundH
  rw [show ((1 : Nat) : Int) = 1 from rfl] at e0
  rw [e0] at HC ⊢
  obtain ⟨a1, ha1⟩ : ∃ a1, a1 = insA b.ar 1 (commentN (comT c)) := ⟨_, rfl⟩
  have q1 : a1[1]? = some { z1 with kids := z1.kids ++ [(b.ar.length : Int)] } := by rw [ha1]; exact insA_old g1
  have q3 : a1[3]? = some z3 := by rw [ha1]; exact insA_old g3
  have ql : a1.length = b.ar.length + 1 := by rw [ha1, insA_len]
  have qc : ∀ (j : Nat) (y : NodeL), b.ar[j]? = some y → y.kind = 4 → a1[j]? = some y := by
    intro j y hy h4
    rw [ha1, insA_old hy, if_neg]
    rintro rfl
    obtain rfl := Option.some.inj (g1.symm.trans hy)
    omega
  obtain ⟨B, hB⟩ : ∃ B : BS, B = { b with mode := 6, ar := a1 } := ⟨_, rfl⟩
  have hBe : ({ ({ b with mode := 16, ar := insA b.ar 1 (commentN (comT c)) } : BS) with mode := 6 } : BS) = B := by rw [hB, ha1]
  have HB : Okb (n + 1) B := by rw [← hBe]; exact HC
  show HI (k + 1) m (chB ({ ({ b with mode := 16, ar := insA b.ar 1 (commentN (comT c)) } : BS) with mode := 6 } : BS) (charsT s))
  rw [hBe]
  have f1 : B.st = stB := by rw [hB]; exact h.st
  have f2 : B.fo = [] := by rw [hB]; exact h.fo
  have f3 : B.ar = a1 := by rw [hB]
  have f4 : B.mode = 6 := by rw [hB]
  clear hBe HC e0 hB H16
  rw [← f3] at q1 q3 ql qc
  unfold chB
  rw [rebuild_nil f2, charsB_eq HB _ q3 (by decide) (top_stB f1)]
  show HI (k + 1) m { B with ar := (textA B.ar ((3 : Nat) : Int) (-1) s).1 }
  rcases d3 with ⟨rfl, hk, hl⟩ | ⟨h0, c0, y, hk, hy, h4, hsz⟩
  · rw [textA_new HB.ar q3 k3 hne (by rw [hk]; simp)]
    refine ⟨f1, f2, f4, ⟨_, insA_old q1, ?_, ?_⟩, ⟨_, insA_old q3, ?_, Or.inr ⟨by omega, B.ar.length, _, ?_, insA_new _ _ _, rfl, ?_⟩⟩⟩
    · exact k1
    · show (z1.kids ++ _).length = _
      rw [List.length_append, l1]; rfl
    · exact k3
    · rw [if_pos rfl, hk]; rfl
    · show s.size = _
      omega
  · rw [textA_old HB.ar q3 k3 hne (c := c0) (by rw [hk]; rfl) (by rw [hk]; exact Nat.one_pos) (qc c0 y hy h4) h4]
    have n1 : ¬ c0 = 1 := by
      rintro rfl
      obtain rfl := Option.some.inj (g1.symm.trans hy)
      omega
    have n3 : ¬ c0 = 3 := by
      rintro rfl
      obtain rfl := Option.some.inj (g3.symm.trans hy)
      omega
    refine ⟨f1, f2, f4, ⟨_, upd_ne q1 n1, k1, ?_⟩, ⟨_, upd_ne q3 n3, k3, Or.inr ⟨by omega, c0, _, hk, upd_at (qc c0 y hy h4), h4, ?_⟩⟩⟩
    · show (z1.kids ++ _).length = _
      rw [List.length_append, l1]; rfl
    · show (y.text ++ s).size = _
      rw [ByteArray.size_append, hsz, hs, Nat.succ_mul]
theorem comment_modeN (b : BS) (t : TokL) (i : Nat) : (comment b t (i : Int)).mode = b.mode := by
  unfold comment
  dsimp only
  rw [if_neg (by omega)]
theorem round_does {b : BS} (h : b.st = stB) (hm : b.mode = 6) (c s : Ba) : [endT bodyS, comT c, charsT s].foldl (doP stpH) b = roundH b c s := by
  have e1 : stpH b (endT bodyS) = ({ b with mode := 16 }, false) := by
    unfold stpH
    rw [hm, show ((6 : Int) == 16) = false from rfl]
    show (endBodyB b, false) = _
    unfold endBodyB
    rw [h, show hasS stB 0 [bodyS] = true from by decide +kernel]; rfl
  have d1 : doP stpH b (endT bodyS) = { b with mode := 16 } := by unfold doP; rw [e1]; rfl
  have e2 : stpH { b with mode := 16 } (comT c) = (comment { b with mode := 16 } (comT c) 1, false) := by
    unfold stpH
    rw [show (({ b with mode := 16 } : BS).mode == 16) = true from rfl]
    show (comment { b with mode := 16 } (comT c) (atS b.st 0), false) = _
    rw [h]; rfl
  have d2 : doP stpH { b with mode := 16 } (comT c) = comment { b with mode := 16 } (comT c) 1 := by unfold doP; rw [e2]; rfl
  obtain ⟨B, hB⟩ : ∃ B, B = comment { b with mode := 16 } (comT c) 1 := ⟨_, rfl⟩
  have m2 : B.mode = 16 := by rw [hB]; exact comment_modeN _ _ 1
  have e3 : stpH B (charsT s) = ({ B with mode := 6 }, true) := by
    unfold stpH
    rw [m2]; rfl
  have e4 : stpH { B with mode := 6 } (charsT s) = (chB { B with mode := 6 } (charsT s), false) := rfl
  have d3 : doP stpH B (charsT s) = chB { B with mode := 6 } (charsT s) := by unfold doP; rw [e3]; exact congrArg Prod.fst e4
  show doP stpH (doP stpH (doP stpH b (endT bodyS)) (comT c)) (charsT s) = _
  rw [d1, d2, ← hB, d3, hB]
  rfl
end Bd

namespace Bd
open Go
def lp : Ba := tx "("
def rp : Ba := tx ")"
/-- The kids' shapes one behind another, whatever lies outside of lo .. hi. -/
def Cl (a : Ar) (lo hi : Nat) (k : Int) (s : Ba) : Prop := ∀ a' : Ar, (∀ j, lo ≤ j → j < hi → a'[j]? = a[j]?) → hi ≤ a'.length → ∀ f, hi - lo ≤ f → shapeF a' f k = s
def Cls (a : Ar) (lo hi : Nat) (ks : List Int) (s : Ba) : Prop := ∀ a' : Ar, (∀ j, lo ≤ j → j < hi → a'[j]? = a[j]?) → hi ≤ a'.length → ∀ f, hi - lo ≤ f → ∀ s0, ks.foldl (fun s k => s ++ shapeF a' f k) s0 = s0 ++ s
theorem Cl.of {a a2 : Ar} {lo hi : Nat} {k : Int} {s : Ba} (h : Cl a lo hi k s) (he : ∀ j, lo ≤ j → j < hi → a2[j]? = a[j]?) : Cl a2 lo hi k s :=
  fun a' h1 hl f hf => h a' (fun j h2 h3 => (h1 j h2 h3).trans (he j h2 h3)) hl f hf
theorem Cls.of {a a2 : Ar} {lo hi : Nat} {ks : List Int} {s : Ba} (h : Cls a lo hi ks s) (he : ∀ j, lo ≤ j → j < hi → a2[j]? = a[j]?) : Cls a2 lo hi ks s :=
  fun a' h1 hl f hf => h a' (fun j h2 h3 => (h1 j h2 h3).trans (he j h2 h3)) hl f hf
theorem Cl.wide {a : Ar} {lo hi lo' hi' : Nat} {k : Int} {s : Ba} (h : Cl a lo hi k s) (h1 : lo' ≤ lo) (h2 : hi ≤ hi') : Cl a lo' hi' k s :=
  fun a' he hl f hf => h a' (fun j h3 h4 => he j (by omega) (by omega)) (by omega) f (by omega)
theorem Cls.wide {a : Ar} {lo hi lo' hi' : Nat} {ks : List Int} {s : Ba} (h : Cls a lo hi ks s) (h1 : lo' ≤ lo) (h2 : hi ≤ hi') : Cls a lo' hi' ks s :=
  fun a' he hl f hf => h a' (fun j h3 h4 => he j (by omega) (by omega)) (by omega) f (by omega)
theorem Cls.nil (a : Ar) (lo hi : Nat) : Cls a lo hi [] em := fun _ _ _ _ _ s0 => (show s0 = s0 ++ ByteArray.empty from ByteArray.append_empty.symm)
theorem Cls.snoc {a : Ar} {lo hi : Nat} {ks : List Int} {k : Int} {s u : Ba} (h : Cls a lo hi ks s) (hk : Cl a lo hi k u) : Cls a lo hi (ks ++ [k]) (s ++ u) := by
  intro a' he hl f hf s0
  rw [List.foldl_append, h a' he hl f hf]
  show (s0 ++ s) ++ shapeF a' f k = _
  rw [hk a' he hl f hf, ByteArray.append_assoc]
theorem rd_eq {a : Ar} {i : Nat} {x : NodeL} (h : a[i]? = some x) : i < a.length := by
  rcases Nat.lt_or_ge i a.length with h2 | h2
  · exact h2
  · rw [List.getElem?_eq_none h2] at h; cases h
theorem Cl.elem {a : Ar} {i hi : Nat} {x : NodeL} {s : Ba} (hx : a[i]? = some x) (hk : x.kind = 3) (hi' : i < hi) (h : Cls a (i + 1) hi x.kids s) : Cl a i hi (i : Int) (x.name ++ (lp ++ (s ++ rp))) := by
  intro a' he hl f hf
  obtain ⟨f', rfl⟩ : ∃ f', f = f' + 1 := ⟨f - 1, by omega⟩
  have hx' : a'[i]? = some x := (he i (Nat.le_refl _) hi').trans hx
  unfold shapeF
  rw [rd_nat hx']
  rw [show (decide ((i : Int) < 0) || decide ((a'.length : Int) ≤ (i : Int))) = false by simp; omega]
  rw [if_neg (by decide)]
  dsimp only
  rw [hk, if_neg (by decide), h a' (fun j h1 h2 => he j (by omega) h2) hl f' (by omega)]
  show x.name ++ lp ++ s ++ rp = _
  simp only [ByteArray.append_assoc]
theorem Cl.text {a : Ar} {i hi : Nat} {x : NodeL} (hx : a[i]? = some x) (hk : x.kind = 4) (hi' : i < hi) : Cl a i hi (i : Int) x.text := by
  intro a' he hl f hf
  obtain ⟨f', rfl⟩ : ∃ f', f = f' + 1 := ⟨f - 1, by omega⟩
  have hx' : a'[i]? = some x := (he i (Nat.le_refl _) hi').trans hx
  unfold shapeF
  rw [rd_nat hx']
  rw [show (decide ((i : Int) < 0) || decide ((a'.length : Int) ≤ (i : Int))) = false by simp; omega]
  rw [if_neg (by decide)]
  dsimp only
  rw [hk, if_pos (by decide)]
/-- The path of what is open, and the text so far. -/
def OpP (a : Ar) : Nat → List Nat → Ba → Prop
  | i, [], s => ∃ x u, a[i]? = some x ∧ x.kind = 3 ∧ Cls a (i + 1) a.length x.kids u ∧ s = x.name ++ (lp ++ u)
  | i, j :: r, s => ∃ x ks u s', a[i]? = some x ∧ x.kind = 3 ∧ i < j ∧ x.kids = ks ++ [(j : Int)] ∧ Cls a (i + 1) j ks u ∧ OpP a j r s' ∧ s = x.name ++ (lp ++ (u ++ s'))
def lastP : Nat → List Nat → Nat
  | i, [] => i
  | _, j :: r => lastP j r
theorem OpP.last {a : Ar} : ∀ {r : List Nat} {i : Nat} {s : Ba}, OpP a i r s → i ≤ lastP i r ∧ ∃ x, a[lastP i r]? = some x ∧ x.kind = 3
  | [], i, s, ⟨x, u, h1, h2, _⟩ => ⟨Nat.le_refl _, x, h1, h2⟩
  | j :: r, i, s, ⟨x, ks, u, s', h1, h2, h3, h4, h5, h6, h7⟩ => by
    obtain ⟨h, h'⟩ := OpP.last h6
    exact ⟨by show i ≤ lastP j r; omega, h'⟩
/-- A closed node more, in the innermost one. -/
theorem OpP.put {a a' : Ar} {n v : _} (ha : a' = insA a n v) : ∀ {r : List Nat} {i : Nat} {s w : Ba}, OpP a i r s → lastP i r = n → Cl a' a.length (a.length + 1) (a.length : Int) w → OpP a' i r (s ++ w)
  | [], i, s, w, ⟨x, u, h1, h2, h3, h4⟩, hn, hw => by
    obtain rfl : i = n := hn
    have hl := rd_eq h1
    have e := insA_old (p := i) (n := v) h1
    rw [← ha, if_pos rfl] at e
    refine ⟨_, u ++ w, e, h2, ?_, ?_⟩
    · show Cls a' (i + 1) a'.length (x.kids ++ [(a.length : Int)]) (u ++ w)
      have hl' : a'.length = a.length + 1 := by rw [ha, insA_len]
      rw [hl']
      refine Cls.snoc ((h3.of fun j q1 q2 => ?_).wide (Nat.le_refl _) (Nat.le_succ _)) (hw.wide (by omega) (Nat.le_refl _))
      obtain ⟨y, hy⟩ : ∃ y, a[j]? = some y := ⟨_, List.getElem?_eq_getElem q2⟩
      rw [ha, insA_old hy, if_neg (by omega), hy]
    · rw [h4]
      show _ = x.name ++ (lp ++ (u ++ w))
      simp only [ByteArray.append_assoc]
  | j :: r, i, s, w, ⟨x, ks, u, s', h1, h2, h3, h4, h5, h6, h7⟩, hn, hw => by
    have hn' : lastP j r = n := hn
    obtain ⟨hj, x2, hx2, _⟩ := OpP.last h6
    rw [hn'] at hj hx2
    have hl := rd_eq hx2
    have e := insA_old (p := n) (n := v) h1
    rw [← ha, if_neg (by omega)] at e
    refine ⟨x, ks, u, s' ++ w, e, h2, h3, h4, h5.of fun k q1 q2 => ?_, OpP.put ha h6 hn' hw, ?_⟩
    · obtain ⟨y, hy⟩ : ∃ y, a[k]? = some y := ⟨_, List.getElem?_eq_getElem (by omega)⟩
      rw [ha, insA_old hy, if_neg (by omega), hy]
    · rw [h7]; simp only [ByteArray.append_assoc]
/-- One more is opened, in the innermost one. -/
theorem OpP.open {a a' : Ar} {n : Nat} {v : NodeL} (ha : a' = insA a n v) (hv : v.kind = 3) : ∀ {r : List Nat} {i : Nat} {s : Ba}, OpP a i r s → lastP i r = n → OpP a' i (r ++ [a.length]) (s ++ (v.name ++ lp))
  | [], i, s, ⟨x, u, h1, h2, h3, h4⟩, hn => by
    obtain rfl : i = n := hn
    have hl := rd_eq h1
    have e := insA_old (p := i) (n := v) h1
    rw [← ha, if_pos rfl] at e
    have e2 := insA_new a i v
    rw [← ha] at e2
    refine ⟨_, x.kids, u, v.name ++ (lp ++ em), e, h2, hl, rfl, h3.of fun j q1 q2 => ?_, ⟨_, em, e2, hv, Cls.nil _ _ _, rfl⟩, ?_⟩
    · obtain ⟨y, hy⟩ : ∃ y, a[j]? = some y := ⟨_, List.getElem?_eq_getElem q2⟩
      rw [ha, insA_old hy, if_neg (by omega), hy]
    · rw [h4, show lp ++ em = lp from ByteArray.append_empty]
      simp only [ByteArray.append_assoc]
  | j :: r, i, s, ⟨x, ks, u, s', h1, h2, h3, h4, h5, h6, h7⟩, hn => by
    have hn' : lastP j r = n := hn
    obtain ⟨hj, x2, hx2, _⟩ := OpP.last h6
    rw [hn'] at hj hx2
    have hl := rd_eq hx2
    have e := insA_old (p := n) (n := v) h1
    rw [← ha, if_neg (by omega)] at e
    refine ⟨x, ks, u, s' ++ (v.name ++ lp), e, h2, h3, h4, h5.of fun k q1 q2 => ?_, OpP.open ha hv h6 hn', ?_⟩
    · obtain ⟨y, hy⟩ : ∃ y, a[k]? = some y := ⟨_, List.getElem?_eq_getElem (by omega)⟩
      rw [ha, insA_old hy, if_neg (by omega), hy]
    · rw [h7]; simp only [ByteArray.append_assoc]
/-- The innermost one is closed. -/
theorem OpP.close {a : Ar} {p : Nat} : ∀ {r : List Nat} {i : Nat} {s : Ba}, OpP a i (r ++ [p]) s → OpP a i r (s ++ rp)
  | [], i, s, ⟨x, ks, u, s', h1, h2, h3, h4, h5, ⟨y, v, g1, g2, g3, g4⟩, h7⟩ => by
    have hl := rd_eq g1
    refine ⟨x, u ++ (s' ++ rp), h1, h2, ?_, ?_⟩
    · rw [h4]
      have hc := Cl.elem g1 g2 hl g3
      rw [show y.name ++ (lp ++ (v ++ rp)) = s' ++ rp by rw [g4]; simp only [ByteArray.append_assoc]] at hc
      exact Cls.snoc (h5.wide (Nat.le_refl _) (by omega)) (hc.wide (by omega) (Nat.le_refl _))
    · rw [h7]; simp only [ByteArray.append_assoc]
  | j :: r, i, s, ⟨x, ks, u, s', h1, h2, h3, h4, h5, h6, h7⟩ => by
    refine ⟨x, ks, u, s' ++ rp, h1, h2, h3, h4, h5, OpP.close h6, ?_⟩
    rw [h7]; simp only [ByteArray.append_assoc]
def rps : Nat → Ba → Ba
  | 0, s => s
  | n + 1, s => rps n (s ++ rp)
theorem rps_succ (n : Nat) : ∀ s : Ba, rps (n + 1) s = rps n s ++ rp := by
  induction n with
  | zero => intro s; rfl
  | succ n ih => intro s; exact ih (s ++ rp)
theorem OpP.all {a : Ar} : ∀ (n : Nat) {r : List Nat} {i : Nat} {s : Ba}, r.length = n → OpP a i r s → OpP a i [] (rps n s)
  | 0, r, i, s, hn, h => by
    obtain rfl := List.length_eq_zero_iff.1 hn
    exact h
  | n + 1, r, i, s, hn, h => by
    have hne : r ≠ [] := by intro e; rw [e] at hn; cases hn
    rw [← List.dropLast_concat_getLast hne] at h
    exact OpP.all n (by rw [List.length_dropLast, hn]; rfl) h.close
theorem OpP.shape {a : Ar} {i : Nat} {s : Ba} (h : OpP a i [] s) : shapeF a (a.length + 1) (i : Int) = s ++ rp := by
  obtain ⟨x, u, h1, h2, h3, h4⟩ := h
  have hc := Cl.elem h1 h2 (rd_eq h1) h3
  rw [hc a (fun _ _ _ => rfl) (Nat.le_refl _) _ (by omega), h4]
  simp only [ByteArray.append_assoc]
end Bd

namespace Bd
open Go
def namesN : List Ba := [⟨#[100, 105, 118]⟩, ⟨#[115, 112, 97, 110]⟩, ⟨#[115, 101, 99, 116, 105, 111, 110]⟩, ⟨#[99, 105, 116, 101]⟩, ⟨#[117, 108]⟩, ⟨#[109, 97, 105, 110]⟩, ⟨#[120, 45, 121]⟩, ⟨#[98, 108, 111, 99, 107, 113, 117, 111, 116, 101]⟩]
def plainN (nm : Ba) : Bool := nm == ⟨#[115, 112, 97, 110]⟩ || nm == ⟨#[99, 105, 116, 101]⟩ || nm == ⟨#[120, 45, 121]⟩
/-- What Step does with the law's tokens. -/
def stpN (b : BS) (t : TokL) : BS × Bool :=
  if t.kind == 7 then (chB b t, false)
  else if t.kind == 2 then (if plainN t.name then plain b t else block b t, false)
  else (if plainN t.name then other b t.name else shut b t, false)
theorem namesN_ok {nm : Ba} (h : nm ∈ namesN) : (nm.size ≤ 1000 ∧ (nm == templateS) = false) ∧ impliedK nm = false ∧ (nm == pS) = false := by
  have : ∀ x ∈ namesN, (x.size ≤ 1000 ∧ (x == templateS) = false) ∧ impliedK x = false ∧ (x == pS) = false := by decide +kernel
  exact this nm h
/-- What is open, as the stack has it. -/
def opS (op : List (Nat × Ba)) : St := op.map fun o => ⟨(o.1 : Int), 0, o.2⟩
structure NI (op : List (Nat × Ba)) (want : Ba) (b : BS) : Prop where
  st : b.st = stB ++ opS op
  fo : b.fo = []
  md : b.mode = 6
  nm : ∀ o ∈ op, o.2 ∈ namesN ∧ ∃ x, b.ar[o.1]? = some x ∧ x.kind = 3 ∧ x.space = 0 ∧ x.name = o.2
  pa : OpP b.ar 3 (op.map (·.1)) want
theorem lastP_snoc (i : Nat) : ∀ (r : List Nat) (p : Nat), lastP i (r ++ [p]) = p := by
  intro r
  induction r generalizing i with
  | nil => intro p; rfl
  | cons j r ih => intro p; exact ih j p
theorem top_snoc (s : St) (o : OpenL) : topS (s ++ [o]) = o.node := by
  unfold topS atS
  rw [List.length_append, List.length_singleton]
  rw [show (decide (((s.length + 1 : Nat) : Int) - 1 < 0) || decide (((s.length + 1 : Nat) : Int) ≤ ((s.length + 1 : Nat) : Int) - 1)) = false by simp; omega]
  rw [if_neg (by decide), show (((s.length + 1 : Nat) : Int) - 1).toNat = s.length by omega]
  rw [List.map_append, List.getD_eq_getElem?_getD, List.getElem?_append_right (by rw [List.length_map]; exact Nat.le_refl _), List.length_map, Nat.sub_self]
  rfl
theorem NI.top {op : List (Nat × Ba)} {want : Ba} {b : BS} (h : NI op want b) : topS b.st = ((lastP 3 (op.map (·.1)) : Nat) : Int) := by
  rw [h.st]
  rcases List.eq_nil_or_concat op with rfl | ⟨r, o, rfl⟩
  · decide
  · rw [List.concat_eq_append, show opS (r ++ [o]) = opS r ++ [⟨(o.1 : Int), 0, o.2⟩] by unfold opS; rw [List.map_append]; rfl, ← List.append_assoc, top_snoc, List.map_append]
    show (o.1 : Int) = _
    rw [show [o].map (·.1) = [o.1] from rfl, lastP_snoc]
theorem scopeG_no (which : Int) (p : OpenL → Bool) : ∀ (s : St), (∀ o ∈ s, p o = false) → scopeG which p s = false
  | [], _ => rfl
  | o :: r, h => by
    unfold scopeG
    rw [h o (List.mem_cons_self ..), scopeG_no which p r fun x hx => h x (List.mem_cons_of_mem _ hx)]
    simp
theorem NI.closeP {op : List (Nat × Ba)} {want : Ba} {b : BS} (h : NI op want b) : closeP b = b := by
  unfold Bd.closeP
  rw [show hasS b.st 2 [pS] = false by
    unfold hasS
    refine scopeG_no _ _ _ fun o ho => ?_
    rw [List.mem_reverse, h.st] at ho
    rcases List.mem_append.1 ho with ho | ho
    · have : ∀ x ∈ stB, htmlO x [pS] = false := by decide +kernel
      exact this o ho
    · unfold opS at ho
      obtain ⟨x, hx, rfl⟩ := List.mem_map.1 ho
      have := (namesN_ok (h.nm x hx).1).2.2
      unfold htmlO
      rw [List.contains_cons, this]; rfl]
  rfl
/-- A start tag, and the text in it. -/
theorem NI.open {op : List (Nat × Ba)} {want : Ba} {b : BS} {n : Nat} (h : NI op want b) (H : Okb n b) {nm : Ba} (hn : nm ∈ namesN) (ho : op.length ≤ 100) :
    ∃ i, NI (op ++ [(i, nm)]) ((want ++ nm) ++ (lp ++ ⟨#[116]⟩)) (chB (stpN b (startT nm)).1 (charsT ⟨#[116]⟩)) := by
  obtain ⟨p, hp⟩ : ∃ p, p = lastP 3 (op.map (·.1)) := ⟨_, rfl⟩
  obtain ⟨h3p, z, hz, hzk⟩ := h.pa.last
  rw [← hp] at hz h3p
  have htop := h.top
  rw [← hp] at htop
  have hT : TokOk (startT nm) := (namesN_ok hn).1
  have hlen : b.st.length < 512 := by
    rw [h.st, List.length_append]
    show 2 + (opS op).length < 512
    unfold opS
    rw [List.length_map]; omega
  have e1 : (stpN b (startT nm)).1 = { b with ar := insA b.ar p (elementT (startT nm) 0), st := b.st ++ [⟨(b.ar.length : Int), 0, nm⟩] } := by
    unfold stpN
    rw [show ((startT nm).kind == 7) = false from rfl, show ((startT nm).kind == 2) = true from rfl]
    rw [if_neg (by decide), if_pos rfl]
    dsimp only
    split
    · unfold plain openE
      rw [rebuild_nil h.fo, insertB_eq H hT hz hzk htop hlen]
      rfl
    · unfold block openE
      rw [h.closeP, insertB_eq H hT hz hzk htop hlen]
      rfl
  have HS : Okb (n + 65) (stpN b (startT nm)).1 := by
    unfold stpN
    rw [show ((startT nm).kind == 7) = false from rfl, show ((startT nm).kind == 2) = true from rfl]
    rw [if_neg (by decide), if_pos rfl]
    dsimp only
    split
    · exact H.plain hT
    · exact (H.block hT).mono (by omega)
  obtain ⟨B, hB⟩ : ∃ B, B = (stpN b (startT nm)).1 := ⟨_, rfl⟩
  rw [← hB] at e1 HS ⊢
  obtain ⟨a1, ha1⟩ : ∃ a1, a1 = insA b.ar p (elementT (startT nm) 0) := ⟨_, rfl⟩
  have f1 : B.ar = a1 := by rw [e1, ha1]
  have f2 : B.st = b.st ++ [⟨(b.ar.length : Int), 0, nm⟩] := by rw [e1]
  have f3 : B.fo = [] := by rw [e1]; exact h.fo
  have f4 : B.mode = 6 := by rw [e1]; exact h.md
  have q := insA_new b.ar p (elementT (startT nm) 0)
  rw [← ha1, ← f1] at q
  have hl1 : B.ar.length = b.ar.length + 1 := by rw [f1, ha1, insA_len]
  have hpos : 0 < b.ar.length := by have := rd_eq hz; omega
  have htop1 : topS B.st = ((b.ar.length : Nat) : Int) := by rw [f2, top_snoc]
  have hop := OpP.open ha1 (v := elementT (startT nm) 0) rfl h.pa hp.symm
  rw [← f1] at hop
  have e2 : chB B (charsT ⟨#[116]⟩) = { B with ar := insA B.ar b.ar.length (textN ⟨#[116]⟩) } := by
    unfold chB
    rw [rebuild_nil f3, charsB_eq HS _ q hpos htop1]
    show ({ B with ar := (textA B.ar _ (-1) ⟨#[116]⟩).1 } : BS) = _
    rw [textA_new HS.ar q rfl (by decide) (by show ¬ (0 < 0 ∧ _); omega)]
  rw [e2]
  have qt := insA_new B.ar b.ar.length (textN ⟨#[116]⟩)
  have hct := Cl.text qt rfl (Nat.lt_succ_self _)
  have hput := OpP.put (v := textN ⟨#[116]⟩) (w := (textN ⟨#[116]⟩).text) rfl hop (lastP_snoc 3 _ _) hct
  have hput : OpP (insA B.ar b.ar.length (textN ⟨#[116]⟩)) 3 (op.map (·.1) ++ [b.ar.length]) ((want ++ (nm ++ lp)) ++ ⟨#[116]⟩) := hput
  refine ⟨b.ar.length, ⟨?_, f3, f4, fun o hm => ?_, ?_⟩⟩
  · show B.st = _
    rw [f2, h.st, List.append_assoc]
    unfold opS
    rw [List.map_append]; rfl
  · rcases List.mem_append.1 hm with hm | hm
    · obtain ⟨g1, x, g2, g3, g4, g5⟩ := h.nm o hm
      have k1 := insA_old (p := p) (n := elementT (startT nm) 0) g2
      rw [← ha1, ← f1] at k1
      have k2 := insA_old (p := b.ar.length) (n := textN ⟨#[116]⟩) k1
      refine ⟨g1, _, k2, ?_⟩
      split <;> split <;> exact ⟨g3, g4, g5⟩
    · obtain rfl := List.mem_singleton.1 hm
      have k2 := insA_old (p := b.ar.length) (n := textN ⟨#[116]⟩) q
      rw [if_pos rfl] at k2
      exact ⟨hn, _, k2, rfl, rfl, rfl⟩
  · show OpP _ 3 ((op ++ [(b.ar.length, nm)]).map (·.1)) _
    rw [List.map_append, show [(b.ar.length, nm)].map (·.1) = [b.ar.length] from rfl]
    rw [show (want ++ nm) ++ (lp ++ ⟨#[116]⟩) = ((want ++ (nm ++ lp)) ++ ⟨#[116]⟩ : Ba) by simp only [ByteArray.append_assoc]]
    exact hput
theorem implied_top (but : Ba) (s : St) (o : OpenL) (h : (o.space == 0 && (o.name != but && impliedK o.name)) = false) : impliedSt but (s ++ [o]) = s ++ [o] := by
  unfold impliedSt dropS
  rw [List.reverse_append, List.reverse_singleton, List.singleton_append, List.dropWhile_cons_of_neg (by rw [h]; decide), List.reverse_cons, List.reverse_reverse]
theorem last_top (p : OpenL → Bool) (s : St) (o : OpenL) (h : p o = true) : lastIdx p (s ++ [o]) = (s.length : Int) := by
  unfold lastIdx
  rw [List.reverse_append, List.reverse_singleton, List.singleton_append, List.findIdx?_cons, h, List.length_append]
  show ((s.length + 1 : Nat) : Int) - 1 - ((0 : Nat) : Int) = _
  omega
theorem at_snoc (s : St) (o : OpenL) : atS (s ++ [o]) ((s.length : Nat) : Int) = o.node := by
  have h := top_snoc s o
  unfold topS at h
  rw [List.length_append, List.length_singleton, show ((s.length + 1 : Nat) : Int) - 1 = ((s.length : Nat) : Int) by omega] at h
  exact h
/-- The end tag of the innermost one. -/
theorem NI.close {op : List (Nat × Ba)} {want : Ba} {b : BS} {o : Nat × Ba} (h : NI (op ++ [o]) want b) : NI op (want ++ rp) (stpN b (endT o.2)).1 := by
  obtain ⟨hn, x, hx, hk, hs, hnm⟩ := h.nm o (List.mem_append_right _ (List.mem_singleton.2 rfl))
  obtain ⟨_, hni, _⟩ := namesN_ok hn
  have hst : b.st = (stB ++ opS op) ++ [⟨(o.1 : Int), 0, o.2⟩] := by
    rw [h.st]
    unfold opS
    rw [List.map_append, List.append_assoc]; rfl
  have e1 : (stpN b (endT o.2)).1 = { b with st := stB ++ opS op } := by
    unfold stpN
    rw [show ((endT o.2).kind == 7) = false from rfl, show ((endT o.2).kind == 2) = false from rfl]
    rw [if_neg (by decide), if_neg (by decide)]
    dsimp only
    split
    · unfold other
      rw [hst, List.length_append, List.length_singleton]
      show otherF b o.2 _ = _
      unfold otherF
      dsimp only
      rw [hst, at_snoc]
      dsimp only
      rw [node_nat hx, hs, hnm, if_pos (by simp), implied_top _ _ _ (by simp), List.take_left]
    · unfold shut
      rw [show hasS b.st 0 [(endT o.2).name] = true by
        unfold hasS
        rw [hst, List.reverse_append, List.reverse_singleton, List.singleton_append]
        unfold scopeG htmlO
        show (if ((0 : Int) == 0 && [o.2].contains o.2) = true then true else _) = true
        rw [if_pos (by simp)]]
      rw [if_pos rfl, hst, implied_top _ _ _ (by rw [hni]; simp)]
      unfold untilS
      rw [last_top _ _ _ (by show htmlO _ [o.2] = true; unfold htmlO; simp), if_neg (by omega), Int.toNat_natCast, List.take_left]
  rw [e1]
  refine ⟨rfl, h.fo, h.md, fun o ho => h.nm o (List.mem_append_left _ ho), ?_⟩
  have hp := h.pa
  rw [List.map_append] at hp
  exact hp.close
theorem NI.final {op : List (Nat × Ba)} {want : Ba} {b : BS} (h : NI op want b) : shape b = rps (op.length + 1) want ∧ b.st.length = 2 + op.length := by
  constructor
  · have h1 := h.pa.all op.length (by rw [List.length_map])
    have h2 := h1.shape
    unfold shape
    rw [rps_succ, ← h2]; rfl
  · rw [h.st, List.length_append]
    unfold opS
    rw [List.length_map]; rfl
theorem ni_opened : NI [] (bodyS ++ lp) opened := by
  refine ⟨by decide +kernel, by decide +kernel, by decide +kernel, fun o h => absurd h (List.not_mem_nil), ?_⟩
  have e : opened.ar[3]? = some (opened.ar.getD 3 nd0) := by decide +kernel
  refine ⟨_, em, e, by decide +kernel, ?_, ?_⟩
  · rw [show (opened.ar.getD 3 nd0).kids = [] from by decide +kernel]
    exact Cls.nil _ _ _
  · rw [show (opened.ar.getD 3 nd0).name = bodyS from by decide +kernel]
    rw [show lp ++ em = lp from ByteArray.append_empty]
end Bd

namespace Bd
open Go
/-- The names of formatting elements, here. -/
def fmN (nm : Ba) : Bool := nm == ⟨#[98]⟩ || nm == ⟨#[105]⟩
/-- g is told of what is a paragraph or stands in one. -/
structure EG (g : Nat → Bool) (a : Ar) : Prop where
  e1 : ∀ (j : Nat) (x : NodeL), a[j]? = some x → ∀ k : Nat, x.parent = (k : Int) → g k = true → g j = true
  e2 : ∀ (j : Nat) (x : NodeL), a[j]? = some x → x.name = pS → g j = true
  e3 : ∀ (j : Nat) (x : NodeL), a[j]? = some x → x.kind = 3 → fmN x.name = false → ∀ k : Nat, x.parent = (k : Int) → g k = false
/-- What a node is called, in a and in a'. -/
def Keep (a a' : Ar) : Prop := ∀ (j : Nat) (x : NodeL), a[j]? = some x → ∃ x', a'[j]? = some x' ∧ x'.kind = x.kind ∧ x'.name = x.name ∧ x'.space = x.space
theorem Keep.refl (a : Ar) : Keep a a := fun _ x h => ⟨x, h, rfl, rfl, rfl⟩
theorem Keep.trans {a b c : Ar} (h1 : Keep a b) (h2 : Keep b c) : Keep a c := fun j x h => by
  obtain ⟨y, hy, e1, e2, e3⟩ := h1 j x h
  obtain ⟨z, hz, f1, f2, f3⟩ := h2 j y hy
  exact ⟨z, hz, f1.trans e1, f2.trans e2, f3.trans e3⟩
theorem hang_keep {a : Ar} (h : ArOk a) {p i : Nat} {x : NodeL} (hi : a[i]? = some x) : Keep a (Bd.hang a (p : Int) (-1) (i : Int)) :=
  fun _ _ hj => ⟨_, hang_old h hi hj, rfl, rfl, rfl⟩
theorem hang_eg {g : Nat → Bool} {a : Ar} (hg : EG g a) (h : ArOk a) {p i : Nat} {x : NodeL} (hi : a[i]? = some x) (h1 : g p = true → g i = true) (h3 : x.kind = 3 → fmN x.name = false → g p = false) : EG g (Bd.hang a (p : Int) (-1) (i : Int)) := by
  refine ⟨fun j z hj k hk hgk => ?_, fun j z hj hn => ?_, fun j z hj hkd hn k hk => ?_⟩
  · obtain ⟨y, hy, rfl⟩ := hang_back h hi hj
    by_cases e : j = i
    · subst e
      have hk' : (if j = j then (p : Int) else y.parent) = (k : Int) := hk
      rw [if_pos rfl] at hk'
      exact h1 (by rw [show p = k by omega]; exact hgk)
    · have hk' : (if j = i then (p : Int) else y.parent) = (k : Int) := hk
      rw [if_neg e] at hk'
      exact hg.e1 j y hy k hk' hgk
  · obtain ⟨y, hy, rfl⟩ := hang_back h hi hj
    exact hg.e2 j y hy hn
  · obtain ⟨y, hy, rfl⟩ := hang_back h hi hj
    by_cases e : j = i
    · subst e
      have hk' : (if j = j then (p : Int) else y.parent) = (k : Int) := hk
      rw [if_pos rfl] at hk'
      obtain rfl := Option.some.inj (hi.symm.trans hy)
      rw [← show p = k by omega]
      exact h3 hkd hn
    · have hk' : (if j = i then (p : Int) else y.parent) = (k : Int) := hk
      rw [if_neg e] at hk'
      exact hg.e3 j y hy hkd hn k hk'
theorem append_cases {a : Ar} (p i : Int) : (append a p i).1 = a ∨ ∃ (P I : Nat) (z x : NodeL), p = (P : Int) ∧ i = (I : Int) ∧ a[P]? = some z ∧ a[I]? = some x ∧ above a (I : Int) (P : Int) = false ∧ (append a p i).1 = Bd.hang a (P : Int) (-1) (I : Int) := by
  obtain ⟨r, hr⟩ : ∃ r, r = append a p i := ⟨_, rfl⟩
  rw [← hr]
  unfold Bd.append at hr
  split at hr
  · exact Or.inl (by rw [hr])
  · split at hr
    · exact Or.inl (by rw [hr])
    · rename_i h1
      simp only [Bool.or_eq_true, Bool.not_eq_true', not_or, Bool.not_eq_false, Bool.not_eq_true] at h1
      obtain ⟨⟨h2, h3⟩, h4⟩ := h1
      have hp : has a p = true := by unfold holds at h2; rw [Bool.and_eq_true] at h2; exact h2.1
      have hi : has a i = true := by unfold hangs at h3; rw [Bool.and_eq_true] at h3; exact h3.1
      obtain ⟨P, z, rfl, hz⟩ := nat_has hp
      obtain ⟨I, x, rfl, hx⟩ := nat_has hi
      exact Or.inr ⟨P, I, z, x, rfl, rfl, hz, hx, h4, by rw [hr]⟩
theorem append_keep {a : Ar} (h : ArOk a) (p i : Int) : Keep a (append a p i).1 := by
  rcases append_cases (a := a) p i with e | ⟨P, I, z, x, _, _, _, hx, _, e⟩
  · rw [e]; exact Keep.refl a
  · rw [e]; exact hang_keep h hx
theorem append_eg {g : Nat → Bool} {a : Ar} (hg : EG g a) (h : ArOk a) {p i : Int} (h1 : ∀ (P I : Nat), p = (P : Int) → i = (I : Int) → g P = true → g I = true) (h3 : ∀ (P I : Nat) (x : NodeL), p = (P : Int) → i = (I : Int) → a[I]? = some x → x.kind = 3 → fmN x.name = false → g P = false) : EG g (append a p i).1 := by
  rcases append_cases (a := a) p i with e | ⟨P, I, z, x, e1, e2, _, hx, _, e⟩
  · rw [e]; exact hg
  · rw [e]; exact hang_eg hg h hx (h1 P I e1 e2) (h3 P I x e1 e2 hx)
/-- g, of one node more. -/
def ext (g : Nat → Bool) (n : Nat) (v : Bool) : Nat → Bool := fun j => if j = n then v else g j
theorem ext_old {g : Nat → Bool} {n j : Nat} {v : Bool} (h : j < n) : ext g n v j = g j := by unfold ext; rw [if_neg (by omega)]
theorem ext_new (g : Nat → Bool) (n : Nat) (v : Bool) : ext g n v n = v := by unfold ext; rw [if_pos rfl]
theorem par_lt {a : Ar} (h : ArOk a) {j : Nat} {x : NodeL} (hj : a[j]? = some x) {k : Nat} (hk : x.parent = (k : Int)) : k < a.length := by
  obtain ⟨P, y, e, hy, _⟩ := h.par j x hj (by omega)
  have := rd_eq hy
  omega
theorem snoc_keep (a : Ar) (n : NodeL) : Keep a (a ++ [n]) := fun _ x hj => ⟨x, snoc_old hj, rfl, rfl, rfl⟩
theorem snoc_eg {g : Nat → Bool} {a : Ar} (hg : EG g a) (h : ArOk a) (n : NodeL) (v : Bool) (hv : n.name = pS → v = true) : EG (ext g a.length v) (a ++ [bare n]) := by
  refine ⟨fun j x hj k hk hgk => ?_, fun j x hj hn => ?_, fun j x hj hkd hn k hk => ?_⟩
  · rcases snoc_case hj with hj | ⟨rfl, rfl⟩
    · have h1 := rd_eq hj
      have h2 := par_lt h hj hk
      rw [ext_old h2] at hgk
      rw [ext_old h1]
      exact hg.e1 j x hj k hk hgk
    · have : (-1 : Int) = (k : Int) := hk
      omega
  · rcases snoc_case hj with hj | ⟨rfl, rfl⟩
    · rw [ext_old (rd_eq hj)]
      exact hg.e2 j x hj hn
    · rw [ext_new]; exact hv hn
  · rcases snoc_case hj with hj | ⟨rfl, rfl⟩
    · rw [ext_old (par_lt h hj hk)]
      exact hg.e3 j x hj hkd hn k hk
    · have : (-1 : Int) = (k : Int) := hk
      omega
theorem text_keep (a : Ar) (c : Nat) (f : Ba → Ba) : Keep a (upd a (c : Int) fun n => { n with text := f n.text }) := fun j x hj => by
  rw [upd_get, hj]
  refine ⟨_, rfl, ?_⟩
  dsimp only
  split <;> exact ⟨rfl, rfl, rfl⟩
theorem text_eg {g : Nat → Bool} {a : Ar} (hg : EG g a) (c : Nat) (f : Ba → Ba) : EG g (upd a (c : Int) fun n => { n with text := f n.text }) := by
  have hb : ∀ {j : Nat} {z : NodeL}, (upd a (c : Int) fun n => { n with text := f n.text })[j]? = some z → ∃ x, a[j]? = some x ∧ z.parent = x.parent ∧ z.kind = x.kind ∧ z.name = x.name := fun {j z} hj => by
    rw [upd_get, Option.map_eq_some_iff] at hj
    obtain ⟨x, h1, rfl⟩ := hj
    refine ⟨x, h1, ?_⟩
    split <;> exact ⟨rfl, rfl, rfl⟩
  refine ⟨fun j x hj k hk hgk => ?_, fun j x hj hn => ?_, fun j x hj hkd hn k hk => ?_⟩
  · obtain ⟨y, hy, q1, q2, q3⟩ := hb hj
    exact hg.e1 j y hy k (q1.symm.trans hk) hgk
  · obtain ⟨y, hy, q1, q2, q3⟩ := hb hj
    exact hg.e2 j y hy (q3.symm.trans hn)
  · obtain ⟨y, hy, q1, q2, q3⟩ := hb hj
    exact hg.e3 j y hy (q2.symm.trans hkd) (by rw [← q3]; exact hn) k (q1.symm.trans hk)
/-- A text more. -/
theorem textA_eg {g : Nat → Bool} {a : Ar} (hg : EG g a) (h : ArOk a) (p : Int) (s : Ba) : Keep a (textA a p (-1) s).1 ∧ ∃ v, EG (ext g a.length v) (textA a p (-1) s).1 := by
  have hsame : EG (ext g a.length (g a.length)) = EG g := by
    congr 1
    funext j
    unfold ext
    split
    · rename_i e; rw [e]
    · rfl
  rcases textA_cases h p s with e | ⟨c, e⟩ | ⟨P, z, hz, e⟩
  · rw [e]; exact ⟨Keep.refl a, g a.length, by rw [hsame]; exact hg⟩
  · rw [e]; exact ⟨text_keep a c (fun t => t ++ s), g a.length, by rw [hsame]; exact text_eg hg c (fun t => t ++ s)⟩
  · have h1 := snoc_eg hg h (textN s) (g P) (fun e => by cases e)
    have h2 := h.snoc (textN s) rfl rfl
    rw [e]
    refine ⟨(snoc_keep a _).trans (hang_keep h2 (snoc_new a _)), g P, hang_eg h1 h2 (snoc_new a _) (fun hp => ?_) (fun hk _ => by cases hk)⟩
    rw [ext_new]
    rwa [ext_old (rd_eq hz)] at hp
/-- f's kids all go to t. -/
theorem move_eg {g : Nat → Bool} {a : Ar} (hg : EG g a) (h : ArOk a) {F T : Nat} (he : g F = g T) : Keep a (move a (F : Int) (T : Int)).1 ∧ EG g (move a (F : Int) (T : Int)).1 ∧ ArOk (move a (F : Int) (T : Int)).1 := by
  suffices hs : ∀ (ks : List Int) (b : Ar), MvOk T F b ks → EG g b → Keep b (ks.foldl (fun a i => Bd.hang a (T : Int) (-1) i) b) ∧ EG g (ks.foldl (fun a i => Bd.hang a (T : Int) (-1) i) b) by
    obtain ⟨hA, _⟩ := move_all (R := fun _ => True) h (F : Int) (T : Int) trivial (fun _ _ _ _ _ _ _ _ _ => trivial)
    suffices hs2 : Keep a (move a (F : Int) (T : Int)).1 ∧ EG g (move a (F : Int) (T : Int)).1 from ⟨hs2.1, hs2.2, hA⟩
    unfold Bd.move
    split
    · exact ⟨Keep.refl a, hg⟩
    · split
      · exact ⟨Keep.refl a, hg⟩
      · rename_i h1
        simp only [Bool.or_eq_true, Bool.not_eq_true', not_or, Bool.not_eq_false, Bool.not_eq_true] at h1
        obtain ⟨⟨h2, h3⟩, h4⟩ := h1
        have hp : has a (F : Int) = true := by unfold holds at h2; rw [Bool.and_eq_true] at h2; exact h2.1
        have hi : has a (T : Int) = true := by unfold holds at h3; rw [Bool.and_eq_true] at h3; exact h3.1
        obtain ⟨F', x, e1, hx⟩ := nat_has hp
        obtain ⟨T', z, e2, hz⟩ := nat_has hi
        obtain rfl : F = F' := by omega
        obtain rfl : T = T' := by omega
        rw [rd_nat hx]
        exact hs x.kids a ⟨h, h.nod F x hx, h.kid F x hx, ⟨z, hz⟩, h4⟩ hg
  intro ks
  induction ks with
  | nil => intro b _ hb; exact ⟨Keep.refl b, hb⟩
  | cons k r ih =>
    intro b hm hb
    obtain ⟨c, y, rfl, hc, hp⟩ := hm.kid k (List.mem_cons_self ..)
    obtain ⟨c', y', e, hc', hst⟩ := hm.step
    obtain rfl : c = c' := by omega
    have h1 : EG g (Bd.hang b (T : Int) (-1) (c : Int)) := hang_eg hb hm.ok hc (fun ht => hb.e1 c y hc F hp (by rw [he]; exact ht)) (fun hk hn => by rw [← he]; exact hb.e3 c y hc hk hn F hp)
    obtain ⟨q1, q2⟩ := ih _ hst h1
    rw [List.foldl_cons]
    exact ⟨(hang_keep hm.ok hc).trans q1, q2⟩
end Bd

namespace Bd
open Go
def namesP : List Ba := [htmlS, bodyS, pS, ⟨#[100, 105, 118]⟩, ⟨#[117, 108]⟩, ⟨#[108, 105]⟩, ⟨#[104, 49]⟩, ⟨#[112, 114, 101]⟩, ⟨#[98]⟩, ⟨#[105]⟩, ⟨#[97, 100, 100, 114, 101, 115, 115]⟩]
def Nf (a : Ar) (i : Int) : Prop := ∃ (j : Nat) (x : NodeL), i = (j : Int) ∧ a[j]? = some x ∧ x.kind = 3 ∧ x.space = 0 ∧ fmN x.name = true
def Lk (a : Ar) (o : OpenL) : Prop := ∃ (j : Nat) (x : NodeL), o.node = (j : Int) ∧ a[j]? = some x ∧ x.kind = 3 ∧ x.space = 0 ∧ o.space = 0 ∧ x.name = o.name ∧ o.name ∈ namesP
structure GI (g : Nat → Bool) (b : BS) : Prop where
  e : EG g b.ar
  z : g 0 = false
  ln : ∀ o ∈ b.st, Lk b.ar o
  ta : b.st.Pairwise (fun o o' => fmN o'.name = false → g o.node.toNat = false)
  tb : (∃ o ∈ b.st, o.name = pS) ∨ ∀ o ∈ b.st, g o.node.toNat = false
  nd : (b.st.map OpenL.node).Nodup
  fm : ∀ i ∈ b.fo, Nf b.ar i
def NoP (b : BS) : Prop := ∀ o ∈ b.st, o.name ≠ pS
theorem Nf.keep {a a' : Ar} {i : Int} (h : Nf a i) (k : Keep a a') : Nf a' i := by
  obtain ⟨j, x, e, hj, h1, h2, h3⟩ := h
  obtain ⟨x', hj', k1, k2, k3⟩ := k j x hj
  exact ⟨j, x', e, hj', k1.trans h1, k3.trans h2, by rw [k2]; exact h3⟩
theorem Lk.keep {a a' : Ar} {o : OpenL} (h : Lk a o) (k : Keep a a') : Lk a' o := by
  obtain ⟨j, x, e, hj, h1, h2, h3, h4, h5⟩ := h
  obtain ⟨x', hj', k1, k2, k3⟩ := k j x hj
  exact ⟨j, x', e, hj', k1.trans h1, k3.trans h2, h3, k2.trans h4, h5⟩
theorem Lk.lt {a : Ar} {o : OpenL} (h : Lk a o) : o.node.toNat < a.length := by
  obtain ⟨j, x, e, hj, _⟩ := h
  have := rd_eq hj
  omega
theorem Lk.p {a : Ar} {o : OpenL} {g : Nat → Bool} (h : Lk a o) (he : EG g a) (hp : o.name = pS) : g o.node.toNat = true := by
  obtain ⟨j, x, e, hj, h1, h2, h3, h4, h5⟩ := h
  rw [e, Int.toNat_natCast]
  exact he.e2 j x hj (h4.trans hp)
theorem fm_p : fmN pS = false := by decide
theorem GI.arena {g g' : Nat → Bool} {b : BS} {a' : Ar} (h : GI g b) (hne : b.ar ≠ []) (hk : Keep b.ar a') (he : EG g' a') (hg : ∀ j, j < b.ar.length → g' j = g j) : GI g' { b with ar := a' } := by
  have hl : 0 < b.ar.length := List.length_pos_iff.2 hne
  have hG : ∀ o ∈ b.st, g' o.node.toNat = g o.node.toNat := fun o ho => hg _ (h.ln o ho).lt
  refine ⟨he, (hg 0 hl).trans h.z, fun o ho => (h.ln o ho).keep hk, ?_, ?_, h.nd, fun i hi => (h.fm i hi).keep hk⟩
  · show b.st.Pairwise _
    refine List.Pairwise.imp_of_mem (fun {o o'} ho _ hr hf => ?_) h.ta
    rw [hG o ho]; exact hr hf
  · rcases h.tb with hp | hf
    · exact Or.inl hp
    · exact Or.inr fun o ho => (hG o ho).trans (hf o ho)
theorem GI.take {g : Nat → Bool} {b : BS} (h : GI g b) (k : Nat) : GI g { b with st := b.st.take k } := by
  refine ⟨h.e, h.z, fun o ho => h.ln o (List.mem_of_mem_take ho), h.ta.sublist (List.take_sublist _ _), ?_, ?_, h.fm⟩
  · by_cases hp : ∃ o ∈ b.st.take k, o.name = pS
    · exact Or.inl hp
    · refine Or.inr fun o ho => ?_
      rcases h.tb with ⟨q, hq, hqn⟩ | hf
      · have hta := h.ta
        rw [← List.take_append_drop k b.st] at hta hq
        rcases List.mem_append.1 hq with hq | hq
        · exact absurd ⟨q, hq, hqn⟩ hp
        · exact (List.pairwise_append.1 hta).2.2 o ho q hq (by rw [hqn]; exact fm_p)
      · exact hf o (List.mem_of_mem_take ho)
  · show ((b.st.take k).map OpenL.node).Nodup
    exact List.Nodup.sublist ((List.take_sublist k b.st).map _) h.nd
theorem GI.fail {g : Nat → Bool} {b : BS} (h : GI g b) (e : Int) : GI g (failB b e) := by
  unfold failB
  split
  · exact ⟨h.e, h.z, h.ln, h.ta, h.tb, h.nd, h.fm⟩
  · exact h
theorem GI.fmt {g : Nat → Bool} {b : BS} (h : GI g b) {f : Fo} (hf : ∀ i ∈ f, i ∈ b.fo ∨ Nf b.ar i) : GI g { b with fo := f } :=
  ⟨h.e, h.z, h.ln, h.ta, h.tb, h.nd, fun i hi => (hf i hi).elim (h.fm i) id⟩
theorem place_any {n : Nat} {b : BS} (H : Okb n b) (tg : Int) : place b tg = (tg, -1) := by
  unfold place
  rw [H.fos]
  simp only [Bool.false_and, Bool.false_eq_true, if_false]
  rw [htmlN_tpl (node_ok H.nd tg), Bool.and_false]
  rfl
theorem insertB_gen {n : Nat} {b : BS} (H : Okb n b) {t : TokL} (ht : TokOk t) : insertB b t 0 = if 512 ≤ b.st.length then (failB b 150, -1) else
    ({ b with ar := (append (b.ar ++ [bare (elementT t 0)]) (target b) (b.ar.length : Int)).1, st := b.st ++ [⟨(b.ar.length : Int), 0, t.name⟩] }, (b.ar.length : Int)) := by
  have H1 := H.add (x := elementT t 0) rfl (tok_tpl ht 0) ⟨ht, Nat.zero_le _⟩
  have hadd := add_eq H.ar.ne (n := elementT t 0) rfl (tok_tpl ht 0)
  have hA := H.ar.snoc (elementT t 0) rfl (tok_tpl ht 0)
  rw [hadd] at H1
  unfold insertB
  split
  · rfl
  · rename_i hl
    rw [hadd]
    dsimp only
    rw [putN _ _ _ (show ({ b with ar := b.ar ++ [bare (elementT t 0)] } : BS).foster = false from H.fos), place_any H1]
    dsimp only
    rw [show target { b with ar := b.ar ++ [bare (elementT t 0)] } = target b from rfl]
    obtain ⟨x', hx', k1, k2, k3⟩ := append_keep hA (target b) (b.ar.length : Int) b.ar.length _ (snoc_new _ _)
    have he : elementS (append (b.ar ++ [bare (elementT t 0)]) (target b) (b.ar.length : Int)).1 (b.ar.length : Int) = (⟨(b.ar.length : Int), 0, t.name⟩, 0) := by
      unfold elementS
      rw [node_nat hx', k1, k2, k3]
      rfl
    have hps : pushS (append (b.ar ++ [bare (elementT t 0)]) (target b) (b.ar.length : Int)).1 b.st (b.ar.length : Int) = (b.st ++ [⟨(b.ar.length : Int), 0, t.name⟩], 0) := by
      unfold pushS insertS
      rw [he]
      dsimp only
      rw [if_neg (by decide), if_neg (by simp), if_neg hl]
      rw [Int.toNat_natCast, List.take_length, List.drop_length]
    rw [hps, failB_0]
theorem GI.tg {g : Nat → Bool} {b : BS} (h : GI g b) : ∃ T : Nat, target b = (T : Int) ∧ (g T = true → ∃ o ∈ b.st, g o.node.toNat = true) := by
  rcases List.eq_nil_or_concat b.st with e | ⟨s, o, e⟩
  · refine ⟨0, ?_, fun h0 => by rw [h.z] at h0; cases h0⟩
    unfold target
    rw [e]; decide
  · have ho : o ∈ b.st := by rw [e]; simp
    obtain ⟨j, x, ej, _⟩ := h.ln o ho
    refine ⟨j, ?_, fun hj => ⟨o, ho, by rw [ej]; exact hj⟩⟩
    unfold target
    rw [e, List.concat_eq_append, top_snoc, ej]
    omega
/-- A new element in the innermost one. -/
theorem GI.insert {g : Nat → Bool} {b : BS} {n : Nat} (h : GI g b) (H : Okb n b) {t : TokL} (ht : TokOk t) (hn : t.name ∈ namesP) (hok : fmN t.name = true ∨ NoP b) :
    ∃ g', GI g' (insertB b t 0).1 ∧ (insertB b t 0).1.fo = b.fo ∧ (0 ≤ (insertB b t 0).2 → fmN t.name = true → Nf (insertB b t 0).1.ar (insertB b t 0).2) := by
  rw [insertB_gen H ht]
  split
  · refine ⟨g, h.fail _, ?_, fun h0 => ?_⟩
    · unfold failB; split <;> rfl
    · omega
  · dsimp only
    obtain ⟨T, eT, hT⟩ := h.tg
    have hA := H.ar.snoc (elementT t 0) rfl (tok_tpl ht 0)
    obtain ⟨v, hv⟩ : ∃ v, v = if fmN t.name then g T else t.name == pS := ⟨_, rfl⟩
    have hvp : t.name = pS → v = true := fun e => by rw [hv, e, fm_p]; simp
    have hE := snoc_eg h.e H.ar (elementT t 0) v hvp
    have hK := (snoc_keep b.ar (bare (elementT t 0))).trans (append_keep hA (target b) (b.ar.length : Int))
    have hall : NoP b → ∀ o ∈ b.st, g o.node.toNat = false := fun hp => by
      rcases h.tb with ⟨o, ho, e⟩ | hf
      · exact absurd e (hp o ho)
      · exact hf
    have hgT : fmN t.name = false → g T = false := fun hf => by
      rcases hok with e | e
      · rw [hf] at e; cases e
      · cases hc : g T with
        | false => rfl
        | true =>
          obtain ⟨o, ho, hg⟩ := hT hc
          rw [hall e o ho] at hg; cases hg
    have hTl : ∀ z : NodeL, (b.ar ++ [bare (elementT t 0)])[T]? = some z → T = b.ar.length ∨ T < b.ar.length := fun z hz => by
      have := rd_eq hz
      rw [List.length_append] at this
      simp at this; omega
    have hE2 : EG (ext g b.ar.length v) (append (b.ar ++ [bare (elementT t 0)]) (target b) (b.ar.length : Int)).1 := by
      rcases append_cases (a := b.ar ++ [bare (elementT t 0)]) (target b) (b.ar.length : Int) with e | ⟨P, I, z, x, e1, e2, hP, hI, hab, e⟩
      · rw [e]; exact hE
      · rw [e]
        obtain rfl : P = T := by omega
        obtain rfl : I = b.ar.length := by omega
        have hne : P < b.ar.length := by
          rcases hTl z hP with e | e
          · exfalso
            rw [e] at hab
            unfold above aboveF at hab
            simp at hab
            omega
          · exact e
        refine hang_eg hE hA (snoc_new _ _) (fun hp => ?_) (fun _ hf => ?_)
        · rw [ext_old hne] at hp
          rw [ext_new, hv]
          cases hf : fmN t.name with
          | true => exact hp
          | false => rw [hgT hf] at hp; cases hp
        · obtain rfl := Option.some.inj (hI.symm.trans (snoc_new _ _))
          rw [ext_old hne]
          exact hgT hf
    have hB := h.arena H.ar.ne hK hE2 (fun j hj => ext_old hj)
    obtain ⟨x', hx', k1, k2, k3⟩ := append_keep hA (target b) (b.ar.length : Int) b.ar.length _ (snoc_new _ _)
    have hgo : ∀ o ∈ b.st, ext g b.ar.length v o.node.toNat = g o.node.toNat := fun o ho => ext_old (h.ln o ho).lt
    refine ⟨_, ⟨hB.e, hB.z, fun o ho => ?_, ?_, ?_, ?_, hB.fm⟩, rfl, fun _ hf => ⟨b.ar.length, x', rfl, hx', k1, k3, by rw [k2]; exact hf⟩⟩
    · rcases List.mem_append.1 ho with ho | ho
      · exact hB.ln o ho
      · obtain rfl := List.mem_singleton.1 ho
        exact ⟨b.ar.length, x', rfl, hx', k1, k3, rfl, k2, hn⟩
    · refine List.pairwise_append.2 ⟨hB.ta, List.pairwise_singleton _ _, fun o ho o' ho' hf => ?_⟩
      obtain rfl := List.mem_singleton.1 ho'
      have hf' : fmN t.name = false := hf
      rw [hgo o ho]
      rcases hok with e | e
      · rw [hf'] at e; cases e
      · exact hall e o ho
    · rcases h.tb with ⟨o, ho, e⟩ | hf
      · exact Or.inl ⟨o, List.mem_append_left _ ho, e⟩
      · by_cases hp : t.name = pS
        · exact Or.inl ⟨_, List.mem_append_right _ (List.mem_singleton.2 rfl), hp⟩
        · refine Or.inr fun o ho => ?_
          rcases List.mem_append.1 ho with ho | ho
          · rw [hgo o ho]; exact hf o ho
          · obtain rfl := List.mem_singleton.1 ho
            show ext g b.ar.length v (Int.toNat (b.ar.length : Int)) = false
            rw [Int.toNat_natCast, ext_new, hv]
            cases hfm : fmN t.name with
            | true =>
              cases hc : g T with
              | false => rfl
              | true =>
                obtain ⟨o, ho, hg⟩ := hT hc
                rw [hf o ho] at hg; cases hg
            | false =>
              show (t.name == pS) = false
              exact beq_eq_false_iff_ne.2 hp
    · show ((b.st ++ [_]).map OpenL.node).Nodup
      rw [List.map_append]
      refine List.nodup_append.2 ⟨h.nd, by simp, fun x hx y hy e => ?_⟩
      obtain ⟨o, ho, rfl⟩ := List.mem_map.1 hx
      have h1 := (h.ln o ho)
      obtain ⟨j, u, ej, hj, _⟩ := h1
      have := rd_eq hj
      have hy' : y = (b.ar.length : Int) := by simpa using hy
      omega
end Bd

namespace Bd
open Go
def headS : List Ba := [⟨#[104, 49]⟩, ⟨#[104, 50]⟩, ⟨#[104, 51]⟩, ⟨#[104, 52]⟩, ⟨#[104, 53]⟩, ⟨#[104, 54]⟩]
def headingB (b : BS) (t : TokL) : BS :=
  let b1 := closeP b
  openE (if isB b1 headS then { b1 with st := popS b1.st } else b1) t
def linesB (b : BS) (t : TokL) : BS := { Bd.block b t with skip := true }
def endItem (scope : Int) (b : BS) (t : TokL) : BS := if hasS b.st scope [t.name] then { b with st := (untilS (impliedSt t.name b.st) [t.name]).1 } else b
def endHeading (b : BS) : BS := if hasS b.st 0 headS then { b with st := (untilS (impliedSt em b.st) headS).1 } else b
theorem Okb.skip {n : Nat} {b : BS} (h : Okb n b) (q : Bool) : Okb n { b with skip := q } := ⟨h.ar, h.len, h.nd, h.st, h.fo, h.fos⟩
theorem Okb.headingB {n : Nat} {b : BS} (h : Okb n b) {t : TokL} (ht : TokOk t) : Okb (n + 1) (headingB b t) := by
  unfold Bd.headingB
  dsimp only
  split
  · exact (h.closeP.stk h.closeP.st.pop).insert ht 0
  · exact h.closeP.insert ht 0
theorem Okb.linesB {n : Nat} {b : BS} (h : Okb n b) {t : TokL} (ht : TokOk t) : Okb (n + 1) (linesB b t) := (h.block ht).skip true
theorem Okb.endItem {n : Nat} {b : BS} (h : Okb n b) (scope : Int) (t : TokL) : Okb n (endItem scope b t) := by
  unfold Bd.endItem
  split
  · exact h.stk ((h.st.implied _).until _)
  · exact h
theorem Okb.endHeading {n : Nat} {b : BS} (h : Okb n b) : Okb n (endHeading b) := by
  unfold Bd.endHeading
  split
  · exact h.stk ((h.st.implied _).until _)
  · exact h
/-! ### what is cut off the stack -/
theorem lastIdx_snoc {α : Type} (p : α → Bool) (s : List α) (x : α) : lastIdx p (s ++ [x]) = if p x then (s.length : Int) else lastIdx p s := by
  unfold lastIdx
  rw [List.reverse_append, List.reverse_singleton, List.singleton_append, List.findIdx?_cons]
  cases hp : p x with
  | true =>
    simp only [if_pos]
    rw [List.length_append, List.length_singleton]
    show ((s.length + 1 : Nat) : Int) - 1 - ((0 : Nat) : Int) = _
    omega
  | false =>
    simp only [Bool.false_eq_true, if_false]
    cases hf : s.reverse.findIdx? p with
    | none => rfl
    | some k =>
      rw [List.length_append, List.length_singleton]
      show ((s.length + 1 : Nat) : Int) - 1 - ((k + 1 : Nat) : Int) = (s.length : Int) - 1 - (k : Int)
      omega
theorem lastIdx_cases {α : Type} (p : α → Bool) (s : List α) : (lastIdx p s = -1 ∧ ∀ x ∈ s, p x = false) ∨ ∃ s1 x s2, s = s1 ++ x :: s2 ∧ p x = true ∧ lastIdx p s = (s1.length : Int) ∧ ∀ y ∈ s2, p y = false := by
  suffices h : ∀ (n : Nat) (s : List α), s.length = n → ((lastIdx p s = -1 ∧ ∀ x ∈ s, p x = false) ∨ ∃ s1 x s2, s = s1 ++ x :: s2 ∧ p x = true ∧ lastIdx p s = (s1.length : Int) ∧ ∀ y ∈ s2, p y = false) from h _ s rfl
  intro n
  induction n with
  | zero =>
    intro s hs
    obtain rfl := List.length_eq_zero_iff.1 hs
    exact Or.inl ⟨rfl, fun x hx => absurd hx (List.not_mem_nil)⟩
  | succ n ih =>
    intro s hs
    rcases List.eq_nil_or_concat s with rfl | ⟨t, x, rfl⟩
    · cases hs
    rw [List.concat_eq_append] at hs ⊢
    rw [lastIdx_snoc]
    cases hp : p x with
    | true => exact Or.inr ⟨t, x, [], rfl, hp, by simp, fun y hy => absurd hy (List.not_mem_nil)⟩
    | false =>
      rw [List.length_append, List.length_singleton] at hs
      simp only [Bool.false_eq_true, if_false]
      rcases ih t (by omega) with ⟨e, h⟩ | ⟨s1, y, s2, e, hy, hl, h2⟩
      · refine Or.inl ⟨e, fun z hz => ?_⟩
        rcases List.mem_append.1 hz with hz | hz
        · exact h z hz
        · rw [List.mem_singleton.1 hz]; exact hp
      · refine Or.inr ⟨s1, y, s2 ++ [x], by rw [e]; simp, hy, hl, fun z hz => ?_⟩
        rcases List.mem_append.1 hz with hz | hz
        · exact h2 z hz
        · rw [List.mem_singleton.1 hz]; exact hp
theorem until_cases (s : St) (ns : List Ba) : ((untilS s ns).1 = s ∧ ∀ o ∈ s, htmlO o ns = false) ∨ ∃ s1 o s2, s = s1 ++ o :: s2 ∧ htmlO o ns = true ∧ (untilS s ns).1 = s1 := by
  rcases lastIdx_cases (fun o => htmlO o ns) s with ⟨e, h⟩ | ⟨s1, o, s2, e, ho, hl, _⟩
  · refine Or.inl ⟨?_, h⟩
    unfold untilS
    rw [e, if_pos (by decide)]
  · refine Or.inr ⟨s1, o, s2, e, ho, ?_⟩
    unfold untilS
    rw [hl, if_neg (by omega), Int.toNat_natCast, e, List.take_left]
theorem until_pre (s : St) (ns : List Ba) : ∃ k, (untilS s ns).1 = s.take k := by
  rcases until_cases s ns with ⟨e, _⟩ | ⟨s1, o, s2, e, _, h⟩
  · exact ⟨s.length, by rw [e, List.take_length]⟩
  · exact ⟨s1.length, by rw [h, e, List.take_left]⟩
theorem implied_pre (but : Ba) (s : St) : ∃ k, impliedSt but s = s.take k := dropS_pre _ s
theorem until_imp_pre (but : Ba) (s : St) (ns : List Ba) : ∃ k, (untilS (impliedSt but s) ns).1 = s.take k := by
  obtain ⟨k1, e1⟩ := implied_pre but s
  obtain ⟨k2, e2⟩ := until_pre (impliedSt but s) ns
  exact ⟨min k2 k1, by rw [e2, e1, List.take_take]⟩
theorem GI.cut {g : Nat → Bool} {b : BS} (h : GI g b) {s : St} (hs : ∃ k, s = b.st.take k) : GI g { b with st := s } := by
  obtain ⟨k, rfl⟩ := hs
  exact h.take k
theorem NoP.cut {b : BS} (h : NoP b) {s : St} (hs : ∃ k, s = b.st.take k) : NoP { b with st := s } := by
  obtain ⟨k, rfl⟩ := hs
  exact fun o ho => h o (List.mem_of_mem_take ho)
theorem GI.shut {g : Nat → Bool} {b : BS} (h : GI g b) (t : TokL) : GI g (shut b t) := by
  unfold Bd.shut
  split
  · exact h.cut (until_imp_pre _ _ _)
  · exact h
theorem GI.endItem {g : Nat → Bool} {b : BS} (h : GI g b) (sc : Int) (t : TokL) : GI g (endItem sc b t) := by
  unfold Bd.endItem
  split
  · exact h.cut (until_imp_pre _ _ _)
  · exact h
theorem GI.endHeading {g : Nat → Bool} {b : BS} (h : GI g b) : GI g (endHeading b) := by
  unfold Bd.endHeading
  split
  · exact h.cut (until_imp_pre _ _ _)
  · exact h
theorem GI.itemF {g : Nat → Bool} {b : BS} (h : GI g b) (names : List Ba) : ∀ k : Nat, GI g (itemF names b k)
  | 0 => h
  | k + 1 => by
    unfold Bd.itemF
    dsimp only
    split
    · exact h.cut (until_imp_pre _ _ _)
    · split
      · exact GI.itemF h names k
      · split
        · exact h
        · exact GI.itemF h names k
theorem GI.otherF {g : Nat → Bool} {b : BS} (h : GI g b) (nm : Ba) : ∀ k : Nat, GI g (otherF b nm k)
  | 0 => h
  | k + 1 => by
    unfold Bd.otherF
    dsimp only
    split
    · obtain ⟨m, e⟩ := implied_pre nm b.st
      exact h.cut ⟨min k m, by rw [e, List.take_take]⟩
    · split
      · exact h
      · exact GI.otherF h nm k
theorem GI.other {g : Nat → Bool} {b : BS} (h : GI g b) (nm : Ba) : GI g (other b nm) := h.otherF nm _
/-! ### no paragraph is open -/
theorem scopeG_false (which : Int) (p : OpenL → Bool) : ∀ (s u v : St) (o : OpenL), s = u ++ o :: v → p o = true → scopeG which p s = false → ∃ x ∈ u, scopeK which x.space x.name = true
  | [], u, v, o, e, _, _ => by cases u <;> cases e
  | x :: r, u, v, o, e, hp, h => by
    unfold scopeG at h
    cases u with
    | nil =>
      obtain ⟨rfl, rfl⟩ := List.cons.inj e
      rw [hp] at h
      simp at h
    | cons y u =>
      obtain ⟨rfl, rfl⟩ := List.cons.inj e
      cases hx : p x with
      | true => rw [hx] at h; simp at h
      | false =>
        rw [hx] at h
        simp only [Bool.false_eq_true, if_false] at h
        cases hs : scopeK which x.space x.name with
        | true => exact ⟨x, List.mem_cons_self .., hs⟩
        | false =>
          rw [hs] at h
          simp only [Bool.false_eq_true, if_false] at h
          obtain ⟨z, hz, hzs⟩ := scopeG_false which p _ u v o rfl hp h
          exact ⟨z, List.mem_cons_of_mem _ hz, hzs⟩
theorem fm_names {nm : Ba} (h : fmN nm = true) : nm = ⟨#[98]⟩ ∨ nm = ⟨#[105]⟩ := by
  unfold fmN at h
  rw [Bool.or_eq_true, beq_iff_eq, beq_iff_eq] at h
  exact h
theorem hasS_noP {g : Nat → Bool} {b : BS} (h : GI g b) (hf : hasS b.st 2 [pS] = false) : NoP b := by
  intro o ho hp
  obtain ⟨s1, s2, e⟩ := List.append_of_mem ho
  have hl := h.ln o ho
  have h0 : htmlO o [pS] = true := by
    obtain ⟨_, _, _, _, _, _, hs, _⟩ := hl
    unfold htmlO
    rw [hs, hp]; decide
  have hg := hl.p h.e hp
  have hta := h.ta
  rw [e] at hta
  unfold hasS at hf
  rw [e, List.reverse_append, List.reverse_cons, List.append_assoc, List.singleton_append] at hf
  obtain ⟨x, hx, hs⟩ := scopeG_false 2 _ _ _ _ o rfl h0 hf
  rw [List.mem_reverse] at hx
  have hxm : x ∈ b.st := by rw [e]; exact List.mem_append_right _ (List.mem_cons_of_mem _ hx)
  have hR := (List.pairwise_cons.1 (List.pairwise_append.1 hta).2.1).1 x hx
  have hxf : fmN x.name = true := by
    cases hc : fmN x.name with
    | true => rfl
    | false => rw [hR hc] at hg; cases hg
  obtain ⟨_, _, _, _, _, _, hsp, _⟩ := h.ln x hxm
  rw [hsp] at hs
  rcases fm_names hxf with e | e <;> rw [e] at hs
  · rw [show scopeK 2 0 ⟨#[98]⟩ = false from by decide +kernel] at hs; cases hs
  · rw [show scopeK 2 0 ⟨#[105]⟩ = false from by decide +kernel] at hs; cases hs
theorem GI.closeP {g : Nat → Bool} {b : BS} (h : GI g b) : GI g (closeP b) ∧ NoP (closeP b) := by
  unfold Bd.closeP
  cases hc : hasS b.st 2 [pS] with
  | false =>
    rw [if_neg (by decide)]
    exact ⟨h, hasS_noP h hc⟩
  | true =>
    rw [if_pos rfl]
    refine ⟨h.cut (until_imp_pre _ _ _), ?_⟩
    obtain ⟨k, ek⟩ := implied_pre pS b.st
    have hln : ∀ o ∈ impliedSt pS b.st, Lk b.ar o := fun o ho => h.ln o (by rw [ek] at ho; exact List.mem_of_mem_take ho)
    have hta : (impliedSt pS b.st).Pairwise (fun o o' => fmN o'.name = false → g o.node.toNat = false) := by rw [ek]; exact h.ta.sublist (List.take_sublist _ _)
    show ∀ o ∈ (untilS (impliedSt pS b.st) [pS]).1, o.name ≠ pS
    generalize impliedSt pS b.st = s at *
    rcases until_cases s [pS] with ⟨e, hf⟩ | ⟨s1, o, s2, e, ho, e1⟩
    · rw [e]
      intro o ho hp
      have := hf o ho
      obtain ⟨_, _, _, _, _, _, hs, _⟩ := hln o ho
      unfold htmlO at this
      rw [hs, hp] at this
      revert this; decide
    · rw [e1]
      intro x hx hp
      rw [e] at hta
      have hR := (List.pairwise_append.1 hta).2.2 x hx o (List.mem_cons_self ..)
      have hon : o.name = pS := by
        unfold htmlO at ho
        rw [Bool.and_eq_true] at ho
        simpa using ho.2
      have hg := (hln x (by rw [e]; exact List.mem_append_left _ hx)).p h.e hp
      rw [hR (by rw [hon]; exact fm_p)] at hg
      cases hg
/-! ### formatting elements again -/
theorem replaceF_mem {a : Ar} {l : Fo} {k i x : Int} (h : x ∈ (replaceF a l k i).1) : x ∈ l ∨ x = i := by
  unfold replaceF at h
  split at h
  · exact Or.inl h
  · split at h
    · exact Or.inl h
    · rcases List.mem_or_eq_of_mem_set h with h | h
      · exact Or.inl h
      · exact Or.inr h
theorem replaceF_len (a : Ar) (l : Fo) (k i : Int) : (replaceF a l k i).1.length = l.length := by
  unfold replaceF
  split
  · rfl
  · split
    · rfl
    · rw [List.length_set]
theorem removeF_mem' {l : Fo} {i x : Int} (h : x ∈ (removeF l i).1) : x ∈ l := by
  unfold removeF at h
  split at h
  · exact h
  · exact List.mem_of_mem_eraseIdx h
theorem layF_mem {l : Fo} {k : Nat} {i x : Int} (h : x ∈ (layF l k i).1) : x ∈ l ∨ x = i := by
  unfold layF at h
  split at h
  · exact Or.inl h
  · rcases List.mem_append.1 h with h | h
    · exact Or.inl (List.mem_of_mem_take h)
    · rcases List.mem_cons.1 h with h | h
      · exact Or.inr h
      · exact Or.inl (List.mem_of_mem_drop h)
theorem insertF_mem {a : Ar} {l : Fo} {k i x : Int} (h : x ∈ (insertF a l k i).1) : x ∈ l ∨ x = i := by
  unfold insertF at h
  split at h
  · exact Or.inl h
  · split at h
    · exact Or.inl h
    · exact layF_mem h
theorem pushF_mem {a : Ar} {l : Fo} {i x : Int} (h : x ∈ (pushF a l i).1) : x ∈ l ∨ x = i := by
  unfold pushF at h
  split at h
  · exact Or.inl h
  · dsimp only at h
    rcases layF_mem h with h | h
    · split at h
      · exact Or.inl (List.mem_of_mem_eraseIdx h)
      · exact Or.inl h
    · exact Or.inr h
theorem atF_mem {l : Fo} {k : Nat} (h : k < l.length) : (atF l (k : Int)).1 ∈ l := by
  unfold atF
  rw [show (decide ((k : Int) < 0) || decide ((l.length : Int) ≤ (k : Int))) = false by simp; omega, if_neg (by decide)]
  dsimp only
  rw [Int.toNat_natCast, List.getD_eq_getElem?_getD, List.getElem?_eq_getElem h]
  exact List.getElem_mem h
theorem fm_in {nm : Ba} (h : fmN nm = true) : nm ∈ namesP := by
  rcases fm_names h with e | e <;> rw [e] <;> decide
theorem GI.rebuildF : ∀ (m : Nat) {n : Nat} {b : BS} {g : Nat → Bool} (k : Nat), GI g b → Okb n b → k + m ≤ b.fo.length → ∃ g', GI g' (rebuildF m b k)
  | 0, _, _, g, _, h, _, _ => ⟨g, h⟩
  | m + 1, n, b, g, k, h, H, hk => by
    unfold Bd.rebuildF
    dsimp only
    obtain ⟨j, x, e, hj, h1, h2, h3⟩ := h.fm _ (atF_mem (show k < b.fo.length by omega))
    have hnm : (againT (node b.ar (atF b.fo (k : Int)).1)).name = x.name := by
      show (node b.ar (atF b.fo (k : Int)).1).name = _
      rw [e, node_nat hj]
    have hf : fmN (againT (node b.ar (atF b.fo (k : Int)).1)).name = true := by rw [hnm]; exact h3
    have hT : TokOk (againT (node b.ar (atF b.fo (k : Int)).1)) := again_ok H _
    obtain ⟨g1, G1, e1, e2⟩ := h.insert H hT (fm_in hf) (Or.inl hf)
    have H1 := H.insert hT 0
    generalize insertB b (againT (node b.ar (atF b.fo (k : Int)).1)) 0 = r at *
    obtain ⟨b1, i⟩ := r
    dsimp only at G1 e1 e2 H1 ⊢
    split
    · exact ⟨g1, G1⟩
    · rename_i hi
      refine GI.rebuildF m (n := n + 1) (k + 1) (G1.fmt fun y hy => ?_) (H1.fmt (freplace_ok H1.fo _ _)) ?_
      · rcases replaceF_mem hy with hy | rfl
        · exact Or.inl hy
        · exact Or.inr (e2 (by omega) hf)
      · show k + 1 + m ≤ (replaceF b1.ar b1.fo (k : Int) i).1.length
        rw [replaceF_len, e1]; omega
theorem lostF_le (b : BS) : ∀ k : Nat, lostF b k ≤ k
  | 0 => Nat.le_refl _
  | k + 1 => by
    unfold lostF
    split
    · exact Nat.le_refl _
    · exact Nat.le_succ_of_le (lostF_le b k)
theorem GI.rebuild {n : Nat} {b : BS} {g : Nat → Bool} (h : GI g b) (H : Okb n b) : ∃ g', GI g' (rebuild b) := by
  have := lostF_le b b.fo.length
  exact GI.rebuildF _ _ h H (by show lost b + (b.fo.length - lost b) ≤ _; unfold lost; omega)
/-! ### the rules -/
theorem GI.openE {n : Nat} {b : BS} {g : Nat → Bool} (h : GI g b) (H : Okb n b) {t : TokL} (ht : TokOk t) (hn : t.name ∈ namesP) (hok : fmN t.name = true ∨ NoP b) : ∃ g', GI g' (openE b t) := by
  obtain ⟨g', h', _⟩ := h.insert H ht hn hok
  exact ⟨g', h'⟩
theorem GI.block {n : Nat} {b : BS} {g : Nat → Bool} (h : GI g b) (H : Okb n b) {t : TokL} (ht : TokOk t) (hn : t.name ∈ namesP) : ∃ g', GI g' (block b t) :=
  h.closeP.1.openE H.closeP ht hn (Or.inr h.closeP.2)
theorem GI.item {n : Nat} {b : BS} {g : Nat → Bool} (h : GI g b) (H : Okb n b) (ns : List Ba) {t : TokL} (ht : TokOk t) (hn : t.name ∈ namesP) : ∃ g', GI g' (item ns b t) :=
  (h.itemF ns _).block (Okb.itemF ns H _) ht hn
theorem GI.skip {b : BS} {g : Nat → Bool} (h : GI g b) (q : Bool) : GI g { b with skip := q } := ⟨h.e, h.z, h.ln, h.ta, h.tb, h.nd, h.fm⟩
theorem GI.lines {n : Nat} {b : BS} {g : Nat → Bool} (h : GI g b) (H : Okb n b) {t : TokL} (ht : TokOk t) (hn : t.name ∈ namesP) : ∃ g', GI g' (linesB b t) := by
  obtain ⟨g', h'⟩ := h.block H ht hn
  exact ⟨g', h'.skip true⟩
theorem pop_pre (s : St) : ∃ k, popS s = s.take k := ⟨s.length - 1, by unfold popS; rw [List.dropLast_eq_take]⟩
theorem GI.heading {n : Nat} {b : BS} {g : Nat → Bool} (h : GI g b) (H : Okb n b) {t : TokL} (ht : TokOk t) (hn : t.name ∈ namesP) : ∃ g', GI g' (headingB b t) := by
  unfold headingB
  dsimp only
  split
  · exact (h.closeP.1.cut (pop_pre _)).openE (H.closeP.stk H.closeP.st.pop) ht hn (Or.inr (h.closeP.2.cut (pop_pre _)))
  · exact h.closeP.1.openE H.closeP ht hn (Or.inr h.closeP.2)
theorem GI.format {n : Nat} {b : BS} {g : Nat → Bool} (h : GI g b) (H : Okb n b) {t : TokL} (ht : TokOk t) (hf : fmN t.name = true) : ∃ g', GI g' (format b t) := by
  obtain ⟨g1, h1⟩ := h.rebuild H
  obtain ⟨g2, h2, e1, e2⟩ := h1.insert H.rebuild ht (fm_in hf) (Or.inl hf)
  unfold Bd.format
  dsimp only
  generalize insertB (Bd.rebuild b) t 0 = r at *
  obtain ⟨b1, i⟩ := r
  dsimp only at h2 e1 e2 ⊢
  split
  · rename_i hi
    refine ⟨g2, GI.fail (h2.fmt fun y hy => ?_) _⟩
    rcases pushF_mem hy with hy | rfl
    · exact Or.inl hy
    · exact Or.inr (e2 hi hf)
  · exact ⟨g2, h2⟩
theorem GI.chB {n : Nat} {b : BS} {g : Nat → Bool} (h : GI g b) (H : Okb n b) (t : TokL) : ∃ g', GI g' (chB b t) := by
  obtain ⟨g1, h1⟩ := h.rebuild H
  have HR := H.rebuild
  unfold Bd.chB
  generalize Bd.rebuild b = b1 at *
  unfold charsB
  rw [place_any HR]
  dsimp only
  split
  · obtain ⟨k, v, e⟩ := textA_eg h1.e HR.ar (target b1) t.text
    exact ⟨_, h1.arena HR.ar.ne k e fun j hj => ext_old hj⟩
  · exact ⟨g1, h1⟩
theorem GI.endP {n : Nat} {b : BS} {g : Nat → Bool} (h : GI g b) (H : Okb n b) : ∃ g', GI g' (endP b) := by
  unfold Bd.endP
  cases hc : hasS b.st 2 [pS] with
  | true => rw [if_pos rfl]; exact ⟨g, h.closeP.1⟩
  | false =>
    rw [if_neg (by decide)]
    obtain ⟨g', h', _⟩ := h.insert H (t := implyT pS) ⟨by decide, by decide⟩ (show pS ∈ namesP by decide) (Or.inr (hasS_noP h hc))
    exact ⟨g', h'.closeP.1⟩
end Bd

namespace Bd
open Go
theorem GI.fresh {g : Nat → Bool} {b : BS} (h : GI g b) (ha : ArOk b.ar) (v : Bool) {i : Int} (hi : Nf b.ar i) :
    GI (ext g b.ar.length v) (fresh b i).1 ∧ (fresh b i).2 = (b.ar.length : Int) ∧ (∃ x, (fresh b i).1.ar[b.ar.length]? = some x ∧ x.kind = 3 ∧ x.space = 0 ∧ x.name = (node b.ar i).name) ∧ (fresh b i).1.st = b.st ∧ (fresh b i).1.fo = b.fo ∧ ArOk (fresh b i).1.ar ∧ (fresh b i).1.ar.length = b.ar.length + 1 ∧ fmN (node b.ar i).name = true := by
  obtain ⟨j, x, rfl, hj, h1, h2, h3⟩ := hi
  have hn : (freshN (node b.ar (j : Int))).name = x.name := by rw [node_nat hj]; rfl
  have hnm : (node b.ar (j : Int)).name = x.name := by rw [node_nat hj]
  have ht : isTpl (freshN (node b.ar (j : Int))) = false := by
    unfold isTpl
    rw [hn]
    rcases fm_names h3 with e | e <;> rw [e] <;> rfl
  have hadd := add_eq ha.ne (n := freshN (node b.ar (j : Int))) rfl ht
  unfold Bd.fresh
  rw [hadd]
  dsimp only
  have hp : (freshN (node b.ar (j : Int))).name = pS → v = true := fun e => by
    rw [hn] at e
    rw [e] at h3; exact absurd h3 (by decide)
  refine ⟨h.arena ha.ne (snoc_keep _ _) (snoc_eg h.e ha _ v hp) (fun _ hj => ext_old hj), rfl, ⟨_, snoc_new _ _, rfl, rfl, rfl⟩, rfl, rfl, ha.snoc _ rfl ht, by simp, by rw [hnm]; exact h3⟩
/-- One formatting element less. -/
theorem GI.remove {g : Nat → Bool} {b : BS} (h : GI g b) {l1 l2 : St} {m : OpenL} (e : b.st = l1 ++ m :: l2) (hm : fmN m.name = true) : GI g { b with st := l1 ++ l2 } := by
  have hs : List.Sublist (l1 ++ l2) b.st := by rw [e]; exact List.Sublist.append_left (List.sublist_cons_self _ _) _
  refine ⟨h.e, h.z, fun o ho => h.ln o (hs.subset ho), h.ta.sublist hs, ?_, List.Nodup.sublist (hs.map _) h.nd, h.fm⟩
  rcases h.tb with ⟨o, ho, hp⟩ | hf
  · refine Or.inl ⟨o, ?_, hp⟩
    rw [e] at ho
    rcases List.mem_append.1 ho with ho | ho
    · exact List.mem_append_left _ ho
    · rcases List.mem_cons.1 ho with rfl | ho
      · rw [hp] at hm; exact absurd hm (by decide)
      · exact List.mem_append_right _ ho
  · exact Or.inr fun o ho => hf o (hs.subset ho)
/-- A formatting element more, anywhere. -/
theorem GI.more {g : Nat → Bool} {b : BS} (h : GI g b) {s1 s2 : St} {m : OpenL} (e : b.st = s1 ++ s2) (hl : Lk b.ar m) (hm : fmN m.name = true) (hx : m.node ∉ b.st.map OpenL.node)
    (h2 : ∀ o ∈ s2, fmN o.name = false → g m.node.toNat = false) (hb : (∀ o ∈ b.st, g o.node.toNat = false) → g m.node.toNat = false) : GI g { b with st := s1 ++ m :: s2 } := by
  have hmem : ∀ o, o ∈ s1 ++ m :: s2 ↔ o = m ∨ o ∈ b.st := fun o => by
    rw [e, List.mem_append, List.mem_cons, List.mem_append]
    constructor
    · rintro (h | h | h)
      · exact Or.inr (Or.inl h)
      · exact Or.inl h
      · exact Or.inr (Or.inr h)
    · rintro (h | h | h)
      · exact Or.inr (Or.inl h)
      · exact Or.inl h
      · exact Or.inr (Or.inr h)
  have hta := h.ta
  have hnd := h.nd
  rw [e] at hta hx hnd
  obtain ⟨p1, p2, p3⟩ := List.pairwise_append.1 hta
  rw [List.map_append] at hx hnd
  obtain ⟨n1, n2, n3⟩ := List.nodup_append.1 hnd
  rw [List.mem_append, not_or] at hx
  refine ⟨h.e, h.z, fun o ho => ?_, ?_, ?_, ?_, h.fm⟩
  · rcases (hmem o).1 ho with rfl | ho
    · exact hl
    · exact h.ln o ho
  · refine List.pairwise_append.2 ⟨p1, List.pairwise_cons.2 ⟨h2, p2⟩, fun o ho o' ho' hf => ?_⟩
    rcases List.mem_cons.1 ho' with rfl | ho'
    · rw [hm] at hf; cases hf
    · exact p3 o ho o' ho' hf
  · rcases h.tb with ⟨o, ho, hp⟩ | hf
    · exact Or.inl ⟨o, (hmem o).2 (Or.inr ho), hp⟩
    · refine Or.inr fun o ho => ?_
      rcases (hmem o).1 ho with rfl | ho
      · exact hb hf
      · exact hf o ho
  · show ((s1 ++ m :: s2).map OpenL.node).Nodup
    rw [List.map_append, List.map_cons]
    refine List.nodup_append.2 ⟨n1, List.nodup_cons.2 ⟨hx.2, n2⟩, fun x hx' y hy => ?_⟩
    rcases List.mem_cons.1 hy with rfl | hy
    · intro e; subst e; exact hx.1 hx'
    · exact n3 x hx' y hy
theorem index_nd {l l1 l2 : St} {m : OpenL} (hnd : (l.map OpenL.node).Nodup) (e : l = l1 ++ m :: l2) : indexS l m.node = (l1.length : Int) := by
  have h2 : l[l1.length]? = some m := by rw [e, List.getElem?_append_right (Nat.le_refl _), Nat.sub_self]; rfl
  unfold indexS
  rcases lastIdx_cases (fun o : OpenL => o.node == m.node) l with ⟨_, h⟩ | ⟨s1, x, s2, e1, hx, hl, _⟩
  · have := h m (List.mem_of_getElem? h2)
    simp at this
  · rw [hl]
    have h1 : l[s1.length]? = some x := by rw [e1, List.getElem?_append_right (Nat.le_refl _), Nat.sub_self]; rfl
    have q1 : (l.map OpenL.node)[s1.length]? = some x.node := by rw [List.getElem?_map, h1]; rfl
    have q2 : (l.map OpenL.node)[l1.length]? = some m.node := by rw [List.getElem?_map, h2]; rfl
    have hlt : s1.length < (l.map OpenL.node).length := by
      rcases Nat.lt_or_ge s1.length (l.map OpenL.node).length with h | h
      · exact h
      · rw [List.getElem?_eq_none h] at q1; cases q1
    rw [(List.getElem?_inj hlt hnd).1 (q1.trans ((congrArg some (beq_iff_eq.1 hx)).trans q2.symm))]
theorem index_split {l : St} {i : Int} (h : 0 ≤ indexS l i) : ∃ l1 m l2, l = l1 ++ m :: l2 ∧ m.node = i ∧ indexS l i = (l1.length : Int) := by
  unfold indexS at h ⊢
  rcases lastIdx_cases (fun o : OpenL => o.node == i) l with ⟨e, _⟩ | ⟨s1, x, s2, e1, hx, hl, _⟩
  · omega
  · exact ⟨s1, x, s2, e1, beq_iff_eq.1 hx, hl⟩
theorem removeS_nd {l l1 l2 : St} {m : OpenL} (hnd : (l.map OpenL.node).Nodup) (e : l = l1 ++ m :: l2) : (removeS l m.node).1 = l1 ++ l2 := by
  have hi := index_nd hnd e
  unfold removeS
  rw [hi, if_neg (by omega), Int.toNat_natCast, e, List.eraseIdx_append_of_length_le (Nat.le_refl _), Nat.sub_self]
  rfl
theorem at_split {l l1 l2 : St} {m : OpenL} (e : l = l1 ++ m :: l2) : atS l (l1.length : Int) = m.node := by
  unfold atS
  rw [e, show (decide (((l1.length : Nat) : Int) < 0) || decide ((((l1 ++ m :: l2).length : Nat) : Int) ≤ ((l1.length : Nat) : Int))) = false by simp; omega, if_neg (by decide), Int.toNat_natCast, List.map_append, List.getD_eq_getElem?_getD, List.getElem?_append_right (by rw [List.length_map]; exact Nat.le_refl _), List.length_map, Nat.sub_self]
  rfl
/-- Where inward stands. -/
structure Iw (g : Nat → Bool) (A : St) (f : OpenL) (M R : St) (bl : Int) (b : BS) : Prop where
  G : GI g b
  a : ArOk b.ar
  st : b.st = A ++ f :: (M ++ R)
  m : ∀ o ∈ M, fmN o.name = true
  bl : ∃ o ∈ R, o.node = bl ∧ fmN o.name = false
theorem inward_gi {A : St} {f : OpenL} {bl : Int} : ∀ (fu : Nat) {b : BS} {g : Nat → Bool} {M R : St} (many last mark : Int), Iw g A f M R bl b →
    ∃ g' M' R', Iw g' A f M' R' bl (inward bl f.node fu b many ((A.length + 1 + M.length : Nat) : Int) last mark).1 ∧ (∀ j, j < b.ar.length → g' j = g j) ∧ b.ar.length ≤ (inward bl f.node fu b many ((A.length + 1 + M.length : Nat) : Int) last mark).1.ar.length
  | 0, b, g, M, R, many, last, mark, h => ⟨g, M, R, h, fun _ _ => rfl, Nat.le_refl _⟩
  | fu + 1, b, g, M, R, many, last, mark, h => by
    unfold Bd.inward
    dsimp only
    rcases List.eq_nil_or_concat M with rfl | ⟨M0, m, rfl⟩
    · have hx : atS b.st (((A.length + 1 + ([] : St).length : Nat) : Int) - 1) = f.node := by
        rw [show ((A.length + 1 + ([] : St).length : Nat) : Int) - 1 = ((A.length : Nat) : Int) by simp]
        exact at_split h.st
      rw [hx, if_pos (by simp)]
      exact ⟨g, [], R, h, fun _ _ => rfl, Nat.le_refl _⟩
    · rw [List.concat_eq_append] at *
      have est : b.st = (A ++ f :: M0) ++ m :: R := by rw [h.st]; simp
      have elen : (A ++ f :: M0).length = A.length + 1 + M0.length := by simp; omega
      have ek : ((A.length + 1 + (M0 ++ [m]).length : Nat) : Int) - 1 = ((A.length + 1 + M0.length : Nat) : Int) := by simp; omega
      have hx : atS b.st ((A.length + 1 + M0.length : Nat) : Int) = m.node := by rw [← elen]; exact at_split est
      have hmf : fmN m.name = true := h.m m (by simp)
      have hmem : m ∈ b.st := by rw [est]; simp
      have hne : m.node ≠ f.node := by
        have hnd := h.G.nd
        rw [h.st] at hnd
        rw [List.map_append, List.map_cons] at hnd
        have := (List.nodup_cons.1 (List.nodup_append.1 hnd).2.1).1
        intro e
        exact this (by rw [← e]; exact List.mem_map.2 ⟨m, by simp, rfl⟩)
      rw [ek, hx, if_neg (by simpa using hne)]
      have hM0 : ∀ o ∈ M0, fmN o.name = true := fun o ho => h.m o (by simp [ho])
      generalize hdr : (decide (3 < many) && decide (0 ≤ indexF b.fo m.node)) = dr
      generalize (if (dr && decide (indexF b.fo m.node < mark)) = true then mark - 1 else mark) = mark1
      obtain ⟨b1, hb1⟩ : ∃ b1, b1 = if dr = true then { b with fo := (removeF b.fo m.node).1 } else b := ⟨_, rfl⟩
      rw [← hb1]
      have g1 : GI g b1 := by
        rw [hb1]
        split
        · exact h.G.fmt fun i hi => Or.inl (removeF_mem' hi)
        · exact h.G
      have f1 : b1.ar = b.ar := by rw [hb1]; split <;> rfl
      have f2 : b1.st = b.st := by rw [hb1]; split <;> rfl
      obtain ⟨at1, hat1⟩ : ∃ at1, at1 = if dr = true then -1 else indexF b.fo m.node := ⟨_, rfl⟩
      rw [← hat1]
      have est1 : b1.st = (A ++ f :: M0) ++ m :: R := by rw [f2, est]
      by_cases h0 : at1 < 0
      · rw [if_pos h0]
        have hr : (removeS b1.st m.node).1 = A ++ f :: (M0 ++ R) := by
          rw [removeS_nd g1.nd est1]; simp
        rw [hr]
        have hI : Iw g A f M0 R bl { b1 with st := A ++ f :: (M0 ++ R) } := by
          refine ⟨?_, by rw [show ({ b1 with st := A ++ f :: (M0 ++ R) } : BS).ar = b1.ar from rfl, f1]; exact h.a, rfl, hM0, h.bl⟩
          have := g1.remove est1 hmf
          rwa [show (A ++ f :: M0) ++ R = A ++ f :: (M0 ++ R) by simp] at this
        obtain ⟨g', M', R', q1, q2, q3⟩ := inward_gi fu (many + 1) last mark1 hI
        exact ⟨g', M', R', q1, fun j hj => q2 j (by rw [show ({ b1 with st := A ++ f :: (M0 ++ R) } : BS).ar = b1.ar from rfl, f1]; exact hj), Nat.le_trans (by show b.ar.length ≤ b1.ar.length; rw [f1]; exact Nat.le_refl _) q3⟩
      · rw [if_neg h0]
        obtain ⟨j, x, ej, hj, k1, k2, k3, k4, k5⟩ := h.G.ln m hmem
        have hN : Nf b1.ar m.node := ⟨j, x, ej, by rw [f1]; exact hj, k1, k2, by rw [k4]; exact hmf⟩
        have ha1 : ArOk b1.ar := by rw [f1]; exact h.a
        obtain ⟨G2, e2, ⟨y, hy, y1, y2, y3⟩, s2, o2, a2, l2, n2⟩ := g1.fresh ha1 false hN
        have hnm : (node b1.ar m.node).name = m.name := by rw [ej, node_nat (show b1.ar[j]? = some x by rw [f1]; exact hj)]; exact k4
        rw [hnm] at y3
        generalize fresh b1 m.node = r at *
        obtain ⟨b2, yi⟩ := r
        dsimp only at G2 e2 hy s2 o2 a2 l2 ⊢
        subst e2
        have est2 : b2.st = (A ++ f :: M0) ++ m :: R := by rw [s2, est1]
        have hrep : (replaceS b2.ar b2.st ((A.length + 1 + M0.length : Nat) : Int) (b1.ar.length : Int)).1 = A ++ f :: ((M0 ++ []) ++ (⟨(b1.ar.length : Int), 0, m.name⟩ :: R)) := by
          unfold replaceS
          have he : elementS b2.ar (b1.ar.length : Int) = (⟨(b1.ar.length : Int), 0, m.name⟩, 0) := by
            unfold elementS
            rw [node_nat hy, y1, y2, y3]; rfl
          rw [he]
          dsimp only
          rw [if_neg (by decide), est2]
          rw [show (decide (((A.length + 1 + M0.length : Nat) : Int) < 0) || decide ((((A ++ f :: M0 ++ m :: R).length : Nat) : Int) ≤ ((A.length + 1 + M0.length : Nat) : Int))) = false by simp; omega, if_neg (by decide), Int.toNat_natCast, ← elen]
          rw [List.set_append_right _ _ (Nat.le_refl _), Nat.sub_self]
          simp
        rw [hrep]
        generalize hfo : (replaceF b2.ar b2.fo at1 (b1.ar.length : Int)).1 = fo2
        have hfo2 : ∀ i ∈ fo2, i ∈ b2.fo ∨ Nf b2.ar i := fun i hi => by
          rw [← hfo] at hi
          rcases replaceF_mem hi with hi | rfl
          · exact Or.inl hi
          · exact Or.inr ⟨b1.ar.length, y, rfl, hy, y1, y2, by rw [y3]; exact hmf⟩
        have G3 := (G2.fmt hfo2).remove (l1 := A ++ f :: M0) (l2 := R) (m := m) est2 hmf
        have G4 := G3.more (s1 := A ++ f :: M0) (s2 := R) (m := ⟨(b1.ar.length : Int), 0, m.name⟩) rfl ⟨b1.ar.length, y, rfl, hy, y1, y2, rfl, y3, k5⟩ hmf
          (fun hc => by
            obtain ⟨o, ho, e⟩ := List.mem_map.1 hc
            have ho' : o ∈ b1.st := by
              rw [est1]
              rcases List.mem_append.1 (show o ∈ (A ++ f :: M0) ++ R from ho) with ho | ho
              · exact List.mem_append_left _ ho
              · exact List.mem_append_right _ (List.mem_cons_of_mem _ ho)
            have := (g1.ln o ho').lt
            rw [show o.node = (b1.ar.length : Int) from e, Int.toNat_natCast] at this
            omega)
          (fun _ _ _ => by show ext g b1.ar.length false (Int.toNat (b1.ar.length : Int)) = false; rw [Int.toNat_natCast, ext_new])
          (fun _ => by show ext g b1.ar.length false (Int.toNat (b1.ar.length : Int)) = false; rw [Int.toNat_natCast, ext_new])
        have hE := append_eg (p := (b1.ar.length : Int)) (i := last) G4.e a2 (fun P I e1 _ hp => by
          obtain rfl : P = b1.ar.length := by omega
          rw [ext_new] at hp; cases hp) (fun P I x e1 _ _ _ _ => by
          obtain rfl : P = b1.ar.length := by omega
          exact ext_new _ _ _)
        have G5 := G4.arena (show b2.ar ≠ [] from a2.ne) (append_keep a2 (b1.ar.length : Int) last) hE (fun _ _ => rfl)
        have a5 := a2.append (b1.ar.length : Int) last
        have l5 := append_len b2.ar (b1.ar.length : Int) last
        have e5 : (A ++ f :: M0) ++ (⟨(b1.ar.length : Int), 0, m.name⟩ :: R) = A ++ f :: ((M0 ++ []) ++ (⟨(b1.ar.length : Int), 0, m.name⟩ :: R)) := by simp
        have hI : Iw (ext g b1.ar.length false) A f M0 (⟨(b1.ar.length : Int), 0, m.name⟩ :: R) bl { b2 with ar := (append b2.ar (b1.ar.length : Int) last).1, fo := fo2, st := A ++ f :: ((M0 ++ []) ++ (⟨(b1.ar.length : Int), 0, m.name⟩ :: R)) } := by
          refine ⟨?_, a5, by simp, hM0, ?_⟩
          · rw [← e5]; exact G5
          · obtain ⟨o, ho, h1, h2⟩ := h.bl
            exact ⟨o, List.mem_cons_of_mem _ ho, h1, h2⟩
        obtain ⟨g', M', R', q1, q2, q3⟩ := inward_gi fu (many + 1) (b1.ar.length : Int) (if last == bl then at1 + 1 else mark1) hI
        refine ⟨g', M', R', q1, fun k hk => ?_, ?_⟩
        · rw [q2 k (by show k < (append b2.ar _ last).1.length; rw [l5, l2, f1]; omega), ext_old (by rw [f1]; exact hk)]
        · refine Nat.le_trans ?_ q3
          show _ ≤ (append b2.ar _ last).1.length
          rw [l5, l2, f1]; omega
end Bd

namespace Bd
open Go
/-- The block's kids go into a new element, which goes into the block. -/
theorem GI.renew {g : Nat → Bool} {b : BS} (h : GI g b) (ha : ArOk b.ar) {bo : OpenL} (hbo : bo ∈ b.st) (hbn : fmN bo.name = false) {fm : Int} (hf : Nf b.ar fm) (mark : Int) : ∃ g', GI g' (renew b bo.node fm mark) := by
  obtain ⟨B, xb, eB, hB, _, _, _, kB, _⟩ := h.ln bo hbo
  obtain ⟨J, xf, eJ, hJ, f1, f2, f3⟩ := hf
  have hne : bo.node ≠ fm := by
    intro e
    obtain rfl : B = J := by omega
    obtain rfl := Option.some.inj (hB.symm.trans hJ)
    rw [kB] at f3
    rw [hbn] at f3; cases f3
  obtain ⟨G2, e2, ⟨y, hy, y1, y2, y3⟩, s2, o2, a2, l2, n2⟩ := h.fresh ha (g B) ⟨J, xf, eJ, hJ, f1, f2, f3⟩
  unfold Bd.renew
  generalize Bd.fresh b fm = r at *
  obtain ⟨b1, yi⟩ := r
  dsimp only at G2 e2 hy s2 o2 a2 l2 ⊢
  subst e2
  have hBl := rd_eq hB
  have hgB : ext g b.ar.length (g B) B = ext g b.ar.length (g B) b.ar.length := by rw [ext_old hBl, ext_new]
  obtain ⟨K3, E3, a3⟩ := move_eg (F := B) (T := b.ar.length) G2.e a2 hgB
  rw [eB]
  have yf : fmN y.name = true := by rw [y3]; exact n2
  obtain ⟨a4, ha4⟩ : ∃ a4, a4 = (append (move b1.ar (B : Int) (b.ar.length : Int)).1 (B : Int) (b.ar.length : Int)).1 := ⟨_, rfl⟩
  rw [← ha4]
  have K4 : Keep b1.ar a4 := by rw [ha4]; exact K3.trans (append_keep a3 _ _)
  have E4 : EG (ext g b.ar.length (g B)) a4 := by
    rw [ha4]
    refine append_eg E3 a3 (fun P I e1 e2 hp => ?_) (fun P I x e1 e2 hx _ hn => ?_)
    · obtain rfl : P = B := by omega
      obtain rfl : I = b.ar.length := by omega
      rw [← hgB]; exact hp
    · obtain rfl : I = b.ar.length := by omega
      obtain ⟨x', hx', _, q2, _⟩ := K3 _ _ hy
      obtain rfl := Option.some.inj (hx.symm.trans hx')
      rw [q2, yf] at hn; cases hn
  have G4 : GI (ext g b.ar.length (g B)) { b1 with ar := a4 } := G2.arena a2.ne K4 E4 (fun _ _ => rfl)
  obtain ⟨y', hy', r1, r2, r3⟩ := K4 _ _ hy
  have hNy : Nf a4 (b.ar.length : Int) := ⟨b.ar.length, y', rfl, hy', r1.trans y1, r3.trans y2, by rw [r2]; exact yf⟩
  generalize hm1 : (if indexF b1.fo fm < mark then mark - 1 else mark) = mark1
  obtain ⟨fo2, hfo⟩ : ∃ fo2, fo2 = (insertF a4 (removeF b1.fo fm).1 mark1 (b.ar.length : Int)).1 := ⟨_, rfl⟩
  rw [← hfo]
  have G5 : GI (ext g b.ar.length (g B)) { b1 with ar := a4, fo := fo2 } := G4.fmt fun i hi => by
    rw [hfo] at hi
    rcases insertF_mem hi with hi | rfl
    · exact Or.inl (removeF_mem' hi)
    · exact Or.inr hNy
  have hst : b1.st = b.st := s2
  obtain ⟨st1, hst1⟩ : ∃ st1, st1 = (removeS b1.st fm).1 := ⟨_, rfl⟩
  rw [← hst1]
  have hfy : (node a4 (b.ar.length : Int)) = y' := node_nat hy'
  have G6 : GI (ext g b.ar.length (g B)) { b1 with ar := a4, fo := fo2, st := st1 } ∧ bo ∈ st1 ∧ ∀ o ∈ st1, o ∈ b.st := by
    rw [hst1, hst]
    by_cases h0 : indexS b.st fm < 0
    · rw [show (removeS b.st fm).1 = b.st by unfold removeS; rw [if_pos h0]]
      refine ⟨?_, hbo, fun o ho => ho⟩
      rw [← hst]; exact G5
    · obtain ⟨l1, m, l2, e, em1, _⟩ := index_split (show 0 ≤ indexS b.st fm by omega)
      rw [← em1, removeS_nd h.nd e]
      have hmm : fmN m.name = true := by
        obtain ⟨j, x, ej, hj, _, _, _, q, _⟩ := h.ln m (by rw [e]; simp)
        obtain rfl : j = J := by omega
        obtain rfl := Option.some.inj (hj.symm.trans hJ)
        rw [← q]; exact f3
      refine ⟨G5.remove (by show b1.st = _; rw [hst, e]) hmm, ?_, fun o ho => ?_⟩
      · have := hbo
        rw [e] at this
        rcases List.mem_append.1 this with hh | hh
        · exact List.mem_append_left _ hh
        · rcases List.mem_cons.1 hh with rfl | hh
          · exact absurd em1 hne
          · exact List.mem_append_right _ hh
      · rw [e]
        rcases List.mem_append.1 ho with hh | hh
        · exact List.mem_append_left _ hh
        · exact List.mem_append_right _ (List.mem_cons_of_mem _ hh)
  obtain ⟨G6, hb6, hsub⟩ := G6
  obtain ⟨l1, l2, e6⟩ := List.append_of_mem hb6
  have hi6 : indexS st1 (B : Int) = (l1.length : Int) := by rw [← eB]; exact index_nd G6.nd e6
  rw [hi6]
  have he : elementS a4 (b.ar.length : Int) = (⟨(b.ar.length : Int), y'.space, y'.name⟩, 0) := by
    unfold elementS
    rw [hfy, r1, y1]; rfl
  refine ⟨ext g b.ar.length (g B), ?_⟩
  show GI _ { b1 with ar := a4, fo := fo2, st := (insertS a4 st1 ((l1.length : Int) + 1) (b.ar.length : Int)).1 }
  unfold insertS
  rw [he]
  dsimp only
  rw [if_neg (by decide), if_neg (by rw [e6]; simp; omega)]
  split
  · exact G6
  · have hlen : ((l1.length : Int) + 1).toNat = (l1 ++ [bo]).length := by simp
    have e6' : st1 = (l1 ++ [bo]) ++ l2 := by rw [e6]; simp
    rw [hlen, e6', List.take_left, List.drop_left]
    have hspl : (⟨(b.ar.length : Int), y'.space, y'.name⟩ : OpenL) = ⟨(b.ar.length : Int), 0, y'.name⟩ := by rw [r3.trans y2]
    dsimp only
    rw [hspl]
    have G7 := G6.more (s1 := l1 ++ [bo]) (s2 := l2) (m := ⟨(b.ar.length : Int), 0, y'.name⟩) e6' ⟨b.ar.length, y', rfl, hy', r1.trans y1, r3.trans y2, rfl, rfl, fm_in (by rw [r2]; exact yf)⟩ (by rw [r2]; exact yf)
      (fun hc => by
        obtain ⟨o, ho, e⟩ := List.mem_map.1 hc
        have := (h.ln o (hsub o ho)).lt
        rw [show o.node = (b.ar.length : Int) from e, Int.toNat_natCast] at this
        omega)
      (fun o ho hf => by
        show ext g b.ar.length (g B) (Int.toNat (b.ar.length : Int)) = false
        rw [Int.toNat_natCast, ← hgB]
        have hta := G6.ta
        rw [e6] at hta
        have := (List.pairwise_cons.1 (List.pairwise_append.1 hta).2.1).1 o ho hf
        rwa [eB, Int.toNat_natCast] at this)
      (fun hall => by
        show ext g b.ar.length (g B) (Int.toNat (b.ar.length : Int)) = false
        rw [Int.toNat_natCast, ← hgB]
        have := hall bo hb6
        rwa [eB, Int.toNat_natCast] at this)
    exact G7
theorem special_fm {nm : Ba} (h : nm ∈ namesP) : special 0 nm = !fmN nm := by
  have : ∀ x ∈ namesP, special 0 x = !fmN x := by decide +kernel
  exact this nm h
theorem GI.once {g : Nat → Bool} {b : BS} {n : Nat} (h : GI g b) (H : Okb n b) (nm : Ba) : ∃ g', GI g' (once b nm).1 := by
  unfold Bd.once
  dsimp only
  split
  · exact ⟨g, h⟩
  rename_i hf0
  split
  · exact ⟨g, h.fmt fun i hi => Or.inl (removeF_mem' hi)⟩
  rename_i ha0
  split
  · exact ⟨g, h⟩
  have hfm : lastN b.ar b.fo nm ∈ b.fo := by
    revert hf0
    unfold lastN
    dsimp only
    split
    · intro hh; omega
    · rename_i hk
      intro _
      have : lastF b.fo (openF b.fo) (fun i => (node b.ar i).space == 0 && (node b.ar i).name == nm) < (b.fo.length : Int) := by
        unfold lastF
        split
        · have : (0 : Int) ≤ (b.fo.length : Int) := by omega
          omega
        · rcases lastIdx_cases (fun i => (node b.ar i).space == 0 && (node b.ar i).name == nm) b.fo with ⟨e, _⟩ | ⟨s1, x, s2, e, _, hl, _⟩
          · rw [e]; omega
          · rw [hl, e]; simp; omega
      rw [List.getD_eq_getElem?_getD, List.getElem?_eq_getElem (by omega)]
      exact List.getElem_mem _
  have hN := h.fm _ hfm
  generalize lastN b.ar b.fo nm = fm at *
  obtain ⟨A, f, S2, est, ef, ei⟩ := index_split (show 0 ≤ indexS b.st fm by omega)
  split
  · refine ⟨g, GI.fmt (b := { b with st := b.st.take (indexS b.st fm).toNat }) (h.take _) fun i hi => Or.inl (removeF_mem' hi)⟩
  rename_i hb0
  -- the furthest block
  have hfu : ∃ M o R0, S2 = M ++ o :: R0 ∧ furthest b (indexS b.st fm) = o.node ∧ special (node b.ar o.node).space (node b.ar o.node).name = true ∧ ∀ x ∈ M, special (node b.ar x.node).space (node b.ar x.node).name = false := by
    have hd : b.st.drop (indexS b.st fm + 1).toNat = S2 := by
      rw [ei, show ((A.length : Int) + 1).toNat = (A ++ [f]).length by simp, est, show A ++ f :: S2 = (A ++ [f]) ++ S2 by simp, List.drop_left]
    revert hb0
    unfold furthest
    rw [hd]
    cases hfd : S2.find? (fun o => special (node b.ar o.node).space (node b.ar o.node).name) with
    | none => intro hh; dsimp only at hh; omega
    | some o =>
      intro _
      obtain ⟨ho, a1, b1, e, hM⟩ := List.find?_eq_some_iff_append.1 hfd
      exact ⟨a1, o, b1, e, rfl, ho, fun x hx => by simpa using hM x hx⟩
  obtain ⟨M, o, R0, eS2, efu, hso, hsM⟩ := hfu
  rw [efu] at hb0 ⊢
  have hspc : ∀ x ∈ b.st, special (node b.ar x.node).space (node b.ar x.node).name = !fmN x.name := fun x hx => by
    obtain ⟨j, z, ej, hj, q1, q2, q3, q4, q5⟩ := h.ln x hx
    rw [ej, node_nat hj, q2, q4]
    exact special_fm q5
  have hoM : o ∈ b.st := by rw [est, eS2]; simp
  have hon : fmN o.name = false := by
    have := hspc o hoM
    rw [hso] at this
    cases hc : fmN o.name with
    | false => rfl
    | true => rw [hc] at this; cases this
  have hMn : ∀ x ∈ M, fmN x.name = true := fun x hx => by
    have := hspc x (by rw [est, eS2]; simp [hx])
    rw [hsM x hx] at this
    cases hc : fmN x.name with
    | true => rfl
    | false => rw [hc] at this; cases this
  have eio : indexS b.st o.node = ((A.length + 1 + M.length : Nat) : Int) := by
    rw [index_nd h.nd (l1 := A ++ f :: M) (l2 := R0) (m := o) (by rw [est, eS2]; simp)]
    simp; omega
  have hI : Iw g A f M (o :: R0) o.node b := ⟨h, H.ar, by rw [est, eS2], hMn, o, List.mem_cons_self .., rfl, hon⟩
  obtain ⟨g1, M1, R1, I1, hg1, hle⟩ := inward_gi 600 1 o.node (indexF b.fo fm) hI
  rw [ef, ← eio] at I1 hle
  -- what stands below the element
  have habv : ∀ P : Nat, atS b.st (indexS b.st fm - 1) = (P : Int) → P < b.ar.length ∧ g P = false := fun P hP => by
    rw [ei] at hP
    rcases List.eq_nil_or_concat A with rfl | ⟨A0, q, rfl⟩
    · unfold atS at hP
      simp at hP
    · rw [List.concat_eq_append] at *
      rw [show (((A0 ++ [q]).length : Nat) : Int) - 1 = ((A0.length : Nat) : Int) by simp, at_split (l1 := A0) (m := q) (l2 := f :: S2) (by rw [est]; simp)] at hP
      have hq : q ∈ b.st := by rw [est]; simp
      have hlt := (h.ln q hq).lt
      rw [hP, Int.toNat_natCast] at hlt
      refine ⟨hlt, ?_⟩
      have hta := h.ta
      rw [est, eS2] at hta
      have := (List.pairwise_append.1 hta).2.2 q (by simp) o (by simp) hon
      rwa [hP, Int.toNat_natCast] at this
  generalize atS b.st (indexS b.st fm - 1) = abv at *
  have HI := Okb.inward (bl := o.node) (fm := fm) 600 1 (indexS b.st o.node) o.node (indexF b.fo fm) H (by omega)
  have hfm1 := hN
  generalize Bd.inward o.node fm 600 b 1 (indexS b.st o.node) o.node (indexF b.fo fm) = r at *
  obtain ⟨b1, last, mark⟩ := r
  dsimp only at I1 HI hle ⊢
  have eput : putB b1 last abv = { b1 with ar := (append b1.ar abv last).1 } := by
    rw [putN _ _ _ HI.fos, place_any HI]
  rw [eput]
  have E2 := append_eg (p := abv) (i := last) I1.G.e I1.a (fun P I e1 _ hp => by
    obtain ⟨q1, q2⟩ := habv P e1
    rw [hg1 P q1, q2] at hp; cases hp) (fun P I x e1 _ _ _ _ => by
    obtain ⟨q1, q2⟩ := habv P e1
    rw [hg1 P q1, q2])
  have K2 := append_keep I1.a abv last
  have G2 : GI g1 { b1 with ar := (append b1.ar abv last).1 } := I1.G.arena I1.a.ne K2 E2 (fun _ _ => rfl)
  obtain ⟨bo, hbo, ebo, hbn⟩ := I1.bl
  have hbs : bo ∈ b1.st := by rw [I1.st]; simp [hbo]
  have hff : f ∈ b1.st := by rw [I1.st]; simp
  have hNf : Nf (append b1.ar abv last).1 fm := by
    obtain ⟨j, x, ej, hj, q1, q2, q3, q4, q5⟩ := (I1.G.ln f hff).keep K2
    refine ⟨j, x, by rw [← ef]; exact ej, hj, q1, q2, ?_⟩
    rw [q4]
    obtain ⟨j', x', ej', hj', p1, p2, p3, p4, p5⟩ := h.ln f (by rw [est]; simp)
    obtain ⟨j2, x2, ej2, hj2, _, _, p6⟩ := hN
    obtain rfl : j' = j2 := by omega
    obtain rfl := Option.some.inj (hj'.symm.trans hj2)
    rw [← p4]; exact p6
  have := G2.renew (I1.a.append abv last) hbs hbn hNf mark
  rw [ebo] at this
  exact this
theorem GI.runF (nm : Ba) : ∀ (f : Nat) {n : Nat} {b : BS} {g : Nat → Bool}, GI g b → Okb n b → ∃ g', GI g' (runF f b nm).1
  | 0, _, _, g, h, _ => ⟨g, h⟩
  | f + 1, n, b, g, h, H => by
    unfold Bd.runF
    obtain ⟨g1, h1⟩ := h.once H nm
    have H1 := H.once nm
    generalize Bd.once b nm = r at *
    obtain ⟨b1, more, done⟩ := r
    dsimp only at h1 H1 ⊢
    split
    · exact ⟨g1, h1⟩
    · split
      · exact ⟨g1, h1⟩
      · exact GI.runF nm f h1 H1
theorem GI.run {g : Nat → Bool} {b : BS} {n : Nat} (h : GI g b) (H : Okb n b) (nm : Ba) : ∃ g', GI g' (run b nm).1 := by
  unfold Bd.run
  split
  · exact ⟨g, h.cut (pop_pre _)⟩
  · exact GI.runF nm 8 h H
theorem GI.formatted {g : Nat → Bool} {b : BS} {n : Nat} (h : GI g b) (H : Okb n b) (t : TokL) : ∃ g', GI g' (formatted b t) := by
  unfold Bd.formatted
  obtain ⟨g1, h1⟩ := h.run H t.name
  split
  · exact ⟨g1, h1⟩
  · exact ⟨g1, h1.other _⟩
/-! ### the law's tokens -/
def namesQ : List Ba := [pS, ⟨#[100, 105, 118]⟩, ⟨#[117, 108]⟩, ⟨#[108, 105]⟩, ⟨#[104, 49]⟩, ⟨#[112, 114, 101]⟩, ⟨#[98]⟩, ⟨#[105]⟩, ⟨#[97, 100, 100, 114, 101, 115, 115]⟩]
/-- What Step does with the law's tokens. -/
def stpP (b : BS) (t : TokL) : BS × Bool :=
  if t.kind == 7 then (chB b t, false)
  else if t.kind == 2 then
    (if fmN t.name then format b t else if t.name == ⟨#[108, 105]⟩ then item [⟨#[108, 105]⟩] b t else if t.name == ⟨#[104, 49]⟩ then headingB b t else if t.name == ⟨#[112, 114, 101]⟩ then linesB b t else block b t, false)
  else
    (if fmN t.name then formatted b t else if t.name == ⟨#[108, 105]⟩ then endItem 1 b t else if t.name == ⟨#[104, 49]⟩ then endHeading b else if t.name == pS then endP b else shut b t, false)
theorem namesQ_ok {nm : Ba} (h : nm ∈ namesQ) : (nm.size ≤ 1000 ∧ (nm == templateS) = false) ∧ nm ∈ namesP := by
  have : ∀ x ∈ namesQ, (x.size ≤ 1000 ∧ (x == templateS) = false) ∧ x ∈ namesP := by decide +kernel
  exact this nm h
def PI (b : BS) : Prop := ∃ g, GI g b
theorem PI.stp {b : BS} {n : Nat} (h : PI b) (H : Okb n b) {t : TokL} (ht : t.kind = 7 ∨ t.name ∈ namesQ) : PI (stpP b t).1 := by
  obtain ⟨g, h⟩ := h
  unfold stpP
  split
  · exact h.chB H t
  rename_i h7
  have hn : t.name ∈ namesQ := by
    rcases ht with e | e
    · rw [e] at h7; exact absurd rfl h7
    · exact e
  obtain ⟨hT, hP⟩ := namesQ_ok hn
  split
  · dsimp only
    split
    · rename_i hf; exact h.format H hT hf
    · split
      · exact h.item H _ hT hP
      · split
        · exact h.heading H hT hP
        · split
          · exact h.lines H hT hP
          · exact h.block H hT hP
  · dsimp only
    split
    · exact h.formatted H t
    · split
      · exact ⟨g, h.endItem 1 t⟩
      · split
        · exact ⟨g, h.endHeading⟩
        · split
          · exact h.endP H
          · exact ⟨g, h.shut t⟩
theorem pi_opened : PI opened := by
  refine ⟨fun _ => false, ⟨fun j x hj k hk hg => (by cases hg), fun j x hj hn => ?_, fun _ _ _ _ _ _ _ => rfl⟩, rfl, ?_, ?_, Or.inr fun _ _ => rfl, ?_, ?_⟩
  · have : ∀ x ∈ opened.ar, x.name ≠ pS := by decide +kernel
    exact absurd hn (this x (List.mem_of_getElem? hj))
  · have hs : opened.st = stB := by decide +kernel
    rw [hs]
    intro o ho
    rcases List.mem_cons.1 ho with rfl | ho
    · exact ⟨1, _, rfl, show opened.ar[1]? = some (opened.ar.getD 1 nd0) from by decide +kernel, by decide +kernel, by decide +kernel, rfl, by decide +kernel, by decide⟩
    · obtain rfl := List.mem_singleton.1 ho
      exact ⟨3, _, rfl, show opened.ar[3]? = some (opened.ar.getD 3 nd0) from by decide +kernel, by decide +kernel, by decide +kernel, rfl, by decide +kernel, by decide⟩
  · exact List.pairwise_of_forall fun _ _ _ => rfl
  · decide +kernel
  · have : opened.fo = [] := by decide +kernel
    rw [this]
    intro i hi
    exact absurd hi (List.not_mem_nil)
end Bd

namespace Go.Proofs.YtnbdalohlldnbaaGreatDoor
open Go.RowKit Bd
attribute [local go_sem ↓] Go.wp_at_zero Go.wp_at_succ
/-- A slice of bytes, as the world holds it. -/
def SlB (w : World) (v : Value) (l : List UInt8) : Prop :=
  ∃ a c, v = .slice a l.length c ∧ l.length ≤ 9223372036854775807 ∧ ∀ (j : Nat) (b : UInt8), l[j]? = some b → ∃ B off, a = some ⟨B, off, none⟩ ∧ B < w.heap.size ∧ w.cell? ⟨B, off + j, none⟩ = some (.int .u8 b.toNat)
theorem SlB.below {w w' : World} {v : Value} {l : List UInt8} (h : SlB w v l) (hb : Below w.heap.size w w') : SlB w' v l := by
  obtain ⟨a, c, h1, h2, h3⟩ := h
  refine ⟨a, c, h1, h2, fun j b hj => ?_⟩
  obtain ⟨B, off, e1, e2, e3⟩ := h3 j b hj
  exact ⟨B, off, e1, Nat.lt_of_lt_of_le e2 hb.size, by rw [hb.cell (p := ⟨B, off + j, none⟩) e2]; exact e3⟩
/-- Names, laid one behind another. -/
def NmsAt (w : World) (g : Nat) (l : List Ba) : Prop := ∀ (j : Nat) (nm : Ba), l[j]? = some nm → w.cell? ⟨g, j, none⟩ = some (.string nm)
theorem nms_alloc (w : World) (l : List Ba) (T : TypeId) : NmsAt (w.alloc (.cells (l.map Value.string).toArray T)) w.heap.size l :=
  fun j nm hj => rowAt (heap_new _ _) _ _ (by rw [List.getElem?_toArray, List.getElem?_map, hj]; rfl)
theorem NmsAt.below {w w' : World} {g : Nat} {l : List Ba} (h : NmsAt w g l) (hb : Below w.heap.size w w') : NmsAt w' g l :=
  fun j nm hj => (hb.cell (World.block_lt_of_cell? _ _ (h j nm hj))).trans (h j nm hj)
theorem EnvT.of {W0 wr : World} {own : Nat → Nat} (hE : E2 W0) (hb : Below W0.heap.size W0 wr) (h0 : ∀ k, k < W0.heap.size → own k = 0) : EnvT own wr := by
  have hT := hE.t
  have hlt : (1 : Nat) < W0.heap.size := by
    unfold Lib.TabIs World.var? at hT
    have hg : (Tryz.prog).globalNamed "strings.asciiSpace" = some 1 := by kernel_rfl
    rw [hg] at hT
    simp only [Option.bind_some] at hT
    rcases Nat.lt_or_ge (1 : Nat) W0.heap.size with h | h
    · exact h
    · rw [Array.getElem?_eq_none h] at hT; cases hT
  exact ⟨tab_below hE.t hb, h0 _ hlt⟩
/-- A builder in order, beside all that lay in W0. -/
structure LA (n : Nat) (W0 : World) (bp ap sp lp : Nat) (b : BS) (wr : World) : Prop where
  ex : ∃ own, BX n own wr bp ap sp lp b ∧ Below W0.heap.size W0 wr ∧ ∀ k, k < W0.heap.size → own k = 0
section
variable {n : Nat} {W0 wr w' : World} {bp ap sp lp : Nat} {b : BS}
theorem LA.below (h : LA n W0 bp ap sp lp b wr) (hb : Below wr.heap.size wr w') : LA n W0 bp ap sp lp b w' := by
  obtain ⟨own, h1, h2, h3⟩ := h.ex
  exact ⟨own, h1.below hb, below_call h2 hb, h3⟩
theorem LA.mono {m : Nat} (h : LA n W0 bp ap sp lp b wr) (hm : n ≤ m) (h2 : m ≤ 90000) : LA m W0 bp ap sp lp b wr := by
  obtain ⟨own, q1, q2, q3⟩ := h.ex
  exact ⟨own, q1.mono hm h2, q2, q3⟩
theorem LA.base (h : LA n W0 bp ap sp lp b wr) : Below W0.heap.size W0 wr := by
  obtain ⟨_, _, h2, _⟩ := h.ex
  exact h2
theorem LA.okb (h : LA n W0 bp ap sp lp b wr) : Okb n b := by
  obtain ⟨_, h1, _, _⟩ := h.ex
  exact h1.G
theorem LA.rx {m : Nat} {own : Nat → Nat} {r : Value} {b' : BS} {e : Ending} (hb : Below W0.heap.size W0 wr) (h0 : ∀ k, k < W0.heap.size → own k = 0) (hr : RX m own bp ap sp lp r b' wr e w') : e = .returned r ∧ LA m W0 bp ap sp lp b' w' := by
  obtain ⟨rfl, own', h1, h2⟩ := hr
  obtain ⟨q1, q2⟩ := h2.below0 hb h0
  exact ⟨rfl, own', h1, q1, q2⟩
theorem LA.opened (hE : E2 W0) : Calls Tryz.prog 11 #[.bool false] W0 fun e w' => ∃ bp ap sp lp rp, e = .returned (.tuple #[.pointer (some ⟨bp, 0, none⟩), .pointer (some ⟨rp, 0, none⟩)]) ∧ LA 4 W0 bp ap sp lp Bd.opened w' :=
  (opened_any hE.k).mono fun _ _ ⟨bp, ap, sp, lp, rp, oB, h1, h2, h3, h4⟩ => ⟨bp, ap, sp, lp, rp, h1, oB, h2, h3, h4⟩
theorem LA.does {stp : BS → TokL → BS × Bool} {Inv : BS → Prop} {c : Nat} (ts : List TokL) (T : TypeId) (cp : Nat) (hE : E2 W0) (hD : Drv stp Inv c ts) (hlen : ts.length ≤ 1000) (hI : Inv b) (hn : n + 2 * c * ts.length ≤ 90000) (h : LA n W0 bp ap sp lp b wr) :
    Calls Tryz.prog 12 #[.pointer (some ⟨bp, 0, none⟩), .slice (some ⟨wr.heap.size, 0, none⟩) ts.length cp] (wr.alloc (.cells (ts.flatMap tkRow).toArray T)) fun e w' => e = .returned (.tuple #[]) ∧ LA (n + 2 * c * ts.length) W0 bp ap sp lp (ts.foldl (doesT stp) b) w' := by
  obtain ⟨own, h1, h2, h3⟩ := h.ex
  have hb : Below wr.heap.size wr (wr.alloc (.cells (ts.flatMap tkRow).toArray T)) := (Below.refl _ _).alloc (Nat.le_refl _) _
  have hb2 := below_call h2 hb
  exact (does_any stp Inv c ts (toks_alloc wr ts T) (h1.L _ (Nat.le_refl _)) hlen (hD.step bp ap sp lp) hD.inv hD.stop hI hn (EnvT.of hE hb2 h3) (h1.below hb)).mono fun _ _ hr => LA.rx hb2 h3 hr
theorem LA.is {v : Value} {ns : List Ba} (h : LA n W0 bp ap sp lp b wr) (hN : NmAt wr v ns) : Calls Tryz.prog 21 #[.pointer (some ⟨bp, 0, none⟩), v] wr fun e w' => e = .returned (.bool (isB b ns)) ∧ Below wr.heap.size wr w' := by
  obtain ⟨own, h1, _, _⟩ := h.ex
  exact xIs h1 hN
theorem LA.arena (h : LA n W0 bp ap sp lp b wr) : Calls Tryz.prog 17 #[.pointer (some ⟨bp, 0, none⟩)] wr fun e w' => e = .returned (.pointer (some ⟨ap, 0, none⟩)) ∧ wr = w' := by
  obtain ⟨own, h1, _, _⟩ := h.ex
  exact xArena h1
theorem LA.tree (h : LA n W0 bp ap sp lp b wr) : Calls Tryz.prog 18 #[.pointer (some ⟨ap, 0, none⟩)] wr (RTree b.ar wr) := by
  obtain ⟨own, h1, _, _⟩ := h.ex
  exact xTree h1
theorem LA.stack (h : LA n W0 bp ap sp lp b wr) : Calls Tryz.prog 19 #[.pointer (some ⟨bp, 0, none⟩)] wr fun e w' => e = .returned (.pointer (some ⟨sp, 0, none⟩)) ∧ wr = w' := by
  obtain ⟨own, h1, _, _⟩ := h.ex
  exact xStack h1
theorem LA.slen (h : LA n W0 bp ap sp lp b wr) : Calls Tryz.prog 20 #[.pointer (some ⟨sp, 0, none⟩)] wr (RI b.st.length wr) := by
  obtain ⟨own, h1, _, _⟩ := h.ex
  exact xSLen h1
theorem LA.mode (h : LA n W0 bp ap sp lp b wr) : Calls Tryz.prog 22 #[.pointer (some ⟨bp, 0, none⟩)] wr fun e w' => e = .returned (.int .i64 b.mode) ∧ wr = w' := by
  obtain ⟨own, h1, _, _⟩ := h.ex
  exact xMode h1
/-- The shape of the body, out of the tree that was read. -/
theorem LA.shape {l : List NB} {v : Value} {B : Nat} (h : LA n W0 bp ap sp lp b wr) (hl : l.map NB.n = b.ar) (hT : TreeAt wr B v l) (hs : (Bd.shape b).size ≤ 1000000000) :
    Calls Tryz.prog 16 #[v, .int .i64 3] wr fun e w' => e = .returned (.string (Bd.shape b)) ∧ Below wr.heap.size wr w' := by
  obtain ⟨own, h1, _, _⟩ := h.ex
  exact shape_of h1 hl hT hs
end
theorem Drv.fold {stp : BS → TokL → BS × Bool} {Inv : BS → Prop} {c : Nat} {ts : List TokL} (hD : Drv stp Inv c ts) : ∀ (l : List TokL) {b : BS}, (∀ t ∈ l, t ∈ ts) → Inv b → Inv (l.foldl (doesT stp) b)
  | [], _, _, h => h
  | t :: r, b, hl, h => by
    refine Drv.fold hD r (fun u hu => hl u (List.mem_cons_of_mem _ hu)) ?_
    have ht := hl t (List.mem_cons_self ..)
    unfold doesT
    split
    · exact hD.inv _ _ ht (hD.inv _ _ ht h)
    · exact hD.inv _ _ ht h
theorem toList_inj {a b : ByteArray} (h : ByteArray.toList a = ByteArray.toList b) : a = b := by
  rw [Lib.toList_data, Lib.toList_data] at h
  exact ByteArray.ext (Array.toList_inj.1 h)
/-- One of the names. -/
theorem pick_nm {l : List Ba} {m : Nat} (hl : l ≠ []) (x : Nat) (hm : m = x % l.length) : ∃ nm, l[m]? = some nm ∧ nm ∈ l := by
  have : m < l.length := by rw [hm]; exact Nat.mod_lt _ (List.length_pos_iff.2 hl)
  exact ⟨l[m], List.getElem?_eq_getElem this, List.getElem_mem this⟩
end Go.Proofs.YtnbdalohlldnbaaGreatDoor

namespace Go.Proofs.YtnbdalohlldnbaaGreatDoor
open Go.RowKit Bd
attribute [local go_sem ↓] Go.wp_at_zero Go.wp_at_succ
/-- The names of headings, as they lie. -/
structure HdAt (own : Nat → Nat) (w : World) : Prop where
  ex : ∃ g o c, w.cell? ⟨0, 0, none⟩ = some (.slice (some ⟨g, o, none⟩) 6 c) ∧ 6 ≤ c ∧ (∀ j, j < 6 → w.cell? ⟨g, o + j, none⟩ = some (.string (headS.getD j ByteArray.empty))) ∧ own 0 = 0 ∧ own g = 0
theorem HdAt.keep {own own' : Nat → Nat} {w w' : World} (h : HdAt own w) (hf : Fr cBu own own' w w') : HdAt own' w' := by
  obtain ⟨g, o, c, h1, h2, h3, h4, h5⟩ := h.ex
  have h0 := h3 0 (by decide)
  exact ⟨g, o, c, Fr_cell hf h1 (by show cBu (own 0) = false; rw [h4]; rfl), h2, fun j hj => Fr_cell hf (h3 j hj) (by show cBu (own g) = false; rw [h5]; rfl), (hf.old _ (World.block_lt_of_cell? _ _ h1)).trans h4, (hf.old _ (World.block_lt_of_cell? _ _ h0)).trans h5⟩
theorem HdAt.below {own : Nat → Nat} {w w' : World} (h : HdAt own w) (hb : Below w.heap.size w w') : HdAt own w' := by
  obtain ⟨g, o, c, h1, h2, h3, h4, h5⟩ := h.ex
  exact ⟨g, o, c, cell_later hb h1, h2, fun j hj => cell_later hb (h3 j hj), h4, h5⟩
theorem hd_nm {w : World} {g o c : Nat} (h2 : 6 ≤ c) (h3 : ∀ j, j < 6 → w.cell? ⟨g, o + j, none⟩ = some (.string (headS.getD j ByteArray.empty))) : NmAt w (.slice (some ⟨g, o, none⟩) 6 c) headS :=
  Or.inr ⟨g, o, 6, c, rfl, rfl, h2, by decide, fun j hj => h3 j hj⟩
section
variable {n : Nat} {own : Nat → Nat} {w : World} {bp ap sp lp : Nat} {b : BS}
theorem BSkip_any {nv sv lv mv : Value} {l : List NB} (h : BuH own w bp ap sp lp nv sv lv mv l b) (hL : Lbl own w) : Calls Tryz.prog 140 #[.pointer (some ⟨bp, 0, none⟩)] w (RBu own bp ap sp lp (.tuple #[]) { b with skip := true } w) := by
  have cN := Lib.hid (BNone_any h)
  have c0 := rowAt h.h 10 (.bool b.skip) rfl
  have z0 := frozen_row h.h 10
  have HS := Lib.hid (h.set (k := 10) (v := .bool true) (b' := { b with skip := true }) hL rfl rfl rfl rfl rfl)
  clear h hL
  go_enter Tryz.func140, Tryz.ntmps140
  go_wp2_with fail
  refine cN.out.mono ?_
  rintro e w1 ⟨rfl, rfl⟩
  go_wp2_with fail
  go_end0
  exact ⟨rfl, own, _, _, _, _, _, HS.out.1, HS.out.2⟩
theorem xSkip (H : BX n own w bp ap sp lp b) : Calls Tryz.prog 140 #[.pointer (some ⟨bp, 0, none⟩)] w (RX n own bp ap sp lp (.tuple #[]) { b with skip := true } w) := by
  obtain ⟨_, _, _, _, _, h⟩ := H.h
  exact (BSkip_any h H.L).mono fun _ _ hr => RX.of_bu H (H.G.skip true) H.N hr
set_option maxHeartbeats 1000000 in
set_option maxRecDepth 100000 in
theorem rheading_any (t : TokL) (ht : TokOk t) (HD : HdAt own w) (hn : n + 1 ≤ 90000) (H : BX n own w bp ap sp lp b) : Calls Tryz.prog 72 #[.pointer (some ⟨bp, 0, none⟩), tokV t] w (RX (n + 1) own bp ap sp lp (.tuple #[]) (headingB b t) w) := by
  obtain ⟨W1, hW1⟩ : ∃ W, W = w.alloc (.cells (tokR t) 24) := ⟨_, rfl⟩
  have hb1 : Below w.heap.size w W1 := by rw [hW1]; exact (Below.refl _ w).alloc (Nat.le_refl _) _
  have hr : W1.heap[w.heap.size]? = some (.cells (tokR t) 24 (0, 0)) := by rw [hW1]; exact heap_new _ _
  have hH := H.below hb1
  have hF := H.fr hb1
  have ho : own w.heap.size = 0 := H.L _ (Nat.le_refl _)
  have HW1 := Lib.hid hW1
  obtain ⟨bx, hbx⟩ : ∃ x, x = w.heap.size := ⟨_, rfl⟩
  rw [← hbx] at hr ho
  have HBX := Lib.hid hbx
  have hb0 := hb1
  clear hb1 hW1 H hbx
  have hD := HD.below hb0
  clear HD hb0
  obtain ⟨R, hR⟩ : ∃ R, R = headingB b t := ⟨_, rfl⟩
  rw [← hR]
  unfold headingB at hR
  have HR0 := Lib.hid hR
  clear hR
  go_enter Tryz.func72, Tryz.ntmps72
  go_upto_region 1 with fail
  rw [← HW1.out, ← HBX.out]
  have Hr := Lib.hid hr
  have cC := Lib.hid (CloseP_any hH)
  have HP := Lib.hid (⟨ho, hF⟩ : _ ∧ _)
  clear hH hr ho hF
  go_wp2_with fail
  refine cC.out.mono ?_
  rintro e w2 ⟨rfl, own2, H2, F⟩
  have hF := HP.out.2.trans F
  have hD := hD.keep F
  have hr := F.keep Hr.out (by rw [HP.out.1]; rfl)
  have ho := (F.old bx (row_lt Hr.out)).trans HP.out.1
  clear cC F HP Hr
  have hR : R = openE (if isB (closeP b) headS then { closeP b with st := popS (closeP b).st } else closeP b) t := HR0.out
  generalize closeP b = b2 at *
  obtain ⟨g, o, c, d1, d2, d3, d4, d5⟩ := hD.ex
  have cI := xIs H2 (hd_nm d2 d3)
  generalize isB b2 headS = q at *
  have CI := Lib.hid cI
  have HR := Lib.hid hR
  have HP := Lib.hid (⟨H2, hF, hr, ho⟩ : _ ∧ _ ∧ _ ∧ _)
  clear H2 hF hr ho hR HR0 hD d2 d3 d4 d5 cI
  go_wp2_with fail
  refine CI.out.mono ?_
  rintro e w3 ⟨rfl, hb3⟩
  have H3 := HP.out.1.below hb3
  have hF := HP.out.2.1.trans (HP.out.1.fr hb3)
  have hr := (hb3.block _ (row_lt HP.out.2.2.1)).trans HP.out.2.2.1
  have ho := HP.out.2.2.2
  clear hb3 CI HP d1
  cases q with
  | true =>
    have HQ : Hid (R = openE { b2 with st := popS b2.st } t) := HR.out
    clear HR
    have HP := Lib.hid (⟨H3, hF, hr, ho⟩ : _ ∧ _ ∧ _ ∧ _)
    clear H3 hF hr ho
    go_wp2_with fail
    refine (xStack HP.out.1).mono ?_
    rintro e w4 ⟨rfl, rfl⟩
    have cP := Lib.hid (xSPop HP.out.1)
    go_wp2_with fail
    refine cP.out.mono ?_
    rintro e w5 ⟨rfl, own5, H5, F5⟩
    have hF := HP.out.2.1.trans F5
    have hr := F5.keep HP.out.2.2.1 (by rw [HP.out.2.2.2]; rfl)
    have ho := (F5.old bx (row_lt HP.out.2.2.1)).trans HP.out.2.2.2
    clear cP F5 HP
    have Hr := Lib.hid hr
    have cC := Lib.hid (ropen_any t ht hn H5)
    have HP := Lib.hid (⟨ho, hF⟩ : _ ∧ _)
    clear H5 hr ho hF
    go_wp2_with (refine wpList_load_row rfl 24 (.tmp 3) rfl bx rfl 24 _ (0, 0) _ Hr.out Tryz.underlying24 rfl tokSize ?_)
    refine cC.out.mono ?_
    rintro e w6 ⟨rfl, own6, H6, F⟩
    have hF := HP.out.2.trans F
    clear cC F HP Hr
    have HX := Lib.hid (⟨H6, hF⟩ : _ ∧ _)
    clear H6 hF
    go_wp2_with fail
    go_end0
    rw [HQ.out]
    exact ⟨rfl, own6, HX.out.1, HX.out.2⟩
  | false =>
    have HQ : Hid (R = openE b2 t) := HR.out
    clear HR
    have Hr := Lib.hid hr
    have cC := Lib.hid (ropen_any t ht hn H3)
    have HP := Lib.hid (⟨ho, hF⟩ : _ ∧ _)
    clear H3 hr ho hF
    go_wp2_with (refine wpList_load_row rfl 24 (.tmp 3) rfl bx rfl 24 _ (0, 0) _ Hr.out Tryz.underlying24 rfl tokSize ?_)
    refine cC.out.mono ?_
    rintro e w6 ⟨rfl, own6, H6, F⟩
    have hF := HP.out.2.trans F
    clear cC F HP Hr
    have HX := Lib.hid (⟨H6, hF⟩ : _ ∧ _)
    clear H6 hF
    go_wp2_with fail
    go_end0
    rw [HQ.out]
    exact ⟨rfl, own6, HX.out.1, HX.out.2⟩
set_option maxHeartbeats 1000000 in
set_option maxRecDepth 100000 in
theorem rlines_any (t : TokL) (ht : TokOk t) (hn : n + 1 ≤ 90000) (H : BX n own w bp ap sp lp b) : Calls Tryz.prog 73 #[.pointer (some ⟨bp, 0, none⟩), tokV t] w (RX (n + 1) own bp ap sp lp (.tuple #[]) (linesB b t) w) := by
  obtain ⟨W1, hW1⟩ : ∃ W, W = w.alloc (.cells (tokR t) 24) := ⟨_, rfl⟩
  have hb1 : Below w.heap.size w W1 := by rw [hW1]; exact (Below.refl _ w).alloc (Nat.le_refl _) _
  have hr : W1.heap[w.heap.size]? = some (.cells (tokR t) 24 (0, 0)) := by rw [hW1]; exact heap_new _ _
  have hH := H.below hb1
  have hF := H.fr hb1
  have ho : own w.heap.size = 0 := H.L _ (Nat.le_refl _)
  have HW1 := Lib.hid hW1
  obtain ⟨bx, hbx⟩ : ∃ x, x = w.heap.size := ⟨_, rfl⟩
  rw [← hbx] at hr ho
  have HBX := Lib.hid hbx
  clear hb1 hW1 H hbx
  go_enter Tryz.func73, Tryz.ntmps73
  go_upto_region 1 with fail
  rw [← HW1.out, ← HBX.out]
  have Hr := Lib.hid hr
  have cC := Lib.hid (rblock_any t ht hn hH)
  have HP := Lib.hid (⟨ho, hF⟩ : _ ∧ _)
  clear hH hr ho hF
  go_wp2_with (refine wpList_load_row rfl 24 (.tmp 3) rfl bx rfl 24 _ (0, 0) _ Hr.out Tryz.underlying24 rfl tokSize ?_)
  refine cC.out.mono ?_
  rintro e w2 ⟨rfl, own2, H2, F⟩
  have hF := HP.out.2.trans F
  have hr := F.keep Hr.out (by rw [HP.out.1]; rfl)
  have ho := (F.old bx (row_lt Hr.out)).trans HP.out.1
  clear cC F HP Hr
  have HP := Lib.hid (⟨H2, hF⟩ : _ ∧ _)
  have cS := Lib.hid (xSkip H2)
  clear H2 hF hr ho
  go_wp2_with fail
  refine cS.out.mono ?_
  rintro e w3 ⟨rfl, own3, H3, F3⟩
  have HX := Lib.hid (⟨H3, HP.out.2.trans F3⟩ : _ ∧ _)
  clear cS H3 F3 HP
  go_wp2_with fail
  go_end0
  exact ⟨rfl, own3, HX.out.1, HX.out.2⟩
set_option maxHeartbeats 1000000 in
set_option maxRecDepth 100000 in
theorem rendHeading_any (t : TokL) (HD : HdAt own w) (H : BX n own w bp ap sp lp b) : Calls Tryz.prog 99 #[.pointer (some ⟨bp, 0, none⟩), tokV t] w (RX n own bp ap sp lp (.tuple #[]) (endHeading b) w) := by
  obtain ⟨W1, hW1⟩ : ∃ W, W = w.alloc (.cells (tokR t) 24) := ⟨_, rfl⟩
  have hb1 : Below w.heap.size w W1 := by rw [hW1]; exact (Below.refl _ w).alloc (Nat.le_refl _) _
  have hr : W1.heap[w.heap.size]? = some (.cells (tokR t) 24 (0, 0)) := by rw [hW1]; exact heap_new _ _
  have hH := H.below hb1
  have hF := H.fr hb1
  have ho : own w.heap.size = 0 := H.L _ (Nat.le_refl _)
  have HW1 := Lib.hid hW1
  obtain ⟨bx, hbx⟩ : ∃ x, x = w.heap.size := ⟨_, rfl⟩
  rw [← hbx] at hr ho
  have HBX := Lib.hid hbx
  have hb0 := hb1
  clear hb1 hW1 H hbx
  have hD := HD.below hb0
  clear HD hb0
  obtain ⟨R, hR⟩ : ∃ R, R = endHeading b := ⟨_, rfl⟩
  rw [← hR]
  unfold endHeading at hR
  obtain ⟨q, hq⟩ : ∃ q, hasS b.st 0 headS = q := ⟨_, rfl⟩
  rw [hq] at hR
  obtain ⟨g, o, c, d1, d2, d3, d4, d5⟩ := hD.ex
  have HHas : Hid (∀ V, Below W1.heap.size W1 V → Calls Tryz.prog 145 #[.pointer (some ⟨sp, 0, none⟩), .int .i64 0, .slice (some ⟨g, o, none⟩) 6 c] V fun e w' => e = .returned (.bool (hasS b.st 0 headS)) ∧ Below V.heap.size V w') := Lib.hid (fun V hV => xHas 0 (hH.below hV) (hd_nm d2 (fun j hj => cell_later hV (d3 j hj))))
  have HDD := Lib.hid hD
  have HR := Lib.hid hR
  have HH := Lib.hid hH
  have HF := Lib.hid hF
  have HQ0 := Lib.hid hq
  have hBv := (Below.refl W1.heap.size W1).drew
  have c0 := cell_later hBv d1
  clear hR hH hF hr ho hq d2 d3 d4 d5 hD d1
  go_enter Tryz.func99, Tryz.ntmps99
  go_upto_region 1 with fail
  rw [← HW1.out, ← HBX.out]
  go_cut [7] (fun s wx => s = .bool q ∧ Below W1.heap.size W1 wx)
  case first =>
    refine wp_region_held_drew (S := fun U => U.cell? ⟨0, 0, none⟩ = some (.slice (some ⟨g, o, none⟩) 6 c)) (by kernel_rfl) (c0) (fun hHeld => ?_)
    generalize W1.drew = V at hHeld hBv ⊢
    refine TkH 0 4 ?_
    (try simp only [Act.put]); (try simp only [List.setIfInBounds_toArray]); (try simp only [List.set_cons_zero, List.set_cons_succ])
    refine TkD 2 (some 6) (v := ?_) rfl rfl ?_ ?_; rotate_left
    · (intro W hSw; (try dsimp only at hSw); have c1 := hSw; go_simp; try with_reducible rfl)
    (try simp only [Act.put]); (try simp only [List.setIfInBounds_toArray]); (try simp only [List.set_cons_zero, List.set_cons_succ])
    refine wpAnyH_ready (rs := [1]) (by kernel_rfl) (by simp) ?_
    refine AllReadyH.cons rfl (fun K hK => ?_) AllReadyH.nil
    go_simp
    go_at_call 19
    refine (xStack (HH.out.below hBv)).mono ?_
    rintro e V9 ⟨rfl, rfl⟩
    refine hK.out _ _ hHeld (fun hSx => ?_)
    clear hSx hK K
    (try simp only [Act.put]); (try simp only [List.setIfInBounds_toArray]); (try simp only [List.set_cons_zero, List.set_cons_succ])
    refine wpAnyH_ready (rs := [3]) (by kernel_rfl) (by simp) ?_
    refine AllReadyH.cons rfl (fun K hK => ?_) AllReadyH.nil
    go_simp
    go_at_call 145
    refine (HHas.out V hBv).mono ?_
    rintro e V9 ⟨rfl, hb9⟩
    have hB9 := hBv.trans (hb9.mono hBv.size)
    have hc9 := cell_later hb9 hHeld
    clear hHeld hBv
    refine hK.out _ _ hc9 (fun hHeld => ?_)
    clear hK K hb9 hc9
    clear V
    obtain ⟨V, rfl⟩ : ∃ U, U = V9 := ⟨_, rfl⟩
    (try simp only [Act.put]); (try simp only [List.setIfInBounds_toArray]); (try simp only [List.set_cons_zero, List.set_cons_succ])
    refine wpAnyH_done (by kernel_rfl) ?_ _
    go_wp2_with fail
    go_meet
    exact ⟨by rw [HQ0.out], hB9⟩

  case rest =>
  obtain ⟨rfl, hbc⟩ := hcut
  have H2 := HH.out.below hbc
  have HF2 := Lib.hid (HF.out.trans (HH.out.fr hbc))
  have hD2 := HDD.out.below hbc
  clear hbc HH HF HQ0 HHas HDD c0 hBv
  clear g o c
  cases q with
  | false =>
    have HQ : Hid (R = b) := HR.out
    have HX := Lib.hid H2
    clear HR H2 hD2
    go_wp2_with fail
    go_end0
    rw [HQ.out]
    exact ⟨rfl, own, HX.out, HF2.out⟩
  | true =>
    have HQ : Hid (R = { b with st := (untilS (impliedSt em b.st) headS).1 }) := HR.out
    have HH2 := Lib.hid H2
    have HDD := Lib.hid hD2
    clear HR H2 hD2
    go_wp2_with fail
    refine (xStack HH2.out).mono ?_
    rintro e w3 ⟨rfl, rfl⟩
    have cI := Lib.hid (xSImplied em HH2.out)
    rw [show em = (⟨#[]⟩ : ByteArray) from rfl] at cI
    go_wp2_with fail
    refine cI.out.mono ?_
    rintro e W5 ⟨rfl, own5, H5, F5⟩
    have HF5 := Lib.hid (HF2.out.trans F5)
    obtain ⟨g, o, c, d1, d2, d3, d4, d5⟩ := (HDD.out.keep F5).ex
    have HUn : Hid (∀ V, Below W5.heap.size W5 V → Calls Tryz.prog 131 #[.pointer (some ⟨sp, 0, none⟩), .slice (some ⟨g, o, none⟩) 6 c] V (RX n own5 bp ap sp lp (.int .i64 (untilS (impliedSt ⟨#[]⟩ b.st) headS).2) { b with st := (untilS (impliedSt ⟨#[]⟩ b.st) headS).1 } V)) := Lib.hid (fun V hV => xSUntil (H5.below hV) (hd_nm d2 (fun j hj => cell_later hV (d3 j hj))))
    have HO5 : Hid (own5 0 = 0) := Lib.hid d4
    have HH5 := Lib.hid H5
    have hBv := (Below.refl W5.heap.size W5).drew
    have c0 := cell_later hBv d1
    clear cI F5 HF2 HH2 HDD H5 d1 d2 d3 d4 d5
    go_upto_region 3 with fail
    refine wp_region_held_drew (S := fun U => U.cell? ⟨0, 0, none⟩ = some (.slice (some ⟨g, o, none⟩) 6 c)) (by kernel_rfl) (c0) (fun hHeld => ?_)
    generalize W5.drew = V at hHeld hBv ⊢
    refine TkH 0 11 ?_
    (try simp only [Act.put]); (try simp only [List.setIfInBounds_toArray]); (try simp only [List.set_cons_zero, List.set_cons_succ])
    refine TkD 2 (some 13) (v := ?_) rfl rfl ?_ ?_; rotate_left
    · (intro W hSw; (try dsimp only at hSw); have c1 := hSw; go_simp; try with_reducible rfl)
    (try simp only [Act.put]); (try simp only [List.setIfInBounds_toArray]); (try simp only [List.set_cons_zero, List.set_cons_succ])
    refine wpAnyH_ready (rs := [1]) (by kernel_rfl) (by simp) ?_
    refine AllReadyH.cons rfl (fun K hK => ?_) AllReadyH.nil
    go_simp
    go_at_call 19
    refine (xStack (HH5.out.below hBv)).mono ?_
    rintro e V9 ⟨rfl, rfl⟩
    refine hK.out _ _ hHeld (fun hSx => ?_)
    clear hSx hK K
    (try simp only [Act.put]); (try simp only [List.setIfInBounds_toArray]); (try simp only [List.set_cons_zero, List.set_cons_succ])
    refine wpAnyH_ready (rs := [3]) (by kernel_rfl) (by simp) ?_
    refine AllReadyH.cons rfl (fun K hK => ?_) AllReadyH.nil
    go_simp
    go_at_call 131
    refine (HUn.out V hBv).mono ?_
    rintro e V9 ⟨rfl, own9, H9, F9⟩
    have hF9 := (HH5.out.fr hBv).trans F9
    have hc9 := Fr_cell F9 hHeld (by show cBu (own5 0) = false; rw [HO5.out]; rfl)
    clear hHeld
    refine hK.out _ _ hc9 (fun hHeld => ?_)
    clear hK K hc9 F9 hBv
    clear V
    obtain ⟨V, rfl⟩ : ∃ U, U = V9 := ⟨_, rfl⟩
    (try simp only [Act.put]); (try simp only [List.setIfInBounds_toArray]); (try simp only [List.set_cons_zero, List.set_cons_succ])
    refine wpAnyH_done (by kernel_rfl) ?_ _
    have HX := Lib.hid (⟨H9, HF5.out.trans hF9⟩ : _ ∧ _)
    clear H9 hF9 hHeld HUn HH5 HF5
    go_wp2_with fail
    go_end0
    rw [HQ.out]
    exact ⟨rfl, own9, HX.out.1, HX.out.2⟩

set_option maxHeartbeats 2000000 in
set_option maxRecDepth 100000 in
theorem rendItem_any (t : TokL) {sc : Int} {x : Nat} (hx : w.cell? ⟨x, 0, none⟩ = some (.int .i64 sc)) (H : BX n own w bp ap sp lp b) : Calls Tryz.prog 156 #[.pointer (some ⟨bp, 0, none⟩), tokV t, .pointer (some ⟨x, 0, none⟩)] w (RX n own bp ap sp lp (.tuple #[]) (endItem sc b t) w) := by
  obtain ⟨W1, hW1⟩ : ∃ W, W = w.alloc (.cells (tokR t) 24) := ⟨_, rfl⟩
  have hb1 : Below w.heap.size w W1 := by rw [hW1]; exact (Below.refl _ w).alloc (Nat.le_refl _) _
  have hr : W1.heap[w.heap.size]? = some (.cells (tokR t) 24 (0, 0)) := by rw [hW1]; exact heap_new _ _
  have hH := H.below hb1
  have hF := H.fr hb1
  have ho : own w.heap.size = 0 := H.L _ (Nat.le_refl _)
  have HW1 := Lib.hid hW1
  obtain ⟨bx, hbx⟩ : ∃ x, x = w.heap.size := ⟨_, rfl⟩
  rw [← hbx] at hr ho
  have HBX := Lib.hid hbx
  have hb0 := hb1
  clear hb1 hW1 H hbx
  obtain ⟨R, hR⟩ : ∃ R, R = endItem sc b t := ⟨_, rfl⟩
  rw [← hR]
  unfold endItem at hR
  obtain ⟨q, hq⟩ : ∃ q, hasS b.st sc [t.name] = q := ⟨_, rfl⟩
  rw [hq] at hR
  have HR := Lib.hid hR
  have HH := Lib.hid hH
  have HF := Lib.hid hF
  have c1 := rowAt hr 1 (.string t.name) rfl
  have cx := cell_later hb0 hx
  have Hr := Lib.hid hr
  have HO := Lib.hid ho
  have HQ0 := Lib.hid hq
  clear hR hH hF hr ho hq hx hb0
  go_enter Tryz.func156, Tryz.ntmps156
  go_upto_region 1 with fail
  rw [← HW1.out, ← HBX.out]
  go_cut [11] (fun s wx => s = .bool q ∧ Below W1.heap.size W1 wx)
  case first =>
    refine wp_region_held_drew (S := fun U => Below W1.heap.size W1 U) (by kernel_rfl) ((Below.refl _ W1).drew) (fun hHeld => ?_)
    generalize W1.drew = V at hHeld  ⊢
    refine TkH 0 5 ?_
    (try simp only [Act.put]); (try simp only [List.setIfInBounds_toArray]); (try simp only [List.set_cons_zero, List.set_cons_succ])
    refine TkD 2 (some 7) (v := ?_) rfl rfl ?_ ?_; rotate_left
    · (intro W hSw; (try dsimp only at hSw); have cx' := (hSw.cell (World.block_lt_of_cell? _ _ cx)).trans cx; go_simp; try with_reducible rfl)
    (try simp only [Act.put]); (try simp only [List.setIfInBounds_toArray]); (try simp only [List.set_cons_zero, List.set_cons_succ])
    refine TkH 3 8 ?_
    (try simp only [Act.put]); (try simp only [List.setIfInBounds_toArray]); (try simp only [List.set_cons_zero, List.set_cons_succ])
    refine TkD 4 (some 9) (v := ?_) rfl rfl ?_ ?_; rotate_left
    · (intro W hSw; (try dsimp only at hSw); have c1' := (hSw.cell (World.block_lt_of_cell? _ _ c1)).trans c1; go_simp; try with_reducible rfl)
    (try simp only [Act.put]); (try simp only [List.setIfInBounds_toArray]); (try simp only [List.set_cons_zero, List.set_cons_succ])
    refine wpAnyH_ready (rs := [1, 5]) (by decide +kernel) (by simp) ?_
    refine AllReadyH.cons rfl (fun K hK => ?_) (AllReadyH.cons rfl (fun K hK => ?_) AllReadyH.nil)
    go_simp
    go_at_call 19
    refine (xStack (HH.out.below hHeld)).mono ?_
    rintro e V9 ⟨rfl, rfl⟩
    refine hK.out _ _ hHeld (fun hSx => ?_)
    clear hSx hK K
    (try simp only [Act.put]); (try simp only [List.setIfInBounds_toArray]); (try simp only [List.set_cons_zero, List.set_cons_succ])
    rotate_left
    go_simp
    obtain ⟨V9, hV9⟩ : ∃ U, U = V.alloc (.cells #[.string t.name] 9) := ⟨_, rfl⟩
    rw [← hV9]
    have hN : NmAt V9 (.slice (some ⟨V.heap.size, 0, none⟩) 1 1) [t.name] := by rw [hV9]; exact NmAt.one V t.name
    have hb9 : Below V.heap.size V V9 := by rw [hV9]; exact (Below.refl _ _).alloc (Nat.le_refl _) _
    have hB9 := hHeld.trans (hb9.mono hHeld.size)
    obtain ⟨gn, hgn⟩ : ∃ z, z = V.heap.size := ⟨_, rfl⟩
    rw [← hgn] at hN ⊢
    clear hHeld hgn hV9
    refine hK.out _ _ hB9 (fun hHeld => ?_)
    clear hK K hB9 hb9
    clear V
    obtain ⟨V, rfl⟩ : ∃ U, U = V9 := ⟨_, rfl⟩
    (try simp only [Act.put]); (try simp only [List.setIfInBounds_toArray]); (try simp only [List.set_cons_zero, List.set_cons_succ])
    rotate_left
    all_goals first
      | (refine wpAnyH_ready (rs := [5]) (by decide +kernel) (by simp) ?_
         refine AllReadyH.cons rfl (fun K hK => ?_) AllReadyH.nil
         go_simp
         obtain ⟨V9, hV9⟩ : ∃ U, U = V.alloc (.cells #[.string t.name] 9) := ⟨_, rfl⟩
         rw [← hV9]
         have hN : NmAt V9 (.slice (some ⟨V.heap.size, 0, none⟩) 1 1) [t.name] := by rw [hV9]; exact NmAt.one V t.name
         have hb9 : Below V.heap.size V V9 := by rw [hV9]; exact (Below.refl _ _).alloc (Nat.le_refl _) _
         have hB9 := hHeld.trans (hb9.mono hHeld.size)
         obtain ⟨gn, hgn⟩ : ∃ z, z = V.heap.size := ⟨_, rfl⟩
         rw [← hgn] at hN ⊢
         clear hHeld hgn hV9
         refine hK.out _ _ hB9 (fun hHeld => ?_)
         clear hK K hB9 hb9
         clear V
         obtain ⟨V, rfl⟩ : ∃ U, U = V9 := ⟨_, rfl⟩
         (try simp only [Act.put]); (try simp only [List.setIfInBounds_toArray]); (try simp only [List.set_cons_zero, List.set_cons_succ]))
      | skip
    all_goals first
      | (refine wpAnyH_ready (rs := [1]) (by decide +kernel) (by simp) ?_
         refine AllReadyH.cons rfl (fun K hK => ?_) AllReadyH.nil
         go_simp
         go_at_call 19
         refine (xStack (HH.out.below hHeld)).mono ?_
         rintro e V9 ⟨rfl, rfl⟩
         refine hK.out _ _ hHeld (fun hSx => ?_)
         clear hSx hK K
         (try simp only [Act.put]); (try simp only [List.setIfInBounds_toArray]); (try simp only [List.set_cons_zero, List.set_cons_succ]))
      | skip
    all_goals (
      refine wpAnyH_ready (rs := [6]) (by decide +kernel) (by simp) ?_
      refine AllReadyH.cons rfl (fun K hK => ?_) AllReadyH.nil
      go_simp
      go_at_call 145
      refine (xHas sc (HH.out.below hHeld) hN).mono ?_
      rintro e V9 ⟨rfl, hb9⟩
      have hB9 := hHeld.trans (hb9.mono hHeld.size)
      clear hHeld
      refine hK.out _ _ hB9 (fun hHeld => ?_)
      clear hK K hb9 hB9 hN
      clear V
      obtain ⟨V, rfl⟩ : ∃ U, U = V9 := ⟨_, rfl⟩
      (try simp only [Act.put]); (try simp only [List.setIfInBounds_toArray]); (try simp only [List.set_cons_zero, List.set_cons_succ]))
    all_goals (
      refine wpAnyH_done (by kernel_rfl) ?_ _
      go_wp2_with fail
      go_meet
      exact ⟨by rw [HQ0.out], hHeld⟩)

  case rest =>
  obtain ⟨rfl, hbc⟩ := hcut
  have H2 := HH.out.below hbc
  have HF2 := Lib.hid (HF.out.trans (HH.out.fr hbc))
  have hr2 := (hbc.block _ (row_lt Hr.out)).trans Hr.out
  clear hbc HH HF HQ0 c1 cx Hr
  cases q with
  | false =>
    have HQ : Hid (R = b) := HR.out
    have HX := Lib.hid H2
    clear HR H2 hr2
    go_wp2_with fail
    go_end0
    rw [HQ.out]
    exact ⟨rfl, own, HX.out, HF2.out⟩
  | true =>
    have HQ : Hid (R = { b with st := (untilS (impliedSt t.name b.st) [t.name]).1 }) := HR.out
    obtain ⟨W2, hW2⟩ : ∃ W, W = wc := ⟨_, rfl⟩
    rw [← hW2] at H2 hr2 HF2 ⊢
    have HH2 := Lib.hid H2
    have hBv := (Below.refl W2.heap.size W2).drew
    have c1 := cell_later hBv (rowAt hr2 1 (.string t.name) rfl)
    clear HR H2 hr2 hW2
    go_upto_region 2 with fail
    refine wp_region_held_drew (S := fun U => U.cell? ⟨bx, 1, none⟩ = some (.string t.name)) (by kernel_rfl) (c1) (fun hHeld => ?_)
    generalize W2.drew = V at hHeld hBv ⊢
    refine TkH 0 12 ?_; refine TkH 2 14 ?_
    (try simp only [Act.put]); (try simp only [List.setIfInBounds_toArray]); (try simp only [List.set_cons_zero, List.set_cons_succ])
    refine TkD 3 (some 15) (v := ?_) rfl rfl ?_ ?_; rotate_left
    · (intro W hSw; (try dsimp only at hSw); have c1' := hSw; go_simp; try with_reducible rfl)
    (try simp only [Act.put]); (try simp only [List.setIfInBounds_toArray]); (try simp only [List.set_cons_zero, List.set_cons_succ])
    refine wpAnyH_ready (rs := [1]) (by kernel_rfl) (by simp) ?_
    refine AllReadyH.cons rfl (fun K hK => ?_) AllReadyH.nil
    go_simp
    go_at_call 19
    refine (xStack (HH2.out.below hBv)).mono ?_
    rintro e V9 ⟨rfl, rfl⟩
    refine hK.out _ _ hHeld (fun hSx => ?_)
    clear hSx hK K
    (try simp only [Act.put]); (try simp only [List.setIfInBounds_toArray]); (try simp only [List.set_cons_zero, List.set_cons_succ])
    refine wpAnyH_ready (rs := [4]) (by kernel_rfl) (by simp) ?_
    refine AllReadyH.cons rfl (fun K hK => ?_) AllReadyH.nil
    go_simp
    go_at_call 104
    refine (xSImplied t.name (HH2.out.below hBv)).mono ?_
    rintro e V9 ⟨rfl, own9, H9, F9⟩
    have hF9 := (HH2.out.fr hBv).trans F9
    have hc9 : V9.cell? ⟨bx, 1, none⟩ = some (.string t.name) := Fr_cell F9 hHeld (by show cBu (own bx) = false; rw [HO.out]; rfl)
    have ho9 : own9 bx = 0 := (F9.old bx (World.block_lt_of_cell? _ _ hHeld)).trans HO.out
    clear hHeld F9 hBv
    refine hK.out _ _ hc9 (fun hHeld => ?_)
    clear hK K hc9
    clear V
    obtain ⟨V, rfl⟩ : ∃ U, U = V9 := ⟨_, rfl⟩
    (try simp only [Act.put]); (try simp only [List.setIfInBounds_toArray]); (try simp only [List.set_cons_zero, List.set_cons_succ])
    refine wpAnyH_done (by kernel_rfl) ?_ _
    obtain ⟨W5, rfl⟩ : ∃ U, U = V := ⟨_, rfl⟩
    obtain ⟨own5, rfl⟩ : ∃ u, u = own9 := ⟨_, rfl⟩
    have HF5 := Lib.hid (HF2.out.trans hF9)
    have HO5 := Lib.hid ho9
    have HH5 := Lib.hid H9
    clear HH2 HF2 hF9 ho9 H9 c1
    go_upto_region 3 with fail
    have hBv := (Below.refl W5.heap.size W5).drew
    have c1 := cell_later hBv hHeld
    clear hHeld
    refine wp_region_held_drew (S := fun U => U.cell? ⟨bx, 1, none⟩ = some (.string t.name)) (by kernel_rfl) (c1) (fun hHeld => ?_)
    generalize W5.drew = V at hHeld hBv ⊢
    refine TkH 0 17 ?_; refine TkH 2 19 ?_
    (try simp only [Act.put]); (try simp only [List.setIfInBounds_toArray]); (try simp only [List.set_cons_zero, List.set_cons_succ])
    refine TkD 3 (some 20) (v := ?_) rfl rfl ?_ ?_; rotate_left
    · (intro W hSw; (try dsimp only at hSw); have c1' := hSw; go_simp; try with_reducible rfl)
    (try simp only [Act.put]); (try simp only [List.setIfInBounds_toArray]); (try simp only [List.set_cons_zero, List.set_cons_succ])
    refine wpAnyH_ready (rs := [1, 4]) (by decide +kernel) (by simp) ?_
    refine AllReadyH.cons rfl (fun K hK => ?_) (AllReadyH.cons rfl (fun K hK => ?_) AllReadyH.nil)
    go_simp
    go_at_call 19
    refine (xStack (HH5.out.below hBv)).mono ?_
    rintro e V9 ⟨rfl, rfl⟩
    refine hK.out _ _ hHeld (fun hSx => ?_)
    clear hSx hK K
    (try simp only [Act.put]); (try simp only [List.setIfInBounds_toArray]); (try simp only [List.set_cons_zero, List.set_cons_succ])
    rotate_left
    go_simp
    obtain ⟨V9, hV9⟩ : ∃ U, U = V.alloc (.cells #[.string t.name] 9) := ⟨_, rfl⟩
    rw [← hV9]
    have hN : NmAt V9 (.slice (some ⟨V.heap.size, 0, none⟩) 1 1) [t.name] := by rw [hV9]; exact NmAt.one V t.name
    have hb9 : Below V.heap.size V V9 := by rw [hV9]; exact (Below.refl _ _).alloc (Nat.le_refl _) _
    have hc9 := (hb9.cell (World.block_lt_of_cell? _ _ hHeld)).trans hHeld
    replace hBv := hBv.trans (hb9.mono hBv.size)
    obtain ⟨gn, hgn⟩ : ∃ z, z = V.heap.size := ⟨_, rfl⟩
    rw [← hgn] at hN ⊢
    clear hHeld hgn hV9
    refine hK.out _ _ hc9 (fun hHeld => ?_)
    clear hK K hc9 hb9
    clear V
    obtain ⟨V, rfl⟩ : ∃ U, U = V9 := ⟨_, rfl⟩
    (try simp only [Act.put]); (try simp only [List.setIfInBounds_toArray]); (try simp only [List.set_cons_zero, List.set_cons_succ])
    rotate_left
    all_goals first
      | (refine wpAnyH_ready (rs := [4]) (by decide +kernel) (by simp) ?_
         refine AllReadyH.cons rfl (fun K hK => ?_) AllReadyH.nil
         go_simp
         obtain ⟨V9, hV9⟩ : ∃ U, U = V.alloc (.cells #[.string t.name] 9) := ⟨_, rfl⟩
         rw [← hV9]
         have hN : NmAt V9 (.slice (some ⟨V.heap.size, 0, none⟩) 1 1) [t.name] := by rw [hV9]; exact NmAt.one V t.name
         have hb9 : Below V.heap.size V V9 := by rw [hV9]; exact (Below.refl _ _).alloc (Nat.le_refl _) _
         have hc9 := (hb9.cell (World.block_lt_of_cell? _ _ hHeld)).trans hHeld
         replace hBv := hBv.trans (hb9.mono hBv.size)
         obtain ⟨gn, hgn⟩ : ∃ z, z = V.heap.size := ⟨_, rfl⟩
         rw [← hgn] at hN ⊢
         clear hHeld hgn hV9
         refine hK.out _ _ hc9 (fun hHeld => ?_)
         clear hK K hc9 hb9
         clear V
         obtain ⟨V, rfl⟩ : ∃ U, U = V9 := ⟨_, rfl⟩
         (try simp only [Act.put]); (try simp only [List.setIfInBounds_toArray]); (try simp only [List.set_cons_zero, List.set_cons_succ]))
      | skip
    all_goals first
      | (refine wpAnyH_ready (rs := [1]) (by decide +kernel) (by simp) ?_
         refine AllReadyH.cons rfl (fun K hK => ?_) AllReadyH.nil
         go_simp
         go_at_call 19
         refine (xStack (HH5.out.below hBv)).mono ?_
         rintro e V9 ⟨rfl, rfl⟩
         refine hK.out _ _ hHeld (fun hSx => ?_)
         clear hSx hK K
         (try simp only [Act.put]); (try simp only [List.setIfInBounds_toArray]); (try simp only [List.set_cons_zero, List.set_cons_succ]))
      | skip
    all_goals (
      refine wpAnyH_ready (rs := [5]) (by decide +kernel) (by simp) ?_
      refine AllReadyH.cons rfl (fun K hK => ?_) AllReadyH.nil
      go_simp
      go_at_call 131
      refine (xSUntil (HH5.out.below hBv) hN).mono ?_
      rintro e V9 ⟨rfl, own9, H9, F9⟩
      have hc9 : V9.cell? ⟨bx, 1, none⟩ = some (.string t.name) := Fr_cell F9 hHeld (by show cBu (own5 bx) = false; rw [HO5.out]; rfl)
      have hF9 := (HH5.out.fr hBv).trans F9
      clear hHeld F9 hN hBv
      refine hK.out _ _ hc9 (fun hHeld => ?_)
      clear hK K hc9
      clear V
      obtain ⟨V, rfl⟩ : ∃ U, U = V9 := ⟨_, rfl⟩
      (try dsimp only))
    all_goals (
      refine wpAnyH_done (by kernel_rfl) ?_ _
      go_wp2_with fail
      go_end0
      rw [HQ.out]
      exact ⟨rfl, own9, H9, HF5.out.trans hF9⟩)

end
end Go.Proofs.YtnbdalohlldnbaaGreatDoor

namespace Go.Proofs.YtnbdalohlldnbaaGreatDoor
open Go.RowKit Bd
attribute [local go_sem ↓] Go.wp_at_zero Go.wp_at_succ
section
variable {n : Nat} {own : Nat → Nat} {w : World} {bp ap sp lp : Nat} {b : BS}
set_option maxHeartbeats 2000000 in
set_option maxRecDepth 100000 in
theorem does_anyE {Ev : (Nat → Nat) → World → Prop} (hkeep : ∀ (o o' : Nat → Nat) (w w' : World), Ev o w → Fr cBu o o' w w' → Ev o' w') (stp : BS → TokL → BS × Bool) (Inv : BS → Prop) (c : Nat) (ts : List TokL) {g cp : Nat} (hts : ToksAt w g ts) (hg : own g = 0) (hlen : ts.length ≤ 1000)
    (hstep : ∀ n own W b t, t ∈ ts → Inv b → n + c ≤ 90000 → BX n own W bp ap sp lp b → Ev own W → Calls Tryz.prog 8 #[.pointer (some ⟨bp, 0, none⟩), tokV t] W (RX (n + c) own bp ap sp lp (.bool (stp b t).2) (stp b t).1 W))
    (hinv : ∀ b t, t ∈ ts → Inv b → Inv (stp b t).1) (hstop : ∀ b t, t ∈ ts → Inv b → (stp b t).2 = true → (stp (stp b t).1 t).2 = false)
    (hI : Inv b) (hn : n + 2 * c * ts.length ≤ 90000) (hT : Ev own w) (H : BX n own w bp ap sp lp b) :
    Calls Tryz.prog 12 #[.pointer (some ⟨bp, 0, none⟩), .slice (some ⟨g, 0, none⟩) ts.length cp] w (RX (n + 2 * c * ts.length) own bp ap sp lp (.tuple #[]) (ts.foldl (doesT stp) b) w) := by
  have HKp := Lib.hid hkeep
  clear hkeep
  have HS := Lib.hid hstep
  have HI := Lib.hid (⟨hinv, hstop⟩ : _ ∧ _)
  have HB := Lib.hid (⟨hts, hg, hI, hT, H⟩ : _ ∧ _ ∧ _ ∧ _ ∧ _)
  have hInvF : Hid (∀ i, Inv ((ts.take i).foldl (doesT stp) b)) := Lib.hid (by
    have : ∀ (l : List TokL) b, (∀ t ∈ l, t ∈ ts) → Inv b → Inv (l.foldl (doesT stp) b) := by
      intro l
      induction l with
      | nil => intro b _ h; exact h
      | cons t r ih =>
        intro b hl h
        refine ih _ (fun u hu => hl u (List.mem_cons_of_mem _ hu)) ?_
        have ht := hl t (List.mem_cons_self ..)
        unfold doesT
        split
        · exact hinv _ _ ht (hinv _ _ ht h)
        · exact hinv _ _ ht h
    exact fun i => this _ _ (fun t ht => List.mem_of_mem_take ht) hI)
  have H0 : Hid (DoesAt n own w bp ap sp lp b w) := Lib.hid ⟨own, H, Fr.refl _ H.L⟩
  have hn' := Lib.hid hn
  clear hts hg hI hT H hstep hinv hstop hn
  obtain ⟨L, hL⟩ : ∃ L, L = ts.length := ⟨_, rfl⟩
  rw [← hL] at hlen ⊢
  have HL := Lib.hid hL
  clear hL
  go_enter Tryz.func12, Tryz.ntmps12
  go_wp2_with fail
  go_loopw [4] (fun v wr => ∃ i : Nat, v = .int .i64 i ∧ i ≤ L ∧ Hid (DoesAt (n + 2 * c * i) own w bp ap sp lp ((ts.take i).foldl (doesT stp) b) wr)) (fun v _ => L - (intOf v).toNat)
  case atStart => exact ⟨0, rfl, Nat.zero_le _, H0⟩
  case round =>
    obtain ⟨i, rfl, hi, HD⟩ := hrel
    clear H0
    by_cases hlt : i < L
    · have hltI : (i : Int) < (L : Int) := by omega
      have hi0 : (0 : Int) ≤ (i : Int) := by omega
      obtain ⟨t, ht⟩ : ∃ t, ts[i]? = some t := ⟨_, List.getElem?_eq_getElem (by rw [← HL.out]; exact hlt)⟩
      have htm : t ∈ ts := List.mem_of_getElem? ht
      have hst : (ts.take (i + 1)).foldl (doesT stp) b = doesT stp ((ts.take i).foldl (doesT stp) b) t := by
        rw [List.take_add_one, ht, List.foldl_append]; rfl
      have hIv := hInvF.out i
      generalize hbi : (ts.take i).foldl (doesT stp) b = bi at hst hIv HD
      have hci : 2 * c * (i + 1) ≤ 2 * c * L := Nat.mul_le_mul_left _ (by omega)
      have hN2 : n + 2 * c * i + c + c ≤ 90000 := by have := hn'.out; rw [← HL.out] at this; rw [Nat.mul_succ] at hci; omega
      obtain ⟨b1, hb1⟩ : ∃ b1, b1 = (stp bi t).1 := ⟨_, rfl⟩
      obtain ⟨q1, hq1⟩ : ∃ q1, q1 = (stp bi t).2 := ⟨_, rfl⟩
      obtain ⟨b2, hb2⟩ : ∃ b2, b2 = (stp b1 t).1 := ⟨_, rfl⟩
      have HT := Lib.hid (⟨ht, htm, hst, hIv, hci, hN2⟩ : _ ∧ _ ∧ _ ∧ _ ∧ _ ∧ _)
      have HQ := Lib.hid (⟨hb1, hq1, hb2⟩ : _ ∧ _ ∧ _)
      have HD0 : Hid (DoK (n + 2 * c * i) c own w bp ap sp lp bi b1 q1 0 wr) := Lib.hid ⟨Or.inl ⟨rfl, HD.out⟩⟩
      clear ht htm hst hIv hci hN2 hb1 hq1 hb2 HD hbi
      go_wp2_with fail
      go_loopw [5] (fun v wr => ∃ k : Nat, v = .int .i64 k ∧ k ≤ 1 ∧ Hid (DoK (n + 2 * c * i) c own w bp ap sp lp bi b1 q1 k wr)) (fun v _ => 10 - (intOf v).toNat)
      case atStart => exact ⟨0, rfl, Nat.zero_le _, HD0⟩
      case round =>
        obtain ⟨k, rfl, hk, HK⟩ := hrel
        clear HD0
        have hkI : (k : Int) < 10 := by omega
        have hk0 : (0 : Int) ≤ (k : Int) := by omega
        rcases HK.out.ex with ⟨rfl, own1, H1, F1⟩ | ⟨rfl, hq, own1, H1, F1⟩
        · have hta := HB.out.1.keep F1 HB.out.2.1
          have hE := HKp.out _ _ _ _ HB.out.2.2.2.1 F1
          have hC := HS.out _ own1 wr bi t HT.out.2.1 HT.out.2.2.2.1 (by have := HT.out.2.2.2.2.2; omega) H1 hE
          rw [← HQ.out.1, ← HQ.out.2.1] at hC
          have HC := Lib.hid hC
          obtain ⟨k0, k1, k2, k3, k4, k5, k6, k7, k8⟩ := tok9 hta HT.out.1
          have HF := Lib.hid F1
          clear hta hE hC F1 H1 HK
          go_wp2_with fail
          refine HC.out.mono ?_
          rintro e w2 ⟨rfl, own2, H2, F2⟩
          have HX : Hid (DoesAt (n + 2 * c * i + c) own w bp ap sp lp b1 w2) := Lib.hid ⟨own2, H2, HF.out.trans F2⟩
          clear HC H2 F2 HF k0 k1 k2 k3 k4 k5 k6 k7 k8
          cases q1 with
          | true =>
            go_wp2_with fail
            go_roundw
            case rel => exact ⟨1, by go_num, Nat.le_refl _, Lib.hid ⟨Or.inr ⟨rfl, rfl, HX.out⟩⟩⟩
            case measure => simp [intOf]
          | false =>
            go_wp2_with fail
            go_roundw
            case rel =>
              refine ⟨i + 1, by go_num, by omega, Lib.hid ?_⟩
              rw [HT.out.2.2.1, show doesT stp bi t = b1 by unfold doesT; rw [← HQ.out.2.1, HQ.out.1]; rfl]
              have h1 := HT.out.2.2.2.2.1
              have h2 := HT.out.2.2.2.2.2
              exact HX.out.mono (by rw [Nat.mul_succ]; omega) (by rw [Nat.mul_succ]; omega)
            case measure => simp [intOf]; omega
        · have hta := HB.out.1.keep F1 HB.out.2.1
          have hE := HKp.out _ _ _ _ HB.out.2.2.2.1 F1
          have hsp := HI.out.2 bi t HT.out.2.1 HT.out.2.2.2.1 (by rw [← HQ.out.2.1]; exact hq)
          rw [← HQ.out.1] at hsp
          have hC := HS.out _ own1 wr b1 t HT.out.2.1 (by rw [HQ.out.1]; exact HI.out.1 _ _ HT.out.2.1 HT.out.2.2.2.1) (by have := HT.out.2.2.2.2.2; omega) H1 hE
          rw [← HQ.out.2.2, hsp] at hC
          have HC := Lib.hid hC
          obtain ⟨k0, k1, k2, k3, k4, k5, k6, k7, k8⟩ := tok9 hta HT.out.1
          have HF := Lib.hid F1
          have Hq := Lib.hid hq
          clear hta hE hC F1 H1 HK hsp hq
          go_wp2_with fail
          refine HC.out.mono ?_
          rintro e w2 ⟨rfl, own2, H2, F2⟩
          have HX : Hid (DoesAt (n + 2 * c * i + c + c) own w bp ap sp lp b2 w2) := Lib.hid ⟨own2, H2, HF.out.trans F2⟩
          clear HC H2 F2 HF k0 k1 k2 k3 k4 k5 k6 k7 k8
          go_wp2_with fail
          go_roundw
          case rel =>
            refine ⟨i + 1, by go_num, by omega, Lib.hid ?_⟩
            rw [HT.out.2.2.1, show doesT stp bi t = b2 by unfold doesT; rw [← HQ.out.2.1, Hq.out, ← HQ.out.1, HQ.out.2.2]; rfl]
            have h1 := HT.out.2.2.2.2.1
            have h2 := HT.out.2.2.2.2.2
            exact HX.out.mono (by rw [Nat.mul_succ]; omega) (by rw [Nat.mul_succ]; omega)
          case measure => simp [intOf]; omega
    · have hltI : ¬ (i : Int) < (L : Int) := by omega
      have hiL : i = L := by omega
      have HX := HD.out
      rw [hiL, List.take_of_length_le (by rw [← HL.out]; exact Nat.le_refl _)] at HX
      have HX2 := Lib.hid HX
      clear HX HD HS HI HB
      go_wp2_with fail
      go_end0
      obtain ⟨own2, H2, F2⟩ := HX2.out.ex
      exact ⟨rfl, own2, H2, F2⟩
end
/-- What does is told of Step, of these tokens. -/
structure DrvE (Ev : (Nat → Nat) → World → Prop) (stp : BS → TokL → BS × Bool) (Inv : BS → Prop) (c : Nat) (ts : List TokL) : Prop where
  step : ∀ bp ap sp lp n own W b t, t ∈ ts → Inv b → n + c ≤ 90000 → BX n own W bp ap sp lp b → Ev own W → Calls Tryz.prog 8 #[.pointer (some ⟨bp, 0, none⟩), tokV t] W (RX (n + c) own bp ap sp lp (.bool (stp b t).2) (stp b t).1 W)
  inv : ∀ b t, t ∈ ts → Inv b → Inv (stp b t).1
  stop : ∀ b t, t ∈ ts → Inv b → (stp b t).2 = true → (stp (stp b t).1 t).2 = false
theorem DrvE.fold {Ev : (Nat → Nat) → World → Prop} {stp : BS → TokL → BS × Bool} {Inv : BS → Prop} {c : Nat} {ts : List TokL} (hD : DrvE Ev stp Inv c ts) : ∀ (l : List TokL) {b : BS}, (∀ t ∈ l, t ∈ ts) → Inv b → Inv (l.foldl (doesT stp) b)
  | [], _, _, h => h
  | t :: r, b, hl, h => by
    refine DrvE.fold hD r (fun u hu => hl u (List.mem_cons_of_mem _ hu)) ?_
    have ht := hl t (List.mem_cons_self ..)
    unfold doesT
    split
    · exact hD.inv _ _ ht (hD.inv _ _ ht h)
    · exact hD.inv _ _ ht h
/-- What the law needs to lie still. -/
def EvP (own : Nat → Nat) (w : World) : Prop := EnvT own w ∧ HdAt own w
/-- What the law needs of the world. -/
structure E3 (w : World) : Prop where
  e : E2 w
  h : HdAt (fun _ => 0) w
theorem HdAt.of {W0 wr : World} {own : Nat → Nat} (h : HdAt (fun _ => 0) W0) (hb : Below W0.heap.size W0 wr) (h0 : ∀ k, k < W0.heap.size → own k = 0) : HdAt own wr := by
  obtain ⟨g, o, c, h1, h2, h3, _, _⟩ := h.ex
  exact ⟨g, o, c, cell_later hb h1, h2, fun j hj => cell_later hb (h3 j hj), h0 _ (World.block_lt_of_cell? _ _ h1), h0 _ (World.block_lt_of_cell? _ _ (h3 0 (by decide)))⟩
theorem E3.below {w0 w : World} (h : E3 w0) (hb : Below w0.heap.size w0 w) : E3 w := ⟨h.e.below hb, h.h.of hb (fun _ _ => rfl)⟩
theorem EvP.of {W0 wr : World} {own : Nat → Nat} (hE : E3 W0) (hb : Below W0.heap.size W0 wr) (h0 : ∀ k, k < W0.heap.size → own k = 0) : EvP own wr := ⟨EnvT.of hE.e hb h0, hE.h.of hb h0⟩
theorem LA.doesP {n : Nat} {W0 wr : World} {bp ap sp lp : Nat} {b : BS} {stp : BS → TokL → BS × Bool} {Inv : BS → Prop} {c : Nat} (ts : List TokL) (T : TypeId) (cp : Nat) (hE : E3 W0) (hD : DrvE EvP stp Inv c ts) (hlen : ts.length ≤ 1000) (hI : Inv b) (hn : n + 2 * c * ts.length ≤ 90000) (h : LA n W0 bp ap sp lp b wr) :
    Calls Tryz.prog 12 #[.pointer (some ⟨bp, 0, none⟩), .slice (some ⟨wr.heap.size, 0, none⟩) ts.length cp] (wr.alloc (.cells (ts.flatMap tkRow).toArray T)) fun e w' => e = .returned (.tuple #[]) ∧ LA (n + 2 * c * ts.length) W0 bp ap sp lp (ts.foldl (doesT stp) b) w' := by
  obtain ⟨own, h1, h2, h3⟩ := h.ex
  have hb : Below wr.heap.size wr (wr.alloc (.cells (ts.flatMap tkRow).toArray T)) := (Below.refl _ _).alloc (Nat.le_refl _) _
  have hb2 := below_call h2 hb
  exact (does_anyE (Ev := EvP) (fun _ _ _ _ hv hf => ⟨hv.1.keep hf, hv.2.keep hf⟩) stp Inv c ts (toks_alloc wr ts T) (h1.L _ (Nat.le_refl _)) hlen (hD.step bp ap sp lp) hD.inv hD.stop hI hn (EvP.of hE hb2 h3) (h1.below hb)).mono fun _ _ hr => LA.rx hb2 h3 hr
section
variable {n : Nat} {own : Nat → Nat} {w : World} {bp ap sp lp : Nat} {b : BS}
set_option maxHeartbeats 1000000 in
set_option maxRecDepth 100000 in
theorem Body_startE {m : Nat} {f : BS} (k : Nat) (t : TokL) (ht : TokOk t) (hkd : t.kind = 2) (hT : Lib.TabIs Tryz.prog w "strings.asciiSpace" .u8 Lib.asciiSpaceTab) (H : BX n own w bp ap sp lp b)
    (hlook : ∀ x y v, StartV t.name.data.toList v x y → v = .func (.func k) #[] #[] ∨ v = .nilFunc ∧ k = 30)
    (hcf : ∀ a W, Sem.run Tryz.prog (callFunc k a) W = .ok (.enter k a) W)
    (hrule : ∀ W, BX n own W bp ap sp lp b → Below w.heap.size w W → Calls Tryz.prog k #[.pointer (some ⟨bp, 0, none⟩), tokV t] W (RX m own bp ap sp lp (.tuple #[]) f W)) :
    Calls Tryz.prog 9 #[.pointer (some ⟨bp, 0, none⟩), tokV t] w (RX m own bp ap sp lp (.bool false) f w) := by
  obtain ⟨W1, hW1⟩ : ∃ W, W = w.alloc (.cells (tokR t) 24) := ⟨_, rfl⟩
  have hb1 : Below w.heap.size w W1 := by rw [hW1]; exact (Below.refl _ w).alloc (Nat.le_refl _) _
  have hr : W1.heap[w.heap.size]? = some (.cells (tokR t) 24 (0, 0)) := by rw [hW1]; exact heap_new _ _
  have hH := H.below hb1
  have hF := H.fr hb1
  have ho : own w.heap.size = 0 := H.L _ (Nat.le_refl _)
  have HW1 := Lib.hid hW1
  obtain ⟨bx, hbx⟩ : ∃ x, x = w.heap.size := ⟨_, rfl⟩
  rw [← hbx] at hr ho
  have HBX := Lib.hid hbx
  have HH1 := Lib.hid hb1
  clear hb1 hW1 H hbx
  have cN := Lib.hid (xArena hH)
  have HT : Hid (∀ U, Below W1.heap.size W1 U → Lib.TabIs Tryz.prog U "strings.asciiSpace" .u8 Lib.asciiSpaceTab) := Lib.hid (fun U hU => tab_below hT (below_call HH1.out hU))
  have HO := Lib.hid (⟨ho, hF⟩ : _ ∧ _)
  have HH := Lib.hid hH
  have Hr := Lib.hid hr
  have HR := Lib.hid hrule
  have HLk := Lib.hid hlook
  have c0 := rowAt hr 0 (.int .i64 2) (by unfold tokR; rw [hkd]; rfl)
  have c1 := rowAt hr 1 (.string t.name) rfl
  clear hH hF hr ho hT hrule hlook hkd
  go_enter Tryz.func9, Tryz.ntmps9
  go_upto_region 1 with fail
  rw [← HW1.out, ← HBX.out]
  go_wp2_with fail
  refine cN.out.mono ?_
  rintro e w2 ⟨rfl, rfl⟩
  go_upto_region 13 with fail
  go_cut [5] (fun v wx => ∃ x y nx ny, StartV t.name.data.toList v x y ∧ ((wx.cell? ⟨x, 0, none⟩ = some nx ∧ NmAt wx nx [⟨#[108, 105]⟩]) ∧ wx.cell? ⟨y, 0, none⟩ = some ny ∧ NmAt wx ny [⟨#[100, 100]⟩, ⟨#[100, 116]⟩]) ∧ Below W1.heap.size W1 wx)
  case first =>
    refine wp_region_held_drew (S := fun U => Below W1.heap.size W1 U) (by kernel_rfl) ((Below.refl _ W1).drew) (fun hHeld => ?_)
    generalize W1.drew = V at hHeld  ⊢
    refine TkH 1 39 ?_
    (try simp only [Act.put]); (try simp only [List.setIfInBounds_toArray]); (try simp only [List.set_cons_zero, List.set_cons_succ])
    refine TkD 2 (some 40) (v := ?_) rfl rfl ?_ ?_; rotate_left
    · (intro W hSw; (try dsimp only at hSw); have c1' := (hSw.cell (World.block_lt_of_cell? _ _ c1)).trans c1; go_simp; try with_reducible rfl)
    (try simp only [Act.put]); (try simp only [List.setIfInBounds_toArray]); (try simp only [List.set_cons_zero, List.set_cons_succ])
    refine wpAnyH_ready (rs := [0]) (by kernel_rfl) (by simp) ?_
    refine AllReadyH.cons rfl (fun K hK => ?_) AllReadyH.nil
    go_simp
    go_at_call 29
    refine (starts_any (HT.out _ hHeld)).mono ?_
    rintro e V9 ⟨b9, n9, D9, S9, x9, y9, nx9, ny9, rfl, ho9, hrd9, htb9, hb9, hk9⟩
    have HM := Lib.hid (⟨ho9, hrd9, htb9, hk9⟩ : _ ∧ _ ∧ _ ∧ _)
    have hB9 := hHeld.trans (hb9.mono hHeld.size)
    clear hHeld ho9 hrd9 htb9 hk9
    refine hK.out _ _ hB9 (fun hHeld => ?_)
    clear hK K hb9 hB9
    clear V
    obtain ⟨V, rfl⟩ : ∃ U, U = V9 := ⟨_, rfl⟩
    (try simp only [Act.put]); (try simp only [List.setIfInBounds_toArray]); (try simp only [List.set_cons_zero, List.set_cons_succ])
    refine wpAnyH_ready (rs := [3]) (by kernel_rfl) (by simp) ?_
    refine AllReadyH.cons rfl (fun K hK => ?_) AllReadyH.nil
    obtain ⟨v9, ps9, hrun, hv9⟩ := HM.out.1.lookup lawS Tryz.underlying65 (z := .nilFunc) (zd := .lit (.int .i64 (-1))) (zp := []) (by rfl) rfl (keyS_mk t.name (Nat.le_trans ht.1 (by decide)))
    rw [HM.out.2.1.get] at hv9
    go_simp
    refine hK.out _ _ hHeld (fun hSx => ?_)
    clear hSx hK K
    (try simp only [Act.put]); (try simp only [List.setIfInBounds_toArray]); (try simp only [List.set_cons_zero, List.set_cons_succ])
    focus (refine TkH 4 5 ?_)
    (try simp only [Act.put]); (try simp only [List.setIfInBounds_toArray]); (try simp only [List.set_cons_zero, List.set_cons_succ])
    refine wpAnyH_done (by kernel_rfl) ?_ _
    go_wp2_with fail
    go_meet
    exact ⟨_, _, nx9, ny9, ⟨S9, HM.out.2.2.1, ps9, hv9⟩, HM.out.2.2.2, hHeld⟩

  case rest =>
  obtain ⟨x, y, nx, ny, hv, hk, hbc⟩ := hcut
  have hH2 := HH.out.below hbc
  have HF2 := Lib.hid (HO.out.2.trans (HH.out.fr hbc))
  have Hr2 := Lib.hid ((hbc.block _ (row_lt Hr.out)).trans Hr.out)
  have HO2 := Lib.hid HO.out.1
  have cR := Lib.hid (HR.out wc hH2 (below_call HH1.out hbc))
  have hL := HLk.out x y _ hv
  clear hk hv HR HLk HT HH1 hH2 hbc HO
  have hq1 := fn_nil
  have hq2 := nil_nil
  rcases hL with rfl | ⟨rfl, rfl⟩
  all_goals (
    go_wp2_with (refine wpList_load_row rfl 24 (.tmp 3) rfl bx rfl 24 _ (0, 0) _ Hr2.out Tryz.underlying24 rfl tokSize ?_)
    refine cR.out.mono ?_
    rintro e w3 ⟨rfl, own3, H3, F3⟩
    have HX := Lib.hid (⟨H3, HF2.out.trans F3⟩ : _ ∧ _)
    clear cR F3 H3 HF2 Hr2
    go_wp2_with fail
    go_ret
    exact ⟨rfl, own3, HX.out.1, HX.out.2⟩)
set_option maxHeartbeats 1000000 in
set_option maxRecDepth 100000 in
theorem Body_endE {m : Nat} {f : BS} (k : Nat) (t : TokL) (ht : TokOk t) (hkd : t.kind = 3) (hT : Lib.TabIs Tryz.prog w "strings.asciiSpace" .u8 Lib.asciiSpaceTab) (H : BX n own w bp ap sp lp b)
    (hlook : ∀ x y v, EndV t.name.data.toList v x y → v = .func (.func k) #[] #[] ∨ v = .nilFunc ∧ k = 32)
    (hcf : ∀ a W, Sem.run Tryz.prog (callFunc k a) W = .ok (.enter k a) W)
    (hrule : ∀ W, BX n own W bp ap sp lp b → Below w.heap.size w W → Calls Tryz.prog k #[.pointer (some ⟨bp, 0, none⟩), tokV t] W (RX m own bp ap sp lp (.tuple #[]) f W)) (hnh : t.name ≠ ⟨#[104, 116, 109, 108]⟩) :
    Calls Tryz.prog 9 #[.pointer (some ⟨bp, 0, none⟩), tokV t] w (RX m own bp ap sp lp (.bool false) f w) := by
  obtain ⟨W1, hW1⟩ : ∃ W, W = w.alloc (.cells (tokR t) 24) := ⟨_, rfl⟩
  have hb1 : Below w.heap.size w W1 := by rw [hW1]; exact (Below.refl _ w).alloc (Nat.le_refl _) _
  have hr : W1.heap[w.heap.size]? = some (.cells (tokR t) 24 (0, 0)) := by rw [hW1]; exact heap_new _ _
  have hH := H.below hb1
  have hF := H.fr hb1
  have ho : own w.heap.size = 0 := H.L _ (Nat.le_refl _)
  have HW1 := Lib.hid hW1
  obtain ⟨bx, hbx⟩ : ∃ x, x = w.heap.size := ⟨_, rfl⟩
  rw [← hbx] at hr ho
  have HBX := Lib.hid hbx
  have HH1 := Lib.hid hb1
  clear hb1 hW1 H hbx
  have cN := Lib.hid (xArena hH)
  have HT : Hid (∀ U, Below W1.heap.size W1 U → Lib.TabIs Tryz.prog U "strings.asciiSpace" .u8 Lib.asciiSpaceTab) := Lib.hid (fun U hU => tab_below hT (below_call HH1.out hU))
  have HO := Lib.hid (⟨ho, hF⟩ : _ ∧ _)
  have HH := Lib.hid hH
  have Hr := Lib.hid hr
  have HR := Lib.hid hrule
  have HLk := Lib.hid hlook
  have HNH := Lib.hid hnh
  clear hnh
  have c0 := rowAt hr 0 (.int .i64 3) (by unfold tokR; rw [hkd]; rfl)
  have c1 := rowAt hr 1 (.string t.name) rfl
  clear hH hF hr ho hT hrule hlook hkd
  go_enter Tryz.func9, Tryz.ntmps9
  go_upto_region 1 with fail
  rw [← HW1.out, ← HBX.out]
  go_wp2_with fail
  refine cN.out.mono ?_
  rintro e w2 ⟨rfl, rfl⟩
  go_upto_region 18 with fail
  go_cut [6] (fun v wx => ∃ x y, EndV t.name.data.toList v x y ∧ (wx.cell? ⟨x, 0, none⟩ = some (.int .i64 1) ∧ wx.cell? ⟨y, 0, none⟩ = some (.int .i64 0)) ∧ Below W1.heap.size W1 wx)
  case first =>
    refine wp_region_held_drew (S := fun U => Below W1.heap.size W1 U) (by kernel_rfl) ((Below.refl _ W1).drew) (fun hHeld => ?_)
    generalize W1.drew = V at hHeld  ⊢
    refine TkH 1 51 ?_
    (try simp only [Act.put]); (try simp only [List.setIfInBounds_toArray]); (try simp only [List.set_cons_zero, List.set_cons_succ])
    refine TkD 2 (some 52) (v := ?_) rfl rfl ?_ ?_; rotate_left
    · (intro W hSw; (try dsimp only at hSw); have c1' := (hSw.cell (World.block_lt_of_cell? _ _ c1)).trans c1; go_simp; try with_reducible rfl)
    (try simp only [Act.put]); (try simp only [List.setIfInBounds_toArray]); (try simp only [List.set_cons_zero, List.set_cons_succ])
    refine wpAnyH_ready (rs := [0]) (by kernel_rfl) (by simp) ?_
    refine AllReadyH.cons rfl (fun K hK => ?_) AllReadyH.nil
    go_simp
    go_at_call 31
    refine (ends_any (HT.out _ hHeld)).mono ?_
    rintro e V9 ⟨b9, n9, D9, S9, x9, y9, rfl, ho9, hrd9, htb9, hb9, hk9⟩
    have HM := Lib.hid (⟨ho9, hrd9, htb9, hk9⟩ : _ ∧ _ ∧ _ ∧ _)
    have hB9 := hHeld.trans (hb9.mono hHeld.size)
    clear hHeld ho9 hrd9 htb9 hk9
    refine hK.out _ _ hB9 (fun hHeld => ?_)
    clear hK K hb9 hB9
    clear V
    obtain ⟨V, rfl⟩ : ∃ U, U = V9 := ⟨_, rfl⟩
    (try simp only [Act.put]); (try simp only [List.setIfInBounds_toArray]); (try simp only [List.set_cons_zero, List.set_cons_succ])
    refine wpAnyH_ready (rs := [3]) (by kernel_rfl) (by simp) ?_
    refine AllReadyH.cons rfl (fun K hK => ?_) AllReadyH.nil
    obtain ⟨v9, ps9, hrun, hv9⟩ := HM.out.1.lookup lawS Tryz.underlying65 (z := .nilFunc) (zd := .lit (.int .i64 (-1))) (zp := []) (by rfl) rfl (keyS_mk t.name (Nat.le_trans ht.1 (by decide)))
    rw [HM.out.2.1.get] at hv9
    go_simp
    refine hK.out _ _ hHeld (fun hSx => ?_)
    clear hSx hK K
    (try simp only [Act.put]); (try simp only [List.setIfInBounds_toArray]); (try simp only [List.set_cons_zero, List.set_cons_succ])
    focus (refine TkH 4 6 ?_)
    (try simp only [Act.put]); (try simp only [List.setIfInBounds_toArray]); (try simp only [List.set_cons_zero, List.set_cons_succ])
    refine wpAnyH_done (by kernel_rfl) ?_ _
    go_wp2_with fail
    go_meet
    exact ⟨_, _, ⟨S9, HM.out.2.2.1, ps9, hv9⟩, HM.out.2.2.2, hHeld⟩

  case rest =>
  obtain ⟨x, y, hv, hk, hbc⟩ := hcut
  have hH2 := HH.out.below hbc
  have HF2 := Lib.hid (HO.out.2.trans (HH.out.fr hbc))
  have Hr2 := Lib.hid ((hbc.block _ (row_lt Hr.out)).trans Hr.out)
  have HO2 := Lib.hid HO.out.1
  have cR := Lib.hid (HR.out wc hH2 (below_call HH1.out hbc))
  have hL := HLk.out x y _ hv
  clear hk hv HR HLk HT HH1 hH2 hbc HO
  have hq1 := fn_nil
  have hq2 := nil_nil
  rcases hL with rfl | ⟨rfl, rfl⟩
  all_goals (
    go_wp2_with (refine wpList_load_row rfl 24 (.tmp 3) rfl bx rfl 24 _ (0, 0) _ Hr2.out Tryz.underlying24 rfl tokSize ?_)
    refine cR.out.mono ?_
    rintro e w3 ⟨rfl, own3, H3, F3⟩
    have c9 := rowAt (F3.keep Hr2.out (by rw [HO2.out]; rfl)) 1 (.string t.name) rfl
    have hnq : ¬ ByteArray.toList t.name = [104, 116, 109, 108] := fun h => HNH.out (ByteArray.ext (Array.toList_inj.1 (by rw [← Lib.toList_data, h])))
    have HX := Lib.hid (⟨H3, HF2.out.trans F3⟩ : _ ∧ _)
    clear cR F3 H3 HF2 Hr2 c0 c1
    go_wp2_with fail
    go_ret
    exact ⟨rfl, own3, HX.out.1, HX.out.2⟩)
end
end Go.Proofs.YtnbdalohlldnbaaGreatDoor

namespace Go.Proofs.YtnbdalohlldnbaaGreatDoor
open Go.RowKit Bd
attribute [local go_sem ↓] Go.wp_at_zero Go.wp_at_succ
theorem look_endX {nm g : List UInt8} {k : Nat} (i : Nat) (hi : ∀ x y, (endL x y)[i]? = some (g, .agg [.lit (.int .i64 (k : Int)), .lit (.int .i64 (x : Nat))])) (hn : nm ∈ Lib.fields g) : ∀ x y v, EndV nm v x y → v = .func (.func k) #[] #[.pointer (some ⟨x, 0, none⟩)] := fun x y v ⟨S, hS, ps, hv⟩ => by
  rw [hS.some (lit_at end_nd (hi x y)) hn] at hv
  exact codeV_cl hv
/-- The law's tokens. -/
inductive PgT : TokL → Prop
  | st (nm : Ba) (h : nm ∈ namesQ) : PgT (startT nm)
  | en (nm : Ba) (h : nm ∈ namesQ) : PgT (endT nm)
  | ch : PgT (charsT ⟨#[116]⟩)
set_option maxHeartbeats 4000000 in
theorem stepP {n : Nat} {own : Nat → Nat} {W : World} {bp ap sp lp : Nat} {b : BS} {t : TokL} (ht : PgT t) (hm : b.mode = 6) (hn : n + 65 ≤ 90000) (H : BX n own W bp ap sp lp b) (hE : EvP own W) :
    Calls Tryz.prog 8 #[.pointer (some ⟨bp, 0, none⟩), tokV t] W (RX (n + 65) own bp ap sp lp (.bool (stpP b t).2) (stpP b t).1 W) := by
  cases ht with
  | st nm h =>
    simp only [namesQ, List.mem_cons, List.not_mem_nil, or_false] at h
    rcases h with rfl | rfl | rfl | rfl | rfl | rfl | rfl | rfl | rfl
    · rw [show stpP b (startT pS) = (Bd.block b (startT pS), false) from rfl]
      exact Step_body false (startT pS) hm H (fun V HV hb => (Body_start (m := n + 1) 71 (startT pS) ⟨by decide, by decide +kernel⟩ rfl (tab_below hE.1.t hb) HV (fun x y v hv => Or.inl (look_start 22 (fun _ _ => rfl) (by decide +kernel) x y v hv)) Tryz.call71 (fun U HU => rblock_any _ ⟨by decide, by decide +kernel⟩ (by omega) HU)).mono fun _ _ hr => RX.mono hr (by omega) hn)
    · rw [show stpP b (startT ⟨#[100, 105, 118]⟩) = (Bd.block b (startT ⟨#[100, 105, 118]⟩), false) from rfl]
      exact Step_body false (startT ⟨#[100, 105, 118]⟩) hm H (fun V HV hb => (Body_start (m := n + 1) 71 (startT ⟨#[100, 105, 118]⟩) ⟨by decide, by decide +kernel⟩ rfl (tab_below hE.1.t hb) HV (fun x y v hv => Or.inl (look_start 23 (fun _ _ => rfl) (by decide +kernel) x y v hv)) Tryz.call71 (fun U HU => rblock_any _ ⟨by decide, by decide +kernel⟩ (by omega) HU)).mono fun _ _ hr => RX.mono hr (by omega) hn)
    · rw [show stpP b (startT ⟨#[117, 108]⟩) = (Bd.block b (startT ⟨#[117, 108]⟩), false) from rfl]
      exact Step_body false (startT ⟨#[117, 108]⟩) hm H (fun V HV hb => (Body_start (m := n + 1) 71 (startT ⟨#[117, 108]⟩) ⟨by decide, by decide +kernel⟩ rfl (tab_below hE.1.t hb) HV (fun x y v hv => Or.inl (look_start 22 (fun _ _ => rfl) (by decide +kernel) x y v hv)) Tryz.call71 (fun U HU => rblock_any _ ⟨by decide, by decide +kernel⟩ (by omega) HU)).mono fun _ _ hr => RX.mono hr (by omega) hn)
    · rw [show stpP b (startT ⟨#[108, 105]⟩) = (item [⟨#[108, 105]⟩] b (startT ⟨#[108, 105]⟩), false) from rfl]
      exact Step_body false (startT ⟨#[108, 105]⟩) hm H (fun V HV hb => (Body_startX (m := n + 1) 143 (startT ⟨#[108, 105]⟩) ⟨by decide, by decide +kernel⟩ rfl (tab_below hE.1.t hb) HV (look_startX 18 (fun _ _ => rfl) (by decide +kernel)) Tryz.call143 (fun U x y nx ny HU hk => ritem_any _ ⟨by decide, by decide +kernel⟩ hk.1.1 hk.1.2 (by omega) HU)).mono fun _ _ hr => RX.mono hr (by omega) hn)
    · rw [show stpP b (startT ⟨#[104, 49]⟩) = (headingB b (startT ⟨#[104, 49]⟩), false) from rfl]
      exact Step_body false (startT ⟨#[104, 49]⟩) hm H (fun V HV hb => (Body_startE (m := n + 1) 72 (startT ⟨#[104, 49]⟩) ⟨by decide, by decide +kernel⟩ rfl (tab_below hE.1.t hb) HV (fun x y v hv => Or.inl (look_start 21 (fun _ _ => rfl) (by decide +kernel) x y v hv)) Tryz.call72 (fun U HU hu => rheading_any _ ⟨by decide, by decide +kernel⟩ (hE.2.below (below_call hb hu)) (by omega) HU)).mono fun _ _ hr => RX.mono hr (by omega) hn)
    · rw [show stpP b (startT ⟨#[112, 114, 101]⟩) = (linesB b (startT ⟨#[112, 114, 101]⟩), false) from rfl]
      exact Step_body false (startT ⟨#[112, 114, 101]⟩) hm H (fun V HV hb => (Body_start (m := n + 1) 73 (startT ⟨#[112, 114, 101]⟩) ⟨by decide, by decide +kernel⟩ rfl (tab_below hE.1.t hb) HV (fun x y v hv => Or.inl (look_start 20 (fun _ _ => rfl) (by decide +kernel) x y v hv)) Tryz.call73 (fun U HU => rlines_any _ ⟨by decide, by decide +kernel⟩ (by omega) HU)).mono fun _ _ hr => RX.mono hr (by omega) hn)
    · rw [show stpP b (startT ⟨#[98]⟩) = (Bd.format b (startT ⟨#[98]⟩), false) from rfl]
      exact Step_body false (startT ⟨#[98]⟩) hm H (fun V HV hb => (Body_start (m := n + 65) 79 (startT ⟨#[98]⟩) ⟨by decide, by decide +kernel⟩ rfl (tab_below hE.1.t hb) HV (fun x y v hv => Or.inl (look_start 13 (fun _ _ => rfl) (by decide +kernel) x y v hv)) Tryz.call79 (fun U HU => rformat_any _ ⟨by decide, by decide +kernel⟩ (by omega) HU)).mono fun _ _ hr => RX.mono hr (by omega) hn)
    · rw [show stpP b (startT ⟨#[105]⟩) = (Bd.format b (startT ⟨#[105]⟩), false) from rfl]
      exact Step_body false (startT ⟨#[105]⟩) hm H (fun V HV hb => (Body_start (m := n + 65) 79 (startT ⟨#[105]⟩) ⟨by decide, by decide +kernel⟩ rfl (tab_below hE.1.t hb) HV (fun x y v hv => Or.inl (look_start 13 (fun _ _ => rfl) (by decide +kernel) x y v hv)) Tryz.call79 (fun U HU => rformat_any _ ⟨by decide, by decide +kernel⟩ (by omega) HU)).mono fun _ _ hr => RX.mono hr (by omega) hn)
    · rw [show stpP b (startT ⟨#[97, 100, 100, 114, 101, 115, 115]⟩) = (Bd.block b (startT ⟨#[97, 100, 100, 114, 101, 115, 115]⟩), false) from rfl]
      exact Step_body false (startT ⟨#[97, 100, 100, 114, 101, 115, 115]⟩) hm H (fun V HV hb => (Body_start (m := n + 1) 71 (startT ⟨#[97, 100, 100, 114, 101, 115, 115]⟩) ⟨by decide, by decide +kernel⟩ rfl (tab_below hE.1.t hb) HV (fun x y v hv => Or.inl (look_start 23 (fun _ _ => rfl) (by decide +kernel) x y v hv)) Tryz.call71 (fun U HU => rblock_any _ ⟨by decide, by decide +kernel⟩ (by omega) HU)).mono fun _ _ hr => RX.mono hr (by omega) hn)
  | en nm h =>
    simp only [namesQ, List.mem_cons, List.not_mem_nil, or_false] at h
    rcases h with rfl | rfl | rfl | rfl | rfl | rfl | rfl | rfl | rfl
    · rw [show stpP b (endT pS) = (endP b, false) from rfl]
      exact Step_body false (endT pS) hm H (fun V HV hb => (Body_end (m := n + 1) 97 (endT pS) ⟨by decide, by decide +kernel⟩ rfl (tab_below hE.1.t hb) HV (fun x y v hv => Or.inl (look_end 6 (fun _ _ => rfl) (by decide +kernel) x y v hv)) Tryz.call97 (fun U HU => rendP_any _ (by omega) HU) (by decide +kernel)).mono fun _ _ hr => RX.mono hr (by omega) hn)
    · rw [show stpP b (endT ⟨#[100, 105, 118]⟩) = (shut b (endT ⟨#[100, 105, 118]⟩), false) from rfl]
      exact Step_body false (endT ⟨#[100, 105, 118]⟩) hm H (fun V HV hb => (Body_end (m := n + 0) 95 (endT ⟨#[100, 105, 118]⟩) ⟨by decide, by decide +kernel⟩ rfl (tab_below hE.1.t hb) HV (fun x y v hv => Or.inl (look_end 9 (fun _ _ => rfl) (by decide +kernel) x y v hv)) Tryz.call95 (fun U HU => rshut_any _ HU) (by decide +kernel)).mono fun _ _ hr => RX.mono hr (by omega) hn)
    · rw [show stpP b (endT ⟨#[117, 108]⟩) = (shut b (endT ⟨#[117, 108]⟩), false) from rfl]
      exact Step_body false (endT ⟨#[117, 108]⟩) hm H (fun V HV hb => (Body_end (m := n + 0) 95 (endT ⟨#[117, 108]⟩) ⟨by decide, by decide +kernel⟩ rfl (tab_below hE.1.t hb) HV (fun x y v hv => Or.inl (look_end 8 (fun _ _ => rfl) (by decide +kernel) x y v hv)) Tryz.call95 (fun U HU => rshut_any _ HU) (by decide +kernel)).mono fun _ _ hr => RX.mono hr (by omega) hn)
    · rw [show stpP b (endT ⟨#[108, 105]⟩) = (endItem 1 b (endT ⟨#[108, 105]⟩), false) from rfl]
      exact Step_body false (endT ⟨#[108, 105]⟩) hm H (fun V HV hb => (Body_endX (m := n) 156 (endT ⟨#[108, 105]⟩) ⟨by decide, by decide +kernel⟩ rfl (tab_below hE.1.t hb) HV (look_endX 5 (fun _ _ => rfl) (by decide +kernel)) Tryz.call156 (fun U x y HU hk => rendItem_any _ hk.1 HU) (by decide +kernel)).mono fun _ _ hr => RX.mono hr (by omega) hn)
    · rw [show stpP b (endT ⟨#[104, 49]⟩) = (endHeading b, false) from rfl]
      exact Step_body false (endT ⟨#[104, 49]⟩) hm H (fun V HV hb => (Body_endE (m := n + 0) 99 (endT ⟨#[104, 49]⟩) ⟨by decide, by decide +kernel⟩ rfl (tab_below hE.1.t hb) HV (fun x y v hv => Or.inl (look_end 3 (fun _ _ => rfl) (by decide +kernel) x y v hv)) Tryz.call99 (fun U HU hu => rendHeading_any _ (hE.2.below (below_call hb hu)) HU) (by decide +kernel)).mono fun _ _ hr => RX.mono hr (by omega) hn)
    · rw [show stpP b (endT ⟨#[112, 114, 101]⟩) = (shut b (endT ⟨#[112, 114, 101]⟩), false) from rfl]
      exact Step_body false (endT ⟨#[112, 114, 101]⟩) hm H (fun V HV hb => (Body_end (m := n + 0) 95 (endT ⟨#[112, 114, 101]⟩) ⟨by decide, by decide +kernel⟩ rfl (tab_below hE.1.t hb) HV (fun x y v hv => Or.inl (look_end 8 (fun _ _ => rfl) (by decide +kernel) x y v hv)) Tryz.call95 (fun U HU => rshut_any _ HU) (by decide +kernel)).mono fun _ _ hr => RX.mono hr (by omega) hn)
    · rw [show stpP b (endT ⟨#[98]⟩) = (formatted b (endT ⟨#[98]⟩), false) from rfl]
      exact Step_body false (endT ⟨#[98]⟩) hm H (fun V HV hb => (Body_end (m := n + 32) 100 (endT ⟨#[98]⟩) ⟨by decide, by decide +kernel⟩ rfl (tab_below hE.1.t hb) HV (fun x y v hv => Or.inl (look_end 2 (fun _ _ => rfl) (by decide +kernel) x y v hv)) Tryz.call100 (fun U HU => rformatted_any _ (by omega) HU) (by decide +kernel)).mono fun _ _ hr => RX.mono hr (by omega) hn)
    · rw [show stpP b (endT ⟨#[105]⟩) = (formatted b (endT ⟨#[105]⟩), false) from rfl]
      exact Step_body false (endT ⟨#[105]⟩) hm H (fun V HV hb => (Body_end (m := n + 32) 100 (endT ⟨#[105]⟩) ⟨by decide, by decide +kernel⟩ rfl (tab_below hE.1.t hb) HV (fun x y v hv => Or.inl (look_end 2 (fun _ _ => rfl) (by decide +kernel) x y v hv)) Tryz.call100 (fun U HU => rformatted_any _ (by omega) HU) (by decide +kernel)).mono fun _ _ hr => RX.mono hr (by omega) hn)
    · rw [show stpP b (endT ⟨#[97, 100, 100, 114, 101, 115, 115]⟩) = (shut b (endT ⟨#[97, 100, 100, 114, 101, 115, 115]⟩), false) from rfl]
      exact Step_body false (endT ⟨#[97, 100, 100, 114, 101, 115, 115]⟩) hm H (fun V HV hb => (Body_end (m := n + 0) 95 (endT ⟨#[97, 100, 100, 114, 101, 115, 115]⟩) ⟨by decide, by decide +kernel⟩ rfl (tab_below hE.1.t hb) HV (fun x y v hv => Or.inl (look_end 9 (fun _ _ => rfl) (by decide +kernel) x y v hv)) Tryz.call95 (fun U HU => rshut_any _ HU) (by decide +kernel)).mono fun _ _ hr => RX.mono hr (by omega) hn)
  | ch =>
    rw [show stpP b (charsT ⟨#[116]⟩) = (chB b (charsT ⟨#[116]⟩), false) from rfl]
    exact Step_body false (charsT ⟨#[116]⟩) hm H (fun V HV hb => (Body_chars (charsT ⟨#[116]⟩) (by decide) rfl (by omega) HV).mono fun _ _ hr => RX.mono hr (by omega) hn)
theorem headingB_mode (b : BS) (t : TokL) : (headingB b t).mode = b.mode := by
  unfold headingB
  dsimp only
  split
  · exact (openE_mode _ _).trans (closeP_mode _)
  · exact (openE_mode _ _).trans (closeP_mode _)
theorem stpP_no (b : BS) (t : TokL) : (stpP b t).2 = false ∧ (b.mode = 6 → (stpP b t).1.mode = 6) := by
  unfold stpP
  split
  · exact ⟨rfl, fun h => (chB_mode _ _).trans h⟩
  · split
    · refine ⟨rfl, fun h => ?_⟩
      dsimp only
      split
      · exact (format_mode _ _).trans h
      · split
        · exact (item_mode _ _ _).trans h
        · split
          · exact (headingB_mode _ _).trans h
          · split
            · exact (block_mode _ _).trans h
            · exact (block_mode _ _).trans h
    · refine ⟨rfl, fun h => ?_⟩
      dsimp only
      split
      · exact (formatted_mode _ _).trans h
      · split
        · unfold endItem
          split <;> exact h
        · split
          · unfold endHeading
            split <;> exact h
          · split
            · exact (endP_mode _).trans h
            · exact (shut_mode _ _).trans h
theorem stpP_ok {n : Nat} {b : BS} {t : TokL} (ht : PgT t) (H : Okb n b) : ∃ m, Okb m (stpP b t).1 := by
  have hT : ∀ nm, nm ∈ namesQ → TokOk (startT nm) := fun nm hn => (namesQ_ok hn).1
  cases ht with
  | ch => exact ⟨_, H.chB (by decide)⟩
  | st nm hn =>
    unfold stpP
    rw [show ((startT nm).kind == 7) = false from rfl, show ((startT nm).kind == 2) = true from rfl, if_neg (by decide), if_pos rfl]
    dsimp only
    split
    · exact ⟨_, H.format (hT nm hn)⟩
    · split
      · exact ⟨_, H.item _ (hT nm hn)⟩
      · split
        · exact ⟨_, H.headingB (hT nm hn)⟩
        · split
          · exact ⟨_, H.linesB (hT nm hn)⟩
          · exact ⟨_, H.block (hT nm hn)⟩
  | en nm hn =>
    unfold stpP
    rw [show ((endT nm).kind == 7) = false from rfl, show ((endT nm).kind == 2) = false from rfl, if_neg (by decide), if_neg (by decide)]
    dsimp only
    split
    · exact ⟨_, H.formatted _⟩
    · split
      · exact ⟨_, H.endItem _ _⟩
      · split
        · exact ⟨_, H.endHeading⟩
        · split
          · exact ⟨_, H.endP⟩
          · exact ⟨_, H.shut _⟩
theorem drvP {ts : List TokL} (hts : ∀ t ∈ ts, PgT t) : DrvE EvP stpP (fun b => b.mode = 6 ∧ PI b ∧ ∃ n, Okb n b) 65 ts := by
  refine ⟨fun bp ap sp lp n own W b t ht hm hn H hE => stepP (hts t ht) hm.1 hn H hE, fun b t ht hI => ?_, fun b t _ _ h => by rw [(stpP_no b t).1] at h; cases h⟩
  obtain ⟨h1, h2, n, h3⟩ := hI
  refine ⟨(stpP_no b t).2 h1, h2.stp h3 ?_, stpP_ok (hts t ht) h3⟩
  cases hts t ht with
  | ch => exact Or.inl rfl
  | st nm hn => exact Or.inr hn
  | en nm hn => exact Or.inr hn
end Go.Proofs.YtnbdalohlldnbaaGreatDoor

namespace Go.Proofs.YtnbdalohlldnbaaGreatDoor
open Go.RowKit Bd
attribute [local go_sem ↓] Go.wp_at_zero Go.wp_at_succ
/-- Where the law's loop stands. -/
structure PgR (n : Nat) (W0 : World) (bp ap sp lp : Nat) (wr : World) : Prop where
  ex : ∃ b, LA n W0 bp ap sp lp b wr ∧ b.mode = 6 ∧ PI b
/-- A walk up from the node j: whether a paragraph was met, and where it stands. -/
structure UpR (g : Nat → Bool) (a : Ar) (pb : Bool) (q : Bool) (k : Int) : Prop where
  q : q = true → pb = true
  k : k < 0 ∨ ∃ (j : Nat) (y : NodeL), k = (j : Int) ∧ a[j]? = some y ∧ (g j = true → pb = true)
theorem nb_atW {l : List NB} {a : Ar} {j : Nat} {z : NodeL} (hl : l.map NB.n = a) (hj : a[j]? = some z) : ∃ y, l[j]? = some y ∧ y.n = z := by
  rw [← hl, List.getElem?_map, Option.map_eq_some_iff] at hj
  exact hj
theorem name_p (nm : ByteArray) (h : nm ≠ pS) : (nm.toList == [112]) = false := by
  rw [text_beq]
  exact beq_eq_false_iff_ne.2 h
theorem steps_up {a : Ar} (h : ArOk a) {j : Nat} {y : NodeL} (hj : a[j]? = some y) : steps a a.length y.parent < steps a a.length (j : Int) := by
  have hE := h.endz (j : Int) (has_nat hj)
  obtain ⟨k, hk, _, h2⟩ := hE.has (by omega)
  have hu := h.up_eq hj
  have e1 : steps a a.length (j : Int) = steps a k (up a (j : Int)) + 1 := by rw [hk]; conv => lhs; unfold steps; rw [if_neg (by omega)]
  rw [e1, hu, ← steps_eq (show Endz a k y.parent by rw [← hu]; exact h2) (show k ≤ a.length by omega)]
  exact Nat.lt_succ_self _
theorem UpR.start {g : Nat → Bool} {a : Ar} (h : ArOk a) {j : Nat} {x : NodeL} (hj : a[j]? = some x) : UpR g a (decide (0 ≤ x.parent) && g x.parent.toNat) false x.parent := by
  refine ⟨fun e => (by cases e), ?_⟩
  by_cases h0 : x.parent < 0
  · exact Or.inl h0
  · obtain ⟨P, y, e, hy, _⟩ := h.par j x hj (by omega)
    refine Or.inr ⟨P, y, e, hy, fun hg => ?_⟩
    rw [e, Int.toNat_natCast, hg]
    simp
theorem UpR.step {g : Nat → Bool} {a : Ar} (h : ArOk a) (he : EG g a) {pb q : Bool} {j : Nat} {y : NodeL} (hj : a[j]? = some y) (hU : UpR g a pb q (j : Int)) : UpR g a pb (q || y.name == pS) y.parent := by
  have hg : g j = true → pb = true := by
    rcases hU.k with hk | ⟨j', y', e, hj', hk⟩
    · omega
    · obtain rfl : j = j' := by omega
      exact hk
  refine ⟨fun e => ?_, ?_⟩
  · rw [Bool.or_eq_true] at e
    rcases e with e | e
    · exact hU.q e
    · exact hg (he.e2 j y hj (eq_of_beq e))
  · by_cases h0 : y.parent < 0
    · exact Or.inl h0
    · obtain ⟨P, z, e, hz, _⟩ := h.par j y hj (by omega)
      exact Or.inr ⟨P, z, e, hz, fun hp => hg (he.e1 j y hj P e hp)⟩
theorem UpR.stop {g : Nat → Bool} {a : Ar} (he : EG g a) {j : Nat} {x : NodeL} (hj : a[j]? = some x) (h3 : x.kind = 3) {q : Bool} {k : Int} (hU : UpR g a (decide (0 ≤ x.parent) && g x.parent.toNat) q k) : q = true → x.name = ⟨#[98]⟩ ∨ x.name = ⟨#[105]⟩ := by
  intro hq
  have hp := hU.q hq
  rw [Bool.and_eq_true, decide_eq_true_eq] at hp
  cases hf : fmN x.name with
  | true => exact fm_names hf
  | false =>
    have := he.e3 j x hj h3 hf x.parent.toNat (by omega)
    rw [hp.2] at this
    cases this
set_option maxHeartbeats 4000000 in
set_option maxRecDepth 100000 in
theorem BodiesParagraphs_any {w : World} (hE : E3 w) (v : Value) (l : List UInt8) (hl : SlB w v l) : Calls Tryz.prog 5 #[v] w fun e w' => e = .returned (.bool true) ∧ Below w.heap.size w w' := by
  obtain ⟨a, c, rfl, hll, hcell⟩ := hl
  obtain ⟨L, hL⟩ : ∃ L, L = l.length := ⟨_, rfl⟩
  rw [← hL] at hll ⊢
  have HL := Lib.hid hL
  have HC := Lib.hid hcell
  clear hL hcell
  by_cases h60 : 60 < L
  · have h60I : (60 : Int) < (L : Int) := by omega
    have cS := Lib.hid (stands_any hE.e)
    clear hE
    go_enter Tryz.func5, Tryz.ntmps5
    go_wp2_with fail
    refine cS.out.mono ?_
    rintro e w1 ⟨rfl, hb1⟩
    have HB := Lib.hid hb1
    clear hb1 cS
    go_wp2_with fail
    go_ret
    exact ⟨rfl, HB.out⟩
  · have h60I : ¬ (60 : Int) < (L : Int) := by omega
    obtain ⟨ns, hns⟩ : ∃ ns : List Ba, ns = pS :: namesQ := ⟨_, rfl⟩
    obtain ⟨W1, hW1⟩ : ∃ W, W = w.alloc (.cells (ns.map Value.string).toArray 9) := ⟨_, rfl⟩
    have hb1 : Below w.heap.size w W1 := by rw [hW1]; exact (Below.refl _ w).alloc (Nat.le_refl _) _
    have hN1 : NmsAt W1 w.heap.size ns := by rw [hW1]; exact nms_alloc w ns _
    have hE1 := hE.below hb1
    obtain ⟨g, hg⟩ : ∃ g, g = w.heap.size := ⟨_, rfl⟩
    rw [← hg] at hN1
    have HG := Lib.hid hg
    have HW1 : Hid (w.alloc (.cells #[.string ⟨#[112]⟩, .string ⟨#[112]⟩, .string ⟨#[100, 105, 118]⟩, .string ⟨#[117, 108]⟩, .string ⟨#[108, 105]⟩, .string ⟨#[104, 49]⟩, .string ⟨#[112, 114, 101]⟩, .string ⟨#[98]⟩, .string ⟨#[105]⟩, .string ⟨#[97, 100, 100, 114, 101, 115, 115]⟩] 9) = W1) := Lib.hid (by rw [hW1, hns]; rfl)
    have HH := Lib.hid (⟨hb1, hN1, hE1, hns⟩ : _ ∧ _ ∧ _ ∧ _)
    clear hW1 hg hE hb1 hN1 hE1 hns
    go_enter Tryz.func5, Tryz.ntmps5
    go_upto_region 4 with fail
    rw [HW1.out, ← HG.out]
    have cO := Lib.hid (LA.opened HH.out.2.2.1.e)
    go_wp2_with fail
    refine cO.out.mono ?_
    rintro e w2 ⟨bp, ap, sp, lp, rp, rfl, A2⟩
    have HR0 : Hid (PgR (4 + 260 * 0) W1 bp ap sp lp w2) := Lib.hid ⟨Bd.opened, A2, by decide +kernel, pi_opened⟩
    clear cO A2
    go_wp2_with fail
    go_loopw [6] (fun u wr => ∃ i : Nat, u = .int .i64 i ∧ i ≤ L ∧ Hid (PgR (4 + 260 * i) W1 bp ap sp lp wr)) (fun u _ => L - (intOf u).toNat)
    case atStart => exact ⟨0, rfl, Nat.zero_le _, HR0⟩
    case round =>
      obtain ⟨i, rfl, hi, HR⟩ := hrel
      clear HR0
      by_cases hlt : i < L
      · have hltI : (i : Int) < (L : Int) := by omega
        have hi0 : (0 : Int) ≤ (i : Int) := by omega
        obtain ⟨x, hx⟩ : ∃ x, l[i]? = some x := ⟨_, List.getElem?_eq_getElem (by rw [← HL.out]; exact hlt)⟩
        obtain ⟨b, hA, hm, hS⟩ := HR.out.ex
        obtain ⟨Bx, off, rfl, hBx, hc1⟩ := HC.out i x hx
        have hbw := below_call HH.out.1 hA.base
        have hcr : wr.cell? ⟨Bx, off + i, none⟩ = some (.int .u8 x.toNat) := by rw [hbw.cell (p := ⟨Bx, off + i, none⟩) hBx]; exact hc1
        obtain ⟨r, hr⟩ : ∃ r, r = x.toNat % 10 := ⟨_, rfl⟩
        have hx255 := x.toNat_lt
        have rT : Int.tmod (x.toNat : Int) 10 = (r : Int) := by rw [Int.tmod_eq_emod_of_nonneg (by omega)]; omega
        obtain ⟨nm, hnm, hin⟩ := pick_nm (l := ns) (by rw [HH.out.2.2.2]; decide) x.toNat (m := r) (by rw [HH.out.2.2.2]; exact hr)
        have hin2 : nm ∈ namesQ := by
          rw [HH.out.2.2.2] at hin
          rcases List.mem_cons.1 hin with rfl | h
          · decide
          · exact h
        have cr := (HH.out.2.1.below hA.base) r nm hnm
        have hr10 : (r : Int) < 10 := by omega
        have hr0 : (0 : Int) ≤ (r : Int) := by omega
        have HA := Lib.hid (⟨hA, hm, hS, hin2⟩ : _ ∧ _ ∧ _ ∧ _)
        clear hA hm hS hx hc1 hBx hbw hr hnm hin hin2 HR
        by_cases hge : 180 ≤ x.toNat
        · have hgeI : (180 : Int) ≤ (x.toNat : Int) := by omega
          go_wp2_with fail
          refine (tend_any nm _).mono ?_
          rintro e w5 ⟨rfl, hb5⟩
          have A5 := HA.out.1.below hb5
          have hD : DrvE EvP stpP (fun b => b.mode = 6 ∧ PI b ∧ ∃ n, Okb n b) 65 [endT nm] := drvP (fun t ht => by rw [List.mem_singleton.1 ht]; exact .en nm HA.out.2.2.2)
          have hI : b.mode = 6 ∧ PI b ∧ ∃ n, Okb n b := ⟨HA.out.2.1, HA.out.2.2.1, _, A5.okb⟩
          have cD := Lib.hid (A5.doesP [endT nm] 24 1 HH.out.2.2.1 hD (of_decide_eq_true rfl) hI (by show 4 + 260 * i + 130 ≤ 90000; omega))
          have hS6 := hD.fold [endT nm] (b := b) (fun _ h => h) hI
          generalize ([endT nm] : List TokL).foldl (doesT stpP) b = b6 at *
          have HS := Lib.hid hS6
          clear HA A5 hb5 hD hS6 hI hcr cr
          go_wp2_with fail
          refine cD.out.mono ?_
          rintro e w6 ⟨rfl, A6⟩
          have HR6 : Hid (PgR (4 + 260 * (i + 1)) W1 bp ap sp lp w6) := Lib.hid ⟨b6, A6.mono (by show 4 + 260 * i + 130 ≤ _; omega) (by omega), HS.out.1, HS.out.2.1⟩
          clear cD A6 HS
          go_wp2_with fail
          go_roundw
          case rel => exact ⟨i + 1, by go_num, by omega, HR6⟩
          case measure => simp [intOf]; omega
        · have hgeI : ¬ (180 : Int) ≤ (x.toNat : Int) := by omega
          go_wp2_with fail
          refine (tstart_any nm _).mono ?_
          rintro e w3 ⟨rfl, hb3⟩
          have HA3 := Lib.hid (HA.out.1.below hb3)
          clear hb3 hcr cr
          go_wp2_with fail
          refine (tchars_any _ _).mono ?_
          rintro e w4 ⟨rfl, hb4⟩
          have A5 := HA3.out.below hb4
          have hD : DrvE EvP stpP (fun b => b.mode = 6 ∧ PI b ∧ ∃ n, Okb n b) 65 [startT nm, charsT ⟨#[116]⟩] := drvP (fun t ht => by
            simp only [List.mem_cons, List.not_mem_nil, or_false] at ht
            rcases ht with rfl | rfl
            · exact .st nm HA.out.2.2.2
            · exact .ch)
          have hI : b.mode = 6 ∧ PI b ∧ ∃ n, Okb n b := ⟨HA.out.2.1, HA.out.2.2.1, _, A5.okb⟩
          have cD := Lib.hid (A5.doesP [startT nm, charsT ⟨#[116]⟩] 24 2 HH.out.2.2.1 hD (of_decide_eq_true rfl) hI (by show 4 + 260 * i + 260 ≤ 90000; omega))
          have hS6 := hD.fold [startT nm, charsT ⟨#[116]⟩] (b := b) (fun _ h => h) hI
          generalize ([startT nm, charsT ⟨#[116]⟩] : List TokL).foldl (doesT stpP) b = b6 at *
          have HS := Lib.hid hS6
          clear HA HA3 A5 hb4 hD hS6 hI
          go_wp2_with fail
          refine cD.out.mono ?_
          rintro e w6 ⟨rfl, A6⟩
          have HR6 : Hid (PgR (4 + 260 * (i + 1)) W1 bp ap sp lp w6) := Lib.hid ⟨b6, A6.mono (by show 4 + 260 * i + 260 ≤ _; omega) (by omega), HS.out.1, HS.out.2.1⟩
          clear cD A6 HS
          go_wp2_with fail
          go_roundw
          case rel => exact ⟨i + 1, by go_num, by omega, HR6⟩
          case measure => simp [intOf]; omega
      · have hltI : ¬ (i : Int) < (L : Int) := by omega
        obtain ⟨b, hA, _, hS⟩ := HR.out.ex
        obtain ⟨gg, hG⟩ := hS
        have cA := Lib.hid hA.arena
        have cT := Lib.hid hA.tree
        have HA := Lib.hid (⟨hA, hG⟩ : _ ∧ _)
        clear hA hG HR
        go_wp2_with fail
        refine cA.out.mono ?_
        rintro e w3 ⟨rfl, rfl⟩
        go_wp2_with fail
        refine cT.out.mono ?_
        rintro e w4 ⟨tv, tl, rfl, htl, hT, hb4⟩
        obtain ⟨ta, tc, rfl⟩ := hT.form
        have hA4 := HA.out.1.below hb4
        have htlen : tl.length ≤ 90000 := by
          obtain ⟨own, q1, _, _⟩ := hA4.ex
          have h1 := q1.G.len
          have h2 := q1.N
          rw [← htl, List.length_map] at h1
          omega
        obtain ⟨N, hN⟩ : ∃ N, N = tl.length := ⟨_, rfl⟩
        rw [← hN] at htlen ⊢
        have HT := Lib.hid (⟨htl, hT, hA4, HA.out.2, hN⟩ : _ ∧ _ ∧ _ ∧ _ ∧ _)
        clear cA cT hb4 htl hT hA4 HA hN
        go_wp2_with fail
        go_loopw [9] (fun u wr => ∃ j : Nat, u = .int .i64 j ∧ j ≤ N ∧ Hid (wr = w4)) (fun u _ => N - (intOf u).toNat)
        case atStart => exact ⟨0, rfl, Nat.zero_le _, Lib.hid rfl⟩
        case round =>
          obtain ⟨j, rfl, hj, hw⟩ := hrel
          obtain rfl := hw.out
          clear hw
          by_cases hlt2 : j < N
          · have hltJ : (j : Int) < (N : Int) := by omega
            have hj0 : (0 : Int) ≤ (j : Int) := by omega
            obtain ⟨y, hy⟩ : ∃ y, tl[j]? = some y := ⟨_, List.getElem?_eq_getElem (by rw [← HT.out.2.2.2.2]; exact hlt2)⟩
            obtain ⟨g2, cap, e2, hcap, hg2, hcl⟩ := HT.out.2.1.cells hy
            injection e2 with e3 e4 e5
            subst e3
            have c0 := hcl 0 (.int .i64 y.n.kind) rfl
            rw [Nat.add_zero] at c0
            have c1 := hcl 1 (.string y.n.name) rfl
            have c6 := hcl 6 (.int .i64 y.n.parent) rfl
            have hyb : b.ar[j]? = some y.n := by rw [← HT.out.1, List.getElem?_map, hy]; rfl
            have HY := Lib.hid (⟨hyb, HT.out.2.2.1.okb.ar⟩ : _ ∧ _)
            have HC2 : Hid (∀ (k : Nat) (z : NodeL), b.ar[k]? = some z → wr.cell? ⟨g2, k * 11 + 1, none⟩ = some (.string z.name) ∧ wr.cell? ⟨g2, k * 11 + 6, none⟩ = some (.int .i64 z.parent) ∧ k < N) := Lib.hid (fun k z hz => by
              obtain ⟨y', hy', e⟩ := nb_atW HT.out.1 hz
              obtain ⟨g3, _, e', _, _, hc'⟩ := HT.out.2.1.cells hy'
              injection e' with e1 _ _
              injection e1 with e1
              injection e1 with e1
              subst e1
              have q1 := hc' 1 (.string y'.n.name) rfl
              have q6 := hc' 6 (.int .i64 y'.n.parent) rfl
              rw [e] at q1 q6
              refine ⟨q1, q6, ?_⟩
              rw [HT.out.2.2.2.2]
              rcases Nat.lt_or_ge k tl.length with h | h
              · exact h
              · rw [List.getElem?_eq_none h] at hy'; cases hy')
            clear hy e4 e5 hcap hg2 hcl hyb
            by_cases hk3 : y.n.kind = 3
            · rw [hk3] at c0
              have hst := UpR.start (g := gg) HY.out.2 HY.out.1
              have HU0 := Lib.hid hst
              clear hst
              go_wp2_with fail
              go_loopw [10, 11] (fun p u wq => ∃ (q : Bool) (k : Int), p = .bool q ∧ u = .int .i64 k ∧ Hid (UpR gg b.ar (decide (0 ≤ y.n.parent) && gg y.n.parent.toNat) q k) ∧ Hid (wq = wr)) (fun _ u _ => steps b.ar b.ar.length (intOf u))
              case atStart => exact ⟨false, _, rfl, rfl, HU0, Lib.hid rfl⟩
              case round =>
                obtain ⟨q, k, rfl, rfl, HU, hw⟩ := hrel
                obtain rfl := hw.out
                clear hw HU0
                by_cases hk0 : 0 ≤ k
                · obtain ⟨kn, z, rfl, hz, _⟩ : ∃ (j : Nat) (y' : NodeL), k = (j : Int) ∧ b.ar[j]? = some y' ∧ True := by
                    rcases HU.out.k with h | ⟨j', y', h1, h2, _⟩
                    · omega
                    · exact ⟨j', y', h1, h2, trivial⟩
                  obtain ⟨d1, d6, hkN⟩ := HC2.out kn z hz
                  have hkNI : (kn : Int) < (N : Int) := by omega
                  have HS := Lib.hid (HU.out.step HY.out.2 HT.out.2.2.2.1.e hz)
                  have HM := Lib.hid (steps_up HY.out.2 hz)
                  clear HU hz
                  cases q with
                  | true =>
                    go_wp2_with fail
                    go_roundw
                    case rel => exact ⟨true, _, rfl, rfl, HS, Lib.hid (by trivial)⟩
                    case measure => exact HM.out
                  | false =>
                    by_cases hzp : z.name = pS
                    · have HS2 : Hid (UpR gg b.ar (decide (0 ≤ y.n.parent) && gg y.n.parent.toNat) true z.parent) := by
                        have := HS.out
                        rw [hzp, show (false || pS == pS) = true from by decide] at this
                        exact Lib.hid this
                      rw [hzp] at d1
                      change _ = some (Value.string ⟨#[112]⟩) at d1
                      clear hzp HS
                      go_wp2_with fail
                      go_roundw
                      case rel => exact ⟨true, _, rfl, rfl, HS2, Lib.hid (by trivial)⟩
                      case measure => exact HM.out
                    · have HS2 : Hid (UpR gg b.ar (decide (0 ≤ y.n.parent) && gg y.n.parent.toNat) false z.parent) := by
                        have := HS.out
                        rw [show (z.name == pS) = false from beq_eq_false_iff_ne.2 hzp, Bool.or_false] at this
                        exact Lib.hid this
                      have hzb := name_p _ hzp
                      clear hzp HS
                      generalize z.name = nz at *
                      go_wp2_with fail
                      go_roundw
                      case rel => exact ⟨false, _, rfl, rfl, HS2, Lib.hid (by trivial)⟩
                      case measure => exact HM.out
                · have hstop := HU.out.stop HT.out.2.2.2.1.e HY.out.1 hk3
                  clear HU
                  cases q with
                  | false =>
                    clear hstop
                    go_wp2_with fail
                    go_roundw
                    case rel => exact ⟨j + 1, by go_num, by omega, Lib.hid (by trivial)⟩
                    case measure => simp [intOf]; omega
                  | true =>
                    rcases hstop rfl with e | e
                    all_goals (
                      rw [e] at c1
                      clear e hstop
                      go_wp2_with fail
                      go_roundw
                      case rel => exact ⟨j + 1, by go_num, by omega, Lib.hid (by trivial)⟩
                      case measure => simp [intOf]; omega)
            · have hkb : (y.n.kind == 3) = false := beq_eq_false_iff_ne.2 hk3
              clear HC2 HY
              generalize y.n.kind = kd at *
              go_wp2_with fail
              go_roundw
              case rel => exact ⟨j + 1, by go_num, by omega, Lib.hid (by trivial)⟩
              case measure => simp [intOf]; omega
          · have hltJ : ¬ (j : Int) < (N : Int) := by omega
            have cT := Lib.hid (stands_any (HH.out.2.2.1.e.below HT.out.2.2.1.base))
            have HB := Lib.hid (below_call HH.out.1 HT.out.2.2.1.base)
            clear HT
            go_wp2_with fail
            refine cT.out.mono ?_
            rintro e w8 ⟨rfl, hb8⟩
            have HF := Lib.hid (below_call HB.out hb8)
            clear cT hb8
            go_wp2_with fail
            go_ret
            exact ⟨rfl, HF.out⟩
theorem bodiesParagraphs_any (v : Value) (l : List UInt8) (w : World) (hl : SlB w v l) (hE : E3 w) : Calls Tryz.prog 5 #[v] w (RBool true w) := BodiesParagraphs_any hE v l hl
end Go.Proofs.YtnbdalohlldnbaaGreatDoor

set_option maxRecDepth 100000
namespace Go.Proofs.YtnbdalohlldnbaaGreatDoor
open Go.ChangeShapes Go.WideShapes Go.ChangeAt Go.RowKit
theorem laid_reads {l : List (String × DataW Unit)} {W : World} (h : laidMetH Tryz.prog l W) {n : String} {d : DataW Unit} (hm : (n, d) ∈ l) (hn : d.handleName?.isNone = true) : Lib.VarReads Tryz.prog W n d :=
  Lib.laidMet.reads (laidMetH_iff.1 h).1 (List.mem_filter.2 ⟨hm, hn⟩)
theorem tab_of_reads {W : World} {name : String} {k : IntKind} {zs : List Int} {g : Nat} {t e : TypeId} {n : Nat}
    (hg : Tryz.prog.globalNamed name = some g) (hty : (Tryz.prog.globals[g]?).map (·.type) = some t) (ht : Tryz.prog.underlying t = some (.array n e)) (he : Tryz.prog.underlying e = some (.int k)) (hce : Tryz.prog.cellsOf e = 1) (hct : Tryz.prog.cellsOf t = n)
    (h : Lib.VarReads Tryz.prog W name (Lib.tabData k zs)) : Lib.TabIs Tryz.prog W name k zs := by
  obtain ⟨g', t', cs, fuel, p, hg', ht', hvar, hd⟩ := h
  obtain rfl := Option.some.inj (hg.symm.trans hg')
  obtain rfl := Option.some.inj (hty.symm.trans ht')
  unfold Lib.TabIs
  rw [hvar, ← Lib.cells_of_tab ht he hce hct hd]
theorem gSp : Tryz.prog.globalNamed "strings.asciiSpace" = some 1 := by kernel_rfl
theorem gSc : Tryz.prog.globalNamed "lazaret/kinds.scopes" = some 4 := by kernel_rfl
theorem cellsS1 : Tryz.prog.cellsOf 9 = 1 := by kernel_rfl
theorem cellsB1 : Tryz.prog.cellsOf 4 = 1 := by kernel_rfl
theorem cellsI1 : Tryz.prog.cellsOf 3 = 1 := by kernel_rfl
theorem cellsA1 : Tryz.prog.cellsOf 22 = 1 := by kernel_rfl
theorem sc_of_laid {W : World} (h : Lib.VarReads Tryz.prog W "lazaret/kinds.scopes" Rows.laid_lazaret_kinds_scopes) : ∀ j : Nat, j < 4 → W.cell? ⟨4, j, none⟩ = some (.string (Bd.scopesL.getD j Bd.em)) := by
  obtain ⟨g', t', cs, fuel, p, hg', ht', hvar, hd⟩ := h
  obtain rfl := Option.some.inj (gSc.symm.trans hg')
  obtain rfl := Option.some.inj ((show (Tryz.prog.globals[4]?).map (·.type) = some 192 by kernel_rfl).symm.trans ht')
  obtain ⟨xs, m, _, hx, _, hxl, hcell⟩ := DataW.trod_array Tryz.underlying192 hd
  have e : (Rows.laid_lazaret_kinds_scopes : DataW Unit) = .agg (Bd.scopesL.map fun l => .lit (.string l.data.toList)) := by kernel_rfl
  have hm := congrArg Prod.fst hx
  rw [e] at hm
  dsimp only at hm
  injection hm with hm
  intro i hi
  have h1 := hcell i hi
  rw [cellsS1, Nat.mul_one, List.getElem?_eq_getElem (by rw [hxl]; exact hi)] at h1
  obtain ⟨s, hs, hy, _⟩ := DataW.trod_string (Tryz.underlying9) h1
  have hy1 : (xs[i]'(by rw [hxl]; exact hi)).1 = .lit (.string s.data.toList) := by rw [hy]
  have hl : i < Bd.scopesL.length := hi
  have h2 : (xs.map (·.1))[i]? = (Bd.scopesL.map fun l => (.lit (.string l.data.toList) : DataW Unit))[i]? := by rw [hm]
  rw [List.getElem?_map, List.getElem?_map, List.getElem?_eq_getElem (by rw [hxl]; exact hi), List.getElem?_eq_getElem hl, Option.map_some, Option.map_some, hy1] at h2
  have h3 : s = Bd.scopesL[i] := by
    have := Option.some.inj h2
    injection this with this
    injection this with this
    exact ByteArray.ext (Array.toList_inj.1 this)
  have h4 := congrArg (fun l : List Value => l[0]?) hs
  simp only [List.getElem?_take, List.getElem?_drop, Nat.add_zero] at h4
  rw [World.var?_cell gSc hvar i, ← Array.getElem?_toList, List.getD_eq_getElem?_getD, List.getElem?_eq_getElem hl, Option.getD_some, ← h3]
  simpa using h4
theorem e2_of_laid {l : List (String × DataW Unit)} {W : World} (h : laidMetH Tryz.prog l W) (hsh : W.ShapedOpen Tryz.prog) (m1 : ("strings.asciiSpace", Rows.laid_strings_asciiSpace) ∈ l) (m2 : ("lazaret/kinds.scopes", Rows.laid_lazaret_kinds_scopes) ∈ l) : E2 W :=
  ⟨⟨cell_of_shapedOpen_int (zero := #[.int .i64 0]) (t := 3) hsh (of_decide_eq_true (by kernel_rfl)) (by kernel_rfl) rfl (by kernel_rfl) (by kernel_rfl) (Tryz.underlying3), sc_of_laid (laid_reads h m2 rfl)⟩,
    tab_of_reads gSp (t := 140) (by kernel_rfl) (Tryz.underlying140) (Tryz.underlying5) (by kernel_rfl) (by kernel_rfl) (laid_reads h m1 rfl)⟩
section
variable {H : Type} {enc : TypeId × Value → H} {W : World} {base : Nat} {sp : Nat → Bool} {hd : Bool} {v : Value} {fuel : Nat} {x : Option (DataW H × List MemPlace)}
theorem bcell_str (h : DataW.trod enc Tryz.prog W base sp hd fuel 9 [v] = x) (hx : x.isSome = true) : ∃ s : ByteArray, v = .string s := by
  obtain ⟨y, rfl⟩ := Option.isSome_iff_exists.1 hx
  obtain ⟨s, h1, _⟩ := DataW.trod_string Tryz.underlying9 h
  exact ⟨s, List.singleton_inj.1 h1⟩
theorem bcell_bool (h : DataW.trod enc Tryz.prog W base sp hd fuel 4 [v] = x) (hx : x.isSome = true) : ∃ b : Bool, v = .bool b := by
  obtain ⟨y, rfl⟩ := Option.isSome_iff_exists.1 hx
  obtain ⟨b, h1, _⟩ := DataW.trod_bool Tryz.underlying4 h
  exact ⟨b, List.singleton_inj.1 h1⟩
theorem bcell_int (h : DataW.trod enc Tryz.prog W base sp hd fuel 3 [v] = x) (hx : x.isSome = true) : ∃ n : Int, v = .int .i64 n := by
  obtain ⟨y, rfl⟩ := Option.isSome_iff_exists.1 hx
  obtain ⟨n, h1, _⟩ := DataW.trod_int Tryz.underlying3 h
  exact ⟨n, List.singleton_inj.1 h1⟩
theorem bcell_attrs (h : DataW.trod enc Tryz.prog W base sp hd fuel 22 [v] = x) (hx : x.isSome = true) : ∃ a n c, v = .slice a n c := by
  obtain ⟨y, rfl⟩ := Option.isSome_iff_exists.1 hx
  rcases DataW.trod_slice Tryz.underlying22 h with ⟨h1, _⟩ | ⟨a, len, cap, _, _, _, _, h1, _⟩
  · exact ⟨_, _, _, List.singleton_inj.1 h1⟩
  · exact ⟨_, _, _, List.singleton_inj.1 h1⟩
theorem bcell_at {f : Field} {cs : List Value} {t : TypeId} {y : Option (DataW H × List MemPlace)} (h : DataW.trod enc Tryz.prog W base sp hd fuel f.type ((cs.drop f.offset).take (Tryz.prog.cellsOf f.type)) = y) (ht : f.type = t) (hc : Tryz.prog.cellsOf t = 1) {c : Value} {r : List Value} (hd' : cs.drop f.offset = c :: r) : DataW.trod enc Tryz.prog W base sp hd fuel t [c] = y := by
  subst ht
  rw [hc, hd'] at h
  exact h
theorem len9 {α : Type} {l : List α} (h : l.length = 9) : ∃ a b c d e f g i j, l = [a, b, c, d, e, f, g, i, j] := by
  match l, h with
  | [a, b, c, d, e, f, g, i, j], _ => exact ⟨a, b, c, d, e, f, g, i, j, rfl⟩
theorem cellsTok : Tryz.prog.cellsOf 24 = 9 := by kernel_rfl
set_option maxRecDepth 100000 in
/-- A token that came in. -/
theorem tok_of {d : DataW H} {ps : List MemPlace} {r : Reach} {b0 : Nat} (hv : Value.okWide Tryz.prog W r b0 24 v) (h : DataW.Trod enc Tryz.prog W base sp hd 24 v d ps) :
    ∃ (kd fr tt : Int) (nm tx0 : ByteArray) (a : Option Addr) (n c : Nat) (dp se qu : Bool), v = .agg #[.int .i64 kd, .string nm, .string tx0, .slice a n c, .bool dp, .bool se, .bool qu, .int .i64 fr, .int .i64 tt] := by
  simp only [Value.okWide, Tryz.underlying24] at hv
  obtain ⟨⟨cs⟩, rfl, hsz, _⟩ := hv
  rw [cellsTok] at hsz
  obtain ⟨fuel, hf⟩ := h
  obtain ⟨a, b, c, e, f, g, i, j, k, rfl⟩ := len9 hsz
  obtain ⟨xs, n, _, _, _, hlen, hx⟩ := DataW.trod_struct Tryz.underlying24 (show DataW.trod enc Tryz.prog W base sp hd fuel 24 [a, b, c, e, f, g, i, j, k] = some (d, ps) from hf)
  have hsome : ∀ i, i < 9 → xs[i]?.isSome = true := fun i hi => by rw [List.getElem?_eq_getElem (by rw [hlen]; exact hi)]; rfl
  obtain ⟨kd, rfl⟩ := bcell_int (bcell_at (hx 0 _ rfl) rfl cellsI1 rfl) (hsome 0 (by omega))
  obtain ⟨nm, rfl⟩ := bcell_str (bcell_at (hx 1 _ rfl) rfl cellsS1 rfl) (hsome 1 (by omega))
  obtain ⟨tx0, rfl⟩ := bcell_str (bcell_at (hx 2 _ rfl) rfl cellsS1 rfl) (hsome 2 (by omega))
  obtain ⟨a0, n0, c0, rfl⟩ := bcell_attrs (bcell_at (hx 3 _ rfl) rfl cellsA1 rfl) (hsome 3 (by omega))
  obtain ⟨dp, rfl⟩ := bcell_bool (bcell_at (hx 4 _ rfl) rfl cellsB1 rfl) (hsome 4 (by omega))
  obtain ⟨se, rfl⟩ := bcell_bool (bcell_at (hx 5 _ rfl) rfl cellsB1 rfl) (hsome 5 (by omega))
  obtain ⟨qu, rfl⟩ := bcell_bool (bcell_at (hx 6 _ rfl) rfl cellsB1 rfl) (hsome 6 (by omega))
  obtain ⟨fr, rfl⟩ := bcell_int (bcell_at (hx 7 _ rfl) rfl cellsI1 rfl) (hsome 7 (by omega))
  obtain ⟨tt, rfl⟩ := bcell_int (bcell_at (hx 8 _ rfl) rfl cellsI1 rfl) (hsome 8 (by omega))
  exact ⟨kd, fr, tt, nm, tx0, a0, n0, c0, dp, se, qu, rfl⟩
end
end Go.Proofs.YtnbdalohlldnbaaGreatDoor

set_option maxRecDepth 100000
namespace Go.Proofs.YtnbdalohlldnbaaGreatDoor
open Go.ChangeShapes Go.WideShapes Go.ChangeAt Go.RowKit
theorem laidOut : laidOutB Tryz.prog = true := by kernel_rfl
/-- The arguments read behind the call as they did. -/
theorem trodAll_below {H : Type} {enc : TypeId × Value → H} {W W' : World} (hb : Below W.heap.size W W') : ∀ {ts : List TypeId} {vs : List Value} {ds : List (DataW H)} {ps : List MemPlace},
    (∀ t ∈ ts, Tryz.prog.readableRec t = true ∧ t < Tryz.prog.types.size) → DataW.TrodAll enc Tryz.prog W 0 (fun _ => true) true ts vs ds ps → (∀ x ∈ ps, x.block < W.heap.size) →
    DataW.TrodAll enc Tryz.prog W' 0 (fun b => decide (b < W.heap.size)) true ts vs ds ps
  | [], [], [], _, _, h, _ => h
  | t :: ts, v :: vs, d :: ds, ps, ht, ⟨p, q, h1, h2, e⟩, hlt =>
    ⟨p, q, Below.trod laidOut (ht t (by simp)).1 (ht t (by simp)).2 h1 hb (fun x hx => hlt x (by rw [e]; exact List.mem_append_left _ hx)),
      trodAll_below hb (fun t' h' => ht t' (by simp [h'])) h2 (fun x hx => hlt x (by rw [e]; exact List.mem_append_right _ hx)), e⟩
  | [], _ :: _, _, _, _, h, _ => by simp [DataW.TrodAll] at h
  | [], [], _ :: _, _, _, h, _ => by simp [DataW.TrodAll] at h
  | _ :: _, [], _, _, _, h, _ => by simp [DataW.TrodAll] at h
  | _ :: _, _ :: _, [], _, _, h, _ => by simp [DataW.TrodAll] at h

theorem ownU : ownKnob Tryz.prog.godebug = none := by kernel_rfl
theorem e2_row {W : World} (h : laidMetH Tryz.prog Rows.bodiesNoneRow.laid W) (hsh : W.ShapedOpen Tryz.prog) : E2 W := e2_of_laid h hsh (.tail _ (.head _)) (.tail _ (.tail _ (.head _)))
/-- The witness starts where the door's own run ends. -/
noncomputable def startU (os : Os) : World := World.doorLaid Tryz.prog 200 os
theorem metU (os : Os) (args : Array Value) : laidMetH Tryz.prog Rows.bodiesNoneRow.laid ((startU os).forCall (fun _ _ => 0) ⟨#[], args, []⟩).memory :=
  laidMetH_of_parts3 (fuel := 8) (laidMet_of_run3 8 (by kernel_rfl) (by kernel_rfl) (by kernel_rfl)) (by kernel_rfl) (by kernel_rfl)
/-! What every row asks of the program, fact by fact: together they outgrow the kernel's memory. -/
theorem andI {a b : Bool} (h1 : a = true) (h2 : b = true) : (a && b) = true := by rw [h1, h2]; rfl
theorem mayU : Tryz.prog.mayEnter = true := by kernel_rfl
theorem liftU : (Rows.bodiesNoneRow.lifted == Tryz.prog.liftsFinal) = true := by kernel_rfl
theorem makeU : (Tryz.prog.make == some Rows.bodiesNoneRow.make) = true := by kernel_rfl
theorem mapsU : mapsRowed Tryz.prog = true := by kernel_rfl
theorem keysU : (Rows.bodiesNoneRow.plainKeys == Tryz.prog.plainKeys) = true := by kernel_rfl
theorem heardU : Tryz.prog.stopsHeard = true := by kernel_rfl
/-- A token that came in, by its parts. -/
structure TokI where
  kd : Int
  fr : Int
  tt : Int
  nm : ByteArray
  tx : ByteArray
  a : Option Addr
  n : Nat
  c : Nat
  dp : Bool
  se : Bool
  qu : Bool
def TokI.val (x : TokI) : Value := .agg #[.int .i64 x.kd, .string x.nm, .string x.tx, .slice x.a x.n x.c, .bool x.dp, .bool x.se, .bool x.qu, .int .i64 x.fr, .int .i64 x.tt]
theorem tokI_of {H : Type} {enc : TypeId × Value → H} {W : World} {base : Nat} {sp : Nat → Bool} {hd : Bool} {v : Value} {d : DataW H} {ps : List MemPlace} {r : Reach} {b0 : Nat} (hv : Value.okWide Tryz.prog W r b0 24 v) (h : DataW.Trod enc Tryz.prog W base sp hd 24 v d ps) : ∃ x : TokI, v = x.val := by
  obtain ⟨kd, fr, tt, nm, tx0, a, n, c, dp, se, qu, rfl⟩ := tok_of hv h
  exact ⟨⟨kd, fr, tt, nm, tx0, a, n, c, dp, se, qu⟩, rfl⟩
theorem bodiesNone_any (x : TokI) (w : World) (hE : E2 w) : Calls Tryz.prog 3 #[x.val] w (RBool true w) := BodiesNone_any hE x.kd x.fr x.tt x.nm x.tx x.a x.n x.c x.dp x.se x.qu
end Go.Proofs.YtnbdalohlldnbaaGreatDoor

namespace Go.Proofs.YtnbdalohlldnbaaGreatDoor
open Go.ChangeShapes Go.WideShapes Go.ChangeAt Go.RowKit
theorem cellsU8 : Tryz.prog.cellsOf 5 = 1 := by kernel_rfl
/-- A byte that came in. -/
theorem byte_of_wf {n : Int} (h : (Lit.int .u8 n).wf = true) : 0 ≤ n ∧ n ≤ 255 := by
  simp only [Lit.wf, Bool.and_eq_true, decide_eq_true_eq] at h
  have h0 : IntKind.u8.min = 0 := by decide
  have h1 : IntKind.u8.max = 255 := by decide
  rw [h0, h1] at h
  exact h

set_option maxRecDepth 100000 in
/-- A slice of bytes that came in, as its cell. -/
theorem slB_cell {H : Type} {enc : TypeId × Value → H} {W : World} {base : Nat} {sp : Nat → Bool} {hd : Bool} {v : Value} {x : DataW H × List MemPlace} {fuel : Nat}
    (hf : DataW.trod enc Tryz.prog W base sp hd fuel 39 [v] = some x) : ∃ l, SlB W v l := by
  rcases open_ints Tryz.underlying39 Tryz.underlying5 cellsU8 hf with ⟨hcs, hx⟩ | ⟨a, len', cap', zs, hcs, _, hl, hm, hz, hx, hcell, hwz⟩
  · obtain rfl := List.singleton_inj.1 hcs
    exact ⟨[], none, 0, rfl, by simp, fun j b hj => by simp at hj⟩
  · obtain rfl := List.singleton_inj.1 hcs
    have hzl : len' ≤ zs.length := by rw [hz]; split <;> omega
    have hm' : cap' ≤ 9223372036854775807 := hm
    have hlen : ((zs.take len').map (fun z => UInt8.ofNat z.toNat)).length = len' := by simp; omega
    refine ⟨(zs.take len').map (fun z => UInt8.ofNat z.toNat), some a, cap', by rw [hlen], by rw [hlen]; omega, fun j b hj => ?_⟩
    have hjl : j < len' := by
      have := (List.getElem?_eq_some_iff.1 hj).1
      rw [hlen] at this; exact this
    obtain ⟨B, off, rfl, hc⟩ := ints_at hcell (by omega)
    have h1 := hc j (by omega)
    refine ⟨B, off, rfl, World.block_lt_of_cell? _ _ h1, ?_⟩
    rw [h1]
    have hzj : zs[j]? = some (zs.getD j 0) := by
      rw [List.getD_eq_getElem?_getD, List.getElem?_eq_getElem (by omega)]; rfl
    have hb : b = UInt8.ofNat (zs.getD j 0).toNat := by
      rw [List.getElem?_map, List.getElem?_take, if_pos hjl, hzj] at hj
      exact (Option.some.inj hj).symm
    obtain ⟨w0, w1⟩ := byte_of_wf (hwz _ (List.mem_of_getElem? hzj))
    rw [hb, UInt8.toNat_ofNat']
    congr 2
    omega
set_option maxRecDepth 100000 in
/-- A slice of bytes that came in. -/
theorem slB_of {H : Type} {enc : TypeId × Value → H} {W : World} {base : Nat} {sp : Nat → Bool} {hd : Bool} {v : Value} {d : DataW H} {ps : List MemPlace} {r : Reach} {b0 : Nat}
    (hv : Value.okWide Tryz.prog W r b0 39 v) (h : DataW.Trod enc Tryz.prog W base sp hd 39 v d ps) : ∃ l, SlB W v l := by
  obtain ⟨a0, len, cap, rfl⟩ := okWide_slice Tryz.underlying39 hv
  obtain ⟨fuel, hf⟩ := h
  exact slB_cell hf
theorem nat_of_wf' {k : IntKind} {n : Int} (h : (Lit.int k n).wf = true) (hm : k.min = 0) : ∃ m : Nat, n = (m : Int) ∧ (m : Int) ≤ k.max := by
  simp only [Lit.wf, Bool.and_eq_true, decide_eq_true_eq] at h
  rw [hm] at h
  exact ⟨n.toNat, by omega, by omega⟩
theorem nat8_of_wf' {n : Int} (h : (Lit.int .u8 n).wf = true) : ∃ m : Nat, n = (m : Int) ∧ m < 256 := by
  obtain ⟨m, rfl, h1⟩ := nat_of_wf' h (by decide)
  rw [show IntKind.u8.max = 255 by decide] at h1
  exact ⟨m, rfl, by omega⟩
end Go.Proofs.YtnbdalohlldnbaaGreatDoor

set_option maxRecDepth 100000
namespace Go.Proofs.YtnbdalohlldnbaaGreatDoor
open Go.ChangeShapes Go.WideShapes Go.ChangeAt Go.RowKit Bd
theorem gHd : Tryz.prog.globalNamed "lazaret/bodies.headings" = some 0 := by kernel_rfl
theorem spot_noneB {w : World} {b o : Nat} {sp : Option Nat} {v : Value} (h : w.cell? ⟨b, o, sp⟩ = some v) : sp = none := by
  cases sp with
  | none => rfl
  | some x =>
    unfold World.cell? at h
    split at h <;> simp at h
theorem hd_of_laid {W : World} (h : Lib.VarReads Tryz.prog W "lazaret/bodies.headings" Rows.laid_lazaret_bodies_headings) : HdAt (fun _ => 0) W := by
  obtain ⟨g', t', cs, fuel, p, hg', ht', hvar, hd⟩ := h
  obtain rfl := Option.some.inj (gHd.symm.trans hg')
  obtain rfl := Option.some.inj ((show (Tryz.prog.globals[0]?).map (·.type) = some 40 by kernel_rfl).symm.trans ht')
  have hcell := World.var?_cell gHd hvar 0
  obtain ⟨a, cap, hcs, hcap, hall⟩ := open_row (Tryz.underlying40) (by kernel_rfl) hd
  obtain ⟨b, o, sp⟩ := a
  have hc0 : cs[0]? = some (.slice (some ⟨b, o, sp⟩) 6 cap) := by
    rw [← Array.getElem?_toList, hcs]; rfl
  have hstr : ∀ j, j < 6 → ∃ s : ByteArray, W.cell? ((⟨b, o, sp⟩ : Addr).add j) = some (.string s) ∧ s.data.toList = (headS.getD j ByteArray.empty).data.toList := by
    intro j hj
    obtain ⟨v, n, q, hv, ht⟩ := hall j (.lit (.string (headS.getD j ByteArray.empty).data.toList)) (by
      match j, hj with
      | 0, _ => rfl
      | 1, _ => rfl
      | 2, _ => rfl
      | 3, _ => rfl
      | 4, _ => rfl
      | 5, _ => rfl)
    obtain ⟨s, hs, hx, _⟩ := DataW.trod_string (Tryz.underlying9) ht
    obtain rfl : v = .string s := by simpa using hs
    refine ⟨s, hv, ?_⟩
    simp only [Prod.mk.injEq, DataW.lit.injEq, Lit.string.injEq] at hx
    exact hx.1.symm
  obtain ⟨s0, hs0, _⟩ := hstr 0 (by omega)
  have hs0 : W.cell? ⟨b, o, sp⟩ = some (.string s0) := by simpa [Addr.add] using hs0
  obtain rfl := spot_noneB hs0
  refine ⟨b, o, cap, by rw [hcell]; exact hc0, hcap, fun j hj => ?_, rfl, rfl⟩
  obtain ⟨s, hs, he⟩ := hstr j hj
  rw [show (⟨b, o + j, none⟩ : Addr) = (⟨b, o, none⟩ : Addr).add j by simp [Addr.add], hs]
  rw [show s = headS.getD j ByteArray.empty from ByteArray.ext (Array.toList_inj.1 he)]
theorem e3_row {W : World} (h : laidMetH Tryz.prog Rows.bodiesNoneRow.laid W) (hsh : W.ShapedOpen Tryz.prog) : E3 W :=
  ⟨e2_row h hsh, hd_of_laid (laid_reads h (.tail _ (.tail _ (.tail _ (.tail _ (.head _))))) rfl)⟩
end Go.Proofs.YtnbdalohlldnbaaGreatDoor

namespace Go.Proofs.YtnbdalohlldnbaaGreatDoor.bodiesParagraphs
open Go.ChangeShapes Go.WideShapes Go.ChangeAt Go.RowKit Go.Proofs.YtnbdalohlldnbaaGreatDoor

theorem walk (v0 : Value) (l0 : List UInt8) (w : World) (i0 : SlB w v0 l0) (hE : E3 w) : Calls Tryz.prog 5 #[v0] w (RBool true w) := bodiesParagraphs_any v0 l0 w i0 hE

theorem env {W : World} (h : laidMetH Tryz.prog Rows.bodiesNoneRow.laid W) (hsh : W.ShapedOpen Tryz.prog) : E3 W := e3_row h hsh

set_option maxRecDepth 100000 in
/-- WHAT THE WALK GIVES, FOR EVERY ARGUMENT AND EVERY WORLD THAT HOLDS WHAT THE ROW LISTS. -/
theorem contract (H : Type) (enc : TypeId × Value → H) (W : World) (base : Nat) (args : Array Value) (ds gs : List (DataW H)) (before : List MemPlace)
    (hval : ∀ (j : Nat) t v, Tryz.f5.params[j]? = some t → args[j]? = some v → Value.okWide Tryz.prog W .any base t v)
    (hW : DataW.Whole enc Tryz.prog Tryz.f5.params.toList Rows.bodiesParagraphsSpec.vars false W args.toList ds gs before) (hL : laidMetH Tryz.prog Rows.bodiesParagraphsRow.laid W) (hsh : W.ShapedOpen Tryz.prog) :
    Calls Tryz.prog 5 args W fun e W' => ∃ v, e = .returned v ∧ Rows.bodiesParagraphsSpec.post enc Tryz.prog Tryz.f5 false true false false W args v W' := by
  have hW' := hW
  obtain ⟨p, q, hA0, hV, rfl, hfz, hnd⟩ := hW
  have hA : DataW.TrodAll enc Tryz.prog W 0 (fun _ => true) true Tryz.f5.params.toList args.toList ds p := hA0
  rw [Tryz.params5] at hA hval
  have hAk := hA
  have hlt : ∀ x ∈ p, x.block < W.heap.size := fun x hx => hW'.lt x (List.mem_append_left _ hx)
  obtain ⟨v0, d0, rfl, rfl, h0⟩ := trodAll_one hA
  obtain ⟨rfl, rfl⟩ := trodVars_none hV
  obtain ⟨l0, i0⟩ := slB_of (hval 0 39 v0 rfl rfl) h0
  clear hA0
  refine (walk v0 l0 W i0 (env hL hsh)).mono fun e W' hr => ?_
  obtain ⟨he, hb⟩ : e = .returned (.bool true) ∧ Below W.heap.size W W' := hr
  subst he
  refine ⟨_, rfl, _, _, _, [], p, [], hW', ?_, ?_, ?_, hb.frame _, ?_⟩
  · exact trodAll_mk1 (shut_bool Tryz.underlying4 true)
  · exact trodAll_below hb (by decide +kernel) hAk hlt
  · rfl
  · exact fun h => by cases h

theorem met (os : Os) (args : Array Value) : laidMetH Tryz.prog Rows.bodiesParagraphsRow.laid ((startU os).forCall (fun _ _ => 0) ⟨#[], args, []⟩).memory := metU os args
theorem reads (os : Os) {H : Type} (enc : TypeId × Value → H) : ∃ places, DataW.whole enc Tryz.prog ((startU os).forCall (fun _ _ => 0) ⟨#[], #[.slice none 0 0], []⟩).memory Tryz.f5.params.toList Rows.bodiesParagraphsSpec.vars false #[Value.slice none 0 0].toList 8 = some ([.nil], [], places) :=
  ⟨[], by kernel_rfl⟩

set_option maxRecDepth 100000 in
theorem lifted (os : Os) (started : os.Started) (H : Type) (enc : TypeId × Value → H) (F : Stop.Interp) :
    ReturnsInHanded {} Tryz.checked os 5 .any ((OpenSpec.ofChange Rows.bodiesParagraphsSpec).preRow enc Tryz.prog Tryz.f5 Rows.bodiesParagraphsRow.domain false Rows.bodiesParagraphsRow.laid) (((OpenSpec.ofChange Rows.bodiesParagraphsSpec).at F).post enc Tryz.prog Tryz.f5 false true false false) := by
  obtain ⟨places, hx⟩ := reads os enc
  refine returnsInHanded_of_row (C := Tryz.checked) (s := OpenSpec.ofChange Rows.bodiesParagraphsSpec) ownU started (by kernel_rfl) Tryz.func5
    (witness_row_atRef (enc := enc) (C := Tryz.checked) false (startU os) #[.slice none 0 0] rfl (by kernel_rfl) (by kernel_rfl) (by kernel_rfl)
      (OpenSpec.preRow_of_cond 8 hx (by kernel_rfl) (fun k hk => by cases hk) (by kernel_rfl) (met os _))) ?_
  intro W base args ds gs before hval hW _ _ _ hL hsh _
  exact contract H enc W base args ds gs before hval hW hL hsh

theorem c1 : Rows.bodiesParagraphsRow.wf (OpenSpec.ofChange Rows.bodiesParagraphsSpec) = true := by kernel_rfl
theorem c2 : namedTie Tryz.prog Rows.bodiesParagraphsRow.named Rows.bodiesParagraphsSpec.vars = true := by kernel_rfl
theorem c3 : (Rows.bodiesParagraphsRow.inPlace == Tryz.prog.inPlace 5) = true := by kernel_rfl
theorem c4 : (Rows.bodiesParagraphsRow.unfollowed == Tryz.prog.unfollowed 5) = true := by kernel_rfl
theorem c5 : (Rows.bodiesParagraphsRow.recurses == Tryz.prog.recurses 5) = true := by kernel_rfl
theorem c6 : (Rows.bodiesParagraphsRow.named == Tryz.prog.varsNamed 5) = true := by kernel_rfl
theorem c7 : (Rows.bodiesParagraphsRow.lifted == Tryz.prog.liftsFinal) = true := liftU
theorem c8 : (Tryz.prog.make == some Rows.bodiesParagraphsRow.make) = true := makeU
theorem c9 : (Rows.bodiesParagraphsRow.plainKeys == Tryz.prog.plainKeys) = true := keysU
theorem closed : joinedFacts Tryz.prog 5 Tryz.f5 Rows.bodiesParagraphsSpec Rows.bodiesParagraphsRow = true := by
  unfold joinedFacts
  repeat' (with_reducible refine andI ?_ ?_)
  all_goals first
    | with_reducible exact c1 | with_reducible exact laidOut | with_reducible exact mapsU | with_reducible exact c2 | with_reducible exact c3 | with_reducible exact c4 | with_reducible exact c5 | with_reducible exact c6
    | with_reducible exact c9 | with_reducible exact heardU | with_reducible exact mayU | with_reducible exact c7 | with_reducible exact c8
    | kernel_rfl
set_option maxRecDepth 100000 in
theorem said : Rows.BodiesParagraphsSaid :=
  OpenClaim.holds_of_cond 5 Tryz.f5 rfl rfl rfl rfl rfl rfl rfl ⟨rfl, rfl, rfl, rfl, rfl⟩ rfl rfl rfl rfl rfl (by kernel_rfl) Tryz.func5 closed
    (of_decide_eq_true (by kernel_rfl)) (by unfold Func.isWrapper; first | (rw [if_pos (by decide +kernel)]; kernel_rfl) | (rw [if_neg (by decide +kernel)]; exact ⟨rfl, rfl⟩))
    (fun os started H enc _ F => by rw [OpenClaim.pre_eq_preRow]; exact lifted os started H enc F)

theorem plain (f : FuncId) (fn : Func) (hf : Tryz.pinned.checked.prog.funcNamed "lazaret/lazaretlaw20.BodiesParagraphs" = some f) (hfn : Tryz.pinned.checked.prog.funcs[f]? = some fn) :
    false = Tryz.pinned.checked.prog.looks [] ∧ ∀ (j : Nat) t, fn.params[j]? = some t → Tryz.pinned.checked.prog.wantsStandIn t = false := by
  obtain rfl : f = 5 := Option.some.inj ((show Tryz.prog.funcNamed "lazaret/lazaretlaw20.BodiesParagraphs" = some 5 by kernel_rfl).symm.trans hf) |>.symm
  obtain rfl : fn = Tryz.f5 := (Option.some.inj (Tryz.func5.symm.trans hfn)).symm
  refine ⟨by kernel_rfl, fun j t ht => ?_⟩
  rw [Tryz.params5] at ht
  have hall : ∀ t ∈ (#[39] : Array TypeId), Tryz.prog.wantsStandIn t = false := by decide +kernel
  exact hall t (Array.mem_of_getElem? ht)

theorem card : Rows.BodiesParagraphsCardSaid :=
  Claim7.holds_tied_plain_at .later [] _ _ _ _ said (fun _ h => by cases h) (by kernel_rfl) (fun _ h => by cases h) bodiesParagraphs_row_tie rfl ⟨rfl, rfl⟩ (by kernel_rfl) rfl plain (by kernel_rfl)
end Go.Proofs.YtnbdalohlldnbaaGreatDoor.bodiesParagraphs
