/-
  The reference's state (lazaretref17.S): how it lies; New; what only reads.
  The reference's state: Add. Printed by wip/mkref.py.
  The reference's state: Lay.
  The reference's state: Put, Insert, Imply.
-/
import Derived.Test.YtnbdalohlldnbaaGreatDoorM15
import Derived.BigQuiet
namespace Go.Proofs.YtnbdalohlldnbaaGreatDoor
open Go.RowKit Bd
attribute [local go_sem ↓] Go.wp_at_zero Go.wp_at_succ
abbrev srow (nv ov : Value) (md hd : Int) (qk : Bool) : Array Value := #[nv, ov, .slice none 0 0, .int .i64 md, .int .i64 0, .slice none 0 0, .int .i64 hd, .int .i64 (-1), .bool qk, .bool false, .bool false, .string ⟨#[]⟩, .bool false, .int .i64 0, .string ⟨#[]⟩, .int .i64 0]
/-- The reference's state as it is held: in blocks of labels of its own. -/
structure RfH (own : Nat → Nat) (w : World) (rp : Nat) (nv ov : Value) (l : List NB) (os : List Int) (md hd : Int) (qk : Bool) (N : Nat) : Prop where
  o : own rp = 1
  h : w.heap[rp]? = some (.cells (srow nv ov md hd qk) 75 (0, 0))
  s : SlO own 5 w 54 11 nv l.length (l.flatMap NB.row)
  p : SlO own 7 w 3 1 ov os.length (ints os)
  k : ∀ (j : Nat) (x : NB), l[j]? = some x → ∃ q, 8 ≤ q ∧ q < N ∧ SlO own q w 3 1 x.kv x.n.kids.length (ints x.n.kids)
  n9 : 9 ≤ N
theorem RfH.keep {c : Nat → Bool} {own own' : Nat → Nat} {w w' : World} {rp : Nat} {nv ov : Value} {l : List NB} {os : List Int} {md hd : Int} {qk : Bool} {N : Nat} (h : RfH own w rp nv ov l os md hd qk N) (hf : Fr c own own' w w') (h1 : c 1 = false) (h5 : c 5 = false) (h7 : c 7 = false) (h4 : ∀ q, 8 ≤ q → q < N → c q = false) : RfH own' w' rp nv ov l os md hd qk N :=
  ⟨(hf.old rp (row_lt h.h)).trans h.o, hf.keep h.h (by rw [h.o]; exact h1), h.s.keep hf h5, h.p.keep hf h7, fun j x hj => by
    obtain ⟨q, q1, q2, q3⟩ := h.k j x hj
    exact ⟨q, q1, q2, q3.keep hf (h4 q q1 q2)⟩, h.n9⟩
theorem RfH.below {own : Nat → Nat} {w w' : World} {rp : Nat} {nv ov : Value} {l : List NB} {os : List Int} {md hd : Int} {qk : Bool} {N : Nat} (h : RfH own w rp nv ov l os md hd qk N) (hL : Lbl own w) (hb : Below w.heap.size w w') : RfH own w' rp nv ov l os md hd qk N :=
  h.keep (c := fun _ => false) (Fr.of_below hb hL) rfl rfl rfl (fun _ _ _ => rfl)
theorem RfH.cells {own : Nat → Nat} {w : World} {rp : Nat} {nv ov : Value} {l : List NB} {os : List Int} {md hd : Int} {qk : Bool} {N : Nat} (h : RfH own w rp nv ov l os md hd qk N) {j : Nat} {x : NB} (hj : l[j]? = some x) : ∃ g cap, nv = .slice (some ⟨g, 0, none⟩) l.length cap ∧ l.length ≤ cap ∧ own g = 5 ∧ g < w.heap.size ∧ ∀ k u, x.row[k]? = some u → w.cell? ⟨g, j * 11 + k, none⟩ = some u := by
  obtain ⟨g, cap, e, hc, _⟩ := h.s.1.cell (nrows_at l j x hj 0 _ rfl)
  refine ⟨g, cap, e, hc, (h.s.2 g (by rw [e]; rfl)).1, (h.s.2 g (by rw [e]; rfl)).2, fun k u hk => ?_⟩
  obtain ⟨g', cap', e', _, hu⟩ := h.s.1.cell (nrows_at l j x hj k u hk)
  rw [e] at e'
  injection e' with e1 e2 e3
  injection e1 with e1
  injection e1 with e1
  subst e1
  exact hu
abbrev doc0 : NB := ⟨root0, .slice none 0 0⟩
abbrev doc1 : NB := ⟨{ root0 with parent := -1 }, .slice none 0 0⟩
set_option maxHeartbeats 1000000 in
set_option maxRecDepth 100000 in
theorem rNew_any {own : Nat → Nat} {w : World} (hL : Lbl own w) : Calls Tryz.prog 36 #[] w fun e w' => ∃ own' nv, e = .returned (.pointer (some ⟨w.heap.size + 1, 0, none⟩)) ∧ RfH own' w' (w.heap.size + 1) nv (.slice none 0 0) [doc1] [] 0 (-1) false 9 ∧ Fr cBu own own' w w' := by
  obtain ⟨W1, hW1⟩ : ∃ W, W = w.alloc (.cells doc1.row.toArray 54) := ⟨_, rfl⟩
  obtain ⟨W2, hW2⟩ : ∃ W, W = W1.alloc (.cells (srow (.slice (some ⟨w.heap.size, 0, none⟩) 1 1) (.slice none 0 0) 0 (-1) false) 75) := ⟨_, rfl⟩
  have hs1 : W1.heap.size = w.heap.size + 1 := by rw [hW1]; simp
  have hs2 : W2.heap.size = w.heap.size + 2 := by rw [hW2]; simp [hs1]
  have hb1 : Below w.heap.size w W1 := by rw [hW1]; exact (Below.refl _ w).alloc (Nat.le_refl _) _
  have hb2 : Below W1.heap.size W1 W2 := by rw [hW2]; exact (Below.refl _ _).alloc (Nat.le_refl _) _
  have r1 : W1.heap[w.heap.size]? = some (.cells doc1.row.toArray 54 (0, 0)) := by rw [hW1]; exact heap_new _ _
  have r1' := (hb2.block _ (row_lt r1)).trans r1
  have r2 : W2.heap[w.heap.size + 1]? = some (.cells (srow (.slice (some ⟨w.heap.size, 0, none⟩) 1 1) (.slice none 0 0) 0 (-1) false) 75 (0, 0)) := by rw [hW2, ← hs1]; exact heap_new _ _
  have F1 : Fr cBu own (lab own w.heap.size 5) w W1 := (Fr.of_below hb1 hL).label (by omega) 5
  have F2 : Fr cBu (lab own w.heap.size 5) (lab (lab own w.heap.size 5) W1.heap.size 1) W1 W2 := (Fr.of_below hb2 F1.lbl).label (by omega) 1
  have HR : Hid (RfH (lab (lab own w.heap.size 5) W1.heap.size 1) W2 (w.heap.size + 1) (.slice (some ⟨w.heap.size, 0, none⟩) 1 1) (.slice none 0 0) [doc1] [] 0 (-1) false 9 ∧ Fr cBu own (lab (lab own w.heap.size 5) W1.heap.size 1) w W2) := Lib.hid ⟨⟨by rw [hs1, lab_self], r2, ⟨⟨rfl, Or.inr ⟨w.heap.size, 1, _, rfl, r1', Nat.le_refl _, by decide, by decide, rfl⟩⟩, fun g hg => by
      obtain rfl : w.heap.size = g := by injection hg
      exact ⟨by rw [lab_other _ _ (by omega), lab_self], by omega⟩⟩, SlO.nil .., fun j x hj => by
      cases j with
      | zero => obtain rfl := Option.some.inj hj; exact ⟨8, by omega, by omega, SlO.nil ..⟩
      | succ j => simp at hj, Nat.le_refl _⟩, F1.trans F2⟩
  have HW : Hid (W2 = (w.alloc (.cells doc1.row.toArray 54)).alloc (.cells (srow (.slice (some ⟨w.heap.size, 0, none⟩) 1 1) (.slice none 0 0) 0 (-1) false) 75)) := Lib.hid (by rw [hW2, hW1])
  clear hW1 hW2 hs1 hs2 hb1 hb2 r1 r1' r2 F1 F2 hL
  go_enter Tryz.func36, Tryz.ntmps36
  go_wp2_with fail
  rw [show ((w.alloc (.cells #[Value.int IntKind.i64 1, Value.string { data := #[] }, Value.string { data := #[] }, Value.int IntKind.i64 0, Value.slice none 0 0, Value.bool false, Value.int IntKind.i64 (-1), Value.int IntKind.i64 0, Value.slice none 0 0, Value.int IntKind.i64 (-1), Value.int IntKind.i64 (-1)] 54)).alloc (.cells (srow (.slice (some ⟨w.heap.size, 0, none⟩) 1 1) (.slice none 0 0) 0 (-1) false) 75)) = W2 from HW.out.symm]
  go_ret
  exact ⟨_, _, rfl, HR.out.1, HR.out.2⟩
section
variable {own : Nat → Nat} {w : World} {rp : Nat} {nv ov : Value} {l : List NB} {os : List Int} {md hd : Int} {qk : Bool} {N : Nat}
set_option maxHeartbeats 1000000 in
set_option maxRecDepth 100000 in
theorem rTop_any (h : RfH own w rp nv ov l os md hd qk N) (hl : os.length ≤ 1000) : Calls Tryz.prog 198 #[.pointer (some ⟨rp, 0, none⟩)] w fun e w' => e = .returned (.int .i64 (os.getLast?.getD (-1))) ∧ Below w.heap.size w w' := by
  have c1 := rowAt h.h 1 ov rfl
  cases hq : os.getLast? with
  | none =>
    have : os = [] := List.getLast?_eq_none_iff.1 hq
    subst this
    obtain ⟨a, c, rfl, _⟩ := h.p.1.form
    dsimp only [List.length_nil] at c1
    clear h hq hl
    go_enter Tryz.func198, Tryz.ntmps198
    go_wp2_with fail
    go_ret
    exact ⟨rfl, Below.refl _ _⟩
  | some z =>
    have h0 : os.length ≠ 0 := by intro e; rw [List.length_eq_zero_iff.1 e] at hq; cases hq
    have hz : (ints os)[os.length - 1]? = some (.int .i64 z) := by
      rw [List.getLast?_eq_getElem?] at hq
      unfold ints
      rw [List.getElem?_map, hq]; rfl
    obtain ⟨g, cap, rfl, hcap, hu⟩ := h.p.1.cell hz
    generalize os.length = n at *
    obtain ⟨m, rfl⟩ : ∃ m, n = m + 1 := ⟨n - 1, by omega⟩
    rw [Nat.add_sub_cancel] at hu
    have e1 : ((m + 1 : Nat) : Int) - 1 = (m : Int) := by omega
    have e2 : (0 : Int) ≤ (m : Int) := by omega
    have e3 : (m : Int) < ((m + 1 : Nat) : Int) := by omega
    clear h hq h0 hz
    go_enter Tryz.func198, Tryz.ntmps198
    go_upto_region 3 with fail
    go_quiet (fail)
    go_wp2_with fail
    go_ret
    exact ⟨rfl, by first | exact below_drewN _ _ | exact below_drewN _ _ _ | apply below_drewN⟩
set_option maxHeartbeats 1000000 in
set_option maxRecDepth 100000 in
theorem rHere_any (h : RfH own w rp nv ov l os md hd qk N) (hl : os.length ≤ 1000) (hin : ∀ z ∈ os, 0 ≤ z ∧ z ≤ 1000) : Calls Tryz.prog 165 #[.pointer (some ⟨rp, 0, none⟩)] w fun e w' => e = .returned (.int .i64 (max (os.getLast?.getD (-1)) 0)) ∧ Below w.heap.size w w' := by
  have cT := Lib.hid (rTop_any h hl)
  have hb : -1 ≤ os.getLast?.getD (-1) ∧ os.getLast?.getD (-1) ≤ 1000 := by
    cases hq : os.getLast? with
    | none => exact ⟨Int.le_refl _, by decide⟩
    | some z => have := hin z (List.mem_of_getLast? hq); exact ⟨by show -1 ≤ z; omega, by show z ≤ 1000; omega⟩
  generalize os.getLast?.getD (-1) = z at *
  clear h hl hin
  by_cases hz : z < 0
  · have hm : max z 0 = 0 := by omega
    rw [hm]
    go_enter Tryz.func165, Tryz.ntmps165
    go_wp2_with fail
    refine cT.out.mono ?_
    rintro e w2 ⟨rfl, hb2⟩
    go_wp2_with fail
    go_ret
    exact ⟨rfl, hb2⟩
  · have hm : max z 0 = z := by omega
    rw [hm]
    go_enter Tryz.func165, Tryz.ntmps165
    go_wp2_with fail
    refine cT.out.mono ?_
    rintro e w2 ⟨rfl, hb2⟩
    go_wp2_with fail
    go_ret
    exact ⟨rfl, hb2⟩
set_option maxHeartbeats 2000000 in
set_option maxRecDepth 100000 in
theorem rHTML_no (h : RfH own w rp nv ov l os md hd qk N) {j : Nat} {x : NB} (hj : l[j]? = some x) (nm : Ba) (hn : (x.n.name == nm) = false) : Calls Tryz.prog 195 #[.pointer (some ⟨rp, 0, none⟩), .int .i64 (j : Int), .string nm] w (RB false w) := by
  have c0 := rowAt h.h 0 nv rfl
  obtain ⟨g, cap, rfl, hcap, _, _, hc⟩ := h.cells hj
  obtain ⟨k0, k1, k2, k3, k4, k5, k6, k7, k8, k9, k10⟩ := row11 hc
  have hlt := (List.getElem?_eq_some_iff.1 hj).1
  obtain ⟨⟨kd, name, tx0, sp, dp, pr, cn, ks, fr, tt⟩, kv⟩ := x
  dsimp only at hn k0 k1 k2 k3 k4 k5 k6 k7 k8 k9 k10
  clear k2 k4 k5 k6 k7 k8 k9 k10
  rw [← text_beq2] at hn
  generalize l.length = n at *
  have e2 : (0 : Int) ≤ (j : Int) := by omega
  have e3 : (j : Int) < (n : Int) := by omega
  obtain ⟨q1, h1q⟩ : ∃ q, (kd == 3) = q := ⟨_, rfl⟩
  obtain ⟨q3, h3q⟩ : ∃ q, (sp == 0) = q := ⟨_, rfl⟩
  clear h hj hc hlt hcap
  cases q1 with
  | false =>
    go_enter Tryz.func195, Tryz.ntmps195
    go_wp2_with fail
    go_ret
    exact ⟨rfl, rfl⟩
  | true =>
  cases q3 with
  | false =>
    go_enter Tryz.func195, Tryz.ntmps195
    go_wp2_with fail
    go_ret
    exact ⟨rfl, rfl⟩
  | true =>
    go_enter Tryz.func195, Tryz.ntmps195
    go_wp2_with fail
    go_ret
    exact ⟨rfl, rfl⟩
set_option maxHeartbeats 1000000 in
set_option maxRecDepth 100000 in
theorem rabove_any (h : RfH own w rp nv ov l os md hd qk N) {j : Nat} {x : NB} (hj : l[j]? = some x) (hk : (x.n.kind == 6) = false) : Calls Tryz.prog 216 #[.pointer (some ⟨rp, 0, none⟩), .int .i64 (j : Int)] w (RI x.n.parent w) := by
  have c0 := rowAt h.h 0 nv rfl
  obtain ⟨g, cap, rfl, hcap, _, _, hc⟩ := h.cells hj
  obtain ⟨k0, k1, k2, k3, k4, k5, k6, k7, k8, k9, k10⟩ := row11 hc
  have hlt := (List.getElem?_eq_some_iff.1 hj).1
  obtain ⟨⟨kd, name, tx0, sp, dp, pr, cn, ks, fr, tt⟩, kv⟩ := x
  dsimp only at hk k0 k1 k2 k3 k4 k5 k6 k7 k8 k9 k10 ⊢
  clear k1 k2 k3 k4 k5 k7 k8 k9 k10
  generalize l.length = n at *
  have e2 : (0 : Int) ≤ (j : Int) := by omega
  have e3 : (j : Int) < (n : Int) := by omega
  clear h hj hc hlt hcap
  go_enter Tryz.func216, Tryz.ntmps216
  go_wp2_with fail
  go_ret
  exact ⟨rfl, rfl⟩
set_option maxHeartbeats 1000000 in
set_option maxRecDepth 100000 in
theorem rOff_any (h : RfH own w rp nv ov l os md hd qk N) {j : Nat} {x : NB} (hj : l[j]? = some x) (hp : x.n.parent < 0) : Calls Tryz.prog 217 #[.pointer (some ⟨rp, 0, none⟩), .int .i64 (j : Int)] w fun e w' => e = .returned (.tuple #[]) ∧ w = w' := by
  have c0 := rowAt h.h 0 nv rfl
  obtain ⟨g, cap, rfl, hcap, _, _, hc⟩ := h.cells hj
  obtain ⟨k0, k1, k2, k3, k4, k5, k6, k7, k8, k9, k10⟩ := row11 hc
  have hlt := (List.getElem?_eq_some_iff.1 hj).1
  obtain ⟨⟨kd, name, tx0, sp, dp, pr, cn, ks, fr, tt⟩, kv⟩ := x
  dsimp only at hp k0 k1 k2 k3 k4 k5 k6 k7 k8 k9 k10
  clear k0 k1 k2 k3 k4 k5 k7 k8 k9 k10
  generalize l.length = n at *
  have e2 : (0 : Int) ≤ (j : Int) := by omega
  have e3 : (j : Int) < (n : Int) := by omega
  clear h hj hc hlt hcap
  go_enter Tryz.func217, Tryz.ntmps217
  go_wp2_with fail
  refine bodyPost_ret (results_none rfl _ _ _) rfl ?_
  exact ⟨rfl, rfl⟩
set_option maxHeartbeats 1000000 in
set_option maxRecDepth 100000 in
theorem rPlace_any (h : RfH own w rp nv ov l os md hd qk N) {j : Nat} {x : NB} (hj : l[j]? = some x) (hn : (x.n.name == templateS) = false) : Calls Tryz.prog 196 #[.pointer (some ⟨rp, 0, none⟩), .int .i64 (j : Int)] w fun e w' => e = .returned (.tuple #[.int .i64 (j : Int), .int .i64 (-1)]) ∧ w = w' := by
  have c9 := rowAt h.h 9 (.bool false) rfl
  have cH := Lib.hid (rHTML_no h hj templateS hn)
  clear h hj hn
  go_enter Tryz.func196, Tryz.ntmps196
  go_wp2_with fail
  refine cH.out.mono ?_
  rintro e w2 ⟨rfl, rfl⟩
  go_wp2_with fail
  go_ret2
  exact ⟨rfl, rfl⟩
end
end Go.Proofs.YtnbdalohlldnbaaGreatDoor

namespace Go.Proofs.YtnbdalohlldnbaaGreatDoor
open Go.RowKit Bd
attribute [local go_sem ↓] Go.wp_at_zero Go.wp_at_succ
theorem RfH.snoc {own own7 : Nat → Nat} {w w7 : World} {rp : Nat} {nv ov v7 : Value} {l : List NB} {os : List Int} {md hd : Int} {qk : Bool} {N : Nat} {y : NB} (h : RfH own w rp nv ov l os md hd qk N) (hs7 : SlO own7 5 w7 54 11 v7 (l ++ [y]).length ((l ++ [y]).flatMap NB.row)) (hf : Fr (fun k => k == 5) own own7 w w7) (hy : SlO own7 8 w7 3 1 y.kv y.n.kids.length (ints y.n.kids)) :
    RfH own7 (w7.setCell ⟨rp, 0, none⟩ v7) rp v7 ov (l ++ [y]) os md hd qk N ∧ Fr cBu own own7 w (w7.setCell ⟨rp, 0, none⟩ v7) := by
  have ho : own7 rp = 1 := by rw [hf.old rp (row_lt h.h)]; exact h.o
  have hA7 := hf.keep h.h (by rw [h.o]; rfl)
  have hf2 : Fr (fun k => k == 1) own7 own7 w7 (w7.setCell ⟨rp, 0, none⟩ v7) := Fr.setCell hf.lbl (p := ⟨rp, 0, none⟩) v7 (by simp [ho])
  refine ⟨⟨ho, row_setC hA7 0 v7, hs7.keep hf2 rfl, (h.p.keep hf rfl).keep hf2 rfl, fun j x hj => ?_, h.n9⟩, (hf.mono (fun x hx => ?_)).trans (hf2.mono (fun x hx => ?_))⟩
  · rcases Nat.lt_or_ge j l.length with h1 | h1
    · rw [List.getElem?_append_left h1] at hj
      obtain ⟨q, q1, q2, q3⟩ := h.k j x hj
      exact ⟨q, q1, q2, (q3.keep hf (beq_eq_false_iff_ne.2 (by omega))).keep hf2 (beq_eq_false_iff_ne.2 (by omega))⟩
    · rw [List.getElem?_append_right h1] at hj
      have hj0 : j = l.length := by have := (List.getElem?_eq_some_iff.1 hj).1; simp at this; omega
      subst hj0
      rw [Nat.sub_self] at hj
      obtain rfl : y = x := by simpa using hj
      exact ⟨8, by omega, h.n9, hy.keep hf2 rfl⟩
  · cases hx5 : (x == 5) with
    | false => rfl
    | true => rw [beq_iff_eq.1 hx5] at hx; cases hx
  · cases hx5 : (x == 1) with
    | false => rfl
    | true => rw [beq_iff_eq.1 hx5] at hx; cases hx
/-- What the reference's acts answer. -/
def RRf (own : Nat → Nat) (rp : Nat) (r : Value) (l : List NB) (os : List Int) (md hd : Int) (qk : Bool) (w : World) (e : Ending) (w' : World) : Prop := e = .returned r ∧ ∃ own' nv ov N, RfH own' w' rp nv ov l os md hd qk N ∧ Fr cBu own own' w w'
set_option maxHeartbeats 2000000 in
set_option maxRecDepth 100000 in
theorem rAdd_any {own : Nat → Nat} {w : World} {rp : Nat} {nv ov : Value} {l : List NB} {os : List Int} {md hd : Int} {qk : Bool} {N : Nat} (x : NB) (h : RfH own w rp nv ov l os md hd qk N) (hL : Lbl own w) (hl : l.length ≤ 1000) (ht : (x.n.name == templateS) = false) (h1 : x.kv.oneCell' = true) :
    Calls Tryz.prog 163 #[.pointer (some ⟨rp, 0, none⟩), x.val] w (RRf own rp (.int .i64 (l.length : Int)) (l ++ [⟨bare x.n, .slice none 0 0⟩]) os md hd qk w) := by
  obtain ⟨⟨kd, nm, tx, sp, dp, pr, cn, ks, fr, tt⟩, kv⟩ := x
  dsimp only at ht h1
  obtain ⟨W1, hW1⟩ : ∃ W, W = w.alloc (.cells #[.int .i64 kd, .string nm, .string tx, .int .i64 sp, .slice none 0 0, .bool dp, .int .i64 pr, .int .i64 cn, kv, .int .i64 fr, .int .i64 tt] 54) := ⟨_, rfl⟩
  obtain ⟨b, hbb⟩ : ∃ b, b = w.heap.size := ⟨_, rfl⟩
  have hb1 : Below w.heap.size w W1 := by rw [hW1]; exact (Below.refl _ w).alloc (Nat.le_refl _) _
  have hb3 : W1.heap[b]? = some (.cells #[.int .i64 kd, .string nm, .string tx, .int .i64 sp, .slice none 0 0, .bool dp, .int .i64 pr, .int .i64 cn, kv, .int .i64 fr, .int .i64 tt] 54 (0, 0)) := by rw [hW1, hbb]; exact heap_new _ _
  have hA := h.below hL hb1
  have hF : Fr cBu own own w W1 := Fr.of_below hb1 hL
  have hob : own b = 0 := hL b (by omega)
  obtain ⟨av, cv, hnv, _⟩ := hA.s.1.form
  subst hnv
  have c0 := rowAt hA.h 0 (.slice av l.length cv) rfl
  have d4 := rowAt hb3 4 (.slice none 0 0) rfl
  have d6 := rowAt hb3 6 (.int .i64 pr) rfl
  have d7 := rowAt hb3 7 (.int .i64 cn) rfl
  have d8 := rowAt hb3 8 kv rfl
  have z4 := frozen_row hb3 4
  have z6 := frozen_row hb3 6
  have z7 := frozen_row hb3 7
  have z8 := frozen_row hb3 8
  obtain ⟨W2, hW2⟩ : ∃ W, W = (((W1.setCell ⟨b, 6, none⟩ (.int .i64 (-1))).setCell ⟨b, 7, none⟩ (.int .i64 0)).setCell ⟨b, 8, none⟩ (.slice none 0 0)).setCell ⟨b, 4, none⟩ (.slice none 0 0) := ⟨_, rfl⟩
  have hle : w.heap.size ≤ b := by omega
  have hb2 : Below w.heap.size w W2 := by rw [hW2]; exact (((hb1.setCell (p := ⟨b, 6, none⟩) hle _).setCell (p := ⟨b, 7, none⟩) hle _).setCell (p := ⟨b, 8, none⟩) hle _).setCell (p := ⟨b, 4, none⟩) hle _
  have hb4 : W2.heap[b]? = some (.cells #[.int .i64 kd, .string nm, .string tx, .int .i64 sp, .slice none 0 0, .bool dp, .int .i64 (-1), .int .i64 0, .slice none 0 0, .int .i64 fr, .int .i64 tt] 54 (0, 0)) := by rw [hW2]; exact row_setC (row_setC (row_setC (row_setC hb3 6 _) 7 _) 8 _) 4 _
  have hA2 := h.below hL hb2
  have hF2 : Fr cBu own own w W2 := Fr.of_below hb2 hL
  have HW2 := Lib.hid hW2
  have HA2 := Lib.hid (⟨hb4, hA2, hF2⟩ : _ ∧ _ ∧ _)
  have HW1 := Lib.hid hW1
  have Hb := Lib.hid hbb
  have HT := Lib.hid ht
  have Hob := Lib.hid hob
  clear h ht hW1 hb1 hbb hob hW2 hle hb2 hb4 hA2 hF2 hA hF hb3
  show Calls _ _ #[_, .agg #[_, _, _, _, _, _, _, _, _, _, _]] _ _
  dsimp only
  go_enter Tryz.func163, Tryz.ntmps163
  go_upto_region 1 with fail
  rw [← HW1.out, ← Hb.out]
  go_upto_region 4 with fail
  rw [← HW2.out]
  clear c0 d4 d6 d7 d8 z4 z6 z7 z8 HW2
  obtain ⟨hb3, hA, hF⟩ := HA2.out
  clear HA2
  generalize hgn : (Value.slice av l.length cv) = nv at hA
  have Hgn := Lib.hid hgn
  clear hgn
  go_cut [] (fun wx => ∃ own7 v7, RfH own7 wx rp v7 ov (l ++ [⟨⟨kd, nm, tx, sp, dp, -1, 0, [], fr, tt⟩, .slice none 0 0⟩]) os md hd qk N ∧ Fr cBu own own7 w wx)
  case first =>
    have hd := (Below.refl W2.heap.size W2).drew
    replace hA := hA.below hF.lbl hd
    replace hb3 := (hd.block _ (row_lt hb3)).trans hb3
    replace hF := hF.trans (Fr.of_below hd hF.lbl)
    clear hd
    refine wp_region_held_drew (S := fun _ => True) (by kernel_rfl) (trivial) (fun hHeld => ?_)
    generalize W2.drew = V at hHeld hA hF hb3 ⊢
    refine TkH 0 18 ?_; refine TkH 1 19 ?_; refine TkH 2 20 ?_; refine TkH 3 21 ?_
    (try simp only [Act.put]); (try simp only [List.setIfInBounds_toArray]); (try simp only [List.set_cons_zero, List.set_cons_succ])
    refine wpAnyH_ready (rs := [4, 5]) (by decide +kernel) (by simp) ?_
    refine AllReadyH.cons rfl (fun K hK => ?_) (AllReadyH.cons rfl (fun K hK => ?_) AllReadyH.nil)
    have c0 := rowAt hA.h 0 nv rfl
    go_simp
    refine hK.out _ _ trivial (fun hSx => ?_)
    clear hSx hK K
    clear c0
    (try simp only [Act.put]); (try simp only [List.setIfInBounds_toArray]); (try simp only [List.set_cons_zero, List.set_cons_succ])
    rotate_left
    rw [if_pos (by rfl)]
    refine wp_load_row 54 (.tmp 3) rfl b rfl 54 _ (0, 0) _ hb3 Tryz.underlying54 rfl nodeSize ?_
    refine hK.out _ _ trivial (fun hSx => ?_)
    clear hSx hK K
    (try simp only [Act.put]); (try simp only [List.setIfInBounds_toArray]); (try simp only [List.set_cons_zero, List.set_cons_succ])
    rotate_left
    all_goals first
      | (refine wpAnyH_ready (rs := [5]) (by decide +kernel) (by simp) ?_
         refine AllReadyH.cons rfl (fun K hK => ?_) AllReadyH.nil
         rw [if_pos (by rfl)]
         refine wp_load_row 54 (.tmp 3) rfl b rfl 54 _ (0, 0) _ hb3 Tryz.underlying54 rfl nodeSize ?_
         refine hK.out _ _ trivial (fun hSx => ?_)
         clear hSx hK K
         (try simp only [Act.put]); (try simp only [List.setIfInBounds_toArray]); (try simp only [List.set_cons_zero, List.set_cons_succ]))
      | skip
    all_goals first
      | (refine wpAnyH_ready (rs := [4, 6]) (by decide +kernel) (by simp) ?_
         refine AllReadyH.cons rfl (fun K hK => ?_) (AllReadyH.cons rfl (fun K hK => ?_) AllReadyH.nil)
         have c0 := rowAt hA.h 0 nv rfl
         go_simp
         refine hK.out _ _ trivial (fun hSx => ?_)
         clear hSx hK K
         clear c0
         (try simp only [Act.put]); (try simp only [List.setIfInBounds_toArray]); (try simp only [List.set_cons_zero, List.set_cons_succ])
         rotate_left
         go_simp
         obtain ⟨V9, hV9⟩ : ∃ U, U = V.alloc (.cells #[.int .i64 kd, .string nm, .string tx, .int .i64 sp, .slice none 0 0, .bool dp, .int .i64 (-1), .int .i64 0, .slice none 0 0, .int .i64 fr, .int .i64 tt] 54) := ⟨_, rfl⟩
         rw [← hV9]
         have hb9 : Below V.heap.size V V9 := by rw [hV9]; exact (Below.refl _ _).alloc (Nat.le_refl _) _
         have hc6 : V9.heap[V.heap.size]? = some (.cells #[.int .i64 kd, .string nm, .string tx, .int .i64 sp, .slice none 0 0, .bool dp, .int .i64 (-1), .int .i64 0, .slice none 0 0, .int .i64 fr, .int .i64 tt] 54 (0, 0)) := by rw [hV9]; exact heap_new _ _
         replace hA := hA.below hF.lbl hb9
         replace hb3 := (hb9.block _ (row_lt hb3)).trans hb3
         replace hF := hF.trans (Fr.of_below hb9 hF.lbl)
         refine hK.out _ _ trivial (fun hSx => ?_)
         clear hSx hK K
         clear hb9 hV9
         obtain ⟨g6, hgg⟩ : ∃ z, z = V.heap.size := ⟨_, rfl⟩
         rw [← hgg] at hc6 ⊢
         clear hgg
         clear V
         obtain ⟨V, rfl⟩ : ∃ U, U = V9 := ⟨_, rfl⟩
         (try simp only [Act.put]); (try simp only [List.setIfInBounds_toArray]); (try simp only [List.set_cons_zero, List.set_cons_succ])
         rotate_left)
      | skip
    all_goals first
      | (refine wpAnyH_ready (rs := [6]) (by decide +kernel) (by simp) ?_
         refine AllReadyH.cons rfl (fun K hK => ?_) AllReadyH.nil
         go_simp
         obtain ⟨V9, hV9⟩ : ∃ U, U = V.alloc (.cells #[.int .i64 kd, .string nm, .string tx, .int .i64 sp, .slice none 0 0, .bool dp, .int .i64 (-1), .int .i64 0, .slice none 0 0, .int .i64 fr, .int .i64 tt] 54) := ⟨_, rfl⟩
         rw [← hV9]
         have hb9 : Below V.heap.size V V9 := by rw [hV9]; exact (Below.refl _ _).alloc (Nat.le_refl _) _
         have hc6 : V9.heap[V.heap.size]? = some (.cells #[.int .i64 kd, .string nm, .string tx, .int .i64 sp, .slice none 0 0, .bool dp, .int .i64 (-1), .int .i64 0, .slice none 0 0, .int .i64 fr, .int .i64 tt] 54 (0, 0)) := by rw [hV9]; exact heap_new _ _
         replace hA := hA.below hF.lbl hb9
         replace hb3 := (hb9.block _ (row_lt hb3)).trans hb3
         replace hF := hF.trans (Fr.of_below hb9 hF.lbl)
         refine hK.out _ _ trivial (fun hSx => ?_)
         clear hSx hK K
         clear hb9 hV9
         obtain ⟨g6, hgg⟩ : ∃ z, z = V.heap.size := ⟨_, rfl⟩
         rw [← hgg] at hc6 ⊢
         clear hgg
         clear V
         obtain ⟨V, rfl⟩ : ∃ U, U = V9 := ⟨_, rfl⟩
         (try simp only [Act.put]); (try simp only [List.setIfInBounds_toArray]); (try simp only [List.set_cons_zero, List.set_cons_succ]))
      | skip
    all_goals first
      | (refine wpAnyH_ready (rs := [4]) (by decide +kernel) (by simp) ?_
         refine AllReadyH.cons rfl (fun K hK => ?_) AllReadyH.nil
         have c0 := rowAt hA.h 0 nv rfl
         go_simp
         refine hK.out _ _ trivial (fun hSx => ?_)
         clear hSx hK K
         clear c0
         (try simp only [Act.put]); (try simp only [List.setIfInBounds_toArray]); (try simp only [List.set_cons_zero, List.set_cons_succ]))
      | skip
    all_goals (
      refine wpAnyH_ready (rs := [7]) (by decide +kernel) (by simp) ?_
      refine AllReadyH.cons rfl (fun K hK => ?_) AllReadyH.nil
      rw [if_pos (by rfl)]
      refine op_append_node (.tmp 22) (.tmp 24) rfl rfl hF.lbl nv l rfl hA.s g6 1 ⟨⟨kd, nm, tx, sp, dp, -1, 0, [], fr, tt⟩, .slice none 0 0⟩ rfl hc6 rfl (by omega) ?_
      intro v7 V9 own7 hs7 hf7
      obtain ⟨a7, c7, hv7, _⟩ := hs7.1.form
      obtain ⟨n7, hn7⟩ : ∃ n, n = (l ++ [(⟨⟨kd, nm, tx, sp, dp, -1, 0, [], fr, tt⟩, .slice none 0 0⟩ : NB)]).length := ⟨_, rfl⟩
      rw [← hn7] at hv7
      subst hv7
      clear hn7
      obtain ⟨hA7, hF7⟩ := hA.snoc hs7 hf7 (SlO.nil _ _ _ _ _)
      replace hF := hF.trans hF7
      have c0 := rowAt (hf7.keep hA.h (by rw [hA.o]; rfl)) 0 nv rfl
      have z0 := frozen_row (hf7.keep hA.h (by rw [hA.o]; rfl)) 0
      refine hK.out _ _ trivial (fun hSx => ?_)
      clear hSx hK K
      clear hs7 hf7 hF7 hA hc6 hb3
      clear V
      obtain ⟨V, rfl⟩ : ∃ U, U = V9 := ⟨_, rfl⟩
      (try simp only [Act.put]); (try simp only [List.setIfInBounds_toArray]); (try simp only [List.set_cons_zero, List.set_cons_succ])
      focus (refine TkH 8 26 ?_; refine TkH 9 27 ?_)
      (try simp only [Act.put]); (try simp only [List.setIfInBounds_toArray]); (try simp only [List.set_cons_zero, List.set_cons_succ]))
    all_goals (
      refine wpAnyH_ready (rs := [10]) (by decide +kernel) (by simp) ?_
      refine AllReadyH.cons rfl (fun K hK => ?_) AllReadyH.nil
      go_simp
      generalize hV9 : V.setCell ⟨rp, 0, none⟩ (.slice a7 n7 c7) = V9 at *
      refine hK.out _ _ trivial (fun hSx => ?_)
      clear hSx hK K
      clear hV9 c0 z0
      clear V
      obtain ⟨V, rfl⟩ : ∃ U, U = V9 := ⟨_, rfl⟩
      (try simp only [Act.put]); (try simp only [List.setIfInBounds_toArray]); (try simp only [List.set_cons_zero, List.set_cons_succ]))
    all_goals (
      refine wpAnyH_done (by kernel_rfl) ?_ _
      go_wp2_with fail
      go_meet
      exact ⟨own7, _, hA7, hF⟩)

  case rest =>
  obtain ⟨own7, v7, hA7, hF7⟩ := hcut
  have cH := Lib.hid (rHTML_no (j := l.length) (x := ⟨⟨kd, nm, tx, sp, dp, -1, 0, [], fr, tt⟩, .slice none 0 0⟩) hA7 (by simp) templateS HT.out)
  have HA := Lib.hid (⟨hA7, hF7⟩ : _ ∧ _)
  clear hA7 hF7 hA hF hb3
  go_wp2_with fail
  refine cH.out.mono ?_
  rintro e w9 ⟨rfl, rfl⟩
  go_wp2_with fail
  go_ret
  exact ⟨rfl, own7, v7, _, _, HA.out.1, HA.out.2⟩
end Go.Proofs.YtnbdalohlldnbaaGreatDoor

namespace Go.Proofs.YtnbdalohlldnbaaGreatDoor
open Go.RowKit Bd
attribute [local go_sem ↓] Go.wp_at_zero Go.wp_at_succ
theorem eqF {a b : Nat} (h : a ≠ b) : (a == b) = false := beq_eq_false_iff_ne.2 h
theorem cBu_mono {q : Nat} (hq : 1 ≤ q) : ∀ y, cBu y = false → (y == q) = false := fun y hy => by
  cases h : (y == q) with
  | false => rfl
  | true =>
    obtain rfl := beq_iff_eq.1 h
    unfold cBu at hy
    simp at hy
    omega
theorem opl_append_int {w : World} {ops : Array Oper} {rest : List Oper} {o : Oper} {a : Act} {Q : Exit → Act → World → Prop} {own : Nat → Nat} (hgd : o.guard = none) (s x : Operand)
    (ho : o.op = .call { callee := .builtin .append, args := #[s, x], argTypes := #[29, 29] }) (hty : o.type = 29) (hL : Lbl own w) (q : Nat) (v : Value) (n : Nat) (xs : List Int) (hs : a.eval s = v) (hown : SlO own q w 3 1 v n (ints xs)) (g : Nat) (z : Int) (hx : a.eval x = .slice (some ⟨g, 0, none⟩) 1 1) (hp : w.cell? ⟨g, 0, none⟩ = some (.int .i64 z))
    (hl : n + 1 ≤ 1000000)
    (h : ∀ v' w' own', SlO own' q w' 3 1 v' (xs ++ [z]).length (ints (xs ++ [z])) → Fr (fun k => k == q) own own' w w' → wpList Tryz.prog ops Q rest (a.put o.dst v') w') : wpList Tryz.prog ops Q (o :: rest) a w :=
  wpList_plain hgd fun _ hK => op_append_int s x ho hty hL q v n xs hs hown g 0 1 1 [z] hx rfl (fun j y hj => by
    cases j with
    | zero => obtain rfl := Option.some.inj hj; exact hp
    | succ j => simp at hj) hl (fun v' w' own' h2 h3 => hK _ _ (h v' w' own' h2 h3))
theorem RfH.put {own : Nat → Nat} {w : World} {rp g n cap : Nat} {ov : Value} {l : List NB} {os : List Int} {md hd : Int} {qk : Bool} {N : Nat} {p : Nat} {x x' : NB} {k : Nat} {u : Value} (h : RfH own w rp (.slice (some ⟨g, 0, none⟩) n cap) ov l os md hd qk N) (hL : Lbl own w) (hp : l[p]? = some x) (hk : k < 11) (hr : x.row.set k u = x'.row) (hkv : x'.kv = x.kv) (hks : x'.n.kids = x.n.kids) :
    RfH own (w.setCell ⟨g, p * 11 + k, none⟩ u) rp (.slice (some ⟨g, 0, none⟩) n cap) ov (l.set p x') os md hd qk N ∧ Fr (fun y => y == 5) own own w (w.setCell ⟨g, p * 11 + k, none⟩ u) := by
  have hg : own g = 5 := (h.s.2 g rfl).1
  have hf : Fr (fun y => y == 5) own own w (w.setCell ⟨g, p * 11 + k, none⟩ u) := Fr.setCell hL (p := ⟨g, p * 11 + k, none⟩) u (by simp [hg])
  have hn : n = l.length := by
    obtain ⟨a, c, e, _⟩ := h.s.1.form
    injection e
  subst hn
  refine ⟨⟨h.o, hf.keep h.h (by rw [h.o]; rfl), ?_, h.p.keep hf rfl, fun j y hj => ?_, h.n9⟩, hf⟩
  · have := SlO.set h.s (p * 11 + k) u
    rw [nrows_set l p x x' k u hp hk hr] at this
    rw [List.length_set]; exact this
  · rw [List.getElem?_set] at hj
    by_cases hjp : p = j
    · subst hjp
      rw [if_pos rfl] at hj
      split at hj
      · obtain rfl := Option.some.inj hj
        obtain ⟨q, q1, q2, q3⟩ := h.k p x hp
        have := q3.keep hf (eqF (by omega))
        exact ⟨q, q1, q2, by rw [hkv, hks]; exact this⟩
      · cases hj
    · rw [if_neg hjp] at hj
      obtain ⟨q, q1, q2, q3⟩ := h.k j y hj
      exact ⟨q, q1, q2, q3.keep hf (eqF (by omega))⟩
theorem RfH.kids {own : Nat → Nat} {w : World} {rp g n cap : Nat} {ov : Value} {l : List NB} {os : List Int} {md hd : Int} {qk : Bool} {N : Nat} {p : Nat} {x : NB} {v9 : Value} {ks : List Int} (h : RfH own w rp (.slice (some ⟨g, 0, none⟩) n cap) ov l os md hd qk N) (hL : Lbl own w) (hp : l[p]? = some x) (hs : SlO own N w 3 1 v9 ks.length (ints ks)) :
    RfH own (w.setCell ⟨g, p * 11 + 8, none⟩ v9) rp (.slice (some ⟨g, 0, none⟩) n cap) ov (l.set p ⟨{ x.n with kids := ks }, v9⟩) os md hd qk (N + 1) ∧ Fr (fun y => y == 5) own own w (w.setCell ⟨g, p * 11 + 8, none⟩ v9) := by
  have hg : own g = 5 := (h.s.2 g rfl).1
  have hf : Fr (fun y => y == 5) own own w (w.setCell ⟨g, p * 11 + 8, none⟩ v9) := Fr.setCell hL (p := ⟨g, p * 11 + 8, none⟩) v9 (by simp [hg])
  have hn : n = l.length := by
    obtain ⟨a, c, e, _⟩ := h.s.1.form
    injection e
  have h9 := h.n9
  subst hn
  refine ⟨⟨h.o, hf.keep h.h (by rw [h.o]; rfl), ?_, h.p.keep hf rfl, fun j y hj => ?_, by omega⟩, hf⟩
  · have := SlO.set h.s (p * 11 + 8) v9
    rw [nrows_set l p x ⟨{ x.n with kids := ks }, v9⟩ 8 v9 hp (by omega) rfl] at this
    rw [List.length_set]; exact this
  · rw [List.getElem?_set] at hj
    by_cases hjp : p = j
    · subst hjp
      rw [if_pos rfl] at hj
      split at hj
      · obtain rfl := Option.some.inj hj
        exact ⟨N, by omega, by omega, hs.keep hf (eqF (by omega))⟩
      · cases hj
    · rw [if_neg hjp] at hj
      obtain ⟨q, q1, q2, q3⟩ := h.k j y hj
      exact ⟨q, q1, by omega, q3.keep hf (eqF (by omega))⟩
/-- Kids are read while a new slice of them is being made. -/
structure LayAt (own : Nat → Nat) (w : World) (N : Nat) (ks : List Int) (v : Value) (q : Nat) (wr : World) : Prop where
  ex : ∃ own', SlO own' N wr 3 1 v q (ints (ks.take q)) ∧ Fr (fun y => y == N) own own' w wr
theorem lay_more {own : Nat → Nat} {N q : Nat} {w : World} {v : Value} {ks : List Int} {z : Int} (hz : ks[q]? = some z) (hl : (ints (ks.take q)).length = q * 1) (h : SlO own N w 3 1 v (ks.take q ++ [z]).length (ints (ks.take q ++ [z]))) : SlO own N w 3 1 v (q + 1) (ints (ks.take (q + 1))) := by
  have e1 : (ks.take q ++ [z]).length = q + 1 := by rw [ints_len] at hl; rw [List.length_append, hl]; simp
  have e2 : ks.take (q + 1) = ks.take q ++ [z] := by rw [List.take_add_one, hz]; rfl
  rw [e2, ← e1]
  exact h
theorem set_upd {l : List NB} {p : Nat} {x x' : NB} {f : NodeL → NodeL} (hp : l[p]? = some x) (hx : x'.n = f x.n) : (l.set p x').map NB.n = upd (l.map NB.n) (p : Int) f := by
  refine List.ext_getElem? (fun j => ?_)
  rw [upd_get, List.getElem?_map, List.getElem?_map, List.getElem?_set]
  by_cases hj : p = j
  · subst hj
    have hlt := (List.getElem?_eq_some_iff.1 hp).1
    rw [if_pos rfl, if_pos hlt, hp]
    simp [hx]
  · rw [if_neg hj]
    simp only [if_neg hj]
    cases l[j]? <;> rfl
/-- What Lay leaves. -/
def layA (a : Ar) (p i : Nat) : Ar := upd (upd a (p : Int) fun n => { n with kids := n.kids ++ [(i : Int)] }) (i : Int) fun n => { n with parent := (p : Int) }
def RLay (own : Nat → Nat) (rp : Nat) (a : Ar) (os : List Int) (md hd : Int) (qk : Bool) (w : World) (e : Ending) (w' : World) : Prop := e = .returned (.tuple #[]) ∧ ∃ own' nv ov l N, l.map NB.n = a ∧ RfH own' w' rp nv ov l os md hd qk N ∧ Fr cBu own own' w w'
set_option maxHeartbeats 4000000 in
set_option maxRecDepth 100000 in
theorem rLay_any {own : Nat → Nat} {w : World} {rp : Nat} {nv ov : Value} {l : List NB} {os : List Int} {md hd : Int} {qk : Bool} {N p i : Nat} {x y : NB} (h : RfH own w rp nv ov l os md hd qk N) (hL : Lbl own w) (hx : l[p]? = some x) (hy : l[i]? = some y) (hpi : p < i) (hyp : y.n.parent < 0)
    (hpar : ∀ (j : Nat) (z : NB), l[j]? = some z → -1 ≤ z.n.parent ∧ z.n.parent < j ∧ (z.n.kind == 6) = false) (hkl : x.n.kids.length ≤ 100) (hk0 : ∀ k ∈ x.n.kids, 0 ≤ k) :
    Calls Tryz.prog 197 #[.pointer (some ⟨rp, 0, none⟩), .int .i64 (p : Int), .int .i64 (-1), .int .i64 (i : Int)] w (RLay own rp (layA (l.map NB.n) p i) os md hd qk w) := by
  have cU : Hid (∀ (j : Nat) (z : NB), l[j]? = some z → Calls Tryz.prog 216 #[.pointer (some ⟨rp, 0, none⟩), .int .i64 (j : Int)] w (RI z.n.parent w)) := Lib.hid (fun j z hj => rabove_any h hj (hpar j z hj).2.2)
  have cO := Lib.hid (rOff_any h hy hyp)
  have HP := Lib.hid hpar
  have HL : Hid (∀ j, j ≤ p → ∃ z, l[j]? = some z) := Lib.hid (fun j hj => ⟨_, List.getElem?_eq_getElem (by have := (List.getElem?_eq_some_iff.1 hx).1; omega)⟩)
  have HA := Lib.hid (⟨h, hL, hx, hy, hk0⟩ : _ ∧ _ ∧ _ ∧ _ ∧ _)
  clear h hL hx hy hyp hpar hk0
  go_enter Tryz.func197, Tryz.ntmps197
  go_wp2_with fail
  go_loopw [8] (fun v wr => ∃ z : Int, v = .int .i64 z ∧ -1 ≤ z ∧ z ≤ p ∧ w = wr) (fun v _ => (intOf v + 1).toNat)
  case atStart => exact ⟨(p : Int), rfl, by omega, Int.le_refl _, rfl⟩
  case round =>
    obtain ⟨z, rfl, hz1, hz2, rfl⟩ := hrel
    by_cases h0 : 0 ≤ z
    · obtain ⟨j, rfl⟩ : ∃ j : Nat, z = (j : Int) := ⟨z.toNat, by omega⟩
      obtain ⟨u, hu⟩ := HL.out j (by omega)
      have hq : ((j : Int) == (i : Int)) = false := by simp; omega
      have cU1 := Lib.hid (cU.out j u hu)
      have hu2 := HP.out j u hu
      generalize u.n.parent = pr at *
      go_wp2_with fail
      refine cU1.out.mono ?_
      rintro e w1 ⟨rfl, rfl⟩
      go_wp2_with fail
      go_roundw
      case rel => exact ⟨pr, rfl, hu2.1, by omega, trivial⟩
      case measure => simp [intOf]; omega
    · obtain rfl : z = -1 := by omega
      clear cU HP HL hz1 hz2 h0
      go_wp2_with fail
      refine cO.out.mono ?_
      rintro e w1 ⟨rfl, rfl⟩
      have HI : Hid (LayAt own w N x.n.kids (.slice none 0 0) 0 w) := Lib.hid ⟨own, by rw [List.take_zero]; exact SlO.nil .., Fr.refl _ HA.out.2.1⟩
      obtain ⟨K, hK⟩ : ∃ K, K = x.n.kids.length := ⟨_, rfl⟩
      rw [← hK] at hkl
      have HK := Lib.hid hK
      clear hK cO
      go_wp2_with fail
      go_loopw [9, 10] (fun v jv wr => ∃ q : Nat, jv = .int .i64 q ∧ q ≤ K ∧ Hid (LayAt own w N x.n.kids v q wr)) (fun _ jv _ => K - (intOf jv).toNat)
      case atStart => exact ⟨0, rfl, Nat.zero_le _, HI⟩
      case round =>
        obtain ⟨q, rfl, hq, HQ⟩ := hrel
        clear HI
        obtain ⟨own9, hs9, hf9⟩ := HQ.out.ex
        have h9 : RfH own9 wr rp nv ov l os md hd qk N := HA.out.1.keep hf9 (eqF (by have := HA.out.1.n9; omega)) (eqF (by have := HA.out.1.n9; omega)) (eqF (by have := HA.out.1.n9; omega)) (fun q _ hq => eqF (by omega))
        have c0 := rowAt h9.h 0 nv rfl
        obtain ⟨g, cap, hnv, hcap, hg5, hgl, hc⟩ := h9.cells HA.out.2.2.1
        obtain ⟨k0, k1, k2, k3, k4, k5, k6, k7, k8, k9, k10⟩ := row11 hc
        have hlt := (List.getElem?_eq_some_iff.1 HA.out.2.2.1).1
        have hlt2 := (List.getElem?_eq_some_iff.1 HA.out.2.2.2.1).1
        obtain ⟨q4, q41, q42, hk4⟩ := h9.k p x HA.out.2.2.1
        obtain ⟨ka, kc, hkv, hkc⟩ := SlO.ints hk4
        have HH := Lib.hid (⟨h9, hs9, hf9⟩ : _ ∧ _ ∧ _)
        subst hnv
        rw [hkv, ← HK.out] at k8
        obtain ⟨n, hn⟩ : ∃ n, n = l.length := ⟨_, rfl⟩
        rw [← hn] at c0 hcap hlt hlt2
        have HN := Lib.hid hn
        have e2 : (0 : Int) ≤ (p : Int) := by omega
        have e3 : (p : Int) < (n : Int) := by omega
        have e4 : (0 : Int) ≤ (i : Int) := by omega
        have e5 : (i : Int) < (n : Int) := by omega
        clear k0 k1 k2 k3 k4 k5 k6 k7 k9 k10 hc hn hk4 hkv h9 hs9 hf9
        by_cases hqk : q < K
        · have hqI : (q : Int) < (K : Int) := by omega
          have hq0 : (0 : Int) ≤ (q : Int) := by omega
          obtain ⟨z, hz⟩ : ∃ z, x.n.kids[q]? = some z := ⟨_, List.getElem?_eq_getElem (by rw [← HK.out]; exact hqk)⟩
          obtain ⟨g2, o2, e7, hcl⟩ := hkc q z hz
          subst e7
          have hz0 : 0 ≤ z := HA.out.2.2.2.2 z (List.mem_of_getElem? hz)
          have hzb : (z == -1) = false := by simp; omega
          have HZ := Lib.hid hz
          clear hkc hz
          have hba : Below wr.heap.size wr (wr.alloc (.cells #[.int .i64 z] 3)) := (Below.refl _ _).alloc (Nat.le_refl _) _
          have HC : Hid ((wr.alloc (.cells #[.int .i64 z] 3)).cell? ⟨wr.heap.size, 0, none⟩ = some (.int .i64 z)) := Lib.hid (rowAt (heap_new _ _) 0 _ rfl)
          have hfa : Fr (fun y => y == N) own9 own9 wr (wr.alloc (.cells #[.int .i64 z] 3)) := Fr.of_below hba HH.out.2.2.lbl
          have HF := Lib.hid hfa
          have HS : Hid (SlO own9 N (wr.alloc (.cells #[.int .i64 z] 3)) 3 1 u9 q (ints (x.n.kids.take q))) := Lib.hid (HH.out.2.1.keep (c := fun _ => false) (Fr.of_below hba HH.out.2.2.lbl) rfl)
          clear hba hfa
          have hq1 : q + 1 ≤ 1000000 := by omega
          go_wp2_with (refine opl_append_int rfl (.tmp 53) (.tmp 65) rfl rfl HF.out.lbl N u9 q (x.n.kids.take q) rfl HS.out wr.heap.size z rfl HC.out hq1 ?_; intro v7 w7 own7 hs7 hf7; have HX : Hid (LayAt own w N x.n.kids v7 (q + 1) w7) := Lib.hid ⟨own7, lay_more HZ.out HS.out.1.1 hs7, (HH.out.2.2.trans HF.out).trans hf7⟩; clear hs7 hf7)
          go_roundw
          case rel => exact ⟨q + 1, by go_num, by omega, HX⟩
          case measure => simp [intOf]; omega
        · have hqI : ¬ (q : Int) < (K : Int) := by omega
          obtain rfl : q = K := by omega
          clear hkc
          have hba : Below wr.heap.size wr (wr.alloc (.cells #[.int .i64 (i : Int)] 3)) := (Below.refl _ _).alloc (Nat.le_refl _) _
          have HC : Hid ((wr.alloc (.cells #[.int .i64 (i : Int)] 3)).cell? ⟨wr.heap.size, 0, none⟩ = some (.int .i64 (i : Int))) := Lib.hid (rowAt (heap_new _ _) 0 _ rfl)
          have hfa : Fr (fun y => y == N) own9 own9 wr (wr.alloc (.cells #[.int .i64 (i : Int)] 3)) := Fr.of_below hba HH.out.2.2.lbl
          have HF := Lib.hid hfa
          have HS : Hid (SlO own9 N (wr.alloc (.cells #[.int .i64 (i : Int)] 3)) 3 1 u9 q (ints x.n.kids)) := Lib.hid (by
            have := HH.out.2.1.keep (c := fun _ => false) (w' := wr.alloc (.cells #[.int .i64 (i : Int)] 3)) (Fr.of_below hba HH.out.2.2.lbl) rfl
            rwa [List.take_of_length_le (by rw [← HK.out]; exact Nat.le_refl _)] at this)
          have hA9 := HH.out.1.below HH.out.2.2.lbl hba
          have HA9 := Lib.hid hA9
          clear hba hfa hA9
          have hq1 : q + 1 ≤ 1000000 := by omega
          go_upto_region 14 with (refine opl_append_int rfl (.tmp 69) (.tmp 71) rfl rfl HF.out.lbl N u9 q x.n.kids rfl HS.out wr.heap.size (i : Int) rfl HC.out hq1 ?_; intro v7 w7 own7 hs7 hf7; obtain ⟨a7, c7, hv7, _⟩ := hs7.1.form; obtain ⟨n7, hn7⟩ : ∃ n, n = (x.n.kids ++ [(i : Int)]).length := ⟨_, rfl⟩; rw [← hn7] at hv7; have HV := Lib.hid (⟨hs7, hf7, hn7⟩ : _ ∧ _ ∧ _); subst hv7; clear hs7 hf7 hn7)
          have h7 : RfH own7 w7 rp (.slice (some ⟨g, 0, none⟩) l.length cap) ov l os md hd qk N := HA9.out.keep HV.out.2.1 (eqF (by have := HA.out.1.n9; omega)) (eqF (by have := HA.out.1.n9; omega)) (eqF (by have := HA.out.1.n9; omega)) (fun q _ hq => eqF (by omega))
          have hL7 := HV.out.2.1.lbl
          have hx := HA.out.2.2.1
          have hy := HA.out.2.2.2.1
          have hpc : p * 11 + 8 < cap * 11 := by omega
          have hic : i * 11 + 6 < cap * 11 := by omega
          have c0' := rowAt h7.h 0 (.slice (some ⟨g, 0, none⟩) l.length cap) rfl
          rw [← HN.out] at c0'
          have k8' := SlO.at h7.s (nrows_at l p x hx 8 x.kv rfl)
          have z8' := (SlO.cells_ok h7.s (p * 11 + 8) hpc).2
          have hs8 := HV.out.1
          rw [HV.out.2.2] at hs8
          have h8 := RfH.kids (v9 := .slice a7 n7 c7) (ks := x.n.kids ++ [(i : Int)]) h7 hL7 hx (by have := HV.out.1; rw [← HV.out.2.2] at this ⊢; exact this)
          have hy8 : (l.set p ⟨{ x.n with kids := x.n.kids ++ [(i : Int)] }, .slice a7 n7 c7⟩)[i]? = some y := by rw [List.getElem?_set_ne (by omega)]; exact hy
          have c08 := rowAt h8.1.h 0 (.slice (some ⟨g, 0, none⟩) l.length cap) rfl
          rw [← HN.out] at c08
          have h8s := h8.1.s
          rw [List.length_set] at h8s
          have k68 := SlO.at h8s (nrows_at _ i y hy8 6 (.int .i64 y.n.parent) rfl)
          have z68 := (SlO.cells_ok h8s (i * 11 + 6) hic).2
          have h10 := RfH.put (x' := ⟨{ y.n with parent := (p : Int) }, y.kv⟩) h8.1 h8.2.lbl hy8 (show 6 < 11 by omega) (u := .int .i64 (p : Int)) rfl rfl rfl
          have HF10 : Hid (RLay own rp (layA (l.map NB.n) p i) os md hd qk w (.returned (.tuple #[])) ((w7.setCell ⟨g, p * 11 + 8, none⟩ (.slice a7 n7 c7)).setCell ⟨g, i * 11 + 6, none⟩ (.int .i64 (p : Int)))) := Lib.hid ⟨rfl, own7, _, ov, _, _, by
              unfold layA
              rw [← set_upd (f := fun n => { n with kids := n.kids ++ [(i : Int)] }) (x' := ⟨{ x.n with kids := x.n.kids ++ [(i : Int)] }, .slice a7 n7 c7⟩) hx rfl]
              exact set_upd hy8 rfl, h10.1, (((HH.out.2.2.trans HF.out).trans HV.out.2.1).mono (cBu_mono (by have := HA.out.1.n9; omega))).trans ((h8.2.trans h10.2).mono (cBu_mono (by omega)))⟩
          clear hs8 h7 hL7 hx hy hpc hic h8 hy8 h10 h8s
          go_wp2_with fail
          refine bodyPost_end (results_none rfl _ _ _) rfl ?_
          exact HF10.out
end Go.Proofs.YtnbdalohlldnbaaGreatDoor

namespace Go.Proofs.YtnbdalohlldnbaaGreatDoor
open Go.RowKit Bd
attribute [local go_sem ↓] Go.wp_at_zero Go.wp_at_succ
/-- The reference's nodes in order: parents stand ahead, kids are few, nothing is a template. -/
structure RfOk (a : Ar) (os : List Int) : Prop where
  ne : a ≠ []
  len : a.length ≤ 100
  par : ∀ (j : Nat) (z : NodeL), a[j]? = some z → -1 ≤ z.parent ∧ z.parent < j ∧ (z.kind == 6) = false
  nm : ∀ (j : Nat) (z : NodeL), a[j]? = some z → (z.name == templateS) = false ∧ z.kids.length ≤ 50 ∧ ∀ k ∈ z.kids, 0 ≤ k
  ok : ∀ z ∈ os, 0 ≤ z ∧ z < a.length
  ol : os.length ≤ 100
theorem RfH.push {own own7 : Nat → Nat} {w w7 : World} {rp : Nat} {nv ov v7 : Value} {l : List NB} {os : List Int} {md hd : Int} {qk : Bool} {N : Nat} {z : Int} (h : RfH own w rp nv ov l os md hd qk N) (hs : SlO own7 7 w7 3 1 v7 (os ++ [z]).length (ints (os ++ [z]))) (hf : Fr (fun k => k == 7) own own7 w w7) :
    RfH own7 (w7.setCell ⟨rp, 1, none⟩ v7) rp nv v7 l (os ++ [z]) md hd qk N ∧ Fr cBu own own7 w (w7.setCell ⟨rp, 1, none⟩ v7) := by
  have ho : own7 rp = 1 := by rw [hf.old rp (row_lt h.h)]; exact h.o
  have hA7 := hf.keep h.h (by rw [h.o]; rfl)
  have hf2 : Fr (fun k => k == 1) own7 own7 w7 (w7.setCell ⟨rp, 1, none⟩ v7) := Fr.setCell hf.lbl (p := ⟨rp, 1, none⟩) v7 (by simp [ho])
  refine ⟨⟨ho, row_setC hA7 1 v7, (h.s.keep hf rfl).keep hf2 rfl, hs.keep hf2 rfl, fun j x hj => ?_, h.n9⟩, (hf.mono (cBu_mono (by omega))).trans (hf2.mono (cBu_mono (by omega)))⟩
  obtain ⟨q, q1, q2, q3⟩ := h.k j x hj
  exact ⟨q, q1, q2, (q3.keep hf (eqF (by omega))).keep hf2 (eqF (by omega))⟩
/-- Where the reference's next element goes; and its nodes behind it. -/
def rHereP (os : List Int) : Nat := (max (os.getLast?.getD (-1)) 0).toNat
def refIns (a : Ar) (os : List Int) (t : TokL) : Ar := layA (a ++ [bare (elementT t 0)]) (rHereP os) a.length
def RIn (own : Nat → Nat) (rp : Nat) (r : Value) (a : Ar) (os : List Int) (md hd : Int) (qk : Bool) (w : World) (e : Ending) (w' : World) : Prop := e = .returned r ∧ ∃ own' nv ov l N, l.map NB.n = a ∧ RfH own' w' rp nv ov l os md hd qk N ∧ Fr cBu own own' w w'
theorem RfOk.here {a : Ar} {os : List Int} (h : RfOk a os) : rHereP os < a.length ∧ max (os.getLast?.getD (-1)) 0 = (rHereP os : Int) := by
  have h0 : 0 < a.length := by cases ha : a with | nil => exact absurd ha h.ne | cons x r => simp
  unfold rHereP
  cases hq : os.getLast? with
  | none => exact ⟨by show (max (-1 : Int) 0).toNat < _; rw [show (max (-1 : Int) 0).toNat = 0 from rfl]; exact h0, by decide⟩
  | some z =>
    obtain ⟨h1, h2⟩ := h.ok z (List.mem_of_getLast? hq)
    have e : max (some z |>.getD (-1)) 0 = z := by show max z 0 = z; omega
    rw [e]
    exact ⟨by omega, by omega⟩
theorem nb_ex {l : List NB} {a : Ar} (h : l.map NB.n = a) {j : Nat} (hj : j < a.length) : ∃ x, l[j]? = some x ∧ a[j]? = some x.n := by
  subst h
  rw [List.length_map] at hj
  exact ⟨_, List.getElem?_eq_getElem hj, by rw [List.getElem?_map, List.getElem?_eq_getElem hj]; rfl⟩
theorem nb_at {l : List NB} {a : Ar} (h : l.map NB.n = a) {j : Nat} {x : NB} (hj : l[j]? = some x) : a[j]? = some x.n := by
  subst h
  rw [List.getElem?_map, hj]; rfl
section
variable {own : Nat → Nat} {w : World} {rp : Nat} {nv ov : Value} {l : List NB} {os : List Int} {md hd : Int} {qk : Bool} {N : Nat}
set_option maxHeartbeats 1000000 in
set_option maxRecDepth 100000 in
theorem rPut_any {p i : Nat} {x y : NB} (h : RfH own w rp nv ov l os md hd qk N) (hL : Lbl own w) (hx : l[p]? = some x) (hy : l[i]? = some y) (hpi : p < i) (hyp : y.n.parent < 0) (hn : (x.n.name == templateS) = false)
    (hpar : ∀ (j : Nat) (z : NB), l[j]? = some z → -1 ≤ z.n.parent ∧ z.n.parent < j ∧ (z.n.kind == 6) = false) (hkl : x.n.kids.length ≤ 100) (hk0 : ∀ k ∈ x.n.kids, 0 ≤ k) :
    Calls Tryz.prog 164 #[.pointer (some ⟨rp, 0, none⟩), .int .i64 (i : Int), .int .i64 (p : Int)] w (RLay own rp (layA (l.map NB.n) p i) os md hd qk w) := by
  have cP := Lib.hid (rPlace_any h hx hn)
  have cL := Lib.hid (rLay_any h hL hx hy hpi hyp hpar hkl hk0)
  clear h hL hx hy hpi hyp hn hpar hkl hk0
  go_enter Tryz.func164, Tryz.ntmps164
  go_wp2_with fail
  refine cP.out.mono ?_
  rintro e w1 ⟨rfl, rfl⟩
  go_wp2_with fail
  refine cL.out.mono ?_
  rintro e w1 ⟨rfl, hr⟩
  have HR := Lib.hid hr
  clear hr cP cL
  go_wp2_with fail
  go_end0
  exact ⟨rfl, HR.out⟩
set_option maxHeartbeats 2000000 in
set_option maxRecDepth 100000 in
theorem rInsert_any (t : TokL) (h : RfH own w rp nv ov l os md hd qk N) (hL : Lbl own w) (hok : RfOk (l.map NB.n) os) (htn : (t.name == templateS) = false) :
    Calls Tryz.prog 110 #[.pointer (some ⟨rp, 0, none⟩), tokV t, .int .i64 0] w (RIn own rp (.int .i64 (l.length : Int)) (refIns (l.map NB.n) os t) (os ++ [(l.length : Int)]) md hd qk w) := by
  obtain ⟨W1, hW1⟩ : ∃ W, W = w.alloc (.cells (tokR t) 24) := ⟨_, rfl⟩
  have hb1 : Below w.heap.size w W1 := by rw [hW1]; exact (Below.refl _ w).alloc (Nat.le_refl _) _
  have hr : W1.heap[w.heap.size]? = some (.cells (tokR t) 24 (0, 0)) := by rw [hW1]; exact heap_new _ _
  have h1 := h.below hL hb1
  have hF : Fr cBu own own w W1 := Fr.of_below hb1 hL
  have ho : own w.heap.size = 0 := hL _ (Nat.le_refl _)
  have HW1 := Lib.hid hW1
  obtain ⟨bx, hbx⟩ : ∃ x, x = w.heap.size := ⟨_, rfl⟩
  rw [← hbx] at hr ho
  have HBX := Lib.hid hbx
  clear hb1 hW1 h hbx hL
  have c1 := rowAt h1.h 1 ov rfl
  obtain ⟨ao, co, rfl, _⟩ := h1.p.1.form
  have hol := hok.ol
  have r1 := rowAt hr 1 (.string t.name) rfl
  have r3 := rowAt hr 3 (.slice none 0 0) rfl
  have r4 := rowAt hr 4 (.bool t.dup) rfl
  have r7 := rowAt hr 7 (.int .i64 t.frm) rfl
  have r8 := rowAt hr 8 (.int .i64 t.till) rfl
  have hll : l.length ≤ 1000 := by have := hok.len; rw [List.length_map] at this; omega
  have cA := Lib.hid (rAdd_any ⟨⟨3, t.name, em, 0, t.dup, 0, 0, [], t.frm, t.till⟩, .slice none 0 0⟩ h1 hF.lbl hll htn rfl)
  have HH := Lib.hid (⟨h1, hF, ho⟩ : _ ∧ _ ∧ _)
  have HO := Lib.hid hok
  clear h1 hF ho hr hok
  have hnl : ¬ os.length ≥ 512 := by omega
  have hnlI : ¬ (512 : Int) ≤ (os.length : Int) := by omega
  go_enter Tryz.func110, Tryz.ntmps110
  go_upto_region 1 with fail
  rw [← HW1.out, ← HBX.out]
  go_wp2_with fail
  refine cA.out.mono ?_
  rintro e w2 ⟨rfl, own2, nv2, ov2, N2, h2, F2⟩
  have hF2 := HH.out.2.1.trans F2
  clear cA c1 r1 r3 r4 r7 r8
  obtain ⟨hpl, hpe⟩ := HO.out.here
  obtain ⟨P, hP⟩ : ∃ P, P = rHereP os := ⟨_, rfl⟩
  obtain ⟨y0, hy0⟩ : ∃ y : NB, y = ⟨bare (elementT t 0), .slice none 0 0⟩ := ⟨_, rfl⟩
  have h2' : RfH own2 w2 rp nv2 ov2 (l ++ [y0]) os md hd qk N2 := by rw [hy0]; exact h2
  have hyn : y0.n = bare (elementT t 0) := by rw [hy0]
  have hyi : (l ++ [y0])[l.length]? = some y0 := by simp
  rw [← hP] at hpl hpe
  rw [List.length_map] at hpl
  obtain ⟨x, hx, hxa⟩ := nb_ex (l := l) rfl (j := P) (by rw [List.length_map]; exact hpl)
  have hx2 : (l ++ [y0])[P]? = some x := by rw [List.getElem?_append_left hpl]; exact hx
  have hnm := HO.out.nm P x.n hxa
  have hpar : ∀ (j : Nat) (z : NB), (l ++ [y0])[j]? = some z → -1 ≤ z.n.parent ∧ z.n.parent < j ∧ (z.n.kind == 6) = false := by
    intro j z hj
    rcases snoc_case hj with h | ⟨rfl, rfl⟩
    · exact HO.out.par j z.n (nb_at rfl h)
    · rw [hyn]
      exact ⟨by show (-1 : Int) ≤ -1; decide, by show (-1 : Int) < _; omega, rfl⟩
  have cH := Lib.hid (rHere_any h2' (by omega) (fun z hz => by have := HO.out.ok z hz; rw [List.length_map] at this; omega))
  rw [hpe] at cH
  have HE := Lib.hid (⟨h2', hF2, hyi, hx2, hnm, hpar, hpl, hyn, hP⟩ : _ ∧ _ ∧ _ ∧ _ ∧ _ ∧ _ ∧ _ ∧ _ ∧ _)
  clear h2 h2' hF2 hyi hx2 hnm hpar hpl hyn hP hx hxa hpe F2 hy0
  go_wp2_with fail
  refine cH.out.mono ?_
  rintro e w3 ⟨rfl, hb3⟩
  have h3 := HE.out.1.below HE.out.2.1.lbl hb3
  have hF3 := HE.out.2.1.trans (Fr.of_below hb3 HE.out.2.1.lbl)
  have cU := Lib.hid (rPut_any h3 hF3.lbl HE.out.2.2.2.1 HE.out.2.2.1 HE.out.2.2.2.2.2.2.1 (by rw [HE.out.2.2.2.2.2.2.2.1]; show (-1 : Int) < 0; decide) HE.out.2.2.2.2.1.1 HE.out.2.2.2.2.2.1 (by have := HE.out.2.2.2.2.1.2.1; omega) HE.out.2.2.2.2.1.2.2)
  have HF3 := Lib.hid hF3
  clear h3 hF3 hb3 cH
  go_wp2_with fail
  refine cU.out.mono ?_
  rintro e w4 ⟨rfl, own4, nv4, ov4, l4, N4, hl4, h4, F4⟩
  have c14 := rowAt h4.h 1 ov4 rfl
  obtain ⟨a4, c4, hov, _⟩ := h4.p.1.form
  subst hov
  have z14 := frozen_row h4.h 1
  have hba : Below w4.heap.size w4 (w4.alloc (.cells #[.int .i64 (l.length : Int)] 3)) := (Below.refl _ _).alloc (Nat.le_refl _) _
  have HC : Hid ((w4.alloc (.cells #[.int .i64 (l.length : Int)] 3)).cell? ⟨w4.heap.size, 0, none⟩ = some (.int .i64 (l.length : Int))) := Lib.hid (rowAt (heap_new _ _) 0 _ rfl)
  have h5 := h4.below F4.lbl hba
  have hF5 := (HF3.out.trans F4).trans (Fr.of_below hba F4.lbl)
  have HA5 := Lib.hid (⟨h5, hF5, hl4⟩ : _ ∧ _ ∧ _)
  have HK : Hid (∀ w7 own7, Fr (fun k => k == 7) own4 own7 (w4.alloc (.cells #[.int .i64 (l.length : Int)] 3)) w7 → w7.frozen? ⟨rp, 1, none⟩ = false ∧ w7.cell? ⟨rp, 1, none⟩ = some (.slice a4 os.length c4)) := Lib.hid (fun w7 own7 hf => ⟨frozen_row (hf.keep h5.h (by rw [h5.o]; rfl)) 1, rowAt (hf.keep h5.h (by rw [h5.o]; rfl)) 1 _ rfl⟩)
  clear h4 F4 hl4 hba h5 hF5 cU HF3 z14
  have ho1 : os.length + 1 ≤ 1000000 := by omega
  go_wp2_with (refine opl_append_int rfl (.tmp 39) (.tmp 41) rfl rfl HA5.out.2.1.lbl 7 (.slice a4 os.length c4) os.length os rfl HA5.out.1.p w4.heap.size (l.length : Int) rfl HC.out ho1 ?_; intro v7 w7 own7 hs7 hf7; obtain ⟨a7, c7, hv7, _⟩ := hs7.1.form; obtain ⟨n7, hn7⟩ : ∃ n, n = (os ++ [(l.length : Int)]).length := ⟨_, rfl⟩; rw [← hn7] at hv7; obtain ⟨z7, d7⟩ := HK.out w7 own7 hf7; have HV := Lib.hid (⟨hs7, hf7, hn7⟩ : _ ∧ _ ∧ _); subst hv7; clear hs7 hf7 hn7)
  have h8 := HA5.out.1.push HV.out.1 HV.out.2.1
  have HR : Hid (RIn own rp (.int .i64 (l.length : Int)) (refIns (l.map NB.n) os t) (os ++ [(l.length : Int)]) md hd qk w (.returned (.int .i64 (l.length : Int))) (w7.setCell ⟨rp, 1, none⟩ (.slice a7 n7 c7))) := Lib.hid ⟨rfl, own7, _, _, l4, _, by
    rw [HA5.out.2.2]
    unfold refIns
    rw [List.map_append, List.length_map, ← HE.out.2.2.2.2.2.2.2.2]
    rw [show [y0].map NB.n = [bare (elementT t 0)] by rw [← HE.out.2.2.2.2.2.2.2.1]; rfl], h8.1, HA5.out.2.1.trans h8.2⟩
  clear h8
  trace_state
  go_ret
  exact HR.out
end
end Go.Proofs.YtnbdalohlldnbaaGreatDoor
