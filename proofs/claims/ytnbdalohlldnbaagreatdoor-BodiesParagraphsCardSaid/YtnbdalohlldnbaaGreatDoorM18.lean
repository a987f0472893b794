/-
  Of a builder that is none nothing is done: Step and Body; the law BodiesNone.
-/
import Derived.Test.YtnbdalohlldnbaaGreatDoorM17
namespace Go.Proofs.YtnbdalohlldnbaaGreatDoor
open Go.RowKit Bd
attribute [local go_sem ↓] Go.wp_at_zero Go.wp_at_succ
set_option maxHeartbeats 1000000 in
set_option maxRecDepth 100000 in
theorem StepN_any {w : World} (kd fr tt : Int) (nm tx0 : Ba) (a : Option Addr) (n c : Nat) (dp se qu : Bool) : Calls Tryz.prog 8 #[.pointer none, .agg #[.int .i64 kd, .string nm, .string tx0, .slice a n c, .bool dp, .bool se, .bool qu, .int .i64 fr, .int .i64 tt]] w fun e w' => e = .returned (.bool false) ∧ Below w.heap.size w w' := by
  have hb : Below w.heap.size w (w.alloc (.cells #[.int .i64 kd, .string nm, .string tx0, .slice a n c, .bool dp, .bool se, .bool qu, .int .i64 fr, .int .i64 tt] 24)) := (Below.refl _ _).alloc (Nat.le_refl _) _
  have HB := Lib.hid hb
  clear hb
  go_enter Tryz.func8, Tryz.ntmps8
  go_wp2
  go_ret
  exact ⟨rfl, HB.out⟩
set_option maxHeartbeats 1000000 in
set_option maxRecDepth 100000 in
theorem StepZ_any {w : World} {zb : Nat} (hz : w.cell? ⟨zb, 0, none⟩ = some (.pointer none)) (kd fr tt : Int) (nm tx0 : Ba) (a : Option Addr) (n c : Nat) (dp se qu : Bool) : Calls Tryz.prog 8 #[.pointer (some ⟨zb, 0, none⟩), .agg #[.int .i64 kd, .string nm, .string tx0, .slice a n c, .bool dp, .bool se, .bool qu, .int .i64 fr, .int .i64 tt]] w fun e w' => e = .returned (.bool false) ∧ Below w.heap.size w w' := by
  have hb : Below w.heap.size w (w.alloc (.cells #[.int .i64 kd, .string nm, .string tx0, .slice a n c, .bool dp, .bool se, .bool qu, .int .i64 fr, .int .i64 tt] 24)) := (Below.refl _ _).alloc (Nat.le_refl _) _
  have hz2 := (hb.cell (World.block_lt_of_cell? _ _ hz)).trans hz
  clear hz
  have HB := Lib.hid hb
  clear hb
  go_enter Tryz.func8, Tryz.ntmps8
  go_wp2
  go_ret
  exact ⟨rfl, HB.out⟩
set_option maxHeartbeats 1000000 in
set_option maxRecDepth 100000 in
theorem BodyN_any {w : World} (kd fr tt : Int) (nm tx0 : Ba) (a : Option Addr) (n c : Nat) (dp se qu : Bool) : Calls Tryz.prog 9 #[.pointer none, .agg #[.int .i64 kd, .string nm, .string tx0, .slice a n c, .bool dp, .bool se, .bool qu, .int .i64 fr, .int .i64 tt]] w fun e w' => e = .returned (.bool false) ∧ Below w.heap.size w w' := by
  have hb : Below w.heap.size w (w.alloc (.cells #[.int .i64 kd, .string nm, .string tx0, .slice a n c, .bool dp, .bool se, .bool qu, .int .i64 fr, .int .i64 tt] 24)) := (Below.refl _ _).alloc (Nat.le_refl _) _
  have HB := Lib.hid hb
  clear hb
  go_enter Tryz.func9, Tryz.ntmps9
  go_wp2
  go_ret
  exact ⟨rfl, HB.out⟩
set_option maxHeartbeats 1000000 in
set_option maxRecDepth 100000 in
theorem BodyZ_any {w : World} {zb : Nat} (hz : w.cell? ⟨zb, 0, none⟩ = some (.pointer none)) (kd fr tt : Int) (nm tx0 : Ba) (a : Option Addr) (n c : Nat) (dp se qu : Bool) : Calls Tryz.prog 9 #[.pointer (some ⟨zb, 0, none⟩), .agg #[.int .i64 kd, .string nm, .string tx0, .slice a n c, .bool dp, .bool se, .bool qu, .int .i64 fr, .int .i64 tt]] w fun e w' => e = .returned (.bool false) ∧ Below w.heap.size w w' := by
  have hb : Below w.heap.size w (w.alloc (.cells #[.int .i64 kd, .string nm, .string tx0, .slice a n c, .bool dp, .bool se, .bool qu, .int .i64 fr, .int .i64 tt] 24)) := (Below.refl _ _).alloc (Nat.le_refl _) _
  have hz2 := (hb.cell (World.block_lt_of_cell? _ _ hz)).trans hz
  clear hz
  have HB := Lib.hid hb
  clear hb
  go_enter Tryz.func9, Tryz.ntmps9
  go_wp2
  go_ret
  exact ⟨rfl, HB.out⟩
set_option maxHeartbeats 2000000 in
set_option maxRecDepth 100000 in
theorem BodiesNone_any {w : World} (hE : E2 w) (kd fr tt : Int) (nm tx0 : Ba) (a : Option Addr) (n c : Nat) (dp se qu : Bool) : Calls Tryz.prog 3 #[.agg #[.int .i64 kd, .string nm, .string tx0, .slice a n c, .bool dp, .bool se, .bool qu, .int .i64 fr, .int .i64 tt]] w fun e w' => e = .returned (.bool true) ∧ Below w.heap.size w w' := by
  obtain ⟨W1, hW1⟩ : ∃ W, W = w.alloc (.cells #[.int .i64 kd, .string nm, .string tx0, .slice a n c, .bool dp, .bool se, .bool qu, .int .i64 fr, .int .i64 tt] 24) := ⟨_, rfl⟩
  obtain ⟨W2, hW2⟩ : ∃ W, W = W1.alloc (.cells #[.pointer none, .pointer none, .pointer none, .int .i64 0, .int .i64 0, .slice none 0 0, .int .i64 0, .int .i64 0, .bool false, .bool false, .bool false, .string ⟨#[]⟩, .pointer none, .nilIface] 34) := ⟨_, rfl⟩
  obtain ⟨W3, hW3⟩ : ∃ W, W = W2.alloc (.cells #[.pointer none, .pointer (some ⟨w.heap.size + 1, 0, none⟩)] 25) := ⟨_, rfl⟩
  have hs1 : W1.heap.size = w.heap.size + 1 := by rw [hW1]; simp
  have hs2 : W2.heap.size = w.heap.size + 2 := by rw [hW2]; simp [hs1]
  have hb1 : Below w.heap.size w W1 := by rw [hW1]; exact (Below.refl _ w).alloc (Nat.le_refl _) _
  have hb2 : Below W1.heap.size W1 W2 := by rw [hW2]; exact (Below.refl _ _).alloc (Nat.le_refl _) _
  have hb3 : Below W2.heap.size W2 W3 := by rw [hW3]; exact (Below.refl _ _).alloc (Nat.le_refl _) _
  have r1 : W1.heap[w.heap.size]? = some (.cells #[.int .i64 kd, .string nm, .string tx0, .slice a n c, .bool dp, .bool se, .bool qu, .int .i64 fr, .int .i64 tt] 24 (0, 0)) := by rw [hW1]; exact heap_new _ _
  have r2 : W2.heap[w.heap.size + 1]? = some (.cells #[.pointer none, .pointer none, .pointer none, .int .i64 0, .int .i64 0, .slice none 0 0, .int .i64 0, .int .i64 0, .bool false, .bool false, .bool false, .string ⟨#[]⟩, .pointer none, .nilIface] 34 (0, 0)) := by rw [hW2, ← hs1]; exact heap_new _ _
  have r3 : W3.heap[w.heap.size + 2]? = some (.cells #[.pointer none, .pointer (some ⟨w.heap.size + 1, 0, none⟩)] 25 (0, 0)) := by rw [hW3, ← hs2]; exact heap_new _ _
  have hb : Below w.heap.size w W3 := below_call (below_call hb1 hb2) hb3
  have r1' : W3.heap[w.heap.size]? = some (.cells #[.int .i64 kd, .string nm, .string tx0, .slice a n c, .bool dp, .bool se, .bool qu, .int .i64 fr, .int .i64 tt] 24 (0, 0)) := ((below_call hb2 hb3).block _ (row_lt r1)).trans r1
  have r2' : W3.heap[w.heap.size + 1]? = some (.cells #[.pointer none, .pointer none, .pointer none, .int .i64 0, .int .i64 0, .slice none 0 0, .int .i64 0, .int .i64 0, .bool false, .bool false, .bool false, .string ⟨#[]⟩, .pointer none, .nilIface] 34 (0, 0)) := (hb3.block _ (row_lt r2)).trans r2
  have HW : Hid (((w.alloc (.cells #[.int .i64 kd, .string nm, .string tx0, .slice a n c, .bool dp, .bool se, .bool qu, .int .i64 fr, .int .i64 tt] 24)).alloc (.cells #[.pointer none, .pointer none, .pointer none, .int .i64 0, .int .i64 0, .slice none 0 0, .int .i64 0, .int .i64 0, .bool false, .bool false, .bool false, .string ⟨#[]⟩, .pointer none, .nilIface] 34)).alloc (.cells #[.pointer none, .pointer (some ⟨w.heap.size + 1, 0, none⟩)] 25) = W3) := Lib.hid (by rw [hW3, hW2, hW1])
  have HV : Hid (∀ V, Below W3.heap.size W3 V → V.heap[w.heap.size]? = some (.cells #[.int .i64 kd, .string nm, .string tx0, .slice a n c, .bool dp, .bool se, .bool qu, .int .i64 fr, .int .i64 tt] 24 (0, 0)) ∧ V.cell? ⟨w.heap.size + 1, 0, none⟩ = some (.pointer none) ∧ V.cell? ⟨w.heap.size + 2, 0, none⟩ = some (.pointer none) ∧ V.cell? ⟨w.heap.size + 2, 1, none⟩ = some (.pointer (some ⟨w.heap.size + 1, 0, none⟩)) ∧ E2 V ∧ Below w.heap.size w V) := Lib.hid (fun V hV => by
    have q1 := (hV.block _ (row_lt r1')).trans r1'
    have q2 := (hV.block _ (row_lt r2')).trans r2'
    have q3 := (hV.block _ (row_lt r3)).trans r3
    exact ⟨q1, rowAt q2 0 (.pointer none) rfl, rowAt q3 0 (.pointer none) rfl, rowAt q3 1 (.pointer (some ⟨w.heap.size + 1, 0, none⟩)) rfl, hE.below (below_call hb hV), below_call hb hV⟩)
  clear hW1 hW2 hW3 hs1 hs2 hb1 hb2 hb3 r1 r2 r3 hb r1' r2' hE
  go_enter Tryz.func3, Tryz.ntmps3
  go_upto_region 2 with fail
  rw [HW.out]
  have HB : Hid (Below W3.heap.size W3 W3) := Lib.hid (Below.refl _ _)
  obtain ⟨q1, q2, q3, q4, q5, q6⟩ := HV.out W3 HB.out
  have x0 := rowAt q1 0 (.int .i64 kd) rfl
  have x1 := rowAt q1 1 (.string nm) rfl
  have x2 := rowAt q1 2 (.string tx0) rfl
  have x3 := rowAt q1 3 (.slice a n c) rfl
  have x4 := rowAt q1 4 (.bool dp) rfl
  have x5 := rowAt q1 5 (.bool se) rfl
  have x6 := rowAt q1 6 (.bool qu) rfl
  have x7 := rowAt q1 7 (.int .i64 fr) rfl
  have x8 := rowAt q1 8 (.int .i64 tt) rfl
  clear q1 q5 q6
  clear HW
  refine wp_loop_rounds 3 ?_
  rw [rounds_succ]
  go_wp2_with fail
  refine (StepN_any kd fr tt nm tx0 a n c dp se qu).mono ?_
  rintro e w9 ⟨rfl, hb9⟩
  replace HB := Lib.hid (below_call HB.out hb9)
  clear hb9 x0 x1 x2 x3 x4 x5 x6 x7 x8 q2 q3 q4
  obtain ⟨q1, q2, q3, q4, q5, q6⟩ := HV.out w9 HB.out
  have x0 := rowAt q1 0 (.int .i64 kd) rfl
  have x1 := rowAt q1 1 (.string nm) rfl
  have x2 := rowAt q1 2 (.string tx0) rfl
  have x3 := rowAt q1 3 (.slice a n c) rfl
  have x4 := rowAt q1 4 (.bool dp) rfl
  have x5 := rowAt q1 5 (.bool se) rfl
  have x6 := rowAt q1 6 (.bool qu) rfl
  have x7 := rowAt q1 7 (.int .i64 fr) rfl
  have x8 := rowAt q1 8 (.int .i64 tt) rfl
  clear q1 q5 q6
  go_wp2_with fail
  refine (BodyN_any kd fr tt nm tx0 a n c dp se qu).mono ?_
  rintro e w9 ⟨rfl, hb9⟩
  replace HB := Lib.hid (below_call HB.out hb9)
  clear hb9 x0 x1 x2 x3 x4 x5 x6 x7 x8 q2 q3 q4
  obtain ⟨q1, q2, q3, q4, q5, q6⟩ := HV.out w9 HB.out
  have x0 := rowAt q1 0 (.int .i64 kd) rfl
  have x1 := rowAt q1 1 (.string nm) rfl
  have x2 := rowAt q1 2 (.string tx0) rfl
  have x3 := rowAt q1 3 (.slice a n c) rfl
  have x4 := rowAt q1 4 (.bool dp) rfl
  have x5 := rowAt q1 5 (.bool se) rfl
  have x6 := rowAt q1 6 (.bool qu) rfl
  have x7 := rowAt q1 7 (.int .i64 fr) rfl
  have x8 := rowAt q1 8 (.int .i64 tt) rfl
  clear q1 q5 q6
  go_wp2_with fail
  try rw [rounds_succ]
  go_wp2_with fail
  refine (StepZ_any (zb := w.heap.size + 1) q2 kd fr tt nm tx0 a n c dp se qu).mono ?_
  rintro e w9 ⟨rfl, hb9⟩
  replace HB := Lib.hid (below_call HB.out hb9)
  clear hb9 x0 x1 x2 x3 x4 x5 x6 x7 x8 q2 q3 q4
  obtain ⟨q1, q2, q3, q4, q5, q6⟩ := HV.out w9 HB.out
  have x0 := rowAt q1 0 (.int .i64 kd) rfl
  have x1 := rowAt q1 1 (.string nm) rfl
  have x2 := rowAt q1 2 (.string tx0) rfl
  have x3 := rowAt q1 3 (.slice a n c) rfl
  have x4 := rowAt q1 4 (.bool dp) rfl
  have x5 := rowAt q1 5 (.bool se) rfl
  have x6 := rowAt q1 6 (.bool qu) rfl
  have x7 := rowAt q1 7 (.int .i64 fr) rfl
  have x8 := rowAt q1 8 (.int .i64 tt) rfl
  clear q1 q5 q6
  go_wp2_with fail
  refine (BodyZ_any (zb := w.heap.size + 1) q2 kd fr tt nm tx0 a n c dp se qu).mono ?_
  rintro e w9 ⟨rfl, hb9⟩
  replace HB := Lib.hid (below_call HB.out hb9)
  clear hb9 x0 x1 x2 x3 x4 x5 x6 x7 x8 q2 q3 q4
  obtain ⟨q1, q2, q3, q4, q5, q6⟩ := HV.out w9 HB.out
  have x0 := rowAt q1 0 (.int .i64 kd) rfl
  have x1 := rowAt q1 1 (.string nm) rfl
  have x2 := rowAt q1 2 (.string tx0) rfl
  have x3 := rowAt q1 3 (.slice a n c) rfl
  have x4 := rowAt q1 4 (.bool dp) rfl
  have x5 := rowAt q1 5 (.bool se) rfl
  have x6 := rowAt q1 6 (.bool qu) rfl
  have x7 := rowAt q1 7 (.int .i64 fr) rfl
  have x8 := rowAt q1 8 (.int .i64 tt) rfl
  clear q1 q5 q6
  go_wp2_with fail
  try rw [rounds_succ]
  have cS := Lib.hid (stands_any (HV.out _ HB.out).2.2.2.2.1)
  clear x0 x1 x2 x3 x4 x5 x6 x7 x8 q2 q3 q4
  go_wp2_with fail
  refine cS.out.mono ?_
  rintro e w8 ⟨rfl, hb8⟩
  have HF := Lib.hid (below_call (HV.out _ HB.out).2.2.2.2.2 hb8)
  clear hb8 cS
  go_wp2_with fail
  go_ret
  exact ⟨rfl, HF.out⟩
end Go.Proofs.YtnbdalohlldnbaaGreatDoor
