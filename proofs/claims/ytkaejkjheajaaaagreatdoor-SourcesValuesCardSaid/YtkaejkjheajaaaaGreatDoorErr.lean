/-
  errors.Join of two errors, by Go's own text.
-/
import Derived.Test.YtkaejkjheajaaaaGreatDoorSrcB
namespace Go.Proofs.YtkaejkjheajaaaaGreatDoor
open Go.RowKit

set_option maxRecDepth 100000 in
theorem Join_nn (g : Nat) (w : World) (h0 : w.cell? ⟨g, 0, none⟩ = some .nilIface) (h1 : w.cell? ⟨g, 1, none⟩ = some .nilIface) :
    Calls Tryz.prog 92 #[.slice (some ⟨g, 0, none⟩) 2 2] w fun e w' => e = .returned .nilIface ∧ w = w' := by
  go_enter Tryz.func92, Tryz.ntmps92
  go_wp2
  refine wp_loop_rounds 3 ?_
  rw [rounds_succ]
  go_wp2
  rw [rounds_succ]
  go_wp2
  rw [rounds_succ]
  go_wp2
  go_ret
  exact ⟨rfl, rfl⟩
/-- It joins errors, of which this one is the first. -/
def RJoin (v0 : Value) (w : World) (e : Ending) (w' : World) : Prop :=
  ∃ (p g len cap : Nat), e = .returned (.iface 169 (.pointer (some ⟨p, 0, none⟩))) ∧ p < w'.heap.size ∧ g < w'.heap.size ∧ w'.cell? ⟨p, 0, none⟩ = some (.slice (some ⟨g, 0, none⟩) len cap) ∧ 1 ≤ len ∧ len ≤ 2 ∧
    w'.cell? ⟨g, 0, none⟩ = some v0 ∧ Below w.heap.size w w'

set_option maxHeartbeats 1000000 in
set_option maxRecDepth 100000 in
theorem Join_ne (g : Nat) (t : TypeId) (v : Value) (w : World) (h0 : w.cell? ⟨g, 0, none⟩ = some .nilIface) (h1 : w.cell? ⟨g, 1, none⟩ = some (.iface t v)) :
    Calls Tryz.prog 92 #[.slice (some ⟨g, 0, none⟩) 2 2] w (RJoin (.iface t v) w) := by
  have hg : g < w.heap.size := World.block_lt_of_cell? _ _ h0
  have f3 : ∀ (k : Nat) (v : Value) (o1 o2 o3 : Obj), w.cell? ⟨g, k, none⟩ = some v → (((w.alloc o1).alloc o2).alloc o3).cell? ⟨g, k, none⟩ = some v := fun k v o1 o2 o3 h => by
    rw [World.cell?_alloc_lt _ _ ⟨g, k, none⟩ (by simp; omega), World.cell?_alloc_lt _ _ ⟨g, k, none⟩ (by simp; omega), World.cell?_alloc_lt _ _ ⟨g, k, none⟩ hg]; exact h
  have f30 := fun o1 o2 o3 => f3 0 _ o1 o2 o3 h0
  have f31 := fun o1 o2 o3 => f3 1 _ o1 o2 o3 h1
  clear f3
  have hmk : ∀ w, (Instr.makeSlice 132 (.int .i64 0) (.int .i64 1)).run Tryz.prog w = .ok (.slice (some ⟨w.heap.size, 0, none⟩) 0 1) (w.alloc (.cells #[.nilIface] 55)) := fun _ => by kernel_rfl
  go_enter Tryz.func92, Tryz.ntmps92
  go_wp2
  refine wp_loop_rounds 3 ?_
  rw [rounds_succ]
  go_wp2
  rw [rounds_succ]
  go_wp2
  rw [rounds_succ]
  go_wp2
  refine wp_loop_rounds 3 ?_
  rw [rounds_succ]
  go_wp2
  rw [rounds_succ]
  go_wp2
  rw [rounds_succ]
  go_wp2
  go_ret
  refine ⟨w.heap.size + 1, w.heap.size, 1, 1, rfl, by simp; try omega, by simp; try omega, by go_simp, by decide, by decide, by go_simp, ?_⟩
  repeat (first | exact Below.refl _ _ | refine Below.alloc ?_ (by simp; try omega) _)

set_option maxHeartbeats 1000000 in
set_option maxRecDepth 100000 in
theorem Join_en (g : Nat) (t : TypeId) (v : Value) (w : World) (h0 : w.cell? ⟨g, 0, none⟩ = some (.iface t v)) (h1 : w.cell? ⟨g, 1, none⟩ = some .nilIface) :
    Calls Tryz.prog 92 #[.slice (some ⟨g, 0, none⟩) 2 2] w (RJoin (.iface t v) w) := by
  have hg : g < w.heap.size := World.block_lt_of_cell? _ _ h0
  have f3 : ∀ (k : Nat) (v : Value) (o1 o2 o3 : Obj), w.cell? ⟨g, k, none⟩ = some v → (((w.alloc o1).alloc o2).alloc o3).cell? ⟨g, k, none⟩ = some v := fun k v o1 o2 o3 h => by
    rw [World.cell?_alloc_lt _ _ ⟨g, k, none⟩ (by simp; omega), World.cell?_alloc_lt _ _ ⟨g, k, none⟩ (by simp; omega), World.cell?_alloc_lt _ _ ⟨g, k, none⟩ hg]; exact h
  have f30 := fun o1 o2 o3 => f3 0 _ o1 o2 o3 h0
  have f31 := fun o1 o2 o3 => f3 1 _ o1 o2 o3 h1
  clear f3
  have hmk : ∀ w, (Instr.makeSlice 132 (.int .i64 0) (.int .i64 1)).run Tryz.prog w = .ok (.slice (some ⟨w.heap.size, 0, none⟩) 0 1) (w.alloc (.cells #[.nilIface] 55)) := fun _ => by kernel_rfl
  go_enter Tryz.func92, Tryz.ntmps92
  go_wp2
  refine wp_loop_rounds 3 ?_
  rw [rounds_succ]
  go_wp2
  rw [rounds_succ]
  go_wp2
  rw [rounds_succ]
  go_wp2
  refine wp_loop_rounds 3 ?_
  rw [rounds_succ]
  go_wp2
  rw [rounds_succ]
  go_wp2
  rw [rounds_succ]
  go_wp2
  go_ret
  refine ⟨w.heap.size + 1, w.heap.size, 1, 1, rfl, by simp; try omega, by simp; try omega, by go_simp, by decide, by decide, by go_simp, ?_⟩
  repeat (first | exact Below.refl _ _ | refine Below.alloc ?_ (by simp; try omega) _)

set_option maxHeartbeats 1000000 in
set_option maxRecDepth 100000 in
theorem Join_ee (g : Nat) (t : TypeId) (v : Value) (t2 : TypeId) (v2 : Value) (w : World) (h0 : w.cell? ⟨g, 0, none⟩ = some (.iface t v)) (h1 : w.cell? ⟨g, 1, none⟩ = some (.iface t2 v2)) :
    Calls Tryz.prog 92 #[.slice (some ⟨g, 0, none⟩) 2 2] w (RJoin (.iface t v) w) := by
  have hg : g < w.heap.size := World.block_lt_of_cell? _ _ h0
  have f3 : ∀ (k : Nat) (v : Value) (o1 o2 o3 : Obj), w.cell? ⟨g, k, none⟩ = some v → (((w.alloc o1).alloc o2).alloc o3).cell? ⟨g, k, none⟩ = some v := fun k v o1 o2 o3 h => by
    rw [World.cell?_alloc_lt _ _ ⟨g, k, none⟩ (by simp; omega), World.cell?_alloc_lt _ _ ⟨g, k, none⟩ (by simp; omega), World.cell?_alloc_lt _ _ ⟨g, k, none⟩ hg]; exact h
  have f30 := fun o1 o2 o3 => f3 0 _ o1 o2 o3 h0
  have f31 := fun o1 o2 o3 => f3 1 _ o1 o2 o3 h1
  clear f3
  have hmk : ∀ w, (Instr.makeSlice 132 (.int .i64 0) (.int .i64 2)).run Tryz.prog w = .ok (.slice (some ⟨w.heap.size, 0, none⟩) 0 2) (w.alloc (.cells #[.nilIface, .nilIface] 55)) := fun _ => by kernel_rfl
  go_enter Tryz.func92, Tryz.ntmps92
  go_wp2
  refine wp_loop_rounds 3 ?_
  rw [rounds_succ]
  go_wp2
  rw [rounds_succ]
  go_wp2
  rw [rounds_succ]
  go_wp2
  refine wp_loop_rounds 3 ?_
  rw [rounds_succ]
  go_wp2
  rw [rounds_succ]
  go_wp2
  rw [rounds_succ]
  go_wp2
  go_ret
  refine ⟨w.heap.size + 1, w.heap.size, 2, 2, rfl, by simp; try omega, by simp; try omega, by go_simp, by decide, by decide, by go_simp, ?_⟩
  repeat (first | exact Below.refl _ _ | refine Below.alloc ?_ (by simp; try omega) _)

end Go.Proofs.YtkaejkjheajaaaaGreatDoor
