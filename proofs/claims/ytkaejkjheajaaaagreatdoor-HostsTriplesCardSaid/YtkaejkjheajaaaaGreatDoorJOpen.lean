/-
  From what a row hands over to what the walks of law07 ask: slices of bools, arrays of numbers.
-/
import Derived.Test.YtkaejkjheajaaaaGreatDoorRow
import Derived.Test.YtkaejkjheajaaaaGreatDoorJTri
namespace Go.Proofs.YtkaejkjheajaaaaGreatDoor
open Go.ChangeShapes Go.WideShapes Go.ChangeAt Go.RowKit

theorem cellsBool : Tryz.prog.cellsOf 4 = 1 := by kernel_rfl
set_option maxRecDepth 100000 in
/-- A slice of bools that came in. -/
theorem slO_of {H : Type} {enc : TypeId × Value → H} {W : World} {base : Nat} {sp : Nat → Bool} {hd : Bool} {v : Value} {d : DataW H} {ps : List MemPlace} {r : Reach} {b0 : Nat}
    (hv : Value.okWide Tryz.prog W r b0 52 v) (h : DataW.Trod enc Tryz.prog W base sp hd 52 v d ps) : ∃ l, SlO W v l := by
  obtain ⟨a0, len, cap, rfl⟩ := okWide_slice Tryz.underlying52 hv
  obtain ⟨fuel, hf⟩ := h
  rcases DataW.trod_slice Tryz.underlying52 hf with ⟨hcs, _⟩ | ⟨a, len', cap', elems, rest, n, _, hcs, hx, _, hl, hm, hlen, hel, hrest⟩
  · have h0 : Value.slice a0 len cap = .slice none 0 0 := List.singleton_inj.1 hcs
    injection h0 with e1 e2 e3
    subst e1; subst e2; subst e3
    exact ⟨[], none, 0, rfl, by simp, fun j b hj => by simp at hj⟩
  · have hv2 : Value.slice a0 len cap = .slice (some a) len' cap' := List.singleton_inj.1 hcs
    injection hv2 with e1 e2 e3
    subst e1; subst e2; subst e3
    have each : ∀ i, i < len → ∃ b : Bool, W.cell? (a.add i) = some (.bool b) := by
      intro i hi
      have h1 := hel i hi
      rw [cellsBool, Nat.mul_one, List.getElem?_eq_getElem (by omega), Option.bind_eq_some_iff] at h1
      obtain ⟨cs', hcs', hy⟩ := h1
      obtain ⟨b, rfl, _⟩ := DataW.trod_bool Tryz.underlying4 hy
      exact ⟨b, cell_of_cells?_one hcs'⟩
    obtain ⟨l, hll, hcell⟩ : ∃ l : List Bool, l.length = len ∧ ∀ i b, l[i]? = some b → W.cell? (a.add i) = some (.bool b) := by
      clear hlen hel hl hf hv hcs hrest hx
      induction len with
      | zero => exact ⟨[], rfl, fun i b h => by simp at h⟩
      | succ m ih =>
        obtain ⟨l, h1, h2⟩ := ih (fun i hi => each i (by omega))
        obtain ⟨b, hb⟩ := each m (by omega)
        refine ⟨l ++ [b], by simp [h1], fun i c hc => ?_⟩
        rcases Nat.lt_or_ge i m with hi | hi
        · rw [List.getElem?_append_left (by omega)] at hc
          exact h2 i c hc
        · have him : i = m := by
            have := (List.getElem?_eq_some_iff.1 hc).1
            rw [List.length_append, h1] at this
            simp at this; omega
          subst him
          rw [List.getElem?_append_right (by omega), h1, Nat.sub_self] at hc
          have : b = c := by simpa using hc
          rw [← this]; exact hb
    have hm' : cap ≤ 9223372036854775807 := hm
    refine ⟨l, some a, cap, by rw [hll], by rw [hll]; omega, fun j b hj => ?_⟩
    have hc := hcell j b hj
    obtain ⟨B, off, spot⟩ := a
    have hspot : spot = none := by
      have := hcell 0
      have h0 : 0 < l.length := Nat.lt_of_le_of_lt (Nat.zero_le j) (List.getElem?_eq_some_iff.1 hj).1
      have h1 := this l[0] (List.getElem?_eq_getElem h0)
      simpa [Addr.add] using World.cell?_spot h1
    subst hspot
    rw [Go.WideShapes.add_plain] at hc
    exact ⟨B, off, rfl, World.block_lt_of_cell? _ _ hc, hc⟩
end Go.Proofs.YtkaejkjheajaaaaGreatDoor
