/-
  From what a row hands over to what the walks of law07 ask: numbers, arrays of numbers.
-/
import Derived.Test.YtkaejkjheajaaaaGreatDoorRow
namespace Go.Proofs.YtkaejkjheajaaaaGreatDoor
open Go.ChangeShapes Go.WideShapes Go.ChangeAt Go.RowKit

theorem nat_of_wf {k : IntKind} {n : Int} (h : (Lit.int k n).wf = true) (hm : k.min = 0) : ∃ m : Nat, n = (m : Int) ∧ (m : Int) ≤ k.max := by
  simp only [Lit.wf, Bool.and_eq_true, decide_eq_true_eq] at h
  rw [hm] at h
  exact ⟨n.toNat, by omega, by omega⟩
theorem nat8_of_wf {n : Int} (h : (Lit.int .u8 n).wf = true) : ∃ m : Nat, n = (m : Int) ∧ m < 256 := by
  obtain ⟨m, rfl, h1⟩ := nat_of_wf h (by decide)
  rw [show IntKind.u8.max = 255 by decide] at h1
  exact ⟨m, rfl, by omega⟩
theorem nat16_of_wf {n : Int} (h : (Lit.int .u16 n).wf = true) : ∃ m : Nat, n = (m : Int) ∧ m < 65536 := by
  obtain ⟨m, rfl, h1⟩ := nat_of_wf h (by decide)
  rw [show IntKind.u16.max = 65535 by decide] at h1
  exact ⟨m, rfl, by omega⟩
theorem nat32_of_wf {n : Int} (h : (Lit.int .u32 n).wf = true) : ∃ m : Nat, n = (m : Int) ∧ m < 4294967296 := by
  obtain ⟨m, rfl, h1⟩ := nat_of_wf h (by decide)
  rw [show IntKind.u32.max = 4294967295 by decide] at h1
  exact ⟨m, rfl, by omega⟩
theorem cell8 {H : Type} {enc : TypeId × Value → H} {W : World} {base : Nat} {sp : Nat → Bool} {hd : Bool} {v : Value} {x : DataW H × List MemPlace} {fuel : Nat}
    (hf : DataW.trod enc Tryz.prog W base sp hd fuel 5 [v] = some x) : ∃ m : Nat, v = .int .u8 m ∧ m < 256 := by
  obtain ⟨n, h, _, hw⟩ := DataW.trod_int Tryz.underlying5 hf
  obtain rfl := List.singleton_inj.1 h
  obtain ⟨m, rfl, hm⟩ := nat8_of_wf hw
  exact ⟨m, rfl, hm⟩
theorem cell16 {H : Type} {enc : TypeId × Value → H} {W : World} {base : Nat} {sp : Nat → Bool} {hd : Bool} {v : Value} {x : DataW H × List MemPlace} {fuel : Nat}
    (hf : DataW.trod enc Tryz.prog W base sp hd fuel 24 [v] = some x) : ∃ m : Nat, v = .int .u16 m ∧ m < 65536 := by
  obtain ⟨n, h, _, hw⟩ := DataW.trod_int Tryz.underlying24 hf
  obtain rfl := List.singleton_inj.1 h
  obtain ⟨m, rfl, hm⟩ := nat16_of_wf hw
  exact ⟨m, rfl, hm⟩
set_option maxRecDepth 100000 in
theorem arr8x4_of {H : Type} {enc : TypeId × Value → H} {W : World} {base : Nat} {sp : Nat → Bool} {hd : Bool} {v : Value} {d : DataW H} {ps : List MemPlace} {r : Reach} {b0 : Nat}
    (hv : Value.okWide Tryz.prog W r b0 44 v) (h : DataW.Trod enc Tryz.prog W base sp hd 44 v d ps) :
    ∃ a0 a1 a2 a3 : Nat, v = .agg #[.int .u8 a0, .int .u8 a1, .int .u8 a2, .int .u8 a3] ∧ a0 < 256 ∧ a1 < 256 ∧ a2 < 256 ∧ a3 < 256 := by
  simp only [Value.okWide, Tryz.underlying44] at hv
  obtain ⟨⟨cs⟩, rfl, hsz, _⟩ := hv
  have h4 : Tryz.prog.cellsOf 44 = 4 := by kernel_rfl
  have h1 : Tryz.prog.cellsOf 5 = 1 := by kernel_rfl
  rw [h4] at hsz
  match cs, hsz with
  | [a, b, c, e], _ =>
    obtain ⟨fuel, hf⟩ := h
    cases fuel with
    | zero => simp [DataW.trod] at hf
    | succ m =>
      rw [DataW.trod_step] at hf
      unfold DataW.trodStep at hf
      simp only [Tryz.underlying44, Value.cells, h4, h1] at hf
      simp [List.range, List.range.loop, Option.bind_eq_some_iff] at hf
      obtain ⟨_, _, ha, _, ⟨_, _, hb, _, ⟨_, _, hc, _, ⟨_, _, he, _⟩, _⟩, _⟩, _⟩ := hf
      obtain ⟨a0, rfl, i0⟩ := cell8 ha
      obtain ⟨a1, rfl, i1⟩ := cell8 hb
      obtain ⟨a2, rfl, i2⟩ := cell8 hc
      obtain ⟨a3, rfl, i3⟩ := cell8 he
      exact ⟨a0, a1, a2, a3, rfl, i0, i1, i2, i3⟩
set_option maxRecDepth 100000 in
theorem arr16x8_of {H : Type} {enc : TypeId × Value → H} {W : World} {base : Nat} {sp : Nat → Bool} {hd : Bool} {v : Value} {d : DataW H} {ps : List MemPlace} {r : Reach} {b0 : Nat}
    (hv : Value.okWide Tryz.prog W r b0 49 v) (h : DataW.Trod enc Tryz.prog W base sp hd 49 v d ps) :
    ∃ l : List Nat, v = .agg (l.map (fun n : Nat => Value.int .u16 (n : Int))).toArray ∧ l.length = 8 ∧ ∀ n ∈ l, n < 65536 := by
  simp only [Value.okWide, Tryz.underlying49] at hv
  obtain ⟨⟨cs⟩, rfl, hsz, _⟩ := hv
  have h8 : Tryz.prog.cellsOf 49 = 8 := by kernel_rfl
  have h1 : Tryz.prog.cellsOf 24 = 1 := by kernel_rfl
  rw [h8] at hsz
  match cs, hsz with
  | [a, b, c, e, f, g, i, j], _ =>
    obtain ⟨fuel, hf⟩ := h
    cases fuel with
    | zero => simp [DataW.trod] at hf
    | succ m =>
      rw [DataW.trod_step] at hf
      unfold DataW.trodStep at hf
      simp only [Tryz.underlying49, Value.cells, h8, h1] at hf
      simp [List.range, List.range.loop, Option.bind_eq_some_iff] at hf
      obtain ⟨_, _, ha, _, ⟨_, _, hb, _, ⟨_, _, hc, _, ⟨_, _, he, _, ⟨_, _, hf', _, ⟨_, _, hg, _, ⟨_, _, hi, _, ⟨_, _, hj, _⟩, _⟩, _⟩, _⟩, _⟩, _⟩, _⟩, _⟩ := hf
      obtain ⟨a0, rfl, i0⟩ := cell16 ha
      obtain ⟨a1, rfl, i1⟩ := cell16 hb
      obtain ⟨a2, rfl, i2⟩ := cell16 hc
      obtain ⟨a3, rfl, i3⟩ := cell16 he
      obtain ⟨a4, rfl, i4⟩ := cell16 hf'
      obtain ⟨a5, rfl, i5⟩ := cell16 hg
      obtain ⟨a6, rfl, i6⟩ := cell16 hi
      obtain ⟨a7, rfl, i7⟩ := cell16 hj
      refine ⟨[a0, a1, a2, a3, a4, a5, a6, a7], rfl, rfl, ?_⟩
      intro n hn
      simp only [List.mem_cons, List.not_mem_nil, or_false] at hn
      rcases hn with rfl | rfl | rfl | rfl | rfl | rfl | rfl | rfl <;> assumption
end Go.Proofs.YtkaejkjheajaaaaGreatDoor
