/-
  hosts.six.run: the longest run of pieces 0.
-/
import Derived.Test.YtkaejkjheajaaaaGreatDoorHByt
namespace Lz
open Go
theorem zeros_zero {l : List Nat} {k : Nat} (h : l[k]? = some 0) : zerosP (l.drop k) = 1 + zerosP (l.drop (k + 1)) := by
  have hk := (List.getElem?_eq_some_iff.1 h).1
  rw [List.drop_eq_getElem_cons hk]
  have : l[k] = 0 := (List.getElem?_eq_some_iff.1 h).2
  rw [this]
  unfold zerosP
  rw [List.takeWhile_cons]
  simp; omega
theorem zeros_non {l : List Nat} {k x : Nat} (h : l[k]? = some x) (hx : x ≠ 0) : zerosP (l.drop k) = 0 := by
  have hk := (List.getElem?_eq_some_iff.1 h).1
  rw [List.drop_eq_getElem_cons hk]
  have : l[k] = x := (List.getElem?_eq_some_iff.1 h).2
  rw [this]
  unfold zerosP
  rw [List.takeWhile_cons]
  simp [hx]
theorem run_step {l : List Nat} {i : Nat} (f : Nat × Nat) (hi : i < l.length) : runP i (l.drop i) f = runP (i + 1) (l.drop (i + 1)) (if max (f.2 - f.1) 1 < zerosP (l.drop i) then (i, i + zerosP (l.drop i)) else f) := by
  rw [List.drop_eq_getElem_cons hi]; rfl
end Lz
namespace Go.Proofs.YtkaejkjheajaaaaGreatDoor
open Go.RowKit

/-- Eight pieces, as cells. -/
def sixV (l : List Nat) : Value := .agg (l.map fun n : Nat => Value.int .u16 (n : Int)).toArray
def RRun (l : List Nat) (w : World) (e : Ending) (w' : World) : Prop := e = .returned (.tuple #[.int .i64 ((Lz.runP 0 l (0, 0)).1 : Nat), .int .i64 ((Lz.runP 0 l (0, 0)).2 : Nat)]) ∧ Below w.heap.size w w'

set_option maxHeartbeats 1000000 in
set_option maxRecDepth 100000 in
theorem run_any (l : List Nat) (h8 : l.length = 8) (w : World) : Calls Tryz.prog 101 #[sixV l] w (RRun l w) := by
  unfold sixV
  obtain ⟨w1, hw1⟩ : ∃ w1, w1 = w.alloc (.cells (l.map fun n : Nat => Value.int .u16 (n : Int)).toArray 90) := ⟨_, rfl⟩
  have hc : ∀ j x, l[j]? = some x → w1.cell? ⟨w.heap.size, j, none⟩ = some (.int .u16 (x : Nat)) := by
    intro j x hj
    rw [hw1, World.cell?_alloc_mark]
    simp [hj]
  have hb1 : Below w.heap.size w w1 := by rw [hw1]; exact (Below.refl _ w).alloc (Nat.le_refl _) _
  have Hc := Lib.hid hc
  have H8 := Lib.hid h8
  clear hc h8
  go_enter Tryz.func101, Tryz.ntmps101
  go_wp2
  rw [← hw1]
  clear hw1
  go_loop [2, 3, 6] (fun a b c => ∃ i f t : Nat, i ≤ 8 ∧ f ≤ t ∧ t ≤ 8 ∧ a = .int .i64 f ∧ b = .int .i64 t ∧ c = .int .i64 i ∧ Hid (Lz.runP i (l.drop i) (f, t) = Lz.runP 0 l (0, 0))) (fun _ _ c => 8 - (intOf c).toNat)
  case atStart => exact ⟨0, 0, 0, by omega, by omega, by omega, rfl, rfl, rfl, Lib.hid rfl⟩
  case round =>
    obtain ⟨i, f, t, hi, hft, ht, rfl, rfl, rfl, hR⟩ := hrel
    by_cases hlt : i < 8
    · have hz8 : Lz.zerosP (l.drop 8) = 0 := by rw [List.drop_eq_nil_of_le (by rw [H8.out]; exact Nat.le_refl _)]; rfl
      have Hz8 := Lib.hid hz8
      clear hz8
      go_wp2
      go_loop [5] (fun c => ∃ k : Nat, i ≤ k ∧ k ≤ 8 ∧ c = .int .i64 k ∧ Hid (Lz.zerosP (l.drop i) = (k - i) + Lz.zerosP (l.drop k))) (fun c => 8 - (intOf c).toNat)
      case atStart => exact ⟨i, Nat.le_refl _, by omega, rfl, by show _ = _; omega⟩
      case round =>
        obtain ⟨k, hik, hk, rfl, hZ⟩ := hrel
        by_cases hk8 : k < 8
        · obtain ⟨x, hx⟩ : ∃ x, l[k]? = some x := ⟨_, List.getElem?_eq_getElem (by rw [H8.out]; exact hk8)⟩
          have hcx := Hc.out k x hx
          by_cases hx0 : x = 0
          · have hxb : ((x : Int) == 0) = true := by rw [hx0]; rfl
            have hZ2 : Hid (Lz.zerosP (l.drop i) = (k + 1 - i) + Lz.zerosP (l.drop (k + 1))) := by
              show _ = _
              rw [hx0] at hx
              rw [hZ.out, Lz.zeros_zero hx]; omega
            clear hx hx0
            go_wp2
            go_round
            case rel => exact ⟨k + 1, by omega, by omega, by go_num, hZ2⟩
            case measure => simp [intOf]; omega
          · have hxb : ((x : Int) == 0) = false := beq_eq_false_iff_ne.2 (by omega)
            have hZ2 : Hid (Lz.zerosP (l.drop i) = k - i) := by show _ = _; rw [hZ.out, Lz.zeros_non hx hx0]; omega
            clear hx hx0
            have hst := Lz.run_step (f, t) (show i < l.length by rw [H8.out]; exact hlt)
            rw [hZ2.out, hR.out] at hst
            have Hst := Lib.hid hst
            clear hst
            obtain ⟨d, hd⟩ : ∃ d : Nat, d = k - i := ⟨_, rfl⟩
            obtain ⟨g, hg⟩ : ∃ g : Nat, g = t - f := ⟨_, rfl⟩
            have hd1 : (k : Int) - i = d := by omega
            have hg1 : (t : Int) - f = g := by omega
            have hki : i + (k - i) = k := by omega
            by_cases hm : max (t - f) 1 < k - i
            · have hm' : max (g : Int) 1 < d := by omega
              have HS : Hid (Lz.runP (i + 1) (l.drop (i + 1)) (i, k) = Lz.runP 0 l (0, 0)) := by
                show _ = _
                have := Hst.out
                rw [if_pos hm, hki] at this
                exact this.symm
              clear hd hg hm hki
              go_wp2
              go_round
              case rel => exact ⟨i + 1, i, k, by omega, hik, hk, rfl, rfl, by go_num, HS⟩
              case measure => simp [intOf]; omega
            · have hm' : ¬ max (g : Int) 1 < d := by omega
              have HS : Hid (Lz.runP (i + 1) (l.drop (i + 1)) (f, t) = Lz.runP 0 l (0, 0)) := by
                show _ = _
                have := Hst.out
                rw [if_neg hm] at this
                exact this.symm
              clear hd hg hm hki
              go_wp2
              go_round
              case rel => exact ⟨i + 1, f, t, by omega, hft, ht, rfl, rfl, by go_num, HS⟩
              case measure => simp [intOf]; omega

        ·   have hZ2 : Hid (Lz.zerosP (l.drop i) = k - i) := by
              show _ = _
              have : k = 8 := by omega
              have hz := hZ.out
              rw [this, Hz8.out] at hz
              omega
            have hst := Lz.run_step (f, t) (show i < l.length by rw [H8.out]; exact hlt)
            rw [hZ2.out, hR.out] at hst
            have Hst := Lib.hid hst
            clear hst
            obtain ⟨d, hd⟩ : ∃ d : Nat, d = k - i := ⟨_, rfl⟩
            obtain ⟨g, hg⟩ : ∃ g : Nat, g = t - f := ⟨_, rfl⟩
            have hd1 : (k : Int) - i = d := by omega
            have hg1 : (t : Int) - f = g := by omega
            have hki : i + (k - i) = k := by omega
            by_cases hm : max (t - f) 1 < k - i
            · have hm' : max (g : Int) 1 < d := by omega
              have HS : Hid (Lz.runP (i + 1) (l.drop (i + 1)) (i, k) = Lz.runP 0 l (0, 0)) := by
                show _ = _
                have := Hst.out
                rw [if_pos hm, hki] at this
                exact this.symm
              clear hd hg hm hki
              go_wp2
              go_round
              case rel => exact ⟨i + 1, i, k, by omega, hik, hk, rfl, rfl, by go_num, HS⟩
              case measure => simp [intOf]; omega
            · have hm' : ¬ max (g : Int) 1 < d := by omega
              have HS : Hid (Lz.runP (i + 1) (l.drop (i + 1)) (f, t) = Lz.runP 0 l (0, 0)) := by
                show _ = _
                have := Hst.out
                rw [if_neg hm] at this
                exact this.symm
              clear hd hg hm hki
              go_wp2
              go_round
              case rel => exact ⟨i + 1, f, t, by omega, hft, ht, rfl, rfl, by go_num, HS⟩
              case measure => simp [intOf]; omega

    · have hi8 : i = 8 := by omega
      have hR2 : Hid (Lz.runP 0 l (0, 0) = (f, t)) := by
        show _ = _
        rw [← hR.out, hi8, List.drop_eq_nil_of_le (by rw [H8.out]; exact Nat.le_refl _)]; rfl
      clear hi8
      go_wp2
      go_ret2
      exact ⟨by rw [hR2.out]; rfl, hb1⟩
end Go.Proofs.YtkaejkjheajaaaaGreatDoor
