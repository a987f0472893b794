/-
  strconv.FormatUint to the base 10, and lazaretlaw07.form: a number as a label, in one of several ways.
-/
import Derived.Test.YtkaejkjheajaaaaGreatDoorJLaw
import Derived.Test.YtkaejkjheajaaaaGreatDoorSheli
import Derived.Lib.AppendIntMem
namespace Lz
open Go
theorem baseD_len (b : Nat) (hb : 2 ≤ b) (k : Nat) : ∀ n, n < b ^ (k + 1) → (baseD b n).length ≤ k + 1 := by
  induction k with
  | zero => intro n h; rw [baseD_small (by simpa using h)]; simp
  | succ k ih =>
    intro n h
    by_cases h1 : n < b
    · rw [baseD_small h1]; simp
    · rw [baseD_big hb h1]
      have h2 : n / b < b ^ (k + 1) := by
        rw [Nat.div_lt_iff_lt_mul (by omega)]
        rw [Nat.pow_succ] at h; exact h
      have := ih (n / b) h2
      simp only [List.length_append, List.length_singleton]; omega
theorem baseD_len14 (b : Nat) (hb : 8 ≤ b) (n : Nat) (h : n ≤ 1099511627776) : (baseD b n).length ≤ 14 := by
  refine baseD_len b (by omega) 13 n (Nat.lt_of_lt_of_le (show n < 8 ^ 14 by omega) (Nat.pow_le_pow_left hb 14))
theorem formP_len (n way : Nat) (h : n ≤ 1099511627776) : (formP n way).length ≤ 20 := by
  have h1 := baseD_len14 16 (by omega) n h
  have h2 := baseD_len14 8 (by omega) n h
  have h3 := baseD_len14 10 (by omega) n h
  rw [baseD_dec] at h3
  unfold formP
  repeat' split
  all_goals first | omega | (simp only [List.length_append, List.length_cons, List.length_nil]; omega)
end Lz
namespace Go.Proofs.YtkaejkjheajaaaaGreatDoor
open Go.RowKit Go.Sort

set_option maxHeartbeats 1000000 in
set_option maxRecDepth 100000 in
theorem FormatUintI_10 (u : Nat) (hn : u ≤ 1099511627776) (w : World) (hE : EnvH w) : Calls Tryz.prog 38 #[.int .u64 u, .int .i64 10] w (RStr (Lib.decDigits u) w) := by
  by_cases h100 : u < 100
  · have hlt : (u : Int) < 100 := by omega
    have cS := Tryz.internal_strconv_small u h100 w
    have CS := Lib.hid cS
    clear cS h100
    go_enter Tryz.func38, Tryz.ntmps38
    go_wp2_with fail
    refine (CS.out).mono ?_
    rintro e w' ⟨rfl, rfl⟩
    go_wp2
    go_ret
    exact ⟨_, rfl, Lib.hid rfl, Below.refl _ _⟩
  · have hu1 : 1 ≤ u := by omega
    have hu64 : u < 18446744073709551616 := by omega
    have hge : ¬ (u : Int) < 100 := by omega
    have hnd20 : Lib.nDigits u ≤ 20 := by have := Lib.numDigits_eq u hu1 hu64; split at this <;> omega
    have hal : Tryz.prog.arrayLen 101 = 24 := by simp [Program.arrayLen, Tryz.underlying101]
    have hsl : ∀ W, (Instr.sliceAt 101 (.pointer (some ⟨w.heap.size, 0, none⟩)) none (some (.int .i64 (Lib.nDigits u : Int))) none).run Tryz.prog W = .ok (.slice (some ⟨w.heap.size, 0, none⟩) (Lib.nDigits u) 24) W := fun W => by
      rw [run_sliceAt_array_h W 101 ⟨w.heap.size, 0, none⟩ (by simp [Program.arrayLen, Program.elem, Tryz.underlying101]) .i64 (Lib.nDigits u : Int) (by omega) (by rw [hal]; omega)]
      go_simp
    have hH0 := Lib.holds_zero0 w 101 (Lib.nDigits u) (by omega)
    have hfmt := Tryz.internal_strconv_formatBase10 w.heap.size 0 24 u (Array.replicate (Lib.nDigits u) 0) (w.alloc (.cells Lib.zeros24 101)) hH0 (by rw [Array.size_replicate]; exact Lib.lt_pow_nDigits u) hu64 (by rw [Array.size_replicate]; omega)
    rw [Array.size_replicate] at hfmt
    have hnum := Tryz.internal_strconv_numDigits u hu1 hu64 (w.alloc (.cells Lib.zeros24 101)) (Lib.tabIs_alloc hE.pow _)
    have HH0 := Lib.hid hH0
    have Hfmt := Lib.hid hfmt
    have Hnum := Lib.hid hnum
    clear hH0 hal hfmt hnum hu64 h100
    go_enter Tryz.func38, Tryz.ntmps38
    go_wp2_with fail
    refine (Hnum.out).mono ?_
    rintro e w' ⟨rfl, rfl⟩
    go_wp2_with fail
    refine (Hfmt.out).mono ?_
    rintro e w' ⟨rfl, k, v', dk, rfl, hF⟩
    have hcv : (convert 22 9 (.slice (some ⟨w.heap.size, 0, none⟩) (Lib.nDigits u) 24)).run Tryz.prog ((putRow (fun (b : UInt8) => Value.int .u8 (b.toNat : Int)) (w.alloc (.cells Lib.zeros24 101)) w.heap.size 0 dk).drewN k) = .ok (.string ⟨(Lib.decDigits u).toArray⟩) ((putRow (fun (b : UInt8) => Value.int .u8 (b.toNat : Int)) (w.alloc (.cells Lib.zeros24 101)) w.heap.size 0 dk).drewN k) := by
      have h := run_convert_bytes_back (P := Tryz.prog) ((putRow (fun (b : UInt8) => Value.int .u8 (b.toNat : Int)) (w.alloc (.cells Lib.zeros24 101)) w.heap.size 0 dk).drewN k) 22 9 5 ⟨w.heap.size, 0, none⟩ 24 (Lib.decDigits u) Tryz.underlying22 Tryz.underlying5 Tryz.underlying9 (fun j hj => by
        rw [Lib.row_is_numeral hF j hj, Lib.add_plain, World.cell?_drewN]
        exact cell?_putRow (fun (b : UInt8) => Value.int .u8 (b.toNat : Int)) _ w.heap.size 0 _ dk HH0.out (by rw [hF.size, Array.size_replicate]) j (by rw [hF.size]; rw [Lib.decDigits_length] at hj; exact hj))
      rw [Lib.decDigits_length] at h
      exact h
    obtain ⟨os, eo⟩ := Lib.fin_at w (.cells Lib.zeros24 101) dk k 0
    have hbl : Below w.heap.size w ((putRow (fun (b : UInt8) => Value.int .u8 (b.toNat : Int)) (w.alloc (.cells Lib.zeros24 101)) w.heap.size 0 dk).drewN k) := by
      rw [eo]; exact below_call (below_drewN (Below.refl _ _) k) (grow_below _ _)
    clear eo hF
    generalize (putRow (fun (b : UInt8) => Value.int .u8 (b.toNat : Int)) (w.alloc (.cells Lib.zeros24 101)) w.heap.size 0 dk).drewN k = W2 at hcv hbl ⊢
    go_wp2
    go_ret
    exact ⟨_, rfl, Lib.hid rfl, hbl⟩
set_option maxRecDepth 100000 in
theorem FormatUint_10 (u : Nat) (hn : u ≤ 1099511627776) (w : World) (hE : EnvH w) : Calls Tryz.prog 25 #[.int .u64 u, .int .i64 10] w (RStr (Lib.decDigits u) w) := by
  have cF := Lib.hid (FormatUintI_10 u hn w hE)
  go_enter Tryz.func25, Tryz.ntmps25
  go_wp2_with fail
  refine (cF.out).mono ?_
  rintro e w1 ⟨x, rfl, hx, hb⟩
  go_wp2
  go_ret
  exact ⟨x, rfl, hx, hb⟩

set_option maxHeartbeats 1000000 in
set_option maxRecDepth 100000 in
theorem form_any (n way : Nat) (hn : n ≤ 1099511627776) (hw : way < 256) (w : World) (hE : EnvH w) : Calls Tryz.prog 23 #[.int .u64 n, .int .u8 way] w (RStr (Lz.formP n way) w) := by
  have l16 := Lz.baseD_len14 16 (by omega) n hn
  have l8 := Lz.baseD_len14 8 (by omega) n hn
  obtain ⟨r, hr⟩ : ∃ r, r = way % 5 := ⟨_, rfl⟩
  have hrI : (way : Int) % 5 = (r : Int) := by omega
  have hr5 : r < 5 := by omega
  have hF : Lz.formP n way = (if r = 1 then [48, 120] ++ Lz.baseD 16 n else if r = 2 then [48, 88, 48, 48, 48] ++ Lz.baseD 16 n else if r = 3 then [48] ++ Lz.baseD 8 n else if r = 4 then [48, 48, 48] ++ Lz.baseD 8 n else Lib.decDigits n) := by
    unfold Lz.formP; rw [← hr]
  have HF := Lib.hid hF
  have HN := Lib.hid hn
  clear hF hr hn
  have c16 := Lib.hid (FormatUint_16 n HN.out w hE.db16)
  have c8 := Lib.hid (FormatUint_8 n HN.out w hE.db8)
  have c10 := Lib.hid (FormatUint_10 n HN.out w hE)
  have hsz : ∀ (x : ByteArray) (b : Nat), x.data.toList = Lz.baseD b n → (Lz.baseD b n).length ≤ 14 → x.size ≤ 14 := fun x b h1 h2 => by rw [← len_of_size, h1]; exact h2
  have Hsz := Lib.hid hsz
  clear hsz
  obtain hk | hk | hk | hk | hk : r = 1 ∨ r = 2 ∨ r = 3 ∨ r = 4 ∨ r = 0 := by omega
  · have hrI2 : (way : Int) % 5 = 1 := by omega
    clear hrI hr5
    go_enter Tryz.func23, Tryz.ntmps23
    go_wp2_with fail
    refine (c16.out).mono ?_
    rintro e w1 ⟨x, rfl, hx, hb⟩
    have hxz := Hsz.out x 16 hx.out l16
    have hs : ¬ (9223372036854775807 < 2 + x.size) := by omega
    go_wp2
    go_ret
    exact ⟨_, rfl, Lib.hid (by rw [HF.out, hk, append_data', hx.out]; rfl), hb⟩
  · have hrI2 : (way : Int) % 5 = 2 := by omega
    clear hrI hr5
    go_enter Tryz.func23, Tryz.ntmps23
    go_wp2_with fail
    refine (c16.out).mono ?_
    rintro e w1 ⟨x, rfl, hx, hb⟩
    have hxz := Hsz.out x 16 hx.out l16
    have hs : ¬ (9223372036854775807 < 5 + x.size) := by omega
    go_wp2
    go_ret
    exact ⟨_, rfl, Lib.hid (by rw [HF.out, hk, append_data', hx.out]; rfl), hb⟩
  · have hrI2 : (way : Int) % 5 = 3 := by omega
    clear hrI hr5
    go_enter Tryz.func23, Tryz.ntmps23
    go_wp2_with fail
    refine (c8.out).mono ?_
    rintro e w1 ⟨x, rfl, hx, hb⟩
    have hxz := Hsz.out x 8 hx.out l8
    have hs : ¬ (9223372036854775807 < 1 + x.size) := by omega
    go_wp2
    go_ret
    exact ⟨_, rfl, Lib.hid (by rw [HF.out, hk, append_data', hx.out]; rfl), hb⟩
  · have hrI2 : (way : Int) % 5 = 4 := by omega
    clear hrI hr5
    go_enter Tryz.func23, Tryz.ntmps23
    go_wp2_with fail
    refine (c8.out).mono ?_
    rintro e w1 ⟨x, rfl, hx, hb⟩
    have hxz := Hsz.out x 8 hx.out l8
    have hs : ¬ (9223372036854775807 < 3 + x.size) := by omega
    go_wp2
    go_ret
    exact ⟨_, rfl, Lib.hid (by rw [HF.out, hk, append_data', hx.out]; rfl), hb⟩
  · have hrI2 : (way : Int) % 5 = 0 := by omega
    clear hrI hr5
    go_enter Tryz.func23, Tryz.ntmps23
    go_wp2_with fail
    refine (c10.out).mono ?_
    rintro e w1 ⟨x, rfl, hx, hb⟩
    go_wp2
    go_ret
    exact ⟨_, rfl, Lib.hid (by rw [HF.out, hk, hx.out]; rfl), hb⟩
end Go.Proofs.YtkaejkjheajaaaaGreatDoor
