/-
  strconv.FormatUint to the bases 8 and 16.
-/
import Derived.Test.YtkaejkjheajaaaaGreatDoorSrcE
import Derived.Test.YtkaejkjheajaaaaGreatDoorHostS
import Derived.Laws.BitsAllLaws
namespace Lz
theorem mask15 (x : Nat) : x &&& 15 = x % 16 := Nat.and_two_pow_sub_one_eq_mod x 4
theorem mask7 (x : Nat) : x &&& 7 = x % 8 := Nat.and_two_pow_sub_one_eq_mod x 3
end Lz
namespace Go.Proofs.YtkaejkjheajaaaaGreatDoor
open Go.RowKit

set_option maxRecDepth 100000 in
theorem pow2_8 (w : World) : Calls Tryz.prog 125 #[.int .i64 8] w fun e w' => e = .returned (.bool true) ∧ w = w' := by
  go_enter Tryz.func125, Tryz.ntmps125
  go_wp2
  go_ret
  exact ⟨rfl, rfl⟩
set_option maxRecDepth 100000 in
theorem pow2_16 (w : World) : Calls Tryz.prog 125 #[.int .i64 16] w fun e w' => e = .returned (.bool true) ∧ w = w' := by
  go_enter Tryz.func125, Tryz.ntmps125
  go_wp2
  go_ret
  exact ⟨rfl, rfl⟩
theorem db_at8 : IntKind.u64.wrap (bits BinOp.and IntKind.u64 8 (IntKind.u64.wrap (-8)) * 285870213051353865) / 288230376151711744 = 7 := by decide +kernel
theorem db_at16 : IntKind.u64.wrap (bits BinOp.and IntKind.u64 16 (IntKind.u64.wrap (-16)) * 285870213051353865) / 288230376151711744 = 15 := by decide +kernel
set_option maxRecDepth 100000 in
theorem tz64_8 (w : World) (h : w.cell? ⟨4, 7, none⟩ = some (.int .u8 3)) : Calls Tryz.prog 157 #[.int .u64 8] w fun e w' => e = .returned (.int .i64 3) ∧ w = w' := by
  have hx := db_at8
  go_enter Tryz.func157, Tryz.ntmps157
  go_wp2
  go_ret
  exact ⟨rfl, rfl⟩
set_option maxRecDepth 100000 in
theorem tz64_16 (w : World) (h : w.cell? ⟨4, 15, none⟩ = some (.int .u8 4)) : Calls Tryz.prog 157 #[.int .u64 16] w fun e w' => e = .returned (.int .i64 4) ∧ w = w' := by
  have hx := db_at16
  go_enter Tryz.func157, Tryz.ntmps157
  go_wp2
  go_ret
  exact ⟨rfl, rfl⟩
set_option maxRecDepth 100000 in
theorem tz_8 (w : World) (h : w.cell? ⟨4, 7, none⟩ = some (.int .u8 3)) : Calls Tryz.prog 126 #[.int .u64 8] w fun e w' => e = .returned (.int .i64 3) ∧ w = w' := by
  go_enter Tryz.func126, Tryz.ntmps126
  go_wp2_with fail
  refine (tz64_8 _ h).mono ?_
  rintro e w' ⟨rfl, rfl⟩
  go_wp2
  go_ret
  exact ⟨rfl, rfl⟩
set_option maxRecDepth 100000 in
theorem tz_16 (w : World) (h : w.cell? ⟨4, 15, none⟩ = some (.int .u8 4)) : Calls Tryz.prog 126 #[.int .u64 16] w fun e w' => e = .returned (.int .i64 4) ∧ w = w' := by
  go_enter Tryz.func126, Tryz.ntmps126
  go_wp2_with fail
  refine (tz64_16 _ h).mono ?_
  rintro e w' ⟨rfl, rfl⟩
  go_wp2
  go_ret
  exact ⟨rfl, rfl⟩

/-- A slice of bytes that is none, and a text. -/
def RFmt (l : List UInt8) (w : World) (e : Ending) (w' : World) : Prop := ∃ (u : ByteArray) (v : Value), e = .returned (.tuple #[v, .string u]) ∧ Hid (u.data.toList = l) ∧ Below w.heap.size w w'
theorem zero65 : Tryz.zeroCells162 = ((List.replicate 65 (0 : UInt8)).map fun c => Value.int .u8 (c.toNat : Int)).toArray := by kernel_rfl
theorem byteRow_cells (w : World) (l : List UInt8) (T : TypeId) : ByteRow (w.alloc (.cells (l.map fun c => Value.int .u8 (c.toNat : Int)).toArray T)) w.heap.size l := by
  intro j c h
  refine ⟨?_, ?_⟩
  · rw [World.cell?_alloc_mark]; simp [h]
  · simp
theorem fmt_len (b : Nat) (hb : 8 ≤ b) (u m n : Nat) (hu : b ≤ u) (h : u * b ^ m ≤ n) (hn : n ≤ 1099511627776) : m + 1 ≤ 13 := by
  rcases Nat.lt_or_ge m 13 with h1 | h1
  · omega
  · exfalso
    have h2 : 8 ^ 13 ≤ b ^ m := Nat.le_trans (Nat.pow_le_pow_left hb 13) (Nat.pow_le_pow_right (by omega) h1)
    have h3 : 8 * 8 ^ 13 ≤ u * b ^ m := Nat.mul_le_mul (by omega) h2
    omega
theorem digs1 : ∀ d : Fin 16, (⟨#[48, 49, 50, 51, 52, 53, 54, 55, 56, 57, 97, 98, 99, 100, 101, 102, 103, 104, 105, 106, 107, 108, 109, 110, 111, 112, 113, 114, 115, 116, 117, 118, 119, 120, 121, 122]⟩ : ByteArray)[d.val]'(Nat.lt_trans d.isLt (by decide)) = Lz.hex1 d.val := by decide +kernel
theorem digs (d : Nat) (h : d < 16) {h' : d < (⟨#[48, 49, 50, 51, 52, 53, 54, 55, 56, 57, 97, 98, 99, 100, 101, 102, 103, 104, 105, 106, 107, 108, 109, 110, 111, 112, 113, 114, 115, 116, 117, 118, 119, 120, 121, 122]⟩ : ByteArray).size} : (⟨#[48, 49, 50, 51, 52, 53, 54, 55, 56, 57, 97, 98, 99, 100, 101, 102, 103, 104, 105, 106, 107, 108, 109, 110, 111, 112, 113, 114, 115, 116, 117, 118, 119, 120, 121, 122]⟩ : ByteArray)[d]'h' = Lz.hex1 d := digs1 ⟨d, h⟩
set_option maxHeartbeats 1000000 in
set_option maxRecDepth 100000 in
theorem fmtBits_16 (n : Nat) (hn : n ≤ 1099511627776) (w : World) (h : w.cell? ⟨4, 15, none⟩ = some (.int .u8 4)) : Calls Tryz.prog 72 #[.slice none 0 0, .int .u64 n, .int .i64 16, .bool false, .bool false] w (RFmt (Lz.baseD 16 n) w) := by
  have hmade := byteRow_cells w (List.replicate 65 0) 162
  rw [← zero65] at hmade
  have hb0 : Below w.heap.size w (w.alloc (.cells Tryz.zeroCells162 162)) := (Below.refl _ w).alloc (Nat.le_refl _) _
  have h' : (w.alloc (.cells Tryz.zeroCells162 162)).cell? ⟨4, 15, none⟩ = some (.int .u8 4) := by
    rw [World.cell?_alloc_lt _ _ ⟨4, 15, none⟩ (World.block_lt_of_cell? _ _ h)]; exact h
  have Hm := Lib.hid hmade
  have H0 := Lib.hid hb0
  have Ht := Lib.hid h'
  have HN := Lib.hid hn
  clear hmade hb0 h' h
  go_enter Tryz.func72, Tryz.ntmps72
  go_wp2_with fail
  refine (pow2_16 _).mono ?_
  rintro e w' ⟨rfl, rfl⟩
  go_wp2_with fail
  refine (tz_16 _ Ht.out).mono ?_
  rintro e w' ⟨rfl, rfl⟩
  have hrow0 := Hm.out
  have hbx := H0.out
  generalize w.alloc (.cells Tryz.zeroCells162 162) = wx at hrow0 hbx ⊢
  clear Hm H0 Ht
  go_wp2_with fail
  go_loopw [1, 13] (fun a i wr => ∃ (u : Nat) (D L : List UInt8), D.length ≤ 13 ∧ u ≤ 1099511627776 ∧ a = .int .u64 u ∧ i = .int .i64 ((65 - D.length : Nat) : Int) ∧ ByteRow wr w.heap.size L ∧ Hid (L.length = 65) ∧ Hid (L.drop (65 - D.length) = D) ∧ Hid (Lz.baseD 16 n = Lz.baseD 16 u ++ D) ∧ Hid (u * 16 ^ D.length ≤ n) ∧ Below w.heap.size w wr) (fun a _ _ => (intOf a).toNat)
  case atStart => exact ⟨n, [], List.replicate 65 0, by simp, HN.out, rfl, rfl, hrow0, Lib.hid (by simp), Lib.hid (by simp), Lib.hid (by simp), Lib.hid (by simp), hbx⟩
  case round =>
    clear hrow0 hbx
    obtain ⟨u, D, L, hD, hu, rfl, rfl, hrow, hL, hLD, hE, hle, hb⟩ := hrel
    obtain ⟨i, hi⟩ : ∃ i : Nat, i = 64 - D.length := ⟨_, rfl⟩
    have hi1 : 65 - D.length = i + 1 := by omega
    have hi2 : i < 65 := by omega
    rw [hi1]
    have hLD2 : Hid (L.drop (i + 1) = D) := by show _ = _; have := hLD.out; rw [hi1] at this; exact this
    obtain ⟨c0, hc0⟩ : ∃ c, L[i]? = some c := ⟨_, List.getElem?_eq_getElem (by rw [hL.out]; exact hi2)⟩
    obtain ⟨hc1, hc2⟩ := hrow i c0 hc0
    have hi3 : ((i + 1 : Nat) : Int) - 1 = i := by omega
    have hi4 : (0 : Int) ≤ i := by omega
    have hi5 : (i : Int) < 65 := by omega
    have hset : ∀ c : UInt8, ByteRow (wr.setCell ⟨w.heap.size, i, none⟩ (.int .u8 (c.toNat : Int))) w.heap.size (L.set i c) ∧ (L.set i c).length = 65 ∧ (L.set i c).drop i = c :: D := fun c => by
      refine ⟨hrow.set i c, by rw [List.length_set]; exact hL.out, ?_⟩
      rw [List.drop_eq_getElem_cons (by rw [List.length_set, hL.out]; exact hi2), List.getElem_set_self, List.drop_set_of_lt (by omega), hLD2.out]
    have Hset := Lib.hid hset
    have Hi := Lib.hid hi
    clear hset hi1 hLD hLD2 hc0 hrow hL hi
    by_cases hub : u < 16
    · have hul : (u : Int) < 16 := by omega
      have hE2 : Hid (Lz.baseD 16 n = Lz.hex1 u :: D) := by
        show _ = _
        rw [hE.out, Lz.baseD_small hub]; rfl
      clear hE hle
      go_upto_region 25 with fail
      rw [digs u (by omega)]
      obtain ⟨r1, r2, r3⟩ := Hset.out (Lz.hex1 u)
      have hb2 := hb.setCell (Nat.le_refl _) (p := ⟨w.heap.size, i, none⟩) (.int .u8 ((Lz.hex1 u).toNat : Int))
      generalize wr.setCell ⟨w.heap.size, i, none⟩ (.int .u8 ((Lz.hex1 u).toNat : Int)) = w2 at r1 hb2 ⊢
      have hal : Tryz.prog.arrayLen 162 = 65 := by simp [Program.arrayLen, Tryz.underlying162]
      have hsl : ∀ W, (Instr.sliceAt 162 (.pointer (some ⟨w.heap.size, 0, none⟩)) (some (.int .i64 (i : Int))) none none).run Tryz.prog W = .ok (.slice (some ⟨w.heap.size, i, none⟩) (65 - i) (65 - i)) W := fun W => by
        rw [run_sliceAt_array_l W 162 ⟨w.heap.size, 0, none⟩ (by simp [Program.arrayLen, Program.elem, Tryz.underlying162]) .i64 (i : Int) (by omega) (by rw [hal]; omega)]
        go_simp
        intro h; omega
      have hcv : ∀ W, W = w2 → (convert 22 9 (.slice (some ⟨w.heap.size, i, none⟩) (65 - i) (65 - i))).run Tryz.prog W = .ok (.string ⟨(Lz.hex1 u :: D).toArray⟩) W := by
        rintro W rfl
        have hc := run_convert_bytes_back (P := Tryz.prog) W 22 9 5 ⟨w.heap.size, i, none⟩ (65 - i) (Lz.hex1 u :: D) Tryz.underlying22 Tryz.underlying5 Tryz.underlying9 (by
          intro j hj
          have hg : ((L.set i (Lz.hex1 u)).drop i)[j]? = some (Lz.hex1 u :: D)[j] := by rw [r3]; exact List.getElem?_eq_getElem hj
          rw [List.getElem?_drop] at hg
          have := (r1 (i + j) _ hg).1
          rw [show (⟨w.heap.size, i, none⟩ : Addr).add j = ⟨w.heap.size, i + j, none⟩ by simp [Addr.add]]
          exact this)
        rw [show (Lz.hex1 u :: D).length = 65 - i by rw [List.length_cons, Hi.out]; omega] at hc
        exact hc
      have hcv2 := hcv w2 rfl
      clear hal hcv r1 r3 Hset hc1 hc2
      go_wp2
      go_ret2
      exact ⟨_, _, rfl, Lib.hid (by rw [hE2.out]), hb2⟩
    · have hug : (16 : Int) ≤ (u : Int) := by omega
      have hd := Lz.baseD_big (b := 16) (n := u) (by omega) hub
      have hE2 : Hid (Lz.baseD 16 n = Lz.baseD 16 (u / 16) ++ (Lz.hex1 (u % 16) :: D)) := by
        show _ = _
        rw [hE.out, hd]; simp
      have hle2 : Hid (u / 16 * 16 ^ (Lz.hex1 (u % 16) :: D).length ≤ n) := by
        show _ ≤ _
        refine Nat.le_trans ?_ hle.out
        rw [List.length_cons, Nat.pow_succ, Nat.mul_comm (16 ^ _) 16, ← Nat.mul_assoc]
        exact Nat.mul_le_mul_right _ (Nat.div_mul_le_self u 16)
      have hD2 : D.length + 1 ≤ 13 := fmt_len 16 (by omega) u D.length n (by omega) hle.out HN.out
      have hand : bits .and .u64 (u : Int) 15 = ((u % 16 : Nat) : Int) := by rw [show (15 : Int) = ((15 : Nat) : Int) from rfl, u64_and_nat _ _ (by omega) (by omega), Lz.mask15]
      have hm16 : u % 16 < 16 := by omega
      generalize u % 16 = d at hand hm16 hE2 hle2
      clear hd hE hle
      go_wp2_with fail
      rw [digs d hm16]
      go_roundw
      case rel =>
        obtain ⟨r1, r2, r3⟩ := Hset.out (Lz.hex1 d)
        exact ⟨u / 16, Lz.hex1 d :: D, L.set i (Lz.hex1 d), by simpa using hD2, by omega, by go_num, by rw [List.length_cons, Hi.out]; congr 2; omega, r1, r2, Lib.hid (by rw [List.length_cons, show 65 - (D.length + 1) = i by rw [Hi.out]; omega]; exact r3), hE2, hle2, hb.setCell (Nat.le_refl _) _⟩
      case measure => simp [intOf]; omega
set_option maxRecDepth 100000 in
theorem FormatUintI_16 (n : Nat) (hn : n ≤ 1099511627776) (w : World) (h : w.cell? ⟨4, 15, none⟩ = some (.int .u8 4)) : Calls Tryz.prog 38 #[.int .u64 n, .int .i64 16] w (RStr (Lz.baseD 16 n) w) := by
  have cF := Lib.hid (fmtBits_16 n hn w h)
  go_enter Tryz.func38, Tryz.ntmps38
  go_wp2_with fail
  refine (cF.out).mono ?_
  rintro e w1 ⟨u, v, rfl, hu, hb⟩
  go_wp2
  go_ret
  exact ⟨u, rfl, hu, hb⟩
set_option maxRecDepth 100000 in
theorem FormatUint_16 (n : Nat) (hn : n ≤ 1099511627776) (w : World) (h : w.cell? ⟨4, 15, none⟩ = some (.int .u8 4)) : Calls Tryz.prog 25 #[.int .u64 n, .int .i64 16] w (RStr (Lz.baseD 16 n) w) := by
  have cF := Lib.hid (FormatUintI_16 n hn w h)
  go_enter Tryz.func25, Tryz.ntmps25
  go_wp2_with fail
  refine (cF.out).mono ?_
  rintro e w1 ⟨u, rfl, hu, hb⟩
  go_wp2
  go_ret
  exact ⟨u, rfl, hu, hb⟩

set_option maxHeartbeats 1000000 in
set_option maxRecDepth 100000 in
theorem fmtBits_8 (n : Nat) (hn : n ≤ 1099511627776) (w : World) (h : w.cell? ⟨4, 7, none⟩ = some (.int .u8 3)) : Calls Tryz.prog 72 #[.slice none 0 0, .int .u64 n, .int .i64 8, .bool false, .bool false] w (RFmt (Lz.baseD 8 n) w) := by
  have hmade := byteRow_cells w (List.replicate 65 0) 162
  rw [← zero65] at hmade
  have hb0 : Below w.heap.size w (w.alloc (.cells Tryz.zeroCells162 162)) := (Below.refl _ w).alloc (Nat.le_refl _) _
  have h' : (w.alloc (.cells Tryz.zeroCells162 162)).cell? ⟨4, 7, none⟩ = some (.int .u8 3) := by
    rw [World.cell?_alloc_lt _ _ ⟨4, 7, none⟩ (World.block_lt_of_cell? _ _ h)]; exact h
  have Hm := Lib.hid hmade
  have H0 := Lib.hid hb0
  have Ht := Lib.hid h'
  have HN := Lib.hid hn
  clear hmade hb0 h' h
  go_enter Tryz.func72, Tryz.ntmps72
  go_wp2_with fail
  refine (pow2_8 _).mono ?_
  rintro e w' ⟨rfl, rfl⟩
  go_wp2_with fail
  refine (tz_8 _ Ht.out).mono ?_
  rintro e w' ⟨rfl, rfl⟩
  have hrow0 := Hm.out
  have hbx := H0.out
  generalize w.alloc (.cells Tryz.zeroCells162 162) = wx at hrow0 hbx ⊢
  clear Hm H0 Ht
  go_wp2_with fail
  go_loopw [1, 13] (fun a i wr => ∃ (u : Nat) (D L : List UInt8), D.length ≤ 13 ∧ u ≤ 1099511627776 ∧ a = .int .u64 u ∧ i = .int .i64 ((65 - D.length : Nat) : Int) ∧ ByteRow wr w.heap.size L ∧ Hid (L.length = 65) ∧ Hid (L.drop (65 - D.length) = D) ∧ Hid (Lz.baseD 8 n = Lz.baseD 8 u ++ D) ∧ Hid (u * 8 ^ D.length ≤ n) ∧ Below w.heap.size w wr) (fun a _ _ => (intOf a).toNat)
  case atStart => exact ⟨n, [], List.replicate 65 0, by simp, HN.out, rfl, rfl, hrow0, Lib.hid (by simp), Lib.hid (by simp), Lib.hid (by simp), Lib.hid (by simp), hbx⟩
  case round =>
    clear hrow0 hbx
    obtain ⟨u, D, L, hD, hu, rfl, rfl, hrow, hL, hLD, hE, hle, hb⟩ := hrel
    obtain ⟨i, hi⟩ : ∃ i : Nat, i = 64 - D.length := ⟨_, rfl⟩
    have hi1 : 65 - D.length = i + 1 := by omega
    have hi2 : i < 65 := by omega
    rw [hi1]
    have hLD2 : Hid (L.drop (i + 1) = D) := by show _ = _; have := hLD.out; rw [hi1] at this; exact this
    obtain ⟨c0, hc0⟩ : ∃ c, L[i]? = some c := ⟨_, List.getElem?_eq_getElem (by rw [hL.out]; exact hi2)⟩
    obtain ⟨hc1, hc2⟩ := hrow i c0 hc0
    have hi3 : ((i + 1 : Nat) : Int) - 1 = i := by omega
    have hi4 : (0 : Int) ≤ i := by omega
    have hi5 : (i : Int) < 65 := by omega
    have hset : ∀ c : UInt8, ByteRow (wr.setCell ⟨w.heap.size, i, none⟩ (.int .u8 (c.toNat : Int))) w.heap.size (L.set i c) ∧ (L.set i c).length = 65 ∧ (L.set i c).drop i = c :: D := fun c => by
      refine ⟨hrow.set i c, by rw [List.length_set]; exact hL.out, ?_⟩
      rw [List.drop_eq_getElem_cons (by rw [List.length_set, hL.out]; exact hi2), List.getElem_set_self, List.drop_set_of_lt (by omega), hLD2.out]
    have Hset := Lib.hid hset
    have Hi := Lib.hid hi
    clear hset hi1 hLD hLD2 hc0 hrow hL hi
    by_cases hub : u < 8
    · have hul : (u : Int) < 8 := by omega
      have hE2 : Hid (Lz.baseD 8 n = Lz.hex1 u :: D) := by
        show _ = _
        rw [hE.out, Lz.baseD_small hub]; rfl
      clear hE hle
      go_upto_region 25 with fail
      rw [digs u (by omega)]
      obtain ⟨r1, r2, r3⟩ := Hset.out (Lz.hex1 u)
      have hb2 := hb.setCell (Nat.le_refl _) (p := ⟨w.heap.size, i, none⟩) (.int .u8 ((Lz.hex1 u).toNat : Int))
      generalize wr.setCell ⟨w.heap.size, i, none⟩ (.int .u8 ((Lz.hex1 u).toNat : Int)) = w2 at r1 hb2 ⊢
      have hal : Tryz.prog.arrayLen 162 = 65 := by simp [Program.arrayLen, Tryz.underlying162]
      have hsl : ∀ W, (Instr.sliceAt 162 (.pointer (some ⟨w.heap.size, 0, none⟩)) (some (.int .i64 (i : Int))) none none).run Tryz.prog W = .ok (.slice (some ⟨w.heap.size, i, none⟩) (65 - i) (65 - i)) W := fun W => by
        rw [run_sliceAt_array_l W 162 ⟨w.heap.size, 0, none⟩ (by simp [Program.arrayLen, Program.elem, Tryz.underlying162]) .i64 (i : Int) (by omega) (by rw [hal]; omega)]
        go_simp
        intro h; omega
      have hcv : ∀ W, W = w2 → (convert 22 9 (.slice (some ⟨w.heap.size, i, none⟩) (65 - i) (65 - i))).run Tryz.prog W = .ok (.string ⟨(Lz.hex1 u :: D).toArray⟩) W := by
        rintro W rfl
        have hc := run_convert_bytes_back (P := Tryz.prog) W 22 9 5 ⟨w.heap.size, i, none⟩ (65 - i) (Lz.hex1 u :: D) Tryz.underlying22 Tryz.underlying5 Tryz.underlying9 (by
          intro j hj
          have hg : ((L.set i (Lz.hex1 u)).drop i)[j]? = some (Lz.hex1 u :: D)[j] := by rw [r3]; exact List.getElem?_eq_getElem hj
          rw [List.getElem?_drop] at hg
          have := (r1 (i + j) _ hg).1
          rw [show (⟨w.heap.size, i, none⟩ : Addr).add j = ⟨w.heap.size, i + j, none⟩ by simp [Addr.add]]
          exact this)
        rw [show (Lz.hex1 u :: D).length = 65 - i by rw [List.length_cons, Hi.out]; omega] at hc
        exact hc
      have hcv2 := hcv w2 rfl
      clear hal hcv r1 r3 Hset hc1 hc2
      go_wp2
      go_ret2
      exact ⟨_, _, rfl, Lib.hid (by rw [hE2.out]), hb2⟩
    · have hug : (8 : Int) ≤ (u : Int) := by omega
      have hd := Lz.baseD_big (b := 8) (n := u) (by omega) hub
      have hE2 : Hid (Lz.baseD 8 n = Lz.baseD 8 (u / 8) ++ (Lz.hex1 (u % 8) :: D)) := by
        show _ = _
        rw [hE.out, hd]; simp
      have hle2 : Hid (u / 8 * 8 ^ (Lz.hex1 (u % 8) :: D).length ≤ n) := by
        show _ ≤ _
        refine Nat.le_trans ?_ hle.out
        rw [List.length_cons, Nat.pow_succ, Nat.mul_comm (8 ^ _) 8, ← Nat.mul_assoc]
        exact Nat.mul_le_mul_right _ (Nat.div_mul_le_self u 8)
      have hD2 : D.length + 1 ≤ 13 := fmt_len 8 (by omega) u D.length n (by omega) hle.out HN.out
      have hand : bits .and .u64 (u : Int) 7 = ((u % 8 : Nat) : Int) := by rw [show (7 : Int) = ((7 : Nat) : Int) from rfl, u64_and_nat _ _ (by omega) (by omega), Lz.mask7]
      have hm16 : u % 8 < 16 := by omega
      generalize u % 8 = d at hand hm16 hE2 hle2
      clear hd hE hle
      go_wp2_with fail
      rw [digs d hm16]
      go_roundw
      case rel =>
        obtain ⟨r1, r2, r3⟩ := Hset.out (Lz.hex1 d)
        exact ⟨u / 8, Lz.hex1 d :: D, L.set i (Lz.hex1 d), by simpa using hD2, by omega, by go_num, by rw [List.length_cons, Hi.out]; congr 2; omega, r1, r2, Lib.hid (by rw [List.length_cons, show 65 - (D.length + 1) = i by rw [Hi.out]; omega]; exact r3), hE2, hle2, hb.setCell (Nat.le_refl _) _⟩
      case measure => simp [intOf]; omega
set_option maxRecDepth 100000 in
theorem FormatUintI_8 (n : Nat) (hn : n ≤ 1099511627776) (w : World) (h : w.cell? ⟨4, 7, none⟩ = some (.int .u8 3)) : Calls Tryz.prog 38 #[.int .u64 n, .int .i64 8] w (RStr (Lz.baseD 8 n) w) := by
  have cF := Lib.hid (fmtBits_8 n hn w h)
  go_enter Tryz.func38, Tryz.ntmps38
  go_wp2_with fail
  refine (cF.out).mono ?_
  rintro e w1 ⟨u, v, rfl, hu, hb⟩
  go_wp2
  go_ret
  exact ⟨u, rfl, hu, hb⟩
set_option maxRecDepth 100000 in
theorem FormatUint_8 (n : Nat) (hn : n ≤ 1099511627776) (w : World) (h : w.cell? ⟨4, 7, none⟩ = some (.int .u8 3)) : Calls Tryz.prog 25 #[.int .u64 n, .int .i64 8] w (RStr (Lz.baseD 8 n) w) := by
  have cF := Lib.hid (FormatUintI_8 n hn w h)
  go_enter Tryz.func25, Tryz.ntmps25
  go_wp2_with fail
  refine (cF.out).mono ?_
  rintro e w1 ⟨u, rfl, hu, hb⟩
  go_wp2
  go_ret
  exact ⟨u, rfl, hu, hb⟩

end Go.Proofs.YtkaejkjheajaaaaGreatDoor
