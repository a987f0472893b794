/-
  percent.more and percent.Encode.
-/
import Derived.Test.YtkaejkjheajaaaaGreatDoorHDec
import Derived.Deep.QuietTactic
import Derived.BigQuiet
import Derived.StillTailTactics
namespace Lz
open Go
/-- The bytes that a set has beside those that all have. -/
def moreP : Nat → Bs
  | 1 => [32, 34, 60, 62, 96]
  | 2 => [32, 34, 35, 60, 62]
  | 3 => [32, 34, 35, 60, 62, 39]
  | 4 => [32, 34, 35, 60, 62, 63, 94, 96, 123, 125]
  | 5 => [32, 34, 35, 60, 62, 63, 94, 96, 123, 125, 47, 58, 59, 61, 64, 91, 92, 93, 124]
  | 6 => [32, 34, 35, 60, 62, 63, 94, 96, 123, 125, 47, 58, 59, 61, 64, 91, 92, 93, 124, 36, 37, 38, 43, 44]
  | _ => []
theorem encode_snoc (of l : Bs) (c : UInt8) : encodeP of (l ++ [c]) = encodeP of l ++ (if c < 32 || 126 < c || of.contains c then [37, digitU (c.toNat / 16), digitU (c.toNat % 16)] else [c]) := by
  simp [encodeP]
theorem encode_len (of l : Bs) : (encodeP of l).length ≤ 3 * l.length := by
  induction l with
  | nil => simp [encodeP]
  | cons c r ih =>
    have : encodeP of (c :: r) = (if c < 32 || 126 < c || of.contains c then [37, digitU (c.toNat / 16), digitU (c.toNat % 16)] else [c]) ++ encodeP of r := by simp [encodeP]
    rw [this]
    split <;> simp <;> omega
end Lz
namespace Go.Proofs.YtkaejkjheajaaaaGreatDoor
open Go.RowKit

theorem app_data (a b : ByteArray) : (a ++ b).data.toList = a.data.toList ++ b.data.toList := by simp

/-- It returns a text of these bytes, and leaves the world as it was. -/
def RStrQ (l : List UInt8) (w : World) (e : Ending) (w' : World) : Prop := ∃ u : ByteArray, e = .returned (.string u) ∧ Hid (u.data.toList = l) ∧ w = w'

set_option maxRecDepth 100000 in
theorem more_0 (w : World) : Calls Tryz.prog 109 #[.int .i64 0] w (RStrQ (Lz.moreP 0) w) := by
  go_enter Tryz.func109, Tryz.ntmps109
  go_wp2
  go_ret
  exact ⟨_, rfl, Lib.hid rfl, rfl⟩
set_option maxRecDepth 100000 in
theorem more_2 (w : World) : Calls Tryz.prog 109 #[.int .i64 2] w (RStrQ (Lz.moreP 2) w) := by
  go_enter Tryz.func109, Tryz.ntmps109
  go_wp2
  go_ret
  exact ⟨_, rfl, Lib.hid rfl, rfl⟩
set_option maxRecDepth 100000 in
theorem more_4 (w : World) : Calls Tryz.prog 109 #[.int .i64 4] w (RStrQ (Lz.moreP 4) w) := by
  go_enter Tryz.func109, Tryz.ntmps109
  go_wp2_with fail
  with_reducible refine (more_2 _).mono ?_
  rintro e w' ⟨u, rfl, hu, rfl⟩
  have hz : u.size = 5 := by rw [← len_of_size, hu.out]; rfl
  go_wp2
  go_ret
  exact ⟨_, rfl, Lib.hid (by rw [app_data, hu.out]; rfl), rfl⟩
set_option maxRecDepth 100000 in
theorem more_5 (w : World) : Calls Tryz.prog 109 #[.int .i64 5] w (RStrQ (Lz.moreP 5) w) := by
  go_enter Tryz.func109, Tryz.ntmps109
  go_wp2_with fail
  with_reducible refine (more_4 _).mono ?_
  rintro e w' ⟨u, rfl, hu, rfl⟩
  have hz : u.size = 10 := by rw [← len_of_size, hu.out]; rfl
  go_wp2
  go_ret
  exact ⟨_, rfl, Lib.hid (by rw [app_data, hu.out]; rfl), rfl⟩
set_option maxRecDepth 100000 in
theorem more_any (k : Nat) (hk : k < 7) (w : World) : Calls Tryz.prog 109 #[.int .i64 k] w (RStrQ (Lz.moreP k) w) := by
  obtain rfl | rfl | rfl | rfl | rfl | rfl | rfl : k = 0 ∨ k = 1 ∨ k = 2 ∨ k = 3 ∨ k = 4 ∨ k = 5 ∨ k = 6 := by omega
  · exact more_0 w
  · show Calls _ _ #[.int .i64 1] _ _
    go_enter Tryz.func109, Tryz.ntmps109
    go_wp2
    go_ret
    exact ⟨_, rfl, Lib.hid rfl, rfl⟩
  · exact more_2 w
  · show Calls _ _ #[.int .i64 3] _ _
    go_enter Tryz.func109, Tryz.ntmps109
    go_wp2_with fail
    with_reducible refine (more_2 _).mono ?_
    rintro e w' ⟨u, rfl, hu, rfl⟩
    have hz : u.size = 5 := by rw [← len_of_size, hu.out]; rfl
    go_wp2
    go_ret
    exact ⟨_, rfl, Lib.hid (by rw [app_data, hu.out]; rfl), rfl⟩
  · exact more_4 w
  · exact more_5 w
  · show Calls _ _ #[.int .i64 6] _ _
    go_enter Tryz.func109, Tryz.ntmps109
    go_wp2_with fail
    with_reducible refine (more_5 _).mono ?_
    rintro e w' ⟨u, rfl, hu, rfl⟩
    have hz : u.size = 19 := by rw [← len_of_size, hu.out]; rfl
    go_wp2
    go_ret
    exact ⟨_, rfl, Lib.hid (by rw [app_data, hu.out]; rfl), rfl⟩

theorem lt32I (c : UInt8) : decide (c < 32) = decide ((c.toNat : Int) < 32) := by revert c; exact Lz.byte_all (by decide +kernel)
theorem gt126I (c : UInt8) : decide (126 < c) = decide (126 < (c.toNat : Int)) := by revert c; exact Lz.byte_all (by decide +kernel)

theorem and15 (c : UInt8) : bits BinOp.and IntKind.u8 (c.toNat : Int) 15 = ((c.toNat % 16 : Nat) : Int) := by revert c; exact Lz.byte_all (by decide +kernel)
theorem wrap8 {x : Int} (h0 : 0 ≤ x) (h1 : x ≤ 255) : IntKind.u8.wrap x = x := by
  have hb : IntKind.u8.bits = 8 := rfl
  have hs : IntKind.u8.signed = false := rfl
  simp only [IntKind.wrap, hb, hs]
  simp
  omega

theorem tripleText (x y : Fin 16) : ((({ data := #[37] } : ByteArray) ++ ByteArray.extract { data := #[48, 49, 50, 51, 52, 53, 54, 55, 56, 57, 65, 66, 67, 68, 69, 70] } x.1 (x.1 + 1)) ++ ByteArray.extract { data := #[48, 49, 50, 51, 52, 53, 54, 55, 56, 57, 65, 66, 67, 68, 69, 70] } y.1 (y.1 + 1)).data.toList = [37, Lz.digitU x.1, Lz.digitU y.1] := by
  revert x y; decide +kernel
theorem byteCells_append (a : List UInt8) (s : ByteArray) : Lib.byteCells (a ++ s.data.toList) = Lib.byteCells a ++ Lib.strCells s := by
  simp [Lib.byteCells, Lib.strCells]

/-- Where Encode stands. -/
structure EncAt (of l : List UInt8) (w : World) (k : Nat) (wr : World) : Prop where
  made : Lib.IsBuilder 146 5 w.heap.size w.heap.size (Lib.byteCells (Lz.encodeP of (l.take k))) wr
  below : Below w.heap.size w wr

set_option maxRecDepth 100000 in
theorem Encode_any (k : Nat) (hk : k < 7) (s : ByteArray) (hs : s.size ≤ 1073741824) (w : World) : Calls Tryz.prog 65 #[.string s, .int .i64 k] w (RStr (Lz.encodeP (Lz.moreP k) s.data.toList) w) := by
  obtain ⟨l, hl⟩ : ∃ l, l = s.data.toList := ⟨_, rfl⟩
  have hlen : l.length = s.size := by rw [hl]; exact len_of_size s
  have h0 : EncAt (Lz.moreP k) l w 0 (w.alloc (.cells #[.pointer none, .slice none 0 0] 146)) :=
    ⟨Lib.fresh_isBuilder _ _ _, (Below.refl _ w).alloc (Nat.le_refl _) _⟩
  have Hl := Lib.hid hl
  rw [← hl]
  clear hl
  have Hlen := Lib.hid hlen
  clear hlen
  have hk0 : (0 : Int) ≤ (k : Int) := by omega
  have hk7 : (k : Int) < 7 := by omega
  go_enter Tryz.func65, Tryz.ntmps65
  go_wp2_with fail
  with_reducible refine (more_any k hk _).mono ?_
  rintro e w' ⟨of, rfl, hof, rfl⟩
  go_wp2_with fail
  go_loopw [19] (fun i wr => ∃ j : Nat, j ≤ s.size ∧ i = .int .i64 j ∧ EncAt (Lz.moreP k) l w j wr) (fun i _ => s.size - (intOf i).toNat)
  case atStart => exact ⟨0, Nat.zero_le _, rfl, h0⟩
  case round =>
    clear h0
    obtain ⟨j, hj, rfl, hD⟩ := hrel
    have hbw := hD.below.size
    by_cases hlt : j < s.size
    · have hg := get_of_lt (s := s) hlt
      have hlj : l[j]? = some s[j] := by rw [Hl.out]; exact hg
      have hstep : l.take (j + 1) = l.take j ++ [s[j]] := by
        rw [List.take_add_one, hlj]; rfl
      have hen := Lz.encode_snoc (Lz.moreP k) (l.take j) s[j]
      rw [← hstep] at hen
      have hel := Lz.encode_len (Lz.moreP k) (l.take j)
      have hll : (l.take j).length ≤ j := by simp; omega
      generalize hc : s[j] = c at *
      have HE := Lib.hid hen
      have HD := Lib.hid hD
      have Hg := Lib.hid hc
      clear hen hstep hlj hg hD
      have hcl := byte_lt c
      obtain ⟨q, hq⟩ : ∃ q, q = (decide (c < 32) || decide (126 < c) || (Lz.moreP k).contains c) := ⟨_, rfl⟩
      rw [← hq] at HE
      have Hq := Lib.hid hq
      clear hq
      have Cx := fun w => IndexByte_c of c w
      go_upto_region 9 with fail
      go_cut [19, 36] from 19 to 54 (fun s19 s36 wx => s19 = .int .i64 j ∧ s36 = .bool q ∧ wx = wr)
      case first =>
        by_cases h1 : c < 32
        · have h1' : (c.toNat : Int) < 32 := of_decide_eq_true ((lt32I c).symm.trans (decide_eq_true h1))
          have HQ : Hid (q = true) := by show _ = _; rw [Hq.out]; simp [h1]
          clear h1
          go_wp2_with fail
          go_meet
          exact ⟨rfl, by rw [HQ.out], rfl⟩
        · have h1' : ¬ (c.toNat : Int) < 32 := of_decide_eq_false ((lt32I c).symm.trans (decide_eq_false h1))
          by_cases h2 : 126 < c
          · have h2' : 126 < (c.toNat : Int) := of_decide_eq_true ((gt126I c).symm.trans (decide_eq_true h2))
            have HQ : Hid (q = true) := by show _ = _; rw [Hq.out]; simp [h2]
            clear h1 h2
            go_wp2_with fail
            go_meet
            exact ⟨rfl, by rw [HQ.out], rfl⟩
          · have h2' : ¬ 126 < (c.toNat : Int) := of_decide_eq_false ((gt126I c).symm.trans (decide_eq_false h2))
            have HQ : Hid (q = decide (0 ≤ Lib.indexByte of.data.toList c)) := by show _ = _; rw [Hq.out, hof.out, ← Lib.contains_iff_indexByte]; simp [h1, h2]
            clear h1 h2
            go_wp2_with fail
            with_reducible refine (Cx _).mono ?_
            rintro e w' ⟨rfl, rfl⟩
            go_wp2_with fail
            go_meet
            exact ⟨rfl, by rw [HQ.out], rfl⟩
      case rest =>
        obtain ⟨rfl, rfl, rfl⟩ := hcut
        cases q
        · go_wp2_with fail
          refine (WriteByte_any w.heap.size w.heap.size _ _ _ HD.out.made (by simp [Lib.byteCells]; omega) hbw).mono ?_
          rintro e w2 ⟨rfl, hm, hb⟩
          go_wp2
          go_roundw
          case rel =>
            refine ⟨j + 1, by omega, by go_num, ?_, HD.out.below.trans hb⟩
            rw [HE.out, if_neg (by decide), ← byteCells_snoc]
            exact hm
          case measure => simp [intOf]; omega
        · go_wp2_with fail
          obtain ⟨x, hx, hx16, hxc⟩ : ∃ x : Nat, (c.toNat : Int) / 16 = x ∧ x < 16 ∧ x = c.toNat / 16 := ⟨c.toNat / 16, by omega, by omega, rfl⟩
          obtain ⟨y, hy, hy16, hyc⟩ : ∃ y : Nat, bits BinOp.and IntKind.u8 (c.toNat : Int) 15 = y ∧ y < 16 ∧ y = c.toNat % 16 := ⟨c.toNat % 16, and15 c, by omega, rfl⟩
          have hxw : IntKind.u8.wrap ((x : Int) + 1) = (x : Int) + 1 := wrap8 (by omega) (by omega)
          have hyw : IntKind.u8.wrap ((y : Int) + 1) = (y : Int) + 1 := wrap8 (by omega) (by omega)
          have hx1 : (x : Int) + 1 ≤ 16 := by omega
          have hy1 : (y : Int) + 1 ≤ 16 := by omega
          have hx0 : (0 : Int) ≤ x := by omega
          have hx2 : (0 : Int) ≤ (x : Int) + 1 := by omega
          have hy2 : (0 : Int) ≤ (y : Int) + 1 := by omega
          have hx3 : (x : Int) ≤ (x : Int) + 1 := by omega
          have hy3 : (y : Int) ≤ (y : Int) + 1 := by omega
          have hy0 : (0 : Int) ≤ y := by omega
          have hs1 : ¬ (9223372036854775807 < 1 + (min (x + 1) 16 - x)) := by omega
          have hs2 : ¬ (9223372036854775807 < 1 + (min (x + 1) 16 - x) + (min (y + 1) 16 - y)) := by omega
          have Hxc := Lib.hid hxc
          have Hyc := Lib.hid hyc
          clear hxc hyc
          refine wp_region_still_tail 14 (by kernel_rfl) (by kernel_rfl) ?_
          simp only [List.take_succ_cons, List.take_zero, List.drop_succ_cons, List.drop_zero]
          repeat still_step
          refine wpStill_nil ?_
          change wpList _ _ _ _ _ wc.drew
          go_wp2_with fail
          generalize hT : (({ data := #[37] } : ByteArray) ++ ByteArray.extract { data := #[48, 49, 50, 51, 52, 53, 54, 55, 56, 57, 65, 66, 67, 68, 69, 70] } x (x + 1)) ++ ByteArray.extract { data := #[48, 49, 50, 51, 52, 53, 54, 55, 56, 57, 65, 66, 67, 68, 69, 70] } y (y + 1) = tx
          have hTd : tx.data.toList = [37, Lz.digitU x, Lz.digitU y] := by rw [← hT]; exact tripleText ⟨x, hx16⟩ ⟨y, hy16⟩
          have hTz : tx.size = 3 := by rw [← len_of_size, hTd]; rfl
          clear hT
          refine (WriteString_any w.heap.size w.heap.size (Lib.byteCells (Lz.encodeP (Lz.moreP k) (l.take j))) tx wc.drew (by exact HD.out.made) (by simp [Lib.byteCells]; omega) (by exact hbw)).mono ?_
          rintro e w2 ⟨rfl, hm, hb⟩
          go_wp2
          go_roundw
          case rel =>
            refine ⟨j + 1, by omega, by go_num, ?_, HD.out.below.drew.trans hb⟩
            rw [HE.out, if_pos (by decide), ← Hxc.out, ← Hyc.out, ← hTd]
            rw [byteCells_append]
            exact hm
          case measure => simp [intOf]; omega
    · have hjs : j = s.size := by omega
      have HD := Lib.hid hD
      clear hD
      go_wp2_with fail
      refine (Tryz.Builder_String_any _ _ _ _ HD.out.made (by exact hbw)).mono ?_
      rintro e w' ⟨rfl, hb⟩
      go_wp2
      go_ret
      refine ⟨_, rfl, Lib.hid ?_, HD.out.below.trans hb⟩
      show Lz.encodeP _ (l.take s.size) = _
      rw [← Hlen.out, List.take_length]
end Go.Proofs.YtkaejkjheajaaaaGreatDoor
