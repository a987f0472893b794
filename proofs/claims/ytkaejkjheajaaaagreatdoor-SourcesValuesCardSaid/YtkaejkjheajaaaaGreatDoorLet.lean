/-
  The walks of lazaretlaw25.letters and lazaretlaw25.low.
-/
import Derived.Test.YtkaejkjheajaaaaGreatDoorSrcD
import Derived.Test.YtkaejkjheajaaaaGreatDoorValP
import Derived.Test.YtkaejkjheajaaaaGreatDoorRefB
import Derived.BigQuiet
import Derived.Deep.QuietTactic
import Derived.IntWalk
namespace Go.Proofs.YtkaejkjheajaaaaGreatDoor
open Go.RowKit

/-- A slice of bytes, as the world holds it. -/
def SlB (w : World) (v : Value) (l : List UInt8) : Prop :=
  ∃ a c, v = .slice a l.length c ∧ l.length ≤ 9223372036854775807 ∧ ∀ (j : Nat) (b : UInt8), l[j]? = some b → ∃ B off, a = some ⟨B, off, none⟩ ∧ B < w.heap.size ∧ w.cell? ⟨B, off + j, none⟩ = some (.int .u8 b.toNat)
theorem SlB.below {w w' : World} {v : Value} {l : List UInt8} (h : SlB w v l) (hb : Below w.heap.size w w') : SlB w' v l := by
  obtain ⟨a, c, h1, h2, h3⟩ := h
  refine ⟨a, c, h1, h2, fun j b hj => ?_⟩
  obtain ⟨B, off, e1, e2, e3⟩ := h3 j b hj
  exact ⟨B, off, e1, Nat.lt_of_lt_of_le e2 hb.size, by rw [hb.cell (p := ⟨B, off + j, none⟩) e2]; exact e3⟩

theorem tmod_nat (a b : Nat) : (a : Int).tmod (b : Int) = ((a % b : Nat) : Int) := by
  rw [Int.tmod_eq_emod_of_nonneg (by omega)]; omega
theorem append_data' (a b : ByteArray) : (a ++ b).data.toList = a.data.toList ++ b.data.toList := by simp
theorem one_byte (s : ByteArray) (k : Nat) (h : k < s.size) : (s.extract k (k + 1)).data.toList = [s[k]] := by
  rw [Lib.extract_data, show k + 1 - k = 1 by omega]
  have : s.data.toList.drop k = s[k] :: s.data.toList.drop (k + 1) := by
    rw [List.drop_eq_getElem_cons (by rw [len_of_size]; exact h)]; rfl
  rw [this]; rfl

set_option maxHeartbeats 2000000 in
set_option maxRecDepth 100000 in
theorem letters_any (v : Value) (l : List UInt8) (m : ByteArray) (hm : m.size ≤ 1000) (w : World) (hl : SlB w v l) : Calls Tryz.prog 12 #[v, .string m] w (RStr (Lz.lettersP l m.data.toList) w) := by
  obtain ⟨a, c, rfl, hln, hcell⟩ := hl
  have Hcell := Lib.hid hcell
  clear hcell
  obtain ⟨all, hall⟩ : ∃ all : ByteArray, all = ⟨#[97, 98, 99, 88, 89, 90, 48, 49, 57]⟩ ++ m := ⟨_, rfl⟩
  have halld : all.data.toList = Lz.nine ++ m.data.toList := by rw [hall]; simp [Lz.nine]
  have hallz : all.size = 9 + m.size := by rw [← len_of_size, halld, List.length_append, len_of_size]; rfl
  have Halld := Lib.hid halld
  have hz1 : 9 ≤ all.size := by omega
  have hz2 : all.size ≤ 1009 := by omega
  clear halld hallz
  have Hall := Lib.hid hall
  clear hall
  go_enter Tryz.func12, Tryz.ntmps12
  go_wp2_with fail
  rw [← Hall.out]
  go_loopw [6, 7] (fun s i wr => ∃ (k : Nat) (u : ByteArray), k ≤ l.length ∧ k ≤ 40 ∧ i = .int .i64 k ∧ s = .string u ∧ Hid (u.data.toList = (l.take k).map (Lz.letterAt all.data.toList)) ∧ u.size ≤ 40 ∧ Below w.heap.size w wr) (fun _ i _ => 41 - (intOf i).toNat)
  case atStart => exact ⟨0, ⟨#[]⟩, Nat.zero_le _, by omega, rfl, rfl, rfl, Nat.zero_le _, Below.refl _ _⟩
  case round =>
    obtain ⟨k, u, hk, hk40, rfl, rfl, hu, huz, hb⟩ := hrel
    by_cases hlt : k < l.length ∧ k < 40
    · obtain ⟨h1, h2⟩ := hlt
      obtain ⟨b, hbk⟩ : ∃ b, l[k]? = some b := ⟨_, List.getElem?_eq_getElem h1⟩
      obtain ⟨B, off, rfl, hB, hc⟩ := Hcell.out k b hbk
      have hc1 : wr.cell? ⟨B, off + k, none⟩ = some (.int .u8 b.toNat) := by rw [hb.cell (p := ⟨B, off + k, none⟩) hB]; exact hc
      have hb256 := byte_lt b
      obtain ⟨r, hr⟩ : ∃ r : Nat, r = b.toNat % all.size := ⟨_, rfl⟩
      have hrlt : r < all.size := by rw [hr]; exact Nat.mod_lt _ (by omega)
      have htm : ((b.toNat : Int).tmod (all.size : Int)) = (r : Int) := by rw [tmod_nat, hr]
      have hw1 : IntKind.i64.wrap ((r : Int) + 1) = (r : Int) + 1 := IntWalk.i64_in _ (by omega)
      have hr1 : (0 : Int) ≤ r := by omega
      have hr2 : (r : Int) + 1 ≤ all.size := by omega
      have Hbk := Lib.hid hbk
      have Hr := Lib.hid hr
      clear hc hbk hr
      have hne0 : ((all.size : Int) == 0) = false := beq_eq_false_iff_ne.2 (by omega)
      go_wp2_with fail
      go_quiet (fail)
      have hx := one_byte all r hrlt
      have hst : (u ++ all.extract r (r + 1)).data.toList = (l.take (k + 1)).map (Lz.letterAt all.data.toList) := by
        rw [append_data', hu.out, hx, List.take_add_one, Hbk.out, List.map_append]
        have : all[r] = Lz.letterAt all.data.toList b := by
          unfold Lz.letterAt
          rw [len_of_size, ← Hr.out, List.getD_eq_getElem?_getD, get_lt' hrlt]
          rfl
        rw [this]
        rfl
      have hsz : (u ++ all.extract r (r + 1)).size ≤ 40 := by
        rw [← len_of_size, hst, List.length_map, List.length_take]; omega
      have hbn := below_drewN hb nq
      have Hst := Lib.hid hst
      generalize u ++ all.extract r (r + 1) = u2 at Hst hsz ⊢
      clear hst hx htm hw1 hr1 hr2 hu hb hc1
      go_wp2
      go_roundw
      case rel => exact ⟨k + 1, u2, by omega, by omega, by go_num, rfl, Hst, hsz, hbn⟩
      case measure => simp [intOf]; omega
    · have hcase : (k : Int) = l.length ∨ (k < l.length ∧ (40 : Int) ≤ k) := by omega
      have hfin : u.data.toList = (l.take 40).map (Lz.letterAt (Lz.nine ++ m.data.toList)) := by
        rw [hu.out, Halld.out]
        congr 1
        rcases hcase with h | ⟨h1, h2⟩
        · rw [List.take_of_length_le (by omega), List.take_of_length_le (by omega)]
        · rw [show k = 40 by omega]
      have hemp : u.data.toList = [] ↔ l = [] := by
        rw [hfin, List.map_eq_nil_iff, List.take_eq_nil_iff]
        simp
      have Hfin := Lib.hid hfin
      clear hfin hu hlt
      obtain ⟨q, hq⟩ : ∃ q, q = u.toList.isEmpty := ⟨_, rfl⟩
      have hq1 : (u.toList == []) = q := by rw [hq]; cases u.toList <;> rfl
      have Hq : Hid (q = decide (l = [])) := by
        show _ = _
        rw [hq, Lib.toList_data]
        by_cases h : l = []
        · rw [decide_eq_true h, hemp.2 h]; rfl
        · rw [decide_eq_false h]
          cases hu : u.data.toList with
          | nil => exact absurd (hemp.1 hu) h
          | cons _ _ => rfl
      clear hemp hq
      rcases hcase with h1 | ⟨h1, h2⟩
      case' inl => have h1' : (l.length : Int) ≤ k := by omega
      case' inl => clear h1
      all_goals
        cases q
        · have HR : Hid (Lz.lettersP l m.data.toList = u.data.toList) := by
            show _ = _
            unfold Lz.lettersP
            rw [if_neg (of_decide_eq_false Hq.out.symm), Hfin.out]
          go_wp2
          go_ret
          exact ⟨_, rfl, HR.out.symm, hb⟩
        · have HR : Hid (Lz.lettersP l m.data.toList = [97]) := by
            show _ = _
            unfold Lz.lettersP
            rw [if_pos (of_decide_eq_true Hq.out.symm)]
          go_wp2
          go_ret
          exact ⟨_, rfl, HR.out.symm, hb⟩

set_option maxHeartbeats 1000000 in
set_option maxRecDepth 100000 in
theorem low_any (s : ByteArray) (hs : s.size ≤ 1073741824) (w : World) : Calls Tryz.prog 13 #[.string s] w (RStr (Lz.low s.data.toList) w) := by
  have kb := run_bytes_of_string (P := Tryz.prog) w 9 22 5 s Tryz.underlying9 Tryz.underlying22 Tryz.underlying5
  obtain ⟨cap, hcap⟩ : ∃ cap, cap = grownCap w s.size 0 5 := ⟨_, rfl⟩
  rw [← hcap] at kb
  clear hcap
  obtain ⟨l, hl⟩ : ∃ l, l = s.data.toList := ⟨_, rfl⟩
  have hlen : l.length = s.size := by rw [hl]; exact len_of_size s
  have hmade := byteRow_made w s cap 5
  rw [← hl] at hmade
  rw [← hl]
  have Hlen := Lib.hid hlen
  have Hmade := Lib.hid hmade
  clear hlen hl hmade
  go_enter Tryz.func13, Tryz.ntmps13
  go_wp2
  go_loopw [4] (fun i wr => ∃ k : Nat, k ≤ s.size ∧ i = .int .i64 k ∧ ByteRow wr w.heap.size (Lz.low (l.take k) ++ l.drop k) ∧ Below w.heap.size w wr) (fun i _ => s.size - (intOf i).toNat)
  case atStart => exact ⟨0, Nat.zero_le _, rfl, Hmade.out, ((Below.refl _ w).alloc (Nat.le_refl _) _).drew⟩
  case round =>
    obtain ⟨k, hk, rfl, hrow, hb⟩ := hrel
    clear kb Hmade
    by_cases hlt : k < s.size
    · obtain ⟨c, hcv⟩ : ∃ c, l[k]? = some c := ⟨_, List.getElem?_eq_getElem (by rw [Hlen.out]; omega)⟩
      have hlk : (Lz.low (l.take k)).length = k := by simp only [Lz.low, List.length_map, List.length_take, Hlen.out]; omega
      obtain ⟨h1, h2⟩ := hrow k c (by rw [List.getElem?_append_right (by omega), hlk]; simpa using hcv)
      have hstep : (Lz.low (l.take k) ++ l.drop k).set k (Lz.low1 c) = Lz.low (l.take (k + 1)) ++ l.drop (k + 1) := by
        rw [List.set_append_right _ _ (by omega), hlk, Nat.sub_self]
        have hlt' : k < l.length := by rw [Hlen.out]; exact hlt
        rw [List.drop_eq_getElem_cons hlt', List.set_cons_zero]
        have hck : l[k] = c := by rw [List.getElem?_eq_getElem hlt'] at hcv; exact Option.some.inj hcv
        rw [List.take_succ_eq_append_getElem hlt', hck]
        simp [Lz.low]
      have hc := byte_lt c
      have hlo := low25I c
      by_cases hup : 65 ≤ (c.toNat : Int) ∧ (c.toNat : Int) ≤ 90
      · rw [if_pos hup] at hlo
        obtain ⟨u1, u2⟩ := hup
        have hrow' := hrow.set k (Lz.low1 c)
        rw [hstep, hlo] at hrow'
        have HR := Lib.hid hrow'
        clear hrow hrow' hcv hlk Hlen hstep hlo
        go_wp2
        go_roundw
        case rel => exact ⟨k + 1, by omega, by go_num, HR.out, hb.setCell (Nat.le_refl _) _⟩
        case measure => simp [intOf]; omega
      · have hsame : Lz.low1 c = c := by
          rw [if_neg hup] at hlo
          exact UInt8.toNat_inj.1 (by omega)
        have hrow' : ByteRow wr w.heap.size (Lz.low (l.take (k + 1)) ++ l.drop (k + 1)) := by
          rw [← hstep, hsame]
          have hget : (Lz.low (l.take k) ++ l.drop k)[k]? = some c := by rw [List.getElem?_append_right (by omega), hlk]; simpa using hcv
          have : (Lz.low (l.take k) ++ l.drop k).set k c = Lz.low (l.take k) ++ l.drop k := by
            have hlt2 := (List.getElem?_eq_some_iff.1 hget).1
            have he := (List.getElem?_eq_some_iff.1 hget).2
            rw [← he]
            exact List.set_getElem_self hlt2
          rw [this]
          exact hrow
        have HR := Lib.hid hrow'
        have hcase : (c.toNat : Int) < 65 ∨ (65 ≤ (c.toNat : Int) ∧ 90 < (c.toNat : Int)) := by omega
        clear hrow hrow' hcv hlk Hlen hstep hlo hsame hup
        rcases hcase with u1 | ⟨u1, u2⟩
        all_goals
          go_wp2
          go_roundw
          case rel => exact ⟨k + 1, by omega, by go_num, HR.out, hb⟩
          case measure => simp [intOf]; omega
    · have hks : k = s.size := by omega
      have hcb := run_convert_bytes_back (P := Tryz.prog) wr 22 9 5 ⟨w.heap.size, 0, none⟩ cap (Lz.low l) Tryz.underlying22 Tryz.underlying5 Tryz.underlying9 (by
        intro j hj
        have h := hrow j (Lz.low l)[j] (by rw [hks, ← Hlen.out, List.take_length, List.drop_length, List.append_nil]; exact List.getElem?_eq_getElem hj)
        have ha : (⟨w.heap.size, 0, none⟩ : Addr).add j = ⟨w.heap.size, j, none⟩ := addr_add _ j
        rw [ha]
        exact h.1)
      rw [show (Lz.low l).length = s.size by rw [← Hlen.out]; simp [Lz.low]] at hcb
      clear hrow Hlen hks
      go_wp2
      go_ret
      exact ⟨_, rfl, rfl, hb⟩
end Go.Proofs.YtkaejkjheajaaaaGreatDoor
