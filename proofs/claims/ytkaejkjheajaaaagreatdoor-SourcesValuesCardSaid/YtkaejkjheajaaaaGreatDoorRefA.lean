/-
  The walks of the document's answer for source expressions, first part: in, letter, only, base, scheme, find, labels, port, path. Each returns what its plain function says, and leaves the world as it was.
-/
import Derived.Test.YtkaejkjheajaaaaGreatDoorAscii
import Derived.Test.YtkaejkjheajaaaaGreatDoorRefP
namespace Go.Proofs.YtkaejkjheajaaaaGreatDoor
open Go.RowKit

/-- It returns this bool (number), and leaves the world as it was. -/
def RB (b : Bool) (w : World) (e : Ending) (w' : World) : Prop := e = .returned (.bool b) ∧ w = w'
def RI (n : Int) (w : World) (e : Ending) (w' : World) : Prop := e = .returned (.int .i64 n) ∧ w = w'

theorem extract_size_le' (s : ByteArray) (a b : Nat) : (s.extract a b).size ≤ s.size := by
  rw [← len_of_size, Lib.extract_data, List.length_take, List.length_drop, len_of_size]; omega
theorem extract_head' (s : ByteArray) (k : Nat) : (s.extract 0 k).data.toList = s.data.toList.take k := by
  rw [Lib.extract_data]; rfl
theorem extract_tail' (s : ByteArray) (k : Nat) : (s.extract k s.size).data.toList = s.data.toList.drop k := by
  rw [Lib.extract_data, List.take_of_length_le (by rw [List.length_drop, len_of_size]; exact Nat.le_refl _)]
theorem rb_of {b b' : Bool} {w : World} (h : b' = b) : RB b' w (.returned (.bool b)) w := ⟨by rw [h], rfl⟩
theorem get_lt' {s : ByteArray} {n : Nat} (h : n < s.size) : s.data.toList[n]? = some s[n] := by
  rw [List.getElem?_eq_getElem (by rw [len_of_size]; exact h)]; rfl
theorem beqI (a b : UInt8) : ((a.toNat : Int) == (b.toNat : Int)) = (a == b) := by
  rw [Bool.eq_iff_iff, beq_iff_eq, beq_iff_eq]
  constructor
  · intro h; exact UInt8.toNat_inj.1 (by omega)
  · intro h; rw [h]
theorem toList_nil (s : ByteArray) : (s.toList == []) = s.data.toList.isEmpty := by
  rw [Lib.toList_data]
  cases s.data.toList <;> rfl

set_option maxRecDepth 100000 in
theorem in_any (c : UInt8) (s : ByteArray) (hs : s.size ≤ 1073741824) (w : World) : Calls Tryz.prog 55 #[.int .u8 c.toNat, .string s] w (RB (Lz.inB s.data.toList c) w) := by
  have hc := byte_lt c
  go_enter Tryz.func55, Tryz.ntmps55
  go_wp2
  go_loop [5] (fun i => ∃ n : Nat, n ≤ s.size ∧ i = .int .i64 n ∧ (∀ j, j < n → s.data.toList[j]? ≠ some c)) (fun i => s.size - (intOf i).toNat)
  case atStart => exact ⟨0, Nat.zero_le _, rfl, fun j h => by omega⟩
  case round =>
    obtain ⟨n, hn, rfl, hall⟩ := hrel
    have Hall := Lib.hid hall
    clear hall
    by_cases hlt : n < s.size
    · have Hget := Lib.hid (get_lt' hlt)
      have hbb := beqI s[n] c
      generalize hb : (s[n] == c) = b at hbb
      have Hb := Lib.hid hb
      clear hb
      cases b
      · go_wp2
        go_round
        case rel => exact ⟨n + 1, by omega, by go_num, fun j hj hc => by
          by_cases hjn : j < n
          · exact Hall.out j hjn hc
          · obtain rfl : j = n := by omega
            rw [Hget.out] at hc
            obtain rfl := Option.some.inj hc
            have := Hb.out
            simp at this⟩
        case measure => simp [intOf]; omega
      · go_wp2
        go_ret
        have h1 : s[n] = c := by simpa using Hb.out
        have h2 : Lz.inB s.data.toList c = true := by
          unfold Lz.inB
          rw [List.contains_iff_mem, ← h1]
          exact List.mem_of_getElem? Hget.out
        exact rb_of h2
    · go_wp2
      go_ret
      have h2 : Lz.inB s.data.toList c = false := by
        unfold Lz.inB
        rw [Bool.eq_false_iff]
        intro h
        rw [List.contains_iff_mem] at h
        obtain ⟨j, hj⟩ := List.getElem?_of_mem h
        exact Hall.out j (by have := (List.getElem?_eq_some_iff.1 hj).1; rw [len_of_size] at this; omega) hj
      exact rb_of h2

theorem alnumI (c : UInt8) : Lz.isAlnum c = (((decide (97 ≤ (c.toNat : Int)) && decide ((c.toNat : Int) ≤ 122)) || (decide (65 ≤ (c.toNat : Int)) && decide ((c.toNat : Int) ≤ 90))) || (decide (48 ≤ (c.toNat : Int)) && decide ((c.toNat : Int) ≤ 57))) := by
  revert c; exact Lz.byte_all (by decide +kernel)

set_option maxRecDepth 100000 in
theorem letter25_any (c : UInt8) (w : World) : Calls Tryz.prog 98 #[.int .u8 c.toNat] w (RB (Lz.isAlnum c) w) := by
  have hc := byte_lt c
  have H := Lib.hid (alnumI c)
  go_enter Tryz.func98, Tryz.ntmps98
  go_wp2
  all_goals go_ret
  all_goals
    refine rb_of ?_
    rw [H.out]
    rw [Bool.eq_iff_iff]
    simp only [Bool.or_eq_true, Bool.and_eq_true, decide_eq_true_eq, Bool.false_eq_true, iff_true, iff_false]
    omega

set_option maxRecDepth 100000 in
theorem only_any (s m : ByteArray) (hs : s.size ≤ 1073741824) (hm : m.size ≤ 1073741824) (w : World) : Calls Tryz.prog 54 #[.string s, .string m] w (RB (Lz.allB (Lz.moreB m.data.toList) s.data.toList) w) := by
  go_enter Tryz.func54, Tryz.ntmps54
  go_wp2
  go_loop [5] (fun i => ∃ n : Nat, n ≤ s.size ∧ i = .int .i64 n ∧ (∀ j c, j < n → s.data.toList[j]? = some c → Lz.moreB m.data.toList c = true)) (fun i => s.size - (intOf i).toNat)
  case atStart => exact ⟨0, Nat.zero_le _, rfl, fun j c h => by omega⟩
  case round =>
    obtain ⟨n, hn, rfl, hall⟩ := hrel
    have Hall := Lib.hid hall
    clear hall
    by_cases hlt : n < s.size
    · have Hget := Lib.hid (get_lt' hlt)
      have ca := Lib.hid (letter25_any s[n] w)
      have ci := Lib.hid (in_any s[n] m hm w)
      generalize ha : Lz.isAlnum s[n] = a at ca
      have Ha := Lib.hid ha
      generalize hb : Lz.inB m.data.toList s[n] = b at ci
      have Hb := Lib.hid hb
      clear ha hb
      cases a <;> cases b
      case false.false =>
        go_wp2_with (first | (go_at_call 98; refine (ca.out).mono ?_; rintro e w' ⟨rfl, rfl⟩) | (go_at_call 55; refine (ci.out).mono ?_; rintro e w' ⟨rfl, rfl⟩))
        go_ret
        have h2 : Lz.allB (Lz.moreB m.data.toList) s.data.toList = false := by
          unfold Lz.allB
          have : s.data.toList.all (Lz.moreB m.data.toList) = false := by
            rw [List.all_eq_false]
            exact ⟨s[n], List.mem_of_getElem? Hget.out, by unfold Lz.moreB; rw [Ha.out, Hb.out]; decide⟩
          rw [this]; rfl
        exact rb_of h2
      all_goals
        go_wp2_with (first | (go_at_call 98; refine (ca.out).mono ?_; rintro e w' ⟨rfl, rfl⟩) | (go_at_call 55; refine (ci.out).mono ?_; rintro e w' ⟨rfl, rfl⟩))
        go_round
        case rel => exact ⟨n + 1, by omega, by go_num, fun j c hj hc => by
          by_cases hjn : j < n
          · exact Hall.out j c hjn hc
          · obtain rfl : j = n := by omega
            rw [Hget.out] at hc
            obtain rfl := Option.some.inj hc
            unfold Lz.moreB
            rw [Ha.out, Hb.out]
            rfl⟩
        case measure => simp [intOf]; omega
    · have hne : s.toList.isEmpty = s.data.toList.isEmpty := by rw [Lib.toList_data]
      have Hne := Lib.hid hne
      clear hne
      go_wp2
      go_ret
      refine rb_of ?_
      have h1 : s.data.toList.all (Lz.moreB m.data.toList) = true := by
        rw [List.all_eq_true]
        intro c hc
        obtain ⟨j, hj⟩ := List.getElem?_of_mem hc
        exact Hall.out j c (by have := (List.getElem?_eq_some_iff.1 hj).1; rw [len_of_size] at this; omega) hj
      unfold Lz.allB
      rw [h1, ← Hne.out]
      rfl

set_option maxHeartbeats 2000000 in
set_option maxRecDepth 100000 in
theorem base25_any (s : ByteArray) (hs : s.size ≤ 1073741824) (w : World) : Calls Tryz.prog 53 #[.string s] w (RB (Lz.baseB s.data.toList) w) := by
  go_enter Tryz.func53, Tryz.ntmps53
  go_wp2
  go_loop [3] (fun i => ∃ n : Nat, n ≤ s.size ∧ i = .int .i64 n ∧ (∀ (j : Nat) c, n ≤ j → s.data.toList[j]? = some c → c = 61)) (fun i => (intOf i).toNat)
  case atStart => exact ⟨s.size, Nat.le_refl _, rfl, fun j c h hc => by have := (List.getElem?_eq_some_iff.1 hc).1; rw [len_of_size] at this; omega⟩
  case round =>
    obtain ⟨n, hn, rfl, hall⟩ := hrel
    have Hall := Lib.hid hall
    clear hall
    by_cases hend : n = 0 ∨ (∃ h : 0 < n, ¬ s[n - 1] = 61)
    · have HB : Hid (Lz.baseB s.data.toList = (decide (s.data.toList.length - n ≤ 2) && Lz.allB (Lz.moreB [43, 47, 45, 95]) (s.data.toList.take n))) := by
        refine Lz.base_take (by rw [len_of_size]; exact hn) Hall.out ?_
        intro b hb hg
        rcases hend with rfl | ⟨h, hne⟩
        · cases hb
        · rw [get_lt' (by omega)] at hg
          obtain rfl := Option.some.inj hg
          exact hne
      have hz := extract_size_le' s 0 n
      have co := Lib.hid (only_any (s.extract 0 n) ⟨#[43, 47, 45, 95]⟩ (by omega) (by decide) w)
      generalize hb : Lz.allB (Lz.moreB (ByteArray.data ⟨#[43, 47, 45, 95]⟩).toList) (s.extract 0 n).data.toList = b at co
      have Hb := Lib.hid hb
      clear hb hz
      have HR : Hid (Lz.baseB s.data.toList = (decide ((s.size : Int) - n ≤ 2) && b)) := by
        show _ = _
        rw [HB.out, ← Hb.out, extract_head']
        congr 1
        rw [len_of_size, decide_eq_decide]
        omega
      clear HB Hb
      by_cases h2 : (s.size : Int) - n ≤ 2
      · have HR2 : Hid (Lz.baseB s.data.toList = b) := by show _ = _; rw [HR.out, decide_eq_true h2]; rfl
        clear HR
        rcases hend with h0 | ⟨h, hne⟩
        · have hle : (n : Int) ≤ 0 := by omega
          clear h0
          go_wp2_with (go_at_call 54; (with_reducible refine (co.out).mono ?_); rintro e w' ⟨rfl, rfl⟩)
          go_ret
          exact rb_of HR2.out
        · obtain ⟨m, rfl⟩ : ∃ m, n = m + 1 := ⟨n - 1, by omega⟩
          have hq : ((s[m].toNat : Int) == 61) = false := (beqI s[m] 61).trans (by simpa using hne)
          clear hne
          go_wp2_with (go_at_call 54; refine (co.out).mono ?_; rintro e w' ⟨rfl, rfl⟩)
          go_ret
          exact rb_of HR2.out
      · have HR2 : Hid (Lz.baseB s.data.toList = false) := by show _ = _; rw [HR.out, decide_eq_false h2]; rfl
        clear HR co
        rcases hend with h0 | ⟨h, hne⟩
        · have hle : (n : Int) ≤ 0 := by omega
          clear h0
          go_wp2
          go_ret
          exact rb_of HR2.out
        · obtain ⟨m, rfl⟩ : ∃ m, n = m + 1 := ⟨n - 1, by omega⟩
          have hq : ((s[m].toNat : Int) == 61) = false := (beqI s[m] 61).trans (by simpa using hne)
          clear hne
          go_wp2
          go_ret
          exact rb_of HR2.out
    · obtain ⟨m, rfl⟩ : ∃ m, n = m + 1 := ⟨n - 1, by omega⟩
      have he : s[m] = 61 := by
        by_cases he : s[m] = 61
        · exact he
        · exact absurd (Or.inr ⟨by omega, he⟩) hend
      have He := Lib.hid he
      have hq : ((s[m].toNat : Int) == 61) = true := (beqI s[m] 61).trans (by simpa using he)
      clear hend he
      go_wp2
      go_round
      case rel => exact ⟨m, by omega, rfl, fun j c hj hc => by
        by_cases hjm : j = m
        · subst hjm
          rw [get_lt' (by omega)] at hc
          rw [← Option.some.inj hc]
          exact He.out
        · exact Hall.out j c (by omega) hc⟩
      case measure => simp [intOf]
end Go.Proofs.YtkaejkjheajaaaaGreatDoor
