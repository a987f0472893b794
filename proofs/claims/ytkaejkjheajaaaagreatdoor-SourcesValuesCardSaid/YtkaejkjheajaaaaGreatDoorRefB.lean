/-
  The walks of the document's answer for source expressions, second part: scheme, find, labels, port, path, and lazaretref02.Lower.
-/
import Derived.Test.YtkaejkjheajaaaaGreatDoorRefA
import Derived.Test.YtkaejkjheajaaaaGreatDoorOwn
namespace Go.Proofs.YtkaejkjheajaaaaGreatDoor
open Go.RowKit

set_option maxRecDepth 100000 in
theorem scheme25_any (s : ByteArray) (hs : s.size ≤ 1073741824) (w : World) : Calls Tryz.prog 31 #[.string s] w (RB (Lz.schemeB s.data.toList) w) := by
  have co := Lib.hid (only_any s ⟨#[43, 45, 46]⟩ hs (by decide) w)
  generalize ho : Lz.allB (Lz.moreB (ByteArray.data ⟨#[43, 45, 46]⟩).toList) s.data.toList = o at co
  by_cases h0 : 0 < s.size
  · have ci := Lib.hid (in_any s[0] ⟨#[48, 49, 50, 51, 52, 53, 54, 55, 56, 57, 43, 45, 46]⟩ (by decide) w)
    generalize hi : Lz.inB (ByteArray.data ⟨#[48, 49, 50, 51, 52, 53, 54, 55, 56, 57, 43, 45, 46]⟩).toList s[0] = i at ci
    have HR : Hid (Lz.schemeB s.data.toList = (o && !i)) := by
      show _ = _
      rw [Lz.scheme_ref s.data.toList s[0] (get_lt' h0), ← ho, ← hi]
    clear ho hi
    cases o <;> cases i
    all_goals
      go_enter Tryz.func31, Tryz.ntmps31
      go_wp2_with (first | (go_at_call 54; refine (co.out).mono ?_; rintro e w' ⟨rfl, rfl⟩) | (go_at_call 55; refine (ci.out).mono ?_; rintro e w' ⟨rfl, rfl⟩))
      go_ret
      exact rb_of HR.out
  · have hn : s.data.toList = [] := by rw [← List.length_eq_zero_iff, len_of_size]; omega
    have hof : o = false := by rw [← ho, hn]; rfl
    have HR : Hid (Lz.schemeB s.data.toList = false) := by show _ = _; rw [hn]; rfl
    clear ho hn h0
    subst hof
    go_enter Tryz.func31, Tryz.ntmps31
    go_wp2_with (first | (go_at_call 54; refine (co.out).mono ?_; rintro e w' ⟨rfl, rfl⟩))
    go_ret
    exact rb_of HR.out

theorem ri_of {b b' : Int} {w : World} (h : b' = b) : RI b' w (.returned (.int .i64 b)) w := ⟨by rw [h], rfl⟩

set_option maxRecDepth 100000 in
theorem find_any (s u : ByteArray) (hs : s.size ≤ 1048576) (hu : u.size ≤ 1048576) (hu0 : u.data.toList ≠ []) (w : World) : Calls Tryz.prog 56 #[.string s, .string u] w (RI (Lib.index s.data.toList u.data.toList) w) := by
  have Hu0 := Lib.hid hu0
  clear hu0
  go_enter Tryz.func56, Tryz.ntmps56
  go_wp2
  go_loop [5] (fun i => ∃ n : Nat, n ≤ s.size + 1 ∧ i = .int .i64 n ∧ Lib.NoOcc s.data.toList u.data.toList n) (fun i => s.size + 2 - (intOf i).toNat)
  case atStart => exact ⟨0, Nat.zero_le _, rfl, Lib.NoOcc.zero _ _⟩
  case round =>
    obtain ⟨n, hn, rfl, hno⟩ := hrel
    have Hno := Lib.hid hno
    clear hno
    by_cases hlt : (n : Int) + u.size ≤ s.size
    · have Ho := Lib.hid (Lib.occ_of_piece s u n (by omega))
      generalize hb : ((s.extract n (n + u.size)).toList == u.toList) = b at Ho
      cases b
      · go_wp2
        go_round
        case rel => exact ⟨n + 1, by omega, by go_num, Hno.out.succ Ho.out⟩
        case measure => simp [intOf]; omega
      · go_wp2
        go_ret
        exact ri_of (Lib.index_hit Hno.out (by rw [len_of_size]; omega) Ho.out)
    · go_wp2
      go_ret
      exact ri_of (Lib.index_past Hu0.out Hno.out (by rw [len_of_size, len_of_size]; omega))

set_option maxRecDepth 100000 in
theorem path_any (s : ByteArray) (hs : s.size ≤ 1073741824) (w : World) : Calls Tryz.prog 57 #[.string s] w (RB (s.data.toList.all Lz.isSeen) w) := by
  obtain ⟨g, hg⟩ : ∃ g : Bool, s.data.toList.all Lz.isSeen = g := ⟨_, rfl⟩
  rw [hg]
  have Hg := Lib.hid hg
  clear hg
  go_enter Tryz.func57, Tryz.ntmps57
  go_wp2
  go_loop [3] (fun i => ∃ n : Nat, n ≤ s.size ∧ i = .int .i64 n ∧ (∀ j c, j < n → s.data.toList[j]? = some c → Lz.isSeen c = true)) (fun i => s.size - (intOf i).toNat)
  case atStart => exact ⟨0, Nat.zero_le _, rfl, fun j c h => by omega⟩
  case round =>
    obtain ⟨n, hn, rfl, hall⟩ := hrel
    have Hall := Lib.hid hall
    clear hall
    by_cases hlt : n < s.size
    · have Hget := Lib.hid (get_lt' hlt)
      have hsn := Lz.seen_ref s[n]
      have ci := Lib.hid (in_any s[n] ⟨#[63, 35, 59, 44, 34, 60, 62, 92, 94, 96, 123, 124, 125]⟩ (by decide) w)
      generalize hi : Lz.inB (ByteArray.data ⟨#[63, 35, 59, 44, 34, 60, 62, 92, 94, 96, 123, 124, 125]⟩).toList s[n] = i at ci
      have hi' : Lz.inB [63, 35, 59, 44, 34, 60, 62, 92, 94, 96, 123, 124, 125] s[n] = i := hi
      rw [hi'] at hsn
      clear hi hi'
      have hbad : Lz.isSeen s[n] = false → g = false := fun h => by
        rw [← Hg.out, List.all_eq_false]
        exact ⟨s[n], List.mem_of_getElem? Hget.out, by simp [h]⟩
      have Hbad := Lib.hid hbad
      clear hbad
      by_cases h1 : 33 ≤ (s[n].toNat : Int)
      · by_cases h2 : (s[n].toNat : Int) ≤ 126
        · rw [decide_eq_true h1, decide_eq_true h2] at hsn
          have Hsn := Lib.hid hsn
          clear hsn
          cases i
          · go_wp2_with (first | (go_at_call 55; refine (ci.out).mono ?_; rintro e w' ⟨rfl, rfl⟩))
            go_round
            case rel => exact ⟨n + 1, by omega, by go_num, fun j c hj hc => by
              by_cases hjn : j < n
              · exact Hall.out j c hjn hc
              · obtain rfl : j = n := by omega
                rw [Hget.out] at hc
                obtain rfl := Option.some.inj hc
                exact Hsn.out⟩
            case measure => simp [intOf]; omega
          · go_wp2_with (first | (go_at_call 55; refine (ci.out).mono ?_; rintro e w' ⟨rfl, rfl⟩))
            go_ret
            exact rb_of (Hbad.out Hsn.out)
        · rw [decide_eq_false h2] at hsn
          have Hsn := Lib.hid (show Lz.isSeen s[n] = false by rw [hsn]; simp)
          have h2' : 126 < (s[n].toNat : Int) := by omega
          clear hsn h2
          go_wp2
          go_ret
          exact rb_of (Hbad.out Hsn.out)
      · rw [decide_eq_false h1] at hsn
        have Hsn := Lib.hid (show Lz.isSeen s[n] = false by rw [hsn]; simp)
        have h1' : (s[n].toNat : Int) < 33 := by omega
        clear hsn h1
        go_wp2
        go_ret
        exact rb_of (Hbad.out Hsn.out)
    · have HT : Hid (g = true) := by
        show _ = _
        rw [← Hg.out, List.all_eq_true]
        intro c hc
        obtain ⟨j, hj⟩ := List.getElem?_of_mem hc
        exact Hall.out j c (by have := (List.getElem?_eq_some_iff.1 hj).1; rw [len_of_size] at this; omega) hj
      go_wp2
      go_ret
      exact rb_of HT.out

set_option maxHeartbeats 1000000 in
set_option maxRecDepth 100000 in
theorem labels25_any (s : ByteArray) (hs : s.size ≤ 1073741824) (w : World) : Calls Tryz.prog 59 #[.string s] w (RB (Lz.namedB s.data.toList) w) := by
  have hg := Lz.named_zero s.data.toList
  generalize Lz.namedB s.data.toList = g at hg ⊢
  have Hg := Lib.hid hg
  clear hg
  go_enter Tryz.func59, Tryz.ntmps59
  go_wp2
  go_loop [3, 4] (fun f i => ∃ a b : Nat, a ≤ b ∧ b ≤ s.size + 1 ∧ (b = s.size + 1 → a = b) ∧ f = .int .i64 a ∧ i = .int .i64 b ∧ Hid (Lz.NoC 46 s.data.toList a b) ∧ Hid (b ≤ s.size → g = Lz.namedFrom s.data.toList a) ∧ Hid (b = s.size + 1 → g = true)) (fun _ i => s.size + 1 - (intOf i).toNat)
  case atStart => exact ⟨0, 0, Nat.le_refl _, Nat.zero_le _, (fun h => by omega), rfl, rfl, (fun j h1 h2 => by omega), (fun _ => Hg.out), (fun h => by omega)⟩
  case round =>
    obtain ⟨a, b, hab, hb, hx, rfl, rfl, hno, hgo, hend⟩ := hrel
    have Hx := Lib.hid hx
    clear hx
    by_cases hlt : (b : Int) ≤ s.size
    · have Hgo := Lib.hid (hgo.out (by omega))
      clear hgo hend
      have hz := extract_size_le' s a b
      have co := Lib.hid (only_any (s.extract a b) ⟨#[45]⟩ (by omega) (by decide) w)
      generalize ho : Lz.allB (Lz.moreB (ByteArray.data ⟨#[45]⟩).toList) (s.extract a b).data.toList = o at co
      have ho' : Lz.allB Lz.isWord ((s.data.toList.drop a).take (b - a)) = o := by
        rw [← ho, Lib.extract_data]
        exact (Lz.allB_congr Lz.more_word _).symm
      have Ho := Lib.hid ho'
      clear ho ho' hz
      by_cases hbe : b < s.size
      · have Hget := Lib.hid (get_lt' hbe)
        have hne : ((b : Int) == (s.size : Int)) = false := beq_eq_false_iff_ne.2 (by omega)
        by_cases hd : s[b] = 46
        · have hq : ((s[b].toNat : Int) == 46) = true := (beqI s[b] 46).trans (by simpa using hd)
          have Hd := Lib.hid hd
          clear hd
          have Hs := Lib.hid (Lz.named_step hab hno.out (by rw [Hget.out, Hd.out]))
          cases o
          · go_wp2_with (first | (go_at_call 54; (with_reducible refine (co.out).mono ?_); rintro e w' ⟨rfl, rfl⟩))
            go_ret
            exact rb_of (by rw [Hgo.out, Hs.out, Ho.out]; rfl)
          · go_wp2_with (first | (go_at_call 54; (with_reducible refine (co.out).mono ?_); rintro e w' ⟨rfl, rfl⟩))
            go_round
            case rel => exact ⟨b + 1, b + 1, by omega, by omega, (fun _ => rfl), by go_num, by go_num, (fun j h1 h2 => by omega), (fun _ => by rw [Hgo.out, Hs.out, Ho.out]; rfl), (fun h => by omega)⟩
            case measure => simp [intOf]; omega
        · have hq : ((s[b].toNat : Int) == 46) = false := (beqI s[b] 46).trans (by simpa using hd)
          have Hd := Lib.hid hd
          clear hd
          go_wp2
          go_round
          case rel => exact ⟨a, b + 1, by omega, by omega, (fun h => by omega), rfl, by go_num, (fun j h1 h2 => by
            by_cases hjb : j < b
            · exact hno.out j h1 hjb
            · obtain rfl : j = b := by omega
              rw [Hget.out]
              intro h
              exact Hd.out (Option.some.inj h)), (fun _ => Hgo.out), (fun h => by omega)⟩
          case measure => simp [intOf]; omega
      · have hbs : ((b : Int) == (s.size : Int)) = true := beq_iff_eq.2 (by omega)
        have Hbs := Lib.hid (show b = s.size by omega)
        have hd : (s.data.toList.drop a).take (b - a) = s.data.toList.drop a := List.take_of_length_le (by rw [List.length_drop, len_of_size, ← Hbs.out]; exact Nat.le_refl _)
        have HR : Hid (g = o) := by
          show _ = _
          rw [Hgo.out, Lz.named_end (by rw [len_of_size, ← Hbs.out]; exact hno.out), ← Ho.out, hd]
        clear hd
        cases o
        · go_wp2_with (first | (go_at_call 54; (with_reducible refine (co.out).mono ?_); rintro e w' ⟨rfl, rfl⟩))
          go_ret
          exact rb_of HR.out
        · go_wp2_with (first | (go_at_call 54; (with_reducible refine (co.out).mono ?_); rintro e w' ⟨rfl, rfl⟩))
          go_round
          case rel => exact ⟨b + 1, b + 1, by omega, by omega, (fun _ => rfl), by go_num, by go_num, (fun j h1 h2 => by omega), (fun h => by omega), (fun _ => HR.out)⟩
          case measure => simp [intOf]; omega
    · have HR := Lib.hid (hend.out (by omega))
      clear hgo hend
      go_wp2
      go_ret
      exact rb_of HR.out

/-- It returns a number, and whether it is one; the world as it was. -/
def RPort (o : Option Int) (w : World) (e : Ending) (w' : World) : Prop := ∃ n : Int, e = .returned (.tuple #[.int .i64 n, .bool o.isSome]) ∧ Hid (∀ m, o = some m → n = m) ∧ w = w'

theorem digitB (c : UInt8) : Lz.isDigit c = (decide (48 ≤ (c.toNat : Int)) && decide ((c.toNat : Int) ≤ 57)) := by
  revert c; exact Lz.byte_all (by decide +kernel)

set_option maxHeartbeats 1000000 in
set_option maxRecDepth 100000 in
theorem port25_any (s : ByteArray) (hs : s.size ≤ 1073741824) (w : World) : Calls Tryz.prog 58 #[.string s] w (RPort (Lz.portP s.data.toList) w) := by
  by_cases hstar : s.data.toList = [42]
  · have hst : (s.toList == [42]) = true := by rw [Lib.toList_data, hstar]; rfl
    have HR : Hid (Lz.portP s.data.toList = some (-2)) := by show _ = _; unfold Lz.portP; rw [if_pos hstar]
    clear hstar
    go_enter Tryz.func58, Tryz.ntmps58
    go_wp2
    go_ret2
    refine ⟨_, by rw [HR.out]; rfl, ?_, rfl⟩
    show ∀ m, _
    intro m hm
    rw [HR.out] at hm
    exact Option.some.inj hm
  · have hst : (s.toList == [42]) = false := by rw [Lib.toList_data]; simpa using hstar
    have Hs := Lib.hid hstar
    clear hstar
    go_enter Tryz.func58, Tryz.ntmps58
    go_wp2
    go_loop [4, 5] (fun v i => ∃ k : Nat, k ≤ s.size ∧ i = .int .i64 k ∧ v = .int .i64 (Lz.capV (s.data.toList.take k)) ∧ (∀ (j : Nat) c, j < k → s.data.toList[j]? = some c → Lz.isDigit c = true)) (fun _ i => s.size - (intOf i).toNat)
    case atStart => exact ⟨0, Nat.zero_le _, rfl, rfl, fun j c h => by omega⟩
    case round =>
      obtain ⟨k, hk, rfl, rfl, hall⟩ := hrel
      have Hall := Lib.hid hall
      clear hall
      have hcl := Lz.capV_le (s.data.toList.take k)
      by_cases hlt : k < s.size
      · have Hget := Lib.hid (get_lt' hlt)
        have hsn := digitB s[k]
        have hbad : Lz.isDigit s[k] = false → Lz.portP s.data.toList = none := fun h => by
          refine Lz.port_none Hs.out ?_
          unfold Lz.allB
          have : s.data.toList.all Lz.isDigit = false := by
            rw [List.all_eq_false]
            exact ⟨s[k], List.mem_of_getElem? Hget.out, by simp [h]⟩
          rw [this]; rfl
        have Hbad := Lib.hid hbad
        clear hbad
        have hb256 := byte_lt s[k]
        by_cases h1 : 48 ≤ (s[k].toNat : Int)
        · by_cases h2 : (s[k].toNat : Int) ≤ 57
          · rw [decide_eq_true h1, decide_eq_true h2] at hsn
            have Hsn := Lib.hid hsn
            clear hsn
            have hcs := Lz.capV_snoc (s.data.toList.take k) s[k]
            rw [show s.data.toList.take k ++ [s[k]] = s.data.toList.take (k + 1) by rw [List.take_succ_eq_append_getElem (by rw [len_of_size]; exact hlt)]; rfl] at hcs
            have Hcs := Lib.hid hcs
            clear hcs
            go_wp2
            go_round
            case rel => exact ⟨k + 1, by omega, by go_num, by rw [Hcs.out]; go_num, fun j c hj hc => by
              by_cases hjn : j < k
              · exact Hall.out j c hjn hc
              · obtain rfl : j = k := by omega
                rw [Hget.out] at hc
                obtain rfl := Option.some.inj hc
                exact Hsn.out⟩
            case measure => simp [intOf]; omega
          · rw [decide_eq_false h2] at hsn
            have Hsn := Lib.hid (show Lz.isDigit s[k] = false by rw [hsn]; simp)
            have h2' : 57 < (s[k].toNat : Int) := by omega
            clear hsn h2
            go_wp2
            go_ret2
            refine ⟨_, by rw [Hbad.out Hsn.out]; rfl, ?_, rfl⟩
            show ∀ m, _
            intro m hm
            rw [Hbad.out Hsn.out] at hm
            cases hm
        · rw [decide_eq_false h1] at hsn
          have Hsn := Lib.hid (show Lz.isDigit s[k] = false by rw [hsn]; simp)
          have h1' : (s[k].toNat : Int) < 48 := by omega
          clear hsn h1
          go_wp2
          go_ret2
          refine ⟨_, by rw [Hbad.out Hsn.out]; rfl, ?_, rfl⟩
          show ∀ m, _
          intro m hm
          rw [Hbad.out Hsn.out] at hm
          cases hm
      · have hks : s.data.toList.take k = s.data.toList := List.take_of_length_le (by rw [len_of_size]; omega)
        rw [hks] at hcl ⊢
        clear hks
        by_cases h0 : 0 < s.size
        · have hne : s.toList.isEmpty = false := by
            rw [Lib.toList_data]
            cases hl : s.data.toList with
            | nil => rw [← len_of_size, hl] at h0; simp at h0
            | cons _ _ => rfl
          have hd : Lz.allB Lz.isDigit s.data.toList = true := by
            unfold Lz.allB
            rw [Lib.toList_data] at hne
            rw [hne, List.all_eq_true.2]
            · rfl
            · intro c hc
              obtain ⟨j, hj⟩ := List.getElem?_of_mem hc
              exact Hall.out j c (by have := (List.getElem?_eq_some_iff.1 hj).1; rw [len_of_size] at this; omega) hj
          have HP := Lib.hid (Lz.port_digits hd)
          clear hd
          generalize Lz.capV s.data.toList = cv at HP hcl ⊢
          by_cases hc : cv ≤ 65535
          · have HQ : Hid (Lz.portP s.data.toList = some (cv : Int)) := by show _ = _; rw [HP.out, if_pos hc]
            have hc' : (cv : Int) ≤ 65535 := by omega
            go_wp2
            go_ret2
            refine ⟨_, by rw [HQ.out]; rfl, ?_, rfl⟩
            show ∀ m, _
            intro m hm
            rw [HQ.out] at hm
            exact Option.some.inj hm
          · have HQ : Hid (Lz.portP s.data.toList = none) := by show _ = _; rw [HP.out, if_neg hc]
            have hc' : decide ((cv : Int) ≤ 65535) = false := by simp; omega
            have hc2 : 65535 < (cv : Int) := by omega
            go_wp2
            go_ret2
            refine ⟨_, by rw [HQ.out]; rfl, ?_, rfl⟩
            show ∀ m, _
            intro m hm
            rw [HQ.out] at hm
            cases hm
        · have hl : s.data.toList = [] := by rw [← List.length_eq_zero_iff, len_of_size]; omega
          have hne : s.toList.isEmpty = true := by rw [Lib.toList_data, hl]; rfl
          have HQ : Hid (Lz.portP s.data.toList = none) := by
            show _ = _
            exact Lz.port_none Hs.out (by rw [hl]; rfl)
          clear hl
          go_wp2
          go_ret2
          refine ⟨_, by rw [HQ.out]; rfl, ?_, rfl⟩
          show ∀ m, _
          intro m hm
          rw [HQ.out] at hm
          cases hm

theorem low25I (c : UInt8) : ((Lz.low1 c).toNat : Int) = if 65 ≤ (c.toNat : Int) ∧ (c.toNat : Int) ≤ 90 then (c.toNat : Int) + 32 else c.toNat := by
  revert c
  exact Lz.byte_all (by decide +kernel)

set_option maxHeartbeats 1000000 in
set_option maxRecDepth 100000 in
theorem Lower02_any (s : ByteArray) (hs : s.size ≤ 1073741824) (w : World) : Calls Tryz.prog 32 #[.string s] w fun e w' => e = .returned (.string ⟨(Lz.low s.data.toList).toArray⟩) ∧ Below w.heap.size w w' := by
  obtain ⟨i0, hi, hz0, hz1, hz2⟩ := info_parts Tryz.infoU8
  go_enter Tryz.func32, Tryz.ntmps32
  go_wp2
  go_loopw [3, 4] (fun v i wr => ∃ k : Nat, k ≤ s.size ∧ i = .int .i64 k ∧ wr.ownsRow w.heap.size 5 1 v k (u8s (Lz.low (s.data.toList.take k))) ∧ Below w.heap.size w wr) (fun _ i _ => s.size - (intOf i).toNat)
  case atStart => exact ⟨0, Nat.zero_le _, rfl, World.ownsRow_nil _ _ _ _, Below.refl _ _⟩
  case round =>
    obtain ⟨k, hk, rfl, hown, hb⟩ := hrel
    have Hown := Lib.hid hown
    have hsz := hb.size
    by_cases hlt : k < s.size
    · have hc := byte_lt s[k]
      have hl := low25I s[k]
      have hst : u8s (Lz.low (s.data.toList.take k)) ++ [.int .u8 ((Lz.low1 s[k]).toNat : Int)] = u8s (Lz.low (s.data.toList.take (k + 1))) := by
        rw [u8s_snoc, List.take_succ_eq_append_getElem (by rw [len_of_size]; exact hlt)]
        simp [Lz.low]
        rfl
      have Hst := Lib.hid hst
      clear hst hown
      by_cases hup : 65 ≤ (s[k].toNat : Int) ∧ (s[k].toNat : Int) ≤ 90
      · rw [if_pos hup] at hl
        obtain ⟨h1, h2⟩ := hup
        have Hl := Lib.hid hl
        clear hl
        go_wp2_with (at_builtin; refine wpList_append_own _ rfl (.tmp 23) (.tmp 25) 22 rfl w.heap.size 5 i0 (.int .u8 0) 1 1 Tryz.underlying22 hi hz0 hz1 hz2 rfl (by decide) _ _ _ rfl (Hown.out.alloc _) ⟨wr.heap.size, 0, none⟩ 1 1 [.int .u8 ((s[k].toNat : Int) + 32)] rfl rfl (cell_one _ _ _) (by simp [Value.oneCell']) (by unfold maxLen; omega) (by omega) (by simp; omega) ?_)
        intro v' w1 hown' hgrow _
        have hb1 := Below.grown1 hb Hown.out hgrow hsz (Nat.le_refl _)
        rw [← Hl.out, Hst.out] at hown'
        have Hown1 := Lib.hid hown'
        clear hown' hgrow Hst Hl hb
        go_wp2
        go_roundw
        case rel => exact ⟨k + 1, by omega, by go_num, Hown1.out, hb1⟩
        case measure => simp [intOf]; omega
      · rw [if_neg hup] at hl
        have hcase : (s[k].toNat : Int) < 65 ∨ (65 ≤ (s[k].toNat : Int) ∧ 90 < (s[k].toNat : Int)) := by omega
        have Hl := Lib.hid hl
        clear hl hup
        rcases hcase with h1 | ⟨h1, h2⟩
        all_goals
          go_wp2_with (at_builtin; refine wpList_append_own _ rfl (.tmp 23) (.tmp 25) 22 rfl w.heap.size 5 i0 (.int .u8 0) 1 1 Tryz.underlying22 hi hz0 hz1 hz2 rfl (by decide) _ _ _ rfl (Hown.out.alloc _) ⟨wr.heap.size, 0, none⟩ 1 1 [.int .u8 (s[k].toNat : Int)] rfl rfl (cell_one _ _ _) (by simp [Value.oneCell']) (by unfold maxLen; omega) (by omega) (by simp; omega) ?_)
          intro v' w1 hown' hgrow _
          have hb1 := Below.grown1 hb Hown.out hgrow hsz (Nat.le_refl _)
          rw [← Hl.out, Hst.out] at hown'
          have Hown1 := Lib.hid hown'
          clear hown' hgrow Hst Hl hb
          go_wp2
          go_roundw
          case rel => exact ⟨k + 1, by omega, by go_num, Hown1.out, hb1⟩
          case measure => simp [intOf]; omega
    · have hcv := conv_own hown
      rw [List.take_of_length_le (by rw [len_of_size]; omega)] at hcv
      clear hown Hown
      go_wp2
      go_ret
      exact ⟨rfl, hb⟩
theorem Lower02_c (s : ByteArray) (hs : s.size ≤ 1073741824) (w : World) : Calls Tryz.prog 32 #[.string s] w fun e w' => ∃ u : ByteArray, e = .returned (.string u) ∧ Hid (u.data.toList = Lz.low s.data.toList) ∧ Below w.heap.size w w' :=
  (Lower02_any s hs w).mono fun _ _ ⟨he, hb⟩ => ⟨_, he, rfl, hb⟩

/-- What stands behind a beginning, but for A to Z. -/
def RBehind (s h : ByteArray) (w : World) (e : Ending) (w' : World) : Prop :=
  ∃ u : ByteArray, e = .returned (.tuple #[.string u, .bool (Lib.hasPrefix (Lz.low s.data.toList) h.data.toList)]) ∧ Hid (Lib.hasPrefix (Lz.low s.data.toList) h.data.toList = true → u.data.toList = s.data.toList.drop h.size) ∧ u.size ≤ s.size ∧ Below w.heap.size w w'

set_option maxHeartbeats 1000000 in
set_option maxRecDepth 100000 in
theorem behind_any (s h : ByteArray) (hs : s.size ≤ 1073741824) (w : World) : Calls Tryz.prog 52 #[.string s, .string h] w (RBehind s h w) := by
  by_cases hlt : (s.size : Int) < h.size
  · have hp : Lib.hasPrefix (Lz.low s.data.toList) h.data.toList = false := Lz.short_prefix (by rw [Lz.low_len, len_of_size, len_of_size]; omega)
    have Hp := Lib.hid hp
    clear hp
    go_enter Tryz.func52, Tryz.ntmps52
    go_wp2
    go_ret2
    exact ⟨_, by rw [Hp.out]; rfl, Lib.hid (fun e => by rw [Hp.out] at e; cases e), Nat.zero_le _, Below.refl _ _⟩
  · have hz := extract_size_le' s 0 h.size
    have cl := Lib.hid (Lower02_c (s.extract 0 h.size) (by omega) w)
    clear hz
    have hge : (h.size : Int) ≤ s.size := by omega
    clear hlt
    go_enter Tryz.func52, Tryz.ntmps52
    go_wp2_with fail
    refine (cl.out).mono ?_
    rintro e w1 ⟨u, rfl, hu, hb1⟩
    have hq : (u.toList == h.toList) = Lib.hasPrefix (Lz.low s.data.toList) h.data.toList := by
      rw [Lib.toList_data, Lib.toList_data, hu.out, extract_head', Lz.low_take, ← len_of_size]
      exact Lz.take_prefix _ _
    have hq2 : (u.toList != h.toList) = !Lib.hasPrefix (Lz.low s.data.toList) h.data.toList := by rw [← hq]; rfl
    clear hu cl
    generalize hp : Lib.hasPrefix (Lz.low s.data.toList) h.data.toList = p at hq hq2
    have Hp := Lib.hid hp
    clear hp
    cases p
    · go_wp2
      go_ret2
      exact ⟨_, by rw [Hp.out]; rfl, Lib.hid (fun e => by rw [Hp.out] at e; cases e), Nat.zero_le _, hb1⟩
    · go_wp2
      go_ret2
      exact ⟨_, by rw [Hp.out]; rfl, Lib.hid (fun _ => extract_tail' _ _), extract_size_le' _ _ _, hb1⟩
end Go.Proofs.YtkaejkjheajaaaaGreatDoor
