/-
  strings.IndexRune at a rune beyond 127 in a text of bytes below 128; strings.IndexAny and ContainsAny of any text, at such bytes.
  Plain laws on lists of bytes: what package urls computes, with no program in sight. No condition.
  Plain laws of URLs: blanks make no difference. No program in sight.
  Plain laws of URLs: encoding again, cuts at bytes. No program in sight.
-/
import Derived.Test.YthijceooebebfaaGreatDoorM13
import Derived.Laws.Runes
import Derived.Lib.QuoteLoop
import Derived.Deep.QuietTactic
import Derived.BigQuiet
import Derived.IntWalk
import Derived.Shelf.GgClosure.StringsIndexFunc
namespace Lz
open Go
theorem get_nat (s : ByteArray) (j : Nat) (h : j < s.size) : (s.get! j).toNat = (s[j]'h).toNat := by
  congr 1
  show s.data[j]! = _
  rw [getElem!_pos s.data j h]; rfl
/-- All bytes of a rune beyond 127 are beyond 127. -/
theorem hi_bytes (s : ByteArray) (pos : Nat) (h : pos < s.size) (hb : 128 ≤ (s[pos]'h).toNat) (j : Nat) (h1 : pos ≤ j) (h2 : j < pos + (Utf8.decode s pos).2) (hj : j < s.size) : 128 ≤ (s[j]'hj).toNat := by
  rw [Lib.decode_at] at h2
  have e0 := get_nat s pos h
  by_cases hp : j = pos
  · subst hp; exact hb
  rcases Lib.decodeN_shape (s.size - pos) (s.get! pos).toNat (s.get! (pos + 1)).toNat (s.get! (pos + 2)).toNat (s.get! (pos + 3)).toNat with ⟨h3, _⟩ | ⟨_, hn, c1, _, h3⟩ | ⟨_, hn, c1, c2, _, _, h3⟩ | ⟨_, hn, c1, c2, c3, _, _, h3⟩ | h3
  · omega
  · rw [h3] at h2
    simp only at h2
    obtain rfl : j = pos + 1 := by omega
    have := get_nat s (pos + 1) hj
    omega
  · rw [h3] at h2
    simp only at h2
    obtain rfl | rfl : j = pos + 1 ∨ j = pos + 2 := by omega
    · have := get_nat s (pos + 1) hj; omega
    · have := get_nat s (pos + 2) hj; omega
  · rw [h3] at h2
    simp only at h2
    obtain rfl | rfl | rfl : j = pos + 1 ∨ j = pos + 2 ∨ j = pos + 3 := by omega
    · have := get_nat s (pos + 1) hj; omega
    · have := get_nat s (pos + 2) hj; omega
    · have := get_nat s (pos + 3) hj; omega
  · rw [h3] at h2
    simp only at h2
    omega
theorem rune_valid (s : ByteArray) (pos : Nat) : Utf8.valid ((Utf8.decode s pos).1 : Int) = true := by
  have hlt : (s.get! pos).toNat < 256 := (s.get! pos).toNat_lt
  have := Lib.decodeN_valid (s.size - pos) (s.get! pos).toNat (s.get! (pos + 1)).toNat (s.get! (pos + 2)).toNat (s.get! (pos + 3)).toNat hlt
  rw [← Lib.decode_at] at this
  rw [validRune_eq]
  unfold validRune
  rw [decide_eq_true_eq]
  omega
/-- Behind bytes that are none of them the question is the same. -/
theorem any_skip (q : UInt8 → Bool) (l : Bs) (pos : Nat) : ∀ k, (∀ j b, pos ≤ j → j < pos + k → l[j]? = some b → q b = false) → (l.drop pos).any q = (l.drop (pos + k)).any q
  | 0, _ => rfl
  | k + 1, h => by
    rw [any_skip q l pos k fun j b h1 h2 hj => h j b h1 (by omega) hj]
    by_cases hl : pos + k < l.length
    · rw [List.drop_eq_getElem_cons hl, List.any_cons, h (pos + k) l[pos + k] (by omega) (by omega) (List.getElem?_eq_getElem hl)]
      rfl
    · rw [List.drop_eq_nil_of_le (by omega), List.drop_eq_nil_of_le (by omega)]
end Lz
namespace Go.Proofs.YthijceooebebfaaGreatDoor
open Go.RowKit

set_option maxHeartbeats 2000000 in
set_option maxRecDepth 1000000 in
theorem IndexRune_err (ch : ByteArray) (ha : ∀ c ∈ ch.data.toList, c.toNat < 128) (w : World) : Calls Tryz.prog 135 #[.string ch, .int .i32 65533] w (RInt (-1) w) := by
  have Ha := Lib.hid ha
  clear ha
  go_enter Tryz.func135, Tryz.ntmps135
  go_wp2
  go_loopg [] ch.size (fun gf wx => ∃ pos : Nat, wx.heap[w.heap.size]? = some (.stringIter ch pos) ∧ Below w.heap.size w wx ∧ ch.size ≤ pos + gf)
  case atStart => exact ⟨0, World.iter_heap w ch 0, (Below.refl _ w).alloc (Nat.le_refl _) _, by omega⟩
  case round =>
    obtain ⟨pos, hit, hbw, hfu⟩ := hrel
    by_cases hps : pos < ch.size
    · obtain ⟨g', rfl⟩ : ∃ g', gk = g' + 1 := ⟨gk - 1, by omega⟩
      have hnx : ∀ ty, (Instr.next (.pointer (some ⟨w.heap.size, 0, none⟩)) true ty).run Tryz.prog wr = _ := fun ty => Lib.run_next_any_at wr w.heap.size ch pos ty hit hps
      have h128 : (ch[pos]'hps).toNat < 128 := Ha.out _ (by rw [List.mem_iff_getElem?]; exact ⟨pos, get_of_lt hps⟩)
      rw [decode_ascii ch pos hps h128] at hnx
      have hit2 := Lib.iterAt_heap wr w.heap.size ch pos (pos + 1) hit
      have hbw2 := Lib.below_iterAt hbw (k := w.heap.size) (Nat.le_refl _) ch (pos + 1)
      generalize wr.iterAt w.heap.size ch (pos + 1) = W at hnx hit2 hbw2
      have hne : (((ch[pos]'hps).toNat : Int) == 65533) = false := beq_eq_false_iff_ne.2 (by omega)
      generalize (ch[pos]'hps).toNat = R at hnx hne
      clear h128
      go_wp2
      go_roundg g'
      case measure => omega
      case rel => exact ⟨pos + 1, hit2, hbw2, by omega⟩
    · have hnx : ∀ ty, (Instr.next (.pointer (some ⟨w.heap.size, 0, none⟩)) true ty).run Tryz.prog wr = _ := fun ty => Lib.run_next_end_at wr w.heap.size ch pos ty hit hps
      go_wp2
      go_ret
      exact ⟨rfl, hbw⟩

theorem ValidRune_c (r : Int) (w : World) : Calls Tryz.prog 157 #[.int .i32 r] w fun e w' => e = .returned (.bool (Lib.validRune r)) ∧ w = w' := (Tryz.utf8_ValidRune r w).mono fun _ _ ⟨h1, h2⟩ => ⟨h1, h2.symm⟩
theorem indexByte_none (ch : ByteArray) (a b : Nat) (ha : ∀ c ∈ ch.data.toList, c.toNat < 128) (c : UInt8) (hc : 128 ≤ c.toNat) : Lib.indexByte (ch.extract a b).data.toList c = -1 := by
  apply Lz.indexByte_absent
  intro h
  have := ha c (mem_extract h)
  omega

set_option maxHeartbeats 2000000 in
set_option maxRecDepth 1000000 in
theorem IndexRune_val (ch : ByteArray) (ha : ∀ c ∈ ch.data.toList, c.toNat < 128) (r : Int) (h128 : 128 ≤ r) (hr : Utf8.valid r = true) (hne : r ≠ 65533) (w : World) : Calls Tryz.prog 135 #[.string ch, .int .i32 r] w (RInt (-1) w) := by
  have hv : Lib.validRune r = true := by
    show validRune r = true
    rw [← validRune_eq]; exact hr
  obtain ⟨hf1, hf2, hf3⟩ := encode_facts r hr h128
  have hneb : (r == 65533) = false := beq_eq_false_iff_ne.2 hne
  have hr0 : (0 : Int) ≤ r := by omega
  have hr1 : ¬ r < 128 := by omega
  have hr1b : decide (r < 128) = false := decide_eq_false hr1
  have cV := ValidRune_c r w
  rw [hv] at cV
  have CV := Lib.hid cV
  have Ha := Lib.hid ha
  clear cV hv hr hne ha
  have hcv : ∀ W, (convert 21 9 (.int .i32 r)).run Tryz.prog W = .ok (.string (Utf8.encode r)) W := fun W => run_convert_int_string W 21 9 .i32 r (by rw [Tryz.underlying21]; rfl) Tryz.underlying9
  generalize Utf8.encode r = rs at hf1 hf2 hf3 hcv
  obtain ⟨k, hk⟩ : ∃ k, k = rs.size - 1 := ⟨_, rfl⟩
  have hkl : k < rs.size := by omega
  have hkI : (rs.size : Int) - 1 = (k : Int) := by omega
  have hk3 : k ≤ 3 := by omega
  have h8 : 128 ≤ (rs[k]'hkl).toNat := by subst hk; exact hf3 hkl
  clear hk hf1 hf2 hf3
  have hk0 : (0 : Int) ≤ (k : Int) := by omega
  have hkr : (k : Int) < (rs.size : Int) := by omega
  go_enter Tryz.func135, Tryz.ntmps135
  go_wp2_with fail
  refine (CV.out).mono ?_
  rintro e w' ⟨rfl, rfl⟩
  by_cases hkc : k < ch.size
  · have hkc1 : (k : Int) < (ch.size : Int) := by omega
    have hnb : (((ch[k]'hkc).toNat : Int) != ((rs[k]'hkl).toNat : Int)) = true := by
      have := Ha.out (ch[k]'hkc) (by rw [List.mem_iff_getElem?]; exact ⟨k, get_of_lt hkc⟩)
      simp; omega
    have hib := indexByte_none ch (k + 1) ch.size Ha.out (rs[k]'hkl) h8
    have cI := fun W => IndexByte_c (ch.extract (k + 1) ch.size) (rs[k]'hkl) W
    rw [hib] at cI
    have CI : ∀ W, Calls Tryz.prog 73 #[.string (ch.extract (k + 1) ch.size), .int .u8 ((rs[k]'hkl).toNat : Int)] W fun e w' => e = .returned (.int .i64 (-1)) ∧ w' = W := fun W => (cI W).mono fun _ _ ⟨h1, h2⟩ => ⟨h1, h2.symm⟩
    have hw1 : IntKind.i64.wrap ((k : Int) + 1) = (k : Int) + 1 := IntWalk.i64_in _ (by omega)
    have hk1 : (0 : Int) ≤ (k : Int) + 1 := by omega
    have hk2 : (k : Int) + 1 ≤ (ch.size : Int) := by omega
    have hk4 : ((k : Int) + 1).toNat = k + 1 := by omega
    have HCI := Lib.hid CI
    clear CI cI hib h8
    go_wp2_with fail
    go_step3
    go_wp2_with fail
    refine wp_loop_rounds 1 ?_
    rw [rounds_succ]
    go_wp2_with fail
    go_step3
    go_wp2_with fail
    go_quiet (fail)
    have hb1 : Below w.heap.size w (w.drewN nq) := below_drewN (Below.refl _ w) nq
    generalize w.drewN nq = wa at hb1 ⊢
    go_wp2_with fail
    go_quiet ((go_at_call 73; exact Calls.quiet_of_same (HCI.out _)))
    go_wp2
    rw [Exit.noGoto_ret]
    go_ret
    exact ⟨rfl, below_drewN hb1 _⟩
  · have hkc1 : ¬ (k : Int) < (ch.size : Int) := by omega
    clear h8
    go_wp2_with fail
    go_step3
    go_wp2_with fail
    refine wp_loop_rounds 1 ?_
    rw [rounds_succ]
    go_wp2
    first | rw [Exit.noGoto_ret] | skip
    go_ret
    exact ⟨rfl, Below.refl _ _⟩

theorem indexByte_mem (c : UInt8) : ∀ l : List UInt8, decide (0 ≤ Lib.indexByte l c) = l.contains c
  | [] => rfl
  | b :: l => by
    have ih := indexByte_mem c l
    have hge := Lib.indexByte_ge l c
    rw [Lib.indexByte, List.contains_cons, ← ih]
    by_cases h : b = c
    · subst h; simp
    · have h1 : (b == c) = false := beq_eq_false_iff_ne.2 h
      have h2 : (c == b) = false := beq_eq_false_iff_ne.2 fun e => h e.symm
      rw [h1, h2, Bool.false_or, if_neg (by simp), Bool.eq_iff_iff, decide_eq_true_eq, decide_eq_true_eq]
      by_cases h3 : Lib.indexByte l c = -1
      · rw [h3]; simp
      · rw [if_neg (by simpa using h3)]; omega
/-- strings.IndexRune at any rune, in a text of bytes below 128: below 0 just where it is none of them. -/
theorem IndexRune_asc (ch : ByteArray) (ha : ∀ c ∈ ch.data.toList, c.toNat < 128) (r : Nat) (hr : Utf8.valid (r : Int) = true) (w : World) :
    Calls Tryz.prog 135 #[.string ch, .int .i32 (r : Int)] w fun e w' => ∃ i : Int, e = .returned (.int .i64 i) ∧ Hid (decide (0 ≤ i) = (decide (r < 128) && ch.data.toList.contains (UInt8.ofNat r))) ∧ Below w.heap.size w w' := by
  rcases Nat.lt_or_ge r 128 with h | h
  · refine (Tryz.strings_IndexRune_ascii ch (r : Int) w (by omega) (by omega)).mono ?_
    rintro e w' ⟨he, rfl⟩
    refine ⟨_, he, Lib.hid ?_, Below.refl _ _⟩
    rw [show ((r : Int)).toNat.toUInt8 = UInt8.ofNat r from rfl, decide_eq_true h, Bool.true_and]
    exact indexByte_mem _ _
  · by_cases h2 : r = 65533
    · subst h2
      refine (IndexRune_err ch ha w).mono ?_
      rintro e w' ⟨he, hb⟩
      exact ⟨-1, he, Lib.hid (by rfl), hb⟩
    · refine (IndexRune_val ch ha (r : Int) (by omega) hr (by omega) w).mono ?_
      rintro e w' ⟨he, hb⟩
      exact ⟨-1, he, Lib.hid (by rw [decide_eq_false (show ¬ r < 128 by omega)]; rfl), hb⟩

set_option maxHeartbeats 2000000 in
set_option maxRecDepth 1000000 in
theorem IndexAny_few (s ch : ByteArray) (h8 : s.size ≤ 8) (h2 : 2 ≤ ch.size) (ha : ∀ c ∈ ch.data.toList, c.toNat < 128) (w : World) :
    Calls Tryz.prog 137 #[.string s, .string ch] w fun e w' => ∃ i : Int, e = .returned (.int .i64 i) ∧ Hid (decide (0 ≤ i) = s.data.toList.any ch.data.toList.contains) ∧ Below w.heap.size w w' := by
  have he := isEmpty_of_pos (s := ch) (by omega)
  have hc1 : ((ch.size : Int) == 1) = false := beq_eq_false_iff_ne.2 (by omega)
  have cU := fun W => Tryz.strings_shouldUseASCIISet (s.size : Int) W
  rw [decide_eq_false (show ¬ (8 : Int) < (s.size : Int) by omega)] at cU
  have CU := Lib.hid fun W => (cU W).mono fun _ _ (h : _ ∧ _) => (⟨h.1, h.2.symm⟩ : _ ∧ W = _)
  have Ha := Lib.hid ha
  clear cU ha
  go_enter Tryz.func137, Tryz.ntmps137
  go_wp2_with fail
  refine (CU.out _).mono ?_
  rintro e w' ⟨rfl, rfl⟩
  go_wp2
  go_loopg [] s.size (fun gf wx => ∃ pos : Nat, wx.heap[w.heap.size]? = some (.stringIter s pos) ∧ Below w.heap.size w wx ∧ s.size ≤ pos + gf ∧ Hid (s.data.toList.any ch.data.toList.contains = (s.data.toList.drop pos).any ch.data.toList.contains))
  case atStart => exact ⟨0, World.iter_heap w s 0, (Below.refl _ w).alloc (Nat.le_refl _) _, by omega, Lib.hid (by rw [List.drop_zero])⟩
  case round =>
    obtain ⟨pos, hit, hbw, hfu, hS⟩ := hrel
    by_cases hps : pos < s.size
    · obtain ⟨g', rfl⟩ : ∃ g', gk = g' + 1 := ⟨gk - 1, by omega⟩
      have hnx : ∀ ty, (Instr.next (.pointer (some ⟨w.heap.size, 0, none⟩)) true ty).run Tryz.prog wr = _ := fun ty => Lib.run_next_any_at wr w.heap.size s pos ty hit hps
      have hwd := Lib.width_pos s pos
      have hval := Lz.rune_valid s pos
      have hstep : Hid ((s.data.toList.drop pos).any ch.data.toList.contains = ((decide ((Utf8.decode s pos).1 < 128) && ch.data.toList.contains (UInt8.ofNat (Utf8.decode s pos).1)) || (s.data.toList.drop (pos + (Utf8.decode s pos).2)).any ch.data.toList.contains)) := by
        show _ = _
        rcases Nat.lt_or_ge (s[pos]'hps).toNat 128 with h1 | h1
        · rw [decode_ascii s pos hps h1]
          have hd : s.data.toList.drop pos = s[pos] :: s.data.toList.drop (pos + 1) := by
            rw [List.drop_eq_getElem_cons (show pos < s.data.toList.length from hps)]; rfl
          rw [hd, List.any_cons, decide_eq_true h1]
          simp
        · have hr := Lz.rune_hi s pos hps h1
          rw [decide_eq_false (by omega), Bool.false_and, Bool.false_or]
          refine Lz.any_skip _ _ _ _ ?_
          intro j b h3 h4 hj
          have hjl : j < s.size := by rw [← len_of_size]; exact (List.getElem?_eq_some_iff.1 hj).1
          have h5 := Lz.hi_bytes s pos hps h1 j h3 h4 hjl
          rw [get_of_lt hjl] at hj
          rw [Option.some.inj hj] at h5
          rw [Bool.eq_false_iff]; intro hm
          have := Ha.out b (List.contains_iff_mem.1 hm)
          omega
      generalize hR : (Utf8.decode s pos).1 = R at hnx hval hstep
      generalize hK : (Utf8.decode s pos).2 = K at hnx hwd hstep
      clear hR hK
      have hit2 := Lib.iterAt_heap wr w.heap.size s pos (pos + K) hit
      have hbw2 := Lib.below_iterAt hbw (k := w.heap.size) (Nat.le_refl _) s (pos + K)
      have hlw : w.heap.size < (wr.iterAt w.heap.size s (pos + K)).heap.size := (Array.getElem?_eq_some_iff.1 hit2).1
      generalize wr.iterAt w.heap.size s (pos + K) = W at hnx hit2 hbw2 hlw
      have CI := Lib.hid (IndexRune_asc ch Ha.out R hval W)
      have Hit2 := Lib.hid hit2
      clear hval hit2 hit
      go_wp2_with fail
      refine (CI.out).mono ?_
      rintro e w2 ⟨i, rfl, hi, hb2⟩
      have hit3 : Hid (w2.heap[w.heap.size]? = some (.stringIter s (pos + K))) := by show _ = _; rw [hb2.block _ hlw]; exact Hit2.out
      have hbw3 : Below w.heap.size w w2 := hbw2.trans (hb2.mono hbw2.size)
      by_cases hi0 : 0 ≤ i
      · have HD : Hid (s.data.toList.any ch.data.toList.contains = true) := by
          show _ = _
          have h1 := hi.out
          rw [decide_eq_true hi0] at h1
          rw [hS.out, hstep.out, ← h1]; rfl
        go_wp2
        go_ret
        exact ⟨(pos : Int), rfl, Lib.hid (by rw [HD.out]; exact decide_eq_true (by omega)), hbw3⟩
      · have HD : Hid (s.data.toList.any ch.data.toList.contains = (s.data.toList.drop (pos + K)).any ch.data.toList.contains) := by
          show _ = _
          have h1 := hi.out
          rw [decide_eq_false hi0] at h1
          rw [hS.out, hstep.out, ← h1]; rfl
        go_wp2
        go_roundg g'
        case measure => omega
        case rel => exact ⟨pos + K, hit3.out, hbw3, by omega, HD⟩
    · have hnx : ∀ ty, (Instr.next (.pointer (some ⟨w.heap.size, 0, none⟩)) true ty).run Tryz.prog wr = _ := fun ty => Lib.run_next_end_at wr w.heap.size s pos ty hit hps
      have HD : Hid (s.data.toList.any ch.data.toList.contains = false) := by
        show _ = _
        rw [hS.out, List.drop_eq_nil_of_le (by rw [len_of_size]; omega)]; rfl
      go_wp2
      go_ret
      exact ⟨-1, rfl, Lib.hid (by rw [HD.out]; rfl), hbw⟩

theorem info256 : (Tryz.prog.info? 132).map (fun i => (i.zero, i.size)) = some (some (.agg (Array.replicate 256 (.bool false))), 256) := by kernel_rfl
/-- strings.IndexAny of any text, at two bytes below 128 or more: below 0 just where none of them is in it. -/
theorem IndexAny_asc (s ch : ByteArray) (hs : s.size ≤ 1073741824) (h2 : 2 ≤ ch.size) (hz : ch.size ≤ 1000) (ha : ∀ c ∈ ch.data.toList, c.toNat < 128) (w : World) :
    Calls Tryz.prog 137 #[.string s, .string ch] w fun e w' => ∃ i : Int, e = .returned (.int .i64 i) ∧ Hid (decide (0 ≤ i) = s.data.toList.any ch.data.toList.contains) ∧ Below w.heap.size w w' := by
  by_cases h8 : s.size ≤ 8
  · exact IndexAny_few s ch h8 h2 ha w
  · refine (Tryz.strings_IndexAny_long (zero_of_info info256).1 s ch w h2 (by omega) (by omega) (by omega) (fun j b hj => ha b (List.mem_of_getElem? hj))).mono ?_
    rintro e w' ⟨he, hw⟩
    refine ⟨_, he, Lib.hid ?_, ?_⟩
    · have := Lz.containsAny_eq s.data.toList ch.data.toList
      unfold Lib.containsAny at this
      exact this
    · rw [hw]
      exact ((Below.refl _ w).alloc (Nat.le_refl _) _).alloc (by simp) _
theorem banned_asc : ∀ c ∈ bannedB.data.toList, c.toNat < 128 := by decide
set_option maxRecDepth 100000 in
theorem cany_all (s : ByteArray) (hs : s.size ≤ 1073741824) : CAny s := by
  intro W _
  have cI := Lib.hid (IndexAny_asc s bannedB hs (by decide) (by decide) banned_asc W)
  have hB : s.data.toList.any bannedB.data.toList.contains = s.data.toList.any Lz.banned.contains := rfl
  rw [hB] at cI
  generalize s.data.toList.any Lz.banned.contains = q at cI ⊢
  clear hB
  go_enter Tryz.func173, Tryz.ntmps173
  go_wp2_with fail
  refine (cI.out).mono ?_
  rintro e w1 ⟨i, rfl, hi, hb⟩
  have Hi := Lib.hid hi.out.symm
  clear hi
  go_wp2
  go_ret
  exact ⟨by rw [Hi.out]; rfl, hb⟩
end Go.Proofs.YthijceooebebfaaGreatDoor

namespace Lz
open Go

/-- A URL, by lists of bytes. -/
structure UrlL where
  scheme : Bs := []
  user : Bs := []
  pass : Bs := []
  hasHost : Bool := false
  host : Bs := []
  port : Int := -1
  opq : Bool := false
  path : List Bs := []
  hasQuery : Bool := false
  hasFragment : Bool := false
  query : Bs := []
  fragment : Bs := []
  deriving DecidableEq, Repr
/-- A URL, or an error's number. -/
inductive UR where
  | ok (u : UrlL)
  | er (n : Nat)
  deriving DecidableEq, Repr
def UR.bind : UR → (UrlL → UR) → UR
  | .ok u, f => f u
  | .er n, _ => .er n

def httpS : Bs := [104, 116, 116, 112]
def httpsS : Bs := [104, 116, 116, 112, 115]
def wsS : Bs := [119, 115]
def wssS : Bs := [119, 115, 115]
def ftpS : Bs := [102, 116, 112]
def fileS : Bs := [102, 105, 108, 101]
def blobS : Bs := [98, 108, 111, 98]
/-- A scheme's port. -/
def defP (s : Bs) : Int := if s = httpS ∨ s = wsS then 80 else if s = httpsS ∨ s = wssS then 443 else if s = ftpS then 21 else -1
def specP (s : Bs) : Bool := s == fileS || !(defP s == -1)
def slashQ (sp : Bool) (c : UInt8) : Bool := c == 47 || (sp && c == 92)
def setU : Nat → Bs
  | 1 => [32, 34, 60, 62, 96]
  | 2 => [32, 34, 35, 60, 62]
  | 3 => [32, 34, 35, 60, 62, 39]
  | 4 => [32, 34, 35, 60, 62, 63, 94, 96, 123, 125]
  | 5 => [32, 34, 35, 60, 62, 63, 94, 96, 123, 125, 47, 58, 59, 61, 64, 91, 92, 93, 124]
  | _ => []
/-- A letter and a colon, or a bar. -/
def driveP : Bs → Bool
  | [a, b] => isAlpha a && (b == 58 || b == 124)
  | _ => false
def drivenP : Bs → Bool
  | [a, b] => isAlpha a && (b == 58 || b == 124)
  | a :: b :: c :: _ => isAlpha a && (b == 58 || b == 124) && (c == 47 || c == 92)
  | _ => false
def rootedP : List Bs → Bool
  | p :: _ => driveP p && p[1]? == some 58
  | [] => false
def shortP (scheme : Bs) (l : List Bs) : List Bs := if scheme = fileS ∧ l.length = 1 ∧ rootedP l = true then l else l.dropLast
/-- Triples of a dot are dots. -/
def unE : Bs → Bs
  | 37 :: 50 :: 101 :: r => 46 :: unE r
  | c :: r => c :: unE r
  | [] => []
def dotsP (p : Bs) : Nat := if unE (low p) = [46] then 1 else if unE (low p) = [46, 46] then 2 else 0
/-- Up to the first slash, and behind it. -/
def cutS (sp : Bool) (s : Bs) : Bs × Bs × Bool := (s.takeWhile fun c => !slashQ sp c, (s.dropWhile fun c => !slashQ sp c).drop 1, s.any (slashQ sp))
/-- What stands between slashes. -/
def splitS (sp : Bool) : Bs → List Bs
  | [] => [[]]
  | c :: r => if slashQ sp c then [] :: splitS sp r else match splitS sp r with
    | h :: t => (c :: h) :: t
    | [] => [[c]]
/-- A path, gone on with. -/
def onL (scheme : Bs) : List Bs → List Bs → List Bs
  | path, [] => path
  | path, p :: r =>
    let q := encodeP (setU 4) p
    if dotsP q = 2 then onL scheme (if r = [] then shortP scheme path ++ [[]] else shortP scheme path) r
    else if dotsP q = 1 then onL scheme (if r = [] then path ++ [[]] else path) r
    else onL scheme (path ++ [if scheme = fileS ∧ path = [] ∧ driveP q = true then q.take 1 ++ [58] else q]) r
def onP (u : UrlL) (t : Bs) : UrlL := { u with path := onL u.scheme u.path (splitS (specP u.scheme) t) }
/-- Where the host ends. -/
def colonP : Bool → Bs → Option Nat
  | _, [] => none
  | i, c :: r => if c == 91 then (colonP true r).map (· + 1) else if c == 93 then (colonP false r).map (· + 1) else if c == 58 && !i then some 0 else (colonP i r).map (· + 1)
def portN : Nat → Bs → Option Nat
  | n, [] => some n
  | n, c :: r => if isDigit c then portN (min (10 * n + (c.toNat - 48)) 1048576) r else none
def portU (u : UrlL) (s : Bs) : UR := match portN 0 s with
  | none => .er 81
  | some n => if 65535 < n then .er 81 else .ok (if s ≠ [] ∧ (n : Int) ≠ defP u.scheme then { u with port := n } else u)
def hostU (u : UrlL) (s : Bs) : UR := match hostPr s (specP u.scheme) with
  | .er n => .er n
  | .ok h => .ok { u with host := h, hasHost := true }
/-- What stands ahead of the last @, and behind it. -/
def lastAt : Bs → Option (Bs × Bs)
  | [] => none
  | c :: r => match lastAt r with
    | some (x, y) => some (c :: x, y)
    | none => if c == 64 then some ([], r) else none
def whoU (u : UrlL) (a : Bs) : UrlL := { u with user := encodeP (setU 5) (Lib.cut a [58]).1, pass := encodeP (setU 5) (Lib.cut a [58]).2.1 }
def placeU (u : UrlL) (a : Bs) : UR := match colonP false a with
  | some i => if a.take i = [] then .er 70 else (hostU u (a.take i)).bind fun u => portU u (a.drop (i + 1))
  | none => if a = [] ∧ specP u.scheme = true then .er 70 else (hostU u a).bind fun u => portU u []
def authU (u : UrlL) (a : Bs) : UR := match lastAt a with
  | some (x, y) => if y = [] then .er 70 else placeU (whoU u x) y
  | none => placeU u a
def hostedU (u : UrlL) (r : Bs) : UR :=
  let c := cutS (specP u.scheme) r
  (authU u c.1).bind fun u => .ok (if c.2.2 || specP u.scheme then onP u c.2.1 else u)
def restU (u b : UrlL) : UrlL := { u with user := b.user, pass := b.pass, hasHost := b.hasHost, host := b.host, port := b.port }
def pathU (u b : UrlL) (r : Bs) : UrlL :=
  if r ≠ [] then onP { u with path := shortP u.scheme b.path } r
  else if u.hasQuery then { u with path := b.path } else { u with path := b.path, query := b.query, hasQuery := b.hasQuery }
def leadS (sp : Bool) (r : Bs) : Nat := (r.takeWhile (slashQ sp)).length
def relU (u b : UrlL) (r : Bs) : UR :=
  let n := leadS (specP u.scheme) r
  if 1 < n then hostedU u (if specP u.scheme then r.drop n else r.drop 2)
  else if n = 1 then .ok (onP (restU u b) (r.drop 1))
  else .ok (pathU (restU u b) b r)
def localS : Bs := [108, 111, 99, 97, 108, 104, 111, 115, 116]
def filesU (u : UrlL) (b : Option UrlL) (r : Bs) : UR :=
  let u : UrlL := { u with hasHost := true }
  let n := leadS true r
  if 1 < n then
    let c := cutS true (r.drop 2)
    if driveP c.1 then .ok (onP u (r.drop 2))
    else (if c.1 = [] then UR.ok u else hostU u c.1).bind fun u => .ok (onP (if u.host = localS then { u with host := [] } else u) c.2.1)
  else if n = 1 then
    .ok (onP (match b with
      | some x => if x.scheme = fileS then (if drivenP (r.drop 1) = false ∧ rootedP x.path = true then { u with host := x.host, path := x.path.take 1 } else { u with host := x.host }) else u
      | none => u) (r.drop 1))
  else match b with
    | some x => if x.scheme = fileS then (if drivenP r then .ok (onP { u with host := x.host } r) else .ok (pathU { u with host := x.host } x r)) else .ok (onP u r)
    | none => .ok (onP u r)
def schemeC (c : UInt8) : Bool := isAlpha c || isDigit c || c == 43 || c == 45 || c == 46
def schemedP (s : Bs) : Bs × Bs × Bool :=
  let c := Lib.cut s [58]
  if c.2.2 && !c.1.isEmpty && (match c.1 with | a :: _ => isAlpha a | [] => false) && c.1.all schemeC then (low c.1, c.2.1, true) else ([], s, false)
def cleanP (s : Bs) : Bs := (((s.dropWhile (· ≤ 32)).reverse.dropWhile (· ≤ 32)).reverse).filter fun c => !(c == 9 || c == 10 || c == 13)
def mainU (u : UrlL) (s : Bs) (b : Option UrlL) : UR :=
  let c := schemedP s
  if c.2.2 then
    let u : UrlL := { u with scheme := c.1 }
    if c.1 = fileS then filesU u b c.2.1
    else if specP c.1 then (match b with
      | some x => if x.scheme = c.1 ∧ Lib.hasPrefix c.2.1 [47, 47] = false then relU u x c.2.1 else hostedU u (c.2.1.drop (leadS true c.2.1))
      | none => hostedU u (c.2.1.drop (leadS true c.2.1)))
    else if Lib.hasPrefix c.2.1 [47, 47] then hostedU u (c.2.1.drop 2)
    else if Lib.hasPrefix c.2.1 [47] then .ok (onP u (c.2.1.drop 1))
    else .ok { u with opq := true, path := [encodeP [] c.2.1] }
  else match b with
    | none => .er 82
    | some x =>
      if x.opq && (!s.isEmpty || u.hasQuery || !u.hasFragment) then .er 82
      else
        let u : UrlL := { u with scheme := x.scheme }
        if x.opq then .ok (pathU { u with opq := true } x [])
        else if x.scheme = fileS then filesU u b s
        else relU u x s
/-- A URL, read. -/
def readU (s : Bs) (b : Option UrlL) : UR :=
  let f := Lib.cut (cleanP s) [35]
  let q := Lib.cut f.1 [63]
  (mainU { query := q.2.1, hasQuery := q.2.2, fragment := f.2.1, hasFragment := f.2.2 } q.1 b).bind fun u =>
    .ok { u with query := encodeP (setU (if specP u.scheme then 3 else 2)) u.query, fragment := encodeP (setU 1) u.fragment }
def atU (u : UrlL) : Bs := if u.port = -1 then u.host else u.host ++ [58] ++ Lib.itoa u.port
/-- A URL, told. -/
def textU (u : UrlL) : Bs :=
  u.scheme ++ [58] ++
  (if u.hasHost then [47, 47] ++ u.user ++ (if u.pass = [] then [] else [58] ++ u.pass) ++ (if u.user = [] ∧ u.pass = [] then [] else [64]) ++ atU u
    else if u.opq = false ∧ 1 < u.path.length ∧ u.path.head? = some [] then [47, 46] else []) ++
  (if u.opq then u.path.headD [] else u.path.flatMap fun p => 47 :: p) ++
  (if u.hasQuery then 63 :: u.query else []) ++ (if u.hasFragment then 35 :: u.fragment else [])
/-- The URL that a text is, by a base. -/
def parseU (s : Bs) (b : Option UrlL) : UR :=
  if 4000 < s.length then .er 3
  else match b with
    | some x => if readU (textU x) none = .ok x then readU s b else .er 2
    | none => readU s none
def originU (u : UrlL) : Bs :=
  if defP u.scheme ≠ -1 then u.scheme ++ [58, 47, 47] ++ atU u
  else if u.scheme = blobS ∧ u.opq = true ∧ u.path ≠ [] then (match parseU (u.path.headD []) none with
    | .ok x => if x.scheme = httpS ∨ x.scheme = httpsS then x.scheme ++ [58, 47, 47] ++ atU x else [110, 117, 108, 108]
    | .er _ => [110, 117, 108, 108])
  else [110, 117, 108, 108]
/-- Is a text, by a base (none, if that is nothing), this URL, as a text, or this error? -/
def readsU (s base want : Bs) (e : Nat) : Bool :=
  let f := fun b => match parseU s b with
    | .ok u => decide (e = 0) && decide (textU u = want)
    | .er n => decide (e = n) && decide (n ≠ 0)
  if base = [] then f none else match parseU base none with
    | .ok b => f (some b)
    | .er _ => false
def bsOf (s : ByteArray) : Bs := s.data.toList
end Lz

namespace Lz
open Go
def lowQ (c : UInt8) : Bool := decide (c ≤ 32)
def keepQ (c : UInt8) : Bool := !(c == 9 || c == 10 || c == 13)
theorem low_keep {c : UInt8} (h : lowQ c = false) : keepQ c = true := by
  unfold lowQ at h
  unfold keepQ
  have h32 : ¬ c ≤ 32 := of_decide_eq_false h
  cases h9 : (c == 9)
  · cases h10 : (c == 10)
    · cases h13 : (c == 13)
      · rfl
      · exact absurd (by rw [eq_of_beq h13]; decide) h32
    · exact absurd (by rw [eq_of_beq h10]; decide) h32
  · exact absurd (by rw [eq_of_beq h9]; decide) h32
/-- What makes no difference is left out ahead of the trim, or behind it. -/
theorem filter_drop : ∀ l : Bs, (l.dropWhile lowQ).filter keepQ = (l.filter keepQ).dropWhile lowQ
  | [] => rfl
  | c :: r => by
    rw [List.dropWhile_cons]
    cases h : lowQ c
    · simp only [Bool.false_eq_true, if_false]
      rw [List.filter_cons, if_pos (low_keep h), List.dropWhile_cons, h]
      simp
    · simp only [if_true]
      rw [filter_drop r, List.filter_cons]
      split
      · rw [List.dropWhile_cons, if_pos h]
      · rfl
theorem clean_eq (s : Bs) : cleanP s = (((s.filter keepQ).dropWhile lowQ).reverse.dropWhile lowQ).reverse := by
  show (((s.dropWhile lowQ).reverse.dropWhile lowQ).reverse).filter keepQ = _
  rw [List.filter_reverse, filter_drop, List.filter_reverse, filter_drop]
theorem drop_all {l : Bs} (h : l.all lowQ = true) (r : Bs) : (l ++ r).dropWhile lowQ = r.dropWhile lowQ := by
  induction l with
  | nil => rfl
  | cons c l ih =>
    rw [List.all_cons, Bool.and_eq_true] at h
    rw [List.cons_append, List.dropWhile_cons, if_pos h.1, ih h.2]
/-- Blanks around a text, and what is left out anyway, make no difference. -/
theorem clean_same {s t a b : Bs} (ha : a.all lowQ = true) (hb : b.all lowQ = true) (h : t.filter keepQ = a ++ s.filter keepQ ++ b) : cleanP t = cleanP s := by
  rw [clean_eq, clean_eq, h, List.append_assoc, drop_all ha]
  generalize s.filter keepQ = m
  have hbr : b.reverse.all lowQ = true := by rw [List.all_reverse]; exact hb
  by_cases hm : m.all lowQ = true
  · have e1 : (m ++ b).dropWhile lowQ = [] := by
      rw [drop_all hm]
      have := drop_all hb []
      rwa [List.append_nil] at this
    have e2 : m.dropWhile lowQ = [] := by
      have := drop_all hm []
      rwa [List.append_nil] at this
    rw [e1, e2]
  · have e1 : (m ++ b).dropWhile lowQ = m.dropWhile lowQ ++ b := by
      clear h hbr
      induction m with
      | nil => exact absurd rfl hm
      | cons c r ih =>
        rw [List.cons_append, List.dropWhile_cons, List.dropWhile_cons]
        cases hc : lowQ c
        · rfl
        · simp only [if_true]
          exact ih (fun hr => hm (by rw [List.all_cons, hc, hr]; rfl))
    rw [e1, List.reverse_append, drop_all hbr]
theorem read_clean {s t : Bs} (h : cleanP t = cleanP s) (b : Option UrlL) : readU t b = readU s b := by
  unfold readU
  rw [h]
theorem parse_clean {s t : Bs} (h : cleanP t = cleanP s) (hs : s.length ≤ 4000) (ht : t.length ≤ 4000) (b : Option UrlL) : parseU t b = parseU s b := by
  unfold parseU
  rw [if_neg (by omega), if_neg (by omega)]
  cases b with
  | none => exact read_clean h none
  | some x => simp only [read_clean h]
/-- What is put ahead of a byte. -/
def insB : Option UInt8 → Bs
  | some x => if 0 < x.toNat % 4 then [(([9, 10, 13] : Bs).getD (x.toNat % 4 - 1) 9)] else []
  | none => []
/-- The text of UrlsBlank: tabs, line feeds and carriage returns ahead of bytes. -/
def blankF (w : List UInt8) : Nat → Bs → Bs
  | _, [] => []
  | i, c :: r => insB w[i]? ++ c :: blankF w (i + 1) r
theorem blank_at : ∀ k : Fin 4, keepQ (([9, 10, 13] : Bs).getD (k.val - 1) 9) = false := by decide +kernel
theorem insB_filter (o : Option UInt8) : (insB o).filter keepQ = [] := by
  unfold insB
  cases o with
  | none => rfl
  | some x =>
    simp only
    split
    · rw [List.filter_cons, blank_at ⟨x.toNat % 4, Nat.mod_lt _ (by omega)⟩]; rfl
    · rfl
theorem blankF_filter (w : List UInt8) : ∀ (s : Bs) (i : Nat), (blankF w i s).filter keepQ = s.filter keepQ
  | [], _ => rfl
  | c :: r, i => by
    have ih := blankF_filter w r (i + 1)
    rw [blankF, List.filter_append, insB_filter, List.nil_append, List.filter_cons, List.filter_cons, ih]
theorem insB_len (o : Option UInt8) : (insB o).length ≤ 1 := by
  unfold insB
  cases o with
  | none => exact Nat.zero_le _
  | some x => simp only; split <;> simp
theorem blankF_len (w : List UInt8) : ∀ (s : Bs) (i : Nat), (blankF w i s).length ≤ 2 * s.length
  | [], _ => Nat.le_refl _
  | c :: r, i => by
    have ih := blankF_len w r (i + 1)
    have := insB_len w[i]?
    rw [blankF, List.length_append, List.length_cons, List.length_cons]
    omega
theorem blank_says (s : Bs) (w : List UInt8) (hs : s.length ≤ 800) (b : Option UrlL) : parseU ([32] ++ blankF w 0 s ++ [32, 10]) b = parseU s b := by
  have hl := blankF_len w s 0
  refine parse_clean (clean_same (a := [32]) (b := [32]) rfl rfl ?_) (by omega) (by simp; omega) b
  rw [List.filter_append, List.filter_append, blankF_filter]
  rfl
end Lz

namespace Lz
open Go
/-- Bytes that stay as they are. -/
def okE (of : Bs) (c : UInt8) : Bool := !(c < 32 || 126 < c || of.contains c)
theorem encode_id {of l : Bs} (h : l.all (okE of) = true) : encodeP of l = l := by
  induction l with
  | nil => rfl
  | cons c r ih =>
    rw [List.all_cons, Bool.and_eq_true] at h
    unfold encodeP at ih ⊢
    rw [List.flatMap_cons, ih h.2, if_neg]
    · rfl
    · have := h.1
      unfold okE at this
      intro hh
      rw [hh] at this; cases this
theorem triple_ok : ∀ k : Fin 6, ∀ d : Fin 16, okE (setU k.val) (digitU d.val) = true := by decide +kernel
theorem pct_ok : ∀ k : Fin 6, okE (setU k.val) 37 = true := by decide +kernel
theorem encode_ok (k : Nat) (hk : k < 6) : ∀ s : Bs, (encodeP (setU k) s).all (okE (setU k)) = true
  | [] => rfl
  | c :: r => by
    have ih := encode_ok k hk r
    unfold encodeP at ih ⊢
    rw [List.flatMap_cons, List.all_append, ih, Bool.and_true]
    split
    · have h1 := triple_ok ⟨k, hk⟩ ⟨c.toNat / 16, by have := c.toNat_lt; omega⟩
      have h2 := triple_ok ⟨k, hk⟩ ⟨c.toNat % 16, Nat.mod_lt _ (by omega)⟩
      rw [List.all_cons, List.all_cons, List.all_cons, pct_ok ⟨k, hk⟩, h1, h2]; rfl
    · rename_i h
      rw [List.all_cons]
      unfold okE
      simp only [List.all_nil, Bool.and_true]
      cases hh : (decide (c < 32) || decide (126 < c) || (setU k).contains c)
      · rfl
      · exact absurd hh h
theorem encode_again (k : Nat) (hk : k < 6) (s : Bs) : encodeP (setU k) (encodeP (setU k) s) = encodeP (setU k) s := encode_id (encode_ok k hk s)
theorem okE_low {of : Bs} {c : UInt8} (h : okE of c = true) (h32 : of.contains 32 = true) : lowQ c = false := by
  unfold okE at h
  unfold lowQ
  have h1 : (decide (c < 32) || decide (126 < c) || of.contains c) = false := by
    cases hh : (decide (c < 32) || decide (126 < c) || of.contains c)
    · rfl
    · rw [hh] at h; cases h
  simp only [Bool.or_eq_false_iff, decide_eq_false_iff_not] at h1
  rw [decide_eq_false_iff_not]
  intro hc
  have hge : ¬ c < 32 := h1.1.1
  have : c = 32 := by
    apply UInt8.le_antisymm hc
    exact UInt8.not_lt.1 hge
  rw [this, h32] at h1
  exact absurd h1.2 (by decide)
/-- A text without blanks stays as it is. -/
theorem clean_id {s : Bs} (h : ∀ c ∈ s, lowQ c = false) : cleanP s = s := by
  rw [clean_eq]
  have hf : s.filter keepQ = s := List.filter_eq_self.2 (fun c hc => low_keep (h c hc))
  have hd : ∀ l : Bs, (∀ c ∈ l, lowQ c = false) → l.dropWhile lowQ = l := by
    intro l hl
    cases l with
    | nil => rfl
    | cons c r => rw [List.dropWhile_cons, hl c (by simp)]; rfl
  rw [hf, hd s h, hd s.reverse (fun c hc => h c (List.mem_reverse.1 hc)), List.reverse_reverse]
/-- Cuts at one byte. -/
theorem index_one_none {k : UInt8} : ∀ {s : Bs}, k ∉ s → Lib.index s [k] = -1
  | [], _ => rfl
  | c :: r, h => by
    have hc : ([k] : Bs).isPrefixOf (c :: r) = false := by
      simp only [List.isPrefixOf, Bool.and_true]
      rw [beq_eq_false_iff_ne]
      intro e; exact h (by rw [e]; simp)
    rw [Lib.index, hc, if_neg (by decide), index_one_none (fun hh => h (List.mem_cons_of_mem _ hh))]
    rfl
theorem index_one_at {k : UInt8} : ∀ {a : Bs} (b : Bs), k ∉ a → Lib.index (a ++ k :: b) [k] = a.length
  | [], b, _ => by
    show Lib.index (k :: b) [k] = _
    have hc : ([k] : Bs).isPrefixOf (k :: b) = true := by simp [List.isPrefixOf]
    rw [Lib.index, hc, if_pos rfl]; rfl
  | c :: r, b, h => by
    have hc : ([k] : Bs).isPrefixOf (c :: (r ++ k :: b)) = false := by
      simp only [List.isPrefixOf, Bool.and_true]
      rw [beq_eq_false_iff_ne]
      intro e; exact h (by rw [e]; simp)
    have ih := index_one_at (a := r) b (fun hh => h (List.mem_cons_of_mem _ hh))
    rw [List.cons_append, Lib.index, hc, if_neg (by decide), ih, if_neg]
    · simp
    · intro hh
      have h0 := eq_of_beq hh
      omega
theorem cut_one_no {k : UInt8} {s : Bs} (h : k ∉ s) : Lib.cut s [k] = (s, [], false) := by
  unfold Lib.cut
  rw [index_one_none h]; rfl
theorem cut_one_at {k : UInt8} {a : Bs} (b : Bs) (h : k ∉ a) : Lib.cut (a ++ k :: b) [k] = (a, b, true) := by
  unfold Lib.cut
  rw [index_one_at b h, if_pos (by omega)]
  simp
theorem lastAt_no : ∀ {s : Bs}, (64 : UInt8) ∉ s → lastAt s = none
  | [], _ => rfl
  | c :: r, h => by
    have hc : (c == 64) = false := by rw [beq_eq_false_iff_ne]; intro e; exact h (by rw [e]; simp)
    rw [lastAt, lastAt_no (fun hh => h (List.mem_cons_of_mem _ hh)), hc]; rfl
theorem lastAt_at : ∀ (a : Bs) {b : Bs}, (64 : UInt8) ∉ b → lastAt (a ++ 64 :: b) = some (a, b)
  | [], b, h => by
    show lastAt (64 :: b) = _
    rw [lastAt, lastAt_no h]; rfl
  | c :: r, b, h => by
    rw [List.cons_append, lastAt, lastAt_at r h]
theorem cutS_no {sp : Bool} {s : Bs} (h : ∀ c ∈ s, slashQ sp c = false) : cutS sp s = (s, [], false) := by
  unfold cutS
  have h12 : ∀ l : Bs, (∀ c ∈ l, slashQ sp c = false) → l.takeWhile (fun c => !slashQ sp c) = l ∧ l.dropWhile (fun c => !slashQ sp c) = [] := by
    intro l hl
    induction l with
    | nil => exact ⟨rfl, rfl⟩
    | cons c r ih =>
      obtain ⟨i1, i2⟩ := ih (fun x hx => hl x (List.mem_cons_of_mem _ hx))
      rw [List.takeWhile_cons, List.dropWhile_cons, hl c (by simp)]
      simp only [Bool.not_false, if_true]
      exact ⟨by rw [i1], i2⟩
  obtain ⟨h1, h2⟩ := h12 s h
  have h3 : s.any (slashQ sp) = false := by rw [List.any_eq_false]; intro c hc; rw [h c hc]; decide
  rw [h1, h2, h3]; rfl
theorem cutS_at {sp : Bool} {a : Bs} (b : Bs) (h : ∀ c ∈ a, slashQ sp c = false) : cutS sp (a ++ 47 :: b) = (a, b, true) := by
  unfold cutS
  have h47 : slashQ sp 47 = true := rfl
  induction a with
  | nil =>
    rw [List.nil_append, List.takeWhile_cons, List.dropWhile_cons, List.any_cons, h47]
    rfl
  | cons c r ih =>
    have hc := h c (by simp)
    have ih := ih (fun x hx => h x (List.mem_cons_of_mem _ hx))
    simp only [Prod.mk.injEq] at ih
    rw [List.cons_append, List.takeWhile_cons, List.dropWhile_cons, List.any_cons, hc]
    simp only [Bool.not_false, if_true, Bool.false_or]
    rw [ih.1, ih.2.1, ih.2.2]
/-- No brackets: the host ends at the first colon. -/
theorem colonP_no : ∀ {s : Bs}, (58 : UInt8) ∉ s → ∀ i, colonP i s = none
  | [], _, _ => rfl
  | c :: r, h, i => by
    have hc : (c == 58) = false := by rw [beq_eq_false_iff_ne]; intro e; exact h (by rw [e]; simp)
    have ih := fun i => colonP_no (s := r) (fun hh => h (List.mem_cons_of_mem _ hh)) i
    rw [colonP, hc]
    split
    · rw [ih]; rfl
    · split
      · rw [ih]; rfl
      · rw [Bool.false_and, if_neg (by decide), ih]; rfl
theorem colonP_at : ∀ {a : Bs} (b : Bs), (∀ c ∈ a, c ≠ 58 ∧ c ≠ 91 ∧ c ≠ 93) → colonP false (a ++ 58 :: b) = some a.length
  | [], b, _ => rfl
  | c :: r, b, h => by
    obtain ⟨h1, h2, h3⟩ := h c (by simp)
    have ih := colonP_at (a := r) b (fun x hx => h x (List.mem_cons_of_mem _ hx))
    rw [List.cons_append, colonP, if_neg (by simpa using h2), if_neg (by simpa using h3), if_neg (by simpa using h1), ih]
    rfl
theorem colonP_in : ∀ {a : Bs} (b : Bs) , (93 : UInt8) ∉ a → colonP true (a ++ 93 :: b) = (colonP false b).map (· + (a.length + 1))
  | [], b, _ => by
    show colonP true (93 :: b) = _
    rw [colonP]
    simp
  | c :: r, b, h => by
    have hc : (c == 93) = false := by rw [beq_eq_false_iff_ne]; intro e; exact h (by rw [e]; simp)
    have ih := colonP_in (a := r) b (fun hh => h (List.mem_cons_of_mem _ hh))
    rw [List.cons_append, colonP, hc, ih]
    have e : (Option.map (· + (r.length + 1)) (colonP false b)).map (· + 1) = (colonP false b).map (· + ((c :: r).length + 1)) := by
      cases colonP false b with
      | none => rfl
      | some n => simp; omega
    split
    · exact e
    · simp only [Bool.false_eq_true, if_false, Bool.not_true, Bool.and_false]
      exact e
end Lz
