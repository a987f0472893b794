/-
  The walks of the document's answer for source expressions, last part: Parse.
-/
import Derived.Test.YtkaejkjheajaaaaGreatDoorRefD
import Derived.Test.YtkaejkjheajaaaaGreatDoorSrcE
namespace Go.Proofs.YtkaejkjheajaaaaGreatDoor
open Go.RowKit

theorem suffix_last (l : List UInt8) (c : UInt8) : Lib.hasSuffix l [c] = (l.getLast? == some c) := by
  unfold Lib.hasSuffix
  rw [Bool.eq_iff_iff, List.isSuffixOf_iff_suffix, beq_iff_eq]
  constructor
  · rintro ⟨t, rfl⟩; simp
  · intro h
    obtain ⟨ys, rfl⟩ := List.getLast?_eq_some_iff.1 h
    exact ⟨ys, rfl⟩
theorem trim_last {l : List UInt8} {c : UInt8} (h : Lib.hasSuffix l [c] = true) : Lib.trimSuffix l [c] = l.take (l.length - 1) := by
  unfold Lib.trimSuffix; rw [if_pos h]; rfl

/-- What parseS says where no quotes stand. -/
theorem parse_colon {l : List UInt8} (hq : Lz.quotes l = false) (h : Lib.hasSuffix l [58] = true) (hs : Lz.schemeB (l.take (l.length - 1)) = true) : Lz.parseS l = some (Lz.schemeS (Lz.low (l.take (l.length - 1)))) := by
  unfold Lz.parseS
  rw [hq, h, trim_last h, hs]
  rfl
theorem parse_host {l : List UInt8} (hq : Lz.quotes l = false) (h : Lib.hasSuffix l [58] = true → Lz.schemeB (l.take (l.length - 1)) = false) : Lz.parseS l = Lz.hostedS l := by
  unfold Lz.parseS
  rw [hq]
  cases hs : Lib.hasSuffix l [58]
  · rfl
  · rw [trim_last hs, h hs]; rfl
theorem parse_quoted {l : List UInt8} (hq : Lz.quotes l = true) : Lz.parseS l = Lz.quotedS ((l.drop 1).dropLast) := by
  unfold Lz.parseS
  rw [hq]; rfl

def srcNil : SrcB := ⟨0, ⟨#[]⟩, 0, ⟨#[]⟩, ⟨#[]⟩, false, 0, ⟨#[]⟩⟩
/-- Two rows, of which the first is nothing yet. -/
structure PRows (w wx : World) (x : SrcB) : Prop where
  row : wx.heap[w.heap.size]? = some (.cells srcNil.cells 28 (0, 0))
  src : SrcRow wx (w.heap.size + 1) x
  below : Below w.heap.size w wx
theorem PRows.call {w w1 w2 : World} {x : SrcB} (h : PRows w w1 x) (hb : Below w1.heap.size w1 w2) : PRows w w2 x := by
  obtain ⟨h3, h4, h5⟩ := h
  exact ⟨by rw [hb.block _ (Array.getElem?_eq_some_iff.1 h3).1]; exact h3, h4.below hb, below_call h5 hb⟩
theorem PRows.store {w w1 : World} {x : SrcB} (h : PRows w w1 x) (y : SrcB) : PRows w (w1.setRow (w.heap.size + 1) y.cells) y := by
  obtain ⟨h3, h4, h5⟩ := h
  refine ⟨?_, setRow_heap _ _ _ _ _ _ h4, below_setRow h5 (by omega) _⟩
  rw [setRow_other _ _ _ _ (by omega)]; exact h3

/-- Behind the three ways. -/
def PRel (s : ByteArray) (w : World) (v : Value) (wx : World) : Prop :=
  ∃ (b : Bool) (x : SrcB), v = .bool b ∧ PRows w wx x ∧ Hid (b = (Lz.parseS s.data.toList).isSome ∧ ∀ y, Lz.parseS s.data.toList = some y → x.src = y)

set_option maxHeartbeats 2000000 in
set_option maxRecDepth 100000 in
theorem Parse25_any (s : ByteArray) (hs : s.size ≤ 1048576) (w : World) (hE : Env w) : Calls Tryz.prog 17 #[.string s] w (RParse s.data.toList w) := by
  obtain ⟨q, hq⟩ : ∃ q, q = Lz.quotes s.data.toList := ⟨_, rfl⟩
  have Hq := Lib.hid hq
  clear hq
  have hP0 : PRows w ((w.alloc (.cells #[.int .i64 0, .string ⟨#[]⟩, .int .i64 0, .string ⟨#[]⟩, .string ⟨#[]⟩, .bool false, .int .i64 0, .string ⟨#[]⟩] 28)).alloc (.cells #[.int .i64 0, .string ⟨#[]⟩, .int .i64 0, .string ⟨#[]⟩, .string ⟨#[]⟩, .bool false, .int .i64 0, .string ⟨#[]⟩] 28)) srcNil := by
    refine ⟨(alloc_two (Below.refl _ _)).1, (alloc_two (Below.refl _ _)).2, ((Below.refl _ w).alloc (Nat.le_refl _) _).alloc (by simp) _⟩
  go_enter Tryz.func17, Tryz.ntmps17
  go_upto_region 3 with fail
  go_cut [21] (fun s21 wx => s21 = .bool q ∧ PRows w wx srcNil)
  case first =>
    by_cases h1 : 1 < s.size
    · have h0 : 0 < s.size := by omega
      have hl : s.size - 1 < s.size := by omega
      have g0 := head_at h0
      have g1 := last_at h0
      have hqe : q = ((s[0].toNat : Int) == 39 && ((s[s.size - 1].toNat : Int) == 39)) := by
        rw [Hq.out]
        unfold Lz.quotes
        rw [g0, g1, len_of_size, decide_eq_true h1]
        have e1 := byte_beq s[0] 39
        have e2 := byte_beq (s[s.size - 1]'(by omega)) 39
        simp only [Bool.true_and]
        rw [show ((39 : UInt8).toNat : Int) = 39 from rfl] at e1 e2
        rw [e1, e2]
        rfl
      have Hqe := Lib.hid hqe
      clear hqe g0 g1
      generalize ha : ((s[0].toNat : Int) == 39) = a at Hqe
      generalize hb : ((s[s.size - 1].toNat : Int) == 39) = b at Hqe
      cases a <;> cases b
      all_goals
        go_wp2_with fail
        all_goals
          go_meet
          exact ⟨by have h := Hqe.out; subst h; rfl, hP0⟩
    · have hqe : q = false := by
        rw [Hq.out]
        unfold Lz.quotes
        rw [len_of_size, decide_eq_false h1]
        rfl
      have Hqe := Lib.hid hqe
      clear hqe
      have h1' : (s.size : Int) ≤ 1 := by omega
      clear h1
      go_wp2_with fail
      all_goals
        go_meet
        exact ⟨by have h := Hqe.out; subst h; rfl, hP0⟩
  case rest =>
    clear hP0
    obtain ⟨rfl, hP0⟩ := hcut
    go_upto_if 21 with fail
    go_cut [5] (fun s5 wx => PRel s w s5 wx)
    case first =>
      cases q
      · by_cases hcol : (∃ h : 1 < s.size, s[s.size - 1] = 58 ∧ Lz.schemeB (s.extract 0 (s.size - 1)).data.toList = true)
        · obtain ⟨h1, hc, hsc⟩ := hcol
          have hl : s.size - 1 < s.size := by omega
          have hb : ((s[s.size - 1].toNat : Int) == 58) = true := (byte_beq _ 58).trans (by simpa using hc)
          have g1 := last_at (show 0 < s.size by omega)
          have hd : s.data.toList.take (s.data.toList.length - 1) = (s.extract 0 (s.size - 1)).data.toList := by rw [extract_head, len_of_size]
          have HP : Hid (Lz.parseS s.data.toList = some (Lz.schemeS (Lz.low (s.extract 0 (s.size - 1)).data.toList))) := by
            show _ = _
            rw [← hd]
            exact parse_colon Hq.out.symm (by rw [suffix_last, g1, hc]; rfl) (by rw [hd]; exact hsc)
          have hz := extract_size_le s 0 (s.size - 1)
          have cS := Lib.hid (scheme25_any (s.extract 0 (s.size - 1)) (by omega) wc)
          rw [hsc] at cS
          have cL := Lib.hid (Lower02_c (s.extract 0 (s.size - 1)) (by omega) wc)
          clear hc hsc g1 hd
          go_wp2_with (go_at_call 31; (with_reducible refine (cS.out).mono ?_); rintro e w3 ⟨rfl, rfl⟩)
          (with_reducible refine (cL.out).mono ?_)
          rintro e w2 ⟨u, rfl, hu, hb2⟩
          have hP2 := hP0.call hb2
          have hTl := hP2.src
          unfold SrcRow srcNil at hTl
          simp only [SrcB.cells] at hTl
          clear hb2 hP0
          go_wp2_with (refine store_src rfl _ _ rfl (w.heap.size + 1) rfl rfl _ hTl rfl ?_)
          go_meet
          refine ⟨true, ⟨2, ⟨#[]⟩, 0, u, ⟨#[]⟩, false, -1, ⟨#[]⟩⟩, rfl, hP2.store ⟨2, ⟨#[]⟩, 0, u, ⟨#[]⟩, false, -1, ⟨#[]⟩⟩, ?_⟩
          refine ⟨by rw [HP.out]; rfl, fun y hy => ?_⟩
          rw [HP.out] at hy
          rw [← Option.some.inj hy]
          unfold SrcB.src
          rw [hu.out]
          rfl
        · have HP : Hid (Lz.parseS s.data.toList = Lz.hostedS s.data.toList) := by
            show _ = _
            refine parse_host Hq.out.symm fun h => ?_
            by_cases h1 : 1 < s.size
            · have g1 := last_at (show 0 < s.size by omega)
              have hd : s.data.toList.take (s.data.toList.length - 1) = (s.extract 0 (s.size - 1)).data.toList := by rw [extract_head, len_of_size]
              rw [suffix_last, g1] at h
              have hc : s[s.size - 1] = 58 := by simpa using h
              rw [hd]
              cases hb : Lz.schemeB (s.extract 0 (s.size - 1)).data.toList
              · rfl
              · exact absurd ⟨h1, hc, hb⟩ hcol
            · have : s.data.toList.take (s.data.toList.length - 1) = [] := by rw [len_of_size, show s.size - 1 = 0 by omega]; rfl
              rw [this]; rfl
          have cH := Lib.hid (fun w => host25_any s hs w)
          have hcase : (s.size : Int) ≤ 1 ∨ (∃ h : 1 < s.size, ¬ s[s.size - 1] = 58) ∨ (∃ h : 1 < s.size, s[s.size - 1] = 58 ∧ Lz.schemeB (s.extract 0 (s.size - 1)).data.toList = false) := by
            by_cases h1 : 1 < s.size
            · by_cases hc : s[s.size - 1] = 58
              · refine Or.inr (Or.inr ⟨h1, hc, ?_⟩)
                cases hb : Lz.schemeB (s.extract 0 (s.size - 1)).data.toList
                · rfl
                · exact absurd ⟨h1, hc, hb⟩ hcol
              · exact Or.inr (Or.inl ⟨h1, hc⟩)
            · exact Or.inl (by omega)
          clear hcol
          rcases hcase with h1 | ⟨h1, hc⟩ | ⟨h1, hc, hsc⟩
          case' inr.inl =>
            have hl : s.size - 1 < s.size := by omega
            have hb : ((s[s.size - 1].toNat : Int) == 58) = false := (byte_beq _ 58).trans (by simpa using hc)
            clear hc
          case' inr.inr =>
            have hl : s.size - 1 < s.size := by omega
            have hb : ((s[s.size - 1].toNat : Int) == 58) = true := (byte_beq _ 58).trans (by simpa using hc)
            have hz := extract_size_le s 0 (s.size - 1)
            have cS := Lib.hid (scheme25_any (s.extract 0 (s.size - 1)) (by omega) wc)
            rw [hsc] at cS
            clear hc hsc
          all_goals
            go_wp2_with (go_at_call 31; (with_reducible refine (cS.out).mono ?_); rintro e w3 ⟨rfl, rfl⟩)
            (with_reducible refine (cH.out _).mono ?_)
            rintro e w2 ⟨x, rfl, hx, hb2⟩
            obtain ⟨k1, t1, b1, sc1, ho1, wd1, po1, pa1⟩ := x
            dsimp only [SrcB.val]
            obtain ⟨ob, hob⟩ : ∃ ob, ob = (Lz.hostedS s.data.toList).isSome := ⟨_, rfl⟩
            rw [← hob]
            have Hob := Lib.hid hob
            have hP2 := hP0.call hb2
            have hTl := hP2.src
            unfold SrcRow srcNil at hTl
            simp only [SrcB.cells] at hTl
            clear hb2 hP0 hob
            go_wp2_with (refine store_src rfl _ _ rfl (w.heap.size + 1) rfl rfl _ hTl rfl ?_)
            go_meet
            refine ⟨_, ⟨k1, t1, b1, sc1, ho1, wd1, po1, pa1⟩, rfl, hP2.store ⟨k1, t1, b1, sc1, ho1, wd1, po1, pa1⟩, ?_⟩
            exact ⟨by rw [HP.out]; exact Hob.out, fun y hy => hx.out y (by rw [← HP.out]; exact hy)⟩
      · have h1 : (1 : Int) < s.size := by
          have h := Hq.out.symm
          unfold Lz.quotes at h
          simp only [Bool.and_eq_true, decide_eq_true_eq] at h
          have := h.1.1
          rw [len_of_size] at this
          omega
        have hz := extract_size_le s 1 (s.size - 1)
        have cQ := Lib.hid (fun w hE => quoted25_any (s.extract 1 (s.size - 1)) (by omega) w hE)
        have HP : Hid (Lz.parseS s.data.toList = Lz.quotedS (s.extract 1 (s.size - 1)).data.toList) := by
          show _ = _
          rw [parse_quoted Hq.out.symm, dropLast_extract]
        go_wp2_with fail
        (with_reducible refine (cQ.out _ (hE.below hP0.below)).mono ?_)
        rintro e w2 ⟨x, rfl, hx, hb2⟩
        obtain ⟨k1, t1, b1, sc1, ho1, wd1, po1, pa1⟩ := x
        dsimp only [SrcB.val]
        obtain ⟨ob, hob⟩ : ∃ ob, ob = (Lz.quotedS (s.extract 1 (s.size - 1)).data.toList).isSome := ⟨_, rfl⟩
        rw [← hob]
        have Hob := Lib.hid hob
        have hP2 := hP0.call hb2
        have hTl := hP2.src
        unfold SrcRow srcNil at hTl
        simp only [SrcB.cells] at hTl
        clear hb2 hP0 hob
        go_wp2_with (refine store_src rfl _ _ rfl (w.heap.size + 1) rfl rfl _ hTl rfl ?_)
        go_meet
        refine ⟨_, ⟨k1, t1, b1, sc1, ho1, wd1, po1, pa1⟩, rfl, hP2.store ⟨k1, t1, b1, sc1, ho1, wd1, po1, pa1⟩, ?_⟩
        exact ⟨by rw [HP.out]; exact Hob.out, fun y hy => hx.out y (by rw [← HP.out]; exact hy)⟩
    case rest =>
      clear hP0
      obtain ⟨b, x, rfl, hP, HB⟩ := hcut
      obtain ⟨k1, t1, b1, sc1, ho1, wd1, po1, pa1⟩ := x
      obtain ⟨hR, hT, hx1⟩ := hP
      unfold srcNil at hR
      unfold SrcRow at hT
      simp only [SrcB.cells] at hR hT
      cases hp : Lz.parseS s.data.toList with
      | none =>
        have hb : b = false := by rw [HB.out.1, hp]; rfl
        have HE : Hid (parseE s.data.toList = 250 ∧ parseR s.data.toList = ⟨0, [], 0, [], [], false, 0, []⟩) := by refine ⟨?_, ?_⟩ <;> simp [parseE, parseR, hp]
        clear hp HB
        subst hb
        go_wp2_with (refine store_src rfl _ _ rfl w.heap.size rfl rfl _ hR rfl ?_)
        refine bodyPost_ret (results_src2 (u := 3) rfl _ _ w.heap.size ⟨0, ⟨#[]⟩, 0, ⟨#[]⟩, ⟨#[]⟩, false, 0, ⟨#[]⟩⟩ (0, 0) 250 rfl rfl (setRow_heap _ _ _ _ _ _ hR)) rfl ⟨⟨0, ⟨#[]⟩, 0, ⟨#[]⟩, ⟨#[]⟩, false, 0, ⟨#[]⟩⟩, by rw [HE.out.1], by show _ = _; rw [HE.out.2]; rfl, below_setRow hx1 (Nat.le_refl _) _⟩
      | some y =>
        have hb : b = true := by rw [HB.out.1, hp]; rfl
        have HY := Lib.hid (HB.out.2 y hp)
        have HE : Hid (parseE s.data.toList = 0 ∧ parseR s.data.toList = y) := by refine ⟨?_, ?_⟩ <;> simp [parseE, parseR, hp]
        clear hp HB
        subst hb
        go_wp2_with (first | (refine wpList_load_row rfl 28 _ rfl (w.heap.size + 1) rfl 28 _ (0, 0) _ hT Tryz.underlying28 rfl srcSize ?_) | (refine store_src rfl _ _ rfl w.heap.size rfl rfl _ hR rfl ?_))
        refine bodyPost_ret (results_src2 (u := 3) rfl _ _ w.heap.size ⟨k1, t1, b1, sc1, ho1, wd1, po1, pa1⟩ (0, 0) 0 rfl rfl (setRow_heap _ _ _ _ _ _ hR)) rfl ⟨⟨k1, t1, b1, sc1, ho1, wd1, po1, pa1⟩, by rw [HE.out.1], by show _ = _; rw [HE.out.2]; exact HY.out, below_setRow hx1 (Nat.le_refl _) _⟩
end Go.Proofs.YtkaejkjheajaaaaGreatDoor
