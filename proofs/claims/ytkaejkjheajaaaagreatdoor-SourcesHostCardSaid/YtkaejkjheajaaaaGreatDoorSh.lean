/-
  The walk of the law SourcesHost.
-/
import Derived.Test.YtkaejkjheajaaaaGreatDoorParse
import Derived.Test.YtkaejkjheajaaaaGreatDoorLet
import Derived.Test.YtkaejkjheajaaaaGreatDoorShP
namespace Go.Proofs.YtkaejkjheajaaaaGreatDoor
open Go.RowKit
attribute [local go_sem ↓] Go.wp_at_zero Go.wp_at_succ

/-- The boxed argument, and the slices in it. -/
structure HB (w : World) (v0 v1 v2 : Value) (l0 l1 l2 : List UInt8) (W : World) : Prop where
  box : W.heap[w.heap.size]? = some (.cells #[v0, v1, v2] 23 (0, 0))
  s0 : SlB W v0 l0
  s1 : SlB W v1 l1
  s2 : SlB W v2 l2
  below : Below w.heap.size w W
theorem HB.call {w W W' : World} {v0 v1 v2 : Value} {l0 l1 l2 : List UInt8} (h : HB w v0 v1 v2 l0 l1 l2 W) (hb : Below W.heap.size W W') : HB w v0 v1 v2 l0 l1 l2 W' :=
  ⟨by rw [hb.block _ (Array.getElem?_eq_some_iff.1 h.box).1]; exact h.box, h.s0.below hb, h.s1.below hb, h.s2.below hb, below_call h.below hb⟩
theorem SlB.drew {W : World} {v : Value} {l : List UInt8} (h : SlB W v l) : SlB W.drew v l := h
theorem HB.drew {w W : World} {v0 v1 v2 : Value} {l0 l1 l2 : List UInt8} (h : HB w v0 v1 v2 l0 l1 l2 W) : HB w v0 v1 v2 l0 l1 l2 W.drew := ⟨h.box, h.s0, h.s1, h.s2, h.below.drew⟩
theorem HB.at {w W : World} {v0 v1 v2 : Value} {l0 l1 l2 : List UInt8} (h : HB w v0 v1 v2 l0 l1 l2 W) (k : Nat) : W.cell? ⟨w.heap.size, k, none⟩ = (#[v0, v1, v2] : Array Value)[k]? := cell_of_row W _ k _ _ _ h.box
theorem HB.c0 {w W : World} {v0 v1 v2 : Value} {l0 l1 l2 : List UInt8} (h : HB w v0 v1 v2 l0 l1 l2 W) : W.cell? ⟨w.heap.size, 0, none⟩ = some v0 ∧ W.cell? ⟨w.heap.size, 1, none⟩ = some v1 := ⟨h.at 0, h.at 1⟩
/-- .. and the source's variable. -/
structure HX (w : World) (v0 v1 v2 : Value) (l0 l1 l2 : List UInt8) (X : Nat) (x : SrcB) (W : World) : Prop where
  hb : HB w v0 v1 v2 l0 l1 l2 W
  src : SrcRow W X x
  lt : w.heap.size < X
theorem HX.call {w W W' : World} {v0 v1 v2 : Value} {l0 l1 l2 : List UInt8} {X : Nat} {x : SrcB} (h : HX w v0 v1 v2 l0 l1 l2 X x W) (hb : Below W.heap.size W W') : HX w v0 v1 v2 l0 l1 l2 X x W' := ⟨h.hb.call hb, h.src.below hb, h.lt⟩
theorem SlB.setCell {w W : World} {v : Value} {l : List UInt8} (h0 : SlB w v l) (hb : Below w.heap.size w W) {X : Nat} (hX : w.heap.size < X) (k : Nat) (z : Value) : SlB (W.setCell ⟨X, k, none⟩ z) v l := by
  have hb2 : Below w.heap.size w (W.setCell ⟨X, k, none⟩ z) := hb.setCell (p := ⟨X, k, none⟩) (Nat.le_of_lt hX) z
  exact h0.below hb2
theorem HX.store {w W : World} {v0 v1 v2 : Value} {l0 l1 l2 : List UInt8} {X : Nat} {x y : SrcB} (h : HX w v0 v1 v2 l0 l1 l2 X x W) (i0 : SlB w v0 l0) (i1 : SlB w v1 l1) (i2 : SlB w v2 l2) (k : Nat) (v : Value) (hy : x.cells.setIfInBounds k v = y.cells) :
    HX w v0 v1 v2 l0 l1 l2 X y (W.setCell ⟨X, k, none⟩ v) :=
  ⟨⟨by rw [Below.heap_setCell _ ⟨X, k, none⟩ _ w.heap.size (Nat.ne_of_lt h.lt)]; exact h.hb.box, i0.setCell h.hb.below h.lt k v, i1.setCell h.hb.below h.lt k v, i2.setCell h.hb.below h.lt k v,
    h.hb.below.setCell (p := ⟨X, k, none⟩) (Nat.le_of_lt h.lt) v⟩, h.src.store k v hy, h.lt⟩

theorem src_ext {x y : SrcB} (h : x.src = y.src) : x = y := by
  obtain ⟨a1, ⟨a2⟩, a3, ⟨a4⟩, ⟨a5⟩, a6, a7, ⟨a8⟩⟩ := x
  obtain ⟨b1, ⟨b2⟩, b3, ⟨b4⟩, ⟨b5⟩, b6, b7, ⟨b8⟩⟩ := y
  unfold SrcB.src at h
  simp only [Lz.Src.mk.injEq] at h
  obtain ⟨h1, h2, h3, h4, h5, h6, h7, h8⟩ := h
  rw [h1, Array.toList_inj.1 h2, h3, Array.toList_inj.1 h4, Array.toList_inj.1 h5, h6, h7, Array.toList_inj.1 h8]

set_option maxHeartbeats 40000000 in
set_option maxRecDepth 100000 in
theorem sourcesHost_any (v0 v1 v2 : Value) (l0 l1 l2 : List UInt8) (p n : Int) (hp0 : 0 ≤ p) (hp1 : p ≤ 65535) (w : World) (hE : Env w) (i0 : SlB w v0 l0) (i1 : SlB w v1 l1) (i2 : SlB w v2 l2) :
    Calls Tryz.prog 3 #[.agg #[v0, v1, v2], .int .u16 p, .int .u8 n] w (RBool true w) := by
  have hB0 : HB w v0 v1 v2 l0 l1 l2 (w.alloc (.cells #[v0, v1, v2] 23)) := by
    have hb : Below w.heap.size w (w.alloc (.cells #[v0, v1, v2] 23)) := (Below.refl _ w).alloc (Nat.le_refl _) _
    exact ⟨alloc_row (Below.refl _ _), i0.below hb, i1.below hb, i2.below hb, hb⟩
  obtain ⟨a, ha⟩ : ∃ a, a = Lz.lettersP l0 [45] := ⟨_, rfl⟩
  obtain ⟨b, hb⟩ : ∃ b, b = Lz.lettersP l1 [45] := ⟨_, rfl⟩
  obtain ⟨sl, hsl⟩ : ∃ sl, sl = Lz.lettersP l2 [43, 46] := ⟨_, rfl⟩
  obtain ⟨pl, hpl⟩ : ∃ pl, pl = Lz.lettersP l2 [37, 47, 46, 126] := ⟨_, rfl⟩
  have hal : a.length ≤ 40 := by rw [ha]; exact Lz.letters_len _ _
  have hbl : b.length ≤ 40 := by rw [hb]; exact Lz.letters_len _ _
  have hsll : sl.length ≤ 40 := by rw [hsl]; exact Lz.letters_len _ _
  have hpll : pl.length ≤ 40 := by rw [hpl]; exact Lz.letters_len _ _
  have Ha := Lib.hid ha
  have Hb := Lib.hid hb
  have Hsl := Lib.hid hsl
  have Hpl := Lib.hid hpl
  clear ha hb hsl hpl
  have HI0 := Lib.hid i0
  have HI1 := Lib.hid i1
  have HI2 := Lib.hid i2
  clear i0 i1 i2
  go_enter Tryz.func3, Tryz.ntmps3
  go_upto_region 1 with fail
  go_cut [7] (fun s7 wx => ∃ nm : ByteArray, s7 = .string nm ∧ Hid (nm.data.toList = a ++ [46] ++ b) ∧ HB w v0 v1 v2 l0 l1 l2 wx)
  case first =>
    have hB1 := hB0.drew
    have HB1 := Lib.hid hB0
    have hqa : ∀ x : ByteArray, x.size ≤ 40 → ¬ (9223372036854775807 < x.size + 1) := fun x h => by omega
    have hqb : ∀ x y : ByteArray, x.size ≤ 40 → y.size ≤ 40 → ¬ (9223372036854775807 < x.size + 1 + y.size) := fun x y h h' => by omega
    generalize w.alloc (.cells #[v0, v1, v2] 23) = w0 at hB1 HB1 ⊢
    go_region_held3 (fun W => W.cell? ⟨w.heap.size, 0, none⟩ = some v0 ∧ W.cell? ⟨w.heap.size, 1, none⟩ = some v1) (exact HB.c0 (by assumption))
      (first
        | (go_at_call_of 12 v0; (refine (letters_any v0 l0 ⟨#[45]⟩ (by decide) _ (HB.s0 (by assumption))).mono ?_); (rintro e w9 ⟨u0, rfl, hu0, hb9⟩); (have hB9 : HB w v0 v1 v2 l0 l1 l2 w9 := HB.call (by assumption) hb9); (have hz0 : u0.size ≤ 40 := by rw [← len_of_size, hu0.out]; exact Lz.letters_len _ _))
        | (go_at_call_of 12 v1; (refine (letters_any v1 l1 ⟨#[45]⟩ (by decide) _ (HB.s1 (by assumption))).mono ?_); (rintro e w9 ⟨u1, rfl, hu1, hb9⟩); (have hB9 : HB w v0 v1 v2 l0 l1 l2 w9 := HB.call (by assumption) hb9); (have hz1 : u1.size ≤ 40 := by rw [← len_of_size, hu1.out]; exact Lz.letters_len _ _)))
    all_goals
      go_wp2_with fail
      go_meet
      exact ⟨_, rfl, by show _ = _; rw [append_data', append_data', hu0.out, hu1.out, Ha.out, Hb.out], by assumption⟩
  case rest =>
    clear hB0
    obtain ⟨nm, rfl, hnm, hB1⟩ := hcut
    have hnz : nm.size ≤ 81 := by
      rw [← len_of_size, hnm.out]; simp only [List.length_append, List.length_cons, List.length_nil]; omega
    go_wp2_with fail
    refine (low_any nm (by omega) _).mono ?_
    rintro e w1 ⟨lo, rfl, hlo, hb1⟩
    have hB2 := hB1.call hb1
    clear hb1 hB1
    have hX0 : HX w v0 v1 v2 l0 l1 l2 w1.heap.size ⟨3, ⟨#[]⟩, 0, ⟨#[]⟩, lo, false, -1, ⟨#[]⟩⟩ (w1.alloc (.cells #[.int .i64 3, .string ⟨#[]⟩, .int .i64 0, .string ⟨#[]⟩, .string lo, .bool false, .int .i64 (-1), .string ⟨#[]⟩] 28)) := by
      refine ⟨hB2.call ((Below.refl _ _).alloc (Nat.le_refl _) _), alloc_row (Below.refl _ _), ?_⟩
      exact (Array.getElem?_eq_some_iff.1 hB2.box).1
    generalize hq1 : decide (0 < bits BinOp.and IntKind.u8 n 1) = q1
    generalize hq2 : decide (0 < bits BinOp.and IntKind.u8 n 2) = q2
    generalize hq4 : decide (0 < bits BinOp.and IntKind.u8 n 4) = q4
    generalize hq8 : decide (0 < bits BinOp.and IntKind.u8 n 8) = q8
    generalize hq16 : decide (0 < bits BinOp.and IntKind.u8 n 16) = q16
    have Hq2 := Lib.hid hq2
    have Hq4 := Lib.hid hq4
    have Hq8 := Lib.hid hq8
    have Hq16 := Lib.hid hq16
    clear hq2 hq4 hq8 hq16 hB2
    go_upto_if 26 with fail
    generalize hw2 : w1.alloc (.cells #[.int .i64 3, .string ⟨#[]⟩, .int .i64 0, .string ⟨#[]⟩, .string lo, .bool false, .int .i64 (-1), .string ⟨#[]⟩] 28) = w2 at hX0 ⊢
    clear hw2
    generalize w1.heap.size = X at hX0 ⊢
    clear hq1
    go_cut [9] (fun s9 wx => ∃ ss : ByteArray, s9 = .string ss ∧ Hid (ss.data.toList = Lz.wildT q1 nm.data.toList) ∧ ss.size ≤ 100 ∧ HX w v0 v1 v2 l0 l1 l2 X ⟨3, ⟨#[]⟩, 0, ⟨#[]⟩, lo, q1, -1, ⟨#[]⟩⟩ wx)
    case first =>
      cases q1
      · go_wp2_with fail
        go_meet
        exact ⟨_, rfl, rfl, by omega, hX0⟩
      · have c5 := hX0.src.cell 5
        have f5 := hX0.src.free 5
        simp only [SrcB.cells] at c5
        simp at c5
        have hX1 := hX0.store (y := ⟨3, ⟨#[]⟩, 0, ⟨#[]⟩, lo, true, -1, ⟨#[]⟩⟩) HI0.out HI1.out HI2.out 5 (.bool true) (by rfl)
        clear hX0
        go_wp2_with fail
        go_meet
        refine ⟨_, rfl, ?_, ?_, hX1⟩
        · show _ = _
          rw [append_data']; rfl
        · rw [← len_of_size, append_data', List.length_append, len_of_size]
          show 2 + nm.size ≤ 100
          omega
    case rest =>
      clear hX0
      obtain ⟨ss, rfl, hss, hsz, hX0⟩ := hcut
      have hq2 := Hq2.out
      have cb2 := hX0.hb.at 2
      simp at cb2
      go_upto_if 32 with fail
      clear hq2
      go_cut [9] (fun s9 wx => ∃ (s2 sc : ByteArray), s9 = .string s2 ∧ Hid (s2.data.toList = (if q2 then 120 :: sl ++ [58, 47, 47] else []) ++ Lz.wildT q1 nm.data.toList) ∧ s2.size ≤ 200 ∧ Hid (sc.data.toList = if q2 then Lz.low (120 :: sl) else []) ∧ HX w v0 v1 v2 l0 l1 l2 X ⟨3, ⟨#[]⟩, 0, sc, lo, q1, -1, ⟨#[]⟩⟩ wx)
      case first =>
        cases q2
        · go_wp2_with fail
          go_meet
          exact ⟨ss, ⟨#[]⟩, rfl, hss.out, by omega, rfl, hX0⟩
        · go_wp2_with fail
          refine (letters_any v2 l2 ⟨#[43, 46]⟩ (by decide) _ hX0.hb.s2).mono ?_
          rintro e w5 ⟨u, rfl, hu, hb5⟩
          have huz : u.size ≤ 40 := by rw [← len_of_size, hu.out]; exact Lz.letters_len _ _
          have hX1 := hX0.call hb5
          have cb3 := hX1.hb.at 2
          simp at cb3
          clear hX0 cb2 hb5
          go_wp2_with fail
          refine (letters_any v2 l2 ⟨#[43, 46]⟩ (by decide) _ hX1.hb.s2).mono ?_
          rintro e w6 ⟨u2, rfl, hu2, hb6⟩
          have huz2 : u2.size ≤ 40 := by rw [← len_of_size, hu2.out]; exact Lz.letters_len _ _
          have hX2 := hX1.call hb6
          clear hX1 cb3 hb6
          go_wp2_with fail
          have hlz : (⟨#[120]⟩ ++ u2 : ByteArray).size ≤ 41 := by
            rw [← len_of_size, append_data', List.length_append, len_of_size]
            show 1 + u2.size ≤ 41
            omega
          refine (low_any _ (by omega) _).mono ?_
          rintro e w7 ⟨lo2, rfl, hlo2, hb7⟩
          have hX3 := hX2.call hb7
          have c3 := hX3.src.cell 3
          have f3 := hX3.src.free 3
          simp only [SrcB.cells] at c3
          simp at c3
          have hX4 := hX3.store (y := ⟨3, ⟨#[]⟩, 0, lo2, lo, q1, -1, ⟨#[]⟩⟩) HI0.out HI1.out HI2.out 3 (.string lo2) (by rfl)
          clear hX2 hb7 hX3
          go_wp2_with fail
          go_meet
          refine ⟨_, lo2, rfl, ?_, ?_, ?_, hX4⟩
          · show _ = _
            simp [hu.out, hss.out, Hsl.out]
          · rw [← len_of_size]
            simp only [append_data', List.length_append, len_of_size]
            show 1 + u.size + 3 + ss.size ≤ 200
            omega
          · show _ = _
            rw [hlo2.out, append_data', hu2.out, Hsl.out]
            rfl
      case rest =>
        clear hX0 cb2 hss hsz
        obtain ⟨s2, sc, rfl, hs2, hs2z, hsc, hX0⟩ := hcut
        have hq4 := Hq4.out
        have hq8 := Hq8.out
        have c6 := hX0.src.cell 6
        have f6 := hX0.src.free 6
        simp only [SrcB.cells] at c6
        simp at c6
        have hE0 := hE.below hX0.hb.below
        go_upto_if 48 with fail
        clear hq4
        obtain ⟨po, hpo⟩ : ∃ po : Int, po = if q4 then p else if q8 then -2 else -1 := ⟨_, rfl⟩
        have Hpo := Lib.hid hpo
        clear hpo
        go_cut [9] (fun s9 wx => ∃ (s3 : ByteArray), s9 = .string s3 ∧ Hid (s3.data.toList = s2.data.toList ++ Lz.portT po) ∧ s3.size ≤ 300 ∧ HX w v0 v1 v2 l0 l1 l2 X ⟨3, ⟨#[]⟩, 0, sc, lo, q1, po, ⟨#[]⟩⟩ wx)
        case first =>
          cases q4
          · cases q8
            · go_wp2_with fail
              go_meet
              have HP : Hid (po = -1) := Hpo.out
              refine ⟨s2, rfl, ?_, by omega, ?_⟩
              · show _ = _
                rw [HP.out]; simp [Lz.portT]
              · rw [HP.out]; exact hX0
            · have hX1 := hX0.store (y := ⟨3, ⟨#[]⟩, 0, sc, lo, q1, -2, ⟨#[]⟩⟩) HI0.out HI1.out HI2.out 6 (.int .i64 (-2)) (by rfl)
              clear hX0
              go_wp2_with fail
              go_meet
              have HP : Hid (po = -2) := Hpo.out
              refine ⟨_, rfl, ?_, ?_, ?_⟩
              · show _ = _
                rw [HP.out, append_data']; rfl
              · rw [← len_of_size, append_data', List.length_append, len_of_size]
                show s2.size + 2 ≤ 300
                omega
              · rw [HP.out]; exact hX1
          · go_wp2_with fail
            refine (Itoa_c p (by omega) (by omega) _ hE0).mono ?_
            rintro e w5 ⟨u, rfl, hu, hb5⟩
            have huz : u.size ≤ 21 := by rw [← len_of_size, hu.out]; exact itoa_len (by omega) (by omega)
            have hX1 := hX0.call hb5
            have c61 := hX1.src.cell 6
            have f61 := hX1.src.free 6
            simp only [SrcB.cells] at c61
            simp at c61
            have hX2 := hX1.store (y := ⟨3, ⟨#[]⟩, 0, sc, lo, q1, p, ⟨#[]⟩⟩) HI0.out HI1.out HI2.out 6 (.int .i64 p) (by rfl)
            clear hX0 c6 f6 hb5 hX1
            go_wp2_with fail
            go_meet
            have HP : Hid (po = p) := Hpo.out
            refine ⟨_, rfl, ?_, ?_, ?_⟩
            · show _ = _
              rw [HP.out]
              unfold Lz.portT
              rw [if_neg (by omega), if_pos hp0]
              simp [hu.out]
            · rw [← len_of_size]
              simp only [append_data', List.length_append, len_of_size]
              show s2.size + 1 + u.size ≤ 300
              omega
            · rw [HP.out]; exact hX2
        case rest =>
          clear hX0 c6 f6 hE0
          obtain ⟨s3, rfl, hs3, hs3z, hX0⟩ := hcut
          have hq16 := Hq16.out
          have cb2 := hX0.hb.at 2
          simp at cb2
          have c7 := hX0.src.cell 7
          simp only [SrcB.cells] at c7
          simp at c7
          go_upto_if 66 with fail
          clear hq16
          go_cut [9] (fun s9 wx => ∃ (s4 pa : ByteArray), s9 = .string s4 ∧ Hid (s4.data.toList = s3.data.toList ++ (if q16 then 47 :: pl ++ [47] else [])) ∧ s4.size ≤ 500 ∧ Hid (pa.data.toList = if q16 then 47 :: pl ++ [47] else []) ∧ HX w v0 v1 v2 l0 l1 l2 X ⟨3, ⟨#[]⟩, 0, sc, lo, q1, po, pa⟩ wx)
          case first =>
            cases q16
            · go_wp2_with fail
              go_meet
              exact ⟨s3, ⟨#[]⟩, rfl, by show _ = _; simp, by omega, rfl, hX0⟩
            · go_wp2_with fail
              refine (letters_any v2 l2 ⟨#[37, 47, 46, 126]⟩ (by decide) _ hX0.hb.s2).mono ?_
              rintro e w5 ⟨u, rfl, hu, hb5⟩
              have huz : u.size ≤ 40 := by rw [← len_of_size, hu.out]; exact Lz.letters_len _ _
              have hX1 := hX0.call hb5
              have c71 := hX1.src.cell 7
              have f71 := hX1.src.free 7
              simp only [SrcB.cells] at c71
              simp at c71
              have hX2 := hX1.store (y := ⟨3, ⟨#[]⟩, 0, sc, lo, q1, po, ⟨#[47]⟩ ++ u ++ ⟨#[47]⟩⟩) HI0.out HI1.out HI2.out 7 (.string (⟨#[47]⟩ ++ u ++ ⟨#[47]⟩)) (by rfl)
              clear hX0 cb2 c7 hb5
              go_wp2_with fail
              go_meet
              refine ⟨_, _, rfl, ?_, ?_, ?_, hX2⟩
              · show _ = _
                simp [hu.out, Hpl.out]
              · rw [← len_of_size]
                simp only [append_data', List.length_append, len_of_size]
                show s3.size + (1 + u.size + 1) ≤ 500
                omega
              · show _ = _
                simp [hu.out, Hpl.out]
          case rest =>
            clear hX0 cb2 c7
            obtain ⟨s4, pa, rfl, hs4, hs4z, hpa, hX0⟩ := hcut
            have hpo3 : po = -1 ∨ po = -2 ∨ (0 ≤ po ∧ po ≤ 65535) := by
              rw [Hpo.out]
              cases q4
              · cases q8
                · exact Or.inl rfl
                · exact Or.inr (Or.inl rfl)
              · exact Or.inr (Or.inr ⟨hp0, hp1⟩)
            have hparse : Lz.parseS s4.data.toList = some (SrcB.src ⟨3, ⟨#[]⟩, 0, sc, lo, q1, po, pa⟩) := by
              have h := Lz.host_parse a b sl pl q1 q2 q16 po (by rw [Ha.out]; exact Lz.letters_all _ _ _ (by decide) (by decide)) (by rw [Hb.out]; exact Lz.letters_all _ _ _ (by decide) (by decide)) (by rw [Hsl.out]; exact Lz.letters_all _ _ _ (by decide) (by decide)) (by rw [Hpl.out]; exact Lz.letters_all _ _ _ (by decide) (by decide))
                (by rw [Hpl.out]; intro h; exact Lz.letters_no l2 _ 58 (by decide) (by decide) h) hpo3
              unfold SrcB.src
              rw [hs4.out, hs3.out, hs2.out, hnm.out, hsc.out, hlo.out, hpa.out, hnm.out]
              simpa using h
            have cP : ∀ W : World, Env W → Calls Tryz.prog 15 #[.string s4] W fun e w' => e = .returned (.tuple #[.agg #[.int .i64 3, .string ⟨#[]⟩, .int .i64 0, .string sc, .string lo, .bool q1, .int .i64 po, .string pa], .int .i64 0]) ∧ Below W.heap.size W w' := by
              intro W hW
              refine (Parse_any s4 (by omega) W hW).mono ?_
              rintro e w' ⟨z, he, hz, hbz⟩
              have hz2 : z.src = SrcB.src ⟨3, ⟨#[]⟩, 0, sc, lo, q1, po, pa⟩ := by rw [hz.out]; simp [parseR, hparse]
              have := src_ext hz2
              subst this
              exact ⟨by rw [he]; simp [parseE, hparse]; rfl, hbz⟩
            have CP := Lib.hid cP
            clear cP hparse hpo3 hs4 hs3 hs2 hsc hlo hpa hnm
            go_wp2_with fail
            refine (CP.out _ (hE.below hX0.hb.below)).mono ?_
            rintro e w5 ⟨rfl, hb5⟩
            have hX1 := hX0.call hb5
            have hX2 := hX1.call ((Below.refl _ _).alloc (Nat.le_refl _) (.cells #[.int .i64 3, .string ⟨#[]⟩, .int .i64 0, .string sc, .string lo, .bool q1, .int .i64 po, .string pa] 28))
            have hr1 : _ = some (Obj.cells #[.int .i64 3, .string ⟨#[]⟩, .int .i64 0, .string sc, .string lo, .bool q1, .int .i64 po, .string pa] 28 (0, 0)) := hX2.src
            have hr2 : (w5.alloc (.cells #[.int .i64 3, .string ⟨#[]⟩, .int .i64 0, .string sc, .string lo, .bool q1, .int .i64 po, .string pa] 28)).heap[w5.heap.size]? = some (Obj.cells #[.int .i64 3, .string ⟨#[]⟩, .int .i64 0, .string sc, .string lo, .bool q1, .int .i64 po, .string pa] 28 (0, 0)) := alloc_row (Below.refl _ _)
            have hx := hX2.hb.below
            clear hX0 hX1 hX2 hb5
            go_wp2_with (first | (refine load_src_g rfl _ rfl w5.heap.size rfl _ hr2 rfl ?_) | (refine load_src_g rfl _ rfl X rfl _ hr1 rfl ?_))
            refine (reads_any _ (hE.below hx)).mono ?_
            rintro e w6 ⟨rfl, hb6⟩
            go_wp2
            go_ret
            exact ⟨rfl, below_call hx hb6⟩
end Go.Proofs.YtkaejkjheajaaaaGreatDoor
