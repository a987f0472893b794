/-
  The walk of the document's answer for the text of a source expression: lazaretref25.Text.
-/
import Derived.Test.YtkaejkjheajaaaaGreatDoorText
import Derived.BigRegion
import Derived.Deep.DeepCutAuto
namespace Go.Proofs.YtkaejkjheajaaaaGreatDoor
open Go.RowKit

theorem b_of1 {b : Bool} (h : false = (true && !b)) : b = true := by cases b <;> simp_all
theorem b_of2 {a b : Bool} (h : true = (a && !b)) : a = true ∧ b = false := by cases a <;> cases b <;> simp_all
/-- The boxed source lies there still. -/
structure Box8 (w : World) (x : SrcB) (W : World) : Prop where
  row : W.heap[w.heap.size]? = some (.cells #[.int .i64 x.kind, .string x.text, .int .i64 x.bits, .string x.scheme, .string x.host, .bool x.wild, .int .i64 x.port, .string x.path] 28 (0, 0))
  below : Below w.heap.size w W
theorem Box8.call {w W W' : World} {x : SrcB} (h : Box8 w x W) (hb : Below W.heap.size W W') : Box8 w x W' := ⟨by rw [hb.block _ (Array.getElem?_eq_some_iff.1 h.row).1]; exact h.row, below_call h.below hb⟩
theorem Box8.drew {w W : World} {x : SrcB} (h : Box8 w x W) : Box8 w x W.drew := ⟨h.row, h.below.drew⟩
theorem Box8.at {w W : World} {x : SrcB} (h : Box8 w x W) (k : Nat) : W.cell? ⟨w.heap.size, k, none⟩ = (#[.int .i64 x.kind, .string x.text, .int .i64 x.bits, .string x.scheme, .string x.host, .bool x.wild, .int .i64 x.port, .string x.path] : Array Value)[k]? := cell_of_row W _ k _ _ _ h.row

set_option maxHeartbeats 4000000 in
set_option maxRecDepth 100000 in
theorem Text25_host (x : SrcB) (hk : x.kind = 3) (h1 : x.scheme.size ≤ 1048576) (h2 : x.host.size ≤ 1048576) (h3 : x.path.size ≤ 1048576) (hp0 : -9223372036854775808 ≤ x.port) (hp1 : x.port ≤ 9223372036854775807) (w : World) (hE : Env w) :
    Calls Tryz.prog 19 #[.agg #[.int .i64 x.kind, .string x.text, .int .i64 x.bits, .string x.scheme, .string x.host, .bool x.wild, .int .i64 x.port, .string x.path]] w (RStr (Lz.addressT x.src) w) := by
  obtain ⟨k, t, b, sc, ho, wd, po, pa⟩ := x
  dsimp only at hk h1 h2 h3 hp0 hp1
  dsimp only
  subst hk
  have hs := isEmpty_iff_nil sc
  have hh := isEmpty_iff_nil ho
  have hs0 : sc.toList.isEmpty = true ∨ sc.toList.isEmpty = false := by cases sc.toList.isEmpty <;> simp
  have hh0 : ho.toList.isEmpty = true ∨ ho.toList.isEmpty = false := by cases ho.toList.isEmpty <;> simp
  have hB0 : Box8 w ⟨3, t, b, sc, ho, wd, po, pa⟩ (w.alloc (.cells #[.int .i64 3, .string t, .int .i64 b, .string sc, .string ho, .bool wd, .int .i64 po, .string pa] 28)) := ⟨alloc_row (Below.refl _ _), (Below.refl _ w).alloc (Nat.le_refl _) _⟩
  have HA : Hid (Lz.addressT (SrcB.src ⟨3, t, b, sc, ho, wd, po, pa⟩) = (if sc.toList.isEmpty then [] else sc.data.toList ++ [58, 47, 47]) ++ (if wd then (if ho.toList.isEmpty then [42] else [42, 46] ++ ho.data.toList) else ho.data.toList) ++ (if po = -2 then [58, 42] else if 0 ≤ po then 58 :: Lib.itoa po else []) ++ pa.data.toList) := by
    show Lz.addressT _ = _
    unfold Lz.addressT SrcB.src
    rw [hs, hh]
    simp only [decide_eq_true_eq]
  have HN : Hid (ho.toList.isEmpty = true → ho.data.toList = []) := by
    show _ → _
    intro h; rw [hh] at h; exact of_decide_eq_true h
  clear hs hh
  obtain ⟨nm, hnm⟩ : ∃ nm : List UInt8, nm = (if wd then (if ho.toList.isEmpty then [42] else [42, 46] ++ ho.data.toList) else ho.data.toList) := ⟨_, rfl⟩
  rw [← hnm] at HA
  have Hnm := Lib.hid hnm
  have hnz : nm.length ≤ 1048600 := by
    rw [hnm]
    have : ho.data.toList.length = ho.size := len_of_size ho
    split
    · split
      · simp
      · simp only [List.length_append, List.length_cons, List.length_nil]; omega
    · omega
  clear hnm
  go_enter Tryz.func19, Tryz.ntmps19
  obtain ⟨q, hq⟩ : ∃ q, q = (wd && !ho.toList.isEmpty) := ⟨_, rfl⟩
  have Hq := Lib.hid hq
  clear hq
  go_upto_region 12 with fail
  go_cut [46] (fun s46 wx => s46 = .bool q ∧ Box8 w ⟨3, t, b, sc, ho, wd, po, pa⟩ wx)
  case first =>
    rcases hh0 with hh1 | hh1 <;> cases wd
    all_goals
      go_wp2_with fail
      go_meet
      exact ⟨by rw [Hq.out, hh1]; rfl, hB0⟩
  case rest =>
  clear hB0
  obtain ⟨rfl, hB0⟩ := hcut
  have c5 := hB0.at 5
  simp at c5
  go_upto_if 46 with fail
  go_cut [3] (fun s3 wx => ∃ u : ByteArray, s3 = .string u ∧ Hid (u.data.toList = nm) ∧ Box8 w ⟨3, t, b, sc, ho, wd, po, pa⟩ wx)
  case first =>
    cases q
    · cases wd
      · go_wp2_with fail
        go_meet
        refine ⟨_, rfl, ?_, hB0⟩
        show _ = _
        rw [Hnm.out]
        rfl
      · have HM : Hid (nm = [42]) := by
          show _ = _
          rw [Hnm.out, b_of1 Hq.out]
          rfl
        go_wp2_with fail
        go_meet
        refine ⟨_, rfl, ?_, hB0⟩
        show _ = _
        rw [HM.out]
    · have HM : Hid (nm = [42, 46] ++ ho.data.toList) := by
        show _ = _
        rw [Hnm.out, (b_of2 Hq.out).1, (b_of2 Hq.out).2]
        rfl
      go_wp2_with fail
      go_meet
      refine ⟨_, rfl, ?_, hB0⟩
      show _ = _
      rw [HM.out]
      simp
  case rest =>
    clear hB0 HN Hnm hh0 c5
    obtain ⟨u, rfl, hu, hB⟩ := hcut
    have huz : u.size ≤ 1048600 := by rw [← len_of_size, hu.out]; exact hnz
    have c3 := hB.at 3
    have c6 := hB.at 6
    have c7 := hB.at 7
    simp at c3 c6 c7
    obtain ⟨sn, hsn⟩ : ∃ sn : List UInt8, sn = (if sc.toList.isEmpty then [] else sc.data.toList ++ [58, 47, 47]) := ⟨_, rfl⟩
    rw [← hsn] at HA
    have hsz : sn.length ≤ 1048600 := by
      rw [hsn]
      have : sc.data.toList.length = sc.size := len_of_size sc
      split
      · simp
      · simp only [List.length_append, List.length_cons, List.length_nil]; omega
    have Hsn := Lib.hid hsn
    clear hsn
    obtain ⟨p, hp⟩ : ∃ p, p = sc.toList.isEmpty := ⟨_, rfl⟩
    have hp2 : (sc.toList != []) = !p := by rw [hp]; cases sc.toList <;> rfl
    have Hp := Lib.hid hp
    clear hp
    go_upto_region 16 with fail
    go_cut [53] (fun s53 wx => s53 = .bool (!p) ∧ Box8 w ⟨3, t, b, sc, ho, wd, po, pa⟩ wx)
    case first =>
      rcases hs0 with hs1 | hs1
      all_goals
        go_wp2_with fail
        go_meet
        exact ⟨by rw [Hp.out, hs1]; rfl, hB⟩
    case rest =>
    clear hB c3 c6 c7 hp2
    obtain ⟨rfl, hB⟩ := hcut
    have c3 := hB.at 3
    simp at c3
    go_upto_if 53 with fail
    go_cut [3] (fun s3 wx => ∃ u : ByteArray, s3 = .string u ∧ Hid (u.data.toList = sn ++ nm) ∧ Box8 w ⟨3, t, b, sc, ho, wd, po, pa⟩ wx)
    case first =>
      cases p
      · go_wp2_with fail
        go_meet
        refine ⟨_, rfl, ?_, hB⟩
        show _ = _
        rw [Hsn.out, ← Hp.out]
        simp [hu.out]
      · go_wp2_with fail
        go_meet
        refine ⟨_, rfl, ?_, hB⟩
        show _ = _
        rw [Hsn.out, ← Hp.out]
        simp [hu.out]
    case rest =>
      clear hB hu huz c3 hs0 Hsn Hp
      obtain ⟨v, rfl, hv, hB⟩ := hcut
      have hvz : v.size ≤ 2097200 := by rw [← len_of_size, hv.out, List.length_append]; omega
      have c6 := hB.at 6
      have c7 := hB.at 7
      simp at c6 c7
      have hpo : po = -2 ∨ (0 ≤ po ∧ ¬ po = -2) ∨ (po < 0 ∧ ¬ po = -2) := by omega
      rcases hpo with rfl | ⟨hpo, hpn⟩ | ⟨hpo, hpn⟩
      case' inr.inl => have hpb := beq_eq_false_iff_ne.2 hpn
      case' inr.inr => have hpb := beq_eq_false_iff_ne.2 hpn
      case inr.inl =>
        have HP := Lib.hid (show (if po = -2 then ([58, 42] : List UInt8) else if 0 ≤ po then 58 :: Lib.itoa po else []) = 58 :: Lib.itoa po by rw [if_neg hpn, if_pos hpo])
        have HI := itoa_len hp0 hp1
        clear hpn
        go_wp2_with fail
        refine (Itoa_c po hp0 hp1 _ (hE.below hB.below)).mono ?_
        rintro e w1 ⟨u, rfl, hu, hb1⟩
        have huz : u.size ≤ 21 := by rw [← len_of_size u, hu.out]; exact HI
        have hB1 := hB.call hb1
        have c71 := hB1.at 7
        simp at c71
        clear c6 c7 hb1 hB
        go_wp2
        go_ret
        refine ⟨_, rfl, ?_, hB1.below⟩
        show (_ : ByteArray).data.toList = _
        rw [HA.out, HP.out]
        simp [hv.out, hu.out]
      case inl =>
        go_wp2_with fail
        go_ret
        refine ⟨_, rfl, ?_, hB.below⟩
        show (_ : ByteArray).data.toList = _
        rw [HA.out]
        simp [hv.out]
      case inr.inr =>
        have HP := Lib.hid (show (if po = -2 then ([58, 42] : List UInt8) else if 0 ≤ po then 58 :: Lib.itoa po else []) = [] by rw [if_neg hpn, if_neg (by omega)])
        go_wp2_with fail
        go_ret
        refine ⟨_, rfl, ?_, hB.below⟩
        show (_ : ByteArray).data.toList = _
        rw [HA.out, HP.out]
        simp [hv.out]

set_option maxHeartbeats 2000000 in
set_option maxRecDepth 100000 in
theorem Text25_any (x : SrcB) (h0 : x.text.size ≤ 1048576) (h1 : x.scheme.size ≤ 1048576) (h2 : x.host.size ≤ 1048576) (h3 : x.path.size ≤ 1048576) (hp0 : -9223372036854775808 ≤ x.port) (hp1 : x.port ≤ 9223372036854775807)
    (hb0 : -9223372036854775808 ≤ x.bits) (hb1 : x.bits ≤ 9223372036854775807) (w : World) (hE : Env w) :
    Calls Tryz.prog 19 #[.agg #[.int .i64 x.kind, .string x.text, .int .i64 x.bits, .string x.scheme, .string x.host, .bool x.wild, .int .i64 x.port, .string x.path]] w (RStr (Lz.textT x.src) w) := by
  by_cases e3 : x.kind = 3
  · have : Lz.textT x.src = Lz.addressT x.src := by
      have e : x.src.kind = 3 := e3
      unfold Lz.textT
      rw [e]; rfl
    rw [this]
    exact Text25_host x e3 h1 h2 h3 hp0 hp1 w hE
  obtain ⟨k, t, b, sc, ho, wd, po, pa⟩ := x
  dsimp only at h0 h1 h2 h3 hp0 hp1 hb0 hb1 e3
  dsimp only
  have hx0 : Below w.heap.size w (w.alloc (.cells #[.int .i64 k, .string t, .int .i64 b, .string sc, .string ho, .bool wd, .int .i64 po, .string pa] 28)) := (Below.refl _ w).alloc (Nat.le_refl _) _
  have hE0 := hE.below hx0
  have HT : Hid (Lz.textT (SrcB.src ⟨k, t, b, sc, ho, wd, po, pa⟩) = if k = 1 then 39 :: t.data.toList ++ [39]
      else if k = 4 then [39, 110, 111, 110, 99, 101, 45] ++ t.data.toList ++ [39]
      else if k = 5 then [39, 115, 104, 97] ++ Lib.itoa b ++ [45] ++ t.data.toList ++ [39]
      else if k = 2 then sc.data.toList ++ [58] else if k = 3 then Lz.addressT (SrcB.src ⟨k, t, b, sc, ho, wd, po, pa⟩) else []) := rfl
  by_cases e1 : k = 1
  · subst e1
    go_enter Tryz.func19, Tryz.ntmps19
    go_wp2_with fail
    go_ret
    refine ⟨_, rfl, ?_, hx0⟩
    show (_ : ByteArray).data.toList = _
    rw [HT.out]
    simp
  by_cases e4 : k = 4
  · subst e4
    go_enter Tryz.func19, Tryz.ntmps19
    go_wp2_with fail
    go_ret
    refine ⟨_, rfl, ?_, hx0⟩
    show (_ : ByteArray).data.toList = _
    rw [HT.out]
    simp
  by_cases e5 : k = 5
  · subst e5
    go_enter Tryz.func19, Tryz.ntmps19
    go_wp2_with fail
    have hB0 : Boxed w t b (w.alloc (.cells #[.int .i64 5, .string t, .int .i64 b, .string sc, .string ho, .bool wd, .int .i64 po, .string pa] 28)) :=
      ⟨by rw [World.cell?_alloc_mark]; rfl, by rw [World.cell?_alloc_mark]; rfl, hx0, by simp⟩
    have hB0d := hB0.drew
    go_region_with ((go_at_call 14; (refine (Itoa_c b hb0 hb1 _ (hE.below (Boxed.below (by first | exact hB0d | exact hB0)))).mono ?_); (rintro e w9 ⟨u, rfl, hu, hb9⟩); (have hB9 := Boxed.call (by first | exact hB0d | exact hB0) hb9); (have hu21 : u.size ≤ 21 := by rw [← len_of_size u, hu.out]; exact itoa_len hb0 hb1); (have c91 := hB9.1); (have c92 := hB9.2.1)))
    all_goals go_wp2
    all_goals go_ret
    all_goals
      refine ⟨_, rfl, ?_, by first | exact hB9.below | exact hB9.drew.below⟩
      show (_ : ByteArray).data.toList = _
      rw [HT.out]
      simp [hu.out]
  by_cases e2 : k = 2
  · subst e2
    go_enter Tryz.func19, Tryz.ntmps19
    go_wp2_with fail
    go_ret
    refine ⟨_, rfl, ?_, hx0⟩
    show (_ : ByteArray).data.toList = _
    rw [HT.out]
    simp
  have b1 := beq_eq_false_iff_ne.2 e1
  have b2 := beq_eq_false_iff_ne.2 e2
  have b3 := beq_eq_false_iff_ne.2 e3
  have b4 := beq_eq_false_iff_ne.2 e4
  have b5 := beq_eq_false_iff_ne.2 e5
  have b6 : (k != 3) = true := by rw [bne_iff_ne]; exact e3
  have HZ : Hid (Lz.textT (SrcB.src ⟨k, t, b, sc, ho, wd, po, pa⟩) = []) := by
    show _ = _
    rw [HT.out, if_neg e1, if_neg e4, if_neg e5, if_neg e2, if_neg e3]
  clear e1 e2 e3 e4 e5 HT
  go_enter Tryz.func19, Tryz.ntmps19
  go_wp2_with fail
  go_ret
  refine ⟨_, rfl, ?_, hx0⟩
  show (_ : ByteArray).data.toList = _
  rw [HZ.out]
end Go.Proofs.YtkaejkjheajaaaaGreatDoor
