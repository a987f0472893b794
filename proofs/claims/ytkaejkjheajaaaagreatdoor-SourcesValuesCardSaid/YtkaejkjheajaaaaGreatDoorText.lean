/-
  The walks of sources.address and sources.Text.
-/
import Derived.Test.YtkaejkjheajaaaaGreatDoorSrcC
import Derived.Deep.RegionHeld3
namespace Go.Proofs.YtkaejkjheajaaaaGreatDoor
open Go.RowKit

theorem append_data (a b : ByteArray) : (a ++ b).data.toList = a.data.toList ++ b.data.toList := by
  simp
theorem isEmpty_iff_nil (s : ByteArray) : s.toList.isEmpty = decide (s.data.toList = []) := by
  rw [Lib.toList_data]
  cases s.data.toList <;> rfl

theorem decDigits_len : ∀ (k n : Nat), n < 10 ^ (k + 1) → (Lib.decDigits n).length ≤ k + 1
  | 0, n, h => by rw [Lib.decDigits, dif_pos (by simpa using h)]; simp
  | k + 1, n, h => by
    rw [Lib.decDigits]
    split
    · simp
    · rw [List.length_append]
      have := decDigits_len k (n / 10) (by rw [Nat.pow_succ] at h; omega)
      simp
      omega
theorem itoa_len {n : Int} (h0 : -9223372036854775808 ≤ n) (h1 : n ≤ 9223372036854775807) : (Lib.itoa n).length ≤ 21 := by
  unfold Lib.itoa
  split
  · have := decDigits_len 19 n.natAbs (by omega)
    simp
    omega
  · have := decDigits_len 19 n.toNat (by omega)
    omega

set_option maxHeartbeats 1000000 in
set_option maxRecDepth 100000 in
theorem address_any (x : SrcB) (h1 : x.scheme.size ≤ 1048576) (h2 : x.host.size ≤ 1048576) (h3 : x.path.size ≤ 1048576) (hp0 : -9223372036854775808 ≤ x.port) (hp1 : x.port ≤ 9223372036854775807) (w : World) (hE : Env w) :
    Calls Tryz.prog 34 #[.agg #[.int .i64 x.kind, .string x.text, .int .i64 x.bits, .string x.scheme, .string x.host, .bool x.wild, .int .i64 x.port, .string x.path]] w (RStr (Lz.addressT x.src) w) := by
  obtain ⟨k, t, b, sc, ho, wd, po, pa⟩ := x
  dsimp only at h1 h2 h3 hp0 hp1
  dsimp only
  have hs := isEmpty_iff_nil sc
  have hh := isEmpty_iff_nil ho
  have hs0 : sc.toList.isEmpty = true ∨ sc.toList.isEmpty = false := by cases sc.toList.isEmpty <;> simp
  have hh0 : ho.toList.isEmpty = true ∨ ho.toList.isEmpty = false := by cases ho.toList.isEmpty <;> simp
  have hx0 : Below w.heap.size w (w.alloc (.cells #[.int .i64 k, .string t, .int .i64 b, .string sc, .string ho, .bool wd, .int .i64 po, .string pa] 28)) := (Below.refl _ w).alloc (Nat.le_refl _) _
  have HA : Hid (Lz.addressT (SrcB.src ⟨k, t, b, sc, ho, wd, po, pa⟩) = (if sc.toList.isEmpty then [] else sc.data.toList ++ [58, 47, 47]) ++ (if wd then (if ho.toList.isEmpty then [42] else [42, 46] ++ ho.data.toList) else ho.data.toList) ++ (if po = -2 then [58, 42] else if 0 ≤ po then 58 :: Lib.itoa po else []) ++ pa.data.toList) := by
    show Lz.addressT _ = _
    unfold Lz.addressT SrcB.src
    rw [hs, hh]
    simp only [decide_eq_true_eq]
  have HN : Hid (ho.toList.isEmpty = true → ho.data.toList = []) := by
    show _ → _
    intro h; rw [hh] at h; exact of_decide_eq_true h
  clear hs hh
  rcases hs0 with hs1 | hs1 <;> rcases hh0 with hh1 | hh1 <;> cases wd
  all_goals
    have hpo : po = -2 ∨ (0 ≤ po ∧ ¬ po = -2) ∨ (po < 0 ∧ ¬ po = -2) := by omega
    rcases hpo with rfl | ⟨hpo, hpn⟩ | ⟨hpo, hpn⟩
    case' inr.inl => have hpb := beq_eq_false_iff_ne.2 hpn
    case' inr.inr => have hpb := beq_eq_false_iff_ne.2 hpn
    case inr.inl =>
      have HP := Lib.hid (show (if po = -2 then ([58, 42] : List UInt8) else if 0 ≤ po then 58 :: Lib.itoa po else []) = 58 :: Lib.itoa po by rw [if_neg hpn, if_pos hpo])
      have HI := itoa_len hp0 hp1
      clear hpn
      go_enter Tryz.func34, Tryz.ntmps34
      go_wp2_with fail
      refine (Itoa_c po hp0 hp1 _ (hE.below hx0)).mono ?_
      rintro e w1 ⟨u, rfl, hu, hb1⟩
      have huz : u.size ≤ 21 := by rw [← len_of_size u, hu.out]; exact HI
      have c7 : w1.cell? ⟨w.heap.size, 7, none⟩ = some (.string pa) := by
        rw [hb1.cell (by simp), World.cell?_alloc_mark]; rfl
      go_wp2
      go_ret
      refine ⟨_, rfl, ?_, below_call hx0 hb1⟩
      show (_ : ByteArray).data.toList = _
      rw [HA.out, HP.out]
      simp [hs1, hh1, hu.out]
      try exact HN.out hh1
    case inl =>
      go_enter Tryz.func34, Tryz.ntmps34
      go_wp2_with fail
      go_ret
      refine ⟨_, rfl, ?_, hx0⟩
      show (_ : ByteArray).data.toList = _
      rw [HA.out]
      simp [hs1, hh1]
      try exact HN.out hh1
    case inr.inr =>
      have HP := Lib.hid (show (if po = -2 then ([58, 42] : List UInt8) else if 0 ≤ po then 58 :: Lib.itoa po else []) = [] by rw [if_neg hpn, if_neg (by omega)])
      go_enter Tryz.func34, Tryz.ntmps34
      go_wp2_with fail
      go_ret
      refine ⟨_, rfl, ?_, hx0⟩
      show (_ : ByteArray).data.toList = _
      rw [HA.out, HP.out]
      simp [hs1, hh1]
      try exact HN.out hh1

/-- The boxed source's text and bits lie there still. -/
def Boxed (w : World) (t : ByteArray) (b : Int) (W : World) : Prop := W.cell? ⟨w.heap.size, 1, none⟩ = some (.string t) ∧ W.cell? ⟨w.heap.size, 2, none⟩ = some (.int .i64 b) ∧ Below w.heap.size w W ∧ w.heap.size < W.heap.size
theorem Boxed.below {w W : World} {t : ByteArray} {b : Int} (h : Boxed w t b W) : Below w.heap.size w W := h.2.2.1
theorem Boxed.call {w W W' : World} {t : ByteArray} {b : Int} (h : Boxed w t b W) (hb : Below W.heap.size W W') : Boxed w t b W' := by
  obtain ⟨h1, h2, h3, h4⟩ := h
  exact ⟨by rw [hb.cell (p := ⟨w.heap.size, 1, none⟩) h4]; exact h1, by rw [hb.cell (p := ⟨w.heap.size, 2, none⟩) h4]; exact h2, below_call h3 hb, Nat.lt_of_lt_of_le h4 hb.size⟩
theorem Boxed.drew {w W : World} {t : ByteArray} {b : Int} (h : Boxed w t b W) : Boxed w t b W.drew := ⟨h.1, h.2.1, h.2.2.1.drew, h.2.2.2⟩

set_option maxHeartbeats 2000000 in
set_option maxRecDepth 100000 in
theorem Text_any (x : SrcB) (h0 : x.text.size ≤ 1048576) (h1 : x.scheme.size ≤ 1048576) (h2 : x.host.size ≤ 1048576) (h3 : x.path.size ≤ 1048576) (hp0 : -9223372036854775808 ≤ x.port) (hp1 : x.port ≤ 9223372036854775807)
    (hb0 : -9223372036854775808 ≤ x.bits) (hb1 : x.bits ≤ 9223372036854775807) (w : World) (hE : Env w) :
    Calls Tryz.prog 18 #[.agg #[.int .i64 x.kind, .string x.text, .int .i64 x.bits, .string x.scheme, .string x.host, .bool x.wild, .int .i64 x.port, .string x.path]] w (RStr (Lz.textT x.src) w) := by
  have cAd := Lib.hid (address_any x h1 h2 h3 hp0 hp1)
  obtain ⟨k, t, b, sc, ho, wd, po, pa⟩ := x
  dsimp only at h0 h1 h2 h3 hp0 hp1 hb0 hb1 cAd
  dsimp only
  have hx0 : Below w.heap.size w (w.alloc (.cells #[.int .i64 k, .string t, .int .i64 b, .string sc, .string ho, .bool wd, .int .i64 po, .string pa] 28)) := (Below.refl _ w).alloc (Nat.le_refl _) _
  have hE0 := hE.below hx0
  have HT : Hid (Lz.textT (SrcB.src ⟨k, t, b, sc, ho, wd, po, pa⟩) = if k = 1 then 39 :: t.data.toList ++ [39]
      else if k = 4 then [39, 110, 111, 110, 99, 101, 45] ++ t.data.toList ++ [39]
      else if k = 5 then [39, 115, 104, 97] ++ Lib.itoa b ++ [45] ++ t.data.toList ++ [39]
      else if k = 2 then sc.data.toList ++ [58] else if k = 3 then Lz.addressT (SrcB.src ⟨k, t, b, sc, ho, wd, po, pa⟩) else []) := rfl
  by_cases e1 : k = 1
  · subst e1
    go_enter Tryz.func18, Tryz.ntmps18
    go_wp2_with fail
    go_ret
    refine ⟨_, rfl, ?_, hx0⟩
    show (_ : ByteArray).data.toList = _
    rw [HT.out]
    simp
  by_cases e4 : k = 4
  · subst e4
    go_enter Tryz.func18, Tryz.ntmps18
    go_wp2_with fail
    go_ret
    refine ⟨_, rfl, ?_, hx0⟩
    show (_ : ByteArray).data.toList = _
    rw [HT.out]
    simp
  by_cases e5 : k = 5
  · subst e5
    go_enter Tryz.func18, Tryz.ntmps18
    go_wp2_with fail
    have hB0 : Boxed w t b (w.alloc (.cells #[.int .i64 5, .string t, .int .i64 b, .string sc, .string ho, .bool wd, .int .i64 po, .string pa] 28)) :=
      ⟨by rw [World.cell?_alloc_mark]; rfl, by rw [World.cell?_alloc_mark]; rfl, hx0, by simp⟩
    have hB0d := hB0.drew
    go_region_with ((go_at_call 14; (refine (Itoa_c b hb0 hb1 _ (hE.below (Boxed.below (by first | exact hB0d | exact hB0)))).mono ?_); (rintro e w9 ⟨u, rfl, hu, hb9⟩); (have hB9 := Boxed.call (by first | exact hB0d | exact hB0) hb9); (have hu21 : u.size ≤ 21 := by rw [← len_of_size u, hu.out]; exact itoa_len hb0 hb1); (have c91 := hB9.1); (have c92 := hB9.2.1)))
    all_goals go_wp2
    all_goals go_ret
    all_goals
      refine ⟨_, rfl, ?_, by first | exact hB9.below | exact hB9.drew.below⟩
      show (_ : ByteArray).data.toList = _
      rw [HT.out]
      simp [hu.out]
  by_cases e2 : k = 2
  · subst e2
    go_enter Tryz.func18, Tryz.ntmps18
    go_wp2_with fail
    go_ret
    refine ⟨_, rfl, ?_, hx0⟩
    show (_ : ByteArray).data.toList = _
    rw [HT.out]
    simp
  by_cases e3 : k = 3
  · subst e3
    go_enter Tryz.func18, Tryz.ntmps18
    go_wp2_with fail
    refine (cAd.out _ hE0).mono ?_
    rintro e w1 ⟨u, rfl, hu, hb2⟩
    go_wp2
    go_ret
    refine ⟨_, rfl, ?_, below_call hx0 hb2⟩
    show (_ : ByteArray).data.toList = _
    rw [HT.out, hu.out]
    rfl
  have b1 := beq_eq_false_iff_ne.2 e1
  have b2 := beq_eq_false_iff_ne.2 e2
  have b3 := beq_eq_false_iff_ne.2 e3
  have b4 := beq_eq_false_iff_ne.2 e4
  have b5 := beq_eq_false_iff_ne.2 e5
  have HZ : Hid (Lz.textT (SrcB.src ⟨k, t, b, sc, ho, wd, po, pa⟩) = []) := by
    show _ = _
    rw [HT.out, if_neg e1, if_neg e4, if_neg e5, if_neg e2, if_neg e3]
  clear e1 e2 e3 e4 e5 HT
  go_enter Tryz.func18, Tryz.ntmps18
  go_wp2_with fail
  go_ret
  refine ⟨_, rfl, ?_, hx0⟩
  show (_ : ByteArray).data.toList = _
  rw [HZ.out]
end Go.Proofs.YtkaejkjheajaaaaGreatDoor
