/-
  Package stack: Remove, Insert at any place (where there is room), Replace.
  Package stack: Insert at any place (where there is room), Replace.
  Package stack: Replace.
  Package arena: Move.
  Package formats: Push.
-/
import Derived.Test.YtnbdalohlldnbaaGreatDoorM10
namespace Go.Proofs.YtnbdalohlldnbaaGreatDoor
open Go.RowKit Bd
attribute [local go_sem ↓] Go.wp_at_zero Go.wp_at_succ
theorem StH.any {own own7 : Nat → Nat} {w w7 : World} {sp ap : Nat} {sv v7 : Value} {s s' : St} (h : StH own w sp ap sv s) (hs7 : SlO own7 6 w7 116 3 v7 s'.length (s'.flatMap orow)) (hf : Fr (fun k => k == 6) own own7 w w7) :
    StH own7 (w7.setCell ⟨sp, 1, none⟩ v7) sp ap v7 s' ∧ Fr cSt own own7 w (w7.setCell ⟨sp, 1, none⟩ v7) := by
  have ho : own7 sp = 3 := by rw [hf.old sp (row_lt h.h)]; exact h.o
  have hA7 := hf.keep h.h (by rw [h.o]; rfl)
  have hf2 : Fr (fun k => k == 3) own7 own7 w7 (w7.setCell ⟨sp, 1, none⟩ v7) := Fr.setCell hf.lbl (p := ⟨sp, 1, none⟩) v7 (by simp [ho])
  refine ⟨⟨ho, row_setC hA7 1 v7, hs7.keep hf2 rfl⟩, (hf.mono (fun x hx => ?_)).trans (hf2.mono (fun x hx => ?_))⟩
  · cases h6 : (x == 6) with
    | false => rfl
    | true => rw [beq_iff_eq.1 h6] at hx; cases hx
  · cases h6 : (x == 3) with
    | false => rfl
    | true => rw [beq_iff_eq.1 h6] at hx; cases hx
set_option maxRecDepth 100000 in
theorem SRemove_any {own : Nat → Nat} {w : World} {sp ap : Nat} {sv : Value} {s : St} (i : Int) (h : StH own w sp ap sv s) (hL : Lbl own w) (hs : s.length ≤ 100000) :
    Calls Tryz.prog 148 #[.pointer (some ⟨sp, 0, none⟩), .int .i64 i] w (fun e w' => RStk own sp ap (.int .i64 (removeS s i).2) (removeS s i).1 w e w' ∧ (0 ≤ indexS s i → RoomW w' sp)) := by
  have cN := Lib.hid (SNone_any h)
  have cI := Lib.hid (SIndex_any i h (by omega))
  have hr : -1 ≤ indexS s i ∧ indexS s i < s.length := ⟨lastIdx_ge _ _, lastIdx_lt _ _⟩
  obtain ⟨R, hR⟩ : ∃ R, R = removeS s i := ⟨_, rfl⟩
  rw [← hR]
  unfold removeS at hR
  generalize indexS s i = k at *
  have HR := Lib.hid hR
  have HS := Lib.hid h
  have HL := Lib.hid hL
  clear h hL hR
  by_cases h0 : k < 0
  · have hk1 : k = -1 := by omega
    subst hk1
    have HQ : Hid (R = (s, 4)) := by show _ = _; rw [HR.out, if_pos h0]
    clear HR hr h0
    go_enter Tryz.func148, Tryz.ntmps148
    go_wp2_with fail
    refine cN.out.mono ?_
    rintro e w1 ⟨rfl, rfl⟩
    go_wp2_with fail
    refine cI.out.mono ?_
    rintro e w2 ⟨rfl, rfl⟩
    clear cN cI
    go_wp2_with fail
    go_ret
    rw [HQ.out]
    exact ⟨⟨rfl, own, sv, HS.out, Fr.refl _ HL.out⟩, fun h => by omega⟩
  · obtain ⟨j, rfl⟩ : ∃ j : Nat, k = (j : Int) := ⟨k.toNat, by omega⟩
    have HQ : Hid (R = (s.eraseIdx j, 0)) := by show _ = _; rw [HR.out, if_neg h0]; rfl
    have hj : j < s.length := by omega
    have HJ := Lib.hid hj
    have i0 : (0 : Int) ≤ (j : Int) := by omega
    have i1 : (j : Int) ≤ 100000 := by omega
    have c1 := rowAt HS.out.h 1 sv rfl
    obtain ⟨av, cv, hsv, _⟩ := HS.out.s.1.form
    rw [hsv] at c1
    have cD := DelS_any HS.out.s HL.out HJ.out (by omega)
    rw [hsv] at cD
    have CD := Lib.hid cD
    have HSV := Lib.hid hsv
    clear HR hr h0 hj hs cD hsv
    go_enter Tryz.func148, Tryz.ntmps148
    go_wp2_with fail
    refine cN.out.mono ?_
    rintro e w1 ⟨rfl, rfl⟩
    go_wp2_with fail
    refine cI.out.mono ?_
    rintro e w2 ⟨rfl, rfl⟩
    clear cN cI
    go_wp2_with fail
    refine CD.out.mono ?_
    rintro e w3 ⟨v7, rfl, hs7, hf7, a8, c8, e8, l8⟩
    obtain ⟨a7, c7, hv7, _⟩ := hs7.1.form
    obtain ⟨n7, hn7⟩ : ∃ n, n = (s.eraseIdx j).length := ⟨_, rfl⟩
    rw [← hn7] at hv7
    subst hv7
    obtain ⟨hS7, hF7⟩ := StH.any HS.out hs7 hf7
    have HRM : Hid (RoomW (w3.setCell ⟨sp, 1, none⟩ (.slice a7 n7 c7)) sp) := Lib.hid ⟨a7, n7, c7, rowAt hS7.h 1 _ rfl, by
      injection e8 with e9 e10 e11
      rw [hn7, e11]; exact l8⟩
    clear e8 l8
    have hrow := hf7.keep HS.out.h (by rw [HS.out.o]; rfl)
    have z1 := frozen_row hrow 1
    have c1' := rowAt hrow 1 sv rfl
    rw [HSV.out] at c1'
    have HA := Lib.hid (⟨hS7, hF7⟩ : _ ∧ _)
    clear hS7 hF7 hs7 hf7 c1 CD hn7 hrow
    go_wp2_with fail
    go_ret
    rw [HQ.out]
    exact ⟨⟨rfl, own, _, HA.out.1, HA.out.2⟩, fun _ => HRM.out⟩
theorem InsSG_any {own : Nat → Nat} {w : World} {v : Value} {s : St} {Bm c k : Nat} {y : OpenL} (h : SlO own 6 w 116 3 v s.length (s.flatMap orow)) (hL : Lbl own w) (hp : w.heap[Bm]? = some (.cells (orow y).toArray 116 (0, 0))) (hob : own Bm = 0) (hs : s.length ≤ 100000) (hk : k ≤ s.length) (hr : k < s.length → RoomV v s.length) :
    Calls Tryz.prog 200 #[v, .int .i64 (k : Int), .slice (some ⟨Bm, 0, none⟩) 1 c] w (RIns own (s.take k ++ y :: s.drop k) w) := by
  rcases Nat.lt_or_ge k s.length with h1 | h1
  · obtain ⟨a, cap, e, hc⟩ := hr h1
    obtain ⟨x, hx⟩ : ∃ x, s[k]? = some x := ⟨_, List.getElem?_eq_getElem h1⟩
    obtain ⟨g, cap', e2, _, _⟩ := h.1.cell (orows_at s k x hx 0 _ rfl)
    rw [e2] at e
    injection e with e3 e4 e5
    subst e5
    subst e2
    refine (InsShS (row := orow y) h hL h1 (by omega) (by omega) (SlO.bounds h).2 rfl (orow_one s) (fun u hu => orow_one [y] u (by simpa using hu)) hp hob).mono ?_
    rintro e w' ⟨rfl, h2, h3⟩
    have e6 : (s.flatMap orow).take (k * 3) ++ (orow y ++ (s.flatMap orow).drop (k * 3)) = (s.take k ++ y :: s.drop k).flatMap orow := by
      rw [orows_take, orows_drop, List.flatMap_append, List.flatMap_cons]
    have e7 : (s.take k ++ y :: s.drop k).length = s.length + 1 := by rw [List.length_append, List.length_cons, List.length_take, List.length_drop]; omega
    rw [e6] at h2
    exact ⟨_, own, rfl, by rw [e7]; exact h2, h3⟩
  · obtain rfl : k = s.length := by omega
    rw [take_end]
    exact InsS_any h hL hp (by omega)
end Go.Proofs.YtnbdalohlldnbaaGreatDoor

namespace Go.Proofs.YtnbdalohlldnbaaGreatDoor
open Go.RowKit Bd
attribute [local go_sem ↓] Go.wp_at_zero Go.wp_at_succ
/-- A store of a struct somewhere in a row. -/
theorem op_store_cells {P : Program} {o : Oper} {a : Act} {w : World} {K : Act → World → Prop} {Q : Exit → Act → World → Prop} (ty : TypeId) (x y : Operand) (ho : o.op = .store ty x y)
    (g off : Nat) (cells : Array Value) (hx : a.eval x = .pointer (some ⟨g, off, none⟩)) (hy : a.eval y = .agg cells) (hi : (P.info? ty).map (·.size) = some cells.size)
    (hc : ∀ j, j < cells.toList.length → (w.cell? ⟨g, off + j, none⟩).isSome = true) (hf : ∀ j, j < cells.toList.length → w.frozen? ⟨g, off + j, none⟩ = false) (h1 : ∀ v ∈ cells.toList, v.oneCell' = true)
    (h : K (a.put o.dst undef) (w.setCells g off cells.toList)) : o.wp P a w K Q := by
  have hst := run_storeCells_cells (P := P) g off cells.toList 0 w (by simpa using hc) (by simpa using hf) h1
  simp only [Nat.add_zero] at hst
  have hsv : (storeVar ty ⟨g, off, none⟩ (.agg cells)).run P w = .ok () (w.setCells g off cells.toList) := by
    cases hq : P.info? ty with
    | none => simp [hq] at hi
    | some i =>
      have hi2 : i.size = cells.size := by simpa [hq] using hi
      simp [storeVar, sizeOf, typeInfo, hq, hi2, Value.cells, hst]
  unfold Oper.wp execOp
  simp only [ho, hx, hy, Instr.storeAt, Instr.sureAddr, Sem.run_bind, Sem.run_pure, Result.andThen_ok, hsv]
  exact h
set_option maxHeartbeats 2000000 in
set_option maxRecDepth 100000 in
theorem InsertG_any {own : Nat → Nat} {w : World} {sp ap : Nat} {sv nv : Value} {s : St} {l : List NB} (k i : Int) (h : StH own w sp ap sv s) (hA : ArH own w ap nv l) (hL : Lbl own w) (hkl : ∀ x ∈ l, x.n.kids.length ≤ 1000000) (hs : s.length ≤ 100000) (hrm : 0 ≤ k → k < s.length → RoomV sv s.length) :
    Calls Tryz.prog 167 #[.pointer (some ⟨sp, 0, none⟩), .int .i64 k, .int .i64 i] w (RStk own sp ap (.int .i64 (insertS (l.map NB.n) s k i).2) (insertS (l.map NB.n) s k i).1 w) := by
  have cE := Lib.hid (element_any i h hA hL hkl)
  have HX : Hid (insertS (l.map NB.n) s k i = if (elementS (l.map NB.n) i).2 != 0 then (s, (elementS (l.map NB.n) i).2) else if k < 0 || (s.length : Int) < k then (s, 2) else if 512 ≤ s.length then (s, 150) else (s.take k.toNat ++ (elementS (l.map NB.n) i).1 :: s.drop k.toNat, 0)) := Lib.hid rfl
  generalize insertS (l.map NB.n) s k i = R at *
  generalize elementS (l.map NB.n) i = el at *
  obtain ⟨⟨on, os, om⟩, oe⟩ := el
  have HS := Lib.hid h
  have HL := Lib.hid hL
  obtain ⟨n, hn⟩ : ∃ n, n = s.length := ⟨_, rfl⟩
  obtain ⟨a, c, hsv, hc⟩ := h.s.1.form
  rw [← hn] at hs hsv hc hrm
  have HN := Lib.hid hn
  have HSV := Lib.hid hsv
  have HRM := Lib.hid hrm
  clear h hA hL hkl hn hrm
  go_enter Tryz.func167, Tryz.ntmps167
  go_wp2_with fail
  refine cE.out.mono ?_
  rintro e w1 ⟨rfl, hb⟩
  have hS1 := HS.out.below hb HL.out
  have hF1 : Fr cSt own own w w1 := Fr.of_below hb HL.out
  dsimp only
  clear cE hb
  go_upto_region 2 with (refine wpList_store_row rfl 116 (.tmp 7) (.tmp 13) rfl w1.heap.size #[.int .i64 on, .int .i64 os, .string om] rfl rfl 116 _ (heap_new _ _) openSize rfl (by simp [Value.oneCell']) ?_)
  obtain ⟨B, hB⟩ : ∃ B, B = w1.heap.size := ⟨_, rfl⟩
  obtain ⟨W2, hW2⟩ : ∃ W, W = (w1.alloc (.cells zOp 116)).setRow w1.heap.size #[.int .i64 on, .int .i64 os, .string om] := ⟨_, rfl⟩
  have hb3 : W2.heap[B]? = some (.cells #[.int .i64 on, .int .i64 os, .string om] 116 (0, 0)) := by rw [hW2, hB]; exact setRow_heap _ _ _ _ _ _ (heap_new _ _)
  have hb2 : Below w1.heap.size w1 W2 := by rw [hW2]; exact below_setRow ((Below.refl _ _).alloc (Nat.le_refl _) _) (Nat.le_refl _)
  have hS := hS1.below hb2 hF1.lbl
  have hF := hF1.trans (Fr.of_below hb2 hF1.lbl)
  have c1 := rowAt hS.h 1 sv rfl
  rw [hsv] at c1
  rw [← hW2, ← hB]
  clear hb2 hS1 hF1 hW2 hB hsv
  obtain ⟨q, hq⟩ : ∃ q, (oe != 0) = q := ⟨_, rfl⟩
  have HX2 := HX.out
  rw [hq] at HX2
  cases q with
  | true =>
    have HQ : Hid (R = (s, oe)) := by show _ = _; rw [HX2]; rfl
    have HSS := Lib.hid hS
    have HFF := Lib.hid hF
    clear HX2 hS hF hb3 HX
    go_wp2_with fail
    go_ret
    rw [HQ.out]
    exact ⟨rfl, own, sv, HSS.out, HFF.out⟩
  | false =>
    rw [if_neg (by decide)] at HX2
    by_cases h0 : k < 0
    · have HQ : Hid (R = (s, 2)) := by show _ = _; rw [HX2, if_pos (by simp [h0])]
      have HSS := Lib.hid hS
      have HFF := Lib.hid hF
      clear HX2 hS hF hb3 HX
      go_wp2_with fail
      go_ret
      rw [HQ.out]
      exact ⟨rfl, own, sv, HSS.out, HFF.out⟩
    · obtain ⟨j, rfl⟩ : ∃ j : Nat, k = (j : Int) := ⟨k.toNat, by omega⟩
      by_cases h1 : n < j
      · have HQ : Hid (R = (s, 2)) := by show _ = _; rw [HX2, if_pos (by rw [← HN.out]; simp; omega)]
        have HSS := Lib.hid hS
        have HFF := Lib.hid hF
        have i1 : (n : Int) < (j : Int) := by omega
        clear HX2 hS hF hb3 HX
        go_wp2_with fail
        go_ret
        rw [HQ.out]
        exact ⟨rfl, own, sv, HSS.out, HFF.out⟩
      · have i1 : (j : Int) ≤ (n : Int) := by omega
        rw [if_neg (by rw [← HN.out]; simp; omega)] at HX2
        by_cases h5 : 512 ≤ n
        · have HQ : Hid (R = (s, 150)) := by show _ = _; rw [HX2, if_pos (by rw [← HN.out]; exact h5)]
          have HSS := Lib.hid hS
          have HFF := Lib.hid hF
          have i5 : (512 : Int) ≤ (n : Int) := by omega
          clear HX2 hS hF hb3 HX
          go_wp2_with fail
          go_ret
          rw [HQ.out]
          exact ⟨rfl, own, sv, HSS.out, HFF.out⟩
        · have HQ : Hid (R = (s.take j ++ ⟨on, os, om⟩ :: s.drop j, 0)) := by show _ = _; rw [HX2, if_neg (by rw [← HN.out]; exact h5)]; rfl
          have i5 : (n : Int) < (512 : Int) := by omega
          have HJ : Hid (j ≤ n) := Lib.hid (by omega)
          have cIns : Hid (∀ (V : World) (own' : Nat → Nat) (Bm c : Nat), SlO own' 6 V 116 3 sv s.length (s.flatMap orow) → Lbl own' V → V.heap[Bm]? = some (.cells (orow ⟨on, os, om⟩).toArray 116 (0, 0)) → own' Bm = 0 →
              Calls Tryz.prog 200 #[sv, .int .i64 (j : Int), .slice (some ⟨Bm, 0, none⟩) 1 c] V (RIns own' (s.take j ++ ⟨on, os, om⟩ :: s.drop j) V)) := Lib.hid (fun V own' Bm c h1 h2 h3 h4 => InsSG_any h1 h2 h3 h4 (by rw [← HN.out]; exact hs) (by rw [← HN.out]; exact HJ.out) (fun hlt => by rw [← HN.out]; exact HRM.out (by omega) (by rw [← HN.out] at hlt; omega)))
          generalize s.take j ++ ⟨on, os, om⟩ :: s.drop j = s2 at *
          clear HX2 HX
          go_upto_region 8 with fail
          clear c1
          go_cut [46] (fun _ wx => ∃ own7 v7, StH own7 wx sp ap v7 s2 ∧ Fr cSt own own7 w wx)
          case first =>
            have hd := (Below.refl W2.heap.size W2).drew
            replace hS := hS.below hd hF.lbl
            replace hb3 := (hd.block _ (row_lt hb3)).trans hb3
            replace hF := hF.trans (Fr.of_below hd hF.lbl)
            clear hd
            refine wp_region_held_drew (S := fun _ => True) (by kernel_rfl) (trivial) (fun hHeld => ?_)
            generalize W2.drew = V at hHeld hS hF hb3 ⊢
            refine TkH 0 38 ?_; refine TkH 1 39 ?_; refine TkH 2 40 ?_; refine TkH 3 41 ?_; refine TkH 5 43 ?_
            (try simp only [Act.put]); (try simp only [List.setIfInBounds_toArray]); (try simp only [List.set_cons_zero, List.set_cons_succ])
            refine wpAnyH_ready (rs := [4, 6]) (by decide +kernel) (by simp) ?_
            refine AllReadyH.cons rfl (fun K hK => ?_) (AllReadyH.cons rfl (fun K hK => ?_) AllReadyH.nil)
            have c1 := rowAt hS.h 1 sv rfl
            go_simp
            refine hK.out _ _ trivial (fun hSx => ?_)
            clear hSx hK K
            clear c1
            (try simp only [Act.put]); (try simp only [List.setIfInBounds_toArray]); (try simp only [List.set_cons_zero, List.set_cons_succ])
            rotate_left
            rw [if_pos (by rfl)]
            refine wp_load_row 116 (.tmp 7) rfl B rfl 116 _ (0, 0) _ hb3 Tryz.underlying116 rfl openSize ?_
            refine hK.out _ _ trivial (fun hSx => ?_)
            clear hSx hK K
            (try simp only [Act.put]); (try simp only [List.setIfInBounds_toArray]); (try simp only [List.set_cons_zero, List.set_cons_succ])
            rotate_left
            all_goals first
              | (refine wpAnyH_ready (rs := [6]) (by decide +kernel) (by simp) ?_
                 refine AllReadyH.cons rfl (fun K hK => ?_) AllReadyH.nil
                 rw [if_pos (by rfl)]
                 refine wp_load_row 116 (.tmp 7) rfl B rfl 116 _ (0, 0) _ hb3 Tryz.underlying116 rfl openSize ?_
                 refine hK.out _ _ trivial (fun hSx => ?_)
                 clear hSx hK K
                 (try simp only [Act.put]); (try simp only [List.setIfInBounds_toArray]); (try simp only [List.set_cons_zero, List.set_cons_succ]))
              | skip
            all_goals first
              | (refine wpAnyH_ready (rs := [4, 7]) (by decide +kernel) (by simp) ?_
                 refine AllReadyH.cons rfl (fun K hK => ?_) (AllReadyH.cons rfl (fun K hK => ?_) AllReadyH.nil)
                 have c1 := rowAt hS.h 1 sv rfl
                 go_simp
                 refine hK.out _ _ trivial (fun hSx => ?_)
                 clear hSx hK K
                 clear c1
                 (try simp only [Act.put]); (try simp only [List.setIfInBounds_toArray]); (try simp only [List.set_cons_zero, List.set_cons_succ])
                 rotate_left
                 go_simp
                 obtain ⟨V9, hV9⟩ : ∃ U, U = V.alloc (.cells #[.int .i64 on, .int .i64 os, .string om] 116) := ⟨_, rfl⟩
                 rw [← hV9]
                 have hb9 : Below V.heap.size V V9 := by rw [hV9]; exact (Below.refl _ _).alloc (Nat.le_refl _) _
                 have hc6 : V9.heap[V.heap.size]? = some (.cells #[.int .i64 on, .int .i64 os, .string om] 116 (0, 0)) := by rw [hV9]; exact heap_new _ _
                 have hob : own V.heap.size = 0 := hF.lbl _ (Nat.le_refl _)
                 replace hS := hS.below hb9 hF.lbl
                 replace hF := hF.trans (Fr.of_below hb9 hF.lbl)
                 refine hK.out _ _ trivial (fun hSx => ?_)
                 clear hSx hK K
                 clear hb9 hV9 hb3
                 obtain ⟨g6, hgg⟩ : ∃ z, z = V.heap.size := ⟨_, rfl⟩
                 rw [← hgg] at hc6 hob ⊢
                 clear hgg
                 clear V
                 obtain ⟨V, rfl⟩ : ∃ U, U = V9 := ⟨_, rfl⟩
                 (try simp only [Act.put]); (try simp only [List.setIfInBounds_toArray]); (try simp only [List.set_cons_zero, List.set_cons_succ])
                 rotate_left)
              | skip
            all_goals first
              | (refine wpAnyH_ready (rs := [7]) (by decide +kernel) (by simp) ?_
                 refine AllReadyH.cons rfl (fun K hK => ?_) AllReadyH.nil
                 go_simp
                 obtain ⟨V9, hV9⟩ : ∃ U, U = V.alloc (.cells #[.int .i64 on, .int .i64 os, .string om] 116) := ⟨_, rfl⟩
                 rw [← hV9]
                 have hb9 : Below V.heap.size V V9 := by rw [hV9]; exact (Below.refl _ _).alloc (Nat.le_refl _) _
                 have hc6 : V9.heap[V.heap.size]? = some (.cells #[.int .i64 on, .int .i64 os, .string om] 116 (0, 0)) := by rw [hV9]; exact heap_new _ _
                 have hob : own V.heap.size = 0 := hF.lbl _ (Nat.le_refl _)
                 replace hS := hS.below hb9 hF.lbl
                 replace hF := hF.trans (Fr.of_below hb9 hF.lbl)
                 refine hK.out _ _ trivial (fun hSx => ?_)
                 clear hSx hK K
                 clear hb9 hV9 hb3
                 obtain ⟨g6, hgg⟩ : ∃ z, z = V.heap.size := ⟨_, rfl⟩
                 rw [← hgg] at hc6 hob ⊢
                 clear hgg
                 clear V
                 obtain ⟨V, rfl⟩ : ∃ U, U = V9 := ⟨_, rfl⟩
                 (try simp only [Act.put]); (try simp only [List.setIfInBounds_toArray]); (try simp only [List.set_cons_zero, List.set_cons_succ]))
              | skip
            all_goals first
              | (refine wpAnyH_ready (rs := [4]) (by decide +kernel) (by simp) ?_
                 refine AllReadyH.cons rfl (fun K hK => ?_) AllReadyH.nil
                 have c1 := rowAt hS.h 1 sv rfl
                 go_simp
                 refine hK.out _ _ trivial (fun hSx => ?_)
                 clear hSx hK K
                 clear c1
                 (try simp only [Act.put]); (try simp only [List.setIfInBounds_toArray]); (try simp only [List.set_cons_zero, List.set_cons_succ]))
              | skip
            all_goals (
              refine wpAnyH_ready (rs := [8]) (by decide +kernel) (by simp) ?_
              refine AllReadyH.cons rfl (fun K hK => ?_) AllReadyH.nil
              go_simp
              go_at_call 200
              refine (cIns.out V own g6 1 hS.s hF.lbl hc6 hob).mono ?_
              rintro e V9 ⟨v7, own7, rfl, hs7, hf7⟩
              obtain ⟨a7, c7, hv7, _⟩ := hs7.1.form
              obtain ⟨n7, hn7⟩ : ∃ n, n = s2.length := ⟨_, rfl⟩
              rw [← hn7] at hv7
              subst hv7
              clear hn7
              obtain ⟨hS7, hF7⟩ := StH.any hS hs7 hf7
              replace hF := hF.trans hF7
              have c1 := rowAt (hf7.keep hS.h (by rw [hS.o]; rfl)) 1 sv rfl
              have z1 := frozen_row (hf7.keep hS.h (by rw [hS.o]; rfl)) 1
              refine hK.out _ _ trivial (fun hSx => ?_)
              clear hSx hK K
              clear hs7 hf7 hF7 hS hc6 hob
              clear V
              obtain ⟨V, rfl⟩ : ∃ U, U = V9 := ⟨_, rfl⟩
              (try simp only [Act.put]); (try simp only [List.setIfInBounds_toArray]); (try simp only [List.set_cons_zero, List.set_cons_succ])
              focus (refine TkH 9 47 ?_; refine TkH 10 48 ?_)
              (try simp only [Act.put]); (try simp only [List.setIfInBounds_toArray]); (try simp only [List.set_cons_zero, List.set_cons_succ]))
            all_goals (
              refine wpAnyH_ready (rs := [11]) (by decide +kernel) (by simp) ?_
              refine AllReadyH.cons rfl (fun K hK => ?_) AllReadyH.nil
              go_simp
              generalize hV9 : V.setCell ⟨sp, 1, none⟩ (.slice a7 n7 c7) = V9 at *
              refine hK.out _ _ trivial (fun hSx => ?_)
              clear hSx hK K
              clear hV9 c1 z1
              clear V
              obtain ⟨V, rfl⟩ : ∃ U, U = V9 := ⟨_, rfl⟩
              (try simp only [Act.put]); (try simp only [List.setIfInBounds_toArray]); (try simp only [List.set_cons_zero, List.set_cons_succ]))
            all_goals (
              refine wpAnyH_done (by kernel_rfl) ?_ _
              go_wp2_with fail
              go_meet
              exact ⟨own7, _, hS7, hF⟩)

          case rest =>
          obtain ⟨own7, v7, hS7, hF7⟩ := hcut
          have HA := Lib.hid (⟨hS7, hF7⟩ : _ ∧ _)
          clear hS7 hF7 hS hF hb3
          go_wp2_with fail
          go_ret
          rw [HQ.out]
          exact ⟨rfl, own7, v7, HA.out.1, HA.out.2⟩
end Go.Proofs.YtnbdalohlldnbaaGreatDoor

namespace Go.Proofs.YtnbdalohlldnbaaGreatDoor
open Go.RowKit Bd
attribute [local go_sem ↓] Go.wp_at_zero Go.wp_at_succ
theorem orows_set (s : St) (j : Nat) (y : OpenL) (hj : j < s.length) : (s.flatMap orow).take (j * 3) ++ orow y ++ (s.flatMap orow).drop (j * 3 + (orow y).length) = (s.set j y).flatMap orow := by
  rw [orows_take, show j * 3 + (orow y).length = (j + 1) * 3 by show _ + 3 = _; omega, orows_drop, List.set_eq_take_append_cons_drop, if_pos hj, List.flatMap_append, List.flatMap_cons, List.append_assoc]
theorem StH.setAt {own : Nat → Nat} {w : World} {sp ap g n cap : Nat} {s : St} (h : StH own w sp ap (.slice (some ⟨g, 0, none⟩) n cap) s) (hL : Lbl own w) (j : Nat) (hj : j < s.length) (y : OpenL) :
    StH own (w.setCells g (j * 3) (orow y)) sp ap (.slice (some ⟨g, 0, none⟩) n cap) (s.set j y) ∧ Fr cSt own own w (w.setCells g (j * 3) (orow y)) := by
  have hg6 : own g = 6 := (h.s.2 g rfl).1
  have hn : n = s.length := by
    obtain ⟨a, c, e, _⟩ := h.s.1.form
    injection e with _ e2 _
  subst hn
  have h2 := SlO.setCells (orow y) (j * 3) w _ h.s (by rw [orows_len]; show j * 3 + 3 ≤ _; omega)
  rw [orows_set s j y hj] at h2
  have hf : Fr (fun k => k == 6) own own w (w.setCells g (j * 3) (orow y)) := Fr.setCells (c := fun k => k == 6) (g := g) (by simp [hg6]) _ _ w hL
  refine ⟨⟨h.o, hf.keep h.h (by rw [h.o]; rfl), by rw [List.length_set]; exact h2⟩, hf.mono (fun x hx => ?_)⟩
  cases h6 : (x == 6) with
  | false => rfl
  | true => rw [beq_iff_eq.1 h6] at hx; cases hx
set_option maxHeartbeats 2000000 in
set_option maxRecDepth 100000 in
theorem SReplace_any {own : Nat → Nat} {w : World} {sp ap : Nat} {sv nv : Value} {s : St} {l : List NB} (k i : Int) (h : StH own w sp ap sv s) (hA : ArH own w ap nv l) (hL : Lbl own w) (hkl : ∀ x ∈ l, x.n.kids.length ≤ 1000000) :
    Calls Tryz.prog 228 #[.pointer (some ⟨sp, 0, none⟩), .int .i64 k, .int .i64 i] w (RStk own sp ap (.int .i64 (replaceS (l.map NB.n) s k i).2) (replaceS (l.map NB.n) s k i).1 w) := by
  have cE := Lib.hid (element_any i h hA hL hkl)
  have HX : Hid (replaceS (l.map NB.n) s k i = if (elementS (l.map NB.n) i).2 != 0 then (s, (elementS (l.map NB.n) i).2) else if k < 0 || (s.length : Int) ≤ k then (s, 2) else (s.set k.toNat (elementS (l.map NB.n) i).1, 0)) := Lib.hid rfl
  generalize replaceS (l.map NB.n) s k i = R at *
  generalize elementS (l.map NB.n) i = el at *
  obtain ⟨⟨on, os, om⟩, oe⟩ := el
  have HS := Lib.hid h
  have HL := Lib.hid hL
  obtain ⟨n, hn⟩ : ∃ n, n = s.length := ⟨_, rfl⟩
  obtain ⟨a, c, hsv, hc⟩ := h.s.1.form
  rw [← hn] at hsv hc
  have HN := Lib.hid hn
  have HSV := Lib.hid hsv
  clear h hA hL hkl hn
  go_enter Tryz.func228, Tryz.ntmps228
  go_wp2_with fail
  refine cE.out.mono ?_
  rintro e w1 ⟨rfl, hb⟩
  have hS1 := HS.out.below hb HL.out
  have hF1 : Fr cSt own own w w1 := Fr.of_below hb HL.out
  dsimp only
  clear cE hb
  go_upto_region 2 with (refine wpList_store_row rfl 116 (.tmp 7) (.tmp 13) rfl w1.heap.size #[.int .i64 on, .int .i64 os, .string om] rfl rfl 116 _ (heap_new _ _) openSize rfl (by simp [Value.oneCell']) ?_)
  obtain ⟨B, hB⟩ : ∃ B, B = w1.heap.size := ⟨_, rfl⟩
  obtain ⟨W2, hW2⟩ : ∃ W, W = (w1.alloc (.cells zOp 116)).setRow w1.heap.size #[.int .i64 on, .int .i64 os, .string om] := ⟨_, rfl⟩
  have hb3 : W2.heap[B]? = some (.cells #[.int .i64 on, .int .i64 os, .string om] 116 (0, 0)) := by rw [hW2, hB]; exact setRow_heap _ _ _ _ _ _ (heap_new _ _)
  have hb2 : Below w1.heap.size w1 W2 := by rw [hW2]; exact below_setRow ((Below.refl _ _).alloc (Nat.le_refl _) _) (Nat.le_refl _)
  have hS := hS1.below hb2 hF1.lbl
  have hF := hF1.trans (Fr.of_below hb2 hF1.lbl)
  have c1 := rowAt hS.h 1 sv rfl
  rw [hsv] at c1
  rw [← hW2, ← hB]
  clear hb2 hS1 hF1 hW2 hB hsv
  obtain ⟨q, hq⟩ : ∃ q, (oe != 0) = q := ⟨_, rfl⟩
  have HX2 := HX.out
  rw [hq] at HX2
  cases q with
  | true =>
    have HQ : Hid (R = (s, oe)) := by show _ = _; rw [HX2]; rfl
    have HSS := Lib.hid hS
    have HFF := Lib.hid hF
    clear HX2 hS hF hb3 HX
    go_wp2_with fail
    go_ret
    rw [HQ.out]
    exact ⟨rfl, own, sv, HSS.out, HFF.out⟩
  | false =>
    rw [if_neg (by decide)] at HX2
    by_cases h0 : k < 0
    · have HQ : Hid (R = (s, 2)) := by show _ = _; rw [HX2, if_pos (by simp [h0])]
      have HSS := Lib.hid hS
      have HFF := Lib.hid hF
      clear HX2 hS hF hb3 HX
      go_wp2_with fail
      go_ret
      rw [HQ.out]
      exact ⟨rfl, own, sv, HSS.out, HFF.out⟩
    · obtain ⟨j, rfl⟩ : ∃ j : Nat, k = (j : Int) := ⟨k.toNat, by omega⟩
      by_cases h1 : n ≤ j
      · have HQ : Hid (R = (s, 2)) := by show _ = _; rw [HX2, if_pos (by rw [← HN.out]; simp; omega)]
        have HSS := Lib.hid hS
        have HFF := Lib.hid hF
        have i1 : (n : Int) ≤ (j : Int) := by omega
        clear HX2 hS hF hb3 HX
        go_wp2_with fail
        go_ret
        rw [HQ.out]
        exact ⟨rfl, own, sv, HSS.out, HFF.out⟩
      · have i1 : (j : Int) < (n : Int) := by omega
        rw [if_neg (by rw [← HN.out]; simp; omega)] at HX2
        have HQ : Hid (R = (s.set j ⟨on, os, om⟩, 0)) := HX2
        have HJ : Hid (j < s.length) := Lib.hid (by rw [← HN.out]; omega)
        obtain ⟨x, hx⟩ : ∃ x, s[j]? = some x := ⟨_, List.getElem?_eq_getElem HJ.out⟩
        obtain ⟨g, cap, e1, _, _⟩ := StH.cells hS hx
        have hsv := HSV.out
        rw [e1] at hsv
        injection hsv with e3 e4 e5
        subst e5
        subst e3
        clear e4
        have e6 : sv = .slice (some ⟨g, 0, none⟩) n cap := by rw [e1, HN.out]
        subst e6
        have i2 : (0 : Int) ≤ (j : Int) := by omega
        have i3 : ¬ (n ≤ j) := h1
        have i4 : j < n := by omega
        clear HX2 HX hx e1 HSV h0
        go_upto_region 6 with fail
        have hd := (Below.refl W2.heap.size W2).drew
        replace hS := hS.below hd hF.lbl
        replace hb3 := (hd.block _ (row_lt hb3)).trans hb3
        replace hF := hF.trans (Fr.of_below hd hF.lbl)
        clear hd
        have hsr : Hid (∀ V, StH own V sp ap (.slice (some ⟨g, 0, none⟩) n cap) s → ∀ o, o < 3 → (V.cell? ⟨g, j * 3 + o, none⟩).isSome = true ∧ V.frozen? ⟨g, j * 3 + o, none⟩ = false) := Lib.hid (fun V hV o ho => by
          have hs3 := hV.s
          rw [← HN.out] at hs3
          exact SlO.cells_ok hs3 _ (by have := (SlO.bounds hs3).1; omega))
        refine wp_region_held_drew (S := fun U => U.cell? ⟨sp, 1, none⟩ = some (.slice (some ⟨g, 0, none⟩) n cap)) (by kernel_rfl) (rowAt hS.h 1 _ rfl) (fun hHeld => ?_)
        generalize W2.drew = V at hHeld hS hF hb3 ⊢
        refine TkH 0 31 ?_; refine TkH 1 32 ?_; refine TkH 2 33 ?_
        (try simp only [Act.put]); (try simp only [List.setIfInBounds_toArray]); (try simp only [List.set_cons_zero, List.set_cons_succ])
        refine TkD 3 (some 34) (v := ?_) rfl rfl ?_ ?_; rotate_left
        · (intro W hSw; (try dsimp only at hSw); have c1' := hSw; go_simp; try with_reducible rfl)
        (try simp only [Act.put]); (try simp only [List.setIfInBounds_toArray]); (try simp only [List.set_cons_zero, List.set_cons_succ])
        refine TkH 4 35 ?_
        (try simp only [Act.put]); (try simp only [List.setIfInBounds_toArray]); (try simp only [List.set_cons_zero, List.set_cons_succ])
        refine wpAnyH_ready (rs := [5]) (by kernel_rfl) (by simp) ?_
        refine AllReadyH.cons rfl (fun K hK => ?_) AllReadyH.nil
        rw [if_pos (by rfl)]
        refine wp_load_row 116 (.tmp 7) rfl B rfl 116 _ (0, 0) _ hb3 Tryz.underlying116 rfl openSize ?_
        refine hK.out _ _ hHeld (fun hSx => ?_)
        clear hSx hK K
        (try simp only [Act.put]); (try simp only [List.setIfInBounds_toArray]); (try simp only [List.set_cons_zero, List.set_cons_succ])
        focus (refine TkH 6 37 ?_)
        (try simp only [Act.put]); (try simp only [List.setIfInBounds_toArray]); (try simp only [List.set_cons_zero, List.set_cons_succ])
        refine wpAnyH_ready (rs := [7]) (by kernel_rfl) (by simp) ?_
        refine AllReadyH.cons rfl (fun K hK => ?_) AllReadyH.nil
        rw [if_pos (by rfl)]
        have hok := hsr.out V hS
        refine op_store_cells 116 (.tmp 37) (.tmp 36) rfl g (j * 3) #[.int .i64 on, .int .i64 os, .string om] rfl rfl openSize (fun o ho => (hok o (by simpa using ho)).1) (fun o ho => (hok o (by simpa using ho)).2) (orow_one [⟨on, os, om⟩]) ?_
        obtain ⟨hS9, hF9⟩ := StH.setAt hS hF.lbl j HJ.out ⟨on, os, om⟩
        replace hF := hF.trans hF9
        have hS8 := rowAt hS9.h 1 (.slice (some ⟨g, 0, none⟩) n cap) rfl
        show K _ (V.setCells g (j * 3) (orow ⟨on, os, om⟩))
        generalize hV9 : V.setCells g (j * 3) (orow ⟨on, os, om⟩) = V9 at *
        clear hHeld
        refine hK.out _ _ hS8 (fun hHeld => ?_)
        clear hK K hV9 hF9 hS hok hS8 hb3
        clear V
        obtain ⟨V, rfl⟩ : ∃ U, U = V9 := ⟨_, rfl⟩
        (try simp only [Act.put]); (try simp only [List.setIfInBounds_toArray]); (try simp only [List.set_cons_zero, List.set_cons_succ])
        refine wpAnyH_done (by kernel_rfl) ?_ _
        have HA := Lib.hid (⟨hS9, hF⟩ : _ ∧ _)
        clear hS9 hF hHeld c1 hsr
        go_wp2_with fail
        go_ret
        rw [HQ.out]
        exact ⟨rfl, own, _, HA.out.1, HA.out.2⟩

end Go.Proofs.YtnbdalohlldnbaaGreatDoor

namespace Go.Proofs.YtnbdalohlldnbaaGreatDoor
open Go.RowKit Bd
attribute [local go_sem ↓] Go.wp_at_zero Go.wp_at_succ
/-- Where Move's loop stands: the kids from j on are still to go. -/
structure MvAt (own : Nat → Nat) (w : World) (ap : Nat) (nv : Value) (N t f : Nat) (K : List Int) (RA : Ar) (j : Nat) (wr : World) : Prop where
  ex : ∃ own' l', ArH own' wr ap nv l' ∧ Fr cAr own own' w wr ∧ MvOk t f (l'.map NB.n) (K.drop j) ∧ (K.drop j).foldl (fun a i => hang a (t : Int) (-1) i) (l'.map NB.n) = RA ∧ l'.length = N
set_option maxHeartbeats 2000000 in
set_option maxRecDepth 100000 in
theorem Move_any {own : Nat → Nat} {w : World} {ap : Nat} {nv : Value} {l : List NB} (f t : Int) (h : ArH own w ap nv l) (hL : Lbl own w) (ha : ArOk (l.map NB.n)) (hl : l.length ≤ 90000) :
    Calls Tryz.prog 229 #[.pointer (some ⟨ap, 0, none⟩), .int .i64 f, .int .i64 t] w (RAct own ap (Bd.move (l.map NB.n) f t) w) := by
  have hg := goodA_of ha hl
  have cN := Lib.hid (none_any h hg.ne)
  have cHf := Lib.hid (holds_any f h)
  have cHt := Lib.hid (holds_any t h)
  have cAb : Hid (has (l.map NB.n) t = true → Calls Tryz.prog 129 #[.pointer (some ⟨ap, 0, none⟩), .int .i64 f, .int .i64 t] w (RB (above (l.map NB.n) f t) w)) := Lib.hid (fun hp => above_any f t h (hg.up t hp) (by omega))
  have HS : Hid (RAct own ap ((l.map NB.n), 2) w (.returned (.int .i64 2)) w) := Lib.hid ⟨rfl, own, nv, l, rfl, h, Fr.refl _ hL⟩
  obtain ⟨r, hr⟩ : ∃ r, r = Bd.move (l.map NB.n) f t := ⟨_, rfl⟩
  rw [← hr]
  unfold Bd.move at hr
  rw [show (l.map NB.n).isEmpty = false by cases hh : l with | nil => exact absurd hh hg.ne | cons a b => rfl] at hr
  have hho : ∀ p, holds (l.map NB.n) p = true → has (l.map NB.n) p = true := fun p h => by unfold holds at h; rw [Bool.and_eq_true] at h; exact h.1
  cases q1 : holds (l.map NB.n) f with
  | false =>
    rw [q1] at cHf hr
    have HQ : Hid (r = (l.map NB.n, 2)) := by show _ = _; rw [hr]; simp
    clear hr cAb cHt h hL ha hg hho q1
    go_enter Tryz.func229, Tryz.ntmps229
    go_wp2_with fail
    refine cN.out.mono ?_
    rintro e w1 ⟨rfl, rfl⟩
    go_wp2_with fail
    refine cHf.out.mono ?_
    rintro e w1 ⟨rfl, rfl⟩
    go_wp2_with fail
    go_ret
    rw [HQ.out]; exact HS.out
  | true =>
  cases q2 : holds (l.map NB.n) t with
  | false =>
    rw [q1] at cHf hr
    rw [q2] at cHt hr
    have HQ : Hid (r = (l.map NB.n, 2)) := by show _ = _; rw [hr]; simp
    clear hr cAb h hL ha hg hho q1 q2
    go_enter Tryz.func229, Tryz.ntmps229
    go_wp2_with fail
    refine cN.out.mono ?_
    rintro e w1 ⟨rfl, rfl⟩
    go_wp2_with fail
    refine cHf.out.mono ?_
    rintro e w1 ⟨rfl, rfl⟩
    go_wp2_with fail
    refine cHt.out.mono ?_
    rintro e w1 ⟨rfl, rfl⟩
    go_wp2_with fail
    go_ret
    rw [HQ.out]; exact HS.out
  | true =>
  have cAb1 := Lib.hid (cAb.out (hho t q2))
  rw [q1] at cHf hr
  rw [q2] at cHt hr
  cases q3 : above (l.map NB.n) f t with
  | true =>
    rw [q3] at cAb1 hr
    have HQ : Hid (r = (l.map NB.n, 2)) := by show _ = _; rw [hr]; simp
    clear hr cAb h hL ha hg hho q1 q2 q3
    go_enter Tryz.func229, Tryz.ntmps229
    go_wp2_with fail
    refine cN.out.mono ?_
    rintro e w1 ⟨rfl, rfl⟩
    go_wp2_with fail
    refine cHf.out.mono ?_
    rintro e w1 ⟨rfl, rfl⟩
    go_wp2_with fail
    refine cHt.out.mono ?_
    rintro e w1 ⟨rfl, rfl⟩
    go_wp2_with fail
    refine cAb1.out.mono ?_
    rintro e w1 ⟨rfl, rfl⟩
    go_wp2_with fail
    go_ret
    rw [HQ.out]; exact HS.out
  | false =>
    rw [q3] at cAb1 hr
    obtain ⟨F, x, rfl, hx⟩ := has_ex (hho f q1)
    obtain ⟨T, z, rfl, hz⟩ := has_ex (hho t q2)
    have hFx : (l.map NB.n)[F]? = some x.n := by rw [List.getElem?_map, hx]; rfl
    have hTz : (l.map NB.n)[T]? = some z.n := by rw [List.getElem?_map, hz]; rfl
    obtain ⟨RA, hRA⟩ : ∃ RA, RA = x.n.kids.foldl (fun a i => hang a (T : Int) (-1) i) (l.map NB.n) := ⟨_, rfl⟩
    have HQ : Hid (r = (RA, 0)) := by show _ = _; rw [hr, hRA, rd_nat hFx]; simp
    have HM : Hid (MvOk T F (l.map NB.n) x.n.kids) := Lib.hid ⟨ha, ha.nod F _ hFx, ha.kid F _ hFx, ⟨_, hTz⟩, q3⟩
    have HRA := Lib.hid hRA.symm
    have hkl := ha.kids_len hFx
    rw [List.length_map] at hkl
    have hI : IntsAt w x.kv x.n.kids := SlO.ints (h.k F x hx)
    obtain ⟨ka, kc, hkv, _⟩ := id hI
    obtain ⟨g, cap, hnv, hcap, _, _, hc⟩ := h.cells hx
    obtain ⟨_, _, _, _, _, _, _, _, k8, _, _⟩ := row11 hc
    have c0 := rowAt h.h 0 nv rfl
    rw [hnv] at c0
    have cC := Lib.hid (CloneI_any x.kv x.n.kids w hI (by omega))
    rw [hkv] at k8 cC
    have hlt := (List.getElem?_eq_some_iff.1 hx).1
    obtain ⟨K, hK⟩ : ∃ K, K = x.n.kids := ⟨_, rfl⟩
    rw [← hK] at HM HRA cC hkl k8
    have HH := Lib.hid h
    have HL := Lib.hid hL
    have HC := Lib.hid hcap
    obtain ⟨N, hN⟩ : ∃ N, N = l.length := ⟨_, rfl⟩
    rw [← hN] at c0 hlt hkl hl hcap
    have HN := Lib.hid hN
    have i0 : (0 : Int) ≤ (F : Int) := by omega
    have i1 : (F : Int) < (N : Int) := by omega
    have hkl9 : K.length ≤ 90000 := by omega
    have HKL := Lib.hid hkl9
    have HNL := Lib.hid hl
    clear hr cAb h hL ha hg hho q1 q2 q3 hx hz hFx hTz hRA hI hkv hnv hc hK hN hkl hl hcap HS hkl9
    go_enter Tryz.func229, Tryz.ntmps229
    go_wp2_with fail
    refine cN.out.mono ?_
    rintro e w1 ⟨rfl, rfl⟩
    go_wp2_with fail
    refine cHf.out.mono ?_
    rintro e w1 ⟨rfl, rfl⟩
    go_wp2_with fail
    refine cHt.out.mono ?_
    rintro e w1 ⟨rfl, rfl⟩
    go_wp2_with fail
    refine cAb1.out.mono ?_
    rintro e w1 ⟨rfl, rfl⟩
    go_wp2_with fail
    refine cC.out.mono ?_
    rintro e w2 ⟨a2, n2, c2, rfl, hI2, hnew, hb2⟩
    have hF2 : Fr cAr own own w w2 := Fr.of_below hb2 HL.out
    have HI : Hid (∀ W own', Fr cAr own own' w2 W → IntsAt W (.slice a2 n2 c2) K) := Lib.hid (fun W own' hW => IntsAt.keep3 hI2 (fun g off n c e hne => by
      injection e with e1 e2 e3
      refine hW.block g (IntsAt.lt hI2 (by rw [e1]) hne) ?_
      rw [HL.out g (hnew g off e1)]; rfl))
    obtain ⟨a3, c3, e3, _⟩ := id hI2
    injection e3 with e4 e5 e6
    subst e5
    have HS0 : Hid (MvAt own w2 ap nv N T F K RA 0 w2) := Lib.hid ⟨own, l, HH.out.below hb2 HL.out, Fr.refl _ hF2.lbl, HM.out, HRA.out, HN.out.symm⟩
    have HF2 := Lib.hid hF2
    clear cN cHf cHt cAb1 cC hI2 hnew hb2 e4 e6 HM HRA HH hF2 k8 c0
    by_cases hKe : K = []
    · have HX : Hid (RAct own ap (RA, 0) w (.returned (.int .i64 0)) w2) := Lib.hid (by
        obtain ⟨own', l', hA, hF, _, hfold, _⟩ := HS0.out.ex
        rw [hKe] at hfold
        exact ⟨rfl, own', nv, l', hfold, hA, HF2.out.trans hF⟩)
      subst hKe
      clear HS0 HI HKL
      go_wp2_with fail
      go_loopw [8, 39] (fun _ y wr => y = .int .i64 0 ∧ wr = w2) (fun _ y _ => 0)
      case atStart => exact ⟨rfl, rfl⟩
      case round =>
      obtain ⟨rfl, rfl⟩ := hrel
      go_wp2_with fail
      go_ret
      rw [HQ.out]
      exact HX.out
    obtain ⟨k0, hk0⟩ : ∃ k, K[0]? = some k := ⟨_, List.getElem?_eq_getElem (List.length_pos_iff.2 hKe)⟩
    obtain ⟨a4, c4, e4, hcell⟩ := HI.out w2 own (Fr.refl _ HF2.out.lbl)
    obtain ⟨g4, off4, e5, _⟩ := hcell 0 k0 hk0
    injection e4 with e6 e7 e8
    rw [e5] at e6
    subst e6
    clear hk0 hcell e5 e8 e7 hKe
    go_wp2_with fail
    go_loopw [8, 39] (fun _ y wr => ∃ j : Nat, y = .int .i64 (j : Int) ∧ j ≤ K.length ∧ Hid (MvAt own w2 ap nv N T F K RA j wr)) (fun _ y _ => K.length - (intOf y).toNat)
    case atStart => exact ⟨0, rfl, Nat.zero_le _, HS0⟩
    case round =>
    obtain ⟨j, rfl, hj, hat⟩ := hrel
    clear HS0
    obtain ⟨own', l', hA, hF, hM, hfold, hlen⟩ := hat.out.ex
    cases hk : K[j]? with
    | none =>
      have hge : K.length ≤ j := List.getElem?_eq_none_iff.1 hk
      rw [List.drop_eq_nil_of_le hge] at hfold
      have hlt2 : ¬ ((j : Int) < (K.length : Int)) := by omega
      have HX : Hid (RAct own ap (RA, 0) w (.returned (.int .i64 0)) wr) := Lib.hid ⟨rfl, own', nv, l', hfold, hA, HF2.out.trans hF⟩
      clear hat hA hF hM hfold hk hge
      go_wp2_with fail
      go_ret
      rw [HQ.out]
      exact HX.out
    | some k =>
      obtain ⟨hjl, hke⟩ := List.getElem?_eq_some_iff.1 hk
      have hdrop : K.drop j = k :: K.drop (j + 1) := by rw [List.drop_eq_getElem_cons hjl, hke]
      rw [hdrop] at hM hfold
      rw [List.foldl_cons] at hfold
      have hlt2 : ((j : Int) < (K.length : Int)) := by omega
      obtain ⟨c, y, rfl, hc, hM2⟩ := hM.step
      obtain ⟨z2, hz2⟩ := hM.tt
      have hcl : c < l'.length := by have := (List.getElem?_eq_some_iff.1 hc).1; rwa [List.length_map] at this
      have htl : T < l'.length := by have := (List.getElem?_eq_some_iff.1 hz2).1; rwa [List.length_map] at this
      have hg' := goodA_of hM.ok (by rw [hlen]; exact HNL.out)
      have cHg := Lib.hid (hang_any hA hF.lbl hg'.par htl hcl)
      obtain ⟨a5, c5, e9, hcell⟩ := HI.out wr own' hF
      obtain ⟨g5, off5, e10, hu⟩ := hcell j (c : Int) hk
      injection e9 with e11 e12 e13
      rw [← e11] at e10
      injection e10 with e10
      injection e10 with e14 e15
      rw [← e14, ← e15] at hu
      have HF := Lib.hid hF
      have HM2 := Lib.hid hM2
      have HFO := Lib.hid hfold
      have HLE := Lib.hid hlen
      have HJ1 : Hid (j + 1 ≤ K.length) := Lib.hid hjl
      have i2 : (0 : Int) ≤ (j : Int) := by omega
      have i3 : (j : Int) ≤ 90000 := by have := HKL.out; omega
      clear hat hA hF hM hfold hk hdrop hM2 hc hz2 hg' hcell hlen hke e11 e12 e13 e14 e15
      go_wp2_with fail
      refine cHg.out.mono ?_
      rintro e w5 ⟨rfl, own5, l5, hm5, hA5, hF5⟩
      have HX : Hid (MvAt own w2 ap nv N T F K RA (j + 1) w5) := Lib.hid ⟨own5, l5, hA5, HF.out.trans hF5, by rw [hm5]; exact HM2.out, by rw [hm5]; exact HFO.out, by rw [← List.length_map (f := NB.n), hm5, hang_len, List.length_map]; exact HLE.out⟩
      clear cHg hm5 hA5 hF5 hu
      go_wp2_with fail
      go_roundw
      case rel => exact ⟨j + 1, by go_num, HJ1.out, HX⟩
      case measure => have := HJ1.out; simp [intOf]; omega
end Go.Proofs.YtnbdalohlldnbaaGreatDoor

namespace Go.Proofs.YtnbdalohlldnbaaGreatDoor
open Go.RowKit Bd
attribute [local go_sem ↓] Go.wp_at_zero Go.wp_at_succ
/-- From a place down: the last one that is so, and how many are. -/
def scanF (p : Nat → Bool) : Nat → Nat → Nat → Nat × Nat
  | 0, f, m => (f, m)
  | j + 1, f, m => if p j then scanF p j j (m + 1) else scanF p j f m
theorem scan_end (p : Nat → Bool) : ∀ (j f m : Nat), (∀ k, k < j → p k = false) → scanF p j f m = (f, m)
  | 0, _, _, _ => rfl
  | j + 1, f, m, h => by
    unfold scanF
    rw [h j (Nat.lt_succ_self j)]
    exact scan_end p j f m fun k hk => h k (by omega)
theorem range_rev (j : Nat) : (List.range (j + 1)).reverse = j :: (List.range j).reverse := by
  rw [List.range_succ, List.reverse_append]; rfl
theorem scan_eq (p : Nat → Bool) : ∀ (j f m : Nat), scanF p j f m = ((((List.range j).reverse.filter p).getLast?).getD f, m + ((List.range j).reverse.filter p).length)
  | 0, f, m => rfl
  | j + 1, f, m => by
    unfold scanF
    rw [range_rev, List.filter_cons]
    split
    · rw [scan_eq p j j (m + 1)]
      cases hh : (List.range j).reverse.filter p with
      | nil => simp
      | cons x r => simp [List.getLast?_cons]; omega
    · rw [scan_eq p j f m]
theorem scan_lt (p : Nat → Bool) : ∀ (j f m n : Nat), j ≤ n → (f < n ∨ m = 0) → m + j ≤ n → ((scanF p j f m).1 < n ∨ (scanF p j f m).2 = 0) ∧ (scanF p j f m).2 ≤ n
  | 0, f, m, n, _, h, h2 => ⟨h, by show m ≤ n; omega⟩
  | j + 1, f, m, n, hj, h, h2 => by
    unfold scanF
    split
    · exact scan_lt p j j (m + 1) n (by omega) (Or.inl (by omega)) (by omega)
    · exact scan_lt p j f m n (by omega) h (by omega)
/-- Which entries are like a node. -/
def likeP (a : Ar) (l : Fo) (i : Int) (k : Nat) : Bool := decide (openF l ≤ (k : Int)) && likeN (node a i) (node a (l.getD k 0))
theorem likes_eq (a : Ar) (l : Fo) (i : Int) : likes a l i = (List.range l.length).reverse.filter (likeP a l i) := rfl
set_option maxHeartbeats 2000000 in
set_option maxRecDepth 100000 in
theorem FPush_any {own : Nat → Nat} {w : World} {lp ap : Nat} {lv nv : Value} {fo : Fo} {l : List NB} (i : Int) (h : FoH own w lp ap lv fo) (hA : ArH own w ap nv l) (hL : Lbl own w) (hkl : ∀ x ∈ l, x.n.kids.length ≤ 1000000) (hs : fo.length ≤ 100000) :
    Calls Tryz.prog 149 #[.pointer (some ⟨lp, 0, none⟩), .int .i64 i] w (RFo own lp ap (.int .i64 (pushF (l.map NB.n) fo i).2) (pushF (l.map NB.n) fo i).1 w) := by
  have cM := Lib.hid (may_any i h hA hL hkl)
  obtain ⟨R, hR⟩ : ∃ R, R = pushF (l.map NB.n) fo i := ⟨_, rfl⟩
  rw [← hR]
  unfold pushF at hR
  rw [likes_eq] at hR
  obtain ⟨q, hq⟩ : ∃ q, ((node (l.map NB.n) i).kind != 3) = q := ⟨_, rfl⟩
  rw [hq] at hR cM
  have HR := Lib.hid hR
  have HS := Lib.hid h
  have HL := Lib.hid hL
  have hop := openF_ge fo
  have hcN : ∀ (x : Int) V, Below w.heap.size w V → Calls Tryz.prog 46 #[.pointer (some ⟨ap, 0, none⟩), .int .i64 x] V (RNode (node (l.map NB.n) x) V) := fun x V hV => Node_any x (hA.below hV hL) (hL.grow hV.size) hkl
  have CN := Lib.hid hcN
  have hcO : ∀ V, Below w.heap.size w V → Calls Tryz.prog 173 #[.pointer (some ⟨lp, 0, none⟩)] V fun e w' => e = .returned (.int .i64 (openF fo)) ∧ Below V.heap.size V w' := fun V hV => open_any (h.below hV hL) (hL.grow hV.size) (by omega)
  have CO := Lib.hid hcO
  obtain ⟨p, hp⟩ : ∃ p, p = likeP (l.map NB.n) fo i := ⟨_, rfl⟩
  have HP : Hid (∀ k, p k = (decide (openF fo ≤ (k : Int)) && likeN (node (l.map NB.n) i) (node (l.map NB.n) (fo.getD k 0)))) := Lib.hid (fun k => by rw [hp]; rfl)
  rw [← hp] at HR
  have hlast : openF fo ≤ fo.length := by unfold openF; have := (lastF_lt fo 0 (fun i => i == -1)).1; omega
  generalize l.map NB.n = A at *
  clear h hL hA hkl hR hcN hcO hp
  cases q with
  | true =>
    have HQ : Hid (R = (fo, 2)) := by show _ = _; rw [HR.out]; rfl
    clear HR
    go_enter Tryz.func149, Tryz.ntmps149
    go_wp2_with fail
    refine cM.out.mono ?_
    rintro e w2 ⟨rfl, hb⟩
    have HF := Lib.hid (⟨HS.out.below hb HL.out, Fr.of_below hb HL.out⟩ : FoH own w2 lp ap lv fo ∧ Fr cFo own own w w2)
    clear cM hb
    go_wp2_with fail
    go_ret
    rw [HQ.out]
    exact ⟨rfl, own, lv, HF.out.1, HF.out.2⟩
  | false =>
    have HQ : Hid (R = layF (if 3 ≤ ((List.range fo.length).reverse.filter p).length then fo.eraseIdx (((List.range fo.length).reverse.filter p).getLast?.getD 0) else fo) (if 3 ≤ ((List.range fo.length).reverse.filter p).length then fo.eraseIdx (((List.range fo.length).reverse.filter p).getLast?.getD 0) else fo).length i) := by show _ = _; rw [HR.out]; rfl
    have hsc := scan_eq p fo.length 0 0
    have hsl := scan_lt p fo.length 0 0 fo.length (Nat.le_refl _) (Or.inr rfl) (by omega)
    rw [Nat.zero_add] at hsc
    obtain ⟨f0, m0, hr0⟩ : ∃ f0 m0, scanF p fo.length 0 0 = (f0, m0) := ⟨_, _, rfl⟩
    rw [hr0] at hsc hsl
    injection hsc with hs1 hs2
    dsimp only at hsl
    rw [← hs1, ← hs2] at HQ
    have HR0 : Hid (scanF p fo.length 0 0 = (f0, m0)) := Lib.hid hr0
    obtain ⟨n, hn⟩ : ∃ n, n = fo.length := ⟨_, rfl⟩
    obtain ⟨av, cv, hlv, hcv⟩ := HS.out.s.1.form
    rw [← hn] at hlv hcv hs HR0 hsl hlast
    have HN := Lib.hid hn
    have HLV := Lib.hid hlv
    have HSL := Lib.hid hsl
    have HSZ := Lib.hid hs
    have cL := Lib.hid (FLen_any HS.out)
    rw [← hn] at cL
    obtain ⟨op, hop2⟩ : ∃ op, op = openF fo := ⟨_, rfl⟩
    rw [← hop2] at hop hlast CO HP
    clear HR hs1 hs2 hr0 hlv hn hsl hop2
    go_enter Tryz.func149, Tryz.ntmps149
    go_wp2_with fail
    refine cM.out.mono ?_
    rintro e w2 ⟨rfl, hb2⟩
    have c0 := rowAt (HS.out.below hb2 HL.out).h 0 (.pointer (some ⟨ap, 0, none⟩)) rfl
    have cN1 := Lib.hid (CN.out i w2 hb2)
    have HB2 := Lib.hid hb2
    clear cM hb2
    go_wp2_with fail
    refine cN1.out.mono ?_
    rintro e w3 ⟨ka, kn, kc, rfl, _, _, hb3⟩
    have HB3 := Lib.hid (HB2.out.trans (hb3.mono HB2.out.size))
    obtain ⟨SV, hSV⟩ : ∃ SV, SV = NB.val ⟨node A i, .slice ka kn kc⟩ := ⟨_, rfl⟩
    rw [← hSV]
    have cLk : Hid (∀ (x : NodeL) a n c V, Calls Tryz.prog 190 #[SV, NB.val ⟨x, .slice a n c⟩] V fun e w' => e = .returned (.bool (likeN (node A i) x)) ∧ Below V.heap.size V w') := Lib.hid (fun x a n c V => by rw [hSV]; exact like_any ⟨node A i, .slice ka kn kc⟩ ⟨x, .slice a n c⟩ V)
    have cL3 : Hid (Calls Tryz.prog 51 #[.pointer (some ⟨lp, 0, none⟩)] w3 (RI n w3)) := Lib.hid (by rw [HN.out]; exact FLen_any (HS.out.below HB3.out HL.out))
    clear c0 cN1 hb3 HB2 hSV cL
    go_wp2_with fail
    refine cL3.out.mono ?_
    rintro e w4 ⟨rfl, rfl⟩
    clear cL3
    have HR1 := HR0
    go_wp2_with fail
    go_loopw [7, 8, 9] (fun y7 y8 y9 wr => ∃ j f m : Nat, y7 = .int .i64 (f : Int) ∧ y8 = .int .i64 (m : Int) ∧ y9 = .int .i64 ((j : Int) - 1) ∧ j ≤ n ∧ m + j ≤ n ∧ Hid (scanF p j f m = (f0, m0)) ∧ Hid (Below w.heap.size w wr)) (fun _ _ y9 _ => ((intOf y9) + 1).toNat)
    case atStart => exact ⟨n, 0, 0, rfl, rfl, rfl, Nat.le_refl _, by omega, HR1, HB3⟩
    case round =>
    obtain ⟨j, f, m, rfl, rfl, rfl, hj, hmj, hsc, hb⟩ := hrel
    clear HR1 HR0
    have cO1 := Lib.hid (CO.out _ hb.out)
    by_cases hc : op ≤ (j : Int) - 1
    · obtain ⟨k, rfl⟩ : ∃ k, j = k + 1 := ⟨j - 1, by omega⟩
      have e1 : (((k + 1 : Nat) : Int) - 1) = (k : Int) := by omega
      rw [e1] at hc ⊢
      have hsc2 := hsc.out
      unfold scanF at hsc2
      rw [HP.out k, decide_eq_true hc, Bool.true_and] at hsc2
      obtain ⟨x, hx⟩ : ∃ x, fo[k]? = some x := ⟨_, List.getElem?_eq_getElem (by rw [← HN.out]; omega)⟩
      rw [List.getD_eq_getElem?_getD, hx, Option.getD_some] at hsc2
      have HSC := Lib.hid hsc2
      have hk5 : k ≤ 100000 := by omega
      have hm5 : m ≤ 100000 := by omega
      have i0 : (0 : Int) ≤ (k : Int) := by omega
      have i1 : (k : Int) < (n : Int) := by omega
      obtain ⟨g, cap, e2, hcap, _⟩ := HS.out.cell hx
      have hlv := HLV.out
      rw [e2] at hlv
      injection hlv with e3 e4 e5
      have HC : Hid (∀ V, Below w.heap.size w V → V.cell? ⟨lp, 0, none⟩ = some (.pointer (some ⟨ap, 0, none⟩)) ∧ V.cell? ⟨lp, 1, none⟩ = some (.slice (some ⟨g, 0, none⟩) n cap) ∧ V.cell? ⟨g, k, none⟩ = some (.int .i64 x)) := Lib.hid (fun V hV => by
        have h9 := HS.out.below hV HL.out
        refine ⟨rowAt h9.h 0 _ rfl, ?_, ?_⟩
        · rw [HN.out, ← e2]; exact rowAt h9.h 1 _ rfl
        · obtain ⟨g9, cap9, e9, _, hu⟩ := h9.cell hx
          rw [e2] at e9
          injection e9 with e10 _ _
          injection e10 with e10
          injection e10 with e10
          rw [e10]; exact hu)
      have HJ : Hid (k ≤ n ∧ m + k ≤ n ∧ m + 1 + k ≤ n) := Lib.hid (by omega)
      have HB := hb
      clear hx e2 e3 e4 e5 hsc hsc2 e1 hb hcv hcap
      go_wp2_with fail
      refine cO1.out.mono ?_
      rintro e w5 ⟨rfl, hb5⟩
      have hB5 := HB.out.trans (hb5.mono HB.out.size)
      clear cO1 hb5 HB
      go_upto_region 9 with fail
      refine wp_region_held_drew (S := fun U => Below w.heap.size w U) (by kernel_rfl) (hB5.drew) (fun hHeld => ?_)
      generalize w5.drew = V at hHeld  ⊢
      refine TkH 0 32 ?_; refine TkH 1 33 ?_; refine TkH 2 34 ?_; refine TkH 3 35 ?_
      (try simp only [Act.put]); (try simp only [List.setIfInBounds_toArray]); (try simp only [List.set_cons_zero, List.set_cons_succ])
      refine TkD 4 (some 36) (v := ?_) rfl rfl ?_ ?_; rotate_left
      · (intro W hSw; (try dsimp only at hSw); have c0' := (HC.out W hSw).1; go_simp; try with_reducible rfl)
      (try simp only [Act.put]); (try simp only [List.setIfInBounds_toArray]); (try simp only [List.set_cons_zero, List.set_cons_succ])
      refine TkH 5 37 ?_; refine TkH 6 38 ?_; refine TkH 7 39 ?_
      (try simp only [Act.put]); (try simp only [List.setIfInBounds_toArray]); (try simp only [List.set_cons_zero, List.set_cons_succ])
      refine TkD 8 (some 40) (v := ?_) rfl rfl ?_ ?_; rotate_left
      · (intro W hSw; (try dsimp only at hSw); have c1' := (HC.out W hSw).2.1; go_simp; try with_reducible rfl)
      (try simp only [Act.put]); (try simp only [List.setIfInBounds_toArray]); (try simp only [List.set_cons_zero, List.set_cons_succ])
      refine TkH 9 41 ?_; refine TkH 10 42 ?_
      (try simp only [Act.put]); (try simp only [List.setIfInBounds_toArray]); (try simp only [List.set_cons_zero, List.set_cons_succ])
      refine TkD 11 (some 43) (v := ?_) rfl rfl ?_ ?_; rotate_left
      · (intro W hSw; (try dsimp only at hSw); have cx' := (HC.out W hSw).2.2; go_simp; try with_reducible rfl)
      (try simp only [Act.put]); (try simp only [List.setIfInBounds_toArray]); (try simp only [List.set_cons_zero, List.set_cons_succ])
      refine wpAnyH_ready (rs := [12]) (by kernel_rfl) (by simp) ?_
      refine AllReadyH.cons rfl (fun K hK => ?_) AllReadyH.nil
      go_simp
      go_at_call 46
      refine (CN.out x V hHeld).mono ?_
      rintro e V9 ⟨ka9, kn9, kc9, rfl, hki9, hkg9, hb9⟩
      clear hki9 hkg9
      have hB9 := hHeld.trans (hb9.mono hHeld.size)
      clear hHeld
      refine hK.out _ _ hB9 (fun hHeld => ?_)
      clear hK K hb9 hB9
      clear V
      obtain ⟨V, rfl⟩ : ∃ U, U = V9 := ⟨_, rfl⟩
      (try simp only [Act.put]); (try simp only [List.setIfInBounds_toArray]); (try simp only [List.set_cons_zero, List.set_cons_succ])
      refine wpAnyH_ready (rs := [13]) (by kernel_rfl) (by simp) ?_
      refine AllReadyH.cons rfl (fun K hK => ?_) AllReadyH.nil
      go_simp
      go_at_call 190
      refine (cLk.out _ _ _ _ V).mono ?_
      rintro e V9 ⟨rfl, hb9⟩
      have hB9 := hHeld.trans (hb9.mono hHeld.size)
      clear hHeld
      refine hK.out _ _ hB9 (fun hHeld => ?_)
      clear hK K hb9 hB9
      clear V
      obtain ⟨V, rfl⟩ : ∃ U, U = V9 := ⟨_, rfl⟩
      (try simp only [Act.put]); (try simp only [List.setIfInBounds_toArray]); (try simp only [List.set_cons_zero, List.set_cons_succ])
      refine wpAnyH_done (by kernel_rfl) ?_ _
      have HBX := Lib.hid hHeld
      have HS5 := HSC.out
      generalize likeN (node A i) (node A x) = qk at *
      clear hHeld HSC CN cLk HC
      cases qk with
      | true =>
        have HSC : Hid (scanF p k k (m + 1) = (f0, m0)) := HS5
        clear HS5
        go_wp2_with fail
        go_roundw
        case rel => exact ⟨k, k, m + 1, rfl, by go_num, by go_num, HJ.out.1, HJ.out.2.2, HSC, HBX⟩
        case measure => simp [intOf]
      | false =>
        have HSC : Hid (scanF p k f m = (f0, m0)) := HS5
        clear HS5
        go_wp2_with fail
        go_roundw
        case rel => exact ⟨k, f, m, rfl, rfl, by go_num, HJ.out.1, HJ.out.2.1, HSC, HBX⟩
        case measure => simp [intOf]

    · have HE : Hid (f = f0 ∧ m = m0) := Lib.hid (by
        have h1 := hsc.out
        rw [scan_end p j f m (fun k hk => by rw [HP.out k, decide_eq_false (by omega), Bool.false_and])] at h1
        injection h1 with h2 h3
        exact ⟨h2, h3⟩)
      have hm5 : m ≤ 100000 := by omega
      have HB := hb
      clear hsc hb
      go_wp2_with fail
      refine cO1.out.mono ?_
      rintro e w5 ⟨rfl, hb5⟩
      have hB5 := HB.out.trans (hb5.mono HB.out.size)
      have hS5 := HS.out.below hB5 HL.out
      have hL5 := HL.out.grow hB5.size
      have hF5 : Fr cFo own own w w5 := Fr.of_below hB5 HL.out
      have c1 := rowAt hS5.h 1 lv rfl
      have c1b := c1
      rw [HLV.out] at c1
      by_cases h3 : 3 ≤ m
      · have hf : f < fo.length := by
          have := HSL.out
          have := HE.out
          rw [← HN.out]
          omega
        have HQ2 : Hid (R = layF (fo.eraseIdx f) (fo.eraseIdx f).length i) := by
          show _ = _
          rw [HQ.out, ← HE.out.1, ← HE.out.2, if_pos h3]
        have cD := DelI_any hS5.s hL5 hf
        rw [HLV.out, show ((f + 1 : Nat) : Int) = (f : Int) + 1 by omega] at cD
        have CD := Lib.hid cD
        have hf5 : f ≤ 100000 := by have := HSZ.out; rw [← HN.out] at hf; omega
        have i3 : (3 : Int) ≤ (m : Int) := by omega
        have HSF := Lib.hid (⟨hS5, hF5⟩ : _ ∧ _)
        have hle : (fo.eraseIdx f).length ≤ 100000 := by rw [List.length_eraseIdx]; have := HSZ.out; rw [HN.out] at this; split <;> omega
        have HLE := Lib.hid hle
        clear cD HQ HB hb5 hB5 hS5 hL5 hF5 CN CO cLk cO1 hf hle
        go_wp2_with fail
        refine CD.out.mono ?_
        rintro e w6 ⟨v7, rfl, hs7, hf7, _⟩
        generalize fo.eraseIdx f = fo2 at *
        obtain ⟨a7, c7, hv7, _⟩ := hs7.1.form
        obtain ⟨n7, hn7⟩ : ∃ n, n = fo2.length := ⟨_, rfl⟩
        rw [← hn7] at hv7
        subst hv7
        obtain ⟨hS7, hF7⟩ := HSF.out.1.any hs7 hf7
        have hrow := hf7.keep HSF.out.1.h (by rw [HSF.out.1.o]; rfl)
        have z1 := frozen_row hrow 1
        have c1' := rowAt hrow 1 lv rfl
        rw [HLV.out] at c1'
        have c8 := rowAt hS7.h 1 (.slice a7 n7 c7) rfl
        have HA := Lib.hid (⟨hS7, HSF.out.2.trans hF7⟩ : _ ∧ _)
        have cY := layG_any (k := fo2.length) i hS7 hF7.lbl HLE.out (Nat.le_refl _) (fun h => absurd h (Nat.lt_irrefl _))
        rw [← hn7] at cY
        have CY := Lib.hid cY
        clear hS7 hF7 hs7 hf7 c1 c1b CD hrow HSF cY
        generalize hW7 : w6.setCell ⟨lp, 1, none⟩ (.slice a7 n7 c7) = W7 at *
        have HW7 := Lib.hid hW7
        have HN7 := Lib.hid hn7
        clear hW7 hn7
        go_upto_region 14 with fail
        rw [HW7.out]
        go_wp2_with fail
        refine CY.out.mono ?_
        rintro e w8 ⟨rfl, own8, lv8, h8, f8⟩
        have HX := Lib.hid (⟨h8, HA.out.2.trans f8⟩ : _ ∧ _)
        clear CY h8 f8 c8 HA
        go_wp2_with fail
        go_ret
        rw [HQ2.out, ← HN7.out]
        exact ⟨rfl, own8, lv8, HX.out.1, HX.out.2⟩
      · have HQ2 : Hid (R = layF fo fo.length i) := by
          show _ = _
          rw [HQ.out, ← HE.out.2, if_neg h3]
        have i3 : ¬ ((3 : Int) ≤ (m : Int)) := by omega
        have cY := layG_any (k := fo.length) i hS5 hL5 (by rw [← HN.out]; exact HSZ.out) (Nat.le_refl _) (fun h => absurd h (Nat.lt_irrefl _))
        rw [← HN.out] at cY
        have CY := Lib.hid cY
        have HF5 := Lib.hid hF5
        clear HQ HB hb5 hB5 hS5 hL5 hF5 CN CO cLk cO1 cY
        go_wp2_with fail
        refine CY.out.mono ?_
        rintro e w8 ⟨rfl, own8, lv8, h8, f8⟩
        have HX := Lib.hid (⟨h8, HF5.out.trans f8⟩ : _ ∧ _)
        clear CY h8 f8 c1 c1b HF5
        go_wp2_with fail
        go_ret
        rw [HQ2.out, ← HN.out]
        exact ⟨rfl, own8, lv8, HX.out.1, HX.out.2⟩
end Go.Proofs.YtnbdalohlldnbaaGreatDoor
