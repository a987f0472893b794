/-
  Package arena: Text (behind all kids).
  Package arena: New, Tree.
  Package arena: Tree.
  Package stack: a stack as the program holds it; Len, At, Top, Index, none.
  Package kinds: in, Implied, Special, Scope.
  Package kinds: Scope; package stack: html, New.
-/
import Derived.Test.YtnbdalohlldnbaaGreatDoorM03
import Derived.Test.YtnbdalohlldnbaaGreatDoorM01
namespace Go.Proofs.YtnbdalohlldnbaaGreatDoor
open Go.RowKit Bd
attribute [local go_sem ↓] Go.wp_at_zero Go.wp_at_succ
/-- Kids are nodes. -/
def KidOk (l : List NB) : Prop := ∀ (j : Nat) (x : NB), l[j]? = some x → ∀ k ∈ x.n.kids, ∃ (c : Nat) (y : NB), k = (c : Int) ∧ l[c]? = some y
theorem ParOk.add {l : List NB} {y : NB} (h : ParOk l) (hl : l.length < 1000000) (hy : y.n.kids = []) (hp : y.n.parent < 0) : ParOk (l ++ [y]) := by
  have hcase : ∀ (j : Nat) (x : NB), (l ++ [y])[j]? = some x → l[j]? = some x ∨ x = y := fun j x hj => by
    rcases Nat.lt_or_ge j l.length with h1 | h1
    · rw [List.getElem?_append_left h1] at hj; exact Or.inl hj
    · rw [List.getElem?_append_right h1] at hj
      have hj0 : j - l.length = 0 := by have := (List.getElem?_eq_some_iff.1 hj).1; simp at this; omega
      rw [hj0] at hj
      exact Or.inr (by simpa using hj.symm)
  refine ⟨by rw [List.length_append]; simp; omega, fun j x hj => ?_, fun i x hi h0 => ?_⟩
  · rcases hcase j x hj with h1 | rfl
    · exact h.kids j x h1
    · rw [hy]; simp
  · rcases hcase i x hi with h1 | rfl
    · obtain ⟨P, z, e1, e2, e3⟩ := h.par i x h1 h0
      exact ⟨P, z, e1, by rw [List.getElem?_append_left (List.getElem?_eq_some_iff.1 e2).1]; exact e2, e3⟩
    · omega
set_option maxHeartbeats 2000000 in
set_option maxRecDepth 100000 in
theorem Text_any {own : Nat → Nat} {w : World} {ap : Nat} {nv : Value} {l : List NB} (p : Int) (s : ByteArray) (h : ArH own w ap nv l) (hL : Lbl own w) (hO : ParOk l) (hl : l.length < 1000000) (hne : l ≠ []) (hK : KidOk l) (hs : ∀ (j : Nat) (x : NB), l[j]? = some x → x.n.text.size + s.size ≤ 1000000000) :
    Calls Tryz.prog 58 #[.pointer (some ⟨ap, 0, none⟩), .int .i64 p, .int .i64 (-1), .string s] w (RAct own ap (textA (l.map NB.n) p (-1) s) w) := by
  have cN := Lib.hid (none_any h hne)
  have cHo := Lib.hid (holds_any p h)
  obtain ⟨r, hr⟩ : ∃ r, r = textA (l.map NB.n) p (-1) s := ⟨_, rfl⟩
  rw [← hr]
  unfold textA at hr
  rw [show (l.map NB.n).isEmpty = false by cases l with | nil => exact absurd rfl hne | cons a b => rfl] at hr
  have hho : holds (l.map NB.n) p = true → has (l.map NB.n) p = true := fun h => by unfold holds at h; rw [Bool.and_eq_true] at h; exact h.1
  cases hq1 : holds (l.map NB.n) p with
  | false =>
    rw [hq1] at cHo hr
    have HQ : Hid (r = (l.map NB.n, 2)) := by show _ = _; rw [hr]; simp
    have HS : Hid (RAct own ap ((l.map NB.n), 2) w (.returned (.int .i64 2)) w) := Lib.hid ⟨rfl, own, nv, l, rfl, h, Fr.refl _ hL⟩
    clear hr hho h hL hO hne hK hs hq1
    go_enter Tryz.func58, Tryz.ntmps58
    go_wp2_with fail
    refine cN.out.mono ?_
    rintro e w1 ⟨rfl, rfl⟩
    go_wp2_with fail
    refine cHo.out.mono ?_
    rintro e w1 ⟨rfl, rfl⟩
    go_wp2_with fail
    go_ret
    rw [HQ.out]; exact HS.out
  | true =>
  rw [hq1] at cHo hr
  obtain ⟨P, x, rfl, hx⟩ := has_ex (hho hq1)
  rw [rd_of hx] at hr
  cases hq2 : (s == em) with
  | true =>
    rw [hq2] at hr
    have hse : (s.toList == []) = true := by rw [text_beq]; exact hq2
    have HQ : Hid (r = (l.map NB.n, 0)) := by show _ = _; rw [hr]; simp
    have HS : Hid (RAct own ap ((l.map NB.n), 0) w (.returned (.int .i64 0)) w) := Lib.hid ⟨rfl, own, nv, l, rfl, h, Fr.refl _ hL⟩
    clear hr hho h hL hO hne hK hs hq1 hx hq2
    go_enter Tryz.func58, Tryz.ntmps58
    go_wp2_with fail
    refine cN.out.mono ?_
    rintro e w1 ⟨rfl, rfl⟩
    go_wp2_with fail
    refine cHo.out.mono ?_
    rintro e w1 ⟨rfl, rfl⟩
    go_wp2_with fail
    go_ret
    rw [HQ.out]; exact HS.out
  | false =>
  rw [hq2] at hr
  have hse : (s.toList == []) = false := by rw [text_beq]; exact hq2
  -- the new text behind all
  have cAdd : Hid (∀ V, Below w.heap.size w V → Calls Tryz.prog 59 #[.pointer (some ⟨ap, 0, none⟩), NB.val ⟨textN s, .slice none 0 0⟩] V (RAdd own ap l (textN s) V)) := Lib.hid (fun V hV => Add_any ⟨textN s, .slice none 0 0⟩ (h.below hV hL) (hL.grow hV.size) hne hO.len rfl rfl rfl)
  have hPl := (List.getElem?_eq_some_iff.1 hx).1
  have cHang : Hid (∀ own1 V nv1, ArH own1 V ap nv1 (l ++ [⟨bare (textN s), .slice none 0 0⟩]) → Lbl own1 V → Calls Tryz.prog 124 #[.pointer (some ⟨ap, 0, none⟩), .int .i64 (P : Int), .int .i64 (-1), .int .i64 (l.length : Int)] V (RFree own1 ap nv1 (hang ((l ++ [⟨bare (textN s), .slice none 0 0⟩] : List NB).map NB.n) (P : Int) (-1) (l.length : Int)) V)) := Lib.hid (fun own1 V nv1 hA1 hL1 =>
    hang_any hA1 hL1 (hO.add hl rfl (by show (-1 : Int) < 0; decide)) (by rw [List.length_append]; simp; omega) (by rw [List.length_append]; simp))
  have hadd : add (l.map NB.n) (textN s) = ((l ++ [⟨bare (textN s), .slice none 0 0⟩] : List NB).map NB.n, (l.length : Int)) := by
    unfold add
    rw [show (l.map NB.n).isEmpty = false by cases l with | nil => exact absurd rfl hne | cons a b => rfl, show isTpl (textN s) = false from rfl]
    simp [textN, kidK]
  rw [hadd] at hr
  have c0 := rowAt h.h 0 _ rfl
  obtain ⟨g, cap, rfl, hcap, _, _, _⟩ := h.cells hx
  have hSK := h.k P x hx
  obtain ⟨ka, kc, hkv, hnc⟩ := hSK.1.form
  have k8 := h.row hx 8 _ rfl
  rw [hkv] at k8
  obtain ⟨N, hN⟩ : ∃ N, N = l.length := ⟨_, rfl⟩
  obtain ⟨n, hn⟩ : ∃ n, n = x.n.kids.length := ⟨_, rfl⟩
  rw [← hN] at c0 hcap hPl
  rw [← hn] at k8 hnc hkv
  obtain ⟨q, hq⟩ : ∃ q, q = decide (0 < n ∧ (rd (l.map NB.n) (x.n.kids.getD (n - 1) 0)).kind = 4) := ⟨_, rfl⟩
  have hRq : r = if q = true then (upd (l.map NB.n) (x.n.kids.getD (n - 1) 0) fun m => { m with text := m.text ++ s }, 0) else (hang ((l ++ [⟨bare (textN s), .slice none 0 0⟩] : List NB).map NB.n) (P : Int) (-1) (l.length : Int), 0) := by
    rw [hr, hq, hn]
    simp
  have hlast : 0 < n → ∃ (c : Nat) (y : NB) (gk : Nat), x.n.kids.getD (n - 1) 0 = (c : Int) ∧ l[c]? = some y ∧ ka = some ⟨gk, 0, none⟩ ∧ w.cell? ⟨gk, n - 1, none⟩ = some (.int .i64 (c : Int)) ∧ own gk = 9 + P := fun h0 => by
    have hg : x.n.kids[n - 1]? = some (x.n.kids.getD (n - 1) 0) := by rw [List.getD_eq_getElem?_getD, List.getElem?_eq_getElem (by omega)]; rfl
    obtain ⟨c, y, e1, e2⟩ := hK P x hx _ (List.mem_of_getElem? hg)
    obtain ⟨gk, ck, e3, _, hu⟩ := hSK.1.cell (ints_get hg)
    rw [hkv] at e3
    injection e3 with e3
    exact ⟨c, y, gk, e1, e2, e3, by rw [hu, e1], (hSK.2 gk (by rw [hkv, e3]; rfl)).1⟩
  have HQ := Lib.hid hq
  have HR := Lib.hid hRq
  have HL := Lib.hid hlast
  have HA : Hid (ArH own w ap (.slice (some ⟨g, 0, none⟩) N cap) l) := Lib.hid (by rw [hN]; exact h)
  have HN := Lib.hid hN
  have Hs := Lib.hid hs
  have HLb := Lib.hid hL
  have i0 : (0 : Int) ≤ (P : Int) := by omega
  have i1 : (P : Int) < (N : Int) := by omega
  have i2 : (n : Int) ≤ 100000 := by have := hO.kids P x hx; omega
  clear hr hho h hL hO hne hK hs hq1 hq2 hx hSK hkv hq hRq hlast hadd hN hn hl hcap
  go_enter Tryz.func58, Tryz.ntmps58
  go_wp2_with fail
  refine cN.out.mono ?_
  rintro e w1 ⟨rfl, rfl⟩
  go_wp2_with fail
  refine cHo.out.mono ?_
  rintro e w1 ⟨rfl, rfl⟩
  go_upto_region 11 with fail
  go_cut [75] (fun t wx => t = .bool q ∧ Below w.heap.size w wx)
  case first =>
    by_cases h0 : 0 < n
    · obtain ⟨c, y, gk, e1, e2, rfl, hcc, _⟩ := HL.out h0
      have y0 := (row11 (HA.out.row e2)).1
      have hcl := (List.getElem?_eq_some_iff.1 e2).1
      obtain ⟨m, hm⟩ : ∃ m, m = n - 1 := ⟨_, rfl⟩
      have HQ2 : Hid (q = (y.n.kind == 4)) := Lib.hid (by
        rw [HQ.out, e1, rd_of e2]
        cases hb : (y.n.kind == 4) with
        | false => rw [beq_eq_false_iff_ne] at hb; exact decide_eq_false (fun h => hb h.2)
        | true => rw [beq_iff_eq] at hb; exact decide_eq_true ⟨h0, hb⟩)
      rw [← hm] at hcc
      have j0 : (0 : Int) < (n : Int) := by omega
      have j1 : IntKind.i64.wrap ((n : Int) - 1) = (m : Int) := by rw [show (n : Int) - 1 = (m : Int) by omega]; exact IntWalk.i64_in _ (by omega)
      have j2 : (0 : Int) ≤ (m : Int) := by omega
      have j3 : (m : Int) < (n : Int) := by omega
      have j4 : (0 : Int) ≤ (c : Int) := by omega
      have j5 : (c : Int) < (N : Int) := by rw [HN.out]; omega
      generalize y.n.kind = kd at *
      clear hm e1 e2 hcl k8
      refine wp_region_held_drew (S := fun U => Below w.heap.size w U) (by kernel_rfl) ((Below.refl _ w).drew) (fun hHeld => ?_)
      generalize w.drew = V at hHeld  ⊢
      refine TkH 0 59 ?_; refine TkH 1 60 ?_; refine TkH 2 61 ?_; refine TkH 3 62 ?_; refine TkH 4 63 ?_
      (try simp only [Act.put]); (try simp only [List.setIfInBounds_toArray]); (try simp only [List.set_cons_zero, List.set_cons_succ])
      refine TkH 5 64 ?_
      (try simp only [Act.put]); (try simp only [List.setIfInBounds_toArray]); (try simp only [List.set_cons_zero, List.set_cons_succ])
      refine TkD 6 (some 65) (v := ?_) rfl rfl ?_ ?_; rotate_left
      · (intro W hSw; (try dsimp only at hSw); have c0' := (hSw.cell (World.block_lt_of_cell? _ _ c0)).trans c0; go_simp; try with_reducible rfl)
      (try simp only [Act.put]); (try simp only [List.setIfInBounds_toArray]); (try simp only [List.set_cons_zero, List.set_cons_succ])
      refine TkH 7 66 ?_; refine TkH 8 67 ?_; refine TkH 9 68 ?_; refine TkH 10 69 ?_
      (try simp only [Act.put]); (try simp only [List.setIfInBounds_toArray]); (try simp only [List.set_cons_zero, List.set_cons_succ])
      refine TkD 11 (some 70) (v := ?_) rfl rfl ?_ ?_; rotate_left
      · (intro W hSw; (try dsimp only at hSw); have hcc' := (hSw.cell (World.block_lt_of_cell? _ _ hcc)).trans hcc; go_simp; try with_reducible rfl)
      (try simp only [Act.put]); (try simp only [List.setIfInBounds_toArray]); (try simp only [List.set_cons_zero, List.set_cons_succ])
      refine TkH 12 71 ?_; refine TkH 13 72 ?_
      (try simp only [Act.put]); (try simp only [List.setIfInBounds_toArray]); (try simp only [List.set_cons_zero, List.set_cons_succ])
      refine TkD 14 (some 73) (v := ?_) rfl rfl ?_ ?_; rotate_left
      · (intro W hSw; (try dsimp only at hSw); have y0' := (hSw.cell (World.block_lt_of_cell? _ _ y0)).trans y0; go_simp; try with_reducible rfl)
      (try simp only [Act.put]); (try simp only [List.setIfInBounds_toArray]); (try simp only [List.set_cons_zero, List.set_cons_succ])
      refine TkH 15 74 ?_; refine TkH 16 75 ?_
      (try simp only [Act.put]); (try simp only [List.setIfInBounds_toArray]); (try simp only [List.set_cons_zero, List.set_cons_succ])
      refine wpAnyH_done (by kernel_rfl) ?_ _
      go_wp2_with fail
      go_meet
      exact ⟨by rw [HQ2.out], hHeld⟩

    · have j0 : ¬ (0 : Int) < (n : Int) := by omega
      have HQ2 : Hid (q = false) := Lib.hid (by rw [HQ.out]; exact decide_eq_false (fun h => h0 h.1))
      clear k8
      refine wp_region_held_drew (S := fun U => Below w.heap.size w U) (by kernel_rfl) ((Below.refl _ w).drew) (fun hHeld => ?_)
      generalize w.drew = V at hHeld  ⊢
      refine TkH 0 59 ?_; refine TkH 1 60 ?_; refine TkH 2 61 ?_
      (try simp only [Act.put]); (try simp only [List.setIfInBounds_toArray]); (try simp only [List.set_cons_zero, List.set_cons_succ])
      refine TnD 3 (some 62) rfl rfl ?_
      (try simp only [Act.put]); (try simp only [List.setIfInBounds_toArray]); (try simp only [List.set_cons_zero, List.set_cons_succ])
      refine TnD 4 (some 63) rfl rfl ?_
      (try simp only [Act.put]); (try simp only [List.setIfInBounds_toArray]); (try simp only [List.set_cons_zero, List.set_cons_succ])
      refine TnD 5 (some 64) rfl rfl ?_
      (try simp only [Act.put]); (try simp only [List.setIfInBounds_toArray]); (try simp only [List.set_cons_zero, List.set_cons_succ])
      refine TnD 6 (some 65) rfl rfl ?_
      (try simp only [Act.put]); (try simp only [List.setIfInBounds_toArray]); (try simp only [List.set_cons_zero, List.set_cons_succ])
      refine TnD 7 (some 66) rfl rfl ?_
      (try simp only [Act.put]); (try simp only [List.setIfInBounds_toArray]); (try simp only [List.set_cons_zero, List.set_cons_succ])
      refine TnD 8 (some 67) rfl rfl ?_
      (try simp only [Act.put]); (try simp only [List.setIfInBounds_toArray]); (try simp only [List.set_cons_zero, List.set_cons_succ])
      refine TnD 9 (some 68) rfl rfl ?_
      (try simp only [Act.put]); (try simp only [List.setIfInBounds_toArray]); (try simp only [List.set_cons_zero, List.set_cons_succ])
      refine TnD 10 (some 69) rfl rfl ?_
      (try simp only [Act.put]); (try simp only [List.setIfInBounds_toArray]); (try simp only [List.set_cons_zero, List.set_cons_succ])
      refine TnD 11 (some 70) rfl rfl ?_
      (try simp only [Act.put]); (try simp only [List.setIfInBounds_toArray]); (try simp only [List.set_cons_zero, List.set_cons_succ])
      refine TnD 12 (some 71) rfl rfl ?_
      (try simp only [Act.put]); (try simp only [List.setIfInBounds_toArray]); (try simp only [List.set_cons_zero, List.set_cons_succ])
      refine TnD 13 (some 72) rfl rfl ?_
      (try simp only [Act.put]); (try simp only [List.setIfInBounds_toArray]); (try simp only [List.set_cons_zero, List.set_cons_succ])
      refine TnD 14 (some 73) rfl rfl ?_
      (try simp only [Act.put]); (try simp only [List.setIfInBounds_toArray]); (try simp only [List.set_cons_zero, List.set_cons_succ])
      refine TnD 15 (some 74) rfl rfl ?_
      (try simp only [Act.put]); (try simp only [List.setIfInBounds_toArray]); (try simp only [List.set_cons_zero, List.set_cons_succ])
      refine TkH 16 75 ?_
      (try simp only [Act.put]); (try simp only [List.setIfInBounds_toArray]); (try simp only [List.set_cons_zero, List.set_cons_succ])
      refine wpAnyH_done (by kernel_rfl) ?_ _
      go_wp2_with fail
      go_meet
      exact ⟨by rw [HQ2.out], hHeld⟩

  case rest =>
  obtain ⟨rfl, hbc⟩ := hcut
  have hAc := HA.out.below hbc HLb.out
  have hFc : Fr cAr own own w wc := Fr.of_below hbc HLb.out
  clear k8 c0 cN cHo
  cases q with
  | true =>
    have hbd := hbc.drew
    replace hAc := HA.out.below hbd HLb.out
    replace hFc : Fr cAr own own w wc.drew := Fr.of_below hbd HLb.out
    have hq2 := of_decide_eq_true HQ.out.symm
    obtain ⟨c, y, gk, e1, e2, rfl, hcc0, hogk⟩ := HL.out hq2.1
    have hn1 : ap ≠ g := fun e => by have h1 := HA.out.o; have h2 := HA.out.og; rw [e] at h1; omega
    have hn2 : gk ≠ g := fun e => by have h2 := HA.out.og; rw [e] at hogk; omega
    have hcc := (hbd.cell (World.block_lt_of_cell? _ _ hcc0)).trans hcc0
    have c0 := rowAt hAc.h 0 (.slice (some ⟨g, 0, none⟩) N cap) rfl
    have y2 := hAc.row e2 2 (.string y.n.text) rfl
    have hcl := (List.getElem?_eq_some_iff.1 e2).1
    have hsz := Hs.out c y e2
    obtain ⟨cur, hcur⟩ := hAc.nodes
    have z2 := frozen_row hcur (c * 11 + 2)
    obtain ⟨hA2, hF2⟩ := hAc.put (hFc.lbl) e2 (k := 2) (u := .string (y.n.text ++ s)) (x' := ⟨{ y.n with text := y.n.text ++ s }, y.kv⟩) (by omega) rfl rfl rfl
    have HA2 : Hid (ArH own (wc.drew.setCell ⟨g, c * 11 + 2, none⟩ (.string (y.n.text ++ s))) ap (.slice (some ⟨g, 0, none⟩) N cap) (l.set c ⟨{ y.n with text := y.n.text ++ s }, y.kv⟩)) := Lib.hid hA2
    have HF2 : Hid (Fr cAr own own w (wc.drew.setCell ⟨g, c * 11 + 2, none⟩ (.string (y.n.text ++ s)))) := Lib.hid (hFc.trans (hF2.mono (fun y hy => by
      cases hx5 : (y == 5) with
      | false => rfl
      | true => rw [beq_iff_eq.1 hx5] at hy; cases hy)))
    have HG : Hid (r = ((l.set c ⟨{ y.n with text := y.n.text ++ s }, y.kv⟩).map NB.n, 0)) := Lib.hid (by
      rw [HR.out, if_pos rfl, e1, upd_set (f := fun m => { m with text := m.text ++ s }) e2 rfl])
    obtain ⟨m, hm⟩ : ∃ m, m = n - 1 := ⟨_, rfl⟩
    rw [← hm] at hcc
    have h0 : 0 < n := hq2.1
    have j1 : IntKind.i64.wrap ((n : Int) - 1) = (m : Int) := by rw [show (n : Int) - 1 = (m : Int) by omega]; exact IntWalk.i64_in _ (by omega)
    have j2 : (0 : Int) ≤ (m : Int) := by omega
    have j3 : (m : Int) < (n : Int) := by omega
    have j4 : (0 : Int) ≤ (c : Int) := by omega
    have j5 : (c : Int) < (N : Int) := by rw [HN.out]; omega
    obtain ⟨T, hT⟩ : ∃ T, T = y.n.text := ⟨_, rfl⟩
    rw [← hT] at y2 HA2 HF2 HG hsz
    have hcat : ¬ (9223372036854775807 < ByteArray.size T + s.size) := by omega
    clear hm e1 e2 hcl hA2 hF2 hcur hq2 hcc0 hT HL HQ HR hAc hFc cAdd cHang hbd
    have Hn1 := Lib.hid hn1
    have Hn2 := Lib.hid hn2
    clear hn1 hn2 hogk
    go_upto_region 12 with fail
    refine wp_region_held_drew (S := fun U => U.cell? ⟨ap, 0, none⟩ = some (.slice (some ⟨g, 0, none⟩) N cap) ∧ U.cell? ⟨gk, m, none⟩ = some (.int .i64 (c : Int))) (by kernel_rfl) (⟨c0, hcc⟩) (fun hHeld => ?_)
    generalize wc.drew = V at hHeld c0 hcc y2 z2 HA2 HF2 ⊢
    refine TkH 0 76 ?_; refine TkH 1 77 ?_; refine TkH 2 78 ?_
    (try simp only [Act.put]); (try simp only [List.setIfInBounds_toArray]); (try simp only [List.set_cons_zero, List.set_cons_succ])
    refine TkD 3 (some 79) (v := ?_) rfl rfl ?_ ?_; rotate_left
    · (intro W hSw; (try dsimp only at hSw); have c0' := hSw.1; go_simp; try with_reducible rfl)
    (try simp only [Act.put]); (try simp only [List.setIfInBounds_toArray]); (try simp only [List.set_cons_zero, List.set_cons_succ])
    refine TkH 4 80 ?_; refine TkH 5 81 ?_; refine TkH 6 82 ?_; refine TkH 7 83 ?_
    (try simp only [Act.put]); (try simp only [List.setIfInBounds_toArray]); (try simp only [List.set_cons_zero, List.set_cons_succ])
    refine TkD 8 (some 84) (v := ?_) rfl rfl ?_ ?_; rotate_left
    · (intro W hSw; (try dsimp only at hSw); have hcc' := hSw.2; go_simp; try with_reducible rfl)
    (try simp only [Act.put]); (try simp only [List.setIfInBounds_toArray]); (try simp only [List.set_cons_zero, List.set_cons_succ])
    refine TkH 9 85 ?_; refine TkH 10 86 ?_; refine TkH 12 88 ?_
    (try simp only [Act.put]); (try simp only [List.setIfInBounds_toArray]); (try simp only [List.set_cons_zero, List.set_cons_succ])
    refine wpAnyH_ready (rs := [11]) (by kernel_rfl) (by simp) ?_
    refine AllReadyH.cons rfl (fun K hK => ?_) AllReadyH.nil
    go_simp
    refine hK.out _ _ hHeld (fun hSx => ?_)
    clear hSx hK K
    (try simp only [Act.put]); (try simp only [List.setIfInBounds_toArray]); (try simp only [List.set_cons_zero, List.set_cons_succ])
    focus (refine TkH 13 89 ?_; refine TkH 14 90 ?_; refine TkH 15 91 ?_)
    (try simp only [Act.put]); (try simp only [List.setIfInBounds_toArray]); (try simp only [List.set_cons_zero, List.set_cons_succ])
    refine wpAnyH_ready (rs := [16]) (by kernel_rfl) (by simp) ?_
    refine AllReadyH.cons rfl (fun K hK => ?_) AllReadyH.nil
    go_simp
    refine hK.out _ _ ⟨(World.cell?_of_block (w := V) (Below.heap_setCell _ _ _ _ Hn1.out)).trans hHeld.1, (World.cell?_of_block (w := V) (Below.heap_setCell _ _ _ _ Hn2.out)).trans hHeld.2⟩ (fun hSx => ?_)
    clear hSx hK K
    (try simp only [Act.put]); (try simp only [List.setIfInBounds_toArray]); (try simp only [List.set_cons_zero, List.set_cons_succ])
    refine wpAnyH_done (by kernel_rfl) ?_ _
    go_wp2_with fail
    go_ret
    rw [HG.out]
    exact ⟨rfl, own, _, _, rfl, HA2.out, HF2.out⟩

  | false =>
    have HG : Hid (r = (hang ((l ++ [⟨bare (textN s), .slice none 0 0⟩] : List NB).map NB.n) (P : Int) (-1) (l.length : Int), 0)) := Lib.hid (by rw [HR.out, if_neg (by decide)])
    have cA := Lib.hid (cAdd.out wc hbc)
    have HFc := Lib.hid hFc
    clear cAdd HR HQ HL hAc hFc Hs
    go_wp2_with fail
    refine cA.out.mono ?_
    rintro e w2 ⟨rfl, own1, nv1, hA1, hF1⟩
    have cH := Lib.hid (cHang.out own1 w2 nv1 hA1 hF1.lbl)
    have HF1 := Lib.hid hF1
    clear hA1 hF1 cA cHang
    go_wp2_with fail
    refine cH.out.mono ?_
    rintro e w3 ⟨rfl, own3, l3, hm3, hA3, hF3⟩
    have H3 := Lib.hid (⟨hm3, hA3, hF3⟩ : _ ∧ _ ∧ _)
    clear hm3 hA3 hF3 cH
    go_wp2_with fail
    go_ret
    rw [HG.out]
    exact ⟨rfl, own3, nv1, l3, H3.out.1, H3.out.2.1, HFc.out.trans (HF1.out.trans H3.out.2.2)⟩
end Go.Proofs.YtnbdalohlldnbaaGreatDoor

namespace Go.Proofs.YtnbdalohlldnbaaGreatDoor
open Go.RowKit Bd
attribute [local go_sem ↓] Go.wp_at_zero Go.wp_at_succ
/-- A new object, whose blocks were not there: only labels of new blocks are new. -/
def cNo (_ : Nat) : Bool := false
def RNewA (own : Nat → Nat) (w : World) (e : Ending) (w' : World) : Prop := ∃ ap nv l own', e = .returned (.pointer (some ⟨ap, 0, none⟩)) ∧ l.map NB.n = newA ∧ ArH own' w' ap nv l ∧ Fr cNo own own' w w'
theorem lab_lbl {own : Nat → Nat} {w : World} {o : Obj} {l : Nat} (h : Lbl own w) : Lbl (lab own w.heap.size l) (w.alloc o) := fun k hk => by
  have hs : (w.alloc o).heap.size = w.heap.size + 1 := by simp
  rw [lab_other _ _ (by omega)]; exact h k (by omega)
set_option maxHeartbeats 1000000 in
set_option maxRecDepth 100000 in
theorem NewA_any {own : Nat → Nat} {w : World} (hL : Lbl own w) : Calls Tryz.prog 107 #[] w (RNewA own w) := by
  have cB : Hid (Calls Tryz.prog 126 #[.agg #[.int .i64 1, .string ⟨#[]⟩, .string ⟨#[]⟩, .int .i64 0, .slice none 0 0, .bool false, .int .i64 0, .int .i64 0, .slice none 0 0, .int .i64 (-1), .int .i64 (-1)]] w fun e w' => e = .returned (.agg #[.int .i64 1, .string ⟨#[]⟩, .string ⟨#[]⟩, .int .i64 0, .slice none 0 0, .bool false, .int .i64 (-1), .int .i64 0, .slice none 0 0, .int .i64 (-1), .int .i64 (-1)]) ∧ Below w.heap.size w w') := Lib.hid (bare_any ⟨root0, .slice none 0 0⟩ w)
  go_enter Tryz.func107, Tryz.ntmps107
  go_wp2_with fail
  refine cB.out.mono ?_
  rintro e w1 ⟨rfl, hb⟩
  clear cB
  go_wp2_with fail
  go_ret
  have hL1 := hL.grow hb.size
  obtain ⟨W2, hW2⟩ : ∃ W, W = w1.alloc (.cells #[.int .i64 1, .string ⟨#[]⟩, .string ⟨#[]⟩, .int .i64 0, .slice none 0 0, .bool false, .int .i64 (-1), .int .i64 0, .slice none 0 0, .int .i64 (-1), .int .i64 (-1)] 54) := ⟨_, rfl⟩
  have hb2 : Below w1.heap.size w1 W2 := by rw [hW2]; exact (Below.refl _ _).alloc (Nat.le_refl _) _
  have r2 : W2.heap[w1.heap.size]? = some (.cells #[.int .i64 1, .string ⟨#[]⟩, .string ⟨#[]⟩, .int .i64 0, .slice none 0 0, .bool false, .int .i64 (-1), .int .i64 0, .slice none 0 0, .int .i64 (-1), .int .i64 (-1)] 54 (0, 0)) := by rw [hW2]; exact heap_new _ _
  obtain ⟨W3, hW3⟩ : ∃ W, W = W2.alloc (.cells #[.slice (some ⟨w1.heap.size, 0, none⟩) 1 1] 109) := ⟨_, rfl⟩
  have hb3 : Below W2.heap.size W2 W3 := by rw [hW3]; exact (Below.refl _ _).alloc (Nat.le_refl _) _
  have r3 : W3.heap[W2.heap.size]? = some (.cells #[.slice (some ⟨w1.heap.size, 0, none⟩) 1 1] 109 (0, 0)) := by rw [hW3]; exact heap_new _ _
  have r23 := (hb3.block _ (row_lt r2)).trans r2
  have hs2 : W2.heap.size = w1.heap.size + 1 := by rw [hW2]; simp
  have hs3 : W3.heap.size = W2.heap.size + 1 := by rw [hW3]; simp
  have hws := hb.size
  have e3 : (w1.alloc (.cells #[.int .i64 1, .string ⟨#[]⟩, .string ⟨#[]⟩, .int .i64 0, .slice none 0 0, .bool false, .int .i64 (-1), .int .i64 0, .slice none 0 0, .int .i64 (-1), .int .i64 (-1)] 54)).alloc (.cells #[.slice (some ⟨w1.heap.size, 0, none⟩) 1 1] 109) = W3 := by rw [hW3, hW2]
  rw [e3]
  refine ⟨W2.heap.size, .slice (some ⟨w1.heap.size, 0, none⟩) 1 1, [⟨bare root0, .slice none 0 0⟩], lab (lab own w1.heap.size 5) W2.heap.size 2, by rw [hs2]; rfl, rfl, ?_, ?_⟩
  · refine ⟨lab_self _ _ _, r3, ⟨⟨rfl, Or.inr ⟨w1.heap.size, 1, _, rfl, r23, Nat.le_refl _, by decide, by show 1 * 11 ≤ 11; omega, rfl⟩⟩, fun g hg => ?_⟩, fun j x hj => ?_⟩
    · obtain rfl : w1.heap.size = g := by simpa [Value.ownBlock] using hg
      exact ⟨by rw [lab_other _ _ (by omega), lab_self], by omega⟩
    · have hj0 : j = 0 := by have := (List.getElem?_eq_some_iff.1 hj).1; simp at this; omega
      subst hj0
      obtain rfl := Option.some.inj hj
      exact SlO.nil _ _ _ _ _
  · have hbb := below_call hb (below_call hb2 hb3)
    refine ⟨hbb.os, hbb.tape, hbb.output, hbb.size, fun k hk => ?_, fun k hk => ?_, fun k hk _ => hbb.block k hk⟩
    · rw [lab_other _ _ (by omega), lab_other _ _ (by omega)]
    · rw [lab_other _ _ (by omega), lab_other _ _ (by omega)]; exact hL k (by omega)
end Go.Proofs.YtnbdalohlldnbaaGreatDoor

namespace Go.Proofs.YtnbdalohlldnbaaGreatDoor
open Go.RowKit Bd
attribute [local go_sem ↓] Go.wp_at_zero Go.wp_at_succ
theorem own_belowB {w w1 : World} {base : Nat} {e : TypeId} {size n : Nat} {v : Value} {xs : List Value} (h : w.ownsRow base e size v n xs) (hb : Below w.heap.size w w1) : w1.ownsRow base e size v n xs :=
  h.kept (row := none) (by constructor <;> first | exact hb.os | exact hb.tape | exact hb.output | exact hb.size | exact fun k hk _ => hb.block k hk) (by cases hv : v.ownBlock <;> simp)
/-- Nodes that can be read, in a row of one's own. -/
structure TreeAt (w : World) (B : Nat) (v : Value) (l : List NB) : Prop where
  s : w.ownsRow B 54 11 v l.length (l.flatMap NB.row)
  k : ∀ x ∈ l, IntsAt w x.kv x.n.kids ∧ ∀ g off n c, x.kv = .slice (some ⟨g, off, none⟩) n c → x.n.kids ≠ [] → some g ≠ v.ownBlock
theorem TreeAt.below {w w' : World} {B : Nat} {v : Value} {l : List NB} (h : TreeAt w B v l) (hb : Below w.heap.size w w') : TreeAt w' B v l :=
  ⟨own_belowB h.s hb, fun x hx => ⟨(h.k x hx).1.below hb, (h.k x hx).2⟩⟩
theorem IntsAt.lt {w : World} {v : Value} {l : List Int} (h : IntsAt w v l) {g off n c : Nat} (e : v = .slice (some ⟨g, off, none⟩) n c) (hl : l ≠ []) : g < w.heap.size := by
  obtain ⟨a, c', e', hc⟩ := h
  cases l with
  | nil => exact absurd rfl hl
  | cons x r =>
    obtain ⟨g', off', e2, hu⟩ := hc 0 x rfl
    rw [e] at e'
    injection e' with e1 _ _
    rw [e2] at e1
    injection e1 with e1
    injection e1 with e1
    subst e1
    exact World.block_lt_of_cell? _ _ hu
theorem IntsAt.keep3 {w w' : World} {v : Value} {l : List Int} (h : IntsAt w v l) (hk : ∀ g off n c, v = .slice (some ⟨g, off, none⟩) n c → l ≠ [] → w'.heap[g]? = w.heap[g]?) : IntsAt w' v l := by
  obtain ⟨a, c, e, hc⟩ := h
  refine ⟨a, c, e, fun j x hj => ?_⟩
  obtain ⟨g, off, e1, hu⟩ := hc j x hj
  refine ⟨g, off, e1, (World.cell?_of_block (w := w) (hk g off l.length c (by rw [e, e1]) (fun h0 => by rw [h0] at hj; cases hj))).trans hu⟩
/-- One more node behind them. -/
theorem TreeAt.snoc {w w' : World} {B : Nat} {v v' : Value} {l : List NB} {y : NB} (h : TreeAt w B v l) (hs : w'.ownsRow B 54 11 v' (l.length + 1) (l.flatMap NB.row ++ y.row)) (hg : w.grownBy w' v.ownBlock) (ho : v'.ownBlock = v.ownBlock ∨ v'.ownBlock = some w.heap.size) (hy : IntsAt w y.kv y.n.kids) (hyo : ∀ g off n c, y.kv = .slice (some ⟨g, off, none⟩) n c → y.n.kids ≠ [] → some g ≠ v.ownBlock) : TreeAt w' B v' (l ++ [y]) := by
  have hone : ∀ x : NB, IntsAt w x.kv x.n.kids → (∀ g off n c, x.kv = .slice (some ⟨g, off, none⟩) n c → x.n.kids ≠ [] → some g ≠ v.ownBlock) → IntsAt w' x.kv x.n.kids ∧ ∀ g off n c, x.kv = .slice (some ⟨g, off, none⟩) n c → x.n.kids ≠ [] → some g ≠ v'.ownBlock := fun x h1 h2 =>
    ⟨h1.keep3 (fun g off n c e hl => hg.block g (h1.lt e hl) (h2 g off n c e hl)), fun g off n c e hl => by
      rcases ho with ho | ho
      · rw [ho]; exact h2 g off n c e hl
      · rw [ho]; have := h1.lt e hl; intro e2; injection e2 with e2; omega⟩
  refine ⟨by rw [List.length_append, List.flatMap_append]; simpa using hs, fun x hx => ?_⟩
  rcases List.mem_append.1 hx with hx | hx
  · exact hone x (h.k x hx).1 (h.k x hx).2
  · rw [List.mem_singleton.1 hx]; exact hone y hy hyo
theorem nrow_oneB (y : NB) (h : y.kv.oneCell' = true) : ∀ u ∈ y.row, u.oneCell' = true := fun u hu => nrow_one [y] (fun z hz => by rw [List.mem_singleton.1 hz]; exact h) u (by simpa using hu)
def RTree (a : Ar) (w : World) (e : Ending) (w' : World) : Prop := ∃ v l, e = .returned v ∧ l.map NB.n = a ∧ TreeAt w' w.heap.size v l ∧ Below w.heap.size w w'
theorem node_of {l : List NB} {j : Nat} {x : NB} (h : l[j]? = some x) : node (l.map NB.n) (j : Int) = x.n := by unfold node; rw [has_of h, if_pos rfl]; exact rd_of h
set_option maxHeartbeats 2000000 in
set_option maxRecDepth 100000 in
theorem Tree_any {own : Nat → Nat} {w : World} {ap : Nat} {nv : Value} {l : List NB} (h : ArH own w ap nv l) (hL : Lbl own w) (hl : l.length ≤ 1000000) (hkl : ∀ x ∈ l, x.n.kids.length ≤ 1000000) : Calls Tryz.prog 18 #[.pointer (some ⟨ap, 0, none⟩)] w (RTree (l.map NB.n) w) := by
  obtain ⟨i0, hi, hz0, hz1, hz2⟩ := info_parts infoNode
  have cL := Lib.hid (Len_any h)
  have cN : Hid (∀ (j : Nat) V, Below w.heap.size w V → Calls Tryz.prog 46 #[.pointer (some ⟨ap, 0, none⟩), .int .i64 (j : Int)] V (RNode (node (l.map NB.n) (j : Int)) V)) := Lib.hid (fun j V hV => Node_any (j : Int) (h.below hV hL) (hL.grow hV.size) hkl)
  obtain ⟨N, hN⟩ : ∃ N, N = l.length := ⟨_, rfl⟩
  rw [← hN] at cL hl
  have HN := Lib.hid hN
  clear h hL hkl hN
  go_enter Tryz.func18, Tryz.ntmps18
  go_wp2_with fail
  refine cL.out.mono ?_
  rintro e w1 ⟨rfl, rfl⟩
  go_wp2_with fail
  go_loopw [7, 3] (fun i o wr => ∃ (v : Value) (j : Nat) (l' : List NB), v = o ∧ i = .int .i64 j ∧ j ≤ N ∧ Hid (l'.map NB.n = (l.map NB.n).take j) ∧ Hid (TreeAt wr w.heap.size o l') ∧ Hid (Below w.heap.size w wr)) (fun i _ _ => N - (intOf i).toNat)
  case atStart => exact ⟨_, 0, [], rfl, rfl, Nat.zero_le _, Lib.hid rfl, Lib.hid ⟨World.ownsRow_nil _ _ _ _, fun x hx => by cases hx⟩, Lib.hid (Below.refl _ _)⟩
  case round =>
  obtain ⟨v, j, l', rfl, rfl, hj, hm, hT, hb⟩ := hrel
  by_cases hlt : j < N
  · have hltI : (j : Int) < (N : Int) := by omega
    have hj0 : (0 : Int) ≤ (j : Int) := by omega
    obtain ⟨x, hx⟩ : ∃ x, l[j]? = some x := ⟨_, List.getElem?_eq_getElem (by rw [← HN.out]; exact hlt)⟩
    have cN1 := cN.out j wr hb.out
    rw [node_of hx] at cN1
    have cN1 := Lib.hid cN1
    have hm2 : Hid ((l.map NB.n).take (j + 1) = (l.map NB.n).take j ++ [x.n]) := Lib.hid (by rw [List.take_add_one, List.getElem?_map, hx]; rfl)
    have hll : l'.length ≤ 1000000 := by
      have := congrArg List.length hm.out
      rw [List.length_map, List.length_take] at this; omega
    clear hx
    obtain ⟨⟨kd, nm, tx, sp, dp, pr, cn, ks, fr, tt⟩, kv⟩ := x
    dsimp only at cN1 hm2
    go_wp2_with fail
    refine cN1.out.mono ?_
    rintro e w2 ⟨ka, kn, kc, rfl, hk2, hkg2, hb2⟩
    have hT2 := hT.out.below hb2
    have hb02 := below_call hb.out hb2
    dsimp only [NB.val, NB.row]
    obtain ⟨W3, hW3⟩ : ∃ W, W = w2.alloc (.cells #[.int .i64 kd, .string nm, .string tx, .int .i64 sp, .slice none 0 0, .bool dp, .int .i64 pr, .int .i64 cn, .slice ka kn kc, .int .i64 fr, .int .i64 tt] 54) := ⟨_, rfl⟩
    have hb3 : Below w2.heap.size w2 W3 := by rw [hW3]; exact (Below.refl _ _).alloc (Nat.le_refl _) _
    have hT3 := Lib.hid (hT2.below hb3)
    have hK3 := Lib.hid (hk2.below hb3)
    have hG3 : Hid (∀ g off n c, (Value.slice ka kn kc) = .slice (some ⟨g, off, none⟩) n c → ks ≠ [] → some g ≠ v.ownBlock) := Lib.hid (fun g off n c e _ e2 => by
      injection e with e _ _
      have h1 := hkg2 g off e
      rcases hT.out.s.2 with ⟨rfl, _⟩ | ⟨g1, cap1, cur1, rfl, _, h3, _⟩
      · cases e2
      · injection e2 with e2
        have := row_lt h3
        have : g1 = g := e2.symm
        omega)
    have hb03 := below_call hb02 hb3
    clear hk2 hkg2 hT2 hb3 cN1 hT
    go_wp2_with (at_builtin; refine wpList_append_own_at _ rfl (.tmp 10) (.tmp 14) 47 rfl w.heap.size 54 i0 (.agg zeroNd) 11 136 Tryz.underlying47 hi hz0 hz1 hz2 rfl (by decide) v l'.length (l'.flatMap NB.row) rfl (by rw [← hW3]; exact hT3.out.s) ⟨w2.heap.size, 0, none⟩ 1 1 (NB.row ⟨⟨kd, nm, tx, sp, dp, pr, cn, ks, fr, tt⟩, .slice ka kn kc⟩) rfl rfl (fun j u hj => by rw [addr_add', Nat.zero_add]; exact rowAt (heap_new _ _) j u (by rw [← hj]; simp [NB.row])) (nrow_oneB ⟨⟨kd, nm, tx, sp, dp, pr, cn, ks, fr, tt⟩, .slice ka kn kc⟩ rfl) (by unfold maxLen; omega) (by omega) (by rw [← hW3]; exact hb03.size) ?_)
    intro v' w4 hown4 hg4 _ hat4
    have hT4 : TreeAt w4 w.heap.size v' (l' ++ [⟨⟨kd, nm, tx, sp, dp, pr, cn, ks, fr, tt⟩, .slice ka kn kc⟩]) := by
      refine TreeAt.snoc hT3.out hown4 (by rw [hW3]; exact hg4) (by rw [hW3]; simpa using hat4) hK3.out (fun g off n c e hl => hG3.out g off n c e hl)
    have hb4 : Below w.heap.size w w4 := hb03.grown (by rw [hW3]; exact hg4) hb03.size (fun k hk => (World.ownsRow.lt hT3.out.s k hk).1)
    have HT := Lib.hid hT4
    have HB := Lib.hid hb4
    have HM : Hid ((l' ++ [(⟨⟨kd, nm, tx, sp, dp, pr, cn, ks, fr, tt⟩, .slice ka kn kc⟩ : NB)]).map NB.n = (l.map NB.n).take (j + 1)) := Lib.hid (by rw [hm2.out, List.map_append, hm.out]; rfl)
    clear hown4 hg4 hat4 hT4 hb4 hT3 hK3 hG3 hb03 hb02 hb2 hW3
    go_wp2_with fail
    go_roundw
    case rel => exact ⟨_, j + 1, _, rfl, by go_num, by omega, HM, HT, HB⟩
    case measure => simp [intOf]; omega
  · have hltI : ¬ (j : Int) < (N : Int) := by omega
    have HM : Hid (l'.map NB.n = l.map NB.n) := Lib.hid (by rw [hm.out, List.take_of_length_le (by rw [List.length_map, ← HN.out]; omega)])
    clear hm
    go_wp2_with fail
    go_ret
    exact ⟨v, l', rfl, HM.out, hT.out, hb.out⟩
end Go.Proofs.YtnbdalohlldnbaaGreatDoor

namespace Go.Proofs.YtnbdalohlldnbaaGreatDoor
open Go.RowKit Bd
attribute [local go_sem ↓] Go.wp_at_zero Go.wp_at_succ
def orow (o : OpenL) : List Value := [.int .i64 o.node, .int .i64 o.space, .string o.name]
theorem orows_len (s : St) : (s.flatMap orow).length = s.length * 3 := by
  induction s with
  | nil => rfl
  | cons x r ih => rw [List.flatMap_cons, List.length_append, ih, List.length_cons]; show 3 + _ = _; omega
theorem orows_at (s : St) : ∀ (j : Nat) (y : OpenL), s[j]? = some y → ∀ k u, (orow y)[k]? = some u → (s.flatMap orow)[j * 3 + k]? = some u := by
  induction s with
  | nil => intro j d h; simp at h
  | cons x r ih =>
    intro j d h k u hk
    have hk2 : k < 3 := (List.getElem?_eq_some_iff.1 hk).1
    cases j with
    | zero => obtain rfl : x = d := by simpa using h
              rw [List.flatMap_cons, List.getElem?_append_left (by show 0 * 3 + k < 3; omega), Nat.zero_mul, Nat.zero_add]; exact hk
    | succ j =>
      rw [List.flatMap_cons, List.getElem?_append_right (by show 3 ≤ _; omega), show (j + 1) * 3 + k - (orow x).length = j * 3 + k by show (j + 1) * 3 + k - 3 = _; omega]
      exact ih j d (by simpa using h) k u hk
theorem orows_take (s : St) : ∀ (k : Nat), (s.flatMap orow).take (k * 3) = (s.take k).flatMap orow := by
  induction s with
  | nil => intro k; simp
  | cons x r ih =>
    intro k
    cases k with
    | zero => simp
    | succ k =>
      rw [List.flatMap_cons, List.take_succ_cons, List.flatMap_cons, ← ih k, List.take_append, List.take_of_length_le (by show 3 ≤ _; omega), show (k + 1) * 3 - (orow x).length = k * 3 by show (k + 1) * 3 - 3 = _; omega]
/-- The labels of a stack's blocks. -/
def cSt (l : Nat) : Bool := l == 3 || l == 6
/-- A stack. -/
structure StH (own : Nat → Nat) (w : World) (sp ap : Nat) (sv : Value) (s : St) : Prop where
  o : own sp = 3
  h : w.heap[sp]? = some (.cells #[.pointer (some ⟨ap, 0, none⟩), sv] 82 (0, 0))
  s : SlO own 6 w 116 3 sv s.length (s.flatMap orow)
theorem StH.keep {c : Nat → Bool} {own own' : Nat → Nat} {w w' : World} {sp ap : Nat} {sv : Value} {s : St} (h : StH own w sp ap sv s) (hf : Fr c own own' w w') (hc : ∀ x, cSt x = true → c x = false) : StH own' w' sp ap sv s :=
  ⟨by rw [hf.old sp (row_lt h.h)]; exact h.o, hf.keep h.h (by rw [h.o]; exact hc 3 rfl), h.s.keep hf (hc 6 rfl)⟩
theorem StH.below {own : Nat → Nat} {w w' : World} {sp ap : Nat} {sv : Value} {s : St} (h : StH own w sp ap sv s) (hb : Below w.heap.size w w') (hL : Lbl own w) : StH own w' sp ap sv s :=
  h.keep (c := fun _ => false) (Fr.of_below hb hL) (fun _ _ => rfl)
/-- The cells of an open element. -/
theorem StH.cells {own : Nat → Nat} {w : World} {sp ap : Nat} {sv : Value} {s : St} (h : StH own w sp ap sv s) {j : Nat} {x : OpenL} (hj : s[j]? = some x) : ∃ g cap, sv = .slice (some ⟨g, 0, none⟩) s.length cap ∧ s.length ≤ cap ∧
    w.cell? ⟨g, j * 3, none⟩ = some (.int .i64 x.node) ∧ w.cell? ⟨g, j * 3 + 1, none⟩ = some (.int .i64 x.space) ∧ w.cell? ⟨g, j * 3 + 2, none⟩ = some (.string x.name) := by
  obtain ⟨g, cap, e, hc, h0⟩ := h.s.1.cell (orows_at s j x hj 0 _ rfl)
  have hk : ∀ k u, (orow x)[k]? = some u → w.cell? ⟨g, j * 3 + k, none⟩ = some u := fun k u hk => by
    obtain ⟨g', cap', e', _, hu⟩ := h.s.1.cell (orows_at s j x hj k u hk)
    rw [e] at e'
    injection e' with e1 e2 e3
    injection e1 with e1
    injection e1 with e1
    subst e1
    exact hu
  exact ⟨g, cap, e, hc, h0, hk 1 _ rfl, hk 2 _ rfl⟩
theorem SLen_any {own : Nat → Nat} {w : World} {sp ap : Nat} {sv : Value} {s : St} (h : StH own w sp ap sv s) : Calls Tryz.prog 20 #[.pointer (some ⟨sp, 0, none⟩)] w (RI s.length w) := by
  have c1 := rowAt h.h 1 _ rfl
  obtain ⟨a, c, rfl, _⟩ := h.s.1.form
  clear h
  go_enter Tryz.func20, Tryz.ntmps20
  go_wp2_with fail
  go_ret
  exact ⟨rfl, rfl⟩
theorem SNone_any {own : Nat → Nat} {w : World} {sp ap : Nat} {sv : Value} {s : St} (h : StH own w sp ap sv s) : Calls Tryz.prog 171 #[.pointer (some ⟨sp, 0, none⟩)] w (RB false w) := by
  have c0 := rowAt h.h 0 _ rfl
  clear h
  go_enter Tryz.func171, Tryz.ntmps171
  go_wp2_with fail
  go_ret
  exact ⟨rfl, rfl⟩
theorem atS_of {s : St} {j : Nat} {x : OpenL} (h : s[j]? = some x) : atS s (j : Int) = x.node := by
  have := (List.getElem?_eq_some_iff.1 h).1
  unfold atS
  rw [if_neg (by simp; omega), show ((j : Int)).toNat = j from rfl, List.getD_eq_getElem?_getD, List.getElem?_map, h]; rfl
theorem SAt_any {own : Nat → Nat} {w : World} {sp ap : Nat} {sv : Value} {s : St} (k : Int) (h : StH own w sp ap sv s) : Calls Tryz.prog 49 #[.pointer (some ⟨sp, 0, none⟩), .int .i64 k] w (RI (atS s k) w) := by
  have cL := Lib.hid (SLen_any h)
  have c1 := rowAt h.h 1 _ rfl
  by_cases h0 : k < 0
  · have hR : atS s k = -1 := by unfold atS; rw [if_pos (by simp; omega)]
    rw [hR]
    clear hR c1 h cL
    go_enter Tryz.func49, Tryz.ntmps49
    go_wp2_with fail
    go_ret
    exact ⟨rfl, rfl⟩
  · obtain ⟨j, rfl⟩ : ∃ j : Nat, k = (j : Int) := ⟨k.toNat, by omega⟩
    by_cases h1 : j < s.length
    · have hj := List.getElem?_eq_getElem h1
      rw [atS_of hj]
      obtain ⟨g, cap, rfl, hc, k0, _, _⟩ := h.cells hj
      generalize s[j] = x at *
      generalize s.length = n at *
      have i0 : (0 : Int) ≤ (j : Int) := by omega
      have i1 : (j : Int) < (n : Int) := by omega
      clear h hj h0
      go_enter Tryz.func49, Tryz.ntmps49
      go_wp2_with fail
      refine cL.out.mono ?_
      rintro e w1 ⟨rfl, rfl⟩
      go_wp2_with fail
      go_ret
      exact ⟨rfl, rfl⟩
    · have hR : atS s (j : Int) = -1 := by unfold atS; rw [if_pos (by simp; omega)]
      rw [hR]
      generalize s.length = n at *
      have i1 : (n : Int) ≤ (j : Int) := by omega
      clear hR c1 h
      go_enter Tryz.func49, Tryz.ntmps49
      go_wp2_with fail
      refine cL.out.mono ?_
      rintro e w1 ⟨rfl, rfl⟩
      go_wp2_with fail
      go_ret
      exact ⟨rfl, rfl⟩
theorem STop_any {own : Nat → Nat} {w : World} {sp ap : Nat} {sv : Value} {s : St} (h : StH own w sp ap sv s) (hs : s.length ≤ 1000000) : Calls Tryz.prog 111 #[.pointer (some ⟨sp, 0, none⟩)] w (RI (topS s) w) := by
  have cL := Lib.hid (SLen_any h)
  have cA := Lib.hid (SAt_any ((s.length : Int) - 1) h)
  unfold topS
  generalize atS s _ = R at *
  generalize s.length = n at *
  clear h
  go_enter Tryz.func111, Tryz.ntmps111
  go_wp2_with fail
  refine cL.out.mono ?_
  rintro e w1 ⟨rfl, rfl⟩
  go_wp2_with fail
  refine cA.out.mono ?_
  rintro e w1 ⟨rfl, rfl⟩
  go_wp2_with fail
  go_ret
  exact ⟨rfl, rfl⟩
/-- The last place in the first k of a list. -/
theorem lastIdx_take {α : Type} (p : α → Bool) (l : List α) (k : Nat) (x : α) (h : l[k]? = some x) : lastIdx p (l.take (k + 1)) = if p x then (k : Int) else lastIdx p (l.take k) := by
  have hk := (List.getElem?_eq_some_iff.1 h).1
  have ht : l.take (k + 1) = l.take k ++ [x] := by rw [List.take_add_one, h]; rfl
  unfold lastIdx
  rw [ht, List.reverse_append, List.reverse_singleton, List.singleton_append, List.findIdx?_cons]
  by_cases hp : p x
  · rw [if_pos hp, if_pos hp]; simp; omega
  · rw [if_neg hp, if_neg hp]
    cases (List.take k l).reverse.findIdx? p with
    | none => rfl
    | some m => simp; omega
theorem SIndex_any {own : Nat → Nat} {w : World} {sp ap : Nat} {sv : Value} {s : St} (i : Int) (h : StH own w sp ap sv s) (hs : s.length ≤ 1000000) : Calls Tryz.prog 115 #[.pointer (some ⟨sp, 0, none⟩), .int .i64 i] w (RI (indexS s i) w) := by
  have cL := Lib.hid (SLen_any h)
  have c1 := Lib.hid (rowAt h.h 1 _ rfl)
  have hC : Hid (∀ (j : Nat) (x : OpenL), s[j]? = some x → ∃ g cap, sv = .slice (some ⟨g, 0, none⟩) s.length cap ∧ s.length ≤ cap ∧ w.cell? ⟨g, j * 3, none⟩ = some (.int .i64 x.node)) := Lib.hid (fun j x hj => by
    obtain ⟨g, cap, e, hc, k0, _, _⟩ := h.cells hj
    exact ⟨g, cap, e, hc, k0⟩)
  have HR : Hid (lastIdx (fun o : OpenL => o.node == i) (s.take s.length) = indexS s i) := Lib.hid (by rw [List.take_length]; rfl)
  have HX : Hid (∀ j : Nat, j < s.length → ∃ x, s[j]? = some x) := Lib.hid (fun j hj => ⟨_, List.getElem?_eq_getElem hj⟩)
  generalize indexS s i = R at *
  obtain ⟨n, hn⟩ : ∃ n, n = s.length := ⟨_, rfl⟩
  rw [← hn] at hs cL hC HR HX
  clear h hn
  go_enter Tryz.func115, Tryz.ntmps115
  go_wp2_with fail
  refine cL.out.mono ?_
  rintro e w1 ⟨rfl, rfl⟩
  go_wp2_with fail
  go_loopw [5] (fun y wr => ∃ k : Nat, y = .int .i64 ((k : Int) - 1) ∧ k ≤ n ∧ Hid (lastIdx (fun o : OpenL => o.node == i) (s.take k) = R) ∧ w = wr) (fun y _ => (intOf y + 1).toNat)
  case atStart => exact ⟨n, rfl, Nat.le_refl _, HR, rfl⟩
  case round =>
  obtain ⟨k, rfl, hk, hR, rfl⟩ := hrel
  clear HR
  cases k with
  | zero =>
    have HQ : Hid (R = -1) := by show _ = _; rw [← hR.out]; rfl
    clear hR hC HX cL c1
    go_wp2_with fail
    go_ret
    exact ⟨by rw [HQ.out]; rfl, rfl⟩
  | succ k =>
    obtain ⟨x, hx⟩ := HX.out k (by omega)
    obtain ⟨g, cap, e1, hc, k0⟩ := hC.out k x hx
    have hR2 := hR.out
    rw [lastIdx_take _ s k x hx] at hR2
    have c2 := c1.out
    rw [e1] at c2
    have ek : (((k + 1 : Nat) : Int) - 1) = (k : Int) := by omega
    rw [ek]
    have i0 : (0 : Int) ≤ (k : Int) := by omega
    have i1 : (k : Int) < (n : Int) := by omega
    obtain ⟨q, hq⟩ : ∃ q, (x.node == i) = q := ⟨_, rfl⟩
    rw [hq] at hR2
    cases q with
    | true =>
      have HQ : Hid (R = (k : Int)) := by show _ = _; rw [← hR2]; rfl
      clear hR hR2 e1 hC HX cL c1 ek hx
      go_wp2_with fail
      go_ret
      exact ⟨by rw [HQ.out]; rfl, rfl⟩
    | false =>
      have HQ : Hid (lastIdx (fun o : OpenL => o.node == i) (s.take k) = R) := Lib.hid (by rw [← hR2]; rfl)
      have HM : Hid (((k : Int) - 1 + 1).toNat < ((k : Int) + 1).toNat) := Lib.hid (by omega)
      have HK : Hid (k ≤ n) := Lib.hid (by omega)
      clear hR hR2 e1 hC HX cL c1 ek hx
      go_wp2_with fail
      go_roundw
      case rel => exact ⟨k, rfl, HK.out, HQ, trivial⟩
      case measure => exact HM.out
end Go.Proofs.YtnbdalohlldnbaaGreatDoor

namespace Go.Proofs.YtnbdalohlldnbaaGreatDoor
open Go.RowKit Bd
attribute [local go_sem ↓] Go.wp_at_zero Go.wp_at_succ
theorem contains_infix (sub : List UInt8) : ∀ s, Lib.contains s sub = infixB sub s
  | [] => by
    unfold Lib.contains infixB
    cases sub with
    | nil => rfl
    | cons a t => rfl
  | b :: l => by
    have ih := contains_infix sub l
    unfold Lib.contains at ih ⊢
    unfold Lib.index infixB
    cases h : sub.isPrefixOf (b :: l) with
    | true => rfl
    | false =>
      rw [Bool.false_or, ← ih]
      rcases Lib.index_spec l sub with ⟨h1, _⟩ | ⟨i, h1, _⟩
      · rw [h1]; rfl
      · rw [h1]
        have : ((i : Int) == -1) = false := by rw [beq_eq_false_iff_ne]; omega
        simp [this]
        omega
theorem contains_one' (c : UInt8) : ∀ s : List UInt8, Lib.contains s [c] = s.contains c
  | [] => rfl
  | b :: s => by
    rw [contains_infix]
    have ih := contains_one' c s
    rw [contains_infix] at ih
    unfold infixB
    rw [ih, List.contains_cons]
    simp [List.isPrefixOf]
/-- What the walks ask of the package's variables. -/
structure EnvK (w : World) : Prop where
  ml : ∃ m, w.cell? ⟨5, 0, none⟩ = some (.int .i64 m)
  sc : ∀ j : Nat, j < 4 → w.cell? ⟨4, j, none⟩ = some (.string (scopesL.getD j Bd.em))
theorem Contains_c (s sub : Ba) (hs : s.size ≤ 1000000000) (w : World) (hE : EnvK w) : Calls Tryz.prog 194 #[.string s, .string sub] w (RB (infixB sub.data.toList s.data.toList) w) := by
  obtain ⟨m, hm⟩ := hE.ml
  exact (Tryz.strings_Contains s sub m w (by omega) hm).mono fun _ _ ⟨h1, h2⟩ => ⟨by rw [h1, contains_infix], h2.symm⟩
theorem in_any (l n : Ba) (hl : l.size ≤ 1000000) (hn : n.size ≤ 1000000) (w : World) (hE : EnvK w) : Calls Tryz.prog 161 #[.string l, .string n] w (RB (inK l n) w) := by
  have c1 := Lib.hid (Contains_c n ⟨#[32]⟩ (by omega) w hE)
  have c2 := Contains_c l ((⟨#[32]⟩ : Ba) ++ n ++ (⟨#[32]⟩ : Ba)) (by omega) w hE
  rw [show ((⟨#[32]⟩ : Ba) ++ n ++ (⟨#[32]⟩ : Ba)).data.toList = 32 :: (n.data.toList ++ [32]) by simp [ByteArray.data_append]] at c2
  replace c2 := Lib.hid c2
  have hq : inK l n = ((!n.toList.isEmpty && !infixB [32] n.data.toList) && infixB (32 :: (n.data.toList ++ [32])) l.data.toList) := by
    unfold inK
    have e1 : (n != Bd.em) = !n.toList.isEmpty := by
      rw [Lib.toList_data]
      by_cases h : n = Bd.em
      · subst h; rfl
      · have h2 : n.data.toList ≠ [] := fun h2 => h (ByteArray.ext (Array.toList_inj.1 (by rw [h2]; rfl)))
        rw [bne_iff_ne.2 h, List.isEmpty_eq_false_iff.2 h2]; rfl
    have e2 : n.data.toList.contains 32 = infixB [32] n.data.toList := by
      rw [← contains_infix]; exact (contains_one' 32 _).symm
    rw [e1, e2]
  generalize inK l n = R at *
  generalize infixB [32] n.data.toList = q1 at *
  generalize infixB (32 :: (n.data.toList ++ [32])) l.data.toList = q2 at *
  have HQ := Lib.hid hq
  clear hq
  cases he : n.toList.isEmpty with
  | true =>
    clear c1 c2
    go_enter Tryz.func161, Tryz.ntmps161
    go_wp2_with fail
    go_ret
    exact ⟨by rw [HQ.out, he]; rfl, rfl⟩
  | false =>
    go_enter Tryz.func161, Tryz.ntmps161
    go_wp2_with fail
    refine c1.out.mono ?_
    rintro e w1 ⟨rfl, rfl⟩
    cases q1 with
    | true =>
      go_wp2_with fail
      go_ret
      exact ⟨by rw [HQ.out, he]; rfl, rfl⟩
    | false =>
      go_wp2_with fail
      refine c2.out.mono ?_
      rintro e w1 ⟨rfl, rfl⟩
      go_wp2_with fail
      go_ret
      exact ⟨by rw [HQ.out, he]; rfl, rfl⟩
theorem Implied_any (n : Ba) (hn : n.size ≤ 1000000) (w : World) (hE : EnvK w) : Calls Tryz.prog 160 #[.string n] w (RB (impliedK n) w) := by
  have c1 : Hid (Calls Tryz.prog 161 #[.string ⟨#[32, 100, 100, 32, 100, 116, 32, 108, 105, 32, 111, 112, 116, 103, 114, 111, 117, 112, 32, 111, 112, 116, 105, 111, 110, 32, 112, 32, 114, 98, 32, 114, 112, 32, 114, 116, 32, 114, 116, 99, 32]⟩, .string n] w (RB (impliedK n) w)) := Lib.hid (in_any impliedS n (by decide +kernel) hn w hE)
  go_enter Tryz.func160, Tryz.ntmps160
  go_wp2_with fail
  refine c1.out.mono ?_
  rintro e w1 ⟨rfl, rfl⟩
  go_wp2_with fail
  go_ret
  exact ⟨rfl, rfl⟩
set_option maxRecDepth 100000 in
theorem Special_any (sp : Int) (n : Ba) (hn : n.size ≤ 1000000) (w : World) (hE : EnvK w) : Calls Tryz.prog 106 #[.int .i64 sp, .string n] w (RB (special sp n) w) := by
  have c1 := Lib.hid (in_any specialS n (by decide +kernel) hn w hE)
  have c2 := Lib.hid (in_any mathS n (by decide +kernel) hn w hE)
  have c3 := Lib.hid (in_any svgS n (by decide +kernel) hn w hE)
  obtain ⟨R, hR⟩ : ∃ R, R = special sp n := ⟨_, rfl⟩
  rw [← hR]
  unfold special at hR
  generalize inK specialS n = r1 at *
  generalize inK mathS n = r2 at *
  generalize inK svgS n = r3 at *
  obtain ⟨q1, h1⟩ : ∃ q, (sp == 0) = q := ⟨_, rfl⟩
  obtain ⟨q2, h2⟩ : ∃ q, (sp == 2) = q := ⟨_, rfl⟩
  obtain ⟨q3, h3⟩ : ∃ q, (sp == 1) = q := ⟨_, rfl⟩
  rw [h1, h2, h3] at hR
  have HR := Lib.hid hR
  clear hR
  go_enter Tryz.func106, Tryz.ntmps106
  cases q1 with
  | true =>
    go_wp2_with fail
    refine c1.out.mono ?_
    rintro e w1 ⟨rfl, rfl⟩
    go_wp2_with fail
    go_ret
    exact ⟨by rw [HR.out]; rfl, rfl⟩
  | false =>
    cases q2 with
    | true =>
      go_wp2_with fail
      refine c2.out.mono ?_
      rintro e w1 ⟨rfl, rfl⟩
      go_wp2_with fail
      go_ret
      exact ⟨by rw [HR.out]; rfl, rfl⟩
    | false =>
      cases q3 with
      | true =>
        go_wp2_with fail
        refine c3.out.mono ?_
        rintro e w1 ⟨rfl, rfl⟩
        go_wp2_with fail
        go_ret
        exact ⟨by rw [HR.out]; rfl, rfl⟩
      | false =>
        go_wp2_with fail
        go_ret
        exact ⟨by rw [HR.out]; rfl, rfl⟩
end Go.Proofs.YtnbdalohlldnbaaGreatDoor

namespace Go.Proofs.YtnbdalohlldnbaaGreatDoor
open Go.RowKit Bd
attribute [local go_sem ↓] Go.wp_at_zero Go.wp_at_succ
theorem Scope_any (which sp : Int) (n : Ba) (hn : n.size ≤ 1000000) (w : World) (hE : EnvK w) : Calls Tryz.prog 206 #[.int .i64 which, .int .i64 sp, .string n] w (RB (scopeK which sp n) w) := by
  by_cases h0 : which < 0
  · have hR : scopeK which sp n = false := by unfold scopeK; rw [if_pos (by simp; omega)]
    rw [hR]
    clear hE hR hn
    go_enter Tryz.func206, Tryz.ntmps206
    go_wp2_with fail
    go_ret
    exact ⟨rfl, rfl⟩
  · by_cases h1 : 4 ≤ which
    · have hR : scopeK which sp n = false := by unfold scopeK; rw [if_pos (by simp; omega)]
      rw [hR]
      clear hE hR hn
      go_enter Tryz.func206, Tryz.ntmps206
      go_wp2_with fail
      go_ret
      exact ⟨rfl, rfl⟩
    · have hS := Lib.hid (Special_any sp n hn w hE)
      obtain ⟨j, rfl⟩ : ∃ j : Nat, which = (j : Int) := ⟨which.toNat, by omega⟩
      have hj4 : j < 4 := by omega
      have k0 := hE.sc j hj4
      have hI := Lib.hid (in_any (scopesL.getD j Bd.em) n (by
        have : ∀ k, k < 4 → (scopesL.getD k Bd.em).size ≤ 1000000 := by decide +kernel
        exact this j hj4) hn w hE)
      obtain ⟨R, hR⟩ : ∃ R, R = scopeK (j : Int) sp n := ⟨_, rfl⟩
      rw [← hR]
      unfold scopeK at hR
      rw [if_neg (by simp; omega), show ((j : Int)).toNat = j from rfl] at hR
      generalize special sp n = r1 at *
      generalize inK (scopesL.getD j Bd.em) n = r2 at *
      generalize scopesL.getD j Bd.em = sl at *
      obtain ⟨q1, hq1⟩ : ∃ q, (sp == 0) = q := ⟨_, rfl⟩
      have HR := Lib.hid hR
      have i0 : (0 : Int) ≤ (j : Int) := by omega
      have i1 : (j : Int) < 4 := by omega
      clear hR hE hn
      cases q1 with
      | true =>
        have HQ : Hid (R = r2) := by show _ = _; rw [HR.out, hq1]; rfl
        clear HR
        go_enter Tryz.func206, Tryz.ntmps206
        go_wp2_with fail
        refine hI.out.mono ?_
        rintro e w1 ⟨rfl, rfl⟩
        go_wp2_with fail
        go_ret
        exact ⟨by rw [HQ.out]; rfl, rfl⟩
      | false =>
        by_cases hj3 : (j : Int) = 3
        · have HQ : Hid (R = false) := by show _ = _; rw [HR.out, hq1, hj3]; rfl
          clear HR
          go_enter Tryz.func206, Tryz.ntmps206
          go_wp2_with fail
          go_ret
          exact ⟨by rw [HQ.out]; rfl, rfl⟩
        · have HQ : Hid (R = ((j : Int) != 3 && r1)) := by show _ = _; rw [HR.out, hq1]; rfl
          clear HR
          go_enter Tryz.func206, Tryz.ntmps206
          go_wp2_with fail
          refine hS.out.mono ?_
          rintro e w1 ⟨rfl, rfl⟩
          go_wp2_with fail
          go_ret
          exact ⟨by rw [HQ.out]; rfl, rfl⟩
/-- Names, as a call's arguments hold them. -/
def NmAt (w : World) (v : Value) (ns : List Ba) : Prop := (∃ c, v = .slice none 0 c ∧ ns = []) ∨ ∃ g o n c, v = .slice (some ⟨g, o, none⟩) n c ∧ n = ns.length ∧ n ≤ c ∧ ns.length ≤ 1000000 ∧ ∀ j, j < ns.length → w.cell? ⟨g, o + j, none⟩ = some (.string (ns.getD j ByteArray.empty))
theorem containsS_eq (x : Ba) : ∀ zs : List Ba, Lib.containsS zs x = zs.contains x
  | [] => rfl
  | z :: zs => by
    have ih := containsS_eq x zs
    rw [List.contains_cons, ← ih]
    rw [Bool.eq_iff_iff, Bool.or_eq_true, Lib.containsS_iff, Lib.containsS_iff, beq_iff_eq, List.mem_cons]
theorem Contains_any {w : World} {v : Value} {ns : List Ba} (x : Ba) (h : NmAt w v ns) : Calls Tryz.prog 114 #[v, .string x] w (RB (ns.contains x) w) := by
  rcases h with ⟨c, rfl, rfl⟩ | ⟨g, o, n, c, rfl, rfl, hc, hb, hk⟩
  · exact (Tryz.slices_Contains_string_empty none c x w).mono fun _ _ ⟨h1, h2⟩ => ⟨h1, h2.symm⟩
  · exact (Tryz.slices_Contains_string g o ns.length c ns x w (Nat.le_refl _) (by omega) (fun j hj => hk j hj)).mono fun _ _ ⟨h1, h2⟩ => ⟨by rw [h1, List.take_length, containsS_eq], h2.symm⟩
theorem NmAt.below {w w' : World} {v : Value} {ns : List Ba} (h : NmAt w v ns) (hb : Below w.heap.size w w') : NmAt w' v ns := by
  rcases h with h | ⟨g, o, n, c, e1, e2, h3, h4, hk⟩
  · exact Or.inl h
  · exact Or.inr ⟨g, o, n, c, e1, e2, h3, h4, fun j hj => cell_later hb (hk j hj)⟩
theorem html_any (o : OpenL) {w : World} {v : Value} {ns : List Ba} (h : NmAt w v ns) : Calls Tryz.prog 172 #[.agg #[.int .i64 o.node, .int .i64 o.space, .string o.name], v] w fun e w' => e = .returned (.bool (htmlO o ns)) ∧ Below w.heap.size w w' := by
  obtain ⟨W1, hW1⟩ : ∃ W, W = w.alloc (.cells #[.int .i64 o.node, .int .i64 o.space, .string o.name] 116) := ⟨_, rfl⟩
  have hb1 : Below w.heap.size w W1 := by rw [hW1]; exact (Below.refl _ _).alloc (Nat.le_refl _) _
  have HR : Hid ((w.alloc (.cells #[.int .i64 o.node, .int .i64 o.space, .string o.name] 116)).heap[w.heap.size]? = some (.cells #[.int .i64 o.node, .int .i64 o.space, .string o.name] 116 (0, 0))) := Lib.hid (heap_new _ _)
  have cC := Contains_any o.name (h.below hb1)
  rw [hW1] at cC hb1
  replace cC := Lib.hid cC
  obtain ⟨q1, hq1⟩ : ∃ q, (o.space == 0) = q := ⟨_, rfl⟩
  have HQ : Hid (htmlO o ns = (q1 && ns.contains o.name)) := by show _ = _; rw [← hq1]; rfl
  generalize htmlO o ns = R at *
  generalize ns.contains o.name = q2 at *
  clear hW1 h
  cases q1 with
  | true =>
    go_enter Tryz.func172, Tryz.ntmps172
    have c1 := rowAt HR.out 1 _ rfl
    have c2 := rowAt HR.out 2 _ rfl
    go_wp2_with fail
    refine cC.out.mono ?_
    rintro e w1 ⟨rfl, rfl⟩
    go_wp2_with fail
    go_ret
    exact ⟨by rw [HQ.out]; rfl, hb1⟩
  | false =>
    go_enter Tryz.func172, Tryz.ntmps172
    have c1 := rowAt HR.out 1 _ rfl
    have c2 := rowAt HR.out 2 _ rfl
    go_wp2_with fail
    go_ret
    exact ⟨by rw [HQ.out]; rfl, hb1⟩
end Go.Proofs.YtnbdalohlldnbaaGreatDoor
