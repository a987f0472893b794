/-
  lazaretref08.Same, lazaretlaw08.Same: are two URLs one, and their paths?
  lazaretlaw08.Same; package urls: at.
-/
import Derived.Test.YthijceooebebfaaGreatDoorM28
namespace Go.Proofs.YthijceooebebfaaGreatDoor
open Go.RowKit
theorem url_dec2 (a1 a2 a3 a5 a11 a12 b1 b2 b3 b5 b11 b12 : List UInt8) (a4 a7 a9 a10 b4 b7 b9 b10 : Bool) (a6 b6 : Int) (a8 b8 : List (List UInt8)) :
    decide ((⟨a1, a2, a3, a4, a5, a6, a7, a8, a9, a10, a11, a12⟩ : Lz.UrlL) = ⟨b1, b2, b3, b4, b5, b6, b7, b8, b9, b10, b11, b12⟩) = (decide (a8 = b8) && (decide (a1 = b1) && (decide (a2 = b2) && (decide (a3 = b3) && ((a4 == b4) && (decide (a5 = b5) && ((a6 == b6) && ((a7 == b7) && ((a9 == b9) && ((a10 == b10) && (decide (a11 = b11) && (decide (a12 = b12) && true)))))))))))) := by
  rw [Bool.eq_iff_iff]
  simp only [decide_eq_true_eq, Bool.and_eq_true, beq_iff_eq, Lz.UrlL.mk.injEq]
  constructor
  · rintro ⟨h1, h2, h3, h4, h5, h6, h7, h8, h9, h10, h11, h12⟩
    exact ⟨h8, h1, h2, h3, h4, h5, h6, h7, h9, h10, h11, h12, trivial⟩
  · rintro ⟨h8, h1, h2, h3, h4, h5, h6, h7, h9, h10, h11, h12, _⟩
    exact ⟨h1, h2, h3, h4, h5, h6, h7, h8, h9, h10, h11, h12⟩
set_option maxHeartbeats 8000000 in
set_option maxRecDepth 100000 in
theorem refSame_any (v1 v2 : Value) (u1 u2 : Lz.UrlL) (w : World) (h1 : UrlVal w v1 u1) (h2 : UrlVal w v2 u2) (hL : u1.path.length ≤ 1000000000) : Calls Tryz.prog 27 #[v1, v2] w (RBool (decide (u1 = u2)) w) := by
  obtain ⟨sch, usr, pas, hh, hst, prt, opq, a, c, xs, hq, hf, qry, frg, rfl, rfl, hx1⟩ := h1.form
  obtain ⟨sch2, usr2, pas2, hh2, hst2, prt2, opq2, a2, c2, xs2, hq2, hf2, qry2, frg2, rfl, rfl, hx2⟩ := h2.form
  rw [url_dec2]
  obtain ⟨W, hW⟩ : ∃ W, W = (w.alloc (.cells #[.string sch, .string usr, .string pas, .bool hh, .string hst, .int .i64 prt, .bool opq, .slice a xs.length c, .bool hq, .bool hf, .string qry, .string frg] 27)).alloc (.cells #[.string sch2, .string usr2, .string pas2, .bool hh2, .string hst2, .int .i64 prt2, .bool opq2, .slice a2 xs2.length c2, .bool hq2, .bool hf2, .string qry2, .string frg2] 27) := ⟨_, rfl⟩
  have hbW : Below w.heap.size w W := by rw [hW]; exact ((Below.refl _ w).alloc (Nat.le_refl _) _).alloc (by simp) _
  have hR1 : W.heap[w.heap.size]? = some (.cells #[.string sch, .string usr, .string pas, .bool hh, .string hst, .int .i64 prt, .bool opq, .slice a xs.length c, .bool hq, .bool hf, .string qry, .string frg] 27 (0, 0)) := by rw [hW, Below.heap_alloc _ _ _ (by simp)]; exact heap_new _ _
  have hR2 : W.heap[w.heap.size + 1]? = some (.cells #[.string sch2, .string usr2, .string pas2, .bool hh2, .string hst2, .int .i64 prt2, .bool opq2, .slice a2 xs2.length c2, .bool hq2, .bool hf2, .string qry2, .string frg2] 27 (0, 0)) := by rw [hW]; exact heap_new2 _ _ _
  have hw1 := row_lt hR1
  have hw2 := row_lt hR2
  have hrow : ∀ w1, Below W.heap.size W w1 → w1.heap[w.heap.size]? = some (.cells #[.string sch, .string usr, .string pas, .bool hh, .string hst, .int .i64 prt, .bool opq, .slice a xs.length c, .bool hq, .bool hf, .string qry, .string frg] 27 (0, 0)) ∧ w1.heap[w.heap.size + 1]? = some (.cells #[.string sch2, .string usr2, .string pas2, .bool hh2, .string hst2, .int .i64 prt2, .bool opq2, .slice a2 xs2.length c2, .bool hq2, .bool hf2, .string qry2, .string frg2] 27 (0, 0)) := fun w1 hb => ⟨(hb.block _ hw1).trans hR1, (hb.block _ hw2).trans hR2⟩
  have t7 := rowAt hR1 7 (.slice a xs.length c) rfl
  have s7 := rowAt hR2 7 (.slice a2 xs2.length c2) rfl
  rw [List.length_map] at hL
  rw [← same_text sch sch2]
  obtain ⟨e0, E0⟩ : ∃ e, (sch.toList == sch2.toList) = e := ⟨_, rfl⟩
  rw [E0]
  rw [← same_text usr usr2]
  obtain ⟨e1, E1⟩ : ∃ e, (usr.toList == usr2.toList) = e := ⟨_, rfl⟩
  rw [E1]
  rw [← same_text pas pas2]
  obtain ⟨e2, E2⟩ : ∃ e, (pas.toList == pas2.toList) = e := ⟨_, rfl⟩
  rw [E2]
  obtain ⟨e3, E3⟩ : ∃ e, (hh == hh2) = e := ⟨_, rfl⟩
  rw [E3]
  rw [← same_text hst hst2]
  obtain ⟨e4, E4⟩ : ∃ e, (hst.toList == hst2.toList) = e := ⟨_, rfl⟩
  rw [E4]
  obtain ⟨e5, E5⟩ : ∃ e, (prt == prt2) = e := ⟨_, rfl⟩
  rw [E5]
  obtain ⟨e6, E6⟩ : ∃ e, (opq == opq2) = e := ⟨_, rfl⟩
  rw [E6]
  obtain ⟨e7, E7⟩ : ∃ e, (hq == hq2) = e := ⟨_, rfl⟩
  rw [E7]
  obtain ⟨e8, E8⟩ : ∃ e, (hf == hf2) = e := ⟨_, rfl⟩
  rw [E8]
  rw [← same_text qry qry2]
  obtain ⟨e9, E9⟩ : ∃ e, (qry.toList == qry2.toList) = e := ⟨_, rfl⟩
  rw [E9]
  rw [← same_text frg frg2]
  obtain ⟨e10, E10⟩ : ∃ e, (frg.toList == frg2.toList) = e := ⟨_, rfl⟩
  rw [E10]
  obtain ⟨q, hqq⟩ : ∃ q, q = (decide (xs.map (fun x : ByteArray => x.data.toList) = xs2.map (fun x : ByteArray => x.data.toList)) && (e0 && (e1 && (e2 && (e3 && (e4 && (e5 && (e6 && (e7 && (e8 && (e9 && (e10 && true)))))))))))) := ⟨_, rfl⟩
  rw [← hqq]
  have Hq := Lib.hid hqq
  have HW := Lib.hid hW
  have Hrow := Lib.hid hrow
  clear hqq hW hrow
  by_cases hl : xs.length = xs2.length
  · have hlI : ((xs.length : Int) != (xs2.length : Int)) = false := by rw [hl]; simp
    have Hl := Lib.hid hl
    have Hx1 : Hid (∀ (j : Nat) (x : ByteArray), xs[j]? = some x → ∃ G o, a = some ⟨G, o, none⟩ ∧ G < w.heap.size ∧ w.cell? ⟨G, o + j, none⟩ = some (.string x)) := Lib.hid hx1
    have Hx2 : Hid (∀ (j : Nat) (x : ByteArray), xs2[j]? = some x → ∃ G o, a2 = some ⟨G, o, none⟩ ∧ G < w.heap.size ∧ w.cell? ⟨G, o + j, none⟩ = some (.string x)) := Lib.hid hx2
    clear hl hx1 hx2
    clear hR1 hR2
    go_enter Tryz.func27, Tryz.ntmps27
    simp only [List.append_eq, List.cons_append, List.nil_append]
    go_wp2_with (rw [← HW.out])
    clear t7 s7
    go_loopw [5] (fun k wr => ∃ i : Nat, k = .int .i64 i ∧ i ≤ xs.length ∧ Hid ((xs.map (fun x : ByteArray => x.data.toList)).take i = (xs2.map (fun x : ByteArray => x.data.toList)).take i) ∧ Below W.heap.size W wr) (fun k _ => xs.length - (intOf k).toNat)
    case atStart => exact ⟨0, rfl, Nat.zero_le _, Lib.hid (by simp), Below.refl _ _⟩
    case round =>
      obtain ⟨i, rfl, hi, hT, hbw⟩ := hrel
      obtain ⟨hr1, hr2⟩ := Hrow.out wr hbw
      have hl1 := row_lt hr1
      have hl2 := row_lt hr2
      have p7 := rowAt hr1 7 (.slice a xs.length c) rfl
      have q7 := rowAt hr2 7 (.slice a2 xs2.length c2) rfl
      by_cases hlt : i < xs.length
      · have hltI : (i : Int) < (xs.length : Int) := by omega
        have hlt2 : i < xs2.length := by rw [← Hl.out]; exact hlt
        have hltI2 : (i : Int) < (xs2.length : Int) := by omega
        have hi0 : (0 : Int) ≤ (i : Int) := by omega
        obtain ⟨x, hx⟩ : ∃ x, x = xs[i] := ⟨_, rfl⟩
        obtain ⟨y, hy⟩ : ∃ y, y = xs2[i] := ⟨_, rfl⟩
        have hxg : xs[i]? = some x := by rw [List.getElem?_eq_getElem hlt, hx]
        have hyg : xs2[i]? = some y := by rw [List.getElem?_eq_getElem hlt2, hy]
        obtain ⟨G1, o1, ha1, hG1, hc1⟩ := Hx1.out i x hxg
        obtain ⟨G2, o2, ha2, hG2, hc2⟩ := Hx2.out i y hyg
        rw [ha1] at p7
        rw [ha2] at q7
        have hbw0 : Below w.heap.size w wr := hbW.trans (hbw.mono hbW.size)
        have d1 : wr.cell? ⟨G1, o1 + i, none⟩ = some (.string x) := by rw [hbw0.cell (p := ⟨G1, o1 + i, none⟩) hG1]; exact hc1
        have d2 : wr.cell? ⟨G2, o2 + i, none⟩ = some (.string y) := by rw [hbw0.cell (p := ⟨G2, o2 + i, none⟩) hG2]; exact hc2
        have hd := same_text x y
        have hstep : (xs.map (fun x : ByteArray => x.data.toList)).take (i + 1) = (xs.map (fun x : ByteArray => x.data.toList)).take i ++ [x.data.toList] ∧ (xs2.map (fun x : ByteArray => x.data.toList)).take (i + 1) = (xs2.map (fun x : ByteArray => x.data.toList)).take i ++ [y.data.toList] := by
          constructor
          · rw [List.take_succ_eq_append_getElem (by simpa using hlt)]; simp [hx]
          · rw [List.take_succ_eq_append_getElem (by simpa using hlt2)]; simp [hy]
        by_cases he : x.data.toList = y.data.toList
        · rw [decide_eq_true he] at hd
          have hT2 : Hid ((xs.map (fun x : ByteArray => x.data.toList)).take (i + 1) = (xs2.map (fun x : ByteArray => x.data.toList)).take (i + 1)) := by show _ = _; rw [hstep.1, hstep.2, hT.out, he]
          clear hx hy hxg hyg hc1 hc2 he hstep hT ha1 ha2 hr1 hr2
          go_wp2_with fail
          go_quiet (fail)
          have hbq : Below W.heap.size W (wr.drewN nq) := below_drewN hbw nq
          generalize wr.drewN nq = wq at hbq ⊢
          go_wp2_with fail
          go_roundw
          case rel => exact ⟨i + 1, by go_num, by omega, hT2, hbq⟩
          case measure => simp [intOf]; omega
        · rw [decide_eq_false he] at hd
          have HQ : Hid (q = false) := by
            show _ = _
            rw [Hq.out]
            rw [decide_eq_false (fun e => he ?_), Bool.false_and]
            have h1 := congrArg (List.take (i + 1)) e
            rw [hstep.1, hstep.2, hT.out] at h1
            simpa using List.append_cancel_left h1
          clear hx hy hxg hyg hc1 hc2 he hstep hT ha1 ha2 hr1 hr2
          go_wp2_with fail
          go_quiet (fail)
          have hbq : Below w.heap.size w (wr.drewN nq) := below_drewN hbw0 nq
          generalize wr.drewN nq = wq at hbq ⊢
          go_wp2_with fail
          go_ret
          exact ⟨by rw [HQ.out]; rfl, hbq⟩
      · have hltI : ¬ (i : Int) < (xs.length : Int) := by omega
        have hbw0 : Below w.heap.size w wr := hbW.trans (hbw.mono hbW.size)
        have Hq2 : Hid (q = ((e0 && (e1 && (e2 && (e3 && (e4 && (e5 && (e6 && (e7 && (e8 && (e9 && (e10 && true))))))))))))) := by
          show _ = _
          rw [Hq.out]
          rw [decide_eq_true, Bool.true_and]
          have h1 := hT.out
          rw [List.take_of_length_le (by simp; omega), List.take_of_length_le (by have := Hl.out; simp; omega)] at h1
          exact h1
        clear hT Hq
        have p0 := rowAt hr1 0 (.string sch) rfl
        have q0 := rowAt hr2 0 (.string sch2) rfl
        have p1 := rowAt hr1 1 (.string usr) rfl
        have q1 := rowAt hr2 1 (.string usr2) rfl
        have p2 := rowAt hr1 2 (.string pas) rfl
        have q2 := rowAt hr2 2 (.string pas2) rfl
        have p3 := rowAt hr1 3 (.bool hh) rfl
        have q3 := rowAt hr2 3 (.bool hh2) rfl
        have p4 := rowAt hr1 4 (.string hst) rfl
        have q4 := rowAt hr2 4 (.string hst2) rfl
        have p5 := rowAt hr1 5 (.int .i64 prt) rfl
        have q5 := rowAt hr2 5 (.int .i64 prt2) rfl
        have p6 := rowAt hr1 6 (.bool opq) rfl
        have q6 := rowAt hr2 6 (.bool opq2) rfl
        have p8 := rowAt hr1 8 (.bool hq) rfl
        have q8 := rowAt hr2 8 (.bool hq2) rfl
        have p9 := rowAt hr1 9 (.bool hf) rfl
        have q9 := rowAt hr2 9 (.bool hf2) rfl
        have p10 := rowAt hr1 10 (.string qry) rfl
        have q10 := rowAt hr2 10 (.string qry2) rfl
        have p11 := rowAt hr1 11 (.string frg) rfl
        have q11 := rowAt hr2 11 (.string frg2) rfl
        clear hr1 hr2
        cases e0 with
        | false =>
          have HQ : Hid (q = false) := by show _ = _; rw [Hq2.out]; rfl
          clear Hq2
          go_wp2_with fail
          go_ret
          exact ⟨by rw [HQ.out]; rfl, hbw0⟩
        | true =>
          cases e1 with
          | false =>
            have HQ : Hid (q = false) := by show _ = _; rw [Hq2.out]; rfl
            clear Hq2
            go_wp2_with fail
            go_ret
            exact ⟨by rw [HQ.out]; rfl, hbw0⟩
          | true =>
            cases e2 with
            | false =>
              have HQ : Hid (q = false) := by show _ = _; rw [Hq2.out]; rfl
              clear Hq2
              go_wp2_with fail
              go_ret
              exact ⟨by rw [HQ.out]; rfl, hbw0⟩
            | true =>
              cases e3 with
              | false =>
                have HQ : Hid (q = false) := by show _ = _; rw [Hq2.out]; rfl
                clear Hq2
                go_wp2_with fail
                go_ret
                exact ⟨by rw [HQ.out]; rfl, hbw0⟩
              | true =>
                cases e4 with
                | false =>
                  have HQ : Hid (q = false) := by show _ = _; rw [Hq2.out]; rfl
                  clear Hq2
                  go_wp2_with fail
                  go_ret
                  exact ⟨by rw [HQ.out]; rfl, hbw0⟩
                | true =>
                  cases e5 with
                  | false =>
                    have HQ : Hid (q = false) := by show _ = _; rw [Hq2.out]; rfl
                    clear Hq2
                    go_wp2_with fail
                    go_ret
                    exact ⟨by rw [HQ.out]; rfl, hbw0⟩
                  | true =>
                    cases e6 with
                    | false =>
                      have HQ : Hid (q = false) := by show _ = _; rw [Hq2.out]; rfl
                      clear Hq2
                      go_wp2_with fail
                      go_ret
                      exact ⟨by rw [HQ.out]; rfl, hbw0⟩
                    | true =>
                      cases e7 with
                      | false =>
                        have HQ : Hid (q = false) := by show _ = _; rw [Hq2.out]; rfl
                        clear Hq2
                        go_wp2_with fail
                        go_ret
                        exact ⟨by rw [HQ.out]; rfl, hbw0⟩
                      | true =>
                        cases e8 with
                        | false =>
                          have HQ : Hid (q = false) := by show _ = _; rw [Hq2.out]; rfl
                          clear Hq2
                          go_wp2_with fail
                          go_ret
                          exact ⟨by rw [HQ.out]; rfl, hbw0⟩
                        | true =>
                          cases e9 with
                          | false =>
                            have HQ : Hid (q = false) := by show _ = _; rw [Hq2.out]; rfl
                            clear Hq2
                            go_wp2_with fail
                            go_ret
                            exact ⟨by rw [HQ.out]; rfl, hbw0⟩
                          | true =>
                            cases e10 with
                            | false =>
                              have HQ : Hid (q = false) := by show _ = _; rw [Hq2.out]; rfl
                              clear Hq2
                              go_wp2_with fail
                              go_ret
                              exact ⟨by rw [HQ.out]; rfl, hbw0⟩
                            | true =>
                              have HQ : Hid (q = true) := by show _ = _; rw [Hq2.out]; rfl
                              clear Hq2
                              go_wp2_with fail
                              go_ret
                              exact ⟨by rw [HQ.out]; rfl, hbw0⟩
  · have hlI : ((xs.length : Int) != (xs2.length : Int)) = true := by simp; omega
    have HQ : Hid (q = false) := by
      show _ = _
      rw [Hq.out]
      rw [decide_eq_false (fun e => hl ?_), Bool.false_and]
      have := congrArg List.length e
      simpa using this
    clear hl hx1 hx2 hR1 hR2 Hq
    go_enter Tryz.func27, Tryz.ntmps27
    simp only [List.append_eq, List.cons_append, List.nil_append]
    go_wp2_with (rw [← HW.out])
    go_ret
    exact ⟨by rw [HQ.out]; rfl, hbW⟩
end Go.Proofs.YthijceooebebfaaGreatDoor

namespace Go.Proofs.YthijceooebebfaaGreatDoor
open Go.RowKit
set_option maxHeartbeats 2000000 in
set_option maxRecDepth 100000 in
theorem lawSame_any (v1 v2 : Value) (u1 u2 : Lz.UrlL) (w : World) (h1 : UrlVal w v1 u1) (h2 : UrlVal w v2 u2) (hL : u1.path.length ≤ 1000000000) : Calls Tryz.prog 18 #[v1, v2] w (RBool (decide (u1 = u2)) w) := by
  have hk1 : ∀ W, Below w.heap.size w W → UrlVal W v1 u1 := fun W hb => h1.below hb
  have hk2 : ∀ W, Below w.heap.size w W → UrlVal W v2 u2 := fun W hb => h2.below hb
  obtain ⟨sch, usr, pas, hh, hst, prt, opq, a, c, xs, hq, hf, qry, frg, rfl, hu1, hx1⟩ := h1.form
  obtain ⟨sch2, usr2, pas2, hh2, hst2, prt2, opq2, a2, c2, xs2, hq2, hf2, qry2, frg2, rfl, hu2, hx2⟩ := h2.form
  obtain ⟨W, hW⟩ : ∃ W, W = (w.alloc (.cells #[.string sch, .string usr, .string pas, .bool hh, .string hst, .int .i64 prt, .bool opq, .slice a xs.length c, .bool hq, .bool hf, .string qry, .string frg] 27)).alloc (.cells #[.string sch2, .string usr2, .string pas2, .bool hh2, .string hst2, .int .i64 prt2, .bool opq2, .slice a2 xs2.length c2, .bool hq2, .bool hf2, .string qry2, .string frg2] 27) := ⟨_, rfl⟩
  have hbW : Below w.heap.size w W := by rw [hW]; exact ((Below.refl _ w).alloc (Nat.le_refl _) _).alloc (by simp) _
  have hR1 : W.heap[w.heap.size]? = some (.cells #[.string sch, .string usr, .string pas, .bool hh, .string hst, .int .i64 prt, .bool opq, .slice a xs.length c, .bool hq, .bool hf, .string qry, .string frg] 27 (0, 0)) := by rw [hW, Below.heap_alloc _ _ _ (by simp)]; exact heap_new _ _
  have hR2 : W.heap[w.heap.size + 1]? = some (.cells #[.string sch2, .string usr2, .string pas2, .bool hh2, .string hst2, .int .i64 prt2, .bool opq2, .slice a2 xs2.length c2, .bool hq2, .bool hf2, .string qry2, .string frg2] 27 (0, 0)) := by rw [hW]; exact heap_new2 _ _ _
  have cS := Lib.hid (refSame_any _ _ _ _ W (hk1 W hbW) (hk2 W hbW) hL)
  generalize decide (u1 = u2) = q at cS ⊢
  have HW := Lib.hid hW
  have HR1 := Lib.hid hR1
  have HR2 := Lib.hid hR2
  clear hW hR1 hR2 hk1 hk2 h1 h2 hu1 hu2 hx1 hx2 hL
  go_enter Tryz.func18, Tryz.ntmps18
  go_wp2_with (first | rw [← HW.out] | (refine wpList_load_row rfl 27 (.tmp 2) rfl w.heap.size rfl 27 _ (0, 0) _ HR1.out Tryz.underlying27 rfl urlSize ?_) | (refine wpList_load_row rfl 27 (.tmp 3) rfl (w.heap.size + 1) rfl 27 _ (0, 0) _ HR2.out Tryz.underlying27 rfl urlSize ?_))
  refine cS.out.mono ?_
  rintro e w1 ⟨rfl, hb1⟩
  go_wp2_with fail
  go_ret
  exact ⟨rfl, below_call hbW hb1⟩

theorem decDigits_len2 : ∀ (k n : Nat), n < 10 ^ (k + 1) → (Lib.decDigits n).length ≤ k + 1
  | 0, n, h => by rw [Lib.decDigits, dif_pos (by simpa using h)]; simp
  | k + 1, n, h => by
    rw [Lib.decDigits]
    split
    · simp
    · rw [List.length_append]
      have := decDigits_len2 k (n / 10) (by rw [Nat.pow_succ] at h; omega)
      simp
      omega
theorem itoa_len2 {n : Int} (h0 : -9223372036854775808 ≤ n) (h1 : n ≤ 9223372036854775807) : (Lib.itoa n).length ≤ 21 := by
  unfold Lib.itoa
  split
  · have := decDigits_len2 19 n.natAbs (by omega)
    simp
    omega
  · have := decDigits_len2 19 n.toNat (by omega)
    omega
def AtE (w1 W : World) : Prop := EnvH W ∧ Below w1.heap.size w1 W
def AtS (hst : ByteArray) (prt : Int) (B : Nat) (w W : World) : Prop := W.cell? ⟨B, 4, none⟩ = some (.string hst) ∧ W.cell? ⟨B, 5, none⟩ = some (.int .i64 prt) ∧ AtE w W
set_option maxHeartbeats 2000000 in
set_option maxRecDepth 100000 in
theorem at_any (v : Value) (u : Lz.UrlL) (w : World) (hv : UrlVal w v u) (hE : EnvH w) (h0 : -9223372036854775808 ≤ u.port) (h1 : u.port ≤ 9223372036854775807) (hL : u.host.length ≤ 1000000000) : Calls Tryz.prog 29 #[v] w (RStr (Lz.atU u) w) := by
  obtain ⟨sch, usr, pas, hh, hst, prt, opq, a, c, xs, hq, hf, qry, frg, rfl, rfl, hx⟩ := hv.form
  replace h0 : -9223372036854775808 ≤ prt := h0
  replace h1 : prt ≤ 9223372036854775807 := h1
  replace hL : hst.data.toList.length ≤ 1000000000 := hL
  rw [len_of_size] at hL
  obtain ⟨goal, hg⟩ : ∃ goal, goal = Lz.atU ⟨sch.data.toList, usr.data.toList, pas.data.toList, hh, hst.data.toList, prt, opq, xs.map (fun x : ByteArray => x.data.toList), hq, hf, qry.data.toList, frg.data.toList⟩ := ⟨_, rfl⟩
  rw [← hg]
  have hg2 : goal = if prt = -1 then hst.data.toList else hst.data.toList ++ [58] ++ Lib.itoa prt := hg
  have HG := Lib.hid hg2
  obtain ⟨W, hW⟩ : ∃ W, W = w.alloc (.cells #[.string sch, .string usr, .string pas, .bool hh, .string hst, .int .i64 prt, .bool opq, .slice a xs.length c, .bool hq, .bool hf, .string qry, .string frg] 27) := ⟨_, rfl⟩
  have hbW : Below w.heap.size w W := by rw [hW]; exact (Below.refl _ w).alloc (Nat.le_refl _) _
  have hR : W.heap[w.heap.size]? = some (.cells #[.string sch, .string usr, .string pas, .bool hh, .string hst, .int .i64 prt, .bool opq, .slice a xs.length c, .bool hq, .bool hf, .string qry, .string frg] 27 (0, 0)) := by rw [hW]; exact heap_new _ _
  have hlt := row_lt hR
  have c4 := rowAt hR 4 (.string hst) rfl
  have c5 := rowAt hR 5 (.int .i64 prt) rfl
  have HW := Lib.hid hW
  have HE := Lib.hid (hE.below hbW)
  clear hW hR hv hx hg hg2 hE
  by_cases hp : prt = -1
  · have hpb : (prt == -1) = true := by simp [hp]
    have HG2 : Hid (goal = hst.data.toList) := by show _ = _; rw [HG.out, if_pos hp]
    clear hp
    go_enter Tryz.func29, Tryz.ntmps29
    go_wp2_with (rw [← HW.out])
    go_ret
    exact ⟨hst, rfl, Lib.hid HG2.out.symm, hbW⟩
  · have hpb : (prt == -1) = false := by simp [hp]
    have HG2 : Hid (goal = hst.data.toList ++ [58] ++ Lib.itoa prt) := by show _ = _; rw [HG.out, if_neg hp]
    clear hp
    have n1 : ¬ (9223372036854775807 < hst.size + 1) := by omega
    have hSd : AtS hst prt w.heap.size W W.drew := ⟨c4, c5, HE.out.below (Below.refl _ _).drew, (Below.refl _ _).drew⟩
    have cI : Hid (∀ V, AtS hst prt w.heap.size W V → Calls Tryz.prog 21 #[.int .i64 prt] V fun e w' => ∃ u : ByteArray, e = .returned (.string u) ∧ Hid (u.data.toList = Lib.itoa prt) ∧ u.size ≤ 21 ∧ AtS hst prt w.heap.size W w') := Lib.hid (by
      rintro V ⟨k4, k5, kE, kb⟩
      refine (Itoa_h prt h0 h1 V kE).mono ?_
      rintro e w' ⟨u, he, hu, hb'⟩
      have hlt' := Nat.lt_of_lt_of_le hlt kb.size
      exact ⟨u, he, hu, by rw [← len_of_size, hu.out]; exact itoa_len2 h0 h1, by rw [hb'.cell (p := ⟨w.heap.size, 4, none⟩) hlt']; exact k4, by rw [hb'.cell (p := ⟨w.heap.size, 5, none⟩) hlt']; exact k5, kE.below hb', below_call kb hb'⟩)
    go_enter Tryz.func29, Tryz.ntmps29
    go_wp2_with (rw [← HW.out])
    go_upto_region 3 with fail
    go_cut [2] (fun s wx => ∃ u : ByteArray, s = .string u ∧ Hid (u.data.toList = goal) ∧ Below w.heap.size w wx)
    case first =>
      go_region_held3 (fun V => V.cell? ⟨w.heap.size, 4, none⟩ = some (.string hst) ∧ V.cell? ⟨w.heap.size, 5, none⟩ = some (.int .i64 prt) ∧ AtE W V) (first | assumption | exact hSd) (first | (go_at_call 21; refine (cI.out _ (by assumption)).mono ?_; rintro e w2 ⟨t, rfl, ht, hs, hS2⟩; have n2 : ¬ (9223372036854775807 < hst.size + 1 + t.size) := (by omega)))
      go_wp2_with fail
      go_meet
      exact ⟨_, rfl, by show _ = _; rw [HG2.out, append_data', append_data', ht.out], hbW.trans (hS2.2.2.2.mono hbW.size)⟩
    case rest =>
      obtain ⟨u, rfl, hu, hb⟩ := hcut
      go_wp2_with fail
      go_ret
      exact ⟨_, rfl, hu, hb⟩
end Go.Proofs.YthijceooebebfaaGreatDoor
