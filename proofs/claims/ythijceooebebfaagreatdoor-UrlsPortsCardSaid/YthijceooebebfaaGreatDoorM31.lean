/-
  Package urls: same.
  Plain laws on lists of bytes: which errors reading a URL answers.
-/
import Derived.Test.YthijceooebebfaaGreatDoorM30
import Derived.Test.YthijceooebebfaaGreatDoorM14
namespace Go.Proofs.YthijceooebebfaaGreatDoor
open Go.RowKit
theorem url_dec (a1 a2 a3 a5 a11 a12 b1 b2 b3 b5 b11 b12 : List UInt8) (a4 a7 a9 a10 b4 b7 b9 b10 : Bool) (a6 b6 : Int) (a8 b8 : List (List UInt8)) :
    decide ((⟨a1, a2, a3, a4, a5, a6, a7, a8, a9, a10, a11, a12⟩ : Lz.UrlL) = ⟨b1, b2, b3, b4, b5, b6, b7, b8, b9, b10, b11, b12⟩) = (decide (a8 = b8) && decide ([a1, a2, a3, a5, a11, a12] = [b1, b2, b3, b5, b11, b12]) && (a4 == b4) && (a6 == b6) && (a7 == b7) && (a9 == b9) && (a10 == b10)) := by
  rw [Bool.eq_iff_iff]
  simp only [decide_eq_true_eq, Bool.and_eq_true, beq_iff_eq, Lz.UrlL.mk.injEq, List.cons.injEq]
  constructor
  · rintro ⟨h1, h2, h3, h4, h5, h6, h7, h8, h9, h10, h11, h12⟩
    exact ⟨⟨⟨⟨⟨⟨h8, h1, h2, h3, h5, h11, h12, trivial⟩, h4⟩, h6⟩, h7⟩, h9⟩, h10⟩
  · rintro ⟨⟨⟨⟨⟨⟨h8, h1, h2, h3, h5, h11, h12, _⟩, h4⟩, h6⟩, h7⟩, h9⟩, h10⟩
    exact ⟨h1, h2, h3, h4, h5, h6, h7, h8, h9, h10, h11, h12⟩
theorem six_at (w : World) (a b c d e f : ByteArray) {w' : World} (hb : Below (w.alloc (.cells #[.string a, .string b, .string c, .string d, .string e, .string f] 9)).heap.size (w.alloc (.cells #[.string a, .string b, .string c, .string d, .string e, .string f] 9)) w') : PathAt w' (.slice (some ⟨w.heap.size, 0, none⟩) 6 6) [a.data.toList, b.data.toList, c.data.toList, d.data.toList, e.data.toList, f.data.toList] := by
  refine ⟨_, 6, [a, b, c, d, e, f], rfl, rfl, fun j x hj => ⟨w.heap.size, 0, rfl, by have := hb.size; simp at this; omega, ?_⟩⟩
  rw [hb.cell (p := ⟨w.heap.size, 0 + j, none⟩) (by simp), Nat.zero_add, World.cell?_alloc_mark, ← Array.getElem?_toList]
  have : (#[Value.string a, .string b, .string c, .string d, .string e, .string f] : Array Value).toList = [a, b, c, d, e, f].map Value.string := rfl
  rw [this, List.getElem?_map, hj]; rfl
set_option maxHeartbeats 4000000 in
set_option maxRecDepth 100000 in
theorem same_any (v1 v2 : Value) (u1 u2 : Lz.UrlL) (w : World) (h1 : UrlVal w v1 u1) (h2 : UrlVal w v2 u2) (hL : u1.path.length ≤ 1000000000) : Calls Tryz.prog 32 #[v1, v2] w (RBool (decide (u1 = u2)) w) := by
  obtain ⟨sch, usr, pas, hh, hst, prt, opq, a, c, xs, hq, hf, qry, frg, rfl, rfl, hc1⟩ := h1.form
  obtain ⟨sch2, usr2, pas2, hh2, hst2, prt2, opq2, a2, c2, xs2, hq2, hf2, qry2, frg2, rfl, rfl, hc2⟩ := h2.form
  rw [url_dec]
  obtain ⟨W, hW⟩ : ∃ W, W = (w.alloc (.cells #[.string sch, .string usr, .string pas, .bool hh, .string hst, .int .i64 prt, .bool opq, .slice a xs.length c, .bool hq, .bool hf, .string qry, .string frg] 27)).alloc (.cells #[.string sch2, .string usr2, .string pas2, .bool hh2, .string hst2, .int .i64 prt2, .bool opq2, .slice a2 xs2.length c2, .bool hq2, .bool hf2, .string qry2, .string frg2] 27) := ⟨_, rfl⟩
  have hbW : Below w.heap.size w W := by rw [hW]; exact ((Below.refl _ w).alloc (Nat.le_refl _) _).alloc (by simp) _
  have hR1 : W.heap[w.heap.size]? = some (.cells #[.string sch, .string usr, .string pas, .bool hh, .string hst, .int .i64 prt, .bool opq, .slice a xs.length c, .bool hq, .bool hf, .string qry, .string frg] 27 (0, 0)) := by rw [hW, Below.heap_alloc _ _ _ (by simp)]; exact heap_new _ _
  have hR2 : W.heap[w.heap.size + 1]? = some (.cells #[.string sch2, .string usr2, .string pas2, .bool hh2, .string hst2, .int .i64 prt2, .bool opq2, .slice a2 xs2.length c2, .bool hq2, .bool hf2, .string qry2, .string frg2] 27 (0, 0)) := by rw [hW]; exact heap_new2 _ _ _
  have hw1 := row_lt hR1
  have hw2 := row_lt hR2
  have t7 := rowAt hR1 7 (.slice a xs.length c) rfl
  have s7 := rowAt hR2 7 (.slice a2 xs2.length c2) rfl
  have hrow : ∀ w1, Below W.heap.size W w1 → w1.heap[w.heap.size]? = some (.cells #[.string sch, .string usr, .string pas, .bool hh, .string hst, .int .i64 prt, .bool opq, .slice a xs.length c, .bool hq, .bool hf, .string qry, .string frg] 27 (0, 0)) ∧ w1.heap[w.heap.size + 1]? = some (.cells #[.string sch2, .string usr2, .string pas2, .bool hh2, .string hst2, .int .i64 prt2, .bool opq2, .slice a2 xs2.length c2, .bool hq2, .bool hf2, .string qry2, .string frg2] 27 (0, 0)) := fun w1 hb => ⟨(hb.block _ hw1).trans hR1, (hb.block _ hw2).trans hR2⟩
  have pa1 : PathAt W (.slice a xs.length c) (xs.map (fun x : ByteArray => x.data.toList)) := PathAt.below (w := w) ⟨a, c, xs, rfl, rfl, hc1⟩ hbW
  have pa2 : PathAt W (.slice a2 xs2.length c2) (xs2.map (fun x : ByteArray => x.data.toList)) := PathAt.below (w := w) ⟨a2, c2, xs2, rfl, rfl, hc2⟩ hbW
  have cE := Equal_any _ _ _ _ W pa1 pa2 hL
  have hsix : ∀ w1, Below W.heap.size W w1 → Calls Tryz.prog 43 #[.slice (some ⟨w1.heap.size, 0, none⟩) 6 6, .slice (some ⟨w1.heap.size + 1, 0, none⟩) 6 6] ((w1.alloc (.cells #[.string sch, .string usr, .string pas, .string hst, .string qry, .string frg] 9)).alloc (.cells #[.string sch2, .string usr2, .string pas2, .string hst2, .string qry2, .string frg2] 9)) (RBool (decide ([sch.data.toList, usr.data.toList, pas.data.toList, hst.data.toList, qry.data.toList, frg.data.toList] = [sch2.data.toList, usr2.data.toList, pas2.data.toList, hst2.data.toList, qry2.data.toList, frg2.data.toList])) ((w1.alloc (.cells #[.string sch, .string usr, .string pas, .string hst, .string qry, .string frg] 9)).alloc (.cells #[.string sch2, .string usr2, .string pas2, .string hst2, .string qry2, .string frg2] 9))) := fun w1 hb1 => by
    have h1 := six_at w1 sch usr pas hst qry frg (((Below.refl _ (w1.alloc (.cells #[.string sch, .string usr, .string pas, .string hst, .string qry, .string frg] 9))).alloc (Nat.le_refl _) (.cells #[.string sch2, .string usr2, .string pas2, .string hst2, .string qry2, .string frg2] 9)))
    have h2 := six_at (w1.alloc (.cells #[.string sch, .string usr, .string pas, .string hst, .string qry, .string frg] 9)) sch2 usr2 pas2 hst2 qry2 frg2 (Below.refl _ _)
    rw [show (w1.alloc (.cells #[.string sch, .string usr, .string pas, .string hst, .string qry, .string frg] 9)).heap.size = w1.heap.size + 1 by simp] at h2
    exact Equal_any _ _ _ _ _ h1 h2 (by simp)
  generalize decide (xs.map (fun x : ByteArray => x.data.toList) = xs2.map (fun x : ByteArray => x.data.toList)) = e1 at cE
  generalize decide ([sch.data.toList, usr.data.toList, pas.data.toList, hst.data.toList, qry.data.toList, frg.data.toList] = [sch2.data.toList, usr2.data.toList, pas2.data.toList, hst2.data.toList, qry2.data.toList, frg2.data.toList]) = e2 at hsix
  obtain ⟨b3, hb3⟩ : ∃ b3, (hh == hh2) = b3 := ⟨_, rfl⟩
  obtain ⟨b4, hb4⟩ : ∃ b4, (prt == prt2) = b4 := ⟨_, rfl⟩
  obtain ⟨b5, hb5⟩ : ∃ b5, (opq == opq2) = b5 := ⟨_, rfl⟩
  obtain ⟨b6, hb6⟩ : ∃ b6, (hq == hq2) = b6 := ⟨_, rfl⟩
  obtain ⟨b7, hb7⟩ : ∃ b7, (hf == hf2) = b7 := ⟨_, rfl⟩
  rw [hb3, hb4, hb5, hb6, hb7]
  obtain ⟨q, hqq⟩ : ∃ q, q = (e1 && e2 && b3 && b4 && b5 && b6 && b7) := ⟨_, rfl⟩
  rw [← hqq]
  have HQ0 := Lib.hid hqq
  have cE1 := Lib.hid cE
  have HW := Lib.hid hW
  have Hsix := Lib.hid hsix
  have Hrow := Lib.hid hrow
  clear hqq cE hW hR1 hR2 pa1 pa2 hc1 hc2 h1 h2 hsix hrow
  cases e1 with
  | false =>
    have HQ : Hid (q = false) := by show _ = _; rw [HQ0.out]; simp
    go_enter Tryz.func32, Tryz.ntmps32
    simp only [List.append_eq, List.cons_append, List.nil_append]
    go_wp2_with (rw [← HW.out])
    refine cE1.out.mono ?_
    rintro e w1 ⟨rfl, hb1⟩
    have hb01 := below_call hbW hb1
    go_wp2_with fail
    go_ret
    exact ⟨by rw [HQ.out]; rfl, hb01⟩
  | true =>
    cases e2 with
    | false =>
      have HQ : Hid (q = false) := by show _ = _; rw [HQ0.out]; simp
      go_enter Tryz.func32, Tryz.ntmps32
      simp only [List.append_eq, List.cons_append, List.nil_append]
      go_wp2_with (rw [← HW.out])
      refine cE1.out.mono ?_
      rintro e w1 ⟨rfl, hb1⟩
      have hb01 := below_call hbW hb1
      have hE2 := Lib.hid (Hsix.out w1 hb1)
      obtain ⟨hr1, hr2⟩ := Hrow.out w1 hb1
      have hl1 := row_lt hr1
      have hl2 := row_lt hr2
      have p0 := rowAt hr1 0 (.string sch) rfl
      have p1 := rowAt hr1 1 (.string usr) rfl
      have p2 := rowAt hr1 2 (.string pas) rfl
      have p3 := rowAt hr1 3 (.bool hh) rfl
      have p4 := rowAt hr1 4 (.string hst) rfl
      have p5 := rowAt hr1 5 (.int .i64 prt) rfl
      have p6 := rowAt hr1 6 (.bool opq) rfl
      have p7 := rowAt hr1 7 (.slice a xs.length c) rfl
      have p8 := rowAt hr1 8 (.bool hq) rfl
      have p9 := rowAt hr1 9 (.bool hf) rfl
      have p10 := rowAt hr1 10 (.string qry) rfl
      have p11 := rowAt hr1 11 (.string frg) rfl
      have q0 := rowAt hr2 0 (.string sch2) rfl
      have q1 := rowAt hr2 1 (.string usr2) rfl
      have q2 := rowAt hr2 2 (.string pas2) rfl
      have q3 := rowAt hr2 3 (.bool hh2) rfl
      have q4 := rowAt hr2 4 (.string hst2) rfl
      have q5 := rowAt hr2 5 (.int .i64 prt2) rfl
      have q6 := rowAt hr2 6 (.bool opq2) rfl
      have q7 := rowAt hr2 7 (.slice a2 xs2.length c2) rfl
      have q8 := rowAt hr2 8 (.bool hq2) rfl
      have q9 := rowAt hr2 9 (.bool hf2) rfl
      have q10 := rowAt hr2 10 (.string qry2) rfl
      have q11 := rowAt hr2 11 (.string frg2) rfl
      go_wp2_with fail
      refine hE2.out.mono ?_
      rintro e w2 ⟨rfl, hb2⟩
      have hb12 : Below w1.heap.size w1 w2 := (((Below.refl _ w1).alloc (Nat.le_refl _) _).alloc (by simp) _).trans (hb2.mono (by simp <;> omega))
      have hb02 := below_call hb01 hb12
      go_wp2_with fail
      go_ret
      exact ⟨by rw [HQ.out]; rfl, hb02⟩
    | true =>
      cases b3 with
      | false =>
        have HQ : Hid (q = false) := by show _ = _; rw [HQ0.out]; simp
        go_enter Tryz.func32, Tryz.ntmps32
        simp only [List.append_eq, List.cons_append, List.nil_append]
        go_wp2_with (rw [← HW.out])
        refine cE1.out.mono ?_
        rintro e w1 ⟨rfl, hb1⟩
        have hb01 := below_call hbW hb1
        have hE2 := Lib.hid (Hsix.out w1 hb1)
        obtain ⟨hr1, hr2⟩ := Hrow.out w1 hb1
        have hl1 := row_lt hr1
        have hl2 := row_lt hr2
        have p0 := rowAt hr1 0 (.string sch) rfl
        have p1 := rowAt hr1 1 (.string usr) rfl
        have p2 := rowAt hr1 2 (.string pas) rfl
        have p3 := rowAt hr1 3 (.bool hh) rfl
        have p4 := rowAt hr1 4 (.string hst) rfl
        have p5 := rowAt hr1 5 (.int .i64 prt) rfl
        have p6 := rowAt hr1 6 (.bool opq) rfl
        have p7 := rowAt hr1 7 (.slice a xs.length c) rfl
        have p8 := rowAt hr1 8 (.bool hq) rfl
        have p9 := rowAt hr1 9 (.bool hf) rfl
        have p10 := rowAt hr1 10 (.string qry) rfl
        have p11 := rowAt hr1 11 (.string frg) rfl
        have q0 := rowAt hr2 0 (.string sch2) rfl
        have q1 := rowAt hr2 1 (.string usr2) rfl
        have q2 := rowAt hr2 2 (.string pas2) rfl
        have q3 := rowAt hr2 3 (.bool hh2) rfl
        have q4 := rowAt hr2 4 (.string hst2) rfl
        have q5 := rowAt hr2 5 (.int .i64 prt2) rfl
        have q6 := rowAt hr2 6 (.bool opq2) rfl
        have q7 := rowAt hr2 7 (.slice a2 xs2.length c2) rfl
        have q8 := rowAt hr2 8 (.bool hq2) rfl
        have q9 := rowAt hr2 9 (.bool hf2) rfl
        have q10 := rowAt hr2 10 (.string qry2) rfl
        have q11 := rowAt hr2 11 (.string frg2) rfl
        go_wp2_with fail
        refine hE2.out.mono ?_
        rintro e w2 ⟨rfl, hb2⟩
        have hb12 : Below w1.heap.size w1 w2 := (((Below.refl _ w1).alloc (Nat.le_refl _) _).alloc (by simp) _).trans (hb2.mono (by simp <;> omega))
        have hb02 := below_call hb01 hb12
        obtain ⟨hs1, hs2⟩ := Hrow.out w2 (below_call hb1 hb12)
        have r3 := rowAt hs1 3 (.bool hh) rfl
        have r5 := rowAt hs1 5 (.int .i64 prt) rfl
        have r6 := rowAt hs1 6 (.bool opq) rfl
        have r8 := rowAt hs1 8 (.bool hq) rfl
        have r9 := rowAt hs1 9 (.bool hf) rfl
        have s3 := rowAt hs2 3 (.bool hh2) rfl
        have s5 := rowAt hs2 5 (.int .i64 prt2) rfl
        have s6 := rowAt hs2 6 (.bool opq2) rfl
        have s8 := rowAt hs2 8 (.bool hq2) rfl
        have s9 := rowAt hs2 9 (.bool hf2) rfl
        go_wp2_with fail
        go_ret
        exact ⟨by rw [HQ.out]; rfl, hb02⟩
      | true =>
        cases b4 with
        | false =>
          have HQ : Hid (q = false) := by show _ = _; rw [HQ0.out]; simp
          go_enter Tryz.func32, Tryz.ntmps32
          simp only [List.append_eq, List.cons_append, List.nil_append]
          go_wp2_with (rw [← HW.out])
          refine cE1.out.mono ?_
          rintro e w1 ⟨rfl, hb1⟩
          have hb01 := below_call hbW hb1
          have hE2 := Lib.hid (Hsix.out w1 hb1)
          obtain ⟨hr1, hr2⟩ := Hrow.out w1 hb1
          have hl1 := row_lt hr1
          have hl2 := row_lt hr2
          have p0 := rowAt hr1 0 (.string sch) rfl
          have p1 := rowAt hr1 1 (.string usr) rfl
          have p2 := rowAt hr1 2 (.string pas) rfl
          have p3 := rowAt hr1 3 (.bool hh) rfl
          have p4 := rowAt hr1 4 (.string hst) rfl
          have p5 := rowAt hr1 5 (.int .i64 prt) rfl
          have p6 := rowAt hr1 6 (.bool opq) rfl
          have p7 := rowAt hr1 7 (.slice a xs.length c) rfl
          have p8 := rowAt hr1 8 (.bool hq) rfl
          have p9 := rowAt hr1 9 (.bool hf) rfl
          have p10 := rowAt hr1 10 (.string qry) rfl
          have p11 := rowAt hr1 11 (.string frg) rfl
          have q0 := rowAt hr2 0 (.string sch2) rfl
          have q1 := rowAt hr2 1 (.string usr2) rfl
          have q2 := rowAt hr2 2 (.string pas2) rfl
          have q3 := rowAt hr2 3 (.bool hh2) rfl
          have q4 := rowAt hr2 4 (.string hst2) rfl
          have q5 := rowAt hr2 5 (.int .i64 prt2) rfl
          have q6 := rowAt hr2 6 (.bool opq2) rfl
          have q7 := rowAt hr2 7 (.slice a2 xs2.length c2) rfl
          have q8 := rowAt hr2 8 (.bool hq2) rfl
          have q9 := rowAt hr2 9 (.bool hf2) rfl
          have q10 := rowAt hr2 10 (.string qry2) rfl
          have q11 := rowAt hr2 11 (.string frg2) rfl
          go_wp2_with fail
          refine hE2.out.mono ?_
          rintro e w2 ⟨rfl, hb2⟩
          have hb12 : Below w1.heap.size w1 w2 := (((Below.refl _ w1).alloc (Nat.le_refl _) _).alloc (by simp) _).trans (hb2.mono (by simp <;> omega))
          have hb02 := below_call hb01 hb12
          obtain ⟨hs1, hs2⟩ := Hrow.out w2 (below_call hb1 hb12)
          have r3 := rowAt hs1 3 (.bool hh) rfl
          have r5 := rowAt hs1 5 (.int .i64 prt) rfl
          have r6 := rowAt hs1 6 (.bool opq) rfl
          have r8 := rowAt hs1 8 (.bool hq) rfl
          have r9 := rowAt hs1 9 (.bool hf) rfl
          have s3 := rowAt hs2 3 (.bool hh2) rfl
          have s5 := rowAt hs2 5 (.int .i64 prt2) rfl
          have s6 := rowAt hs2 6 (.bool opq2) rfl
          have s8 := rowAt hs2 8 (.bool hq2) rfl
          have s9 := rowAt hs2 9 (.bool hf2) rfl
          go_wp2_with fail
          go_ret
          exact ⟨by rw [HQ.out]; rfl, hb02⟩
        | true =>
          cases b5 with
          | false =>
            have HQ : Hid (q = false) := by show _ = _; rw [HQ0.out]; simp
            go_enter Tryz.func32, Tryz.ntmps32
            simp only [List.append_eq, List.cons_append, List.nil_append]
            go_wp2_with (rw [← HW.out])
            refine cE1.out.mono ?_
            rintro e w1 ⟨rfl, hb1⟩
            have hb01 := below_call hbW hb1
            have hE2 := Lib.hid (Hsix.out w1 hb1)
            obtain ⟨hr1, hr2⟩ := Hrow.out w1 hb1
            have hl1 := row_lt hr1
            have hl2 := row_lt hr2
            have p0 := rowAt hr1 0 (.string sch) rfl
            have p1 := rowAt hr1 1 (.string usr) rfl
            have p2 := rowAt hr1 2 (.string pas) rfl
            have p3 := rowAt hr1 3 (.bool hh) rfl
            have p4 := rowAt hr1 4 (.string hst) rfl
            have p5 := rowAt hr1 5 (.int .i64 prt) rfl
            have p6 := rowAt hr1 6 (.bool opq) rfl
            have p7 := rowAt hr1 7 (.slice a xs.length c) rfl
            have p8 := rowAt hr1 8 (.bool hq) rfl
            have p9 := rowAt hr1 9 (.bool hf) rfl
            have p10 := rowAt hr1 10 (.string qry) rfl
            have p11 := rowAt hr1 11 (.string frg) rfl
            have q0 := rowAt hr2 0 (.string sch2) rfl
            have q1 := rowAt hr2 1 (.string usr2) rfl
            have q2 := rowAt hr2 2 (.string pas2) rfl
            have q3 := rowAt hr2 3 (.bool hh2) rfl
            have q4 := rowAt hr2 4 (.string hst2) rfl
            have q5 := rowAt hr2 5 (.int .i64 prt2) rfl
            have q6 := rowAt hr2 6 (.bool opq2) rfl
            have q7 := rowAt hr2 7 (.slice a2 xs2.length c2) rfl
            have q8 := rowAt hr2 8 (.bool hq2) rfl
            have q9 := rowAt hr2 9 (.bool hf2) rfl
            have q10 := rowAt hr2 10 (.string qry2) rfl
            have q11 := rowAt hr2 11 (.string frg2) rfl
            go_wp2_with fail
            refine hE2.out.mono ?_
            rintro e w2 ⟨rfl, hb2⟩
            have hb12 : Below w1.heap.size w1 w2 := (((Below.refl _ w1).alloc (Nat.le_refl _) _).alloc (by simp) _).trans (hb2.mono (by simp <;> omega))
            have hb02 := below_call hb01 hb12
            obtain ⟨hs1, hs2⟩ := Hrow.out w2 (below_call hb1 hb12)
            have r3 := rowAt hs1 3 (.bool hh) rfl
            have r5 := rowAt hs1 5 (.int .i64 prt) rfl
            have r6 := rowAt hs1 6 (.bool opq) rfl
            have r8 := rowAt hs1 8 (.bool hq) rfl
            have r9 := rowAt hs1 9 (.bool hf) rfl
            have s3 := rowAt hs2 3 (.bool hh2) rfl
            have s5 := rowAt hs2 5 (.int .i64 prt2) rfl
            have s6 := rowAt hs2 6 (.bool opq2) rfl
            have s8 := rowAt hs2 8 (.bool hq2) rfl
            have s9 := rowAt hs2 9 (.bool hf2) rfl
            go_wp2_with fail
            go_ret
            exact ⟨by rw [HQ.out]; rfl, hb02⟩
          | true =>
            cases b6 with
            | false =>
              have HQ : Hid (q = false) := by show _ = _; rw [HQ0.out]; simp
              go_enter Tryz.func32, Tryz.ntmps32
              simp only [List.append_eq, List.cons_append, List.nil_append]
              go_wp2_with (rw [← HW.out])
              refine cE1.out.mono ?_
              rintro e w1 ⟨rfl, hb1⟩
              have hb01 := below_call hbW hb1
              have hE2 := Lib.hid (Hsix.out w1 hb1)
              obtain ⟨hr1, hr2⟩ := Hrow.out w1 hb1
              have hl1 := row_lt hr1
              have hl2 := row_lt hr2
              have p0 := rowAt hr1 0 (.string sch) rfl
              have p1 := rowAt hr1 1 (.string usr) rfl
              have p2 := rowAt hr1 2 (.string pas) rfl
              have p3 := rowAt hr1 3 (.bool hh) rfl
              have p4 := rowAt hr1 4 (.string hst) rfl
              have p5 := rowAt hr1 5 (.int .i64 prt) rfl
              have p6 := rowAt hr1 6 (.bool opq) rfl
              have p7 := rowAt hr1 7 (.slice a xs.length c) rfl
              have p8 := rowAt hr1 8 (.bool hq) rfl
              have p9 := rowAt hr1 9 (.bool hf) rfl
              have p10 := rowAt hr1 10 (.string qry) rfl
              have p11 := rowAt hr1 11 (.string frg) rfl
              have q0 := rowAt hr2 0 (.string sch2) rfl
              have q1 := rowAt hr2 1 (.string usr2) rfl
              have q2 := rowAt hr2 2 (.string pas2) rfl
              have q3 := rowAt hr2 3 (.bool hh2) rfl
              have q4 := rowAt hr2 4 (.string hst2) rfl
              have q5 := rowAt hr2 5 (.int .i64 prt2) rfl
              have q6 := rowAt hr2 6 (.bool opq2) rfl
              have q7 := rowAt hr2 7 (.slice a2 xs2.length c2) rfl
              have q8 := rowAt hr2 8 (.bool hq2) rfl
              have q9 := rowAt hr2 9 (.bool hf2) rfl
              have q10 := rowAt hr2 10 (.string qry2) rfl
              have q11 := rowAt hr2 11 (.string frg2) rfl
              go_wp2_with fail
              refine hE2.out.mono ?_
              rintro e w2 ⟨rfl, hb2⟩
              have hb12 : Below w1.heap.size w1 w2 := (((Below.refl _ w1).alloc (Nat.le_refl _) _).alloc (by simp) _).trans (hb2.mono (by simp <;> omega))
              have hb02 := below_call hb01 hb12
              obtain ⟨hs1, hs2⟩ := Hrow.out w2 (below_call hb1 hb12)
              have r3 := rowAt hs1 3 (.bool hh) rfl
              have r5 := rowAt hs1 5 (.int .i64 prt) rfl
              have r6 := rowAt hs1 6 (.bool opq) rfl
              have r8 := rowAt hs1 8 (.bool hq) rfl
              have r9 := rowAt hs1 9 (.bool hf) rfl
              have s3 := rowAt hs2 3 (.bool hh2) rfl
              have s5 := rowAt hs2 5 (.int .i64 prt2) rfl
              have s6 := rowAt hs2 6 (.bool opq2) rfl
              have s8 := rowAt hs2 8 (.bool hq2) rfl
              have s9 := rowAt hs2 9 (.bool hf2) rfl
              go_wp2_with fail
              go_ret
              exact ⟨by rw [HQ.out]; rfl, hb02⟩
            | true =>
              cases b7 with
              | false =>
                have HQ : Hid (q = false) := by show _ = _; rw [HQ0.out]; simp
                go_enter Tryz.func32, Tryz.ntmps32
                simp only [List.append_eq, List.cons_append, List.nil_append]
                go_wp2_with (rw [← HW.out])
                refine cE1.out.mono ?_
                rintro e w1 ⟨rfl, hb1⟩
                have hb01 := below_call hbW hb1
                have hE2 := Lib.hid (Hsix.out w1 hb1)
                obtain ⟨hr1, hr2⟩ := Hrow.out w1 hb1
                have hl1 := row_lt hr1
                have hl2 := row_lt hr2
                have p0 := rowAt hr1 0 (.string sch) rfl
                have p1 := rowAt hr1 1 (.string usr) rfl
                have p2 := rowAt hr1 2 (.string pas) rfl
                have p3 := rowAt hr1 3 (.bool hh) rfl
                have p4 := rowAt hr1 4 (.string hst) rfl
                have p5 := rowAt hr1 5 (.int .i64 prt) rfl
                have p6 := rowAt hr1 6 (.bool opq) rfl
                have p7 := rowAt hr1 7 (.slice a xs.length c) rfl
                have p8 := rowAt hr1 8 (.bool hq) rfl
                have p9 := rowAt hr1 9 (.bool hf) rfl
                have p10 := rowAt hr1 10 (.string qry) rfl
                have p11 := rowAt hr1 11 (.string frg) rfl
                have q0 := rowAt hr2 0 (.string sch2) rfl
                have q1 := rowAt hr2 1 (.string usr2) rfl
                have q2 := rowAt hr2 2 (.string pas2) rfl
                have q3 := rowAt hr2 3 (.bool hh2) rfl
                have q4 := rowAt hr2 4 (.string hst2) rfl
                have q5 := rowAt hr2 5 (.int .i64 prt2) rfl
                have q6 := rowAt hr2 6 (.bool opq2) rfl
                have q7 := rowAt hr2 7 (.slice a2 xs2.length c2) rfl
                have q8 := rowAt hr2 8 (.bool hq2) rfl
                have q9 := rowAt hr2 9 (.bool hf2) rfl
                have q10 := rowAt hr2 10 (.string qry2) rfl
                have q11 := rowAt hr2 11 (.string frg2) rfl
                go_wp2_with fail
                refine hE2.out.mono ?_
                rintro e w2 ⟨rfl, hb2⟩
                have hb12 : Below w1.heap.size w1 w2 := (((Below.refl _ w1).alloc (Nat.le_refl _) _).alloc (by simp) _).trans (hb2.mono (by simp <;> omega))
                have hb02 := below_call hb01 hb12
                obtain ⟨hs1, hs2⟩ := Hrow.out w2 (below_call hb1 hb12)
                have r3 := rowAt hs1 3 (.bool hh) rfl
                have r5 := rowAt hs1 5 (.int .i64 prt) rfl
                have r6 := rowAt hs1 6 (.bool opq) rfl
                have r8 := rowAt hs1 8 (.bool hq) rfl
                have r9 := rowAt hs1 9 (.bool hf) rfl
                have s3 := rowAt hs2 3 (.bool hh2) rfl
                have s5 := rowAt hs2 5 (.int .i64 prt2) rfl
                have s6 := rowAt hs2 6 (.bool opq2) rfl
                have s8 := rowAt hs2 8 (.bool hq2) rfl
                have s9 := rowAt hs2 9 (.bool hf2) rfl
                go_wp2_with fail
                go_ret
                exact ⟨by rw [HQ.out]; rfl, hb02⟩
              | true =>
                have HQ : Hid (q = true) := Lib.hid HQ0.out
                go_enter Tryz.func32, Tryz.ntmps32
                simp only [List.append_eq, List.cons_append, List.nil_append]
                go_wp2_with (rw [← HW.out])
                refine cE1.out.mono ?_
                rintro e w1 ⟨rfl, hb1⟩
                have hb01 := below_call hbW hb1
                have hE2 := Lib.hid (Hsix.out w1 hb1)
                obtain ⟨hr1, hr2⟩ := Hrow.out w1 hb1
                have hl1 := row_lt hr1
                have hl2 := row_lt hr2
                have p0 := rowAt hr1 0 (.string sch) rfl
                have p1 := rowAt hr1 1 (.string usr) rfl
                have p2 := rowAt hr1 2 (.string pas) rfl
                have p3 := rowAt hr1 3 (.bool hh) rfl
                have p4 := rowAt hr1 4 (.string hst) rfl
                have p5 := rowAt hr1 5 (.int .i64 prt) rfl
                have p6 := rowAt hr1 6 (.bool opq) rfl
                have p7 := rowAt hr1 7 (.slice a xs.length c) rfl
                have p8 := rowAt hr1 8 (.bool hq) rfl
                have p9 := rowAt hr1 9 (.bool hf) rfl
                have p10 := rowAt hr1 10 (.string qry) rfl
                have p11 := rowAt hr1 11 (.string frg) rfl
                have q0 := rowAt hr2 0 (.string sch2) rfl
                have q1 := rowAt hr2 1 (.string usr2) rfl
                have q2 := rowAt hr2 2 (.string pas2) rfl
                have q3 := rowAt hr2 3 (.bool hh2) rfl
                have q4 := rowAt hr2 4 (.string hst2) rfl
                have q5 := rowAt hr2 5 (.int .i64 prt2) rfl
                have q6 := rowAt hr2 6 (.bool opq2) rfl
                have q7 := rowAt hr2 7 (.slice a2 xs2.length c2) rfl
                have q8 := rowAt hr2 8 (.bool hq2) rfl
                have q9 := rowAt hr2 9 (.bool hf2) rfl
                have q10 := rowAt hr2 10 (.string qry2) rfl
                have q11 := rowAt hr2 11 (.string frg2) rfl
                go_wp2_with fail
                refine hE2.out.mono ?_
                rintro e w2 ⟨rfl, hb2⟩
                have hb12 : Below w1.heap.size w1 w2 := (((Below.refl _ w1).alloc (Nat.le_refl _) _).alloc (by simp) _).trans (hb2.mono (by simp <;> omega))
                have hb02 := below_call hb01 hb12
                obtain ⟨hs1, hs2⟩ := Hrow.out w2 (below_call hb1 hb12)
                have r3 := rowAt hs1 3 (.bool hh) rfl
                have r5 := rowAt hs1 5 (.int .i64 prt) rfl
                have r6 := rowAt hs1 6 (.bool opq) rfl
                have r8 := rowAt hs1 8 (.bool hq) rfl
                have r9 := rowAt hs1 9 (.bool hf) rfl
                have s3 := rowAt hs2 3 (.bool hh2) rfl
                have s5 := rowAt hs2 5 (.int .i64 prt2) rfl
                have s6 := rowAt hs2 6 (.bool opq2) rfl
                have s8 := rowAt hs2 8 (.bool hq2) rfl
                have s9 := rowAt hs2 9 (.bool hf2) rfl
                go_wp2_with fail
                go_ret
                exact ⟨by rw [HQ.out]; rfl, hb02⟩
end Go.Proofs.YthijceooebebfaaGreatDoor

namespace Lz
open Go
/-- An error of these alone. -/
def erQ : UR → Prop
  | .ok _ => True
  | .er n => n = 70 ∨ n = 71 ∨ n = 72 ∨ n = 81 ∨ n = 82
theorem erQ_bind {r : UR} {f : UrlL → UR} (h : erQ r) (hf : ∀ u, erQ (f u)) : erQ (r.bind f) := by
  cases r with
  | ok u => exact hf u
  | er n => exact h
theorem erQ_host (u : UrlL) (s : Bs) : erQ (hostU u s) := by
  unfold hostU
  split
  · rename_i n e
    cases hsp : specP u.scheme with
    | true => rw [hsp] at e; rcases host_err_true _ _ e with h | h | h <;> simp [erQ, h]
    | false => rw [hsp] at e; rcases host_err_false _ _ e with h | h <;> simp [erQ, h]
  · trivial
theorem erQ_port (u : UrlL) (s : Bs) : erQ (portU u s) := by
  unfold portU
  split
  · simp [erQ]
  · split <;> simp [erQ]
theorem erQ_place (u : UrlL) (a : Bs) : erQ (placeU u a) := by
  unfold placeU
  split
  · split
    · simp [erQ]
    · exact erQ_bind (erQ_host _ _) fun u => erQ_port _ _
  · split
    · simp [erQ]
    · exact erQ_bind (erQ_host _ _) fun u => erQ_port _ _
theorem erQ_auth (u : UrlL) (a : Bs) : erQ (authU u a) := by
  unfold authU
  split
  · split
    · simp [erQ]
    · exact erQ_place _ _
  · exact erQ_place _ _
theorem erQ_hosted (u : UrlL) (r : Bs) : erQ (hostedU u r) := erQ_bind (erQ_auth _ _) fun _ => trivial
theorem erQ_rel (u b : UrlL) (r : Bs) : erQ (relU u b r) := by
  unfold relU
  simp only
  split
  · exact erQ_hosted _ _
  · split <;> trivial
theorem erQ_files (u : UrlL) (b : Option UrlL) (r : Bs) : erQ (filesU u b r) := by
  unfold filesU
  simp only
  split
  · split
    · trivial
    · refine erQ_bind ?_ fun _ => trivial
      split
      · trivial
      · exact erQ_host _ _
  · split
    · trivial
    · split
      · split
        · split <;> trivial
        · trivial
      · trivial
theorem erQ_main (u : UrlL) (s : Bs) (b : Option UrlL) : erQ (mainU u s b) := by
  unfold mainU
  simp only
  split
  · split
    · exact erQ_files _ _ _
    · split
      · split
        · split
          · exact erQ_rel _ _ _
          · exact erQ_hosted _ _
        · exact erQ_hosted _ _
      · split
        · exact erQ_hosted _ _
        · split <;> trivial
  · split
    · simp [erQ]
    · split
      · simp [erQ]
      · split
        · trivial
        · split
          · exact erQ_files _ _ _
          · exact erQ_rel _ _ _
theorem readU_err {s : Bs} {b : Option UrlL} {n : Nat} (e : readU s b = .er n) : n = 70 ∨ n = 71 ∨ n = 72 ∨ n = 81 ∨ n = 82 := by
  have h : erQ (readU s b) := erQ_bind (erQ_main _ _ _) fun _ => trivial
  rw [e] at h
  exact h
end Lz
