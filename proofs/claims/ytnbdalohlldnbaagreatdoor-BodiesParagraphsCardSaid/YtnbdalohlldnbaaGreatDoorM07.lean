/-
  stack.New, formats.New; Replace of both.
  Package formats: Last.
  Package formats: like.
  Package builder: a builder as the program holds it; none, Arena, Stack, Formats, Mode, Set.
  Package builder: Set, SetHead, SetForm, SetQuirks.
  Package builder: html, target.
  Package builder: Current, Is.
  Package builder: Place, where nothing is fostered.
  Package builder: Put and Chars, where nothing is fostered.
  Package builder: Fail.
  Package builder: New.
-/
import Derived.Test.YtnbdalohlldnbaaGreatDoorM06
namespace Go.Proofs.YtnbdalohlldnbaaGreatDoor
open Go.RowKit Bd
attribute [local go_sem ↓] Go.wp_at_zero Go.wp_at_succ
theorem fr_new {own : Nat → Nat} {w : World} (hL : Lbl own w) (o : Obj) (l : Nat) : Fr cNo own (lab own w.heap.size l) w (w.alloc o) := by
  have hb : Below w.heap.size w (w.alloc o) := (Below.refl _ _).alloc (Nat.le_refl _) _
  exact Fr.label (Fr.of_below hb hL) (by simp) l
def RNewS (own : Nat → Nat) (ap : Nat) (w : World) (e : Ending) (w' : World) : Prop := ∃ sp own', e = .returned (.pointer (some ⟨sp, 0, none⟩)) ∧ StH own' w' sp ap (.slice none 0 0) [] ∧ Fr cNo own own' w w'
theorem NewS_any {own : Nat → Nat} {w : World} {ap : Nat} {nv : Value} {l : List NB} (hA : ArH own w ap nv l) (hne : l ≠ []) (hL : Lbl own w) : Calls Tryz.prog 108 #[.pointer (some ⟨ap, 0, none⟩)] w (RNewS own ap w) := by
  have cL := Lib.hid (Len_any hA)
  have i0 : (0 : Int) < (l.length : Int) := by cases l with | nil => exact absurd rfl hne | cons x r => simp
  have HR : Hid (RNewS own ap w (.returned (.pointer (some ⟨w.heap.size, 0, none⟩))) (w.alloc (.cells #[.pointer (some ⟨ap, 0, none⟩), .slice none 0 0] 82))) := Lib.hid
    ⟨w.heap.size, lab own w.heap.size 3, rfl, ⟨lab_self _ _ _, heap_new _ _, SlO.nil _ _ _ _ _⟩, fr_new hL _ 3⟩
  generalize l.length = n at *
  have i1 : ((n : Int) == 0) = false := by rw [beq_eq_false_iff_ne]; omega
  clear hA hL hne
  go_enter Tryz.func108, Tryz.ntmps108
  go_wp2_with fail
  refine cL.out.mono ?_
  rintro e w1 ⟨rfl, rfl⟩
  go_wp2_with fail
  go_ret
  exact HR.out
def RNewF (own : Nat → Nat) (ap : Nat) (w : World) (e : Ending) (w' : World) : Prop := ∃ lp own', e = .returned (.pointer (some ⟨lp, 0, none⟩)) ∧ FoH own' w' lp ap (.slice none 0 0) [] ∧ Fr cNo own own' w w'
theorem NewF_any {own : Nat → Nat} {w : World} {ap : Nat} {nv : Value} {l : List NB} (hA : ArH own w ap nv l) (hne : l ≠ []) (hL : Lbl own w) : Calls Tryz.prog 109 #[.pointer (some ⟨ap, 0, none⟩)] w (RNewF own ap w) := by
  have cL := Lib.hid (Len_any hA)
  have i0 : (0 : Int) < (l.length : Int) := by cases l with | nil => exact absurd rfl hne | cons x r => simp
  have HR : Hid (RNewF own ap w (.returned (.pointer (some ⟨w.heap.size, 0, none⟩))) (w.alloc (.cells #[.pointer (some ⟨ap, 0, none⟩), .slice none 0 0] 118))) := Lib.hid
    ⟨w.heap.size, lab own w.heap.size 4, rfl, ⟨lab_self _ _ _, heap_new _ _, SlO.nil _ _ _ _ _⟩, fr_new hL _ 4⟩
  generalize l.length = n at *
  have i1 : ((n : Int) == 0) = false := by rw [beq_eq_false_iff_ne]; omega
  clear hA hL hne
  go_enter Tryz.func109, Tryz.ntmps109
  go_wp2_with fail
  refine cL.out.mono ?_
  rintro e w1 ⟨rfl, rfl⟩
  go_wp2_with fail
  go_ret
  exact HR.out
theorem ints_set (l : Fo) (k : Nat) (i : Int) : (ints l).set k (.int .i64 i) = ints (l.set k i) := by unfold ints; rw [List.map_set]
theorem FReplace_any {own : Nat → Nat} {w : World} {lp ap : Nat} {lv nv : Value} {fo : Fo} {l : List NB} (k i : Int) (h : FoH own w lp ap lv fo) (hA : ArH own w ap nv l) (hL : Lbl own w) (hkl : ∀ x ∈ l, x.n.kids.length ≤ 1000000) :
    Calls Tryz.prog 55 #[.pointer (some ⟨lp, 0, none⟩), .int .i64 k, .int .i64 i] w (RFo own lp ap (.int .i64 (replaceF (l.map NB.n) fo k i).2) (replaceF (l.map NB.n) fo k i).1 w) := by
  have cM := Lib.hid (may_any i h hA hL hkl)
  obtain ⟨R, hR⟩ : ∃ R, R = replaceF (l.map NB.n) fo k i := ⟨_, rfl⟩
  rw [← hR]
  unfold replaceF at hR
  generalize (node (l.map NB.n) i).kind = kd at *
  obtain ⟨q, hq⟩ : ∃ q, (kd != 3) = q := ⟨_, rfl⟩
  rw [hq] at hR cM
  have HR := Lib.hid hR
  have HS := Lib.hid h
  have HL := Lib.hid hL
  clear h hL hA hkl hR hq
  cases q with
  | true =>
    have HQ : Hid (R = (fo, 2)) := by show _ = _; rw [HR.out]; rfl
    clear HR
    go_enter Tryz.func55, Tryz.ntmps55
    go_wp2_with fail
    refine cM.out.mono ?_
    rintro e w2 ⟨rfl, hb⟩
    have HF := Lib.hid (⟨HS.out.below hb HL.out, Fr.of_below hb HL.out⟩ : FoH own w2 lp ap lv fo ∧ Fr cFo own own w w2)
    clear cM hb
    go_wp2_with fail
    go_ret
    rw [HQ.out]
    exact ⟨rfl, own, lv, HF.out.1, HF.out.2⟩
  | false =>
    by_cases h0 : k < 0
    · have HQ : Hid (R = (fo, 2)) := by show _ = _; rw [HR.out, if_neg (by decide), if_pos (by simp; omega)]
      clear HR
      go_enter Tryz.func55, Tryz.ntmps55
      go_wp2_with fail
      refine cM.out.mono ?_
      rintro e w2 ⟨rfl, hb⟩
      have HF := Lib.hid (⟨HS.out.below hb HL.out, Fr.of_below hb HL.out⟩ : FoH own w2 lp ap lv fo ∧ Fr cFo own own w w2)
      clear cM hb
      go_wp2_with fail
      go_ret
      rw [HQ.out]
      exact ⟨rfl, own, lv, HF.out.1, HF.out.2⟩
    · obtain ⟨j, rfl⟩ : ∃ j : Nat, k = (j : Int) := ⟨k.toNat, by omega⟩
      obtain ⟨n, hn⟩ : ∃ n, n = fo.length := ⟨_, rfl⟩
      obtain ⟨av, cv, hlv, hcv⟩ := HS.out.s.1.form
      rw [← hn] at hlv hcv
      have HN := Lib.hid hn
      by_cases h1 : j < n
      · have HQ : Hid (R = (fo.set j i, 0)) := by show _ = _; rw [HR.out, if_neg (by decide), if_neg (by simp; omega)]; rfl
        obtain ⟨x, hx⟩ : ∃ x, fo[j]? = some x := ⟨_, List.getElem?_eq_getElem (by omega)⟩
        obtain ⟨g, cap, e1, hc, _⟩ := HS.out.cell hx
        subst e1
        injection hlv with e1 e2 e3
        subst e1; subst e3
        have i0 : (0 : Int) ≤ (j : Int) := by omega
        have i1 : (j : Int) < (n : Int) := by omega
        clear HR hn hcv hc
        go_enter Tryz.func55, Tryz.ntmps55
        go_wp2_with fail
        refine cM.out.mono ?_
        rintro e w2 ⟨rfl, hb⟩
        have hS : FoH own w2 lp ap (.slice (some ⟨g, 0, none⟩) n cap) fo := by rw [HN.out]; exact HS.out.below hb HL.out
        have c1 := rowAt hS.h 1 _ rfl
        have hL2 := HL.out.grow hb.size
        have hg7 : own g = 7 := (hS.s.2 g rfl).1
        have hf7 : Fr (fun y => y == 7) own own w2 (w2.setCell ⟨g, j, none⟩ (.int .i64 i)) := Fr.setCell hL2 (p := ⟨g, j, none⟩) _ (by simp [hg7])
        have hs0 := hS.s
        rw [← HN.out] at hs0
        have hs9 := SlO.set hs0 j (.int .i64 i)
        rw [ints_set] at hs9
        have hrow : ∃ cur, w2.heap[g]? = some (.cells cur 3 (0, 0)) := by
          rcases hs0.1.2 with ⟨e1, _⟩ | ⟨g1, cap1, cur, e1, hg, h3, h4, h5, h6⟩
          · cases e1
          · injection e1 with e1 e2 e3
            injection e1 with e1
            injection e1 with e1
            subst e1
            exact ⟨cur, hg⟩
        obtain ⟨cur, hcur⟩ := hrow
        have z0 := frozen_row hcur j
        obtain ⟨_, _, e5, _, k0⟩ := hs0.1.cell (ints_get hx)
        injection e5 with e5
        injection e5 with e5
        injection e5 with e5
        subst e5
        have HA : Hid (FoH own (w2.setCell ⟨g, j, none⟩ (.int .i64 i)) lp ap (.slice (some ⟨g, 0, none⟩) n cap) (fo.set j i) ∧ Fr cFo own own w (w2.setCell ⟨g, j, none⟩ (.int .i64 i))) := Lib.hid
          ⟨⟨hS.o, hf7.keep hS.h (by rw [hS.o]; rfl), by rw [List.length_set, ← HN.out]; exact hs9⟩, (Fr.of_below hb HL.out).trans (hf7.mono (fun y hy => by
            cases h7 : (y == 7) with
            | false => rfl
            | true => rw [beq_iff_eq.1 h7] at hy; cases hy))⟩
        clear cM hb hS hL2 hf7 hs9 hs0 hcur hx
        go_wp2_with fail
        go_ret
        rw [HQ.out]
        exact ⟨rfl, own, _, HA.out.1, HA.out.2⟩
      · have HQ : Hid (R = (fo, 2)) := by show _ = _; rw [HR.out, if_neg (by decide), if_pos (by simp; omega)]
        have i1 : (n : Int) ≤ (j : Int) := by omega
        clear HR hn hcv
        go_enter Tryz.func55, Tryz.ntmps55
        go_wp2_with fail
        refine cM.out.mono ?_
        rintro e w2 ⟨rfl, hb⟩
        have HF := Lib.hid (⟨HS.out.below hb HL.out, Fr.of_below hb HL.out⟩ : FoH own w2 lp ap lv fo ∧ Fr cFo own own w w2)
        have c1 := rowAt HF.out.1.h 1 lv rfl
        rw [hlv] at c1
        clear cM hb hlv
        go_wp2_with fail
        go_ret
        rw [HQ.out]
        exact ⟨rfl, own, lv, HF.out.1, HF.out.2⟩
end Go.Proofs.YtnbdalohlldnbaaGreatDoor

namespace Go.Proofs.YtnbdalohlldnbaaGreatDoor
open Go.RowKit Bd
attribute [local go_sem ↓] Go.wp_at_zero Go.wp_at_succ
def isNm (a : Ar) (name : Ba) (i : Int) : Bool := (node a i).space == 0 && (node a i).name == name
set_option maxHeartbeats 1000000 in
set_option maxRecDepth 100000 in
theorem Last1_any {own : Nat → Nat} {w : World} {lp ap B1 B2 : Nat} {lv nv : Value} {fo : Fo} {l : List NB} (name : Ba) (i : Int) (h : FoH own w lp ap lv fo) (hA : ArH own w ap nv l) (hL : Lbl own w) (hkl : ∀ x ∈ l, x.n.kids.length ≤ 1000000) (hB1 : w.cell? ⟨B1, 0, none⟩ = some (.pointer (some ⟨lp, 0, none⟩))) (hB2 : w.cell? ⟨B2, 0, none⟩ = some (.string name)) :
    Calls Tryz.prog 186 #[.int .i64 i, .pointer (some ⟨B1, 0, none⟩), .pointer (some ⟨B2, 0, none⟩)] w fun e w' => e = .returned (.bool (isNm (l.map NB.n) name i)) ∧ Below w.heap.size w w' := by
  have cD := Lib.hid (Node_any i hA hL hkl)
  have c0 := rowAt h.h 0 _ rfl
  have HE : Hid (isNm (l.map NB.n) name i = ((node (l.map NB.n) i).space == 0 && (node (l.map NB.n) i).name == name)) := Lib.hid rfl
  generalize isNm (l.map NB.n) name i = R at *
  generalize node (l.map NB.n) i = nd at *
  obtain ⟨kd, nm, tx, sp', dp, pr, cn, ks, fr, tt⟩ := nd
  have HB2 := Lib.hid hB2
  clear h hA hL hkl hB2
  go_enter Tryz.func186, Tryz.ntmps186
  go_wp2_with fail
  refine cD.out.mono ?_
  rintro e w2 ⟨a5, k5, c5, rfl, _, _, hb2⟩
  dsimp only [NB.val, NB.row]
  clear cD c0 hB1
  go_upto_region 2 with (refine wpList_store_row rfl 54 (.tmp 5) (.tmp 11) rfl w2.heap.size #[.int .i64 kd, .string nm, .string tx, .int .i64 sp', .slice none 0 0, .bool dp, .int .i64 pr, .int .i64 cn, .slice a5 k5 c5, .int .i64 fr, .int .i64 tt] rfl rfl 54 _ (heap_new _ _) nodeSize rfl (by simp [Value.oneCell']) ?_)
  obtain ⟨W3, hW3⟩ : ∃ W, W = (w2.alloc (.cells zeroNd 54)).setRow w2.heap.size #[.int .i64 kd, .string nm, .string tx, .int .i64 sp', .slice none 0 0, .bool dp, .int .i64 pr, .int .i64 cn, .slice a5 k5 c5, .int .i64 fr, .int .i64 tt] := ⟨_, rfl⟩
  have r3 : W3.heap[w2.heap.size]? = some (.cells #[.int .i64 kd, .string nm, .string tx, .int .i64 sp', .slice none 0 0, .bool dp, .int .i64 pr, .int .i64 cn, .slice a5 k5 c5, .int .i64 fr, .int .i64 tt] 54 (0, 0)) := by rw [hW3]; exact setRow_heap _ _ _ _ _ _ (heap_new _ _)
  have hb3 : Below w2.heap.size w2 W3 := by rw [hW3]; exact below_setRow ((Below.refl _ _).alloc (Nat.le_refl _) _) (Nat.le_refl _)
  rw [← hW3]
  obtain ⟨b, hb⟩ : ∃ b, b = w2.heap.size := ⟨_, rfl⟩
  have hb13 := below_call hb2 hb3
  have b2 := cell_later hb13 HB2.out
  have HF := Lib.hid hb13
  rw [← hb] at r3 ⊢
  have k1 := rowAt r3 1 _ rfl
  have k3 := rowAt r3 3 _ rfl
  clear hb hb13 hb3 hb2 hW3 r3
  have hq2 := text_beq2 nm name
  obtain ⟨q, hq⟩ : ∃ q, (sp' == 0) = q := ⟨_, rfl⟩
  obtain ⟨q2, hqq⟩ : ∃ q, (nm == name) = q := ⟨_, rfl⟩
  rw [hqq] at hq2
  have HQ : Hid (R = (q && q2)) := by show _ = _; rw [HE.out, hq, hqq]
  clear HE hqq
  cases q with
  | true =>
    go_wp2_with fail
    go_ret
    exact ⟨by rw [HQ.out]; rfl, HF.out⟩
  | false =>
    go_wp2_with fail
    go_ret
    exact ⟨by rw [HQ.out]; rfl, HF.out⟩
theorem lastN_eq (a : Ar) (l : Fo) (name : Ba) : lastN a l name = if lastF l (openF l) (isNm a name) < 0 then -1 else l.getD (lastF l (openF l) (isNm a name)).toNat 0 := rfl
theorem openF_ge (l : Fo) : 0 ≤ openF l := by
  unfold openF lastF
  have := lastIdx_ge (fun i : Int => i == -1) l
  split <;> omega
theorem lastF_lt (l : Fo) (frm : Int) (p : Int → Bool) : lastF l frm p < l.length ∧ -1 ≤ lastF l frm p := by
  unfold lastF
  have h1 := lastIdx_lt p l
  have h2 := lastIdx_ge p l
  split <;> omega
set_option maxHeartbeats 1000000 in
set_option maxRecDepth 100000 in
theorem Last_any {own : Nat → Nat} {w : World} {lp ap : Nat} {lv nv : Value} {fo : Fo} {l : List NB} (name : Ba) (h : FoH own w lp ap lv fo) (hA : ArH own w ap nv l) (hL : Lbl own w) (hkl : ∀ x ∈ l, x.n.kids.length ≤ 1000000) (hs : fo.length ≤ 1000000) :
    Calls Tryz.prog 146 #[.pointer (some ⟨lp, 0, none⟩), .string name] w fun e w' => e = .returned (.int .i64 (lastN (l.map NB.n) fo name)) ∧ Below w.heap.size w w' := by
  obtain ⟨W2, hW2⟩ : ∃ W, W = (w.alloc (.cells #[.pointer (some ⟨lp, 0, none⟩)] 28)).alloc (.cells #[.string name] 9) := ⟨_, rfl⟩
  have hb : Below w.heap.size w W2 := by rw [hW2]; exact ((Below.refl _ _).alloc (Nat.le_refl _) _).alloc (by simp) _
  have r2 : W2.heap[w.heap.size + 1]? = some (.cells #[.string name] 9 (0, 0)) := by
    have := heap_new (w.alloc (.cells #[.pointer (some ⟨lp, 0, none⟩)] 28)) (.cells #[.string name] 9)
    rw [World.size_alloc] at this
    rw [hW2]; exact this
  have r1 : W2.heap[w.heap.size]? = some (.cells #[.pointer (some ⟨lp, 0, none⟩)] 28 (0, 0)) := by
    rw [hW2]; exact (Below.heap_alloc _ _ _ (by simp)).trans (heap_new _ _)
  have b1 := rowAt r1 0 _ rfl
  have b2 := rowAt r2 0 _ rfl
  have hS := h.below hb hL
  have hA2 := hA.below hb hL
  have hL2 := hL.grow hb.size
  have cO : Hid (∀ V, Below W2.heap.size W2 V → Calls Tryz.prog 173 #[.pointer (some ⟨lp, 0, none⟩)] V fun e w' => e = .returned (.int .i64 (openF fo)) ∧ Below V.heap.size V w') := Lib.hid (fun V hV => open_any (hS.below hV hL2) (hL2.grow hV.size) hs)
  have cLl : Hid (∀ V, Below W2.heap.size W2 V → Calls Tryz.prog 185 #[.pointer (some ⟨lp, 0, none⟩), .int .i64 (openF fo), .func (.func 186) #[] #[.pointer (some ⟨w.heap.size, 0, none⟩), .pointer (some ⟨w.heap.size + 1, 0, none⟩)]] V fun e w' => e = .returned (.int .i64 (lastF fo (openF fo) (isNm (l.map NB.n) name))) ∧ Below V.heap.size V w') := Lib.hid (fun V hV =>
    last_last _ (hS.below hV hL2) (hL2.grow hV.size) hs (openF_ge fo) (fun x U hU => by
      have hVU := below_call hV hU
      exact Last1_any name x (hS.below hVU hL2) (hA2.below hVU hL2) (hL2.grow hVU.size) hkl (cell_later hVU b1) (cell_later hVU b2)))
  have hrow : Hid (∀ V, Below W2.heap.size W2 V → V.cell? ⟨lp, 1, none⟩ = some lv) := Lib.hid (fun V hV => rowAt (hS.below hV hL2).h 1 _ rfl)
  have hC : Hid (∀ (j : Nat) (x : Int) V, fo[j]? = some x → Below W2.heap.size W2 V → ∃ g cap, lv = .slice (some ⟨g, 0, none⟩) fo.length cap ∧ fo.length ≤ cap ∧ V.cell? ⟨g, j, none⟩ = some (.int .i64 x)) := Lib.hid (fun j x V hj hV => (hS.below hV hL2).cell hj)
  obtain ⟨R, hR⟩ : ∃ R, R = lastN (l.map NB.n) fo name := ⟨_, rfl⟩
  rw [← hR]
  rw [lastN_eq] at hR
  have hb0 := lastF_lt fo (openF fo) (isNm (l.map NB.n) name)
  generalize lastF fo (openF fo) (isNm (l.map NB.n) name) = r at *
  generalize openF fo = o at *
  have HR := Lib.hid hR
  have HW2 := Lib.hid hW2
  have HB := Lib.hid hb
  have B1 := Lib.hid b1
  clear h hA hL hkl hs hb r1 r2 hS hA2 hL2 hR b1 b2 hW2
  go_enter Tryz.func146, Tryz.ntmps146
  go_upto_region 1 with fail
  rw [← HW2.out]
  have b1 := B1.out
  go_cut [5] (fun v wx => v = .int .i64 r ∧ Below W2.heap.size W2 wx)
  case first =>
    refine wp_region_held_drew (S := fun U => Below W2.heap.size W2 U) (by kernel_rfl) ((Below.refl _ W2).drew) (fun hHeld => ?_)
    generalize W2.drew = V at hHeld  ⊢
    refine TkD 0 (some 6) (v := ?_) rfl rfl ?_ ?_; rotate_left
    · (intro W hSw; (try dsimp only at hSw); have b1' := (hSw.cell (World.block_lt_of_cell? _ _ b1)).trans b1; go_simp; try with_reducible rfl)
    (try simp only [Act.put]); (try simp only [List.setIfInBounds_toArray]); (try simp only [List.set_cons_zero, List.set_cons_succ])
    refine TkD 1 (some 7) (v := ?_) rfl rfl ?_ ?_; rotate_left
    · (intro W hSw; (try dsimp only at hSw); have b1' := (hSw.cell (World.block_lt_of_cell? _ _ b1)).trans b1; go_simp; try with_reducible rfl)
    (try simp only [Act.put]); (try simp only [List.setIfInBounds_toArray]); (try simp only [List.set_cons_zero, List.set_cons_succ])
    refine TkH 3 9 ?_
    (try simp only [Act.put]); (try simp only [List.setIfInBounds_toArray]); (try simp only [List.set_cons_zero, List.set_cons_succ])
    refine wpAnyH_ready (rs := [2]) (by kernel_rfl) (by simp) ?_
    refine AllReadyH.cons rfl (fun K hK => ?_) AllReadyH.nil
    go_simp
    go_at_call 173
    refine (cO.out V hHeld).mono ?_
    rintro e V9 ⟨rfl, hb9⟩
    have hB9 := hHeld.trans (hb9.mono hHeld.size)
    clear hHeld
    refine hK.out _ _ hB9 (fun hHeld => ?_)
    clear hK K hb9 hB9
    clear V
    obtain ⟨V, rfl⟩ : ∃ U, U = V9 := ⟨_, rfl⟩
    (try simp only [Act.put]); (try simp only [List.setIfInBounds_toArray]); (try simp only [List.set_cons_zero, List.set_cons_succ])
    refine wpAnyH_ready (rs := [4]) (by kernel_rfl) (by simp) ?_
    refine AllReadyH.cons rfl (fun K hK => ?_) AllReadyH.nil
    go_simp
    go_at_call 185
    refine (cLl.out V hHeld).mono ?_
    rintro e V9 ⟨rfl, hb9⟩
    have hB9 := hHeld.trans (hb9.mono hHeld.size)
    clear hHeld
    refine hK.out _ _ hB9 (fun hHeld => ?_)
    clear hK K hb9 hB9
    clear V
    obtain ⟨V, rfl⟩ : ∃ U, U = V9 := ⟨_, rfl⟩
    (try simp only [Act.put]); (try simp only [List.setIfInBounds_toArray]); (try simp only [List.set_cons_zero, List.set_cons_succ])
    focus (refine TkH 5 5 ?_)
    (try simp only [Act.put]); (try simp only [List.setIfInBounds_toArray]); (try simp only [List.set_cons_zero, List.set_cons_succ])
    refine wpAnyH_done (by kernel_rfl) ?_ _
    go_wp2_with fail
    go_meet
    exact ⟨rfl, hHeld⟩

  case rest =>
  obtain ⟨rfl, hb9⟩ := hcut
  have HF := Lib.hid (below_call HB.out hb9)
  have b1' := cell_later hb9 b1
  by_cases h0 : r < 0
  · have HQ : Hid (R = -1) := by show _ = _; rw [HR.out, if_pos h0]
    clear HR hC hrow cO cLl hb9
    go_wp2_with fail
    go_ret
    exact ⟨by rw [HQ.out]; rfl, HF.out⟩
  · obtain ⟨j, rfl⟩ : ∃ j : Nat, r = (j : Int) := ⟨r.toNat, by omega⟩
    obtain ⟨x, hx⟩ : ∃ x, fo[j]? = some x := ⟨_, List.getElem?_eq_getElem (by omega)⟩
    have HQ : Hid (R = x) := by show _ = _; rw [HR.out, if_neg h0, List.getD_eq_getElem?_getD, show ((j : Int)).toNat = j from rfl, hx]; rfl
    obtain ⟨g, cap, e1, hc, k0⟩ := hC.out j x _ hx hb9
    have c1 := hrow.out _ hb9
    rw [e1] at c1
    generalize fo.length = n at *
    have i0 : (0 : Int) ≤ (j : Int) := by omega
    have i1 : (j : Int) < (n : Int) := by omega
    clear HR hC hrow cO cLl hb9 e1 hc hx h0 hb0
    go_wp2_with fail
    go_ret
    exact ⟨by rw [HQ.out]; rfl, HF.out⟩
end Go.Proofs.YtnbdalohlldnbaaGreatDoor

namespace Go.Proofs.YtnbdalohlldnbaaGreatDoor
open Go.RowKit Bd
attribute [local go_sem ↓] Go.wp_at_zero Go.wp_at_succ
set_option maxHeartbeats 1000000 in
set_option maxRecDepth 100000 in
theorem like_any (s n : NB) (w : World) : Calls Tryz.prog 190 #[s.val, n.val] w fun e w' => e = .returned (.bool (likeN s.n n.n)) ∧ Below w.heap.size w w' := by
  obtain ⟨⟨kd, nm, tx, sp, dp, pr, cn, ks, fr, tt⟩, kv⟩ := s
  obtain ⟨⟨kd', nm', tx', sp', dp', pr', cn', ks', fr', tt'⟩, kv'⟩ := n
  obtain ⟨W2, hW2⟩ : ∃ W, W = (w.alloc (.cells #[.int .i64 kd, .string nm, .string tx, .int .i64 sp, .slice none 0 0, .bool dp, .int .i64 pr, .int .i64 cn, kv, .int .i64 fr, .int .i64 tt] 155)).alloc (.cells #[.int .i64 kd', .string nm', .string tx', .int .i64 sp', .slice none 0 0, .bool dp', .int .i64 pr', .int .i64 cn', kv', .int .i64 fr', .int .i64 tt'] 54) := ⟨_, rfl⟩
  have hb : Below w.heap.size w W2 := by rw [hW2]; exact ((Below.refl _ _).alloc (Nat.le_refl _) _).alloc (by simp) _
  have r2 : W2.heap[w.heap.size + 1]? = some (.cells #[.int .i64 kd', .string nm', .string tx', .int .i64 sp', .slice none 0 0, .bool dp', .int .i64 pr', .int .i64 cn', kv', .int .i64 fr', .int .i64 tt'] 54 (0, 0)) := by
    have := heap_new (w.alloc (.cells #[.int .i64 kd, .string nm, .string tx, .int .i64 sp, .slice none 0 0, .bool dp, .int .i64 pr, .int .i64 cn, kv, .int .i64 fr, .int .i64 tt] 155)) (.cells #[.int .i64 kd', .string nm', .string tx', .int .i64 sp', .slice none 0 0, .bool dp', .int .i64 pr', .int .i64 cn', kv', .int .i64 fr', .int .i64 tt'] 54)
    rw [World.size_alloc] at this
    rw [hW2]; exact this
  have r1 : W2.heap[w.heap.size]? = some (.cells #[.int .i64 kd, .string nm, .string tx, .int .i64 sp, .slice none 0 0, .bool dp, .int .i64 pr, .int .i64 cn, kv, .int .i64 fr, .int .i64 tt] 155 (0, 0)) := by
    rw [hW2]; exact (Below.heap_alloc _ _ _ (by simp)).trans (heap_new _ _)
  have a1 := rowAt r1 1 _ rfl
  have a3 := rowAt r1 3 _ rfl
  have a4 := rowAt r1 4 _ rfl
  have d0 := rowAt r2 0 _ rfl
  have d1 := rowAt r2 1 _ rfl
  have d3 := rowAt r2 3 _ rfl
  have d4 := rowAt r2 4 _ rfl
  have HW2 := Lib.hid hW2
  have HB := Lib.hid hb
  have hq3 := text_beq2 nm' nm
  obtain ⟨q1, h1⟩ : ∃ q, (kd' != 3) = q := ⟨_, rfl⟩
  obtain ⟨q2, h2⟩ : ∃ q, (sp' != sp) = q := ⟨_, rfl⟩
  obtain ⟨q3, h3⟩ : ∃ q, (nm' == nm) = q := ⟨_, rfl⟩
  have HQ : Hid (likeN ⟨kd, nm, tx, sp, dp, pr, cn, ks, fr, tt⟩ ⟨kd', nm', tx', sp', dp', pr', cn', ks', fr', tt'⟩ = (!q1 && !q2 && q3)) := by show _ = _; rw [← h1, ← h2, ← h3, bne, bne, Bool.not_not, Bool.not_not]; rfl
  show Calls _ _ #[.agg #[_, _, _, _, _, _, _, _, _, _, _], .agg #[_, _, _, _, _, _, _, _, _, _, _]] _ _
  dsimp only at HQ ⊢
  generalize likeN _ _ = R at *
  rw [h3] at hq3
  clear hW2 hb r1 r2 h3
  go_enter Tryz.func190, Tryz.ntmps190
  go_upto_region 1 with fail
  rw [← HW2.out]
  cases q1 with
  | true =>
    go_wp2_with fail
    go_ret
    exact ⟨by rw [HQ.out]; rfl, HB.out⟩
  | false =>
    cases q2 with
    | true =>
      go_wp2_with fail
      go_ret
      exact ⟨by rw [HQ.out]; rfl, HB.out⟩
    | false =>
      cases q3 with
      | false =>
        go_wp2_with fail
        go_ret
        exact ⟨by rw [HQ.out]; rfl, HB.out⟩
      | true =>
        go_wp2_with fail
        go_loopw [36] (fun i wr => i = .int .i64 0 ∧ W2 = wr) (fun _ _ => 0)
        case atStart => exact ⟨rfl, rfl⟩
        case round =>
        obtain ⟨rfl, rfl⟩ := hrel
        go_wp2_with fail
        go_ret
        exact ⟨by rw [HQ.out]; rfl, HB.out⟩
end Go.Proofs.YtnbdalohlldnbaaGreatDoor

namespace Go.Proofs.YtnbdalohlldnbaaGreatDoor
open Go.RowKit Bd
attribute [local go_sem ↓] Go.wp_at_zero Go.wp_at_succ
def errV (e : Int) : Value := if e = 0 then .nilIface else .iface 73 (.int .i64 e)
/-- A builder's cells. -/
def brow (ap sp lp : Nat) (mv : Value) (b : BS) : Array Value := #[.pointer (some ⟨ap, 0, none⟩), .pointer (some ⟨sp, 0, none⟩), .pointer (some ⟨lp, 0, none⟩), .int .i64 b.mode, .int .i64 b.back, mv, .int .i64 b.head, .int .i64 b.form, .bool b.quirks, .bool b.foster, .bool b.skip, .string b.pending, .pointer none, errV b.err]
/-- A builder. -/
structure BuH (own : Nat → Nat) (w : World) (bp ap sp lp : Nat) (nv sv lv mv : Value) (l : List NB) (b : BS) : Prop where
  o : own bp = 1
  h : w.heap[bp]? = some (.cells (brow ap sp lp mv b) 34 (0, 0))
  m : SlO own 8 w 3 1 mv b.modes.length (ints b.modes)
  a : ArH own w ap nv l
  s : StH own w sp ap sv b.st
  f : FoH own w lp ap lv b.fo
  e : b.ar = l.map NB.n
theorem BuH.keep {c : Nat → Bool} {own own' : Nat → Nat} {w w' : World} {bp ap sp lp : Nat} {nv sv lv mv : Value} {l : List NB} {b : BS} (h : BuH own w bp ap sp lp nv sv lv mv l b) (hf : Fr c own own' w w') (hc : ∀ x, x ≠ 0 → c x = false) : BuH own' w' bp ap sp lp nv sv lv mv l b :=
  ⟨by rw [hf.old bp (row_lt h.h)]; exact h.o, hf.keep h.h (by rw [h.o]; exact hc 1 (by omega)), h.m.keep hf (hc 8 (by omega)),
    h.a.keep hf (fun x hx => hc x (by rintro rfl; cases hx)), h.s.keep hf (fun x hx => hc x (by rintro rfl; cases hx)), h.f.keep hf (fun x hx => hc x (by rintro rfl; cases hx)), h.e⟩
theorem BuH.below {own : Nat → Nat} {w w' : World} {bp ap sp lp : Nat} {nv sv lv mv : Value} {l : List NB} {b : BS} (h : BuH own w bp ap sp lp nv sv lv mv l b) (hb : Below w.heap.size w w') (hL : Lbl own w) : BuH own w' bp ap sp lp nv sv lv mv l b :=
  h.keep (c := fun _ => false) (Fr.of_below hb hL) (fun _ _ => rfl)
set_option maxRecDepth 100000 in
theorem BNone_any {own : Nat → Nat} {w : World} {bp ap sp lp : Nat} {nv sv lv mv : Value} {l : List NB} {b : BS} (h : BuH own w bp ap sp lp nv sv lv mv l b) : Calls Tryz.prog 44 #[.pointer (some ⟨bp, 0, none⟩)] w (RB false w) := by
  have c0 := rowAt h.h 0 (.pointer (some ⟨ap, 0, none⟩)) rfl
  clear h
  go_enter Tryz.func44, Tryz.ntmps44
  go_wp2_with fail
  go_ret
  exact ⟨rfl, rfl⟩
theorem BArena_any {own : Nat → Nat} {w : World} {bp ap sp lp : Nat} {nv sv lv mv : Value} {l : List NB} {b : BS} (h : BuH own w bp ap sp lp nv sv lv mv l b) : Calls Tryz.prog 17 #[.pointer (some ⟨bp, 0, none⟩)] w fun e w' => e = .returned (.pointer (some ⟨ap, 0, none⟩)) ∧ w = w' := by
  have cN := Lib.hid (BNone_any h)
  have c0 := rowAt h.h 0 (.pointer (some ⟨ap, 0, none⟩)) rfl
  clear h
  go_enter Tryz.func17, Tryz.ntmps17
  go_wp2_with fail
  refine cN.out.mono ?_
  rintro e w1 ⟨rfl, rfl⟩
  go_wp2_with fail
  go_ret
  exact ⟨rfl, rfl⟩
theorem BStack_any {own : Nat → Nat} {w : World} {bp ap sp lp : Nat} {nv sv lv mv : Value} {l : List NB} {b : BS} (h : BuH own w bp ap sp lp nv sv lv mv l b) : Calls Tryz.prog 19 #[.pointer (some ⟨bp, 0, none⟩)] w fun e w' => e = .returned (.pointer (some ⟨sp, 0, none⟩)) ∧ w = w' := by
  have cN := Lib.hid (BNone_any h)
  have c0 := rowAt h.h 1 (.pointer (some ⟨sp, 0, none⟩)) rfl
  clear h
  go_enter Tryz.func19, Tryz.ntmps19
  go_wp2_with fail
  refine cN.out.mono ?_
  rintro e w1 ⟨rfl, rfl⟩
  go_wp2_with fail
  go_ret
  exact ⟨rfl, rfl⟩
theorem BFormats_any {own : Nat → Nat} {w : World} {bp ap sp lp : Nat} {nv sv lv mv : Value} {l : List NB} {b : BS} (h : BuH own w bp ap sp lp nv sv lv mv l b) : Calls Tryz.prog 132 #[.pointer (some ⟨bp, 0, none⟩)] w fun e w' => e = .returned (.pointer (some ⟨lp, 0, none⟩)) ∧ w = w' := by
  have cN := Lib.hid (BNone_any h)
  have c0 := rowAt h.h 2 (.pointer (some ⟨lp, 0, none⟩)) rfl
  clear h
  go_enter Tryz.func132, Tryz.ntmps132
  go_wp2_with fail
  refine cN.out.mono ?_
  rintro e w1 ⟨rfl, rfl⟩
  go_wp2_with fail
  go_ret
  exact ⟨rfl, rfl⟩
theorem BMode_any {own : Nat → Nat} {w : World} {bp ap sp lp : Nat} {nv sv lv mv : Value} {l : List NB} {b : BS} (h : BuH own w bp ap sp lp nv sv lv mv l b) : Calls Tryz.prog 22 #[.pointer (some ⟨bp, 0, none⟩)] w fun e w' => e = .returned (.int .i64 b.mode) ∧ w = w' := by
  have cN := Lib.hid (BNone_any h)
  have c0 := rowAt h.h 3 (.int .i64 b.mode) rfl
  clear h
  go_enter Tryz.func22, Tryz.ntmps22
  go_wp2_with fail
  refine cN.out.mono ?_
  rintro e w1 ⟨rfl, rfl⟩
  go_wp2_with fail
  go_ret
  exact ⟨rfl, rfl⟩
end Go.Proofs.YtnbdalohlldnbaaGreatDoor

namespace Go.Proofs.YtnbdalohlldnbaaGreatDoor
open Go.RowKit Bd
attribute [local go_sem ↓] Go.wp_at_zero Go.wp_at_succ
/-- All labels but nobody's. -/
def cBu (l : Nat) : Bool := l != 0
/-- What an act on a builder answers, and what the builder is then. -/
def RBu (own : Nat → Nat) (bp ap sp lp : Nat) (r : Value) (b : BS) (w : World) (e : Ending) (w' : World) : Prop := e = .returned r ∧ ∃ own' nv sv lv mv l, BuH own' w' bp ap sp lp nv sv lv mv l b ∧ Fr cBu own own' w w'
theorem BuH.set {own : Nat → Nat} {w : World} {bp ap sp lp : Nat} {nv sv lv mv : Value} {l : List NB} {b b' : BS} {k : Nat} {v : Value} (h : BuH own w bp ap sp lp nv sv lv mv l b) (hL : Lbl own w) (hr : (brow ap sp lp mv b).setIfInBounds k v = brow ap sp lp mv b') (hm : b'.modes = b.modes) (ha : b'.ar = b.ar) (hs : b'.st = b.st) (hf : b'.fo = b.fo) :
    BuH own (w.setCell ⟨bp, k, none⟩ v) bp ap sp lp nv sv lv mv l b' ∧ Fr cBu own own w (w.setCell ⟨bp, k, none⟩ v) := by
  have hf1 : Fr (fun y => y == 1) own own w (w.setCell ⟨bp, k, none⟩ v) := Fr.setCell hL (p := ⟨bp, k, none⟩) v (by simp [h.o])
  have k0 : ∀ c : Nat → Bool, c 1 = false → ∀ x, c x = true → (x == 1) = false := fun c hc x hx => by
    cases h1 : (x == 1) with
    | false => rfl
    | true => rw [beq_iff_eq.1 h1, hc] at hx; cases hx
  refine ⟨⟨h.o, by rw [← hr]; exact row_setC h.h k v, by rw [hm]; exact h.m.keep hf1 rfl, h.a.keep hf1 (k0 cAr rfl), by rw [hs]; exact h.s.keep hf1 (k0 cSt rfl), by rw [hf]; exact h.f.keep hf1 (k0 cFo rfl), ha.trans h.e⟩, hf1.mono (fun y hy => ?_)⟩
  cases h1 : (y == 1) with
  | false => rfl
  | true => rw [beq_iff_eq.1 h1] at hy; cases hy
theorem BSet_any {own : Nat → Nat} {w : World} {bp ap sp lp : Nat} {nv sv lv mv : Value} {l : List NB} {b : BS} (x : Int) (h : BuH own w bp ap sp lp nv sv lv mv l b) (hL : Lbl own w) : Calls Tryz.prog 43 #[.pointer (some ⟨bp, 0, none⟩), .int .i64 x] w (RBu own bp ap sp lp (.tuple #[]) { b with mode := x } w) := by
  have cN := Lib.hid (BNone_any h)
  have c0 := rowAt h.h 3 (.int .i64 b.mode) rfl
  have z0 := frozen_row h.h 3
  have HS := Lib.hid (h.set (k := 3) (v := .int .i64 x) (b' := { b with mode := x }) hL rfl rfl rfl rfl rfl)
  clear h hL
  go_enter Tryz.func43, Tryz.ntmps43
  go_wp2_with fail
  refine cN.out.mono ?_
  rintro e w1 ⟨rfl, rfl⟩
  go_wp2_with fail
  go_end0
  exact ⟨rfl, own, _, _, _, _, _, HS.out.1, HS.out.2⟩
theorem BSetHead_any {own : Nat → Nat} {w : World} {bp ap sp lp : Nat} {nv sv lv mv : Value} {l : List NB} {b : BS} (x : Int) (h : BuH own w bp ap sp lp nv sv lv mv l b) (hL : Lbl own w) : Calls Tryz.prog 40 #[.pointer (some ⟨bp, 0, none⟩), .int .i64 x] w (RBu own bp ap sp lp (.tuple #[]) { b with head := x } w) := by
  have cN := Lib.hid (BNone_any h)
  have c0 := rowAt h.h 6 (.int .i64 b.head) rfl
  have z0 := frozen_row h.h 6
  have HS := Lib.hid (h.set (k := 6) (v := .int .i64 x) (b' := { b with head := x }) hL rfl rfl rfl rfl rfl)
  clear h hL
  go_enter Tryz.func40, Tryz.ntmps40
  go_wp2_with fail
  refine cN.out.mono ?_
  rintro e w1 ⟨rfl, rfl⟩
  go_wp2_with fail
  go_end0
  exact ⟨rfl, own, _, _, _, _, _, HS.out.1, HS.out.2⟩
theorem BSetForm_any {own : Nat → Nat} {w : World} {bp ap sp lp : Nat} {nv sv lv mv : Value} {l : List NB} {b : BS} (x : Int) (h : BuH own w bp ap sp lp nv sv lv mv l b) (hL : Lbl own w) : Calls Tryz.prog 142 #[.pointer (some ⟨bp, 0, none⟩), .int .i64 x] w (RBu own bp ap sp lp (.tuple #[]) { b with form := x } w) := by
  have cN := Lib.hid (BNone_any h)
  have c0 := rowAt h.h 7 (.int .i64 b.form) rfl
  have z0 := frozen_row h.h 7
  have HS := Lib.hid (h.set (k := 7) (v := .int .i64 x) (b' := { b with form := x }) hL rfl rfl rfl rfl rfl)
  clear h hL
  go_enter Tryz.func142, Tryz.ntmps142
  go_wp2_with fail
  refine cN.out.mono ?_
  rintro e w1 ⟨rfl, rfl⟩
  go_wp2_with fail
  go_end0
  exact ⟨rfl, own, _, _, _, _, _, HS.out.1, HS.out.2⟩
theorem BSetQuirks_any {own : Nat → Nat} {w : World} {bp ap sp lp : Nat} {nv sv lv mv : Value} {l : List NB} {b : BS} (x : Bool) (h : BuH own w bp ap sp lp nv sv lv mv l b) (hL : Lbl own w) : Calls Tryz.prog 37 #[.pointer (some ⟨bp, 0, none⟩), .bool x] w (RBu own bp ap sp lp (.tuple #[]) { b with quirks := x } w) := by
  have cN := Lib.hid (BNone_any h)
  have c0 := rowAt h.h 8 (.bool b.quirks) rfl
  have z0 := frozen_row h.h 8
  have HS := Lib.hid (h.set (k := 8) (v := .bool x) (b' := { b with quirks := x }) hL rfl rfl rfl rfl rfl)
  clear h hL
  go_enter Tryz.func37, Tryz.ntmps37
  go_wp2_with fail
  refine cN.out.mono ?_
  rintro e w1 ⟨rfl, rfl⟩
  go_wp2_with fail
  go_end0
  exact ⟨rfl, own, _, _, _, _, _, HS.out.1, HS.out.2⟩
end Go.Proofs.YtnbdalohlldnbaaGreatDoor

namespace Go.Proofs.YtnbdalohlldnbaaGreatDoor
open Go.RowKit Bd
attribute [local go_sem ↓] Go.wp_at_zero Go.wp_at_succ
set_option maxHeartbeats 1000000 in
set_option maxRecDepth 100000 in
theorem bhtml_any (n : NB) {w : World} {v : Value} {ns : List Ba} (h : NmAt w v ns) : Calls Tryz.prog 47 #[n.val, v] w fun e w' => e = .returned (.bool (htmlN n.n ns)) ∧ Below w.heap.size w w' := by
  obtain ⟨⟨kd, nm, tx, sp, dp, pr, cn, ks, fr, tt⟩, kv⟩ := n
  obtain ⟨W1, hW1⟩ : ∃ W, W = w.alloc (.cells #[.int .i64 kd, .string nm, .string tx, .int .i64 sp, .slice none 0 0, .bool dp, .int .i64 pr, .int .i64 cn, kv, .int .i64 fr, .int .i64 tt] 54) := ⟨_, rfl⟩
  have hb1 : Below w.heap.size w W1 := by rw [hW1]; exact (Below.refl _ _).alloc (Nat.le_refl _) _
  have r1 : W1.heap[w.heap.size]? = some (.cells #[.int .i64 kd, .string nm, .string tx, .int .i64 sp, .slice none 0 0, .bool dp, .int .i64 pr, .int .i64 cn, kv, .int .i64 fr, .int .i64 tt] 54 (0, 0)) := by rw [hW1]; exact heap_new _ _
  have d0 := rowAt r1 0 _ rfl
  have d1 := rowAt r1 1 _ rfl
  have d3 := rowAt r1 3 _ rfl
  have cC := Lib.hid (Contains_any nm (h.below hb1))
  have HW1 := Lib.hid hW1
  have HB := Lib.hid hb1
  obtain ⟨q1, h1⟩ : ∃ q, (kd == 3) = q := ⟨_, rfl⟩
  obtain ⟨q2, h2⟩ : ∃ q, (sp == 0) = q := ⟨_, rfl⟩
  have HQ : Hid (htmlN ⟨kd, nm, tx, sp, dp, pr, cn, ks, fr, tt⟩ ns = (q1 && q2 && ns.contains nm)) := by show _ = _; rw [← h1, ← h2]; rfl
  show Calls _ _ #[.agg #[_, _, _, _, _, _, _, _, _, _, _], _] _ _
  dsimp only at HQ ⊢
  generalize ns.contains nm = q3 at *
  generalize htmlN _ ns = R at *
  clear hW1 hb1 r1 h
  go_enter Tryz.func47, Tryz.ntmps47
  go_upto_region 1 with fail
  rw [← HW1.out]
  cases q1 with
  | false =>
    go_wp2_with fail
    go_ret
    exact ⟨by rw [HQ.out]; rfl, HB.out⟩
  | true =>
    cases q2 with
    | false =>
      go_wp2_with fail
      go_ret
      exact ⟨by rw [HQ.out]; rfl, HB.out⟩
    | true =>
      go_wp2_with fail
      refine cC.out.mono ?_
      rintro e w1 ⟨rfl, rfl⟩
      go_wp2_with fail
      go_ret
      exact ⟨by rw [HQ.out]; rfl, HB.out⟩
theorem target_any {own : Nat → Nat} {w : World} {bp ap sp lp : Nat} {nv sv lv mv : Value} {l : List NB} {b : BS} (h : BuH own w bp ap sp lp nv sv lv mv l b) (hs : b.st.length ≤ 1000000) : Calls Tryz.prog 57 #[.pointer (some ⟨bp, 0, none⟩)] w (RI (target b) w) := by
  have cT := Lib.hid (STop_any h.s hs)
  have c1 := rowAt h.h 1 (.pointer (some ⟨sp, 0, none⟩)) rfl
  obtain ⟨R, hR⟩ : ∃ R, R = target b := ⟨_, rfl⟩
  rw [← hR]
  unfold target at hR
  generalize topS b.st = t at *
  have HR := Lib.hid hR
  clear h hR
  go_enter Tryz.func57, Tryz.ntmps57
  go_wp2_with fail
  refine cT.out.mono ?_
  rintro e w1 ⟨rfl, rfl⟩
  go_wp2_with fail
  go_ret
  exact ⟨by rw [HR.out]; rfl, rfl⟩
end Go.Proofs.YtnbdalohlldnbaaGreatDoor

namespace Go.Proofs.YtnbdalohlldnbaaGreatDoor
open Go.RowKit Bd
attribute [local go_sem ↓] Go.wp_at_zero Go.wp_at_succ
set_option maxHeartbeats 1000000 in
set_option maxRecDepth 100000 in
theorem Current_any {own : Nat → Nat} {w : World} {bp ap sp lp : Nat} {nv sv lv mv : Value} {l : List NB} {b : BS} (h : BuH own w bp ap sp lp nv sv lv mv l b) (hL : Lbl own w) (hs : b.st.length ≤ 1000000) (hkl : ∀ x ∈ l, x.n.kids.length ≤ 1000000) : Calls Tryz.prog 48 #[.pointer (some ⟨bp, 0, none⟩)] w (RNode (current b) w) := by
  obtain ⟨W1, hW1⟩ : ∃ W, W = w.alloc (.cells zeroNd 54) := ⟨_, rfl⟩
  have hb1 : Below w.heap.size w W1 := by rw [hW1]; exact (Below.refl _ w).alloc (Nat.le_refl _) _
  have hr : W1.heap[w.heap.size]? = some (.cells zeroNd 54 (0, 0)) := by rw [hW1]; exact heap_new _ _
  have cN := Lib.hid (BNone_any (h.below hb1 hL))
  have c0 := rowAt h.h 0 (.pointer (some ⟨ap, 0, none⟩)) rfl
  have c1 := rowAt h.h 1 (.pointer (some ⟨sp, 0, none⟩)) rfl
  have cT : Hid (∀ V, Below w.heap.size w V → Calls Tryz.prog 111 #[.pointer (some ⟨sp, 0, none⟩)] V (RI (topS b.st) V)) := Lib.hid (fun V hV => STop_any (h.below hV hL).s hs)
  have cNd : Hid (∀ V, Below w.heap.size w V → Calls Tryz.prog 46 #[.pointer (some ⟨ap, 0, none⟩), .int .i64 (topS b.st)] V (RNode (current b) V)) := Lib.hid (fun V hV => by
    have := Node_any (topS b.st) (h.below hV hL).a (hL.grow hV.size) hkl
    rw [← h.e] at this
    exact this)
  generalize topS b.st = t at *
  generalize current b = nd at *
  have HW1 := Lib.hid hW1
  have HB1 := Lib.hid hb1
  clear h hL hs hkl hW1 hb1
  go_enter Tryz.func48, Tryz.ntmps48
  go_upto_region 1 with fail
  rw [← HW1.out]
  go_wp2_with fail
  refine cN.out.mono ?_
  rintro e w1 ⟨rfl, rfl⟩
  clear cN
  go_upto_region 3 with fail
  rw [show W1.heap = W1.drew.heap from rfl] at hr
  refine wp_region_held_drew (S := fun U => Below w.heap.size w U) (by kernel_rfl) (HB1.out.drew) (fun hHeld => ?_)
  generalize W1.drew = V at hHeld hr ⊢
  refine TkH 0 6 ?_; refine TkH 1 7 ?_; refine TkH 2 8 ?_
  (try simp only [Act.put]); (try simp only [List.setIfInBounds_toArray]); (try simp only [List.set_cons_zero, List.set_cons_succ])
  refine TkD 3 (some 9) (v := ?_) rfl rfl ?_ ?_; rotate_left
  · (intro W hSw; (try dsimp only at hSw); have c0' := (hSw.cell (World.block_lt_of_cell? _ _ c0)).trans c0; go_simp; try with_reducible rfl)
  (try simp only [Act.put]); (try simp only [List.setIfInBounds_toArray]); (try simp only [List.set_cons_zero, List.set_cons_succ])
  refine TkH 4 10 ?_; refine TkH 5 11 ?_; refine TkH 6 12 ?_
  (try simp only [Act.put]); (try simp only [List.setIfInBounds_toArray]); (try simp only [List.set_cons_zero, List.set_cons_succ])
  refine TkD 7 (some 13) (v := ?_) rfl rfl ?_ ?_; rotate_left
  · (intro W hSw; (try dsimp only at hSw); have c1' := (hSw.cell (World.block_lt_of_cell? _ _ c1)).trans c1; go_simp; try with_reducible rfl)
  (try simp only [Act.put]); (try simp only [List.setIfInBounds_toArray]); (try simp only [List.set_cons_zero, List.set_cons_succ])
  refine wpAnyH_ready (rs := [8]) (by kernel_rfl) (by simp) ?_
  refine AllReadyH.cons rfl (fun K hK => ?_) AllReadyH.nil
  go_simp
  go_at_call 111
  refine (cT.out V hHeld).mono ?_
  rintro e V9 ⟨rfl, rfl⟩
  refine hK.out _ _ hHeld (fun hSx => ?_)
  clear hSx hK K
  (try simp only [Act.put]); (try simp only [List.setIfInBounds_toArray]); (try simp only [List.set_cons_zero, List.set_cons_succ])
  refine wpAnyH_ready (rs := [9]) (by kernel_rfl) (by simp) ?_
  refine AllReadyH.cons rfl (fun K hK => ?_) AllReadyH.nil
  go_simp
  go_at_call 46
  refine (cNd.out V hHeld).mono ?_
  rintro e V9 ⟨ka, kn, kc, rfl, hki, hkg, hb9⟩
  have hB9 := hHeld.trans (hb9.mono hHeld.size)
  replace hkg : ∀ g off, ka = some ⟨g, off, none⟩ → w.heap.size < g := fun g off e => Nat.lt_of_lt_of_le (row_lt hr) (hkg g off e)
  replace hr := (hb9.block _ (row_lt hr)).trans hr
  clear hHeld
  refine hK.out _ _ hB9 (fun hHeld => ?_)
  clear hK K hb9 hB9
  dsimp only [NB.val, NB.row]
  clear V
  obtain ⟨V, rfl⟩ : ∃ U, U = V9 := ⟨_, rfl⟩
  (try simp only [Act.put]); (try simp only [List.setIfInBounds_toArray]); (try simp only [List.set_cons_zero, List.set_cons_succ])
  refine wpAnyH_ready (rs := [10]) (by kernel_rfl) (by simp) ?_
  refine AllReadyH.cons rfl (fun K hK => ?_) AllReadyH.nil
  rw [if_pos (by rfl)]
  refine wp_store_row 54 (.tmp 2) (.tmp 15) rfl w.heap.size #[.int .i64 nd.kind, .string nd.name, .string nd.text, .int .i64 nd.space, .slice none 0 0, .bool nd.dup, .int .i64 nd.parent, .int .i64 nd.content, .slice ka kn kc, .int .i64 nd.frm, .int .i64 nd.till] rfl rfl 54 _ hr nodeSize rfl (by simp [Value.oneCell']) ?_
  replace hki := IntsAt.keep hki (w' := V.setRow w.heap.size #[.int .i64 nd.kind, .string nd.name, .string nd.text, .int .i64 nd.space, .slice none 0 0, .bool nd.dup, .int .i64 nd.parent, .int .i64 nd.content, .slice ka kn kc, .int .i64 nd.frm, .int .i64 nd.till]) (fun g off e => setRow_other _ _ _ _ (by have := hkg g off e; omega))
  have hr9 := setRow_heap V w.heap.size _ #[.int .i64 nd.kind, .string nd.name, .string nd.text, .int .i64 nd.space, .slice none 0 0, .bool nd.dup, .int .i64 nd.parent, .int .i64 nd.content, .slice ka kn kc, .int .i64 nd.frm, .int .i64 nd.till] _ _ hr
  have hB9 := below_setRow (cs := #[.int .i64 nd.kind, .string nd.name, .string nd.text, .int .i64 nd.space, .slice none 0 0, .bool nd.dup, .int .i64 nd.parent, .int .i64 nd.content, .slice ka kn kc, .int .i64 nd.frm, .int .i64 nd.till]) hHeld (Nat.le_refl _)
  clear hHeld hr
  refine hK.out _ _ hB9 (fun hHeld => ?_)
  clear hK K hB9
  (try simp only [Act.put]); (try simp only [List.setIfInBounds_toArray]); (try simp only [List.set_cons_zero, List.set_cons_succ])
  refine wpAnyH_done (by kernel_rfl) ?_ _
  go_wp2_with fail
  refine bodyPost_ret (results_cell_row (P := Tryz.prog) (p := 2) rfl _ _ w.heap.size 54 #[.int .i64 nd.kind, .string nd.name, .string nd.text, .int .i64 nd.space, .slice none 0 0, .bool nd.dup, .int .i64 nd.parent, .int .i64 nd.content, .slice ka kn kc, .int .i64 nd.frm, .int .i64 nd.till] (0, 0) _ rfl hr9 Tryz.underlying54 rfl nodeSize) rfl ?_
  exact ⟨ka, kn, kc, rfl, hki, fun g off e => Nat.le_of_lt (hkg g off e), hHeld⟩

theorem Is_any {own : Nat → Nat} {w : World} {bp ap sp lp : Nat} {nv sv lv mv : Value} {l : List NB} {b : BS} {v : Value} {ns : List Ba} (h : BuH own w bp ap sp lp nv sv lv mv l b) (hL : Lbl own w) (hs : b.st.length ≤ 1000000) (hkl : ∀ x ∈ l, x.n.kids.length ≤ 1000000) (hN : NmAt w v ns) : Calls Tryz.prog 21 #[.pointer (some ⟨bp, 0, none⟩), v] w fun e w' => e = .returned (.bool (isB b ns)) ∧ Below w.heap.size w w' := by
  have cC := Lib.hid (Current_any h hL hs hkl)
  have HN := Lib.hid hN
  have HE : Hid (isB b ns = htmlN (current b) ns) := Lib.hid rfl
  generalize isB b ns = R at *
  generalize current b = nd at *
  clear h hL hs hkl hN
  go_enter Tryz.func21, Tryz.ntmps21
  go_wp2_with fail
  refine cC.out.mono ?_
  rintro e w2 ⟨ka, kn, kc, rfl, _, _, hb2⟩
  have cH := Lib.hid (bhtml_any ⟨nd, .slice ka kn kc⟩ (HN.out.below hb2))
  have HB := Lib.hid hb2
  rw [← HE.out] at cH
  dsimp only [NB.val, NB.row] at cH ⊢
  clear cC hb2 HE
  go_wp2_with fail
  refine cH.out.mono ?_
  rintro e w3 ⟨rfl, hb3⟩
  have HB3 := Lib.hid (below_call HB.out hb3)
  clear cH hb3
  go_wp2_with fail
  go_ret
  exact ⟨rfl, HB3.out⟩
end Go.Proofs.YtnbdalohlldnbaaGreatDoor

namespace Go.Proofs.YtnbdalohlldnbaaGreatDoor
open Go.RowKit Bd
attribute [local go_sem ↓] Go.wp_at_zero Go.wp_at_succ
theorem NmAt.one (w : World) (s : Ba) : NmAt (w.alloc (.cells #[.string s] 9)) (.slice (some ⟨w.heap.size, 0, none⟩) 1 1) [s] := by
  refine Or.inr ⟨w.heap.size, 0, 1, 1, rfl, rfl, Nat.le_refl _, by simp, fun j hj => ?_⟩
  obtain rfl : j = 0 := by simpa using hj
  exact rowAt (heap_new w (.cells #[.string s] 9)) 0 _ rfl
set_option maxHeartbeats 1000000 in
set_option maxRecDepth 100000 in
theorem Place_any {own : Nat → Nat} {w : World} {bp ap sp lp : Nat} {nv sv lv mv : Value} {l : List NB} {b : BS} (tg : Int) (h : BuH own w bp ap sp lp nv sv lv mv l b) (hL : Lbl own w) (hkl : ∀ x ∈ l, x.n.kids.length ≤ 1000000) (hfo : b.foster = false) :
    Calls Tryz.prog 56 #[.pointer (some ⟨bp, 0, none⟩), .int .i64 tg] w fun e w' => e = .returned (.tuple #[.int .i64 (place b tg).1, .int .i64 (place b tg).2]) ∧ Below w.heap.size w w' := by
  have cN := Lib.hid (BNone_any h)
  have c0 := rowAt h.h 0 (.pointer (some ⟨ap, 0, none⟩)) rfl
  have c9 := rowAt h.h 9 (.bool b.foster) rfl
  have cD := Node_any tg h.a hL hkl
  rw [← h.e] at cD
  replace cD := Lib.hid cD
  have HE : Hid (place b tg = if htmlN (node b.ar tg) [templateS] then ((node b.ar tg).content, -1) else (tg, -1)) := Lib.hid (by
    unfold place
    rw [hfo]
    rfl)
  rw [hfo] at c9
  generalize place b tg = R at *
  generalize node b.ar tg = nd at *
  obtain ⟨kd, nm, tx, sp', dp, pr, cn, ks, fr, tt⟩ := nd
  clear h hL hkl hfo
  go_enter Tryz.func56, Tryz.ntmps56
  go_wp2_with fail
  refine cN.out.mono ?_
  rintro e w1 ⟨rfl, rfl⟩
  go_wp2_with fail
  refine cD.out.mono ?_
  rintro e w2 ⟨a5, k5', c5, rfl, _, _, hb2⟩
  dsimp only [NB.val, NB.row]
  clear cN cD c0 c9
  go_upto_region 7 with (refine wpList_store_row rfl 54 (.tmp 6) (.tmp 34) rfl w2.heap.size #[.int .i64 kd, .string nm, .string tx, .int .i64 sp', .slice none 0 0, .bool dp, .int .i64 pr, .int .i64 cn, .slice a5 k5' c5, .int .i64 fr, .int .i64 tt] rfl rfl 54 _ (heap_new _ _) nodeSize rfl (by simp [Value.oneCell']) ?_)
  obtain ⟨W3, hW3⟩ : ∃ W, W = (w2.alloc (.cells zeroNd 54)).setRow w2.heap.size #[.int .i64 kd, .string nm, .string tx, .int .i64 sp', .slice none 0 0, .bool dp, .int .i64 pr, .int .i64 cn, .slice a5 k5' c5, .int .i64 fr, .int .i64 tt] := ⟨_, rfl⟩
  have r3 : W3.heap[w2.heap.size]? = some (.cells #[.int .i64 kd, .string nm, .string tx, .int .i64 sp', .slice none 0 0, .bool dp, .int .i64 pr, .int .i64 cn, .slice a5 k5' c5, .int .i64 fr, .int .i64 tt] 54 (0, 0)) := by rw [hW3]; exact setRow_heap _ _ _ _ _ _ (heap_new _ _)
  have hb3 : Below w2.heap.size w2 W3 := by rw [hW3]; exact below_setRow ((Below.refl _ _).alloc (Nat.le_refl _) _) (Nat.le_refl _)
  rw [← hW3]
  obtain ⟨b0, hb⟩ : ∃ b, b = w2.heap.size := ⟨_, rfl⟩
  have HF := Lib.hid (below_call hb2 hb3)
  rw [← hb] at r3 ⊢
  have k0 := rowAt r3 0 _ rfl
  have k1 := rowAt r3 1 _ rfl
  have k2 := rowAt r3 2 _ rfl
  have k3 := rowAt r3 3 _ rfl
  have k4 := rowAt r3 4 _ rfl
  have k5 := rowAt r3 5 _ rfl
  have k6 := rowAt r3 6 _ rfl
  have k7 := rowAt r3 7 _ rfl
  have k8 := rowAt r3 8 _ rfl
  have k9 := rowAt r3 9 _ rfl
  have k10 := rowAt r3 10 _ rfl
  have R3 := Lib.hid r3
  clear hb hb3 hb2 hW3 r3
  go_wp2_with fail
  refine (bhtml_any ⟨⟨kd, nm, tx, sp', dp, pr, cn, ks, fr, tt⟩, .slice a5 k5' c5⟩ (NmAt.one W3 templateS)).mono ?_
  rintro e w4 ⟨rfl, hb4⟩
  have hb34 : Below W3.heap.size W3 w4 := below_call ((Below.refl _ _).alloc (Nat.le_refl _) _) hb4
  have k7' := cell_later hb34 k7
  have HF4 := Lib.hid (below_call HF.out hb34)
  have HE2 := HE.out
  obtain ⟨q, hq⟩ : ∃ q, htmlN ⟨kd, nm, tx, sp', dp, pr, cn, ks, fr, tt⟩ [templateS] = q := ⟨_, rfl⟩
  rw [hq] at HE2
  dsimp only
  rw [hq]
  clear k0 k1 k2 k3 k4 k5 k6 k7 k8 k9 k10 hb4 hb34 hq HE
  cases q with
  | true =>
    have HQ : Hid (R = (cn, -1)) := by show _ = _; rw [HE2]; rfl
    clear HE2
    go_wp2_with fail
    go_ret2
    exact ⟨by rw [HQ.out]; rfl, HF4.out⟩
  | false =>
    have HQ : Hid (R = (tg, -1)) := by show _ = _; rw [HE2]; rfl
    clear HE2
    go_wp2_with fail
    go_ret2
    exact ⟨by rw [HQ.out]; rfl, HF4.out⟩
end Go.Proofs.YtnbdalohlldnbaaGreatDoor

namespace Go.Proofs.YtnbdalohlldnbaaGreatDoor
open Go.RowKit Bd
attribute [local go_sem ↓] Go.wp_at_zero Go.wp_at_succ
theorem cAr_of {x : Nat} (h : cSt x = true ∨ cFo x = true) : cAr x = false := by
  rcases h with h | h
  all_goals (simp only [cSt, cFo, Bool.or_eq_true, beq_iff_eq] at h; rcases h with rfl | rfl <;> rfl)
theorem BuH.arena {own own' : Nat → Nat} {w w' : World} {bp ap sp lp : Nat} {nv nv' sv lv mv : Value} {l l' : List NB} {b : BS} (h : BuH own w bp ap sp lp nv sv lv mv l b) (hA : ArH own' w' ap nv' l') (hf : Fr cAr own own' w w') {a : Ar} (ha : l'.map NB.n = a) : BuH own' w' bp ap sp lp nv' sv lv mv l' { b with ar := a } :=
  ⟨by rw [hf.old bp (row_lt h.h)]; exact h.o, hf.keep h.h (by rw [h.o]; rfl), h.m.keep hf rfl, hA, h.s.keep hf (fun x hx => cAr_of (Or.inl hx)), h.f.keep hf (fun x hx => cAr_of (Or.inr hx)), ha.symm⟩
theorem cBu_of {x : Nat} (h : cBu x = false) : cAr x = false := by
  have : x = 0 := by simpa [cBu] using h
  subst this; rfl
/-- What the acts ask of the nodes. -/
structure GoodA (l : List NB) : Prop where
  par : ParOk l
  kid : KidOk l
  ne : l ≠ []
  few : l.length < 1000000
  up : ∀ x, has (l.map NB.n) x = true → Endz (l.map NB.n) l.length x
theorem GoodA.kl {l : List NB} (h : GoodA l) : ∀ x ∈ l, x.n.kids.length ≤ 1000000 := fun x hx => by
  obtain ⟨j, hj⟩ := List.getElem?_of_mem hx
  have := h.par.kids j x hj
  omega
theorem place2 (b : BS) (tg : Int) (hfo : b.foster = false) : (place b tg).2 = -1 := by
  have : place b tg = if htmlN (node b.ar tg) [templateS] then ((node b.ar tg).content, -1) else (tg, -1) := by
    unfold place
    rw [hfo]
    rfl
  rw [this]
  split <;> rfl
theorem Put_any {own : Nat → Nat} {w : World} {bp ap sp lp : Nat} {nv sv lv mv : Value} {l : List NB} {b : BS} (n tg : Int) (h : BuH own w bp ap sp lp nv sv lv mv l b) (hL : Lbl own w) (hG : GoodA l) (hfo : b.foster = false) :
    Calls Tryz.prog 60 #[.pointer (some ⟨bp, 0, none⟩), .int .i64 n, .int .i64 tg] w (RBu own bp ap sp lp (.tuple #[]) (putB b n tg) w) := by
  have cN := Lib.hid (BNone_any h)
  have cP := Place_any tg h hL hG.kl hfo
  rw [place2 b tg hfo] at cP
  have HE : Hid (putB b n tg = { b with ar := (append b.ar (place b tg).1 n).1 }) := Lib.hid (by unfold putB; rw [place2 b tg hfo, if_neg (by omega)])
  generalize putB b n tg = R at *
  generalize (place b tg).1 = pl at *
  replace cP := Lib.hid cP
  have HS := Lib.hid h
  have HL := Lib.hid hL
  have HG := Lib.hid hG
  clear h hL hG hfo
  go_enter Tryz.func60, Tryz.ntmps60
  go_wp2_with fail
  refine cN.out.mono ?_
  rintro e w1 ⟨rfl, rfl⟩
  go_wp2_with fail
  refine cP.out.mono ?_
  rintro e w2 ⟨rfl, hb2⟩
  have hS2 := HS.out.below hb2 HL.out
  have hL2 := HL.out.grow hb2.size
  have c0 := rowAt hS2.h 0 (.pointer (some ⟨ap, 0, none⟩)) rfl
  have cA := Append_any pl n hS2.a hL2 HG.out.par HG.out.ne HG.out.up
  rw [← hS2.e] at cA
  replace cA := Lib.hid cA
  have HS2 := Lib.hid hS2
  have HF := Lib.hid (Fr.of_below (c := cBu) hb2 HL.out)
  clear cN cP hb2 hS2 hL2
  go_wp2_with fail
  refine cA.out.mono ?_
  rintro e w3 ⟨rfl, own3, nv3, l3, hm, hA3, hF3⟩
  have HB := Lib.hid (⟨HS2.out.arena hA3 hF3 hm, HF.out.trans (hF3.mono (fun x hx => cBu_of hx))⟩ : _ ∧ _)
  clear cA hA3 hF3 hm c0
  go_wp2_with fail
  go_end0
  rw [HE.out]
  exact ⟨rfl, own3, _, _, _, _, _, HB.out.1, HB.out.2⟩
theorem Chars_any {own : Nat → Nat} {w : World} {bp ap sp lp : Nat} {nv sv lv mv : Value} {l : List NB} {b : BS} (s : Ba) (h : BuH own w bp ap sp lp nv sv lv mv l b) (hL : Lbl own w) (hG : GoodA l) (hfo : b.foster = false) (hs : b.st.length ≤ 1000000) (ht : ∀ (j : Nat) (x : NB), l[j]? = some x → x.n.text.size + s.size ≤ 1000000000) :
    Calls Tryz.prog 25 #[.pointer (some ⟨bp, 0, none⟩), .string s] w (RBu own bp ap sp lp (.tuple #[]) (charsB b s) w) := by
  have cN := Lib.hid (BNone_any h)
  have cT := Lib.hid (target_any h hs)
  have cP := Place_any (target b) h hL hG.kl hfo
  rw [place2 b _ hfo] at cP
  have HE : Hid (charsB b s = if 0 < (place b (target b)).1 then { b with ar := (textA b.ar (place b (target b)).1 (-1) s).1 } else b) := Lib.hid (by unfold charsB; rw [place2 b _ hfo])
  generalize charsB b s = R at *
  generalize (place b (target b)).1 = pl at *
  generalize target b = tg at *
  replace cP := Lib.hid cP
  have HS := Lib.hid h
  have HL := Lib.hid hL
  have HG := Lib.hid hG
  have HT := Lib.hid ht
  clear h hL hG hfo ht hs
  go_enter Tryz.func25, Tryz.ntmps25
  go_wp2_with fail
  refine cN.out.mono ?_
  rintro e w1 ⟨rfl, rfl⟩
  go_wp2_with fail
  refine cT.out.mono ?_
  rintro e w1 ⟨rfl, rfl⟩
  go_wp2_with fail
  refine cP.out.mono ?_
  rintro e w2 ⟨rfl, hb2⟩
  have hS2 := HS.out.below hb2 HL.out
  have hL2 := HL.out.grow hb2.size
  have c0 := rowAt hS2.h 0 (.pointer (some ⟨ap, 0, none⟩)) rfl
  have cA := Text_any pl s hS2.a hL2 HG.out.par HG.out.few HG.out.ne HG.out.kid HT.out
  rw [← hS2.e] at cA
  replace cA := Lib.hid cA
  have HS2 := Lib.hid hS2
  have HF := Lib.hid (Fr.of_below (c := cBu) hb2 HL.out)
  clear cN cP cT hb2 hS2 hL2
  by_cases h0 : 0 < pl
  · have HQ : Hid (R = { b with ar := (textA b.ar pl (-1) s).1 }) := by show _ = _; rw [HE.out, if_pos h0]
    clear HE
    go_wp2_with fail
    refine cA.out.mono ?_
    rintro e w3 ⟨rfl, own3, nv3, l3, hm, hA3, hF3⟩
    have HB := Lib.hid (⟨HS2.out.arena hA3 hF3 hm, HF.out.trans (hF3.mono (fun x hx => cBu_of hx))⟩ : _ ∧ _)
    clear cA hA3 hF3 hm c0
    go_wp2_with fail
    go_end0
    rw [HQ.out]
    exact ⟨rfl, own3, _, _, _, _, _, HB.out.1, HB.out.2⟩
  · have HQ : Hid (R = b) := by show _ = _; rw [HE.out, if_neg h0]
    clear HE cA
    go_wp2_with fail
    go_end0
    rw [HQ.out]
    exact ⟨rfl, own, _, _, _, _, _, HS2.out, HF.out⟩
end Go.Proofs.YtnbdalohlldnbaaGreatDoor

namespace Go.Proofs.YtnbdalohlldnbaaGreatDoor
open Go.RowKit Bd
attribute [local go_sem ↓] Go.wp_at_zero Go.wp_at_succ
set_option maxRecDepth 100000 in
theorem Fail_any {own : Nat → Nat} {w : World} {bp ap sp lp : Nat} {nv sv lv mv : Value} {l : List NB} {b : BS} (x : Int) (h : BuH own w bp ap sp lp nv sv lv mv l b) (hL : Lbl own w) : Calls Tryz.prog 116 #[.pointer (some ⟨bp, 0, none⟩), .int .i64 x] w (RBu own bp ap sp lp (.tuple #[]) (failB b x) w) := by
  have cN := Lib.hid (BNone_any h)
  have c0 := rowAt h.h 13 (errV b.err) rfl
  have z0 := frozen_row h.h 13
  have HL := Lib.hid hL
  have HS := Lib.hid h
  have HE : Hid (failB b x = if b.err == 0 && x != 0 then { b with err := x } else b) := Lib.hid rfl
  have HZ : Hid (x ≠ 0 → BuH own (w.setCell ⟨bp, 13, none⟩ (.iface 73 (.int .i64 x))) bp ap sp lp nv sv lv mv l { b with err := x } ∧ Fr cBu own own w (w.setCell ⟨bp, 13, none⟩ (.iface 73 (.int .i64 x)))) := Lib.hid (fun hx =>
    h.set (k := 13) (v := .iface 73 (.int .i64 x)) (b' := { b with err := x }) hL (by unfold brow errV; simp [hx]) rfl rfl rfl rfl)
  generalize failB b x = R at *
  clear h hL
  by_cases h0 : b.err = 0
  · rw [show errV b.err = .nilIface by unfold errV; rw [if_pos h0]] at c0
    by_cases h1 : x = 0
    · have HQ : Hid (R = b) := by show _ = _; rw [HE.out, h1]; simp
      subst h1
      clear HE HZ h0
      go_enter Tryz.func116, Tryz.ntmps116
      go_wp2_with fail
      refine cN.out.mono ?_
      rintro e w1 ⟨rfl, rfl⟩
      go_wp2_with fail
      go_end0
      rw [HQ.out]
      exact ⟨rfl, own, _, _, _, _, _, HS.out, Fr.refl _ HL.out⟩
    · have HQ : Hid (R = { b with err := x }) := by show _ = _; rw [HE.out, h0]; simp [h1]
      have hx : (x != 0) = true := bne_iff_ne.2 h1
      have HZ2 := Lib.hid (HZ.out h1)
      clear HE HZ h0
      go_enter Tryz.func116, Tryz.ntmps116
      go_wp2_with fail
      refine cN.out.mono ?_
      rintro e w1 ⟨rfl, rfl⟩
      go_wp2_with fail
      go_end0
      rw [HQ.out]
      exact ⟨rfl, own, _, _, _, _, _, HZ2.out.1, HZ2.out.2⟩
  · have HQ : Hid (R = b) := by show _ = _; rw [HE.out, beq_eq_false_iff_ne.2 h0]; rfl
    rw [show errV b.err = .iface 73 (.int .i64 b.err) by unfold errV; rw [if_neg h0]] at c0
    clear HE HZ h0
    go_enter Tryz.func116, Tryz.ntmps116
    go_wp2_with fail
    refine cN.out.mono ?_
    rintro e w1 ⟨rfl, rfl⟩
    go_wp2_with fail
    go_end0
    rw [HQ.out]
    exact ⟨rfl, own, _, _, _, _, _, HS.out, Fr.refl _ HL.out⟩
end Go.Proofs.YtnbdalohlldnbaaGreatDoor

namespace Go.Proofs.YtnbdalohlldnbaaGreatDoor
open Go.RowKit Bd
attribute [local go_sem ↓] Go.wp_at_zero Go.wp_at_succ
def RNewB (own : Nat → Nat) (w : World) (e : Ending) (w' : World) : Prop := ∃ bp ap sp lp nv l own', e = .returned (.pointer (some ⟨bp, 0, none⟩)) ∧ BuH own' w' bp ap sp lp nv (.slice none 0 0) (.slice none 0 0) (.slice none 0 0) l newB ∧ Fr cNo own own' w w'
set_option maxRecDepth 100000 in
theorem NewB_any {own : Nat → Nat} {w : World} (hL : Lbl own w) : Calls Tryz.prog 35 #[] w (RNewB own w) := by
  have cA := Lib.hid (NewA_any hL)
  clear hL
  go_enter Tryz.func35, Tryz.ntmps35
  go_wp2_with fail
  refine cA.out.mono ?_
  rintro e w1 ⟨ap, nv, l, own1, rfl, hm, hA, hF⟩
  have hne : l ≠ [] := by rintro rfl; cases hm
  have cS := Lib.hid (NewS_any hA hne hF.lbl)
  have HA := Lib.hid hA
  have HF := Lib.hid hF
  have HM := Lib.hid hm
  have HNE := Lib.hid hne
  clear cA hA hF hm hne
  go_wp2_with fail
  refine cS.out.mono ?_
  rintro e w2 ⟨sp, own2, rfl, hS2, hF2⟩
  have hA2 := HA.out.keep hF2 (fun _ _ => rfl)
  have cF := Lib.hid (NewF_any hA2 HNE.out hF2.lbl)
  have HA2 := Lib.hid hA2
  have HS2 := Lib.hid hS2
  have HF2 := Lib.hid (HF.out.trans hF2)
  clear cS hS2 hF2 hA2
  go_wp2_with fail
  refine cF.out.mono ?_
  rintro e w3 ⟨lp, own3, rfl, hL3, hF3⟩
  have hf4 := fr_new hF3.lbl (.cells (brow ap sp lp (.slice none 0 0) newB) 34) 1
  have HX : Hid (RNewB own w (.returned (.pointer (some ⟨w3.heap.size, 0, none⟩))) (w3.alloc (.cells (brow ap sp lp (.slice none 0 0) newB) 34))) := Lib.hid
    ⟨w3.heap.size, ap, sp, lp, nv, l, lab own3 w3.heap.size 1, rfl, ⟨lab_self _ _ _, heap_new _ _, SlO.nil _ _ _ _ _, (HA2.out.keep hF3 (fun _ _ => rfl)).keep hf4 (fun _ _ => rfl), (HS2.out.keep hF3 (fun _ _ => rfl)).keep hf4 (fun _ _ => rfl), hL3.keep hf4 (fun _ _ => rfl), HM.out.symm⟩, (HF2.out.trans hF3).trans hf4⟩
  clear cF hL3 hF3 hf4
  go_wp2_with fail
  go_ret
  exact HX.out
end Go.Proofs.YtnbdalohlldnbaaGreatDoor
