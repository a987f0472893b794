/-
  Package adopt: furthest, Other.
  slices.Delete at open elements.
  slices.Delete at open elements; Stack.Remove.
  copy at elements of any size; slices of one's own that grow into their room. No condition.
  slices.Insert of one element into the middle, where there is room.
  Package formats: lay, Insert at any place (where there is room).
-/
import Derived.Test.YtnbdalohlldnbaaGreatDoorM09
import Derived.ArgAppend
import Derived.Lib.SliceRun
import Derived.Lib.Overlaps
import Derived.Laws.Externs
import Derived.Laws.IdiomCopy
namespace Go.Proofs.YtnbdalohlldnbaaGreatDoor
open Go.RowKit Bd
attribute [local go_sem ↓] Go.wp_at_zero Go.wp_at_succ
def furF (b : BS) (k : Nat) : Int := match (b.st.drop k).find? (fun o => special (node b.ar o.node).space (node b.ar o.node).name) with
  | some o => o.node
  | none => -1
theorem furF_step (b : BS) {k : Nat} {o : OpenL} (h : b.st[k]? = some o) : furF b k = if special (node b.ar o.node).space (node b.ar o.node).name then o.node else furF b (k + 1) := by
  obtain ⟨hk, he⟩ := List.getElem?_eq_some_iff.1 h
  unfold furF
  rw [List.drop_eq_getElem_cons hk, he, List.find?_cons]
  cases special (node b.ar o.node).space (node b.ar o.node).name <;> rfl
theorem furF_end (b : BS) {k : Nat} (h : b.st.length ≤ k) : furF b k = -1 := by
  unfold furF
  rw [List.drop_eq_nil_of_le h]; rfl
theorem furthest_eq (b : BS) (k : Nat) : furthest b (k : Int) = furF b (k + 1) := by
  unfold furthest furF
  rw [show ((k : Int) + 1).toNat = k + 1 by omega]
  cases List.find? (fun o => special (node b.ar o.node).space (node b.ar o.node).name) (b.st.drop (k + 1)) <;> rfl
section
variable {n : Nat} {own : Nat → Nat} {w : World} {bp ap sp lp : Nat} {b : BS}
set_option maxHeartbeats 1000000 in
set_option maxRecDepth 100000 in
theorem afur_any (k : Nat) (hk : k < b.st.length) (H : BX n own w bp ap sp lp b) : Calls Tryz.prog 210 #[.pointer (some ⟨bp, 0, none⟩), .int .i64 (k : Int)] w fun e w' => e = .returned (.int .i64 (furthest b (k : Int))) ∧ Below w.heap.size w w' := by
  rw [furthest_eq]
  have cS := Lib.hid (xStack H)
  have HR : Hid (furF b (k + 1) = furF b (k + 1)) := Lib.hid rfl
  generalize hR : furF b (k + 1) = R at HR ⊢
  have hR2 : Hid (furF b (k + 1) = R) := Lib.hid hR
  have HH := Lib.hid H
  have hst := H.G.st.1
  have h512 : k + 1 ≤ 600 := by omega
  have HK : Hid (k + 1 ≤ 600) := Lib.hid h512
  clear HR hR H hk hst
  go_enter Tryz.func210, Tryz.ntmps210
  go_wp2_with fail
  refine cS.out.mono ?_
  rintro e w1 ⟨rfl, rfl⟩
  go_wp2_with fail
  clear cS
  go_loopw [6] (fun y wr => ∃ j : Nat, y = .int .i64 (j : Int) ∧ j ≤ 600 ∧ Hid (furF b j = R) ∧ Hid (Below w.heap.size w wr)) (fun y _ => 600 - (intOf y).toNat)
  case atStart => exact ⟨k + 1, by simp, HK.out, hR2, Lib.hid (Below.refl _ _)⟩
  case round =>
  obtain ⟨j, rfl, hj, hjR, hb⟩ := hrel
  clear hR2
  have H1 := HH.out.below hb.out
  have cL := Lib.hid (xSLen H1)
  have hst := HH.out.G.st.1
  cases ho : b.st[j]? with
  | none =>
    have hge : b.st.length ≤ j := List.getElem?_eq_none_iff.1 ho
    have HQ : Hid (R = -1) := by show _ = _; rw [← hjR.out, furF_end b hge]
    have hlt : ¬ ((j : Int) < (b.st.length : Int)) := by omega
    generalize b.st.length = L at *
    clear H1 hjR ho hge HH
    go_wp2_with fail
    refine cL.out.mono ?_
    rintro e w3 ⟨rfl, rfl⟩
    go_wp2_with fail
    go_ret
    exact ⟨by rw [HQ.out]; rfl, hb.out⟩
  | some o =>
    have hjl : j < b.st.length := (List.getElem?_eq_some_iff.1 ho).1
    have hlt : ((j : Int) < (b.st.length : Int)) := by omega
    have hat : atS b.st (j : Int) = o.node := atS_of ho
    have hstep := furF_step b ho
    rw [hjR.out] at hstep
    have cA : Hid (∀ V, Below w.heap.size w V → Calls Tryz.prog 49 #[.pointer (some ⟨sp, 0, none⟩), .int .i64 (j : Int)] V (RI o.node V)) := Lib.hid (fun V hV => by rw [← hat]; exact xSAt (j : Int) (HH.out.below hV))
    have cN : Hid (∀ V, Below w.heap.size w V → Calls Tryz.prog 103 #[.pointer (some ⟨bp, 0, none⟩), .int .i64 o.node] V (RNode (node b.ar o.node) V)) := Lib.hid (fun V hV => anode_any o.node (HH.out.below hV))
    have hnm := node_ok HH.out.G.nd o.node
    have cE : Hid (∀ V, Below w.heap.size w V → EnvK V) := Lib.hid (fun V hV => (HH.out.below hV).E.k)
    have HJ : Hid (j + 1 ≤ 600) := Lib.hid (by omega)
    have HJL : Hid (j < 600) := Lib.hid (by omega)
    generalize b.st.length = L at *
    generalize o.node = on at *
    generalize node b.ar on = nd at *
    obtain ⟨kd, nm, tx, spc, dp, pr, cn, ks, fr, tt⟩ := nd
    dsimp only at hstep hnm
    have hn1 : Hid (nm.size ≤ 1000000) := Lib.hid (Nat.le_trans hnm.1.1 (by decide))
    obtain ⟨q, hq⟩ : ∃ q, special spc nm = q := ⟨_, rfl⟩
    rw [hq] at hstep
    have HST := Lib.hid hstep
    have HQ := Lib.hid hq
    have cA1 := Lib.hid (cA.out _ hb.out)
    clear H1 hjR ho HH hat hstep hnm hq hjl
    go_wp2_with fail
    refine cL.out.mono ?_
    rintro e w3 ⟨rfl, rfl⟩
    go_wp2_with fail
    refine cA1.out.mono ?_
    rintro e w3 ⟨rfl, rfl⟩
    have cN1 := Lib.hid (cN.out _ hb.out)
    clear cL
    go_wp2_with fail
    refine cN1.out.mono ?_
    rintro e w4 ⟨ka, kn, kc, rfl, _, _, hb4⟩
    obtain ⟨W5, hW5⟩ : ∃ W, W = w4.alloc (.cells #[.int .i64 kd, .string nm, .string tx, .int .i64 spc, .slice none 0 0, .bool dp, .int .i64 pr, .int .i64 cn, .slice ka kn kc, .int .i64 fr, .int .i64 tt] 54) := ⟨_, rfl⟩
    have hb5 : Below w4.heap.size w4 W5 := by rw [hW5]; exact (Below.refl _ _).alloc (Nat.le_refl _) _
    have r5 : W5.heap[w4.heap.size]? = some (.cells #[.int .i64 kd, .string nm, .string tx, .int .i64 spc, .slice none 0 0, .bool dp, .int .i64 pr, .int .i64 cn, .slice ka kn kc, .int .i64 fr, .int .i64 tt] 54 (0, 0)) := by rw [hW5]; exact heap_new _ _
    have hbb := below_call (below_call hb.out hb4) hb5
    have d1 := rowAt r5 1 (.string nm) rfl
    have d3 := rowAt r5 3 (.int .i64 spc) rfl
    have cSp := Lib.hid (Special_any spc nm hn1.out W5 (cE.out _ hbb))
    rw [HQ.out] at cSp
    have HW5 := Lib.hid hW5
    have HBB := Lib.hid hbb
    clear cN cN1 cA1 hb4 hb5 r5 hbb hW5 cE
    dsimp only [NB.val, NB.row]
    go_upto_region 6 with fail
    rw [← HW5.out]
    go_wp2_with fail
    refine cSp.out.mono ?_
    rintro e w6 ⟨rfl, rfl⟩
    clear cSp d1 d3
    cases q with
    | true =>
      have HQR : Hid (R = on) := by show _ = _; rw [HST.out]; rfl
      have cA2 := Lib.hid (cA.out _ HBB.out)
      clear HST cA
      go_wp2_with fail
      refine cA2.out.mono ?_
      rintro e w7 ⟨rfl, rfl⟩
      go_wp2_with fail
      go_ret
      exact ⟨by rw [HQR.out]; rfl, HBB.out⟩
    | false =>
      have HQR : Hid (furF b (j + 1) = R) := by show _ = _; rw [HST.out]; rfl
      clear HST cA
      go_wp2_with fail
      go_roundw
      case rel => exact ⟨j + 1, by simp, HJ.out, HQR, HBB⟩
      case measure => have := HJL.out; simp [intOf]; omega
set_option maxHeartbeats 1000000 in
set_option maxRecDepth 100000 in
theorem Other_any (nm0 : Ba) (H : BX n own w bp ap sp lp b) : Calls Tryz.prog 33 #[.pointer (some ⟨bp, 0, none⟩), .string nm0] w (RX n own bp ap sp lp (.tuple #[]) (other b nm0) w) := by
  have cAr := Lib.hid (xArena H)
  have cS := Lib.hid (xStack H)
  have cL := Lib.hid (xSLen H)
  have hst := H.G.st.1
  obtain ⟨R, hR⟩ : ∃ R, R = other b nm0 := ⟨_, rfl⟩
  rw [← hR]
  have HR0 : Hid (otherF b nm0 b.st.length = R) := Lib.hid hR.symm
  obtain ⟨L, hL⟩ : ∃ L, L = b.st.length := ⟨_, rfl⟩
  rw [← hL] at cL hst HR0
  have HL : Hid (b.st.length = L) := Lib.hid hL.symm
  have HH := Lib.hid H
  clear hR H hL
  go_enter Tryz.func33, Tryz.ntmps33
  go_wp2_with fail
  refine cAr.out.mono ?_
  rintro e w1 ⟨rfl, rfl⟩
  go_wp2_with fail
  refine cS.out.mono ?_
  rintro e w1 ⟨rfl, rfl⟩
  go_wp2_with fail
  refine cL.out.mono ?_
  rintro e w1 ⟨rfl, rfl⟩
  go_wp2_with fail
  clear cAr cS cL
  go_loopw [5] (fun y wr => ∃ j : Nat, y = .int .i64 ((j : Int) - 1) ∧ j ≤ L ∧ Hid (otherF b nm0 j = R) ∧ Hid (Below w.heap.size w wr)) (fun y _ => ((intOf y) + 1).toNat)
  case atStart => exact ⟨L, rfl, Nat.le_refl _, HR0, Lib.hid (Below.refl _ _)⟩
  case round =>
  obtain ⟨j, rfl, hj, hjR, hb⟩ := hrel
  clear HR0
  have H1 := HH.out.below hb.out
  cases j with
  | zero =>
    have HQ : Hid (R = b) := by show _ = _; rw [← hjR.out]; rfl
    have HX := Lib.hid (⟨H1, HH.out.fr hb.out⟩ : _ ∧ _)
    clear hjR HH H1
    go_wp2_with fail
    go_end0
    rw [HQ.out]
    exact ⟨rfl, own, HX.out.1, HX.out.2⟩
  | succ j =>
    obtain ⟨o, ho⟩ : ∃ o, b.st[j]? = some o := ⟨_, List.getElem?_eq_getElem (by rw [HL.out]; omega)⟩
    have hat : atS b.st (j : Int) = o.node := atS_of ho
    have hstep := hjR.out
    unfold otherF at hstep
    dsimp only at hstep
    rw [hat] at hstep
    have e1 : (((j + 1 : Nat) : Int) - 1) = (j : Int) := by omega
    rw [e1]
    have i0 : (0 : Int) ≤ (j : Int) := by omega
    have i1 : (j : Int) ≤ 512 := by omega
    have cA := Lib.hid (xSAt (j : Int) H1)
    rw [hat] at cA
    have cN := Lib.hid (anode_any o.node H1)
    have hnm := node_ok HH.out.G.nd o.node
    have HJ : Hid (j ≤ L) := Lib.hid (by omega)
    generalize o.node = on at *
    generalize node b.ar on = nd at *
    obtain ⟨kd, nm, tx, spc, dp, pr, cn, ks, fr, tt⟩ := nd
    dsimp only at hstep hnm
    have hn1 : Hid (nm.size ≤ 1000000) := Lib.hid (Nat.le_trans hnm.1.1 (by decide))
    obtain ⟨q1, hq1⟩ : ∃ q, (spc == 0) = q := ⟨_, rfl⟩
    obtain ⟨q2, hq2⟩ : ∃ q, (nm == nm0) = q := ⟨_, rfl⟩
    obtain ⟨q3, hq3⟩ : ∃ q, special spc nm = q := ⟨_, rfl⟩
    rw [hq1, hq2, hq3] at hstep
    have hq2' : (nm.toList == nm0.toList) = q2 := by rw [text_beq2]; exact hq2
    have HST := Lib.hid hstep
    have HQ3 := Lib.hid hq3
    have HB := Lib.hid hb.out
    clear H1 hjR ho hat hstep hnm hq3 hb e1 hq2
    go_wp2_with fail
    refine cA.out.mono ?_
    rintro e w3 ⟨rfl, rfl⟩
    go_wp2_with fail
    refine cN.out.mono ?_
    rintro e w4 ⟨ka, kn, kc, rfl, _, _, hb4⟩
    obtain ⟨W5, hW5⟩ : ∃ W, W = w4.alloc (.cells #[.int .i64 kd, .string nm, .string tx, .int .i64 spc, .slice none 0 0, .bool dp, .int .i64 pr, .int .i64 cn, .slice ka kn kc, .int .i64 fr, .int .i64 tt] 54) := ⟨_, rfl⟩
    have hb5 : Below w4.heap.size w4 W5 := by rw [hW5]; exact (Below.refl _ _).alloc (Nat.le_refl _) _
    have r5 : W5.heap[w4.heap.size]? = some (.cells #[.int .i64 kd, .string nm, .string tx, .int .i64 spc, .slice none 0 0, .bool dp, .int .i64 pr, .int .i64 cn, .slice ka kn kc, .int .i64 fr, .int .i64 tt] 54 (0, 0)) := by rw [hW5]; exact heap_new _ _
    have hbb := below_call (below_call HB.out hb4) hb5
    have d1 := rowAt r5 1 (.string nm) rfl
    have d3 := rowAt r5 3 (.int .i64 spc) rfl
    have H5 := HH.out.below hbb
    have HF5 := Lib.hid (HH.out.fr hbb)
    have cSp := Lib.hid (Special_any spc nm hn1.out W5 H5.E.k)
    rw [HQ3.out] at cSp
    have HW5 := Lib.hid hW5
    have HBB := Lib.hid hbb
    have HH5 := Lib.hid H5
    clear cN cA hb4 hb5 r5 hbb hW5 H5
    dsimp only [NB.val, NB.row]
    go_upto_region 6 with fail
    rw [← HW5.out]
    cases q1 with
    | false =>
      have HST2 := HST.out
      clear HST
      rw [Bool.false_and, if_neg Bool.false_ne_true] at HST2
      have HS3 := Lib.hid HST2
      clear HST2
      go_wp2_with fail
      refine cSp.out.mono ?_
      rintro e w6 ⟨rfl, rfl⟩
      clear cSp d1 d3
      cases q3 with
      | true =>
        have HQ : Hid (R = b) := by show _ = _; rw [← HS3.out]; rfl
        clear HS3
        go_wp2_with fail
        go_end0
        rw [HQ.out]
        exact ⟨rfl, own, HH5.out, HF5.out⟩
      | false =>
        have HQ : Hid (otherF b nm0 j = R) := by show _ = _; rw [← HS3.out]; rfl
        clear HS3
        go_wp2_with fail
        go_roundw
        case rel => exact ⟨j, rfl, HJ.out, HQ, HBB⟩
        case measure => simp [intOf]
    | true =>
      cases q2 with
      | false =>
        have HST2 := HST.out
        clear HST
        rw [Bool.true_and, if_neg Bool.false_ne_true] at HST2
        have HS3 := Lib.hid HST2
        clear HST2
        go_wp2_with fail
        refine cSp.out.mono ?_
        rintro e w6 ⟨rfl, rfl⟩
        clear cSp d1 d3
        cases q3 with
        | true =>
          have HQ : Hid (R = b) := by show _ = _; rw [← HS3.out]; rfl
          clear HS3
          go_wp2_with fail
          go_end0
          rw [HQ.out]
          exact ⟨rfl, own, HH5.out, HF5.out⟩
        | false =>
          have HQ : Hid (otherF b nm0 j = R) := by show _ = _; rw [← HS3.out]; rfl
          clear HS3
          go_wp2_with fail
          go_roundw
          case rel => exact ⟨j, rfl, HJ.out, HQ, HBB⟩
          case measure => simp [intOf]
      | true =>
        have HQ : Hid (R = { b with st := (impliedSt nm0 b.st).take j }) := by show _ = _; rw [← HST.out]; rfl
        clear HST cSp
        go_wp2_with fail
        refine (xSImplied nm0 HH5.out).mono ?_
        rintro e w6 ⟨rfl, own6, H6, F6⟩
        have HF6 := Lib.hid (HF5.out.trans F6)
        have cP := Lib.hid (apop_any j H6)
        clear H6 F6 HF5 HH5 d1 d3
        go_wp2_with fail
        refine cP.out.mono ?_
        rintro e w7 ⟨rfl, own7, H7, F7⟩
        have HF7 := Lib.hid (HF6.out.trans F7)
        clear F7 HF6 cP
        go_wp2_with fail
        go_end0
        rw [HQ.out]
        exact ⟨rfl, own7, H7, HF7.out⟩
end
end Go.Proofs.YtnbdalohlldnbaaGreatDoor

namespace Go.Proofs.YtnbdalohlldnbaaGreatDoor
open Go.RowKit Bd
attribute [local go_sem ↓] Go.wp_at_zero Go.wp_at_succ
theorem SlO.cells_ok {own : Nat → Nat} {q : Nat} {w : World} {e : TypeId} {size n g cap : Nat} {xs : List Value} (h : SlO own q w e size (.slice (some ⟨g, 0, none⟩) n cap) n xs) : ∀ j, j < cap * size → (w.cell? ⟨g, j, none⟩).isSome = true ∧ w.frozen? ⟨g, j, none⟩ = false := by
  intro j hj
  rcases h.1.2 with ⟨e1, _⟩ | ⟨g1, cap1, cur, e1, hg, h3, h4, h5, h6⟩
  · cases e1
  · injection e1 with e1 e2 e3
    injection e1 with e1
    injection e1 with e1
    subst e1
    subst e3
    refine ⟨?_, frozen_row hg _⟩
    rw [cell_of_row w g j _ _ _ hg, Array.getElem?_eq_getElem (by omega)]; rfl
theorem SlO.bounds {own : Nat → Nat} {q : Nat} {w : World} {e : TypeId} {size n g cap : Nat} {xs : List Value} (h : SlO own q w e size (.slice (some ⟨g, 0, none⟩) n cap) n xs) : n ≤ cap ∧ cap ≤ 9223372036854775807 := by
  rcases h.1.2 with ⟨e1, _⟩ | ⟨g1, cap1, cur, e1, hg, h3, h4, h5, h6⟩
  · cases e1
  · injection e1 with e1 e2 e3
    subst e3
    exact ⟨h3, h4⟩
theorem SlO.at {own : Nat → Nat} {q : Nat} {w : World} {e : TypeId} {size n g cap : Nat} {xs : List Value} (h : SlO own q w e size (.slice (some ⟨g, 0, none⟩) n cap) n xs) {j : Nat} {u : Value} (hj : xs[j]? = some u) : w.cell? ⟨g, j, none⟩ = some u := by
  obtain ⟨g1, cap1, e1, _, hu⟩ := h.1.cell hj
  injection e1 with e1 e2 e3
  injection e1 with e1
  injection e1 with e1
  subst e1
  exact hu
/-- append within the room. -/
theorem op_append_room {w : World} {o : Oper} {a : Act} {K : Act → World → Prop} {Q : Exit → Act → World → Prop} (T E : TypeId) (s x : Operand)
    (ho : o.op = .call { callee := .builtin .append, args := #[s, x], argTypes := #[T, T] }) (hty : o.type = T) (i : TypeInfo) (ht : (Tryz.prog).underlying T = some (.slice E)) (hi : (Tryz.prog).info? E = some i) (g n cap : Nat) (p : Addr) (m c : Nat) (news : List Value) (hs : a.eval s = .slice (some ⟨g, 0, none⟩) n cap) (hx : a.eval x = .slice (some p) m c)
    (hl : news.length = m * i.size) (hnews : ∀ j u, news[j]? = some u → w.cell? (p.add j) = some u) (h1 : ∀ u ∈ news, u.oneCell' = true) (hroom : n + m ≤ cap) (hc : ∀ j, j < cap * i.size → (w.cell? ⟨g, j, none⟩).isSome = true ∧ w.frozen? ⟨g, j, none⟩ = false)
    (h : K (a.put o.dst (.slice (some ⟨g, 0, none⟩) (n + m) cap)) (w.setCells g (n * i.size) news)) : Oper.wp Tryz.prog o a w K Q := by
  have hb : ∀ j, j < news.length → n * i.size + j < cap * i.size := fun j hj => by
    have : (n + m) * i.size ≤ cap * i.size := Nat.mul_le_mul_right _ hroom
    rw [Nat.add_mul] at this
    omega
  have hr := fun ty => run_append_room_cells (P := Tryz.prog) w T ty E i ht hi g 0 n cap p m c news hl hnews h1 hroom (fun j hj => by rw [Nat.zero_add]; exact (hc _ (hb j hj)).1) (fun j hj => by rw [Nat.zero_add]; exact (hc _ (hb j hj)).2)
  simp only [Nat.zero_add] at hr
  unfold Oper.wp execOp
  simp only [ho, hty, resolve, invoke, builtin, Sem.run_bind, Sem.run_pure, Result.andThen_ok, List.map_toArray, List.map_cons, List.map_nil, hs, hx, hr]
  exact h
abbrev zOpL : List Value := [.int .i64 0, .int .i64 0, .string ⟨#[]⟩]
theorem run_clear_open (w : World) (ty : TypeId) (g o c : Nat) (hc : ∀ j, j < 3 → (w.cell? ⟨g, o + j, none⟩).isSome = true ∧ w.frozen? ⟨g, o + j, none⟩ = false) :
    (Builtin.clear_ #[80] ty #[.slice (some ⟨g, o, none⟩) 1 c]).run Tryz.prog w = .ok (.tuple #[]) (w.setCells g o zOpL) := by
  have hst := run_storeCells_cells (P := Tryz.prog) g o zOpL 0 w (fun j hj => by simpa using (hc j (by simpa using hj)).1) (fun j hj => by simpa using (hc j (by simpa using hj)).2) (by intro v hv; simp at hv; rcases hv with rfl | rfl | rfl <;> rfl)
  simp only [Nat.add_zero] at hst
  simp only [Builtin.clear_, List.getElem?_toArray, List.getElem?_cons_zero]
  simp [run_underlying Tryz.underlying80]
  rw [show (Builtin.zeroCells (Value.agg #[.int .i64 0, .int .i64 0, .string ⟨#[]⟩]).cells 1).toList = zOpL by kernel_rfl]
  exact congrArg (fun r => r.andThen fun _ w' => Result.ok (Value.tuple #[]) w') hst
end Go.Proofs.YtnbdalohlldnbaaGreatDoor

namespace Go.Proofs.YtnbdalohlldnbaaGreatDoor
open Go.RowKit Bd
attribute [local go_sem ↓] Go.wp_at_zero Go.wp_at_succ
def RDelS (own : Nat → Nat) (s : St) (w : World) (e : Ending) (w' : World) : Prop := ∃ v', e = .returned v' ∧ SlO own 6 w' 116 3 v' s.length (s.flatMap orow) ∧ Fr (fun k => k == 6) own own w w' ∧ RoomV v' s.length
theorem orows_drop (s : St) : ∀ (k : Nat), (s.flatMap orow).drop (k * 3) = (s.drop k).flatMap orow := by
  induction s with
  | nil => intro k; simp
  | cons x r ih =>
    intro k
    cases k with
    | zero => simp
    | succ k =>
      rw [List.drop_succ_cons, ← ih k, List.flatMap_cons, show (k + 1) * 3 = (orow x).length + k * 3 by show _ = 3 + _; omega, List.drop_append]
      simp
set_option maxHeartbeats 1000000 in
set_option maxRecDepth 100000 in
theorem DelS_any {own : Nat → Nat} {w : World} {v : Value} {s : St} {k : Nat} (h : SlO own 6 w 116 3 v s.length (s.flatMap orow)) (hL : Lbl own w) (hk : k < s.length) (hs : s.length ≤ 1000000) :
    Calls Tryz.prog 189 #[v, .int .i64 (k : Int), .int .i64 ((k : Int) + 1)] w (RDelS own (s.eraseIdx k) w) := by
  obtain ⟨i0, hi, hz0, hz1, hz2⟩ := info_parts infoOpen
  obtain ⟨x, hx⟩ : ∃ x, s[k]? = some x := ⟨_, List.getElem?_eq_getElem hk⟩
  obtain ⟨g, cap, rfl, hc, _⟩ := h.1.cell (orows_at s k x hx 0 _ rfl)
  obtain ⟨r, hr⟩ : ∃ r, s.length = k + r + 1 := ⟨s.length - k - 1, by omega⟩
  have hcap := (SlO.bounds h).2
  have hg6 : own g = 6 := (h.2 g rfl).1
  obtain ⟨xs, hxs⟩ : ∃ xs, xs = s.flatMap orow := ⟨_, rfl⟩
  obtain ⟨rest, hrest⟩ : ∃ rest, rest = (s.drop (k + 1)).flatMap orow := ⟨_, rfl⟩
  obtain ⟨N, hN⟩ : ∃ N, N = s.length := ⟨_, rfl⟩
  rw [← hxs, ← hN] at h
  rw [← hN] at hr hk hc ⊢
  have hxl : xs.length = N * 3 := by rw [hxs, orows_len, hN]
  have hrl : rest.length = r * 3 := by rw [hrest, orows_len, List.length_drop, ← hN, hr]; omega
  obtain ⟨off, hoff⟩ : ∃ off, off = if cap = k + 1 then 0 else (k + 1) * 3 := ⟨_, rfl⟩
  have HRL : Hid (rest.length = r * i0.size) := Lib.hid (by rw [hz1]; exact hrl)
  have HNW : Hid (∀ V, SlO own 6 V 116 3 (.slice (some ⟨g, 0, none⟩) N cap) N xs → ∀ (j : Nat) (u : Value), rest[j]? = some u → V.cell? ((⟨g, off, none⟩ : Addr).add j) = some u) := Lib.hid (fun V hV j u hj => by
    have hjl := (List.getElem?_eq_some_iff.1 hj).1
    have ho : off = (k + 1) * 3 := by rw [hoff, if_neg (by omega)]
    rw [addr_add', ho]
    refine SlO.at hV ?_
    rw [hrest, ← orows_drop, ← hxs, List.getElem?_drop] at hj
    exact hj)
  have HONE : Hid (∀ u ∈ rest, u.oneCell' = true) := Lib.hid (by rw [hrest]; exact orow_one _)
  have HSZ := Lib.hid hz1
  have HOF := Lib.hid hoff
  have HXL := Lib.hid hxl
  have HRL2 := Lib.hid hrl
  have HFin : Hid (xs.take (k * 3) ++ rest = (s.eraseIdx k).flatMap orow ∧ (s.eraseIdx k).length = k + r) := Lib.hid (by
    refine ⟨?_, by rw [List.length_eraseIdx, ← hN, if_pos hk]; omega⟩
    rw [hxs, orows_take, hrest, List.eraseIdx_eq_take_drop_succ, List.flatMap_append])
  have i1 : (k : Int) < (N : Int) := by omega
  have i2 : ((k : Int) + 1) ≤ (N : Int) := by omega
  have i3 : (N : Int) ≤ (cap : Int) := by omega
  have hne : ((k : Int) == (k : Int) + 1) = false := beq_eq_false_iff_ne.2 (by omega)
  have i4 : k + r ≤ cap := by omega
  have i5 : k ≤ cap := by omega
  have i6 : k + 1 ≤ N := by omega
  have e1 : N - (k + 1) = r := by omega
  have HN := Lib.hid hr
  have HK := Lib.hid hk
  have HC := Lib.hid hc
  clear hx hxs hrest hz0 hz1 hz2 hoff hrl hxl hr hN i4
  go_enter Tryz.func189, Tryz.ntmps189
  go_upto_region 5 with fail
  have hd := (Below.refl w.heap.size w).drew
  replace h := h.keep (c := fun _ => false) (Fr.of_below hd hL) rfl
  have hF : Fr (fun y => y == 6) own own w w.drew := Fr.of_below hd hL
  clear hd
  refine wp_region_held_drew (S := fun _ => True) (by kernel_rfl) (trivial) (fun hHeld => ?_)
  generalize w.drew = V at hHeld h hF ⊢
  refine TkH 0 20 ?_; refine TkH 1 21 ?_; refine TkH 2 22 ?_; refine TkH 3 23 ?_; refine TkH 4 24 ?_
  (try simp only [Act.put]); (try simp only [List.setIfInBounds_toArray]); (try simp only [List.set_cons_zero, List.set_cons_succ])
  refine TkD 5 (some 25) (v := .slice (some ⟨g, off, none⟩) r (cap - (k + 1))) rfl rfl ?_ ?_
  · (intro W hSw; (try dsimp only at hSw); go_simp; rw [HOF.out]; (split; (split <;> rfl); omega))
  (try simp only [Act.put]); (try simp only [List.setIfInBounds_toArray]); (try simp only [List.set_cons_zero, List.set_cons_succ])
  refine wpAnyH_ready (rs := [6]) (by kernel_rfl) (by simp) ?_
  refine AllReadyH.cons rfl (fun K hK => ?_) AllReadyH.nil
  rw [if_pos (by rfl)]
  refine op_append_room 80 116 (.tmp 22) (.tmp 25) rfl rfl i0 Tryz.underlying80 hi g k cap ⟨g, off, none⟩ r (cap - (k + 1)) rest rfl rfl HRL.out (HNW.out V h) HONE.out (by have := HN.out; have := HC.out; omega) (fun j hj => SlO.cells_ok h j (by rw [HSZ.out] at hj; exact hj)) ?_
  rw [HSZ.out]
  have h9 := SlO.setCells rest (k * 3) V _ h (by rw [HXL.out, HRL2.out]; have := HN.out; omega)
  replace hF := hF.trans (Fr.setCells (c := fun y => y == 6) (g := g) (by simp [hg6]) rest (k * 3) V hF.lbl)
  generalize hV9 : V.setCells g (k * 3) rest = V9 at h9 hF ⊢
  refine hK.out _ _ trivial (fun hSx => ?_)
  clear hSx hK K hV9 h
  clear V
  obtain ⟨V, rfl⟩ : ∃ U, U = V9 := ⟨_, rfl⟩
  (try simp only [Act.put]); (try simp only [List.setIfInBounds_toArray]); (try simp only [List.set_cons_zero, List.set_cons_succ])
  focus (refine TkH 7 0 ?_)
  (try simp only [Act.put]); (try simp only [List.setIfInBounds_toArray]); (try simp only [List.set_cons_zero, List.set_cons_succ])
  refine wpAnyH_done (by kernel_rfl) ?_ _
  have h10 := SlO.setCells zOpL ((k + r) * 3) V _ h9 (by rw [List.length_append, List.length_append, List.length_take, List.length_drop, HXL.out, HRL2.out]; show _ + 3 ≤ _; have := HN.out; omega)
  have hcl : ∀ ty, (Builtin.clear_ #[80] ty #[.slice (some ⟨g, (k + r) * 3, none⟩) (N - (k + r)) (cap - (k + r))]).run Tryz.prog V = .ok (.tuple #[]) (V.setCells g ((k + r) * 3) zOpL) := fun ty => by
    rw [show N - (k + r) = 1 by have := HN.out; omega]
    exact run_clear_open V ty g ((k + r) * 3) (cap - (k + r)) (fun j hj => SlO.cells_ok h9 _ (by have := HN.out; have := HC.out; omega))
  have hF10 := hF.trans (Fr.setCells (c := fun y => y == 6) (g := g) (by simp [hg6]) zOpL ((k + r) * 3) V hF.lbl)
  generalize hV10 : V.setCells g ((k + r) * 3) zOpL = V10 at h10 hF10 hcl
  have HX : Hid (RDelS own (s.eraseIdx k) w (.returned (.slice (some ⟨g, 0, none⟩) (k + r) cap)) V10) := Lib.hid (by
    have h11 := SlAt.take h10.1 (k := k + r) (by have := HN.out; omega)
    have e2 : ((xs.take (k * 3) ++ rest ++ xs.drop (k * 3 + rest.length)).take ((k + r) * 3) ++ zOpL ++ (xs.take (k * 3) ++ rest ++ xs.drop (k * 3 + rest.length)).drop ((k + r) * 3 + zOpL.length)).take ((k + r) * 3) = (s.eraseIdx k).flatMap orow := by
      have el : (xs.take (k * 3) ++ rest).length = (k + r) * 3 := by rw [List.length_append, List.length_take, HXL.out, HRL2.out]; have := HN.out; omega
      rw [List.append_assoc _ zOpL, List.take_append_of_le_length (by rw [List.length_take, List.length_append, el]; omega), List.take_take, Nat.min_self, List.take_append_of_le_length (Nat.le_of_eq el.symm), List.take_of_length_le (Nat.le_of_eq el)]
      exact HFin.out.1
    rw [e2] at h11
    exact ⟨_, rfl, by rw [HFin.out.2]; exact ⟨h11, h10.2⟩, hF10, _, cap, by rw [HFin.out.2], by have := HFin.out.2; have := HN.out; have := HC.out; omega⟩)
  clear h10 hF10 h9 hF HRL HNW HONE HSZ HOF HXL HRL2 HFin hV10 hi
  go_wp2_with fail
  go_ret
  exact HX.out

end Go.Proofs.YtnbdalohlldnbaaGreatDoor

namespace Go.Proofs.YtnbdalohlldnbaaGreatDoor
open Go.RowKit Bd
attribute [local go_sem ↓] Go.wp_at_zero Go.wp_at_succ
theorem run_copy_sz {P : Program} (w : World) (dT sT ty elem : TypeId) (size b o dLen dCap : Nat) (a : Addr) (sLen sCap : Nat) (cs : List Value)
    (hu : P.underlying dT = some (.slice elem)) (i : TypeInfo) (hi : P.info? elem = some i) (hs : i.size = size) (hn : cs.length = Nat.min sLen dLen * size)
    (hsrc : ∀ j v, cs[j]? = some v → w.cell? (a.add j) = some v) (hc : ∀ j, j < cs.length → (w.cell? ⟨b, o + j, none⟩).isSome = true) (hf : ∀ j, j < cs.length → w.frozen? ⟨b, o + j, none⟩ = false) (h1 : ∀ v ∈ cs, v.oneCell' = true) :
    (Builtin.copy_ #[dT, sT] ty #[.slice (some ⟨b, o, none⟩) dLen dCap, .slice (some a) sLen sCap]).run P w = .ok (goInt (Nat.min sLen dLen : Nat)) (w.setCells b o cs) := by
  have hl := run_firstCells_some (P := P) w size (Nat.min sLen dLen) a sLen sCap cs hn hsrc
  have hst := run_storeCells_cells (P := P) b o cs 0 w (by simpa using hc) (by simpa using hf) h1
  have hz : (Go.sizeOf elem).run P w = .ok size w := by simp [sizeOf, typeInfo, hi, hs]
  simp [Builtin.copy_, run_underlying hu, Builtin.lenOf, hz, hl, hst]
theorem op_copy_sz {P : Program} {w : World} {o : Oper} {a : Act} {K : Act → World → Prop} {Q : Exit → Act → World → Prop} (d s : Operand) (t t' : TypeId)
    (ho : o.op = .call { callee := .builtin .copy, args := #[d, s], argTypes := #[t, t'] }) (v u : Value) (hd : a.eval d = v) (hs : a.eval s = u) {v' : Value} {w' : World}
    (hr : ∀ ty, (Builtin.copy_ #[t, t'] ty #[v, u]).run P w = .ok v' w') (h : K (a.put o.dst v') w') : o.wp P a w K Q := by
  unfold Oper.wp execOp
  simp only [ho, resolve, invoke, builtin, Sem.run_bind, Sem.run_pure, Result.andThen_ok, List.map_toArray, List.map_cons, List.map_nil, hd, hs, hr]
  exact h
theorem opl_copy_sz {P : Program} {w : World} {ops : Array Oper} {rest : List Oper} {o : Oper} {a : Act} {Q : Exit → Act → World → Prop} (hgd : o.guard = none) (d s : Operand) (t t' : TypeId)
    (ho : o.op = .call { callee := .builtin .copy, args := #[d, s], argTypes := #[t, t'] }) (v u : Value) (hd : a.eval d = v) (hs : a.eval s = u) {v' : Value} {w' : World}
    (hr : ∀ ty, (Builtin.copy_ #[t, t'] ty #[v, u]).run P w = .ok v' w') (h : wpList P ops Q rest (a.put o.dst v') w') : wpList P ops Q (o :: rest) a w :=
  wpList_plain hgd fun _ hK => op_copy_sz d s t t' ho v u hd hs hr (hK _ _ h)
theorem SlO.grow1 {own : Nat → Nat} {q : Nat} {w : World} {e : TypeId} {size n g cap : Nat} {xs : List Value} (h : SlO own q w e size (.slice (some ⟨g, 0, none⟩) n cap) n xs) (hr : n + 1 ≤ cap) :
    ∃ ex, ex.length = size ∧ SlO own q w e size (.slice (some ⟨g, 0, none⟩) (n + 1) cap) (n + 1) (xs ++ ex) := by
  have hxl := h.1.1
  have hown := h.2
  rcases h.1.2 with ⟨e1, _⟩ | ⟨g1, cap1, cur, e1, hg, h3, h4, h5, h6⟩
  · cases e1
  · injection e1 with e1 e2 e3
    injection e1 with e1
    injection e1 with e1
    subst e1
    subst e3
    have hle : (n + 1) * size ≤ cap * size := Nat.mul_le_mul_right _ hr
    rw [Nat.add_mul, Nat.one_mul] at hle
    have hl2 : ((cur.toList.drop (n * size)).take size).length = size := by rw [List.length_take, List.length_drop, Array.length_toList]; omega
    refine ⟨(cur.toList.drop (n * size)).take size, hl2, ⟨by rw [List.length_append, hl2, hxl, Nat.add_mul, Nat.one_mul], Or.inr ⟨g, cap, cur, rfl, hg, hr, h4, h5, ?_⟩⟩, fun g' hg' => hown g' (by simpa [Value.ownBlock] using hg')⟩
    rw [← h6, Nat.add_mul, Nat.one_mul, List.take_add]
/-- Two parts written one behind the other into such a slice: what an insertion does. -/
theorem SlO.shift {own : Nat → Nat} {q : Nat} {w : World} {e : TypeId} {size n g cap k : Nat} {xs row : List Value} (h : SlO own q w e size (.slice (some ⟨g, 0, none⟩) n cap) n xs) (hr : n + 1 ≤ cap) (hk : k ≤ n) (hrow : row.length = size) :
    SlO own q ((w.setCells g ((k + 1) * size) (xs.drop (k * size))).setCells g (k * size) row) e size (.slice (some ⟨g, 0, none⟩) (n + 1) cap) (n + 1) (xs.take (k * size) ++ (row ++ xs.drop (k * size))) := by
  have hxl := h.1.1
  obtain ⟨ex, hex, h2⟩ := SlO.grow1 h hr
  have hks : k * size ≤ n * size := Nat.mul_le_mul_right _ hk
  have hk1 : (k + 1) * size = k * size + size := by rw [Nat.add_mul, Nat.one_mul]
  have h3 := SlO.setCells (xs.drop (k * size)) ((k + 1) * size) w _ h2 (by rw [List.length_append, List.length_drop, hxl, hex, hk1]; omega)
  have h4 := SlO.setCells row (k * size) _ _ h3 (by simp only [List.length_append, List.length_drop, List.length_take, hxl, hex, hk1, hrow]; omega)
  have e1 : ((xs ++ ex).take ((k + 1) * size) ++ xs.drop (k * size) ++ (xs ++ ex).drop ((k + 1) * size + (xs.drop (k * size)).length)) = (xs ++ ex).take ((k + 1) * size) ++ xs.drop (k * size) := by
    rw [List.drop_of_length_le (l := xs ++ ex) (by rw [List.length_append, List.length_drop, hxl, hex, hk1]; omega), List.append_nil]
  rw [e1] at h4
  have el : ((xs ++ ex).take ((k + 1) * size)).length = (k + 1) * size := by rw [List.length_take, List.length_append, hxl, hex, hk1]; omega
  have e2 : ((xs ++ ex).take ((k + 1) * size) ++ xs.drop (k * size)).take (k * size) = xs.take (k * size) := by
    rw [List.take_append_of_le_length (by rw [el, hk1]; omega), List.take_take, Nat.min_eq_left (by rw [hk1]; omega), List.take_append_of_le_length (by rw [hxl]; omega)]
  have e3 : ((xs ++ ex).take ((k + 1) * size) ++ xs.drop (k * size)).drop (k * size + row.length) = xs.drop (k * size) := by
    rw [hrow, ← hk1]
    exact List.drop_left' el
  rw [e2, e3, List.append_assoc] at h4
  exact h4
end Go.Proofs.YtnbdalohlldnbaaGreatDoor

namespace Go.Proofs.YtnbdalohlldnbaaGreatDoor
open Go.RowKit Bd
attribute [local go_sem ↓] Go.wp_at_zero Go.wp_at_succ
set_option maxHeartbeats 2000000 in
set_option maxRecDepth 100000 in
/-- Into the middle, where there is room. -/
theorem InsShS {own : Nat → Nat} {w : World} {g cap N k Bm c : Nat} {xs row : List Value} (h : SlO own 6 w 116 3 (.slice (some ⟨g, 0, none⟩) N cap) N xs) (hL : Lbl own w) (hk : k < N) (hroom : N + 1 ≤ cap) (hN : N ≤ 1000000) (hcap : cap ≤ 9223372036854775807) (hrow : row.length = 3) (h1x : ∀ u ∈ xs, u.oneCell' = true) (h1r : ∀ u ∈ row, u.oneCell' = true)
    (hp : w.heap[Bm]? = some (.cells row.toArray 116 (0, 0))) (hob : own Bm = 0) :
    Calls Tryz.prog 200 #[.slice (some ⟨g, 0, none⟩) N cap, .int .i64 (k : Int), .slice (some ⟨Bm, 0, none⟩) 1 c] w fun e w' => e = .returned (.slice (some ⟨g, 0, none⟩) (N + 1) cap) ∧ SlO own 6 w' 116 3 (.slice (some ⟨g, 0, none⟩) (N + 1) cap) (N + 1) (xs.take (k * 3) ++ (row ++ xs.drop (k * 3))) ∧ Fr (fun y => y == 6) own own w w' := by
  obtain ⟨i0, hi, hz0, hz1, hz2⟩ := info_parts infoOpen
  have hg : own g = 6 := (h.2 g rfl).1
  have hgb : Bm ≠ g := fun e => by rw [e, hg] at hob; cases hob
  have hxl := h.1.1
  have hsg : w.shape? g = some (116, (w.heap[g]?.map fun o => match o with | .cells c _ _ => c.size | _ => 0).getD 0) ∧ (w.heap[g]?.map fun o => match o with | .cells c _ _ => c.size | _ => 0).getD 0 ≠ 0 := by
    rcases h.1.2 with ⟨e1, _⟩ | ⟨g1, cap1, cur, e1, hg1, h3, h4, h5, h6⟩
    · cases e1
    · injection e1 with e1 e2 e3
      injection e1 with e1
      injection e1 with e1
      subst e1
      subst e3
      have : 1 * 3 ≤ cap * 3 := Nat.mul_le_mul_right _ (by omega)
      simp only [World.shape?, hg1, Option.map_some, Option.getD_some]
      exact ⟨trivial, by omega⟩
  have hsb : w.shape? Bm = some (116, row.length) := by simp only [World.shape?, hp]; simp
  have hov : ∀ lb cb, (callFunc 218 #[.slice (some ⟨Bm, 0, none⟩) 1 c, .slice (some ⟨g, (k + 1) * 3, none⟩) lb cb]).run Tryz.prog w = .ok (.value (.bool false)) w := fun lb cb => by
    rw [run_callFunc_extern Tryz.func218 (by kernel_rfl) (by kernel_rfl) (by kernel_rfl) (e := Extern.SlicesOverlaps.overlaps #[80, 80] #[4]) (by kernel_rfl),
      Lib.run_overlaps_apart w 80 4 116 Tryz.underlying80 3 (fun w => by simp [sizeOf, typeInfo, hi, hz1]) ⟨Bm, 0, none⟩ ⟨g, (k + 1) * 3, none⟩ 1 c lb cb hgb 116 116 row.length _ hsb hsg.1 hsg.2 (frozen_row hp _) (frozen_row hp _)]
    rfl
  have hks : k * 3 + (N - k) * 3 = N * 3 := by omega
  have hcs : (k + 1) * 3 + (N - k) * 3 ≤ cap * 3 := by omega
  have hdl : (xs.drop (k * 3)).length = (N - k) * 3 := by rw [List.length_drop, hxl]; omega
  have HC1 : Hid (∀ V, SlO own 6 V 116 3 (.slice (some ⟨g, 0, none⟩) N cap) N xs → ∀ dc sc ty, (Builtin.copy_ #[80, 80] ty #[.slice (some ⟨g, (k + 1) * 3, none⟩) (N - k) dc, .slice (some ⟨g, k * 3, none⟩) (N + 1 - k) sc]).run Tryz.prog V = .ok (goInt (Nat.min (N + 1 - k) (N - k) : Nat)) (V.setCells g ((k + 1) * 3) (xs.drop (k * 3)))) := Lib.hid (fun V hV dc sc ty =>
    run_copy_sz V _ _ ty 116 3 g ((k + 1) * 3) (N - k) dc ⟨g, k * 3, none⟩ (N + 1 - k) sc (xs.drop (k * 3)) Tryz.underlying80 i0 hi hz1 (by rw [hdl]; congr 1; simp only [Nat.min_def]; split <;> omega)
      (fun j v hj => by rw [addr_add']; rw [List.getElem?_drop] at hj; exact SlO.at hV hj)
      (fun j hj => (SlO.cells_ok hV _ (by rw [hdl] at hj; omega)).1) (fun j hj => (SlO.cells_ok hV _ (by rw [hdl] at hj; omega)).2) (fun v hv => h1x v (List.mem_of_mem_drop hv)))
  have HC2 : Hid (∀ V, SlO own 6 V 116 3 (.slice (some ⟨g, 0, none⟩) N cap) N xs → V.heap[Bm]? = some (.cells row.toArray 116 (0, 0)) → ∀ dc sc ty, (Builtin.copy_ #[80, 80] ty #[.slice (some ⟨g, k * 3, none⟩) (N + 1 - k) dc, .slice (some ⟨Bm, 0, none⟩) 1 sc]).run Tryz.prog (V.setCells g ((k + 1) * 3) (xs.drop (k * 3))) = .ok (goInt (Nat.min 1 (N + 1 - k) : Nat)) ((V.setCells g ((k + 1) * 3) (xs.drop (k * 3))).setCells g (k * 3) row)) := Lib.hid (fun V hV hq dc sc ty => by
    obtain ⟨ex, hex, hg1⟩ := SlO.grow1 hV hroom
    have h3 := SlO.setCells (xs.drop (k * 3)) ((k + 1) * 3) V _ hg1 (by rw [List.length_append, hdl, hxl, hex]; omega)
    exact run_copy_sz _ _ _ ty 116 3 g (k * 3) (N + 1 - k) dc ⟨Bm, 0, none⟩ 1 sc row Tryz.underlying80 i0 hi hz1 (by rw [hrow]; simp only [Nat.min_def]; split <;> omega)
      (fun j v hj => by rw [addr_add', Nat.zero_add, World.cell?_setCells_out g _ _ _ _ (fun h _ => absurd h hgb)]; exact rowAt hq j v (by simpa using hj))
      (fun j hj => (SlO.cells_ok h3 _ (by rw [hrow] at hj; omega)).1) (fun j hj => (SlO.cells_ok h3 _ (by rw [hrow] at hj; omega)).2) h1r)
  have i1 : (k : Int) < (N : Int) := by omega
  have i2 : ((k : Int) == (N : Int)) = false := beq_eq_false_iff_ne.2 (by omega)
  have i3 : ((N : Int) + 1) ≤ (cap : Int) := by omega
  have i4 : (N : Int) ≤ 1000000 := by omega
  have i5 : (cap : Int) ≤ 9223372036854775807 := by omega
  have i6 : ¬ (cap = k + 1) := by omega
  have i7 : ¬ (cap = k) := by omega
  have i8 : k ≤ N := by omega
  have i9 : k + 1 ≤ N + 1 := by omega
  have hF := Fr.refl (fun y => y == 6) hL
  clear hxl hsg hsb hz0 hz1 hz2 hks hcs hdl hi
  go_enter Tryz.func200, Tryz.ntmps200
  go_wp2_with (simp only [hov])
  have hd := (Below.refl w.heap.size w).drew
  replace h := h.keep (c := fun _ => false) (Fr.of_below hd hL) rfl
  replace hp := (hd.block _ (row_lt hp)).trans hp
  replace hF := hF.trans (Fr.of_below hd hL)
  clear hd hov
  have j1 : IntKind.i64.wrap ((k : Int) + 1) = (k : Int) + 1 := IntWalk.i64_in _ (by omega)
  have j2 : (0 : Int) ≤ (k : Int) + 1 := by omega
  have j3 : ((k : Int) + 1).toNat = k + 1 := by omega
  have j4 : (k : Int) + 1 ≤ (N : Int) + 1 := by omega
  have j5 : (k : Int) ≤ (N : Int) + 1 := by omega
  refine wp_region_held_drew (S := fun _ => True) (by kernel_rfl) (trivial) (fun hHeld => ?_)
  generalize w.drew = V at hHeld h hp hF ⊢
  refine TkH 0 69 ?_; refine TkH 1 70 ?_; refine TkH 2 71 ?_; refine TkH 3 72 ?_; refine TkH 4 73 ?_
  (try simp only [Act.put]); (try simp only [List.setIfInBounds_toArray]); (try simp only [List.set_cons_zero, List.set_cons_succ])
  refine TkH 5 74 ?_; refine TkH 6 75 ?_; refine TkH 7 76 ?_
  (try simp only [Act.put]); (try simp only [List.setIfInBounds_toArray]); (try simp only [List.set_cons_zero, List.set_cons_succ])
  refine wpAnyH_ready (rs := [8]) (by kernel_rfl) (by simp) ?_
  refine AllReadyH.cons rfl (fun K hK => ?_) AllReadyH.nil
  rw [if_pos (by rfl)]
  refine op_copy_sz (.tmp 73) (.tmp 76) 80 80 rfl _ _ rfl rfl (HC1.out V h _ _) ?_
  have hS := SlO.shift h hroom (Nat.le_of_lt hk) hrow
  have hFF := (hF.trans (Fr.setCells (c := fun y => y == 6) (g := g) (by simp [hg]) (xs.drop (k * 3)) ((k + 1) * 3) V hF.lbl)).trans (Fr.setCells (c := fun y => y == 6) (g := g) (by simp [hg]) row (k * 3) _ (hF.trans (Fr.setCells (c := fun y => y == 6) (g := g) (by simp [hg]) (xs.drop (k * 3)) ((k + 1) * 3) V hF.lbl)).lbl)
  have hc2 := HC2.out V h hp
  generalize hV9 : V.setCells g ((k + 1) * 3) (xs.drop (k * 3)) = V9 at hS hFF hc2 ⊢
  clear hV9 h hp hF
  refine hK.out _ _ trivial (fun hSx => ?_)
  clear hSx hK K
  clear V
  obtain ⟨V, rfl⟩ : ∃ U, U = V9 := ⟨_, rfl⟩
  (try simp only [Act.put]); (try simp only [List.setIfInBounds_toArray]); (try simp only [List.set_cons_zero, List.set_cons_succ])
  refine wpAnyH_done (by kernel_rfl) ?_ _
  have HX := Lib.hid (⟨hS, hFF⟩ : _ ∧ _)
  clear hS hFF
  go_wp2_with (at_builtin; refine opl_copy_sz rfl (.tmp 80) (.tmp 81) 80 80 rfl _ _ rfl rfl (hc2 _ _) ?_)
  go_ret
  exact ⟨rfl, HX.out.1, HX.out.2⟩


set_option maxHeartbeats 2000000 in
set_option maxRecDepth 100000 in
/-- Into the middle, where there is room. -/
theorem InsShI {own : Nat → Nat} {w : World} {g cap N k Bm c : Nat} {xs row : List Value} (h : SlO own 7 w 3 1 (.slice (some ⟨g, 0, none⟩) N cap) N xs) (hL : Lbl own w) (hk : k < N) (hroom : N + 1 ≤ cap) (hN : N ≤ 1000000) (hcap : cap ≤ 9223372036854775807) (hrow : row.length = 1) (h1x : ∀ u ∈ xs, u.oneCell' = true) (h1r : ∀ u ∈ row, u.oneCell' = true)
    (hp : w.heap[Bm]? = some (.cells row.toArray 3 (0, 0))) (hob : own Bm = 0) :
    Calls Tryz.prog 209 #[.slice (some ⟨g, 0, none⟩) N cap, .int .i64 (k : Int), .slice (some ⟨Bm, 0, none⟩) 1 c] w fun e w' => e = .returned (.slice (some ⟨g, 0, none⟩) (N + 1) cap) ∧ SlO own 7 w' 3 1 (.slice (some ⟨g, 0, none⟩) (N + 1) cap) (N + 1) (xs.take (k) ++ (row ++ xs.drop (k))) ∧ Fr (fun y => y == 7) own own w w' := by
  obtain ⟨i0, hi, hz0, hz1, hz2⟩ := info_parts infoInt
  have hg : own g = 7 := (h.2 g rfl).1
  have hgb : Bm ≠ g := fun e => by rw [e, hg] at hob; cases hob
  have hxl := h.1.1
  have hsg : w.shape? g = some (3, (w.heap[g]?.map fun o => match o with | .cells c _ _ => c.size | _ => 0).getD 0) ∧ (w.heap[g]?.map fun o => match o with | .cells c _ _ => c.size | _ => 0).getD 0 ≠ 0 := by
    rcases h.1.2 with ⟨e1, _⟩ | ⟨g1, cap1, cur, e1, hg1, h3, h4, h5, h6⟩
    · cases e1
    · injection e1 with e1 e2 e3
      injection e1 with e1
      injection e1 with e1
      subst e1
      subst e3
      have : 1 * 1 ≤ cap * 1 := Nat.mul_le_mul_right _ (by omega)
      simp only [World.shape?, hg1, Option.map_some, Option.getD_some]
      exact ⟨trivial, by omega⟩
  have hsb : w.shape? Bm = some (3, row.length) := by simp only [World.shape?, hp]; simp
  have hov : ∀ lb cb, (callFunc 225 #[.slice (some ⟨Bm, 0, none⟩) 1 c, .slice (some ⟨g, (k + 1), none⟩) lb cb]).run Tryz.prog w = .ok (.value (.bool false)) w := fun lb cb => by
    rw [run_callFunc_extern Tryz.func225 (by kernel_rfl) (by kernel_rfl) (by kernel_rfl) (e := Extern.SlicesOverlaps.overlaps #[29, 29] #[4]) (by kernel_rfl),
      Lib.run_overlaps_apart w 29 4 3 Tryz.underlying29 1 (fun w => by simp [sizeOf, typeInfo, hi, hz1]) ⟨Bm, 0, none⟩ ⟨g, (k + 1), none⟩ 1 c lb cb hgb 3 3 row.length _ hsb hsg.1 hsg.2 (frozen_row hp _) (frozen_row hp _)]
    rfl
  have hks : k + (N - k) * 1 = N * 1 := by omega
  have hcs : (k + 1) + (N - k) * 1 ≤ cap * 1 := by omega
  have hdl : (xs.drop (k)).length = (N - k) * 1 := by rw [List.length_drop, hxl]; omega
  have HC1 : Hid (∀ V, SlO own 7 V 3 1 (.slice (some ⟨g, 0, none⟩) N cap) N xs → ∀ dc sc ty, (Builtin.copy_ #[29, 29] ty #[.slice (some ⟨g, (k + 1), none⟩) (N - k) dc, .slice (some ⟨g, k, none⟩) (N + 1 - k) sc]).run Tryz.prog V = .ok (goInt (Nat.min (N + 1 - k) (N - k) : Nat)) (V.setCells g ((k + 1)) (xs.drop (k)))) := Lib.hid (fun V hV dc sc ty =>
    run_copy_sz V _ _ ty 3 1 g ((k + 1)) (N - k) dc ⟨g, k, none⟩ (N + 1 - k) sc (xs.drop (k)) Tryz.underlying29 i0 hi hz1 (by rw [hdl]; congr 1; simp only [Nat.min_def]; split <;> omega)
      (fun j v hj => by rw [addr_add']; rw [List.getElem?_drop] at hj; exact SlO.at hV hj)
      (fun j hj => (SlO.cells_ok hV _ (by rw [hdl] at hj; omega)).1) (fun j hj => (SlO.cells_ok hV _ (by rw [hdl] at hj; omega)).2) (fun v hv => h1x v (List.mem_of_mem_drop hv)))
  have HC2 : Hid (∀ V, SlO own 7 V 3 1 (.slice (some ⟨g, 0, none⟩) N cap) N xs → V.heap[Bm]? = some (.cells row.toArray 3 (0, 0)) → ∀ dc sc ty, (Builtin.copy_ #[29, 29] ty #[.slice (some ⟨g, k, none⟩) (N + 1 - k) dc, .slice (some ⟨Bm, 0, none⟩) 1 sc]).run Tryz.prog (V.setCells g ((k + 1)) (xs.drop (k))) = .ok (goInt (Nat.min 1 (N + 1 - k) : Nat)) ((V.setCells g ((k + 1)) (xs.drop (k))).setCells g (k) row)) := Lib.hid (fun V hV hq dc sc ty => by
    obtain ⟨ex, hex, hg1⟩ := SlO.grow1 hV hroom
    have h3 := SlO.setCells (xs.drop (k)) ((k + 1)) V _ hg1 (by rw [List.length_append, hdl, hxl, hex]; omega)
    exact run_copy_sz _ _ _ ty 3 1 g (k) (N + 1 - k) dc ⟨Bm, 0, none⟩ 1 sc row Tryz.underlying29 i0 hi hz1 (by rw [hrow]; simp only [Nat.min_def]; split <;> omega)
      (fun j v hj => by rw [addr_add', Nat.zero_add, World.cell?_setCells_out g _ _ _ _ (fun h _ => absurd h hgb)]; exact rowAt hq j v (by simpa using hj))
      (fun j hj => (SlO.cells_ok h3 _ (by rw [hrow] at hj; omega)).1) (fun j hj => (SlO.cells_ok h3 _ (by rw [hrow] at hj; omega)).2) h1r)
  have i1 : (k : Int) < (N : Int) := by omega
  have i2 : ((k : Int) == (N : Int)) = false := beq_eq_false_iff_ne.2 (by omega)
  have i3 : ((N : Int) + 1) ≤ (cap : Int) := by omega
  have i4 : (N : Int) ≤ 1000000 := by omega
  have i5 : (cap : Int) ≤ 9223372036854775807 := by omega
  have i6 : ¬ (cap = k + 1) := by omega
  have i7 : ¬ (cap = k) := by omega
  have i8 : k ≤ N := by omega
  have i9 : k + 1 ≤ N + 1 := by omega
  have hF := Fr.refl (fun y => y == 7) hL
  clear hxl hsg hsb hz0 hz1 hz2 hks hcs hdl hi
  go_enter Tryz.func209, Tryz.ntmps209
  go_wp2_with (simp only [hov])
  have hd := (Below.refl w.heap.size w).drew
  replace h := h.keep (c := fun _ => false) (Fr.of_below hd hL) rfl
  replace hp := (hd.block _ (row_lt hp)).trans hp
  replace hF := hF.trans (Fr.of_below hd hL)
  clear hd hov
  have j1 : IntKind.i64.wrap ((k : Int) + 1) = (k : Int) + 1 := IntWalk.i64_in _ (by omega)
  have j2 : (0 : Int) ≤ (k : Int) + 1 := by omega
  have j3 : ((k : Int) + 1).toNat = k + 1 := by omega
  have j4 : (k : Int) + 1 ≤ (N : Int) + 1 := by omega
  have j5 : (k : Int) ≤ (N : Int) + 1 := by omega
  refine wp_region_held_drew (S := fun _ => True) (by kernel_rfl) (trivial) (fun hHeld => ?_)
  generalize w.drew = V at hHeld h hp hF ⊢
  refine TkH 0 69 ?_; refine TkH 1 70 ?_; refine TkH 2 71 ?_; refine TkH 3 72 ?_; refine TkH 4 73 ?_
  (try simp only [Act.put]); (try simp only [List.setIfInBounds_toArray]); (try simp only [List.set_cons_zero, List.set_cons_succ])
  refine TkH 5 74 ?_; refine TkH 6 75 ?_; refine TkH 7 76 ?_
  (try simp only [Act.put]); (try simp only [List.setIfInBounds_toArray]); (try simp only [List.set_cons_zero, List.set_cons_succ])
  refine wpAnyH_ready (rs := [8]) (by kernel_rfl) (by simp) ?_
  refine AllReadyH.cons rfl (fun K hK => ?_) AllReadyH.nil
  rw [if_pos (by rfl)]
  refine op_copy_sz (.tmp 73) (.tmp 76) 29 29 rfl _ _ rfl rfl (HC1.out V h _ _) ?_
  have hS := SlO.shift h hroom (Nat.le_of_lt hk) hrow
  simp only [Nat.mul_one] at hS
  have hFF := (hF.trans (Fr.setCells (c := fun y => y == 7) (g := g) (by simp [hg]) (xs.drop (k)) ((k + 1)) V hF.lbl)).trans (Fr.setCells (c := fun y => y == 7) (g := g) (by simp [hg]) row (k) _ (hF.trans (Fr.setCells (c := fun y => y == 7) (g := g) (by simp [hg]) (xs.drop (k)) ((k + 1)) V hF.lbl)).lbl)
  have hc2 := HC2.out V h hp
  generalize hV9 : V.setCells g ((k + 1)) (xs.drop (k)) = V9 at hS hFF hc2 ⊢
  clear hV9 h hp hF
  refine hK.out _ _ trivial (fun hSx => ?_)
  clear hSx hK K
  clear V
  obtain ⟨V, rfl⟩ : ∃ U, U = V9 := ⟨_, rfl⟩
  (try simp only [Act.put]); (try simp only [List.setIfInBounds_toArray]); (try simp only [List.set_cons_zero, List.set_cons_succ])
  refine wpAnyH_done (by kernel_rfl) ?_ _
  have HX := Lib.hid (⟨hS, hFF⟩ : _ ∧ _)
  clear hS hFF
  go_wp2_with (at_builtin; refine opl_copy_sz rfl (.tmp 80) (.tmp 81) 29 29 rfl _ _ rfl rfl (hc2 _ _) ?_)
  go_ret
  exact ⟨rfl, HX.out.1, HX.out.2⟩

end Go.Proofs.YtnbdalohlldnbaaGreatDoor

namespace Go.Proofs.YtnbdalohlldnbaaGreatDoor
open Go.RowKit Bd
attribute [local go_sem ↓] Go.wp_at_zero Go.wp_at_succ
theorem take_end {α : Type} (l : List α) (y : α) : l.take l.length ++ y :: l.drop l.length = l ++ [y] := by rw [List.take_length, List.drop_length]
theorem InsIG_any {own : Nat → Nat} {w : World} {v : Value} {l : Fo} {Bm c k : Nat} {i : Int} (h : SlO own 7 w 3 1 v l.length (ints l)) (hL : Lbl own w) (hp : w.heap[Bm]? = some (.cells #[.int .i64 i] 3 (0, 0))) (hob : own Bm = 0) (hs : l.length ≤ 100000) (hk : k ≤ l.length) (hr : k < l.length → RoomV v l.length) :
    Calls Tryz.prog 209 #[v, .int .i64 (k : Int), .slice (some ⟨Bm, 0, none⟩) 1 c] w (RInsI own (l.take k ++ i :: l.drop k) w) := by
  rcases Nat.lt_or_ge k l.length with h1 | h1
  · obtain ⟨a, cap, e, hc⟩ := hr h1
    have hx : ∃ x, l[k]? = some x := ⟨_, List.getElem?_eq_getElem h1⟩
    obtain ⟨x, hx⟩ := hx
    obtain ⟨g, cap', e2, _, _⟩ := h.1.cell (ints_get hx)
    rw [e2] at e
    injection e with e3 e4 e5
    subst e5
    subst e2
    refine (InsShI (row := [.int .i64 i]) h hL h1 (by omega) (by omega) (SlO.bounds h).2 rfl (ints_one l) (by simp [Value.oneCell']) hp hob).mono ?_
    rintro e w' ⟨rfl, h2, h3⟩
    have e6 : (ints l).take k ++ ([.int .i64 i] ++ (ints l).drop k) = ints (l.take k ++ i :: l.drop k) := by
      unfold ints
      rw [List.map_append, List.map_cons, List.map_take, List.map_drop]; rfl
    have e7 : (l.take k ++ i :: l.drop k).length = l.length + 1 := by rw [List.length_append, List.length_cons, List.length_take, List.length_drop]; omega
    rw [e6] at h2
    exact ⟨_, own, rfl, by rw [e7]; exact h2, h3⟩
  · obtain rfl : k = l.length := by omega
    rw [take_end]
    exact InsI_any h hL hp hs
set_option maxHeartbeats 2000000 in
set_option maxRecDepth 100000 in
theorem layG_any {own : Nat → Nat} {w : World} {lp ap k : Nat} {lv : Value} {l : Fo} (i : Int) (h : FoH own w lp ap lv l) (hL : Lbl own w) (hs : l.length ≤ 100000) (hk : k ≤ l.length) (hrm : k < l.length → RoomV lv l.length) :
    Calls Tryz.prog 191 #[.pointer (some ⟨lp, 0, none⟩), .int .i64 (k : Int), .int .i64 i] w (RFo own lp ap (.int .i64 (layF l k i).2) (layF l k i).1 w) := by
  obtain ⟨R, hR⟩ : ∃ R, R = layF l k i := ⟨_, rfl⟩
  rw [← hR]
  unfold layF at hR
  obtain ⟨n, hn⟩ : ∃ n, n = l.length := ⟨_, rfl⟩
  obtain ⟨a, c, hlv, hc⟩ := h.s.1.form
  rw [← hn] at hs hlv hc hR
  have HN := Lib.hid hn
  have c1 := rowAt h.h 1 lv rfl
  rw [hlv] at c1
  have HR := Lib.hid hR
  have hS := h
  have hF := Fr.refl cFo hL
  have HK := Lib.hid hk
  have HRM := Lib.hid hrm
  clear h hL hn hR hk hrm
  by_cases h6 : 64 ≤ n
  · have HQ : Hid (R = (l, 3)) := by show _ = _; rw [HR.out, if_pos h6]
    have HS := Lib.hid hS
    have HF := Lib.hid hF
    have i5 : (64 : Int) ≤ (n : Int) := by omega
    clear HR hS hF hlv
    go_enter Tryz.func191, Tryz.ntmps191
    go_wp2_with fail
    go_ret
    rw [HQ.out]
    exact ⟨rfl, own, lv, HS.out, HF.out⟩
  · have HQ : Hid (R = (l.take k ++ i :: l.drop k, 0)) := by show _ = _; rw [HR.out, if_neg h6]
    have i5 : (n : Int) < (64 : Int) := by omega
    have cIns : Hid (∀ (V : World) (own' : Nat → Nat) (Bm c : Nat), SlO own' 7 V 3 1 lv l.length (ints l) → Lbl own' V → V.heap[Bm]? = some (.cells #[.int .i64 i] 3 (0, 0)) → own' Bm = 0 →
        Calls Tryz.prog 209 #[lv, .int .i64 (k : Int), .slice (some ⟨Bm, 0, none⟩) 1 c] V (RInsI own' (l.take k ++ i :: l.drop k) V)) := Lib.hid (fun V own' Bm c h1 h2 h3 h4 => InsIG_any h1 h2 h3 h4 (by rw [← HN.out]; exact hs) HK.out HRM.out)
    generalize l.take k ++ i :: l.drop k = l2 at *
    clear HR
    go_enter Tryz.func191, Tryz.ntmps191
    have hb9 : Below w.heap.size w (w.alloc (.cells #[.int .i64 i] 3)) := (Below.refl _ _).alloc (Nat.le_refl _) _
    have hc6 : (w.alloc (.cells #[.int .i64 i] 3)).heap[w.heap.size]? = some (.cells #[.int .i64 i] 3 (0, 0)) := heap_new _ _
    have hob : own w.heap.size = 0 := hF.lbl _ (Nat.le_refl _)
    replace hS := hS.below hb9 hF.lbl
    replace hF := hF.trans (Fr.of_below hb9 hF.lbl)
    have cI := cIns.out _ own w.heap.size 1 hS.s hF.lbl hc6 hob
    rw [hlv] at cI
    have CI := Lib.hid cI
    have HS := Lib.hid hS
    have HF := Lib.hid hF
    clear hb9 hc6 hS hF cI cIns hlv hob
    go_wp2_with fail
    refine CI.out.mono ?_
    rintro e V9 ⟨v7, own7, rfl, hs7, hf7⟩
    obtain ⟨a7, c7, hv7, _⟩ := hs7.1.form
    obtain ⟨n7, hn7⟩ : ∃ n, n = l2.length := ⟨_, rfl⟩
    rw [← hn7] at hv7
    subst hv7
    obtain ⟨hS7, hF7⟩ := HS.out.any hs7 hf7
    have z1 := frozen_row (hf7.keep HS.out.h (by rw [HS.out.o]; rfl)) 1
    have c1' := rowAt (hf7.keep HS.out.h (by rw [HS.out.o]; rfl)) 1 lv rfl
    have HA := Lib.hid (⟨hS7, HF.out.trans hF7⟩ : _ ∧ _)
    clear hS7 hF7 hs7 hf7 c1 CI hn7
    go_wp2_with fail
    go_ret
    rw [HQ.out]
    exact ⟨rfl, own7, _, HA.out.1, HA.out.2⟩
set_option maxHeartbeats 1000000 in
set_option maxRecDepth 100000 in
theorem FInsert_any {own : Nat → Nat} {w : World} {lp ap : Nat} {lv nv : Value} {fo : Fo} {l : List NB} (k i : Int) (h : FoH own w lp ap lv fo) (hA : ArH own w ap nv l) (hL : Lbl own w) (hkl : ∀ x ∈ l, x.n.kids.length ≤ 1000000) (hs : fo.length ≤ 100000) (hrm : 0 ≤ k → k < fo.length → RoomV lv fo.length) :
    Calls Tryz.prog 230 #[.pointer (some ⟨lp, 0, none⟩), .int .i64 k, .int .i64 i] w (RFo own lp ap (.int .i64 (insertF (l.map NB.n) fo k i).2) (insertF (l.map NB.n) fo k i).1 w) := by
  have cM := Lib.hid (may_any i h hA hL hkl)
  obtain ⟨R, hR⟩ : ∃ R, R = insertF (l.map NB.n) fo k i := ⟨_, rfl⟩
  rw [← hR]
  unfold insertF at hR
  generalize (node (l.map NB.n) i).kind = kd at *
  obtain ⟨q, hq⟩ : ∃ q, (kd != 3) = q := ⟨_, rfl⟩
  rw [hq] at hR cM
  have HR := Lib.hid hR
  have HS := Lib.hid h
  have HL := Lib.hid hL
  have HRM := Lib.hid hrm
  clear h hL hA hkl hR hq hrm
  cases q with
  | true =>
    have HQ : Hid (R = (fo, 2)) := by show _ = _; rw [HR.out]; rfl
    clear HR
    go_enter Tryz.func230, Tryz.ntmps230
    go_wp2_with fail
    refine cM.out.mono ?_
    rintro e w2 ⟨rfl, hb⟩
    have HF := Lib.hid (⟨HS.out.below hb HL.out, Fr.of_below hb HL.out⟩ : FoH own w2 lp ap lv fo ∧ Fr cFo own own w w2)
    clear cM hb
    go_wp2_with fail
    go_ret
    rw [HQ.out]
    exact ⟨rfl, own, lv, HF.out.1, HF.out.2⟩
  | false =>
    by_cases h0 : k < 0
    · have HQ : Hid (R = (fo, 2)) := by show _ = _; rw [HR.out, if_neg (by decide), if_pos (by simp; omega)]
      clear HR
      go_enter Tryz.func230, Tryz.ntmps230
      go_wp2_with fail
      refine cM.out.mono ?_
      rintro e w2 ⟨rfl, hb⟩
      have HF := Lib.hid (⟨HS.out.below hb HL.out, Fr.of_below hb HL.out⟩ : FoH own w2 lp ap lv fo ∧ Fr cFo own own w w2)
      clear cM hb
      go_wp2_with fail
      go_ret
      rw [HQ.out]
      exact ⟨rfl, own, lv, HF.out.1, HF.out.2⟩
    · obtain ⟨j, rfl⟩ : ∃ j : Nat, k = (j : Int) := ⟨k.toNat, by omega⟩
      obtain ⟨n, hn⟩ : ∃ n, n = fo.length := ⟨_, rfl⟩
      obtain ⟨av, cv, hlv, hcv⟩ := HS.out.s.1.form
      rw [← hn] at hlv hcv
      have HN := Lib.hid hn
      have HLV := Lib.hid hlv
      have i0 : ¬ ((j : Int) < 0) := by omega
      by_cases h1 : n < j
      · have HQ : Hid (R = (fo, 2)) := by show _ = _; rw [HR.out, if_neg (by decide), if_pos (by simp; omega)]
        have i1 : (n : Int) < (j : Int) := by omega
        clear HR hlv hn h0
        go_enter Tryz.func230, Tryz.ntmps230
        go_wp2_with fail
        refine cM.out.mono ?_
        rintro e w2 ⟨rfl, hb⟩
        have HF := Lib.hid (⟨HS.out.below hb HL.out, Fr.of_below hb HL.out⟩ : FoH own w2 lp ap lv fo ∧ Fr cFo own own w w2)
        have c1 := rowAt HF.out.1.h 1 lv rfl
        rw [HLV.out] at c1
        clear cM hb
        go_wp2_with fail
        go_ret
        rw [HQ.out]
        exact ⟨rfl, own, lv, HF.out.1, HF.out.2⟩
      · have HQ : Hid (R = layF fo j i) := by show _ = _; rw [HR.out, if_neg (by decide), if_neg (by simp; omega)]; rfl
        have i1 : (j : Int) ≤ (n : Int) := by omega
        have hjl : j ≤ fo.length := by omega
        have HJ := Lib.hid hjl
        have HSZ := Lib.hid hs
        clear HR hlv hn h0 hjl hs
        go_enter Tryz.func230, Tryz.ntmps230
        go_wp2_with fail
        refine cM.out.mono ?_
        rintro e w2 ⟨rfl, hb⟩
        have HF := Lib.hid (⟨HS.out.below hb HL.out, Fr.of_below hb HL.out⟩ : FoH own w2 lp ap lv fo ∧ Fr cFo own own w w2)
        have c1 := rowAt HF.out.1.h 1 lv rfl
        rw [HLV.out] at c1
        have cY := Lib.hid (layG_any (k := j) i HF.out.1 (HL.out.grow hb.size) HSZ.out HJ.out (HRM.out (by omega) ∘ (fun h => by omega)))
        clear cM hb
        go_wp2_with fail
        refine cY.out.mono ?_
        rintro e w3 ⟨rfl, own3, lv3, h3, f3⟩
        have HX := Lib.hid (⟨h3, HF.out.2.trans f3⟩ : _ ∧ _)
        clear cY h3 f3 c1
        go_wp2_with fail
        go_ret
        rw [HQ.out]
        exact ⟨rfl, own3, lv3, HX.out.1, HX.out.2⟩
end Go.Proofs.YtnbdalohlldnbaaGreatDoor
