/-
  Package bodies: the rule of a list's item.
  Maps of rules: how a function's value reads; what strings.Fields wants; what a map of rules says, name by name. No condition.
  Package bodies: table.
  Package bodies: table, walked.
  The tables' texts: a map literal that is being filled; what its last state says; the closures in it.
  Package bodies: starts and ends: what their tables say. Printed by wip/mktab.py.
  Package bodies: starts and ends, walked. Printed by wip/mktab.py.
-/
import Derived.Test.YtnbdalohlldnbaaGreatDoorM13
import Derived.WalkMore
import Derived.Maps.RangeWalk
import Derived.Maps.OwnOps
import Derived.Maps.Ext
import Derived.Lib.LaidTab
import Derived.Lib.Fields
namespace Go.Proofs.YtnbdalohlldnbaaGreatDoor
open Go.RowKit Bd
attribute [local go_sem ↓] Go.wp_at_zero Go.wp_at_succ
section
variable {n : Nat} {own : Nat → Nat} {w : World} {bp ap sp lp : Nat} {b : BS}
set_option maxHeartbeats 2000000 in
set_option maxRecDepth 100000 in
theorem ritem_any (t : TokL) (ht : TokOk t) {nb : Nat} {nv : Value} {names : List Ba} (hnb : w.cell? ⟨nb, 0, none⟩ = some nv) (hN : NmAt w nv names) (hn : n + 1 ≤ 90000) (H : BX n own w bp ap sp lp b) :
    Calls Tryz.prog 143 #[.pointer (some ⟨bp, 0, none⟩), tokV t, .pointer (some ⟨nb, 0, none⟩)] w (RX (n + 1) own bp ap sp lp (.tuple #[]) (item names b t) w) := by
  obtain ⟨W1, hW1⟩ : ∃ W, W = w.alloc (.cells (tokR t) 24) := ⟨_, rfl⟩
  have hb1 : Below w.heap.size w W1 := by rw [hW1]; exact (Below.refl _ w).alloc (Nat.le_refl _) _
  have hr : W1.heap[w.heap.size]? = some (.cells (tokR t) 24 (0, 0)) := by rw [hW1]; exact heap_new _ _
  have hH := H.below hb1
  have hF := H.fr hb1
  have ho : own w.heap.size = 0 := H.L _ (Nat.le_refl _)
  have HW1 := Lib.hid hW1
  obtain ⟨bx, hbx⟩ : ∃ x, x = w.heap.size := ⟨_, rfl⟩
  rw [← hbx] at hr ho
  have HBX := Lib.hid hbx
  have HNB : Hid (∀ V, Below W1.heap.size W1 V → V.cell? ⟨nb, 0, none⟩ = some nv ∧ NmAt V nv names) := Lib.hid (fun V hV => by
    have hbV := below_call hb1 hV
    exact ⟨(hbV.cell (World.block_lt_of_cell? _ _ hnb)).trans hnb, hN.below hbV⟩)
  clear hW1 H hbx hnb hN hb1
  obtain ⟨bR, hbR⟩ : ∃ bR, bR = itemF names b b.st.length := ⟨_, rfl⟩
  rw [show item names b t = Bd.block bR t by rw [hbR]; rfl]
  have HR0 : Hid (itemF names b b.st.length = bR) := Lib.hid hbR.symm
  have cS := Lib.hid (xStack hH)
  have cL := Lib.hid (xSLen hH)
  have hst := hH.G.st.1
  obtain ⟨L, hL⟩ : ∃ L, L = b.st.length := ⟨_, rfl⟩
  rw [← hL] at cL hst HR0
  have HL : Hid (b.st.length = L) := Lib.hid hL.symm
  have HH := Lib.hid hH
  have HF := Lib.hid hF
  have Hr := Lib.hid hr
  have HO := Lib.hid ho
  clear hbR hL hH hF hr ho
  go_enter Tryz.func143, Tryz.ntmps143
  go_upto_region 1 with fail
  rw [← HW1.out, ← HBX.out]
  go_step3
  go_wp2_with fail
  refine cS.out.mono ?_
  rintro e w1 ⟨rfl, rfl⟩
  go_wp2_with fail
  go_step3
  go_wp2_with fail
  refine cL.out.mono ?_
  rintro e w1 ⟨rfl, rfl⟩
  go_wp2_with fail
  clear cS cL
  go_loopw [6] (fun y wr => ∃ j : Nat, y = .int .i64 ((j : Int) - 1) ∧ j ≤ L ∧ Hid (itemF names b j = bR) ∧ Hid (Below W1.heap.size W1 wr)) (fun y _ => ((intOf y) + 1).toNat)
  case atStart => exact ⟨L, rfl, Nat.le_refl _, HR0, Lib.hid (Below.refl _ _)⟩
  case round =>
  obtain ⟨j, rfl, hj, hjR, hb⟩ := hrel
  clear HR0
  have H1 := HH.out.below hb.out
  cases j with
  | zero =>
    have HQ : Hid (bR = b) := by show _ = _; rw [← hjR.out]; rfl
    have HX := Lib.hid (⟨H1, HH.out.fr hb.out⟩ : _ ∧ _)
    have HX : Hid (BX n own wr bp ap sp lp bR ∧ Fr cBu own own W1 wr) := Lib.hid (by rw [HQ.out]; exact HX.out)
    clear hjR HH H1
    have hr5 := HX.out.2.keep Hr.out (by rw [HO.out]; rfl)
    have HR9 := Lib.hid hr5
    have HF9 := Lib.hid (HF.out.trans HX.out.2)
    have cB := Lib.hid (rblock_any t ht hn HX.out.1)
    clear hr5 HX
    go_wp2_with (refine wpList_load_row rfl 24 (.tmp 4) rfl bx rfl 24 _ (0, 0) _ HR9.out Tryz.underlying24 rfl tokSize ?_)
    refine cB.out.mono ?_
    rintro e w19 ⟨rfl, own19, H19, F19⟩
    have HX := Lib.hid (⟨H19, HF9.out.trans F19⟩ : _ ∧ _)
    clear cB H19 F19
    go_wp2_with fail
    go_end0
    exact ⟨rfl, own19, HX.out.1, HX.out.2⟩

  | succ j =>
    obtain ⟨o, hoj⟩ : ∃ o, b.st[j]? = some o := ⟨_, List.getElem?_eq_getElem (by rw [HL.out]; omega)⟩
    have hat : atS b.st (j : Int) = o.node := atS_of hoj
    have hstep := hjR.out
    unfold itemF at hstep
    dsimp only at hstep
    rw [hat] at hstep
    have e1 : (((j + 1 : Nat) : Int) - 1) = (j : Int) := by omega
    rw [e1]
    have i0 : (0 : Int) ≤ (j : Int) := by omega
    have i1 : (j : Int) ≤ 512 := by omega
    have cAr := Lib.hid (xArena H1)
    have cA := Lib.hid (xSAt (j : Int) H1)
    rw [hat] at cA
    have cN := Lib.hid (xNode o.node H1)
    have hnm := node_ok HH.out.G.nd o.node
    have HJ : Hid (j ≤ L) := Lib.hid (by omega)
    generalize o.node = on at *
    generalize node b.ar on = nd at *
    obtain ⟨kd, nm, tx, spc, dp, pr, cn, ks, fr, tt⟩ := nd
    dsimp only at hstep hnm
    have hn1 : Hid (nm.size ≤ 1000000) := Lib.hid (Nat.le_trans hnm.1.1 (by decide))
    obtain ⟨q1, hq1⟩ : ∃ q, (spc == 0) = q := ⟨_, rfl⟩
    obtain ⟨q2, hq2⟩ : ∃ q, names.contains nm = q := ⟨_, rfl⟩
    obtain ⟨qa, hqa⟩ : ∃ q, (nm == Bd.tx "address") = q := ⟨_, rfl⟩
    obtain ⟨qd, hqd⟩ : ∃ q, (nm == Bd.tx "div") = q := ⟨_, rfl⟩
    obtain ⟨qp, hqp⟩ : ∃ q, (nm == pS) = q := ⟨_, rfl⟩
    obtain ⟨q4, hq4⟩ : ∃ q, special spc nm = q := ⟨_, rfl⟩
    rw [hq1, hq2, hqa, hqd, hqp, hq4] at hstep
    have hqa' : (nm.toList == [97, 100, 100, 114, 101, 115, 115]) = qa := by rw [text_beq, ← hqa, show Bd.tx "address" = ⟨#[97, 100, 100, 114, 101, 115, 115]⟩ from by decide +kernel]
    have hqd' : (nm.toList == [100, 105, 118]) = qd := by rw [text_beq, ← hqd, show Bd.tx "div" = ⟨#[100, 105, 118]⟩ from by decide +kernel]
    have hqp' : (nm.toList == [112]) = qp := by rw [text_beq, ← hqp]; rfl
    have HST := Lib.hid hstep
    have HQ2 := Lib.hid hq2
    have HQ4 := Lib.hid hq4
    have HB := Lib.hid hb.out
    clear H1 hjR hoj hat hstep hnm hq2 hq4 hb e1 hqa hqd hqp
    go_wp2_with fail
    refine cAr.out.mono ?_
    rintro e w3 ⟨rfl, rfl⟩
    go_wp2_with fail
    refine cA.out.mono ?_
    rintro e w3 ⟨rfl, rfl⟩
    go_wp2_with fail
    refine cN.out.mono ?_
    rintro e w4 ⟨ka, kn, kc, rfl, hki, hkg, hb4⟩
    clear hki hkg
    obtain ⟨W5, hW5⟩ : ∃ W, W = w4.alloc (.cells #[.int .i64 kd, .string nm, .string tx, .int .i64 spc, .slice none 0 0, .bool dp, .int .i64 pr, .int .i64 cn, .slice ka kn kc, .int .i64 fr, .int .i64 tt] 54) := ⟨_, rfl⟩
    have hb5 : Below w4.heap.size w4 W5 := by rw [hW5]; exact (Below.refl _ _).alloc (Nat.le_refl _) _
    have r5 : W5.heap[w4.heap.size]? = some (.cells #[.int .i64 kd, .string nm, .string tx, .int .i64 spc, .slice none 0 0, .bool dp, .int .i64 pr, .int .i64 cn, .slice ka kn kc, .int .i64 fr, .int .i64 tt] 54 (0, 0)) := by rw [hW5]; exact heap_new _ _
    have hbb := below_call (below_call HB.out hb4) hb5
    obtain ⟨bn, hbn⟩ : ∃ x, x = w4.heap.size := ⟨_, rfl⟩
    have hon : own bn = 0 := by rw [hbn]; exact HH.out.L _ (below_call HB.out hb4).size
    rw [← hbn] at r5
    have HBN := Lib.hid hbn
    have HON := Lib.hid hon
    have d1 := rowAt r5 1 (.string nm) rfl
    have d3 := rowAt r5 3 (.int .i64 spc) rfl
    have H5 := HH.out.below hbb
    have HF5 := Lib.hid (HH.out.fr hbb)
    have cSp := Lib.hid (Special_any spc nm hn1.out W5 H5.E.k)
    rw [HQ4.out] at cSp
    obtain ⟨dn, hNm⟩ := HNB.out W5 hbb
    have cCo := Lib.hid (Contains_any nm hNm)
    rw [HQ2.out] at cCo
    have HW5 := Lib.hid hW5
    have HBB := Lib.hid hbb
    have HH5 := Lib.hid H5
    have HR5 := Lib.hid r5
    clear cN cA cAr hb4 hb5 r5 hbb hW5 H5 hbn hon hNm HQ2 HQ4
    dsimp only [NB.val, NB.row]
    go_upto_region 6 with fail
    rw [← HW5.out, ← HBN.out]
    cases q1 with
    | false =>
      have HS3 : Hid ((if q4 then b else itemF names b j) = bR) := HST.out
      clear HST cCo
      go_wp2_with fail
      refine cSp.out.mono ?_
      rintro e w6 ⟨rfl, rfl⟩
      clear cSp d1 d3 dn
      cases q4 with
      | true =>
        have HQ : Hid (bR = b) := by show _ = _; rw [← HS3.out]; rfl
        have HX : Hid (BX n own W5 bp ap sp lp bR ∧ Fr cBu own own W1 W5) := Lib.hid (by rw [HQ.out]; exact ⟨HH5.out, HF5.out⟩)
        clear HS3
        have hr5 := HX.out.2.keep Hr.out (by rw [HO.out]; rfl)
        have HR9 := Lib.hid hr5
        have HF9 := Lib.hid (HF.out.trans HX.out.2)
        have cB := Lib.hid (rblock_any t ht hn HX.out.1)
        clear hr5 HX
        go_wp2_with (refine wpList_load_row rfl 24 (.tmp 4) rfl bx rfl 24 _ (0, 0) _ HR9.out Tryz.underlying24 rfl tokSize ?_)
        refine cB.out.mono ?_
        rintro e w19 ⟨rfl, own19, H19, F19⟩
        have HX := Lib.hid (⟨H19, HF9.out.trans F19⟩ : _ ∧ _)
        clear cB H19 F19
        go_wp2_with fail
        go_end0
        exact ⟨rfl, own19, HX.out.1, HX.out.2⟩
      | false =>
        have HQ : Hid (itemF names b j = bR) := by show _ = _; rw [← HS3.out]; rfl
        clear HS3
        go_wp2_with fail
        go_roundw
        case rel => exact ⟨j, rfl, HJ.out, HQ, HBB⟩
        case measure => simp [intOf]

    | true =>
    cases q2 with
    | true =>
      have HQ : Hid (bR = { b with st := (untilS (impliedSt nm b.st) [nm]).1 }) := by show _ = _; rw [← HST.out]; rfl
      clear HST cSp
      go_wp2_with fail
      refine cCo.out.mono ?_
      rintro e w6 ⟨rfl, rfl⟩
      have cI := Lib.hid (xSImplied nm HH5.out)
      clear cCo
      go_wp2_with fail
      refine cI.out.mono ?_
      rintro e w7 ⟨rfl, own7, H7, F7⟩
      have HF7 := Lib.hid (HF5.out.trans F7)
      have r7 := F7.keep HR5.out (by rw [HON.out]; rfl)
      have d1' := rowAt r7 1 (.string nm) rfl
      have hb8 : Below w7.heap.size w7 (w7.alloc (.cells #[.string nm] 9)) := (Below.refl _ w7).alloc (Nat.le_refl _) _
      have cU := Lib.hid (xSUntil (H7.below hb8) (NmAt.one w7 nm))
      have HF8 := Lib.hid (HF7.out.trans (H7.fr hb8))
      clear cI H7 F7 HF7 HF5 HH5 r7 hb8 d1 d3 dn
      go_wp2_with fail
      refine cU.out.mono ?_
      rintro e w9 ⟨rfl, own9, H9, F9⟩
      have HX := Lib.hid (⟨H9, HF8.out.trans F9⟩ : _ ∧ _)
      clear cU H9 F9
      have HX : Hid (BX n own9 w9 bp ap sp lp bR ∧ Fr cBu own own9 W1 w9) := Lib.hid (by rw [HQ.out]; exact HX.out)
      have hr5 := HX.out.2.keep Hr.out (by rw [HO.out]; rfl)
      have HR9 := Lib.hid hr5
      have HF9 := Lib.hid (HF.out.trans HX.out.2)
      have cB := Lib.hid (rblock_any t ht hn HX.out.1)
      clear hr5 HX
      go_wp2_with (refine wpList_load_row rfl 24 (.tmp 4) rfl bx rfl 24 _ (0, 0) _ HR9.out Tryz.underlying24 rfl tokSize ?_)
      refine cB.out.mono ?_
      rintro e w19 ⟨rfl, own19, H19, F19⟩
      have HX := Lib.hid (⟨H19, HF9.out.trans F19⟩ : _ ∧ _)
      clear cB H19 F19
      go_wp2_with fail
      go_end0
      exact ⟨rfl, own19, HX.out.1, HX.out.2⟩

    | false =>
      have hs2 := HST.out
      rw [if_neg (by decide)] at hs2
      clear HST
      cases qa with
      | true =>
        have HQ : Hid (itemF names b j = bR) := hs2
        clear hs2
        go_wp2_with fail
        refine cCo.out.mono ?_
        rintro e w6 ⟨rfl, rfl⟩
        clear cCo cSp
        go_wp2_with fail
        go_roundw
        case rel => exact ⟨j, rfl, HJ.out, HQ, HBB⟩
        case measure => simp [intOf]

      | false =>
      cases qd with
      | true =>
        have HQ : Hid (itemF names b j = bR) := hs2
        clear hs2
        go_wp2_with fail
        refine cCo.out.mono ?_
        rintro e w6 ⟨rfl, rfl⟩
        clear cCo cSp
        go_wp2_with fail
        go_roundw
        case rel => exact ⟨j, rfl, HJ.out, HQ, HBB⟩
        case measure => simp [intOf]

      | false =>
      cases qp with
      | true =>
        have HQ : Hid (itemF names b j = bR) := hs2
        clear hs2
        go_wp2_with fail
        refine cCo.out.mono ?_
        rintro e w6 ⟨rfl, rfl⟩
        clear cCo cSp
        go_wp2_with fail
        go_roundw
        case rel => exact ⟨j, rfl, HJ.out, HQ, HBB⟩
        case measure => simp [intOf]

      | false =>
        have HS3 : Hid ((if q4 then b else itemF names b j) = bR) := hs2
        clear hs2
        go_wp2_with fail
        refine cCo.out.mono ?_
        rintro e w6 ⟨rfl, rfl⟩
        clear cCo
        go_wp2_with fail
        refine cSp.out.mono ?_
        rintro e w6 ⟨rfl, rfl⟩
        clear cSp d1 d3 dn
        cases q4 with
        | true =>
          have HQ : Hid (bR = b) := by show _ = _; rw [← HS3.out]; rfl
          have HX : Hid (BX n own W5 bp ap sp lp bR ∧ Fr cBu own own W1 W5) := Lib.hid (by rw [HQ.out]; exact ⟨HH5.out, HF5.out⟩)
          clear HS3
          have hr5 := HX.out.2.keep Hr.out (by rw [HO.out]; rfl)
          have HR9 := Lib.hid hr5
          have HF9 := Lib.hid (HF.out.trans HX.out.2)
          have cB := Lib.hid (rblock_any t ht hn HX.out.1)
          clear hr5 HX
          go_wp2_with (refine wpList_load_row rfl 24 (.tmp 4) rfl bx rfl 24 _ (0, 0) _ HR9.out Tryz.underlying24 rfl tokSize ?_)
          refine cB.out.mono ?_
          rintro e w19 ⟨rfl, own19, H19, F19⟩
          have HX := Lib.hid (⟨H19, HF9.out.trans F19⟩ : _ ∧ _)
          clear cB H19 F19
          go_wp2_with fail
          go_end0
          exact ⟨rfl, own19, HX.out.1, HX.out.2⟩
        | false =>
          have HQ : Hid (itemF names b j = bR) := by show _ = _; rw [← HS3.out]; rfl
          clear HS3
          go_wp2_with fail
          go_roundw
          case rel => exact ⟨j, rfl, HJ.out, HQ, HBB⟩
          case measure => simp [intOf]

end
end Go.Proofs.YtnbdalohlldnbaaGreatDoor

namespace Go.Proofs.YtnbdalohlldnbaaGreatDoor
open Go.RowKit Bd
attribute [local go_sem ↓] Go.wp_at_zero Go.wp_at_succ
abbrev DU := DataW Unit
/-- How a function's value reads: its number; of a closure over one variable the variable's block, too. -/
def codeV (v : Value) : Option (DU × List MemPlace) :=
  match v with
  | .nilFunc => some (.lit (.int .i64 (-1)), [])
  | .func (.func n) a c => match a.toList, c.toList with
    | [], [] => some (.lit (.int .i64 (n : Int)), [])
    | [], [.pointer (some p)] => if p = ⟨p.block, 0, none⟩ then some (.agg [.lit (.int .i64 (n : Int)), .lit (.int .i64 (p.block : Int))], []) else none
    | _, _ => none
  | _ => none
theorem codeV_inv {v : Value} {y : DU × List MemPlace} (h : codeV v = some y) : (v = .nilFunc ∧ y.1 = .lit (.int .i64 (-1))) ∨ (∃ n : Nat, v = .func (.func n) #[] #[] ∧ y.1 = .lit (.int .i64 (n : Int))) ∨ (∃ n b : Nat, v = .func (.func n) #[] #[.pointer (some ⟨b, 0, none⟩)] ∧ y.1 = .agg [.lit (.int .i64 (n : Int)), .lit (.int .i64 (b : Int))]) := by
  unfold codeV at h
  split at h
  · obtain rfl := Option.some.inj h
    exact Or.inl ⟨rfl, rfl⟩
  · rename_i n a c
    split at h
    · rename_i h1 h2
      obtain rfl := Option.some.inj h
      obtain rfl : a = #[] := Array.toList_inj.1 h1
      obtain rfl : c = #[] := Array.toList_inj.1 h2
      exact Or.inr (Or.inl ⟨n, rfl, rfl⟩)
    · rename_i p h1 h2
      split at h
      · rename_i hp
        obtain rfl := Option.some.inj h
        obtain rfl : a = #[] := Array.toList_inj.1 h1
        rw [hp] at h2
        obtain rfl : c = #[.pointer (some ⟨p.block, 0, none⟩)] := Array.toList_inj.1 h2
        exact Or.inr (Or.inr ⟨n, p.block, rfl, rfl⟩)
      · cases h
    · cases h
  · cases h
theorem codeV_fn {v : Value} {n : Nat} {ps : List MemPlace} (h : codeV v = some (.lit (.int .i64 (n : Int)), ps)) : v = .func (.func n) #[] #[] := by
  rcases codeV_inv h with ⟨_, h1⟩ | ⟨m, rfl, h1⟩ | ⟨m, b, _, h1⟩
  · injection h1 with h1; injection h1 with _ h1; omega
  · injection h1 with h1; injection h1 with _ h1
    obtain rfl : n = m := by omega
    rfl
  · cases h1
theorem codeV_cl {v : Value} {n b : Nat} {ps : List MemPlace} (h : codeV v = some (.agg [.lit (.int .i64 (n : Int)), .lit (.int .i64 (b : Int))], ps)) : v = .func (.func n) #[] #[.pointer (some ⟨b, 0, none⟩)] := by
  rcases codeV_inv h with ⟨_, h1⟩ | ⟨m, rfl, h1⟩ | ⟨m, c, rfl, h1⟩
  · cases h1
  · cases h1
  · injection h1 with h1
    injection h1 with h2 h3
    injection h3 with h3 _
    injection h2 with h2
    injection h2 with _ h2
    injection h3 with h3
    injection h3 with _ h3
    obtain rfl : n = m := by omega
    obtain rfl : b = c := by omega
    rfl
theorem codeV_nil {v : Value} {ps : List MemPlace} (h : codeV v = some (.lit (.int .i64 (-1)), ps)) : v = .nilFunc := by
  rcases codeV_inv h with ⟨rfl, _⟩ | ⟨m, rfl, h1⟩ | ⟨m, c, rfl, h1⟩
  · rfl
  · injection h1 with h1; injection h1 with _ h1; omega
  · cases h1
/-- A map of rules says this of each name. -/
structure Rd (D : DU) (S : List UInt8 → Option DU) : Prop where
  m : Maps.IsMap D
  y : ∀ nm d, S nm = some d → Maps.has D (.string nm) = true ∧ ∀ z, D.atKey (.string nm) z = d
  n : ∀ nm, S nm = none → Maps.has D (.string nm) = false
theorem Rd.nil : Rd (.map []) (fun _ => none) := ⟨⟨[], rfl⟩, (fun _ _ h => by cases h), fun _ _ => rfl⟩
theorem Rd.put {D : DU} {S : List UInt8 → Option DU} (h : Rd D S) (k : List UInt8) (d : DU) : Rd (D.put (.string k) d) (fun nm => if nm = k then some d else S nm) := by
  refine ⟨?_, fun nm e hS => ?_, fun nm hS => ?_⟩
  · obtain ⟨es, rfl⟩ := h.m
    exact ⟨_, rfl⟩
  · by_cases hk : nm = k
    · subst hk
      rw [if_pos rfl] at hS
      obtain rfl := Option.some.inj hS
      exact ⟨Maps.has_put_same h.m (show WideAt.IsKeyLit (.string nm) from trivial) _, fun z => Maps.atKey_put_same h.m (show WideAt.IsKeyLit (.string nm) from trivial) _ z⟩
    · rw [if_neg hk] at hS
      have hne : (Lit.string nm) ≠ .string k := fun e => hk (by injection e)
      obtain ⟨h1, h2⟩ := h.y nm e hS
      exact ⟨by rw [Maps.has_put_other hne]; exact h1, fun z => by rw [Maps.atKey_put_other hne]; exact h2 z⟩
  · by_cases hk : nm = k
    · rw [if_pos hk] at hS; cases hS
    · rw [if_neg hk] at hS
      rw [Maps.has_put_other (fun e => hk (by injection e))]
      exact h.n nm hS
/-- What is looked up. -/
theorem Rd.get {D : DU} {S : List UInt8 → Option DU} (h : Rd D S) (nm : List UInt8) (z : DU) : D.atKey (.string nm) z = (S nm).getD z := by
  cases hs : S nm with
  | none => rw [Maps.atKey_of_not_has (h.n nm hs)]; rfl
  | some d => rw [(h.y nm d hs).2 z]; rfl
theorem keyS_inv {key : Value} {kl : Lit} (h : keyOf Tryz.prog 9 key = some kl) : ∃ s : ByteArray, key = .string s ∧ kl = .string s.data.toList := by
  rw [keyOf_string Tryz.underlying9] at h
  unfold mapKey at h
  cases key <;> simp [Tryz.underlying9] at h
  rename_i s
  exact ⟨s, rfl, h.2.symm⟩
theorem keyS_mk (s : ByteArray) (h : s.size ≤ maxLen) : keyOf Tryz.prog 9 (.string s) = some (.string s.data.toList) := Go.WideMaps.keyOf_string_mk Tryz.underlying9 h
theorem lawS : Maps.Keyed Tryz.prog 9 := Maps.string_keyed Tryz.underlying9
/-- The table that strings.Fields reads. -/
structure EnvT (own : Nat → Nat) (w : World) : Prop where
  t : Lib.TabIs Tryz.prog w "strings.asciiSpace" .u8 Lib.asciiSpaceTab
  o : own 1 = 0
theorem tab_keep {w w' : World} (h : Lib.TabIs Tryz.prog w "strings.asciiSpace" .u8 Lib.asciiSpaceTab) (hb : w'.heap[(1 : Nat)]? = w.heap[(1 : Nat)]?) : Lib.TabIs Tryz.prog w' "strings.asciiSpace" .u8 Lib.asciiSpaceTab := by
  unfold Lib.TabIs World.var? at *
  have hg : (Tryz.prog).globalNamed "strings.asciiSpace" = some 1 := by kernel_rfl
  rw [hg] at h ⊢
  simp only [Option.bind_some] at h ⊢
  rw [hb]
  exact h
end Go.Proofs.YtnbdalohlldnbaaGreatDoor

namespace Go.Proofs.YtnbdalohlldnbaaGreatDoor
open Go.RowKit Bd
attribute [local go_sem ↓] Go.wp_at_zero Go.wp_at_succ
/-- What table's map says where the groups that are still to come are these. -/
structure TabS (S0 : List UInt8 → Option DU) (left : Lit → Bool) (S : List UInt8 → Option DU) : Prop where
  is : ∀ nm d, S nm = some d ↔ ∃ g, S0 g = some d ∧ left (.string g) = false ∧ nm ∈ Lib.fields g
/-- .. and of one group the first words are there already. -/
structure TabJ (S0 : List UInt8 → Option DU) (left : Lit → Bool) (g : List UInt8) (d : DU) (done : List (List UInt8)) (S : List UInt8 → Option DU) : Prop where
  is : ∀ nm e, S nm = some e ↔ (∃ g', S0 g' = some e ∧ left (.string g') = false ∧ nm ∈ Lib.fields g') ∨ (nm ∈ done ∧ e = d)
theorem TabJ.step {S0 : List UInt8 → Option DU} {left : Lit → Bool} {g : List UInt8} {d : DU} {done : List (List UInt8)} {S : List UInt8 → Option DU} (h : TabJ S0 left g d done S) (hap : ∀ g1 g2 e1 e2 nm, S0 g1 = some e1 → S0 g2 = some e2 → nm ∈ Lib.fields g1 → nm ∈ Lib.fields g2 → g1 = g2) (hg : S0 g = some d) (hl : left (.string g) = true) {k : List UInt8} (hk : k ∈ Lib.fields g) : TabJ S0 left g d (done ++ [k]) (fun nm => if nm = k then some d else S nm) := by
  refine ⟨fun nm e => ?_⟩
  by_cases hnk : nm = k
  · subst hnk
    rw [if_pos rfl]
    constructor
    · intro he
      obtain rfl := Option.some.inj he
      exact Or.inr ⟨by simp, rfl⟩
    · rintro (⟨g', h1, h2, h3⟩ | ⟨_, rfl⟩)
      · obtain rfl := hap g' g e d nm h1 hg h3 hk
        rw [hl] at h2; cases h2
      · rfl
  · rw [if_neg hnk, h.is nm e]
    constructor
    · rintro (h1 | ⟨h1, h2⟩)
      · exact Or.inl h1
      · exact Or.inr ⟨by simp [h1], h2⟩
    · rintro (h1 | ⟨h1, h2⟩)
      · exact Or.inl h1
      · refine Or.inr ⟨?_, h2⟩
        rcases List.mem_append.1 h1 with h1 | h1
        · exact h1
        · exact absurd (List.mem_singleton.1 h1) hnk
theorem TabJ.done {S0 : List UInt8 → Option DU} {left : Lit → Bool} {g : List UInt8} {d : DU} {S : List UInt8 → Option DU} (h : TabJ S0 left g d (Lib.fields g) S) (hg : S0 g = some d) : TabS S0 (fun z => left z && !z.sameKey (.string g)) S := by
  refine ⟨fun nm e => ?_⟩
  rw [h.is nm e]
  constructor
  · rintro (⟨g', h1, h2, h3⟩ | ⟨h1, rfl⟩)
    · exact ⟨g', h1, by rw [h2]; rfl, h3⟩
    · exact ⟨g, hg, by rw [WideAt.sameKey_self (show WideAt.IsKeyLit (.string g) from trivial)]; simp, h1⟩
  · rintro ⟨g', h1, h2, h3⟩
    by_cases e1 : g' = g
    · subst e1
      rw [hg] at h1
      obtain rfl := Option.some.inj h1
      exact Or.inr ⟨h3, rfl⟩
    · refine Or.inl ⟨g', h1, ?_, h3⟩
      cases hl : left (.string g') with
      | false => rfl
      | true =>
        rw [hl] at h2
        have : (Lit.string g').sameKey (.string g) = false := by
          cases hs : (Lit.string g').sameKey (.string g) with
          | false => rfl
          | true => exact absurd (by injection WideAt.sameKey_eq hs) e1
        rw [this] at h2; cases h2
/-- Where table's outer loop stands. -/
structure TblAt (w : World) (m0 r b n0 : Nat) (D0 : DU) (S0 : List UInt8 → Option DU) (wr : World) : Prop where
  ex : ∃ left cnt n D S, wr.ranges Tryz.prog 9 codeV m0 r n0 D0 left cnt ∧ wr.ownsMap Tryz.prog 9 codeV b n D ∧ Rd D S ∧ TabS S0 left S ∧ n + cnt * 1000 ≤ 1000000 ∧ Below w.heap.size w wr
/-- .. and its inner one. -/
structure TblJ (w : World) (m0 r b n0 : Nat) (D0 : DU) (S0 : List UInt8 → Option DU) (left : Lit → Bool) (cnt : Nat) (g : List UInt8) (d : DU) (A : Nat) (nb : Nat) (j : Nat) (wr : World) : Prop where
  ex : ∃ n D S, wr.ranges Tryz.prog 9 codeV m0 r n0 D0 (fun z => left z && !z.sameKey (.string g)) cnt ∧ wr.ownsMap Tryz.prog 9 codeV b n D ∧ Rd D S ∧ TabJ S0 left g d ((Lib.fields g).take j) S ∧ n ≤ nb + j ∧ Below w.heap.size w wr ∧ wr.heap[A]? = some (.cells ((Lib.fields g).map fun l => Value.string ⟨l.toArray⟩).toArray 9 (0, 0))
theorem fields_len (s : List UInt8) : (Lib.fields s).length ≤ s.length := by
  have h1 : ∀ (l cur : List UInt8), (Lib.fieldsGo cur l).length ≤ l.length + (if cur.isEmpty then 0 else 1) := by
    intro l
    induction l with
    | nil => intro cur; unfold Lib.fieldsGo; split <;> simp
    | cons x r ih =>
      intro cur
      unfold Lib.fieldsGo
      split
      · split
        · have := ih []; simp at this ⊢; omega
        · rename_i h; have := ih []; simp at this ⊢; omega
      · have := ih (cur ++ [x]); simp at this ⊢; omega
  have := h1 s []
  simpa [Lib.fields] using this
end Go.Proofs.YtnbdalohlldnbaaGreatDoor

namespace Go.Proofs.YtnbdalohlldnbaaGreatDoor
open Go.RowKit Bd
attribute [local go_sem ↓] Go.wp_at_zero Go.wp_at_succ
theorem heap_lt {w : World} {A : Nat} {o : Obj} (h : w.heap[A]? = some o) : A < w.heap.size := by
  rcases Nat.lt_or_ge A w.heap.size with h1 | h1
  · exact h1
  · rw [Array.getElem?_eq_none h1] at h; cases h
theorem fields_word {s : List UInt8} {x : List UInt8} (h : x ∈ Lib.fields s) : x.length ≤ s.length := by
  have h1 : ∀ (l cur : List UInt8), x ∈ Lib.fieldsGo cur l → x.length ≤ cur.length + l.length := by
    intro l
    induction l with
    | nil =>
      intro cur h
      unfold Lib.fieldsGo at h
      split at h
      · cases h
      · obtain rfl := List.mem_singleton.1 h; simp
    | cons y r ih =>
      intro cur h
      unfold Lib.fieldsGo at h
      split at h
      · split at h
        · have := ih _ h; simp at this ⊢; omega
        · rcases List.mem_cons.1 h with rfl | h
          · simp
          · have := ih _ h; simp at this ⊢; omega
      · have := ih _ h; simp at this ⊢; omega
  have := h1 s [] h
  simpa using this
theorem Fields_c (s : ByteArray) (w : World) (hs : s.size ≤ 1000) (ha : ∀ b ∈ s.data.toList, b.toNat < 128) (hT : Lib.TabIs Tryz.prog w "strings.asciiSpace" .u8 Lib.asciiSpaceTab) : Calls Tryz.prog 136 #[.string s] w fun e w' =>
      e = .returned (.slice (some ⟨w.heap.size, 0, none⟩) (Lib.fields s.data.toList).length (Lib.fields s.data.toList).length) ∧ w' = w.alloc (.cells ((Lib.fields s.data.toList).map fun l => Value.string ⟨l.toArray⟩).toArray 9) :=
  Tryz.strings_Fields_laid s w (by omega) (fun j b hj => ha b (List.mem_of_getElem? hj)) hT
set_option maxHeartbeats 1000000 in
set_option maxRecDepth 100000 in
theorem table_any {w : World} {m0 n0 : Nat} {D0 : DU} {S0 : List UInt8 → Option DU} (h0 : w.ownsMap Tryz.prog 9 codeV m0 n0 D0) (hR : Rd D0 S0) (hn0 : n0 ≤ 100) (hok : ∀ g d, S0 g = some d → g.length ≤ 1000 ∧ ∀ b ∈ g, b.toNat < 128)
    (hap : ∀ g1 g2 e1 e2 nm, S0 g1 = some e1 → S0 g2 = some e2 → nm ∈ Lib.fields g1 → nm ∈ Lib.fields g2 → g1 = g2) (hT : Lib.TabIs Tryz.prog w "strings.asciiSpace" .u8 Lib.asciiSpaceTab) :
    Calls Tryz.prog 65 #[.map (some m0)] w fun e w' => ∃ b n D S, e = .returned (.map (some b)) ∧ w'.ownsMap Tryz.prog 9 codeV b n D ∧ Rd D S ∧ (∀ nm d, S nm = some d ↔ ∃ g, S0 g = some d ∧ nm ∈ Lib.fields g) ∧ Below w.heap.size w w' := by
  have hmm := @run_makeMap Tryz.prog
  have hml := h0.lt
  have e1 : (w.alloc (.map #[] 0)).heap.size = w.heap.size + 1 := by simp
  have hsz0 : Maps.size D0 ≤ 100 := by
    obtain ⟨es, clock, _, _, h2, h3⟩ := h0
    subst h3
    show ((es.toList.map _).foldr DataW.insert []).length ≤ 100
    rw [length_sorted]
    simp; omega
  have HT : Hid (∀ W, Below w.heap.size w W → Lib.TabIs Tryz.prog W "strings.asciiSpace" .u8 Lib.asciiSpaceTab) := Lib.hid (fun W hW => by
    have hlt : (1 : Nat) < w.heap.size := by
      unfold Lib.TabIs World.var? at hT
      have hg : (Tryz.prog).globalNamed "strings.asciiSpace" = some 1 := by kernel_rfl
      rw [hg] at hT
      simp only [Option.bind_some] at hT
      rcases Nat.lt_or_ge (1 : Nat) w.heap.size with h | h
      · exact h
      · rw [Array.getElem?_eq_none h] at hT; cases hT
    exact tab_keep hT (hW.block _ hlt))
  have HOK := Lib.hid hok
  have HAP := Lib.hid hap
  have HR := Lib.hid hR
  have H0 := Lib.hid h0
  clear hok hap hR hT
  go_enter Tryz.func65, Tryz.ntmps65
  go_wp2_with (first
    | (at_range; refine wpList_range_own _ rfl _ 65 rfl 9 64 lawS Tryz.underlying65 _ m0 n0 _ rfl (H0.out.alloc _) ?_; intro w0 hrg0 hg0 hs0)
    | go_in)
  go_frame
  rw [e1] at hrg0 hs0 ⊢
  have HS0 : Hid (TblAt w m0 (w.heap.size + 1) w.heap.size n0 D0 S0 w0) := Lib.hid ⟨_, _, 0, .map [], fun _ => none, hrg0, ((World.ownsMap_made _ _ _ _).kept hg0 (by simp)), Rd.nil, ⟨fun nm d => ⟨(fun h => by cases h), (fun ⟨g, h1, h2, _⟩ => by rw [(HR.out.y g d h1).1] at h2; cases h2)⟩⟩, by omega, ((Below.refl _ _).alloc (Nat.le_refl _) _).grown hg0 (by simp) (fun j hj => by cases hj)⟩
  clear hrg0 hg0 hs0 h0
  go_loopw [] (fun wr => Hid (TblAt w m0 (w.heap.size + 1) w.heap.size n0 D0 S0 wr)) (fun wr => wr.rangeLeft m0 (w.heap.size + 1))
  case atStart => exact HS0
  case round =>
    obtain ⟨left, cnt, n, D, S, hrg, hout, hRd, hTb, hnc, hnx⟩ := hrel.out.ex
    have HM : Hid (wr.rangeLeft m0 (w.heap.size + 1) = cnt) := Lib.hid hrg.left_eq
    clear HS0 hrel
    have HO := Lib.hid (⟨hout, hRd, hTb, hnc, hnx⟩ : _ ∧ _ ∧ _ ∧ _ ∧ _)
    have HG := Lib.hid hrg
    clear hout hRd hTb hnc hnx hrg
    go_wp2_with (first
      | (at_next; refine wpList_next_ranges _ rfl _ rfl 9 lawS codeV (fun s : ByteArray => Value.string s) (fun v : Value => v) (fun key kl h => by obtain ⟨s, h1, _⟩ := keyS_inv h; exact ⟨s, h1⟩) (fun v y h => ⟨v, rfl⟩) m0 (w.heap.size + 1) n0 _ _ _ rfl HG.out ?_ ?_)
      | go_in)
    · intro hc0 hl0
      have HX : Hid (∃ b n D S, (Ending.returned (.map (some w.heap.size)) : Ending) = .returned (.map (some b)) ∧ wr.ownsMap Tryz.prog 9 codeV b n D ∧ Rd D S ∧ (∀ nm d, S nm = some d ↔ ∃ g, S0 g = some d ∧ nm ∈ Lib.fields g) ∧ Below w.heap.size w wr) := Lib.hid
        ⟨w.heap.size, n, D, S, rfl, HO.out.1, HO.out.2.1, fun nm d => by
          rw [HO.out.2.2.1.is nm d]
          exact ⟨fun ⟨g, h1, _, h3⟩ => ⟨g, h1, h3⟩, fun ⟨g, h1, h3⟩ => ⟨g, h1, hl0 _, h3⟩⟩, HO.out.2.2.2.2⟩
      clear hl0 hc0 HO HG
      go_wp2_with fail
      go_ret
      exact HX.out
    · intro s c kl y ps w1 cnt1 hkey hlk hcv hat hrg1 hlt hg1 hs1 hen
      obtain ⟨s', e1', rfl⟩ := keyS_inv hkey
      obtain rfl : s = s' := by injection e1'
      clear e1'
      have hS : S0 s.data.toList = some y := by
        cases hs : S0 s.data.toList with
        | none =>
          have h1 := hat (.lit (.int .i64 0))
          have h2 := hat (.lit (.int .i64 1))
          rw [HR.out.get, hs] at h1 h2
          rw [← h1] at h2
          exact absurd h2 (by intro h; injection h with h; injection h with _ h; cases h)
        | some d => rw [← hat d, HR.out.get, hs]; rfl
      have hb1 : Below w.heap.size w w1 := HO.out.2.2.2.2.grown hg1 HO.out.2.2.2.2.size (fun j hj => by cases hj; exact Nat.le_succ _)
      have hlen : s.size ≤ 1000 := by have := (HOK.out _ _ hS).1; rwa [len_of_size] at this
      have hF := Fields_c s w1 hlen (HOK.out _ _ hS).2 (HT.out w1 hb1)
      obtain ⟨A, hA⟩ : ∃ A, A = w1.heap.size := ⟨_, rfl⟩
      obtain ⟨L, hL⟩ : ∃ L, L = Lib.fields s.data.toList := ⟨_, rfl⟩
      have hLn : L.length ≤ 1000 := by rw [hL]; have := fields_len s.data.toList; rw [len_of_size] at this; omega
      have hAw : w.heap.size < A := by have := HO.out.1.lt; rw [hA, hs1]; exact this
      have hout1 := HO.out.1.kept hg1 (by simp)
      rw [← hL, ← hA] at hF
      have HE := Lib.hid (⟨hkey, hlk, hcv, hat, hlt, hS, hb1⟩ : _ ∧ _ ∧ _ ∧ _ ∧ _ ∧ _ ∧ _)
      have H2 : Hid (TblJ w m0 (w.heap.size + 1) w.heap.size n0 D0 S0 left cnt1 s.data.toList y A n 0 (w1.alloc (.cells (L.map fun l => Value.string ⟨l.toArray⟩).toArray 9))) :=
        Lib.hid ⟨n, D, S, hrg1.alloc _, hout1.alloc _, HO.out.2.1, ⟨fun nm e => by
          rw [HO.out.2.2.1.is nm e]
          exact ⟨fun h => Or.inl h, fun h => by rcases h with h | ⟨h, _⟩; exact h; rw [List.take_zero] at h; cases h⟩⟩, by omega, hb1.alloc hb1.size _, by rw [hA, hL]; exact heap_new _ _⟩
      have HL := Lib.hid hL
      have HA := Lib.hid hA
      have HLn := Lib.hid hLn
      have HSZ := Lib.hid hlen
      clear hkey hlk hcv hat hrg1 hlt hg1 hs1 hS hb1 hout1 hL hA
      go_wp2_with fail
      refine hF.mono ?_
      rintro e w2 ⟨rfl, rfl⟩
      generalize w1.alloc (.cells (L.map fun l => Value.string ⟨l.toArray⟩).toArray 9) = w2 at H2
      go_wp2_with fail
      go_loopw [19] (fun k wr => ∃ j : Nat, k = .int .i64 j ∧ j ≤ L.length ∧ Hid (TblJ w m0 (w.heap.size + 1) w.heap.size n0 D0 S0 left cnt1 s.data.toList y A n j wr)) (fun k _ => L.length - (intOf k).toNat)
      case atStart => exact ⟨0, rfl, Nat.zero_le _, H2⟩
      case round =>
        obtain ⟨j, rfl, hj, HJ⟩ := hrel
        by_cases hjl : j < L.length
        · have hjI : (j : Int) < (L.length : Int) := by omega
          obtain ⟨n1, D1, S1, r1, o1, rd1, tj1, hn1, hx1, hA1⟩ := HJ.out.ex
          have p1 := rowAt hA1 j (.string ⟨(L[j]).toArray⟩) (by simp [← HL.out, hjl])
          have HR1 := Lib.hid (⟨r1, rd1, tj1, hn1, hx1, hA1⟩ : _ ∧ _ ∧ _ ∧ _ ∧ _ ∧ _)
          have HO1 := Lib.hid o1
          clear r1 rd1 tj1 hn1 hx1 hA1 o1
          go_wp2_with (first
            | (at_mapUpdate; refine wpList_mapUpdate_own _ rfl _ _ _ 65 rfl 9 64 lawS Tryz.underlying65 codeV w.heap.size n1 D1 rfl HO1.out ?_ _ _ _ rfl rfl (keyS_mk _ ?_) y ps HE.out.2.2.1 ?_; rotate_left 2; intro w3 hout3 hg3; go_frame)
            | go_in)
          · have hLj : L[j] ∈ Lib.fields s.data.toList := by rw [← HL.out]; exact List.getElem_mem hjl
            have HW : Hid (TblJ w m0 (w.heap.size + 1) w.heap.size n0 D0 S0 left cnt1 s.data.toList y A n (j + 1) w3) := Lib.hid ⟨n1 + 1, _, _, HR1.out.1.kept hg3 (fun e => by have := Option.some.inj e; omega) (fun e => by have := Option.some.inj e; omega), hout3, HR1.out.2.1.put _ _, by
              have := HR1.out.2.2.1.step HAP.out HE.out.2.2.2.2.2.1 HE.out.2.1 hLj
              rw [← HL.out] at this ⊢
              rw [← List.take_append_getElem hjl]
              exact this, by have := HR1.out.2.2.2.1; omega, HR1.out.2.2.2.2.1.grown hg3 HR1.out.2.2.2.2.1.size (fun j hj => by cases hj; exact Nat.le_refl _), by
              rw [hg3.block A (heap_lt HR1.out.2.2.2.2.2) (fun e => by have := Option.some.inj e; omega)]
              exact HR1.out.2.2.2.2.2⟩
            clear hout3 hg3
            go_roundw
            case rel => exact ⟨j + 1, by go_num, by omega, HW⟩
            case measure => simp [intOf]; omega
          · have h1 := HO.out.2.2.2.1
            have h2 := HR1.out.2.2.2.1
            have h3 := HLn.out
            exact Nat.lt_of_lt_of_le (show n1 < 2000000 by omega) (by decide)
          · have h1 := fields_word (s := s.data.toList) (x := L[j]) (by rw [← HL.out]; exact List.getElem_mem hjl)
            rw [len_of_size] at h1
            have h3 := HSZ.out
            exact Nat.le_trans (show (L[j]).length ≤ 1000 by omega) (by decide)
        · have hjI : ¬ (j : Int) < (L.length : Int) := by omega
          obtain ⟨n1, D1, S1, r1, o1, rd1, tj1, hn1, hx1, hA1⟩ := HJ.out.ex
          have HF1 : Hid (TblAt w m0 (w.heap.size + 1) w.heap.size n0 D0 S0 wr) := Lib.hid ⟨_, cnt1, n1, D1, S1, r1, o1, rd1, TabJ.done (by
            rw [List.take_of_length_le (by rw [← HL.out]; omega)] at tj1; exact tj1) HE.out.2.2.2.2.2.1, by
            have := HO.out.2.2.2.1; have := HE.out.2.2.2.2.1; omega, hx1⟩
          have HM1 : wr.rangeLeft m0 (w.heap.size + 1) = cnt1 := r1.left_eq
          clear r1 o1 rd1 tj1 hn1 hx1 hA1
          go_wp2_with fail
          go_roundw
          case rel => exact HF1
          case measure => rw [HM1, HM.out]; exact HE.out.2.2.2.2.1
end Go.Proofs.YtnbdalohlldnbaaGreatDoor

namespace Go.Proofs.YtnbdalohlldnbaaGreatDoor
open Go.RowKit Bd
attribute [local go_sem ↓] Go.wp_at_zero Go.wp_at_succ
/-- What a literal says, the latest entry first. -/
def litS (L : List (List UInt8 × DU)) (nm : List UInt8) : Option DU := (L.find? fun e => e.1 == nm).map (·.2)
theorem litS_cons (k : List UInt8) (d : DU) (L : List (List UInt8 × DU)) : (fun nm => if nm = k then some d else litS L nm) = litS ((k, d) :: L) := by
  funext nm
  unfold litS
  rw [List.find?_cons]
  by_cases h : nm = k
  · subst h; simp
  · rw [if_neg h]
    have : (k == nm) = false := by simp; exact fun e => h e.symm
    simp [this]
/-- A map literal, as far as it is filled, in a map that was made behind w0; blocks beside it that hold. -/
structure Lit9 (w0 : World) (b : Nat) (L : List (List UInt8 × DU)) (K : List (Nat × Obj)) (w : World) : Prop where
  own : ∃ D, w.ownsMap Tryz.prog 9 codeV b L.length D ∧ Rd D (litS L)
  hb : w0.heap.size ≤ b
  x : Below w0.heap.size w0 w
  k : ∀ e ∈ K, e.1 ≠ b ∧ w.heap[e.1]? = some e.2
theorem Lit9.made (w : World) : Lit9 w w.heap.size [] [] (w.alloc (.map #[] 0)) :=
  ⟨⟨_, World.ownsMap_made _ _ _ _, Rd.nil⟩, Nat.le_refl _, (Below.refl _ _).alloc (Nat.le_refl _) _, fun _ h => by cases h⟩
theorem Lit9.lt {w0 : World} {b : Nat} {L : List (List UInt8 × DU)} {K : List (Nat × Obj)} {w : World} (h : Lit9 w0 b L K w) : b < w.heap.size := by
  obtain ⟨D, h1, _⟩ := h.own
  exact h1.lt
theorem Lit9.alloc {w0 : World} {b : Nat} {L : List (List UInt8 × DU)} {K : List (Nat × Obj)} {w : World} (h : Lit9 w0 b L K w) (o : Obj) : Lit9 w0 b L ((w.heap.size, o) :: K) (w.alloc o) := by
  have hlt := h.lt
  obtain ⟨⟨D, h1, h2⟩, h3, h4, h5⟩ := h
  refine ⟨⟨D, h1.alloc _, h2⟩, h3, h4.alloc (by have := h4.size; omega) _, fun e he => ?_⟩
  rcases List.mem_cons.1 he with rfl | he
  · exact ⟨by simp; omega, heap_new _ _⟩
  · refine ⟨(h5 e he).1, ?_⟩
    show (w.heap.push _)[e.1]? = _
    have h6 := (h5 e he).2
    have h7 : e.1 < w.heap.size := by
      rcases Nat.lt_or_ge e.1 w.heap.size with h | h
      · exact h
      · rw [Array.getElem?_eq_none h] at h6; cases h6
    rw [Array.getElem?_push, if_neg (by omega)]
    exact h6
theorem wpList_ins {w : World} {ops : Array Oper} {rest : List Oper} {o : Oper} {a : Act} {Q : Exit → Act → World → Prop} (hg : o.guard = none) (m x v : Operand) (hop : o.op = Op.insert 65 m x v)
    {w0 : World} {b : Nat} {L : List (List UInt8 × DU)} {K : List (Nat × Obj)} (H : Hid (Lit9 w0 b L K w)) (hn : L.length < 1000) (hm : a.eval m = .map (some b)) (s : ByteArray) (val : Value) (d : DU) (hx : a.eval x = .string s) (hv : a.eval v = val) (hs : s.size ≤ 10000) (hval : codeV val = some (d, []))
    (hK : ∀ w', Hid (Lit9 w0 b ((s.data.toList, d) :: L) K w') → wpList Tryz.prog ops Q rest (a.put o.dst undef) w') :
    wpList Tryz.prog ops Q (o :: rest) a w := by
  refine wpList_plain hg fun K' hK' => ?_
  obtain ⟨⟨D, h1, h2⟩, h3, h4, h5⟩ := H.out
  obtain ⟨w', hrun, r1, r2⟩ := h1.update lawS Tryz.underlying65 (Nat.lt_trans hn (by decide)) (keyS_mk s (Nat.le_trans hs (by decide))) hval
  unfold Oper.wp
  simp [execOp, hop, hm, hx, hv, hrun, Result.andThen]
  refine hK' _ _ (hK w' (Lib.hid ⟨⟨_, r1, ?_⟩, h3, h4.grown r2 h4.size (fun j hj => by cases hj; exact h3), fun e he => ⟨(h5 e he).1, ?_⟩⟩))
  · rw [← litS_cons]; exact h2.put _ _
  · have h6 := (h5 e he).2
    have h7 : e.1 < w.heap.size := by
      rcases Nat.lt_or_ge e.1 w.heap.size with h | h
      · exact h
      · rw [Array.getElem?_eq_none h] at h6; cases h6
    rw [r2.block _ h7 (fun e2 => (h5 e he).1 (by injection e2))]
    exact h6
theorem bitem_any (a : Option Addr) (n c : Nat) (w : World) : Calls Tryz.prog 75 #[.slice a n c] w fun e w' => e = .returned (.func (.func 143) #[] #[.pointer (some ⟨w.heap.size, 0, none⟩)]) ∧ w' = w.alloc (.cells #[.slice a n c] 40) := by
  go_enter Tryz.func75, Tryz.ntmps75
  go_wp2_with fail
  go_ret
  exact ⟨rfl, rfl⟩
theorem bendItem_any (v : Int) (w : World) : Calls Tryz.prog 98 #[.int .i64 v] w fun e w' => e = .returned (.func (.func 156) #[] #[.pointer (some ⟨w.heap.size, 0, none⟩)]) ∧ w' = w.alloc (.cells #[.int .i64 v] 3) := by
  go_enter Tryz.func98, Tryz.ntmps98
  go_wp2_with fail
  go_ret
  exact ⟨rfl, rfl⟩
end Go.Proofs.YtnbdalohlldnbaaGreatDoor

namespace Go.Proofs.YtnbdalohlldnbaaGreatDoor
open Go.RowKit Bd
attribute [local go_sem ↓] Go.wp_at_zero Go.wp_at_succ
abbrev startK : List (List UInt8) := [
  [109, 97, 116, 104, 32, 115, 118, 103],
  [114, 98, 32, 114, 116, 99, 32, 114, 112, 32, 114, 116],
  [111, 112, 116, 103, 114, 111, 117, 112, 32, 111, 112, 116, 105, 111, 110],
  [115, 101, 108, 101, 99, 116],
  [120, 109, 112, 32, 105, 102, 114, 97, 109, 101, 32, 110, 111, 101, 109, 98, 101, 100],
  [116, 101, 120, 116, 97, 114, 101, 97],
  [105, 109, 97, 103, 101],
  [104, 114],
  [112, 97, 114, 97, 109, 32, 115, 111, 117, 114, 99, 101, 32, 116, 114, 97, 99, 107],
  [97, 114, 101, 97, 32, 98, 114, 32, 101, 109, 98, 101, 100, 32, 105, 109, 103, 32, 107, 101, 121, 103, 101, 110, 32, 119, 98, 114, 32, 105, 110, 112, 117, 116],
  [116, 97, 98, 108, 101],
  [97, 112, 112, 108, 101, 116, 32, 109, 97, 114, 113, 117, 101, 101, 32, 111, 98, 106, 101, 99, 116],
  [110, 111, 98, 114],
  [98, 32, 98, 105, 103, 32, 99, 111, 100, 101, 32, 101, 109, 32, 102, 111, 110, 116, 32, 105, 32, 115, 32, 115, 109, 97, 108, 108, 32, 115, 116, 114, 105, 107, 101, 32, 115, 116, 114, 111, 110, 103, 32, 116, 116, 32, 117],
  [97],
  [98, 117, 116, 116, 111, 110],
  [112, 108, 97, 105, 110, 116, 101, 120, 116],
  [100, 100, 32, 100, 116],
  [108, 105],
  [102, 111, 114, 109],
  [112, 114, 101, 32, 108, 105, 115, 116, 105, 110, 103],
  [104, 49, 32, 104, 50, 32, 104, 51, 32, 104, 52, 32, 104, 53, 32, 104, 54],
  [102, 111, 111, 116, 101, 114, 32, 104, 101, 97, 100, 101, 114, 32, 104, 103, 114, 111, 117, 112, 32, 109, 97, 105, 110, 32, 109, 101, 110, 117, 32, 110, 97, 118, 32, 111, 108, 32, 112, 32, 115, 101, 97, 114, 99, 104, 32, 115, 101, 99, 116, 105, 111, 110, 32, 115, 117, 109, 109, 97, 114, 121, 32, 117, 108],
  [97, 100, 100, 114, 101, 115, 115, 32, 97, 114, 116, 105, 99, 108, 101, 32, 97, 115, 105, 100, 101, 32, 98, 108, 111, 99, 107, 113, 117, 111, 116, 101, 32, 99, 101, 110, 116, 101, 114, 32, 100, 101, 116, 97, 105, 108, 115, 32, 100, 105, 97, 108, 111, 103, 32, 100, 105, 114, 32, 100, 105, 118, 32, 100, 108, 32, 102, 105, 101, 108, 100, 115, 101, 116, 32, 102, 105, 103, 99, 97, 112, 116, 105, 111, 110, 32, 102, 105, 103, 117, 114, 101],
  [102, 114, 97, 109, 101, 115, 101, 116, 32, 99, 97, 112, 116, 105, 111, 110, 32, 99, 111, 108, 32, 99, 111, 108, 103, 114, 111, 117, 112, 32, 102, 114, 97, 109, 101, 32, 104, 101, 97, 100, 32, 116, 98, 111, 100, 121, 32, 116, 100, 32, 116, 102, 111, 111, 116, 32, 116, 104, 32, 116, 104, 101, 97, 100, 32, 116, 114],
  [98, 111, 100, 121],
  [98, 97, 115, 101, 32, 98, 97, 115, 101, 102, 111, 110, 116, 32, 98, 103, 115, 111, 117, 110, 100, 32, 108, 105, 110, 107, 32, 109, 101, 116, 97, 32, 110, 111, 102, 114, 97, 109, 101, 115, 32, 115, 99, 114, 105, 112, 116, 32, 115, 116, 121, 108, 101, 32, 116, 101, 109, 112, 108, 97, 116, 101, 32, 116, 105, 116, 108, 101],
  [104, 116, 109, 108]]
abbrev startL (x y : Nat) : List (List UInt8 × DU) := [
  ([109, 97, 116, 104, 32, 115, 118, 103], .lit (.int .i64 (92 : Nat))),
  ([114, 98, 32, 114, 116, 99, 32, 114, 112, 32, 114, 116], .lit (.int .i64 (91 : Nat))),
  ([111, 112, 116, 103, 114, 111, 117, 112, 32, 111, 112, 116, 105, 111, 110], .lit (.int .i64 (90 : Nat))),
  ([115, 101, 108, 101, 99, 116], .lit (.int .i64 (89 : Nat))),
  ([120, 109, 112, 32, 105, 102, 114, 97, 109, 101, 32, 110, 111, 101, 109, 98, 101, 100], .lit (.int .i64 (88 : Nat))),
  ([116, 101, 120, 116, 97, 114, 101, 97], .lit (.int .i64 (87 : Nat))),
  ([105, 109, 97, 103, 101], .lit (.int .i64 (86 : Nat))),
  ([104, 114], .lit (.int .i64 (85 : Nat))),
  ([112, 97, 114, 97, 109, 32, 115, 111, 117, 114, 99, 101, 32, 116, 114, 97, 99, 107], .lit (.int .i64 (84 : Nat))),
  ([97, 114, 101, 97, 32, 98, 114, 32, 101, 109, 98, 101, 100, 32, 105, 109, 103, 32, 107, 101, 121, 103, 101, 110, 32, 119, 98, 114, 32, 105, 110, 112, 117, 116], .lit (.int .i64 (83 : Nat))),
  ([116, 97, 98, 108, 101], .lit (.int .i64 (82 : Nat))),
  ([97, 112, 112, 108, 101, 116, 32, 109, 97, 114, 113, 117, 101, 101, 32, 111, 98, 106, 101, 99, 116], .lit (.int .i64 (81 : Nat))),
  ([110, 111, 98, 114], .lit (.int .i64 (80 : Nat))),
  ([98, 32, 98, 105, 103, 32, 99, 111, 100, 101, 32, 101, 109, 32, 102, 111, 110, 116, 32, 105, 32, 115, 32, 115, 109, 97, 108, 108, 32, 115, 116, 114, 105, 107, 101, 32, 115, 116, 114, 111, 110, 103, 32, 116, 116, 32, 117], .lit (.int .i64 (79 : Nat))),
  ([97], .lit (.int .i64 (78 : Nat))),
  ([98, 117, 116, 116, 111, 110], .lit (.int .i64 (77 : Nat))),
  ([112, 108, 97, 105, 110, 116, 101, 120, 116], .lit (.int .i64 (76 : Nat))),
  ([100, 100, 32, 100, 116], .agg [.lit (.int .i64 (143 : Nat)), .lit (.int .i64 (y : Nat))]),
  ([108, 105], .agg [.lit (.int .i64 (143 : Nat)), .lit (.int .i64 (x : Nat))]),
  ([102, 111, 114, 109], .lit (.int .i64 (74 : Nat))),
  ([112, 114, 101, 32, 108, 105, 115, 116, 105, 110, 103], .lit (.int .i64 (73 : Nat))),
  ([104, 49, 32, 104, 50, 32, 104, 51, 32, 104, 52, 32, 104, 53, 32, 104, 54], .lit (.int .i64 (72 : Nat))),
  ([102, 111, 111, 116, 101, 114, 32, 104, 101, 97, 100, 101, 114, 32, 104, 103, 114, 111, 117, 112, 32, 109, 97, 105, 110, 32, 109, 101, 110, 117, 32, 110, 97, 118, 32, 111, 108, 32, 112, 32, 115, 101, 97, 114, 99, 104, 32, 115, 101, 99, 116, 105, 111, 110, 32, 115, 117, 109, 109, 97, 114, 121, 32, 117, 108], .lit (.int .i64 (71 : Nat))),
  ([97, 100, 100, 114, 101, 115, 115, 32, 97, 114, 116, 105, 99, 108, 101, 32, 97, 115, 105, 100, 101, 32, 98, 108, 111, 99, 107, 113, 117, 111, 116, 101, 32, 99, 101, 110, 116, 101, 114, 32, 100, 101, 116, 97, 105, 108, 115, 32, 100, 105, 97, 108, 111, 103, 32, 100, 105, 114, 32, 100, 105, 118, 32, 100, 108, 32, 102, 105, 101, 108, 100, 115, 101, 116, 32, 102, 105, 103, 99, 97, 112, 116, 105, 111, 110, 32, 102, 105, 103, 117, 114, 101], .lit (.int .i64 (71 : Nat))),
  ([102, 114, 97, 109, 101, 115, 101, 116, 32, 99, 97, 112, 116, 105, 111, 110, 32, 99, 111, 108, 32, 99, 111, 108, 103, 114, 111, 117, 112, 32, 102, 114, 97, 109, 101, 32, 104, 101, 97, 100, 32, 116, 98, 111, 100, 121, 32, 116, 100, 32, 116, 102, 111, 111, 116, 32, 116, 104, 32, 116, 104, 101, 97, 100, 32, 116, 114], .lit (.int .i64 (70 : Nat))),
  ([98, 111, 100, 121], .lit (.int .i64 (69 : Nat))),
  ([98, 97, 115, 101, 32, 98, 97, 115, 101, 102, 111, 110, 116, 32, 98, 103, 115, 111, 117, 110, 100, 32, 108, 105, 110, 107, 32, 109, 101, 116, 97, 32, 110, 111, 102, 114, 97, 109, 101, 115, 32, 115, 99, 114, 105, 112, 116, 32, 115, 116, 121, 108, 101, 32, 116, 101, 109, 112, 108, 97, 116, 101, 32, 116, 105, 116, 108, 101], .lit (.int .i64 (68 : Nat))),
  ([104, 116, 109, 108], .lit (.int .i64 (66 : Nat)))]
abbrev endK : List (List UInt8) := [
  [98, 114],
  [97, 112, 112, 108, 101, 116, 32, 109, 97, 114, 113, 117, 101, 101, 32, 111, 98, 106, 101, 99, 116],
  [97, 32, 98, 32, 98, 105, 103, 32, 99, 111, 100, 101, 32, 101, 109, 32, 102, 111, 110, 116, 32, 105, 32, 110, 111, 98, 114, 32, 115, 32, 115, 109, 97, 108, 108, 32, 115, 116, 114, 105, 107, 101, 32, 115, 116, 114, 111, 110, 103, 32, 116, 116, 32, 117],
  [104, 49, 32, 104, 50, 32, 104, 51, 32, 104, 52, 32, 104, 53, 32, 104, 54],
  [100, 100, 32, 100, 116],
  [108, 105],
  [112],
  [102, 111, 114, 109],
  [102, 111, 111, 116, 101, 114, 32, 104, 101, 97, 100, 101, 114, 32, 104, 103, 114, 111, 117, 112, 32, 108, 105, 115, 116, 105, 110, 103, 32, 109, 97, 105, 110, 32, 109, 101, 110, 117, 32, 110, 97, 118, 32, 111, 108, 32, 112, 114, 101, 32, 115, 101, 97, 114, 99, 104, 32, 115, 101, 99, 116, 105, 111, 110, 32, 115, 101, 108, 101, 99, 116, 32, 115, 117, 109, 109, 97, 114, 121, 32, 117, 108],
  [97, 100, 100, 114, 101, 115, 115, 32, 97, 114, 116, 105, 99, 108, 101, 32, 97, 115, 105, 100, 101, 32, 98, 108, 111, 99, 107, 113, 117, 111, 116, 101, 32, 98, 117, 116, 116, 111, 110, 32, 99, 101, 110, 116, 101, 114, 32, 100, 101, 116, 97, 105, 108, 115, 32, 100, 105, 97, 108, 111, 103, 32, 100, 105, 114, 32, 100, 105, 118, 32, 100, 108, 32, 102, 105, 101, 108, 100, 115, 101, 116, 32, 102, 105, 103, 99, 97, 112, 116, 105, 111, 110, 32, 102, 105, 103, 117, 114, 101],
  [98, 111, 100, 121, 32, 104, 116, 109, 108],
  [116, 101, 109, 112, 108, 97, 116, 101]]
abbrev endL (x y : Nat) : List (List UInt8 × DU) := [
  ([98, 114], .lit (.int .i64 (102 : Nat))),
  ([97, 112, 112, 108, 101, 116, 32, 109, 97, 114, 113, 117, 101, 101, 32, 111, 98, 106, 101, 99, 116], .lit (.int .i64 (101 : Nat))),
  ([97, 32, 98, 32, 98, 105, 103, 32, 99, 111, 100, 101, 32, 101, 109, 32, 102, 111, 110, 116, 32, 105, 32, 110, 111, 98, 114, 32, 115, 32, 115, 109, 97, 108, 108, 32, 115, 116, 114, 105, 107, 101, 32, 115, 116, 114, 111, 110, 103, 32, 116, 116, 32, 117], .lit (.int .i64 (100 : Nat))),
  ([104, 49, 32, 104, 50, 32, 104, 51, 32, 104, 52, 32, 104, 53, 32, 104, 54], .lit (.int .i64 (99 : Nat))),
  ([100, 100, 32, 100, 116], .agg [.lit (.int .i64 (156 : Nat)), .lit (.int .i64 (y : Nat))]),
  ([108, 105], .agg [.lit (.int .i64 (156 : Nat)), .lit (.int .i64 (x : Nat))]),
  ([112], .lit (.int .i64 (97 : Nat))),
  ([102, 111, 114, 109], .lit (.int .i64 (96 : Nat))),
  ([102, 111, 111, 116, 101, 114, 32, 104, 101, 97, 100, 101, 114, 32, 104, 103, 114, 111, 117, 112, 32, 108, 105, 115, 116, 105, 110, 103, 32, 109, 97, 105, 110, 32, 109, 101, 110, 117, 32, 110, 97, 118, 32, 111, 108, 32, 112, 114, 101, 32, 115, 101, 97, 114, 99, 104, 32, 115, 101, 99, 116, 105, 111, 110, 32, 115, 101, 108, 101, 99, 116, 32, 115, 117, 109, 109, 97, 114, 121, 32, 117, 108], .lit (.int .i64 (95 : Nat))),
  ([97, 100, 100, 114, 101, 115, 115, 32, 97, 114, 116, 105, 99, 108, 101, 32, 97, 115, 105, 100, 101, 32, 98, 108, 111, 99, 107, 113, 117, 111, 116, 101, 32, 98, 117, 116, 116, 111, 110, 32, 99, 101, 110, 116, 101, 114, 32, 100, 101, 116, 97, 105, 108, 115, 32, 100, 105, 97, 108, 111, 103, 32, 100, 105, 114, 32, 100, 105, 118, 32, 100, 108, 32, 102, 105, 101, 108, 100, 115, 101, 116, 32, 102, 105, 103, 99, 97, 112, 116, 105, 111, 110, 32, 102, 105, 103, 117, 114, 101], .lit (.int .i64 (95 : Nat))),
  ([98, 111, 100, 121, 32, 104, 116, 109, 108], .lit (.int .i64 (94 : Nat))),
  ([116, 101, 109, 112, 108, 97, 116, 101], .lit (.int .i64 (68 : Nat)))]

theorem litS_mem {L : List (List UInt8 × DU)} {g : List UInt8} {d : DU} (h : litS L g = some d) : g ∈ L.map (·.1) := by
  unfold litS at h
  cases hf : L.find? (fun e => e.1 == g) with
  | none => rw [hf] at h; cases h
  | some e =>
    have h1 := List.mem_of_find?_eq_some hf
    have h2 := List.find?_some hf
    exact List.mem_map.2 ⟨e, h1, eq_of_beq h2⟩
theorem start_ok : ∀ g ∈ startK, g.length ≤ 1000 ∧ ∀ b ∈ g, b.toNat < 128 := by decide +kernel
theorem end_ok : ∀ g ∈ endK, g.length ≤ 1000 ∧ ∀ b ∈ g, b.toNat < 128 := by decide +kernel
theorem start_ap : ∀ g1 ∈ startK, ∀ g2 ∈ startK, ∀ nm ∈ Lib.fields g1, nm ∈ Lib.fields g2 → g1 = g2 := by decide +kernel
theorem end_ap : ∀ g1 ∈ endK, ∀ g2 ∈ endK, ∀ nm ∈ Lib.fields g1, nm ∈ Lib.fields g2 → g1 = g2 := by decide +kernel
/-- What a table says. -/
structure TabOf (L : List (List UInt8 × DU)) (S : List UInt8 → Option DU) : Prop where
  is : ∀ nm d, S nm = some d ↔ ∃ g, litS L g = some d ∧ nm ∈ Lib.fields g
theorem TabOf.some {L : List (List UInt8 × DU)} {S : List UInt8 → Option DU} (h : TabOf L S) {g nm : List UInt8} {d : DU} (hg : litS L g = some d) (hn : nm ∈ Lib.fields g) : S nm = some d := (h.is nm d).2 ⟨g, hg, hn⟩
theorem TabOf.none {L : List (List UInt8 × DU)} {S : List UInt8 → Option DU} (h : TabOf L S) {nm : List UInt8} (hn : ∀ g ∈ L.map (·.1), nm ∉ Lib.fields g) : S nm = none := by
  cases hs : S nm with
  | none => rfl
  | some d =>
    obtain ⟨g, h1, h2⟩ := (h.is nm d).1 hs
    exact absurd h2 (hn g (litS_mem h1))
/-- What starts answers: a map that says L; x and y the closures' blocks. -/
def PStart (w : World) (e : Ending) (w' : World) : Prop :=
  ∃ b n D S x y nx ny, e = .returned (.map (some b)) ∧ w'.ownsMap Tryz.prog 9 codeV b n D ∧ Rd D S ∧ TabOf (startL x y) S ∧ Below w.heap.size w w' ∧
    (w'.cell? ⟨x, 0, none⟩ = some nx ∧ NmAt w' nx [⟨#[108, 105]⟩]) ∧ w'.cell? ⟨y, 0, none⟩ = some ny ∧ NmAt w' ny [⟨#[100, 100]⟩, ⟨#[100, 116]⟩]
def PEnd (w : World) (e : Ending) (w' : World) : Prop :=
  ∃ b n D S x y, e = .returned (.map (some b)) ∧ w'.ownsMap Tryz.prog 9 codeV b n D ∧ Rd D S ∧ TabOf (endL x y) S ∧ Below w.heap.size w w' ∧
    w'.cell? ⟨x, 0, none⟩ = some (.int .i64 1) ∧ w'.cell? ⟨y, 0, none⟩ = some (.int .i64 0)
theorem tab_below {w w' : World} (hT : Lib.TabIs Tryz.prog w "strings.asciiSpace" .u8 Lib.asciiSpaceTab) (h : Below w.heap.size w w') : Lib.TabIs Tryz.prog w' "strings.asciiSpace" .u8 Lib.asciiSpaceTab := by
  have hlt : (1 : Nat) < w.heap.size := by
    unfold Lib.TabIs World.var? at hT
    have hg : (Tryz.prog).globalNamed "strings.asciiSpace" = some 1 := by kernel_rfl
    rw [hg] at hT
    simp only [Option.bind_some] at hT
    rcases Nat.lt_or_ge (1 : Nat) w.heap.size with h | h
    · exact h
    · rw [Array.getElem?_eq_none h] at hT; cases hT
  exact tab_keep hT (h.block _ hlt)
theorem tbl_end {w w0 : World} {L : List (List UInt8 × DU)} {K : List (Nat × Obj)} (hT : Lib.TabIs Tryz.prog w "strings.asciiSpace" .u8 Lib.asciiSpaceTab) (H : Lit9 w w.heap.size L K w0) (hl : L.length ≤ 100)
    (hok : ∀ g ∈ L.map (·.1), g.length ≤ 1000 ∧ ∀ b ∈ g, b.toNat < 128) (hap : ∀ g1 ∈ L.map (·.1), ∀ g2 ∈ L.map (·.1), ∀ nm ∈ Lib.fields g1, nm ∈ Lib.fields g2 → g1 = g2) :
    Calls Tryz.prog 65 #[.map (some w.heap.size)] w0 fun e w' => ∃ b n D S, e = .returned (.map (some b)) ∧ w'.ownsMap Tryz.prog 9 codeV b n D ∧ Rd D S ∧ TabOf L S ∧ Below w.heap.size w w' ∧ Below w0.heap.size w0 w' := by
  obtain ⟨D0, h1, h2⟩ := H.own
  refine (table_any h1 h2 hl (fun g d h => hok g (litS_mem h)) (fun g1 g2 e1 e2 nm h1 h2 => hap g1 (litS_mem h1) g2 (litS_mem h2) nm) (tab_below hT H.x)).mono ?_
  rintro e w' ⟨b, n, D, S, h1, h2, h3, h4, h5⟩
  exact ⟨b, n, D, S, h1, h2, h3, ⟨h4⟩, below_call H.x h5, h5⟩
theorem starts_end {w w0 : World} {a c : Nat} (hT : Lib.TabIs Tryz.prog w "strings.asciiSpace" .u8 Lib.asciiSpaceTab)
    (H : Lit9 w w.heap.size (startL (a + 1) (c + 1)) [(c + 1, .cells #[.slice (some ⟨c, 0, none⟩) 2 2] 40 (0, 0)), (c, .cells #[.string ⟨#[100, 100]⟩, .string ⟨#[100, 116]⟩] 9 (0, 0)), (a + 1, .cells #[.slice (some ⟨a, 0, none⟩) 1 1] 40 (0, 0)), (a, .cells #[.string ⟨#[108, 105]⟩] 9 (0, 0))] w0) :
    Calls Tryz.prog 65 #[.map (some w.heap.size)] w0 (PStart w) := by
  refine (tbl_end hT H (by show (28 : Nat) ≤ 100; decide) start_ok start_ap).mono ?_
  rintro e w' ⟨b, n, D, S, h1, h2, h3, h4, h5, h6⟩
  have k1 := (H.k _ (List.mem_cons_self ..)).2
  have k2 := (H.k _ (List.mem_cons_of_mem _ (List.mem_cons_self ..))).2
  have k3 := (H.k _ (List.mem_cons_of_mem _ (List.mem_cons_of_mem _ (List.mem_cons_self ..)))).2
  have k4 := (H.k _ (List.mem_cons_of_mem _ (List.mem_cons_of_mem _ (List.mem_cons_of_mem _ (List.mem_cons_self ..))))).2
  have q1 := (h6.block _ (heap_lt k1)).trans k1
  have q2 := (h6.block _ (heap_lt k2)).trans k2
  have q3 := (h6.block _ (heap_lt k3)).trans k3
  have q4 := (h6.block _ (heap_lt k4)).trans k4
  refine ⟨b, n, D, S, a + 1, c + 1, _, _, h1, h2, h3, h4, h5, ⟨rowAt q3 0 (.slice (some ⟨a, 0, none⟩) 1 1) rfl, Or.inr ⟨a, 0, 1, 1, rfl, rfl, Nat.le_refl _, by decide, fun j hj => ?_⟩⟩, rowAt q1 0 (.slice (some ⟨c, 0, none⟩) 2 2) rfl, Or.inr ⟨c, 0, 2, 2, rfl, rfl, Nat.le_refl _, by decide, fun j hj => ?_⟩⟩
  · obtain rfl : j = 0 := by simpa using hj
    exact rowAt q4 0 (.string ⟨#[108, 105]⟩) rfl
  · have hj' : j < 2 := hj
    rcases (by omega : j = 0 ∨ j = 1) with rfl | rfl
    · exact rowAt q2 0 (.string ⟨#[100, 100]⟩) rfl
    · exact rowAt q2 1 (.string ⟨#[100, 116]⟩) rfl
theorem ends_end {w w0 : World} {a c : Nat} (hT : Lib.TabIs Tryz.prog w "strings.asciiSpace" .u8 Lib.asciiSpaceTab)
    (H : Lit9 w w.heap.size (endL a c) [(c, .cells #[.int .i64 0] 3 (0, 0)), (a, .cells #[.int .i64 1] 3 (0, 0))] w0) :
    Calls Tryz.prog 65 #[.map (some w.heap.size)] w0 (PEnd w) := by
  refine (tbl_end hT H (by show (12 : Nat) ≤ 100; decide) end_ok end_ap).mono ?_
  rintro e w' ⟨b, n, D, S, h1, h2, h3, h4, h5, h6⟩
  have k1 := (H.k _ (List.mem_cons_self ..)).2
  have k2 := (H.k _ (List.mem_cons_of_mem _ (List.mem_cons_self ..))).2
  have q1 := (h6.block _ (heap_lt k1)).trans k1
  have q2 := (h6.block _ (heap_lt k2)).trans k2
  exact ⟨b, n, D, S, a, c, h1, h2, h3, h4, h5, rowAt q2 0 (.int .i64 1) rfl, rowAt q1 0 (.int .i64 0) rfl⟩
theorem codeV_mk (n b : Nat) : codeV (.func (.func n) #[] #[.pointer (some ⟨b, 0, none⟩)]) = some (.agg [.lit (.int .i64 (n : Int)), .lit (.int .i64 (b : Int))], []) := by
  simp [codeV]
theorem Lit9.alloc2 {w0 : World} {b : Nat} {L : List (List UInt8 × DU)} {K : List (Nat × Obj)} {w : World} (h : Lit9 w0 b L K w) (o o2 : Obj) : Lit9 w0 b L ((w.heap.size + 1, o2) :: (w.heap.size, o) :: K) ((w.alloc o).alloc o2) := by
  have := (h.alloc o).alloc o2
  rwa [show (w.alloc o).heap.size = w.heap.size + 1 by simp] at this
end Go.Proofs.YtnbdalohlldnbaaGreatDoor

namespace Go.Proofs.YtnbdalohlldnbaaGreatDoor
open Go.RowKit Bd
attribute [local go_sem ↓] Go.wp_at_zero Go.wp_at_succ
set_option maxHeartbeats 4000000 in
set_option maxRecDepth 100000 in
theorem starts_any {w : World} (hT : Lib.TabIs Tryz.prog w "strings.asciiSpace" .u8 Lib.asciiSpaceTab) : Calls Tryz.prog 29 #[] w (PStart w) := by
  have hmm := @run_makeMap Tryz.prog
  have H0 : Hid (Lit9 w w.heap.size [] [] (w.alloc (.map #[] 0))) := Lib.hid (Lit9.made w)
  have HT := Lib.hid hT
  clear hT
  go_enter Tryz.func29, Tryz.ntmps29
  go_wp2_with (first
    | (refine wpList_ins rfl _ _ _ rfl H0 (by simp) rfl _ _ _ rfl rfl (by decide) rfl ?_; clear H0; intro w0 H0; go_frame)
    | (refine wpList_ins rfl _ _ _ rfl (Lib.hid (H0.out.alloc2 _ _)) (by simp) rfl _ _ _ rfl rfl (by decide) (codeV_mk _ _) ?_; clear H0; intro w0 H0; go_frame)
    | (go_at_call 65; refine (starts_end HT.out H0.out).mono ?_; rintro e w1 h1; obtain ⟨b, n, D, S, x, y, nx, ny, rfl, h1⟩ := h1; have HH : Hid (PStart w (.returned (.map (some b))) w1) := Lib.hid ⟨b, n, D, S, x, y, nx, ny, rfl, h1⟩; clear h1 H0)
    | go_in)
  go_ret
  exact HH.out
set_option maxHeartbeats 4000000 in
set_option maxRecDepth 100000 in
theorem ends_any {w : World} (hT : Lib.TabIs Tryz.prog w "strings.asciiSpace" .u8 Lib.asciiSpaceTab) : Calls Tryz.prog 31 #[] w (PEnd w) := by
  have hmm := @run_makeMap Tryz.prog
  have H0 : Hid (Lit9 w w.heap.size [] [] (w.alloc (.map #[] 0))) := Lib.hid (Lit9.made w)
  have HT := Lib.hid hT
  clear hT
  go_enter Tryz.func31, Tryz.ntmps31
  go_wp2_with (first
    | (refine wpList_ins rfl _ _ _ rfl H0 (by simp) rfl _ _ _ rfl rfl (by decide) rfl ?_; clear H0; intro w0 H0; go_frame)
    | (refine wpList_ins rfl _ _ _ rfl (Lib.hid (H0.out.alloc _)) (by simp) rfl _ _ _ rfl rfl (by decide) (codeV_mk _ _) ?_; clear H0; intro w0 H0; go_frame)
    | (go_at_call 65; refine (ends_end HT.out H0.out).mono ?_; rintro e w1 h1; obtain ⟨b, n, D, S, x, y, rfl, h1⟩ := h1; have HH : Hid (PEnd w (.returned (.map (some b))) w1) := Lib.hid ⟨b, n, D, S, x, y, rfl, h1⟩; clear h1 H0)
    | go_in)
  go_ret
  exact HH.out
end Go.Proofs.YtnbdalohlldnbaaGreatDoor
