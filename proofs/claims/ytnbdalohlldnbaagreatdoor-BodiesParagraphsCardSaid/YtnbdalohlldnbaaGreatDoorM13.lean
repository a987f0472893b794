/-
  Package adopt: once.
  Package adopt: Run.
  Package bodies: rules of one or two acts.
  Package bodies: shut, link, item's rule.
-/
import Derived.Test.YtnbdalohlldnbaaGreatDoorM12
namespace Go.Proofs.YtnbdalohlldnbaaGreatDoor
open Go.RowKit Bd
attribute [local go_sem ↓] Go.wp_at_zero Go.wp_at_succ
theorem lastN_mem {a : Ar} {l : Fo} {nm : Ba} (h : 0 ≤ lastN a l nm) : lastN a l nm ∈ l := by
  rw [lastN_eq] at h ⊢
  by_cases h0 : lastF l (openF l) (isNm a nm) < 0
  · rw [if_pos h0] at h; omega
  · rw [if_neg h0]
    have h1 := (lastF_lt l (openF l) (isNm a nm)).1
    rw [List.getD_eq_getElem?_getD, List.getElem?_eq_getElem (by omega)]
    exact List.getElem_mem _
theorem furF_at {b : BS} {k : Nat} (h : 0 ≤ furF b k) : ∃ (j : Nat) (o : OpenL), k ≤ j ∧ b.st[j]? = some o ∧ o.node = furF b k := by
  unfold furF at h ⊢
  cases hf : (b.st.drop k).find? (fun o => special (node b.ar o.node).space (node b.ar o.node).name) with
  | none => rw [hf] at h; exact absurd h (by decide)
  | some o =>
    obtain ⟨i, hi⟩ := List.getElem?_of_mem (List.mem_of_find?_eq_some hf)
    rw [List.getElem?_drop] at hi
    exact ⟨k + i, o, by omega, hi, rfl⟩
theorem und_of {b : BS} {fm : Int} {k : Nat} (hk : indexS b.st fm = (k : Int)) (hb : 0 ≤ furthest b (k : Int)) : Und b.st fm (indexS b.st (furthest b (k : Int))) := by
  rw [furthest_eq] at hb ⊢
  obtain ⟨j, o, h1, h2, h3⟩ := furF_at hb
  obtain ⟨x, hx, hp⟩ := lastIdx_is _ b.st k hk
  refine ⟨k, x, ?_, hx, beq_iff_eq.1 hp⟩
  have := lastIdx_at (fun y : OpenL => y.node == furF b (k + 1)) b.st j o h2 (by simp [h3])
  show (k : Int) < lastIdx _ b.st
  omega
theorem once_eq (b : BS) (nm : Ba) (fm : Int) (h : lastN b.ar b.fo nm = fm) : once b nm =
    if fm < 0 then (b, false, false)
    else if indexS b.st fm < 0 then ({ b with fo := (removeF b.fo fm).1 }, false, true)
    else if hasN b.st 0 fm = false then (b, false, true)
    else if furthest b (indexS b.st fm) < 0 then ({ b with st := b.st.take (indexS b.st fm).toNat, fo := (removeF b.fo fm).1 }, false, true)
    else (renew (putB (inward (furthest b (indexS b.st fm)) fm 600 b 1 (indexS b.st (furthest b (indexS b.st fm))) (furthest b (indexS b.st fm)) (indexF b.fo fm)).1 (inward (furthest b (indexS b.st fm)) fm 600 b 1 (indexS b.st (furthest b (indexS b.st fm))) (furthest b (indexS b.st fm)) (indexF b.fo fm)).2.1 (atS b.st (indexS b.st fm - 1))) (furthest b (indexS b.st fm)) fm (inward (furthest b (indexS b.st fm)) fm 600 b 1 (indexS b.st (furthest b (indexS b.st fm))) (furthest b (indexS b.st fm)) (indexF b.fo fm)).2.2, true, true) := by
  unfold once
  rw [h]
  dsimp only
  split
  · rfl
  · split
    · rfl
    · cases hasN b.st 0 fm <;> simp
set_option maxHeartbeats 2000000 in
set_option maxRecDepth 100000 in
theorem once_any {n : Nat} {own : Nat → Nat} {w : World} {bp ap sp lp : Nat} {b : BS} (nm : Ba) (hn : n + 4 ≤ 90000) (H : BX n own w bp ap sp lp b) :
    Calls Tryz.prog 193 #[.pointer (some ⟨bp, 0, none⟩), .string nm] w (RX (n + 4) own bp ap sp lp (.tuple #[.bool (once b nm).2.1, .bool (once b nm).2.2]) (once b nm).1 w) := by
  have cS := Lib.hid (xStack H)
  have cF := Lib.hid (xFormats H)
  have cL := Lib.hid (xFLast nm H)
  have HH := Lib.hid H
  obtain ⟨R, hR⟩ : ∃ R, R = once b nm := ⟨_, rfl⟩
  rw [← hR]
  have hmem : 0 ≤ lastN b.ar b.fo nm → lastN b.ar b.fo nm ∈ b.fo := lastN_mem
  obtain ⟨fm, hfm⟩ : ∃ fm, lastN b.ar b.fo nm = fm := ⟨_, rfl⟩
  rw [once_eq b nm fm hfm] at hR
  rw [hfm] at cL hmem
  have HMEM := Lib.hid hmem
  clear hfm H hmem
  by_cases h0 : fm < 0
  · rw [if_pos h0] at hR
    have HQ := Lib.hid hR
    clear hR
    go_enter Tryz.func193, Tryz.ntmps193
    go_wp2_with fail
    refine cS.out.mono ?_
    rintro e w1 ⟨rfl, rfl⟩
    go_wp2_with fail
    refine cF.out.mono ?_
    rintro e w1 ⟨rfl, rfl⟩
    go_wp2_with fail
    refine cL.out.mono ?_
    rintro e w2 ⟨rfl, hb2⟩
    have HX := Lib.hid (⟨HH.out.below hb2, HH.out.fr hb2⟩ : _ ∧ _)
    clear hb2 cS cF cL
    go_wp2_with fail
    go_ret2
    rw [HQ.out]
    exact ⟨rfl, own, HX.out.1.mono (by omega) hn, HX.out.2⟩
  rw [if_neg h0] at hR
  have hfo : 0 ≤ indexF b.fo fm := indexF_mem.2 ⟨by omega, HMEM.out (by omega)⟩
  have HFO := Lib.hid hfo
  clear hfo
  have cI : Hid (∀ V, Below w.heap.size w V → Calls Tryz.prog 115 #[.pointer (some ⟨sp, 0, none⟩), .int .i64 fm] V (RI (indexS b.st fm) V)) := Lib.hid (fun V hV => xSIndex fm (HH.out.below hV))
  by_cases h1 : indexS b.st fm < 0
  · rw [if_pos h1] at hR
    have HQ := Lib.hid hR
    generalize indexS b.st fm = k at *
    clear hR
    go_enter Tryz.func193, Tryz.ntmps193
    go_wp2_with fail
    refine cS.out.mono ?_
    rintro e w1 ⟨rfl, rfl⟩
    go_wp2_with fail
    refine cF.out.mono ?_
    rintro e w1 ⟨rfl, rfl⟩
    go_wp2_with fail
    refine cL.out.mono ?_
    rintro e w2 ⟨rfl, hb2⟩
    have cI2 := Lib.hid (cI.out _ hb2)
    have cR := Lib.hid (xFRemove fm (HH.out.below hb2))
    have HF2 := Lib.hid (HH.out.fr hb2)
    clear hb2 cS cF cL cI
    go_wp2_with fail
    refine cI2.out.mono ?_
    rintro e w3 ⟨rfl, rfl⟩
    go_wp2_with fail
    refine cR.out.mono ?_
    rintro e w4 ⟨rfl, own4, H4, F4⟩
    have HX := Lib.hid (⟨H4, HF2.out.trans F4⟩ : _ ∧ _)
    clear cR cI2 H4 F4
    go_wp2_with fail
    go_ret2
    rw [HQ.out]
    exact ⟨rfl, own4, HX.out.1.mono (by omega) hn, HX.out.2⟩
  rw [if_neg h1] at hR
  obtain ⟨k, hk⟩ : ∃ k : Nat, indexS b.st fm = (k : Int) := ⟨(indexS b.st fm).toNat, by omega⟩
  have hkl : k < b.st.length := by have : indexS b.st fm < (b.st.length : Int) := lastIdx_lt _ _; omega
  have hund := fun hb => und_of (b := b) hk hb
  have hinS : 0 ≤ indexS b.st fm := by omega
  rw [hk] at cI hR
  have HKL := Lib.hid hkl
  have HUND := Lib.hid hund
  have hk5 : k ≤ 512 := by have := HH.out.G.st.1; omega
  have cHN : Hid (∀ V, Below w.heap.size w V → Calls Tryz.prog 155 #[.pointer (some ⟨sp, 0, none⟩), .int .i64 0, .int .i64 fm] V fun e w' => e = .returned (.bool (hasN b.st 0 fm)) ∧ Below V.heap.size V w') := Lib.hid (fun V hV => xHasNode 0 fm (HH.out.below hV))
  clear hkl hund hinS h1 hk
  cases h2 : hasN b.st 0 fm with
  | false =>
    rw [h2] at hR cHN
    have HQ := Lib.hid hR
    clear hR h2
    go_enter Tryz.func193, Tryz.ntmps193
    go_wp2_with fail
    refine cS.out.mono ?_
    rintro e w1 ⟨rfl, rfl⟩
    go_wp2_with fail
    refine cF.out.mono ?_
    rintro e w1 ⟨rfl, rfl⟩
    go_wp2_with fail
    refine cL.out.mono ?_
    rintro e w2 ⟨rfl, hb2⟩
    have cI2 := Lib.hid (cI.out _ hb2)
    have cH2 := Lib.hid (cHN.out _ hb2)
    have HB2 := Lib.hid hb2
    clear hb2 cS cF cL cI cHN
    go_wp2_with fail
    refine cI2.out.mono ?_
    rintro e w3 ⟨rfl, rfl⟩
    go_wp2_with fail
    refine cH2.out.mono ?_
    rintro e w4 ⟨rfl, hb4⟩
    have HX := Lib.hid (⟨HH.out.below (HB2.out.trans (hb4.mono HB2.out.size)), HH.out.fr (HB2.out.trans (hb4.mono HB2.out.size))⟩ : _ ∧ _)
    clear hb4 cI2 cH2
    go_wp2_with fail
    go_ret2
    rw [HQ.out]
    exact ⟨rfl, own, HX.out.1.mono (by omega) hn, HX.out.2⟩
  | true =>
    rw [h2, if_neg (by decide)] at hR
    rw [h2] at cHN
    have cFu : Hid (∀ V, Below w.heap.size w V → Calls Tryz.prog 210 #[.pointer (some ⟨bp, 0, none⟩), .int .i64 (k : Int)] V fun e w' => e = .returned (.int .i64 (furthest b (k : Int))) ∧ Below V.heap.size V w') := Lib.hid (fun V hV => afur_any k HKL.out (HH.out.below hV))
    clear h2
    have HSTK : Hid (0 ≤ indexS b.st fm → True) := Lib.hid (fun _ => trivial)
    generalize hbl : furthest b (k : Int) = bl at *
    by_cases h3 : bl < 0
    · rw [if_pos h3] at hR
      have HQ : Hid (R = ({ b with st := b.st.take k, fo := (removeF b.fo fm).1 }, false, true)) := hR
      clear hR hbl
      go_enter Tryz.func193, Tryz.ntmps193
      go_wp2_with fail
      refine cS.out.mono ?_
      rintro e w1 ⟨rfl, rfl⟩
      go_wp2_with fail
      refine cF.out.mono ?_
      rintro e w1 ⟨rfl, rfl⟩
      go_wp2_with fail
      refine cL.out.mono ?_
      rintro e w2 ⟨rfl, hb2⟩
      have cI2 := Lib.hid (cI.out _ hb2)
      have cH2 := Lib.hid (cHN.out _ hb2)
      have HB2 := Lib.hid hb2
      clear hb2 cS cF cL cI cHN
      go_wp2_with fail
      refine cI2.out.mono ?_
      rintro e w3 ⟨rfl, rfl⟩
      go_wp2_with fail
      refine cH2.out.mono ?_
      rintro e w4 ⟨rfl, hb4⟩
      have hb24 := HB2.out.trans (hb4.mono HB2.out.size)
      have cFu2 := Lib.hid (cFu.out _ hb24)
      have HB4 := Lib.hid hb24
      clear hb4 hb24 cI2 cH2 cFu
      go_wp2_with fail
      refine cFu2.out.mono ?_
      rintro e w5 ⟨rfl, hb5⟩
      have hb25 := HB4.out.trans (hb5.mono HB4.out.size)
      have cP := Lib.hid (apop_any k (HH.out.below hb25))
      have HF5 := Lib.hid (HH.out.fr hb25)
      clear hb5 hb25 cFu2
      go_wp2_with fail
      refine cP.out.mono ?_
      rintro e w6 ⟨rfl, own6, H6, F6⟩
      have cR := Lib.hid (xFRemove fm H6)
      have HF6 := Lib.hid (HF5.out.trans F6)
      clear H6 F6 cP
      go_wp2_with fail
      refine cR.out.mono ?_
      rintro e w7 ⟨rfl, own7, H7, F7⟩
      have HX := Lib.hid (⟨H7, HF6.out.trans F7⟩ : _ ∧ _)
      clear cR H7 F7
      go_wp2_with fail
      go_ret2
      rw [HQ.out]
      exact ⟨rfl, own7, HX.out.1.mono (by omega) hn, HX.out.2⟩
    · rw [if_neg h3] at hR
      have hU := HUND.out (by omega)
      have hIn := inward_keeps bl fm 600 b 1 (indexS b.st bl) bl (indexF b.fo fm) (HMEM.out (by omega)) hU (by have : indexS b.st bl < (b.st.length : Int) := lastIdx_lt _ _; omega)
      have hmk0 : -1 ≤ indexF b.fo fm ∧ indexF b.fo fm ≤ 100 := by
        have h5 := HFO.out
        have h6 := HH.out.G.fo
        refine ⟨by omega, ?_⟩
        unfold indexF
        split
        · omega
        · have := (lastF_lt b.fo 0 (fun x => x == fm)).1; omega
      have hmk := inward_mk bl fm 600 b 1 (indexS b.st bl) bl (indexF b.fo fm) HH.out.G.fo (by omega) (by omega) hmk0.2
      have hgi := Okb.inward (bl := bl) (fm := fm) 600 1 (indexS b.st bl) bl (indexF b.fo fm) HH.out.G (by omega)
      have cIn : Hid (∀ V own' rp ab, BX n own' V bp ap sp lp b → V.heap[rp]? = some (.cells (rrow bp fm bl ab (indexF b.fo fm)) 176 (0, 0)) → own' rp = 0 → Calls Tryz.prog 211 #[.pointer (some ⟨rp, 0, none⟩)] V (RInw n own' bp ap sp lp rp fm bl ab (inward bl fm 600 b 1 (indexS b.st bl) bl (indexF b.fo fm)) V)) := Lib.hid (fun V own' rp ab h1 h2 h3 => inward_any h2 h3 h1 (by omega) hU hmk0)
      have cAb : Hid (∀ V, Below w.heap.size w V → Calls Tryz.prog 49 #[.pointer (some ⟨sp, 0, none⟩), .int .i64 ((k : Int) - 1)] V (RI (atS b.st ((k : Int) - 1)) V)) := Lib.hid (fun V hV => xSAt ((k : Int) - 1) (HH.out.below hV))
      have cFI : Hid (∀ V, Below w.heap.size w V → Calls Tryz.prog 187 #[.pointer (some ⟨lp, 0, none⟩), .int .i64 fm] V fun e w' => e = .returned (.int .i64 (indexF b.fo fm)) ∧ Below V.heap.size V w') := Lib.hid (fun V hV => xFIndex fm (HH.out.below hV))
      generalize inward bl fm 600 b 1 (indexS b.st bl) bl (indexF b.fo fm) = RI0 at *
      obtain ⟨b5, last, mk5⟩ := RI0
      dsimp only at hR hIn hmk cIn
      generalize atS b.st ((k : Int) - 1) = ab at *
      generalize indexF b.fo fm = mk0 at *
      have HQ := Lib.hid hR
      have HIN := Lib.hid hIn
      have HMK := Lib.hid hmk
      clear hR hbl hU hIn hmk0 hmk hgi HUND HFO
      go_enter Tryz.func193, Tryz.ntmps193
      go_wp2_with fail
      refine cS.out.mono ?_
      rintro e w1 ⟨rfl, rfl⟩
      go_wp2_with fail
      refine cF.out.mono ?_
      rintro e w1 ⟨rfl, rfl⟩
      go_wp2_with fail
      refine cL.out.mono ?_
      rintro e w2 ⟨rfl, hb2⟩
      have cI2 := Lib.hid (cI.out _ hb2)
      have cH2 := Lib.hid (cHN.out _ hb2)
      have HB2 := Lib.hid hb2
      clear hb2 cS cF cL cI cHN
      go_wp2_with fail
      refine cI2.out.mono ?_
      rintro e w3 ⟨rfl, rfl⟩
      go_wp2_with fail
      refine cH2.out.mono ?_
      rintro e w4 ⟨rfl, hb4⟩
      have hb24 := HB2.out.trans (hb4.mono HB2.out.size)
      have cFu2 := Lib.hid (cFu.out _ hb24)
      have HB4 := Lib.hid hb24
      clear hb4 hb24 cI2 cH2 cFu
      go_wp2_with fail
      refine cFu2.out.mono ?_
      rintro e w5 ⟨rfl, hb5⟩
      have hb25 := HB4.out.trans (hb5.mono HB4.out.size)
      have cAb5 := Lib.hid (cAb.out _ hb25)
      have cFI5 := Lib.hid (cFI.out _ hb25)
      have HB5 := Lib.hid hb25
      clear hb5 hb25 cFu2 cAb cFI
      go_wp2_with fail
      refine cAb5.out.mono ?_
      rintro e w6 ⟨rfl, rfl⟩
      go_wp2_with fail
      refine cFI5.out.mono ?_
      rintro e w7 ⟨rfl, hb7⟩
      obtain ⟨W8, hW8⟩ : ∃ W, W = w7.alloc (.cells (rrow bp fm bl ab mk0) 176) := ⟨_, rfl⟩
      have hb8 : Below w7.heap.size w7 W8 := by rw [hW8]; exact (Below.refl _ _).alloc (Nat.le_refl _) _
      have hr : W8.heap[w7.heap.size]? = some (.cells (rrow bp fm bl ab mk0) 176 (0, 0)) := by rw [hW8]; exact heap_new _ _
      have hb27 := HB5.out.trans (hb7.mono HB5.out.size)
      have hb28 := hb27.trans (hb8.mono hb27.size)
      have hsz : w.heap.size ≤ w7.heap.size := hb27.size
      have ho : own w7.heap.size = 0 := HH.out.L _ hsz
      have hH := HH.out.below hb28
      have hF := HH.out.fr hb28
      have HW8 := Lib.hid hW8
      obtain ⟨rp, hrp⟩ : ∃ rp, rp = w7.heap.size := ⟨_, rfl⟩
      rw [← hrp] at hr ho hsz
      have HRP := Lib.hid hrp
      have HSZ := Lib.hid hsz
      clear hb7 hb8 hb27 hb28 hW8 hrp cAb5 cFI5 hsz
      go_upto_region 17 with fail
      rw [← HW8.out, ← HRP.out]
      have hd := (Below.refl W8.heap.size W8).drew
      replace hF := hF.trans (hH.fr hd)
      replace hH := hH.below hd
      replace hr := (hd.block _ (row_lt hr)).trans hr
      clear hd
      refine wp_region_held_drew (S := fun U => U.cell? ⟨rp, 3, none⟩ = some (.int .i64 ab)) (by kernel_rfl) ((row_cells hr).2.2.2.1) (fun hHeld => ?_)
      generalize W8.drew = V at hHeld hH hr hF ⊢
      refine TkH 0 56 ?_; refine TkH 1 57 ?_; refine TkH 3 59 ?_; refine TkH 4 60 ?_; refine TkH 5 61 ?_
      (try simp only [Act.put]); (try simp only [List.setIfInBounds_toArray]); (try simp only [List.set_cons_zero, List.set_cons_succ])
      refine TkD 6 (some 62) (v := ?_) rfl rfl ?_ ?_; rotate_left
      · (intro W hSw; (try dsimp only at hSw); have c3' := hSw; go_simp; try with_reducible rfl)
      (try simp only [Act.put]); (try simp only [List.setIfInBounds_toArray]); (try simp only [List.set_cons_zero, List.set_cons_succ])
      refine wpAnyH_ready (rs := [2]) (by kernel_rfl) (by simp) ?_
      refine AllReadyH.cons rfl (fun K hK => ?_) AllReadyH.nil
      go_simp
      go_at_call 211
      refine (cIn.out V own rp ab hH hr ho).mono ?_
      rintro e V9 ⟨rfl, own9, H9, hr9, ho9, F9⟩
      have hS9 := (row_cells hr9).2.2.2.1
      have hF9 := FrX.fr hF F9 HSZ.out
      clear hHeld hH F9 hr hF ho
      refine hK.out _ _ hS9 (fun hHeld => ?_)
      clear hK K hS9
      dsimp only at H9 hr9 ⊢
      clear V
      obtain ⟨V, rfl⟩ : ∃ U, U = V9 := ⟨_, rfl⟩
      (try simp only [Act.put]); (try simp only [List.setIfInBounds_toArray]); (try simp only [List.set_cons_zero, List.set_cons_succ])
      refine wpAnyH_ready (rs := [7]) (by kernel_rfl) (by simp) ?_
      refine AllReadyH.cons rfl (fun K hK => ?_) AllReadyH.nil
      go_simp
      go_at_call 60
      refine (xPut last ab H9).mono ?_
      rintro e V9 ⟨rfl, own10, H10, F10⟩
      have hr10 := F10.keep hr9 (by rw [ho9]; rfl)
      have ho10 := (F10.old rp (row_lt hr9)).trans ho9
      have hF10 := hF9.trans F10
      have hS9 := (row_cells hr10).2.2.2.1
      have hfos := H9.G.fos
      clear hHeld F10 hr9 ho9 hF9 H9
      refine hK.out _ _ hS9 (fun hHeld => ?_)
      clear hK K hS9
      clear V
      obtain ⟨V, rfl⟩ : ∃ U, U = V9 := ⟨_, rfl⟩
      (try simp only [Act.put]); (try simp only [List.setIfInBounds_toArray]); (try simp only [List.set_cons_zero, List.set_cons_succ])
      refine wpAnyH_done (by kernel_rfl) ?_ _
      have hpn := putN b5 last ab hfos
      have hfo2 : 0 ≤ indexF (putB b5 last ab).fo fm := by
        rw [hpn]; exact indexF_mem.2 ⟨by omega, HIN.out.1⟩
      have hst2 : 0 ≤ indexS (putB b5 last ab).st fm := by
        rw [hpn]; exact indexS_mem.2 HIN.out.2
      have cRn := Lib.hid (renew_any hr10 ho10 H10 (by omega) hfo2 hst2 (by have := HMK.out; omega))
      have HF10 := Lib.hid hF10
      clear hHeld hr10 ho10 H10 hF10 hpn hfo2 hst2
      go_wp2_with fail
      refine cRn.out.mono ?_
      rintro e w11 ⟨rfl, own11, H11, F11⟩
      have HX := Lib.hid (⟨H11, FrX.fr HF10.out F11 HSZ.out⟩ : _ ∧ _)
      clear cRn H11 F11
      go_wp2_with fail
      go_ret2
      rw [HQ.out]
      exact ⟨rfl, own11, HX.out.1, HX.out.2⟩

end Go.Proofs.YtnbdalohlldnbaaGreatDoor

namespace Go.Proofs.YtnbdalohlldnbaaGreatDoor
open Go.RowKit Bd
attribute [local go_sem ↓] Go.wp_at_zero Go.wp_at_succ
/-- Where Run's loop stands. -/
structure RunAt (n : Nat) (own : Nat → Nat) (w : World) (bp ap sp lp : Nat) (nm : Ba) (R : BS × Bool) (c : Nat) (wr : World) : Prop where
  ex : ∃ bk ownk, runF (8 - c) bk nm = R ∧ BX (n + 4 * c) ownk wr bp ap sp lp bk ∧ Fr cBu own ownk w wr
set_option maxHeartbeats 1000000 in
set_option maxRecDepth 100000 in
theorem Run_any {n : Nat} {own : Nat → Nat} {w : World} {bp ap sp lp : Nat} {b : BS} (nm : Ba) (hn : n + 32 ≤ 90000) (H : BX n own w bp ap sp lp b) :
    Calls Tryz.prog 157 #[.pointer (some ⟨bp, 0, none⟩), .string nm] w (RX (n + 32) own bp ap sp lp (.bool (run b nm).2) (run b nm).1 w) := by
  have cA := Lib.hid (xArena H)
  have hb1 : Below w.heap.size w (w.alloc (.cells #[.string nm] 9)) := (Below.refl _ w).alloc (Nat.le_refl _) _
  have H1 := H.below hb1
  have cIs := Lib.hid (xIs H1 (NmAt.one w nm))
  have HF1 := Lib.hid (H.fr hb1)
  have HH1 := Lib.hid H1
  obtain ⟨R, hR⟩ : ∃ R, R = run b nm := ⟨_, rfl⟩
  rw [← hR]
  unfold run at hR
  obtain ⟨q1, hq1⟩ : ∃ q, isB b [nm] = q := ⟨_, rfl⟩
  rw [hq1] at hR cIs
  have HR := Lib.hid hR
  clear hb1 H1 H hR hq1
  have hloop : Hid (∀ W own', BX n own' W bp ap sp lp b → Fr cBu own own' w W → R = runF 8 b nm → RunAt n own w bp ap sp lp nm R 0 W) := Lib.hid (fun W own' h1 h2 h3 => ⟨b, own', h3.symm, h1, h2⟩)
  cases q1 with
  | true =>
    go_enter Tryz.func157, Tryz.ntmps157
    go_wp2_with fail
    refine cA.out.mono ?_
    rintro e w2 ⟨rfl, rfl⟩
    go_wp2_with fail
    refine cIs.out.mono ?_
    rintro e w3 ⟨rfl, hb3⟩
    have H3 := HH1.out.below hb3
    have HF3 := Lib.hid (HF1.out.trans (HH1.out.fr hb3))
    have HH3 := Lib.hid H3
    clear cA cIs hb3 HH1 HF1 H3
    go_wp2_with fail
    refine (xFormats HH3.out).mono ?_
    rintro e w4 ⟨rfl, rfl⟩
    go_wp2_with fail
    refine (xStack HH3.out).mono ?_
    rintro e w4 ⟨rfl, rfl⟩
    go_wp2_with fail
    refine (xSTop HH3.out).mono ?_
    rintro e w4 ⟨rfl, rfl⟩
    have cI := Lib.hid (xFIndex (topS b.st) HH3.out)
    generalize topS b.st = tp at *
    go_wp2_with fail
    refine cI.out.mono ?_
    rintro e w5 ⟨rfl, hb5⟩
    have H5 := HH3.out.below hb5
    have HF5 := Lib.hid (HF3.out.trans (HH3.out.fr hb5))
    generalize indexF b.fo tp = ix at *
    clear cI hb5 HH3 HF3
    by_cases h0 : ix < 0
    · have HQ : Hid (R = ({ b with st := popS b.st }, true)) := by show _ = _; rw [HR.out, decide_eq_true h0]; rfl
      have HH5 := Lib.hid H5
      clear HR H5 hloop
      go_wp2_with fail
      refine (xStack HH5.out).mono ?_
      rintro e w6 ⟨rfl, rfl⟩
      have cP := Lib.hid (xSPop HH5.out)
      go_wp2_with fail
      refine cP.out.mono ?_
      rintro e w7 ⟨rfl, own7, H7, F7⟩
      have HX := Lib.hid (⟨H7, HF5.out.trans F7⟩ : _ ∧ _)
      clear cP H7 F7
      go_wp2_with fail
      go_ret
      rw [HQ.out]
      exact ⟨rfl, own7, HX.out.1.mono (by omega) hn, HX.out.2⟩
    · have HQ : R = runF 8 b nm := by rw [HR.out, decide_eq_false h0]; rfl
      have HS := Lib.hid (hloop.out _ _ H5 HF5.out HQ)
      clear HR H5 HQ hloop HF5
      go_wp2_with fail
      go_loopw [26] (fun y wr => ∃ c : Nat, y = .int .i64 (c : Int) ∧ c ≤ 8 ∧ Hid (RunAt n own w bp ap sp lp nm R c wr)) (fun y _ => 8 - (intOf y).toNat)
      case atStart => exact ⟨0, rfl, by omega, HS⟩
      case round =>
      obtain ⟨c, rfl, hc, hat⟩ := hrel
      clear HS
      obtain ⟨bk, ownk, hrun, HX, HF⟩ := hat.out.ex
      have HXh := Lib.hid HX
      have HFh := Lib.hid HF
      clear hat HX HF
      by_cases h8 : c = 8
      · subst h8
        have HQ : Hid (R = (bk, true)) := Lib.hid (by rw [← hrun]; rfl)
        clear hrun
        go_wp2_with fail
        go_ret
        rw [HQ.out]
        exact ⟨rfl, ownk, HXh.out.mono (by omega) hn, HFh.out⟩
      · have hlt : (c : Int) < 8 := by omega
        rw [show 8 - c = (8 - (c + 1)) + 1 by omega] at hrun
        unfold runF at hrun
        dsimp only at hrun
        have cO := Lib.hid (once_any nm (show n + 4 * c + 4 ≤ 90000 by omega) HXh.out)
        generalize once bk nm = ro at *
        obtain ⟨b1, more, done⟩ := ro
        dsimp only at hrun cO
        have HRU := Lib.hid hrun
        have HC : Hid (c + 1 ≤ 8) := Lib.hid (by omega)
        clear hrun HXh
        go_wp2_with fail
        refine cO.out.mono ?_
        rintro e w9 ⟨rfl, own9, H9, F9⟩
        have HX := Lib.hid (⟨H9, HFh.out.trans F9⟩ : _ ∧ _)
        clear cO H9 F9
        cases done with
        | false =>
          have HQ : Hid (R = (b1, false)) := Lib.hid HRU.out.symm
          clear HRU
          go_wp2_with fail
          go_ret
          rw [HQ.out]
          exact ⟨rfl, own9, HX.out.1.mono (by omega) hn, HX.out.2⟩
        | true =>
          cases more with
          | false =>
            have HQ : Hid (R = (b1, true)) := Lib.hid HRU.out.symm
            clear HRU
            go_wp2_with fail
            go_ret
            rw [HQ.out]
            exact ⟨rfl, own9, HX.out.1.mono (by omega) hn, HX.out.2⟩
          | true =>
            have HN : Hid (RunAt n own w bp ap sp lp nm R (c + 1) w9) := Lib.hid ⟨b1, own9, HRU.out, by rw [show n + 4 * (c + 1) = n + 4 * c + 4 by omega]; exact HX.out.1, HX.out.2⟩
            clear HRU HX
            go_wp2_with fail
            go_roundw
            case rel => exact ⟨c + 1, by simp, HC.out, HN⟩
            case measure => have := HC.out; simp [intOf]; omega

  | false =>
    go_enter Tryz.func157, Tryz.ntmps157
    go_wp2_with fail
    refine cA.out.mono ?_
    rintro e w2 ⟨rfl, rfl⟩
    go_wp2_with fail
    refine cIs.out.mono ?_
    rintro e w3 ⟨rfl, hb3⟩
    have HS := Lib.hid (hloop.out _ _ (HH1.out.below hb3) (HF1.out.trans (HH1.out.fr hb3)) HR.out)
    clear cA cIs hb3 HH1 HF1 HR hloop
    go_wp2_with fail
    go_loopw [26] (fun y wr => ∃ c : Nat, y = .int .i64 (c : Int) ∧ c ≤ 8 ∧ Hid (RunAt n own w bp ap sp lp nm R c wr)) (fun y _ => 8 - (intOf y).toNat)
    case atStart => exact ⟨0, rfl, by omega, HS⟩
    case round =>
    obtain ⟨c, rfl, hc, hat⟩ := hrel
    clear HS
    obtain ⟨bk, ownk, hrun, HX, HF⟩ := hat.out.ex
    have HXh := Lib.hid HX
    have HFh := Lib.hid HF
    clear hat HX HF
    by_cases h8 : c = 8
    · subst h8
      have HQ : Hid (R = (bk, true)) := Lib.hid (by rw [← hrun]; rfl)
      clear hrun
      go_wp2_with fail
      go_ret
      rw [HQ.out]
      exact ⟨rfl, ownk, HXh.out.mono (by omega) hn, HFh.out⟩
    · have hlt : (c : Int) < 8 := by omega
      rw [show 8 - c = (8 - (c + 1)) + 1 by omega] at hrun
      unfold runF at hrun
      dsimp only at hrun
      have cO := Lib.hid (once_any nm (show n + 4 * c + 4 ≤ 90000 by omega) HXh.out)
      generalize once bk nm = ro at *
      obtain ⟨b1, more, done⟩ := ro
      dsimp only at hrun cO
      have HRU := Lib.hid hrun
      have HC : Hid (c + 1 ≤ 8) := Lib.hid (by omega)
      clear hrun HXh
      go_wp2_with fail
      refine cO.out.mono ?_
      rintro e w9 ⟨rfl, own9, H9, F9⟩
      have HX := Lib.hid (⟨H9, HFh.out.trans F9⟩ : _ ∧ _)
      clear cO H9 F9
      cases done with
      | false =>
        have HQ : Hid (R = (b1, false)) := Lib.hid HRU.out.symm
        clear HRU
        go_wp2_with fail
        go_ret
        rw [HQ.out]
        exact ⟨rfl, own9, HX.out.1.mono (by omega) hn, HX.out.2⟩
      | true =>
        cases more with
        | false =>
          have HQ : Hid (R = (b1, true)) := Lib.hid HRU.out.symm
          clear HRU
          go_wp2_with fail
          go_ret
          rw [HQ.out]
          exact ⟨rfl, own9, HX.out.1.mono (by omega) hn, HX.out.2⟩
        | true =>
          have HN : Hid (RunAt n own w bp ap sp lp nm R (c + 1) w9) := Lib.hid ⟨b1, own9, HRU.out, by rw [show n + 4 * (c + 1) = n + 4 * c + 4 by omega]; exact HX.out.1, HX.out.2⟩
          clear HRU HX
          go_wp2_with fail
          go_roundw
          case rel => exact ⟨c + 1, by simp, HC.out, HN⟩
          case measure => have := HC.out; simp [intOf]; omega

end Go.Proofs.YtnbdalohlldnbaaGreatDoor

namespace Go.Proofs.YtnbdalohlldnbaaGreatDoor
open Go.RowKit Bd
attribute [local go_sem ↓] Go.wp_at_zero Go.wp_at_succ
section
variable {n : Nat} {own : Nat → Nat} {w : World} {bp ap sp lp : Nat} {b : BS}
set_option maxHeartbeats 1000000 in
set_option maxRecDepth 100000 in
theorem ropen_any (t : TokL) (ht : TokOk t) (hn : n + 1 ≤ 90000) (H : BX n own w bp ap sp lp b) : Calls Tryz.prog 93 #[.pointer (some ⟨bp, 0, none⟩), tokV t] w (RX (n + 1) own bp ap sp lp (.tuple #[]) (openE b t) w) := by
  obtain ⟨W1, hW1⟩ : ∃ W, W = w.alloc (.cells (tokR t) 24) := ⟨_, rfl⟩
  have hb1 : Below w.heap.size w W1 := by rw [hW1]; exact (Below.refl _ w).alloc (Nat.le_refl _) _
  have hr : W1.heap[w.heap.size]? = some (.cells (tokR t) 24 (0, 0)) := by rw [hW1]; exact heap_new _ _
  have hH := H.below hb1
  have hF := H.fr hb1
  have ho : own w.heap.size = 0 := H.L _ (Nat.le_refl _)
  have HW1 := Lib.hid hW1
  obtain ⟨bx, hbx⟩ : ∃ x, x = w.heap.size := ⟨_, rfl⟩
  rw [← hbx] at hr ho
  have HBX := Lib.hid hbx
  clear hb1 hW1 H hbx
  go_enter Tryz.func93, Tryz.ntmps93
  go_upto_region 1 with fail
  rw [← HW1.out, ← HBX.out]
  have Hr := Lib.hid hr
  have cC := Lib.hid (Insert_any t 0 ht hn hH)
  have HP := Lib.hid (⟨ho, hF⟩ : _ ∧ _)
  clear hH hr ho hF
  go_wp2_with (refine wpList_load_row rfl 24 (.tmp 3) rfl bx rfl 24 _ (0, 0) _ Hr.out Tryz.underlying24 rfl tokSize ?_)
  refine cC.out.mono ?_
  rintro e w2 ⟨rfl, own2, H2, F⟩
  have hF := HP.out.2.trans F
  clear cC F HP Hr
  have HX := Lib.hid (⟨H2, hF⟩ : _ ∧ _)
  clear H2 hF
  go_wp2_with fail
  go_end0
  exact ⟨rfl, own2, HX.out.1, HX.out.2⟩
set_option maxHeartbeats 1000000 in
set_option maxRecDepth 100000 in
theorem rblock_any (t : TokL) (ht : TokOk t) (hn : n + 1 ≤ 90000) (H : BX n own w bp ap sp lp b) : Calls Tryz.prog 71 #[.pointer (some ⟨bp, 0, none⟩), tokV t] w (RX (n + 1) own bp ap sp lp (.tuple #[]) (Bd.block b t) w) := by
  obtain ⟨W1, hW1⟩ : ∃ W, W = w.alloc (.cells (tokR t) 24) := ⟨_, rfl⟩
  have hb1 : Below w.heap.size w W1 := by rw [hW1]; exact (Below.refl _ w).alloc (Nat.le_refl _) _
  have hr : W1.heap[w.heap.size]? = some (.cells (tokR t) 24 (0, 0)) := by rw [hW1]; exact heap_new _ _
  have hH := H.below hb1
  have hF := H.fr hb1
  have ho : own w.heap.size = 0 := H.L _ (Nat.le_refl _)
  have HW1 := Lib.hid hW1
  obtain ⟨bx, hbx⟩ : ∃ x, x = w.heap.size := ⟨_, rfl⟩
  rw [← hbx] at hr ho
  have HBX := Lib.hid hbx
  clear hb1 hW1 H hbx
  go_enter Tryz.func71, Tryz.ntmps71
  go_upto_region 1 with fail
  rw [← HW1.out, ← HBX.out]
  have Hr := Lib.hid hr
  have cC := Lib.hid (CloseP_any hH)
  have HP := Lib.hid (⟨ho, hF⟩ : _ ∧ _)
  clear hH hr ho hF
  go_wp2_with fail
  refine cC.out.mono ?_
  rintro e w2 ⟨rfl, own2, H2, F⟩
  have hF := HP.out.2.trans F
  have hr := F.keep Hr.out (by rw [HP.out.1]; rfl)
  have ho := (F.old bx (row_lt Hr.out)).trans HP.out.1
  clear cC F HP Hr
  have Hr := Lib.hid hr
  have cC := Lib.hid (ropen_any t ht hn H2)
  have HP := Lib.hid (⟨ho, hF⟩ : _ ∧ _)
  clear H2 hr ho hF
  go_wp2_with (refine wpList_load_row rfl 24 (.tmp 3) rfl bx rfl 24 _ (0, 0) _ Hr.out Tryz.underlying24 rfl tokSize ?_)
  refine cC.out.mono ?_
  rintro e w3 ⟨rfl, own3, H3, F⟩
  have hF := HP.out.2.trans F
  clear cC F HP Hr
  have HX := Lib.hid (⟨H3, hF⟩ : _ ∧ _)
  clear H3 hF
  go_wp2_with fail
  go_end0
  exact ⟨rfl, own3, HX.out.1, HX.out.2⟩
set_option maxHeartbeats 1000000 in
set_option maxRecDepth 100000 in
theorem rplain_any (t : TokL) (ht : TokOk t) (hn : n + 65 ≤ 90000) (H : BX n own w bp ap sp lp b) : Calls Tryz.prog 30 #[.pointer (some ⟨bp, 0, none⟩), tokV t] w (RX (n + 65) own bp ap sp lp (.tuple #[]) (Bd.plain b t) w) := by
  obtain ⟨W1, hW1⟩ : ∃ W, W = w.alloc (.cells (tokR t) 24) := ⟨_, rfl⟩
  have hb1 : Below w.heap.size w W1 := by rw [hW1]; exact (Below.refl _ w).alloc (Nat.le_refl _) _
  have hr : W1.heap[w.heap.size]? = some (.cells (tokR t) 24 (0, 0)) := by rw [hW1]; exact heap_new _ _
  have hH := H.below hb1
  have hF := H.fr hb1
  have ho : own w.heap.size = 0 := H.L _ (Nat.le_refl _)
  have HW1 := Lib.hid hW1
  obtain ⟨bx, hbx⟩ : ∃ x, x = w.heap.size := ⟨_, rfl⟩
  rw [← hbx] at hr ho
  have HBX := Lib.hid hbx
  clear hb1 hW1 H hbx
  go_enter Tryz.func30, Tryz.ntmps30
  go_upto_region 1 with fail
  rw [← HW1.out, ← HBX.out]
  have Hr := Lib.hid hr
  have cC := Lib.hid (Rebuild_any (by omega) hH)
  have HP := Lib.hid (⟨ho, hF⟩ : _ ∧ _)
  clear hH hr ho hF
  go_wp2_with fail
  refine cC.out.mono ?_
  rintro e w2 ⟨rfl, own2, H2, F⟩
  have hF := HP.out.2.trans F
  have hr := F.keep Hr.out (by rw [HP.out.1]; rfl)
  have ho := (F.old bx (row_lt Hr.out)).trans HP.out.1
  clear cC F HP Hr
  have Hr := Lib.hid hr
  have cC := Lib.hid (ropen_any t ht (by omega) H2)
  have HP := Lib.hid (⟨ho, hF⟩ : _ ∧ _)
  clear H2 hr ho hF
  go_wp2_with (refine wpList_load_row rfl 24 (.tmp 3) rfl bx rfl 24 _ (0, 0) _ Hr.out Tryz.underlying24 rfl tokSize ?_)
  refine cC.out.mono ?_
  rintro e w3 ⟨rfl, own3, H3, F⟩
  have hF := HP.out.2.trans F
  clear cC F HP Hr
  have HX := Lib.hid (⟨H3, hF⟩ : _ ∧ _)
  clear H3 hF
  go_wp2_with fail
  go_end0
  exact ⟨rfl, own3, HX.out.1, HX.out.2⟩
set_option maxHeartbeats 1000000 in
set_option maxRecDepth 100000 in
theorem rsingle_any (t : TokL) (ht : TokOk t) (hn : n + 65 ≤ 90000) (H : BX n own w bp ap sp lp b) : Calls Tryz.prog 83 #[.pointer (some ⟨bp, 0, none⟩), tokV t] w (RX (n + 65) own bp ap sp lp (.tuple #[]) (Bd.single b t) w) := by
  obtain ⟨W1, hW1⟩ : ∃ W, W = w.alloc (.cells (tokR t) 24) := ⟨_, rfl⟩
  have hb1 : Below w.heap.size w W1 := by rw [hW1]; exact (Below.refl _ w).alloc (Nat.le_refl _) _
  have hr : W1.heap[w.heap.size]? = some (.cells (tokR t) 24 (0, 0)) := by rw [hW1]; exact heap_new _ _
  have hH := H.below hb1
  have hF := H.fr hb1
  have ho : own w.heap.size = 0 := H.L _ (Nat.le_refl _)
  have HW1 := Lib.hid hW1
  obtain ⟨bx, hbx⟩ : ∃ x, x = w.heap.size := ⟨_, rfl⟩
  rw [← hbx] at hr ho
  have HBX := Lib.hid hbx
  clear hb1 hW1 H hbx
  go_enter Tryz.func83, Tryz.ntmps83
  go_upto_region 1 with fail
  rw [← HW1.out, ← HBX.out]
  have Hr := Lib.hid hr
  have cC := Lib.hid (Rebuild_any (by omega) hH)
  have HP := Lib.hid (⟨ho, hF⟩ : _ ∧ _)
  clear hH hr ho hF
  go_wp2_with fail
  refine cC.out.mono ?_
  rintro e w2 ⟨rfl, own2, H2, F⟩
  have hF := HP.out.2.trans F
  have hr := F.keep Hr.out (by rw [HP.out.1]; rfl)
  have ho := (F.old bx (row_lt Hr.out)).trans HP.out.1
  clear cC F HP Hr
  have Hr := Lib.hid hr
  have cC := Lib.hid (Only_any t ht (by omega) H2)
  have HP := Lib.hid (⟨ho, hF⟩ : _ ∧ _)
  clear H2 hr ho hF
  go_wp2_with (refine wpList_load_row rfl 24 (.tmp 3) rfl bx rfl 24 _ (0, 0) _ Hr.out Tryz.underlying24 rfl tokSize ?_)
  refine cC.out.mono ?_
  rintro e w3 ⟨rfl, own3, H3, F⟩
  have hF := HP.out.2.trans F
  clear cC F HP Hr
  have HX := Lib.hid (⟨H3, hF⟩ : _ ∧ _)
  clear H3 hF
  go_wp2_with fail
  go_end0
  exact ⟨rfl, own3, HX.out.1, HX.out.2⟩
set_option maxHeartbeats 1000000 in
set_option maxRecDepth 100000 in
theorem rformat_any (t : TokL) (ht : TokOk t) (hn : n + 65 ≤ 90000) (H : BX n own w bp ap sp lp b) : Calls Tryz.prog 79 #[.pointer (some ⟨bp, 0, none⟩), tokV t] w (RX (n + 65) own bp ap sp lp (.tuple #[]) (Bd.format b t) w) := by
  obtain ⟨W1, hW1⟩ : ∃ W, W = w.alloc (.cells (tokR t) 24) := ⟨_, rfl⟩
  have hb1 : Below w.heap.size w W1 := by rw [hW1]; exact (Below.refl _ w).alloc (Nat.le_refl _) _
  have hr : W1.heap[w.heap.size]? = some (.cells (tokR t) 24 (0, 0)) := by rw [hW1]; exact heap_new _ _
  have hH := H.below hb1
  have hF := H.fr hb1
  have ho : own w.heap.size = 0 := H.L _ (Nat.le_refl _)
  have HW1 := Lib.hid hW1
  obtain ⟨bx, hbx⟩ : ∃ x, x = w.heap.size := ⟨_, rfl⟩
  rw [← hbx] at hr ho
  have HBX := Lib.hid hbx
  clear hb1 hW1 H hbx
  obtain ⟨R, hR⟩ : ∃ R, R = Bd.format b t := ⟨_, rfl⟩
  rw [← hR]
  unfold Bd.format at hR
  have HR0 := Lib.hid hR
  clear hR
  go_enter Tryz.func79, Tryz.ntmps79
  go_upto_region 1 with fail
  rw [← HW1.out, ← HBX.out]
  have Hr := Lib.hid hr
  have cC := Lib.hid (Rebuild_any (by omega) hH)
  have HP := Lib.hid (⟨ho, hF⟩ : _ ∧ _)
  clear hH hr ho hF
  go_wp2_with fail
  refine cC.out.mono ?_
  rintro e w2 ⟨rfl, own2, H2, F⟩
  have hF := HP.out.2.trans F
  have hr := F.keep Hr.out (by rw [HP.out.1]; rfl)
  have ho := (F.old bx (row_lt Hr.out)).trans HP.out.1
  clear cC F HP Hr
  generalize hrb : rebuild b = b2 at *
  have Hr := Lib.hid hr
  have cC := Lib.hid (Insert_any t 0 ht (by omega) H2)
  have HP := Lib.hid (⟨ho, hF⟩ : _ ∧ _)
  clear H2 hr ho hF
  go_wp2_with (refine wpList_load_row rfl 24 (.tmp 3) rfl bx rfl 24 _ (0, 0) _ Hr.out Tryz.underlying24 rfl tokSize ?_)
  refine cC.out.mono ?_
  rintro e w3 ⟨rfl, own3, H3, F⟩
  have hF := HP.out.2.trans F
  clear cC F HP Hr
  have hR := HR0.out
  generalize insertB b2 t 0 = r at *
  obtain ⟨b3, i⟩ := r
  dsimp only at hR H3 ⊢
  clear HR0
  clear hrb ht
  by_cases h0 : 0 ≤ i
  · rw [if_pos h0] at hR
    have HQ := Lib.hid hR
    have HP := Lib.hid (⟨H3, hF⟩ : _ ∧ _)
    clear hR H3 hF
    go_wp2_with fail
    refine (xFormats HP.out.1).mono ?_
    rintro e w4 ⟨rfl, rfl⟩
    have cP := Lib.hid (xFPush i HP.out.1)
    go_wp2_with fail
    refine cP.out.mono ?_
    rintro e w5 ⟨rfl, own5, H5, F5⟩
    have cX := Lib.hid (xFail (pushF b3.ar b3.fo i).2 H5)
    have HF5 := Lib.hid (HP.out.2.trans F5)
    clear cP H5 F5 HP
    go_wp2_with fail
    refine cX.out.mono ?_
    rintro e w6 ⟨rfl, own6, H6, F6⟩
    have HX := Lib.hid (⟨H6, HF5.out.trans F6⟩ : _ ∧ _)
    clear cX H6 F6 HF5
    go_wp2_with fail
    go_end0
    rw [HQ.out]
    exact ⟨rfl, own6, HX.out.1, HX.out.2⟩
  · rw [if_neg h0] at hR
    have HQ := Lib.hid hR
    have HX := Lib.hid (⟨H3, hF⟩ : _ ∧ _)
    clear hR H3 hF
    go_wp2_with fail
    go_end0
    rw [HQ.out]
    exact ⟨rfl, own3, HX.out.1, HX.out.2⟩
set_option maxHeartbeats 1000000 in
set_option maxRecDepth 100000 in
theorem rformatted_any (t : TokL) (hn : n + 32 ≤ 90000) (H : BX n own w bp ap sp lp b) : Calls Tryz.prog 100 #[.pointer (some ⟨bp, 0, none⟩), tokV t] w (RX (n + 32) own bp ap sp lp (.tuple #[]) (formatted b t) w) := by
  obtain ⟨W1, hW1⟩ : ∃ W, W = w.alloc (.cells (tokR t) 24) := ⟨_, rfl⟩
  have hb1 : Below w.heap.size w W1 := by rw [hW1]; exact (Below.refl _ w).alloc (Nat.le_refl _) _
  have hr : W1.heap[w.heap.size]? = some (.cells (tokR t) 24 (0, 0)) := by rw [hW1]; exact heap_new _ _
  have hH := H.below hb1
  have hF := H.fr hb1
  have ho : own w.heap.size = 0 := H.L _ (Nat.le_refl _)
  have HW1 := Lib.hid hW1
  obtain ⟨bx, hbx⟩ : ∃ x, x = w.heap.size := ⟨_, rfl⟩
  rw [← hbx] at hr ho
  have HBX := Lib.hid hbx
  clear hb1 hW1 H hbx
  obtain ⟨R, hR⟩ : ∃ R, R = formatted b t := ⟨_, rfl⟩
  rw [← hR]
  unfold formatted at hR
  have HR0 := Lib.hid hR
  clear hR
  go_enter Tryz.func100, Tryz.ntmps100
  go_upto_region 1 with fail
  rw [← HW1.out, ← HBX.out]
  have c1 := rowAt hr 1 (.string t.name) rfl
  have Hr := Lib.hid hr
  have cC := Lib.hid (Run_any t.name hn hH)
  have HP := Lib.hid (⟨ho, hF⟩ : _ ∧ _)
  clear hH hr ho hF
  go_wp2_with fail
  refine cC.out.mono ?_
  rintro e w2 ⟨rfl, own2, H2, F⟩
  have hF := HP.out.2.trans F
  have hr := F.keep Hr.out (by rw [HP.out.1]; rfl)
  have ho := (F.old bx (row_lt Hr.out)).trans HP.out.1
  clear cC F HP Hr
  have hR := HR0.out
  generalize run b t.name = r at *
  obtain ⟨b2, q⟩ := r
  dsimp only at hR H2 ⊢
  clear c1 HR0
  cases q with
  | true =>
    have HQ : Hid (R = b2) := hR
    have HX := Lib.hid (⟨H2, hF⟩ : _ ∧ _)
    clear hR H2 hF hr ho
    go_wp2_with fail
    go_end0
    rw [HQ.out]
    exact ⟨rfl, own2, HX.out.1, HX.out.2⟩
  | false =>
    have HQ : Hid (R = other b2 t.name) := hR
    have c1 := rowAt hr 1 (.string t.name) rfl
    clear hR
    have Hr := Lib.hid hr
    have cC := Lib.hid (Other_any t.name H2)
    have HP := Lib.hid (⟨ho, hF⟩ : _ ∧ _)
    clear H2 hr ho hF
    go_wp2_with fail
    refine cC.out.mono ?_
    rintro e w3 ⟨rfl, own3, H3, F⟩
    have hF := HP.out.2.trans F
    clear cC F HP Hr
    have HX := Lib.hid (⟨H3, hF⟩ : _ ∧ _)
    clear H3 hF
    go_wp2_with fail
    go_end0
    rw [HQ.out]
    exact ⟨rfl, own3, HX.out.1, HX.out.2⟩
set_option maxHeartbeats 1000000 in
set_option maxRecDepth 100000 in
theorem rotherE_any (t : TokL) (H : BX n own w bp ap sp lp b) : Calls Tryz.prog 32 #[.pointer (some ⟨bp, 0, none⟩), tokV t] w (RX n own bp ap sp lp (.tuple #[]) (other b t.name) w) := by
  obtain ⟨W1, hW1⟩ : ∃ W, W = w.alloc (.cells (tokR t) 24) := ⟨_, rfl⟩
  have hb1 : Below w.heap.size w W1 := by rw [hW1]; exact (Below.refl _ w).alloc (Nat.le_refl _) _
  have hr : W1.heap[w.heap.size]? = some (.cells (tokR t) 24 (0, 0)) := by rw [hW1]; exact heap_new _ _
  have hH := H.below hb1
  have hF := H.fr hb1
  have ho : own w.heap.size = 0 := H.L _ (Nat.le_refl _)
  have HW1 := Lib.hid hW1
  obtain ⟨bx, hbx⟩ : ∃ x, x = w.heap.size := ⟨_, rfl⟩
  rw [← hbx] at hr ho
  have HBX := Lib.hid hbx
  clear hb1 hW1 H hbx
  go_enter Tryz.func32, Tryz.ntmps32
  go_upto_region 1 with fail
  rw [← HW1.out, ← HBX.out]
  have c1 := rowAt hr 1 (.string t.name) rfl
  have Hr := Lib.hid hr
  have cC := Lib.hid (Other_any t.name hH)
  have HP := Lib.hid (⟨ho, hF⟩ : _ ∧ _)
  clear hH hr ho hF
  go_wp2_with fail
  refine cC.out.mono ?_
  rintro e w3 ⟨rfl, own3, H3, F⟩
  have hF := HP.out.2.trans F
  clear cC F HP Hr
  have HX := Lib.hid (⟨H3, hF⟩ : _ ∧ _)
  clear H3 hF
  go_wp2_with fail
  go_end0
  exact ⟨rfl, own3, HX.out.1, HX.out.2⟩
set_option maxHeartbeats 1000000 in
set_option maxRecDepth 100000 in
theorem rendBr_any (t : TokL) (hn : n + 65 ≤ 90000) (H : BX n own w bp ap sp lp b) : Calls Tryz.prog 102 #[.pointer (some ⟨bp, 0, none⟩), tokV t] w (RX (n + 65) own bp ap sp lp (.tuple #[]) (endBr b) w) := by
  obtain ⟨W1, hW1⟩ : ∃ W, W = w.alloc (.cells (tokR t) 24) := ⟨_, rfl⟩
  have hb1 : Below w.heap.size w W1 := by rw [hW1]; exact (Below.refl _ w).alloc (Nat.le_refl _) _
  have hr : W1.heap[w.heap.size]? = some (.cells (tokR t) 24 (0, 0)) := by rw [hW1]; exact heap_new _ _
  have hH := H.below hb1
  have hF := H.fr hb1
  have ho : own w.heap.size = 0 := H.L _ (Nat.le_refl _)
  have HW1 := Lib.hid hW1
  obtain ⟨bx, hbx⟩ : ∃ x, x = w.heap.size := ⟨_, rfl⟩
  rw [← hbx] at hr ho
  have HBX := Lib.hid hbx
  clear hb1 hW1 H hbx
  go_enter Tryz.func102, Tryz.ntmps102
  go_upto_region 1 with fail
  rw [← HW1.out, ← HBX.out]
  have Hr := Lib.hid hr
  have cC := Lib.hid (rsingle_any brT ⟨by decide +kernel, by decide +kernel⟩ hn hH)
  have HP := Lib.hid (⟨ho, hF⟩ : _ ∧ _)
  clear hH hr ho hF
  rw [show tokV brT = .agg #[.int .i64 2, .string ⟨#[98, 114]⟩, .string ⟨#[]⟩, .slice none 0 0, .bool false, .bool false, .bool false, .int .i64 (-1), .int .i64 (-1)] from congrArg Value.agg (by unfold tokR brT; simp only [tok0, em]; rw [show Bd.tx "br" = ⟨#[98, 114]⟩ from by decide +kernel])] at cC
  go_wp2_with fail
  refine cC.out.mono ?_
  rintro e w3 ⟨rfl, own3, H3, F⟩
  have hF := HP.out.2.trans F
  clear cC F HP Hr
  have HX := Lib.hid (⟨H3, hF⟩ : _ ∧ _)
  clear H3 hF
  go_wp2_with fail
  go_end0
  exact ⟨rfl, own3, HX.out.1, HX.out.2⟩
set_option maxHeartbeats 1000000 in
set_option maxRecDepth 100000 in
theorem rendP_any (t : TokL) (hn : n + 1 ≤ 90000) (H : BX n own w bp ap sp lp b) : Calls Tryz.prog 97 #[.pointer (some ⟨bp, 0, none⟩), tokV t] w (RX (n + 1) own bp ap sp lp (.tuple #[]) (endP b) w) := by
  obtain ⟨W1, hW1⟩ : ∃ W, W = w.alloc (.cells (tokR t) 24) := ⟨_, rfl⟩
  have hb1 : Below w.heap.size w W1 := by rw [hW1]; exact (Below.refl _ w).alloc (Nat.le_refl _) _
  have hr : W1.heap[w.heap.size]? = some (.cells (tokR t) 24 (0, 0)) := by rw [hW1]; exact heap_new _ _
  have hH := H.below hb1
  have hF := H.fr hb1
  have ho : own w.heap.size = 0 := H.L _ (Nat.le_refl _)
  have HW1 := Lib.hid hW1
  obtain ⟨bx, hbx⟩ : ∃ x, x = w.heap.size := ⟨_, rfl⟩
  rw [← hbx] at hr ho
  have HBX := Lib.hid hbx
  clear hb1 hW1 H hbx
  obtain ⟨R, hR⟩ : ∃ R, R = endP b := ⟨_, rfl⟩
  rw [← hR]
  unfold endP at hR
  have hb2 : Below W1.heap.size W1 (W1.alloc (.cells #[.string pS] 9)) := (Below.refl _ W1).alloc (Nat.le_refl _) _
  have cH := Lib.hid (xHas 2 (hH.below hb2) (NmAt.one W1 pS))
  have HF2 := Lib.hid (hF.trans (hH.fr hb2))
  have HH2 := Lib.hid (hH.below hb2)
  have cS := Lib.hid (xStack hH)
  obtain ⟨q, hq⟩ : ∃ q, hasS b.st 2 [pS] = q := ⟨_, rfl⟩
  rw [hq] at hR cH
  have HR := Lib.hid hR
  clear hb2 hF hH hr ho hR hq
  go_enter Tryz.func97, Tryz.ntmps97
  go_upto_region 1 with fail
  rw [← HW1.out, ← HBX.out]
  go_wp2_with fail
  refine cS.out.mono ?_
  rintro e w2 ⟨rfl, rfl⟩
  go_wp2_with fail
  refine cH.out.mono ?_
  rintro e w3 ⟨rfl, hb3⟩
  have H3 := HH2.out.below hb3
  have HF3 := Lib.hid (HF2.out.trans (HH2.out.fr hb3))
  clear hb3 HH2 HF2 cS cH
  cases q with
  | true =>
    have HQ : Hid (R = closeP b) := HR.out
    have cC := Lib.hid (CloseP_any H3)
    clear HR H3
    go_wp2_with fail
    refine cC.out.mono ?_
    rintro e w4 ⟨rfl, own4, H4, F4⟩
    have HX := Lib.hid (⟨H4, HF3.out.trans F4⟩ : _ ∧ _)
    clear cC H4 F4
    go_wp2_with fail
    go_end0
    rw [HQ.out]
    exact ⟨rfl, own4, HX.out.1.mono (Nat.le_succ _) hn, HX.out.2⟩
  | false =>
    have HQ : Hid (R = closeP (imply b pS).1) := HR.out
    have cI := Lib.hid (Imply_any pS (by decide) (by decide) hn H3)
    clear HR H3
    go_wp2_with fail
    refine cI.out.mono ?_
    rintro e w4 ⟨rfl, own4, H4, F4⟩
    have cC := Lib.hid (CloseP_any H4)
    have HF4 := Lib.hid (HF3.out.trans F4)
    clear cI H4 F4 HF3
    go_wp2_with fail
    refine cC.out.mono ?_
    rintro e w5 ⟨rfl, own5, H5, F5⟩
    have HX := Lib.hid (⟨H5, HF4.out.trans F5⟩ : _ ∧ _)
    clear cC H5 F5
    go_wp2_with fail
    go_end0
    rw [HQ.out]
    exact ⟨rfl, own5, HX.out.1, HX.out.2⟩
end
end Go.Proofs.YtnbdalohlldnbaaGreatDoor

namespace Go.Proofs.YtnbdalohlldnbaaGreatDoor
open Go.RowKit Bd
attribute [local go_sem ↓] Go.wp_at_zero Go.wp_at_succ
section
variable {n : Nat} {own : Nat → Nat} {w : World} {bp ap sp lp : Nat} {b : BS}
set_option maxHeartbeats 1000000 in
set_option maxRecDepth 100000 in
theorem rshut_any (t : TokL) (H : BX n own w bp ap sp lp b) : Calls Tryz.prog 95 #[.pointer (some ⟨bp, 0, none⟩), tokV t] w (RX n own bp ap sp lp (.tuple #[]) (shut b t) w) := by
  obtain ⟨W1, hW1⟩ : ∃ W, W = w.alloc (.cells (tokR t) 24) := ⟨_, rfl⟩
  have hb1 : Below w.heap.size w W1 := by rw [hW1]; exact (Below.refl _ w).alloc (Nat.le_refl _) _
  have hr : W1.heap[w.heap.size]? = some (.cells (tokR t) 24 (0, 0)) := by rw [hW1]; exact heap_new _ _
  have hH := H.below hb1
  have hF := H.fr hb1
  have ho : own w.heap.size = 0 := H.L _ (Nat.le_refl _)
  have HW1 := Lib.hid hW1
  obtain ⟨bx, hbx⟩ : ∃ x, x = w.heap.size := ⟨_, rfl⟩
  rw [← hbx] at hr ho
  have HBX := Lib.hid hbx
  clear hb1 hW1 H hbx
  obtain ⟨R, hR⟩ : ∃ R, R = shut b t := ⟨_, rfl⟩
  rw [← hR]
  unfold shut at hR
  obtain ⟨q, hq⟩ : ∃ q, hasS b.st 0 [t.name] = q := ⟨_, rfl⟩
  rw [hq] at hR
  have HR := Lib.hid hR
  have HH := Lib.hid hH
  have HF := Lib.hid hF
  have c1 := rowAt hr 1 (.string t.name) rfl
  have Hr := Lib.hid hr
  have HO := Lib.hid ho
  have HQ0 := Lib.hid hq
  clear hR hH hF hr ho hq
  go_enter Tryz.func95, Tryz.ntmps95
  go_upto_region 1 with fail
  rw [← HW1.out, ← HBX.out]
  go_cut [9] (fun s wx => s = .bool q ∧ Below W1.heap.size W1 wx)
  case first =>
    refine wp_region_held_drew (S := fun U => Below W1.heap.size W1 U) (by kernel_rfl) ((Below.refl _ W1).drew) (fun hHeld => ?_)
    generalize W1.drew = V at hHeld  ⊢
    refine TkH 0 4 ?_; refine TkH 2 6 ?_
    (try simp only [Act.put]); (try simp only [List.setIfInBounds_toArray]); (try simp only [List.set_cons_zero, List.set_cons_succ])
    refine TkD 3 (some 7) (v := ?_) rfl rfl ?_ ?_; rotate_left
    · (intro W hSw; (try dsimp only at hSw); have c1' := (hSw.cell (World.block_lt_of_cell? _ _ c1)).trans c1; go_simp; try with_reducible rfl)
    (try simp only [Act.put]); (try simp only [List.setIfInBounds_toArray]); (try simp only [List.set_cons_zero, List.set_cons_succ])
    refine wpAnyH_ready (rs := [1, 4]) (by decide +kernel) (by simp) ?_
    refine AllReadyH.cons rfl (fun K hK => ?_) (AllReadyH.cons rfl (fun K hK => ?_) AllReadyH.nil)
    go_simp
    go_at_call 19
    refine (xStack (HH.out.below hHeld)).mono ?_
    rintro e V9 ⟨rfl, rfl⟩
    refine hK.out _ _ hHeld (fun hSx => ?_)
    clear hSx hK K
    (try simp only [Act.put]); (try simp only [List.setIfInBounds_toArray]); (try simp only [List.set_cons_zero, List.set_cons_succ])
    rotate_left
    go_simp
    obtain ⟨V9, hV9⟩ : ∃ U, U = V.alloc (.cells #[.string t.name] 9) := ⟨_, rfl⟩
    rw [← hV9]
    have hN : NmAt V9 (.slice (some ⟨V.heap.size, 0, none⟩) 1 1) [t.name] := by rw [hV9]; exact NmAt.one V t.name
    have hb9 : Below V.heap.size V V9 := by rw [hV9]; exact (Below.refl _ _).alloc (Nat.le_refl _) _
    have hB9 := hHeld.trans (hb9.mono hHeld.size)
    obtain ⟨gn, hgn⟩ : ∃ z, z = V.heap.size := ⟨_, rfl⟩
    rw [← hgn] at hN ⊢
    clear hHeld hgn hV9
    refine hK.out _ _ hB9 (fun hHeld => ?_)
    clear hK K hB9 hb9
    clear V
    obtain ⟨V, rfl⟩ : ∃ U, U = V9 := ⟨_, rfl⟩
    (try simp only [Act.put]); (try simp only [List.setIfInBounds_toArray]); (try simp only [List.set_cons_zero, List.set_cons_succ])
    rotate_left
    all_goals first
      | (refine wpAnyH_ready (rs := [4]) (by decide +kernel) (by simp) ?_
         refine AllReadyH.cons rfl (fun K hK => ?_) AllReadyH.nil
         go_simp
         obtain ⟨V9, hV9⟩ : ∃ U, U = V.alloc (.cells #[.string t.name] 9) := ⟨_, rfl⟩
         rw [← hV9]
         have hN : NmAt V9 (.slice (some ⟨V.heap.size, 0, none⟩) 1 1) [t.name] := by rw [hV9]; exact NmAt.one V t.name
         have hb9 : Below V.heap.size V V9 := by rw [hV9]; exact (Below.refl _ _).alloc (Nat.le_refl _) _
         have hB9 := hHeld.trans (hb9.mono hHeld.size)
         obtain ⟨gn, hgn⟩ : ∃ z, z = V.heap.size := ⟨_, rfl⟩
         rw [← hgn] at hN ⊢
         clear hHeld hgn hV9
         refine hK.out _ _ hB9 (fun hHeld => ?_)
         clear hK K hB9 hb9
         clear V
         obtain ⟨V, rfl⟩ : ∃ U, U = V9 := ⟨_, rfl⟩
         (try simp only [Act.put]); (try simp only [List.setIfInBounds_toArray]); (try simp only [List.set_cons_zero, List.set_cons_succ]))
      | skip
    all_goals first
      | (refine wpAnyH_ready (rs := [1]) (by decide +kernel) (by simp) ?_
         refine AllReadyH.cons rfl (fun K hK => ?_) AllReadyH.nil
         go_simp
         go_at_call 19
         refine (xStack (HH.out.below hHeld)).mono ?_
         rintro e V9 ⟨rfl, rfl⟩
         refine hK.out _ _ hHeld (fun hSx => ?_)
         clear hSx hK K
         (try simp only [Act.put]); (try simp only [List.setIfInBounds_toArray]); (try simp only [List.set_cons_zero, List.set_cons_succ]))
      | skip
    all_goals (
      refine wpAnyH_ready (rs := [5]) (by decide +kernel) (by simp) ?_
      refine AllReadyH.cons rfl (fun K hK => ?_) AllReadyH.nil
      go_simp
      go_at_call 145
      refine (xHas 0 (HH.out.below hHeld) hN).mono ?_
      rintro e V9 ⟨rfl, hb9⟩
      have hB9 := hHeld.trans (hb9.mono hHeld.size)
      clear hHeld
      refine hK.out _ _ hB9 (fun hHeld => ?_)
      clear hK K hb9 hB9 hN
      clear V
      obtain ⟨V, rfl⟩ : ∃ U, U = V9 := ⟨_, rfl⟩
      (try simp only [Act.put]); (try simp only [List.setIfInBounds_toArray]); (try simp only [List.set_cons_zero, List.set_cons_succ]))
    all_goals (
      refine wpAnyH_done (by kernel_rfl) ?_ _
      go_wp2_with fail
      go_meet
      exact ⟨by rw [HQ0.out], hHeld⟩)

  case rest =>
  obtain ⟨rfl, hbc⟩ := hcut
  have H2 := HH.out.below hbc
  have HF2 := Lib.hid (HF.out.trans (HH.out.fr hbc))
  have hr2 := (hbc.block _ (row_lt Hr.out)).trans Hr.out
  clear hbc HH HF Hr HQ0 c1
  cases q with
  | false =>
    have HQ : Hid (R = b) := HR.out
    have HX := Lib.hid H2
    clear HR H2 hr2
    go_wp2_with fail
    go_end0
    rw [HQ.out]
    exact ⟨rfl, own, HX.out, HF2.out⟩
  | true =>
    have HQ : Hid (R = { b with st := (untilS (impliedSt em b.st) [t.name]).1 }) := HR.out
    have HH2 := Lib.hid H2
    have Hr2 := Lib.hid hr2
    clear HR H2 hr2
    go_wp2_with fail
    refine (xStack HH2.out).mono ?_
    rintro e w3 ⟨rfl, rfl⟩
    have cI := Lib.hid (xSImplied em HH2.out)
    rw [show em = (⟨#[]⟩ : ByteArray) from rfl] at cI
    go_wp2_with fail
    refine cI.out.mono ?_
    rintro e W5 ⟨rfl, own5, H5, F5⟩
    have HF5 := Lib.hid (HF2.out.trans F5)
    have hr5 := F5.keep Hr2.out (by rw [HO.out]; rfl)
    have HO5 : Hid (own5 bx = 0) := Lib.hid ((F5.old bx (row_lt Hr2.out)).trans HO.out)
    have c1 := rowAt hr5 1 (.string t.name) rfl
    have HH5 := Lib.hid H5
    clear cI F5 HF2 HH2 Hr2 hr5 H5
    go_upto_region 3 with fail
    have hBv := (Below.refl W5.heap.size W5).drew
    replace c1 := (hBv.cell (World.block_lt_of_cell? _ _ c1)).trans c1
    refine wp_region_held_drew (S := fun U => U.cell? ⟨bx, 1, none⟩ = some (.string t.name)) (by kernel_rfl) (c1) (fun hHeld => ?_)
    generalize W5.drew = V at hHeld hBv ⊢
    refine TkH 0 13 ?_; refine TkH 2 15 ?_
    (try simp only [Act.put]); (try simp only [List.setIfInBounds_toArray]); (try simp only [List.set_cons_zero, List.set_cons_succ])
    refine TkD 3 (some 16) (v := ?_) rfl rfl ?_ ?_; rotate_left
    · (intro W hSw; (try dsimp only at hSw); have c1' := hSw; go_simp; try with_reducible rfl)
    (try simp only [Act.put]); (try simp only [List.setIfInBounds_toArray]); (try simp only [List.set_cons_zero, List.set_cons_succ])
    refine wpAnyH_ready (rs := [1, 4]) (by decide +kernel) (by simp) ?_
    refine AllReadyH.cons rfl (fun K hK => ?_) (AllReadyH.cons rfl (fun K hK => ?_) AllReadyH.nil)
    go_simp
    go_at_call 19
    refine (xStack (HH5.out.below hBv)).mono ?_
    rintro e V9 ⟨rfl, rfl⟩
    refine hK.out _ _ hHeld (fun hSx => ?_)
    clear hSx hK K
    (try simp only [Act.put]); (try simp only [List.setIfInBounds_toArray]); (try simp only [List.set_cons_zero, List.set_cons_succ])
    rotate_left
    go_simp
    obtain ⟨V9, hV9⟩ : ∃ U, U = V.alloc (.cells #[.string t.name] 9) := ⟨_, rfl⟩
    rw [← hV9]
    have hN : NmAt V9 (.slice (some ⟨V.heap.size, 0, none⟩) 1 1) [t.name] := by rw [hV9]; exact NmAt.one V t.name
    have hb9 : Below V.heap.size V V9 := by rw [hV9]; exact (Below.refl _ _).alloc (Nat.le_refl _) _
    have hc9 := (hb9.cell (World.block_lt_of_cell? _ _ hHeld)).trans hHeld
    replace hBv := hBv.trans (hb9.mono hBv.size)
    obtain ⟨gn, hgn⟩ : ∃ z, z = V.heap.size := ⟨_, rfl⟩
    rw [← hgn] at hN ⊢
    clear hHeld hgn hV9
    refine hK.out _ _ hc9 (fun hHeld => ?_)
    clear hK K hc9 hb9
    clear V
    obtain ⟨V, rfl⟩ : ∃ U, U = V9 := ⟨_, rfl⟩
    (try simp only [Act.put]); (try simp only [List.setIfInBounds_toArray]); (try simp only [List.set_cons_zero, List.set_cons_succ])
    rotate_left
    all_goals first
      | (refine wpAnyH_ready (rs := [4]) (by decide +kernel) (by simp) ?_
         refine AllReadyH.cons rfl (fun K hK => ?_) AllReadyH.nil
         go_simp
         obtain ⟨V9, hV9⟩ : ∃ U, U = V.alloc (.cells #[.string t.name] 9) := ⟨_, rfl⟩
         rw [← hV9]
         have hN : NmAt V9 (.slice (some ⟨V.heap.size, 0, none⟩) 1 1) [t.name] := by rw [hV9]; exact NmAt.one V t.name
         have hb9 : Below V.heap.size V V9 := by rw [hV9]; exact (Below.refl _ _).alloc (Nat.le_refl _) _
         have hc9 := (hb9.cell (World.block_lt_of_cell? _ _ hHeld)).trans hHeld
         replace hBv := hBv.trans (hb9.mono hBv.size)
         obtain ⟨gn, hgn⟩ : ∃ z, z = V.heap.size := ⟨_, rfl⟩
         rw [← hgn] at hN ⊢
         clear hHeld hgn hV9
         refine hK.out _ _ hc9 (fun hHeld => ?_)
         clear hK K hc9 hb9
         clear V
         obtain ⟨V, rfl⟩ : ∃ U, U = V9 := ⟨_, rfl⟩
         (try simp only [Act.put]); (try simp only [List.setIfInBounds_toArray]); (try simp only [List.set_cons_zero, List.set_cons_succ]))
      | skip
    all_goals first
      | (refine wpAnyH_ready (rs := [1]) (by decide +kernel) (by simp) ?_
         refine AllReadyH.cons rfl (fun K hK => ?_) AllReadyH.nil
         go_simp
         go_at_call 19
         refine (xStack (HH5.out.below hBv)).mono ?_
         rintro e V9 ⟨rfl, rfl⟩
         refine hK.out _ _ hHeld (fun hSx => ?_)
         clear hSx hK K
         (try simp only [Act.put]); (try simp only [List.setIfInBounds_toArray]); (try simp only [List.set_cons_zero, List.set_cons_succ]))
      | skip
    all_goals (
      refine wpAnyH_ready (rs := [5]) (by decide +kernel) (by simp) ?_
      refine AllReadyH.cons rfl (fun K hK => ?_) AllReadyH.nil
      go_simp
      go_at_call 131
      refine (xSUntil (HH5.out.below hBv) hN).mono ?_
      rintro e V9 ⟨rfl, own9, H9, F9⟩
      have hc9 : V9.cell? ⟨bx, 1, none⟩ = some (.string t.name) := Fr_cell F9 hHeld (by show cBu (own5 bx) = false; rw [HO5.out]; rfl)
      have hF9 := (HH5.out.fr hBv).trans F9
      clear hHeld F9 hN hBv
      refine hK.out _ _ hc9 (fun hHeld => ?_)
      clear hK K hc9
      clear V
      obtain ⟨V, rfl⟩ : ∃ U, U = V9 := ⟨_, rfl⟩
      (try dsimp only))
    all_goals (
      refine wpAnyH_done (by kernel_rfl) ?_ _
      go_wp2_with fail
      go_end0
      rw [HQ.out]
      exact ⟨rfl, own9, H9, HF5.out.trans hF9⟩)

set_option maxHeartbeats 1000000 in
set_option maxRecDepth 100000 in
theorem rlink_any (t : TokL) (ht : TokOk t) (hn : n + 97 ≤ 90000) (H : BX n own w bp ap sp lp b) : Calls Tryz.prog 78 #[.pointer (some ⟨bp, 0, none⟩), tokV t] w (RX (n + 97) own bp ap sp lp (.tuple #[]) (link b t) w) := by
  obtain ⟨W1, hW1⟩ : ∃ W, W = w.alloc (.cells (tokR t) 24) := ⟨_, rfl⟩
  have hb1 : Below w.heap.size w W1 := by rw [hW1]; exact (Below.refl _ w).alloc (Nat.le_refl _) _
  have hr : W1.heap[w.heap.size]? = some (.cells (tokR t) 24 (0, 0)) := by rw [hW1]; exact heap_new _ _
  have hH := H.below hb1
  have hF := H.fr hb1
  have ho : own w.heap.size = 0 := H.L _ (Nat.le_refl _)
  have HW1 := Lib.hid hW1
  obtain ⟨bx, hbx⟩ : ∃ x, x = w.heap.size := ⟨_, rfl⟩
  rw [← hbx] at hr ho
  have HBX := Lib.hid hbx
  clear hb1 hW1 H hbx
  obtain ⟨R, hR⟩ : ∃ R, R = link b t := ⟨_, rfl⟩
  rw [← hR]
  unfold link at hR
  rw [show Bd.tx "a" = ⟨#[97]⟩ from by decide +kernel] at hR
  have cL := Lib.hid (xFLast ⟨#[97]⟩ hH)
  have cF := Lib.hid (xFormats hH)
  generalize lastN b.ar b.fo ⟨#[97]⟩ = i at *
  dsimp only at hR
  have HR := Lib.hid hR
  have HH := Lib.hid hH
  have HF := Lib.hid hF
  have Hr := Lib.hid hr
  have HO := Lib.hid ho
  clear hR hH hF hr ho
  go_enter Tryz.func78, Tryz.ntmps78
  go_upto_region 1 with fail
  rw [← HW1.out, ← HBX.out]
  go_wp2_with fail
  refine cF.out.mono ?_
  rintro e w2 ⟨rfl, rfl⟩
  go_wp2_with fail
  refine cL.out.mono ?_
  rintro e w3 ⟨rfl, hb3⟩
  have hH := HH.out.below hb3
  have hF := HF.out.trans (HH.out.fr hb3)
  have hr := (hb3.block _ (row_lt Hr.out)).trans Hr.out
  have ho := HO.out
  clear hb3 HH HF Hr HO cL cF
  by_cases h0 : 0 ≤ i
  · have HQ : Hid (R = Bd.format { formatted b t with fo := (removeF (formatted b t).fo i).1, st := (removeS (formatted b t).st i).1 } t) := by show _ = _; rw [HR.out, if_pos h0]
    clear HR
    have Hr := Lib.hid hr
    have cC := Lib.hid (rformatted_any t (show n + 32 ≤ 90000 by omega) hH)
    have HP := Lib.hid (⟨ho, hF⟩ : _ ∧ _)
    clear hH hr ho hF
    go_wp2_with (refine wpList_load_row rfl 24 (.tmp 3) rfl bx rfl 24 _ (0, 0) _ Hr.out Tryz.underlying24 rfl tokSize ?_)
    refine cC.out.mono ?_
    rintro e w4 ⟨rfl, own4, H4, F⟩
    have hF := HP.out.2.trans F
    have hr := F.keep Hr.out (by rw [HP.out.1]; rfl)
    have ho := (F.old bx (row_lt Hr.out)).trans HP.out.1
    clear cC F HP Hr
    generalize formatted b t = b4 at *
    have HP := Lib.hid (⟨H4, hF, hr, ho⟩ : _ ∧ _ ∧ _ ∧ _)
    clear H4 hF hr ho
    go_wp2_with fail
    refine (xFormats HP.out.1).mono ?_
    rintro e w5 ⟨rfl, rfl⟩
    have cR := Lib.hid (xFRemove i HP.out.1)
    go_wp2_with fail
    refine cR.out.mono ?_
    rintro e w6 ⟨rfl, own6, H6, F6⟩
    have HP2 := Lib.hid (⟨H6, HP.out.2.1.trans F6, F6.keep HP.out.2.2.1 (by rw [HP.out.2.2.2]; rfl), (F6.old bx (row_lt HP.out.2.2.1)).trans HP.out.2.2.2⟩ : _ ∧ _ ∧ _ ∧ _)
    clear cR H6 F6 HP
    go_wp2_with fail
    refine (xStack HP2.out.1).mono ?_
    rintro e w7 ⟨rfl, rfl⟩
    have cS := Lib.hid (xSRemove i HP2.out.1)
    go_wp2_with fail
    refine cS.out.mono ?_
    rintro e w8 ⟨⟨rfl, own8, H8, F8⟩, _⟩
    have hF := HP2.out.2.1.trans F8
    have hr := F8.keep HP2.out.2.2.1 (by rw [HP2.out.2.2.2]; rfl)
    have ho := (F8.old bx (row_lt HP2.out.2.2.1)).trans HP2.out.2.2.2
    clear cS F8 HP2
    have Hr := Lib.hid hr
    have cC := Lib.hid (rformat_any t ht (show n + 32 + 65 ≤ 90000 by omega) H8)
    have HP := Lib.hid (⟨ho, hF⟩ : _ ∧ _)
    clear H8 hr ho hF
    go_wp2_with (refine wpList_load_row rfl 24 (.tmp 3) rfl bx rfl 24 _ (0, 0) _ Hr.out Tryz.underlying24 rfl tokSize ?_)
    refine cC.out.mono ?_
    rintro e w9 ⟨rfl, own9, H9, F⟩
    have hF := HP.out.2.trans F
    clear cC F HP Hr
    have HX := Lib.hid (⟨H9, hF⟩ : _ ∧ _)
    clear H9 hF
    go_wp2_with fail
    go_end0
    rw [HQ.out]
    exact ⟨rfl, own9, HX.out.1, HX.out.2⟩
  · have HQ : Hid (R = Bd.format b t) := by show _ = _; rw [HR.out, if_neg h0]
    clear HR
    have Hr := Lib.hid hr
    have cC := Lib.hid (rformat_any t ht (show n + 65 ≤ 90000 by omega) hH)
    have HP := Lib.hid (⟨ho, hF⟩ : _ ∧ _)
    clear hH hr ho hF
    go_wp2_with (refine wpList_load_row rfl 24 (.tmp 3) rfl bx rfl 24 _ (0, 0) _ Hr.out Tryz.underlying24 rfl tokSize ?_)
    refine cC.out.mono ?_
    rintro e w9 ⟨rfl, own9, H9, F⟩
    have hF := HP.out.2.trans F
    clear cC F HP Hr
    have HX := Lib.hid (⟨H9, hF⟩ : _ ∧ _)
    clear H9 hF
    go_wp2_with fail
    go_end0
    rw [HQ.out]
    exact ⟨rfl, own9, HX.out.1.mono (by omega) hn, HX.out.2⟩
end
end Go.Proofs.YtnbdalohlldnbaaGreatDoor
