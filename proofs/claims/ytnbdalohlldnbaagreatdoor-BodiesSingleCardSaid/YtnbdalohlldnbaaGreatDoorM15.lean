/-
  Package bodies: Body, of tags and characters. Printed by wip/mkbody.py.
  Package bodies: Body of characters; Step in the body. Printed by wip/mkstep.py.
  The law's own: start, end, chars; does. Printed by wip/mkdoes.py.
  The law's shape: a tree as a text.
-/
import Derived.Test.YtnbdalohlldnbaaGreatDoorM14
namespace Go.Proofs.YtnbdalohlldnbaaGreatDoor
open Go.RowKit Bd
attribute [local go_sem ↓] Go.wp_at_zero Go.wp_at_succ
/-- What the table of starts has for a name. -/
def StartV (nm : List UInt8) (v : Value) (x y : Nat) : Prop := ∃ S, TabOf (startL x y) S ∧ ∃ ps, codeV v = some ((S nm).getD (.lit (.int .i64 (-1))), ps)
def EndV (nm : List UInt8) (v : Value) (x y : Nat) : Prop := ∃ S, TabOf (endL x y) S ∧ ∃ ps, codeV v = some ((S nm).getD (.lit (.int .i64 (-1))), ps)
theorem eq_fn (f : Fn) (a c : Array Value) (w : World) : Sem.run Tryz.prog (Op.equal 64 (.func f a c) .nilFunc) w = .ok false w := by
  show Sem.run Tryz.prog (Op.equalIn (9999 + 1) 64 (.func f a c) .nilFunc) w = .ok false w
  rw [Op.equalIn]
  simp [go_sem]
theorem eq_nn (w : World) : Sem.run Tryz.prog (Op.equal 64 .nilFunc .nilFunc) w = .ok true w := by
  show Sem.run Tryz.prog (Op.equalIn (9999 + 1) 64 .nilFunc .nilFunc) w = .ok true w
  rw [Op.equalIn]
  simp [go_sem]
theorem fn_nil (f : Fn) (a c : Array Value) (w : World) : Sem.run Tryz.prog (binOp BinOp.eql 64 (.func f a c) .nilFunc) w = .ok (.bool false) w := by
  have h := eq_fn f a c w
  unfold binOp
  dsimp only
  simp [go_sem, h]
theorem nil_nil (w : World) : Sem.run Tryz.prog (binOp BinOp.eql 64 .nilFunc .nilFunc) w = .ok (.bool true) w := by
  have h := eq_nn w
  unfold binOp
  dsimp only
  simp [go_sem, h]
section
variable {n : Nat} {own : Nat → Nat} {w : World} {bp ap sp lp : Nat} {b : BS}
set_option maxHeartbeats 1000000 in
set_option maxRecDepth 100000 in
theorem Body_start {m : Nat} {f : BS} (k : Nat) (t : TokL) (ht : TokOk t) (hkd : t.kind = 2) (hT : Lib.TabIs Tryz.prog w "strings.asciiSpace" .u8 Lib.asciiSpaceTab) (H : BX n own w bp ap sp lp b)
    (hlook : ∀ x y v, StartV t.name.data.toList v x y → v = .func (.func k) #[] #[] ∨ v = .nilFunc ∧ k = 30)
    (hcf : ∀ a W, Sem.run Tryz.prog (callFunc k a) W = .ok (.enter k a) W)
    (hrule : ∀ W, BX n own W bp ap sp lp b → Calls Tryz.prog k #[.pointer (some ⟨bp, 0, none⟩), tokV t] W (RX m own bp ap sp lp (.tuple #[]) f W)) :
    Calls Tryz.prog 9 #[.pointer (some ⟨bp, 0, none⟩), tokV t] w (RX m own bp ap sp lp (.bool false) f w) := by
  obtain ⟨W1, hW1⟩ : ∃ W, W = w.alloc (.cells (tokR t) 24) := ⟨_, rfl⟩
  have hb1 : Below w.heap.size w W1 := by rw [hW1]; exact (Below.refl _ w).alloc (Nat.le_refl _) _
  have hr : W1.heap[w.heap.size]? = some (.cells (tokR t) 24 (0, 0)) := by rw [hW1]; exact heap_new _ _
  have hH := H.below hb1
  have hF := H.fr hb1
  have ho : own w.heap.size = 0 := H.L _ (Nat.le_refl _)
  have HW1 := Lib.hid hW1
  obtain ⟨bx, hbx⟩ : ∃ x, x = w.heap.size := ⟨_, rfl⟩
  rw [← hbx] at hr ho
  have HBX := Lib.hid hbx
  have HH1 := Lib.hid hb1
  clear hb1 hW1 H hbx
  have cN := Lib.hid (xArena hH)
  have HT : Hid (∀ U, Below W1.heap.size W1 U → Lib.TabIs Tryz.prog U "strings.asciiSpace" .u8 Lib.asciiSpaceTab) := Lib.hid (fun U hU => tab_below hT (below_call HH1.out hU))
  have HO := Lib.hid (⟨ho, hF⟩ : _ ∧ _)
  have HH := Lib.hid hH
  have Hr := Lib.hid hr
  have HR := Lib.hid hrule
  have HLk := Lib.hid hlook
  have c0 := rowAt hr 0 (.int .i64 2) (by unfold tokR; rw [hkd]; rfl)
  have c1 := rowAt hr 1 (.string t.name) rfl
  clear hH hF hr ho hT hrule hlook hkd
  go_enter Tryz.func9, Tryz.ntmps9
  go_upto_region 1 with fail
  rw [← HW1.out, ← HBX.out]
  go_wp2_with fail
  refine cN.out.mono ?_
  rintro e w2 ⟨rfl, rfl⟩
  go_upto_region 13 with fail
  go_cut [5] (fun v wx => ∃ x y nx ny, StartV t.name.data.toList v x y ∧ ((wx.cell? ⟨x, 0, none⟩ = some nx ∧ NmAt wx nx [⟨#[108, 105]⟩]) ∧ wx.cell? ⟨y, 0, none⟩ = some ny ∧ NmAt wx ny [⟨#[100, 100]⟩, ⟨#[100, 116]⟩]) ∧ Below W1.heap.size W1 wx)
  case first =>
    refine wp_region_held_drew (S := fun U => Below W1.heap.size W1 U) (by kernel_rfl) ((Below.refl _ W1).drew) (fun hHeld => ?_)
    generalize W1.drew = V at hHeld  ⊢
    refine TkH 1 39 ?_
    (try simp only [Act.put]); (try simp only [List.setIfInBounds_toArray]); (try simp only [List.set_cons_zero, List.set_cons_succ])
    refine TkD 2 (some 40) (v := ?_) rfl rfl ?_ ?_; rotate_left
    · (intro W hSw; (try dsimp only at hSw); have c1' := (hSw.cell (World.block_lt_of_cell? _ _ c1)).trans c1; go_simp; try with_reducible rfl)
    (try simp only [Act.put]); (try simp only [List.setIfInBounds_toArray]); (try simp only [List.set_cons_zero, List.set_cons_succ])
    refine wpAnyH_ready (rs := [0]) (by kernel_rfl) (by simp) ?_
    refine AllReadyH.cons rfl (fun K hK => ?_) AllReadyH.nil
    go_simp
    go_at_call 29
    refine (starts_any (HT.out _ hHeld)).mono ?_
    rintro e V9 ⟨b9, n9, D9, S9, x9, y9, nx9, ny9, rfl, ho9, hrd9, htb9, hb9, hk9⟩
    have HM := Lib.hid (⟨ho9, hrd9, htb9, hk9⟩ : _ ∧ _ ∧ _ ∧ _)
    have hB9 := hHeld.trans (hb9.mono hHeld.size)
    clear hHeld ho9 hrd9 htb9 hk9
    refine hK.out _ _ hB9 (fun hHeld => ?_)
    clear hK K hb9 hB9
    clear V
    obtain ⟨V, rfl⟩ : ∃ U, U = V9 := ⟨_, rfl⟩
    (try simp only [Act.put]); (try simp only [List.setIfInBounds_toArray]); (try simp only [List.set_cons_zero, List.set_cons_succ])
    refine wpAnyH_ready (rs := [3]) (by kernel_rfl) (by simp) ?_
    refine AllReadyH.cons rfl (fun K hK => ?_) AllReadyH.nil
    obtain ⟨v9, ps9, hrun, hv9⟩ := HM.out.1.lookup lawS Tryz.underlying65 (z := .nilFunc) (zd := .lit (.int .i64 (-1))) (zp := []) (by rfl) rfl (keyS_mk t.name (Nat.le_trans ht.1 (by decide)))
    rw [HM.out.2.1.get] at hv9
    go_simp
    refine hK.out _ _ hHeld (fun hSx => ?_)
    clear hSx hK K
    (try simp only [Act.put]); (try simp only [List.setIfInBounds_toArray]); (try simp only [List.set_cons_zero, List.set_cons_succ])
    focus (refine TkH 4 5 ?_)
    (try simp only [Act.put]); (try simp only [List.setIfInBounds_toArray]); (try simp only [List.set_cons_zero, List.set_cons_succ])
    refine wpAnyH_done (by kernel_rfl) ?_ _
    go_wp2_with fail
    go_meet
    exact ⟨_, _, nx9, ny9, ⟨S9, HM.out.2.2.1, ps9, hv9⟩, HM.out.2.2.2, hHeld⟩

  case rest =>
  obtain ⟨x, y, nx, ny, hv, hk, hbc⟩ := hcut
  have hH2 := HH.out.below hbc
  have HF2 := Lib.hid (HO.out.2.trans (HH.out.fr hbc))
  have Hr2 := Lib.hid ((hbc.block _ (row_lt Hr.out)).trans Hr.out)
  have HO2 := Lib.hid HO.out.1
  have cR := Lib.hid (HR.out wc hH2)
  have hL := HLk.out x y _ hv
  clear hk hv HR HLk HT HH1 hH2 hbc HO
  have hq1 := fn_nil
  have hq2 := nil_nil
  rcases hL with rfl | ⟨rfl, rfl⟩
  all_goals (
    go_wp2_with (refine wpList_load_row rfl 24 (.tmp 3) rfl bx rfl 24 _ (0, 0) _ Hr2.out Tryz.underlying24 rfl tokSize ?_)
    refine cR.out.mono ?_
    rintro e w3 ⟨rfl, own3, H3, F3⟩
    have HX := Lib.hid (⟨H3, HF2.out.trans F3⟩ : _ ∧ _)
    clear cR F3 H3 HF2 Hr2
    go_wp2_with fail
    go_ret
    exact ⟨rfl, own3, HX.out.1, HX.out.2⟩)
set_option maxHeartbeats 1000000 in
set_option maxRecDepth 100000 in
theorem Body_startX {m : Nat} {f : BS} (k : Nat) (t : TokL) (ht : TokOk t) (hkd : t.kind = 2) (hT : Lib.TabIs Tryz.prog w "strings.asciiSpace" .u8 Lib.asciiSpaceTab) (H : BX n own w bp ap sp lp b)
    (hlook : ∀ x y v, StartV t.name.data.toList v x y → v = .func (.func k) #[] #[.pointer (some ⟨x, 0, none⟩)])
    (hcf : ∀ a W, Sem.run Tryz.prog (callFunc k a) W = .ok (.enter k a) W)
    (hrule : ∀ W x y nx ny, BX n own W bp ap sp lp b → ((W.cell? ⟨x, 0, none⟩ = some nx ∧ NmAt W nx [⟨#[108, 105]⟩]) ∧ W.cell? ⟨y, 0, none⟩ = some ny ∧ NmAt W ny [⟨#[100, 100]⟩, ⟨#[100, 116]⟩]) → Calls Tryz.prog k #[.pointer (some ⟨bp, 0, none⟩), tokV t, .pointer (some ⟨x, 0, none⟩)] W (RX m own bp ap sp lp (.tuple #[]) f W)) :
    Calls Tryz.prog 9 #[.pointer (some ⟨bp, 0, none⟩), tokV t] w (RX m own bp ap sp lp (.bool false) f w) := by
  obtain ⟨W1, hW1⟩ : ∃ W, W = w.alloc (.cells (tokR t) 24) := ⟨_, rfl⟩
  have hb1 : Below w.heap.size w W1 := by rw [hW1]; exact (Below.refl _ w).alloc (Nat.le_refl _) _
  have hr : W1.heap[w.heap.size]? = some (.cells (tokR t) 24 (0, 0)) := by rw [hW1]; exact heap_new _ _
  have hH := H.below hb1
  have hF := H.fr hb1
  have ho : own w.heap.size = 0 := H.L _ (Nat.le_refl _)
  have HW1 := Lib.hid hW1
  obtain ⟨bx, hbx⟩ : ∃ x, x = w.heap.size := ⟨_, rfl⟩
  rw [← hbx] at hr ho
  have HBX := Lib.hid hbx
  have HH1 := Lib.hid hb1
  clear hb1 hW1 H hbx
  have cN := Lib.hid (xArena hH)
  have HT : Hid (∀ U, Below W1.heap.size W1 U → Lib.TabIs Tryz.prog U "strings.asciiSpace" .u8 Lib.asciiSpaceTab) := Lib.hid (fun U hU => tab_below hT (below_call HH1.out hU))
  have HO := Lib.hid (⟨ho, hF⟩ : _ ∧ _)
  have HH := Lib.hid hH
  have Hr := Lib.hid hr
  have HR := Lib.hid hrule
  have HLk := Lib.hid hlook
  have c0 := rowAt hr 0 (.int .i64 2) (by unfold tokR; rw [hkd]; rfl)
  have c1 := rowAt hr 1 (.string t.name) rfl
  clear hH hF hr ho hT hrule hlook hkd
  go_enter Tryz.func9, Tryz.ntmps9
  go_upto_region 1 with fail
  rw [← HW1.out, ← HBX.out]
  go_wp2_with fail
  refine cN.out.mono ?_
  rintro e w2 ⟨rfl, rfl⟩
  go_upto_region 13 with fail
  go_cut [5] (fun v wx => ∃ x y nx ny, StartV t.name.data.toList v x y ∧ ((wx.cell? ⟨x, 0, none⟩ = some nx ∧ NmAt wx nx [⟨#[108, 105]⟩]) ∧ wx.cell? ⟨y, 0, none⟩ = some ny ∧ NmAt wx ny [⟨#[100, 100]⟩, ⟨#[100, 116]⟩]) ∧ Below W1.heap.size W1 wx)
  case first =>
    refine wp_region_held_drew (S := fun U => Below W1.heap.size W1 U) (by kernel_rfl) ((Below.refl _ W1).drew) (fun hHeld => ?_)
    generalize W1.drew = V at hHeld  ⊢
    refine TkH 1 39 ?_
    (try simp only [Act.put]); (try simp only [List.setIfInBounds_toArray]); (try simp only [List.set_cons_zero, List.set_cons_succ])
    refine TkD 2 (some 40) (v := ?_) rfl rfl ?_ ?_; rotate_left
    · (intro W hSw; (try dsimp only at hSw); have c1' := (hSw.cell (World.block_lt_of_cell? _ _ c1)).trans c1; go_simp; try with_reducible rfl)
    (try simp only [Act.put]); (try simp only [List.setIfInBounds_toArray]); (try simp only [List.set_cons_zero, List.set_cons_succ])
    refine wpAnyH_ready (rs := [0]) (by kernel_rfl) (by simp) ?_
    refine AllReadyH.cons rfl (fun K hK => ?_) AllReadyH.nil
    go_simp
    go_at_call 29
    refine (starts_any (HT.out _ hHeld)).mono ?_
    rintro e V9 ⟨b9, n9, D9, S9, x9, y9, nx9, ny9, rfl, ho9, hrd9, htb9, hb9, hk9⟩
    have HM := Lib.hid (⟨ho9, hrd9, htb9, hk9⟩ : _ ∧ _ ∧ _ ∧ _)
    have hB9 := hHeld.trans (hb9.mono hHeld.size)
    clear hHeld ho9 hrd9 htb9 hk9
    refine hK.out _ _ hB9 (fun hHeld => ?_)
    clear hK K hb9 hB9
    clear V
    obtain ⟨V, rfl⟩ : ∃ U, U = V9 := ⟨_, rfl⟩
    (try simp only [Act.put]); (try simp only [List.setIfInBounds_toArray]); (try simp only [List.set_cons_zero, List.set_cons_succ])
    refine wpAnyH_ready (rs := [3]) (by kernel_rfl) (by simp) ?_
    refine AllReadyH.cons rfl (fun K hK => ?_) AllReadyH.nil
    obtain ⟨v9, ps9, hrun, hv9⟩ := HM.out.1.lookup lawS Tryz.underlying65 (z := .nilFunc) (zd := .lit (.int .i64 (-1))) (zp := []) (by rfl) rfl (keyS_mk t.name (Nat.le_trans ht.1 (by decide)))
    rw [HM.out.2.1.get] at hv9
    go_simp
    refine hK.out _ _ hHeld (fun hSx => ?_)
    clear hSx hK K
    (try simp only [Act.put]); (try simp only [List.setIfInBounds_toArray]); (try simp only [List.set_cons_zero, List.set_cons_succ])
    focus (refine TkH 4 5 ?_)
    (try simp only [Act.put]); (try simp only [List.setIfInBounds_toArray]); (try simp only [List.set_cons_zero, List.set_cons_succ])
    refine wpAnyH_done (by kernel_rfl) ?_ _
    go_wp2_with fail
    go_meet
    exact ⟨_, _, nx9, ny9, ⟨S9, HM.out.2.2.1, ps9, hv9⟩, HM.out.2.2.2, hHeld⟩

  case rest =>
  obtain ⟨x, y, nx, ny, hv, hk, hbc⟩ := hcut
  have hH2 := HH.out.below hbc
  have HF2 := Lib.hid (HO.out.2.trans (HH.out.fr hbc))
  have Hr2 := Lib.hid ((hbc.block _ (row_lt Hr.out)).trans Hr.out)
  have HO2 := Lib.hid HO.out.1
  have cR := Lib.hid (HR.out wc x y nx ny hH2 hk)
  have hL := HLk.out x y _ hv
  clear hk hv HR HLk HT HH1 hH2 hbc HO
  have hq1 := fn_nil
  have hq2 := nil_nil
  subst hL
  all_goals (
    go_wp2_with (refine wpList_load_row rfl 24 (.tmp 3) rfl bx rfl 24 _ (0, 0) _ Hr2.out Tryz.underlying24 rfl tokSize ?_)
    refine cR.out.mono ?_
    rintro e w3 ⟨rfl, own3, H3, F3⟩
    have HX := Lib.hid (⟨H3, HF2.out.trans F3⟩ : _ ∧ _)
    clear cR F3 H3 HF2 Hr2
    go_wp2_with fail
    go_ret
    exact ⟨rfl, own3, HX.out.1, HX.out.2⟩)
set_option maxHeartbeats 1000000 in
set_option maxRecDepth 100000 in
theorem Body_end {m : Nat} {f : BS} (k : Nat) (t : TokL) (ht : TokOk t) (hkd : t.kind = 3) (hT : Lib.TabIs Tryz.prog w "strings.asciiSpace" .u8 Lib.asciiSpaceTab) (H : BX n own w bp ap sp lp b)
    (hlook : ∀ x y v, EndV t.name.data.toList v x y → v = .func (.func k) #[] #[] ∨ v = .nilFunc ∧ k = 32)
    (hcf : ∀ a W, Sem.run Tryz.prog (callFunc k a) W = .ok (.enter k a) W)
    (hrule : ∀ W, BX n own W bp ap sp lp b → Calls Tryz.prog k #[.pointer (some ⟨bp, 0, none⟩), tokV t] W (RX m own bp ap sp lp (.tuple #[]) f W)) (hnh : t.name ≠ ⟨#[104, 116, 109, 108]⟩) :
    Calls Tryz.prog 9 #[.pointer (some ⟨bp, 0, none⟩), tokV t] w (RX m own bp ap sp lp (.bool false) f w) := by
  obtain ⟨W1, hW1⟩ : ∃ W, W = w.alloc (.cells (tokR t) 24) := ⟨_, rfl⟩
  have hb1 : Below w.heap.size w W1 := by rw [hW1]; exact (Below.refl _ w).alloc (Nat.le_refl _) _
  have hr : W1.heap[w.heap.size]? = some (.cells (tokR t) 24 (0, 0)) := by rw [hW1]; exact heap_new _ _
  have hH := H.below hb1
  have hF := H.fr hb1
  have ho : own w.heap.size = 0 := H.L _ (Nat.le_refl _)
  have HW1 := Lib.hid hW1
  obtain ⟨bx, hbx⟩ : ∃ x, x = w.heap.size := ⟨_, rfl⟩
  rw [← hbx] at hr ho
  have HBX := Lib.hid hbx
  have HH1 := Lib.hid hb1
  clear hb1 hW1 H hbx
  have cN := Lib.hid (xArena hH)
  have HT : Hid (∀ U, Below W1.heap.size W1 U → Lib.TabIs Tryz.prog U "strings.asciiSpace" .u8 Lib.asciiSpaceTab) := Lib.hid (fun U hU => tab_below hT (below_call HH1.out hU))
  have HO := Lib.hid (⟨ho, hF⟩ : _ ∧ _)
  have HH := Lib.hid hH
  have Hr := Lib.hid hr
  have HR := Lib.hid hrule
  have HLk := Lib.hid hlook
  have HNH := Lib.hid hnh
  clear hnh
  have c0 := rowAt hr 0 (.int .i64 3) (by unfold tokR; rw [hkd]; rfl)
  have c1 := rowAt hr 1 (.string t.name) rfl
  clear hH hF hr ho hT hrule hlook hkd
  go_enter Tryz.func9, Tryz.ntmps9
  go_upto_region 1 with fail
  rw [← HW1.out, ← HBX.out]
  go_wp2_with fail
  refine cN.out.mono ?_
  rintro e w2 ⟨rfl, rfl⟩
  go_upto_region 18 with fail
  go_cut [6] (fun v wx => ∃ x y, EndV t.name.data.toList v x y ∧ (wx.cell? ⟨x, 0, none⟩ = some (.int .i64 1) ∧ wx.cell? ⟨y, 0, none⟩ = some (.int .i64 0)) ∧ Below W1.heap.size W1 wx)
  case first =>
    refine wp_region_held_drew (S := fun U => Below W1.heap.size W1 U) (by kernel_rfl) ((Below.refl _ W1).drew) (fun hHeld => ?_)
    generalize W1.drew = V at hHeld  ⊢
    refine TkH 1 51 ?_
    (try simp only [Act.put]); (try simp only [List.setIfInBounds_toArray]); (try simp only [List.set_cons_zero, List.set_cons_succ])
    refine TkD 2 (some 52) (v := ?_) rfl rfl ?_ ?_; rotate_left
    · (intro W hSw; (try dsimp only at hSw); have c1' := (hSw.cell (World.block_lt_of_cell? _ _ c1)).trans c1; go_simp; try with_reducible rfl)
    (try simp only [Act.put]); (try simp only [List.setIfInBounds_toArray]); (try simp only [List.set_cons_zero, List.set_cons_succ])
    refine wpAnyH_ready (rs := [0]) (by kernel_rfl) (by simp) ?_
    refine AllReadyH.cons rfl (fun K hK => ?_) AllReadyH.nil
    go_simp
    go_at_call 31
    refine (ends_any (HT.out _ hHeld)).mono ?_
    rintro e V9 ⟨b9, n9, D9, S9, x9, y9, rfl, ho9, hrd9, htb9, hb9, hk9⟩
    have HM := Lib.hid (⟨ho9, hrd9, htb9, hk9⟩ : _ ∧ _ ∧ _ ∧ _)
    have hB9 := hHeld.trans (hb9.mono hHeld.size)
    clear hHeld ho9 hrd9 htb9 hk9
    refine hK.out _ _ hB9 (fun hHeld => ?_)
    clear hK K hb9 hB9
    clear V
    obtain ⟨V, rfl⟩ : ∃ U, U = V9 := ⟨_, rfl⟩
    (try simp only [Act.put]); (try simp only [List.setIfInBounds_toArray]); (try simp only [List.set_cons_zero, List.set_cons_succ])
    refine wpAnyH_ready (rs := [3]) (by kernel_rfl) (by simp) ?_
    refine AllReadyH.cons rfl (fun K hK => ?_) AllReadyH.nil
    obtain ⟨v9, ps9, hrun, hv9⟩ := HM.out.1.lookup lawS Tryz.underlying65 (z := .nilFunc) (zd := .lit (.int .i64 (-1))) (zp := []) (by rfl) rfl (keyS_mk t.name (Nat.le_trans ht.1 (by decide)))
    rw [HM.out.2.1.get] at hv9
    go_simp
    refine hK.out _ _ hHeld (fun hSx => ?_)
    clear hSx hK K
    (try simp only [Act.put]); (try simp only [List.setIfInBounds_toArray]); (try simp only [List.set_cons_zero, List.set_cons_succ])
    focus (refine TkH 4 6 ?_)
    (try simp only [Act.put]); (try simp only [List.setIfInBounds_toArray]); (try simp only [List.set_cons_zero, List.set_cons_succ])
    refine wpAnyH_done (by kernel_rfl) ?_ _
    go_wp2_with fail
    go_meet
    exact ⟨_, _, ⟨S9, HM.out.2.2.1, ps9, hv9⟩, HM.out.2.2.2, hHeld⟩

  case rest =>
  obtain ⟨x, y, hv, hk, hbc⟩ := hcut
  have hH2 := HH.out.below hbc
  have HF2 := Lib.hid (HO.out.2.trans (HH.out.fr hbc))
  have Hr2 := Lib.hid ((hbc.block _ (row_lt Hr.out)).trans Hr.out)
  have HO2 := Lib.hid HO.out.1
  have cR := Lib.hid (HR.out wc hH2)
  have hL := HLk.out x y _ hv
  clear hk hv HR HLk HT HH1 hH2 hbc HO
  have hq1 := fn_nil
  have hq2 := nil_nil
  rcases hL with rfl | ⟨rfl, rfl⟩
  all_goals (
    go_wp2_with (refine wpList_load_row rfl 24 (.tmp 3) rfl bx rfl 24 _ (0, 0) _ Hr2.out Tryz.underlying24 rfl tokSize ?_)
    refine cR.out.mono ?_
    rintro e w3 ⟨rfl, own3, H3, F3⟩
    have c9 := rowAt (F3.keep Hr2.out (by rw [HO2.out]; rfl)) 1 (.string t.name) rfl
    have hnq : ¬ ByteArray.toList t.name = [104, 116, 109, 108] := fun h => HNH.out (ByteArray.ext (Array.toList_inj.1 (by rw [← Lib.toList_data, h])))
    have HX := Lib.hid (⟨H3, HF2.out.trans F3⟩ : _ ∧ _)
    clear cR F3 H3 HF2 Hr2 c0 c1
    go_wp2_with fail
    go_ret
    exact ⟨rfl, own3, HX.out.1, HX.out.2⟩)
set_option maxHeartbeats 1000000 in
set_option maxRecDepth 100000 in
theorem Body_endX {m : Nat} {f : BS} (k : Nat) (t : TokL) (ht : TokOk t) (hkd : t.kind = 3) (hT : Lib.TabIs Tryz.prog w "strings.asciiSpace" .u8 Lib.asciiSpaceTab) (H : BX n own w bp ap sp lp b)
    (hlook : ∀ x y v, EndV t.name.data.toList v x y → v = .func (.func k) #[] #[.pointer (some ⟨x, 0, none⟩)])
    (hcf : ∀ a W, Sem.run Tryz.prog (callFunc k a) W = .ok (.enter k a) W)
    (hrule : ∀ W x y, BX n own W bp ap sp lp b → (W.cell? ⟨x, 0, none⟩ = some (.int .i64 1) ∧ W.cell? ⟨y, 0, none⟩ = some (.int .i64 0)) → Calls Tryz.prog k #[.pointer (some ⟨bp, 0, none⟩), tokV t, .pointer (some ⟨x, 0, none⟩)] W (RX m own bp ap sp lp (.tuple #[]) f W)) (hnh : t.name ≠ ⟨#[104, 116, 109, 108]⟩) :
    Calls Tryz.prog 9 #[.pointer (some ⟨bp, 0, none⟩), tokV t] w (RX m own bp ap sp lp (.bool false) f w) := by
  obtain ⟨W1, hW1⟩ : ∃ W, W = w.alloc (.cells (tokR t) 24) := ⟨_, rfl⟩
  have hb1 : Below w.heap.size w W1 := by rw [hW1]; exact (Below.refl _ w).alloc (Nat.le_refl _) _
  have hr : W1.heap[w.heap.size]? = some (.cells (tokR t) 24 (0, 0)) := by rw [hW1]; exact heap_new _ _
  have hH := H.below hb1
  have hF := H.fr hb1
  have ho : own w.heap.size = 0 := H.L _ (Nat.le_refl _)
  have HW1 := Lib.hid hW1
  obtain ⟨bx, hbx⟩ : ∃ x, x = w.heap.size := ⟨_, rfl⟩
  rw [← hbx] at hr ho
  have HBX := Lib.hid hbx
  have HH1 := Lib.hid hb1
  clear hb1 hW1 H hbx
  have cN := Lib.hid (xArena hH)
  have HT : Hid (∀ U, Below W1.heap.size W1 U → Lib.TabIs Tryz.prog U "strings.asciiSpace" .u8 Lib.asciiSpaceTab) := Lib.hid (fun U hU => tab_below hT (below_call HH1.out hU))
  have HO := Lib.hid (⟨ho, hF⟩ : _ ∧ _)
  have HH := Lib.hid hH
  have Hr := Lib.hid hr
  have HR := Lib.hid hrule
  have HLk := Lib.hid hlook
  have HNH := Lib.hid hnh
  clear hnh
  have c0 := rowAt hr 0 (.int .i64 3) (by unfold tokR; rw [hkd]; rfl)
  have c1 := rowAt hr 1 (.string t.name) rfl
  clear hH hF hr ho hT hrule hlook hkd
  go_enter Tryz.func9, Tryz.ntmps9
  go_upto_region 1 with fail
  rw [← HW1.out, ← HBX.out]
  go_wp2_with fail
  refine cN.out.mono ?_
  rintro e w2 ⟨rfl, rfl⟩
  go_upto_region 18 with fail
  go_cut [6] (fun v wx => ∃ x y, EndV t.name.data.toList v x y ∧ (wx.cell? ⟨x, 0, none⟩ = some (.int .i64 1) ∧ wx.cell? ⟨y, 0, none⟩ = some (.int .i64 0)) ∧ Below W1.heap.size W1 wx)
  case first =>
    refine wp_region_held_drew (S := fun U => Below W1.heap.size W1 U) (by kernel_rfl) ((Below.refl _ W1).drew) (fun hHeld => ?_)
    generalize W1.drew = V at hHeld  ⊢
    refine TkH 1 51 ?_
    (try simp only [Act.put]); (try simp only [List.setIfInBounds_toArray]); (try simp only [List.set_cons_zero, List.set_cons_succ])
    refine TkD 2 (some 52) (v := ?_) rfl rfl ?_ ?_; rotate_left
    · (intro W hSw; (try dsimp only at hSw); have c1' := (hSw.cell (World.block_lt_of_cell? _ _ c1)).trans c1; go_simp; try with_reducible rfl)
    (try simp only [Act.put]); (try simp only [List.setIfInBounds_toArray]); (try simp only [List.set_cons_zero, List.set_cons_succ])
    refine wpAnyH_ready (rs := [0]) (by kernel_rfl) (by simp) ?_
    refine AllReadyH.cons rfl (fun K hK => ?_) AllReadyH.nil
    go_simp
    go_at_call 31
    refine (ends_any (HT.out _ hHeld)).mono ?_
    rintro e V9 ⟨b9, n9, D9, S9, x9, y9, rfl, ho9, hrd9, htb9, hb9, hk9⟩
    have HM := Lib.hid (⟨ho9, hrd9, htb9, hk9⟩ : _ ∧ _ ∧ _ ∧ _)
    have hB9 := hHeld.trans (hb9.mono hHeld.size)
    clear hHeld ho9 hrd9 htb9 hk9
    refine hK.out _ _ hB9 (fun hHeld => ?_)
    clear hK K hb9 hB9
    clear V
    obtain ⟨V, rfl⟩ : ∃ U, U = V9 := ⟨_, rfl⟩
    (try simp only [Act.put]); (try simp only [List.setIfInBounds_toArray]); (try simp only [List.set_cons_zero, List.set_cons_succ])
    refine wpAnyH_ready (rs := [3]) (by kernel_rfl) (by simp) ?_
    refine AllReadyH.cons rfl (fun K hK => ?_) AllReadyH.nil
    obtain ⟨v9, ps9, hrun, hv9⟩ := HM.out.1.lookup lawS Tryz.underlying65 (z := .nilFunc) (zd := .lit (.int .i64 (-1))) (zp := []) (by rfl) rfl (keyS_mk t.name (Nat.le_trans ht.1 (by decide)))
    rw [HM.out.2.1.get] at hv9
    go_simp
    refine hK.out _ _ hHeld (fun hSx => ?_)
    clear hSx hK K
    (try simp only [Act.put]); (try simp only [List.setIfInBounds_toArray]); (try simp only [List.set_cons_zero, List.set_cons_succ])
    focus (refine TkH 4 6 ?_)
    (try simp only [Act.put]); (try simp only [List.setIfInBounds_toArray]); (try simp only [List.set_cons_zero, List.set_cons_succ])
    refine wpAnyH_done (by kernel_rfl) ?_ _
    go_wp2_with fail
    go_meet
    exact ⟨_, _, ⟨S9, HM.out.2.2.1, ps9, hv9⟩, HM.out.2.2.2, hHeld⟩

  case rest =>
  obtain ⟨x, y, hv, hk, hbc⟩ := hcut
  have hH2 := HH.out.below hbc
  have HF2 := Lib.hid (HO.out.2.trans (HH.out.fr hbc))
  have Hr2 := Lib.hid ((hbc.block _ (row_lt Hr.out)).trans Hr.out)
  have HO2 := Lib.hid HO.out.1
  have cR := Lib.hid (HR.out wc x y hH2 hk)
  have hL := HLk.out x y _ hv
  clear hk hv HR HLk HT HH1 hH2 hbc HO
  have hq1 := fn_nil
  have hq2 := nil_nil
  subst hL
  all_goals (
    go_wp2_with (refine wpList_load_row rfl 24 (.tmp 3) rfl bx rfl 24 _ (0, 0) _ Hr2.out Tryz.underlying24 rfl tokSize ?_)
    refine cR.out.mono ?_
    rintro e w3 ⟨rfl, own3, H3, F3⟩
    have c9 := rowAt (F3.keep Hr2.out (by rw [HO2.out]; rfl)) 1 (.string t.name) rfl
    have hnq : ¬ ByteArray.toList t.name = [104, 116, 109, 108] := fun h => HNH.out (ByteArray.ext (Array.toList_inj.1 (by rw [← Lib.toList_data, h])))
    have HX := Lib.hid (⟨H3, HF2.out.trans F3⟩ : _ ∧ _)
    clear cR F3 H3 HF2 Hr2 c0 c1
    go_wp2_with fail
    go_ret
    exact ⟨rfl, own3, HX.out.1, HX.out.2⟩)
end
end Go.Proofs.YtnbdalohlldnbaaGreatDoor

namespace Go.Proofs.YtnbdalohlldnbaaGreatDoor
open Go.RowKit Bd
attribute [local go_sem ↓] Go.wp_at_zero Go.wp_at_succ
section
variable {n : Nat} {own : Nat → Nat} {w : World} {bp ap sp lp : Nat} {b : BS}
set_option maxHeartbeats 1000000 in
set_option maxRecDepth 100000 in
theorem Body_chars (t : TokL) (hs : t.text.size ≤ 1000) (hkd : t.kind = 7) (hn : n + 65 ≤ 90000) (H : BX n own w bp ap sp lp b) :
    Calls Tryz.prog 9 #[.pointer (some ⟨bp, 0, none⟩), tokV t] w (RX (n + 65) own bp ap sp lp (.bool false) (chB b t) w) := by
  obtain ⟨W1, hW1⟩ : ∃ W, W = w.alloc (.cells (tokR t) 24) := ⟨_, rfl⟩
  have hb1 : Below w.heap.size w W1 := by rw [hW1]; exact (Below.refl _ w).alloc (Nat.le_refl _) _
  have hr : W1.heap[w.heap.size]? = some (.cells (tokR t) 24 (0, 0)) := by rw [hW1]; exact heap_new _ _
  have hH := H.below hb1
  have hF := H.fr hb1
  have ho : own w.heap.size = 0 := H.L _ (Nat.le_refl _)
  have HW1 := Lib.hid hW1
  obtain ⟨bx, hbx⟩ : ∃ x, x = w.heap.size := ⟨_, rfl⟩
  rw [← hbx] at hr ho
  have HBX := Lib.hid hbx
  clear hb1 hW1 H hbx
  have cN := Lib.hid (xArena hH)
  have HO := Lib.hid (⟨ho, hF⟩ : _ ∧ _)
  have HH := Lib.hid hH
  have Hr := Lib.hid hr
  have c0 := rowAt hr 0 (.int .i64 7) (by unfold tokR; rw [hkd]; rfl)
  clear hH hF hr ho hkd
  go_enter Tryz.func9, Tryz.ntmps9
  go_upto_region 1 with fail
  rw [← HW1.out, ← HBX.out]
  go_wp2_with fail
  refine cN.out.mono ?_
  rintro e w2 ⟨rfl, rfl⟩
  have cR := Lib.hid (Rebuild_any (by omega) HH.out)
  go_upto_region 6 with fail
  go_wp2_with fail
  refine cR.out.mono ?_
  rintro e w3 ⟨rfl, own3, H3, F3⟩
  have hr3 := F3.keep Hr.out (by rw [HO.out.1]; rfl)
  have c2 := rowAt hr3 2 (.string t.text) rfl
  have HF3 := Lib.hid (HO.out.2.trans F3)
  have cC := Lib.hid (xChars t.text hs (by omega) H3)
  clear cR F3 HO HH Hr c0 hr3 cN H3
  go_wp2_with fail
  refine cC.out.mono ?_
  rintro e w4 ⟨rfl, own4, H4, F4⟩
  have HX := Lib.hid (⟨H4, HF3.out.trans F4⟩ : _ ∧ _)
  clear cC HF3 F4 H4 c2
  go_wp2_with fail
  go_ret
  exact ⟨rfl, own4, HX.out.1, HX.out.2⟩
set_option maxHeartbeats 1000000 in
set_option maxRecDepth 100000 in
theorem Step_body {m : Nat} {f : BS} (q : Bool) (t : TokL) (hmd : b.mode = 6) (H : BX n own w bp ap sp lp b)
    (hB : ∀ W, BX n own W bp ap sp lp b → Below w.heap.size w W → Calls Tryz.prog 9 #[.pointer (some ⟨bp, 0, none⟩), tokV t] W (RX m own bp ap sp lp (.bool q) f W)) :
    Calls Tryz.prog 8 #[.pointer (some ⟨bp, 0, none⟩), tokV t] w (RX m own bp ap sp lp (.bool q) f w) := by
  obtain ⟨W1, hW1⟩ : ∃ W, W = w.alloc (.cells (tokR t) 24) := ⟨_, rfl⟩
  have hb1 : Below w.heap.size w W1 := by rw [hW1]; exact (Below.refl _ w).alloc (Nat.le_refl _) _
  have hr : W1.heap[w.heap.size]? = some (.cells (tokR t) 24 (0, 0)) := by rw [hW1]; exact heap_new _ _
  have hH := H.below hb1
  have hF := H.fr hb1
  have ho : own w.heap.size = 0 := H.L _ (Nat.le_refl _)
  have HW1 := Lib.hid hW1
  obtain ⟨bx, hbx⟩ : ∃ x, x = w.heap.size := ⟨_, rfl⟩
  rw [← hbx] at hr ho
  have HBX := Lib.hid hbx
  have HH1 := Lib.hid hb1
  clear hb1 hW1 H hbx
  have cN := Lib.hid (xArena hH)
  have cM := xMode hH
  rw [hmd] at cM
  have CM := Lib.hid cM
  have cB := Lib.hid (hB W1 hH HH1.out)
  have HO := Lib.hid (⟨ho, hF⟩ : _ ∧ _)
  have Hr := Lib.hid hr
  clear hH hF hr ho hmd hB cM
  go_enter Tryz.func8, Tryz.ntmps8
  go_upto_region 1 with fail
  rw [← HW1.out, ← HBX.out]
  go_wp2_with fail
  refine cN.out.mono ?_
  rintro e w2 ⟨rfl, rfl⟩
  go_wp2_with fail
  refine CM.out.mono ?_
  rintro e w2 ⟨rfl, rfl⟩
  go_wp2_with (refine wpList_load_row rfl 24 (.tmp 3) rfl bx rfl 24 _ (0, 0) _ Hr.out Tryz.underlying24 rfl tokSize ?_)
  refine cB.out.mono ?_
  rintro e w3 ⟨rfl, own3, H3, F3⟩
  have HX := Lib.hid (⟨H3, HO.out.2.trans F3⟩ : _ ∧ _)
  clear cN CM cB HO Hr H3 F3
  go_wp2_with fail
  go_ret
  exact ⟨rfl, own3, HX.out.1, HX.out.2⟩
end
end Go.Proofs.YtnbdalohlldnbaaGreatDoor

namespace Go.Proofs.YtnbdalohlldnbaaGreatDoor
open Go.RowKit Bd
attribute [local go_sem ↓] Go.wp_at_zero Go.wp_at_succ
theorem EnvT.keep {own own' : Nat → Nat} {w w' : World} (h : EnvT own w) (hf : Fr cBu own own' w w') : EnvT own' w' := by
  have hT := h.t
  have hlt : (1 : Nat) < w.heap.size := by
    unfold Lib.TabIs World.var? at hT
    have hg : (Tryz.prog).globalNamed "strings.asciiSpace" = some 1 := by kernel_rfl
    rw [hg] at hT
    simp only [Option.bind_some] at hT
    rcases Nat.lt_or_ge (1 : Nat) w.heap.size with h | h
    · exact h
    · rw [Array.getElem?_eq_none h] at hT; cases hT
  exact ⟨tab_keep hT (hf.block _ hlt (by rw [h.o]; rfl)), (hf.old _ hlt).trans h.o⟩
set_option maxHeartbeats 1000000 in
set_option maxRecDepth 100000 in
theorem tstart_any (nm : Ba) (w : World) : Calls Tryz.prog 14 #[.string nm] w fun e w' => e = .returned (tokV (startT nm)) ∧ Below w.heap.size w w' := by
  obtain ⟨W, hW⟩ : ∃ W, W = w.alloc (.cells zeroTk 24) := ⟨_, rfl⟩
  have hb1 : Below w.heap.size w W := by rw [hW]; exact (Below.refl _ w).alloc (Nat.le_refl _) _
  have r2 : W.heap[w.heap.size]? = some (.cells zeroTk 24 (0, 0)) := by rw [hW]; exact heap_new _ _
  have HW := Lib.hid hW
  have R2 := Lib.hid r2
  have HB := Lib.hid (below_setRow (cs := #[.int .i64 2, .string nm, .string ⟨#[]⟩, .slice none 0 0, .bool false, .bool false, .bool false, .int .i64 0, .int .i64 0]) hb1 (Nat.le_refl w.heap.size))
  clear hW hb1 r2
  go_enter Tryz.func14, Tryz.ntmps14
  go_upto_region 1 with fail
  rw [← HW.out]
  go_wp2_with (refine wpList_store_row rfl 24 (.tmp 2) (.tmp 4) rfl w.heap.size #[.int .i64 2, .string nm, .string ⟨#[]⟩, .slice none 0 0, .bool false, .bool false, .bool false, .int .i64 0, .int .i64 0] rfl rfl 24 _ R2.out tokSize rfl (by simp [Value.oneCell']) ?_)
  refine bodyPost_ret (results_cell_row (P := Tryz.prog) (p := 2) rfl _ _ w.heap.size 24 #[.int .i64 2, .string nm, .string ⟨#[]⟩, .slice none 0 0, .bool false, .bool false, .bool false, .int .i64 0, .int .i64 0] (0, 0) _ rfl (setRow_heap _ _ _ _ _ _ R2.out) Tryz.underlying24 rfl tokSize) rfl ?_
  exact ⟨rfl, HB.out⟩
set_option maxHeartbeats 1000000 in
set_option maxRecDepth 100000 in
theorem tend_any (nm : Ba) (w : World) : Calls Tryz.prog 13 #[.string nm] w fun e w' => e = .returned (tokV (endT nm)) ∧ Below w.heap.size w w' := by
  obtain ⟨W, hW⟩ : ∃ W, W = w.alloc (.cells zeroTk 24) := ⟨_, rfl⟩
  have hb1 : Below w.heap.size w W := by rw [hW]; exact (Below.refl _ w).alloc (Nat.le_refl _) _
  have r2 : W.heap[w.heap.size]? = some (.cells zeroTk 24 (0, 0)) := by rw [hW]; exact heap_new _ _
  have HW := Lib.hid hW
  have R2 := Lib.hid r2
  have HB := Lib.hid (below_setRow (cs := #[.int .i64 3, .string nm, .string ⟨#[]⟩, .slice none 0 0, .bool false, .bool false, .bool false, .int .i64 0, .int .i64 0]) hb1 (Nat.le_refl w.heap.size))
  clear hW hb1 r2
  go_enter Tryz.func13, Tryz.ntmps13
  go_upto_region 1 with fail
  rw [← HW.out]
  go_wp2_with (refine wpList_store_row rfl 24 (.tmp 2) (.tmp 4) rfl w.heap.size #[.int .i64 3, .string nm, .string ⟨#[]⟩, .slice none 0 0, .bool false, .bool false, .bool false, .int .i64 0, .int .i64 0] rfl rfl 24 _ R2.out tokSize rfl (by simp [Value.oneCell']) ?_)
  refine bodyPost_ret (results_cell_row (P := Tryz.prog) (p := 2) rfl _ _ w.heap.size 24 #[.int .i64 3, .string nm, .string ⟨#[]⟩, .slice none 0 0, .bool false, .bool false, .bool false, .int .i64 0, .int .i64 0] (0, 0) _ rfl (setRow_heap _ _ _ _ _ _ R2.out) Tryz.underlying24 rfl tokSize) rfl ?_
  exact ⟨rfl, HB.out⟩
set_option maxHeartbeats 1000000 in
set_option maxRecDepth 100000 in
theorem tchars_any (nm : Ba) (w : World) : Calls Tryz.prog 15 #[.string nm] w fun e w' => e = .returned (tokV (charsT nm)) ∧ Below w.heap.size w w' := by
  obtain ⟨W, hW⟩ : ∃ W, W = w.alloc (.cells zeroTk 24) := ⟨_, rfl⟩
  have hb1 : Below w.heap.size w W := by rw [hW]; exact (Below.refl _ w).alloc (Nat.le_refl _) _
  have r2 : W.heap[w.heap.size]? = some (.cells zeroTk 24 (0, 0)) := by rw [hW]; exact heap_new _ _
  have HW := Lib.hid hW
  have R2 := Lib.hid r2
  have HB := Lib.hid (below_setRow (cs := #[.int .i64 7, .string ⟨#[]⟩, .string nm, .slice none 0 0, .bool false, .bool false, .bool false, .int .i64 0, .int .i64 0]) hb1 (Nat.le_refl w.heap.size))
  clear hW hb1 r2
  go_enter Tryz.func15, Tryz.ntmps15
  go_upto_region 1 with fail
  rw [← HW.out]
  go_wp2_with (refine wpList_store_row rfl 24 (.tmp 2) (.tmp 4) rfl w.heap.size #[.int .i64 7, .string ⟨#[]⟩, .string nm, .slice none 0 0, .bool false, .bool false, .bool false, .int .i64 0, .int .i64 0] rfl rfl 24 _ R2.out tokSize rfl (by simp [Value.oneCell']) ?_)
  refine bodyPost_ret (results_cell_row (P := Tryz.prog) (p := 2) rfl _ _ w.heap.size 24 #[.int .i64 7, .string ⟨#[]⟩, .string nm, .slice none 0 0, .bool false, .bool false, .bool false, .int .i64 0, .int .i64 0] (0, 0) _ rfl (setRow_heap _ _ _ _ _ _ R2.out) Tryz.underlying24 rfl tokSize) rfl ?_
  exact ⟨rfl, HB.out⟩
/-- What does does with one token, where Step asks for it once more at most once. -/
def doesT (stp : BS → TokL → BS × Bool) (b : BS) (t : TokL) : BS := if (stp b t).2 then (stp (stp b t).1 t).1 else (stp b t).1
/-- The tokens lie there. -/
def ToksAt (w : World) (g : Nat) (ts : List TokL) : Prop := ∀ j t, ts[j]? = some t → ∀ k u, (tokR t)[k]? = some u → w.cell? ⟨g, j * 9 + k, none⟩ = some u
theorem tok9 {w : World} {g j : Nat} {ts : List TokL} {t : TokL} (h : ToksAt w g ts) (hj : ts[j]? = some t) :
    w.cell? ⟨g, j * 9, none⟩ = some (.int .i64 t.kind) ∧ w.cell? ⟨g, j * 9 + 1, none⟩ = some (.string t.name) ∧ w.cell? ⟨g, j * 9 + 2, none⟩ = some (.string t.text) ∧ w.cell? ⟨g, j * 9 + 3, none⟩ = some (.slice none 0 0) ∧ w.cell? ⟨g, j * 9 + 4, none⟩ = some (.bool t.dup) ∧ w.cell? ⟨g, j * 9 + 5, none⟩ = some (.bool t.self) ∧ w.cell? ⟨g, j * 9 + 6, none⟩ = some (.bool t.quirks) ∧ w.cell? ⟨g, j * 9 + 7, none⟩ = some (.int .i64 t.frm) ∧ w.cell? ⟨g, j * 9 + 8, none⟩ = some (.int .i64 t.till) :=
  ⟨h j t hj 0 _ rfl, h j t hj 1 _ rfl, h j t hj 2 _ rfl, h j t hj 3 _ rfl, h j t hj 4 _ rfl, h j t hj 5 _ rfl, h j t hj 6 _ rfl, h j t hj 7 _ rfl, h j t hj 8 _ rfl⟩
theorem ToksAt.keep {own own' : Nat → Nat} {w w' : World} {g : Nat} {ts : List TokL} (h : ToksAt w g ts) (hf : Fr cBu own own' w w') (ho : own g = 0) : ToksAt w' g ts :=
  fun j t hj k u hk => Fr_cell hf (h j t hj k u hk) (by show cBu (own g) = false; rw [ho]; rfl)
/-- Where does stands: the first i tokens are done. -/
structure DoesAt (n : Nat) (own : Nat → Nat) (w : World) (bp ap sp lp : Nat) (b : BS) (wr : World) : Prop where
  ex : ∃ own', BX n own' wr bp ap sp lp b ∧ Fr cBu own own' w wr
theorem DoesAt.mono {n m : Nat} {own : Nat → Nat} {w : World} {bp ap sp lp : Nat} {b : BS} {wr : World} (h : DoesAt n own w bp ap sp lp b wr) (hm : n ≤ m) (h2 : m ≤ 90000) : DoesAt m own w bp ap sp lp b wr := by
  obtain ⟨o, h3, h4⟩ := h.ex
  exact ⟨o, h3.mono hm h2, h4⟩
/-- .. and within one token: how often Step has asked for it again. -/
structure DoK (n c : Nat) (own : Nat → Nat) (w : World) (bp ap sp lp : Nat) (bi b1 : BS) (q1 : Bool) (k : Nat) (wr : World) : Prop where
  ex : (k = 0 ∧ DoesAt n own w bp ap sp lp bi wr) ∨ (k = 1 ∧ q1 = true ∧ DoesAt (n + c) own w bp ap sp lp b1 wr)
section
variable {n : Nat} {own : Nat → Nat} {w : World} {bp ap sp lp : Nat} {b : BS}
set_option maxHeartbeats 2000000 in
set_option maxRecDepth 100000 in
theorem does_any (stp : BS → TokL → BS × Bool) (Inv : BS → Prop) (c : Nat) (ts : List TokL) {g cp : Nat} (hts : ToksAt w g ts) (hg : own g = 0) (hlen : ts.length ≤ 1000)
    (hstep : ∀ n own W b t, t ∈ ts → Inv b → n + c ≤ 90000 → BX n own W bp ap sp lp b → EnvT own W → Calls Tryz.prog 8 #[.pointer (some ⟨bp, 0, none⟩), tokV t] W (RX (n + c) own bp ap sp lp (.bool (stp b t).2) (stp b t).1 W))
    (hinv : ∀ b t, t ∈ ts → Inv b → Inv (stp b t).1) (hstop : ∀ b t, t ∈ ts → Inv b → (stp b t).2 = true → (stp (stp b t).1 t).2 = false)
    (hI : Inv b) (hn : n + 2 * c * ts.length ≤ 90000) (hT : EnvT own w) (H : BX n own w bp ap sp lp b) :
    Calls Tryz.prog 12 #[.pointer (some ⟨bp, 0, none⟩), .slice (some ⟨g, 0, none⟩) ts.length cp] w (RX (n + 2 * c * ts.length) own bp ap sp lp (.tuple #[]) (ts.foldl (doesT stp) b) w) := by
  have HS := Lib.hid hstep
  have HI := Lib.hid (⟨hinv, hstop⟩ : _ ∧ _)
  have HB := Lib.hid (⟨hts, hg, hI, hT, H⟩ : _ ∧ _ ∧ _ ∧ _ ∧ _)
  have hInvF : Hid (∀ i, Inv ((ts.take i).foldl (doesT stp) b)) := Lib.hid (by
    have : ∀ (l : List TokL) b, (∀ t ∈ l, t ∈ ts) → Inv b → Inv (l.foldl (doesT stp) b) := by
      intro l
      induction l with
      | nil => intro b _ h; exact h
      | cons t r ih =>
        intro b hl h
        refine ih _ (fun u hu => hl u (List.mem_cons_of_mem _ hu)) ?_
        have ht := hl t (List.mem_cons_self ..)
        unfold doesT
        split
        · exact hinv _ _ ht (hinv _ _ ht h)
        · exact hinv _ _ ht h
    exact fun i => this _ _ (fun t ht => List.mem_of_mem_take ht) hI)
  have H0 : Hid (DoesAt n own w bp ap sp lp b w) := Lib.hid ⟨own, H, Fr.refl _ H.L⟩
  have hn' := Lib.hid hn
  clear hts hg hI hT H hstep hinv hstop hn
  obtain ⟨L, hL⟩ : ∃ L, L = ts.length := ⟨_, rfl⟩
  rw [← hL] at hlen ⊢
  have HL := Lib.hid hL
  clear hL
  go_enter Tryz.func12, Tryz.ntmps12
  go_wp2_with fail
  go_loopw [4] (fun v wr => ∃ i : Nat, v = .int .i64 i ∧ i ≤ L ∧ Hid (DoesAt (n + 2 * c * i) own w bp ap sp lp ((ts.take i).foldl (doesT stp) b) wr)) (fun v _ => L - (intOf v).toNat)
  case atStart => exact ⟨0, rfl, Nat.zero_le _, H0⟩
  case round =>
    obtain ⟨i, rfl, hi, HD⟩ := hrel
    clear H0
    by_cases hlt : i < L
    · have hltI : (i : Int) < (L : Int) := by omega
      have hi0 : (0 : Int) ≤ (i : Int) := by omega
      obtain ⟨t, ht⟩ : ∃ t, ts[i]? = some t := ⟨_, List.getElem?_eq_getElem (by rw [← HL.out]; exact hlt)⟩
      have htm : t ∈ ts := List.mem_of_getElem? ht
      have hst : (ts.take (i + 1)).foldl (doesT stp) b = doesT stp ((ts.take i).foldl (doesT stp) b) t := by
        rw [List.take_add_one, ht, List.foldl_append]; rfl
      have hIv := hInvF.out i
      generalize hbi : (ts.take i).foldl (doesT stp) b = bi at hst hIv HD
      have hci : 2 * c * (i + 1) ≤ 2 * c * L := Nat.mul_le_mul_left _ (by omega)
      have hN2 : n + 2 * c * i + c + c ≤ 90000 := by have := hn'.out; rw [← HL.out] at this; rw [Nat.mul_succ] at hci; omega
      obtain ⟨b1, hb1⟩ : ∃ b1, b1 = (stp bi t).1 := ⟨_, rfl⟩
      obtain ⟨q1, hq1⟩ : ∃ q1, q1 = (stp bi t).2 := ⟨_, rfl⟩
      obtain ⟨b2, hb2⟩ : ∃ b2, b2 = (stp b1 t).1 := ⟨_, rfl⟩
      have HT := Lib.hid (⟨ht, htm, hst, hIv, hci, hN2⟩ : _ ∧ _ ∧ _ ∧ _ ∧ _ ∧ _)
      have HQ := Lib.hid (⟨hb1, hq1, hb2⟩ : _ ∧ _ ∧ _)
      have HD0 : Hid (DoK (n + 2 * c * i) c own w bp ap sp lp bi b1 q1 0 wr) := Lib.hid ⟨Or.inl ⟨rfl, HD.out⟩⟩
      clear ht htm hst hIv hci hN2 hb1 hq1 hb2 HD hbi
      go_wp2_with fail
      go_loopw [5] (fun v wr => ∃ k : Nat, v = .int .i64 k ∧ k ≤ 1 ∧ Hid (DoK (n + 2 * c * i) c own w bp ap sp lp bi b1 q1 k wr)) (fun v _ => 10 - (intOf v).toNat)
      case atStart => exact ⟨0, rfl, Nat.zero_le _, HD0⟩
      case round =>
        obtain ⟨k, rfl, hk, HK⟩ := hrel
        clear HD0
        have hkI : (k : Int) < 10 := by omega
        have hk0 : (0 : Int) ≤ (k : Int) := by omega
        rcases HK.out.ex with ⟨rfl, own1, H1, F1⟩ | ⟨rfl, hq, own1, H1, F1⟩
        · have hta := HB.out.1.keep F1 HB.out.2.1
          have hE := HB.out.2.2.2.1.keep F1
          have hC := HS.out _ own1 wr bi t HT.out.2.1 HT.out.2.2.2.1 (by have := HT.out.2.2.2.2.2; omega) H1 hE
          rw [← HQ.out.1, ← HQ.out.2.1] at hC
          have HC := Lib.hid hC
          obtain ⟨k0, k1, k2, k3, k4, k5, k6, k7, k8⟩ := tok9 hta HT.out.1
          have HF := Lib.hid F1
          clear hta hE hC F1 H1 HK
          go_wp2_with fail
          refine HC.out.mono ?_
          rintro e w2 ⟨rfl, own2, H2, F2⟩
          have HX : Hid (DoesAt (n + 2 * c * i + c) own w bp ap sp lp b1 w2) := Lib.hid ⟨own2, H2, HF.out.trans F2⟩
          clear HC H2 F2 HF k0 k1 k2 k3 k4 k5 k6 k7 k8
          cases q1 with
          | true =>
            go_wp2_with fail
            go_roundw
            case rel => exact ⟨1, by go_num, Nat.le_refl _, Lib.hid ⟨Or.inr ⟨rfl, rfl, HX.out⟩⟩⟩
            case measure => simp [intOf]
          | false =>
            go_wp2_with fail
            go_roundw
            case rel =>
              refine ⟨i + 1, by go_num, by omega, Lib.hid ?_⟩
              rw [HT.out.2.2.1, show doesT stp bi t = b1 by unfold doesT; rw [← HQ.out.2.1, HQ.out.1]; rfl]
              have h1 := HT.out.2.2.2.2.1
              have h2 := HT.out.2.2.2.2.2
              exact HX.out.mono (by rw [Nat.mul_succ]; omega) (by rw [Nat.mul_succ]; omega)
            case measure => simp [intOf]; omega
        · have hta := HB.out.1.keep F1 HB.out.2.1
          have hE := HB.out.2.2.2.1.keep F1
          have hsp := HI.out.2 bi t HT.out.2.1 HT.out.2.2.2.1 (by rw [← HQ.out.2.1]; exact hq)
          rw [← HQ.out.1] at hsp
          have hC := HS.out _ own1 wr b1 t HT.out.2.1 (by rw [HQ.out.1]; exact HI.out.1 _ _ HT.out.2.1 HT.out.2.2.2.1) (by have := HT.out.2.2.2.2.2; omega) H1 hE
          rw [← HQ.out.2.2, hsp] at hC
          have HC := Lib.hid hC
          obtain ⟨k0, k1, k2, k3, k4, k5, k6, k7, k8⟩ := tok9 hta HT.out.1
          have HF := Lib.hid F1
          have Hq := Lib.hid hq
          clear hta hE hC F1 H1 HK hsp hq
          go_wp2_with fail
          refine HC.out.mono ?_
          rintro e w2 ⟨rfl, own2, H2, F2⟩
          have HX : Hid (DoesAt (n + 2 * c * i + c + c) own w bp ap sp lp b2 w2) := Lib.hid ⟨own2, H2, HF.out.trans F2⟩
          clear HC H2 F2 HF k0 k1 k2 k3 k4 k5 k6 k7 k8
          go_wp2_with fail
          go_roundw
          case rel =>
            refine ⟨i + 1, by go_num, by omega, Lib.hid ?_⟩
            rw [HT.out.2.2.1, show doesT stp bi t = b2 by unfold doesT; rw [← HQ.out.2.1, Hq.out, ← HQ.out.1, HQ.out.2.2]; rfl]
            have h1 := HT.out.2.2.2.2.1
            have h2 := HT.out.2.2.2.2.2
            exact HX.out.mono (by rw [Nat.mul_succ]; omega) (by rw [Nat.mul_succ]; omega)
          case measure => simp [intOf]; omega
    · have hltI : ¬ (i : Int) < (L : Int) := by omega
      have hiL : i = L := by omega
      have HX := HD.out
      rw [hiL, List.take_of_length_le (by rw [← HL.out]; exact Nat.le_refl _)] at HX
      have HX2 := Lib.hid HX
      clear HX HD HS HI HB
      go_wp2_with fail
      go_end0
      obtain ⟨own2, H2, F2⟩ := HX2.out.ex
      exact ⟨rfl, own2, H2, F2⟩
end
end Go.Proofs.YtnbdalohlldnbaaGreatDoor

namespace Go.Proofs.YtnbdalohlldnbaaGreatDoor
open Go.RowKit Bd
attribute [local go_sem ↓] Go.wp_at_zero Go.wp_at_succ
theorem fold_size (g : Int → Ba) : ∀ (ks : List Int) (s : Ba), s.size ≤ (ks.foldl (fun s k => s ++ g k) s).size
  | [], s => Nat.le_refl _
  | k :: r, s => by
    have := fold_size g r (s ++ g k)
    rw [ByteArray.size_append] at this
    show s.size ≤ (r.foldl (fun s k => s ++ g k) (s ++ g k)).size
    omega
theorem fold_take (g : Int → Ba) (ks : List Int) (s : Ba) (j : Nat) : ((ks.take j).foldl (fun s k => s ++ g k) s).size ≤ (ks.foldl (fun s k => s ++ g k) s).size := by
  conv => rhs; rw [← List.take_append_drop j ks, List.foldl_append]
  exact fold_size g _ _
theorem steps_kid {a : Ar} (h : ArOk a) {j c : Nat} {y : NodeL} (hc : a[c]? = some y) (hp : y.parent = (j : Int)) : steps a a.length (c : Int) = steps a a.length (j : Int) + 1 := by
  have h1 := h.endz _ (has_nat hc)
  obtain ⟨m, hm, _, h3⟩ := h1.has (by omega)
  rw [h.up_eq hc, hp] at h3
  rw [steps_eq h3 (show m ≤ a.length by omega)]
  conv => lhs; rw [hm]
  show (if (c : Int) < 0 then 0 else steps a m (up a (c : Int)) + 1) = _
  rw [if_neg (by omega), h.up_eq hc, hp]
theorem TreeAt.form {w : World} {B : Nat} {v : Value} {l : List NB} (h : TreeAt w B v l) : ∃ a c, v = .slice a l.length c := by
  rcases h.s.2 with ⟨rfl, h0⟩ | ⟨g, cap, cur, rfl, _⟩
  · exact ⟨none, 0, by rw [h0]⟩
  · exact ⟨_, _, rfl⟩
theorem TreeAt.cells {w : World} {B : Nat} {v : Value} {l : List NB} (h : TreeAt w B v l) {j : Nat} {x : NB} (hj : l[j]? = some x) : ∃ g cap, v = .slice (some ⟨g, 0, none⟩) l.length cap ∧ l.length ≤ cap ∧ g < w.heap.size ∧ ∀ k u, x.row[k]? = some u → w.cell? ⟨g, j * 11 + k, none⟩ = some u := by
  rcases h.s.2 with ⟨rfl, h0⟩ | ⟨g, cap, cur, rfl, _, hg, hc, _, _, ht⟩
  · have := (List.getElem?_eq_some_iff.1 hj).1; omega
  · refine ⟨g, cap, rfl, hc, heap_lt hg, fun k u hk => ?_⟩
    have h1 := nrows_at l j x hj k u hk
    rw [← ht] at h1
    have h2 : j * 11 + k < (cur.toList.take (l.length * 11)).length := (List.getElem?_eq_some_iff.1 h1).1
    rw [List.length_take] at h2
    rw [List.getElem?_take, if_pos (by omega)] at h1
    exact rowAt hg _ u (by rw [← Array.getElem?_toList]; exact h1)
set_option maxHeartbeats 4000000 in
set_option maxRecDepth 100000 in
theorem shape_any (l : List NB) (ha : ArOk (l.map NB.n)) (hll : l.length ≤ 100000) : ∀ (f : Nat) (i : Int) (w : World) (B : Nat) (v : Value), TreeAt w B v l → (has (l.map NB.n) i = true → l.length + 1 ≤ steps (l.map NB.n) l.length i + f) → (shapeF (l.map NB.n) f i).size ≤ 1000000000 →
    Calls Tryz.prog 16 #[v, .int .i64 i] w fun e w' => e = .returned (.string (shapeF (l.map NB.n) f i)) ∧ Below w.heap.size w w' := by
  intro f
  induction f with
  | zero =>
    intro i w B v hT hf _
    have hh : has (l.map NB.n) i = false := by
      cases hh : has (l.map NB.n) i with
      | false => rfl
      | true =>
        have h1 := hf hh
        have := steps_le (l.map NB.n) l.length i
        omega
    obtain ⟨a, c, rfl⟩ := hT.form
    unfold has at hh
    rw [List.length_map] at hh
    have hR : shapeF (l.map NB.n) 0 i = em := rfl
    rw [hR]
    generalize l.length = n at *
    clear hT hf hR ha
    by_cases h0 : i < 0
    · go_enter Tryz.func16, Tryz.ntmps16
      go_wp2_with fail
      go_ret
      exact ⟨rfl, Below.refl _ _⟩
    · have h1 : (n : Int) ≤ i := by
        by_cases h1 : i < (n : Int)
        · simp [h1, show (0 : Int) ≤ i by omega] at hh
        · omega
      clear hh
      go_enter Tryz.func16, Tryz.ntmps16
      go_wp2_with fail
      go_ret
      exact ⟨rfl, Below.refl _ _⟩
  | succ f ih =>
    intro i w B v hT hf hsz
    cases hh : has (l.map NB.n) i with
    | false =>
      obtain ⟨a, c, rfl⟩ := hT.form
      have hR : shapeF (l.map NB.n) (f + 1) i = em := by
        unfold shapeF
        unfold has at hh
        by_cases h0 : i < 0
        · simp [h0]
        · have h1 : ((l.map NB.n).length : Int) ≤ i := by
            by_cases h1 : i < ((l.map NB.n).length : Int)
            · rw [decide_eq_true h1, decide_eq_true (show (0 : Int) ≤ i by omega)] at hh; cases hh
            · omega
          simp only [decide_eq_true h1, Bool.or_true, if_true]
      rw [hR]
      unfold has at hh
      rw [List.length_map] at hh
      generalize l.length = n at *
      clear hT hf hR ha ih hsz
      by_cases h0 : i < 0
      · go_enter Tryz.func16, Tryz.ntmps16
        go_wp2_with fail
        go_ret
        exact ⟨rfl, Below.refl _ _⟩
      · have h1 : (n : Int) ≤ i := by
          by_cases h1 : i < (n : Int)
          · simp [h1, show (0 : Int) ≤ i by omega] at hh
          · omega
        clear hh
        go_enter Tryz.func16, Tryz.ntmps16
        go_wp2_with fail
        go_ret
        exact ⟨rfl, Below.refl _ _⟩
    | true =>
      have hst := hf hh
      obtain ⟨j, y, rfl, hj⟩ := nat_has hh
      have hjl : j < l.length := by have := (List.getElem?_eq_some_iff.1 hj).1; rwa [List.length_map] at this
      obtain ⟨x, hx⟩ : ∃ x, l[j]? = some x := ⟨_, List.getElem?_eq_getElem hjl⟩
      have hyx : y = x.n := by rw [List.getElem?_map, hx] at hj; exact (Option.some.inj hj).symm
      have hxk : IntsAt w x.kv x.n.kids := (hT.k x (List.mem_of_getElem? hx)).1
      obtain ⟨g, cap, rfl, hcap, hgl, hc⟩ := hT.cells hx
      obtain ⟨k0, k1, k2, k3, k4, k5, k6, k7, k8, k9, k10⟩ := row11 hc
      have hkin : ∀ (q : Nat) (k : Int), x.n.kids[q]? = some k → ∃ (c : Nat) (z : NodeL), k = (c : Int) ∧ (l.map NB.n)[c]? = some z ∧ z.parent = (j : Int) := fun q k hq => ha.kid j y hj k (by rw [hyx]; exact List.mem_of_getElem? hq)
      have hkl : x.n.kids.length ≤ 100000 := by have := ha.kids_len hj; rw [List.length_map, hyx] at this; omega
      have hS : shapeF (l.map NB.n) (f + 1) (j : Int) = if x.n.kind == 4 then x.n.text else (x.n.kids.foldl (fun s k => s ++ shapeF (l.map NB.n) f k) (x.n.name ++ tx "(")) ++ tx ")" := by
        conv => lhs; unfold shapeF
        rw [rd_nat hj, hyx, List.length_map, if_neg (by simp; omega)]
      rw [hS] at hsz ⊢
      have HI : Hid (∀ (q : Nat) (k : Int) (W : World), x.n.kids[q]? = some k → Below w.heap.size w W → (shapeF (l.map NB.n) f k).size ≤ 1000000000 → Calls Tryz.prog 16 #[.slice (some ⟨g, 0, none⟩) l.length cap, .int .i64 k] W fun e w' => e = .returned (.string (shapeF (l.map NB.n) f k)) ∧ Below W.heap.size W w') := Lib.hid (by
        intro q k W hq hW hs
        obtain ⟨c, z, rfl, hcz, hp⟩ := hkin q k hq
        refine ih (c : Int) W B _ (hT.below hW) (fun _ => ?_) hs
        have h1 := steps_kid ha hcz hp
        rw [List.length_map] at h1
        omega)
      have HX := Lib.hid hxk
      obtain ⟨⟨kd, nm, tx0, sp, dp, pr, cn, ks, fr, tt⟩, kv⟩ := x
      obtain ⟨ka, kc, hkv, hkc⟩ := hxk
      dsimp only at *
      subst hkv
      obtain ⟨L, hL⟩ : ∃ L, L = l.length := ⟨_, rfl⟩
      rw [← hL] at hcap hjl HI hll ⊢
      generalize hsh : shapeF (l.map NB.n) f = sf at *
      have j0 : (0 : Int) ≤ (j : Int) := by omega
      have j1 : (j : Int) < (L : Int) := by omega
      obtain ⟨W1, hW1⟩ : ∃ W, W = w.alloc (.cells zeroNd 54) := ⟨_, rfl⟩
      have hb1 : Below w.heap.size w W1 := by rw [hW1]; exact (Below.refl _ _).alloc (Nat.le_refl _) _
      have rz : W1.heap[w.heap.size]? = some (.cells zeroNd 54 (0, 0)) := by rw [hW1]; exact heap_new _ _
      obtain ⟨W2, hW2⟩ : ∃ W, W = W1.setRow w.heap.size #[.int .i64 kd, .string nm, .string tx0, .int .i64 sp, .slice none 0 0, .bool dp, .int .i64 pr, .int .i64 cn, .slice ka ks.length kc, .int .i64 fr, .int .i64 tt] := ⟨_, rfl⟩
      have hb2 : Below w.heap.size w W2 := by rw [hW2]; exact below_setRow hb1 (Nat.le_refl _)
      have hr2 : W2.heap[w.heap.size]? = some (.cells #[.int .i64 kd, .string nm, .string tx0, .int .i64 sp, .slice none 0 0, .bool dp, .int .i64 pr, .int .i64 cn, .slice ka ks.length kc, .int .i64 fr, .int .i64 tt] 54 (0, 0)) := by rw [hW2]; exact setRow_heap _ _ _ _ _ _ rz
      have HW2 : Hid (W2 = (w.alloc (.cells zeroNd 54)).setRow w.heap.size #[.int .i64 kd, .string nm, .string tx0, .int .i64 sp, .slice none 0 0, .bool dp, .int .i64 pr, .int .i64 cn, .slice ka ks.length kc, .int .i64 fr, .int .i64 tt]) := Lib.hid (by rw [hW2, hW1])
      have HZ : Hid ((w.alloc (.cells zeroNd 54)).heap[w.heap.size]? = some (.cells zeroNd 54 (0, 0))) := Lib.hid (heap_new _ _)
      obtain ⟨T, hTt⟩ : ∃ T, T = if kd == 4 then tx0 else (ks.foldl (fun s k => s ++ sf k) (nm ++ tx "(")) ++ tx ")" := ⟨_, rfl⟩
      rw [← hTt] at hsz ⊢
      have HS := Lib.hid hsz
      have HT := Lib.hid hTt
      have HR2 := Lib.hid hr2
      have HB2 := Lib.hid hb2
      clear hTt hW1 hb1 rz hW2 hr2 hb2 hT hf hh ih hst hj hx hyx hc hkin hS hkc hsh hsz hL hcap hgl ha
      go_enter Tryz.func16, Tryz.ntmps16
      go_upto_region 4 with (refine wpList_store_row rfl 54 (.tmp 5) (.tmp 19) rfl w.heap.size #[.int .i64 kd, .string nm, .string tx0, .int .i64 sp, .slice none 0 0, .bool dp, .int .i64 pr, .int .i64 cn, .slice ka ks.length kc, .int .i64 fr, .int .i64 tt] rfl rfl 54 _ HZ.out nodeSize rfl (by simp [Value.oneCell']) ?_)
      rw [← HW2.out]
      clear k0 k1 k2 k3 k4 k5 k6 k7 k8 k9 k10
      simp only [Act.put]
      obtain ⟨R, hR⟩ : ∃ R, R = w.heap.size := ⟨_, rfl⟩
      have HRR := HR2.out
      rw [← hR] at HRR ⊢
      have HR3 := Lib.hid HRR
      have hRw := Lib.hid hR
      clear HRR hR
      by_cases hkd : kd = 4
      · subst hkd
        have p0 := rowAt HR3.out 0 (.int .i64 4) rfl
        have p2 := rowAt HR3.out 2 (.string tx0) rfl
        clear HS HI
        go_wp2_with fail
        go_ret
        rw [HT.out]
        exact ⟨rfl, HB2.out⟩
      · have hkq : (kd == 4) = false := by simpa using hkd
        have hTe : T = (ks.foldl (fun s k => s ++ sf k) (nm ++ tx "(")) ++ tx ")" := by rw [HT.out, hkq]; rfl
        have p0 := rowAt HR3.out 0 (.int .i64 kd) rfl
        have p1 := rowAt HR3.out 1 (.string nm) rfl
        obtain ⟨s0, hs0⟩ : ∃ s0, s0 = nm ++ ⟨#[40]⟩ := ⟨_, rfl⟩
        have hs0' : nm ++ tx "(" = s0 := by rw [hs0]; rfl
        rw [hs0'] at hTe
        have hsz2 := HS.out
        rw [hTe, ByteArray.size_append] at hsz2
        have hnm : nm.size ≤ 1000000000 := by
          have h1 := fold_size sf ks s0
          rw [hs0, ByteArray.size_append] at h1
          rw [hs0] at hsz2
          omega
        have HE := Lib.hid (⟨hTe, hsz2, hs0⟩ : _ ∧ _ ∧ _)
        clear hs0 hs0' hkq hTe hsz2 HT HS
        go_wp2_with fail
        clear p0 p1 hjl j0 j1
        generalize decide (L ≤ j) = z1
        generalize decide ((j : Int) < 0) = z2
        generalize (kd == 4) = z3
        go_loopw [6, 7] (fun sv jv wr => ∃ (s : Ba) (q : Nat), sv = .string s ∧ jv = .int .i64 q ∧ q ≤ ks.length ∧ Hid (s = (ks.take q).foldl (fun s k => s ++ sf k) s0) ∧ Hid (Below W2.heap.size W2 wr)) (fun _ jv _ => ks.length - (intOf jv).toNat)
        case atStart => exact ⟨_, 0, rfl, rfl, Nat.zero_le _, Lib.hid (by rw [List.take_zero]; exact HE.out.2.2.symm), Lib.hid (Below.refl _ _)⟩
        case round =>
          obtain ⟨s, q, rfl, rfl, hq, Hs, Hb⟩ := hrel
          have hrr := (Hb.out.block _ (row_lt HR3.out)).trans HR3.out
          have p8 := rowAt hrr 8 (.slice ka ks.length kc) rfl
          clear hrr
          by_cases hlt : q < ks.length
          · have hltI : (q : Int) < (ks.length : Int) := by omega
            have q0 : (0 : Int) ≤ (q : Int) := by omega
            obtain ⟨k, hk⟩ : ∃ k, ks[q]? = some k := ⟨_, List.getElem?_eq_getElem hlt⟩
            obtain ⟨a2, c2, e2, hcl⟩ := HX.out
            obtain ⟨g2, o2, e3, hcl2⟩ := hcl q k hk
            injection e2 with e2 _ e4
            subst e2
            subst e4
            subst e3
            have d1 : wr.cell? ⟨g2, o2 + q, none⟩ = some (.int .i64 k) := ((HB2.out.trans (Hb.out.mono HB2.out.size)).cell (World.block_lt_of_cell? _ _ hcl2)).trans hcl2
            have hst : (ks.take (q + 1)).foldl (fun s k => s ++ sf k) s0 = s ++ sf k := by
              rw [List.take_add_one, hk, List.foldl_append, ← Hs.out]; rfl
            have hsz3 : (s ++ sf k).size ≤ 1000000000 := by
              rw [← hst]
              have := fold_take sf ks s0 (q + 1)
              have := HE.out.2.1
              omega
            rw [ByteArray.size_append] at hsz3
            have hC := HI.out q k wr hk (HB2.out.trans (Hb.out.mono HB2.out.size)) (by omega)
            have HC := Lib.hid hC
            have HST := Lib.hid hst
            clear hcl hcl2 hst hC hk
            go_wp2_with fail
            refine HC.out.mono ?_
            rintro e w3 ⟨rfl, hb3⟩
            have HB3 := Lib.hid (Hb.out.trans (hb3.mono Hb.out.size))
            clear HC hb3 p8 d1
            go_wp2_with fail
            go_roundw
            case rel => exact ⟨_, q + 1, rfl, by go_num, by omega, Lib.hid HST.out.symm, HB3⟩
            case measure => simp [intOf]; omega
          · have hltI : ¬ (q : Int) < (ks.length : Int) := by omega
            have hqe : q = ks.length := by omega
            have hse : s = ks.foldl (fun s k => s ++ sf k) s0 := by rw [Hs.out, hqe, List.take_length]
            have hsz4 : s.size ≤ 1000000000 := by rw [hse]; have := HE.out.2.1; omega
            have HSE := Lib.hid hse
            clear hse
            go_wp2_with fail
            go_ret
            rw [HE.out.1, HSE.out]
            exact ⟨rfl, HB2.out.trans (Hb.out.mono HB2.out.size)⟩
end Go.Proofs.YtnbdalohlldnbaaGreatDoor
