/-
  The reference's state: Imply, Pop. Printed by wip/mkpop.py.
  The builder and the reference's state beside one another: two labellings that never meet; the law's opened.
  The law's opened. Printed by wip/mkopened.py.
  The law's told.
  Plain laws: the rules leave the mode. No condition.
  What Step does with the tokens of stands. Printed by wip/mkstands.py.
  What told answers of the tokens of stands. Printed by wip/mkst2.py.
  The law's stands. Printed by wip/mkst2.py.
-/
import Derived.Test.YtnbdalohlldnbaaGreatDoorM16
namespace Go.Proofs.YtnbdalohlldnbaaGreatDoor
open Go.RowKit Bd
attribute [local go_sem ↓] Go.wp_at_zero Go.wp_at_succ
section
variable {own : Nat → Nat} {w : World} {rp : Nat} {nv ov : Value} {l : List NB} {os : List Int} {md hd : Int} {qk : Bool} {N : Nat}
set_option maxHeartbeats 1000000 in
set_option maxRecDepth 100000 in
theorem rImply_any (nm : Ba) (h : RfH own w rp nv ov l os md hd qk N) (hL : Lbl own w) (hok : RfOk (l.map NB.n) os) (htn : (nm == templateS) = false) :
    Calls Tryz.prog 39 #[.pointer (some ⟨rp, 0, none⟩), .string nm] w (RIn own rp (.int .i64 (l.length : Int)) (refIns (l.map NB.n) os (implyT nm)) (os ++ [(l.length : Int)]) md hd qk w) := by
  have cI := Lib.hid (rInsert_any (implyT nm) h hL hok htn)
  clear h hL hok htn
  go_enter Tryz.func39, Tryz.ntmps39
  go_wp2_with fail
  refine cI.out.mono ?_
  rintro e w2 ⟨rfl, h2⟩
  have H2 := Lib.hid h2
  clear h2 cI
  go_wp2_with fail
  go_ret
  exact ⟨rfl, H2.out⟩
theorem RfH.pop {g cap m : Nat} (h : RfH own w rp nv (.slice (some ⟨g, 0, none⟩) os.length cap) l os md hd qk N) (hL : Lbl own w) (hm : m ≤ os.length) :
    RfH own (w.setCell ⟨rp, 1, none⟩ (.slice (some ⟨g, 0, none⟩) m cap)) rp nv (.slice (some ⟨g, 0, none⟩) m cap) l (os.take m) md hd qk N ∧ Fr cBu own own w (w.setCell ⟨rp, 1, none⟩ (.slice (some ⟨g, 0, none⟩) m cap)) := by
  have hf2 : Fr (fun k => k == 1) own own w (w.setCell ⟨rp, 1, none⟩ (.slice (some ⟨g, 0, none⟩) m cap)) := Fr.setCell hL (p := ⟨rp, 1, none⟩) _ (by simp [h.o])
  refine ⟨⟨h.o, row_setC h.h 1 _, h.s.keep hf2 rfl, ?_, fun j x hj => ?_, h.n9⟩, hf2.mono (cBu_mono (by omega))⟩
  · have h1 : SlO own 7 w 3 1 (.slice (some ⟨g, 0, none⟩) m cap) m (ints (os.take m)) := by
      have h2 := SlAt.take h.p.1 (k := m) hm
      refine ⟨?_, fun g' hg' => h.p.2 g' hg'⟩
      rw [Nat.mul_one] at h2
      unfold ints at h2 ⊢
      rwa [List.map_take]
    have h3 := h1.keep hf2 rfl
    rwa [show (os.take m).length = m by rw [List.length_take]; omega]
  · obtain ⟨q, q1, q2, q3⟩ := h.k j x hj
    exact ⟨q, q1, q2, q3.keep hf2 (eqF (by omega))⟩
set_option maxHeartbeats 1000000 in
set_option maxRecDepth 100000 in
theorem rPop_any {m : Nat} {hd0 : Int} (h : RfH own w rp nv ov l os md hd0 qk N) (hL : Lbl own w) (hm : os.length = m + 1) (hm2 : m ≤ 1000) :
    Calls Tryz.prog 42 #[.pointer (some ⟨rp, 0, none⟩)] w (RIn own rp (.tuple #[]) (l.map NB.n) (os.take m) md hd0 qk w) := by
  obtain ⟨a, cap, rfl, hcap⟩ := h.p.1.form
  obtain ⟨g, rfl⟩ : ∃ g, a = some ⟨g, 0, none⟩ := by
    rcases h.p.1.2 with ⟨e, e0⟩ | ⟨g, c2, cur, e, _⟩
    · omega
    · injection e with e; exact ⟨g, e⟩
  have c1 := rowAt h.h 1 (.slice (some ⟨g, 0, none⟩) os.length cap) rfl
  have z1 := frozen_row h.h 1
  have hd := (Below.refl w.heap.size w).drew
  have hq := (h.below hL hd).pop (Fr.of_below (c := fun _ => false) hd hL).lbl (m := m) (by omega)
  have hQ : RIn own rp (.tuple #[]) (l.map NB.n) (os.take m) md hd0 qk w (.returned (.tuple #[])) (w.drew.setCell ⟨rp, 1, none⟩ (.slice (some ⟨g, 0, none⟩) m cap)) := ⟨rfl, own, _, _, l, N, rfl, hq.1, (Fr.of_below hd hL).trans hq.2⟩
  rw [hm] at c1 hcap
  have e1 : ((m + 1 : Nat) : Int) - 1 = (m : Int) := by omega
  have e2 : (0 : Int) ≤ (m : Int) := by omega
  have e3 : (m : Int) ≤ (cap : Int) := by omega
  have wm : IntKind.i64.wrap (m : Int) = (m : Int) := IntWalk.i64_in _ (by omega)
  have e5 : ((m : Int)).toNat = m := rfl
  clear h hL hq hd hm
  go_enter Tryz.func42, Tryz.ntmps42
  go_upto_region 1 with fail
  replace c1 : w.drew.cell? ⟨rp, 1, none⟩ = some (.slice (some ⟨g, 0, none⟩) (m + 1) cap) := c1
  replace z1 : w.drew.frozen? ⟨rp, 1, none⟩ = false := z1
  refine wp_region_held_drew (S := fun _ => True) (by kernel_rfl) (trivial) (fun hHeld => ?_)
  generalize w.drew = V at hHeld c1 z1 hQ ⊢
  refine TkH 0 8 ?_; refine TkH 1 9 ?_; refine TkH 2 10 ?_; refine TkH 3 11 ?_; refine TkH 5 13 ?_
  (try simp only [Act.put]); (try simp only [List.setIfInBounds_toArray]); (try simp only [List.set_cons_zero, List.set_cons_succ])
  refine TkH 6 14 ?_; refine TkH 7 15 ?_
  (try simp only [Act.put]); (try simp only [List.setIfInBounds_toArray]); (try simp only [List.set_cons_zero, List.set_cons_succ])
  refine wpAnyH_ready (rs := [4, 8]) (by decide +kernel) (by simp) ?_
  refine AllReadyH.cons rfl (fun K hK => ?_) (AllReadyH.cons rfl (fun K hK => ?_) AllReadyH.nil)
  go_simp
  refine hK.out _ _ trivial (fun hSx => ?_)
  clear hSx hK K
  (try simp only [Act.put]); (try simp only [List.setIfInBounds_toArray]); (try simp only [List.set_cons_zero, List.set_cons_succ])
  rotate_left
  go_simp
  refine hK.out _ _ trivial (fun hSx => ?_)
  clear hSx hK K
  (try simp only [Act.put]); (try simp only [List.setIfInBounds_toArray]); (try simp only [List.set_cons_zero, List.set_cons_succ])
  focus (refine TkH 9 17 ?_; refine TkH 10 18 ?_)
  (try simp only [Act.put]); (try simp only [List.setIfInBounds_toArray]); (try simp only [List.set_cons_zero, List.set_cons_succ])
  rotate_left
  all_goals first
    | (refine wpAnyH_ready (rs := [8]) (by decide +kernel) (by simp) ?_
       refine AllReadyH.cons rfl (fun K hK => ?_) AllReadyH.nil
       go_simp
       refine hK.out _ _ trivial (fun hSx => ?_)
       clear hSx hK K
       (try simp only [Act.put]); (try simp only [List.setIfInBounds_toArray]); (try simp only [List.set_cons_zero, List.set_cons_succ])
       focus (refine TkH 9 17 ?_; refine TkH 10 18 ?_)
       (try simp only [Act.put]); (try simp only [List.setIfInBounds_toArray]); (try simp only [List.set_cons_zero, List.set_cons_succ]))
    | skip
  all_goals first
    | (refine wpAnyH_ready (rs := [4]) (by decide +kernel) (by simp) ?_
       refine AllReadyH.cons rfl (fun K hK => ?_) AllReadyH.nil
       go_simp
       refine hK.out _ _ trivial (fun hSx => ?_)
       clear hSx hK K
       (try simp only [Act.put]); (try simp only [List.setIfInBounds_toArray]); (try simp only [List.set_cons_zero, List.set_cons_succ]))
    | skip
  all_goals (
    refine wpAnyH_ready (rs := [11]) (by decide +kernel) (by simp) ?_
    refine AllReadyH.cons rfl (fun K hK => ?_) AllReadyH.nil
    go_simp
    refine hK.out _ _ trivial (fun hSx => ?_)
    clear hSx hK K
    (try simp only [Act.put]); (try simp only [List.setIfInBounds_toArray]); (try simp only [List.set_cons_zero, List.set_cons_succ])
    focus (refine TkH 12 20 ?_; refine TkH 13 21 ?_)
    (try simp only [Act.put]); (try simp only [List.setIfInBounds_toArray]); (try simp only [List.set_cons_zero, List.set_cons_succ]))
  all_goals (
    refine wpAnyH_ready (rs := [14]) (by decide +kernel) (by simp) ?_
    refine AllReadyH.cons rfl (fun K hK => ?_) AllReadyH.nil
    go_simp
    generalize hV9 : V.setCell ⟨rp, 1, none⟩ (.slice (some ⟨g, 0, none⟩) m cap) = V9 at *
    refine hK.out _ _ trivial (fun hSx => ?_)
    clear hSx hK K
    clear hV9
    clear c1 z1
    clear V
    obtain ⟨V, rfl⟩ : ∃ U, U = V9 := ⟨_, rfl⟩
    (try simp only [Act.put]); (try simp only [List.setIfInBounds_toArray]); (try simp only [List.set_cons_zero, List.set_cons_succ]))
  all_goals (
    refine wpAnyH_done (by kernel_rfl) ?_ _
    go_wp2_with fail
    go_end0
    exact hQ)

end
end Go.Proofs.YtnbdalohlldnbaaGreatDoor

namespace Go.Proofs.YtnbdalohlldnbaaGreatDoor
open Go.RowKit Bd
attribute [local go_sem ↓] Go.wp_at_zero Go.wp_at_succ
theorem newA_ok : ArOk newA := by
  have h0 : ∀ (j : Nat) (x : NodeL), newA[j]? = some x → j = 0 ∧ x = bare root0 := by
    intro j x hj
    cases j with
    | zero => exact ⟨rfl, (Option.some.inj hj).symm⟩
    | succ j => cases hj
  refine ⟨by decide, fun j x hj k hk => ?_, fun i x hi hp => ?_, fun j x hj => ?_, fun j x hj => ?_, fun x hx => ?_⟩
  · obtain ⟨_, rfl⟩ := h0 j x hj; cases hk
  · obtain ⟨_, rfl⟩ := h0 i x hi; exact absurd hp (by decide)
  · obtain ⟨_, rfl⟩ := h0 j x hj; decide
  · obtain ⟨_, rfl⟩ := h0 j x hj; decide
  · obtain ⟨j, y, rfl, hj⟩ := nat_has hx
    obtain ⟨rfl, rfl⟩ := h0 j y hj
    exact ⟨1, Or.inr ⟨hx, by show up newA 0 < 0; decide⟩⟩
theorem newB_ok : Okb 1 newB := ⟨newA_ok, by decide, fun x hx => by obtain rfl := List.mem_singleton.1 hx; exact ⟨by decide, by decide⟩, ⟨by decide, fun o ho => by cases ho⟩, by decide, rfl⟩
/-- What one labelling's acts leave to the other. -/
theorem _root_.Bd.Fr.dual {oA oA' oB : Nat → Nat} {w w' : World} (hf : Fr cBu oA oA' w w') (hd : ∀ k, oA k = 0 ∨ oB k = 0) (hL : Lbl oB w) : Fr (fun l => l == 0) oB oB w w' := by
  refine ⟨hf.os, hf.tape, hf.output, hf.size, fun _ _ => rfl, hL.grow hf.size, fun k hk hc => hf.block k hk ?_⟩
  rcases hd k with h | h
  · rw [h]; rfl
  · rw [h] at hc; cases hc
theorem _root_.Bd.Fr.disj {oA oA' oB : Nat → Nat} {w w' : World} (hf : Fr cBu oA oA' w w') (hd : ∀ k, oA k = 0 ∨ oB k = 0) (hL : Lbl oB w) : ∀ k, oA' k = 0 ∨ oB k = 0 := by
  intro k
  rcases Nat.lt_or_ge k w.heap.size with h | h
  · rw [hf.old k h]; exact hd k
  · exact Or.inr (hL k h)
theorem _root_.Bd.Fr.below0 {oA oA' : Nat → Nat} {w0 w w' : World} (hf : Fr cBu oA oA' w w') (hx : Below w0.heap.size w0 w) (h0 : ∀ k, k < w0.heap.size → oA k = 0) : Below w0.heap.size w0 w' ∧ ∀ k, k < w0.heap.size → oA' k = 0 := by
  have hs := hx.size
  refine ⟨hx.trans ⟨hf.os, hf.tape, hf.output, hf.size, fun k hk => hf.block k (by omega) (by rw [h0 k hk]; rfl)⟩, fun k hk => by rw [hf.old k (by omega)]; exact h0 k hk⟩
theorem EnvK.of_below {w0 w : World} (h : EnvK w0) (hx : Below w0.heap.size w0 w) : EnvK w := by
  obtain ⟨⟨m, hm⟩, hs⟩ := h
  exact ⟨⟨m, (hx.cell (World.block_lt_of_cell? _ _ hm)).trans hm⟩, fun j hj => (hx.cell (World.block_lt_of_cell? _ _ (hs j hj))).trans (hs j hj)⟩
/-- The builder and the reference's state, both made behind w0. -/
structure Du (w0 : World) (n : Nat) (oB oR : Nat → Nat) (w : World) (bp ap sp lp : Nat) (b : BS) (rp : Nat) (a : Ar) (os : List Int) (md hd : Int) (qk : Bool) : Prop where
  B : BX n oB w bp ap sp lp b
  R : ∃ nv ov l N, l.map NB.n = a ∧ RfH oR w rp nv ov l os md hd qk N
  L : Lbl oR w
  D : ∀ k, oB k = 0 ∨ oR k = 0
  x : Below w0.heap.size w0 w
  zB : ∀ k, k < w0.heap.size → oB k = 0
  zR : ∀ k, k < w0.heap.size → oR k = 0
  K : EnvK w0
section
variable {w0 w w' : World} {n m : Nat} {oB oR : Nat → Nat} {bp ap sp lp rp : Nat} {b b' : BS} {a a' : Ar} {os os' : List Int} {md hd md' hd' : Int} {qk qk' : Bool} {r : Value} {e : Ending}
theorem Du.bu (h : Du w0 n oB oR w bp ap sp lp b rp a os md hd qk) (hr : RX m oB bp ap sp lp r b' w e w') : e = .returned r ∧ ∃ oB', Du w0 m oB' oR w' bp ap sp lp b' rp a os md hd qk := by
  obtain ⟨rfl, oB', H, F⟩ := hr
  obtain ⟨h1, h2⟩ := F.below0 h.x h.zB
  have hf := F.dual h.D h.L
  obtain ⟨nv, ov, l, N, e, hR⟩ := h.R
  exact ⟨rfl, oB', H, ⟨nv, ov, l, N, e, hR.keep hf rfl rfl rfl (fun q hq _ => eqF (by omega))⟩, hf.lbl, F.disj h.D h.L, h1, h2, h.zR, h.K⟩
theorem BX.other (H : BX n oB w bp ap sp lp b) (hf : Fr (fun l => l == 0) oB oB w w') (hk : EnvK w') : BX n oB w' bp ap sp lp b := by
  obtain ⟨nv, sv, lv, mv, l, h⟩ := H.h
  exact ⟨⟨nv, sv, lv, mv, l, h.keep hf (fun x hx => eqF hx)⟩, hf.lbl, H.G, ⟨hk, H.E.o1, H.E.o2⟩, H.N⟩
theorem Du.rf (h : Du w0 n oB oR w bp ap sp lp b rp a os md hd qk) (hr : RIn oR rp r a' os' md' hd' qk' w e w') : e = .returned r ∧ ∃ oR', Du w0 n oB oR' w' bp ap sp lp b rp a' os' md' hd' qk' := by
  obtain ⟨rfl, oR', nv, ov, l, N, e, H, F⟩ := hr
  obtain ⟨h1, h2⟩ := F.below0 h.x h.zR
  have hd2 : ∀ k, oR k = 0 ∨ oB k = 0 := fun k => (h.D k).symm
  have hf := F.dual hd2 h.B.L
  exact ⟨rfl, oR', h.B.other hf (h.K.of_below h1), ⟨nv, ov, l, N, e, H⟩, F.lbl, fun k => (F.disj hd2 h.B.L k).symm, h1, h.zB, h2, h.K⟩
theorem RfH.set {own : Nat → Nat} {w : World} {rp : Nat} {nv ov : Value} {l : List NB} {os : List Int} {md hd md' hd' : Int} {qk qk' : Bool} {N k : Nat} {v : Value} (h : RfH own w rp nv ov l os md hd qk N) (hL : Lbl own w) (hv : (srow nv ov md hd qk).setIfInBounds k v = srow nv ov md' hd' qk') :
    RfH own (w.setCell ⟨rp, k, none⟩ v) rp nv ov l os md' hd' qk' N ∧ Fr cBu own own w (w.setCell ⟨rp, k, none⟩ v) := by
  have hf2 : Fr (fun k => k == 1) own own w (w.setCell ⟨rp, k, none⟩ v) := Fr.setCell hL (p := ⟨rp, k, none⟩) v (by simp [h.o])
  refine ⟨⟨h.o, by have := row_setC h.h k v; rwa [hv] at this, h.s.keep hf2 rfl, h.p.keep hf2 rfl, fun j x hj => ?_, h.n9⟩, hf2.mono (cBu_mono (by omega))⟩
  obtain ⟨q, q1, q2, q3⟩ := h.k j x hj
  exact ⟨q, q1, q2, q3.keep hf2 (eqF (by omega))⟩
theorem Du.set {k : Nat} {v : Value} (h : Du w0 n oB oR w bp ap sp lp b rp a os md hd qk) (hv : ∀ nv ov, (srow nv ov md hd qk).setIfInBounds k v = srow nv ov md' hd' qk') : Du w0 n oB oR (w.setCell ⟨rp, k, none⟩ v) bp ap sp lp b rp a os md' hd' qk' := by
  obtain ⟨nv, ov, l, N, e, H⟩ := h.R
  obtain ⟨h1, h2⟩ := H.set h.L (hv nv ov)
  obtain ⟨h3, h4⟩ := h2.below0 h.x h.zR
  exact ⟨h.B.other (h2.dual (fun k => (h.D k).symm) h.B.L) (h.K.of_below h3), ⟨nv, ov, l, N, e, h1⟩, h2.lbl, h.D, h3, h.zB, h.zR, h.K⟩
theorem Du.row (h : Du w0 n oB oR w bp ap sp lp b rp a os md hd qk) : (∀ k v, (∀ nv ov, (srow nv ov md hd qk)[k]? = some v) → w.cell? ⟨rp, k, none⟩ = some v) ∧ ∀ k, w.frozen? ⟨rp, k, none⟩ = false := by
  obtain ⟨nv, ov, l, N, _, H⟩ := h.R
  exact ⟨fun k v hk => rowAt H.h k v (hk nv ov), fun k => frozen_row H.h k⟩
end
end Go.Proofs.YtnbdalohlldnbaaGreatDoor

namespace Go.Proofs.YtnbdalohlldnbaaGreatDoor
open Go.RowKit Bd
attribute [local go_sem ↓] Go.wp_at_zero Go.wp_at_succ
def rfChk (a : Ar) (os : List Int) : Bool := !a.isEmpty && decide (a.length ≤ 100) && (a.zipIdx.all fun p => decide (-1 ≤ p.1.parent) && decide (p.1.parent < (p.2 : Int)) && !(p.1.kind == 6) && !(p.1.name == templateS) && decide (p.1.kids.length ≤ 50) && p.1.kids.all fun k => decide (0 ≤ k)) && (os.all fun z => decide (0 ≤ z) && decide (z < (a.length : Int))) && decide (os.length ≤ 100)
theorem RfOk.of {a : Ar} {os : List Int} (h : rfChk a os = true) : RfOk a os := by
  unfold rfChk at h
  simp only [Bool.and_eq_true, Bool.not_eq_true', decide_eq_true_eq, List.all_eq_true] at h
  obtain ⟨⟨⟨⟨h1, h2⟩, h3⟩, h4⟩, h5⟩ := h
  have h6 : ∀ (j : Nat) (z : NodeL), a[j]? = some z → _ := fun j z hj => h3 (z, j) (List.mem_zipIdx_iff_getElem?.2 hj)
  refine ⟨fun e => (by rw [e] at h1; cases h1), h2, fun j z hj => ?_, fun j z hj => ?_, h4, h5⟩
  · obtain ⟨⟨⟨⟨⟨p1, p2⟩, p3⟩, p4⟩, p5⟩, p6⟩ := h6 j z hj
    exact ⟨p1, p2, p3⟩
  · obtain ⟨⟨⟨⟨⟨p1, p2⟩, p3⟩, p4⟩, p5⟩, p6⟩ := h6 j z hj
    exact ⟨p4, p5, p6⟩
section
variable {w0 w w' : World} {n m : Nat} {oB oR : Nat → Nat} {bp ap sp lp rp : Nat} {b b' : BS} {a a' : Ar} {os os' : List Int} {md hd md' hd' : Int} {qk qk' : Bool} {r : Value} {e : Ending}
theorem xrImply (nm : Ba) (h : Du w0 n oB oR w bp ap sp lp b rp a os md hd qk) (hok : RfOk a os) (htn : (nm == templateS) = false) :
    Calls Tryz.prog 39 #[.pointer (some ⟨rp, 0, none⟩), .string nm] w (RIn oR rp (.int .i64 (a.length : Int)) (refIns a os (implyT nm)) (os ++ [(a.length : Int)]) md hd qk w) := by
  obtain ⟨nv, ov, l, N, rfl, H⟩ := h.R
  rw [List.length_map]
  exact rImply_any nm H h.L hok htn
theorem xrPop {m : Nat} (h : Du w0 n oB oR w bp ap sp lp b rp a os md hd qk) (hm : os.length = m + 1) (hm2 : m ≤ 1000) :
    Calls Tryz.prog 42 #[.pointer (some ⟨rp, 0, none⟩)] w (RIn oR rp (.tuple #[]) a (os.take m) md hd qk w) := by
  obtain ⟨nv, ov, l, N, rfl, H⟩ := h.R
  exact rPop_any H h.L hm hm2
theorem xNewB (hK : EnvK w) : Calls Tryz.prog 35 #[] w fun e w' => ∃ bp ap sp lp oB, e = .returned (.pointer (some ⟨bp, 0, none⟩)) ∧ BX 1 oB w' bp ap sp lp newB ∧ Below w.heap.size w w' ∧ ∀ k, k < w.heap.size → oB k = 0 := by
  refine (NewB_any (own := fun _ => 0) (fun _ _ => rfl)).mono ?_
  rintro e w' ⟨bp, ap, sp, lp, nv, l, oB, rfl, H, F⟩
  have hb : Below w.heap.size w w' := ⟨F.os, F.tape, F.output, F.size, fun k hk => F.block k hk rfl⟩
  have h0 : ∀ k, k < w.heap.size → oB k = 0 := fun k hk => F.old k hk
  obtain ⟨m, hm⟩ := hK.ml
  exact ⟨bp, ap, sp, lp, oB, rfl, ⟨⟨_, _, _, _, _, H⟩, F.lbl, newB_ok, ⟨hK.of_below hb, h0 _ (World.block_lt_of_cell? _ _ hm), h0 _ (World.block_lt_of_cell? _ _ (hK.sc 0 (by omega)))⟩, by omega⟩, hb, h0⟩
theorem xNewR {w1 : World} (H : BX n oB w1 bp ap sp lp b) (hx : Below w0.heap.size w0 w1) (h0 : ∀ k, k < w0.heap.size → oB k = 0) (hK : EnvK w0) : Calls Tryz.prog 36 #[] w1 fun e w' => ∃ rp oR, e = .returned (.pointer (some ⟨rp, 0, none⟩)) ∧ Du w0 n oB oR w' bp ap sp lp b rp [doc1.n] [] 0 (-1) false := by
  refine (rNew_any (own := fun _ => 0) (fun _ _ => rfl)).mono ?_
  rintro e w' ⟨oR, nv, rfl, R, F⟩
  have hb : Below w1.heap.size w1 w' := ⟨F.os, F.tape, F.output, F.size, fun k hk => F.block k hk rfl⟩
  have h1 : ∀ k, k < w1.heap.size → oR k = 0 := fun k hk => F.old k hk
  exact ⟨_, oR, rfl, ⟨H.below hb, ⟨nv, _, _, _, rfl, R⟩, F.lbl, fun k => by
    rcases Nat.lt_or_ge k w1.heap.size with h | h
    · exact Or.inr (h1 k h)
    · exact Or.inl (H.L k h), below_call hx hb, h0, fun k hk => h1 k (by have := hx.size; omega), hK⟩⟩
end
def ra1 : Ar := refIns [doc1.n] [] (implyT ⟨#[104, 116, 109, 108]⟩)
def ra2 : Ar := refIns ra1 [1] (implyT ⟨#[104, 101, 97, 100]⟩)
def ra3 : Ar := refIns ra2 [1] (implyT ⟨#[98, 111, 100, 121]⟩)
theorem ok0 : RfOk [doc1.n] [] := RfOk.of (by decide +kernel)
theorem ok1 : RfOk ra1 [1] := RfOk.of (by decide +kernel)
theorem ok2 : RfOk ra2 [1] := RfOk.of (by decide +kernel)
theorem rl1 : ra1.length = 2 := by decide +kernel
theorem rl2 : ra2.length = 3 := by decide +kernel
theorem opened_eq : opened = { (imply { ({ (imply (imply newB ⟨#[104, 116, 109, 108]⟩).1 ⟨#[104, 101, 97, 100]⟩).1 with head := (imply (imply newB ⟨#[104, 116, 109, 108]⟩).1 ⟨#[104, 101, 97, 100]⟩).2 } : BS) with st := popS (imply (imply newB ⟨#[104, 116, 109, 108]⟩).1 ⟨#[104, 101, 97, 100]⟩).1.st } ⟨#[98, 111, 100, 121]⟩).1 with mode := 6 } := by
  have e1 : tx "html" = ⟨#[104, 116, 109, 108]⟩ := by decide +kernel
  have e2 : tx "head" = ⟨#[104, 101, 97, 100]⟩ := by decide +kernel
  have e3 : tx "body" = ⟨#[98, 111, 100, 121]⟩ := by decide +kernel
  unfold opened
  rw [e1, e2, e3]
set_option maxHeartbeats 4000000 in
set_option maxRecDepth 100000 in
theorem opened_any {w0 : World} (hK : EnvK w0) : Calls Tryz.prog 11 #[.bool false] w0 fun e w' => ∃ bp ap sp lp rp oB, e = .returned (.tuple #[.pointer (some ⟨bp, 0, none⟩), .pointer (some ⟨rp, 0, none⟩)]) ∧ BX 4 oB w' bp ap sp lp opened ∧ Below w0.heap.size w0 w' ∧ ∀ k, k < w0.heap.size → oB k = 0 := by
  obtain ⟨i1, hi1⟩ : ∃ i1, i1 = imply newB ⟨#[104, 116, 109, 108]⟩ := ⟨_, rfl⟩
  obtain ⟨i2, hi2⟩ : ∃ i2, i2 = imply i1.1 ⟨#[104, 101, 97, 100]⟩ := ⟨_, rfl⟩
  obtain ⟨b3, hb3⟩ : ∃ b3 : BS, b3 = { ({ i2.1 with head := i2.2 } : BS) with st := popS i2.1.st } := ⟨_, rfl⟩
  obtain ⟨i4, hi4⟩ : ∃ i4, i4 = imply b3 ⟨#[98, 111, 100, 121]⟩ := ⟨_, rfl⟩
  have hO : opened = { i4.1 with mode := 6 } := by rw [opened_eq, hi4, hb3, hi2, hi1]
  rw [hO]
  have HI := Lib.hid (⟨hi1, hi2, hb3, hi4⟩ : _ ∧ _ ∧ _ ∧ _)
  clear hO hi1 hi2 hb3 hi4
  have HK := Lib.hid hK
  have cB := Lib.hid (xNewB hK)
  clear hK
  go_enter Tryz.func11, Tryz.ntmps11
  go_wp2_with fail
  refine cB.out.mono ?_
  rintro e w1 ⟨bp, ap, sp, lp, oB, rfl, H1, hb1, h01⟩
  have cR := Lib.hid (xNewR H1 hb1 h01 HK.out)
  clear cB H1 hb1 h01
  go_wp2_with fail
  refine cR.out.mono ?_
  rintro e w2 ⟨rp, oR, rfl, D0⟩
  clear cR
  have cI := xSetQuirks false D0.B
  have cC := Lib.hid cI
  clear cI
  have HD := Lib.hid D0
  clear D0
  go_wp2_with fail
  refine cC.out.mono ?_
  intro e w9 hr
  obtain ⟨rfl, o9, D1⟩ := HD.out.bu hr
  clear hr cC HD
  have e0 : ({ newB with quirks := false } : BS) = newB := rfl
  rw [e0] at D1
  clear e0
  have c9 := D1.row.1 8 (.bool false) (fun _ _ => rfl)
  have z9 := D1.row.2 8
  have HD := Lib.hid D1
  clear D1
  go_upto_region 4 with fail
  have D2 := HD.out.set (k := 8) (v := .bool false) (fun _ _ => rfl)
  clear c9 z9 HD
  have cI := Imply_any ⟨#[104, 116, 109, 108]⟩ (by decide) (by decide +kernel) (by omega) D2.B
  rw [← HI.out.1] at cI
  have cC := Lib.hid cI
  clear cI
  have HD := Lib.hid D2
  clear D2
  go_wp2_with fail
  refine cC.out.mono ?_
  intro e w9 hr
  obtain ⟨rfl, o9, D3⟩ := HD.out.bu hr
  clear hr cC HD
  have cC := Lib.hid (xrImply ⟨#[104, 116, 109, 108]⟩ D3 ok0 (by decide +kernel))
  have HD := Lib.hid D3
  clear D3
  go_wp2_with fail
  refine cC.out.mono ?_
  intro e w9 hr
  obtain ⟨rfl, o9, D4⟩ := HD.out.rf hr
  clear hr cC HD
  have D4' := D4
  clear D4
  rw [show refIns [doc1.n] [] (implyT ⟨#[104, 116, 109, 108]⟩) = ra1 from rfl, show ([] ++ [(([doc1.n] : Ar).length : Int)] : List Int) = [1] from rfl] at D4'
  have D4 := D4'
  clear D4'
  have cI := Imply_any ⟨#[104, 101, 97, 100]⟩ (by decide) (by decide +kernel) (by omega) D4.B
  rw [← HI.out.2.1] at cI
  have cC := Lib.hid cI
  clear cI
  have HD := Lib.hid D4
  clear D4
  go_wp2_with fail
  refine cC.out.mono ?_
  intro e w9 hr
  obtain ⟨rfl, o9, D5⟩ := HD.out.bu hr
  clear hr cC HD
  have cI := xSetHead i2.2 D5.B
  have cC := Lib.hid cI
  clear cI
  have HD := Lib.hid D5
  clear D5
  go_wp2_with fail
  refine cC.out.mono ?_
  intro e w9 hr
  obtain ⟨rfl, o9, D6⟩ := HD.out.bu hr
  clear hr cC HD
  have cI := xrImply ⟨#[104, 101, 97, 100]⟩ D6 ok1 (by decide +kernel)
  rw [show refIns ra1 [1] (implyT ⟨#[104, 101, 97, 100]⟩) = ra2 from rfl, rl1] at cI
  have cC := Lib.hid cI
  clear cI
  have HD := Lib.hid D6
  clear D6
  go_wp2_with fail
  refine cC.out.mono ?_
  intro e w9 hr
  obtain ⟨rfl, o9, D7⟩ := HD.out.rf hr
  clear hr cC HD
  have c9 := D7.row.1 6 (.int .i64 (-1)) (fun _ _ => rfl)
  have z9 := D7.row.2 6
  have HD := Lib.hid D7
  clear D7
  go_upto_region 8 with fail
  have D8 := HD.out.set (k := 6) (v := .int .i64 2) (md' := 0) (hd' := 2) (qk' := false) (fun _ _ => rfl)
  clear c9 z9 HD
  have cS := Lib.hid (xStack D8.B)
  have HD := Lib.hid D8
  clear D8
  go_wp2_with fail
  refine cS.out.mono ?_
  rintro e w9 ⟨rfl, rfl⟩
  have D8 := HD.out
  clear HD cS
  have cI := xSPop D8.B
  rw [← HI.out.2.2.1] at cI
  have cC := Lib.hid cI
  clear cI
  have HD := Lib.hid D8
  clear D8
  go_wp2_with fail
  refine cC.out.mono ?_
  intro e w9 hr
  obtain ⟨rfl, o9, D9⟩ := HD.out.bu hr
  clear hr cC HD
  have cC := Lib.hid (xrPop (m := 1) D9 rfl (by omega))
  have HD := Lib.hid D9
  clear D9
  go_wp2_with fail
  refine cC.out.mono ?_
  intro e w9 hr
  obtain ⟨rfl, o9, D10⟩ := HD.out.rf hr
  clear hr cC HD
  have D10' : Du _ _ _ _ _ _ _ _ _ _ _ ra2 [1] 0 2 false := D10
  clear D10
  have D10 := D10'
  clear D10'
  have cI := Imply_any ⟨#[98, 111, 100, 121]⟩ (by decide) (by decide +kernel) (by omega) D10.B
  rw [← HI.out.2.2.2] at cI
  have cC := Lib.hid cI
  clear cI
  have HD := Lib.hid D10
  clear D10
  go_wp2_with fail
  refine cC.out.mono ?_
  intro e w9 hr
  obtain ⟨rfl, o9, D11⟩ := HD.out.bu hr
  clear hr cC HD
  have cC := Lib.hid (xrImply ⟨#[98, 111, 100, 121]⟩ D11 ok2 (by decide +kernel))
  have HD := Lib.hid D11
  clear D11
  go_wp2_with fail
  refine cC.out.mono ?_
  intro e w9 hr
  obtain ⟨rfl, o9, D12⟩ := HD.out.rf hr
  clear hr cC HD
  have cI := xSet 6 D12.B
  have cC := Lib.hid cI
  clear cI
  have HD := Lib.hid D12
  clear D12
  go_wp2_with fail
  refine cC.out.mono ?_
  intro e w9 hr
  obtain ⟨rfl, o9, D13⟩ := HD.out.bu hr
  clear hr cC HD
  have c9 := D13.row.1 3 (.int .i64 0) (fun _ _ => rfl)
  have z9 := D13.row.2 3
  have HD := Lib.hid D13
  clear D13
  go_wp2_with fail
  have D14 := HD.out.set (k := 3) (v := .int .i64 6) (md' := 6) (hd' := 2) (qk' := false) (fun _ _ => rfl)
  clear c9 z9 HD
  go_ret2
  exact ⟨bp, ap, sp, lp, rp, _, rfl, D14.B, D14.x, D14.zB⟩
end Go.Proofs.YtnbdalohlldnbaaGreatDoor

namespace Go.Proofs.YtnbdalohlldnbaaGreatDoor
open Go.RowKit Bd
attribute [local go_sem ↓] Go.wp_at_zero Go.wp_at_succ
theorem ToksAt.below {w w' : World} {g : Nat} {ts : List TokL} (h : ToksAt w g ts) (hb : Below w.heap.size w w') : ToksAt w' g ts :=
  fun j t hj k u hk => (hb.cell (World.block_lt_of_cell? _ _ (h j t hj k u hk))).trans (h j t hj k u hk)
theorem ToksAt.lt {w : World} {g : Nat} {ts : List TokL} (h : ToksAt w g ts) (hne : ts ≠ []) : g < w.heap.size := by
  cases ts with
  | nil => exact absurd rfl hne
  | cons t r => exact World.block_lt_of_cell? _ _ (h 0 t rfl 0 _ rfl)
/-- What does is told of Step, of these tokens. -/
structure Drv (stp : BS → TokL → BS × Bool) (Inv : BS → Prop) (c : Nat) (ts : List TokL) : Prop where
  step : ∀ bp ap sp lp n own W b t, t ∈ ts → Inv b → n + c ≤ 90000 → BX n own W bp ap sp lp b → EnvT own W → Calls Tryz.prog 8 #[.pointer (some ⟨bp, 0, none⟩), tokV t] W (RX (n + c) own bp ap sp lp (.bool (stp b t).2) (stp b t).1 W)
  inv : ∀ b t, t ∈ ts → Inv b → Inv (stp b t).1
  stop : ∀ b t, t ∈ ts → Inv b → (stp b t).2 = true → (stp (stp b t).1 t).2 = false
theorem shape_of {own : Nat → Nat} {w : World} {n bp ap sp lp : Nat} {b : BS} {l : List NB} {v : Value} {B : Nat} (H : BX n own w bp ap sp lp b) (hl : l.map NB.n = b.ar) (hT : TreeAt w B v l) (hs : (Bd.shape b).size ≤ 1000000000) :
    Calls Tryz.prog 16 #[v, .int .i64 3] w fun e w' => e = .returned (.string (Bd.shape b)) ∧ Below w.heap.size w w' := by
  have h1 := H.G.ar
  have h2 := H.G.len
  have h3 := H.N
  have e : Bd.shape b = shapeF (l.map NB.n) (l.length + 1) 3 := by unfold Bd.shape; rw [← hl, List.length_map]
  rw [e] at hs ⊢
  rw [← hl] at h1 h2
  rw [List.length_map] at h2
  exact shape_any l h1 (by omega) (l.length + 1) 3 w B v hT (fun _ => by omega) hs
set_option maxHeartbeats 2000000 in
set_option maxRecDepth 100000 in
theorem told_any {w : World} {stp : BS → TokL → BS × Bool} {Inv : BS → Prop} {c g cp : Nat} {ts : List TokL} (hK : EnvK w) (hTb : Lib.TabIs Tryz.prog w "strings.asciiSpace" .u8 Lib.asciiSpaceTab) (hts : ToksAt w g ts) (hne : ts ≠ []) (hlen : ts.length ≤ 1000) (hD : Drv stp Inv c ts) (hI : Inv opened) (hn : 4 + 2 * c * ts.length ≤ 90000) (hs : (Bd.shape (ts.foldl (doesT stp) opened)).size ≤ 1000000000) :
    Calls Tryz.prog 34 #[.slice (some ⟨g, 0, none⟩) ts.length cp] w fun e w' => e = .returned (.string (Bd.shape (ts.foldl (doesT stp) opened))) ∧ Below w.heap.size w w' := by
  have cO := Lib.hid (opened_any hK)
  have hg := hts.lt hne
  obtain ⟨m, hm⟩ := hK.ml
  have hgl : (1 : Nat) < w.heap.size := by
    have hT := hTb
    unfold Lib.TabIs World.var? at hT
    have hg : (Tryz.prog).globalNamed "strings.asciiSpace" = some 1 := by kernel_rfl
    rw [hg] at hT
    simp only [Option.bind_some] at hT
    rcases Nat.lt_or_ge (1 : Nat) w.heap.size with h | h
    · exact h
    · rw [Array.getElem?_eq_none h] at hT; cases hT
  have HH := Lib.hid (⟨hTb, hts, hlen, hD, hI, hn, hg, hgl⟩ : _ ∧ _ ∧ _ ∧ _ ∧ _ ∧ _ ∧ _ ∧ _)
  obtain ⟨L, hL⟩ : ∃ L, L = ts.length := ⟨_, rfl⟩
  have HL := Lib.hid hL
  obtain ⟨bf, hbf⟩ : ∃ bf, bf = ts.foldl (doesT stp) opened := ⟨_, rfl⟩
  rw [← hbf] at hs ⊢
  have HBF := Lib.hid (⟨hbf, hs⟩ : _ ∧ _)
  rw [← hL]
  clear hK hTb hts hlen hD hI hn hg hgl hm hL hbf hs hne
  go_enter Tryz.func34, Tryz.ntmps34
  go_wp2_with fail
  refine cO.out.mono ?_
  rintro e w1 ⟨bp, ap, sp, lp, rp, oB, rfl, H1, hb1, h01⟩
  have hE : EnvT oB w1 := ⟨tab_below HH.out.1 hb1, h01 _ HH.out.2.2.2.2.2.2.2⟩
  have cA := Lib.hid (xArena H1)
  have cD := Lib.hid (does_any (cp := cp) stp Inv c ts (HH.out.2.1.below hb1) (h01 _ HH.out.2.2.2.2.2.2.1) HH.out.2.2.1 (HH.out.2.2.2.1.step bp ap sp lp) HH.out.2.2.2.1.inv HH.out.2.2.2.1.stop HH.out.2.2.2.2.1 HH.out.2.2.2.2.2.1 hE H1)
  rw [← HL.out, ← HBF.out.1] at cD
  have HB := Lib.hid (⟨hb1, h01⟩ : _ ∧ _)
  clear cO H1 hb1 h01 hE
  go_wp2_with fail
  refine cA.out.mono ?_
  rintro e w2 ⟨rfl, rfl⟩
  clear cA
  go_wp2_with fail
  refine cD.out.mono ?_
  rintro e w3 ⟨rfl, o3, H3, F3⟩
  have hb3 := (F3.below0 HB.out.1 HB.out.2).1
  have cA := Lib.hid (xArena H3)
  have cT := Lib.hid (xTree H3)
  have HB3 := Lib.hid (⟨hb3, H3⟩ : _ ∧ _)
  clear cD HB H3 F3 hb3
  go_wp2_with fail
  refine cA.out.mono ?_
  rintro e w4 ⟨rfl, rfl⟩
  go_wp2_with fail
  refine cT.out.mono ?_
  rintro e w5 ⟨v, l, rfl, hl, hT, hb5⟩
  have cS := Lib.hid (shape_of (HB3.out.2.below hb5) hl hT HBF.out.2)
  have HB5 := Lib.hid (below_call HB3.out.1 hb5)
  clear hl hT hb5 cA cT HB3
  go_wp2_with fail
  refine cS.out.mono ?_
  rintro e w6 ⟨rfl, hb6⟩
  have HB6 := Lib.hid (below_call HB5.out hb6)
  clear cS hb6
  go_wp2_with fail
  go_ret
  exact ⟨rfl, HB6.out⟩
end Go.Proofs.YtnbdalohlldnbaaGreatDoor

namespace Bd
open Go
theorem failB_mode (b : BS) (e : Int) : (failB b e).mode = b.mode := by unfold failB; split <;> rfl
theorem putB_mode (b : BS) (n t : Int) : (putB b n t).mode = b.mode := by unfold putB; split <;> rfl
theorem insertB_mode (b : BS) (t : TokL) (s : Int) : (insertB b t s).1.mode = b.mode := by
  unfold insertB
  split
  · exact failB_mode _ _
  · show (failB _ _).mode = _
    rw [failB_mode]
    show (putB _ _ _).mode = _
    rw [putB_mode]
theorem imply_mode (b : BS) (n : Ba) : (imply b n).1.mode = b.mode := insertB_mode _ _ _
theorem only_mode (b : BS) (t : TokL) : (only b t).1.mode = b.mode := by
  unfold only
  split
  · exact insertB_mode _ _ _
  · exact insertB_mode _ _ _
theorem charsB_mode (b : BS) (s : Ba) : (charsB b s).mode = b.mode := by unfold charsB; split <;> rfl
theorem rebuildF_mode : ∀ (m : Nat) (b : BS) (k : Nat), (rebuildF m b k).mode = b.mode
  | 0, _, _ => rfl
  | m + 1, b, k => by
    unfold rebuildF
    dsimp only
    split
    · exact insertB_mode _ _ _
    · rw [rebuildF_mode m]; exact insertB_mode _ _ _
theorem rebuild_mode (b : BS) : (rebuild b).mode = b.mode := rebuildF_mode _ _ _
theorem closeP_mode (b : BS) : (closeP b).mode = b.mode := by unfold closeP; split <;> rfl
theorem openE_mode (b : BS) (t : TokL) : (openE b t).mode = b.mode := insertB_mode _ _ _
theorem block_mode (b : BS) (t : TokL) : (block b t).mode = b.mode := (openE_mode _ _).trans (closeP_mode _)
theorem plain_mode (b : BS) (t : TokL) : (plain b t).mode = b.mode := (openE_mode _ _).trans (rebuild_mode _)
theorem single_mode (b : BS) (t : TokL) : (single b t).mode = b.mode := (only_mode _ _).trans (rebuild_mode _)
theorem format_mode (b : BS) (t : TokL) : (format b t).mode = b.mode := by
  unfold format
  dsimp only
  split
  · rw [failB_mode]; exact (insertB_mode _ _ _).trans (rebuild_mode _)
  · exact (insertB_mode _ _ _).trans (rebuild_mode _)
theorem otherF_mode (name : Ba) : ∀ (k : Nat) (b : BS), (otherF b name k).mode = b.mode
  | 0, _ => rfl
  | k + 1, b => by
    unfold otherF
    dsimp only
    split
    · rfl
    · split
      · rfl
      · exact otherF_mode name k b
theorem other_mode (b : BS) (name : Ba) : (other b name).mode = b.mode := otherF_mode _ _ _
theorem inward_mode (block format : Int) : ∀ (f : Nat) (b : BS) (many k last mark : Int), (inward block format f b many k last mark).1.mode = b.mode
  | 0, _, _, _, _, _ => rfl
  | f + 1, b, many, k, last, mark => by
    unfold inward
    dsimp only
    repeat' split
    all_goals first
      | rfl
      | exact (inward_mode block format f _ _ _ _ _).trans rfl
theorem renew_mode (b : BS) (block format mark : Int) : (renew b block format mark).mode = b.mode := rfl
theorem once_mode (b : BS) (name : Ba) : (once b name).1.mode = b.mode := by
  unfold once
  dsimp only
  split
  · rfl
  · split
    · rfl
    · split
      · rfl
      · split
        · rfl
        · show (renew _ _ _ _).mode = _
          rw [renew_mode, putB_mode, inward_mode]
theorem runF_mode (name : Ba) : ∀ (n : Nat) (b : BS), (runF n b name).1.mode = b.mode
  | 0, _ => rfl
  | n + 1, b => by
    unfold runF
    have h := once_mode b name
    generalize once b name = r at *
    obtain ⟨b1, more, done⟩ := r
    dsimp only at h ⊢
    split
    · exact h
    · split
      · exact h
      · rw [runF_mode name n, h]
theorem run_mode (b : BS) (name : Ba) : (run b name).1.mode = b.mode := by
  unfold run
  split
  · rfl
  · exact runF_mode _ _ _
theorem formatted_mode (b : BS) (t : TokL) : (formatted b t).mode = b.mode := by
  unfold formatted
  split
  · exact run_mode _ _
  · rw [other_mode]; exact run_mode _ _
theorem link_mode (b : BS) (t : TokL) : (link b t).mode = b.mode := by
  unfold link
  dsimp only
  split
  · rw [format_mode]; exact formatted_mode _ _
  · exact format_mode _ _
theorem itemF_mode (names : List Ba) (b : BS) : ∀ k : Nat, (itemF names b k).mode = b.mode
  | 0 => rfl
  | k + 1 => by
    unfold itemF
    dsimp only
    split
    · rfl
    · split
      · exact itemF_mode names b k
      · split
        · rfl
        · exact itemF_mode names b k
theorem item_mode (names : List Ba) (b : BS) (t : TokL) : (item names b t).mode = b.mode := (block_mode _ _).trans (itemF_mode _ _ _)
theorem shut_mode (b : BS) (t : TokL) : (shut b t).mode = b.mode := by unfold shut; split <;> rfl
theorem endP_mode (b : BS) : (endP b).mode = b.mode := by
  unfold endP
  rw [closeP_mode]
  split
  · rfl
  · exact imply_mode _ _
theorem endBr_mode (b : BS) : (endBr b).mode = b.mode := single_mode _ _
theorem chB_mode (b : BS) (t : TokL) : (chB b t).mode = b.mode := (charsB_mode _ _).trans (rebuild_mode _)
end Bd

namespace Go.Proofs.YtnbdalohlldnbaaGreatDoor
open Go.RowKit Bd
attribute [local go_sem ↓] Go.wp_at_zero Go.wp_at_succ
theorem lit_at {L : List (List UInt8 × DU)} {i : Nat} {g : List UInt8} {d : DU} (hnd : (L.map (·.1)).Nodup) (hi : L[i]? = some (g, d)) : litS L g = some d := by
  induction L generalizing i with
  | nil => simp at hi
  | cons e r ih =>
    unfold litS
    rw [List.find?_cons]
    cases i with
    | zero =>
      obtain rfl := Option.some.inj hi
      simp
    | succ i =>
      have hi' : r[i]? = some (g, d) := by simpa using hi
      rw [List.map_cons, List.nodup_cons] at hnd
      have hne : (e.1 == g) = false := by
        cases h : (e.1 == g) with
        | false => rfl
        | true =>
          exfalso
          rw [eq_of_beq h] at hnd
          exact hnd.1 (List.mem_map.2 ⟨_, List.mem_of_getElem? hi', rfl⟩)
      rw [hne]
      exact ih hnd.2 hi'
theorem start_nd : startK.Nodup := by decide +kernel
theorem end_nd : endK.Nodup := by decide +kernel
theorem look_start {nm g : List UInt8} {k : Nat} (i : Nat) (hi : ∀ x y, (startL x y)[i]? = some (g, .lit (.int .i64 (k : Int)))) (hn : nm ∈ Lib.fields g) : ∀ x y v, StartV nm v x y → v = .func (.func k) #[] #[] := fun x y v ⟨S, hS, ps, hv⟩ => by
  rw [hS.some (lit_at start_nd (hi x y)) hn] at hv
  exact codeV_fn hv
theorem look_end {nm g : List UInt8} {k : Nat} (i : Nat) (hi : ∀ x y, (endL x y)[i]? = some (g, .lit (.int .i64 (k : Int)))) (hn : nm ∈ Lib.fields g) : ∀ x y v, EndV nm v x y → v = .func (.func k) #[] #[] := fun x y v ⟨S, hS, ps, hv⟩ => by
  rw [hS.some (lit_at end_nd (hi x y)) hn] at hv
  exact codeV_fn hv
theorem look_startX {nm g : List UInt8} {k : Nat} (i : Nat) (hi : ∀ x y, (startL x y)[i]? = some (g, .agg [.lit (.int .i64 (k : Int)), .lit (.int .i64 (x : Nat))])) (hn : nm ∈ Lib.fields g) : ∀ x y v, StartV nm v x y → v = .func (.func k) #[] #[.pointer (some ⟨x, 0, none⟩)] := fun x y v ⟨S, hS, ps, hv⟩ => by
  rw [hS.some (lit_at start_nd (hi x y)) hn] at hv
  exact codeV_cl hv
theorem RX.mono {n m : Nat} {own : Nat → Nat} {w : World} {bp ap sp lp : Nat} {r : Value} {b : BS} {e : Ending} {w' : World} (h : RX n own bp ap sp lp r b w e w') (hm : n ≤ m) (h2 : m ≤ 90000) : RX m own bp ap sp lp r b w e w' := by
  obtain ⟨h1, o, H, F⟩ := h
  exact ⟨h1, o, H.mono hm h2, F⟩
def stpS (b : BS) (t : TokL) : BS × Bool :=
  if t.kind == 7 then (chB b t, false)
  else if t.kind == 2 then (if t.name == ⟨#[112]⟩ then block b t else if t.name == ⟨#[98]⟩ then format b t else if t.name == ⟨#[97]⟩ then link b t else item [⟨#[108, 105]⟩] b t, false)
  else (if t.name == ⟨#[98]⟩ then formatted b t else if t.name == ⟨#[98, 114]⟩ then endBr b else endP b, false)
/-- The tokens of stands. -/
inductive StT : TokL → Prop
  | p : StT (startT ⟨#[112]⟩)
  | b : StT (startT ⟨#[98]⟩)
  | a : StT (startT ⟨#[97]⟩)
  | li : StT (startT ⟨#[108, 105]⟩)
  | eb : StT (endT ⟨#[98]⟩)
  | ebr : StT (endT ⟨#[98, 114]⟩)
  | ep : StT (endT ⟨#[112]⟩)
  | ch (s : Ba) (h : s.size ≤ 1000) : StT (charsT s)
theorem drvS {ts : List TokL} (hts : ∀ t ∈ ts, StT t) : Drv stpS (fun b => b.mode = 6) 97 ts := by
  refine ⟨fun bp ap sp lp n own W b t ht hm hn H hE => ?_, fun b t ht hm => ?_, fun b t ht hm h => ?_⟩
  · cases hts t ht with
    | p =>
      rw [show stpS b (startT ⟨#[112]⟩) = (Bd.block b (startT ⟨#[112]⟩), false) from rfl]
      exact Step_body false (startT ⟨#[112]⟩) hm H (fun V HV hb => (Body_start (m := n + 1) 71 (startT ⟨#[112]⟩) ⟨by decide, by decide +kernel⟩ rfl (tab_below hE.t hb) HV (fun x y v hv => Or.inl (look_start 22 (fun _ _ => rfl) (by decide +kernel) x y v hv)) Tryz.call71 (fun U HU => rblock_any _ ⟨by decide, by decide +kernel⟩ (by omega) HU)).mono fun _ _ hr => RX.mono hr (by omega) hn)
    | b =>
      rw [show stpS b (startT ⟨#[98]⟩) = (Bd.format b (startT ⟨#[98]⟩), false) from rfl]
      exact Step_body false (startT ⟨#[98]⟩) hm H (fun V HV hb => (Body_start (m := n + 65) 79 (startT ⟨#[98]⟩) ⟨by decide, by decide +kernel⟩ rfl (tab_below hE.t hb) HV (fun x y v hv => Or.inl (look_start 13 (fun _ _ => rfl) (by decide +kernel) x y v hv)) Tryz.call79 (fun U HU => rformat_any _ ⟨by decide, by decide +kernel⟩ (by omega) HU)).mono fun _ _ hr => RX.mono hr (by omega) hn)
    | a =>
      rw [show stpS b (startT ⟨#[97]⟩) = (Bd.link b (startT ⟨#[97]⟩), false) from rfl]
      exact Step_body false (startT ⟨#[97]⟩) hm H (fun V HV hb => (Body_start (m := n + 97) 78 (startT ⟨#[97]⟩) ⟨by decide, by decide +kernel⟩ rfl (tab_below hE.t hb) HV (fun x y v hv => Or.inl (look_start 14 (fun _ _ => rfl) (by decide +kernel) x y v hv)) Tryz.call78 (fun U HU => rlink_any _ ⟨by decide, by decide +kernel⟩ (by omega) HU)).mono fun _ _ hr => RX.mono hr (by omega) hn)
    | li =>
      rw [show stpS b (startT ⟨#[108, 105]⟩) = (item [⟨#[108, 105]⟩] b (startT ⟨#[108, 105]⟩), false) from rfl]
      exact Step_body false (startT ⟨#[108, 105]⟩) hm H (fun V HV hb => (Body_startX (m := n + 1) 143 (startT ⟨#[108, 105]⟩) ⟨by decide, by decide +kernel⟩ rfl (tab_below hE.t hb) HV (look_startX 18 (fun _ _ => rfl) (by decide +kernel)) Tryz.call143 (fun U x y nx ny HU hk => ritem_any _ ⟨by decide, by decide +kernel⟩ hk.1.1 hk.1.2 (by omega) HU)).mono fun _ _ hr => RX.mono hr (by omega) hn)
    | eb =>
      rw [show stpS b (endT ⟨#[98]⟩) = (formatted b (endT ⟨#[98]⟩), false) from rfl]
      exact Step_body false (endT ⟨#[98]⟩) hm H (fun V HV hb => (Body_end (m := n + 32) 100 (endT ⟨#[98]⟩) ⟨by decide, by decide +kernel⟩ rfl (tab_below hE.t hb) HV (fun x y v hv => Or.inl (look_end 2 (fun _ _ => rfl) (by decide +kernel) x y v hv)) Tryz.call100 (fun U HU => rformatted_any _ (by omega) HU) (by decide +kernel)).mono fun _ _ hr => RX.mono hr (by omega) hn)
    | ebr =>
      rw [show stpS b (endT ⟨#[98, 114]⟩) = (endBr b, false) from rfl]
      exact Step_body false (endT ⟨#[98, 114]⟩) hm H (fun V HV hb => (Body_end (m := n + 65) 102 (endT ⟨#[98, 114]⟩) ⟨by decide, by decide +kernel⟩ rfl (tab_below hE.t hb) HV (fun x y v hv => Or.inl (look_end 0 (fun _ _ => rfl) (by decide +kernel) x y v hv)) Tryz.call102 (fun U HU => rendBr_any _ (by omega) HU) (by decide +kernel)).mono fun _ _ hr => RX.mono hr (by omega) hn)
    | ep =>
      rw [show stpS b (endT ⟨#[112]⟩) = (endP b, false) from rfl]
      exact Step_body false (endT ⟨#[112]⟩) hm H (fun V HV hb => (Body_end (m := n + 1) 97 (endT ⟨#[112]⟩) ⟨by decide, by decide +kernel⟩ rfl (tab_below hE.t hb) HV (fun x y v hv => Or.inl (look_end 6 (fun _ _ => rfl) (by decide +kernel) x y v hv)) Tryz.call97 (fun U HU => rendP_any _ (by omega) HU) (by decide +kernel)).mono fun _ _ hr => RX.mono hr (by omega) hn)
    | ch s h =>
      rw [show stpS b (charsT s) = (chB b (charsT s), false) from rfl]
      exact Step_body false (charsT s) hm H (fun V HV hb => (Body_chars (charsT s) h rfl (by omega) HV).mono fun _ _ hr => RX.mono hr (by omega) hn)
  · cases hts t ht with
    | p => exact (block_mode _ _).trans hm
    | b => exact (format_mode _ _).trans hm
    | a => exact (link_mode _ _).trans hm
    | li => exact (item_mode _ _ _).trans hm
    | eb => exact (formatted_mode _ _).trans hm
    | ebr => exact (endBr_mode _).trans hm
    | ep => exact (endP_mode _).trans hm
    | ch s _ => exact (chB_mode _ _).trans hm
  · cases hts t ht <;> cases h
end Go.Proofs.YtnbdalohlldnbaaGreatDoor

namespace Go.Proofs.YtnbdalohlldnbaaGreatDoor
open Go.RowKit Bd
attribute [local go_sem ↓] Go.wp_at_zero Go.wp_at_succ
def tkRow (t : TokL) : List Value := (tokR t).toList
theorem tk_at (ts : List TokL) : ∀ (j : Nat) (t : TokL), ts[j]? = some t → ∀ k u, (tokR t)[k]? = some u → (ts.flatMap tkRow)[j * 9 + k]? = some u := by
  induction ts with
  | nil => intro j t h; simp at h
  | cons x r ih =>
    intro j t hj k u hk
    rw [List.flatMap_cons]
    cases j with
    | zero =>
      obtain rfl := Option.some.inj hj
      have hk9 : k < 9 := (Array.getElem?_eq_some_iff.1 hk).1
      rw [Nat.zero_mul, Nat.zero_add, List.getElem?_append_left (show k < (tkRow x).length from hk9)]
      unfold tkRow
      rw [Array.getElem?_toList]; exact hk
    | succ j =>
      rw [List.getElem?_append_right (show 9 ≤ _ by omega), show (j + 1) * 9 + k - (tkRow x).length = j * 9 + k by show (j + 1) * 9 + k - 9 = _; omega]
      exact ih j t (by simpa using hj) k u hk
theorem toks_alloc (w : World) (ts : List TokL) (T : TypeId) : ToksAt (w.alloc (.cells (ts.flatMap tkRow).toArray T)) w.heap.size ts :=
  fun j t hj k u hk => rowAt (heap_new _ _) _ u (by rw [List.getElem?_toArray]; exact tk_at ts j t hj k u hk)
/-- What stands needs of the world. -/
structure E2 (w : World) : Prop where
  k : EnvK w
  t : Lib.TabIs Tryz.prog w "strings.asciiSpace" .u8 Lib.asciiSpaceTab
theorem E2.below {w0 w : World} (h : E2 w0) (hb : Below w0.heap.size w0 w) : E2 w := ⟨h.k.of_below hb, tab_below h.t hb⟩
theorem say0 : Bd.shape (([startT ⟨#[112]⟩, charsT ⟨#[120]⟩, startT ⟨#[112]⟩, charsT ⟨#[121]⟩] : List TokL).foldl (doesT stpS) opened) = ⟨#[98, 111, 100, 121, 40, 112, 40, 120, 41, 112, 40, 121, 41, 41]⟩ := by decide +kernel
theorem told0 {w : World} {g cp : Nat} (hE : E2 w) (hts : ToksAt w g ([startT ⟨#[112]⟩, charsT ⟨#[120]⟩, startT ⟨#[112]⟩, charsT ⟨#[121]⟩] : List TokL)) : Calls Tryz.prog 34 #[.slice (some ⟨g, 0, none⟩) 4 cp] w fun e w' => e = .returned (.string ⟨#[98, 111, 100, 121, 40, 112, 40, 120, 41, 112, 40, 121, 41, 41]⟩) ∧ Below w.heap.size w w' := by
  have hm : ∀ t ∈ ([startT ⟨#[112]⟩, charsT ⟨#[120]⟩, startT ⟨#[112]⟩, charsT ⟨#[121]⟩] : List TokL), StT t := by
    intro t ht
    simp only [List.mem_cons, List.not_mem_nil, or_false] at ht
    rcases ht with rfl | rfl | rfl | rfl
    · exact .p
    · exact .ch _ (by decide)
    · exact .p
    · exact .ch _ (by decide)
  have h := told_any (cp := cp) hE.k hE.t hts (by simp) (by decide) (drvS hm) (by decide +kernel) (by decide) (by rw [say0]; decide)
  rw [say0] at h
  exact h
theorem say1 : Bd.shape (([startT ⟨#[98]⟩, charsT ⟨#[120]⟩, startT ⟨#[112]⟩, charsT ⟨#[121]⟩, endT ⟨#[98]⟩, charsT ⟨#[122]⟩] : List TokL).foldl (doesT stpS) opened) = ⟨#[98, 111, 100, 121, 40, 98, 40, 120, 41, 112, 40, 98, 40, 121, 41, 122, 41, 41]⟩ := by decide +kernel
theorem told1 {w : World} {g cp : Nat} (hE : E2 w) (hts : ToksAt w g ([startT ⟨#[98]⟩, charsT ⟨#[120]⟩, startT ⟨#[112]⟩, charsT ⟨#[121]⟩, endT ⟨#[98]⟩, charsT ⟨#[122]⟩] : List TokL)) : Calls Tryz.prog 34 #[.slice (some ⟨g, 0, none⟩) 6 cp] w fun e w' => e = .returned (.string ⟨#[98, 111, 100, 121, 40, 98, 40, 120, 41, 112, 40, 98, 40, 121, 41, 122, 41, 41]⟩) ∧ Below w.heap.size w w' := by
  have hm : ∀ t ∈ ([startT ⟨#[98]⟩, charsT ⟨#[120]⟩, startT ⟨#[112]⟩, charsT ⟨#[121]⟩, endT ⟨#[98]⟩, charsT ⟨#[122]⟩] : List TokL), StT t := by
    intro t ht
    simp only [List.mem_cons, List.not_mem_nil, or_false] at ht
    rcases ht with rfl | rfl | rfl | rfl | rfl | rfl
    · exact .b
    · exact .ch _ (by decide)
    · exact .p
    · exact .ch _ (by decide)
    · exact .eb
    · exact .ch _ (by decide)
  have h := told_any (cp := cp) hE.k hE.t hts (by simp) (by decide) (drvS hm) (by decide +kernel) (by decide) (by rw [say1]; decide)
  rw [say1] at h
  exact h
theorem say2 : Bd.shape (([startT ⟨#[97]⟩, charsT ⟨#[120]⟩, startT ⟨#[97]⟩, charsT ⟨#[121]⟩] : List TokL).foldl (doesT stpS) opened) = ⟨#[98, 111, 100, 121, 40, 97, 40, 120, 41, 97, 40, 121, 41, 41]⟩ := by decide +kernel
theorem told2 {w : World} {g cp : Nat} (hE : E2 w) (hts : ToksAt w g ([startT ⟨#[97]⟩, charsT ⟨#[120]⟩, startT ⟨#[97]⟩, charsT ⟨#[121]⟩] : List TokL)) : Calls Tryz.prog 34 #[.slice (some ⟨g, 0, none⟩) 4 cp] w fun e w' => e = .returned (.string ⟨#[98, 111, 100, 121, 40, 97, 40, 120, 41, 97, 40, 121, 41, 41]⟩) ∧ Below w.heap.size w w' := by
  have hm : ∀ t ∈ ([startT ⟨#[97]⟩, charsT ⟨#[120]⟩, startT ⟨#[97]⟩, charsT ⟨#[121]⟩] : List TokL), StT t := by
    intro t ht
    simp only [List.mem_cons, List.not_mem_nil, or_false] at ht
    rcases ht with rfl | rfl | rfl | rfl
    · exact .a
    · exact .ch _ (by decide)
    · exact .a
    · exact .ch _ (by decide)
  have h := told_any (cp := cp) hE.k hE.t hts (by simp) (by decide) (drvS hm) (by decide +kernel) (by decide) (by rw [say2]; decide)
  rw [say2] at h
  exact h
theorem say3 : Bd.shape (([startT ⟨#[108, 105]⟩, startT ⟨#[108, 105]⟩] : List TokL).foldl (doesT stpS) opened) = ⟨#[98, 111, 100, 121, 40, 108, 105, 40, 41, 108, 105, 40, 41, 41]⟩ := by decide +kernel
theorem told3 {w : World} {g cp : Nat} (hE : E2 w) (hts : ToksAt w g ([startT ⟨#[108, 105]⟩, startT ⟨#[108, 105]⟩] : List TokL)) : Calls Tryz.prog 34 #[.slice (some ⟨g, 0, none⟩) 2 cp] w fun e w' => e = .returned (.string ⟨#[98, 111, 100, 121, 40, 108, 105, 40, 41, 108, 105, 40, 41, 41]⟩) ∧ Below w.heap.size w w' := by
  have hm : ∀ t ∈ ([startT ⟨#[108, 105]⟩, startT ⟨#[108, 105]⟩] : List TokL), StT t := by
    intro t ht
    simp only [List.mem_cons, List.not_mem_nil, or_false] at ht
    rcases ht with rfl | rfl
    · exact .li
    · exact .li
  have h := told_any (cp := cp) hE.k hE.t hts (by simp) (by decide) (drvS hm) (by decide +kernel) (by decide) (by rw [say3]; decide)
  rw [say3] at h
  exact h
theorem say4 : Bd.shape (([endT ⟨#[98, 114]⟩, endT ⟨#[112]⟩] : List TokL).foldl (doesT stpS) opened) = ⟨#[98, 111, 100, 121, 40, 98, 114, 40, 41, 112, 40, 41, 41]⟩ := by decide +kernel
theorem told4 {w : World} {g cp : Nat} (hE : E2 w) (hts : ToksAt w g ([endT ⟨#[98, 114]⟩, endT ⟨#[112]⟩] : List TokL)) : Calls Tryz.prog 34 #[.slice (some ⟨g, 0, none⟩) 2 cp] w fun e w' => e = .returned (.string ⟨#[98, 111, 100, 121, 40, 98, 114, 40, 41, 112, 40, 41, 41]⟩) ∧ Below w.heap.size w w' := by
  have hm : ∀ t ∈ ([endT ⟨#[98, 114]⟩, endT ⟨#[112]⟩] : List TokL), StT t := by
    intro t ht
    simp only [List.mem_cons, List.not_mem_nil, or_false] at ht
    rcases ht with rfl | rfl
    · exact .ebr
    · exact .ep
  have h := told_any (cp := cp) hE.k hE.t hts (by simp) (by decide) (drvS hm) (by decide +kernel) (by decide) (by rw [say4]; decide)
  rw [say4] at h
  exact h
end Go.Proofs.YtnbdalohlldnbaaGreatDoor

namespace Go.Proofs.YtnbdalohlldnbaaGreatDoor
open Go.RowKit Bd
attribute [local go_sem ↓] Go.wp_at_zero Go.wp_at_succ
set_option maxHeartbeats 4000000 in
set_option maxRecDepth 100000 in
theorem stands_any {w : World} (hE : E2 w) : Calls Tryz.prog 10 #[] w fun e w' => e = .returned (.bool true) ∧ Below w.heap.size w w' := by
  have HE := Lib.hid hE
  have HB : Hid (Below w.heap.size w w) := Lib.hid (Below.refl _ _)
  clear hE
  go_enter Tryz.func10, Tryz.ntmps10
  go_wp2_with (first
    | (go_at_call 14; refine (tstart_any _ _).mono ?_; rintro e w9 ⟨rfl, hb9⟩; replace HB := Lib.hid (below_call HB.out hb9); clear hb9)
    | (go_at_call 13; refine (tend_any _ _).mono ?_; rintro e w9 ⟨rfl, hb9⟩; replace HB := Lib.hid (below_call HB.out hb9); clear hb9)
    | (go_at_call 15; refine (tchars_any _ _).mono ?_; rintro e w9 ⟨rfl, hb9⟩; replace HB := Lib.hid (below_call HB.out hb9); clear hb9)
    | fail)
  refine (told0 (HE.out.below (HB.out.alloc HB.out.size _)) (toks_alloc _ _ _)).mono ?_
  rintro e w9 ⟨rfl, hb9⟩
  replace HB := Lib.hid (below_call (HB.out.alloc HB.out.size _) hb9)
  clear hb9
  go_wp2_with (first
    | (go_at_call 14; refine (tstart_any _ _).mono ?_; rintro e w9 ⟨rfl, hb9⟩; replace HB := Lib.hid (below_call HB.out hb9); clear hb9)
    | (go_at_call 13; refine (tend_any _ _).mono ?_; rintro e w9 ⟨rfl, hb9⟩; replace HB := Lib.hid (below_call HB.out hb9); clear hb9)
    | (go_at_call 15; refine (tchars_any _ _).mono ?_; rintro e w9 ⟨rfl, hb9⟩; replace HB := Lib.hid (below_call HB.out hb9); clear hb9)
    | fail)
  refine (told1 (HE.out.below (HB.out.alloc HB.out.size _)) (toks_alloc _ _ _)).mono ?_
  rintro e w9 ⟨rfl, hb9⟩
  replace HB := Lib.hid (below_call (HB.out.alloc HB.out.size _) hb9)
  clear hb9
  go_wp2_with (first
    | (go_at_call 14; refine (tstart_any _ _).mono ?_; rintro e w9 ⟨rfl, hb9⟩; replace HB := Lib.hid (below_call HB.out hb9); clear hb9)
    | (go_at_call 13; refine (tend_any _ _).mono ?_; rintro e w9 ⟨rfl, hb9⟩; replace HB := Lib.hid (below_call HB.out hb9); clear hb9)
    | (go_at_call 15; refine (tchars_any _ _).mono ?_; rintro e w9 ⟨rfl, hb9⟩; replace HB := Lib.hid (below_call HB.out hb9); clear hb9)
    | fail)
  refine (told2 (HE.out.below (HB.out.alloc HB.out.size _)) (toks_alloc _ _ _)).mono ?_
  rintro e w9 ⟨rfl, hb9⟩
  replace HB := Lib.hid (below_call (HB.out.alloc HB.out.size _) hb9)
  clear hb9
  go_wp2_with (first
    | (go_at_call 14; refine (tstart_any _ _).mono ?_; rintro e w9 ⟨rfl, hb9⟩; replace HB := Lib.hid (below_call HB.out hb9); clear hb9)
    | (go_at_call 13; refine (tend_any _ _).mono ?_; rintro e w9 ⟨rfl, hb9⟩; replace HB := Lib.hid (below_call HB.out hb9); clear hb9)
    | (go_at_call 15; refine (tchars_any _ _).mono ?_; rintro e w9 ⟨rfl, hb9⟩; replace HB := Lib.hid (below_call HB.out hb9); clear hb9)
    | fail)
  refine (told3 (HE.out.below (HB.out.alloc HB.out.size _)) (toks_alloc _ _ _)).mono ?_
  rintro e w9 ⟨rfl, hb9⟩
  replace HB := Lib.hid (below_call (HB.out.alloc HB.out.size _) hb9)
  clear hb9
  go_wp2_with (first
    | (go_at_call 14; refine (tstart_any _ _).mono ?_; rintro e w9 ⟨rfl, hb9⟩; replace HB := Lib.hid (below_call HB.out hb9); clear hb9)
    | (go_at_call 13; refine (tend_any _ _).mono ?_; rintro e w9 ⟨rfl, hb9⟩; replace HB := Lib.hid (below_call HB.out hb9); clear hb9)
    | (go_at_call 15; refine (tchars_any _ _).mono ?_; rintro e w9 ⟨rfl, hb9⟩; replace HB := Lib.hid (below_call HB.out hb9); clear hb9)
    | fail)
  refine (told4 (HE.out.below (HB.out.alloc HB.out.size _)) (toks_alloc _ _ _)).mono ?_
  rintro e w9 ⟨rfl, hb9⟩
  replace HB := Lib.hid (below_call (HB.out.alloc HB.out.size _) hb9)
  clear hb9
  go_wp2_with fail
  go_ret
  exact ⟨rfl, HB.out⟩
end Go.Proofs.YtnbdalohlldnbaaGreatDoor
