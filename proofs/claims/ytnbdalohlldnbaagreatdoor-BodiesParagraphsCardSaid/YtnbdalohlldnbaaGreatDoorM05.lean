/-
  Package stack: Pop, Until.
  Package stack: drop at implied ends, Implied.
  Package stack: element; slices.Insert behind all.
  Package stack: Insert and Push, behind all; New.
  Package stack: scope, the iterator.
-/
import Derived.Test.YtnbdalohlldnbaaGreatDoorM04
import Derived.RangeFuncNested
import Derived.RangeFuncBound
import Derived.RangeFuncCalls
import Derived.RangeFuncLeaves
import Derived.Shelf.Abstract
import Derived.Shelf.RegionOpen
import Derived.OwnWalkIn
import Derived.TacticsInMore
import Derived.LoopNIn
import Derived.LoopIn
namespace Go.Proofs.YtnbdalohlldnbaaGreatDoor
open Go.RowKit Bd
attribute [local go_sem ↓] Go.wp_at_zero Go.wp_at_succ
theorem SlAt.take {w : World} {e : TypeId} {size n : Nat} {a : Option Addr} {c : Nat} {xs : List Value} (h : SlAt w e size (.slice a n c) n xs) {k : Nat} (hk : k ≤ n) : SlAt w e size (.slice a k c) k (xs.take (k * size)) := by
  have hm : k * size ≤ n * size := Nat.mul_le_mul_right _ hk
  refine ⟨by rw [List.length_take, h.1]; omega, ?_⟩
  rcases h.2 with ⟨e1, e2⟩ | ⟨g, cap, cur, e1, hg, h3, h4, h5, h6⟩
  · injection e1 with e1 e3 e4
    subst e1; subst e4
    have : k = 0 := by omega
    subst this
    exact Or.inl ⟨rfl, rfl⟩
  · injection e1 with e1 e2 e3
    subst e1; subst e3
    exact Or.inr ⟨g, c, cur, rfl, hg, by omega, h4, h5, by rw [← h6, List.take_take, Nat.min_eq_left hm]⟩
/-- The stack's list cut. -/
theorem StH.put {own : Nat → Nat} {w : World} {sp ap : Nat} {a : Option Addr} {n c : Nat} {s : St} (h : StH own w sp ap (.slice a n c) s) (hL : Lbl own w) (k : Nat) (hk : k ≤ s.length) :
    StH own (w.setCell ⟨sp, 1, none⟩ (.slice a k c)) sp ap (.slice a k c) (s.take k) ∧ Fr cSt own own w (w.setCell ⟨sp, 1, none⟩ (.slice a k c)) := by
  have hn : n = s.length := by
    obtain ⟨a', c', e, _⟩ := h.s.1.form
    injection e
  subst hn
  have hf3 : Fr (fun y => y == 3) own own w (w.setCell ⟨sp, 1, none⟩ (.slice a k c)) := Fr.setCell hL (p := ⟨sp, 1, none⟩) _ (by simp [h.o])
  have hf : Fr cSt own own w (w.setCell ⟨sp, 1, none⟩ (.slice a k c)) := hf3.mono (fun y hy => by
    cases hx : (y == 3) with
    | false => rfl
    | true => rw [beq_iff_eq.1 hx] at hy; cases hy)
  have hs := h.s.keep hf3 rfl
  refine ⟨⟨h.o, row_setC h.h 1 _, ⟨?_, fun g hg => ?_⟩⟩, hf⟩
  · have := SlAt.take hs.1 hk
    rw [orows_take] at this
    rw [List.length_take, Nat.min_eq_left hk]; exact this
  · cases a with
    | none => cases hg
    | some p => exact hs.2 g (by simpa [Value.ownBlock] using hg)
/-- What an act on a stack answers, and what the stack is then. -/
def RStk (own : Nat → Nat) (sp ap : Nat) (r : Value) (s : St) (w : World) (e : Ending) (w' : World) : Prop := e = .returned r ∧ ∃ own' sv', StH own' w' sp ap sv' s ∧ Fr cSt own own' w w'
theorem Pop_any {own : Nat → Nat} {w : World} {sp ap : Nat} {sv : Value} {s : St} (h : StH own w sp ap sv s) (hL : Lbl own w) (hs : s.length ≤ 1000000) : Calls Tryz.prog 41 #[.pointer (some ⟨sp, 0, none⟩)] w (RStk own sp ap (.int .i64 (topS s)) (popS s) w) := by
  have cL := Lib.hid (SLen_any h)
  have cT := Lib.hid (STop_any h hs)
  have c1 := rowAt h.h 1 _ rfl
  have z1 := frozen_row h.h 1
  generalize topS s = t at *
  obtain ⟨n, hn⟩ : ∃ n, n = s.length := ⟨_, rfl⟩
  obtain ⟨a, c, rfl, hc⟩ := h.s.1.form
  rw [← hn] at hs cL h c1 hc
  have HA := Lib.hid h
  by_cases h0 : n = 0
  · subst h0
    have hnil : s = [] := List.eq_nil_of_length_eq_zero hn.symm
    subst hnil
    have HL := Lib.hid hL
    clear h hL hn
    go_enter Tryz.func41, Tryz.ntmps41
    go_wp2_with fail
    refine cT.out.mono ?_
    rintro e w1 ⟨rfl, rfl⟩
    go_wp2_with fail
    refine cL.out.mono ?_
    rintro e w1 ⟨rfl, rfl⟩
    go_wp2_with fail
    go_ret
    exact ⟨rfl, own, _, HA.out, Fr.refl _ HL.out⟩
  · have HP := Lib.hid (h.put hL (n - 1) (by omega))
    have e1 : s.take (n - 1) = popS s := by rw [hn]; unfold popS; rw [List.dropLast_eq_take]
    rw [e1] at HP
    have i0 : (0 : Int) ≤ (n : Int) - 1 := by omega
    have i1 : (n : Int) - 1 ≤ (c : Int) := by omega
    have i2 : (0 : Int) < (n : Int) := by omega
    have e2 : ((n : Int) - 1).toNat = n - 1 := by omega
    clear h hL hn e1 HA
    go_enter Tryz.func41, Tryz.ntmps41
    go_wp2_with fail
    refine cT.out.mono ?_
    rintro e w1 ⟨rfl, rfl⟩
    go_wp2_with fail
    refine cL.out.mono ?_
    rintro e w1 ⟨rfl, rfl⟩
    go_wp2_with fail
    go_ret
    exact ⟨rfl, own, _, HP.out.1, HP.out.2⟩
theorem SlAt.max {w : World} {e : TypeId} {size n : Nat} {v : Value} {xs : List Value} (h : SlAt w e size v n xs) : n ≤ maxLen := by
  rcases h.2 with ⟨_, rfl⟩ | ⟨g, cap, cur, _, _, h3, h4, _⟩
  · exact Nat.zero_le _
  · omega
theorem Until_any {own : Nat → Nat} {w : World} {sp ap : Nat} {sv : Value} {s : St} {v : Value} {ns : List Ba} (h : StH own w sp ap sv s) (hL : Lbl own w) (hs : s.length ≤ 1000000) (hN : NmAt w v ns) :
    Calls Tryz.prog 131 #[.pointer (some ⟨sp, 0, none⟩), v] w (RStk own sp ap (.int .i64 (untilS s ns).2) (untilS s ns).1 w) := by
  have cN := Lib.hid (SNone_any h)
  have hrow : Hid (∀ W, Below w.heap.size w W → W.cell? ⟨sp, 1, none⟩ = some sv ∧ W.frozen? ⟨sp, 1, none⟩ = false) := Lib.hid (fun W hW => by
    have h2 := h.below hW hL
    exact ⟨rowAt h2.h 1 _ rfl, frozen_row h2.h 1⟩)
  have cH : Hid (∀ (o : OpenL) W, Below w.heap.size w W → Calls Tryz.prog 172 #[.agg #[.int .i64 o.node, .int .i64 o.space, .string o.name], v] W fun e w' => e = .returned (.bool (htmlO o ns)) ∧ Below W.heap.size W w') := Lib.hid (fun o W hW => html_any o (hN.below hW))
  have hC : Hid (∀ (j : Nat) (x : OpenL) W, s[j]? = some x → Below w.heap.size w W → ∃ g cap, sv = .slice (some ⟨g, 0, none⟩) s.length cap ∧ s.length ≤ cap ∧ W.cell? ⟨g, j * 3, none⟩ = some (.int .i64 x.node) ∧ W.cell? ⟨g, j * 3 + 1, none⟩ = some (.int .i64 x.space) ∧ W.cell? ⟨g, j * 3 + 2, none⟩ = some (.string x.name)) := Lib.hid (fun j x W hj hW => (h.below hW hL).cells hj)
  have HX : Hid (∀ j : Nat, j < s.length → ∃ x, s[j]? = some x) := Lib.hid (fun j hj => ⟨_, List.getElem?_eq_getElem hj⟩)
  have HP : Hid (∀ (k : Nat) W a c, Below w.heap.size w W → sv = .slice a s.length c → k ≤ s.length → ∃ own' sv', StH own' (W.setCell ⟨sp, 1, none⟩ (.slice a k c)) sp ap sv' (s.take k) ∧ Fr cSt own own' w (W.setCell ⟨sp, 1, none⟩ (.slice a k c))) := Lib.hid (fun k W a c hW e hk => by
    subst e
    have h2 := h.below hW hL
    have h3 := h2.put (hL.grow hW.size) k hk
    exact ⟨own, _, h3.1, (Fr.of_below hW hL).trans h3.2⟩)
  have HS : Hid (∀ W, Below w.heap.size w W → ∃ own' sv', StH own' W sp ap sv' s ∧ Fr cSt own own' w W) := Lib.hid (fun W hW => ⟨own, sv, h.below hW hL, Fr.of_below hW hL⟩)
  have HR : Hid (lastIdx (fun o : OpenL => htmlO o ns) (s.take s.length) = lastIdx (fun o : OpenL => htmlO o ns) s) := Lib.hid (by rw [List.take_length])
  obtain ⟨U, hU⟩ : ∃ U, U = untilS s ns := ⟨_, rfl⟩
  rw [← hU]
  unfold untilS at hU
  generalize lastIdx (fun o : OpenL => htmlO o ns) s = R at *
  have HU := Lib.hid hU
  obtain ⟨n, hn⟩ : ∃ n, n = s.length := ⟨_, rfl⟩
  rw [← hn] at hs hC HR HX HP
  obtain ⟨a0, c0, e0, hc0⟩ := h.s.1.form
  rw [← hn] at e0 hc0
  clear h hU hN hL hn
  go_enter Tryz.func131, Tryz.ntmps131
  go_wp2_with fail
  refine cN.out.mono ?_
  rintro e w1 ⟨rfl, rfl⟩
  have c1 := (hrow.out w (Below.refl _ _)).1
  rw [e0] at c1
  go_wp2_with fail
  clear c1
  go_loopw [5] (fun y wr => ∃ k : Nat, y = .int .i64 ((k : Int) - 1) ∧ k ≤ n ∧ Hid (lastIdx (fun o : OpenL => htmlO o ns) (s.take k) = R) ∧ Below w.heap.size w wr) (fun y _ => (intOf y + 1).toNat)
  case atStart => exact ⟨n, rfl, Nat.le_refl _, HR, Below.refl _ _⟩
  case round =>
  obtain ⟨k, rfl, hk, hR, hb⟩ := hrel
  clear HR
  cases k with
  | zero =>
    have HQ : Hid (U = (s, 4)) := by
      show _ = _
      have : R = -1 := by rw [← hR.out]; rfl
      rw [HU.out, this]; rfl
    have HF := Lib.hid (HS.out _ hb)
    clear hR hC HX cN HP HS HU hrow cH
    go_wp2_with fail
    go_ret
    rw [HQ.out]
    exact ⟨rfl, HF.out⟩
  | succ k =>
    obtain ⟨x, hx⟩ := HX.out k (by omega)
    obtain ⟨g, cap, e1, hc, k0, k1, k2⟩ := hC.out k x _ hx hb
    have cH1 := Lib.hid (cH.out x _ hb)
    have hR2 := hR.out
    rw [lastIdx_take _ s k x hx] at hR2
    have c1 := (hrow.out _ hb).1
    have z1 := (hrow.out _ hb).2
    have HP1 := Lib.hid (fun W hW => HP.out k W _ _ hW e1 (by omega))
    rw [e1] at c1
    have ek : (((k + 1 : Nat) : Int) - 1) = (k : Int) := by omega
    rw [ek]
    have i0 : (0 : Int) ≤ (k : Int) := by omega
    have i1 : (k : Int) < (n : Int) := by omega
    have i2 : (k : Int) ≤ (cap : Int) := by omega
    have e2 : ((k : Int)).toNat = k := rfl
    have hrow2 := Lib.hid (fun W hW => e1 ▸ hrow.out W hW)
    obtain ⟨q, hq⟩ : ∃ q, htmlO x ns = q := ⟨_, rfl⟩
    rw [hq] at hR2 cH1
    cases q with
    | true =>
      have HQ : Hid (U = (s.take k, 0)) := by
        show _ = _
        have : R = (k : Int) := by rw [← hR2]; rfl
        rw [HU.out, this, if_neg (by omega)]; rfl
      have hbH := Lib.hid hb
      clear hR hR2 hC HX cN HP HS HU hrow cH hq hx e1 e0 ek
      go_wp2_with fail
      refine cH1.out.mono ?_
      rintro e w3 ⟨rfl, hb3⟩
      have hb4 := below_call hbH.out hb3
      obtain ⟨c1', z1'⟩ := hrow2.out _ hb4
      clear c1 z1 k0 k1 k2 cH1 hrow2 hb
      go_wp2_with fail
      go_ret
      rw [HQ.out]
      exact ⟨rfl, HP1.out _ hb4⟩
    | false =>
      have HQ : Hid (lastIdx (fun o : OpenL => htmlO o ns) (s.take k) = R) := Lib.hid (by rw [← hR2]; rfl)
      have HM : Hid (((k : Int) - 1 + 1).toNat < ((k : Int) + 1).toNat) := Lib.hid (by omega)
      have HK : Hid (k ≤ n) := Lib.hid (by omega)
      have hbH := Lib.hid hb
      clear hR hR2 hC HX cN HP HS HU hrow cH hq hx e1 e0 ek HP1
      go_wp2_with fail
      refine cH1.out.mono ?_
      rintro e w3 ⟨rfl, hb3⟩
      have hb4 := Lib.hid (below_call hbH.out hb3)
      clear c1 z1 k0 k1 k2 cH1 hrow2 hb hb3
      go_wp2_with fail
      go_roundw
      case rel => exact ⟨k, rfl, HK.out, HQ, hb4.out⟩
      case measure => exact HM.out
end Go.Proofs.YtnbdalohlldnbaaGreatDoor

namespace Go.Proofs.YtnbdalohlldnbaaGreatDoor
open Go.RowKit Bd
attribute [local go_sem ↓] Go.wp_at_zero Go.wp_at_succ
theorem Fr_cell {c : Nat → Bool} {own own' : Nat → Nat} {w w' : World} (h : Fr c own own' w w') {p : Addr} {v : Value} (hv : w.cell? p = some v) (hc : c (own p.block) = false) : w'.cell? p = some v :=
  (World.cell?_of_block (w := w) (h.block p.block (World.block_lt_of_cell? _ _ hv) hc)).trans hv
/-- The package's variables are nobody's. -/
structure EnvO (own : Nat → Nat) (w : World) : Prop where
  k : EnvK w
  o1 : own 5 = 0
  o2 : own 4 = 0
theorem EnvO.keep {c : Nat → Bool} {own own' : Nat → Nat} {w w' : World} (h : EnvO own w) (hf : Fr c own own' w w') (hc : c 0 = false) : EnvO own' w' := by
  obtain ⟨m, hm⟩ := h.k.ml
  have hs := h.k.sc
  refine ⟨⟨⟨m, Fr_cell hf hm (by show c (own 5) = _; rw [h.o1]; exact hc)⟩, fun j hj => Fr_cell hf (hs j hj) (by show c (own 4) = _; rw [h.o2]; exact hc)⟩, ?_, ?_⟩
  · exact (hf.old _ (World.block_lt_of_cell? _ _ hm)).trans h.o1
  · exact (hf.old _ (World.block_lt_of_cell? _ _ (hs 0 (by omega)))).trans h.o2
theorem Imp1_any (n but : Ba) (B : Nat) (hn : n.size ≤ 1000000) (w : World) (hE : EnvK w) (hB : w.cell? ⟨B, 0, none⟩ = some (.string but)) : Calls Tryz.prog 159 #[.string n, .pointer (some ⟨B, 0, none⟩)] w (RB (n != but && impliedK n) w) := by
  have cI := Lib.hid (Implied_any n hn w hE)
  have hq := text_beq2 n but
  obtain ⟨q, hq2⟩ : ∃ q, (n == but) = q := ⟨_, rfl⟩
  have HQ : Hid ((n != but && impliedK n) = (!q && impliedK n)) := Lib.hid (by rw [← hq2]; rfl)
  generalize (n != but && impliedK n) = R at *
  generalize impliedK n = q2 at *
  rw [hq2] at hq
  clear hE hn hq2
  go_enter Tryz.func159, Tryz.ntmps159
  cases q with
  | true =>
    go_wp2_with fail
    go_ret
    exact ⟨by rw [HQ.out]; rfl, rfl⟩
  | false =>
    go_wp2_with fail
    refine cI.out.mono ?_
    rintro e w1 ⟨rfl, rfl⟩
    go_wp2_with fail
    go_ret
    exact ⟨by rw [HQ.out]; rfl, rfl⟩
theorem dropS_take (so : Ba → Bool) (s : St) (k : Nat) (x : OpenL) (h : s[k]? = some x) : dropS so (s.take (k + 1)) = if x.space == 0 && so x.name then dropS so (s.take k) else s.take (k + 1) := by
  have ht : s.take (k + 1) = s.take k ++ [x] := by rw [List.take_add_one, h]; rfl
  unfold dropS
  rw [ht, List.reverse_append, List.reverse_singleton, List.singleton_append, List.dropWhile_cons]
  split
  · rfl
  · rw [List.reverse_cons, List.reverse_reverse]
theorem drop_any {own : Nat → Nat} {w : World} {sp ap B : Nat} {sv : Value} {s : St} (but : Ba) (h : StH own w sp ap sv s) (hL : Lbl own w) (hs : s.length ≤ 1000000) (hns : ∀ o ∈ s, o.name.size ≤ 1000000) (hE : EnvO own w) (hB : w.cell? ⟨B, 0, none⟩ = some (.string but)) (hBo : own B = 0) :
    Calls Tryz.prog 158 #[.pointer (some ⟨sp, 0, none⟩), .func (.func 159) #[] #[.pointer (some ⟨B, 0, none⟩)]] w (RStk own sp ap (.tuple #[]) (impliedSt but s) w) := by
  have cL := Lib.hid (SLen_any h)
  have cI : Hid (∀ (n : Ba) W, n.size ≤ 1000000 → Fr cSt own own w W → Calls Tryz.prog 159 #[.string n, .pointer (some ⟨B, 0, none⟩)] W (RB (n != but && impliedK n) W)) := Lib.hid (fun n W hn hf => Imp1_any n but B hn W (hE.keep hf rfl).k (Fr_cell hf hB (by show cSt (own B) = _; rw [hBo]; rfl)))
  obtain ⟨a, c, rfl, hc⟩ := h.s.1.form
  have HX : Hid (∀ j : Nat, j < s.length → ∃ x, s[j]? = some x ∧ x.name.size ≤ 1000000) := Lib.hid (fun j hj => ⟨_, List.getElem?_eq_getElem hj, hns _ (List.getElem_mem hj)⟩)
  have HR : Hid (impliedSt but (s.take s.length) = impliedSt but s) := Lib.hid (by rw [List.take_length])
  have H0 : Hid (StH own w sp ap (.slice a s.length c) (s.take s.length)) := Lib.hid (by rw [List.take_length]; exact h)
  have HF := Lib.hid (Fr.refl cSt hL)
  have HLs : Hid (∀ k, k ≤ s.length → (s.take k).length = k) := Lib.hid (fun k hk => by rw [List.length_take]; omega)
  obtain ⟨R, hR⟩ : ∃ R, R = impliedSt but s := ⟨_, rfl⟩
  rw [← hR] at HR ⊢
  obtain ⟨n, hn⟩ : ∃ n, n = s.length := ⟨_, rfl⟩
  rw [← hn] at hs cL HX HR H0 HLs hc
  clear h hL hns hE hB hBo hn hR
  go_enter Tryz.func158, Tryz.ntmps158
  go_wp2_with fail
  refine cL.out.mono ?_
  rintro e w1 ⟨rfl, rfl⟩
  go_wp2_with fail
  go_loopw [4] (fun y wr => ∃ k : Nat, y = .int .i64 ((k : Int) - 1) ∧ k ≤ n ∧ Hid (impliedSt but (s.take k) = R) ∧ Hid (StH own wr sp ap (.slice a k c) (s.take k)) ∧ Hid (Fr cSt own own w wr)) (fun y _ => (intOf y + 1).toNat)
  case atStart => exact ⟨n, rfl, Nat.le_refl _, HR, H0, HF⟩
  case round =>
  obtain ⟨k, rfl, hk, hR, hS, hF⟩ := hrel
  clear HR H0 HF
  cases k with
  | zero =>
    have HQ : Hid (R = []) := by show _ = _; rw [← hR.out]; rfl
    have hS2 : Hid (StH own wr sp ap (.slice a 0 c) ([] : St)) := hS
    clear hR HX cL hS cI
    go_wp2_with fail
    go_end0
    rw [HQ.out]
    exact ⟨rfl, own, _, hS2.out, hF.out⟩
  | succ k =>
    obtain ⟨x, hx, hxs⟩ := HX.out k (by omega)
    have hx2 : (s.take (k + 1))[k]? = some x := by rw [List.getElem?_take, if_pos (by omega)]; exact hx
    obtain ⟨g, cap, e1, hc, k0, k1, k2⟩ := hS.out.cells hx2
    rw [HLs.out (k + 1) (by omega)] at e1
    injection e1 with e1 e3 e4
    subst e1; subst e4
    have c1 := rowAt hS.out.h 1 _ rfl
    have z1 := frozen_row hS.out.h 1
    have hR2 := hR.out
    unfold impliedSt at hR2
    rw [dropS_take _ s k x hx] at hR2
    have ek : (((k + 1 : Nat) : Int) - 1) = (k : Int) := by omega
    rw [ek]
    have i0 : (0 : Int) ≤ (k : Int) := by omega
    have i1 : (k : Int) < ((k + 1 : Nat) : Int) := by omega
    have i2 : (k : Int) ≤ (c : Int) := by omega
    have e2 : ((k : Int)).toNat = k := rfl
    have cI1 := Lib.hid (cI.out x.name _ hxs hF.out)
    obtain ⟨q1, hq1⟩ : ∃ q, (x.space == 0) = q := ⟨_, rfl⟩
    rw [hq1] at hR2
    generalize (x.name != but && impliedK x.name) = q2 at hR2 cI1
    cases q1 with
    | false =>
      have HQ : Hid (R = s.take (k + 1)) := by show _ = _; rw [← hR2]; rfl
      clear hR hR2 HX cL cI cI1 hx hx2 ek
      go_wp2_with fail
      go_end0
      rw [HQ.out]
      exact ⟨rfl, own, _, hS.out, hF.out⟩
    | true =>
      cases q2 with
      | false =>
        have HQ : Hid (R = s.take (k + 1)) := by show _ = _; rw [← hR2]; rfl
        clear hR hR2 HX cL cI hx hx2 ek
        go_wp2_with fail
        refine cI1.out.mono ?_
        rintro e w3 ⟨rfl, rfl⟩
        go_wp2_with fail
        go_end0
        rw [HQ.out]
        exact ⟨rfl, own, _, hS.out, hF.out⟩
      | true =>
        have HQ : Hid (impliedSt but (s.take k) = R) := Lib.hid (by rw [← hR2]; rfl)
        have HP := Lib.hid (hS.out.put hF.out.lbl k (by rw [HLs.out (k + 1) (by omega)]; omega))
        rw [List.take_take, Nat.min_eq_left (by omega)] at HP
        have HF2 := Lib.hid (hF.out.trans HP.out.2)
        have HP1 := Lib.hid HP.out.1
        have HM : Hid (((k : Int) - 1 + 1).toNat < ((k : Int) + 1).toNat) := Lib.hid (by omega)
        have HK : Hid (k ≤ n) := Lib.hid (by omega)
        clear hR hR2 HX cL cI hx hx2 ek hS hF HP
        go_wp2_with fail
        refine cI1.out.mono ?_
        rintro e w3 ⟨rfl, rfl⟩
        clear cI1
        go_wp2_with fail
        go_roundw
        case rel => exact ⟨k, rfl, HK.out, HQ, HP1, HF2⟩
        case measure => exact HM.out
theorem SImplied_any {own : Nat → Nat} {w : World} {sp ap : Nat} {sv : Value} {s : St} (but : Ba) (h : StH own w sp ap sv s) (hL : Lbl own w) (hs : s.length ≤ 1000000) (hns : ∀ o ∈ s, o.name.size ≤ 1000000) (hE : EnvO own w) :
    Calls Tryz.prog 104 #[.pointer (some ⟨sp, 0, none⟩), .string but] w (RStk own sp ap (.tuple #[]) (impliedSt but s) w) := by
  obtain ⟨W, hW⟩ : ∃ W, W = w.alloc (.cells #[.string but] 9) := ⟨_, rfl⟩
  have hb : Below w.heap.size w W := by rw [hW]; exact (Below.refl _ _).alloc (Nat.le_refl _) _
  have hf : Fr cSt own own w W := Fr.of_below hb hL
  have hrow : W.heap[w.heap.size]? = some (.cells #[.string but] 9 (0, 0)) := by rw [hW]; exact heap_new _ _
  have cD := drop_any (B := w.heap.size) but (h.below hb hL) hf.lbl hs hns (hE.keep hf rfl) (rowAt hrow 0 _ rfl) (hL _ (Nat.le_refl _))
  rw [hW] at cD hf
  replace cD := Lib.hid cD
  have HF := Lib.hid hf
  clear h hL hE hW hb hf hrow hns
  go_enter Tryz.func104, Tryz.ntmps104
  go_wp2_with fail
  refine cD.out.mono ?_
  rintro e w1 ⟨rfl, own1, sv1, hS1, hF1⟩
  have HS1 := Lib.hid hS1
  have HF1 := Lib.hid (HF.out.trans hF1)
  clear hS1 hF1
  go_wp2_with fail
  go_end0
  exact ⟨rfl, own1, sv1, HS1.out, HF1.out⟩
end Go.Proofs.YtnbdalohlldnbaaGreatDoor

namespace Go.Proofs.YtnbdalohlldnbaaGreatDoor
open Go.RowKit Bd
attribute [local go_sem ↓] Go.wp_at_zero Go.wp_at_succ
abbrev zOp : Array Value := #[.int .i64 0, .int .i64 0, .string ⟨#[]⟩]
theorem openSize : (Tryz.prog.info? 116).map (·.size) = some 3 := by kernel_rfl
theorem infoOpen : (Tryz.prog.info? 116).map (fun i => (i.zero, i.size, i.bytes)) = some (some (.agg zOp), 3, 32) := by kernel_rfl
def REl (r : OpenL × Int) (w : World) (e : Ending) (w' : World) : Prop := e = .returned (.tuple #[.agg #[.int .i64 r.1.node, .int .i64 r.1.space, .string r.1.name], .int .i64 r.2]) ∧ Below w.heap.size w w'
set_option maxHeartbeats 1000000 in
set_option maxRecDepth 100000 in
theorem element_any {own : Nat → Nat} {w : World} {sp ap : Nat} {sv nv : Value} {s : St} {l : List NB} (i : Int) (h : StH own w sp ap sv s) (hA : ArH own w ap nv l) (hL : Lbl own w) (hkl : ∀ x ∈ l, x.n.kids.length ≤ 1000000) :
    Calls Tryz.prog 199 #[.pointer (some ⟨sp, 0, none⟩), .int .i64 i] w (REl (elementS (l.map NB.n) i) w) := by
  obtain ⟨W1, hW1⟩ : ∃ W, W = w.alloc (.cells zOp 116) := ⟨_, rfl⟩
  have hb1 : Below w.heap.size w W1 := by rw [hW1]; exact (Below.refl _ w).alloc (Nat.le_refl _) _
  have r1 : W1.heap[w.heap.size]? = some (.cells zOp 116 (0, 0)) := by rw [hW1]; exact heap_new _ _
  have hs1 : W1.heap.size = w.heap.size + 1 := by rw [hW1]; simp
  have cN := Lib.hid (SNone_any (h.below hb1 hL))
  have cD := Lib.hid (Node_any i (hA.below hb1 hL) (hL.grow hb1.size) hkl)
  have c0 := rowAt (h.below hb1 hL).h 0 _ rfl
  have HE : Hid (elementS (l.map NB.n) i = if (node (l.map NB.n) i).kind != 3 then (⟨0, 0, Bd.em⟩, 2) else (⟨i, (node (l.map NB.n) i).space, (node (l.map NB.n) i).name⟩, 0)) := Lib.hid rfl
  generalize elementS (l.map NB.n) i = R at *
  generalize node (l.map NB.n) i = nd at *
  obtain ⟨kd, nm, tx, sp', dp, pr, cn, ks, fr, tt⟩ := nd
  have HW1 := Lib.hid hW1
  have R1 := Lib.hid r1
  have HS1 := Lib.hid hs1
  have HB1 := Lib.hid hb1
  clear h hA hL hkl hW1 r1 hs1 hb1
  go_enter Tryz.func199, Tryz.ntmps199
  go_upto_region 1 with fail
  rw [← HW1.out]
  go_wp2_with fail
  refine cN.out.mono ?_
  rintro e w1 ⟨rfl, rfl⟩
  go_wp2_with fail
  refine cD.out.mono ?_
  rintro e w2 ⟨a5, k5, c5, rfl, _, _, hb2⟩
  dsimp only [NB.val, NB.row]
  clear cN cD c0
  go_upto_region 4 with (refine wpList_store_row rfl 54 (.tmp 6) (.tmp 15) rfl w2.heap.size #[.int .i64 kd, .string nm, .string tx, .int .i64 sp', .slice none 0 0, .bool dp, .int .i64 pr, .int .i64 cn, .slice a5 k5 c5, .int .i64 fr, .int .i64 tt] rfl rfl 54 _ (heap_new _ _) nodeSize rfl (by simp [Value.oneCell']) ?_)
  obtain ⟨W3, hW3⟩ : ∃ W, W = (w2.alloc (.cells zeroNd 54)).setRow w2.heap.size #[.int .i64 kd, .string nm, .string tx, .int .i64 sp', .slice none 0 0, .bool dp, .int .i64 pr, .int .i64 cn, .slice a5 k5 c5, .int .i64 fr, .int .i64 tt] := ⟨_, rfl⟩
  have r3 : W3.heap[w2.heap.size]? = some (.cells #[.int .i64 kd, .string nm, .string tx, .int .i64 sp', .slice none 0 0, .bool dp, .int .i64 pr, .int .i64 cn, .slice a5 k5 c5, .int .i64 fr, .int .i64 tt] 54 (0, 0)) := by rw [hW3]; exact setRow_heap _ _ _ _ _ _ (heap_new _ _)
  have hb3 : Below w2.heap.size w2 W3 := by rw [hW3]; exact below_setRow ((Below.refl _ _).alloc (Nat.le_refl _) _) (Nat.le_refl _)
  rw [← hW3]
  obtain ⟨b, hb⟩ : ∃ b, b = w2.heap.size := ⟨_, rfl⟩
  have hb13 := below_call hb2 hb3
  have r13 := Lib.hid ((hb13.block _ (row_lt R1.out)).trans R1.out)
  have HF := Lib.hid (below_call HB1.out hb13)
  rw [← hb] at r3 ⊢
  have k0 := rowAt r3 0 _ rfl
  have k1 := rowAt r3 1 _ rfl
  have k3 := rowAt r3 3 _ rfl
  clear hb hb13 hb3 hb2 hW3 r3
  simp only [Act.put]
  obtain ⟨q, hq⟩ : ∃ q, (kd != 3) = q := ⟨_, rfl⟩
  cases q with
  | true =>
    have HQ : Hid (R = (⟨0, 0, Bd.em⟩, 2)) := by show _ = _; rw [HE.out, hq]; rfl
    clear HE
    go_wp2_with (refine wpList_store_row rfl 116 (.tmp 4) (.tmp 19) rfl w.heap.size zOp rfl rfl 116 _ r13.out openSize rfl (by simp [Value.oneCell']) ?_)
    refine bodyPost_ret (results_row2 (P := Tryz.prog) (p := 4) (u := 5) rfl _ _ w.heap.size 116 zOp (0, 0) _ rfl (setRow_heap _ _ _ _ _ _ r13.out) Tryz.underlying116 rfl openSize) rfl ?_
    exact ⟨by rw [HQ.out]; rfl, below_setRow HF.out (Nat.le_refl _)⟩
  | false =>
    have HQ : Hid (R = (⟨i, sp', nm⟩, 0)) := by show _ = _; rw [HE.out, hq]; rfl
    clear HE
    go_wp2_with (refine wpList_store_row rfl 116 (.tmp 4) (.tmp 25) rfl w.heap.size #[.int .i64 i, .int .i64 sp', .string nm] rfl rfl 116 _ r13.out openSize rfl (by simp [Value.oneCell']) ?_)
    refine bodyPost_ret (results_row2 (P := Tryz.prog) (p := 4) (u := 5) rfl _ _ w.heap.size 116 #[.int .i64 i, .int .i64 sp', .string nm] (0, 0) _ rfl (setRow_heap _ _ _ _ _ _ r13.out) Tryz.underlying116 rfl openSize) rfl ?_
    exact ⟨by rw [HQ.out]; rfl, below_setRow HF.out (Nat.le_refl _)⟩
theorem orow_one (s : St) : ∀ u ∈ s.flatMap orow, u.oneCell' = true := by
  intro u hu
  obtain ⟨y, hy, hu⟩ := List.mem_flatMap.1 hu
  simp only [orow, List.mem_cons, List.not_mem_nil, or_false] at hu
  rcases hu with rfl | rfl | rfl
  all_goals rfl
/-- One more element behind the open ones. -/
theorem opl_append_open {w : World} {ops : Array Oper} {rest : List Oper} {o : Oper} {a : Act} {Q : Exit → Act → World → Prop} {own : Nat → Nat} (hgd : o.guard = none) (s x : Operand)
    (ho : o.op = .call { callee := .builtin .append, args := #[s, x], argTypes := #[80, 80] }) (hty : o.type = 80) (hL : Lbl own w) (v : Value) (l : St) (hs : a.eval s = v) (hown : SlO own 6 w 116 3 v l.length (l.flatMap orow)) (Bm c : Nat) (y : OpenL) (hx : a.eval x = .slice (some ⟨Bm, 0, none⟩) 1 c) (hp : w.heap[Bm]? = some (.cells (orow y).toArray 116 (0, 0)))
    (hl : l.length ≤ 1000000)
    (h : ∀ v' w' own', SlO own' 6 w' 116 3 v' (l ++ [y]).length ((l ++ [y]).flatMap orow) → Fr (fun k => k == 6) own own' w w' → wpList Tryz.prog ops Q rest (a.put o.dst v') w') : wpList Tryz.prog ops Q (o :: rest) a w := by
  refine wpList_plain hgd fun K hK => ?_
  obtain ⟨i0, hi, hz0, hz1, hz2⟩ := info_parts infoOpen
  obtain ⟨v', w', own', hr, h2, h3⟩ := run_append_sl (P := Tryz.prog) w hL 80 80 116 i0 (.agg zOp) 3 32 Tryz.underlying80 hi hz0 hz1 hz2 rfl v l.length _ hown ⟨Bm, 0, none⟩ 1 c (orow y) rfl (fun j u hj => by
      rw [addr_add', Nat.zero_add]
      exact rowAt hp j u (by rw [← hj]; simp)) (fun u hu => orow_one [y] u (by simpa using hu)) (by unfold maxLen; omega) (by omega)
  have e1 : l.flatMap orow ++ orow y = (l ++ [y]).flatMap orow := by rw [List.flatMap_append]; simp
  have e2 : l.length + 1 = (l ++ [y]).length := by simp
  rw [e1, e2] at h2
  unfold Oper.wp execOp
  simp only [ho, hty, resolve, invoke, builtin, Sem.run_bind, Sem.run_pure, Result.andThen_ok, List.map_toArray, List.map_cons, List.map_nil, hs, hx, hr]
  exact hK _ _ (h _ _ _ h2 h3)
/-- slices.Insert behind all. -/
def RIns (own : Nat → Nat) (s : St) (w : World) (e : Ending) (w' : World) : Prop := ∃ v' own', e = .returned v' ∧ SlO own' 6 w' 116 3 v' s.length (s.flatMap orow) ∧ Fr (fun k => k == 6) own own' w w'
theorem InsS_any {own : Nat → Nat} {w : World} {v : Value} {s : St} {Bm c : Nat} {y : OpenL} (h : SlO own 6 w 116 3 v s.length (s.flatMap orow)) (hL : Lbl own w) (hp : w.heap[Bm]? = some (.cells (orow y).toArray 116 (0, 0))) (hs : s.length ≤ 1000000) :
    Calls Tryz.prog 200 #[v, .int .i64 s.length, .slice (some ⟨Bm, 0, none⟩) 1 c] w (RIns own (s ++ [y]) w) := by
  obtain ⟨a, cc, rfl, hcc⟩ := h.1.form
  have HA := Lib.hid h
  have HL := Lib.hid hL
  have HP := Lib.hid hp
  obtain ⟨n, hn⟩ : ∃ n, n = s.length := ⟨_, rfl⟩
  have HN := Lib.hid hn
  rw [← hn] at hs hcc ⊢
  have i0 : (0 : Int) ≤ (n : Int) := by omega
  have i1 : (n : Int) ≤ (cc : Int) := by omega
  have e2 : ((n : Int)).toNat = n := rfl
  clear h hL hp hn
  go_enter Tryz.func200, Tryz.ntmps200
  go_wp2_with (refine opl_append_open (own := own) rfl (.tmp 23) (.tmp 24) rfl rfl HL.out _ s rfl (by rw [HN.out]; exact HA.out) Bm c y rfl HP.out (by rw [← HN.out]; exact hs) ?_; intro v7 w7 own7 hs7 hf7)
  all_goals (go_ret; exact ⟨v7, own7, rfl, hs7, hf7⟩)
end Go.Proofs.YtnbdalohlldnbaaGreatDoor

namespace Go.Proofs.YtnbdalohlldnbaaGreatDoor
open Go.RowKit Bd
attribute [local go_sem ↓] Go.wp_at_zero Go.wp_at_succ
theorem StH.snoc {own own7 : Nat → Nat} {w w7 : World} {sp ap : Nat} {sv v7 : Value} {s : St} {y : OpenL} (h : StH own w sp ap sv s) (hs7 : SlO own7 6 w7 116 3 v7 (s ++ [y]).length ((s ++ [y]).flatMap orow)) (hf : Fr (fun k => k == 6) own own7 w w7) :
    StH own7 (w7.setCell ⟨sp, 1, none⟩ v7) sp ap v7 (s ++ [y]) ∧ Fr cSt own own7 w (w7.setCell ⟨sp, 1, none⟩ v7) := by
  have ho : own7 sp = 3 := by rw [hf.old sp (row_lt h.h)]; exact h.o
  have hA7 := hf.keep h.h (by rw [h.o]; rfl)
  have hf2 : Fr (fun k => k == 3) own7 own7 w7 (w7.setCell ⟨sp, 1, none⟩ v7) := Fr.setCell hf.lbl (p := ⟨sp, 1, none⟩) v7 (by simp [ho])
  refine ⟨⟨ho, row_setC hA7 1 v7, hs7.keep hf2 rfl⟩, (hf.mono (fun x hx => ?_)).trans (hf2.mono (fun x hx => ?_))⟩
  · cases h6 : (x == 6) with
    | false => rfl
    | true => rw [beq_iff_eq.1 h6] at hx; cases hx
  · cases h6 : (x == 3) with
    | false => rfl
    | true => rw [beq_iff_eq.1 h6] at hx; cases hx
set_option maxHeartbeats 2000000 in
set_option maxRecDepth 100000 in
theorem InsertS_any {own : Nat → Nat} {w : World} {sp ap : Nat} {sv nv : Value} {s : St} {l : List NB} (i : Int) (h : StH own w sp ap sv s) (hA : ArH own w ap nv l) (hL : Lbl own w) (hkl : ∀ x ∈ l, x.n.kids.length ≤ 1000000) (hs : s.length ≤ 1000000) :
    Calls Tryz.prog 167 #[.pointer (some ⟨sp, 0, none⟩), .int .i64 s.length, .int .i64 i] w (RStk own sp ap (.int .i64 (pushS (l.map NB.n) s i).2) (pushS (l.map NB.n) s i).1 w) := by
  have cE := Lib.hid (element_any i h hA hL hkl)
  have HX : Hid (pushS (l.map NB.n) s i = if (elementS (l.map NB.n) i).2 != 0 then (s, (elementS (l.map NB.n) i).2) else if 512 ≤ s.length then (s, 150) else (s ++ [(elementS (l.map NB.n) i).1], 0)) := Lib.hid (by
    unfold pushS insertS
    split
    · rfl
    · rw [if_neg (by simp), show ((s.length : Int)).toNat = s.length from rfl, List.take_length, List.drop_length])
  generalize pushS (l.map NB.n) s i = R at *
  generalize elementS (l.map NB.n) i = el at *
  obtain ⟨⟨on, os, om⟩, oe⟩ := el
  have HS := Lib.hid h
  have HL := Lib.hid hL
  obtain ⟨n, hn⟩ : ∃ n, n = s.length := ⟨_, rfl⟩
  obtain ⟨a, c, hsv, hc⟩ := h.s.1.form
  rw [← hn] at hs hsv hc ⊢
  have HN := Lib.hid hn
  have HSV := Lib.hid hsv
  clear h hA hL hkl hn
  go_enter Tryz.func167, Tryz.ntmps167
  go_wp2_with fail
  refine cE.out.mono ?_
  rintro e w1 ⟨rfl, hb⟩
  have hS1 := HS.out.below hb HL.out
  have hF1 : Fr cSt own own w w1 := Fr.of_below hb HL.out
  dsimp only
  clear cE hb
  go_upto_region 2 with (refine wpList_store_row rfl 116 (.tmp 7) (.tmp 13) rfl w1.heap.size #[.int .i64 on, .int .i64 os, .string om] rfl rfl 116 _ (heap_new _ _) openSize rfl (by simp [Value.oneCell']) ?_)
  obtain ⟨B, hB⟩ : ∃ B, B = w1.heap.size := ⟨_, rfl⟩
  obtain ⟨W2, hW2⟩ : ∃ W, W = (w1.alloc (.cells zOp 116)).setRow w1.heap.size #[.int .i64 on, .int .i64 os, .string om] := ⟨_, rfl⟩
  have hb3 : W2.heap[B]? = some (.cells #[.int .i64 on, .int .i64 os, .string om] 116 (0, 0)) := by rw [hW2, hB]; exact setRow_heap _ _ _ _ _ _ (heap_new _ _)
  have hb2 : Below w1.heap.size w1 W2 := by rw [hW2]; exact below_setRow ((Below.refl _ _).alloc (Nat.le_refl _) _) (Nat.le_refl _)
  have hS := hS1.below hb2 hF1.lbl
  have hF := hF1.trans (Fr.of_below hb2 hF1.lbl)
  have c1 := rowAt hS.h 1 sv rfl
  rw [hsv] at c1
  rw [← hW2, ← hB]
  clear hb2 hS1 hF1 hW2 hB hsv
  obtain ⟨q, hq⟩ : ∃ q, (oe != 0) = q := ⟨_, rfl⟩
  have HX2 := HX.out
  rw [hq] at HX2
  cases q with
  | true =>
    have HQ : Hid (R = (s, oe)) := by show _ = _; rw [HX2]; rfl
    have HSS := Lib.hid hS
    have HFF := Lib.hid hF
    clear HX2 hS hF hb3 HX
    go_wp2_with fail
    go_ret
    rw [HQ.out]
    exact ⟨rfl, own, sv, HSS.out, HFF.out⟩
  | false =>
    by_cases h5 : 512 ≤ n
    · have HQ : Hid (R = (s, 150)) := by show _ = _; rw [HX2, if_neg (by decide), if_pos (by rw [← HN.out]; exact h5)]
      have HSS := Lib.hid hS
      have HFF := Lib.hid hF
      have i5 : (512 : Int) ≤ (n : Int) := by omega
      have i0 : (0 : Int) ≤ (n : Int) := by omega
      clear HX2 hS hF hb3 HX
      go_wp2_with fail
      go_ret
      rw [HQ.out]
      exact ⟨rfl, own, sv, HSS.out, HFF.out⟩
    · have HQ : Hid (R = (s ++ [⟨on, os, om⟩], 0)) := by show _ = _; rw [HX2, if_neg (by decide), if_neg (by rw [← HN.out]; exact h5)]
      have i5 : (n : Int) < (512 : Int) := by omega
      have i0 : (0 : Int) ≤ (n : Int) := by omega
      have cIns : Hid (∀ (V : World) (own' : Nat → Nat) (Bm c : Nat), SlO own' 6 V 116 3 sv s.length (s.flatMap orow) → Lbl own' V → V.heap[Bm]? = some (.cells (orow ⟨on, os, om⟩).toArray 116 (0, 0)) →
          Calls Tryz.prog 200 #[sv, .int .i64 (n : Int), .slice (some ⟨Bm, 0, none⟩) 1 c] V (RIns own' (s ++ [⟨on, os, om⟩]) V)) := Lib.hid (fun V own' Bm c h1 h2 h3 => by rw [HN.out]; exact InsS_any h1 h2 h3 (by rw [← HN.out]; exact hs))
      clear HX2 HX
      go_upto_region 8 with fail
      clear c1
      go_cut [46] (fun _ wx => ∃ own7 v7, StH own7 wx sp ap v7 (s ++ [⟨on, os, om⟩]) ∧ Fr cSt own own7 w wx)
      case first =>
        have hd := (Below.refl W2.heap.size W2).drew
        replace hS := hS.below hd hF.lbl
        replace hb3 := (hd.block _ (row_lt hb3)).trans hb3
        replace hF := hF.trans (Fr.of_below hd hF.lbl)
        clear hd
        refine wp_region_held_drew (S := fun _ => True) (by kernel_rfl) (trivial) (fun hHeld => ?_)
        generalize W2.drew = V at hHeld hS hF hb3 ⊢
        refine TkH 0 38 ?_; refine TkH 1 39 ?_; refine TkH 2 40 ?_; refine TkH 3 41 ?_; refine TkH 5 43 ?_
        (try simp only [Act.put]); (try simp only [List.setIfInBounds_toArray]); (try simp only [List.set_cons_zero, List.set_cons_succ])
        refine wpAnyH_ready (rs := [4, 6]) (by decide +kernel) (by simp) ?_
        refine AllReadyH.cons rfl (fun K hK => ?_) (AllReadyH.cons rfl (fun K hK => ?_) AllReadyH.nil)
        have c1 := rowAt hS.h 1 sv rfl
        go_simp
        refine hK.out _ _ trivial (fun hSx => ?_)
        clear hSx hK K
        clear c1
        (try simp only [Act.put]); (try simp only [List.setIfInBounds_toArray]); (try simp only [List.set_cons_zero, List.set_cons_succ])
        rotate_left
        rw [if_pos (by rfl)]
        refine wp_load_row 116 (.tmp 7) rfl B rfl 116 _ (0, 0) _ hb3 Tryz.underlying116 rfl openSize ?_
        refine hK.out _ _ trivial (fun hSx => ?_)
        clear hSx hK K
        (try simp only [Act.put]); (try simp only [List.setIfInBounds_toArray]); (try simp only [List.set_cons_zero, List.set_cons_succ])
        rotate_left
        all_goals first
          | (refine wpAnyH_ready (rs := [6]) (by decide +kernel) (by simp) ?_
             refine AllReadyH.cons rfl (fun K hK => ?_) AllReadyH.nil
             rw [if_pos (by rfl)]
             refine wp_load_row 116 (.tmp 7) rfl B rfl 116 _ (0, 0) _ hb3 Tryz.underlying116 rfl openSize ?_
             refine hK.out _ _ trivial (fun hSx => ?_)
             clear hSx hK K
             (try simp only [Act.put]); (try simp only [List.setIfInBounds_toArray]); (try simp only [List.set_cons_zero, List.set_cons_succ]))
          | skip
        all_goals first
          | (refine wpAnyH_ready (rs := [4, 7]) (by decide +kernel) (by simp) ?_
             refine AllReadyH.cons rfl (fun K hK => ?_) (AllReadyH.cons rfl (fun K hK => ?_) AllReadyH.nil)
             have c1 := rowAt hS.h 1 sv rfl
             go_simp
             refine hK.out _ _ trivial (fun hSx => ?_)
             clear hSx hK K
             clear c1
             (try simp only [Act.put]); (try simp only [List.setIfInBounds_toArray]); (try simp only [List.set_cons_zero, List.set_cons_succ])
             rotate_left
             go_simp
             obtain ⟨V9, hV9⟩ : ∃ U, U = V.alloc (.cells #[.int .i64 on, .int .i64 os, .string om] 116) := ⟨_, rfl⟩
             rw [← hV9]
             have hb9 : Below V.heap.size V V9 := by rw [hV9]; exact (Below.refl _ _).alloc (Nat.le_refl _) _
             have hc6 : V9.heap[V.heap.size]? = some (.cells #[.int .i64 on, .int .i64 os, .string om] 116 (0, 0)) := by rw [hV9]; exact heap_new _ _
             replace hS := hS.below hb9 hF.lbl
             replace hF := hF.trans (Fr.of_below hb9 hF.lbl)
             refine hK.out _ _ trivial (fun hSx => ?_)
             clear hSx hK K
             clear hb9 hV9 hb3
             obtain ⟨g6, hgg⟩ : ∃ z, z = V.heap.size := ⟨_, rfl⟩
             rw [← hgg] at hc6 ⊢
             clear hgg
             clear V
             obtain ⟨V, rfl⟩ : ∃ U, U = V9 := ⟨_, rfl⟩
             (try simp only [Act.put]); (try simp only [List.setIfInBounds_toArray]); (try simp only [List.set_cons_zero, List.set_cons_succ])
             rotate_left)
          | skip
        all_goals first
          | (refine wpAnyH_ready (rs := [7]) (by decide +kernel) (by simp) ?_
             refine AllReadyH.cons rfl (fun K hK => ?_) AllReadyH.nil
             go_simp
             obtain ⟨V9, hV9⟩ : ∃ U, U = V.alloc (.cells #[.int .i64 on, .int .i64 os, .string om] 116) := ⟨_, rfl⟩
             rw [← hV9]
             have hb9 : Below V.heap.size V V9 := by rw [hV9]; exact (Below.refl _ _).alloc (Nat.le_refl _) _
             have hc6 : V9.heap[V.heap.size]? = some (.cells #[.int .i64 on, .int .i64 os, .string om] 116 (0, 0)) := by rw [hV9]; exact heap_new _ _
             replace hS := hS.below hb9 hF.lbl
             replace hF := hF.trans (Fr.of_below hb9 hF.lbl)
             refine hK.out _ _ trivial (fun hSx => ?_)
             clear hSx hK K
             clear hb9 hV9 hb3
             obtain ⟨g6, hgg⟩ : ∃ z, z = V.heap.size := ⟨_, rfl⟩
             rw [← hgg] at hc6 ⊢
             clear hgg
             clear V
             obtain ⟨V, rfl⟩ : ∃ U, U = V9 := ⟨_, rfl⟩
             (try simp only [Act.put]); (try simp only [List.setIfInBounds_toArray]); (try simp only [List.set_cons_zero, List.set_cons_succ]))
          | skip
        all_goals first
          | (refine wpAnyH_ready (rs := [4]) (by decide +kernel) (by simp) ?_
             refine AllReadyH.cons rfl (fun K hK => ?_) AllReadyH.nil
             have c1 := rowAt hS.h 1 sv rfl
             go_simp
             refine hK.out _ _ trivial (fun hSx => ?_)
             clear hSx hK K
             clear c1
             (try simp only [Act.put]); (try simp only [List.setIfInBounds_toArray]); (try simp only [List.set_cons_zero, List.set_cons_succ]))
          | skip
        all_goals (
          refine wpAnyH_ready (rs := [8]) (by decide +kernel) (by simp) ?_
          refine AllReadyH.cons rfl (fun K hK => ?_) AllReadyH.nil
          go_simp
          go_at_call 200
          refine (cIns.out V own g6 1 hS.s hF.lbl hc6).mono ?_
          rintro e V9 ⟨v7, own7, rfl, hs7, hf7⟩
          obtain ⟨a7, c7, hv7, _⟩ := hs7.1.form
          obtain ⟨n7, hn7⟩ : ∃ n, n = (s ++ [(⟨on, os, om⟩ : OpenL)]).length := ⟨_, rfl⟩
          rw [← hn7] at hv7
          subst hv7
          clear hn7
          obtain ⟨hS7, hF7⟩ := hS.snoc hs7 hf7
          replace hF := hF.trans hF7
          have c1 := rowAt (hf7.keep hS.h (by rw [hS.o]; rfl)) 1 sv rfl
          have z1 := frozen_row (hf7.keep hS.h (by rw [hS.o]; rfl)) 1
          refine hK.out _ _ trivial (fun hSx => ?_)
          clear hSx hK K
          clear hs7 hf7 hF7 hS hc6
          clear V
          obtain ⟨V, rfl⟩ : ∃ U, U = V9 := ⟨_, rfl⟩
          (try simp only [Act.put]); (try simp only [List.setIfInBounds_toArray]); (try simp only [List.set_cons_zero, List.set_cons_succ])
          focus (refine TkH 9 47 ?_; refine TkH 10 48 ?_)
          (try simp only [Act.put]); (try simp only [List.setIfInBounds_toArray]); (try simp only [List.set_cons_zero, List.set_cons_succ]))
        all_goals (
          refine wpAnyH_ready (rs := [11]) (by decide +kernel) (by simp) ?_
          refine AllReadyH.cons rfl (fun K hK => ?_) AllReadyH.nil
          go_simp
          generalize hV9 : V.setCell ⟨sp, 1, none⟩ (.slice a7 n7 c7) = V9 at *
          refine hK.out _ _ trivial (fun hSx => ?_)
          clear hSx hK K
          clear hV9 c1 z1
          clear V
          obtain ⟨V, rfl⟩ : ∃ U, U = V9 := ⟨_, rfl⟩
          (try simp only [Act.put]); (try simp only [List.setIfInBounds_toArray]); (try simp only [List.set_cons_zero, List.set_cons_succ]))
        all_goals (
          refine wpAnyH_done (by kernel_rfl) ?_ _
          go_wp2_with fail
          go_meet
          exact ⟨own7, _, hS7, hF⟩)

      case rest =>
      obtain ⟨own7, v7, hS7, hF7⟩ := hcut
      have HA := Lib.hid (⟨hS7, hF7⟩ : _ ∧ _)
      clear hS7 hF7 hS hF hb3
      go_wp2_with fail
      go_ret
      rw [HQ.out]
      exact ⟨rfl, own7, v7, HA.out.1, HA.out.2⟩
theorem Push_any {own : Nat → Nat} {w : World} {sp ap : Nat} {sv nv : Value} {s : St} {l : List NB} (i : Int) (h : StH own w sp ap sv s) (hA : ArH own w ap nv l) (hL : Lbl own w) (hkl : ∀ x ∈ l, x.n.kids.length ≤ 1000000) (hs : s.length ≤ 1000000) :
    Calls Tryz.prog 118 #[.pointer (some ⟨sp, 0, none⟩), .int .i64 i] w (RStk own sp ap (.int .i64 (pushS (l.map NB.n) s i).2) (pushS (l.map NB.n) s i).1 w) := by
  have cL := Lib.hid (SLen_any h)
  have cI := Lib.hid (InsertS_any i h hA hL hkl hs)
  generalize pushS (l.map NB.n) s i = R at *
  generalize s.length = n at *
  clear h hA hL hkl
  go_enter Tryz.func118, Tryz.ntmps118
  go_wp2_with fail
  refine cL.out.mono ?_
  rintro e w1 ⟨rfl, rfl⟩
  go_wp2_with fail
  refine cI.out.mono ?_
  rintro e w1 ⟨rfl, hx⟩
  have HX := Lib.hid hx
  clear hx
  go_wp2_with fail
  go_ret
  exact ⟨rfl, HX.out⟩
end Go.Proofs.YtnbdalohlldnbaaGreatDoor

namespace Go.Proofs.YtnbdalohlldnbaaGreatDoor
open Go.RowKit Go.Shelf Bd
attribute [local go_sem] Oper.semAt_some
/-- What the iterator hands on: up to the scope's end. -/
def scopeSeq (which : Int) : St → St
  | [] => []
  | o :: r => if scopeK which o.space o.name then [o] else o :: scopeSeq which r
theorem scopeG_eq (which : Int) (p : OpenL → Bool) : ∀ l : St, scopeG which p l = (scopeSeq which l).any p
  | [] => rfl
  | o :: r => by
    unfold scopeG scopeSeq
    rw [scopeG_eq which p r]
    cases hp : p o <;> cases hs : scopeK which o.space o.name <;> simp [hp, List.any_cons]
theorem revTake (s : St) (k : Nat) (x : OpenL) (h : s[k]? = some x) : (s.take (k + 1)).reverse = x :: (s.take k).reverse := by
  rw [List.take_add_one, h]; simp
/-- Cells that lie are as they lay. -/
def Kc (A B : World) : Prop := ∀ (k : Nat) (o : Obj), A.heap[k]? = some o → o.isCells = true → B.heap[k]? = some o
theorem Kc.refl (A : World) : Kc A A := fun _ _ h _ => h
theorem Kc.trans {A B C : World} (h : Kc A B) (k : Kc B C) : Kc A C := fun i o hi ho => k i o (h i o hi ho) ho
theorem Kc.of_below {A B : World} (h : Below A.heap.size A B) : Kc A B := fun k _ hk _ => (h.block k (Array.getElem?_eq_some_iff.1 hk).1).trans hk
theorem Kc.putObj (W : World) (l : Nat) (o _o' : Obj) (h : W.heap[l]? = some o) (hc : o.isCells = false) : Kc W (W.putObj l _o') := fun k o2 hk ho => by
  have hne : k ≠ l := fun e => by subst e; rw [h] at hk; obtain rfl := Option.some.inj hk; rw [hc] at ho; cases ho
  rw [World.putObj_heap_other hne]; exact hk
theorem Kc.cell {A B : World} (h : Kc A B) {p : Addr} {v : Value} (hv : A.cell? p = some v) : B.cell? p = some v := by
  have hb := World.block_lt_of_cell? _ _ hv
  have hh := Array.getElem?_eq_getElem hb
  generalize A.heap[p.block] = o at hh
  have ho : o.isCells = true := by
    cases o with
    | cells => rfl
    | _ => simp [World.cell?, hh] at hv
  exact (World.cell?_of_block (w := A) ((h _ _ hh ho).trans hh.symm)).trans hv
theorem EnvK.kc {A B : World} (h : EnvK A) (k : Kc A B) : EnvK B := by
  obtain ⟨m, hm⟩ := h.ml
  exact ⟨⟨m, k.cell hm⟩, fun j hj => k.cell (h.sc j hj)⟩
def oenc (o : OpenL) : Array Value := #[.agg #[.int .i64 o.node, .int .i64 o.space, .string o.name]]
set_option maxRecDepth 100000 in
set_option maxHeartbeats 1000000 in
theorem scope1_in (n : Nat) (hn : 1 ≤ n) (l B1 B2 sp : Nat) (sv : Value) (which : Int) (s : St) (J Jx : St → World → Prop) (hns : ∀ o ∈ s, o.name.size ≤ 1000000) (hsl : s.length ≤ 1000000)
    (hY : ∀ pre x W, J pre W → pre.length < s.length → YieldAt Fence.wide (n - 1) Tryz.prog l (oenc x) W fun e W' =>
      (e = .returned (.bool true) ∧ J (pre ++ [x]) W' ∧ Kc W W') ∨ (e = .returned (.bool false) ∧ Jx (pre ++ [x]) W'))
    (W : World) (hB1 : W.cell? ⟨B1, 0, none⟩ = some (.pointer (some ⟨sp, 0, none⟩))) (hB2 : W.cell? ⟨B2, 0, none⟩ = some (.int .i64 which)) (hsp : W.cell? ⟨sp, 1, none⟩ = some sv) (hE : EnvK W) (hLen : Calls Tryz.prog 20 #[.pointer (some ⟨sp, 0, none⟩)] W (RI s.length W))
    (hC : ∀ (j : Nat) (x : OpenL), s[j]? = some x → ∃ g cap, sv = .slice (some ⟨g, 0, none⟩) s.length cap ∧ s.length ≤ cap ∧ W.cell? ⟨g, j * 3, none⟩ = some (.int .i64 x.node) ∧ W.cell? ⟨g, j * 3 + 1, none⟩ = some (.int .i64 x.space) ∧ W.cell? ⟨g, j * 3 + 2, none⟩ = some (.string x.name))
    (hJ : AbidesFrom W.heap.size J) (h0 : J [] W) :
    CallsIn Fence.wide n Tryz.prog 205 #[.func (.yield l) #[] #[], .pointer (some ⟨B1, 0, none⟩), .pointer (some ⟨B2, 0, none⟩)] W fun e W' => (∃ v, e = .returned v) ∧
      ((∃ ys, ys = scopeSeq which s.reverse ∧ J ys W') ∨ (∃ pre, pre <+: scopeSeq which s.reverse ∧ Jx pre W')) := by
  obtain ⟨T, hT⟩ : ∃ T, T = scopeSeq which s.reverse := ⟨_, rfl⟩
  rw [← hT]
  have HT : Hid (T = [] ++ scopeSeq which (s.take s.length).reverse) := Lib.hid (by rw [hT, List.take_length]; rfl)
  have HX : Hid (∀ j : Nat, j < s.length → ∃ x, s[j]? = some x ∧ x.name.size ≤ 1000000) := Lib.hid (fun j hj => ⟨_, List.getElem?_eq_getElem hj, hns _ (List.getElem_mem hj)⟩)
  obtain ⟨N, hN⟩ : ∃ N, N = s.length := ⟨_, rfl⟩
  rw [← hN] at HT HX hsl hY hC hLen
  have HC := Lib.hid hC
  have HB1 := Lib.hid hB1
  have HB2 := Lib.hid hB2
  have HSP := Lib.hid hsp
  have HE := Lib.hid hE
  have cL := Lib.hid hLen
  have HY := Lib.hid hY
  have HJ := Lib.hid hJ
  clear hT hN hns hY hJ hC hB2 hsp hE hLen
  refine callsIn_of_wp Tryz.func205 rfl trivial ?_ rfl
  simp only [Tryz.ntmps205, List.size_toArray, List.length_cons, List.length_nil, Nat.reduceAdd, Nat.reduceSub, Array.replicate_succ, Array.replicate_zero, List.push_toArray, List.append_toArray, List.nil_append, List.cons_append]
  gi_wp2
  refine ⟨trivial, ?_⟩
  refine (callsIn_wide.2 cL.out).mono ?_
  rintro e w1 ⟨rfl, rfl⟩
  gi_wp2
  gi_loopw [4] (fun y wr => ∃ (k : Nat) (pre : St), y = .int .i64 ((k : Int) - 1) ∧ k ≤ N ∧ Hid (T = pre ++ scopeSeq which (s.take k).reverse) ∧ pre.length + k = N ∧ Hid (J pre wr) ∧ Hid (Kc W wr)) (fun y _ => (intOf y + 1).toNat)
  case atStart => exact ⟨N, [], rfl, Nat.le_refl _, HT, by simp, Lib.hid h0, Lib.hid (Kc.refl _)⟩
  case round =>
  obtain ⟨k, pre, rfl, hk, hE, hp, hJ1, hb⟩ := hrel
  clear HT hB1 cL h0
  cases k with
  | zero =>
    have HQ : Hid (T = pre) := by show _ = _; rw [hE.out]; simp [scopeSeq]
    clear HX HC HY hE
    gi_wp2
    go_end0
    rw [HQ.out]
    exact ⟨⟨_, rfl⟩, .inl ⟨pre, rfl, hJ1.out⟩⟩
  | succ k =>
    obtain ⟨x, hx, hxs⟩ := HX.out k (by omega)
    obtain ⟨g, cap, e1, hc, k0, k1, k2⟩ := HC.out k x hx
    have b1 := hb.out.cell HB1.out
    have c1 := hb.out.cell HSP.out
    rw [e1] at c1
    replace k0 := hb.out.cell k0
    replace k1 := hb.out.cell k1
    replace k2 := hb.out.cell k2
    have ek : (((k + 1 : Nat) : Int) - 1) = (k : Int) := by omega
    rw [ek]
    have i0 : (0 : Int) ≤ (k : Int) := by omega
    have i1 : (k : Int) < (N : Int) := by omega
    have hJ2 : J pre (wr.alloc (.cells #[.int .i64 x.node, .int .i64 x.space, .string x.name] 116)) := HJ.out pre wr _ none hJ1.out (World.grownBy_alloc _ _ none) (fun r e => by cases e)
    have hT2 := hE.out
    rw [revTake s k x hx] at hT2
    obtain ⟨fn, tmps, assign, body, hy, hR⟩ := HY.out pre x _ hJ2 (by omega)
    dsimp only [oenc] at hy
    have HR := Lib.hid hR
    have hb1 : Kc W (wr.alloc (.cells #[.int .i64 x.node, .int .i64 x.space, .string x.name] 116)) := hb.out.trans (Kc.of_below ((Below.refl _ _).alloc (Nat.le_refl _) _))
    have hrow : (wr.alloc (.cells #[.int .i64 x.node, .int .i64 x.space, .string x.name] 116)).heap[wr.heap.size]? = some (.cells #[.int .i64 x.node, .int .i64 x.space, .string x.name] 116 (0, 0)) := heap_new _ _
    have Hb1 := Lib.hid hb1
    have Hrow := Lib.hid hrow
    clear ek hJ2 hR hb1 hrow hE hx e1 hc hJ1
    gi_wp2
    refine HR.out.mono ?_
    rintro e W3 (⟨rfl, hJ3, hk3⟩ | ⟨rfl, hJx3⟩)
    · have hb3 := Hb1.out.trans hk3
      have cS := Lib.hid (Scope_any which x.space x.name hxs W3 (HE.out.kc hb3))
      have b2' := hb3.cell HB2.out
      have d1 := hk3.cell (rowAt Hrow.out 1 _ rfl)
      have d2 := hk3.cell (rowAt Hrow.out 2 _ rfl)
      clear b1 c1 k0 k1 k2 hy
      gi_wp2
      refine ⟨trivial, ?_⟩
      refine (callsIn_wide.2 cS.out).mono ?_
      rintro e w4 ⟨rfl, rfl⟩
      have HJ3 := Lib.hid hJ3
      have HB3 := Lib.hid hb3
      obtain ⟨q, hq⟩ : ∃ q, scopeK which x.space x.name = q := ⟨_, rfl⟩
      unfold scopeSeq at hT2
      rw [hq] at hT2
      clear cS b2' d1 d2 hJ3 hb3 hk3
      rw [hq]
      clear hq
      cases q with
      | true =>
        have HQ : Hid (T = pre ++ [x]) := hT2
        clear hT2 HX HC HY HR Hrow
        gi_wp2
        refine bodyPost_ret (results_none rfl _ _ _) rfl ?_
        rw [HQ.out]
        exact ⟨⟨_, rfl⟩, .inl ⟨pre ++ [x], rfl, HJ3.out⟩⟩
      | false =>
        have HQ : Hid (T = (pre ++ [x]) ++ scopeSeq which (s.take k).reverse) := Lib.hid (by rw [hT2]; simp)
        have HM : Hid (((k : Int) - 1 + 1).toNat < ((k : Int) + 1).toNat) := Lib.hid (by omega)
        have HK : Hid (k ≤ N ∧ (pre ++ [x]).length + k = N) := Lib.hid ⟨by omega, by simp; omega⟩
        clear hT2 HX HC HY HR Hrow
        gi_wp2
        go_roundw
        case rel => exact ⟨k, pre ++ [x], rfl, HK.out.1, HQ, HK.out.2, HJ3, HB3⟩
        case measure => exact HM.out
    · have HJX := Lib.hid hJx3
      have HQ : Hid (pre ++ [x] <+: T) := Lib.hid (by
        rw [hT2]
        unfold scopeSeq
        split
        · exact List.prefix_refl _
        · exact ⟨scopeSeq which (s.take k).reverse, by simp⟩)
      clear b1 c1 k0 k1 k2 hy hT2 HX HC HY HR Hrow hJx3
      gi_wp2
      refine ⟨trivial, ?_⟩
      gi_wp2
      refine bodyPost_ret (results_none rfl _ _ _) rfl ?_
      exact ⟨⟨_, rfl⟩, .inr ⟨pre ++ [x], HQ.out, HJX.out⟩⟩
end Go.Proofs.YtnbdalohlldnbaaGreatDoor
