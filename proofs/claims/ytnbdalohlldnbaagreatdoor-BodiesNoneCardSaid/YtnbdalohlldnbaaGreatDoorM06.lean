/-
  Package stack: scope, Has, HasNode.
  Package formats: a list as the program holds it; Len, none, last, open, Index.
  Package formats: Index, At, may, Last.
  slices.Insert of ints behind all; package formats: lay behind all.
  Package formats: Remove.
-/
import Derived.Test.YtnbdalohlldnbaaGreatDoorM05
namespace Go.Proofs.YtnbdalohlldnbaaGreatDoor
open Go.RowKit Go.Shelf Bd
theorem scope_any (sp : Nat) (which : Int) (w : World) : Calls Tryz.prog 184 #[.pointer (some ⟨sp, 0, none⟩), .int .i64 which] w fun e w' => e = .returned (.func (.func 205) #[] #[.pointer (some ⟨w.heap.size, 0, none⟩), .pointer (some ⟨w.heap.size + 1, 0, none⟩)]) ∧ w' = (w.alloc (.cells #[.pointer (some ⟨sp, 0, none⟩)] 27)).alloc (.cells #[.int .i64 which] 3) := by
  go_enter Tryz.func184, Tryz.ntmps184
  go_wp2_with fail
  go_ret
  exact ⟨rfl, rfl⟩
theorem kf_of_below {B : Nat} {W W' : World} (h : Below W.heap.size W W') : KeepsFrom B W W' := ⟨h.size, fun k _ _ hk _ => (h.block k (Array.getElem?_eq_some_iff.1 hk).1).trans hk⟩
attribute [local go_sem] Oper.semAt_some
set_option maxRecDepth 100000 in
set_option maxHeartbeats 2000000 in
theorem Has_any {own : Nat → Nat} {w : World} {sp ap : Nat} {sv : Value} {s : St} {v : Value} {ns : List Ba} (which : Int) (h : StH own w sp ap sv s) (hL : Lbl own w) (hs : s.length ≤ 1000000) (hns : ∀ o ∈ s, o.name.size ≤ 1000000) (hE : EnvK w) (hN : NmAt w v ns) :
    Calls Tryz.prog 145 #[.pointer (some ⟨sp, 0, none⟩), .int .i64 which, v] w fun e w' => e = .returned (.bool (hasS s which ns)) ∧ Below w.heap.size w w' := by
  have hT : hasS s which ns = (scopeSeq which s.reverse).any (fun o => htmlO o ns) := scopeG_eq _ _ _
  rw [hT]
  obtain ⟨a, k, c, rfl⟩ : ∃ a k c, v = .slice a k c := by
    rcases hN with ⟨c, e, _⟩ | ⟨g, o, n, c, e, _⟩
    · exact ⟨_, _, _, e⟩
    · exact ⟨_, _, _, e⟩
  obtain ⟨n, hn⟩ : ∃ n : Nat, 6 ≤ n := ⟨6, Nat.le_refl _⟩
  have h1 : 1 ≤ n := by omega
  refine (callsIn_wide (n := n)).1 ?_
  refine callsIn_of_wp_marks Tryz.func145 rfl trivial ?_ rfl
  simp only [Tryz.ntmps145, List.size_toArray, List.length_cons, List.length_nil, Nat.reduceAdd, Nat.reduceSub, Array.replicate_succ, Array.replicate_zero, List.push_toArray, List.append_toArray, List.nil_append, List.cons_append]
  gi_wp2
  refine ⟨trivial, ?_⟩
  refine (callsIn_wide.2 (scope_any sp which _)).mono ?_
  rintro e w' ⟨rfl, rfl⟩
  gi_wp2
  obtain ⟨W4, hW4⟩ : ∃ W, W = (((w.alloc (.cells #[.slice a k c] 40)).alloc (.cells #[.bool false] 4)).alloc (.cells #[.pointer (some ⟨sp, 0, none⟩)] 27)).alloc (.cells #[.int .i64 which] 3) := ⟨_, rfl⟩
  have hs4 : W4.heap.size = w.heap.size + 4 := by rw [hW4]; simp
  have hb4 : Below w.heap.size w W4 := by rw [hW4]; exact ((((Below.refl _ _).alloc (Nat.le_refl _) _).alloc (by simp) _).alloc (by simp; omega) _).alloc (by simp; omega) _
  have q0 : Boxed W4 w.heap.size 40 (.slice a k c) := by
    rw [hW4]
    exact (Boxed.new w 40 (.slice a k c)).alloc _ |>.alloc _ |>.alloc _
  have q1 : Boxed W4 (w.heap.size + 1) 4 (.bool false) := by
    have := ((Boxed.new (w.alloc (.cells #[.slice a k c] 40)) 4 (.bool false)).alloc (.cells #[.pointer (some ⟨sp, 0, none⟩)] 27)).alloc (.cells #[.int .i64 which] 3)
    rw [World.size_alloc] at this
    rw [hW4]; exact this
  have q2 : Boxed W4 (w.heap.size + 2) 27 (.pointer (some ⟨sp, 0, none⟩)) := by
    have := (Boxed.new ((w.alloc (.cells #[.slice a k c] 40)).alloc (.cells #[.bool false] 4)) 27 (.pointer (some ⟨sp, 0, none⟩))).alloc (.cells #[.int .i64 which] 3)
    rw [World.size_alloc, World.size_alloc] at this
    rw [hW4]; exact this
  have q3 : Boxed W4 (w.heap.size + 3) 3 (.int .i64 which) := by
    have := Boxed.new (((w.alloc (.cells #[.slice a k c] 40)).alloc (.cells #[.bool false] 4)).alloc (.cells #[.pointer (some ⟨sp, 0, none⟩)] 27)) 3 (.int .i64 which)
    rw [World.size_alloc, World.size_alloc, World.size_alloc] at this
    rw [hW4]; exact this
  have hS4 := h.below hb4 hL
  have hE4 : EnvK W4 := hE.kc (Kc.of_below hb4)
  have hN4 := hN.below hb4
  try simp only [World.size_alloc]
  rw [← hW4]
  have hseq : SeqStopsK Fence.wide (n - 1) Tryz.prog 205 #[.pointer (some ⟨w.heap.size + 2, 0, none⟩), .pointer (some ⟨w.heap.size + 3, 0, none⟩)] oenc Kc (fun ys => ys = scopeSeq which s.reverse) (fun pre => pre <+: scopeSeq which s.reverse) s.length W4 := fun l J Jx W hW hJ _ hY h0 => by
    have hSW := hS4.below hW (hL.grow hb4.size)
    exact scope1_in (n - 1) (by omega) l _ _ sp sv which s J Jx hns hs hY W (cell_later hW q2.cell) (cell_later hW q3.cell) (rowAt hSW.h 1 _ rfl) (hE4.kc (Kc.of_below hW)) (SLen_any hSW) (fun j x hj => hSW.cells hj) hJ h0
  refine wpIn_rangeFunc_ownH rfl h1 (gf := 205) (lb := #[.pointer (some ⟨w.heap.size + 2, 0, none⟩), .pointer (some ⟨w.heap.size + 3, 0, none⟩)]) rfl trivial (enters_of Tryz.func205 (by kernel_rfl) rfl)
    hseq Kc.trans (fun W l o o' _ h hc _ => Kc.putObj W l o o' h hc) (Below.refl _ _) (fun _ => rfl)
    (fun pre W => ((Boxed W (w.heap.size + 1) 4 (.bool false) ∧ Boxed W w.heap.size 40 (.slice a k c)) ∧ Below W4.heap.size W4 W) ∧ pre.any (fun o => htmlO o ns) = false)
    (fun cc pre W => (Boxed W (w.heap.size + 1) 4 (.bool true) ∧ Below w.heap.size w W) ∧ cc = .ret ∧ pre.any (fun o => htmlO o ns) = true)
    (OwnFrom.and (OwnFrom.and (OwnFrom.and (Own.from (boxed_own _ _ _) _) (Own.from (boxed_own _ _ _) _)) (ownFrom_below (Nat.le_refl _) (Nat.le_refl _))) (fun _ _ _ _ hs _ _ => hs))
    (fun cc => OwnFrom.and (OwnFrom.and (Own.from (boxed_own _ _ _) _) (ownFrom_below (Nat.le_refl _) hb4.size)) (fun _ _ _ _ hs _ _ => hs))
    ⟨⟨⟨q1, q0⟩, Below.refl _ _⟩, rfl⟩
    (fun x a' W => ∃ Bx, W.heap[Bx]? = some (.cells #[.int .i64 x.node, .int .i64 x.space, .string x.name] 116 (0, 0)) ∧ a' = { tmps := #[.pointer (some ⟨sp, 0, none⟩), .int .i64 which, .slice a k c, undef, undef, .pointer (some ⟨w.heap.size, 0, none⟩), .pointer (some ⟨w.heap.size + 1, 0, none⟩), .pointer (some ⟨Bx, 0, none⟩), .pointer (some ⟨sp, 0, none⟩), .int .i64 which, .func (.func 205) #[] #[.pointer (some ⟨w.heap.size + 2, 0, none⟩), .pointer (some ⟨w.heap.size + 3, 0, none⟩)], .agg #[.int .i64 x.node, .int .i64 x.space, .string x.name], undef, undef, undef], defers := [] })
    (fun x a' _ X Y row hs hg hr => by
      obtain ⟨Bx, h2, h3⟩ := hs
      refine ⟨Bx, ?_, h3⟩
      refine (hg.block Bx (Array.getElem?_eq_some_iff.1 h2).1 (fun e => ?_)).trans h2
      obtain ⟨_, o, ho, hc⟩ := hr Bx (by first | exact e | exact e.symm)
      rw [h2] at ho
      obtain rfl := Option.some.inj ho
      cases hc)
    ?assign ?body ?done ?stop
  case assign =>
    rintro l pre x W K ⟨⟨⟨bS1, bB1⟩, hB1⟩, hp⟩ hK
    have hw := hB1.size
    dsimp only [oenc]
    gi_wp2
    refine hK _ _ ((KeepsOthers.alloc _ _).from _) (Kc.of_below ((Below.refl _ W).alloc (Nat.le_refl _) _)) ⟨⟨⟨bS1.alloc _, bB1.alloc _⟩, hB1.alloc hw _⟩, hp⟩ ⟨W.heap.size, heap_new _ _, rfl⟩
  case body =>
    rintro l pre x a' W hl _ ⟨⟨⟨bS1, bB1⟩, hB1⟩, hp⟩ ⟨Bx, hx, rfl⟩ _
    have cB := bB1.cell
    have cS := bS1.cell
    have zS := bS1.frozen
    have d0 := rowAt hx 0 _ rfl
    have d1 := rowAt hx 1 _ rfl
    have d2 := rowAt hx 2 _ rfl
    have cH := Lib.hid (html_any x (hN4.below hB1))
    have HP := Lib.hid hp
    have HS := Lib.hid bS1
    have HB := Lib.hid bB1
    have HW := Lib.hid hB1
    have hd : 1 ≤ n - 1 - 1 := by omega
    clear hp bS1 bB1 hB1 hx hS4 hE4 hN4 q0 q1 q2 q3 hseq h hL hs hns hE hN hT
    gi_wp2
    refine ⟨trivial, ?_⟩
    refine (CallsIn.inRound l (callsIn_wide.2 cH.out)).mono ?_
    rintro e w3 ⟨rfl, hb3⟩
    have hk3 := Kc.of_below hb3
    have b1 : Boxed w3 (w.heap.size + 1) 4 (.bool false) := hk3 _ _ HS.out rfl
    have b0 : Boxed w3 w.heap.size 40 (.slice a k c) := hk3 _ _ HB.out rfl
    have hb5 := below_call HW.out hb3
    have hkf : KeepsFrom W4.heap.size W w3 := kf_of_below hb3
    have zS3 := b1.frozen
    have cS3 := b1.cell
    have B1 := Lib.hid b1
    have B0 := Lib.hid b0
    have HB5 := Lib.hid hb5
    have HKF := Lib.hid hkf
    have HK3 := Lib.hid hk3
    obtain ⟨q, hq⟩ : ∃ q, htmlO x ns = q := ⟨_, rfl⟩
    have HA : Hid ((pre ++ [x]).any (fun o => htmlO o ns) = q) := Lib.hid (by rw [List.any_append, HP.out, List.any_cons, hq]; simp)
    rw [hq]
    clear hq hk3 b1 b0 hb5 hkf hb3 cB cS zS d0 d1 d2 cH HP HS HB HW
    cases q with
    | true =>
      gi_wp2
      exact ⟨HKF.out.trans ((KeepsOthers.setCell _ _ _).from _), ⟨B1.out.set _, (hb4.trans (HB5.out.mono hb4.size)).setCell (p := ⟨w.heap.size + 1, 0, none⟩) (by simp) _⟩, rfl, HA.out⟩
    | false =>
      gi_wp2
      exact ⟨HKF.out, HK3.out, ⟨⟨B1.out, B0.out⟩, HB5.out⟩, HA.out⟩
  case done =>
    rintro D xs W hD rfl ⟨⟨⟨bS1, bB1⟩, hB1⟩, hp⟩ hK
    have zS := bS1.frozen
    have cS := bS1.cell
    gi_wp2
    have hK' := (KeepsOthers.setCell W ⟨w.heap.size + 1, 0, none⟩ (.bool false)).same D _ hK rfl
    refine ⟨by simp, .inl ⟨_, _, rfl, run_takeDeferred hK', ?_⟩⟩
    have hc5 := cell_kept (bS1.set (.bool false)).cell (grownBy_putObj' _ D (.deferred none)) (fun r e => by cases e; exact ⟨_, hK', rfl⟩)
    refine ⟨.bool false, ?_, by rw [hp], ?_⟩
    · simp [results, Tryz.f145, go_sem, hc5]
    · exact ((hb4.trans (hB1.mono hb4.size)).setCell (p := ⟨w.heap.size + 1, 0, none⟩) (by simp) _).trans (belowK_b (w := W4) hb4.size _ D _ _ hD hK' rfl rfl)
  case stop =>
    rintro D cc pre W hD hpre ⟨⟨bR1, hB1⟩, rfl, hp⟩ hK
    gi_wp2
    refine ⟨by simp, .inl ⟨_, _, rfl, run_takeDeferred hK, ?_⟩⟩
    have hc5 := cell_kept bR1.cell (grownBy_putObj' _ D (.deferred none)) (fun r e => by cases e; exact ⟨_, hK, rfl⟩)
    have hall : (scopeSeq which s.reverse).any (fun o => htmlO o ns) = true := by
      obtain ⟨o, ho, h2⟩ := List.any_eq_true.1 hp
      exact List.any_eq_true.2 ⟨o, hpre.subset ho, h2⟩
    refine ⟨.bool true, ?_, by rw [hall], ?_⟩
    · simp [results, Tryz.f145, go_sem, hc5]
    · exact hB1.trans (belowK_b (w := W4) hb4.size _ D _ _ hD hK rfl rfl)
set_option maxRecDepth 100000 in
set_option maxHeartbeats 2000000 in
theorem HasNode_any {own : Nat → Nat} {w : World} {sp ap : Nat} {sv : Value} {s : St} (which i : Int) (h : StH own w sp ap sv s) (hL : Lbl own w) (hs : s.length ≤ 1000000) (hns : ∀ o ∈ s, o.name.size ≤ 1000000) (hE : EnvK w) :
    Calls Tryz.prog 155 #[.pointer (some ⟨sp, 0, none⟩), .int .i64 which, .int .i64 i] w fun e w' => e = .returned (.bool (hasN s which i)) ∧ Below w.heap.size w w' := by
  have hT : hasN s which i = (scopeSeq which s.reverse).any (fun o => o.node == i) := scopeG_eq _ _ _
  rw [hT]
  obtain ⟨n, hn⟩ : ∃ n : Nat, 6 ≤ n := ⟨6, Nat.le_refl _⟩
  have h1 : 1 ≤ n := by omega
  refine (callsIn_wide (n := n)).1 ?_
  refine callsIn_of_wp_marks Tryz.func155 rfl trivial ?_ rfl
  simp only [Tryz.ntmps155, List.size_toArray, List.length_cons, List.length_nil, Nat.reduceAdd, Nat.reduceSub, Array.replicate_succ, Array.replicate_zero, List.push_toArray, List.append_toArray, List.nil_append, List.cons_append]
  gi_wp2
  refine ⟨trivial, ?_⟩
  refine (callsIn_wide.2 (scope_any sp which _)).mono ?_
  rintro e w' ⟨rfl, rfl⟩
  gi_wp2
  obtain ⟨W4, hW4⟩ : ∃ W, W = (((w.alloc (.cells #[.int .i64 i] 3)).alloc (.cells #[.bool false] 4)).alloc (.cells #[.pointer (some ⟨sp, 0, none⟩)] 27)).alloc (.cells #[.int .i64 which] 3) := ⟨_, rfl⟩
  have hs4 : W4.heap.size = w.heap.size + 4 := by rw [hW4]; simp
  have hb4 : Below w.heap.size w W4 := by rw [hW4]; exact ((((Below.refl _ _).alloc (Nat.le_refl _) _).alloc (by simp) _).alloc (by simp; omega) _).alloc (by simp; omega) _
  have q0 : Boxed W4 w.heap.size 3 (.int .i64 i) := by
    rw [hW4]
    exact (Boxed.new w 3 (.int .i64 i)).alloc _ |>.alloc _ |>.alloc _
  have q1 : Boxed W4 (w.heap.size + 1) 4 (.bool false) := by
    have := ((Boxed.new (w.alloc (.cells #[.int .i64 i] 3)) 4 (.bool false)).alloc (.cells #[.pointer (some ⟨sp, 0, none⟩)] 27)).alloc (.cells #[.int .i64 which] 3)
    rw [World.size_alloc] at this
    rw [hW4]; exact this
  have q2 : Boxed W4 (w.heap.size + 2) 27 (.pointer (some ⟨sp, 0, none⟩)) := by
    have := (Boxed.new ((w.alloc (.cells #[.int .i64 i] 3)).alloc (.cells #[.bool false] 4)) 27 (.pointer (some ⟨sp, 0, none⟩))).alloc (.cells #[.int .i64 which] 3)
    rw [World.size_alloc, World.size_alloc] at this
    rw [hW4]; exact this
  have q3 : Boxed W4 (w.heap.size + 3) 3 (.int .i64 which) := by
    have := Boxed.new (((w.alloc (.cells #[.int .i64 i] 3)).alloc (.cells #[.bool false] 4)).alloc (.cells #[.pointer (some ⟨sp, 0, none⟩)] 27)) 3 (.int .i64 which)
    rw [World.size_alloc, World.size_alloc, World.size_alloc] at this
    rw [hW4]; exact this
  have hS4 := h.below hb4 hL
  have hE4 : EnvK W4 := hE.kc (Kc.of_below hb4)
  try simp only [World.size_alloc]
  rw [← hW4]
  have hseq : SeqStopsK Fence.wide (n - 1) Tryz.prog 205 #[.pointer (some ⟨w.heap.size + 2, 0, none⟩), .pointer (some ⟨w.heap.size + 3, 0, none⟩)] oenc Kc (fun ys => ys = scopeSeq which s.reverse) (fun pre => pre <+: scopeSeq which s.reverse) s.length W4 := fun l J Jx W hW hJ _ hY h0 => by
    have hSW := hS4.below hW (hL.grow hb4.size)
    exact scope1_in (n - 1) (by omega) l _ _ sp sv which s J Jx hns hs hY W (cell_later hW q2.cell) (cell_later hW q3.cell) (rowAt hSW.h 1 _ rfl) (hE4.kc (Kc.of_below hW)) (SLen_any hSW) (fun j x hj => hSW.cells hj) hJ h0
  refine wpIn_rangeFunc_ownH rfl h1 (gf := 205) (lb := #[.pointer (some ⟨w.heap.size + 2, 0, none⟩), .pointer (some ⟨w.heap.size + 3, 0, none⟩)]) rfl trivial (enters_of Tryz.func205 (by kernel_rfl) rfl)
    hseq Kc.trans (fun W l o o' _ h hc _ => Kc.putObj W l o o' h hc) (Below.refl _ _) (fun _ => rfl)
    (fun pre W => ((Boxed W (w.heap.size + 1) 4 (.bool false) ∧ Boxed W w.heap.size 3 (.int .i64 i)) ∧ Below W4.heap.size W4 W) ∧ pre.any (fun o => o.node == i) = false)
    (fun cc pre W => (Boxed W (w.heap.size + 1) 4 (.bool true) ∧ Below w.heap.size w W) ∧ cc = .ret ∧ pre.any (fun o => o.node == i) = true)
    (OwnFrom.and (OwnFrom.and (OwnFrom.and (Own.from (boxed_own _ _ _) _) (Own.from (boxed_own _ _ _) _)) (ownFrom_below (Nat.le_refl _) (Nat.le_refl _))) (fun _ _ _ _ hs _ _ => hs))
    (fun cc => OwnFrom.and (OwnFrom.and (Own.from (boxed_own _ _ _) _) (ownFrom_below (Nat.le_refl _) hb4.size)) (fun _ _ _ _ hs _ _ => hs))
    ⟨⟨⟨q1, q0⟩, Below.refl _ _⟩, rfl⟩
    (fun x a' W => ∃ Bx, W.heap[Bx]? = some (.cells #[.int .i64 x.node, .int .i64 x.space, .string x.name] 116 (0, 0)) ∧ a' = { tmps := #[.pointer (some ⟨sp, 0, none⟩), .int .i64 which, .int .i64 i, undef, undef, .pointer (some ⟨w.heap.size, 0, none⟩), .pointer (some ⟨w.heap.size + 1, 0, none⟩), .pointer (some ⟨Bx, 0, none⟩), .pointer (some ⟨sp, 0, none⟩), .int .i64 which, .func (.func 205) #[] #[.pointer (some ⟨w.heap.size + 2, 0, none⟩), .pointer (some ⟨w.heap.size + 3, 0, none⟩)], .agg #[.int .i64 x.node, .int .i64 x.space, .string x.name], undef, undef, undef, undef], defers := [] })
    (fun x a' _ X Y row hs hg hr => by
      obtain ⟨Bx, h2, h3⟩ := hs
      refine ⟨Bx, ?_, h3⟩
      refine (hg.block Bx (Array.getElem?_eq_some_iff.1 h2).1 (fun e => ?_)).trans h2
      obtain ⟨_, o, ho, hc⟩ := hr Bx (by first | exact e | exact e.symm)
      rw [h2] at ho
      obtain rfl := Option.some.inj ho
      cases hc)
    ?assign ?body ?done ?stop
  case assign =>
    rintro l pre x W K ⟨⟨⟨bS1, bB1⟩, hB1⟩, hp⟩ hK
    have hw := hB1.size
    dsimp only [oenc]
    gi_wp2
    refine hK _ _ ((KeepsOthers.alloc _ _).from _) (Kc.of_below ((Below.refl _ W).alloc (Nat.le_refl _) _)) ⟨⟨⟨bS1.alloc _, bB1.alloc _⟩, hB1.alloc hw _⟩, hp⟩ ⟨W.heap.size, heap_new _ _, rfl⟩
  case body =>
    rintro l pre x a' W hl _ ⟨⟨⟨bS1, bB1⟩, hB1⟩, hp⟩ ⟨Bx, hx, rfl⟩ _
    have cB := bB1.cell
    have cS := bS1.cell
    have zS := bS1.frozen
    have d0 := rowAt hx 0 _ rfl
    have d1 := rowAt hx 1 _ rfl
    have d2 := rowAt hx 2 _ rfl
    have hb5 := hB1
    have B1 := Lib.hid bS1
    have B0 := Lib.hid bB1
    have HB5 := Lib.hid hb5
    have hd : 1 ≤ n - 1 - 1 := by omega
    obtain ⟨q, hq⟩ : ∃ q, (x.node == i) = q := ⟨_, rfl⟩
    have HA : Hid ((pre ++ [x]).any (fun o => o.node == i) = q) := Lib.hid (by rw [List.any_append, hp, List.any_cons, hq]; simp)
    clear hp bS1 bB1 hB1 hx hS4 hE4 q0 q1 q2 q3 hseq h hL hs hns hE hT hb5
    cases q with
    | true =>
      gi_wp2
      exact ⟨(KeepsOthers.setCell _ _ _).from _, ⟨B1.out.set _, (hb4.trans (HB5.out.mono hb4.size)).setCell (p := ⟨w.heap.size + 1, 0, none⟩) (by simp) _⟩, rfl, HA.out⟩
    | false =>
      gi_wp2
      exact ⟨KeepsFrom.refl _ _, Kc.refl _, ⟨⟨B1.out, B0.out⟩, HB5.out⟩, HA.out⟩
  case done =>
    rintro D xs W hD rfl ⟨⟨⟨bS1, bB1⟩, hB1⟩, hp⟩ hK
    have zS := bS1.frozen
    have cS := bS1.cell
    gi_wp2
    have hK' := (KeepsOthers.setCell W ⟨w.heap.size + 1, 0, none⟩ (.bool false)).same D _ hK rfl
    refine ⟨by simp, .inl ⟨_, _, rfl, run_takeDeferred hK', ?_⟩⟩
    have hc5 := cell_kept (bS1.set (.bool false)).cell (grownBy_putObj' _ D (.deferred none)) (fun r e => by cases e; exact ⟨_, hK', rfl⟩)
    refine ⟨.bool false, ?_, by rw [hp], ?_⟩
    · simp [results, Tryz.f155, go_sem, hc5]
    · exact ((hb4.trans (hB1.mono hb4.size)).setCell (p := ⟨w.heap.size + 1, 0, none⟩) (by simp) _).trans (belowK_b (w := W4) hb4.size _ D _ _ hD hK' rfl rfl)
  case stop =>
    rintro D cc pre W hD hpre ⟨⟨bR1, hB1⟩, rfl, hp⟩ hK
    gi_wp2
    refine ⟨by simp, .inl ⟨_, _, rfl, run_takeDeferred hK, ?_⟩⟩
    have hc5 := cell_kept bR1.cell (grownBy_putObj' _ D (.deferred none)) (fun r e => by cases e; exact ⟨_, hK, rfl⟩)
    have hall : (scopeSeq which s.reverse).any (fun o => o.node == i) = true := by
      obtain ⟨o, ho, h2⟩ := List.any_eq_true.1 hp
      exact List.any_eq_true.2 ⟨o, hpre.subset ho, h2⟩
    refine ⟨.bool true, ?_, by rw [hall], ?_⟩
    · simp [results, Tryz.f155, go_sem, hc5]
    · exact hB1.trans (belowK_b (w := W4) hb4.size _ D _ _ hD hK rfl rfl)
end Go.Proofs.YtnbdalohlldnbaaGreatDoor

namespace Go.Proofs.YtnbdalohlldnbaaGreatDoor
open Go.RowKit Bd
attribute [local go_sem ↓] Go.wp_at_zero Go.wp_at_succ
/-- The labels of a list's blocks. -/
def cFo (l : Nat) : Bool := l == 4 || l == 7
/-- Active formatting elements. -/
structure FoH (own : Nat → Nat) (w : World) (lp ap : Nat) (lv : Value) (l : Fo) : Prop where
  o : own lp = 4
  h : w.heap[lp]? = some (.cells #[.pointer (some ⟨ap, 0, none⟩), lv] 118 (0, 0))
  s : SlO own 7 w 3 1 lv l.length (ints l)
theorem FoH.keep {c : Nat → Bool} {own own' : Nat → Nat} {w w' : World} {lp ap : Nat} {lv : Value} {l : Fo} (h : FoH own w lp ap lv l) (hf : Fr c own own' w w') (hc : ∀ x, cFo x = true → c x = false) : FoH own' w' lp ap lv l :=
  ⟨by rw [hf.old lp (row_lt h.h)]; exact h.o, hf.keep h.h (by rw [h.o]; exact hc 4 rfl), h.s.keep hf (hc 7 rfl)⟩
theorem FoH.below {own : Nat → Nat} {w w' : World} {lp ap : Nat} {lv : Value} {l : Fo} (h : FoH own w lp ap lv l) (hb : Below w.heap.size w w') (hL : Lbl own w) : FoH own w' lp ap lv l :=
  h.keep (c := fun _ => false) (Fr.of_below hb hL) (fun _ _ => rfl)
theorem FoH.cell {own : Nat → Nat} {w : World} {lp ap : Nat} {lv : Value} {l : Fo} (h : FoH own w lp ap lv l) {j : Nat} {x : Int} (hj : l[j]? = some x) : ∃ g cap, lv = .slice (some ⟨g, 0, none⟩) l.length cap ∧ l.length ≤ cap ∧ w.cell? ⟨g, j, none⟩ = some (.int .i64 x) :=
  h.s.1.cell (ints_get hj)
theorem FLen_any {own : Nat → Nat} {w : World} {lp ap : Nat} {lv : Value} {l : Fo} (h : FoH own w lp ap lv l) : Calls Tryz.prog 51 #[.pointer (some ⟨lp, 0, none⟩)] w (RI l.length w) := by
  have c1 := rowAt h.h 1 _ rfl
  obtain ⟨a, c, rfl, _⟩ := h.s.1.form
  clear h
  go_enter Tryz.func51, Tryz.ntmps51
  go_wp2_with fail
  go_ret
  exact ⟨rfl, rfl⟩
theorem FNone_any {own : Nat → Nat} {w : World} {lp ap : Nat} {lv : Value} {l : Fo} (h : FoH own w lp ap lv l) : Calls Tryz.prog 168 #[.pointer (some ⟨lp, 0, none⟩)] w (RB false w) := by
  have c0 := rowAt h.h 0 _ rfl
  clear h
  go_enter Tryz.func168, Tryz.ntmps168
  go_wp2_with fail
  go_ret
  exact ⟨rfl, rfl⟩
theorem lastIdx_lt {α : Type} (p : α → Bool) (l : List α) : lastIdx p l < (l.length : Int) := by
  unfold lastIdx
  split <;> omega
theorem last_open {own : Nat → Nat} {w : World} {lp ap : Nat} {lv : Value} {l : Fo} {frm : Int} (p : Int → Bool) (h : FoH own w lp ap lv l) (hL : Lbl own w) (hs : l.length ≤ 1000000) (hf : 0 ≤ frm)
    (hp : ∀ (x : Int) W, Below w.heap.size w W → Calls Tryz.prog 201 #[.int .i64 x] W fun e w' => e = .returned (.bool (p x)) ∧ Below W.heap.size W w') :
    Calls Tryz.prog 185 #[.pointer (some ⟨lp, 0, none⟩), .int .i64 frm, .func (.func 201) #[] #[]] w fun e w' => e = .returned (.int .i64 (lastF l frm p)) ∧ Below w.heap.size w w' := by
  have cL := Lib.hid (FLen_any h)
  have hrow : Hid (∀ W, Below w.heap.size w W → W.cell? ⟨lp, 1, none⟩ = some lv) := Lib.hid (fun W hW => rowAt (h.below hW hL).h 1 _ rfl)
  have hC : Hid (∀ (j : Nat) (x : Int) W, l[j]? = some x → Below w.heap.size w W → ∃ g cap, lv = .slice (some ⟨g, 0, none⟩) l.length cap ∧ l.length ≤ cap ∧ W.cell? ⟨g, j, none⟩ = some (.int .i64 x)) := Lib.hid (fun j x W hj hW => (h.below hW hL).cell hj)
  have HX : Hid (∀ j : Nat, j < l.length → ∃ x, l[j]? = some x) := Lib.hid (fun j hj => ⟨_, List.getElem?_eq_getElem hj⟩)
  have HR : Hid (lastF (l.take l.length) frm p = lastF l frm p) := Lib.hid (by rw [List.take_length])
  have HP := Lib.hid hp
  generalize lastF l frm p = R at *
  obtain ⟨n, hn⟩ : ∃ n, n = l.length := ⟨_, rfl⟩
  rw [← hn] at hs cL hC HX HR
  clear h hL hn hp
  go_enter Tryz.func185, Tryz.ntmps185
  go_wp2_with fail
  refine cL.out.mono ?_
  rintro e w1 ⟨rfl, rfl⟩
  go_wp2_with fail
  go_loopw [7] (fun y wr => ∃ k : Nat, y = .int .i64 ((k : Int) - 1) ∧ k ≤ n ∧ Hid (lastF (l.take k) frm p = R) ∧ Hid (Below w.heap.size w wr)) (fun y _ => (intOf y + 1).toNat)
  case atStart => exact ⟨n, rfl, Nat.le_refl _, HR, Lib.hid (Below.refl _ _)⟩
  case round =>
  obtain ⟨k, rfl, hk, hR, hb⟩ := hrel
  clear HR cL
  by_cases hlt : (k : Int) - 1 < frm
  · have HQ : Hid (R = -1) := by
      show _ = _
      rw [← hR.out]
      unfold lastF
      have := lastIdx_lt p (l.take k)
      rw [List.length_take] at this
      rw [if_pos (by omega)]
    clear hR hC HX HP hrow
    go_wp2_with fail
    go_ret
    exact ⟨by rw [HQ.out]; rfl, hb.out⟩
  · obtain ⟨j, rfl⟩ : ∃ j, k = j + 1 := ⟨k - 1, by omega⟩
    obtain ⟨x, hx⟩ := HX.out j (by omega)
    obtain ⟨g, cap, e1, hc, k0⟩ := hC.out j x _ hx hb.out
    have cP := Lib.hid (HP.out x _ hb.out)
    have hR2 := hR.out
    unfold lastF at hR2
    rw [lastIdx_take p l j x hx] at hR2
    have c1 := hrow.out _ hb.out
    rw [e1] at c1
    have ek : (((j + 1 : Nat) : Int) - 1) = (j : Int) := by omega
    rw [ek] at hlt ⊢
    have i0 : (0 : Int) ≤ (j : Int) := by omega
    have i1 : (j : Int) < (n : Int) := by omega
    have i2 : frm ≤ (j : Int) := by omega
    obtain ⟨q, hq⟩ : ∃ q, p x = q := ⟨_, rfl⟩
    rw [hq] at hR2 cP
    cases q with
    | true =>
      have HQ : Hid (R = (j : Int)) := by
        show _ = _
        rw [← hR2]
        show (if (j : Int) < frm then _ else _) = _
        rw [if_neg hlt]; rfl
      clear hR hR2 hC HX HP hrow hq hx e1 ek hlt
      go_wp2_with fail
      refine cP.out.mono ?_
      rintro e w3 ⟨rfl, hb3⟩
      have HB3 := Lib.hid (below_call hb.out hb3)
      clear c1 k0 cP hb hb3
      go_wp2_with fail
      go_ret
      exact ⟨by rw [HQ.out]; rfl, HB3.out⟩
    | false =>
      have HQ : Hid (lastF (l.take j) frm p = R) := Lib.hid (by rw [← hR2]; rfl)
      have HM : Hid (((j : Int) - 1 + 1).toNat < ((j : Int) + 1).toNat) := Lib.hid (by omega)
      have HK : Hid (j ≤ n) := Lib.hid (by omega)
      clear hR hR2 hC HX HP hrow hq hx e1 ek hlt
      go_wp2_with fail
      refine cP.out.mono ?_
      rintro e w3 ⟨rfl, hb3⟩
      have HB3 := Lib.hid (below_call hb.out hb3)
      clear c1 k0 cP hb hb3
      go_wp2_with fail
      go_roundw
      case rel => exact ⟨j, rfl, HK.out, HQ, HB3⟩
      case measure => exact HM.out
theorem last_index {own : Nat → Nat} {w : World} {lp ap : Nat} {lv : Value} {l : Fo} {B1 : Nat} {frm : Int} (p : Int → Bool) (h : FoH own w lp ap lv l) (hL : Lbl own w) (hs : l.length ≤ 1000000) (hf : 0 ≤ frm)
    (hp : ∀ (x : Int) W, Below w.heap.size w W → Calls Tryz.prog 207 #[.int .i64 x, .pointer (some ⟨B1, 0, none⟩)] W fun e w' => e = .returned (.bool (p x)) ∧ Below W.heap.size W w') :
    Calls Tryz.prog 185 #[.pointer (some ⟨lp, 0, none⟩), .int .i64 frm, .func (.func 207) #[] #[.pointer (some ⟨B1, 0, none⟩)]] w fun e w' => e = .returned (.int .i64 (lastF l frm p)) ∧ Below w.heap.size w w' := by
  have cL := Lib.hid (FLen_any h)
  have hrow : Hid (∀ W, Below w.heap.size w W → W.cell? ⟨lp, 1, none⟩ = some lv) := Lib.hid (fun W hW => rowAt (h.below hW hL).h 1 _ rfl)
  have hC : Hid (∀ (j : Nat) (x : Int) W, l[j]? = some x → Below w.heap.size w W → ∃ g cap, lv = .slice (some ⟨g, 0, none⟩) l.length cap ∧ l.length ≤ cap ∧ W.cell? ⟨g, j, none⟩ = some (.int .i64 x)) := Lib.hid (fun j x W hj hW => (h.below hW hL).cell hj)
  have HX : Hid (∀ j : Nat, j < l.length → ∃ x, l[j]? = some x) := Lib.hid (fun j hj => ⟨_, List.getElem?_eq_getElem hj⟩)
  have HR : Hid (lastF (l.take l.length) frm p = lastF l frm p) := Lib.hid (by rw [List.take_length])
  have HP := Lib.hid hp
  generalize lastF l frm p = R at *
  obtain ⟨n, hn⟩ : ∃ n, n = l.length := ⟨_, rfl⟩
  rw [← hn] at hs cL hC HX HR
  clear h hL hn hp
  go_enter Tryz.func185, Tryz.ntmps185
  go_wp2_with fail
  refine cL.out.mono ?_
  rintro e w1 ⟨rfl, rfl⟩
  go_wp2_with fail
  go_loopw [7] (fun y wr => ∃ k : Nat, y = .int .i64 ((k : Int) - 1) ∧ k ≤ n ∧ Hid (lastF (l.take k) frm p = R) ∧ Hid (Below w.heap.size w wr)) (fun y _ => (intOf y + 1).toNat)
  case atStart => exact ⟨n, rfl, Nat.le_refl _, HR, Lib.hid (Below.refl _ _)⟩
  case round =>
  obtain ⟨k, rfl, hk, hR, hb⟩ := hrel
  clear HR cL
  by_cases hlt : (k : Int) - 1 < frm
  · have HQ : Hid (R = -1) := by
      show _ = _
      rw [← hR.out]
      unfold lastF
      have := lastIdx_lt p (l.take k)
      rw [List.length_take] at this
      rw [if_pos (by omega)]
    clear hR hC HX HP hrow
    go_wp2_with fail
    go_ret
    exact ⟨by rw [HQ.out]; rfl, hb.out⟩
  · obtain ⟨j, rfl⟩ : ∃ j, k = j + 1 := ⟨k - 1, by omega⟩
    obtain ⟨x, hx⟩ := HX.out j (by omega)
    obtain ⟨g, cap, e1, hc, k0⟩ := hC.out j x _ hx hb.out
    have cP := Lib.hid (HP.out x _ hb.out)
    have hR2 := hR.out
    unfold lastF at hR2
    rw [lastIdx_take p l j x hx] at hR2
    have c1 := hrow.out _ hb.out
    rw [e1] at c1
    have ek : (((j + 1 : Nat) : Int) - 1) = (j : Int) := by omega
    rw [ek] at hlt ⊢
    have i0 : (0 : Int) ≤ (j : Int) := by omega
    have i1 : (j : Int) < (n : Int) := by omega
    have i2 : frm ≤ (j : Int) := by omega
    obtain ⟨q, hq⟩ : ∃ q, p x = q := ⟨_, rfl⟩
    rw [hq] at hR2 cP
    cases q with
    | true =>
      have HQ : Hid (R = (j : Int)) := by
        show _ = _
        rw [← hR2]
        show (if (j : Int) < frm then _ else _) = _
        rw [if_neg hlt]; rfl
      clear hR hR2 hC HX HP hrow hq hx e1 ek hlt
      go_wp2_with fail
      refine cP.out.mono ?_
      rintro e w3 ⟨rfl, hb3⟩
      have HB3 := Lib.hid (below_call hb.out hb3)
      clear c1 k0 cP hb hb3
      go_wp2_with fail
      go_ret
      exact ⟨by rw [HQ.out]; rfl, HB3.out⟩
    | false =>
      have HQ : Hid (lastF (l.take j) frm p = R) := Lib.hid (by rw [← hR2]; rfl)
      have HM : Hid (((j : Int) - 1 + 1).toNat < ((j : Int) + 1).toNat) := Lib.hid (by omega)
      have HK : Hid (j ≤ n) := Lib.hid (by omega)
      clear hR hR2 hC HX HP hrow hq hx e1 ek hlt
      go_wp2_with fail
      refine cP.out.mono ?_
      rintro e w3 ⟨rfl, hb3⟩
      have HB3 := Lib.hid (below_call hb.out hb3)
      clear c1 k0 cP hb hb3
      go_wp2_with fail
      go_roundw
      case rel => exact ⟨j, rfl, HK.out, HQ, HB3⟩
      case measure => exact HM.out
theorem last_last {own : Nat → Nat} {w : World} {lp ap : Nat} {lv : Value} {l : Fo} {B1 B2 : Nat} {frm : Int} (p : Int → Bool) (h : FoH own w lp ap lv l) (hL : Lbl own w) (hs : l.length ≤ 1000000) (hf : 0 ≤ frm)
    (hp : ∀ (x : Int) W, Below w.heap.size w W → Calls Tryz.prog 186 #[.int .i64 x, .pointer (some ⟨B1, 0, none⟩), .pointer (some ⟨B2, 0, none⟩)] W fun e w' => e = .returned (.bool (p x)) ∧ Below W.heap.size W w') :
    Calls Tryz.prog 185 #[.pointer (some ⟨lp, 0, none⟩), .int .i64 frm, .func (.func 186) #[] #[.pointer (some ⟨B1, 0, none⟩), .pointer (some ⟨B2, 0, none⟩)]] w fun e w' => e = .returned (.int .i64 (lastF l frm p)) ∧ Below w.heap.size w w' := by
  have cL := Lib.hid (FLen_any h)
  have hrow : Hid (∀ W, Below w.heap.size w W → W.cell? ⟨lp, 1, none⟩ = some lv) := Lib.hid (fun W hW => rowAt (h.below hW hL).h 1 _ rfl)
  have hC : Hid (∀ (j : Nat) (x : Int) W, l[j]? = some x → Below w.heap.size w W → ∃ g cap, lv = .slice (some ⟨g, 0, none⟩) l.length cap ∧ l.length ≤ cap ∧ W.cell? ⟨g, j, none⟩ = some (.int .i64 x)) := Lib.hid (fun j x W hj hW => (h.below hW hL).cell hj)
  have HX : Hid (∀ j : Nat, j < l.length → ∃ x, l[j]? = some x) := Lib.hid (fun j hj => ⟨_, List.getElem?_eq_getElem hj⟩)
  have HR : Hid (lastF (l.take l.length) frm p = lastF l frm p) := Lib.hid (by rw [List.take_length])
  have HP := Lib.hid hp
  generalize lastF l frm p = R at *
  obtain ⟨n, hn⟩ : ∃ n, n = l.length := ⟨_, rfl⟩
  rw [← hn] at hs cL hC HX HR
  clear h hL hn hp
  go_enter Tryz.func185, Tryz.ntmps185
  go_wp2_with fail
  refine cL.out.mono ?_
  rintro e w1 ⟨rfl, rfl⟩
  go_wp2_with fail
  go_loopw [7] (fun y wr => ∃ k : Nat, y = .int .i64 ((k : Int) - 1) ∧ k ≤ n ∧ Hid (lastF (l.take k) frm p = R) ∧ Hid (Below w.heap.size w wr)) (fun y _ => (intOf y + 1).toNat)
  case atStart => exact ⟨n, rfl, Nat.le_refl _, HR, Lib.hid (Below.refl _ _)⟩
  case round =>
  obtain ⟨k, rfl, hk, hR, hb⟩ := hrel
  clear HR cL
  by_cases hlt : (k : Int) - 1 < frm
  · have HQ : Hid (R = -1) := by
      show _ = _
      rw [← hR.out]
      unfold lastF
      have := lastIdx_lt p (l.take k)
      rw [List.length_take] at this
      rw [if_pos (by omega)]
    clear hR hC HX HP hrow
    go_wp2_with fail
    go_ret
    exact ⟨by rw [HQ.out]; rfl, hb.out⟩
  · obtain ⟨j, rfl⟩ : ∃ j, k = j + 1 := ⟨k - 1, by omega⟩
    obtain ⟨x, hx⟩ := HX.out j (by omega)
    obtain ⟨g, cap, e1, hc, k0⟩ := hC.out j x _ hx hb.out
    have cP := Lib.hid (HP.out x _ hb.out)
    have hR2 := hR.out
    unfold lastF at hR2
    rw [lastIdx_take p l j x hx] at hR2
    have c1 := hrow.out _ hb.out
    rw [e1] at c1
    have ek : (((j + 1 : Nat) : Int) - 1) = (j : Int) := by omega
    rw [ek] at hlt ⊢
    have i0 : (0 : Int) ≤ (j : Int) := by omega
    have i1 : (j : Int) < (n : Int) := by omega
    have i2 : frm ≤ (j : Int) := by omega
    obtain ⟨q, hq⟩ : ∃ q, p x = q := ⟨_, rfl⟩
    rw [hq] at hR2 cP
    cases q with
    | true =>
      have HQ : Hid (R = (j : Int)) := by
        show _ = _
        rw [← hR2]
        show (if (j : Int) < frm then _ else _) = _
        rw [if_neg hlt]; rfl
      clear hR hR2 hC HX HP hrow hq hx e1 ek hlt
      go_wp2_with fail
      refine cP.out.mono ?_
      rintro e w3 ⟨rfl, hb3⟩
      have HB3 := Lib.hid (below_call hb.out hb3)
      clear c1 k0 cP hb hb3
      go_wp2_with fail
      go_ret
      exact ⟨by rw [HQ.out]; rfl, HB3.out⟩
    | false =>
      have HQ : Hid (lastF (l.take j) frm p = R) := Lib.hid (by rw [← hR2]; rfl)
      have HM : Hid (((j : Int) - 1 + 1).toNat < ((j : Int) + 1).toNat) := Lib.hid (by omega)
      have HK : Hid (j ≤ n) := Lib.hid (by omega)
      clear hR hR2 hC HX HP hrow hq hx e1 ek hlt
      go_wp2_with fail
      refine cP.out.mono ?_
      rintro e w3 ⟨rfl, hb3⟩
      have HB3 := Lib.hid (below_call hb.out hb3)
      clear c1 k0 cP hb hb3
      go_wp2_with fail
      go_roundw
      case rel => exact ⟨j, rfl, HK.out, HQ, HB3⟩
      case measure => exact HM.out
theorem open_any {own : Nat → Nat} {w : World} {lp ap : Nat} {lv : Value} {l : Fo} (h : FoH own w lp ap lv l) (hL : Lbl own w) (hs : l.length ≤ 1000000) : Calls Tryz.prog 173 #[.pointer (some ⟨lp, 0, none⟩)] w fun e w' => e = .returned (.int .i64 (openF l)) ∧ Below w.heap.size w w' := by
  have cI := Lib.hid (last_open (frm := 0) (fun i => i == -1) h hL hs (Int.le_refl _) (fun x W hW => by
    have h1 : Calls Tryz.prog 201 #[.int .i64 x] W (RB (x == -1) W) := by
      go_enter Tryz.func201, Tryz.ntmps201
      go_wp2_with fail
      go_ret
      exact ⟨rfl, rfl⟩
    exact h1.mono fun _ _ ⟨h1, h2⟩ => ⟨h1, h2 ▸ Below.refl _ _⟩))
  have hr : -1 ≤ lastF l 0 (fun i => i == -1) ∧ lastF l 0 (fun i => i == -1) ≤ 1000000 := by
    have := lastIdx_lt (fun i : Int => i == -1) l
    unfold lastF
    split <;> omega
  unfold openF
  generalize lastF l 0 (fun i => i == -1) = r at *
  obtain ⟨h1, h2⟩ := hr
  clear h hL hs
  go_enter Tryz.func173, Tryz.ntmps173
  go_wp2_with fail
  refine cI.out.mono ?_
  rintro e w1 ⟨rfl, hb⟩
  have HB := Lib.hid hb
  clear hb cI
  go_wp2_with fail
  go_ret
  exact ⟨rfl, HB.out⟩
end Go.Proofs.YtnbdalohlldnbaaGreatDoor

namespace Go.Proofs.YtnbdalohlldnbaaGreatDoor
open Go.RowKit Bd
attribute [local go_sem ↓] Go.wp_at_zero Go.wp_at_succ
theorem FIndex_any {own : Nat → Nat} {w : World} {lp ap : Nat} {lv : Value} {l : Fo} (i : Int) (h : FoH own w lp ap lv l) (hL : Lbl own w) (hs : l.length ≤ 1000000) : Calls Tryz.prog 187 #[.pointer (some ⟨lp, 0, none⟩), .int .i64 i] w fun e w' => e = .returned (.int .i64 (indexF l i)) ∧ Below w.heap.size w w' := by
  obtain ⟨W, hW⟩ : ∃ W, W = w.alloc (.cells #[.int .i64 i] 3) := ⟨_, rfl⟩
  have hb : Below w.heap.size w W := by rw [hW]; exact (Below.refl _ _).alloc (Nat.le_refl _) _
  have hrow : W.heap[w.heap.size]? = some (.cells #[.int .i64 i] 3 (0, 0)) := by rw [hW]; exact heap_new _ _
  have hc := rowAt hrow 0 _ rfl
  have cI := last_index (B1 := w.heap.size) (frm := 0) (fun x => x == i) (h.below hb hL) (hL.grow hb.size) hs (Int.le_refl _) (fun x V hV => by
    have h0 := cell_later hV hc
    have h1 : Calls Tryz.prog 207 #[.int .i64 x, .pointer (some ⟨w.heap.size, 0, none⟩)] V (RB (x == i) V) := by
      clear h hL hs
      go_enter Tryz.func207, Tryz.ntmps207
      go_wp2_with fail
      go_ret
      exact ⟨rfl, rfl⟩
    exact h1.mono fun _ _ ⟨h1, h2⟩ => ⟨h1, h2 ▸ Below.refl _ _⟩)
  rw [hW] at cI hc hb
  replace cI := Lib.hid cI
  have HB := Lib.hid hb
  obtain ⟨R, hR⟩ : ∃ R, R = indexF l i := ⟨_, rfl⟩
  rw [← hR]
  unfold indexF at hR
  generalize lastF l 0 (fun x => x == i) = r at *
  have HR := Lib.hid hR
  clear h hL hs hW hb hrow hR
  go_enter Tryz.func187, Tryz.ntmps187
  by_cases h0 : i < 0
  · have HQ : Hid (R = -1) := by show _ = _; rw [HR.out, if_pos h0]
    clear HR cI
    go_wp2_with fail
    go_ret
    exact ⟨by rw [HQ.out]; rfl, HB.out⟩
  · have HQ : Hid (R = r) := by show _ = _; rw [HR.out, if_neg h0]
    clear HR
    go_wp2_with fail
    refine cI.out.mono ?_
    rintro e w1 ⟨rfl, hb1⟩
    have HB1 := Lib.hid (below_call HB.out hb1)
    clear hb1 cI hc
    go_wp2_with fail
    go_ret
    exact ⟨by rw [HQ.out]; rfl, HB1.out⟩
theorem FAt_any {own : Nat → Nat} {w : World} {lp ap : Nat} {lv : Value} {l : Fo} (k : Int) (h : FoH own w lp ap lv l) : Calls Tryz.prog 52 #[.pointer (some ⟨lp, 0, none⟩), .int .i64 k] w fun e w' => e = .returned (.tuple #[.int .i64 (atF l k).1, .bool (atF l k).2]) ∧ Below w.heap.size w w' := by
  have cL := Lib.hid (FLen_any h)
  have c1 := rowAt h.h 1 _ rfl
  by_cases h0 : k < 0
  · have hR : atF l k = (-1, false) := by unfold atF; rw [if_pos (by simp; omega)]
    rw [hR]
    clear hR c1 h cL
    go_enter Tryz.func52, Tryz.ntmps52
    go_wp2_with fail
    go_ret2
    exact ⟨rfl, Below.refl _ _⟩
  · obtain ⟨j, rfl⟩ : ∃ j : Nat, k = (j : Int) := ⟨k.toNat, by omega⟩
    by_cases h1 : j < l.length
    · have hj := List.getElem?_eq_getElem h1
      have hR : atF l (j : Int) = (l[j], l[j] == -1) := by
        unfold atF
        rw [if_neg (by simp; omega), show ((j : Int)).toNat = j from rfl, List.getD_eq_getElem?_getD, hj]; rfl
      rw [hR]
      obtain ⟨g, cap, rfl, hc, k0⟩ := h.cell hj
      generalize l[j] = x at *
      generalize l.length = n at *
      have i0 : (0 : Int) ≤ (j : Int) := by omega
      have i1 : (j : Int) < (n : Int) := by omega
      clear h hj h0 hR
      go_enter Tryz.func52, Tryz.ntmps52
      go_wp2_with fail
      refine cL.out.mono ?_
      rintro e w1 ⟨rfl, rfl⟩
      clear cL
      go_upto_region 3 with fail
      refine wp_region_held_drew (S := fun U => Below w.heap.size w U) (by kernel_rfl) ((Below.refl _ w).drew) (fun hHeld => ?_)
      generalize w.drew = V at hHeld  ⊢
      refine TkH 0 14 ?_; refine TkH 1 15 ?_; refine TkH 2 16 ?_
      (try simp only [Act.put]); (try simp only [List.setIfInBounds_toArray]); (try simp only [List.set_cons_zero, List.set_cons_succ])
      refine TkD 3 (some 17) (v := ?_) rfl rfl ?_ ?_; rotate_left
      · (intro W hSw; (try dsimp only at hSw); have c1' := (hSw.cell (World.block_lt_of_cell? _ _ c1)).trans c1; go_simp; try with_reducible rfl)
      (try simp only [Act.put]); (try simp only [List.setIfInBounds_toArray]); (try simp only [List.set_cons_zero, List.set_cons_succ])
      refine TkH 4 18 ?_; refine TkH 5 19 ?_
      (try simp only [Act.put]); (try simp only [List.setIfInBounds_toArray]); (try simp only [List.set_cons_zero, List.set_cons_succ])
      refine TkD 6 (some 20) (v := ?_) rfl rfl ?_ ?_; rotate_left
      · (intro W hSw; (try dsimp only at hSw); have k0' := (hSw.cell (World.block_lt_of_cell? _ _ k0)).trans k0; go_simp; try with_reducible rfl)
      (try simp only [Act.put]); (try simp only [List.setIfInBounds_toArray]); (try simp only [List.set_cons_zero, List.set_cons_succ])
      refine TkH 7 21 ?_; refine TkH 8 22 ?_; refine TkH 9 23 ?_
      (try simp only [Act.put]); (try simp only [List.setIfInBounds_toArray]); (try simp only [List.set_cons_zero, List.set_cons_succ])
      refine TkD 10 (some 24) (v := ?_) rfl rfl ?_ ?_; rotate_left
      · (intro W hSw; (try dsimp only at hSw); have c1' := (hSw.cell (World.block_lt_of_cell? _ _ c1)).trans c1; go_simp; try with_reducible rfl)
      (try simp only [Act.put]); (try simp only [List.setIfInBounds_toArray]); (try simp only [List.set_cons_zero, List.set_cons_succ])
      refine TkH 11 25 ?_; refine TkH 12 26 ?_
      (try simp only [Act.put]); (try simp only [List.setIfInBounds_toArray]); (try simp only [List.set_cons_zero, List.set_cons_succ])
      refine TkD 13 (some 27) (v := ?_) rfl rfl ?_ ?_; rotate_left
      · (intro W hSw; (try dsimp only at hSw); have k0' := (hSw.cell (World.block_lt_of_cell? _ _ k0)).trans k0; go_simp; try with_reducible rfl)
      (try simp only [Act.put]); (try simp only [List.setIfInBounds_toArray]); (try simp only [List.set_cons_zero, List.set_cons_succ])
      refine TkH 14 28 ?_; refine TkH 15 4 ?_; refine TkH 16 5 ?_
      (try simp only [Act.put]); (try simp only [List.setIfInBounds_toArray]); (try simp only [List.set_cons_zero, List.set_cons_succ])
      refine wpAnyH_done (by kernel_rfl) ?_ _
      go_wp2_with fail
      go_ret2
      exact ⟨rfl, hHeld⟩

    · have hR : atF l (j : Int) = (-1, false) := by unfold atF; rw [if_pos (by simp; omega)]
      rw [hR]
      generalize l.length = n at *
      have i1 : (n : Int) ≤ (j : Int) := by omega
      clear hR c1 h
      go_enter Tryz.func52, Tryz.ntmps52
      go_wp2_with fail
      refine cL.out.mono ?_
      rintro e w1 ⟨rfl, rfl⟩
      go_wp2_with fail
      go_ret2
      exact ⟨rfl, Below.refl _ _⟩
theorem nodeField0 (a0 a1 a2 a3 a4 a5 a6 a7 a8 a9 a10 : Value) (w : World) : Sem.run Tryz.prog (Instr.field 54 (.agg #[a0, a1, a2, a3, a4, a5, a6, a7, a8, a9, a10]) 0) w = Result.ok a0 w := by kernel_rfl
set_option maxRecDepth 100000 in
theorem may_any {own : Nat → Nat} {w : World} {lp ap : Nat} {lv nv : Value} {fo : Fo} {l : List NB} (i : Int) (h : FoH own w lp ap lv fo) (hA : ArH own w ap nv l) (hL : Lbl own w) (hkl : ∀ x ∈ l, x.n.kids.length ≤ 1000000) :
    Calls Tryz.prog 119 #[.pointer (some ⟨lp, 0, none⟩), .int .i64 i] w fun e w' => e = .returned (.int .i64 (if (node (l.map NB.n) i).kind != 3 then 2 else 0)) ∧ Below w.heap.size w w' := by
  have cN := Lib.hid (FNone_any h)
  have cD := Lib.hid (Node_any i hA hL hkl)
  have c0 := rowAt h.h 0 _ rfl
  generalize node (l.map NB.n) i = nd at *
  obtain ⟨kd, nm, tx, sp', dp, pr, cn, ks, fr, tt⟩ := nd
  clear h hA hL hkl
  obtain ⟨q, hq⟩ : ∃ q, (kd != 3) = q := ⟨_, rfl⟩
  have HQ : Hid ((if kd != 3 then (2 : Int) else 0) = if q then 2 else 0) := Lib.hid (by rw [hq])
  go_enter Tryz.func119, Tryz.ntmps119
  go_wp2_with fail
  refine cN.out.mono ?_
  rintro e w1 ⟨rfl, rfl⟩
  go_wp2_with fail
  refine cD.out.mono ?_
  rintro e w2 ⟨a5, k5, c5, rfl, _, _, hb2⟩
  dsimp only [NB.val, NB.row]
  have HB := Lib.hid hb2
  have hF := nodeField0 (.int .i64 kd) (.string nm) (.string tx) (.int .i64 sp') (.slice none 0 0) (.bool dp) (.int .i64 pr) (.int .i64 cn) (.slice a5 k5 c5) (.int .i64 fr) (.int .i64 tt) w2
  clear cN cD c0 hb2
  cases q with
  | true =>
    go_wp2_with fail
    go_ret
    exact ⟨rfl, HB.out⟩
  | false =>
    go_wp2_with fail
    go_ret
    exact ⟨rfl, HB.out⟩
end Go.Proofs.YtnbdalohlldnbaaGreatDoor

namespace Go.Proofs.YtnbdalohlldnbaaGreatDoor
open Go.RowKit Bd
attribute [local go_sem ↓] Go.wp_at_zero Go.wp_at_succ
def RInsI (own : Nat → Nat) (l : Fo) (w : World) (e : Ending) (w' : World) : Prop := ∃ v' own', e = .returned v' ∧ SlO own' 7 w' 3 1 v' l.length (ints l) ∧ Fr (fun k => k == 7) own own' w w'
set_option maxRecDepth 100000 in
theorem InsI_any {own : Nat → Nat} {w : World} {v : Value} {l : Fo} {Bm c : Nat} {i : Int} (h : SlO own 7 w 3 1 v l.length (ints l)) (hL : Lbl own w) (hp : w.heap[Bm]? = some (.cells #[.int .i64 i] 3 (0, 0))) (hs : l.length ≤ 100000) :
    Calls Tryz.prog 209 #[v, .int .i64 l.length, .slice (some ⟨Bm, 0, none⟩) 1 c] w (RInsI own (l ++ [i]) w) := by
  obtain ⟨a, cc, rfl, hcc⟩ := h.1.form
  have HA := Lib.hid h
  have HL := Lib.hid hL
  have HP := Lib.hid hp
  obtain ⟨n, hn⟩ : ∃ n, n = l.length := ⟨_, rfl⟩
  have HN := Lib.hid hn
  rw [← hn] at hs hcc ⊢
  have i0 : (0 : Int) ≤ (n : Int) := by omega
  have i1 : (n : Int) ≤ (cc : Int) := by omega
  have e2 : ((n : Int)).toNat = n := rfl
  clear h hL hp hn
  go_enter Tryz.func209, Tryz.ntmps209
  go_wp2_with (refine wpList_plain rfl fun K hK => op_append_int (own := own) (.tmp 23) (.tmp 24) rfl rfl HL.out 7 _ n l rfl (by rw [HN.out]; exact HA.out) Bm 0 1 c [i] rfl rfl (fun j z hj => by match j, hj with | 0, hj => (obtain rfl := Option.some.inj hj; exact rowAt HP.out 0 _ rfl)) (by omega) fun v7 w7 own7 hs7 hf7 => hK _ _ ?_)
  all_goals (go_ret; exact ⟨v7, own7, rfl, hs7, hf7⟩)
theorem FoH.any {own own7 : Nat → Nat} {w w7 : World} {lp ap : Nat} {lv v7 : Value} {l l' : Fo} (h : FoH own w lp ap lv l) (hs7 : SlO own7 7 w7 3 1 v7 l'.length (ints l')) (hf : Fr (fun k => k == 7) own own7 w w7) :
    FoH own7 (w7.setCell ⟨lp, 1, none⟩ v7) lp ap v7 l' ∧ Fr cFo own own7 w (w7.setCell ⟨lp, 1, none⟩ v7) := by
  have ho : own7 lp = 4 := by rw [hf.old lp (row_lt h.h)]; exact h.o
  have hA7 := hf.keep h.h (by rw [h.o]; rfl)
  have hf2 : Fr (fun k => k == 4) own7 own7 w7 (w7.setCell ⟨lp, 1, none⟩ v7) := Fr.setCell hf.lbl (p := ⟨lp, 1, none⟩) v7 (by simp [ho])
  refine ⟨⟨ho, row_setC hA7 1 v7, hs7.keep hf2 rfl⟩, (hf.mono (fun x hx => ?_)).trans (hf2.mono (fun x hx => ?_))⟩
  · cases h6 : (x == 7) with
    | false => rfl
    | true => rw [beq_iff_eq.1 h6] at hx; cases hx
  · cases h6 : (x == 4) with
    | false => rfl
    | true => rw [beq_iff_eq.1 h6] at hx; cases hx
/-- What an act on a list answers, and what the list is then. -/
def RFo (own : Nat → Nat) (lp ap : Nat) (r : Value) (l : Fo) (w : World) (e : Ending) (w' : World) : Prop := e = .returned r ∧ ∃ own' lv', FoH own' w' lp ap lv' l ∧ Fr cFo own own' w w'
set_option maxHeartbeats 2000000 in
set_option maxRecDepth 100000 in
theorem lay_any {own : Nat → Nat} {w : World} {lp ap : Nat} {lv : Value} {l : Fo} (i : Int) (h : FoH own w lp ap lv l) (hL : Lbl own w) (hs : l.length ≤ 100000) :
    Calls Tryz.prog 191 #[.pointer (some ⟨lp, 0, none⟩), .int .i64 l.length, .int .i64 i] w (RFo own lp ap (.int .i64 (layF l l.length i).2) (layF l l.length i).1 w) := by
  obtain ⟨R, hR⟩ : ∃ R, R = layF l l.length i := ⟨_, rfl⟩
  rw [← hR]
  unfold layF at hR
  obtain ⟨n, hn⟩ : ∃ n, n = l.length := ⟨_, rfl⟩
  obtain ⟨a, c, hlv, hc⟩ := h.s.1.form
  rw [← hn] at hs hlv hc hR ⊢
  have HN := Lib.hid hn
  have c1 := rowAt h.h 1 lv rfl
  rw [hlv] at c1
  have HR := Lib.hid hR
  have hS := h
  have hF := Fr.refl cFo hL
  clear h hL hn hR
  by_cases h6 : 64 ≤ n
  · have HQ : Hid (R = (l, 3)) := by show _ = _; rw [HR.out, if_pos h6]
    have HS := Lib.hid hS
    have HF := Lib.hid hF
    have i5 : (64 : Int) ≤ (n : Int) := by omega
    clear HR hS hF hlv
    go_enter Tryz.func191, Tryz.ntmps191
    go_wp2_with fail
    go_ret
    rw [HQ.out]
    exact ⟨rfl, own, lv, HS.out, HF.out⟩
  · have HQ : Hid (R = (l ++ [i], 0)) := by show _ = _; rw [HR.out, if_neg h6, HN.out, List.take_length, List.drop_length]
    have i5 : (n : Int) < (64 : Int) := by omega
    have cIns : Hid (∀ (V : World) (own' : Nat → Nat) (Bm c : Nat), SlO own' 7 V 3 1 lv l.length (ints l) → Lbl own' V → V.heap[Bm]? = some (.cells #[.int .i64 i] 3 (0, 0)) →
        Calls Tryz.prog 209 #[lv, .int .i64 (n : Int), .slice (some ⟨Bm, 0, none⟩) 1 c] V (RInsI own' (l ++ [i]) V)) := Lib.hid (fun V own' Bm c h1 h2 h3 => by rw [HN.out]; exact InsI_any h1 h2 h3 (by rw [← HN.out]; exact hs))
    clear HR
    go_enter Tryz.func191, Tryz.ntmps191
    have hb9 : Below w.heap.size w (w.alloc (.cells #[.int .i64 i] 3)) := (Below.refl _ _).alloc (Nat.le_refl _) _
    have hc6 : (w.alloc (.cells #[.int .i64 i] 3)).heap[w.heap.size]? = some (.cells #[.int .i64 i] 3 (0, 0)) := heap_new _ _
    replace hS := hS.below hb9 hF.lbl
    replace hF := hF.trans (Fr.of_below hb9 hF.lbl)
    have cI := cIns.out _ own w.heap.size 1 hS.s hF.lbl hc6
    rw [hlv] at cI
    have CI := Lib.hid cI
    have HS := Lib.hid hS
    have HF := Lib.hid hF
    clear hb9 hc6 hS hF cI cIns hlv
    go_wp2_with fail
    refine CI.out.mono ?_
    rintro e V9 ⟨v7, own7, rfl, hs7, hf7⟩
    obtain ⟨a7, c7, hv7, _⟩ := hs7.1.form
    obtain ⟨n7, hn7⟩ : ∃ n, n = (l ++ [i]).length := ⟨_, rfl⟩
    rw [← hn7] at hv7
    subst hv7
    obtain ⟨hS7, hF7⟩ := HS.out.any hs7 hf7
    have z1 := frozen_row (hf7.keep HS.out.h (by rw [HS.out.o]; rfl)) 1
    have c1' := rowAt (hf7.keep HS.out.h (by rw [HS.out.o]; rfl)) 1 lv rfl
    have HA := Lib.hid (⟨hS7, HF.out.trans hF7⟩ : _ ∧ _)
    clear hS7 hF7 hs7 hf7 c1 CI hn7
    go_wp2_with fail
    go_ret
    rw [HQ.out]
    exact ⟨rfl, own7, _, HA.out.1, HA.out.2⟩
end Go.Proofs.YtnbdalohlldnbaaGreatDoor

namespace Go.Proofs.YtnbdalohlldnbaaGreatDoor
open Go.RowKit Bd
attribute [local go_sem ↓] Go.wp_at_zero Go.wp_at_succ
theorem SlO.setCells {own : Nat → Nat} {q : Nat} {e : TypeId} {size n g cap : Nat} : ∀ (vs : List Value) (o : Nat) (w : World) (xs : List Value), SlO own q w e size (.slice (some ⟨g, 0, none⟩) n cap) n xs → o + vs.length ≤ xs.length →
    SlO own q (w.setCells g o vs) e size (.slice (some ⟨g, 0, none⟩) n cap) n (xs.take o ++ vs ++ xs.drop (o + vs.length))
  | [], o, w, xs, h, _ => by
    show SlO own q w e size _ n _
    rw [List.append_nil, List.length_nil, Nat.add_zero, List.take_append_drop]; exact h
  | v :: vs, o, w, xs, h, hl => by
    rw [List.length_cons] at hl
    have h2 := SlO.setCells vs (o + 1) _ _ (SlO.set h o v) (by rw [List.length_set]; omega)
    show SlO own q ((w.setCell ⟨g, o, none⟩ v).setCells g (o + 1) vs) e size _ n _
    have e1 : (xs.set o v).take (o + 1) = xs.take o ++ [v] := by
      rw [List.take_add_one, List.take_set, List.set_eq_of_length_le (by rw [List.length_take]; omega), List.getElem?_set_self (by omega)]; rfl
    have e2 : (xs.set o v).drop (o + 1 + vs.length) = xs.drop (o + (v :: vs).length) := by
      rw [List.drop_set_of_lt (by omega), List.length_cons]; congr 1; omega
    rw [e1, e2] at h2
    simpa using h2
theorem Fr.setCells {c : Nat → Bool} {own : Nat → Nat} {g : Nat} (hg : c (own g) = true) : ∀ (vs : List Value) (o : Nat) (w : World), Lbl own w → Fr c own own w (w.setCells g o vs)
  | [], _, w, hL => Fr.refl c hL
  | v :: vs, o, w, hL => by
    have h1 : Fr c own own w (w.setCell ⟨g, o, none⟩ v) := Fr.setCell hL (p := ⟨g, o, none⟩) v hg
    exact h1.trans (Fr.setCells hg vs (o + 1) _ h1.lbl)
theorem lastIdx_ge {α : Type} (p : α → Bool) (l : List α) : -1 ≤ lastIdx p l := by
  unfold lastIdx
  split
  · rename_i k hk
    have := (List.findIdx?_eq_some_iff_findIdx_eq.1 hk).1
    rw [List.length_reverse] at this
    omega
  · omega
/-- A slice that has room for one more. -/
def RoomV (v : Value) (n : Nat) : Prop := ∃ a c, v = .slice a n c ∧ n < c
def RoomW (w : World) (p : Nat) : Prop := ∃ a n c, w.cell? ⟨p, 1, none⟩ = some (.slice a n c) ∧ n < c
def RDel (own : Nat → Nat) (l : Fo) (w : World) (e : Ending) (w' : World) : Prop := ∃ v', e = .returned v' ∧ SlO own 7 w' 3 1 v' l.length (ints l) ∧ Fr (fun k => k == 7) own own w w' ∧ RoomV v' l.length
theorem DelI_any {own : Nat → Nat} {w : World} {v : Value} {l : Fo} {k : Nat} (h : SlO own 7 w 3 1 v l.length (ints l)) (hL : Lbl own w) (hk : k < l.length) :
    Calls Tryz.prog 188 #[v, .int .i64 k, .int .i64 ((k + 1 : Nat) : Int)] w (RDel own (l.eraseIdx k) w) := by
  obtain ⟨x, hx⟩ : ∃ x, l[k]? = some x := ⟨_, List.getElem?_eq_getElem hk⟩
  obtain ⟨g, cap, rfl, hc, _⟩ := h.1.cell (ints_get hx)
  have hcap : cap ≤ 9223372036854775807 := by
    rcases h.1.2 with ⟨e1, _⟩ | ⟨g1, cap1, cur, e1, hg, h3, h4, h5, h6⟩
    · cases e1
    · injection e1 with e1 e2 e3
      subst e3
      exact h4
  have hfr : ∀ j, w.frozen? ⟨g, 0 + j, none⟩ = false := fun j => by
    rcases h.1.2 with ⟨e1, _⟩ | ⟨g1, cap1, cur, e1, hg, h3, h4, h5, h6⟩
    · cases e1
    · injection e1 with e1 e2 e3
      injection e1 with e1
      injection e1 with e1
      subst e1
      exact frozen_row hg _
  refine (Tryz.slices_Delete_int_cells g 0 l.length cap k (k + 1) l w (Nat.le_refl _) hc hcap (by omega) (by omega) (fun j hj => by
      have hj2 := List.getElem?_eq_getElem hj
      obtain ⟨g1, cap1, e1, _, hu⟩ := h.1.cell (ints_get hj2)
      injection e1 with e1 e2 e3
      injection e1 with e1
      injection e1 with e1
      subst e1
      rw [Nat.zero_add, hu, List.getD_eq_getElem?_getD, hj2]; rfl) (fun j _ => hfr j)).mono ?_
  rintro e w' ⟨rfl, q, rfl⟩
  have hd : Below w.heap.size w (w.drewN q) := ⟨rfl, rfl, rfl, Nat.le_refl _, fun _ _ => rfl⟩
  have hs := h.keep (c := fun _ => false) (Fr.of_below hd hL) rfl
  have hL2 := hL.grow hd.size
  have hg7 : own g = 7 := (h.2 g rfl).1
  obtain ⟨vs, hvs⟩ : ∃ vs, vs = ((l.take l.length).take k ++ (l.take l.length).drop (k + 1) ++ List.replicate (k + 1 - k) 0).map (Value.int .i64) := ⟨_, rfl⟩
  rw [← hvs]
  have hvl : vs.length = (ints l).length := by
    rw [hvs]; simp [ints]; omega
  have h1 := SlO.setCells vs 0 (w.drewN q) _ hs (Nat.le_of_eq (by rw [Nat.zero_add]; exact hvl))
  rw [Nat.zero_add, hvl, List.take_zero, List.nil_append, List.drop_length, List.append_nil] at h1
  have h2 := SlAt.take h1.1 (k := l.length - 1) (by omega)
  have e1 : vs.take ((l.length - 1) * 1) = ints (l.eraseIdx k) := by
    rw [hvs, List.take_length, ← List.eraseIdx_eq_take_drop_succ, ← List.map_take]
    unfold ints
    congr 1
    rw [List.take_append_of_le_length (by rw [List.length_eraseIdx]; split <;> omega), List.take_of_length_le (by rw [List.length_eraseIdx]; split <;> omega)]
  rw [e1] at h2
  have e2 : l.length - (k + 1 - k) = l.length - 1 := by omega
  have e3 : l.length - 1 = (l.eraseIdx k).length := by rw [List.length_eraseIdx]; split <;> omega
  refine ⟨_, rfl, ⟨?_, fun g' hg' => ?_⟩, (Fr.of_below hd hL).trans (Fr.setCells (by simp [hg7]) _ 0 _ hL2), _, cap, by rw [e2, e3], by omega⟩
  · rw [e2, ← e3]; exact h2
  · exact h1.2 g' (by simpa [Value.ownBlock] using hg')
theorem FRemove2_any {own : Nat → Nat} {w : World} {lp ap : Nat} {lv : Value} {l : Fo} (i : Int) (h : FoH own w lp ap lv l) (hL : Lbl own w) (hs : l.length ≤ 100000) :
    Calls Tryz.prog 147 #[.pointer (some ⟨lp, 0, none⟩), .int .i64 i] w (fun e w' => RFo own lp ap (.int .i64 (removeF l i).2) (removeF l i).1 w e w' ∧ (0 ≤ indexF l i → RoomW w' lp)) := by
  have cN := Lib.hid (FNone_any h)
  have cI := Lib.hid (FIndex_any i h hL (by omega))
  have hr : -1 ≤ indexF l i ∧ indexF l i < l.length := by
    unfold indexF lastF
    have h1 := lastIdx_lt (fun x : Int => x == i) l
    have h2 := lastIdx_ge (fun x : Int => x == i) l
    split
    · omega
    · split <;> omega
  obtain ⟨R, hR⟩ : ∃ R, R = removeF l i := ⟨_, rfl⟩
  rw [← hR]
  unfold removeF at hR
  generalize indexF l i = k at *
  have HR := Lib.hid hR
  have HS := Lib.hid h
  have HL := Lib.hid hL
  clear h hL hR
  by_cases h0 : k < 0
  · have hk1 : k = -1 := by omega
    subst hk1
    have HQ : Hid (R = (l, 4)) := by show _ = _; rw [HR.out, if_pos h0]
    clear HR hr h0
    go_enter Tryz.func147, Tryz.ntmps147
    go_wp2_with fail
    refine cN.out.mono ?_
    rintro e w1 ⟨rfl, rfl⟩
    go_wp2_with fail
    refine cI.out.mono ?_
    rintro e w2 ⟨rfl, hb⟩
    have HF := Lib.hid (⟨HS.out.below hb HL.out, Fr.of_below hb HL.out⟩ : FoH own w2 lp ap lv l ∧ Fr cFo own own w w2)
    clear cN cI hb
    go_wp2_with fail
    go_ret
    rw [HQ.out]
    exact ⟨⟨rfl, own, lv, HF.out.1, HF.out.2⟩, fun h => by omega⟩
  · obtain ⟨j, rfl⟩ : ∃ j : Nat, k = (j : Int) := ⟨k.toNat, by omega⟩
    have HQ : Hid (R = (l.eraseIdx j, 0)) := by show _ = _; rw [HR.out, if_neg h0]; rfl
    have hj : j < l.length := by omega
    have HJ := Lib.hid hj
    have i0 : (0 : Int) ≤ (j : Int) := by omega
    have i1 : (j : Int) ≤ 100000 := by omega
    clear HR hr h0 hj hs
    go_enter Tryz.func147, Tryz.ntmps147
    go_wp2_with fail
    refine cN.out.mono ?_
    rintro e w1 ⟨rfl, rfl⟩
    go_wp2_with fail
    refine cI.out.mono ?_
    rintro e w2 ⟨rfl, hb⟩
    have HF := Lib.hid (⟨HS.out.below hb HL.out, Fr.of_below hb HL.out⟩ : FoH own w2 lp ap lv l ∧ Fr cFo own own w w2)
    have c1 := rowAt HF.out.1.h 1 lv rfl
    obtain ⟨av, cv, hlv, _⟩ := HF.out.1.s.1.form
    rw [hlv] at c1
    have cD := DelI_any HF.out.1.s (HL.out.grow hb.size) HJ.out
    rw [hlv, show ((j + 1 : Nat) : Int) = (j : Int) + 1 by omega] at cD
    have CD := Lib.hid cD
    have HLV := Lib.hid hlv
    clear cN cI hb cD hlv
    go_wp2_with fail
    refine CD.out.mono ?_
    rintro e w3 ⟨v7, rfl, hs7, hf7, a8, c8, e8, l8⟩
    obtain ⟨a7, c7, hv7, _⟩ := hs7.1.form
    obtain ⟨n7, hn7⟩ : ∃ n, n = (l.eraseIdx j).length := ⟨_, rfl⟩
    rw [← hn7] at hv7
    subst hv7
    obtain ⟨hS7, hF7⟩ := HF.out.1.any hs7 hf7
    have HRM : Hid (RoomW (w3.setCell ⟨lp, 1, none⟩ (.slice a7 n7 c7)) lp) := Lib.hid ⟨a7, n7, c7, rowAt hS7.h 1 _ rfl, by
      injection e8 with e9 e10 e11
      rw [hn7, e11]; exact l8⟩
    clear e8 l8
    have hrow := hf7.keep HF.out.1.h (by rw [HF.out.1.o]; rfl)
    have z1 := frozen_row hrow 1
    have c1' := rowAt hrow 1 lv rfl
    rw [HLV.out] at c1'
    have HA := Lib.hid (⟨hS7, HF.out.2.trans hF7⟩ : _ ∧ _)
    clear hS7 hF7 hs7 hf7 c1 CD hn7 hrow HF
    go_wp2_with fail
    go_ret
    rw [HQ.out]
    exact ⟨⟨rfl, own, _, HA.out.1, HA.out.2⟩, fun _ => HRM.out⟩
theorem FRemove_any {own : Nat → Nat} {w : World} {lp ap : Nat} {lv : Value} {l : Fo} (i : Int) (h : FoH own w lp ap lv l) (hL : Lbl own w) (hs : l.length ≤ 100000) :
    Calls Tryz.prog 147 #[.pointer (some ⟨lp, 0, none⟩), .int .i64 i] w (RFo own lp ap (.int .i64 (removeF l i).2) (removeF l i).1 w) := (FRemove2_any i h hL hs).mono fun _ _ h => h.1
end Go.Proofs.YtnbdalohlldnbaaGreatDoor
