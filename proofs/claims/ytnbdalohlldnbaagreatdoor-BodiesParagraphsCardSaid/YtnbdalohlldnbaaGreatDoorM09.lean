/-
  A builder in order, as the program holds it; the acts of stack, formats, arena and builder on it. No condition.
  Package builder: element, Again, Insert.
  Package builder: Insert.
  Package builder: Only, Imply, CloseP.
  Package builder: Rebuild.
  Package adopt: node, pop, fresh.
-/
import Derived.Test.YtnbdalohlldnbaaGreatDoorM08
namespace Go.Proofs.YtnbdalohlldnbaaGreatDoor
open Go.RowKit Bd
attribute [local go_sem ↓] Go.wp_at_zero Go.wp_at_succ
theorem goodA_of {l : List NB} (ha : ArOk (l.map NB.n)) (hl : l.length ≤ 90000) : GoodA l := by
  have hx : ∀ {j : Nat} {x : NB}, l[j]? = some x → (l.map NB.n)[j]? = some x.n := fun hj => by rw [List.getElem?_map, hj]; rfl
  have hy : ∀ {j : Nat} {y : NodeL}, (l.map NB.n)[j]? = some y → ∃ x, l[j]? = some x ∧ x.n = y := fun hj => by
    rw [List.getElem?_map, Option.map_eq_some_iff] at hj; exact hj
  refine ⟨⟨by omega, fun j x hj => ?_, fun i x hi h0 => ?_⟩, fun j x hj k hk => ?_, fun e => ?_, by omega, fun x hx => ?_⟩
  · have := ha.kids_len (hx hj)
    rw [List.length_map] at this
    omega
  · obtain ⟨P, y, e, hP, hm⟩ := ha.par i _ (hx hi) h0
    obtain ⟨z, hz, rfl⟩ := hy hP
    exact ⟨P, z, e, hz, hm⟩
  · obtain ⟨c, y, e, hc, _⟩ := ha.kid j _ (hx hj) k hk
    obtain ⟨z, hz, rfl⟩ := hy hc
    exact ⟨c, z, e, hz⟩
  · exact ha.ne (by rw [e]; rfl)
  · have := ha.endz x hx
    rwa [List.length_map] at this
structure BX (n : Nat) (own : Nat → Nat) (w : World) (bp ap sp lp : Nat) (b : BS) : Prop where
  h : ∃ nv sv lv mv l, BuH own w bp ap sp lp nv sv lv mv l b
  L : Lbl own w
  G : Okb n b
  E : EnvO own w
  N : n ≤ 90000
/-- What an act answers, and the builder behind it. -/
def RX (n : Nat) (own : Nat → Nat) (bp ap sp lp : Nat) (r : Value) (b : BS) (w : World) (e : Ending) (w' : World) : Prop := e = .returned r ∧ ∃ own', BX n own' w' bp ap sp lp b ∧ Fr cBu own own' w w'
section
variable {n : Nat} {own : Nat → Nat} {w w' : World} {bp ap sp lp : Nat} {b : BS}
theorem BX.below (H : BX n own w bp ap sp lp b) (hb : Below w.heap.size w w') : BX n own w' bp ap sp lp b := by
  obtain ⟨nv, sv, lv, mv, l, h⟩ := H.h
  exact ⟨⟨nv, sv, lv, mv, l, h.below hb H.L⟩, H.L.grow hb.size, H.G, H.E.keep (Fr.of_below (c := cBu) hb H.L) rfl, H.N⟩
theorem BX.mono {m : Nat} (H : BX n own w bp ap sp lp b) (h : n ≤ m) (hm : m ≤ 90000) : BX m own w bp ap sp lp b := ⟨H.h, H.L, H.G.mono h, H.E, hm⟩
theorem BX.fr (H : BX n own w bp ap sp lp b) (hb : Below w.heap.size w w') : Fr cBu own own w w' := Fr.of_below hb H.L
theorem BX.good {nv sv lv mv : Value} {l : List NB} (H : BX n own w bp ap sp lp b) (h : BuH own w bp ap sp lp nv sv lv mv l b) : GoodA l := by
  have ha := H.G.ar
  have hl := H.G.len
  have hN := H.N
  rw [h.e] at ha hl
  rw [List.length_map] at hl
  exact goodA_of ha (by omega)
theorem BuH.stk {own' : Nat → Nat} {nv sv lv mv sv' : Value} {l : List NB} {s : St} (h : BuH own w bp ap sp lp nv sv lv mv l b) (hS : StH own' w' sp ap sv' s) (hf : Fr cSt own own' w w') : BuH own' w' bp ap sp lp nv sv' lv mv l { b with st := s } :=
  ⟨by rw [hf.old bp (row_lt h.h)]; exact h.o, hf.keep h.h (by rw [h.o]; rfl), h.m.keep hf rfl, h.a.keep hf (fun x hx => by
      simp only [cAr, Bool.or_eq_true, beq_iff_eq, decide_eq_true_eq] at hx
      rcases hx with (rfl | rfl) | hx
      · rfl
      · rfl
      · simp only [cSt, Bool.or_eq_false_iff, beq_eq_false_iff_ne]; omega), hS, h.f.keep hf (fun x hx => by
      simp only [cFo, Bool.or_eq_true, beq_iff_eq] at hx
      rcases hx with rfl | rfl <;> rfl), h.e⟩
theorem BuH.fmt {own' : Nat → Nat} {nv sv lv mv lv' : Value} {l : List NB} {s : Fo} (h : BuH own w bp ap sp lp nv sv lv mv l b) (hS : FoH own' w' lp ap lv' s) (hf : Fr cFo own own' w w') : BuH own' w' bp ap sp lp nv sv lv' mv l { b with fo := s } :=
  ⟨by rw [hf.old bp (row_lt h.h)]; exact h.o, hf.keep h.h (by rw [h.o]; rfl), h.m.keep hf rfl, h.a.keep hf (fun x hx => by
      simp only [cAr, Bool.or_eq_true, beq_iff_eq, decide_eq_true_eq] at hx
      rcases hx with (rfl | rfl) | hx
      · rfl
      · rfl
      · simp only [cFo, Bool.or_eq_false_iff, beq_eq_false_iff_ne]; omega), h.s.keep hf (fun x hx => by
      simp only [cSt, Bool.or_eq_true, beq_iff_eq] at hx
      rcases hx with rfl | rfl <;> rfl), hS, h.e⟩
theorem cBu_st {x : Nat} (h : cBu x = false) : cSt x = false := by
  have : x = 0 := by simpa [cBu] using h
  subst this; rfl
theorem cBu_fo {x : Nat} (h : cBu x = false) : cFo x = false := by
  have : x = 0 := by simpa [cBu] using h
  subst this; rfl
theorem RX.of_stk {s : St} {r : Value} {e : Ending} (H : BX n own w bp ap sp lp b) {nv sv lv mv : Value} {l : List NB} (h : BuH own w bp ap sp lp nv sv lv mv l b) (hs : StOk s) (hr : RStk own sp ap r s w e w') : RX n own bp ap sp lp r { b with st := s } w e w' := by
  obtain ⟨rfl, own', sv', h1, h2⟩ := hr
  have hf := h2.mono (d := cBu) (fun x hx => cBu_st hx)
  exact ⟨rfl, own', ⟨⟨_, _, _, _, _, h.stk h1 h2⟩, h2.lbl, H.G.stk hs, H.E.keep hf rfl, H.N⟩, hf⟩
theorem RX.of_fo {s : Fo} {r : Value} {e : Ending} (H : BX n own w bp ap sp lp b) {nv sv lv mv : Value} {l : List NB} (h : BuH own w bp ap sp lp nv sv lv mv l b) (hs : s.length ≤ 64) (hr : RFo own lp ap r s w e w') : RX n own bp ap sp lp r { b with fo := s } w e w' := by
  obtain ⟨rfl, own', sv', h1, h2⟩ := hr
  have hf := h2.mono (d := cBu) (fun x hx => cBu_fo hx)
  exact ⟨rfl, own', ⟨⟨_, _, _, _, _, h.fmt h1 h2⟩, h2.lbl, H.G.fmt hs, H.E.keep hf rfl, H.N⟩, hf⟩
theorem RX.of_ar {m : Nat} {a : Ar} {r : Int} {e : Ending} (H : BX n own w bp ap sp lp b) {nv sv lv mv : Value} {l : List NB} (h : BuH own w bp ap sp lp nv sv lv mv l b) (hg : Okb m { b with ar := a }) (hm : m ≤ 90000) (hr : RAct own ap (a, r) w e w') : RX m own bp ap sp lp (.int .i64 r) { b with ar := a } w e w' := by
  obtain ⟨rfl, own', nv', l', h0, h1, h2⟩ := hr
  have hf := h2.mono (d := cBu) (fun x hx => cBu_of hx)
  exact ⟨rfl, own', ⟨⟨_, _, _, _, _, h.arena h1 h2 h0⟩, h2.lbl, hg, H.E.keep hf rfl, hm⟩, hf⟩
theorem RX.of_bu {m : Nat} {b' : BS} {r : Value} {e : Ending} (H : BX n own w bp ap sp lp b) (hg : Okb m b') (hm : m ≤ 90000) (hr : RBu own bp ap sp lp r b' w e w') : RX m own bp ap sp lp r b' w e w' := by
  obtain ⟨rfl, own', nv, sv, lv, mv, l, h1, hf⟩ := hr
  exact ⟨rfl, own', ⟨⟨nv, sv, lv, mv, l, h1⟩, hf.lbl, hg, H.E.keep hf rfl, hm⟩, hf⟩
theorem BX.sl (H : BX n own w bp ap sp lp b) : b.st.length ≤ 1000000 := by have := H.G.st.1; omega
theorem BX.sn (H : BX n own w bp ap sp lp b) : ∀ o ∈ b.st, o.name.size ≤ 1000000 := fun o ho => by have := H.G.st.2 o ho; omega
theorem BX.fl (H : BX n own w bp ap sp lp b) : b.fo.length ≤ 1000000 := by have := H.G.fo; omega
/-! ### what lies in the builder -/
theorem BX.c0 (H : BX n own w bp ap sp lp b) : w.cell? ⟨bp, 0, none⟩ = some (.pointer (some ⟨ap, 0, none⟩)) := by
  obtain ⟨_, _, _, _, _, h⟩ := H.h; exact rowAt h.h 0 _ rfl
theorem BX.c1 (H : BX n own w bp ap sp lp b) : w.cell? ⟨bp, 1, none⟩ = some (.pointer (some ⟨sp, 0, none⟩)) := by
  obtain ⟨_, _, _, _, _, h⟩ := H.h; exact rowAt h.h 1 _ rfl
theorem BX.c2 (H : BX n own w bp ap sp lp b) : w.cell? ⟨bp, 2, none⟩ = some (.pointer (some ⟨lp, 0, none⟩)) := by
  obtain ⟨_, _, _, _, _, h⟩ := H.h; exact rowAt h.h 2 _ rfl
theorem xNone (H : BX n own w bp ap sp lp b) : Calls Tryz.prog 44 #[.pointer (some ⟨bp, 0, none⟩)] w (RB false w) := by
  obtain ⟨_, _, _, _, _, h⟩ := H.h; exact BNone_any h
theorem xArena (H : BX n own w bp ap sp lp b) : Calls Tryz.prog 17 #[.pointer (some ⟨bp, 0, none⟩)] w fun e w' => e = .returned (.pointer (some ⟨ap, 0, none⟩)) ∧ w = w' := by
  obtain ⟨_, _, _, _, _, h⟩ := H.h; exact BArena_any h
theorem xStack (H : BX n own w bp ap sp lp b) : Calls Tryz.prog 19 #[.pointer (some ⟨bp, 0, none⟩)] w fun e w' => e = .returned (.pointer (some ⟨sp, 0, none⟩)) ∧ w = w' := by
  obtain ⟨_, _, _, _, _, h⟩ := H.h; exact BStack_any h
theorem xFormats (H : BX n own w bp ap sp lp b) : Calls Tryz.prog 132 #[.pointer (some ⟨bp, 0, none⟩)] w fun e w' => e = .returned (.pointer (some ⟨lp, 0, none⟩)) ∧ w = w' := by
  obtain ⟨_, _, _, _, _, h⟩ := H.h; exact BFormats_any h
theorem xMode (H : BX n own w bp ap sp lp b) : Calls Tryz.prog 22 #[.pointer (some ⟨bp, 0, none⟩)] w fun e w' => e = .returned (.int .i64 b.mode) ∧ w = w' := by
  obtain ⟨_, _, _, _, _, h⟩ := H.h; exact BMode_any h
theorem xSet (x : Int) (H : BX n own w bp ap sp lp b) : Calls Tryz.prog 43 #[.pointer (some ⟨bp, 0, none⟩), .int .i64 x] w (RX n own bp ap sp lp (.tuple #[]) { b with mode := x } w) := by
  obtain ⟨_, _, _, _, _, h⟩ := H.h
  exact (BSet_any x h H.L).mono fun _ _ hr => RX.of_bu H ⟨H.G.ar, H.G.len, H.G.nd, H.G.st, H.G.fo, H.G.fos⟩ H.N hr
theorem xSetHead (x : Int) (H : BX n own w bp ap sp lp b) : Calls Tryz.prog 40 #[.pointer (some ⟨bp, 0, none⟩), .int .i64 x] w (RX n own bp ap sp lp (.tuple #[]) { b with head := x } w) := by
  obtain ⟨_, _, _, _, _, h⟩ := H.h
  exact (BSetHead_any x h H.L).mono fun _ _ hr => RX.of_bu H ⟨H.G.ar, H.G.len, H.G.nd, H.G.st, H.G.fo, H.G.fos⟩ H.N hr
theorem xSetQuirks (x : Bool) (H : BX n own w bp ap sp lp b) : Calls Tryz.prog 37 #[.pointer (some ⟨bp, 0, none⟩), .bool x] w (RX n own bp ap sp lp (.tuple #[]) { b with quirks := x } w) := by
  obtain ⟨_, _, _, _, _, h⟩ := H.h
  exact (BSetQuirks_any x h H.L).mono fun _ _ hr => RX.of_bu H ⟨H.G.ar, H.G.len, H.G.nd, H.G.st, H.G.fo, H.G.fos⟩ H.N hr
theorem xFail (x : Int) (H : BX n own w bp ap sp lp b) : Calls Tryz.prog 116 #[.pointer (some ⟨bp, 0, none⟩), .int .i64 x] w (RX n own bp ap sp lp (.tuple #[]) (failB b x) w) := by
  obtain ⟨_, _, _, _, _, h⟩ := H.h
  exact (Fail_any x h H.L).mono fun _ _ hr => RX.of_bu H (H.G.fail x) H.N hr
theorem xPut (i tg : Int) (H : BX n own w bp ap sp lp b) : Calls Tryz.prog 60 #[.pointer (some ⟨bp, 0, none⟩), .int .i64 i, .int .i64 tg] w (RX n own bp ap sp lp (.tuple #[]) (putB b i tg) w) := by
  obtain ⟨_, _, _, _, _, h⟩ := H.h
  exact (Put_any i tg h H.L (H.good h) H.G.fos).mono fun _ _ hr => RX.of_bu H (H.G.put i tg) H.N hr
theorem xChars (s : Ba) (hs : s.size ≤ 1000) (hn : n + 1 ≤ 90000) (H : BX n own w bp ap sp lp b) : Calls Tryz.prog 25 #[.pointer (some ⟨bp, 0, none⟩), .string s] w (RX (n + 1) own bp ap sp lp (.tuple #[]) (charsB b s) w) := by
  obtain ⟨_, _, _, _, l, h⟩ := H.h
  refine (Chars_any s h H.L (H.good h) H.G.fos H.sl (fun j x hj => ?_)).mono fun _ _ hr => RX.of_bu H (H.G.chars hs) hn hr
  have := (H.G.nd x.n (by rw [h.e]; exact List.mem_map_of_mem (List.mem_of_getElem? hj))).2
  have := H.N
  have : 1000 * n ≤ 1000 * 90000 := Nat.mul_le_mul_left _ H.N
  omega
theorem xIs {v : Value} {ns : List Ba} (H : BX n own w bp ap sp lp b) (hN : NmAt w v ns) : Calls Tryz.prog 21 #[.pointer (some ⟨bp, 0, none⟩), v] w fun e w' => e = .returned (.bool (isB b ns)) ∧ Below w.heap.size w w' := by
  obtain ⟨_, _, _, _, _, h⟩ := H.h; exact Is_any h H.L H.sl (H.good h).kl hN
theorem xTarget (H : BX n own w bp ap sp lp b) : Calls Tryz.prog 57 #[.pointer (some ⟨bp, 0, none⟩)] w (RI (target b) w) := by
  obtain ⟨_, _, _, _, _, h⟩ := H.h; exact target_any h H.sl
theorem xLost (H : BX n own w bp ap sp lp b) : Calls Tryz.prog 50 #[.pointer (some ⟨bp, 0, none⟩)] w fun e w' => e = .returned (.int .i64 (lost b : Nat)) ∧ Below w.heap.size w w' := by
  obtain ⟨_, _, _, _, _, h⟩ := H.h; exact lost_any h H.L H.sl H.fl
/-! ### the arena -/
theorem xNode (i : Int) (H : BX n own w bp ap sp lp b) : Calls Tryz.prog 46 #[.pointer (some ⟨ap, 0, none⟩), .int .i64 i] w (RNode (node b.ar i) w) := by
  obtain ⟨_, _, _, _, _, h⟩ := H.h
  have := Node_any i h.a H.L (H.good h).kl
  rwa [← h.e] at this
theorem xAdd (x : NB) (hk : kidK x.n.kind = true) (ht : isTpl x.n = false) (h1 : x.kv.oneCell' = true) (hx : NdOk (n + 1) x.n) (hn : n + 1 ≤ 90000) (H : BX n own w bp ap sp lp b) : Calls Tryz.prog 59 #[.pointer (some ⟨ap, 0, none⟩), x.val] w (RX (n + 1) own bp ap sp lp (.int .i64 (add b.ar x.n).2) { b with ar := (add b.ar x.n).1 } w) := by
  obtain ⟨_, _, _, _, l, h⟩ := H.h
  have hg := H.good h
  have hne : b.ar ≠ [] := H.G.ar.ne
  refine (Add_any x h.a H.L hg.ne (by have := hg.few; omega) hk ht h1).mono fun e w' hr => ?_
  obtain ⟨rfl, own', nv', h2, h3⟩ := hr
  have e1 : add b.ar x.n = (b.ar ++ [bare x.n], (b.ar.length : Int)) := add_eq hne hk ht
  refine RX.of_ar (a := (add b.ar x.n).1) (r := (add b.ar x.n).2) H h (H.G.add hk ht hx) hn ⟨?_, own', nv', _, ?_, h2, h3⟩
  · rw [e1, h.e, List.length_map]
  · rw [e1, h.e, List.map_append]; rfl
theorem xAppend (p i : Int) (H : BX n own w bp ap sp lp b) : Calls Tryz.prog 61 #[.pointer (some ⟨ap, 0, none⟩), .int .i64 p, .int .i64 i] w (RX n own bp ap sp lp (.int .i64 (append b.ar p i).2) { b with ar := (append b.ar p i).1 } w) := by
  obtain ⟨_, _, _, _, l, h⟩ := H.h
  have hg := H.good h
  have := Append_any p i h.a H.L hg.par hg.ne hg.up
  rw [← h.e] at this
  exact this.mono fun _ _ hr => RX.of_ar H h (H.G.append p i) H.N hr
theorem xTree (H : BX n own w bp ap sp lp b) : Calls Tryz.prog 18 #[.pointer (some ⟨ap, 0, none⟩)] w (RTree b.ar w) := by
  obtain ⟨_, _, _, _, l, h⟩ := H.h
  have hg := H.good h
  have := Tree_any h.a H.L (by have := hg.few; omega) hg.kl
  rwa [← h.e] at this
/-! ### the stack -/
theorem xSLen (H : BX n own w bp ap sp lp b) : Calls Tryz.prog 20 #[.pointer (some ⟨sp, 0, none⟩)] w (RI b.st.length w) := by
  obtain ⟨_, _, _, _, _, h⟩ := H.h; exact SLen_any h.s
theorem xSAt (k : Int) (H : BX n own w bp ap sp lp b) : Calls Tryz.prog 49 #[.pointer (some ⟨sp, 0, none⟩), .int .i64 k] w (RI (atS b.st k) w) := by
  obtain ⟨_, _, _, _, _, h⟩ := H.h; exact SAt_any k h.s
theorem xSTop (H : BX n own w bp ap sp lp b) : Calls Tryz.prog 111 #[.pointer (some ⟨sp, 0, none⟩)] w (RI (topS b.st) w) := by
  obtain ⟨_, _, _, _, _, h⟩ := H.h; exact STop_any h.s H.sl
theorem xSIndex (i : Int) (H : BX n own w bp ap sp lp b) : Calls Tryz.prog 115 #[.pointer (some ⟨sp, 0, none⟩), .int .i64 i] w (RI (indexS b.st i) w) := by
  obtain ⟨_, _, _, _, _, h⟩ := H.h; exact SIndex_any i h.s H.sl
theorem xSPop (H : BX n own w bp ap sp lp b) : Calls Tryz.prog 41 #[.pointer (some ⟨sp, 0, none⟩)] w (RX n own bp ap sp lp (.int .i64 (topS b.st)) { b with st := popS b.st } w) := by
  obtain ⟨_, _, _, _, _, h⟩ := H.h
  exact (Pop_any h.s H.L H.sl).mono fun _ _ hr => RX.of_stk H h H.G.st.pop hr
theorem xSUntil {v : Value} {ns : List Ba} (H : BX n own w bp ap sp lp b) (hN : NmAt w v ns) : Calls Tryz.prog 131 #[.pointer (some ⟨sp, 0, none⟩), v] w (RX n own bp ap sp lp (.int .i64 (untilS b.st ns).2) { b with st := (untilS b.st ns).1 } w) := by
  obtain ⟨_, _, _, _, _, h⟩ := H.h
  exact (Until_any h.s H.L H.sl hN).mono fun _ _ hr => RX.of_stk H h (H.G.st.until ns) hr
theorem xSImplied (but : Ba) (H : BX n own w bp ap sp lp b) : Calls Tryz.prog 104 #[.pointer (some ⟨sp, 0, none⟩), .string but] w (RX n own bp ap sp lp (.tuple #[]) { b with st := impliedSt but b.st } w) := by
  obtain ⟨_, _, _, _, _, h⟩ := H.h
  exact (SImplied_any but h.s H.L H.sl H.sn H.E).mono fun _ _ hr => RX.of_stk H h (H.G.st.implied but) hr
theorem xSPush (i : Int) (H : BX n own w bp ap sp lp b) : Calls Tryz.prog 118 #[.pointer (some ⟨sp, 0, none⟩), .int .i64 i] w (RX n own bp ap sp lp (.int .i64 (pushS b.ar b.st i).2) { b with st := (pushS b.ar b.st i).1 } w) := by
  obtain ⟨_, _, _, _, l, h⟩ := H.h
  have := Push_any i h.s h.a H.L (H.good h).kl H.sl
  rw [← h.e] at this
  exact this.mono fun _ _ hr => RX.of_stk H h (StOk.insert H.G.nd H.G.st _ i) hr
theorem xHas (which : Int) {v : Value} {ns : List Ba} (H : BX n own w bp ap sp lp b) (hN : NmAt w v ns) : Calls Tryz.prog 145 #[.pointer (some ⟨sp, 0, none⟩), .int .i64 which, v] w fun e w' => e = .returned (.bool (hasS b.st which ns)) ∧ Below w.heap.size w w' := by
  obtain ⟨_, _, _, _, _, h⟩ := H.h; exact Has_any which h.s H.L H.sl H.sn H.E.k hN
theorem xHasNode (which i : Int) (H : BX n own w bp ap sp lp b) : Calls Tryz.prog 155 #[.pointer (some ⟨sp, 0, none⟩), .int .i64 which, .int .i64 i] w fun e w' => e = .returned (.bool (hasN b.st which i)) ∧ Below w.heap.size w w' := by
  obtain ⟨_, _, _, _, _, h⟩ := H.h; exact HasNode_any which i h.s H.L H.sl H.sn H.E.k
/-! ### the formats -/
theorem xFLen (H : BX n own w bp ap sp lp b) : Calls Tryz.prog 51 #[.pointer (some ⟨lp, 0, none⟩)] w (RI b.fo.length w) := by
  obtain ⟨_, _, _, _, _, h⟩ := H.h; exact FLen_any h.f
theorem xFAt (k : Int) (H : BX n own w bp ap sp lp b) : Calls Tryz.prog 52 #[.pointer (some ⟨lp, 0, none⟩), .int .i64 k] w fun e w' => e = .returned (.tuple #[.int .i64 (atF b.fo k).1, .bool (atF b.fo k).2]) ∧ Below w.heap.size w w' := by
  obtain ⟨_, _, _, _, _, h⟩ := H.h; exact FAt_any k h.f
theorem xFIndex (i : Int) (H : BX n own w bp ap sp lp b) : Calls Tryz.prog 187 #[.pointer (some ⟨lp, 0, none⟩), .int .i64 i] w fun e w' => e = .returned (.int .i64 (indexF b.fo i)) ∧ Below w.heap.size w w' := by
  obtain ⟨_, _, _, _, _, h⟩ := H.h; exact FIndex_any i h.f H.L H.fl
theorem xFLast (name : Ba) (H : BX n own w bp ap sp lp b) : Calls Tryz.prog 146 #[.pointer (some ⟨lp, 0, none⟩), .string name] w fun e w' => e = .returned (.int .i64 (lastN b.ar b.fo name)) ∧ Below w.heap.size w w' := by
  obtain ⟨_, _, _, _, _, h⟩ := H.h
  have := Last_any name h.f h.a H.L (H.good h).kl H.fl
  rwa [← h.e] at this
theorem xFRemove (i : Int) (H : BX n own w bp ap sp lp b) : Calls Tryz.prog 147 #[.pointer (some ⟨lp, 0, none⟩), .int .i64 i] w (RX n own bp ap sp lp (.int .i64 (removeF b.fo i).2) { b with fo := (removeF b.fo i).1 } w) := by
  obtain ⟨_, _, _, _, _, h⟩ := H.h
  exact (FRemove_any i h.f H.L (by have := H.G.fo; omega)).mono fun _ _ hr => RX.of_fo H h (fremove_ok H.G.fo i) hr
theorem xFReplace (k i : Int) (H : BX n own w bp ap sp lp b) : Calls Tryz.prog 55 #[.pointer (some ⟨lp, 0, none⟩), .int .i64 k, .int .i64 i] w (RX n own bp ap sp lp (.int .i64 (replaceF b.ar b.fo k i).2) { b with fo := (replaceF b.ar b.fo k i).1 } w) := by
  obtain ⟨_, _, _, _, l, h⟩ := H.h
  have := FReplace_any k i h.f h.a H.L (H.good h).kl
  rw [← h.e] at this
  exact this.mono fun _ _ hr => RX.of_fo H h (freplace_ok H.G.fo k i) hr
end
end Go.Proofs.YtnbdalohlldnbaaGreatDoor

namespace Go.Proofs.YtnbdalohlldnbaaGreatDoor
open Go.RowKit Bd
attribute [local go_sem ↓] Go.wp_at_zero Go.wp_at_succ
/-- A token, as the program holds it. -/
abbrev tokR (t : TokL) : Array Value := #[.int .i64 t.kind, .string t.name, .string t.text, .slice none 0 0, .bool t.dup, .bool t.self, .bool t.quirks, .int .i64 t.frm, .int .i64 t.till]
abbrev tokV (t : TokL) : Value := .agg (tokR t)
theorem tokSize : (Tryz.prog.info? 24).map (·.size) = some 9 := by kernel_rfl
abbrev zeroTk : Array Value := #[.int .i64 0, .string ⟨#[]⟩, .string ⟨#[]⟩, .slice none 0 0, .bool false, .bool false, .bool false, .int .i64 0, .int .i64 0]
set_option maxHeartbeats 1000000 in
set_option maxRecDepth 100000 in
theorem BElement_any (t : TokL) (spc : Int) (w : World) : Calls Tryz.prog 117 #[tokV t, .int .i64 spc] w fun e w' => e = .returned (NB.val ⟨elementT t spc, .slice none 0 0⟩) ∧ Below w.heap.size w w' := by
  obtain ⟨kd, nm, tx, dp, se, qu, fr, tt⟩ := t
  obtain ⟨W1, hW1⟩ : ∃ W, W = w.alloc (.cells #[.int .i64 kd, .string nm, .string tx, .slice none 0 0, .bool dp, .bool se, .bool qu, .int .i64 fr, .int .i64 tt] 24) := ⟨_, rfl⟩
  obtain ⟨W, hW⟩ : ∃ W, W = W1.alloc (.cells zeroNd 54) := ⟨_, rfl⟩
  have hb1 : Below w.heap.size w W1 := by rw [hW1]; exact (Below.refl _ w).alloc (Nat.le_refl _) _
  have hb2 : Below W1.heap.size W1 W := by rw [hW]; exact (Below.refl _ _).alloc (Nat.le_refl _) _
  have r1 : W1.heap[w.heap.size]? = some (.cells #[.int .i64 kd, .string nm, .string tx, .slice none 0 0, .bool dp, .bool se, .bool qu, .int .i64 fr, .int .i64 tt] 24 (0, 0)) := by rw [hW1]; exact heap_new _ _
  have r0 := (hb2.block _ (row_lt r1)).trans r1
  have hs : W1.heap.size = w.heap.size + 1 := by rw [hW1]; simp
  have r2 : W.heap[w.heap.size + 1]? = some (.cells zeroNd 54 (0, 0)) := by rw [hW, ← hs]; exact heap_new _ _
  have c1 := rowAt r0 1 (.string nm) rfl
  have c3 := rowAt r0 3 (.slice none 0 0) rfl
  have c4 := rowAt r0 4 (.bool dp) rfl
  have c7 := rowAt r0 7 (.int .i64 fr) rfl
  have c8 := rowAt r0 8 (.int .i64 tt) rfl
  have HW : Hid (W = (w.alloc (.cells #[.int .i64 kd, .string nm, .string tx, .slice none 0 0, .bool dp, .bool se, .bool qu, .int .i64 fr, .int .i64 tt] 24)).alloc (.cells zeroNd 54)) := Lib.hid (by rw [hW, hW1])
  have R2 := Lib.hid r2
  have HB := Lib.hid (below_setRow (cs := #[.int .i64 3, .string nm, .string ⟨#[]⟩, .int .i64 spc, .slice none 0 0, .bool dp, .int .i64 0, .int .i64 0, .slice none 0 0, .int .i64 fr, .int .i64 tt]) (below_call hb1 hb2) (Nat.le_succ w.heap.size))
  clear hW hW1 hb1 hb2 r1 r0 hs r2
  show Calls _ _ #[.agg #[_, _, _, _, _, _, _, _, _], _] _ _
  dsimp only
  go_enter Tryz.func117, Tryz.ntmps117
  go_upto_region 1 with fail
  rw [← HW.out]
  go_wp2_with (refine wpList_store_row rfl 54 (.tmp 4) (.tmp 16) rfl (w.heap.size + 1) #[.int .i64 3, .string nm, .string ⟨#[]⟩, .int .i64 spc, .slice none 0 0, .bool dp, .int .i64 0, .int .i64 0, .slice none 0 0, .int .i64 fr, .int .i64 tt] rfl rfl 54 _ R2.out nodeSize rfl (by simp [Value.oneCell']) ?_)
  refine bodyPost_ret (results_cell_row (P := Tryz.prog) (p := 4) rfl _ _ (w.heap.size + 1) 54 #[.int .i64 3, .string nm, .string ⟨#[]⟩, .int .i64 spc, .slice none 0 0, .bool dp, .int .i64 0, .int .i64 0, .slice none 0 0, .int .i64 fr, .int .i64 tt] (0, 0) _ rfl (setRow_heap _ _ _ _ _ _ R2.out) Tryz.underlying54 rfl nodeSize) rfl ?_
  exact ⟨rfl, HB.out⟩
set_option maxHeartbeats 1000000 in
set_option maxRecDepth 100000 in
theorem Again_any (x : NB) (w : World) : Calls Tryz.prog 54 #[x.val] w fun e w' => e = .returned (tokV (againT x.n)) ∧ Below w.heap.size w w' := by
  obtain ⟨⟨kd, nm, tx, sp, dp, pr, cn, ks, fr, tt⟩, kv⟩ := x
  obtain ⟨W1, hW1⟩ : ∃ W, W = w.alloc (.cells #[.int .i64 kd, .string nm, .string tx, .int .i64 sp, .slice none 0 0, .bool dp, .int .i64 pr, .int .i64 cn, kv, .int .i64 fr, .int .i64 tt] 54) := ⟨_, rfl⟩
  obtain ⟨W, hW⟩ : ∃ W, W = W1.alloc (.cells zeroTk 24) := ⟨_, rfl⟩
  have hb1 : Below w.heap.size w W1 := by rw [hW1]; exact (Below.refl _ w).alloc (Nat.le_refl _) _
  have hb2 : Below W1.heap.size W1 W := by rw [hW]; exact (Below.refl _ _).alloc (Nat.le_refl _) _
  have r1 : W1.heap[w.heap.size]? = some (.cells #[.int .i64 kd, .string nm, .string tx, .int .i64 sp, .slice none 0 0, .bool dp, .int .i64 pr, .int .i64 cn, kv, .int .i64 fr, .int .i64 tt] 54 (0, 0)) := by rw [hW1]; exact heap_new _ _
  have r0 := (hb2.block _ (row_lt r1)).trans r1
  have hs : W1.heap.size = w.heap.size + 1 := by rw [hW1]; simp
  have r2 : W.heap[w.heap.size + 1]? = some (.cells zeroTk 24 (0, 0)) := by rw [hW, ← hs]; exact heap_new _ _
  have c1 := rowAt r0 1 (.string nm) rfl
  have c4 := rowAt r0 4 (.slice none 0 0) rfl
  have c5 := rowAt r0 5 (.bool dp) rfl
  have c9 := rowAt r0 9 (.int .i64 fr) rfl
  have c10 := rowAt r0 10 (.int .i64 tt) rfl
  have HW : Hid (W = (w.alloc (.cells #[.int .i64 kd, .string nm, .string tx, .int .i64 sp, .slice none 0 0, .bool dp, .int .i64 pr, .int .i64 cn, kv, .int .i64 fr, .int .i64 tt] 54)).alloc (.cells zeroTk 24)) := Lib.hid (by rw [hW, hW1])
  have R2 := Lib.hid r2
  have HB := Lib.hid (below_setRow (cs := #[.int .i64 2, .string nm, .string ⟨#[]⟩, .slice none 0 0, .bool dp, .bool false, .bool false, .int .i64 fr, .int .i64 tt]) (below_call hb1 hb2) (Nat.le_succ w.heap.size))
  clear hW hW1 hb1 hb2 r1 r0 hs r2
  show Calls _ _ #[.agg #[_, _, _, _, _, _, _, _, _, _, _]] _ _
  dsimp only
  go_enter Tryz.func54, Tryz.ntmps54
  go_upto_region 1 with fail
  rw [← HW.out]
  go_wp2_with (refine wpList_store_row rfl 24 (.tmp 2) (.tmp 13) rfl (w.heap.size + 1) #[.int .i64 2, .string nm, .string ⟨#[]⟩, .slice none 0 0, .bool dp, .bool false, .bool false, .int .i64 fr, .int .i64 tt] rfl rfl 24 _ R2.out tokSize rfl (by simp [Value.oneCell']) ?_)
  refine bodyPost_ret (results_cell_row (P := Tryz.prog) (p := 2) rfl _ _ (w.heap.size + 1) 24 #[.int .i64 2, .string nm, .string ⟨#[]⟩, .slice none 0 0, .bool dp, .bool false, .bool false, .int .i64 fr, .int .i64 tt] (0, 0) _ rfl (setRow_heap _ _ _ _ _ _ R2.out) Tryz.underlying24 rfl tokSize) rfl ?_
  exact ⟨rfl, HB.out⟩
end Go.Proofs.YtnbdalohlldnbaaGreatDoor

namespace Go.Proofs.YtnbdalohlldnbaaGreatDoor
open Go.RowKit Bd
attribute [local go_sem ↓] Go.wp_at_zero Go.wp_at_succ
set_option maxHeartbeats 1000000 in
set_option maxRecDepth 100000 in
theorem Insert_any {n : Nat} {own : Nat → Nat} {w : World} {bp ap sp lp : Nat} {b : BS} (t : TokL) (spc : Int) (ht : TokOk t) (hn : n + 1 ≤ 90000) (H : BX n own w bp ap sp lp b) :
    Calls Tryz.prog 53 #[.pointer (some ⟨bp, 0, none⟩), tokV t, .int .i64 spc] w (RX (n + 1) own bp ap sp lp (.int .i64 (insertB b t spc).2) (insertB b t spc).1 w) := by
  obtain ⟨TR, hTR⟩ : ∃ T, T = tokR t := ⟨_, rfl⟩
  obtain ⟨W1, hW1⟩ : ∃ W, W = w.alloc (.cells (tokR t) 24) := ⟨_, rfl⟩
  have hb1 : Below w.heap.size w W1 := by rw [hW1]; exact (Below.refl _ w).alloc (Nat.le_refl _) _
  have hr : W1.heap[w.heap.size]? = some (.cells (tokR t) 24 (0, 0)) := by rw [hW1]; exact heap_new _ _
  have hH := H.below hb1
  have hF := H.fr hb1
  obtain ⟨R, hR⟩ : ∃ R, R = insertB b t spc := ⟨_, rfl⟩
  rw [← hR]
  have HW1 := Lib.hid hW1
  have HT := Lib.hid ht
  obtain ⟨bx, hbx⟩ : ∃ x, x = w.heap.size := ⟨_, rfl⟩
  rw [← hbx] at hr
  have hob : own bx = 0 := by rw [hbx]; exact H.L _ (Nat.le_refl _)
  have Hbx := Lib.hid hbx
  clear hb1 hW1 H ht hbx
  unfold insertB at hR
  by_cases h5 : 512 ≤ b.st.length
  · rw [if_pos h5] at hR
    have HQ := Lib.hid hR
    have h5' : (512 : Int) ≤ (b.st.length : Int) := by omega
    clear hR h5 hr
    go_enter Tryz.func53, Tryz.ntmps53
    go_upto_region 1 with fail
    rw [← HW1.out]
    go_wp2_with fail
    refine (xNone hH).mono ?_
    rintro e w1 ⟨rfl, rfl⟩
    have c1 := hH.c1
    go_wp2_with fail
    refine (xSLen hH).mono ?_
    rintro e w1 ⟨rfl, rfl⟩
    go_wp2_with fail
    refine (xFail 150 hH).mono ?_
    rintro e w2 ⟨rfl, own2, H2, F2⟩
    clear c1 hH
    go_wp2_with fail
    go_ret
    rw [HQ.out]
    exact ⟨rfl, own2, H2.mono (Nat.le_succ _) hn, hF.trans F2⟩
  · rw [if_neg h5] at hR
    have h5' : (b.st.length : Int) < 512 := by omega
    have cAdd : Hid (∀ own V, BX n own V bp ap sp lp b → Calls Tryz.prog 59 #[.pointer (some ⟨ap, 0, none⟩), NB.val ⟨elementT t spc, .slice none 0 0⟩] V (RX (n + 1) own bp ap sp lp (.int .i64 (add b.ar (elementT t spc)).2) { b with ar := (add b.ar (elementT t spc)).1 } V)) := Lib.hid (fun own V hV =>
      xAdd ⟨elementT t spc, .slice none 0 0⟩ rfl (tok_tpl HT.out spc) rfl ⟨HT.out, Nat.zero_le _⟩ hn hV)
    dsimp only at hR
    generalize (add b.ar (elementT t spc)).2 = i at *
    generalize { b with ar := (add b.ar (elementT t spc)).1 } = b1 at *
    have HQ := Lib.hid hR
    clear hR h5
    go_enter Tryz.func53, Tryz.ntmps53
    go_upto_region 1 with fail
    rw [← HW1.out, ← Hbx.out]
    go_wp2_with fail
    refine (xNone hH).mono ?_
    rintro e w1 ⟨rfl, rfl⟩
    have c1 := hH.c1
    go_wp2_with fail
    refine (xSLen hH).mono ?_
    rintro e w1 ⟨rfl, rfl⟩
    go_upto_region 6 with fail
    clear c1
    have c0 := hH.c0
    have hd := (Below.refl W1.heap.size W1).drew
    replace hF := hF.trans (hH.fr hd)
    replace hH := hH.below hd
    replace hr := (hd.block _ (row_lt hr)).trans hr
    clear hd
    refine wp_region_held_drew (S := fun U => U.cell? ⟨bp, 0, none⟩ = some (.pointer (some ⟨ap, 0, none⟩))) (by kernel_rfl) (c0) (fun hHeld => ?_)
    generalize W1.drew = V at hHeld hH hr hF c0 ⊢
    refine TkH 0 20 ?_; refine TkH 1 21 ?_; refine TkH 2 22 ?_
    (try simp only [Act.put]); (try simp only [List.setIfInBounds_toArray]); (try simp only [List.set_cons_zero, List.set_cons_succ])
    refine TkD 3 (some 23) (v := ?_) rfl rfl ?_ ?_; rotate_left
    · (intro W hSw; (try dsimp only at hSw); have c0' := hSw; go_simp; try with_reducible rfl)
    (try simp only [Act.put]); (try simp only [List.setIfInBounds_toArray]); (try simp only [List.set_cons_zero, List.set_cons_succ])
    refine TkH 5 25 ?_
    (try simp only [Act.put]); (try simp only [List.setIfInBounds_toArray]); (try simp only [List.set_cons_zero, List.set_cons_succ])
    refine wpAnyH_ready (rs := [4]) (by kernel_rfl) (by simp) ?_
    refine AllReadyH.cons rfl (fun K hK => ?_) AllReadyH.nil
    rw [if_pos (by rfl)]
    refine wp_load_row 24 (.tmp 4) rfl bx rfl 24 _ (0, 0) _ hr Tryz.underlying24 rfl tokSize ?_
    refine hK.out _ _ hHeld (fun hSx => ?_)
    clear hSx hK K
    (try simp only [Act.put]); (try simp only [List.setIfInBounds_toArray]); (try simp only [List.set_cons_zero, List.set_cons_succ])
    refine wpAnyH_ready (rs := [6]) (by kernel_rfl) (by simp) ?_
    refine AllReadyH.cons rfl (fun K hK => ?_) AllReadyH.nil
    go_simp
    go_at_call 117
    refine (BElement_any t spc V).mono ?_
    rintro e V9 ⟨rfl, hb9⟩
    replace hF := hF.trans (hH.fr hb9)
    replace hH := hH.below hb9
    have hS9 := hH.c0
    clear hHeld
    refine hK.out _ _ hS9 (fun hHeld => ?_)
    clear hK K hb9 hS9 hr
    clear V
    obtain ⟨V, rfl⟩ : ∃ U, U = V9 := ⟨_, rfl⟩
    (try simp only [Act.put]); (try simp only [List.setIfInBounds_toArray]); (try simp only [List.set_cons_zero, List.set_cons_succ])
    refine wpAnyH_ready (rs := [7]) (by kernel_rfl) (by simp) ?_
    refine AllReadyH.cons rfl (fun K hK => ?_) AllReadyH.nil
    go_simp
    go_at_call 59
    refine (cAdd.out own V hH).mono ?_
    rintro e V9 ⟨rfl, own9, H9, F9⟩
    replace hF := hF.trans F9
    have hS9 := H9.c0
    clear hHeld hH F9
    refine hK.out _ _ hS9 (fun hHeld => ?_)
    clear hK K hS9
    clear V
    obtain ⟨V, rfl⟩ : ∃ U, U = V9 := ⟨_, rfl⟩
    (try simp only [Act.put]); (try simp only [List.setIfInBounds_toArray]); (try simp only [List.set_cons_zero, List.set_cons_succ])
    focus (refine TkH 8 7 ?_)
    (try simp only [Act.put]); (try simp only [List.setIfInBounds_toArray]); (try simp only [List.set_cons_zero, List.set_cons_succ])
    refine wpAnyH_done (by kernel_rfl) ?_ _
    go_wp2_with fail
    refine (xTarget H9).mono ?_
    rintro e w1 ⟨rfl, rfl⟩
    go_wp2_with fail
    refine (xPut i (target b1) H9).mono ?_
    rintro e w2 ⟨rfl, own2, H2, F2⟩
    replace hF := hF.trans F2
    have HQ2 := HQ.out
    generalize putB b1 i (target b1) = b2 at *
    have c1 := H2.c1
    clear H9 F2 c0 HQ cAdd hHeld
    go_wp2_with fail
    refine (xSPush i H2).mono ?_
    rintro e w3 ⟨rfl, own3, H3, F3⟩
    replace hF := hF.trans F3
    generalize pushS b2.ar b2.st i = r at *
    obtain ⟨r1, r2⟩ := r
    clear c1 H2 F3
    dsimp only at H3 HQ2 ⊢
    go_wp2_with fail
    refine (xFail r2 H3).mono ?_
    rintro e w4 ⟨rfl, own4, H4, F4⟩
    have HF := Lib.hid (hF.trans F4)
    have HX := Lib.hid H4
    have HQ3 := Lib.hid HQ2
    clear hF F4 H3 H4 HQ2
    go_wp2_with fail
    go_ret
    rw [HQ3.out]
    exact ⟨rfl, own4, HX.out, HF.out⟩

end Go.Proofs.YtnbdalohlldnbaaGreatDoor

namespace Go.Proofs.YtnbdalohlldnbaaGreatDoor
open Go.RowKit Bd
attribute [local go_sem ↓] Go.wp_at_zero Go.wp_at_succ
section
variable {n : Nat} {own : Nat → Nat} {w : World} {bp ap sp lp : Nat} {b : BS}
set_option maxRecDepth 100000 in
theorem Only_any (t : TokL) (ht : TokOk t) (hn : n + 1 ≤ 90000) (H : BX n own w bp ap sp lp b) :
    Calls Tryz.prog 152 #[.pointer (some ⟨bp, 0, none⟩), tokV t] w (RX (n + 1) own bp ap sp lp (.int .i64 (only b t).2) (only b t).1 w) := by
  obtain ⟨W1, hW1⟩ : ∃ W, W = w.alloc (.cells (tokR t) 24) := ⟨_, rfl⟩
  have hb1 : Below w.heap.size w W1 := by rw [hW1]; exact (Below.refl _ w).alloc (Nat.le_refl _) _
  have hr : W1.heap[w.heap.size]? = some (.cells (tokR t) 24 (0, 0)) := by rw [hW1]; exact heap_new _ _
  have hH := H.below hb1
  have hF := H.fr hb1
  have cI := Lib.hid (Insert_any t 0 ht hn hH)
  obtain ⟨R, hR⟩ : ∃ R, R = only b t := ⟨_, rfl⟩
  rw [← hR]
  unfold only at hR
  generalize insertB b t 0 = r at *
  obtain ⟨b1, i⟩ := r
  dsimp only at hR cI
  have HW1 := Lib.hid hW1
  have Hr := Lib.hid hr
  have HF := Lib.hid hF
  have HR := Lib.hid hR
  clear hb1 hW1 H ht hH hF hr hR
  go_enter Tryz.func152, Tryz.ntmps152
  go_upto_region 1 with fail
  rw [← HW1.out]
  go_wp2_with (refine wpList_load_row rfl 24 (.tmp 3) rfl w.heap.size rfl 24 _ (0, 0) _ Hr.out Tryz.underlying24 rfl tokSize ?_)
  refine cI.out.mono ?_
  rintro e w1 ⟨rfl, own1, H1, F1⟩
  have HF1 := Lib.hid (HF.out.trans F1)
  clear cI F1
  by_cases h0 : 0 ≤ i
  · have HQ : Hid (R = ({ b1 with st := popS b1.st }, i)) := by show _ = _; rw [HR.out, if_pos h0]
    have c1 := H1.c1
    clear HR
    go_wp2_with fail
    refine (xSPop H1).mono ?_
    rintro e w2 ⟨rfl, own2, H2, F2⟩
    have HX := Lib.hid (⟨H2, HF1.out.trans F2⟩ : _ ∧ _)
    clear H1 c1 H2 F2
    go_wp2_with fail
    go_ret
    rw [HQ.out]
    exact ⟨rfl, own2, HX.out.1, HX.out.2⟩
  · have HQ : Hid (R = (b1, i)) := by show _ = _; rw [HR.out, if_neg h0]
    clear HR
    go_wp2_with fail
    go_ret
    rw [HQ.out]
    exact ⟨rfl, own1, H1, HF1.out⟩
theorem Imply_any (nm : Ba) (h1 : nm.size ≤ 1000) (h2 : (nm == templateS) = false) (hn : n + 1 ≤ 90000) (H : BX n own w bp ap sp lp b) :
    Calls Tryz.prog 38 #[.pointer (some ⟨bp, 0, none⟩), .string nm] w (RX (n + 1) own bp ap sp lp (.int .i64 (imply b nm).2) (imply b nm).1 w) := by
  have cI := Lib.hid (Insert_any (implyT nm) 0 (implyOk h1 h2) hn H)
  rw [show insertB b (implyT nm) 0 = imply b nm from rfl] at cI
  generalize imply b nm = r at *
  obtain ⟨b1, i⟩ := r
  clear H h1 h2
  go_enter Tryz.func38, Tryz.ntmps38
  go_wp2_with fail
  refine cI.out.mono ?_
  rintro e w1 ⟨rfl, own1, H1, F1⟩
  go_wp2_with fail
  go_ret
  exact ⟨rfl, own1, H1, F1⟩
theorem CloseP_any (H : BX n own w bp ap sp lp b) : Calls Tryz.prog 139 #[.pointer (some ⟨bp, 0, none⟩)] w (RX n own bp ap sp lp (.tuple #[]) (closeP b) w) := by
  have hb1 : Below w.heap.size w (w.alloc (.cells #[.string pS] 9)) := (Below.refl _ w).alloc (Nat.le_refl _) _
  have H1 := H.below hb1
  have cH := Lib.hid (xHas 2 H1 (NmAt.one w pS))
  have HF := Lib.hid (H.fr hb1)
  have c1 := H.c1
  obtain ⟨R, hR⟩ : ∃ R, R = closeP b := ⟨_, rfl⟩
  rw [← hR]
  unfold closeP at hR
  obtain ⟨q, hq⟩ : ∃ q, hasS b.st 2 [pS] = q := ⟨_, rfl⟩
  rw [hq] at cH hR
  have HH1 := Lib.hid H1
  have cN := Lib.hid (xNone H)
  have HR := Lib.hid hR
  clear hb1 H1 H hq hR
  go_enter Tryz.func139, Tryz.ntmps139
  go_wp2_with fail
  refine cN.out.mono ?_
  rintro e w1 ⟨rfl, rfl⟩
  go_wp2_with fail
  refine cH.out.mono ?_
  rintro e w2 ⟨rfl, hb2⟩
  have H2 := HH1.out.below hb2
  have HF2 := Lib.hid (HF.out.trans (HH1.out.fr hb2))
  clear cN cH hb2 HH1 HF c1
  cases q with
  | false =>
    have HQ : Hid (R = b) := by show _ = _; rw [HR.out]; rfl
    clear HR
    go_wp2_with fail
    go_end0
    rw [HQ.out]
    exact ⟨rfl, own, H2, HF2.out⟩
  | true =>
    have HQ : Hid (R = { b with st := (untilS (impliedSt pS b.st) [pS]).1 }) := by show _ = _; rw [HR.out, if_pos rfl]
    have c1 := H2.c1
    clear HR
    go_wp2_with fail
    refine (xSImplied pS H2).mono ?_
    rintro e w3 ⟨rfl, own3, H3, F3⟩
    have HF3 := Lib.hid (HF2.out.trans F3)
    have hb4 : Below w3.heap.size w3 (w3.alloc (.cells #[.string pS] 9)) := (Below.refl _ w3).alloc (Nat.le_refl _) _
    have H4 := H3.below hb4
    have HF4 := Lib.hid (HF3.out.trans (H3.fr hb4))
    have cU := Lib.hid (xSUntil H4 (NmAt.one w3 pS))
    clear c1 H2 HF2 F3 HF3 H4 hb4
    have c1 := H3.c1
    clear H3
    go_wp2_with fail
    refine cU.out.mono ?_
    rintro e w5 ⟨rfl, own5, H5, F5⟩
    have HF5 := Lib.hid (HF4.out.trans F5)
    clear cU F5 HF4 c1
    go_wp2_with fail
    go_end0
    rw [HQ.out]
    exact ⟨rfl, own5, H5, HF5.out⟩
end
end Go.Proofs.YtnbdalohlldnbaaGreatDoor

namespace Go.Proofs.YtnbdalohlldnbaaGreatDoor
open Go.RowKit Bd
attribute [local go_sem ↓] Go.wp_at_zero Go.wp_at_succ
theorem insert_fo {b : BS} (t : TokL) (spc : Int) (hf : b.foster = false) : (insertB b t spc).1.fo = b.fo := by
  have hfl : ∀ (c : BS) (e : Int), (failB c e).fo = c.fo := fun c e => by unfold failB; split <;> rfl
  unfold insertB
  split
  · exact hfl _ _
  · dsimp only
    rw [hfl, putN _ _ _ (show ({ b with ar := (add b.ar (elementT t spc)).1 } : BS).foster = false from hf)]
theorem lost_le (b : BS) : ∀ k, lostF b k ≤ k
  | 0 => Nat.le_refl _
  | k + 1 => by
    unfold lostF
    split
    · exact Nat.le_refl _
    · exact Nat.le_trans (lost_le b k) (Nat.le_succ _)
section
variable {n : Nat} {own : Nat → Nat} {w : World} {bp ap sp lp : Nat} {b : BS}
/-- Where a round of Rebuild stands. -/
structure RebAt (n : Nat) (own : Nat → Nat) (w : World) (bp ap sp lp : Nat) (R : BS) (k : Nat) (wr : World) : Prop where
  ex : ∃ m bk nk ownk, rebuildF m bk k = R ∧ m + k = bk.fo.length ∧ nk + m ≤ n + 64 ∧ BX nk ownk wr bp ap sp lp bk ∧ Fr cBu own ownk w wr
set_option maxHeartbeats 1000000 in
set_option maxRecDepth 100000 in
theorem Rebuild_any (hn : n + 64 ≤ 90000) (H : BX n own w bp ap sp lp b) : Calls Tryz.prog 24 #[.pointer (some ⟨bp, 0, none⟩)] w (RX (n + 64) own bp ap sp lp (.tuple #[]) (rebuild b) w) := by
  have cN := Lib.hid (xNone H)
  have cL := Lib.hid (xLost H)
  obtain ⟨R, hR⟩ : ∃ R, R = rebuild b := ⟨_, rfl⟩
  rw [← hR]
  unfold rebuild at hR
  have hl : lost b ≤ b.fo.length := lost_le b _
  have hfo := H.G.fo
  have HA : Hid (∀ W, Below w.heap.size w W → RebAt n own w bp ap sp lp R (lost b) W) := Lib.hid (fun W hW => ⟨b.fo.length - lost b, b, n, own, hR.symm, by omega, by omega, H.below hW, H.fr hW⟩)
  generalize lost b = k0 at *
  have hk0 : k0 ≤ 64 := by omega
  have HK0 := Lib.hid hk0
  clear hR hl hfo H hk0
  go_enter Tryz.func24, Tryz.ntmps24
  go_wp2_with fail
  refine cN.out.mono ?_
  rintro e w1 ⟨rfl, rfl⟩
  go_wp2_with fail
  refine cL.out.mono ?_
  rintro e w2 ⟨rfl, hb2⟩
  have HS := Lib.hid (HA.out w2 hb2)
  clear cN cL hb2 HA
  go_wp2_with fail
  go_loopw [2] (fun y wr => ∃ k : Nat, y = .int .i64 (k : Int) ∧ k ≤ 64 ∧ Hid (RebAt n own w bp ap sp lp R k wr)) (fun y _ => 64 - (intOf y).toNat)
  case atStart => exact ⟨k0, rfl, HK0.out, HS⟩
  case round =>
  obtain ⟨k, rfl, hk, hat⟩ := hrel
  clear HS HK0
  obtain ⟨m, bk, nk, ownk, hm, hmk, hnk, HX, HF⟩ := hat.out.ex
  have HFh := Lib.hid HF
  have hfo := HX.G.fo
  clear hat HF
  cases m with
  | zero =>
    have HQ : Hid (R = bk) := Lib.hid hm.symm
    have hlt : ¬ ((k : Int) < (bk.fo.length : Int)) := by omega
    have c2 := HX.c2
    have HX2 := Lib.hid (HX.mono (m := n + 64) (by omega) hn)
    have cF := Lib.hid (xFLen HX)
    generalize bk.fo.length = fl at *
    clear hm hmk hnk hfo HX
    go_wp2_with fail
    refine cF.out.mono ?_
    rintro e w3 ⟨rfl, rfl⟩
    go_wp2_with fail
    go_end0
    rw [HQ.out]
    exact ⟨rfl, ownk, HX2.out, HFh.out⟩
  | succ m =>
    have hlt : ((k : Int) < (bk.fo.length : Int)) := by omega
    have hm2 := hm
    unfold rebuildF at hm2
    dsimp only at hm2
    have ht := again_ok HX.G (atF bk.fo (k : Int)).1
    have hn1 : nk + 1 ≤ 90000 := by omega
    have hifo := insert_fo (againT (node bk.ar (atF bk.fo (k : Int)).1)) 0 HX.G.fos
    have c2 := HX.c2
    have cF := Lib.hid (xFLen HX)
    have HX2 := Lib.hid HX
    have HM := Lib.hid hm2
    have HMK := Lib.hid hmk
    have HNK := Lib.hid hnk
    have HI := Lib.hid hifo
    have hrl : ∀ (a : Ar) (f : Fo) (x : Int), (replaceF a f (k : Int) x).1.length = f.length := fun a f x => by
      unfold replaceF
      split
      · rfl
      · split
        · rfl
        · simp
    have HRL := Lib.hid hrl
    have HT := Lib.hid ht
    have hk1 : Hid (k + 1 ≤ 64) := Lib.hid (by omega)
    obtain ⟨fl, hfl⟩ : ∃ fl, bk.fo.length = fl := ⟨_, rfl⟩
    rw [hfl] at cF hlt HMK
    have HFL := Lib.hid hfl
    rw [hfl] at hmk hfo
    clear hfl
    clear hm hm2 hmk hnk hfo hifo hrl ht HX
    go_wp2_with fail
    refine cF.out.mono ?_
    rintro e w3 ⟨rfl, rfl⟩
    go_wp2_with fail
    refine (xFAt (k : Int) HX2.out).mono ?_
    rintro e w4 ⟨rfl, hb4⟩
    have H4 := HX2.out.below hb4
    have HF4 := Lib.hid (HFh.out.trans (HX2.out.fr hb4))
    have c0 := H4.c0
    have cNd := Lib.hid (xNode (atF bk.fo (k : Int)).1 H4)
    have HH4 := Lib.hid H4
    clear c2 hb4 H4 HX2 HFh cF
    generalize (atF bk.fo (k : Int)).1 = nd at *
    generalize (atF bk.fo (k : Int)).2 = mk at *
    go_wp2_with fail
    refine cNd.out.mono ?_
    rintro e w5 ⟨ka, kn, kc, rfl, _, _, hb5⟩
    have H5 := HH4.out.below hb5
    have HF5 := Lib.hid (HF4.out.trans (HH4.out.fr hb5))
    have cAg := Lib.hid (Again_any ⟨node bk.ar nd, .slice ka kn kc⟩ w5)
    have HH5 := Lib.hid H5
    clear cNd HH4 HF4 hb5 H5 c0
    dsimp only at cAg
    go_wp2_with fail
    refine cAg.out.mono ?_
    rintro e w6 ⟨rfl, hb6⟩
    have H6 := HH5.out.below hb6
    have HF6 := Lib.hid (HF5.out.trans (HH5.out.fr hb6))
    have cI := Lib.hid (Insert_any _ 0 HT.out hn1 H6)
    clear cAg HH5 HF5 hb6 H6
    have HM2 := HM.out
    have HI2 := HI.out
    generalize insertB bk (againT (node bk.ar nd)) 0 = r at *
    obtain ⟨b7, i⟩ := r
    dsimp only at HM2 HI2 cI
    have HM := Lib.hid HM2
    have HI := Lib.hid HI2
    clear HM2 HI2
    go_wp2_with fail
    refine cI.out.mono ?_
    rintro e w7 ⟨rfl, own7, H7, F7⟩
    have HF7 := Lib.hid (HF6.out.trans F7)
    clear cI F7 HF6
    have HM3 := HM.out
    by_cases hi : i < 0
    · rw [if_pos hi] at HM3
      have HQ := Lib.hid HM3
      have HX2 := Lib.hid (H7.mono (m := n + 64) (by have := HNK.out; omega) hn)
      clear HM HM3 H7
      go_wp2_with fail
      go_end0
      rw [← HQ.out]
      exact ⟨rfl, own7, HX2.out, HF7.out⟩
    · rw [if_neg hi] at HM3
      have HQ := Lib.hid HM3
      have c2 := H7.c2
      have cR := Lib.hid (xFReplace (k : Int) i H7)
      clear HM HM3 H7
      go_wp2_with fail
      refine cR.out.mono ?_
      rintro e w8 ⟨rfl, own8, H8, F8⟩
      have HX8 : Hid (RebAt n own w bp ap sp lp R (k + 1) w8) := Lib.hid ⟨m, _, nk + 1, own8, HQ.out, by
        have h1 := HMK.out
        have h2 := HRL.out b7.ar b7.fo i
        have h3 := HI.out
        show m + (k + 1) = (replaceF b7.ar b7.fo (k : Int) i).1.length
        have h4 := HFL.out
        rw [h2, h3]; omega, by have := HNK.out; omega, H8, HF7.out.trans F8⟩
      clear cR H8 F8 c2
      go_wp2_with fail
      go_roundw
      case rel => exact ⟨k + 1, by simp, hk1.out, HX8⟩
      case measure => have := hk1.out; simp [intOf]; omega
end
end Go.Proofs.YtnbdalohlldnbaaGreatDoor

namespace Go.Proofs.YtnbdalohlldnbaaGreatDoor
open Go.RowKit Bd
attribute [local go_sem ↓] Go.wp_at_zero Go.wp_at_succ
section
variable {n : Nat} {own : Nat → Nat} {w : World} {bp ap sp lp : Nat} {b : BS}
set_option maxHeartbeats 1000000 in
set_option maxRecDepth 100000 in
theorem anode_any (i : Int) (H : BX n own w bp ap sp lp b) : Calls Tryz.prog 103 #[.pointer (some ⟨bp, 0, none⟩), .int .i64 i] w (RNode (node b.ar i) w) := by
  obtain ⟨W1, hW1⟩ : ∃ W, W = w.alloc (.cells zeroNd 54) := ⟨_, rfl⟩
  have hb1 : Below w.heap.size w W1 := by rw [hW1]; exact (Below.refl _ w).alloc (Nat.le_refl _) _
  have hr : W1.heap[w.heap.size]? = some (.cells zeroNd 54 (0, 0)) := by rw [hW1]; exact heap_new _ _
  have cA := Lib.hid (xArena (H.below hb1))
  have cN := Lib.hid (xNode i (H.below hb1))
  generalize node b.ar i = nd at *
  obtain ⟨kd, nm, tx, spc, dp, pr, cn, ks, fr, tt⟩ := nd
  have HW1 := Lib.hid hW1
  have HB1 := Lib.hid hb1
  have Hr := Lib.hid hr
  clear H hW1 hb1 hr
  go_enter Tryz.func103, Tryz.ntmps103
  go_upto_region 1 with fail
  rw [← HW1.out]
  go_wp2_with fail
  refine cA.out.mono ?_
  rintro e w1 ⟨rfl, rfl⟩
  go_wp2_with fail
  refine cN.out.mono ?_
  rintro e w2 ⟨ka, kn, kc, rfl, hki, hkg, hb2⟩
  have hr2 := (hb2.block _ (row_lt Hr.out)).trans Hr.out
  have Hr2 := Lib.hid hr2
  have hkg2 : ∀ g off, ka = some ⟨g, off, none⟩ → w.heap.size < g := fun g off e => Nat.lt_of_lt_of_le (row_lt Hr.out) (hkg g off e)
  have hkk := IntsAt.keep hki (w' := w2.setRow w.heap.size #[.int .i64 kd, .string nm, .string tx, .int .i64 spc, .slice none 0 0, .bool dp, .int .i64 pr, .int .i64 cn, .slice ka kn kc, .int .i64 fr, .int .i64 tt]) (fun g off e => setRow_other _ _ _ _ (by have := hkg2 g off e; omega))
  have hbf := below_setRow (cs := #[.int .i64 kd, .string nm, .string tx, .int .i64 spc, .slice none 0 0, .bool dp, .int .i64 pr, .int .i64 cn, .slice ka kn kc, .int .i64 fr, .int .i64 tt]) (HB1.out.trans (hb2.mono HB1.out.size)) (Nat.le_refl w.heap.size)
  have HX : Hid (RNode ⟨kd, nm, tx, spc, dp, pr, cn, ks, fr, tt⟩ w (.returned (.agg #[.int .i64 kd, .string nm, .string tx, .int .i64 spc, .slice none 0 0, .bool dp, .int .i64 pr, .int .i64 cn, .slice ka kn kc, .int .i64 fr, .int .i64 tt])) (w2.setRow w.heap.size #[.int .i64 kd, .string nm, .string tx, .int .i64 spc, .slice none 0 0, .bool dp, .int .i64 pr, .int .i64 cn, .slice ka kn kc, .int .i64 fr, .int .i64 tt])) :=
    Lib.hid ⟨ka, kn, kc, rfl, hkk, fun g off e => Nat.le_of_lt (hkg2 g off e), hbf⟩
  clear hki hkg hb2 hr2 hkg2 hkk hbf cA cN
  dsimp only [NB.val, NB.row]
  go_wp2_with (refine wpList_store_row rfl 54 (.tmp 4) (.tmp 8) rfl w.heap.size #[.int .i64 kd, .string nm, .string tx, .int .i64 spc, .slice none 0 0, .bool dp, .int .i64 pr, .int .i64 cn, .slice ka kn kc, .int .i64 fr, .int .i64 tt] rfl rfl 54 _ Hr2.out nodeSize rfl (by simp [Value.oneCell']) ?_)
  refine bodyPost_ret (results_cell_row (P := Tryz.prog) (p := 4) rfl _ _ w.heap.size 54 #[.int .i64 kd, .string nm, .string tx, .int .i64 spc, .slice none 0 0, .bool dp, .int .i64 pr, .int .i64 cn, .slice ka kn kc, .int .i64 fr, .int .i64 tt] (0, 0) _ rfl (setRow_heap _ _ _ _ _ _ Hr2.out) Tryz.underlying54 rfl nodeSize) rfl ?_
  exact HX.out
/-- How many nodes are open, as the heap has it. -/
def openAt (w : World) (sp : Nat) : Nat := match w.cell? ⟨sp, 1, none⟩ with
  | some (.slice _ n _) => n
  | _ => 0
theorem openAt_of (H : BX n own w bp ap sp lp b) : openAt w sp = b.st.length := by
  obtain ⟨nv, sv, lv, mv, l, h⟩ := H.h
  obtain ⟨a, c, e, _⟩ := h.s.s.1.form
  unfold openAt
  rw [rowAt h.s.h 1 sv rfl, e]
structure PopAt (n : Nat) (own : Nat → Nat) (w : World) (bp ap sp lp : Nat) (b : BS) (at' : Nat) (wr : World) : Prop where
  ex : ∃ m ownk, min at' b.st.length ≤ m ∧ m ≤ b.st.length ∧ BX n ownk wr bp ap sp lp { b with st := b.st.take m } ∧ Fr cBu own ownk w wr
theorem apop_any (k : Nat) (H : BX n own w bp ap sp lp b) : Calls Tryz.prog 105 #[.pointer (some ⟨bp, 0, none⟩), .int .i64 (k : Int)] w (RX n own bp ap sp lp (.tuple #[]) { b with st := b.st.take k } w) := by
  have HS : Hid (PopAt n own w bp ap sp lp b k w) := Lib.hid ⟨b.st.length, own, Nat.min_le_right _ _, Nat.le_refl _, by rw [List.take_length]; exact H, Fr.refl _ H.L⟩
  clear H
  go_enter Tryz.func105, Tryz.ntmps105
  go_wp2_with fail
  go_loopw [] (fun wr => Hid (PopAt n own w bp ap sp lp b k wr)) (fun wr => openAt wr sp)
  case atStart => exact HS
  case round =>
  obtain ⟨m, ownk, h1, h2, HX, HF⟩ := hrel.out.ex
  have hlen : (b.st.take m).length = m := by rw [List.length_take]; omega
  have HFh := Lib.hid HF
  have HM : Hid (openAt wr sp = m) := Lib.hid ((openAt_of HX).trans hlen)
  have cS := Lib.hid (xStack HX)
  have cL := Lib.hid (xSLen HX)
  rw [show ({ b with st := b.st.take m } : BS).st.length = m from hlen] at cL
  have HXh := Lib.hid HX
  clear hrel HS HF HX
  by_cases hkm : m ≤ k
  · have htk : b.st.take m = b.st.take k := by
      rcases Nat.le_total k b.st.length with h3 | h3
      · rw [Nat.min_eq_left h3] at h1
        rw [show m = k by omega]
      · rw [Nat.min_eq_right h3] at h1
        rw [show m = b.st.length by omega, List.take_length, List.take_of_length_le h3]
    have HXk : Hid (BX n ownk wr bp ap sp lp { b with st := b.st.take k }) := Lib.hid (by rw [← htk]; exact HXh.out)
    have hlt : ¬ ((k : Int) < (m : Int)) := by omega
    clear htk hlen
    go_wp2_with fail
    refine cS.out.mono ?_
    rintro e w3 ⟨rfl, rfl⟩
    go_wp2_with fail
    refine cL.out.mono ?_
    rintro e w3 ⟨rfl, rfl⟩
    go_wp2_with fail
    go_end0
    exact ⟨rfl, ownk, HXk.out, HFh.out⟩
  · have hlt : ((k : Int) < (m : Int)) := by omega
    have cP := Lib.hid (xSPop HXh.out)
    have hpop : Hid (popS (b.st.take m) = b.st.take (m - 1)) := Lib.hid (by unfold popS; rw [List.dropLast_eq_take, List.take_take, hlen]; congr 1; omega)
    clear hlen
    go_wp2_with fail
    refine cS.out.mono ?_
    rintro e w3 ⟨rfl, rfl⟩
    go_wp2_with fail
    refine cL.out.mono ?_
    rintro e w3 ⟨rfl, rfl⟩
    go_wp2_with fail
    refine cS.out.mono ?_
    rintro e w3 ⟨rfl, rfl⟩
    go_wp2_with fail
    refine cP.out.mono ?_
    rintro e w4 ⟨rfl, own4, H4, F4⟩
    have H5 : BX n own4 w4 bp ap sp lp { b with st := b.st.take (m - 1) } := by rw [← hpop.out]; exact H4
    have hlen5 : (b.st.take (m - 1)).length = m - 1 := by rw [List.length_take]; omega
    have HM5 : Hid (openAt w4 sp = m - 1) := Lib.hid ((openAt_of H5).trans hlen5)
    have HX5 : Hid (PopAt n own w bp ap sp lp b k w4) := Lib.hid ⟨m - 1, own4, by omega, by omega, H5, HFh.out.trans F4⟩
    have hm0 : Hid (m - 1 < m) := Lib.hid (by omega)
    clear H4 F4 H5 hlen5 cP cL cS
    go_wp2_with fail
    go_roundw
    case rel => exact HX5
    case measure => rw [HM5.out, HM.out]; exact hm0.out
theorem fresh_eq (b : BS) (i : Int) : fresh b i = ({ b with ar := (add b.ar (freshN (node b.ar i))).1 }, (add b.ar (freshN (node b.ar i))).2) := rfl
set_option maxHeartbeats 1000000 in
set_option maxRecDepth 100000 in
theorem fresh_any (i : Int) (hn : n + 1 ≤ 90000) (H : BX n own w bp ap sp lp b) : Calls Tryz.prog 227 #[.pointer (some ⟨bp, 0, none⟩), .int .i64 i] w (RX (n + 1) own bp ap sp lp (.int .i64 (fresh b i).2) (fresh b i).1 w) := by
  have cN := Lib.hid (anode_any i H)
  have hnd := node_ok H.G.nd i
  have cAdd : Hid (∀ own V, BX n own V bp ap sp lp b → Calls Tryz.prog 59 #[.pointer (some ⟨ap, 0, none⟩), NB.val ⟨freshN (node b.ar i), .slice none 0 0⟩] V (RX (n + 1) own bp ap sp lp (.int .i64 (fresh b i).2) (fresh b i).1 V)) := Lib.hid (fun own V hV =>
    xAdd ⟨freshN (node b.ar i), .slice none 0 0⟩ rfl (by show (_ && _ && ((node b.ar i).name == templateS)) = false; rw [hnd.1.2, Bool.and_false]) rfl ⟨hnd.1, Nat.zero_le _⟩ hn hV)
  generalize fresh b i = R at *
  obtain ⟨bR, iR⟩ := R
  have cAg : Hid (∀ ka kn kc V, Calls Tryz.prog 54 #[NB.val ⟨node b.ar i, .slice ka kn kc⟩] V fun e w' => e = .returned (tokV (againT (node b.ar i))) ∧ Below V.heap.size V w') := Lib.hid (fun ka kn kc V => Again_any ⟨node b.ar i, .slice ka kn kc⟩ V)
  generalize node b.ar i = nd at *
  obtain ⟨kd, nm, tx, spc, dp, pr, cn, ks, fr, tt⟩ := nd
  have HH := Lib.hid H
  clear hnd H
  dsimp only at cAdd cAg ⊢
  go_enter Tryz.func227, Tryz.ntmps227
  go_wp2_with fail
  refine cN.out.mono ?_
  rintro e w1 ⟨ka, kn, kc, rfl, _, _, hb1⟩
  have cAg1 := Lib.hid (cAg.out ka kn kc w1)
  have HB1 := Lib.hid hb1
  clear cN cAg hb1
  go_wp2_with fail
  refine cAg1.out.mono ?_
  rintro e w2 ⟨rfl, hb2⟩
  obtain ⟨W3, hW3⟩ : ∃ W, W = w2.alloc (.cells #[.int .i64 2, .string nm, .string ⟨#[]⟩, .slice none 0 0, .bool dp, .bool false, .bool false, .int .i64 fr, .int .i64 tt] 24) := ⟨_, rfl⟩
  have hb3 : Below w2.heap.size w2 W3 := by rw [hW3]; exact (Below.refl _ _).alloc (Nat.le_refl _) _
  have hr : W3.heap[w2.heap.size]? = some (.cells #[.int .i64 2, .string nm, .string ⟨#[]⟩, .slice none 0 0, .bool dp, .bool false, .bool false, .int .i64 fr, .int .i64 tt] 24 (0, 0)) := by rw [hW3]; exact heap_new _ _
  have hb := below_call (below_call HB1.out hb2) hb3
  have hH := HH.out.below hb
  have hF := HH.out.fr hb
  have hob : own w2.heap.size = 0 := HH.out.L _ (Nat.le_trans HB1.out.size hb2.size)
  obtain ⟨bx, hbx⟩ : ∃ x, x = w2.heap.size := ⟨_, rfl⟩
  rw [← hbx] at hr hob
  have HW3 := Lib.hid hW3
  have Hbx := Lib.hid hbx
  have Hob := Lib.hid hob
  clear cAg1 HB1 hb2 hb3 hb HH hW3 hbx hob
  dsimp only [tokV, tokR, againT, tok0, em]
  go_upto_region 2 with fail
  rw [← HW3.out, ← Hbx.out]
  have hd := (Below.refl W3.heap.size W3).drew
  replace hF := hF.trans (hH.fr hd)
  replace hH := hH.below hd
  replace hr := (hd.block _ (row_lt hr)).trans hr
  clear hd
  refine wp_region_held_drew (S := fun U => U.heap[bx]? = some (.cells #[.int .i64 2, .string nm, .string ⟨#[]⟩, .slice none 0 0, .bool dp, .bool false, .bool false, .int .i64 fr, .int .i64 tt] 24 (0, 0))) (by kernel_rfl) (hr) (fun hHeld => ?_)
  generalize W3.drew = V at hHeld hH hr hF ⊢
  refine TkH 0 10 ?_; refine TkH 2 12 ?_
  (try simp only [Act.put]); (try simp only [List.setIfInBounds_toArray]); (try simp only [List.set_cons_zero, List.set_cons_succ])
  refine TkD 3 (some 13) (v := ?_) rfl rfl ?_ ?_; rotate_left
  · (intro W hSw; (try dsimp only at hSw); have c1' := rowAt hSw 1 (.string nm) rfl; go_simp; try with_reducible rfl)
  (try simp only [Act.put]); (try simp only [List.setIfInBounds_toArray]); (try simp only [List.set_cons_zero, List.set_cons_succ])
  refine TkH 4 14 ?_
  (try simp only [Act.put]); (try simp only [List.setIfInBounds_toArray]); (try simp only [List.set_cons_zero, List.set_cons_succ])
  refine TkD 5 (some 15) (v := ?_) rfl rfl ?_ ?_; rotate_left
  · (intro W hSw; (try dsimp only at hSw); have c3' := rowAt hSw 3 (.slice none 0 0) rfl; go_simp; try with_reducible rfl)
  (try simp only [Act.put]); (try simp only [List.setIfInBounds_toArray]); (try simp only [List.set_cons_zero, List.set_cons_succ])
  refine TkH 6 16 ?_
  (try simp only [Act.put]); (try simp only [List.setIfInBounds_toArray]); (try simp only [List.set_cons_zero, List.set_cons_succ])
  refine TkD 7 (some 17) (v := ?_) rfl rfl ?_ ?_; rotate_left
  · (intro W hSw; (try dsimp only at hSw); have c4' := rowAt hSw 4 (.bool dp) rfl; go_simp; try with_reducible rfl)
  (try simp only [Act.put]); (try simp only [List.setIfInBounds_toArray]); (try simp only [List.set_cons_zero, List.set_cons_succ])
  refine TkH 8 18 ?_
  (try simp only [Act.put]); (try simp only [List.setIfInBounds_toArray]); (try simp only [List.set_cons_zero, List.set_cons_succ])
  refine TkD 9 (some 19) (v := ?_) rfl rfl ?_ ?_; rotate_left
  · (intro W hSw; (try dsimp only at hSw); have c7' := rowAt hSw 7 (.int .i64 fr) rfl; go_simp; try with_reducible rfl)
  (try simp only [Act.put]); (try simp only [List.setIfInBounds_toArray]); (try simp only [List.set_cons_zero, List.set_cons_succ])
  refine TkH 10 20 ?_
  (try simp only [Act.put]); (try simp only [List.setIfInBounds_toArray]); (try simp only [List.set_cons_zero, List.set_cons_succ])
  refine TkD 11 (some 21) (v := ?_) rfl rfl ?_ ?_; rotate_left
  · (intro W hSw; (try dsimp only at hSw); have c8' := rowAt hSw 8 (.int .i64 tt) rfl; go_simp; try with_reducible rfl)
  (try simp only [Act.put]); (try simp only [List.setIfInBounds_toArray]); (try simp only [List.set_cons_zero, List.set_cons_succ])
  refine TkH 12 22 ?_
  (try simp only [Act.put]); (try simp only [List.setIfInBounds_toArray]); (try simp only [List.set_cons_zero, List.set_cons_succ])
  refine wpAnyH_ready (rs := [1]) (by kernel_rfl) (by simp) ?_
  refine AllReadyH.cons rfl (fun K hK => ?_) AllReadyH.nil
  go_simp
  go_at_call 17
  refine (xArena hH).mono ?_
  rintro e V9 ⟨rfl, rfl⟩
  refine hK.out _ _ hHeld (fun hSx => ?_)
  clear hSx hK K
  (try simp only [Act.put]); (try simp only [List.setIfInBounds_toArray]); (try simp only [List.set_cons_zero, List.set_cons_succ])
  refine wpAnyH_ready (rs := [13]) (by kernel_rfl) (by simp) ?_
  refine AllReadyH.cons rfl (fun K hK => ?_) AllReadyH.nil
  go_simp
  go_at_call 59
  refine (cAdd.out own V hH).mono ?_
  rintro e V9 ⟨rfl, own9, H9, F9⟩
  replace hF := hF.trans F9
  have hS9 := F9.keep hr (by rw [Hob.out]; rfl)
  clear hHeld hH F9 hr
  refine hK.out _ _ hS9 (fun hHeld => ?_)
  clear hK K hS9
  clear V
  obtain ⟨V, rfl⟩ : ∃ U, U = V9 := ⟨_, rfl⟩
  (try simp only [Act.put]); (try simp only [List.setIfInBounds_toArray]); (try simp only [List.set_cons_zero, List.set_cons_succ])
  focus (refine TkH 14 4 ?_)
  (try simp only [Act.put]); (try simp only [List.setIfInBounds_toArray]); (try simp only [List.set_cons_zero, List.set_cons_succ])
  refine wpAnyH_done (by kernel_rfl) ?_ _
  have HF := Lib.hid hF
  have HX := Lib.hid H9
  clear hF H9 hHeld
  go_wp2_with fail
  go_ret
  exact ⟨rfl, own9, HX.out, HF.out⟩

end
end Go.Proofs.YtnbdalohlldnbaaGreatDoor
