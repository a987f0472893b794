/-
  More acts of stack, formats and arena on a builder in order; what an act leaves but for one block.
  Package adopt: inward.
  Package adopt: renew.
  Package adopt: renew, walked.
-/
import Derived.Test.YtnbdalohlldnbaaGreatDoorM11
namespace Go.Proofs.YtnbdalohlldnbaaGreatDoor
open Go.RowKit Bd
attribute [local go_sem ↓] Go.wp_at_zero Go.wp_at_succ
theorem room_v {own : Nat → Nat} {w : World} {p q n : Nat} {v : Value} {e : TypeId} {size : Nat} {xs : List Value} (hs : SlO own q w e size v n xs) (hc : w.cell? ⟨p, 1, none⟩ = some v) (h : RoomW w p) : RoomV v n := by
  obtain ⟨a, c, e1, _⟩ := hs.1.form
  obtain ⟨a2, n2, c2, e2, hlt⟩ := h
  rw [hc, e1] at e2
  injection e2 with e2
  injection e2 with e3 e4 e5
  exact ⟨a, c, e1, by omega⟩
section
variable {n : Nat} {own : Nat → Nat} {w w' : World} {bp ap sp lp : Nat} {b : BS}
theorem xSRemove (i : Int) (H : BX n own w bp ap sp lp b) : Calls Tryz.prog 148 #[.pointer (some ⟨sp, 0, none⟩), .int .i64 i] w (fun e w' => RX n own bp ap sp lp (.int .i64 (removeS b.st i).2) { b with st := (removeS b.st i).1 } w e w' ∧ (0 ≤ indexS b.st i → RoomW w' sp)) := by
  obtain ⟨_, _, _, _, _, h⟩ := H.h
  exact (SRemove_any i h.s H.L (by have := H.G.st.1; omega)).mono fun _ _ hr => ⟨RX.of_stk H h (H.G.st.remove i) hr.1, hr.2⟩
theorem xSInsert (k i : Int) (hrm : 0 ≤ k → k < b.st.length → RoomW w sp) (H : BX n own w bp ap sp lp b) : Calls Tryz.prog 167 #[.pointer (some ⟨sp, 0, none⟩), .int .i64 k, .int .i64 i] w (RX n own bp ap sp lp (.int .i64 (insertS b.ar b.st k i).2) { b with st := (insertS b.ar b.st k i).1 } w) := by
  obtain ⟨_, sv, _, _, l, h⟩ := H.h
  have := InsertG_any k i h.s h.a H.L (H.good h).kl (by have := H.G.st.1; omega) (fun h1 h2 => room_v h.s.s (rowAt h.s.h 1 _ rfl) (hrm h1 h2))
  rw [← h.e] at this
  exact this.mono fun _ _ hr => RX.of_stk H h (StOk.insert H.G.nd H.G.st k i) hr
theorem xSReplace (k i : Int) (H : BX n own w bp ap sp lp b) : Calls Tryz.prog 228 #[.pointer (some ⟨sp, 0, none⟩), .int .i64 k, .int .i64 i] w (RX n own bp ap sp lp (.int .i64 (replaceS b.ar b.st k i).2) { b with st := (replaceS b.ar b.st k i).1 } w) := by
  obtain ⟨_, _, _, _, l, h⟩ := H.h
  have := SReplace_any k i h.s h.a H.L (H.good h).kl
  rw [← h.e] at this
  exact this.mono fun _ _ hr => RX.of_stk H h (StOk.replace H.G.nd H.G.st k i) hr
theorem xFRemove2 (i : Int) (H : BX n own w bp ap sp lp b) : Calls Tryz.prog 147 #[.pointer (some ⟨lp, 0, none⟩), .int .i64 i] w (fun e w' => RX n own bp ap sp lp (.int .i64 (removeF b.fo i).2) { b with fo := (removeF b.fo i).1 } w e w' ∧ (0 ≤ indexF b.fo i → RoomW w' lp)) := by
  obtain ⟨_, _, _, _, _, h⟩ := H.h
  exact (FRemove2_any i h.f H.L (by have := H.G.fo; omega)).mono fun _ _ hr => ⟨RX.of_fo H h (fremove_ok H.G.fo i) hr.1, hr.2⟩
theorem xFInsert (k i : Int) (hrm : 0 ≤ k → k < b.fo.length → RoomW w lp) (H : BX n own w bp ap sp lp b) : Calls Tryz.prog 230 #[.pointer (some ⟨lp, 0, none⟩), .int .i64 k, .int .i64 i] w (RX n own bp ap sp lp (.int .i64 (insertF b.ar b.fo k i).2) { b with fo := (insertF b.ar b.fo k i).1 } w) := by
  obtain ⟨_, _, _, _, l, h⟩ := H.h
  have := FInsert_any k i h.f h.a H.L (H.good h).kl (by have := H.G.fo; omega) (fun h1 h2 => room_v h.f.s (rowAt h.f.h 1 _ rfl) (hrm h1 h2))
  rw [← h.e] at this
  exact this.mono fun _ _ hr => RX.of_fo H h (finsert_ok H.G.fo k i) hr
theorem xFPush (i : Int) (H : BX n own w bp ap sp lp b) : Calls Tryz.prog 149 #[.pointer (some ⟨lp, 0, none⟩), .int .i64 i] w (RX n own bp ap sp lp (.int .i64 (pushF b.ar b.fo i).2) { b with fo := (pushF b.ar b.fo i).1 } w) := by
  obtain ⟨_, _, _, _, l, h⟩ := H.h
  have := FPush_any i h.f h.a H.L (H.good h).kl (by have := H.G.fo; omega)
  rw [← h.e] at this
  exact this.mono fun _ _ hr => RX.of_fo H h (push_ok H.G.fo i) hr
theorem xMove (f t : Int) (H : BX n own w bp ap sp lp b) : Calls Tryz.prog 229 #[.pointer (some ⟨ap, 0, none⟩), .int .i64 f, .int .i64 t] w (RX n own bp ap sp lp (.int .i64 (Bd.move b.ar f t).2) { b with ar := (Bd.move b.ar f t).1 } w) := by
  obtain ⟨_, _, _, _, l, h⟩ := H.h
  have hl := H.G.len
  have hN := H.N
  have := Move_any f t h.a H.L (by rw [← h.e]; exact H.G.ar) (by rw [h.e, List.length_map] at hl; omega)
  rw [← h.e] at this
  exact this.mono fun _ _ hr => RX.of_ar H h (H.G.move f t) H.N hr
end
/-- What lies between two worlds where one block more may have changed. -/
structure FrX (rp : Nat) (own own' : Nat → Nat) (w w' : World) : Prop where
  os : w'.os = w.os
  tape : w'.tape = w.tape
  output : w'.output = w.output
  size : w.heap.size ≤ w'.heap.size
  old : ∀ k, k < w.heap.size → own' k = own k
  lbl : Lbl own' w'
  block : ∀ k, k < w.heap.size → k ≠ rp → own k = 0 → w'.heap[k]? = w.heap[k]?
theorem FrX.of_fr {rp : Nat} {own own' : Nat → Nat} {w w' : World} (h : Fr cBu own own' w w') : FrX rp own own' w w' := ⟨h.os, h.tape, h.output, h.size, h.old, h.lbl, fun k hk _ ho => h.block k hk (by rw [ho]; rfl)⟩
theorem FrX.trans {rp : Nat} {o1 o2 o3 : Nat → Nat} {w1 w2 w3 : World} (h : FrX rp o1 o2 w1 w2) (k : FrX rp o2 o3 w2 w3) : FrX rp o1 o3 w1 w3 :=
  ⟨k.os.trans h.os, k.tape.trans h.tape, k.output.trans h.output, Nat.le_trans h.size k.size, fun i hi => (k.old i (Nat.lt_of_lt_of_le hi h.size)).trans (h.old i hi), k.lbl,
    fun i hi hne ho => (k.block i (Nat.lt_of_lt_of_le hi h.size) hne (by rw [h.old i hi]; exact ho)).trans (h.block i hi hne ho)⟩
theorem FrX.setCell {rp : Nat} {own : Nat → Nat} {w : World} (hL : Lbl own w) (k : Nat) (v : Value) : FrX rp own own w (w.setCell ⟨rp, k, none⟩ v) :=
  ⟨rfl, rfl, rfl, by simp [World.setCell], fun _ _ => rfl, fun j hj => hL j (by simpa [World.setCell] using hj), fun j _ hne _ => Below.heap_setCell _ _ _ _ (fun e => hne e)⟩
/-- Of a block that was not there yet nothing is owed. -/
theorem FrX.fr {rp : Nat} {own0 own own' : Nat → Nat} {w0 w w' : World} (h0 : Fr cBu own0 own w0 w) (h : FrX rp own own' w w') (hr : w0.heap.size ≤ rp) : Fr cBu own0 own' w0 w' :=
  ⟨h.os.trans h0.os, h.tape.trans h0.tape, h.output.trans h0.output, Nat.le_trans h0.size h.size, fun k hk => (h.old k (Nat.lt_of_lt_of_le hk h0.size)).trans (h0.old k hk), h.lbl, fun k hk hc => by
    have h1 : own0 k = 0 := by simpa [cBu] using hc
    exact (h.block k (Nat.lt_of_lt_of_le hk h0.size) (by omega) ((h0.old k hk).trans h1)).trans (h0.block k hk hc)⟩
/-- The cells of what adopt runs on. -/
abbrev rrow (bp : Nat) (fm bl ab mk : Int) : Array Value := #[.pointer (some ⟨bp, 0, none⟩), .int .i64 fm, .int .i64 bl, .int .i64 ab, .int .i64 mk]
theorem BX.setR {n : Nat} {own : Nat → Nat} {w : World} {bp ap sp lp rp : Nat} {b : BS} {fm bl ab mk : Int} (H : BX n own w bp ap sp lp b) (hr : w.heap[rp]? = some (.cells (rrow bp fm bl ab mk) 176 (0, 0))) (ho : own rp = 0) (mk2 : Int) :
    BX n own (w.setCell ⟨rp, 4, none⟩ (.int .i64 mk2)) bp ap sp lp b ∧ (w.setCell ⟨rp, 4, none⟩ (.int .i64 mk2)).heap[rp]? = some (.cells (rrow bp fm bl ab mk2) 176 (0, 0)) ∧ FrX rp own own w (w.setCell ⟨rp, 4, none⟩ (.int .i64 mk2)) := by
  have hf : Fr (fun x => x == 0) own own w (w.setCell ⟨rp, 4, none⟩ (.int .i64 mk2)) := Fr.setCell H.L (p := ⟨rp, 4, none⟩) _ (by simp [ho])
  obtain ⟨nv, sv, lv, mv, l, h⟩ := H.h
  have hk : ∀ k j v, w.cell? ⟨k, j, none⟩ = some v → k ≠ rp → (w.setCell ⟨rp, 4, none⟩ (.int .i64 mk2)).cell? ⟨k, j, none⟩ = some v := fun k j v hv hne =>
    (World.cell?_of_block (w := w) (Below.heap_setCell _ _ _ _ (fun e => hne e))).trans hv
  have h0 := rowAt hr 0 (.pointer (some ⟨bp, 0, none⟩)) rfl
  obtain ⟨m, hm⟩ := H.E.k.ml
  have hs := H.E.k.sc
  refine ⟨⟨⟨nv, sv, lv, mv, l, h.keep hf (fun x hx => by simpa using hx)⟩, hf.lbl, H.G, ⟨⟨⟨m, hk _ _ _ hm (fun e => ?_)⟩, fun j hj => hk _ _ _ (hs j hj) (fun e => ?_)⟩, H.E.o1, H.E.o2⟩, H.N⟩, row_setC hr 4 _, FrX.setCell H.L 4 _⟩
  · rw [e, h0] at hm; cases hm
  · have h1 := hs 0 (by omega)
    rw [e, h0] at h1; cases h1
end Go.Proofs.YtnbdalohlldnbaaGreatDoor

namespace Go.Proofs.YtnbdalohlldnbaaGreatDoor
open Go.RowKit Bd
attribute [local go_sem ↓] Go.wp_at_zero Go.wp_at_succ
theorem lastIdx_at {α : Type} (p : α → Bool) (l : List α) (k : Nat) (x : α) (h : l[k]? = some x) (hp : p x = true) : (k : Int) ≤ lastIdx p l := by
  obtain ⟨hk, he⟩ := List.getElem?_eq_some_iff.1 h
  have hlen : l.reverse.length = l.length := List.length_reverse
  unfold lastIdx
  split
  · rename_i m hm
    obtain ⟨hml, h1, h2⟩ := List.findIdx?_eq_some_iff_getElem.1 hm
    rw [hlen] at hml
    by_cases hlt : (k : Int) ≤ (l.length : Int) - 1 - (m : Int)
    · exact hlt
    · exfalso
      have h3 := h2 (l.length - 1 - k) (by omega)
      rw [List.getElem_reverse] at h3
      have e : l.length - 1 - (l.length - 1 - k) = k := by omega
      simp only [e, he] at h3
      exact h3 hp
  · rename_i hm
    rw [List.findIdx?_eq_none_iff] at hm
    have h3 := hm x (List.mem_reverse.2 (List.mem_of_getElem? h))
    rw [h3] at hp; cases hp
/-- The element is open below a place. -/
def Und (st : St) (fm : Int) (k : Int) : Prop := ∃ (j : Nat) (o : OpenL), (j : Int) < k ∧ st[j]? = some o ∧ o.node = fm
theorem Und.ne {st : St} {fm k : Int} (h : Und st fm k) (hx : atS st (k - 1) ≠ fm) : Und st fm (k - 1) := by
  obtain ⟨j, o, h1, h2, h3⟩ := h
  refine ⟨j, o, ?_, h2, h3⟩
  by_cases e : (j : Int) = k - 1
  · rw [← e, atS_of h2] at hx
    exact absurd h3 hx
  · omega
theorem Und.lt {st : St} {fm k : Int} (h : Und st fm k) : 0 < k := by obtain ⟨j, o, h1, _⟩ := h; omega
theorem Und.remove {st : St} {fm k : Int} (h : Und st fm k) (hk : k < st.length) : Und (removeS st (atS st k)).1 fm k ∧ k ≤ ((removeS st (atS st k)).1.length : Int) := by
  obtain ⟨j, o, h1, h2, h3⟩ := h
  obtain ⟨kk, rfl⟩ : ∃ kk : Nat, k = (kk : Int) := ⟨k.toNat, by omega⟩
  obtain ⟨x, hx⟩ : ∃ x, st[kk]? = some x := ⟨_, List.getElem?_eq_getElem (by omega)⟩
  have ha := atS_of hx
  have hi : (kk : Int) ≤ indexS st (atS st (kk : Int)) := by
    rw [ha]
    exact lastIdx_at _ st kk x hx (by simp)
  have hlt : indexS st (atS st (kk : Int)) < st.length := lastIdx_lt _ _
  unfold removeS
  rw [if_neg (by omega)]
  refine ⟨⟨j, o, h1, ?_, h3⟩, ?_⟩
  · rw [List.getElem?_eraseIdx, if_pos (by omega)]; exact h2
  · rw [List.length_eraseIdx, if_pos (by omega)]; omega
theorem Und.replace {st : St} {a : Ar} {fm k y : Int} (h : Und st fm k) : Und (replaceS a st k y).1 fm k ∧ (replaceS a st k y).1.length = st.length := by
  obtain ⟨j, o, h1, h2, h3⟩ := h
  unfold replaceS
  split
  · exact ⟨⟨j, o, h1, h2, h3⟩, rfl⟩
  · split
    · exact ⟨⟨j, o, h1, h2, h3⟩, rfl⟩
    · refine ⟨⟨j, o, h1, ?_, h3⟩, List.length_set⟩
      rw [List.getElem?_set_ne (by omega)]; exact h2
/-- Where inward's loop stands. -/
structure InwAt (n : Nat) (own : Nat → Nat) (w : World) (bp ap sp lp rp : Nat) (fm bl ab : Int) (R : BS × Int × Int) (many k last : Int) (wr : World) : Prop where
  ex : ∃ fl nk bk mk ownk, inward bl fm fl bk many k last mk = R ∧ k ≤ (fl : Int) ∧ Und bk.st fm k ∧ k ≤ (bk.st.length : Int) ∧ nk + (4 - many).toNat ≤ n + 3 ∧ BX nk ownk wr bp ap sp lp bk ∧
    wr.heap[rp]? = some (.cells (rrow bp fm bl ab mk) 176 (0, 0)) ∧ ownk rp = 0 ∧ FrX rp own ownk w wr ∧ -many ≤ mk ∧ mk ≤ 100
theorem inward_step (bl fm : Int) (f : Nat) (b : BS) (many k last mk : Int) : inward bl fm (f + 1) b many k last mk =
    if atS b.st (k - 1) == fm then (b, last, mk)
    else if (decide (3 < many) && decide (0 ≤ indexF b.fo (atS b.st (k - 1)))) = true then inward bl fm f { b with fo := (removeF b.fo (atS b.st (k - 1))).1, st := (removeS b.st (atS b.st (k - 1))).1 } (many + 1) (k - 1) last (if indexF b.fo (atS b.st (k - 1)) < mk then mk - 1 else mk)
    else if indexF b.fo (atS b.st (k - 1)) < 0 then inward bl fm f { b with st := (removeS b.st (atS b.st (k - 1))).1 } (many + 1) (k - 1) last mk
    else inward bl fm f { (fresh b (atS b.st (k - 1))).1 with
        fo := (replaceF (fresh b (atS b.st (k - 1))).1.ar (fresh b (atS b.st (k - 1))).1.fo (indexF b.fo (atS b.st (k - 1))) (fresh b (atS b.st (k - 1))).2).1
        st := (replaceS (fresh b (atS b.st (k - 1))).1.ar (fresh b (atS b.st (k - 1))).1.st (k - 1) (fresh b (atS b.st (k - 1))).2).1
        ar := (append (fresh b (atS b.st (k - 1))).1.ar (fresh b (atS b.st (k - 1))).2 last).1 } (many + 1) (k - 1) (fresh b (atS b.st (k - 1))).2 (if last == bl then indexF b.fo (atS b.st (k - 1)) + 1 else mk) := by
  conv => lhs; unfold inward
  dsimp only
  split
  · rfl
  · cases hd : (decide (3 < many) && decide (0 ≤ indexF b.fo (atS b.st (k - 1)))) with
    | true =>
      simp only [if_true, Bool.true_and]
      by_cases h : indexF b.fo (atS b.st (k - 1)) < mk <;> simp [h]
    | false =>
      simp only [Bool.false_eq_true, if_false, Bool.false_and]
/-- What inward answers. -/
def RInw (n : Nat) (own : Nat → Nat) (bp ap sp lp rp : Nat) (fm bl ab : Int) (R : BS × Int × Int) (w : World) (e : Ending) (w' : World) : Prop :=
  e = .returned (.int .i64 R.2.1) ∧ ∃ own', BX (n + 3) own' w' bp ap sp lp R.1 ∧ w'.heap[rp]? = some (.cells (rrow bp fm bl ab R.2.2) 176 (0, 0)) ∧ own' rp = 0 ∧ FrX rp own own' w w'
theorem row_cells {w : World} {rp bp : Nat} {fm bl ab mk : Int} (h : w.heap[rp]? = some (.cells (rrow bp fm bl ab mk) 176 (0, 0))) : w.cell? ⟨rp, 0, none⟩ = some (.pointer (some ⟨bp, 0, none⟩)) ∧ w.cell? ⟨rp, 1, none⟩ = some (.int .i64 fm) ∧ w.cell? ⟨rp, 2, none⟩ = some (.int .i64 bl) ∧ w.cell? ⟨rp, 3, none⟩ = some (.int .i64 ab) ∧ w.cell? ⟨rp, 4, none⟩ = some (.int .i64 mk) :=
  ⟨rowAt h 0 _ rfl, rowAt h 1 _ rfl, rowAt h 2 _ rfl, rowAt h 3 _ rfl, rowAt h 4 _ rfl⟩
set_option maxHeartbeats 2000000 in
set_option maxRecDepth 100000 in
theorem inward_any {n : Nat} {own : Nat → Nat} {w : World} {bp ap sp lp rp : Nat} {b : BS} {fm bl ab mk : Int} (hr : w.heap[rp]? = some (.cells (rrow bp fm bl ab mk) 176 (0, 0))) (ho : own rp = 0) (H : BX n own w bp ap sp lp b) (hn : n + 3 ≤ 90000)
    (hU : Und b.st fm (indexS b.st bl)) (hmk : -1 ≤ mk ∧ mk ≤ 100) : Calls Tryz.prog 211 #[.pointer (some ⟨rp, 0, none⟩)] w (RInw n own bp ap sp lp rp fm bl ab (inward bl fm 600 b 1 (indexS b.st bl) bl mk) w) := by
  obtain ⟨R, hR⟩ : ∃ R, inward bl fm 600 b 1 (indexS b.st bl) bl mk = R := ⟨_, rfl⟩
  rw [hR]
  have hlt : indexS b.st bl < b.st.length := lastIdx_lt _ _
  have hst := H.G.st.1
  have h600 : indexS b.st bl ≤ 599 := by omega
  have cI : Hid (∀ V, Below w.heap.size w V → Calls Tryz.prog 115 #[.pointer (some ⟨sp, 0, none⟩), .int .i64 bl] V (RI (indexS b.st bl) V)) := Lib.hid (fun V hV => xSIndex bl (H.below hV))
  have HA0 : Hid (∀ V, Below w.heap.size w V → InwAt n own w bp ap sp lp rp fm bl ab R 1 (indexS b.st bl) bl V) := Lib.hid (fun V hV =>
    ⟨600, n, b, mk, own, hR, by omega, hU, by omega, by omega, H.below hV, (hV.block _ (row_lt hr)).trans hr, ho, FrX.of_fr (H.fr hV), by omega, by omega⟩)
  have HH := Lib.hid H
  obtain ⟨c0, _, c2, _, _⟩ := row_cells hr
  have hk0 : 0 < indexS b.st bl := hU.lt
  generalize indexS b.st bl = k0 at *
  have HK0 : Hid (k0 ≤ 599 ∧ 0 ≤ k0) := Lib.hid (by omega)
  clear hR hlt hst h600 H hr ho hU hmk hk0
  go_enter Tryz.func211, Tryz.ntmps211
  go_upto_region 1 with fail
  go_cut [3, 4] (fun s t wx => s = .pointer (some ⟨sp, 0, none⟩) ∧ t = .pointer (some ⟨lp, 0, none⟩) ∧ Below w.heap.size w wx)
  case first =>
    refine wp_region_held_drew (S := fun U => Below w.heap.size w U) (by kernel_rfl) ((Below.refl _ w).drew) (fun hHeld => ?_)
    generalize w.drew = V at hHeld  ⊢
    refine TkH 0 11 ?_; refine TkH 1 12 ?_; refine TkH 2 13 ?_
    (try simp only [Act.put]); (try simp only [List.setIfInBounds_toArray]); (try simp only [List.set_cons_zero, List.set_cons_succ])
    refine TkD 3 (some 14) (v := ?_) rfl rfl ?_ ?_; rotate_left
    · (intro W hSw; (try dsimp only at hSw); have c0' := (hSw.cell (World.block_lt_of_cell? _ _ c0)).trans c0; go_simp; try with_reducible rfl)
    (try simp only [Act.put]); (try simp only [List.setIfInBounds_toArray]); (try simp only [List.set_cons_zero, List.set_cons_succ])
    refine TkH 5 16 ?_; refine TkH 6 17 ?_; refine TkH 7 18 ?_
    (try simp only [Act.put]); (try simp only [List.setIfInBounds_toArray]); (try simp only [List.set_cons_zero, List.set_cons_succ])
    refine TkD 8 (some 19) (v := ?_) rfl rfl ?_ ?_; rotate_left
    · (intro W hSw; (try dsimp only at hSw); have c0' := (hSw.cell (World.block_lt_of_cell? _ _ c0)).trans c0; go_simp; try with_reducible rfl)
    (try simp only [Act.put]); (try simp only [List.setIfInBounds_toArray]); (try simp only [List.set_cons_zero, List.set_cons_succ])
    refine wpAnyH_ready (rs := [4]) (by kernel_rfl) (by simp) ?_
    refine AllReadyH.cons rfl (fun K hK => ?_) AllReadyH.nil
    go_simp
    go_at_call 19
    refine (xStack (HH.out.below hHeld)).mono ?_
    rintro e V9 ⟨rfl, rfl⟩
    refine hK.out _ _ hHeld (fun hSx => ?_)
    clear hSx hK K
    (try simp only [Act.put]); (try simp only [List.setIfInBounds_toArray]); (try simp only [List.set_cons_zero, List.set_cons_succ])
    refine wpAnyH_ready (rs := [9]) (by kernel_rfl) (by simp) ?_
    refine AllReadyH.cons rfl (fun K hK => ?_) AllReadyH.nil
    go_simp
    go_at_call 132
    refine (xFormats (HH.out.below hHeld)).mono ?_
    rintro e V9 ⟨rfl, rfl⟩
    refine hK.out _ _ hHeld (fun hSx => ?_)
    clear hSx hK K
    (try simp only [Act.put]); (try simp only [List.setIfInBounds_toArray]); (try simp only [List.set_cons_zero, List.set_cons_succ])
    focus (refine TkH 10 3 ?_; refine TkH 11 4 ?_)
    (try simp only [Act.put]); (try simp only [List.setIfInBounds_toArray]); (try simp only [List.set_cons_zero, List.set_cons_succ])
    refine wpAnyH_done (by kernel_rfl) ?_ _
    go_wp2_with fail
    go_meet
    exact ⟨rfl, rfl, hHeld⟩

  case rest =>
  obtain ⟨rfl, rfl, hbc⟩ := hcut
  have c2' := (hbc.cell (World.block_lt_of_cell? _ _ c2)).trans c2
  have cI1 := Lib.hid (cI.out _ hbc)
  have HS := Lib.hid (HA0.out _ hbc)
  clear c0 c2 cI HA0 hbc
  go_wp2_with fail
  refine cI1.out.mono ?_
  rintro e w1 ⟨rfl, rfl⟩
  go_wp2_with fail
  clear cI1 c2'
  go_loopw [5, 6, 7] (fun y5 y6 y7 wr => ∃ last k many : Int, y5 = .int .i64 last ∧ y6 = .int .i64 k ∧ y7 = .int .i64 many ∧ (1 ≤ many ∧ many + k ≤ 600) ∧ 0 ≤ k ∧ Hid (InwAt n own w bp ap sp lp rp fm bl ab R many k last wr)) (fun _ y6 _ _ => (intOf y6).toNat)
  case atStart => exact ⟨bl, k0, 1, rfl, rfl, rfl, by have := HK0.out; omega, HK0.out.2, HS⟩
  case round =>
  obtain ⟨last, k, many, rfl, rfl, rfl, hmk, hkp, hat⟩ := hrel
  clear HS HK0
  obtain ⟨fl, nk, bk, mk, ownk, hin, hkf, hU, hkl, hnk, HX, hr, ho, hF, hm1, hm2⟩ := hat.out.ex
  have hk0 : 0 < k := hU.lt
  obtain ⟨f2, rfl⟩ : ∃ f2, fl = f2 + 1 := ⟨fl - 1, by omega⟩
  rw [inward_step] at hin
  obtain ⟨c0, c1, c2, _, c4⟩ := row_cells hr
  have cA := Lib.hid (xSAt (k - 1) HX)
  have hne := hU.ne
  have hi1 : -1 ≤ indexF bk.fo (atS bk.st (k - 1)) ∧ indexF bk.fo (atS bk.st (k - 1)) < 64 := by
    have := HX.G.fo
    unfold indexF
    split
    · omega
    · have := lastF_lt bk.fo 0 (fun x => x == atS bk.st (k - 1)); omega
  have hrm : Und bk.st fm (k - 1) → Und (removeS bk.st (atS bk.st (k - 1))).1 fm (k - 1) ∧ k - 1 ≤ ((removeS bk.st (atS bk.st (k - 1))).1.length : Int) := fun h => h.remove (by omega)
  generalize hx : atS bk.st (k - 1) = x at *
  generalize hat0 : indexF bk.fo x = at0 at *
  have j1 : (1 : Int) ≤ many := hmk.1
  have j2 : many ≤ 600 := by omega
  have j3 : k ≤ 600 := by omega
  have j4 : -1 ≤ at0 := hi1.1
  have j5 : at0 ≤ 64 := by omega
  have j6 : -1000 ≤ mk := by omega
  have j8 : mk ≤ 100 := hm2
  have HBD : Hid ((1 ≤ many + 1 ∧ many + 1 + (k - 1) ≤ 600) ∧ 0 ≤ k - 1) := Lib.hid (by omega)
  have HFL : Hid (k - 1 ≤ (f2 : Int)) := Lib.hid (by omega)
  have HKL := Lib.hid hkl
  have HNK := Lib.hid hnk
  have HM := Lib.hid (⟨hm1, hm2⟩ : _ ∧ _)
  have HNE := Lib.hid hne
  have HRM := Lib.hid hrm
  have HXX := Lib.hid hx
  have HAT := Lib.hid hat0
  have HFr := Lib.hid hF
  have HO := Lib.hid ho
  have HRW := Lib.hid hr
  have HXh := Lib.hid HX
  obtain ⟨qf, hqf⟩ : ∃ q, (x == fm) = q := ⟨_, rfl⟩
  rw [hqf] at hin
  have HIN := Lib.hid hin
  have HQF := Lib.hid hqf
  clear hat hin hkf hU hkl hnk hr ho hF hm1 hm2 hne hi1 hrm hx hat0 HX hmk
  cases qf with
  | true =>
    have HQ : Hid (R = (bk, last, mk)) := Lib.hid HIN.out.symm
    have HX2 := Lib.hid (HXh.out.mono (m := n + 3) (by have := HNK.out; omega) hn)
    clear HIN
    have hqf := HQF.out
    go_wp2_with fail
    refine cA.out.mono ?_
    rintro e w3 ⟨rfl, rfl⟩
    go_wp2_with fail
    go_ret
    rw [HQ.out]
    exact ⟨rfl, ownk, HX2.out, HRW.out, HO.out, HFr.out⟩
  | false =>
    have hqf := HQF.out
    have hx2 : x ≠ fm := fun e => by rw [e] at hqf; simp at hqf
    have HUN := Lib.hid (HNE.out hx2)
    have hin := HIN.out
    rw [if_neg (by decide)] at hin
    have cI := Lib.hid (xFIndex x HXh.out)
    rw [HAT.out] at cI
    clear HIN hx2
    obtain ⟨qd, hqd⟩ : ∃ q, (decide (3 < many) && decide (0 ≤ at0)) = q := ⟨_, rfl⟩
    rw [hqd] at hin
    cases qd with
    | true =>
      rw [if_pos rfl] at hin
      rw [Bool.and_eq_true, decide_eq_true_eq, decide_eq_true_eq] at hqd
      have h3 := hqd.1
      have h4 := hqd.2
      have HSTQ := Lib.hid hin
      clear hqd hin
      go_wp2_with fail
      refine cA.out.mono ?_
      rintro e w3 ⟨rfl, rfl⟩
      go_wp2_with fail
      refine cI.out.mono ?_
      rintro e w3 ⟨rfl, hb3⟩
      have H3 := HXh.out.below hb3
      have hr3 := (hb3.block _ (row_lt HRW.out)).trans HRW.out
      have hF3 := HFr.out.trans (FrX.of_fr (HXh.out.fr hb3))
      clear cI cA hb3 c0 c1 c2 c4 HXh HRW HFr
      have cR := Lib.hid (xFRemove x H3)
      have HR3 := Lib.hid (⟨hr3, hF3⟩ : _ ∧ _)
      clear H3 hr3 hF3
      go_wp2_with fail
      refine cR.out.mono ?_
      rintro e w4 ⟨rfl, own4, H4, F4⟩
      have hr4 := F4.keep HR3.out.1 (by rw [HO.out]; rfl)
      have ho4 := (F4.old rp (row_lt HR3.out.1)).trans HO.out
      have hF4 := HR3.out.2.trans (FrX.of_fr F4)
      obtain ⟨c0, c1, c2, _, c4⟩ := row_cells hr4
      have z4 := frozen_row hr4 4
      clear cR F4 HR3
      by_cases h5 : at0 < mk
      · have HSTP : Hid (inward bl fm f2 { bk with fo := (removeF bk.fo x).1, st := (removeS bk.st x).1 } (many + 1) (k - 1) last (mk - 1) = R) := Lib.hid (by have := HSTQ.out; rw [if_pos h5] at this; exact this)
        obtain ⟨H5, hr5, hF5⟩ := BX.setR H4 hr4 ho4 (mk - 1)
        have HP := Lib.hid (⟨H5, hr5, ho4, hF4.trans hF5⟩ : _ ∧ _ ∧ _ ∧ _)
        clear HSTQ H4 H5 hr5 hF5 hr4 ho4 hF4
        go_wp2_with fail
        refine (xSRemove x HP.out.1).mono ?_
        rintro e w9 ⟨⟨rfl, own9, H9, F9⟩, _⟩
        have hr9 := F9.keep HP.out.2.1 (by rw [HP.out.2.2.1]; rfl)
        have ho9 := (F9.old rp (row_lt HP.out.2.1)).trans HP.out.2.2.1
        have hF9 := HP.out.2.2.2.trans (FrX.of_fr F9)
        have hur := HRM.out HUN.out
        have HX9 : Hid (InwAt n own w bp ap sp lp rp fm bl ab R (many + 1) (k - 1) last w9) := Lib.hid ⟨f2, nk, _, _, own9, HSTP.out, HFL.out, hur.1, hur.2, by have := HNK.out; omega, H9, hr9, ho9, hF9, by have := HM.out.1; omega, by have := HM.out.2; omega⟩
        clear H9 F9 hr9 ho9 hF9 hur HP
        go_wp2_with fail
        go_roundw
        case rel => exact ⟨last, k - 1, many + 1, rfl, by go_num, by go_num, HBD.out.1, HBD.out.2, HX9⟩
        case measure => have := HBD.out.2; simp [intOf]; omega
      · have HSTP : Hid (inward bl fm f2 { bk with fo := (removeF bk.fo x).1, st := (removeS bk.st x).1 } (many + 1) (k - 1) last mk = R) := Lib.hid (by have := HSTQ.out; rw [if_neg h5] at this; exact this)
        have HP := Lib.hid (⟨H4, hr4, ho4, hF4⟩ : _ ∧ _ ∧ _ ∧ _)
        clear HSTQ H4 hr4 ho4 hF4
        go_wp2_with fail
        refine (xSRemove x HP.out.1).mono ?_
        rintro e w9 ⟨⟨rfl, own9, H9, F9⟩, _⟩
        have hr9 := F9.keep HP.out.2.1 (by rw [HP.out.2.2.1]; rfl)
        have ho9 := (F9.old rp (row_lt HP.out.2.1)).trans HP.out.2.2.1
        have hF9 := HP.out.2.2.2.trans (FrX.of_fr F9)
        have hur := HRM.out HUN.out
        have HX9 : Hid (InwAt n own w bp ap sp lp rp fm bl ab R (many + 1) (k - 1) last w9) := Lib.hid ⟨f2, nk, _, _, own9, HSTP.out, HFL.out, hur.1, hur.2, by have := HNK.out; omega, H9, hr9, ho9, hF9, by have := HM.out.1; omega, by have := HM.out.2; omega⟩
        clear H9 F9 hr9 ho9 hF9 hur HP
        go_wp2_with fail
        go_roundw
        case rel => exact ⟨last, k - 1, many + 1, rfl, by go_num, by go_num, HBD.out.1, HBD.out.2, HX9⟩
        case measure => have := HBD.out.2; simp [intOf]; omega
    | false =>
      rw [if_neg (by decide)] at hin
      by_cases h4 : at0 < 0
      · have HSTP : Hid (inward bl fm f2 { bk with st := (removeS bk.st x).1 } (many + 1) (k - 1) last mk = R) := Lib.hid (by rw [if_pos h4] at hin; exact hin)
        clear hqd hin
        go_wp2_with fail
        refine cA.out.mono ?_
        rintro e w3 ⟨rfl, rfl⟩
        go_wp2_with fail
        refine cI.out.mono ?_
        rintro e w3 ⟨rfl, hb3⟩
        have H3 := HXh.out.below hb3
        have hr3 := (hb3.block _ (row_lt HRW.out)).trans HRW.out
        have hF3 := HFr.out.trans (FrX.of_fr (HXh.out.fr hb3))
        clear cI cA hb3 c0 c1 c2 c4 HXh HRW HFr
        have HP := Lib.hid (⟨H3, hr3, HO.out, hF3⟩ : _ ∧ _ ∧ _ ∧ _)
        clear H3 hr3 hF3
        by_cases h3 : 3 < many
        · go_wp2_with fail
          refine (xSRemove x HP.out.1).mono ?_
          rintro e w9 ⟨⟨rfl, own9, H9, F9⟩, _⟩
          have hr9 := F9.keep HP.out.2.1 (by rw [HP.out.2.2.1]; rfl)
          have ho9 := (F9.old rp (row_lt HP.out.2.1)).trans HP.out.2.2.1
          have hF9 := HP.out.2.2.2.trans (FrX.of_fr F9)
          have hur := HRM.out HUN.out
          have HX9 : Hid (InwAt n own w bp ap sp lp rp fm bl ab R (many + 1) (k - 1) last w9) := Lib.hid ⟨f2, nk, _, _, own9, HSTP.out, HFL.out, hur.1, hur.2, by have := HNK.out; omega, H9, hr9, ho9, hF9, by have := HM.out.1; omega, by have := HM.out.2; omega⟩
          clear H9 F9 hr9 ho9 hF9 hur HP
          go_wp2_with fail
          go_roundw
          case rel => exact ⟨last, k - 1, many + 1, rfl, by go_num, by go_num, HBD.out.1, HBD.out.2, HX9⟩
          case measure => have := HBD.out.2; simp [intOf]; omega
        · go_wp2_with fail
          refine (xSRemove x HP.out.1).mono ?_
          rintro e w9 ⟨⟨rfl, own9, H9, F9⟩, _⟩
          have hr9 := F9.keep HP.out.2.1 (by rw [HP.out.2.2.1]; rfl)
          have ho9 := (F9.old rp (row_lt HP.out.2.1)).trans HP.out.2.2.1
          have hF9 := HP.out.2.2.2.trans (FrX.of_fr F9)
          have hur := HRM.out HUN.out
          have HX9 : Hid (InwAt n own w bp ap sp lp rp fm bl ab R (many + 1) (k - 1) last w9) := Lib.hid ⟨f2, nk, _, _, own9, HSTP.out, HFL.out, hur.1, hur.2, by have := HNK.out; omega, H9, hr9, ho9, hF9, by have := HM.out.1; omega, by have := HM.out.2; omega⟩
          clear H9 F9 hr9 ho9 hF9 hur HP
          go_wp2_with fail
          go_roundw
          case rel => exact ⟨last, k - 1, many + 1, rfl, by go_num, by go_num, HBD.out.1, HBD.out.2, HX9⟩
          case measure => have := HBD.out.2; simp [intOf]; omega
      · rw [if_neg h4] at hin
        have h4' : 0 ≤ at0 := by omega
        have h3 : ¬ (3 < many) := fun h3 => by rw [decide_eq_true h3, decide_eq_true h4'] at hqd; cases hqd
        have HSTQ := Lib.hid hin
        clear hqd hin
        go_wp2_with fail
        refine cA.out.mono ?_
        rintro e w3 ⟨rfl, rfl⟩
        go_wp2_with fail
        refine cI.out.mono ?_
        rintro e w3 ⟨rfl, hb3⟩
        have H3 := HXh.out.below hb3
        have hr3 := (hb3.block _ (row_lt HRW.out)).trans HRW.out
        have hF3 := HFr.out.trans (FrX.of_fr (HXh.out.fr hb3))
        clear cI cA hb3 c0 c1 c2 c4 HXh HRW HFr
        obtain ⟨c0, _, _, _, _⟩ := row_cells hr3
        have hn1 : nk + 1 ≤ 90000 := by have := HNK.out; omega
        have cFr := Lib.hid (fresh_any x hn1 H3)
        have HR3 := Lib.hid (⟨hr3, hF3⟩ : _ ∧ _)
        have hfst : (fresh bk x).1.st = bk.st := rfl
        generalize fresh bk x = fr at *
        obtain ⟨b5, y⟩ := fr
        dsimp only at hfst cFr
        have HFST := Lib.hid hfst
        clear H3 hr3 hF3 hfst
        go_wp2_with fail
        refine cFr.out.mono ?_
        rintro e w4 ⟨rfl, own4, H4, F4⟩
        have hr4 := F4.keep HR3.out.1 (by rw [HO.out]; rfl)
        have ho4 := (F4.old rp (row_lt HR3.out.1)).trans HO.out
        have hF4 := HR3.out.2.trans (FrX.of_fr F4)
        have cR := Lib.hid (xFReplace at0 y H4)
        have HR4 := Lib.hid (⟨hr4, ho4, hF4⟩ : _ ∧ _ ∧ _)
        clear cFr F4 HR3 H4 hr4 ho4 hF4 c0
        go_wp2_with fail
        refine cR.out.mono ?_
        rintro e w5 ⟨rfl, own5, H5, F5⟩
        have hr5 := F5.keep HR4.out.1 (by rw [HR4.out.2.1]; rfl)
        have ho5 := (F5.old rp (row_lt HR4.out.1)).trans HR4.out.2.1
        have hF5 := HR4.out.2.2.trans (FrX.of_fr F5)
        have cS := Lib.hid (xSReplace (k - 1) y H5)
        have HR5 := Lib.hid (⟨hr5, ho5, hF5⟩ : _ ∧ _ ∧ _)
        clear cR F5 HR4 H5 hr5 ho5 hF5
        go_wp2_with fail
        refine cS.out.mono ?_
        rintro e w6 ⟨rfl, own6, H6, F6⟩
        have hr6 := F6.keep HR5.out.1 (by rw [HR5.out.2.1]; rfl)
        have ho6 := (F6.old rp (row_lt HR5.out.1)).trans HR5.out.2.1
        have hF6 := HR5.out.2.2.trans (FrX.of_fr F6)
        clear cS F6 HR5
        obtain ⟨c0, _, c2, _, c4⟩ := row_cells hr6
        have z4 := frozen_row hr6 4
        obtain ⟨ql, hql⟩ : ∃ q, (last == bl) = q := ⟨_, rfl⟩
        have hs2 := HSTQ.out
        rw [hql] at hs2
        cases ql with
        | true =>
          have HSTP := Lib.hid hs2
          obtain ⟨H7, hr7, hF7⟩ := BX.setR H6 hr6 ho6 (at0 + 1)
          have HP := Lib.hid (⟨H7, hr7, ho6, hF6.trans hF7⟩ : _ ∧ _ ∧ _ ∧ _)
          have c0' := (row_cells hr7).1
          clear HSTQ hs2 H6 H7 hr7 hF7 hr6 ho6 hF6
          go_wp2_with fail
          refine (xArena HP.out.1).mono ?_
          rintro e w8 ⟨rfl, rfl⟩
          have cAp := Lib.hid (xAppend y last HP.out.1)
          go_wp2_with fail
          refine cAp.out.mono ?_
          rintro e w9 ⟨rfl, own9, H9, F9⟩
          have hr9 := F9.keep HP.out.2.1 (by rw [HP.out.2.2.1]; rfl)
          have ho9 := (F9.old rp (row_lt HP.out.2.1)).trans HP.out.2.2.1
          have hF9 := HP.out.2.2.2.trans (FrX.of_fr F9)
          have hur := Und.replace (a := b5.ar) (y := y) HUN.out
          rw [← HFST.out] at hur
          have HX9 : Hid (InwAt n own w bp ap sp lp rp fm bl ab R (many + 1) (k - 1) y w9) := Lib.hid ⟨f2, nk + 1, _, _, own9, HSTP.out, HFL.out, hur.1, by have h1 := hur.2; have h2 := HKL.out; rw [HFST.out] at h1; show k - 1 ≤ ((replaceS b5.ar b5.st (k - 1) y).1.length : Int); rw [HFST.out, h1]; omega, by have := HNK.out; omega, H9, hr9, ho9, hF9, by have := HM.out.1; omega, by have := HM.out.2; omega⟩
          clear H9 F9 hr9 ho9 hF9 hur HP cAp
          go_wp2_with fail
          go_roundw
          case rel => exact ⟨y, k - 1, many + 1, rfl, by go_num, by go_num, HBD.out.1, HBD.out.2, HX9⟩
          case measure => have := HBD.out.2; simp [intOf]; omega
        | false =>
          have HSTP := Lib.hid hs2
          have HP := Lib.hid (⟨H6, hr6, ho6, hF6⟩ : _ ∧ _ ∧ _ ∧ _)
          clear HSTQ hs2 H6 hr6 ho6 hF6
          go_wp2_with fail
          refine (xArena HP.out.1).mono ?_
          rintro e w8 ⟨rfl, rfl⟩
          have cAp := Lib.hid (xAppend y last HP.out.1)
          go_wp2_with fail
          refine cAp.out.mono ?_
          rintro e w9 ⟨rfl, own9, H9, F9⟩
          have hr9 := F9.keep HP.out.2.1 (by rw [HP.out.2.2.1]; rfl)
          have ho9 := (F9.old rp (row_lt HP.out.2.1)).trans HP.out.2.2.1
          have hF9 := HP.out.2.2.2.trans (FrX.of_fr F9)
          have hur := Und.replace (a := b5.ar) (y := y) HUN.out
          rw [← HFST.out] at hur
          have HX9 : Hid (InwAt n own w bp ap sp lp rp fm bl ab R (many + 1) (k - 1) y w9) := Lib.hid ⟨f2, nk + 1, _, _, own9, HSTP.out, HFL.out, hur.1, by have h1 := hur.2; have h2 := HKL.out; rw [HFST.out] at h1; show k - 1 ≤ ((replaceS b5.ar b5.st (k - 1) y).1.length : Int); rw [HFST.out, h1]; omega, by have := HNK.out; omega, H9, hr9, ho9, hF9, by have := HM.out.1; omega, by have := HM.out.2; omega⟩
          clear H9 F9 hr9 ho9 hF9 hur HP cAp
          go_wp2_with fail
          go_roundw
          case rel => exact ⟨y, k - 1, many + 1, rfl, by go_num, by go_num, HBD.out.1, HBD.out.2, HX9⟩
          case measure => have := HBD.out.2; simp [intOf]; omega
end Go.Proofs.YtnbdalohlldnbaaGreatDoor

namespace Go.Proofs.YtnbdalohlldnbaaGreatDoor
open Go.RowKit Bd
attribute [local go_sem ↓] Go.wp_at_zero Go.wp_at_succ
theorem lastIdx_is {α : Type} (p : α → Bool) (l : List α) (k : Nat) (h : lastIdx p l = (k : Int)) : ∃ x, l[k]? = some x ∧ p x = true := by
  have hlen : l.reverse.length = l.length := List.length_reverse
  unfold lastIdx at h
  split at h
  · rename_i m hm
    obtain ⟨hml, h1, _⟩ := List.findIdx?_eq_some_iff_getElem.1 hm
    rw [hlen] at hml
    rw [List.getElem_reverse] at h1
    have e : l.length - 1 - m = k := by omega
    subst e
    exact ⟨_, List.getElem?_eq_getElem (by omega), h1⟩
  · omega
theorem indexF_mem {l : Fo} {i : Int} : 0 ≤ indexF l i ↔ 0 ≤ i ∧ i ∈ l := by
  unfold indexF
  split
  · constructor
    · intro h; omega
    · intro h; omega
  · have h0 := lastIdx_ge (fun x : Int => x == i) l
    unfold lastF
    constructor
    · intro h
      refine ⟨by omega, ?_⟩
      by_cases hn : lastIdx (fun x : Int => x == i) l < 0
      · rw [if_pos hn] at h; omega
      · obtain ⟨k, hk⟩ : ∃ k : Nat, lastIdx (fun x : Int => x == i) l = (k : Int) := ⟨(lastIdx (fun x : Int => x == i) l).toNat, by omega⟩
        obtain ⟨x, hx, hp⟩ := lastIdx_is _ l k hk
        rw [← beq_iff_eq.1 hp]
        exact List.mem_of_getElem? hx
    · rintro ⟨_, h⟩
      obtain ⟨k, hk⟩ := List.getElem?_of_mem h
      have := lastIdx_at (fun x : Int => x == i) l k i hk (by simp)
      rw [if_neg (by omega)]; omega
theorem indexS_mem {s : St} {i : Int} : 0 ≤ indexS s i ↔ ∃ o ∈ s, o.node = i := by
  unfold indexS
  have h0 := lastIdx_ge (fun o : OpenL => o.node == i) s
  constructor
  · intro h
    obtain ⟨k, hk⟩ : ∃ k : Nat, lastIdx (fun o : OpenL => o.node == i) s = (k : Int) := ⟨(lastIdx (fun o : OpenL => o.node == i) s).toNat, by omega⟩
    obtain ⟨x, hx, hp⟩ := lastIdx_is _ s k hk
    exact ⟨x, List.mem_of_getElem? hx, beq_iff_eq.1 hp⟩
  · rintro ⟨o, ho, e⟩
    obtain ⟨k, hk⟩ := List.getElem?_of_mem ho
    have := lastIdx_at (fun o : OpenL => o.node == i) s k o hk (by simp [e])
    omega
theorem removeF_mem {l : Fo} {x i : Int} (h : i ∈ l) (hne : x ≠ i) : i ∈ (removeF l x).1 := by
  unfold removeF
  split
  · exact h
  · rename_i h0
    obtain ⟨j, hj⟩ := List.getElem?_of_mem h
    refine List.mem_eraseIdx_iff_getElem?.2 ⟨j, fun e => ?_, hj⟩
    have h1 := h0
    unfold indexF at h1 e
    by_cases hx : x < 0
    · rw [if_pos hx] at h1; omega
    · rw [if_neg hx] at h1 e
      unfold lastF at h1 e
      have hg := lastIdx_ge (fun y : Int => y == x) l
      by_cases hn : lastIdx (fun y : Int => y == x) l < 0
      · rw [if_pos hn] at h1; omega
      · rw [if_neg hn] at e
        obtain ⟨y, hy, hp⟩ := lastIdx_is (fun y : Int => y == x) l j (by omega)
        rw [hj] at hy
        obtain rfl := Option.some.inj hy
        exact hne (beq_iff_eq.1 hp).symm
theorem replaceF_mem {a : Ar} {l : Fo} {x y i : Int} (h : i ∈ l) (hne : x ≠ i) : i ∈ (replaceF a l (indexF l x) y).1 := by
  unfold replaceF
  split
  · exact h
  · split
    · exact h
    · rename_i h2 h0
      simp only [Bool.or_eq_true, decide_eq_true_eq, not_or] at h0
      obtain ⟨j, hj⟩ := List.getElem?_of_mem h
      have hjn : (indexF l x).toNat ≠ j := fun e => by
        have h1 := h0.1
        unfold indexF at h1 e
        by_cases hx : x < 0
        · rw [if_pos hx] at h1; omega
        · rw [if_neg hx] at h1 e
          unfold lastF at h1 e
          have hg := lastIdx_ge (fun y : Int => y == x) l
          by_cases hn : lastIdx (fun y : Int => y == x) l < 0
          · rw [if_pos hn] at h1; omega
          · rw [if_neg hn] at e
            obtain ⟨y, hy, hp⟩ := lastIdx_is (fun y : Int => y == x) l j (by omega)
            rw [hj] at hy
            obtain rfl := Option.some.inj hy
            exact hne (beq_iff_eq.1 hp).symm
      exact List.mem_of_getElem? (i := j) (by rw [List.getElem?_set_ne hjn]; exact hj)
/-- inward keeps the element where it is, in both lists. -/
theorem inward_keeps (bl fm : Int) : ∀ (f : Nat) (b : BS) (many k last mk : Int), fm ∈ b.fo → Und b.st fm k → k ≤ (b.st.length : Int) → fm ∈ (inward bl fm f b many k last mk).1.fo ∧ ∃ o ∈ (inward bl fm f b many k last mk).1.st, o.node = fm
  | 0, b, many, k, last, mk, h1, h2, _ => by
    obtain ⟨j, o, _, ho, e⟩ := h2
    exact ⟨h1, o, List.mem_of_getElem? ho, e⟩
  | f + 1, b, many, k, last, mk, h1, h2, h3 => by
    rw [inward_step]
    split
    · obtain ⟨j, o, _, ho, e⟩ := h2
      exact ⟨h1, o, List.mem_of_getElem? ho, e⟩
    · rename_i hx
      have hx2 : atS b.st (k - 1) ≠ fm := fun e => hx (by rw [e]; simp)
      have hk0 := h2.lt
      have hu := h2.ne hx2
      have hur := hu.remove (by omega)
      split
      · exact inward_keeps bl fm f _ _ _ _ _ (removeF_mem h1 hx2) hur.1 hur.2
      · split
        · exact inward_keeps bl fm f _ _ _ _ _ h1 hur.1 hur.2
        · have hup := Und.replace (a := (fresh b (atS b.st (k - 1))).1.ar) (y := (fresh b (atS b.st (k - 1))).2) hu
          exact inward_keeps bl fm f _ _ _ _ _ (replaceF_mem h1 hx2) hup.1 (by have := hup.2; show k - 1 ≤ ((replaceS _ b.st (k - 1) _).1.length : Int); rw [this]; omega)
theorem inward_mk (bl fm : Int) : ∀ (f : Nat) (b : BS) (many k last mk : Int), b.fo.length ≤ 64 → 0 ≤ many → -many ≤ mk → mk ≤ 100 → -(many + f) ≤ (inward bl fm f b many k last mk).2.2 ∧ (inward bl fm f b many k last mk).2.2 ≤ 100
  | 0, b, many, k, last, mk, _, hm, h1, h2 => ⟨by show -(many + (0 : Nat)) ≤ mk; omega, h2⟩
  | f + 1, b, many, k, last, mk, h0, hm, h1, h2 => by
    have hi : indexF b.fo (atS b.st (k - 1)) < 64 := by
      unfold indexF
      split
      · omega
      · have := (lastF_lt b.fo 0 (fun x => x == atS b.st (k - 1))).1; omega
    rw [inward_step]
    split
    · exact ⟨by show -(many + ((f + 1 : Nat) : Int)) ≤ mk; omega, h2⟩
    · split
      · have h4 := inward_mk bl fm f { b with fo := (removeF b.fo (atS b.st (k - 1))).1, st := (removeS b.st (atS b.st (k - 1))).1 } (many + 1) (k - 1) last (if indexF b.fo (atS b.st (k - 1)) < mk then mk - 1 else mk) (fremove_ok h0 _) (by omega) (by split <;> omega) (by split <;> omega)
        exact ⟨by have := h4.1; omega, h4.2⟩
      · split
        · have h4 := inward_mk bl fm f { b with st := (removeS b.st (atS b.st (k - 1))).1 } (many + 1) (k - 1) last mk h0 (by omega) (by omega) h2
          exact ⟨by have := h4.1; omega, h4.2⟩
        · rename_i h5
          have h4 := inward_mk bl fm f { (fresh b (atS b.st (k - 1))).1 with
            fo := (replaceF (fresh b (atS b.st (k - 1))).1.ar (fresh b (atS b.st (k - 1))).1.fo (indexF b.fo (atS b.st (k - 1))) (fresh b (atS b.st (k - 1))).2).1
            st := (replaceS (fresh b (atS b.st (k - 1))).1.ar (fresh b (atS b.st (k - 1))).1.st (k - 1) (fresh b (atS b.st (k - 1))).2).1
            ar := (append (fresh b (atS b.st (k - 1))).1.ar (fresh b (atS b.st (k - 1))).2 last).1 } (many + 1) (k - 1) (fresh b (atS b.st (k - 1))).2 (if last == bl then indexF b.fo (atS b.st (k - 1)) + 1 else mk) (freplace_ok h0 _ _) (by omega) (by split <;> omega) (by split <;> omega)
          exact ⟨by have := h4.1; omega, h4.2⟩
end Go.Proofs.YtnbdalohlldnbaaGreatDoor

namespace Go.Proofs.YtnbdalohlldnbaaGreatDoor
open Go.RowKit Bd
attribute [local go_sem ↓] Go.wp_at_zero Go.wp_at_succ
theorem renew_eq (b : BS) (bl fm mk : Int) (b1 : BS) (y : Int) (h : fresh b fm = (b1, y)) : renew b bl fm mk =
    { b1 with
      ar := (append (Bd.move b1.ar bl y).1 bl y).1
      fo := (insertF (append (Bd.move b1.ar bl y).1 bl y).1 (removeF b1.fo fm).1 (if indexF b1.fo fm < mk then mk - 1 else mk) y).1
      st := (insertS (append (Bd.move b1.ar bl y).1 bl y).1 (removeS b1.st fm).1 (indexS (removeS b1.st fm).1 bl + 1) y).1 } := by
  unfold renew
  rw [h]
theorem RoomW.keep {own own' : Nat → Nat} {w w' : World} {p l : Nat} {c : Nat → Bool} (h : RoomW w p) (hf : Fr c own own' w w') (ho : own p = l) (hc : c l = false) : RoomW w' p := by
  obtain ⟨a, n, k, h1, h2⟩ := h
  exact ⟨a, n, k, Fr_cell hf h1 (by rw [ho]; exact hc), h2⟩
set_option maxHeartbeats 2000000 in
set_option maxRecDepth 100000 in
theorem renew_any {n : Nat} {own : Nat → Nat} {w : World} {bp ap sp lp rp : Nat} {b : BS} {fm bl ab mk : Int} (hr : w.heap[rp]? = some (.cells (rrow bp fm bl ab mk) 176 (0, 0))) (ho : own rp = 0) (H : BX n own w bp ap sp lp b) (hn : n + 1 ≤ 90000)
    (hfo : 0 ≤ indexF b.fo fm) (hst : 0 ≤ indexS b.st fm) (hmk : -2000 ≤ mk ∧ mk ≤ 2000) : Calls Tryz.prog 212 #[.pointer (some ⟨rp, 0, none⟩)] w fun e w' => e = .returned (.tuple #[]) ∧ ∃ own', BX (n + 1) own' w' bp ap sp lp (renew b bl fm mk) ∧ FrX rp own own' w w' := by
  obtain ⟨R, hR⟩ : ∃ R, renew b bl fm mk = R := ⟨_, rfl⟩
  rw [hR]
  have HH := Lib.hid H
  have Hr := Lib.hid hr
  have HO := Lib.hid ho
  obtain ⟨c0, c1, _, _, _⟩ := row_cells hr
  have hfst : (fresh b fm).1.st = b.st := rfl
  have hffo : (fresh b fm).1.fo = b.fo := rfl
  have cF : Hid (∀ V own', BX n own' V bp ap sp lp b → Calls Tryz.prog 227 #[.pointer (some ⟨bp, 0, none⟩), .int .i64 fm] V (RX (n + 1) own' bp ap sp lp (.int .i64 (fresh b fm).2) (fresh b fm).1 V)) := Lib.hid (fun V own' hV => fresh_any fm hn hV)
  obtain ⟨b1, y, hfr⟩ : ∃ b1 y, fresh b fm = (b1, y) := ⟨_, _, rfl⟩
  rw [renew_eq b bl fm mk b1 y hfr] at hR
  rw [hfr] at hfst hffo cF
  dsimp only at hfst hffo cF
  rw [← hffo] at hfo
  rw [← hfst] at hst
  have HRR := Lib.hid hR
  have HFO := Lib.hid hfo
  have HST := Lib.hid hst
  have HMK := Lib.hid hmk
  clear hR H hr ho hfst hffo hfr hfo hst hmk
  go_enter Tryz.func212, Tryz.ntmps212
  go_upto_region 0 with fail
  go_cut [2, 3, 4] (fun q s t wx => q = .pointer (some ⟨ap, 0, none⟩) ∧ s = .pointer (some ⟨sp, 0, none⟩) ∧ t = .pointer (some ⟨lp, 0, none⟩) ∧ Below w.heap.size w wx)
  case first =>
    refine wp_region_held_drew (S := fun U => Below w.heap.size w U) (by kernel_rfl) ((Below.refl _ w).drew) (fun hHeld => ?_)
    generalize w.drew = V at hHeld  ⊢
    refine TkH 0 7 ?_; refine TkH 1 8 ?_; refine TkH 2 9 ?_
    (try simp only [Act.put]); (try simp only [List.setIfInBounds_toArray]); (try simp only [List.set_cons_zero, List.set_cons_succ])
    refine TkD 3 (some 10) (v := ?_) rfl rfl ?_ ?_; rotate_left
    · (intro W hSw; (try dsimp only at hSw); have c0' := (hSw.cell (World.block_lt_of_cell? _ _ c0)).trans c0; go_simp; try with_reducible rfl)
    (try simp only [Act.put]); (try simp only [List.setIfInBounds_toArray]); (try simp only [List.set_cons_zero, List.set_cons_succ])
    refine TkH 5 12 ?_; refine TkH 6 13 ?_; refine TkH 7 14 ?_
    (try simp only [Act.put]); (try simp only [List.setIfInBounds_toArray]); (try simp only [List.set_cons_zero, List.set_cons_succ])
    refine TkD 8 (some 15) (v := ?_) rfl rfl ?_ ?_; rotate_left
    · (intro W hSw; (try dsimp only at hSw); have c0' := (hSw.cell (World.block_lt_of_cell? _ _ c0)).trans c0; go_simp; try with_reducible rfl)
    (try simp only [Act.put]); (try simp only [List.setIfInBounds_toArray]); (try simp only [List.set_cons_zero, List.set_cons_succ])
    refine TkH 10 17 ?_; refine TkH 11 18 ?_; refine TkH 12 19 ?_
    (try simp only [Act.put]); (try simp only [List.setIfInBounds_toArray]); (try simp only [List.set_cons_zero, List.set_cons_succ])
    refine TkD 13 (some 20) (v := ?_) rfl rfl ?_ ?_; rotate_left
    · (intro W hSw; (try dsimp only at hSw); have c0' := (hSw.cell (World.block_lt_of_cell? _ _ c0)).trans c0; go_simp; try with_reducible rfl)
    (try simp only [Act.put]); (try simp only [List.setIfInBounds_toArray]); (try simp only [List.set_cons_zero, List.set_cons_succ])
    refine wpAnyH_ready (rs := [4]) (by kernel_rfl) (by simp) ?_
    refine AllReadyH.cons rfl (fun K hK => ?_) AllReadyH.nil
    go_simp
    go_at_call 17
    refine (xArena (HH.out.below hHeld)).mono ?_
    rintro e V9 ⟨rfl, rfl⟩
    refine hK.out _ _ hHeld (fun hSx => ?_)
    clear hSx hK K
    (try simp only [Act.put]); (try simp only [List.setIfInBounds_toArray]); (try simp only [List.set_cons_zero, List.set_cons_succ])
    refine wpAnyH_ready (rs := [9]) (by kernel_rfl) (by simp) ?_
    refine AllReadyH.cons rfl (fun K hK => ?_) AllReadyH.nil
    go_simp
    go_at_call 19
    refine (xStack (HH.out.below hHeld)).mono ?_
    rintro e V9 ⟨rfl, rfl⟩
    refine hK.out _ _ hHeld (fun hSx => ?_)
    clear hSx hK K
    (try simp only [Act.put]); (try simp only [List.setIfInBounds_toArray]); (try simp only [List.set_cons_zero, List.set_cons_succ])
    refine wpAnyH_ready (rs := [14]) (by kernel_rfl) (by simp) ?_
    refine AllReadyH.cons rfl (fun K hK => ?_) AllReadyH.nil
    go_simp
    go_at_call 132
    refine (xFormats (HH.out.below hHeld)).mono ?_
    rintro e V9 ⟨rfl, rfl⟩
    refine hK.out _ _ hHeld (fun hSx => ?_)
    clear hSx hK K
    (try simp only [Act.put]); (try simp only [List.setIfInBounds_toArray]); (try simp only [List.set_cons_zero, List.set_cons_succ])
    focus (refine TkH 15 2 ?_; refine TkH 16 3 ?_; refine TkH 17 4 ?_)
    (try simp only [Act.put]); (try simp only [List.setIfInBounds_toArray]); (try simp only [List.set_cons_zero, List.set_cons_succ])
    refine wpAnyH_done (by kernel_rfl) ?_ _
    go_wp2_with fail
    go_meet
    exact ⟨rfl, rfl, rfl, hHeld⟩

  case rest =>
  obtain ⟨rfl, rfl, rfl, hbc⟩ := hcut
  have hH := HH.out.below hbc
  have hF : FrX rp own own w wc := FrX.of_fr (HH.out.fr hbc)
  have hr := (hbc.block _ (row_lt Hr.out)).trans Hr.out
  have ho := HO.out
  clear hbc c0 c1 HH Hr HO
  go_upto_region 1 with fail
  have hd := (Below.refl wc.heap.size wc).drew
  replace hF := hF.trans (FrX.of_fr (hH.fr hd))
  replace hH := hH.below hd
  replace hr := (hd.block _ (row_lt hr)).trans hr
  clear hd
  refine wp_region_held_drew (S := fun U => U.heap[rp]? = some (.cells (rrow bp fm bl ab mk) 176 (0, 0))) (by kernel_rfl) (hr) (fun hHeld => ?_)
  generalize wc.drew = V at hHeld hH hr hF ⊢
  refine TkH 0 22 ?_; refine TkH 1 23 ?_; refine TkH 2 24 ?_
  (try simp only [Act.put]); (try simp only [List.setIfInBounds_toArray]); (try simp only [List.set_cons_zero, List.set_cons_succ])
  refine TkD 3 (some 25) (v := ?_) rfl rfl ?_ ?_; rotate_left
  · (intro W hSw; (try dsimp only at hSw); have c0' := (row_cells hSw).1; go_simp; try with_reducible rfl)
  (try simp only [Act.put]); (try simp only [List.setIfInBounds_toArray]); (try simp only [List.set_cons_zero, List.set_cons_succ])
  refine TkH 4 26 ?_; refine TkH 5 27 ?_; refine TkH 6 28 ?_
  (try simp only [Act.put]); (try simp only [List.setIfInBounds_toArray]); (try simp only [List.set_cons_zero, List.set_cons_succ])
  refine TkD 7 (some 29) (v := ?_) rfl rfl ?_ ?_; rotate_left
  · (intro W hSw; (try dsimp only at hSw); have c1' := (row_cells hSw).2.1; go_simp; try with_reducible rfl)
  (try simp only [Act.put]); (try simp only [List.setIfInBounds_toArray]); (try simp only [List.set_cons_zero, List.set_cons_succ])
  refine wpAnyH_ready (rs := [8]) (by kernel_rfl) (by simp) ?_
  refine AllReadyH.cons rfl (fun K hK => ?_) AllReadyH.nil
  go_simp
  go_at_call 227
  refine (cF.out V own hH).mono ?_
  rintro e V9 ⟨rfl, own9, H9, F9⟩
  replace hF := hF.trans (FrX.of_fr F9)
  have hr9 := F9.keep hr (by rw [ho]; rfl)
  have ho9 := (F9.old rp (row_lt hr)).trans ho
  have hS9 := hr9
  clear hHeld hH F9 hr
  refine hK.out _ _ hS9 (fun hHeld => ?_)
  clear hK K hS9
  clear V
  obtain ⟨V, rfl⟩ : ∃ U, U = V9 := ⟨_, rfl⟩
  (try simp only [Act.put]); (try simp only [List.setIfInBounds_toArray]); (try simp only [List.set_cons_zero, List.set_cons_succ])
  focus (refine TkH 9 5 ?_)
  (try simp only [Act.put]); (try simp only [List.setIfInBounds_toArray]); (try simp only [List.set_cons_zero, List.set_cons_succ])
  refine wpAnyH_done (by kernel_rfl) ?_ _
  clear hHeld ho cF
  obtain ⟨c0, c1, c2, _, c4⟩ := row_cells hr9
  go_wp2_with fail
  refine (xMove bl y H9).mono ?_
  rintro e w2 ⟨rfl, own2, H2, F2⟩
  replace hF := hF.trans (FrX.of_fr F2)
  have hr2 := F2.keep hr9 (by rw [ho9]; rfl)
  have ho2 := (F2.old rp (row_lt hr9)).trans ho9
  clear H9 F2 hr9 ho9 c0 c1 c2 c4
  obtain ⟨c0, c1, c2, _, c4⟩ := row_cells hr2
  go_wp2_with fail
  refine (xAppend bl y H2).mono ?_
  rintro e w3 ⟨rfl, own3, H3, F3⟩
  replace hF := hF.trans (FrX.of_fr F3)
  have hr3 := F3.keep hr2 (by rw [ho2]; rfl)
  have ho3 := (F3.old rp (row_lt hr2)).trans ho2
  clear H2 F3 hr2 ho2 c0 c1 c2 c4
  dsimp only at H3
  obtain ⟨c0, c1, c2, _, c4⟩ := row_cells hr3
  go_wp2_with fail
  refine (xFIndex fm H3).mono ?_
  rintro e w4 ⟨rfl, hb4⟩
  replace hF := hF.trans (FrX.of_fr (H3.fr hb4))
  have H4 := H3.below hb4
  have hr4 := (hb4.block _ (row_lt hr3)).trans hr3
  clear H3 hb4 hr3 c0 c1 c2 c4
  dsimp only
  obtain ⟨c0, c1, c2, _, c4⟩ := row_cells hr4
  have cR := Lib.hid (xFRemove2 fm H4)
  dsimp only at cR
  have HR4 := Lib.hid (⟨hr4, ho3, hF⟩ : _ ∧ _ ∧ _)
  clear H4 hr4 ho3 hF
  go_wp2_with fail
  refine cR.out.mono ?_
  rintro e w5 ⟨⟨rfl, own5, H5, F5⟩, hroom⟩
  replace hroom := hroom HFO.out
  have hr5 := F5.keep HR4.out.1 (by rw [HR4.out.2.1]; rfl)
  have ho5 := (F5.old rp (row_lt HR4.out.1)).trans HR4.out.2.1
  have hF5 := HR4.out.2.2.trans (FrX.of_fr F5)
  clear F5 HR4 cR c0 c1 c2 c4
  obtain ⟨c0, c1, c2, _, c4⟩ := row_cells hr5
  have z4 := frozen_row hr5 4
  have hmk1 := HMK.out.1
  have hmk2 := HMK.out.2
  generalize hat0 : indexF b1.fo fm = at0 at *
  have HRQ := HRR.out
  clear hat0
  by_cases hlt : at0 < mk
  · rw [if_pos hlt] at HRQ
    obtain ⟨H6, hr6, hF6⟩ := BX.setR H5 hr5 ho5 (mk - 1)
    have hroom6 : RoomW (w5.setCell ⟨rp, 4, none⟩ (.int .i64 (mk - 1))) lp := by
      obtain ⟨a, n1, k1, h1, h2⟩ := hroom
      refine ⟨a, n1, k1, (World.cell?_of_block (w := w5) (Below.heap_setCell _ _ _ _ (fun e => ?_))).trans h1, h2⟩
      replace e : lp = rp := e
      rw [e] at h1
      have := rowAt hr5 1 (.int .i64 fm) rfl
      rw [h1] at this; cases this
    have hF6' := hF5.trans hF6
    have HQ := Lib.hid HRQ
    have HP := Lib.hid (⟨H6, hr6, ho5, hF6'⟩ : _ ∧ _ ∧ _ ∧ _)
    have HRM := Lib.hid hroom6
    have c4' := (row_cells hr6).2.2.2.2
    clear hF6
    clear H5 hr5 ho5 hF5 hroom H6 hr6 hF6' hroom6 HRQ HRR
    have cI := Lib.hid (xFInsert (mk - 1) y (fun _ _ => HRM.out) HP.out.1)
    go_wp2_with fail
    refine cI.out.mono ?_
    rintro e w7 ⟨rfl, own7, H7, F7⟩
    have hr7 := F7.keep HP.out.2.1 (by rw [HP.out.2.2.1]; rfl)
    have ho7 := (F7.old rp (row_lt HP.out.2.1)).trans HP.out.2.2.1
    have hF7 := HP.out.2.2.2.trans (FrX.of_fr F7)
    clear F7 HP HRM cI c0 c1 c2 c4 c4' z4
    obtain ⟨c0, c1, c2, _, _⟩ := row_cells hr7
    have cS := Lib.hid (xSRemove fm H7)
    dsimp only at cS
    have HP := Lib.hid (⟨hr7, ho7, hF7⟩ : _ ∧ _ ∧ _)
    clear H7 hr7 ho7 hF7
    go_wp2_with fail
    refine cS.out.mono ?_
    rintro e w8 ⟨⟨rfl, own8, H8, F8⟩, hroom⟩
    have HRM := Lib.hid (hroom HST.out)
    have hr8 := F8.keep HP.out.1 (by rw [HP.out.2.1]; rfl)
    have ho8 := (F8.old rp (row_lt HP.out.1)).trans HP.out.2.1
    have hF8 := HP.out.2.2.trans (FrX.of_fr F8)
    clear F8 HP cS hroom c0 c1 c2
    obtain ⟨_, _, c2, _, _⟩ := row_cells hr8
    have cX := Lib.hid (xSIndex bl H8)
    dsimp only at cX
    have hix : -1 ≤ indexS (removeS b1.st fm).1 bl ∧ indexS (removeS b1.st fm).1 bl < 600 := by
      have h1 := H8.G.st.1
      have h2 : indexS (removeS b1.st fm).1 bl < ((removeS b1.st fm).1.length : Int) := lastIdx_lt _ _
      exact ⟨lastIdx_ge _ _, by dsimp only at h1; omega⟩
    have hix1 := hix.1
    have hix2 := hix.2
    have HP := Lib.hid (⟨H8, hr8, hF8⟩ : _ ∧ _ ∧ _)
    generalize hix9 : indexS (removeS b1.st fm).1 bl = ix at *
    clear H8 hr8 hF8 ho8 hix hix9
    go_wp2_with fail
    refine cX.out.mono ?_
    rintro e w9 ⟨rfl, rfl⟩
    have cN := Lib.hid (xSInsert (ix + 1) y (fun _ _ => HRM.out) HP.out.1)
    go_wp2_with fail
    refine cN.out.mono ?_
    rintro e w10 ⟨rfl, own10, H10, F10⟩
    have HX := Lib.hid (⟨H10, HP.out.2.2.trans (FrX.of_fr F10)⟩ : _ ∧ _)
    clear H10 F10 HP cN cX
    go_wp2_with fail
    go_end0
    rw [← HQ.out]
    exact ⟨rfl, own10, HX.out.1, HX.out.2⟩
  · rw [if_neg hlt] at HRQ
    have H6 := H5
    have hr6 := hr5
    have hroom6 := hroom
    have hF6' := hF5
    have HQ := Lib.hid HRQ
    have HP := Lib.hid (⟨H6, hr6, ho5, hF6'⟩ : _ ∧ _ ∧ _ ∧ _)
    have HRM := Lib.hid hroom6
    have c4' := (row_cells hr6).2.2.2.2
    clear H5 hr5 ho5 hF5 hroom H6 hr6 hF6' hroom6 HRQ HRR
    have cI := Lib.hid (xFInsert (mk) y (fun _ _ => HRM.out) HP.out.1)
    go_wp2_with fail
    refine cI.out.mono ?_
    rintro e w7 ⟨rfl, own7, H7, F7⟩
    have hr7 := F7.keep HP.out.2.1 (by rw [HP.out.2.2.1]; rfl)
    have ho7 := (F7.old rp (row_lt HP.out.2.1)).trans HP.out.2.2.1
    have hF7 := HP.out.2.2.2.trans (FrX.of_fr F7)
    clear F7 HP HRM cI c0 c1 c2 c4 c4' z4
    obtain ⟨c0, c1, c2, _, _⟩ := row_cells hr7
    have cS := Lib.hid (xSRemove fm H7)
    dsimp only at cS
    have HP := Lib.hid (⟨hr7, ho7, hF7⟩ : _ ∧ _ ∧ _)
    clear H7 hr7 ho7 hF7
    go_wp2_with fail
    refine cS.out.mono ?_
    rintro e w8 ⟨⟨rfl, own8, H8, F8⟩, hroom⟩
    have HRM := Lib.hid (hroom HST.out)
    have hr8 := F8.keep HP.out.1 (by rw [HP.out.2.1]; rfl)
    have ho8 := (F8.old rp (row_lt HP.out.1)).trans HP.out.2.1
    have hF8 := HP.out.2.2.trans (FrX.of_fr F8)
    clear F8 HP cS hroom c0 c1 c2
    obtain ⟨_, _, c2, _, _⟩ := row_cells hr8
    have cX := Lib.hid (xSIndex bl H8)
    dsimp only at cX
    have hix : -1 ≤ indexS (removeS b1.st fm).1 bl ∧ indexS (removeS b1.st fm).1 bl < 600 := by
      have h1 := H8.G.st.1
      have h2 : indexS (removeS b1.st fm).1 bl < ((removeS b1.st fm).1.length : Int) := lastIdx_lt _ _
      exact ⟨lastIdx_ge _ _, by dsimp only at h1; omega⟩
    have hix1 := hix.1
    have hix2 := hix.2
    have HP := Lib.hid (⟨H8, hr8, hF8⟩ : _ ∧ _ ∧ _)
    generalize hix9 : indexS (removeS b1.st fm).1 bl = ix at *
    clear H8 hr8 hF8 ho8 hix hix9
    go_wp2_with fail
    refine cX.out.mono ?_
    rintro e w9 ⟨rfl, rfl⟩
    have cN := Lib.hid (xSInsert (ix + 1) y (fun _ _ => HRM.out) HP.out.1)
    go_wp2_with fail
    refine cN.out.mono ?_
    rintro e w10 ⟨rfl, own10, H10, F10⟩
    have HX := Lib.hid (⟨H10, HP.out.2.2.trans (FrX.of_fr F10)⟩ : _ ∧ _)
    clear H10 F10 HP cN cX
    go_wp2_with fail
    go_end0
    rw [← HQ.out]
    exact ⟨rfl, own10, HX.out.1, HX.out.2⟩

end Go.Proofs.YtnbdalohlldnbaaGreatDoor
