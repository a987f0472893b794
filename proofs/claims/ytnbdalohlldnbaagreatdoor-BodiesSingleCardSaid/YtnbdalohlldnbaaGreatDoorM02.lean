/-
  Package arena: an arena as the program holds it; Len, none, has, kid, holds, hangs, up.
  Package arena: up, holds, hangs.
  Package arena: bare, Node.
  Package arena: Add, of a node that is no template.
  Plain laws: chains of parents in an arena end. No condition.
-/
import Derived.Test.YtnbdalohlldnbaaGreatDoorM01
namespace Go.Proofs.YtnbdalohlldnbaaGreatDoor
open Go.RowKit Bd
attribute [local go_sem ↓] Go.wp_at_zero Go.wp_at_succ
/-- A node, as the program holds it: its kids are a slice. -/
structure NB where
  n : NodeL
  kv : Value
def NB.row (x : NB) : List Value := [.int .i64 x.n.kind, .string x.n.name, .string x.n.text, .int .i64 x.n.space, .slice none 0 0, .bool x.n.dup, .int .i64 x.n.parent, .int .i64 x.n.content, x.kv, .int .i64 x.n.frm, .int .i64 x.n.till]
def NB.val (x : NB) : Value := .agg x.row.toArray
theorem nrows_len (ys : List NB) : (ys.flatMap NB.row).length = ys.length * 11 := by
  induction ys with
  | nil => rfl
  | cons x r ih => rw [List.flatMap_cons, List.length_append, ih, List.length_cons]; show 11 + _ = _; omega
theorem nrows_at (ys : List NB) : ∀ (j : Nat) (y : NB), ys[j]? = some y → ∀ k u, y.row[k]? = some u → (ys.flatMap NB.row)[j * 11 + k]? = some u := by
  induction ys with
  | nil => intro j d h; simp at h
  | cons x r ih =>
    intro j d h k u hk
    have hk2 : k < 11 := (List.getElem?_eq_some_iff.1 hk).1
    cases j with
    | zero => obtain rfl : x = d := by simpa using h
              rw [List.flatMap_cons, List.getElem?_append_left (by show 0 * 11 + k < 11; omega), Nat.zero_mul, Nat.zero_add]; exact hk
    | succ j =>
      rw [List.flatMap_cons, List.getElem?_append_right (by show 11 ≤ _; omega), show (j + 1) * 11 + k - x.row.length = j * 11 + k by show (j + 1) * 11 + k - 11 = _; omega]
      exact ih j d (by simpa using h) k u hk
/-- The labels of an arena's blocks: 2 itself, 5 its nodes, from 9 on the kids of each. -/
def cAr (l : Nat) : Bool := l == 2 || l == 5 || decide (9 ≤ l)
/-- An arena. -/
structure ArH (own : Nat → Nat) (w : World) (ap : Nat) (nv : Value) (l : List NB) : Prop where
  o : own ap = 2
  h : w.heap[ap]? = some (.cells #[nv] 109 (0, 0))
  s : SlO own 5 w 54 11 nv l.length (l.flatMap NB.row)
  k : ∀ (j : Nat) (x : NB), l[j]? = some x → SlO own (9 + j) w 3 1 x.kv x.n.kids.length (ints x.n.kids)
def ArAt (own : Nat → Nat) (w : World) (ap : Nat) (a : Ar) : Prop := ∃ nv l, a = l.map NB.n ∧ ArH own w ap nv l
theorem ArH.keep {c : Nat → Bool} {own own' : Nat → Nat} {w w' : World} {ap : Nat} {nv : Value} {l : List NB} (h : ArH own w ap nv l) (hf : Fr c own own' w w') (hc : ∀ x, cAr x = true → c x = false) : ArH own' w' ap nv l :=
  ⟨by rw [hf.old ap (row_lt h.h)]; exact h.o, hf.keep h.h (by rw [h.o]; exact hc 2 rfl), h.s.keep hf (hc 5 rfl), fun j x hj => (h.k j x hj).keep hf (hc _ (by simp [cAr]))⟩
theorem ArAt.keep {c : Nat → Bool} {own own' : Nat → Nat} {w w' : World} {ap : Nat} {a : Ar} (h : ArAt own w ap a) (hf : Fr c own own' w w') (hc : ∀ x, cAr x = true → c x = false) : ArAt own' w' ap a := by
  obtain ⟨nv, l, ha, hA⟩ := h
  exact ⟨nv, l, ha, hA.keep hf hc⟩
theorem ArH.below {own : Nat → Nat} {w w' : World} {ap : Nat} {nv : Value} {l : List NB} (h : ArH own w ap nv l) (hb : Below w.heap.size w w') (hL : Lbl own w) : ArH own w' ap nv l :=
  h.keep (c := fun _ => false) (Fr.of_below hb hL) (fun _ _ => rfl)
/-- The cells of a node. -/
theorem ArH.cells {own : Nat → Nat} {w : World} {ap : Nat} {nv : Value} {l : List NB} (h : ArH own w ap nv l) {j : Nat} {x : NB} (hj : l[j]? = some x) : ∃ g cap, nv = .slice (some ⟨g, 0, none⟩) l.length cap ∧ l.length ≤ cap ∧ own g = 5 ∧ g < w.heap.size ∧ ∀ k u, x.row[k]? = some u → w.cell? ⟨g, j * 11 + k, none⟩ = some u := by
  obtain ⟨g, cap, e, hc, _⟩ := h.s.1.cell (nrows_at l j x hj 0 _ rfl)
  refine ⟨g, cap, e, hc, (h.s.2 g (by rw [e]; rfl)).1, (h.s.2 g (by rw [e]; rfl)).2, fun k u hk => ?_⟩
  obtain ⟨g', cap', e', _, hu⟩ := h.s.1.cell (nrows_at l j x hj k u hk)
  rw [e] at e'
  injection e' with e1 e2 e3
  injection e1 with e1
  injection e1 with e1
  subst e1
  exact hu
theorem row11 {w : World} {g o : Nat} {x : NB} (h : ∀ k u, x.row[k]? = some u → w.cell? ⟨g, o + k, none⟩ = some u) :
    w.cell? ⟨g, o, none⟩ = some (.int .i64 x.n.kind) ∧ w.cell? ⟨g, o + 1, none⟩ = some (.string x.n.name) ∧ w.cell? ⟨g, o + 2, none⟩ = some (.string x.n.text) ∧ w.cell? ⟨g, o + 3, none⟩ = some (.int .i64 x.n.space) ∧ w.cell? ⟨g, o + 4, none⟩ = some (.slice none 0 0) ∧ w.cell? ⟨g, o + 5, none⟩ = some (.bool x.n.dup) ∧ w.cell? ⟨g, o + 6, none⟩ = some (.int .i64 x.n.parent) ∧ w.cell? ⟨g, o + 7, none⟩ = some (.int .i64 x.n.content) ∧ w.cell? ⟨g, o + 8, none⟩ = some x.kv ∧ w.cell? ⟨g, o + 9, none⟩ = some (.int .i64 x.n.frm) ∧ w.cell? ⟨g, o + 10, none⟩ = some (.int .i64 x.n.till) :=
  ⟨h 0 _ rfl, h 1 _ rfl, h 2 _ rfl, h 3 _ rfl, h 4 _ rfl, h 5 _ rfl, h 6 _ rfl, h 7 _ rfl, h 8 _ rfl, h 9 _ rfl, h 10 _ rfl⟩
theorem Len_any {own : Nat → Nat} {w : World} {ap : Nat} {nv : Value} {l : List NB} (h : ArH own w ap nv l) : Calls Tryz.prog 45 #[.pointer (some ⟨ap, 0, none⟩)] w (RI l.length w) := by
  have c0 := rowAt h.h 0 _ rfl
  obtain ⟨a, c, rfl, _⟩ := h.s.1.form
  clear h
  go_enter Tryz.func45, Tryz.ntmps45
  go_wp2_with fail
  go_ret
  exact ⟨rfl, rfl⟩
theorem Len_nil (w : World) : Calls Tryz.prog 45 #[.pointer none] w (RI 0 w) := by
  go_enter Tryz.func45, Tryz.ntmps45
  go_wp2_with fail
  go_ret
  exact ⟨rfl, rfl⟩
theorem none_any {own : Nat → Nat} {w : World} {ap : Nat} {nv : Value} {l : List NB} (h : ArH own w ap nv l) (hl : l ≠ []) : Calls Tryz.prog 121 #[.pointer (some ⟨ap, 0, none⟩)] w (RB false w) := by
  have c0 := rowAt h.h 0 _ rfl
  have hz : ((l.length : Int) == 0) = false := by rw [beq_eq_false_iff_ne]; cases l with | nil => exact absurd rfl hl | cons x r => simp; omega
  obtain ⟨a, c, rfl, _⟩ := h.s.1.form
  clear h
  go_enter Tryz.func121, Tryz.ntmps121
  go_wp2_with fail
  go_ret
  exact ⟨rfl, rfl⟩
theorem rd_of {l : List NB} {j : Nat} {x : NB} (h : l[j]? = some x) : rd (l.map NB.n) (j : Int) = x.n := by
  unfold rd
  rw [show ((j : Int)).toNat = j from rfl, List.getD_eq_getElem?_getD, List.getElem?_map, h]; rfl
theorem has_of {l : List NB} {j : Nat} {x : NB} (h : l[j]? = some x) : has (l.map NB.n) (j : Int) = true := by
  have := (List.getElem?_eq_some_iff.1 h).1
  unfold has
  rw [List.length_map]
  simp; omega
theorem has_ex {l : List NB} {i : Int} (h : has (l.map NB.n) i = true) : ∃ (j : Nat) (x : NB), i = (j : Int) ∧ l[j]? = some x := by
  unfold has at h
  rw [List.length_map, Bool.and_eq_true, decide_eq_true_eq, decide_eq_true_eq] at h
  obtain ⟨j, rfl⟩ : ∃ j : Nat, i = (j : Int) := ⟨i.toNat, by omega⟩
  exact ⟨j, _, rfl, List.getElem?_eq_getElem (by omega)⟩
theorem kid_any (k : Int) (w : World) : Calls Tryz.prog 125 #[.int .i64 k] w (RB (kidK k) w) := by
  obtain ⟨R, hR⟩ : ∃ R, R = kidK k := ⟨_, rfl⟩
  rw [← hR]
  unfold kidK at hR
  obtain ⟨q1, h1⟩ : ∃ q, (k == 2) = q := ⟨_, rfl⟩
  obtain ⟨q2, h2⟩ : ∃ q, (k == 3) = q := ⟨_, rfl⟩
  obtain ⟨q3, h3⟩ : ∃ q, (k == 4) = q := ⟨_, rfl⟩
  obtain ⟨q4, h4⟩ : ∃ q, (k == 5) = q := ⟨_, rfl⟩
  rw [h1, h2, h3, h4] at hR
  have HR := Lib.hid hR
  clear hR
  go_enter Tryz.func125, Tryz.ntmps125
  cases q1 <;> cases q2 <;> cases q3 <;> cases q4 <;> (go_wp2_with fail; go_ret; exact ⟨by rw [HR.out]; rfl, rfl⟩)
theorem has_any {own : Nat → Nat} {w : World} {ap : Nat} {nv : Value} {l : List NB} (i : Int) (h : ArH own w ap nv l) : Calls Tryz.prog 112 #[.pointer (some ⟨ap, 0, none⟩), .int .i64 i] w (RB (has (l.map NB.n) i) w) := by
  have cL := Lib.hid (Len_any h)
  obtain ⟨R, hR⟩ : ∃ R, R = has (l.map NB.n) i := ⟨_, rfl⟩
  rw [← hR]
  unfold has at hR
  rw [List.length_map] at hR
  generalize l.length = n at *
  have HR := Lib.hid hR
  clear hR h
  by_cases h0 : 0 ≤ i
  · by_cases h1 : i < (n : Int)
    · have HQ : Hid (R = true) := by show _ = _; rw [HR.out, decide_eq_true h0, decide_eq_true h1]; rfl
      clear HR
      go_enter Tryz.func112, Tryz.ntmps112
      go_wp2_with fail
      refine cL.out.mono ?_
      rintro e w1 ⟨rfl, rfl⟩
      go_wp2_with fail
      go_ret
      exact ⟨by rw [HQ.out]; rfl, rfl⟩
    · have HF := Lib.hid (decide_eq_false h1)
      have HQ : Hid (R = false) := by show _ = _; rw [HR.out, decide_eq_false h1, Bool.and_false]
      clear HR
      go_enter Tryz.func112, Tryz.ntmps112
      go_wp2_with fail
      refine cL.out.mono ?_
      rintro e w1 ⟨rfl, rfl⟩
      go_wp2_with fail
      go_ret
      exact ⟨by rw [HQ.out, ← HF.out]; rfl, rfl⟩
  · have HQ : Hid (R = false) := by show _ = _; rw [HR.out, decide_eq_false h0]; rfl
    clear HR cL
    go_enter Tryz.func112, Tryz.ntmps112
    go_wp2_with fail
    go_ret
    exact ⟨by rw [HQ.out]; rfl, rfl⟩
end Go.Proofs.YtnbdalohlldnbaaGreatDoor

namespace Go.Proofs.YtnbdalohlldnbaaGreatDoor
open Go.RowKit Bd
attribute [local go_sem ↓] Go.wp_at_zero Go.wp_at_succ
theorem up_any {own : Nat → Nat} {w : World} {ap : Nat} {nv : Value} {l : List NB} {j : Nat} {x : NB} (h : ArH own w ap nv l) (hj : l[j]? = some x) (hs : l.length ≤ 1000000) : Calls Tryz.prog 170 #[.pointer (some ⟨ap, 0, none⟩), .int .i64 (j : Int)] w (RI (up (l.map NB.n) (j : Int)) w) := by
  have c0 := rowAt h.h 0 _ rfl
  have hlt := (List.getElem?_eq_some_iff.1 hj).1
  obtain ⟨g, cap, rfl, hcap, _, _, hc⟩ := h.cells hj
  obtain ⟨k0, k1, k2, k3, k4, k5, k6, k7, k8, k9, k10⟩ := row11 hc
  have hR : up (l.map NB.n) (j : Int) = if x.n.kind == 6 then (j : Int) - 1 else x.n.parent := by unfold up; rw [rd_of hj]
  rw [hR]
  generalize l.length = n at *
  obtain ⟨xn, kv⟩ := x
  obtain ⟨kd, nm, tx, sp, dp, pr, cn, ks, fr, tt⟩ := xn
  dsimp only at *
  have i0 : (0 : Int) ≤ (j : Int) := by omega
  have i1 : (j : Int) < (n : Int) := by omega
  have i2 : IntKind.i64.wrap ((j : Int) - 1) = (j : Int) - 1 := IntWalk.i64_in _ (by omega)
  clear h hj hc hR hcap
  obtain ⟨q, hq⟩ : ∃ q, (kd == 6) = q := ⟨_, rfl⟩
  rw [hq]
  go_enter Tryz.func170, Tryz.ntmps170
  cases q
  · go_wp2_with fail
    go_ret
    exact ⟨rfl, rfl⟩
  · go_wp2_with fail
    go_ret
    exact ⟨rfl, rfl⟩
theorem holds_any {own : Nat → Nat} {w : World} {ap : Nat} {nv : Value} {l : List NB} (i : Int) (h : ArH own w ap nv l) : Calls Tryz.prog 122 #[.pointer (some ⟨ap, 0, none⟩), .int .i64 i] w (RB (holds (l.map NB.n) i) w) := by
  have cH := Lib.hid (has_any i h)
  cases hh : has (l.map NB.n) i with
  | false =>
    rw [hh] at cH
    have hR : holds (l.map NB.n) i = false := by unfold holds; rw [hh]; rfl
    rw [hR]
    clear hR hh h
    go_enter Tryz.func122, Tryz.ntmps122
    go_wp2_with fail
    refine cH.out.mono ?_
    rintro e w1 ⟨rfl, rfl⟩
    go_wp2_with fail
    go_ret
    exact ⟨rfl, rfl⟩
  | true =>
    rw [hh] at cH
    obtain ⟨j, x, rfl, hj⟩ := has_ex hh
    have c0 := rowAt h.h 0 _ rfl
    have hlt := (List.getElem?_eq_some_iff.1 hj).1
    have hR : holds (l.map NB.n) (j : Int) = (x.n.kind == 1 || x.n.kind == 3 || x.n.kind == 6) := by unfold holds; rw [hh, rd_of hj]; rfl
    rw [hR]
    obtain ⟨g, cap, rfl, hcap, _, _, hc⟩ := h.cells hj
    have k0 := (row11 hc).1
    generalize l.length = n at *
    generalize x.n.kind = kd at *
    have i0 : (0 : Int) ≤ (j : Int) := by omega
    have i1 : (j : Int) < (n : Int) := by omega
    obtain ⟨q1, h1⟩ : ∃ q, (kd == 1) = q := ⟨_, rfl⟩
    obtain ⟨q2, h2⟩ : ∃ q, (kd == 3) = q := ⟨_, rfl⟩
    obtain ⟨q3, h3⟩ : ∃ q, (kd == 6) = q := ⟨_, rfl⟩
    rw [h1, h2, h3]
    clear hR hh h hj hc hcap
    go_enter Tryz.func122, Tryz.ntmps122
    cases q1 <;> cases q2 <;> cases q3 <;> (go_wp2_with fail; refine cH.out.mono ?_; rintro e w1 ⟨rfl, rfl⟩; go_wp2_with fail; go_ret; exact ⟨rfl, rfl⟩)
theorem hangs_any {own : Nat → Nat} {w : World} {ap : Nat} {nv : Value} {l : List NB} (i : Int) (h : ArH own w ap nv l) : Calls Tryz.prog 128 #[.pointer (some ⟨ap, 0, none⟩), .int .i64 i] w (RB (hangs (l.map NB.n) i) w) := by
  have cH := Lib.hid (has_any i h)
  cases hh : has (l.map NB.n) i with
  | false =>
    rw [hh] at cH
    have hR : hangs (l.map NB.n) i = false := by unfold hangs; rw [hh]; rfl
    rw [hR]
    clear hR hh h
    go_enter Tryz.func128, Tryz.ntmps128
    go_wp2_with fail
    refine cH.out.mono ?_
    rintro e w1 ⟨rfl, rfl⟩
    go_wp2_with fail
    go_ret
    exact ⟨rfl, rfl⟩
  | true =>
    rw [hh] at cH
    obtain ⟨j, x, rfl, hj⟩ := has_ex hh
    have c0 := rowAt h.h 0 _ rfl
    have hlt := (List.getElem?_eq_some_iff.1 hj).1
    have hR : hangs (l.map NB.n) (j : Int) = kidK x.n.kind := by unfold hangs; rw [hh, rd_of hj]; rfl
    rw [hR]
    obtain ⟨g, cap, rfl, hcap, _, _, hc⟩ := h.cells hj
    have k0 := (row11 hc).1
    generalize l.length = n at *
    generalize x.n.kind = kd at *
    have i0 : (0 : Int) ≤ (j : Int) := by omega
    have i1 : (j : Int) < (n : Int) := by omega
    have cK := Lib.hid (kid_any kd w)
    generalize kidK kd = q at *
    clear hR hh h hj hc hcap
    go_enter Tryz.func128, Tryz.ntmps128
    go_wp2_with fail
    refine cH.out.mono ?_
    rintro e w1 ⟨rfl, rfl⟩
    go_wp2_with fail
    refine cK.out.mono ?_
    rintro e w1 ⟨rfl, rfl⟩
    go_wp2_with fail
    go_ret
    exact ⟨rfl, rfl⟩
/-- A slice of numbers that can be read. -/
def IntsAt (w : World) (v : Value) (l : List Int) : Prop := ∃ a c, v = .slice a l.length c ∧ ∀ j x, l[j]? = some x → ∃ g off, a = some ⟨g, off, none⟩ ∧ w.cell? ⟨g, off + j, none⟩ = some (.int .i64 x)
theorem IntsAt.below {w w' : World} {v : Value} {l : List Int} (h : IntsAt w v l) (hb : Below w.heap.size w w') : IntsAt w' v l := by
  obtain ⟨a, c, e, hc⟩ := h
  refine ⟨a, c, e, fun j x hj => ?_⟩
  obtain ⟨g, off, e1, hu⟩ := hc j x hj
  exact ⟨g, off, e1, (hb.cell (World.block_lt_of_cell? _ _ hu)).trans hu⟩
theorem IntsAt.keep {w w' : World} {a : Option Addr} {n c : Nat} {l : List Int} (h : IntsAt w (.slice a n c) l) (hk : ∀ g off, a = some ⟨g, off, none⟩ → w'.heap[g]? = w.heap[g]?) : IntsAt w' (.slice a n c) l := by
  obtain ⟨a1, c1, e, hc⟩ := h
  injection e with e1 e2 e3
  subst e1; subst e2; subst e3
  refine ⟨a, c, rfl, fun j x hj => ?_⟩
  obtain ⟨g, off, e1, hu⟩ := hc j x hj
  exact ⟨g, off, e1, (World.cell?_of_block (w := w) (hk g off e1)).trans hu⟩
theorem SlO.ints {own : Nat → Nat} {q : Nat} {w : World} {v : Value} {l : List Int} (h : SlO own q w 3 1 v l.length (ints l)) : IntsAt w v l := by
  obtain ⟨a, c, rfl, _⟩ := h.1.form
  refine ⟨a, c, rfl, fun j x hj => ?_⟩
  obtain ⟨g, cap, e, _, hu⟩ := h.1.cell (ints_get hj)
  injection e with e
  exact ⟨g, 0, e, by rw [Nat.zero_add]; exact hu⟩
/-- The clone of numbers: new ones, or none. -/
def RClI (l : List Int) (w : World) (e : Ending) (w' : World) : Prop := ∃ a n c, e = .returned (.slice a n c) ∧ IntsAt w' (.slice a n c) l ∧ (∀ g off, a = some ⟨g, off, none⟩ → w.heap.size ≤ g) ∧ Below w.heap.size w w'
set_option maxHeartbeats 1000000 in
theorem CloneI_any (v : Value) (l : List Int) (w : World) (h : IntsAt w v l) (hL : l.length ≤ 1000000000) : Calls Tryz.prog 62 #[v] w (RClI l w) := by
  obtain ⟨i0, hi, hz0, hz1, hz2⟩ := info_parts infoInt
  obtain ⟨a, c, rfl, hx⟩ := h
  cases a with
  | none =>
    have hl : l = [] := by
      cases l with
      | nil => rfl
      | cons x r => obtain ⟨_, _, e, _⟩ := hx 0 x rfl; cases e
    subst hl
    have hnil := fun W : World => Lib.run_eql_slice_nil (P := Tryz.prog) W 29 3 none 0 c 0 0 Tryz.underlying29
    clear hx
    go_enter Tryz.func62, Tryz.ntmps62
    go_wp2_with fail
    go_ret
    exact ⟨none, 0, 0, rfl, ⟨none, 0, rfl, fun j x hj => by cases hj⟩, (fun g off e => by cases e), Below.refl _ _⟩
  | some p =>
    have hnews : ∀ (j : Nat) (u : Value), (ints l)[j]? = some u → w.cell? (p.add j) = some u := by
      intro j u hj
      unfold ints at hj
      rw [List.getElem?_map, Option.map_eq_some_iff] at hj
      obtain ⟨x, hj, rfl⟩ := hj
      obtain ⟨G, off, hp, hc⟩ := hx j x hj
      obtain rfl : p = ⟨G, off, none⟩ := Option.some.inj hp
      rw [addr_add']; exact hc
    have hlt : ∀ (j : Nat) (u : Value), (ints l)[j]? = some u → (p.add j).block < w.heap.size := fun j u hj => World.block_lt_of_cell? _ _ (hnews j u hj)
    have hn2 : Hid (∀ (j : Nat) (u : Value), (ints l)[j]? = some u → (w.alloc (.cells #[] 3)).cell? (p.add j) = some u) := Lib.hid (fun j u hj => by
      rw [World.cell?_alloc_lt _ _ _ (hlt j u hj)]; exact hnews j u hj)
    have Hown0 := Lib.hid (World.ownsRow_made (base := w.heap.size) (e := 3) (size := 1) w #[] 0 (Nat.le_refl _) (Nat.zero_le _) rfl)
    have hnil := fun W : World => Lib.run_eql_slice_nil (P := Tryz.prog) W 29 3 (some p) l.length c 0 0 Tryz.underlying29
    clear hnews hlt hx
    go_enter Tryz.func62, Tryz.ntmps62
    go_wp2_with (at_builtin; refine wpList_append_own _ rfl (.tmp 5) (.tmp 6) 29 rfl w.heap.size 3 i0 (.int .i64 0) 1 8 Tryz.underlying29 hi hz0 hz1 hz2 rfl (by decide) _ 0 [] rfl Hown0.out p l.length c (ints l) rfl (by rw [ints_len, Nat.mul_one]) hn2.out (ints_one l) (by unfold maxLen; omega) (by omega) (by simp) ?_)
    intro v' w' hown hg _
    have hb : Below w.heap.size w w' := ((Below.refl _ w).alloc (Nat.le_refl _) _).grown hg (by simp) (fun k hk => by simp [Value.ownBlock] at hk; omega)
    try rw [Nat.zero_add, List.nil_append] at hown
    have hP : ∃ a' c', v' = .slice a' l.length c' ∧ IntsAt w' v' l ∧ ∀ g off, a' = some ⟨g, off, none⟩ → w.heap.size ≤ g := by
      rcases hown.2 with ⟨rfl, h0⟩ | ⟨g, cap, cur, rfl, hbg, _⟩
      · exact ⟨none, 0, by rw [h0], ⟨none, 0, by rw [h0], fun j x hj => by rw [List.eq_nil_of_length_eq_zero h0] at hj; cases hj⟩, (fun g off e => by cases e)⟩
      · refine ⟨_, _, rfl, ⟨_, _, rfl, fun j x hj => ⟨g, 0, rfl, ?_⟩⟩, fun g' off e => by injection e with e; injection e with e; omega⟩
        have e := World.ownsRow.cells hown (g := g) rfl _ _ (ints_get hj)
        rw [addr_add'] at e
        exact e
    obtain ⟨a', c', rfl, hP⟩ := hP
    have HP := Lib.hid hP
    clear hown hg hP
    go_wp2_with fail
    go_ret
    exact ⟨a', _, c', rfl, HP.out.1, HP.out.2, hb⟩
theorem CloneA_any (w : World) : Calls Tryz.prog 113 #[.slice none 0 0] w fun e w' => e = .returned (.slice none 0 0) ∧ w = w' := by
  have hnil := fun W : World => Lib.run_eql_slice_nil (P := Tryz.prog) W 22 113 none 0 0 0 0 Tryz.underlying22
  go_enter Tryz.func113, Tryz.ntmps113
  go_wp2_with fail
  go_ret
  exact ⟨rfl, rfl⟩
end Go.Proofs.YtnbdalohlldnbaaGreatDoor

namespace Go.Proofs.YtnbdalohlldnbaaGreatDoor
open Go.RowKit Bd
attribute [local go_sem ↓] Go.wp_at_zero Go.wp_at_succ
theorem nodeSize : (Tryz.prog.info? 54).map (·.size) = some 11 := by kernel_rfl
theorem frozen_row {w : World} {R : Nat} {cs : Array Value} {t : TypeId} (h : w.heap[R]? = some (.cells cs t (0, 0))) (k : Nat) : w.frozen? ⟨R, k, none⟩ = false := by simp [World.frozen?, h]
abbrev zeroNd : Array Value := #[.int .i64 0, .string ⟨#[]⟩, .string ⟨#[]⟩, .int .i64 0, .slice none 0 0, .bool false, .int .i64 0, .int .i64 0, .slice none 0 0, .int .i64 0, .int .i64 0]
set_option maxHeartbeats 1000000 in
set_option maxRecDepth 100000 in
theorem bare_any (x : NB) (w : World) : Calls Tryz.prog 126 #[x.val] w fun e w' => e = .returned (NB.val ⟨bare x.n, .slice none 0 0⟩) ∧ Below w.heap.size w w' := by
  obtain ⟨⟨kd, nm, tx, sp, dp, pr, cn, ks, fr, tt⟩, kv⟩ := x
  obtain ⟨Wa, hWa⟩ : ∃ W, W = w.alloc (.cells #[.int .i64 kd, .string nm, .string tx, .int .i64 sp, .slice none 0 0, .bool dp, .int .i64 pr, .int .i64 cn, kv, .int .i64 fr, .int .i64 tt] 54) := ⟨_, rfl⟩
  obtain ⟨W, hW⟩ : ∃ W, W = Wa.alloc (.cells zeroNd 54) := ⟨_, rfl⟩
  have hba : Below w.heap.size w Wa := by rw [hWa]; exact (Below.refl _ w).alloc (Nat.le_refl _) _
  have hbb : Below Wa.heap.size Wa W := by rw [hW]; exact (Below.refl _ _).alloc (Nat.le_refl _) _
  have hb : Below w.heap.size w W := below_call hba hbb
  have ra : Wa.heap[w.heap.size]? = some (.cells #[.int .i64 kd, .string nm, .string tx, .int .i64 sp, .slice none 0 0, .bool dp, .int .i64 pr, .int .i64 cn, kv, .int .i64 fr, .int .i64 tt] 54 (0, 0)) := by rw [hWa]; exact heap_new _ _
  have r0 := (hbb.block _ (row_lt ra)).trans ra
  have hs : Wa.heap.size = w.heap.size + 1 := by rw [hWa]; simp
  have r1 : W.heap[w.heap.size + 1]? = some (.cells zeroNd 54 (0, 0)) := by rw [hW, ← hs]; exact heap_new _ _
  obtain ⟨b, hbn⟩ : ∃ b, b = w.heap.size := ⟨_, rfl⟩
  have q0 := row_setC r0 4 (.slice none 0 0)
  have q1 := row_setC q0 6 (.int .i64 (-1))
  have q2 := row_setC q1 7 (.int .i64 0)
  have q3 := row_setC q2 8 (.slice none 0 0)
  have c4 := rowAt r0 4 _ rfl
  have c6 := rowAt r0 6 _ rfl
  have c7 := rowAt r0 7 _ rfl
  have c8 := rowAt r0 8 _ rfl
  have z0 := frozen_row r0 4
  have z1 := frozen_row r0 6
  have z2 := frozen_row r0 7
  have z3 := frozen_row r0 8
  obtain ⟨W4, hW4⟩ : ∃ V, V = (((W.setCell ⟨w.heap.size, 4, none⟩ (.slice none 0 0)).setCell ⟨w.heap.size, 6, none⟩ (.int .i64 (-1))).setCell ⟨w.heap.size, 7, none⟩ (.int .i64 0)).setCell ⟨w.heap.size, 8, none⟩ (.slice none 0 0) := ⟨_, rfl⟩
  have hb4 : Below w.heap.size w W4 := by rw [hW4]; exact (((hb.setCell (p := ⟨w.heap.size, 4, none⟩) (Nat.le_refl _) _).setCell (p := ⟨w.heap.size, 6, none⟩) (Nat.le_refl _) _).setCell (p := ⟨w.heap.size, 7, none⟩) (Nat.le_refl _) _).setCell (p := ⟨w.heap.size, 8, none⟩) (Nat.le_refl _) _
  have r14 : W4.heap[w.heap.size + 1]? = some (.cells zeroNd 54 (0, 0)) := by
    rw [hW4, Below.heap_setCell _ _ _ _ (by simp), Below.heap_setCell _ _ _ _ (by simp), Below.heap_setCell _ _ _ _ (by simp), Below.heap_setCell _ _ _ _ (by simp)]; exact r1
  rw [← hW4] at q3
  have HW : Hid (W = (w.alloc (.cells #[.int .i64 kd, .string nm, .string tx, .int .i64 sp, .slice none 0 0, .bool dp, .int .i64 pr, .int .i64 cn, kv, .int .i64 fr, .int .i64 tt] 54)).alloc (.cells zeroNd 54)) := Lib.hid (by rw [hW, hWa])
  have HW4 := Lib.hid hW4
  have Q3 : Hid (W4.heap[w.heap.size]? = some (.cells #[.int .i64 kd, .string nm, .string tx, .int .i64 sp, .slice none 0 0, .bool dp, .int .i64 (-1), .int .i64 0, .slice none 0 0, .int .i64 fr, .int .i64 tt] 54 (0, 0))) := Lib.hid q3
  have R14 := Lib.hid r14
  have cA := Lib.hid (CloneA_any W)
  clear hW hWa hba hbb ra r0 r1 q0 q1 q2 q3 hW4 r14 hbn hs
  show Calls _ _ #[.agg #[_, _, _, _, _, _, _, _, _, _, _]] _ _
  dsimp only [NB.val, NB.row]
  go_enter Tryz.func126, Tryz.ntmps126
  go_upto_region 1 with fail
  rw [← HW.out]
  go_wp2_with fail
  refine cA.out.mono ?_
  rintro e w1 ⟨rfl, rfl⟩
  go_upto_region 3 with fail
  rw [← HW4.out]
  go_wp2_with (first | (refine wpList_load_row rfl 54 (.tmp 1) rfl w.heap.size rfl 54 _ (0, 0) _ Q3.out Tryz.underlying54 rfl nodeSize ?_) | (refine wpList_store_row rfl 54 (.tmp 2) (.tmp 10) rfl (w.heap.size + 1) #[.int .i64 kd, .string nm, .string tx, .int .i64 sp, .slice none 0 0, .bool dp, .int .i64 (-1), .int .i64 0, .slice none 0 0, .int .i64 fr, .int .i64 tt] rfl rfl 54 _ R14.out nodeSize rfl (by simp [Value.oneCell']) ?_))
  refine bodyPost_ret (results_cell_row (P := Tryz.prog) (p := 2) rfl _ _ (w.heap.size + 1) 54 #[.int .i64 kd, .string nm, .string tx, .int .i64 sp, .slice none 0 0, .bool dp, .int .i64 (-1), .int .i64 0, .slice none 0 0, .int .i64 fr, .int .i64 tt] (0, 0) _ rfl (setRow_heap _ _ _ _ _ _ R14.out) Tryz.underlying54 rfl nodeSize) rfl ?_
  exact ⟨rfl, below_setRow hb4 (by omega)⟩
/-- A node that is told: its kids are numbers that can be read, in a block that was not there. -/
def RNode (n : NodeL) (w : World) (e : Ending) (w' : World) : Prop := ∃ a k c, e = .returned (NB.val ⟨n, .slice a k c⟩) ∧ IntsAt w' (.slice a k c) n.kids ∧ (∀ g off, a = some ⟨g, off, none⟩ → w.heap.size ≤ g) ∧ Below w.heap.size w w'
set_option maxHeartbeats 1000000 in
set_option maxRecDepth 100000 in
theorem Node_any {own : Nat → Nat} {w : World} {ap : Nat} {nv : Value} {l : List NB} (i : Int) (h : ArH own w ap nv l) (hL : Lbl own w) (hkl : ∀ x ∈ l, x.n.kids.length ≤ 1000000) : Calls Tryz.prog 46 #[.pointer (some ⟨ap, 0, none⟩), .int .i64 i] w (RNode (node (l.map NB.n) i) w) := by
  obtain ⟨W1, hW1⟩ : ∃ W, W = w.alloc (.cells zeroNd 54) := ⟨_, rfl⟩
  have hb1 : Below w.heap.size w W1 := by rw [hW1]; exact (Below.refl _ w).alloc (Nat.le_refl _) _
  have r1 : W1.heap[w.heap.size]? = some (.cells zeroNd 54 (0, 0)) := by rw [hW1]; exact heap_new _ _
  have hs1 : W1.heap.size = w.heap.size + 1 := by rw [hW1]; simp
  have h1 := h.below hb1 hL
  have cH := Lib.hid (has_any i h1)
  have HW1 := Lib.hid hW1
  have R1 := Lib.hid r1
  cases hh : has (l.map NB.n) i with
  | false =>
    rw [hh] at cH
    have hR : node (l.map NB.n) i = nd0 := by unfold node; rw [hh]; rfl
    rw [hR]
    clear hR hh h h1 hW1 r1 hs1 hkl
    go_enter Tryz.func46, Tryz.ntmps46
    go_upto_region 1 with fail
    rw [← HW1.out]
    go_wp2_with fail
    refine cH.out.mono ?_
    rintro e w1 ⟨rfl, rfl⟩
    go_wp2_with (refine wpList_store_row rfl 54 (.tmp 4) (.tmp 10) rfl w.heap.size zeroNd rfl rfl 54 _ R1.out nodeSize rfl (by simp [Value.oneCell']) ?_)
    refine bodyPost_ret (results_cell_row (P := Tryz.prog) (p := 4) rfl _ _ w.heap.size 54 zeroNd (0, 0) _ rfl (setRow_heap _ _ _ _ _ _ R1.out) Tryz.underlying54 rfl nodeSize) rfl ?_
    exact ⟨none, 0, 0, rfl, ⟨none, 0, rfl, fun j x hj => by cases hj⟩, (fun g off e => by cases e), below_setRow hb1 (Nat.le_refl _)⟩
  | true =>
    rw [hh] at cH
    obtain ⟨j, x, rfl, hj⟩ := has_ex hh
    have hR : node (l.map NB.n) (j : Int) = x.n := by unfold node; rw [hh, if_pos rfl]; exact rd_of hj
    rw [hR]
    have c0 := rowAt h1.h 0 _ rfl
    have hlt := (List.getElem?_eq_some_iff.1 hj).1
    have hK1 : IntsAt W1 x.kv x.n.kids := SlO.ints (h1.k j x hj)
    obtain ⟨a5, c5, e5, _⟩ := id hK1
    have hkx := hkl x (List.mem_of_getElem? hj)
    obtain ⟨g, cap, rfl, hcap, _, hgs, hc⟩ := h1.cells hj
    obtain ⟨k0, k1, k2, k3, k4, k5, k6, k7, k8, k9, k10⟩ := row11 hc
    generalize l.length = n at *
    obtain ⟨⟨kd, nm, tx, sp, dp, pr, cn, ks, fr, tt⟩, kv⟩ := x
    dsimp only at *
    subst e5
    have i0 : (0 : Int) ≤ (j : Int) := by omega
    have i1 : (j : Int) < (n : Int) := by omega
    obtain ⟨Wz, hWz⟩ : ∃ W, W = W1.alloc (.cells zeroNd 54) := ⟨_, rfl⟩
    have hbz : Below W1.heap.size W1 Wz := by rw [hWz]; exact (Below.refl _ _).alloc (Nat.le_refl _) _
    have rz : Wz.heap[W1.heap.size]? = some (.cells zeroNd 54 (0, 0)) := by rw [hWz]; exact heap_new _ _
    obtain ⟨W2, hW2⟩ : ∃ W, W = Wz.setRow W1.heap.size #[.int .i64 kd, .string nm, .string tx, .int .i64 sp, .slice none 0 0, .bool dp, .int .i64 pr, .int .i64 cn, .slice a5 ks.length c5, .int .i64 fr, .int .i64 tt] := ⟨_, rfl⟩
    have hb2 : Below W1.heap.size W1 W2 := by rw [hW2]; exact below_setRow hbz (Nat.le_refl _)
    have hr : W2.heap[W1.heap.size]? = some (.cells #[.int .i64 kd, .string nm, .string tx, .int .i64 sp, .slice none 0 0, .bool dp, .int .i64 pr, .int .i64 cn, .slice a5 ks.length c5, .int .i64 fr, .int .i64 tt] 54 (0, 0)) := by rw [hW2]; exact setRow_heap _ _ _ _ _ _ rz
    have hk := hK1.below hb2
    have hs2 : W2.heap.size = W1.heap.size + 1 := by rw [hW2]; simp [World.setRow, hWz]
    have hw2 : W2.heap[w.heap.size]? = some (.cells zeroNd 54 (0, 0)) := (hb2.block _ (row_lt r1)).trans r1
    obtain ⟨b, hbb⟩ : ∃ b, b = W1.heap.size := ⟨_, rfl⟩
    rw [← hbb] at hr rz hW2 hs2 hs1
    have Hb := Lib.hid hbb
    have hb12 : Below w.heap.size w W2 := below_call hb1 hb2
    have HW2 : Hid (W2 = (W1.alloc (.cells zeroNd 54)).setRow b #[.int .i64 kd, .string nm, .string tx, .int .i64 sp, .slice none 0 0, .bool dp, .int .i64 pr, .int .i64 cn, .slice a5 ks.length c5, .int .i64 fr, .int .i64 tt]) := Lib.hid (by rw [hW2, hWz])
    have HZ : Hid ((W1.alloc (.cells zeroNd 54)).heap[W1.heap.size]? = some (.cells zeroNd 54 (0, 0))) := Lib.hid (heap_new _ _)
    have Hw2 : Hid (∀ V, Below b W2 V → V.heap[w.heap.size]? = some (.cells zeroNd 54 (0, 0))) := Lib.hid (fun V hV => (hV.block _ (by omega)).trans hw2)
    have hbs : Hid (w.heap.size ≤ b) := Lib.hid (by omega)
    clear hR hh h h1 hj hc hcap hW1 hWz hbz rz hW2 r1 hs1 hw2 hkl hK1 hb1 hb2 hbb hgs R1
    go_enter Tryz.func46, Tryz.ntmps46
    go_upto_region 1 with fail
    rw [← HW1.out]
    go_wp2_with fail
    refine cH.out.mono ?_
    rintro e w1 ⟨rfl, rfl⟩
    go_upto_region 4 with (refine wpList_store_row rfl 54 (.tmp 5) (.tmp 17) rfl W1.heap.size #[.int .i64 kd, .string nm, .string tx, .int .i64 sp, .slice none 0 0, .bool dp, .int .i64 pr, .int .i64 cn, .slice a5 ks.length c5, .int .i64 fr, .int .i64 tt] rfl rfl 54 _ HZ.out nodeSize rfl (by simp [Value.oneCell']) ?_)
    rw [← Hb.out, ← HW2.out]
    clear c0 k0 k1 k2 k3 k4 k5 k6 k7 k8 k9 k10
    simp only [Act.put]
    go_cut [20] (fun s wx => ∃ ka kn kc, wx.heap[b]? = some (.cells #[.int .i64 kd, .string nm, .string tx, .int .i64 sp, .slice none 0 0, .bool dp, .int .i64 pr, .int .i64 cn, .slice ka kn kc, .int .i64 fr, .int .i64 tt] 54 (0, 0)) ∧ IntsAt wx (.slice ka kn kc) ks ∧ (∀ g off, ka = some ⟨g, off, none⟩ → b + 1 ≤ g) ∧ Below b W2 wx)
    case first =>
      rw [show W2.heap = W2.drew.heap from rfl] at hr
      replace hk : IntsAt W2.drew (.slice a5 ks.length c5) ks := hk
      refine wp_region_held_drew (S := fun U => Below b W2 U) (by kernel_rfl) ((Below.refl _ W2).drew) (fun hHeld => ?_)
      generalize W2.drew = V at hHeld hr hk ⊢
      refine TkH 0 18 ?_; refine TkH 3 21 ?_
      (try simp only [Act.put]); (try simp only [List.setIfInBounds_toArray]); (try simp only [List.set_cons_zero, List.set_cons_succ])
      refine wpAnyH_ready (rs := [1, 4]) (by decide +kernel) (by simp) ?_
      refine AllReadyH.cons rfl (fun K hK => ?_) (AllReadyH.cons rfl (fun K hK => ?_) AllReadyH.nil)
      have c4 := rowAt hr 4 (.slice none 0 0) rfl
      go_simp
      refine hK.out _ _ hHeld (fun hSx => ?_)
      clear hSx hK K c4
      (try simp only [Act.put]); (try simp only [List.setIfInBounds_toArray]); (try simp only [List.set_cons_zero, List.set_cons_succ])
      rotate_left
      have c8 := rowAt hr 8 (.slice a5 ks.length c5) rfl
      go_simp
      refine hK.out _ _ hHeld (fun hSx => ?_)
      clear hSx hK K c8
      (try simp only [Act.put]); (try simp only [List.setIfInBounds_toArray]); (try simp only [List.set_cons_zero, List.set_cons_succ])
      rotate_left
      all_goals first
        | (refine wpAnyH_ready (rs := [2, 4]) (by decide +kernel) (by simp) ?_
           refine AllReadyH.cons rfl (fun K hK => ?_) (AllReadyH.cons rfl (fun K hK => ?_) AllReadyH.nil)
           go_simp
           go_at_call 113
           refine (CloneA_any V).mono ?_
           rintro e V9 ⟨rfl, rfl⟩
           refine hK.out _ _ hHeld (fun hSx => ?_)
           clear hSx hK K
           (try simp only [Act.put]); (try simp only [List.setIfInBounds_toArray]); (try simp only [List.set_cons_zero, List.set_cons_succ])
           rotate_left
           have c8 := rowAt hr 8 (.slice a5 ks.length c5) rfl
           go_simp
           refine hK.out _ _ hHeld (fun hSx => ?_)
           clear hSx hK K c8
           (try simp only [Act.put]); (try simp only [List.setIfInBounds_toArray]); (try simp only [List.set_cons_zero, List.set_cons_succ])
           rotate_left)
        | skip
      all_goals first
        | (refine wpAnyH_ready (rs := [1]) (by decide +kernel) (by simp) ?_
           refine AllReadyH.cons rfl (fun K hK => ?_) AllReadyH.nil
           have c4 := rowAt hr 4 (.slice none 0 0) rfl
           go_simp
           refine hK.out _ _ hHeld (fun hSx => ?_)
           clear hSx hK K c4
           (try simp only [Act.put]); (try simp only [List.setIfInBounds_toArray]); (try simp only [List.set_cons_zero, List.set_cons_succ]))
        | skip
      all_goals first
        | (refine wpAnyH_ready (rs := [4]) (by decide +kernel) (by simp) ?_
           refine AllReadyH.cons rfl (fun K hK => ?_) AllReadyH.nil
           have c8 := rowAt hr 8 (.slice a5 ks.length c5) rfl
           go_simp
           refine hK.out _ _ hHeld (fun hSx => ?_)
           clear hSx hK K c8
           (try simp only [Act.put]); (try simp only [List.setIfInBounds_toArray]); (try simp only [List.set_cons_zero, List.set_cons_succ])
           focus (refine TkH 6 24 ?_)
           (try simp only [Act.put]); (try simp only [List.setIfInBounds_toArray]); (try simp only [List.set_cons_zero, List.set_cons_succ]))
        | skip
      all_goals first
        | (refine wpAnyH_ready (rs := [2]) (by decide +kernel) (by simp) ?_
           refine AllReadyH.cons rfl (fun K hK => ?_) AllReadyH.nil
           go_simp
           go_at_call 113
           refine (CloneA_any V).mono ?_
           rintro e V9 ⟨rfl, rfl⟩
           refine hK.out _ _ hHeld (fun hSx => ?_)
           clear hSx hK K
           (try simp only [Act.put]); (try simp only [List.setIfInBounds_toArray]); (try simp only [List.set_cons_zero, List.set_cons_succ])
           focus (refine TkH 6 24 ?_)
           (try simp only [Act.put]); (try simp only [List.setIfInBounds_toArray]); (try simp only [List.set_cons_zero, List.set_cons_succ]))
        | skip
      all_goals (
        refine wpAnyH_ready (rs := [5]) (by decide +kernel) (by simp) ?_
        refine AllReadyH.cons rfl (fun K hK => ?_) AllReadyH.nil
        go_simp
        go_at_call 62
        refine (CloneI_any _ ks V hk (by omega)).mono ?_
        rintro e V9 ⟨ka, kn, kc, rfl, hki, hkg, hb9⟩
        replace hr := (hb9.block _ (row_lt hr)).trans hr
        replace hkg : ∀ g off, ka = some ⟨g, off, none⟩ → b + 1 ≤ g := fun g off e => Nat.le_trans (by rw [← hs2]; exact hHeld.size) (hkg g off e)
        replace hHeld := hHeld.trans (hb9.mono (Nat.le_trans (by omega) hHeld.size))
        refine hK.out _ _ hHeld (fun hSx => ?_)
        clear hSx hK K hk hb9
        clear V
        obtain ⟨V, rfl⟩ : ∃ U, U = V9 := ⟨_, rfl⟩
        (try simp only [Act.put]); (try simp only [List.setIfInBounds_toArray]); (try simp only [List.set_cons_zero, List.set_cons_succ]))
      all_goals (
        refine wpAnyH_ready (rs := [7]) (by decide +kernel) (by simp) ?_
        refine AllReadyH.cons rfl (fun K hK => ?_) AllReadyH.nil
        have c4 := rowAt hr 4 (.slice none 0 0) rfl
        have z4 := frozen_row hr 4
        go_simp
        replace hr := row_setC hr 4 (.slice none 0 0)
        replace hki := IntsAt.keep hki (w' := V.setCell ⟨b, 4, none⟩ (.slice none 0 0)) (fun g off e => Below.heap_setCell _ _ _ _ (by have := hkg g off e; show g ≠ b; omega))
        replace hHeld := hHeld.setCell (p := ⟨b, 4, none⟩) (Nat.le_refl _) (.slice none 0 0)
        generalize hV9 : V.setCell ⟨b, 4, none⟩ (.slice none 0 0) = V9 at *
        refine hK.out _ _ hHeld (fun hSx => ?_)
        clear hSx hK K c4 z4 hV9
        clear V
        obtain ⟨V, rfl⟩ : ∃ U, U = V9 := ⟨_, rfl⟩
        (try simp only [Act.put]); (try simp only [List.setIfInBounds_toArray]); (try simp only [List.set_cons_zero, List.set_cons_succ])
        focus (refine TkH 8 25 ?_)
        (try simp only [Act.put]); (try simp only [List.setIfInBounds_toArray]); (try simp only [List.set_cons_zero, List.set_cons_succ]))
      all_goals (
        refine wpAnyH_ready (rs := [9]) (by decide +kernel) (by simp) ?_
        refine AllReadyH.cons rfl (fun K hK => ?_) AllReadyH.nil
        have c8 := rowAt hr 8 (.slice a5 ks.length c5) rfl
        have z8 := frozen_row hr 8
        go_simp
        replace hr := row_setC hr 8 (.slice ka kn kc)
        replace hki := IntsAt.keep hki (w' := V.setCell ⟨b, 8, none⟩ (.slice ka kn kc)) (fun g off e => Below.heap_setCell _ _ _ _ (by have := hkg g off e; show g ≠ b; omega))
        replace hHeld := hHeld.setCell (p := ⟨b, 8, none⟩) (Nat.le_refl _) (.slice ka kn kc)
        generalize hV9 : V.setCell ⟨b, 8, none⟩ (.slice ka kn kc) = V9 at *
        refine hK.out _ _ hHeld (fun hSx => ?_)
        clear hSx hK K c8 z8 hV9
        clear V
        obtain ⟨V, rfl⟩ : ∃ U, U = V9 := ⟨_, rfl⟩
        (try simp only [Act.put]); (try simp only [List.setIfInBounds_toArray]); (try simp only [List.set_cons_zero, List.set_cons_succ]))
      all_goals (
        refine wpAnyH_done (by kernel_rfl) ?_ _
        go_wp2_with fail
        go_meet
        exact ⟨ka, kn, kc, hr, hki, hkg, hHeld⟩)

    case rest =>
    obtain ⟨ka, kn, kc, hrx, hki, hkg, hbx⟩ := hcut
    have HR := Lib.hid hrx
    have HW := Lib.hid (Hw2.out wc hbx)
    have hbf := below_setRow (cs := #[.int .i64 kd, .string nm, .string tx, .int .i64 sp, .slice none 0 0, .bool dp, .int .i64 pr, .int .i64 cn, .slice ka kn kc, .int .i64 fr, .int .i64 tt]) (hb12.trans (hbx.mono hbs.out)) (Nat.le_refl _)
    have hkf := IntsAt.keep hki (w' := wc.setRow w.heap.size #[.int .i64 kd, .string nm, .string tx, .int .i64 sp, .slice none 0 0, .bool dp, .int .i64 pr, .int .i64 cn, .slice ka kn kc, .int .i64 fr, .int .i64 tt]) (fun g off e => setRow_other _ _ _ _ (by have := hkg g off e; have := hbs.out; omega))
    have hkg2 : ∀ g off, ka = some ⟨g, off, none⟩ → w.heap.size ≤ g := fun g off e => by have := hkg g off e; have := hbs.out; omega
    clear hr hk hrx hki hkg
    go_wp2_with (first | (refine wpList_load_row rfl 54 (.tmp 5) rfl b rfl 54 _ (0, 0) _ HR.out Tryz.underlying54 rfl nodeSize ?_) | (refine wpList_store_row rfl 54 (.tmp 4) (.tmp 26) rfl w.heap.size #[.int .i64 kd, .string nm, .string tx, .int .i64 sp, .slice none 0 0, .bool dp, .int .i64 pr, .int .i64 cn, .slice ka kn kc, .int .i64 fr, .int .i64 tt] rfl rfl 54 _ HW.out nodeSize rfl (by simp [Value.oneCell']) ?_))
    refine bodyPost_ret (results_cell_row (P := Tryz.prog) (p := 4) rfl _ _ w.heap.size 54 #[.int .i64 kd, .string nm, .string tx, .int .i64 sp, .slice none 0 0, .bool dp, .int .i64 pr, .int .i64 cn, .slice ka kn kc, .int .i64 fr, .int .i64 tt] (0, 0) _ rfl (setRow_heap _ _ _ _ _ _ HW.out) Tryz.underlying54 rfl nodeSize) rfl ?_
    exact ⟨ka, kn, kc, rfl, hkf, hkg2, hbf⟩
end Go.Proofs.YtnbdalohlldnbaaGreatDoor

namespace Go.Proofs.YtnbdalohlldnbaaGreatDoor
open Go.RowKit Bd
attribute [local go_sem ↓] Go.wp_at_zero Go.wp_at_succ
theorem infoNode : (Tryz.prog.info? 54).map (fun i => (i.zero, i.size, i.bytes)) = some (some (.agg zeroNd), 11, 136) := by kernel_rfl
theorem nrow_one (ys : List NB) (h : ∀ y ∈ ys, y.kv.oneCell' = true) : ∀ u ∈ ys.flatMap NB.row, u.oneCell' = true := by
  intro u hu
  obtain ⟨y, hy, hu⟩ := List.mem_flatMap.1 hu
  simp only [NB.row, List.mem_cons, List.not_mem_nil, or_false] at hu
  rcases hu with rfl | rfl | rfl | rfl | rfl | rfl | rfl | rfl | rfl | rfl | rfl
  all_goals first | rfl | exact h y hy
/-- One more node behind the nodes. -/
theorem op_append_node {w : World} {o : Oper} {a : Act} {K : Act → World → Prop} {Q : Exit → Act → World → Prop} {own : Nat → Nat} (s x : Operand)
    (ho : o.op = .call { callee := .builtin .append, args := #[s, x], argTypes := #[47, 47] }) (hty : o.type = 47) (hL : Lbl own w) (v : Value) (l : List NB) (hs : a.eval s = v) (hown : SlO own 5 w 54 11 v l.length (l.flatMap NB.row)) (Bm c : Nat) (y : NB) (hx : a.eval x = .slice (some ⟨Bm, 0, none⟩) 1 c) (hp : w.heap[Bm]? = some (.cells y.row.toArray 54 (0, 0))) (h1c : y.kv.oneCell' = true)
    (hl : l.length ≤ 1000000)
    (h : ∀ v' w' own', SlO own' 5 w' 54 11 v' (l ++ [y]).length ((l ++ [y]).flatMap NB.row) → Fr (fun k => k == 5) own own' w w' → K (a.put o.dst v') w') : Oper.wp Tryz.prog o a w K Q := by
  obtain ⟨i0, hi, hz0, hz1, hz2⟩ := info_parts infoNode
  obtain ⟨v', w', own', hr, h2, h3⟩ := run_append_sl (P := Tryz.prog) w hL 47 47 54 i0 (.agg zeroNd) 11 136 Tryz.underlying47 hi hz0 hz1 hz2 rfl v l.length _ hown ⟨Bm, 0, none⟩ 1 c y.row rfl (fun j u hj => by
      rw [addr_add', Nat.zero_add]
      exact rowAt hp j u (by rw [← hj]; simp)) (fun u hu => nrow_one [y] (fun z hz => by rw [List.mem_singleton.1 hz]; exact h1c) u (by simpa using hu)) (by unfold maxLen; omega) (by omega)
  have e1 : l.flatMap NB.row ++ y.row = (l ++ [y]).flatMap NB.row := by rw [List.flatMap_append]; simp
  have e2 : l.length + 1 = (l ++ [y]).length := by simp
  rw [e1, e2] at h2
  unfold Oper.wp execOp
  simp only [ho, hty, resolve, invoke, builtin, Sem.run_bind, Sem.run_pure, Result.andThen_ok, List.map_toArray, List.map_cons, List.map_nil, hs, hx, hr]
  exact h _ _ _ h2 h3
theorem ArH.snoc {own own7 : Nat → Nat} {w w7 : World} {ap : Nat} {nv v7 : Value} {l : List NB} {y : NB} (h : ArH own w ap nv l) (hs7 : SlO own7 5 w7 54 11 v7 (l ++ [y]).length ((l ++ [y]).flatMap NB.row)) (hf : Fr (fun k => k == 5) own own7 w w7) (hy : SlO own7 (9 + l.length) w7 3 1 y.kv y.n.kids.length (ints y.n.kids)) :
    ArH own7 (w7.setCell ⟨ap, 0, none⟩ v7) ap v7 (l ++ [y]) ∧ Fr cAr own own7 w (w7.setCell ⟨ap, 0, none⟩ v7) := by
  have ho : own7 ap = 2 := by rw [hf.old ap (row_lt h.h)]; exact h.o
  have hA7 := hf.keep h.h (by rw [h.o]; rfl)
  have hf2 : Fr (fun k => k == 2) own7 own7 w7 (w7.setCell ⟨ap, 0, none⟩ v7) := Fr.setCell hf.lbl (p := ⟨ap, 0, none⟩) v7 (by simp [ho])
  refine ⟨⟨ho, row_setC hA7 0 v7, hs7.keep hf2 rfl, fun j x hj => ?_⟩, (hf.mono (fun x hx => ?_)).trans (hf2.mono (fun x hx => ?_))⟩
  · rcases Nat.lt_or_ge j l.length with h1 | h1
    · rw [List.getElem?_append_left h1] at hj
      exact ((h.k j x hj).keep hf (beq_eq_false_iff_ne.2 (by omega))).keep hf2 (beq_eq_false_iff_ne.2 (by omega))
    · rw [List.getElem?_append_right h1] at hj
      have hj0 : j = l.length := by have := (List.getElem?_eq_some_iff.1 hj).1; simp at this; omega
      subst hj0
      rw [Nat.sub_self] at hj
      obtain rfl : y = x := by simpa using hj
      exact hy.keep hf2 (beq_eq_false_iff_ne.2 (by omega))
  · cases hx5 : (x == 5) with
    | false => rfl
    | true => rw [beq_iff_eq.1 hx5] at hx; cases hx
  · cases hx5 : (x == 2) with
    | false => rfl
    | true => rw [beq_iff_eq.1 hx5] at hx; cases hx
theorem Fr.keep2 {own own' : Nat → Nat} {w w' : World} {k : Nat} {o : Obj} (h : Fr cAr own own' w w') (hk : w.heap[k]? = some o) (ho : own k = 0) : w'.heap[k]? = some o := h.keep hk (by rw [ho]; rfl)
theorem ArH.lt {own : Nat → Nat} {w : World} {ap : Nat} {nv : Value} {l : List NB} (h : ArH own w ap nv l) : ap < w.heap.size := row_lt h.h
/-- What Add answers: the place, and the arena with one node more. -/
def RAdd (own : Nat → Nat) (ap : Nat) (l : List NB) (n : NodeL) (w : World) (e : Ending) (w' : World) : Prop := e = .returned (.int .i64 (l.length : Int)) ∧ ∃ own' nv', ArH own' w' ap nv' (l ++ [⟨bare n, .slice none 0 0⟩]) ∧ Fr cAr own own' w w'
set_option maxHeartbeats 2000000 in
set_option maxRecDepth 100000 in
theorem Add_any {own : Nat → Nat} {w : World} {ap : Nat} {nv : Value} {l : List NB} (x : NB) (h : ArH own w ap nv l) (hL : Lbl own w) (hne : l ≠ []) (hl : l.length ≤ 1000000) (hk : kidK x.n.kind = true) (ht : isTpl x.n = false) (h1 : x.kv.oneCell' = true) : Calls Tryz.prog 59 #[.pointer (some ⟨ap, 0, none⟩), x.val] w (RAdd own ap l x.n w) := by
  obtain ⟨⟨kd, nm, tx, sp, dp, pr, cn, ks, fr, tt⟩, kv⟩ := x
  dsimp only at hk ht h1
  obtain ⟨W1, hW1⟩ : ∃ W, W = w.alloc (.cells #[.int .i64 kd, .string nm, .string tx, .int .i64 sp, .slice none 0 0, .bool dp, .int .i64 pr, .int .i64 cn, kv, .int .i64 fr, .int .i64 tt] 54) := ⟨_, rfl⟩
  obtain ⟨b, hbb⟩ : ∃ b, b = w.heap.size := ⟨_, rfl⟩
  have hb1 : Below w.heap.size w W1 := by rw [hW1]; exact (Below.refl _ w).alloc (Nat.le_refl _) _
  have hb3 : W1.heap[b]? = some (.cells #[.int .i64 kd, .string nm, .string tx, .int .i64 sp, .slice none 0 0, .bool dp, .int .i64 pr, .int .i64 cn, kv, .int .i64 fr, .int .i64 tt] 54 (0, 0)) := by rw [hW1, hbb]; exact heap_new _ _
  have hA := h.below hb1 hL
  have hF : Fr cAr own own w W1 := Fr.of_below hb1 hL
  have hob : own b = 0 := hL b (by omega)
  have cN := Lib.hid (none_any hA hne)
  have cK := Lib.hid (kid_any kd W1)
  rw [hk] at cK
  obtain ⟨av, cv, hnv, _⟩ := hA.s.1.form
  subst hnv
  have c0 := rowAt hA.h 0 (.slice av l.length cv) rfl
  have d0 := rowAt hb3 0 (.int .i64 kd) rfl
  have HW1 := Lib.hid hW1
  have Hb := Lib.hid hbb
  have HT := Lib.hid ht
  have Hob := Lib.hid hob
  clear h hk ht hW1 hb1 hbb hne hob
  show Calls _ _ #[_, .agg #[_, _, _, _, _, _, _, _, _, _, _]] _ _
  dsimp only
  go_enter Tryz.func59, Tryz.ntmps59
  go_upto_region 1 with fail
  rw [← HW1.out, ← Hb.out]
  go_wp2_with fail
  refine cN.out.mono ?_
  rintro e w1 ⟨rfl, rfl⟩
  go_wp2_with fail
  refine cK.out.mono ?_
  rintro e w1 ⟨rfl, rfl⟩
  go_upto_region 4 with fail
  clear c0 d0 cN cK
  generalize hgn : (Value.slice av l.length cv) = nv at hA
  have Hgn := Lib.hid hgn
  clear hgn
  go_cut [25] (fun s wx => ∃ own7 v7, ArH own7 wx ap v7 (l ++ [⟨⟨kd, nm, tx, sp, dp, -1, 0, [], fr, tt⟩, .slice none 0 0⟩]) ∧ Fr cAr own own7 w wx ∧ wx.heap[b]? = some (.cells #[.int .i64 kd, .string nm, .string tx, .int .i64 sp, .slice none 0 0, .bool dp, .int .i64 pr, .int .i64 cn, kv, .int .i64 fr, .int .i64 tt] 54 (0, 0)))
  case first =>
    have hd := (Below.refl W1.heap.size W1).drew
    replace hA := hA.below hd hF.lbl
    replace hb3 := (hd.block _ (row_lt hb3)).trans hb3
    replace hF := hF.trans (Fr.of_below hd hF.lbl)
    clear hd
    refine wp_region_held_drew (S := fun _ => True) (by kernel_rfl) (trivial) (fun hHeld => ?_)
    generalize W1.drew = V at hHeld hA hF hb3 ⊢
    refine TkH 0 19 ?_; refine TkH 1 20 ?_; refine TkH 2 21 ?_; refine TkH 3 22 ?_
    (try simp only [Act.put]); (try simp only [List.setIfInBounds_toArray]); (try simp only [List.set_cons_zero, List.set_cons_succ])
    refine wpAnyH_ready (rs := [4, 5]) (by decide +kernel) (by simp) ?_
    refine AllReadyH.cons rfl (fun K hK => ?_) (AllReadyH.cons rfl (fun K hK => ?_) AllReadyH.nil)
    have c0 := rowAt hA.h 0 nv rfl
    go_simp
    refine hK.out _ _ trivial (fun hSx => ?_)
    clear hSx hK K
    clear c0
    (try simp only [Act.put]); (try simp only [List.setIfInBounds_toArray]); (try simp only [List.set_cons_zero, List.set_cons_succ])
    rotate_left
    rw [if_pos (by rfl)]
    refine wp_load_row 54 (.tmp 3) rfl b rfl 54 _ (0, 0) _ hb3 Tryz.underlying54 rfl nodeSize ?_
    refine hK.out _ _ trivial (fun hSx => ?_)
    clear hSx hK K
    (try simp only [Act.put]); (try simp only [List.setIfInBounds_toArray]); (try simp only [List.set_cons_zero, List.set_cons_succ])
    rotate_left
    all_goals first
      | (refine wpAnyH_ready (rs := [5]) (by decide +kernel) (by simp) ?_
         refine AllReadyH.cons rfl (fun K hK => ?_) AllReadyH.nil
         rw [if_pos (by rfl)]
         refine wp_load_row 54 (.tmp 3) rfl b rfl 54 _ (0, 0) _ hb3 Tryz.underlying54 rfl nodeSize ?_
         refine hK.out _ _ trivial (fun hSx => ?_)
         clear hSx hK K
         (try simp only [Act.put]); (try simp only [List.setIfInBounds_toArray]); (try simp only [List.set_cons_zero, List.set_cons_succ]))
      | skip
    all_goals first
      | (refine wpAnyH_ready (rs := [4, 6]) (by decide +kernel) (by simp) ?_
         refine AllReadyH.cons rfl (fun K hK => ?_) (AllReadyH.cons rfl (fun K hK => ?_) AllReadyH.nil)
         have c0 := rowAt hA.h 0 nv rfl
         go_simp
         refine hK.out _ _ trivial (fun hSx => ?_)
         clear hSx hK K
         clear c0
         (try simp only [Act.put]); (try simp only [List.setIfInBounds_toArray]); (try simp only [List.set_cons_zero, List.set_cons_succ])
         rotate_left
         go_simp
         go_at_call 126
         refine (bare_any ⟨⟨kd, nm, tx, sp, dp, pr, cn, ks, fr, tt⟩, kv⟩ V).mono ?_
         rintro e V9 ⟨rfl, hb9⟩
         replace hA := hA.below hb9 hF.lbl
         replace hb3 := (hb9.block _ (row_lt hb3)).trans hb3
         replace hF := hF.trans (Fr.of_below hb9 hF.lbl)
         refine hK.out _ _ trivial (fun hSx => ?_)
         clear hSx hK K
         clear hb9
         dsimp only [NB.val, NB.row, bare]
         clear V
         obtain ⟨V, rfl⟩ : ∃ U, U = V9 := ⟨_, rfl⟩
         (try simp only [Act.put]); (try simp only [List.setIfInBounds_toArray]); (try simp only [List.set_cons_zero, List.set_cons_succ])
         rotate_left)
      | skip
    all_goals first
      | (refine wpAnyH_ready (rs := [6]) (by decide +kernel) (by simp) ?_
         refine AllReadyH.cons rfl (fun K hK => ?_) AllReadyH.nil
         go_simp
         go_at_call 126
         refine (bare_any ⟨⟨kd, nm, tx, sp, dp, pr, cn, ks, fr, tt⟩, kv⟩ V).mono ?_
         rintro e V9 ⟨rfl, hb9⟩
         replace hA := hA.below hb9 hF.lbl
         replace hb3 := (hb9.block _ (row_lt hb3)).trans hb3
         replace hF := hF.trans (Fr.of_below hb9 hF.lbl)
         refine hK.out _ _ trivial (fun hSx => ?_)
         clear hSx hK K
         clear hb9
         dsimp only [NB.val, NB.row, bare]
         clear V
         obtain ⟨V, rfl⟩ : ∃ U, U = V9 := ⟨_, rfl⟩
         (try simp only [Act.put]); (try simp only [List.setIfInBounds_toArray]); (try simp only [List.set_cons_zero, List.set_cons_succ]))
      | skip
    all_goals first
      | (refine wpAnyH_ready (rs := [4, 7]) (by decide +kernel) (by simp) ?_
         refine AllReadyH.cons rfl (fun K hK => ?_) (AllReadyH.cons rfl (fun K hK => ?_) AllReadyH.nil)
         have c0 := rowAt hA.h 0 nv rfl
         go_simp
         refine hK.out _ _ trivial (fun hSx => ?_)
         clear hSx hK K
         clear c0
         (try simp only [Act.put]); (try simp only [List.setIfInBounds_toArray]); (try simp only [List.set_cons_zero, List.set_cons_succ])
         rotate_left
         go_simp
         obtain ⟨V9, hV9⟩ : ∃ U, U = V.alloc (.cells #[.int .i64 kd, .string nm, .string tx, .int .i64 sp, .slice none 0 0, .bool dp, .int .i64 (-1), .int .i64 0, .slice none 0 0, .int .i64 fr, .int .i64 tt] 54) := ⟨_, rfl⟩
         rw [← hV9]
         have hb9 : Below V.heap.size V V9 := by rw [hV9]; exact (Below.refl _ _).alloc (Nat.le_refl _) _
         have hc6 : V9.heap[V.heap.size]? = some (.cells #[.int .i64 kd, .string nm, .string tx, .int .i64 sp, .slice none 0 0, .bool dp, .int .i64 (-1), .int .i64 0, .slice none 0 0, .int .i64 fr, .int .i64 tt] 54 (0, 0)) := by rw [hV9]; exact heap_new _ _
         replace hA := hA.below hb9 hF.lbl
         replace hb3 := (hb9.block _ (row_lt hb3)).trans hb3
         replace hF := hF.trans (Fr.of_below hb9 hF.lbl)
         refine hK.out _ _ trivial (fun hSx => ?_)
         clear hSx hK K
         clear hb9 hV9
         obtain ⟨g6, hgg⟩ : ∃ z, z = V.heap.size := ⟨_, rfl⟩
         rw [← hgg] at hc6 ⊢
         clear hgg
         clear V
         obtain ⟨V, rfl⟩ : ∃ U, U = V9 := ⟨_, rfl⟩
         (try simp only [Act.put]); (try simp only [List.setIfInBounds_toArray]); (try simp only [List.set_cons_zero, List.set_cons_succ])
         rotate_left)
      | skip
    all_goals first
      | (refine wpAnyH_ready (rs := [7]) (by decide +kernel) (by simp) ?_
         refine AllReadyH.cons rfl (fun K hK => ?_) AllReadyH.nil
         go_simp
         obtain ⟨V9, hV9⟩ : ∃ U, U = V.alloc (.cells #[.int .i64 kd, .string nm, .string tx, .int .i64 sp, .slice none 0 0, .bool dp, .int .i64 (-1), .int .i64 0, .slice none 0 0, .int .i64 fr, .int .i64 tt] 54) := ⟨_, rfl⟩
         rw [← hV9]
         have hb9 : Below V.heap.size V V9 := by rw [hV9]; exact (Below.refl _ _).alloc (Nat.le_refl _) _
         have hc6 : V9.heap[V.heap.size]? = some (.cells #[.int .i64 kd, .string nm, .string tx, .int .i64 sp, .slice none 0 0, .bool dp, .int .i64 (-1), .int .i64 0, .slice none 0 0, .int .i64 fr, .int .i64 tt] 54 (0, 0)) := by rw [hV9]; exact heap_new _ _
         replace hA := hA.below hb9 hF.lbl
         replace hb3 := (hb9.block _ (row_lt hb3)).trans hb3
         replace hF := hF.trans (Fr.of_below hb9 hF.lbl)
         refine hK.out _ _ trivial (fun hSx => ?_)
         clear hSx hK K
         clear hb9 hV9
         obtain ⟨g6, hgg⟩ : ∃ z, z = V.heap.size := ⟨_, rfl⟩
         rw [← hgg] at hc6 ⊢
         clear hgg
         clear V
         obtain ⟨V, rfl⟩ : ∃ U, U = V9 := ⟨_, rfl⟩
         (try simp only [Act.put]); (try simp only [List.setIfInBounds_toArray]); (try simp only [List.set_cons_zero, List.set_cons_succ]))
      | skip
    all_goals first
      | (refine wpAnyH_ready (rs := [4]) (by decide +kernel) (by simp) ?_
         refine AllReadyH.cons rfl (fun K hK => ?_) AllReadyH.nil
         have c0 := rowAt hA.h 0 nv rfl
         go_simp
         refine hK.out _ _ trivial (fun hSx => ?_)
         clear hSx hK K
         clear c0
         (try simp only [Act.put]); (try simp only [List.setIfInBounds_toArray]); (try simp only [List.set_cons_zero, List.set_cons_succ]))
      | skip
    all_goals (
      refine wpAnyH_ready (rs := [8]) (by decide +kernel) (by simp) ?_
      refine AllReadyH.cons rfl (fun K hK => ?_) AllReadyH.nil
      rw [if_pos (by rfl)]
      refine op_append_node (.tmp 23) (.tmp 26) rfl rfl hF.lbl nv l rfl hA.s g6 1 ⟨⟨kd, nm, tx, sp, dp, -1, 0, [], fr, tt⟩, .slice none 0 0⟩ rfl hc6 rfl (by omega) ?_
      intro v7 V9 own7 hs7 hf7
      obtain ⟨a7, c7, hv7, _⟩ := hs7.1.form
      obtain ⟨n7, hn7⟩ : ∃ n, n = (l ++ [(⟨⟨kd, nm, tx, sp, dp, -1, 0, [], fr, tt⟩, .slice none 0 0⟩ : NB)]).length := ⟨_, rfl⟩
      rw [← hn7] at hv7
      subst hv7
      clear hn7
      obtain ⟨hA7, hF7⟩ := hA.snoc hs7 hf7 (SlO.nil _ _ _ _ _)
      replace hF := hF.trans hF7
      have c0 := rowAt (hf7.keep hA.h (by rw [hA.o]; rfl)) 0 nv rfl
      have z0 := frozen_row (hf7.keep hA.h (by rw [hA.o]; rfl)) 0
      replace hb3 := hF7.keep hb3 (by rw [Hob.out]; rfl)
      refine hK.out _ _ trivial (fun hSx => ?_)
      clear hSx hK K
      clear hs7 hf7 hF7 hA hc6
      clear V
      obtain ⟨V, rfl⟩ : ∃ U, U = V9 := ⟨_, rfl⟩
      (try simp only [Act.put]); (try simp only [List.setIfInBounds_toArray]); (try simp only [List.set_cons_zero, List.set_cons_succ])
      focus (refine TkH 9 28 ?_; refine TkH 10 29 ?_)
      (try simp only [Act.put]); (try simp only [List.setIfInBounds_toArray]); (try simp only [List.set_cons_zero, List.set_cons_succ]))
    all_goals (
      refine wpAnyH_ready (rs := [11]) (by decide +kernel) (by simp) ?_
      refine AllReadyH.cons rfl (fun K hK => ?_) AllReadyH.nil
      go_simp
      generalize hV9 : V.setCell ⟨ap, 0, none⟩ (.slice a7 n7 c7) = V9 at *
      refine hK.out _ _ trivial (fun hSx => ?_)
      clear hSx hK K
      clear hV9 c0 z0
      clear V
      obtain ⟨V, rfl⟩ : ∃ U, U = V9 := ⟨_, rfl⟩
      (try simp only [Act.put]); (try simp only [List.setIfInBounds_toArray]); (try simp only [List.set_cons_zero, List.set_cons_succ]))
    all_goals (
      refine wpAnyH_done (by kernel_rfl) ?_ _
      go_wp2_with fail
      go_meet
      exact ⟨own7, _, hA7, hF, hb3⟩)

  case rest =>
  obtain ⟨own7, v7, hA7, hF7, hb7⟩ := hcut
  have d0 := rowAt hb7 0 (.int .i64 kd) rfl
  have d1 := rowAt hb7 1 (.string nm) rfl
  have d3 := rowAt hb7 3 (.int .i64 sp) rfl
  have HA := Lib.hid (⟨hA7, hF7⟩ : _ ∧ _)
  clear hA7 hF7 hb7 hA hF hb3
  obtain ⟨q1, h1q⟩ : ∃ q, (kd == 3) = q := ⟨_, rfl⟩
  obtain ⟨q3, h3q⟩ : ∃ q, (sp == 0) = q := ⟨_, rfl⟩
  cases q1 with
  | false =>
    go_wp2_with fail
    go_ret
    exact ⟨rfl, own7, v7, HA.out.1, HA.out.2⟩
  | true =>
  cases q3 with
  | false =>
    go_wp2_with fail
    go_ret
    exact ⟨rfl, own7, v7, HA.out.1, HA.out.2⟩
  | true =>
    have hnm : (nm.toList == [116, 101, 109, 112, 108, 97, 116, 101]) = false := by
      have := HT.out
      unfold isTpl at this
      dsimp only at this
      rw [h1q, h3q, Bool.true_and, Bool.true_and] at this
      rw [text_beq]; exact this
    go_wp2_with fail
    go_ret
    exact ⟨rfl, own7, v7, HA.out.1, HA.out.2⟩
end Go.Proofs.YtnbdalohlldnbaaGreatDoor

namespace Bd
open Go
/-- From x on parents lead out of the arena within n steps. -/
def Endz (a : Ar) : Nat → Int → Prop
  | 0, x => x < 0
  | n + 1, x => x < 0 ∨ (has a x = true ∧ Endz a n (up a x))
/-- How many steps. -/
def steps (a : Ar) : Nat → Int → Nat
  | 0, _ => 0
  | n + 1, x => if x < 0 then 0 else steps a n (up a x) + 1
theorem Endz.neg {a : Ar} {n : Nat} {x : Int} (h : x < 0) : Endz a n x := by cases n with | zero => exact h | succ n => exact Or.inl h
theorem Endz.mono {a : Ar} {n : Nat} : ∀ {m : Nat} {x : Int}, Endz a n x → n ≤ m → Endz a m x := by
  induction n with
  | zero => intro m x h _; exact Endz.neg h
  | succ n ih =>
    intro m x h hm
    cases m with
    | zero => omega
    | succ m =>
      rcases h with h | ⟨h1, h2⟩
      · exact Or.inl h
      · exact Or.inr ⟨h1, ih h2 (by omega)⟩
theorem Endz.has {a : Ar} {n : Nat} {x : Int} (h : Endz a n x) (hx : 0 ≤ x) : ∃ m, n = m + 1 ∧ has a x = true ∧ Endz a m (up a x) := by
  cases n with
  | zero => exact absurd (show x < 0 from h) (by omega)
  | succ n =>
    rcases h with h | ⟨h1, h2⟩
    · omega
    · exact ⟨n, rfl, h1, h2⟩
theorem steps_eq {a : Ar} {n : Nat} : ∀ {m : Nat} {x : Int}, Endz a n x → n ≤ m → steps a m x = steps a n x := by
  induction n with
  | zero =>
    intro m x h _
    have hx : x < 0 := h
    cases m with
    | zero => rfl
    | succ m => unfold steps; rw [if_pos hx]
  | succ n ih =>
    intro m x h hm
    cases m with
    | zero => omega
    | succ m =>
      unfold steps
      by_cases hx : x < 0
      · rw [if_pos hx, if_pos hx]
      · obtain ⟨k, hk, _, h2⟩ := Endz.has h (by omega)
        obtain rfl : n = k := by omega
        rw [if_neg hx, if_neg hx, ih h2 (by omega)]
theorem steps_le (a : Ar) : ∀ (n : Nat) (x : Int), steps a n x ≤ n
  | 0, _ => Nat.le_refl _
  | n + 1, x => by
    unfold steps
    split
    · omega
    · have := steps_le a n (up a x); omega
theorem above_eq {a : Ar} {i : Int} {n : Nat} : ∀ {m : Nat} {x : Int}, Endz a n x → n ≤ m → aboveF a i (m + 1) x = aboveF a i (n + 1) x := by
  induction n with
  | zero =>
    intro m x h _
    have hx : x < 0 := h
    unfold aboveF
    rw [if_pos hx, if_pos hx]
  | succ n ih =>
    intro m x h hm
    cases m with
    | zero => omega
    | succ m =>
      unfold aboveF
      by_cases hx : x < 0
      · rw [if_pos hx, if_pos hx]
      · obtain ⟨k, hk, _, h2⟩ := Endz.has h (by omega)
        obtain rfl : n = k := by omega
        rw [if_neg hx, if_neg hx]
        split
        · rfl
        · exact ih h2 (by omega)
/-- One step of what 'above' tells. -/
theorem above_step {a : Ar} {i : Int} {m : Nat} {x : Int} (hx : 0 ≤ x) : aboveF a i (m + 1) x = if x == i then true else aboveF a i m (up a x) := by
  conv => lhs; unfold aboveF
  rw [if_neg (by omega)]
end Bd
