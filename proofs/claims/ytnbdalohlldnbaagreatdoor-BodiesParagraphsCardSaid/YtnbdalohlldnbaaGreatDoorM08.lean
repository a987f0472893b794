/-
  Package builder: lost.
  Plain laws: an arena that is in order stays so under add, hang, append, text and move. No condition.
  Plain laws: hang, append, text and move keep an arena in order. No condition.
  Plain laws: a builder that is in order stays so, whatever is done with it. No condition.
-/
import Derived.Test.YtnbdalohlldnbaaGreatDoorM07
import Derived.Test.YtnbdalohlldnbaaGreatDoorM02
namespace Go.Proofs.YtnbdalohlldnbaaGreatDoor
open Go.RowKit Bd
attribute [local go_sem ↓] Go.wp_at_zero Go.wp_at_succ
set_option maxRecDepth 100000 in
theorem lost_any {own : Nat → Nat} {w : World} {bp ap sp lp : Nat} {nv sv lv mv : Value} {l : List NB} {b : BS} (h : BuH own w bp ap sp lp nv sv lv mv l b) (hL : Lbl own w) (hs : b.st.length ≤ 1000000) (hf : b.fo.length ≤ 1000000) : Calls Tryz.prog 50 #[.pointer (some ⟨bp, 0, none⟩)] w fun e w' => e = .returned (.int .i64 (lost b : Nat)) ∧ Below w.heap.size w w' := by
  have cL := Lib.hid (FLen_any h.f)
  have c2 := rowAt h.h 2 (.pointer (some ⟨lp, 0, none⟩)) rfl
  have hrow : Hid (∀ V, Below w.heap.size w V → V.cell? ⟨bp, 1, none⟩ = some (.pointer (some ⟨sp, 0, none⟩)) ∧ V.cell? ⟨bp, 2, none⟩ = some (.pointer (some ⟨lp, 0, none⟩))) := Lib.hid (fun V hV => ⟨rowAt (h.below hV hL).h 1 _ rfl, rowAt (h.below hV hL).h 2 _ rfl⟩)
  have cA : Hid (∀ (k : Nat) V, Below w.heap.size w V → Calls Tryz.prog 52 #[.pointer (some ⟨lp, 0, none⟩), .int .i64 (k : Int)] V fun e w' => e = .returned (.tuple #[.int .i64 (atF b.fo k).1, .bool (atF b.fo k).2]) ∧ Below V.heap.size V w') := Lib.hid (fun k V hV => FAt_any (k : Int) (h.below hV hL).f)
  have cI : Hid (∀ (i : Int) V, Below w.heap.size w V → Calls Tryz.prog 115 #[.pointer (some ⟨sp, 0, none⟩), .int .i64 i] V (RI (indexS b.st i) V)) := Lib.hid (fun i V hV => SIndex_any i (h.below hV hL).s hs)
  have HR : Hid (lostF b b.fo.length = lost b) := Lib.hid rfl
  generalize lost b = R at *
  obtain ⟨n, hn⟩ : ∃ n, n = b.fo.length := ⟨_, rfl⟩
  rw [← hn] at cL HR hf
  clear h hL hs hn
  go_enter Tryz.func50, Tryz.ntmps50
  go_wp2_with fail
  refine cL.out.mono ?_
  rintro e w1 ⟨rfl, rfl⟩
  go_wp2_with fail
  clear c2 cL
  go_loopw [3] (fun y wr => ∃ k : Nat, y = .int .i64 (k : Int) ∧ k ≤ n ∧ Hid (lostF b k = R) ∧ Hid (Below w.heap.size w wr)) (fun y _ => (intOf y).toNat)
  case atStart => exact ⟨n, rfl, Nat.le_refl _, HR, Lib.hid (Below.refl _ _)⟩
  case round =>
  obtain ⟨k, rfl, hk, hR, hb⟩ := hrel
  clear HR
  cases k with
  | zero =>
    have HQ : Hid (R = 0) := by show _ = _; rw [← hR.out]; rfl
    clear hR cA cI hrow
    go_wp2_with fail
    go_ret
    exact ⟨by rw [HQ.out]; rfl, hb.out⟩
  | succ k =>
    have hR2 := hR.out
    unfold lostF at hR2
    have i0 : (0 : Int) < ((k + 1 : Nat) : Int) := by omega
    have ek : (((k + 1 : Nat) : Int) - 1) = (k : Int) := by omega
    have cA1 := Lib.hid (cA.out k _ hb.out)
    obtain ⟨c1, c2⟩ := hrow.out _ hb.out
    generalize atF b.fo (k : Int) = am at *
    obtain ⟨ai, ab⟩ := am
    dsimp only at hR2
    clear hR
    go_wp2_with fail
    refine cA1.out.mono ?_
    rintro e w2 ⟨rfl, hb2⟩
    have hb3 := below_call hb.out hb2
    obtain ⟨c1', c2'⟩ := hrow.out _ hb3
    have cI1 := Lib.hid (cI.out ai _ hb3)
    have HB3 := Lib.hid hb3
    clear cA1 c1 c2 hb2 hb3 c2'
    cases ab with
    | true =>
      have HQ : Hid (R = k + 1) := by show _ = _; rw [← hR2]; rfl
      clear hR2 cA cI hrow
      go_wp2_with fail
      go_ret
      exact ⟨by rw [HQ.out]; rfl, HB3.out⟩
    | false =>
      generalize indexS b.st ai = ix at *
      by_cases h0 : 0 ≤ ix
      · have HQ : Hid (R = k + 1) := by show _ = _; rw [← hR2, if_pos (by simp [h0])]
        clear hR2 cA cI hrow
        go_wp2_with fail
        refine cI1.out.mono ?_
        rintro e w3 ⟨rfl, rfl⟩
        go_wp2_with fail
        go_ret
        exact ⟨by rw [HQ.out]; rfl, HB3.out⟩
      · have HQ : Hid (lostF b k = R) := by show _ = _; rw [← hR2, if_neg (by simp; omega)]
        have hlt : ix < 0 := by omega
        have HK : Hid (k ≤ n) := Lib.hid (by omega)
        clear hR2 cA cI hrow
        go_wp2_with fail
        refine cI1.out.mono ?_
        rintro e w3 ⟨rfl, rfl⟩
        go_wp2_with fail
        go_roundw
        case rel => exact ⟨k, rfl, HK.out, HQ, HB3⟩
        case measure => simp [intOf]
end Go.Proofs.YtnbdalohlldnbaaGreatDoor

namespace Bd
open Go
/-- Few numbers below n that are all unlike. -/
theorem pig : ∀ (n : Nat) (l : List Nat), l.Nodup → (∀ x ∈ l, x < n) → l.length ≤ n
  | 0, l, _, h => by
    cases l with
    | nil => exact Nat.le_refl _
    | cons x r => exact absurd (h x (List.mem_cons_self ..)) (by omega)
  | n + 1, l, hd, h => by
    by_cases hn : n ∈ l
    · have h1 := pig n (l.erase n) (hd.erase n) (fun x hx => by
        have h2 := (List.Nodup.mem_erase_iff hd).1 hx
        have := h x h2.2
        omega)
      rw [List.length_erase_of_mem hn] at h1
      omega
    · have h1 := pig n l hd (fun x hx => by
        have := h x hx
        have : x ≠ n := fun e => hn (e ▸ hx)
        omega)
      omega
def pathA (a : Ar) : Nat → Int → List Int
  | 0, _ => []
  | n + 1, x => if x < 0 then [] else x :: pathA a n (up a x)
theorem path_len (a : Ar) : ∀ (n : Nat) (x : Int), (pathA a n x).length = steps a n x
  | 0, _ => rfl
  | n + 1, x => by
    unfold pathA steps
    split
    · rfl
    · rw [List.length_cons, path_len a n]
theorem path_mem {a : Ar} {n : Nat} : ∀ {x : Int}, Endz a n x → ∀ y ∈ pathA a n x, 0 ≤ y ∧ has a y = true ∧ ∃ m, Endz a m y ∧ steps a m y ≤ steps a n x := by
  induction n with
  | zero => intro x _ y hy; cases hy
  | succ n ih =>
    intro x h y hy
    by_cases hx : x < 0
    · unfold pathA at hy; rw [if_pos hx] at hy; cases hy
    · rcases id h with h0 | ⟨h1, h2⟩
      · omega
      unfold pathA at hy
      rw [if_neg hx] at hy
      rcases List.mem_cons.1 hy with rfl | hy
      · exact ⟨by omega, h1, n + 1, h, Nat.le_refl _⟩
      · obtain ⟨h3, h4, m, h5, h6⟩ := ih h2 y hy
        refine ⟨h3, h4, m, h5, ?_⟩
        conv => rhs; unfold steps
        rw [if_neg hx]; omega
theorem path_nodup {a : Ar} {n : Nat} : ∀ {x : Int}, Endz a n x → (pathA a n x).Nodup := by
  induction n with
  | zero => intro x _; exact List.nodup_nil
  | succ n ih =>
    intro x h
    unfold pathA
    split
    · exact List.nodup_nil
    · rename_i hx
      rcases id h with h0 | ⟨h1, h2⟩
      · omega
      refine List.nodup_cons.2 ⟨fun hm => ?_, ih h2⟩
      obtain ⟨_, _, m, h5, h6⟩ := path_mem h2 x hm
      have e1 := steps_eq h5 (Nat.le_max_left m (n + 1))
      have e2 := steps_eq h (Nat.le_max_right m (n + 1))
      rw [e1] at e2
      rw [e2] at h6
      have e3 : steps a (n + 1) x = steps a n (up a x) + 1 := by
        conv => lhs; unfold steps
        rw [if_neg hx]
      omega
theorem endz_steps {a : Ar} {n : Nat} : ∀ {x : Int}, Endz a n x → Endz a (steps a n x) x := by
  induction n with
  | zero => intro x h; exact h
  | succ n ih =>
    intro x h
    unfold steps
    split
    · rename_i hx; exact Endz.neg hx
    · rename_i hx
      rcases h with h0 | ⟨h1, h2⟩
      · omega
      · exact Or.inr ⟨h1, ih h2⟩
theorem has_lt {a : Ar} {x : Int} (h : has a x = true) : 0 ≤ x ∧ x.toNat < a.length := by
  unfold has at h
  rw [Bool.and_eq_true, decide_eq_true_eq, decide_eq_true_eq] at h
  exact ⟨h.1, by omega⟩
theorem nat_nodup {l : List Int} (hd : l.Nodup) (h0 : ∀ x ∈ l, 0 ≤ x) : (l.map Int.toNat).Nodup := by
  unfold List.Nodup at *
  rw [List.pairwise_map]
  refine List.Pairwise.imp_of_mem ?_ hd
  intro x y hx hy hne e
  have := h0 x hx
  have := h0 y hy
  omega
theorem endz_len {a : Ar} {n : Nat} {x : Int} (h : Endz a n x) : Endz a a.length x := by
  refine (endz_steps h).mono ?_
  rw [← path_len, ← List.length_map (f := Int.toNat)]
  refine pig _ _ (nat_nodup (path_nodup h) fun y hy => (path_mem h y hy).1) ?_
  intro y hy
  obtain ⟨z, hz, rfl⟩ := List.mem_map.1 hy
  exact (has_lt (path_mem h z hz).2.1).2
/-- An arena in order. -/
structure ArOk (a : Ar) : Prop where
  ne : a ≠ []
  kid : ∀ (j : Nat) (x : NodeL), a[j]? = some x → ∀ k ∈ x.kids, ∃ (c : Nat) (y : NodeL), k = (c : Int) ∧ a[c]? = some y ∧ y.parent = (j : Int)
  par : ∀ (i : Nat) (x : NodeL), a[i]? = some x → 0 ≤ x.parent → ∃ (P : Nat) (y : NodeL), x.parent = (P : Int) ∧ a[P]? = some y ∧ (i : Int) ∈ y.kids
  nod : ∀ (j : Nat) (x : NodeL), a[j]? = some x → x.kids.Nodup
  k6 : ∀ (j : Nat) (x : NodeL), a[j]? = some x → (x.kind == 6) = false ∧ isTpl x = false
  up : ∀ x, has a x = true → ∃ n, Endz a n x
theorem ArOk.endz {a : Ar} (h : ArOk a) (x : Int) (hx : has a x = true) : Endz a a.length x := by
  obtain ⟨n, hn⟩ := h.up x hx
  exact endz_len hn
theorem has_nat {a : Ar} {j : Nat} {x : NodeL} (h : a[j]? = some x) : has a (j : Int) = true := by
  have := (List.getElem?_eq_some_iff.1 h).1
  unfold has
  simp; omega
theorem nat_has {a : Ar} {i : Int} (h : has a i = true) : ∃ (j : Nat) (x : NodeL), i = (j : Int) ∧ a[j]? = some x := by
  obtain ⟨h0, h1⟩ := has_lt h
  exact ⟨i.toNat, _, by omega, List.getElem?_eq_getElem h1⟩
theorem rd_nat {a : Ar} {j : Nat} {x : NodeL} (h : a[j]? = some x) : rd a (j : Int) = x := by
  unfold rd
  rw [show ((j : Int)).toNat = j from rfl, List.getD_eq_getElem?_getD, h]; rfl
theorem ArOk.kids_len {a : Ar} (h : ArOk a) {j : Nat} {x : NodeL} (hj : a[j]? = some x) : x.kids.length ≤ a.length := by
  have h0 : ∀ k ∈ x.kids, 0 ≤ k ∧ k.toNat < a.length := fun k hk => by
    obtain ⟨c, y, rfl, hc, _⟩ := h.kid j x hj k hk
    exact ⟨by omega, (List.getElem?_eq_some_iff.1 hc).1⟩
  rw [← List.length_map (f := Int.toNat)]
  refine pig _ _ (nat_nodup (h.nod j x hj) fun y hy => (h0 y hy).1) ?_
  intro y hy
  obtain ⟨z, hz, rfl⟩ := List.mem_map.1 hy
  exact (h0 z hz).2
theorem ArOk.up_eq {a : Ar} (h : ArOk a) {j : Nat} {x : NodeL} (hj : a[j]? = some x) : Bd.up a (j : Int) = x.parent := by
  unfold Bd.up
  rw [rd_nat hj, (h.k6 j x hj).1]; rfl
/-- Where parents go on as they did. -/
theorem endz_as {a a' : Ar} (h : ∀ x, has a x = true → has a' x = true ∧ up a' x = up a x) {n : Nat} : ∀ {x : Int}, Endz a n x → Endz a' n x := by
  induction n with
  | zero => intro x h; exact h
  | succ n ih =>
    intro x hx
    rcases hx with h0 | ⟨h1, h2⟩
    · exact Or.inl h0
    · obtain ⟨h3, h4⟩ := h x h1
      exact Or.inr ⟨h3, by rw [h4]; exact ih h2⟩
theorem snoc_case {α : Type} {l : List α} {y : α} {j : Nat} {x : α} (hj : (l ++ [y])[j]? = some x) : l[j]? = some x ∨ (j = l.length ∧ x = y) := by
  rcases Nat.lt_or_ge j l.length with h1 | h1
  · rw [List.getElem?_append_left h1] at hj; exact Or.inl hj
  · rw [List.getElem?_append_right h1] at hj
    have hj0 : j - l.length = 0 := by have := (List.getElem?_eq_some_iff.1 hj).1; simp at this; omega
    rw [hj0] at hj
    exact Or.inr ⟨by omega, by simpa using hj.symm⟩
theorem snoc_old {α : Type} {l : List α} {y : α} {j : Nat} {x : α} (hj : l[j]? = some x) : (l ++ [y])[j]? = some x := by
  rw [List.getElem?_append_left (List.getElem?_eq_some_iff.1 hj).1]; exact hj
theorem snoc_new {α : Type} (l : List α) (y : α) : (l ++ [y])[l.length]? = some y := by simp
theorem ArOk.snoc {a : Ar} (h : ArOk a) (n : NodeL) (h6 : (n.kind == 6) = false) (ht : isTpl n = false) : ArOk (a ++ [bare n]) := by
  have hup : ∀ x, has a x = true → has (a ++ [bare n]) x = true ∧ Bd.up (a ++ [bare n]) x = Bd.up a x := fun x hx => by
    obtain ⟨j, y, rfl, hy⟩ := nat_has hx
    refine ⟨has_nat (snoc_old hy), ?_⟩
    unfold Bd.up
    rw [rd_nat hy, rd_nat (snoc_old hy)]
  refine ⟨by simp, fun j x hj k hk => ?_, fun i x hi h0 => ?_, fun j x hj => ?_, fun j x hj => ?_, fun x hx => ?_⟩
  · rcases snoc_case hj with h1 | ⟨_, rfl⟩
    · obtain ⟨c, y, e, hc, hp⟩ := h.kid j x h1 k hk
      exact ⟨c, y, e, snoc_old hc, hp⟩
    · cases hk
  · rcases snoc_case hi with h1 | ⟨_, rfl⟩
    · obtain ⟨P, y, e, hc, hp⟩ := h.par i x h1 h0
      exact ⟨P, y, e, snoc_old hc, hp⟩
    · exact absurd h0 (by show ¬ (0 : Int) ≤ -1; omega)
  · rcases snoc_case hj with h1 | ⟨_, rfl⟩
    · exact h.nod j x h1
    · exact List.nodup_nil
  · rcases snoc_case hj with h1 | ⟨_, rfl⟩
    · exact h.k6 j x h1
    · exact ⟨h6, ht⟩
  · obtain ⟨j, y, rfl, hy⟩ := nat_has hx
    rcases snoc_case hy with h1 | ⟨rfl, rfl⟩
    · obtain ⟨m, hm⟩ := h.up _ (has_nat h1)
      exact ⟨m, endz_as hup hm⟩
    · refine ⟨1, Or.inr ⟨has_nat hy, ?_⟩⟩
      show Bd.up _ _ < 0
      unfold Bd.up
      rw [rd_nat hy, show (bare n).kind = n.kind from rfl, h6]
      show (-1 : Int) < 0
      omega
theorem upd_get (a : Ar) (i j : Nat) (f : NodeL → NodeL) : (upd a (i : Int) f)[j]? = (a[j]?).map (fun x => if i = j then f x else x) := by
  unfold upd
  rw [List.getElem?_modify]
  rfl
/-- What hang does, node by node. -/
def hangN (p i : Nat) (q : Int) (j : Nat) (x : NodeL) : NodeL :=
  { x with
    kids := (if (j : Int) = q then x.kids.erase (i : Int) else x.kids) ++ (if j = p then [(i : Int)] else [])
    parent := if j = i then (p : Int) else x.parent }
theorem hang_get {a : Ar} (h : ArOk a) {p i : Nat} {x : NodeL} (hi : a[i]? = some x) (j : Nat) : (hang a (p : Int) (-1) (i : Int))[j]? = (a[j]?).map (hangN p i x.parent j) := by
  unfold hang
  rw [upd_get, upd_get]
  have hfree : (free a (i : Int))[j]? = (a[j]?).map (fun y => { y with kids := if (j : Int) = x.parent then y.kids.erase (i : Int) else y.kids, parent := if 0 ≤ x.parent ∧ i = j then -1 else y.parent }) := by
    unfold free
    rw [rd_nat hi]
    by_cases h0 : x.parent < 0
    · rw [if_pos h0]
      cases a[j]? with
      | none => rfl
      | some y =>
        rw [Option.map_some, if_neg (show ¬ (j : Int) = x.parent by omega), if_neg (show ¬ (0 ≤ x.parent ∧ i = j) by omega)]
    · rw [if_neg h0]
      obtain ⟨P, z, hP, _⟩ := h.par i x hi (by omega)
      rw [hP, upd_get, upd_get]
      cases a[j]? with
      | none => rfl
      | some y =>
        simp only [Option.map_some]
        have hp0 : (0 : Int) ≤ (P : Int) := by omega
        by_cases e1 : P = j
        · subst e1
          by_cases e2 : i = P
          · subst e2; simp
          · simp [e2]
        · have e1' : ¬ ((j : Int) = (P : Int)) := by omega
          by_cases e2 : i = j
          · subst e2
            simp [e1, e1', hp0]
          · simp [e1, e2, e1', hp0]
  rw [hfree]
  cases a[j]? with
  | none => rfl
  | some y =>
    simp only [Option.map_some]
    congr 1
    unfold hangN laid
    by_cases e1 : p = j
    · subst e1
      by_cases e2 : i = p
      · subst e2; simp
      · have e2' : ¬ (p = i) := fun e => e2 e.symm
        simp [e2, e2']
    · have e1' : ¬ (j = p) := fun e => e1 e.symm
      by_cases e2 : i = j
      · subst e2
        simp [e1, e1']
      · have e2' : ¬ (j = i) := fun e => e2 e.symm
        simp [e1, e2, e1', e2']
end Bd

namespace Bd
open Go
theorem hang_len (a : Ar) (p ref i : Int) : (hang a p ref i).length = a.length := by
  unfold hang upd free
  split <;> simp [upd]
theorem hang_old {a : Ar} (h : ArOk a) {p i : Nat} {x : NodeL} (hi : a[i]? = some x) {j : Nat} {y : NodeL} (hj : a[j]? = some y) : (hang a (p : Int) (-1) (i : Int))[j]? = some (hangN p i x.parent j y) := by
  rw [hang_get h hi, hj]; rfl
theorem hang_back {a : Ar} (h : ArOk a) {p i : Nat} {x : NodeL} (hi : a[i]? = some x) {j : Nat} {z : NodeL} (hj : (hang a (p : Int) (-1) (i : Int))[j]? = some z) : ∃ y, a[j]? = some y ∧ z = hangN p i x.parent j y := by
  rw [hang_get h hi, Option.map_eq_some_iff] at hj
  obtain ⟨y, h1, h2⟩ := hj
  exact ⟨y, h1, h2.symm⟩
/-- What 'above' says of a chain that ends. -/
theorem not_above {a a' : Ar} {i : Int} (hup : ∀ x, has a x = true → x ≠ i → has a' x = true ∧ up a' x = up a x) {n : Nat} : ∀ {x : Int}, Endz a n x → aboveF a i (n + 1) x = false → Endz a' n x := by
  induction n with
  | zero => intro x h _; exact h
  | succ n ih =>
    intro x h ha
    rcases h with h0 | ⟨h1, h2⟩
    · exact Or.inl h0
    · have hx := (has_lt h1).1
      rw [above_step hx] at ha
      by_cases e : (x == i) = true
      · rw [if_pos e] at ha; cases ha
      · rw [if_neg e] at ha
        obtain ⟨h3, h4⟩ := hup x h1 (fun e2 => e (beq_iff_eq.2 e2))
        exact Or.inr ⟨h3, by rw [h4]; exact ih h2 ha⟩
theorem ArOk.hang {a : Ar} (h : ArOk a) {p i : Nat} {x z : NodeL} (hi : a[i]? = some x) (hp : a[p]? = some z) (ha : above a (i : Int) (p : Int) = false) : ArOk (hang a (p : Int) (-1) (i : Int)) := by
  have hup : ∀ y, has a y = true → y ≠ (i : Int) → has (Bd.hang a (p : Int) (-1) (i : Int)) y = true ∧ Bd.up (Bd.hang a (p : Int) (-1) (i : Int)) y = Bd.up a y := fun y hy hne => by
    obtain ⟨j, u, rfl, hu⟩ := nat_has hy
    have hg := hang_old h hi (p := p) hu
    refine ⟨has_nat hg, ?_⟩
    unfold Bd.up
    rw [rd_nat hu, rd_nat hg]
    show (if (u.kind == 6) = true then _ else (hangN p i x.parent j u).parent) = _
    unfold hangN
    dsimp only
    rw [if_neg (show ¬ j = i by intro e; subst e; exact hne rfl)]
  have hEp : Endz (Bd.hang a (p : Int) (-1) (i : Int)) a.length (p : Int) := not_above hup (h.endz _ (has_nat hp)) ha
  have hgi := hang_old h hi (p := p) hi
  have hupi : Bd.up (Bd.hang a (p : Int) (-1) (i : Int)) (i : Int) = (p : Int) := by
    unfold Bd.up
    rw [rd_nat hgi, show (hangN p i x.parent i x).kind = x.kind from rfl, (h.k6 i x hi).1]
    show (if i = i then _ else _) = _
    rw [if_pos rfl]
  have hE : ∀ (n : Nat) (y : Int), Endz a n y → ∃ m, Endz (Bd.hang a (p : Int) (-1) (i : Int)) m y := by
    intro n
    induction n with
    | zero => intro y hy; exact ⟨0, hy⟩
    | succ n ih =>
      intro y hy
      by_cases e : y = (i : Int)
      · subst e
        exact ⟨a.length + 1, Or.inr ⟨has_nat hgi, by rw [hupi]; exact hEp⟩⟩
      · rcases hy with h0 | ⟨h1, h2⟩
        · exact ⟨0, h0⟩
        · obtain ⟨m, hm⟩ := ih _ h2
          obtain ⟨h3, h4⟩ := hup y h1 e
          exact ⟨m + 1, Or.inr ⟨h3, by rw [h4]; exact hm⟩⟩
  have hnew : ∀ (j : Nat) (y : NodeL), a[j]? = some y → (j : Int) = x.parent ∨ (i : Int) ∉ y.kids := fun j y hj => by
    by_cases hm : (i : Int) ∈ y.kids
    · obtain ⟨c, u, e, hc, hpar⟩ := h.kid j y hj _ hm
      have : c = i := by omega
      subst this
      rw [hi] at hc
      obtain rfl := Option.some.inj hc
      exact Or.inl hpar.symm
    · exact Or.inr hm
  refine ⟨fun e => h.ne (List.eq_nil_of_length_eq_zero (by rw [← hang_len a p (-1) i, e]; rfl)), fun j u hj k hk => ?_, fun j u hj h0 => ?_, fun j u hj => ?_, fun j u hj => ?_, fun y hy => ?_⟩
  · obtain ⟨y, hy, rfl⟩ := hang_back h hi hj
    unfold hangN at hk
    dsimp only at hk
    rcases List.mem_append.1 hk with hk | hk
    · have hin : k ∈ y.kids := by
        split at hk
        · exact List.mem_of_mem_erase hk
        · exact hk
      obtain ⟨c, v, rfl, hc, hpar⟩ := h.kid j y hy k hin
      refine ⟨c, _, rfl, hang_old h hi hc, ?_⟩
      show (if c = i then (p : Int) else v.parent) = _
      by_cases e : c = i
      · exfalso
        subst e
        rw [hi] at hc
        obtain rfl := Option.some.inj hc
        rw [if_pos hpar.symm] at hk
        exact absurd rfl ((List.Nodup.mem_erase_iff (h.nod j y hy)).1 hk).1
      · rw [if_neg e]; exact hpar
    · split at hk
      · rename_i e
        obtain rfl : k = (i : Int) := by simpa using hk
        refine ⟨i, _, rfl, hgi, ?_⟩
        show (if i = i then (p : Int) else _) = _
        rw [if_pos rfl, e]
      · cases hk
  · obtain ⟨y, hy, rfl⟩ := hang_back h hi hj
    by_cases e : j = i
    · subst e
      refine ⟨p, _, ?_, hang_old h hi hp, ?_⟩
      · show (if j = j then (p : Int) else _) = _
        rw [if_pos rfl]
      · show (j : Int) ∈ _ ++ (if p = p then [(j : Int)] else [])
        rw [if_pos rfl]
        simp
    · have hpe : (hangN p i x.parent j y).parent = y.parent := by
        show (if j = i then (p : Int) else _) = _
        rw [if_neg e]
      rw [hpe] at h0 ⊢
      obtain ⟨P, v, h1, h2, h3⟩ := h.par j y hy h0
      refine ⟨P, _, h1, hang_old h hi h2, ?_⟩
      show (j : Int) ∈ (if (P : Int) = x.parent then v.kids.erase (i : Int) else v.kids) ++ _
      refine List.mem_append.2 (Or.inl ?_)
      split
      · exact (List.mem_erase_of_ne (by omega)).2 h3
      · exact h3
  · obtain ⟨y, hy, rfl⟩ := hang_back h hi hj
    show ((if (j : Int) = x.parent then y.kids.erase (i : Int) else y.kids) ++ (if j = p then [(i : Int)] else [])).Nodup
    have hd := h.nod j y hy
    have hni : (i : Int) ∉ (if (j : Int) = x.parent then y.kids.erase (i : Int) else y.kids) := by
      split
      · intro hm; exact absurd rfl ((List.Nodup.mem_erase_iff hd).1 hm).1
      · rename_i e
        rcases hnew j y hy with h1 | h1
        · exact absurd h1 e
        · exact h1
    have hdd : (if (j : Int) = x.parent then y.kids.erase (i : Int) else y.kids).Nodup := by
      split
      · exact hd.erase _
      · exact hd
    generalize (if (j : Int) = x.parent then y.kids.erase (i : Int) else y.kids) = ks at hni hdd ⊢
    split
    · rw [List.nodup_append]
      refine ⟨hdd, by simp, fun u hu v hv e => ?_⟩
      obtain rfl : v = (i : Int) := by simpa using hv
      subst e
      exact hni hu
    · rw [List.append_nil]; exact hdd
  · obtain ⟨y, hy, rfl⟩ := hang_back h hi hj
    exact h.k6 j y hy
  · obtain ⟨j, u, rfl, hu⟩ := nat_has hy
    obtain ⟨v, hv, _⟩ := hang_back h hi hu
    obtain ⟨n, hn⟩ := h.up _ (has_nat hv)
    exact hE n _ hn
theorem ArOk.append {a : Ar} (h : ArOk a) (p i : Int) : ArOk (append a p i).1 := by
  unfold Bd.append
  split
  · exact h
  · split
    · exact h
    · rename_i h1
      simp only [Bool.or_eq_true, Bool.not_eq_true', not_or, Bool.not_eq_false, Bool.not_eq_true] at h1
      obtain ⟨⟨h2, h3⟩, h4⟩ := h1
      have hp : has a p = true := by unfold holds at h2; rw [Bool.and_eq_true] at h2; exact h2.1
      have hi : has a i = true := by unfold hangs at h3; rw [Bool.and_eq_true] at h3; exact h3.1
      obtain ⟨P, z, rfl, hz⟩ := nat_has hp
      obtain ⟨I, x, rfl, hx⟩ := nat_has hi
      exact h.hang hx hz h4
theorem append_len (a : Ar) (p i : Int) : (append a p i).1.length = a.length := by
  unfold append
  split
  · rfl
  · split
    · rfl
    · exact hang_len _ _ _ _
/-- What each node says but its place. -/
theorem append_as {Q : NodeL → Prop} (hQ : ∀ (x : NodeL) (ks : List Int) (q : Int), Q x → Q { x with kids := ks, parent := q }) {a : Ar} (h : ArOk a) (p i : Int) (ha : ∀ x ∈ a, Q x) : ∀ x ∈ (append a p i).1, Q x := by
  unfold append
  split
  · exact ha
  · split
    · exact ha
    · rename_i h1
      simp only [Bool.or_eq_true, Bool.not_eq_true', not_or, Bool.not_eq_false, Bool.not_eq_true] at h1
      obtain ⟨⟨h2, h3⟩, h4⟩ := h1
      have hp : has a p = true := by unfold holds at h2; rw [Bool.and_eq_true] at h2; exact h2.1
      have hi : has a i = true := by unfold hangs at h3; rw [Bool.and_eq_true] at h3; exact h3.1
      obtain ⟨P, z, rfl, hz⟩ := nat_has hp
      obtain ⟨I, x, rfl, hx⟩ := nat_has hi
      intro y hy
      obtain ⟨j, hj⟩ := List.getElem?_of_mem hy
      obtain ⟨u, hu, rfl⟩ := hang_back h hx hj
      exact hQ _ _ _ (ha u (List.mem_of_getElem? hu))
theorem hang_as {Q : NodeL → Prop} (hQ : ∀ (x : NodeL) (ks : List Int) (q : Int), Q x → Q { x with kids := ks, parent := q }) {a : Ar} (h : ArOk a) {p i : Nat} {x : NodeL} (hi : a[i]? = some x) (ha : ∀ x ∈ a, Q x) : ∀ y ∈ hang a (p : Int) (-1) (i : Int), Q y := by
  intro y hy
  obtain ⟨j, hj⟩ := List.getElem?_of_mem hy
  obtain ⟨u, hu, rfl⟩ := hang_back h hi hj
  exact hQ _ _ _ (ha u (List.mem_of_getElem? hu))
/-- A node's text is another one. -/
theorem ArOk.text {a : Ar} (h : ArOk a) (i : Nat) (t : Ba → Ba) : ArOk (upd a (i : Int) fun n => { n with text := t n.text }) := by
  have hg : ∀ {j : Nat} {x : NodeL}, a[j]? = some x → (upd a (i : Int) fun n => { n with text := t n.text })[j]? = some (if i = j then { x with text := t x.text } else x) := fun {j x} hj => by rw [upd_get, hj]; rfl
  have hb : ∀ {j : Nat} {z : NodeL}, (upd a (i : Int) fun n => { n with text := t n.text })[j]? = some z → ∃ x, a[j]? = some x ∧ z.kids = x.kids ∧ z.parent = x.parent ∧ z.kind = x.kind ∧ isTpl z = isTpl x := fun {j z} hj => by
    rw [upd_get, Option.map_eq_some_iff] at hj
    obtain ⟨x, h1, rfl⟩ := hj
    refine ⟨x, h1, ?_⟩
    split <;> exact ⟨rfl, rfl, rfl, rfl⟩
  have hgp : ∀ {j : Nat} {x : NodeL}, a[j]? = some x → ∃ z, (upd a (i : Int) fun n => { n with text := t n.text })[j]? = some z ∧ z.kids = x.kids ∧ z.parent = x.parent ∧ z.kind = x.kind := fun {j x} hj => ⟨_, hg hj, by split <;> exact ⟨rfl, rfl, rfl⟩⟩
  have hup : ∀ y, has a y = true → has (upd a (i : Int) fun n => { n with text := t n.text }) y = true ∧ Bd.up (upd a (i : Int) fun n => { n with text := t n.text }) y = Bd.up a y := fun y hy => by
    obtain ⟨j, u, rfl, hu⟩ := nat_has hy
    obtain ⟨z, hz, _, h2, h3⟩ := hgp hu
    refine ⟨has_nat hz, ?_⟩
    unfold Bd.up
    rw [rd_nat hu, rd_nat hz, h2, h3]
  refine ⟨fun e => h.ne (List.eq_nil_of_length_eq_zero (by have := congrArg List.length e; simpa [upd] using this)), fun j u hj k hk => ?_, fun j u hj h0 => ?_, fun j u hj => ?_, fun j u hj => ?_, fun y hy => ?_⟩
  · obtain ⟨x, hx, e1, _⟩ := hb hj
    rw [e1] at hk
    obtain ⟨c, y, e, hc, hp⟩ := h.kid j x hx k hk
    obtain ⟨z, hz, _, h2, _⟩ := hgp hc
    exact ⟨c, z, e, hz, h2.trans hp⟩
  · obtain ⟨x, hx, _, e2, _⟩ := hb hj
    rw [e2] at h0 ⊢
    obtain ⟨P, y, e, hc, hp⟩ := h.par j x hx h0
    obtain ⟨z, hz, h1, _⟩ := hgp hc
    exact ⟨P, z, e, hz, by rw [h1]; exact hp⟩
  · obtain ⟨x, hx, e1, _⟩ := hb hj
    rw [e1]; exact h.nod j x hx
  · obtain ⟨x, hx, _, _, e3, e4⟩ := hb hj
    rw [e3, e4]; exact h.k6 j x hx
  · obtain ⟨j, u, rfl, hu⟩ := nat_has hy
    obtain ⟨x, hx, _⟩ := hb hu
    obtain ⟨n, hn⟩ := h.up _ (has_nat hx)
    exact ⟨n, endz_as hup hn⟩
theorem above_new {a : Ar} (h : ArOk a) (n : NodeL) {p : Nat} {z : NodeL} (hp : a[p]? = some z) : above (a ++ [bare n]) (a.length : Int) (p : Int) = false := by
  have hup : ∀ x, has a x = true → Bd.up (a ++ [bare n]) x = Bd.up a x := fun x hx => by
    obtain ⟨j, y, rfl, hy⟩ := nat_has hx
    unfold Bd.up
    rw [rd_nat hy, rd_nat (snoc_old hy)]
  have : ∀ (m f : Nat) (x : Int), Endz a m x → aboveF (a ++ [bare n]) (a.length : Int) f x = false := by
    intro m
    induction m with
    | zero =>
      intro f x hx
      have hx : x < 0 := hx
      cases f with
      | zero => rfl
      | succ f => unfold aboveF; rw [if_pos hx]
    | succ m ih =>
      intro f x hx
      cases f with
      | zero => rfl
      | succ f =>
        rcases hx with h0 | ⟨h1, h2⟩
        · unfold aboveF; rw [if_pos h0]
        · have hb := has_lt h1
          unfold aboveF
          rw [if_neg (by omega), if_neg (by rw [beq_iff_eq]; omega), hup x h1]
          exact ih f _ h2
  exact this _ _ _ (h.endz _ (has_nat hp))
theorem add_eq {a : Ar} (h : a ≠ []) {n : NodeL} (hk : kidK n.kind = true) (ht : isTpl n = false) : add a n = (a ++ [bare n], (a.length : Int)) := by
  unfold add
  rw [show a.isEmpty = false by cases a with | nil => exact absurd rfl h | cons x r => rfl, hk, ht]
  rfl
theorem kid6 {n : NodeL} (h : kidK n.kind = true) : (n.kind == 6) = false := by
  cases h6 : (n.kind == 6) with
  | false => rfl
  | true => rw [beq_iff_eq.1 h6] at h; cases h
theorem ArOk.add {a : Ar} (h : ArOk a) {n : NodeL} (hk : kidK n.kind = true) (ht : isTpl n = false) : ArOk (add a n).1 := by
  rw [add_eq h.ne hk ht]; exact h.snoc n (kid6 hk) ht
theorem textA_cases {a : Ar} (h : ArOk a) (p : Int) (s : Ba) : (textA a p (-1) s).1 = a ∨ (∃ c : Nat, (textA a p (-1) s).1 = upd a (c : Int) fun n => { n with text := n.text ++ s }) ∨
    (∃ (P : Nat) (z : NodeL), a[P]? = some z ∧ (textA a p (-1) s).1 = Bd.hang (a ++ [bare (textN s)]) (P : Int) (-1) (a.length : Int)) := by
  obtain ⟨r, hr⟩ : ∃ r, r = textA a p (-1) s := ⟨_, rfl⟩
  rw [← hr]
  unfold Bd.textA at hr
  split at hr
  · exact Or.inl (by rw [hr])
  · split at hr
    · exact Or.inl (by rw [hr])
    · rename_i h1
      split at hr
      · exact Or.inl (by rw [hr])
      · have h2 : holds a p = true := by
          cases hh : holds a p with
          | true => rfl
          | false => rw [hh] at h1; exact absurd rfl h1
        have hp : has a p = true := by unfold holds at h2; rw [Bool.and_eq_true] at h2; exact h2.1
        obtain ⟨P, z, rfl, hz⟩ := nat_has hp
        dsimp only at hr
        rw [if_neg (show ¬ (0 : Int) ≤ -1 by omega), rd_nat hz] at hr
        split at hr
        · rename_i h3
          obtain ⟨k0, hk0⟩ : ∃ k0 : Int, z.kids.getD (z.kids.length - 1) 0 = k0 := ⟨_, rfl⟩
          rw [hk0] at hr
          have hm : k0 ∈ z.kids := by
            rw [← hk0, List.getD_eq_getElem?_getD, List.getElem?_eq_getElem (by omega)]
            exact List.getElem_mem _
          obtain ⟨c, y, rfl, hc, _⟩ := h.kid P z hz _ hm
          exact Or.inr (Or.inl ⟨c, by rw [hr]⟩)
        · rw [add_eq h.ne (n := textN s) rfl rfl] at hr
          exact Or.inr (Or.inr ⟨P, z, hz, by rw [hr]⟩)
theorem ArOk.textA {a : Ar} (h : ArOk a) (p : Int) (s : Ba) : ArOk (textA a p (-1) s).1 := by
  rcases textA_cases h p s with e | ⟨c, e⟩ | ⟨P, z, hz, e⟩
  · rw [e]; exact h
  · rw [e]; exact h.text c (fun t => t ++ s)
  · rw [e]
    exact (h.snoc (textN s) rfl rfl).hang (snoc_new a _) (snoc_old hz) (above_new h _ hz)
theorem textA_len {a : Ar} (h : ArOk a) (p : Int) (s : Ba) : (Bd.textA a p (-1) s).1.length ≤ a.length + 1 := by
  rcases textA_cases h p s with e | ⟨c, e⟩ | ⟨P, z, hz, e⟩
  · rw [e]; omega
  · rw [e]; simp [upd]
  · rw [e, hang_len]; simp
theorem textA_as {Q : NodeL → Prop} (hQ : ∀ (x : NodeL) (ks : List Int) (q : Int), Q x → Q { x with kids := ks, parent := q }) {a : Ar} (h : ArOk a) (p : Int) (s : Ba) (ha : ∀ x ∈ a, Q x) (ht : ∀ x : NodeL, x ∈ a → Q { x with text := x.text ++ s }) (hn : Q (bare (textN s))) : ∀ x ∈ (Bd.textA a p (-1) s).1, Q x := by
  rcases textA_cases h p s with e | ⟨c, e⟩ | ⟨P, z, hz, e⟩
  · rw [e]; exact ha
  · rw [e]
    intro y hy
    obtain ⟨j, hj⟩ := List.getElem?_of_mem hy
    rw [upd_get, Option.map_eq_some_iff] at hj
    obtain ⟨x, h1, rfl⟩ := hj
    split
    · exact ht x (List.mem_of_getElem? h1)
    · exact ha x (List.mem_of_getElem? h1)
  · rw [e]
    refine hang_as hQ (h.snoc (textN s) rfl rfl) (snoc_new a _) fun x hx => ?_
    rcases List.mem_append.1 hx with hx | hx
    · exact ha x hx
    · rw [List.mem_singleton.1 hx]; exact hn
/-- One kid less of f, one more of t: f stands above t no more than it did. -/
theorem above_hang {a : Ar} (h : ArOk a) {f t : Nat} {z : NodeL} (ht : a[t]? = some z) (hf : above a (f : Int) (t : Int) = false) {i : Nat} {x : NodeL} (hi : a[i]? = some x) (hp : x.parent = (f : Int)) :
    above a (i : Int) (t : Int) = false ∧ above (hang a (t : Int) (-1) (i : Int)) (f : Int) (t : Int) = false := by
  have hupi : Bd.up a (i : Int) = (f : Int) := by rw [h.up_eq hi, hp]
  have h1 : ∀ (n : Nat) (y : Int), Endz a n y → aboveF a (f : Int) (n + 1) y = false → aboveF a (i : Int) (n + 1) y = false := by
    intro n
    induction n with
    | zero => intro y hy _; have hy : y < 0 := hy; unfold aboveF; rw [if_pos hy]
    | succ n ih =>
      intro y hy ha
      rcases hy with h0 | ⟨h1, h2⟩
      · unfold aboveF; rw [if_pos h0]
      · have hy0 := (has_lt h1).1
        rw [above_step hy0] at ha ⊢
        by_cases e : y = (i : Int)
        · subst e
          rw [hupi] at ha
          have hne : ¬ (((i : Int) == (f : Int)) = true) := fun e => by rw [if_pos e] at ha; cases ha
          rw [if_neg hne] at ha
          rw [above_step (by omega), if_pos (by simp)] at ha
          cases ha
        · rw [if_neg (fun e2 => e (beq_iff_eq.1 e2))]
          have hne : ¬ ((y == (f : Int)) = true) := fun e => by rw [if_pos e] at ha; cases ha
          rw [if_neg hne] at ha
          exact ih _ h2 ha
  have hE := h.endz _ (has_nat ht)
  have h2 := h1 _ _ hE hf
  refine ⟨h2, ?_⟩
  have h3 : ∀ (n : Nat) (y : Int), Endz a n y → aboveF a (f : Int) (n + 1) y = false → aboveF a (i : Int) (n + 1) y = false → aboveF (Bd.hang a (t : Int) (-1) (i : Int)) (f : Int) (n + 1) y = false := by
    intro n
    induction n with
    | zero => intro y hy _ _; have hy : y < 0 := hy; unfold aboveF; rw [if_pos hy]
    | succ n ih =>
      intro y hy ha hb
      rcases hy with h0 | ⟨h1, h2⟩
      · unfold aboveF; rw [if_pos h0]
      · have hy0 := (has_lt h1).1
        rw [above_step hy0] at ha hb ⊢
        have hne : ¬ ((y == (f : Int)) = true) := fun e => by rw [if_pos e] at ha; cases ha
        have hni : ¬ ((y == (i : Int)) = true) := fun e => by rw [if_pos e] at hb; cases hb
        rw [if_neg hne] at ha ⊢
        rw [if_neg hni] at hb
        obtain ⟨j, u, rfl, hu⟩ := nat_has h1
        have hg := hang_old h hi (p := t) hu
        have hup2 : Bd.up (Bd.hang a (t : Int) (-1) (i : Int)) (j : Int) = Bd.up a (j : Int) := by
          unfold Bd.up
          rw [rd_nat hu, rd_nat hg]
          show (if (u.kind == 6) = true then _ else (hangN t i x.parent j u).parent) = _
          unfold hangN
          dsimp only
          rw [if_neg (show ¬ j = i by intro e; subst e; exact hni (beq_iff_eq.2 rfl))]
        rw [hup2]
        exact ih _ h2 ha hb
  unfold above
  rw [hang_len]
  exact h3 _ _ hE hf h2
/-- All kids of f move to t. -/
theorem move_ind {R : Ar → Prop} {t f : Nat} (hR : ∀ (a : Ar) (i : Nat) (x z : NodeL), ArOk a → a[i]? = some x → a[t]? = some z → R a → above a (i : Int) (t : Int) = false → R (Bd.hang a (t : Int) (-1) (i : Int))) :
    ∀ (ks : List Int) (a : Ar), ArOk a → R a → ks.Nodup → (∀ k ∈ ks, ∃ (c : Nat) (y : NodeL), k = (c : Int) ∧ a[c]? = some y ∧ y.parent = (f : Int)) → (∃ z, a[t]? = some z) → above a (f : Int) (t : Int) = false →
      ArOk (ks.foldl (fun a i => Bd.hang a (t : Int) (-1) i) a) ∧ R (ks.foldl (fun a i => Bd.hang a (t : Int) (-1) i) a) := by
  intro ks
  induction ks with
  | nil => intro a h hr _ _ _ _; exact ⟨h, hr⟩
  | cons k r ih =>
    intro a h hr hd hk ht hf
    obtain ⟨c, y, rfl, hc, hp⟩ := hk k (List.mem_cons_self ..)
    obtain ⟨z, hz⟩ := ht
    obtain ⟨h1, h2⟩ := above_hang h hz hf hc hp
    rw [List.foldl_cons]
    refine ih _ (h.hang hc hz h1) (hR a c y z h hc hz hr h1) (List.nodup_cons.1 hd).2 (fun k hk' => ?_) ⟨_, hang_old h hc hz⟩ h2
    obtain ⟨c', y', rfl, hc', hp'⟩ := hk k (List.mem_cons_of_mem _ hk')
    refine ⟨c', _, rfl, hang_old h hc hc', ?_⟩
    show (if c' = c then _ else y'.parent) = _
    rw [if_neg (fun e => (List.nodup_cons.1 hd).1 (by rw [← e]; exact hk'))]
    exact hp'
/-- Where a move of f's kids to t stands. -/
structure MvOk (t f : Nat) (a : Ar) (ks : List Int) : Prop where
  ok : ArOk a
  nd : ks.Nodup
  kid : ∀ k ∈ ks, ∃ (c : Nat) (y : NodeL), k = (c : Int) ∧ a[c]? = some y ∧ y.parent = (f : Int)
  tt : ∃ z, a[t]? = some z
  ab : above a (f : Int) (t : Int) = false
theorem MvOk.step {t f : Nat} {a : Ar} {k : Int} {r : List Int} (h : MvOk t f a (k :: r)) : ∃ (c : Nat) (y : NodeL), k = (c : Int) ∧ a[c]? = some y ∧ MvOk t f (Bd.hang a (t : Int) (-1) (c : Int)) r := by
  obtain ⟨c, y, rfl, hc, hp⟩ := h.kid k (List.mem_cons_self ..)
  obtain ⟨z, hz⟩ := h.tt
  obtain ⟨h1, h2⟩ := above_hang h.ok hz h.ab hc hp
  refine ⟨c, y, rfl, hc, h.ok.hang hc hz h1, (List.nodup_cons.1 h.nd).2, fun k hk' => ?_, ⟨_, hang_old h.ok hc hz⟩, h2⟩
  obtain ⟨c', y', rfl, hc', hp'⟩ := h.kid k (List.mem_cons_of_mem _ hk')
  refine ⟨c', _, rfl, hang_old h.ok hc hc', ?_⟩
  show (if c' = c then _ else y'.parent) = _
  rw [if_neg (fun e => (List.nodup_cons.1 h.nd).1 (by rw [← e]; exact hk'))]
  exact hp'
theorem move_all {R : Ar → Prop} {a : Ar} (h : ArOk a) (f t : Int) (hr : R a) (hR : ∀ (a : Ar) (i t : Nat) (x z : NodeL), ArOk a → a[i]? = some x → a[t]? = some z → R a → R (Bd.hang a (t : Int) (-1) (i : Int))) : ArOk (move a f t).1 ∧ R (move a f t).1 := by
  unfold move
  split
  · exact ⟨h, hr⟩
  · split
    · exact ⟨h, hr⟩
    · rename_i h1
      simp only [Bool.or_eq_true, Bool.not_eq_true', not_or, Bool.not_eq_false, Bool.not_eq_true] at h1
      obtain ⟨⟨h2, h3⟩, h4⟩ := h1
      have hp : has a f = true := by unfold holds at h2; rw [Bool.and_eq_true] at h2; exact h2.1
      have hi : has a t = true := by unfold holds at h3; rw [Bool.and_eq_true] at h3; exact h3.1
      obtain ⟨F, x, rfl, hx⟩ := nat_has hp
      obtain ⟨T, z, rfl, hz⟩ := nat_has hi
      rw [rd_nat hx]
      exact move_ind (R := R) (f := F) (t := T) (fun a i x z ha hi hz hr _ => hR a i T x z ha hi hz hr) x.kids a h hr (h.nod F x hx) (h.kid F x hx) ⟨z, hz⟩ h4
end Bd

namespace Bd
open Go
def StOk (s : St) : Prop := s.length ≤ 512 ∧ ∀ o ∈ s, o.name.size ≤ 1000
def NdOk (n : Nat) (x : NodeL) : Prop := (x.name.size ≤ 1000 ∧ (x.name == templateS) = false) ∧ x.text.size ≤ 1000 * n
/-- A builder in order, of at most n nodes; nothing is fostered. -/
structure Okb (n : Nat) (b : BS) : Prop where
  ar : ArOk b.ar
  len : b.ar.length ≤ n
  nd : ∀ x ∈ b.ar, NdOk n x
  st : StOk b.st
  fo : b.fo.length ≤ 64
  fos : b.foster = false
theorem NdOk.mono {n m : Nat} {x : NodeL} (h : NdOk n x) (hm : n ≤ m) : NdOk m x := ⟨h.1, Nat.le_trans h.2 (Nat.mul_le_mul_left _ hm)⟩
theorem Okb.mono {n m : Nat} {b : BS} (h : Okb n b) (hm : n ≤ m) : Okb m b := ⟨h.ar, Nat.le_trans h.len hm, fun x hx => (h.nd x hx).mono hm, h.st, h.fo, h.fos⟩
theorem Okb.stk {n : Nat} {b : BS} (h : Okb n b) {s : St} (hs : StOk s) : Okb n { b with st := s } := ⟨h.ar, h.len, h.nd, hs, h.fo, h.fos⟩
theorem Okb.fmt {n : Nat} {b : BS} (h : Okb n b) {f : Fo} (hf : f.length ≤ 64) : Okb n { b with fo := f } := ⟨h.ar, h.len, h.nd, h.st, hf, h.fos⟩
theorem Okb.fail {n : Nat} {b : BS} (h : Okb n b) (e : Int) : Okb n (failB b e) := by
  unfold failB
  split
  · exact ⟨h.ar, h.len, h.nd, h.st, h.fo, h.fos⟩
  · exact h
theorem NdOk.at {n : Nat} (x : NodeL) (ks : List Int) (q : Int) (h : NdOk n x) : NdOk n { x with kids := ks, parent := q } := h
theorem node_ok {n : Nat} {a : Ar} (h : ∀ x ∈ a, NdOk n x) (i : Int) : NdOk n (node a i) := by
  unfold node
  split
  · rename_i hh
    obtain ⟨j, x, rfl, hj⟩ := nat_has hh
    rw [rd_nat hj]
    exact h x (List.mem_of_getElem? hj)
  · exact ⟨⟨Nat.zero_le _, rfl⟩, Nat.zero_le _⟩
theorem node_tpl {a : Ar} (h : ArOk a) (i : Int) : isTpl (node a i) = false := by
  unfold node
  split
  · rename_i hh
    obtain ⟨j, x, rfl, hj⟩ := nat_has hh
    rw [rd_nat hj]
    exact (h.k6 j x hj).2
  · rfl
/-! ### the stack -/
theorem StOk.sub {s s' : St} (h : StOk s) (hl : s'.length ≤ s.length) (hm : ∀ o ∈ s', o ∈ s) : StOk s' := ⟨Nat.le_trans hl h.1, fun o ho => h.2 o (hm o ho)⟩
theorem StOk.take {s : St} (h : StOk s) (k : Nat) : StOk (s.take k) := h.sub (by rw [List.length_take]; omega) fun _ ho => List.mem_of_mem_take ho
theorem StOk.pop {s : St} (h : StOk s) : StOk (popS s) := h.sub (by unfold popS; rw [List.length_dropLast]; omega) fun _ ho => List.dropLast_subset _ ho
theorem elem_ok {n : Nat} {a : Ar} (h : ∀ x ∈ a, NdOk n x) (i : Int) : (elementS a i).1.name.size ≤ 1000 := by
  unfold elementS
  split
  · exact Nat.zero_le _
  · exact (node_ok h i).1.1
theorem StOk.insert {n : Nat} {a : Ar} (ha : ∀ x ∈ a, NdOk n x) {s : St} (h : StOk s) (k i : Int) : StOk (insertS a s k i).1 := by
  unfold insertS
  split
  · exact h
  · split
    · exact h
    · split
      · exact h
      · rename_i h1
        refine ⟨by rw [List.length_append, List.length_cons, List.length_take, List.length_drop]; omega, fun o ho => ?_⟩
        rcases List.mem_append.1 ho with ho | ho
        · exact h.2 o (List.mem_of_mem_take ho)
        · rcases List.mem_cons.1 ho with rfl | ho
          · exact elem_ok ha i
          · exact h.2 o (List.mem_of_mem_drop ho)
theorem StOk.replace {n : Nat} {a : Ar} (ha : ∀ x ∈ a, NdOk n x) {s : St} (h : StOk s) (k i : Int) : StOk (replaceS a s k i).1 := by
  unfold replaceS
  split
  · exact h
  · split
    · exact h
    · refine ⟨by rw [List.length_set]; exact h.1, fun o ho => ?_⟩
      rcases List.mem_or_eq_of_mem_set ho with ho | rfl
      · exact h.2 o ho
      · exact elem_ok ha i
theorem StOk.remove {s : St} (h : StOk s) (i : Int) : StOk (removeS s i).1 := by
  unfold removeS
  split
  · exact h
  · exact h.sub (by rw [List.length_eraseIdx]; split <;> omega) fun _ ho => List.mem_of_mem_eraseIdx ho
theorem StOk.until {s : St} (h : StOk s) (ns : List Ba) : StOk (untilS s ns).1 := by
  unfold untilS
  split
  · exact h
  · exact h.take _
theorem dropS_pre (so : Ba → Bool) (s : St) : ∃ k, dropS so s = s.take k := by
  unfold dropS
  obtain ⟨l, hl⟩ := List.dropWhile_suffix (fun o : OpenL => o.space == 0 && so o.name) (l := s.reverse)
  generalize s.reverse.dropWhile _ = d at hl ⊢
  have e : s = d.reverse ++ l.reverse := by rw [← List.reverse_append, hl, List.reverse_reverse]
  exact ⟨d.reverse.length, by rw [e, List.take_left]⟩
theorem StOk.implied {s : St} (h : StOk s) (but : Ba) : StOk (impliedSt but s) := by
  unfold impliedSt
  obtain ⟨k, e⟩ := dropS_pre (fun n => n != but && impliedK n) s
  rw [e]; exact h.take k
/-! ### the formats -/
theorem lay_ok {l : Fo} (h : l.length ≤ 64) (k : Nat) (i : Int) : (layF l k i).1.length ≤ 64 := by
  unfold layF
  split
  · exact h
  · rw [List.length_append, List.length_cons, List.length_take, List.length_drop]; omega
theorem push_ok {a : Ar} {l : Fo} (h : l.length ≤ 64) (i : Int) : (pushF a l i).1.length ≤ 64 := by
  unfold pushF
  split
  · exact h
  · refine lay_ok ?_ _ _
    split
    · rw [List.length_eraseIdx]; split <;> omega
    · exact h
theorem fremove_ok {l : Fo} (h : l.length ≤ 64) (i : Int) : (removeF l i).1.length ≤ 64 := by
  unfold removeF
  split
  · exact h
  · rw [List.length_eraseIdx]; split <;> omega
theorem finsert_ok {a : Ar} {l : Fo} (h : l.length ≤ 64) (k i : Int) : (insertF a l k i).1.length ≤ 64 := by
  unfold insertF
  split
  · exact h
  · split
    · exact h
    · exact lay_ok h _ _
theorem freplace_ok {a : Ar} {l : Fo} (h : l.length ≤ 64) (k i : Int) : (replaceF a l k i).1.length ≤ 64 := by
  unfold replaceF
  split
  · exact h
  · split
    · exact h
    · rw [List.length_set]; exact h
/-! ### the builder -/
theorem placeN (b : BS) (tg : Int) (hfo : b.foster = false) : (place b tg).2 = -1 := by
  have : place b tg = if htmlN (node b.ar tg) [templateS] then ((node b.ar tg).content, -1) else (tg, -1) := by
    unfold place
    rw [hfo]
    rfl
  rw [this]
  split <;> rfl
theorem putN (b : BS) (n tg : Int) (hfo : b.foster = false) : putB b n tg = { b with ar := (append b.ar (place b tg).1 n).1 } := by
  unfold putB; rw [placeN b tg hfo, if_neg (by omega)]
theorem Okb.append {n : Nat} {b : BS} (h : Okb n b) (p i : Int) : Okb n { b with ar := (append b.ar p i).1 } :=
  ⟨h.ar.append p i, by rw [append_len]; exact h.len, append_as (Q := NdOk n) NdOk.at h.ar p i h.nd, h.st, h.fo, h.fos⟩
theorem Okb.move {n : Nat} {b : BS} (h : Okb n b) (f t : Int) : Okb n { b with ar := (move b.ar f t).1 } := by
  obtain ⟨h1, h2, h3⟩ := move_all (R := fun a => a.length ≤ n ∧ ∀ x ∈ a, NdOk n x) h.ar f t ⟨h.len, h.nd⟩ (fun a i t x z ha hi _ hr => ⟨by rw [hang_len]; exact hr.1, hang_as (Q := NdOk n) NdOk.at ha hi hr.2⟩)
  exact ⟨h1, h2, h3, h.st, h.fo, h.fos⟩
theorem Okb.put {n : Nat} {b : BS} (h : Okb n b) (i tg : Int) : Okb n (putB b i tg) := by
  rw [putN b i tg h.fos]; exact h.append _ _
theorem Okb.add {n : Nat} {b : BS} (h : Okb n b) {x : NodeL} (hk : kidK x.kind = true) (ht : isTpl x = false) (hx : NdOk (n + 1) x) : Okb (n + 1) { b with ar := (add b.ar x).1 } := by
  refine ⟨h.ar.add hk ht, ?_, ?_, h.st, h.fo, h.fos⟩
  · rw [add_eq h.ar.ne hk ht, List.length_append]; have := h.len; simp; omega
  · rw [add_eq h.ar.ne hk ht]
    intro y hy
    rcases List.mem_append.1 hy with hy | hy
    · exact (h.nd y hy).mono (Nat.le_succ _)
    · rw [List.mem_singleton.1 hy]; exact hx
/-- What a tag asks: it is no template, and its name is not long. -/
def TokOk (t : TokL) : Prop := t.name.size ≤ 1000 ∧ (t.name == templateS) = false
theorem tok_tpl {t : TokL} (h : TokOk t) (sp : Int) : isTpl (elementT t sp) = false := by
  unfold isTpl elementT
  dsimp only
  rw [h.2, Bool.and_false]
theorem Okb.insert {n : Nat} {b : BS} (h : Okb n b) {t : TokL} (ht : TokOk t) (sp : Int) : Okb (n + 1) (insertB b t sp).1 := by
  unfold insertB
  split
  · exact (h.fail _).mono (Nat.le_succ _)
  · dsimp only
    have h1 := h.add (x := elementT t sp) rfl (tok_tpl ht sp) ⟨ht, Nat.zero_le _⟩
    have h2 := h1.put (Bd.add b.ar (elementT t sp)).2 (target { b with ar := (Bd.add b.ar (elementT t sp)).1 })
    refine (h2.stk ?_).fail _
    exact StOk.insert h2.nd h2.st _ _
theorem Okb.only {n : Nat} {b : BS} (h : Okb n b) {t : TokL} (ht : TokOk t) : Okb (n + 1) (only b t).1 := by
  unfold Bd.only
  split
  · exact (h.insert ht 0).stk (h.insert ht 0).st.pop
  · exact h.insert ht 0
theorem implyOk {m : Ba} (h : m.size ≤ 1000) (h2 : (m == templateS) = false) : TokOk (implyT m) := ⟨h, h2⟩
theorem Okb.imply {n : Nat} {b : BS} (h : Okb n b) {m : Ba} (h1 : m.size ≤ 1000) (h2 : (m == templateS) = false) : Okb (n + 1) (imply b m).1 := h.insert (implyOk h1 h2) 0
theorem Okb.chars {n : Nat} {b : BS} (h : Okb n b) {s : Ba} (hs : s.size ≤ 1000) : Okb (n + 1) (charsB b s) := by
  unfold charsB
  split
  · rw [placeN b _ h.fos]
    refine ⟨h.ar.textA _ _, Nat.le_trans (textA_len h.ar _ _) (Nat.succ_le_succ h.len), ?_, h.st, h.fo, h.fos⟩
    refine textA_as (Q := NdOk (n + 1)) NdOk.at h.ar _ _ (fun x hx => (h.nd x hx).mono (Nat.le_succ _)) (fun x hx => ⟨(h.nd x hx).1, ?_⟩) ⟨⟨Nat.zero_le _, rfl⟩, ?_⟩
    · have := (h.nd x hx).2
      show (x.text ++ s).size ≤ _
      rw [ByteArray.size_append]; omega
    · show s.size ≤ _
      omega
  · exact h.mono (Nat.le_succ _)
theorem Okb.comment {n : Nat} {b : BS} (h : Okb n b) {t : TokL} (hs : t.text.size ≤ 1000) (into : Int) : Okb (n + 1) (comment b t into) := by
  unfold Bd.comment
  have h1 := h.add (x := commentN t) rfl rfl ⟨⟨Nat.zero_le _, rfl⟩, by show t.text.size ≤ _; omega⟩
  dsimp only
  split
  · exact h1.put _ _
  · exact h1.append _ _
theorem again_ok {n : Nat} {b : BS} (h : Okb n b) (i : Int) : TokOk (againT (node b.ar i)) := (node_ok h.nd i).1
theorem Okb.rebuildF {m : Nat} : ∀ {n : Nat} {b : BS} (k : Nat), Okb n b → Okb (n + m) (rebuildF m b k) := by
  induction m with
  | zero => intro n b k h; exact h
  | succ m ih =>
    intro n b k h
    unfold Bd.rebuildF
    dsimp only
    have h1 := h.insert (again_ok h (atF b.fo k).1) 0
    split
    · exact h1.mono (by omega)
    · have h2 := ih (k + 1) (h1.fmt (freplace_ok (a := (insertB b (againT (node b.ar (atF b.fo k).1)) 0).1.ar) h1.fo k (insertB b (againT (node b.ar (atF b.fo k).1)) 0).2))
      rw [show n + (m + 1) = n + 1 + m by omega]
      exact h2
theorem Okb.rebuild {n : Nat} {b : BS} (h : Okb n b) : Okb (n + 64) (rebuild b) := (Okb.rebuildF _ h).mono (by have := h.fo; omega)
theorem Okb.closeP {n : Nat} {b : BS} (h : Okb n b) : Okb n (closeP b) := by
  unfold Bd.closeP
  split
  · exact h.stk ((h.st.implied _).until _)
  · exact h
/-! ### adopt -/
theorem fresh_ok {n : Nat} {b : BS} (h : Okb n b) (i : Int) : Okb (n + 1) (fresh b i).1 := by
  unfold fresh
  refine h.add rfl ?_ ⟨(node_ok h.nd i).1, Nat.zero_le _⟩
  show (_ && _ && ((node b.ar i).name == templateS)) = false
  rw [(node_ok h.nd i).1.2, Bool.and_false]
theorem Okb.inward {bl fm : Int} : ∀ (f : Nat) {n : Nat} {b : BS} (many k last mark : Int), Okb n b → 1 ≤ many → Okb (n + (4 - many).toNat) (inward bl fm f b many k last mark).1
  | 0, n, b, many, k, last, mark, h, _ => h.mono (by omega)
  | f + 1, n, b, many, k, last, mark, h, hm => by
    unfold Bd.inward
    dsimp only
    split
    · exact h.mono (by omega)
    · obtain ⟨at0, h0⟩ : ∃ x, x = indexF b.fo (atS b.st (k - 1)) := ⟨_, rfl⟩
      rw [← h0]
      cases hd : (decide (3 < many) && decide (0 ≤ at0)) with
      | true =>
        simp only [if_true]
        rw [if_pos (by omega)]
        have h1 := (h.fmt (fremove_ok h.fo (atS b.st (k - 1)))).stk ((h.fmt (fremove_ok h.fo (atS b.st (k - 1)))).st.remove (atS b.st (k - 1)))
        exact (Okb.inward f (many + 1) (k - 1) last _ h1 (by omega)).mono (by omega)
      | false =>
        simp only [Bool.false_eq_true, if_false, Bool.false_and]
        split
        · exact (Okb.inward f (many + 1) (k - 1) last _ (h.stk (h.st.remove (atS b.st (k - 1)))) (by omega)).mono (by omega)
        · have h3 : ¬ 3 < many := fun h3 => by
            rw [decide_eq_true h3, Bool.true_and, decide_eq_false_iff_not] at hd
            omega
          have h4 := fresh_ok h (atS b.st (k - 1))
          have h5 := ((h4.fmt (freplace_ok (a := (fresh b (atS b.st (k - 1))).1.ar) h4.fo at0 (fresh b (atS b.st (k - 1))).2)).stk (StOk.replace h4.nd h4.st (k - 1) (fresh b (atS b.st (k - 1))).2)).append (fresh b (atS b.st (k - 1))).2 last
          exact (Okb.inward f (many + 1) (k - 1) _ _ h5 (by omega)).mono (by omega)
theorem Okb.renew {n : Nat} {b : BS} (h : Okb n b) (bl fm mark : Int) : Okb (n + 1) (renew b bl fm mark) := by
  unfold Bd.renew
  have h1 := fresh_ok h fm
  have h2 := (h1.move bl (fresh b fm).2).append bl (fresh b fm).2
  have h3 := h2.fmt (finsert_ok (a := (Bd.append (Bd.move (fresh b fm).1.ar bl (fresh b fm).2).1 bl (fresh b fm).2).1) (fremove_ok h2.fo fm) (if indexF (fresh b fm).1.fo fm < mark then mark - 1 else mark) (fresh b fm).2)
  exact h3.stk (StOk.insert h2.nd (h2.st.remove fm) _ _)
theorem Okb.once {n : Nat} {b : BS} (h : Okb n b) (m : Ba) : Okb (n + 4) (once b m).1 := by
  unfold Bd.once
  dsimp only
  split
  · exact h.mono (by omega)
  · split
    · exact (h.fmt (fremove_ok h.fo _)).mono (by omega)
    · split
      · exact h.mono (by omega)
      · split
        · exact ((h.stk (h.st.take _)).fmt (fremove_ok h.fo _)).mono (by omega)
        · have h1 := Okb.inward (bl := furthest b (indexS b.st (lastN b.ar b.fo m))) (fm := lastN b.ar b.fo m) 600 1 (indexS b.st (furthest b (indexS b.st (lastN b.ar b.fo m)))) (furthest b (indexS b.st (lastN b.ar b.fo m))) (indexF b.fo (lastN b.ar b.fo m)) h (by omega)
          exact (h1.put _ _).renew _ _ _
theorem Okb.runF (m : Ba) : ∀ (f : Nat) {n : Nat} {b : BS}, Okb n b → Okb (n + 4 * f) (runF f b m).1
  | 0, n, b, h => h
  | f + 1, n, b, h => by
    unfold Bd.runF
    dsimp only
    have h1 := h.once m
    split
    · exact h1.mono (by omega)
    · split
      · exact h1.mono (by omega)
      · exact (Okb.runF m f h1).mono (by omega)
theorem Okb.run {n : Nat} {b : BS} (h : Okb n b) (m : Ba) : Okb (n + 32) (run b m).1 := by
  unfold Bd.run
  split
  · exact (h.stk h.st.pop).mono (by omega)
  · exact Okb.runF m 8 h
theorem Okb.otherF (m : Ba) {n : Nat} {b : BS} (h : Okb n b) : ∀ (k : Nat), Okb n (otherF b m k)
  | 0 => h
  | k + 1 => by
    unfold Bd.otherF
    dsimp only
    split
    · exact h.stk ((h.st.implied _).take _)
    · split
      · exact h
      · exact Okb.otherF m h k
theorem Okb.other {n : Nat} {b : BS} (h : Okb n b) (m : Ba) : Okb n (other b m) := Okb.otherF m h _
/-! ### bodies -/
theorem Okb.block {n : Nat} {b : BS} (h : Okb n b) {t : TokL} (ht : TokOk t) : Okb (n + 1) (block b t) := h.closeP.insert ht 0
theorem Okb.plain {n : Nat} {b : BS} (h : Okb n b) {t : TokL} (ht : TokOk t) : Okb (n + 65) (plain b t) := h.rebuild.insert ht 0
theorem Okb.format {n : Nat} {b : BS} (h : Okb n b) {t : TokL} (ht : TokOk t) : Okb (n + 65) (format b t) := by
  unfold Bd.format
  have h1 := h.rebuild.insert ht 0
  dsimp only
  split
  · exact (h1.fmt (push_ok h1.fo _)).fail _
  · exact h1
theorem Okb.single {n : Nat} {b : BS} (h : Okb n b) {t : TokL} (ht : TokOk t) : Okb (n + 65) (single b t) := h.rebuild.only ht
theorem Okb.formatted {n : Nat} {b : BS} (h : Okb n b) (t : TokL) : Okb (n + 32) (formatted b t) := by
  unfold Bd.formatted
  split
  · exact h.run _
  · exact (h.run _).other _
theorem Okb.link {n : Nat} {b : BS} (h : Okb n b) {t : TokL} (ht : TokOk t) : Okb (n + 97) (link b t) := by
  unfold Bd.link
  dsimp only
  split
  · have h1 := h.formatted t
    exact ((h1.fmt (fremove_ok h1.fo _)).stk (h1.st.remove _)).format ht
  · exact (h.format ht).mono (by omega)
theorem Okb.itemF (ns : List Ba) {n : Nat} {b : BS} (h : Okb n b) : ∀ (k : Nat), Okb n (itemF ns b k)
  | 0 => h
  | k + 1 => by
    unfold Bd.itemF
    dsimp only
    split
    · exact h.stk ((h.st.implied _).until _)
    · split
      · exact Okb.itemF ns h k
      · split
        · exact h
        · exact Okb.itemF ns h k
theorem Okb.item {n : Nat} {b : BS} (h : Okb n b) (ns : List Ba) {t : TokL} (ht : TokOk t) : Okb (n + 1) (item ns b t) := (Okb.itemF ns h _).block ht
theorem Okb.shut {n : Nat} {b : BS} (h : Okb n b) (t : TokL) : Okb n (shut b t) := by
  unfold Bd.shut
  split
  · exact h.stk ((h.st.implied _).until _)
  · exact h
theorem Okb.endP {n : Nat} {b : BS} (h : Okb n b) : Okb (n + 1) (endP b) := by
  unfold Bd.endP
  refine Okb.closeP ?_
  split
  · exact h.mono (by omega)
  · exact h.imply (by decide) (by decide)
theorem Okb.endBr {n : Nat} {b : BS} (h : Okb n b) : Okb (n + 65) (endBr b) := h.single ⟨by decide +kernel, by decide +kernel⟩
theorem Okb.chB {n : Nat} {b : BS} (h : Okb n b) {t : TokL} (ht : t.text.size ≤ 1000) : Okb (n + 65) (chB b t) := h.rebuild.chars ht
end Bd
