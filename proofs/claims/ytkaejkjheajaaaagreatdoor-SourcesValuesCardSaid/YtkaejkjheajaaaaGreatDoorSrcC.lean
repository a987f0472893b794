/-
  The walks of sources.host and sources.port.
-/
import Derived.Test.YtkaejkjheajaaaaGreatDoorErr
namespace Go.Proofs.YtkaejkjheajaaaaGreatDoor
open Go.RowKit

def SrcB.cells (x : SrcB) : Array Value := #[.int .i64 x.kind, .string x.text, .int .i64 x.bits, .string x.scheme, .string x.host, .bool x.wild, .int .i64 x.port, .string x.path]
/-- block T is a source's variable, and holds x. -/
def SrcRow (w : World) (T : Nat) (x : SrcB) : Prop := w.heap[T]? = some (.cells x.cells 28 (0, 0))

theorem SrcRow.cell {w : World} {T : Nat} {x : SrcB} (h : SrcRow w T x) (k : Nat) : w.cell? ⟨T, k, none⟩ = x.cells[k]? := cell_of_row w T k _ _ _ h
theorem SrcRow.free {w : World} {T : Nat} {x : SrcB} (h : SrcRow w T x) (k : Nat) : w.frozen? ⟨T, k, none⟩ = false := by
  unfold SrcRow at h
  simp only [World.frozen?, h]
  simp
theorem SrcRow.lt {w : World} {T : Nat} {x : SrcB} (h : SrcRow w T x) : T < w.heap.size := (Array.getElem?_eq_some_iff.1 h).1
theorem SrcRow.below {w w' : World} {T : Nat} {x : SrcB} (h : SrcRow w T x) (hb : Below w.heap.size w w') : SrcRow w' T x := by
  unfold SrcRow
  rw [hb.block T h.lt]; exact h
theorem SrcRow.store {w : World} {T : Nat} {x y : SrcB} (h : SrcRow w T x) (k : Nat) (v : Value) (hy : x.cells.setIfInBounds k v = y.cells) : SrcRow (w.setCell ⟨T, k, none⟩ v) T y := by
  unfold SrcRow
  rw [setCell_eq_setRow w T k x.cells _ _ v h, ← hy]
  exact setRow_heap _ _ _ _ _ _ h

/-- The error of sources.host, sources.port, and what they leave in the source's variable. -/
def RInto (o : Option SrcB) (x : SrcB) (n T : Nat) (w : World) (e : Ending) (w' : World) : Prop :=
  ∃ v, e = .returned v ∧ Hid (match o with | some y => v = .nilIface ∧ SrcRow w' T y | none => Bady w' n v ∧ SrcRow w' T x) ∧ Below T w w'

theorem eq_star {s : ByteArray} (b : Bool) (h : decide (s.data.toList = [42]) = b) : (s.toList == [42]) = b := by
  rw [Lib.toList_data, ← h]
  by_cases h2 : s.data.toList = [42] <;> simp [h2]

/-- What sources.host leaves of a source. -/
def hostO (s : ByteArray) (x : SrcB) : Option SrcB :=
  if s.data.toList = [42] then some { x with wild := true }
  else if Lz.namedB (Lib.trimPrefix s.data.toList [42, 46]) then some { x with wild := Lib.hasPrefix s.data.toList [42, 46], host := ⟨(Lz.low (Lib.trimPrefix s.data.toList [42, 46])).toArray⟩ } else none

set_option maxHeartbeats 1000000 in
set_option maxRecDepth 100000 in
theorem host_any (s : ByteArray) (hs : s.size ≤ 1048576) (T : Nat) (x : SrcB) (w : World) (hE : Env w) (hT : SrcRow w T x) :
    Calls Tryz.prog 91 #[.string s, .pointer (some ⟨T, 0, none⟩)] w (RInto (hostO s x) x 0 T w) := by
  have h5 := hT.cell 5
  have h4 := hT.cell 4
  have f5 := hT.free 5
  have f4 := hT.free 4
  simp only [SrcB.cells] at h4 h5
  simp at h4 h5
  go_enter Tryz.func91, Tryz.ntmps91
  go_wp2_with fail
  refine (CutPrefix_c s _ w).mono ?_
  rintro e w1 ⟨v, rfl, hv, rfl⟩
  by_cases hstar : s.data.toList = [42]
  · have hst := eq_star true (decide_eq_true hstar)
    have HR : Hid (hostO s x = some { x with wild := true }) := by show hostO s x = _; unfold hostO; rw [if_pos hstar]
    clear hstar
    go_wp2
    go_ret
    exact ⟨_, rfl, by rw [HR.out]; exact ⟨rfl, hT.store 5 _ (by rfl)⟩, (Below.refl T w).setCell (p := ⟨T, 5, none⟩) (Nat.le_refl _) _⟩
  · have hst := eq_star false (decide_eq_false hstar)
    have Hs := Lib.hid hstar
    clear hstar
    have hvl : v.data.toList = Lib.trimPrefix s.data.toList [42, 46] := hv.out
    have hvz : v.size ≤ s.size := by
      rw [← len_of_size v, hvl, ← len_of_size s]
      unfold Lib.trimPrefix
      split
      · simp
      · exact Nat.le_refl _
    have Hvl := Lib.hid hvl
    clear hvl hv
    have cN := Lib.hid (named_any v (by omega) w hE)
    generalize hnb : Lz.namedB v.data.toList = nb at cN
    have Hnb := Lib.hid hnb
    clear hnb
    cases nb
    · have HR : Hid (hostO s x = none) := by
        show hostO s x = _
        unfold hostO
        rw [if_neg Hs.out, ← Hvl.out, Hnb.out]
        rfl
      go_wp2_with fail
      refine (cN.out).mono ?_
      rintro e w2 ⟨rfl, hb2⟩
      go_wp2
      go_ret
      exact ⟨_, rfl, by rw [HR.out]; exact ⟨⟨_, rfl⟩, hT.below hb2⟩, hb2.mono (Nat.le_of_lt hT.lt)⟩
    · go_wp2_with fail
      refine (cN.out).mono ?_
      rintro e w2 ⟨rfl, hb2⟩
      go_wp2_with fail
      refine (Lower_c v (by omega) w2).mono ?_
      rintro e w3 ⟨u, rfl, hu, hb3⟩
      have hx3 := below_call hb2 hb3
      have hT3 := hT.below hx3
      have HR : Hid (hostO s x = some { x with wild := Lib.hasPrefix s.data.toList [42, 46], host := u }) := by
        show hostO s x = _
        unfold hostO
        rw [if_neg Hs.out, ← Hvl.out, Hnb.out, if_pos rfl]
        have hue : (⟨(Lz.low v.data.toList).toArray⟩ : ByteArray) = u := by rw [← hu.out]
        rw [hue]
      clear h4 h5 f4 f5
      have h5 := hT3.cell 5
      have h4 := hT3.cell 4
      have f5 := hT3.free 5
      have f4 := hT3.free 4
      simp only [SrcB.cells] at h4 h5
      simp at h4 h5
      go_wp2
      go_ret
      have hrow := (hT3.store (y := { x with wild := Lib.hasPrefix s.data.toList [42, 46] }) 5 (.bool (Lib.hasPrefix s.data.toList [42, 46])) (by rfl)).store (y := { x with wild := Lib.hasPrefix s.data.toList [42, 46], host := u }) 4 (.string u) (by rfl)
      exact ⟨_, rfl, by rw [HR.out]; exact ⟨rfl, hrow⟩, ((hx3.mono (Nat.le_of_lt hT.lt)).setCell (p := ⟨T, 5, none⟩) (Nat.le_refl _) _).setCell (p := ⟨T, 4, none⟩) (Nat.le_refl _) _⟩

/-! ### port -/
/-- What sources.port leaves of a source. -/
def portO (s : ByteArray) (x : SrcB) : Option SrcB := (Lz.portP s.data.toList).map fun n => { x with port := n }

theorem below_bytes (w : World) (t : TypeId) (s : ByteArray) : Below w.heap.size w (Lib.bytesWorld w t s) := Lib.bytesWorld_below _ _ _

theorem Atoi_c (s : ByteArray) (hs : s.size ≤ 1048576) (w : World) (hE : Env w) :
    Calls Tryz.prog 141 #[.string s] w fun e w' => ∃ n v, e = .returned (.tuple #[.int .i64 n, v]) ∧ Hid ((Lib.atoiAll s.data.toList = .ok n ∧ v = .nilIface) ∨ ((∀ m, Lib.atoiAll s.data.toList ≠ .ok m) ∧ ∃ t x, v = .iface t x)) ∧ Below w.heap.size w w' := by
  cases h : Lib.atoiAll s.data.toList with
  | ok n =>
    refine (Tryz.strconv_Atoi_ok s (by omega) n h w).mono ?_
    rintro e w' ⟨he, hw⟩
    refine ⟨n, .nilIface, he, Or.inl ⟨rfl, rfl⟩, ?_⟩
    rcases hw with rfl | ⟨t, rfl⟩
    · exact Below.refl _ _
    · exact Lib.bytesWorld_below _ _ _
  | range =>
    obtain ⟨te, pe, hv⟩ := hE.rng
    refine (Tryz.strconv_Atoi_range s (by omega) h _ w hv (Or.inr ⟨te, pe, rfl⟩)).mono ?_
    rintro e w' ⟨N, he, _, _, hb⟩
    exact ⟨_, _, he, Or.inr ⟨(fun m hm => by cases hm), _, _, rfl⟩, hb⟩
  | _ =>
    obtain ⟨te, pe, hv⟩ := hE.syn
    refine (Tryz.strconv_Atoi_syntax s (by omega) (h.trans rfl) _ w hv (Or.inr ⟨te, pe, rfl⟩)).mono ?_
    rintro e w' ⟨N, he, _, _, hb⟩
    exact ⟨_, _, he, Or.inr ⟨(fun m hm => by cases hm), _, _, rfl⟩, hb⟩

set_option maxHeartbeats 1000000 in
set_option maxRecDepth 100000 in
theorem port_any (s : ByteArray) (hs : s.size ≤ 1048576) (T : Nat) (x : SrcB) (w : World) (hE : Env w) (hT : SrcRow w T x) :
    Calls Tryz.prog 93 #[.string s, .pointer (some ⟨T, 0, none⟩)] w (RInto (portO s x) x 1 T w) := by
  by_cases hstar : s.data.toList = [42]
  · have hst := eq_star true (decide_eq_true hstar)
    have HR : Hid (portO s x = some { x with port := -2 }) := by show portO s x = _; unfold portO Lz.portP; rw [if_pos hstar]; rfl
    clear hstar
    have h6 := hT.cell 6
    have f6 := hT.free 6
    simp only [SrcB.cells] at h6
    simp at h6
    go_enter Tryz.func93, Tryz.ntmps93
    go_wp2
    go_ret
    exact ⟨_, rfl, by rw [HR.out]; exact ⟨rfl, hT.store 6 _ (by rfl)⟩, (Below.refl T w).setCell (p := ⟨T, 6, none⟩) (Nat.le_refl _) _⟩
  · have hst := eq_star false (decide_eq_false hstar)
    have Hs := Lib.hid hstar
    clear hstar
    have cA := Lib.hid (all_any pred_Digit s (by omega))
    generalize hdb : Lz.allB Lz.isDigit s.data.toList = db at cA
    have Hdb := Lib.hid hdb
    clear hdb
    go_enter Tryz.func93, Tryz.ntmps93
    go_wp2_with fail
    refine (Atoi_c s hs w hE).mono ?_
    rintro e w1 ⟨n, v, rfl, hv, hb1⟩
    have hT1 := hT.below hb1
    rcases hv.out with ⟨ha, rfl⟩ | ⟨ha, t, z, rfl⟩
    · have Ha := Lib.hid ha
      clear ha hv
      by_cases hgood : db = true ∧ n ≤ 65535
      · obtain ⟨rfl, hn⟩ := hgood
        have HR : Hid (portO s x = some { x with port := n }) := by
          show portO s x = _
          unfold portO Lz.portP
          rw [if_neg Hs.out, Ha.out]
          simp only [Hdb.out, decide_eq_true hn, Bool.and_self, if_true]
          rfl
        have h6 := hT1.cell 6
        have f6 := hT1.free 6
        simp only [SrcB.cells] at h6
        simp at h6
        go_wp2_with (go_at_call 86; refine (cA.out _).mono ?_; rintro e w2 ⟨rfl, rfl⟩)
        go_ret
        exact ⟨_, rfl, by rw [HR.out]; exact ⟨rfl, hT1.store 6 _ (by rfl)⟩, (hb1.mono (Nat.le_of_lt hT.lt)).setCell (p := ⟨T, 6, none⟩) (Nat.le_refl _) _⟩
      · have HR : Hid (portO s x = none) := by
          show portO s x = _
          unfold portO Lz.portP
          rw [if_neg Hs.out, Ha.out]
          have : (db && decide (n ≤ 65535)) = false := by
            cases db
            · rfl
            · have : ¬ n ≤ 65535 := fun h => hgood ⟨rfl, h⟩
              simp [this]
          simp only [Hdb.out, this]
          rfl
        have hcase : (db = false) ∨ (db = true ∧ 65535 < n) := by
          cases db
          · exact Or.inl rfl
          · exact Or.inr ⟨rfl, by have : ¬ n ≤ 65535 := fun h => hgood ⟨rfl, h⟩; omega⟩
        clear hgood
        rcases hcase with rfl | ⟨rfl, hn⟩
        all_goals
          go_wp2_with (first | (go_at_call 86; refine (cA.out _).mono ?_; rintro e w2 ⟨rfl, rfl⟩) | (go_at_call 92; refine (Join_en w1.heap.size 58 (.string ⟨#[112, 111, 114, 116]⟩) _ (by simp) (by simp)).mono ?_; rintro e w3 ⟨p, g, len, cap, rfl, q1, q2, q3, q4, q5, q6, hb3⟩))
          go_ret
          have hx3 := (((Below.refl _ w1).alloc (Nat.le_refl _) _).trans (hb3.mono (by simp)))
          exact ⟨_, rfl, by rw [HR.out]; exact ⟨Or.inr ⟨p, g, len, cap, _, rfl, q1, q2, q3, q4, q5, q6, _, rfl⟩, hT1.below hx3⟩, (below_call hb1 hx3).mono (Nat.le_of_lt hT.lt)⟩
    · have HR : Hid (portO s x = none) := by
        show portO s x = _
        unfold portO Lz.portP
        rw [if_neg Hs.out]
        cases h : Lib.atoiAll s.data.toList with
        | ok m => exact absurd h (ha m)
        | _ => rfl
      clear ha hv
      go_wp2_with (first | (go_at_call 86; refine (cA.out _).mono ?_; rintro e w2 ⟨rfl, rfl⟩) | (go_at_call 92; refine (Join_ee w1.heap.size 58 (.string ⟨#[112, 111, 114, 116]⟩) t z _ (by simp) (by simp)).mono ?_; rintro e w3 ⟨p, g, len, cap, rfl, q1, q2, q3, q4, q5, q6, hb3⟩))
      go_ret
      have hx3 := (((Below.refl _ w1).alloc (Nat.le_refl _) _).trans (hb3.mono (by simp)))
      exact ⟨_, rfl, by rw [HR.out]; exact ⟨Or.inr ⟨p, g, len, cap, _, rfl, q1, q2, q3, q4, q5, q6, _, rfl⟩, hT1.below hx3⟩, (below_call hb1 hx3).mono (Nat.le_of_lt hT.lt)⟩
end Go.Proofs.YtkaejkjheajaaaaGreatDoor
