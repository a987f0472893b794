/-
  ascii.Hex and percent.triple.
-/
import Derived.Test.YtkaejkjheajaaaaGreatDoorAscii
import Derived.Test.YtkaejkjheajaaaaGreatDoorSrcA
import Derived.Test.YtkaejkjheajaaaaGreatDoorHostP
import Derived.Test.YtkaejkjheajaaaaGreatDoorRefA
namespace Lz
def hexN (c : UInt8) : Nat := (hexV c).getD 0
def hexB (c : UInt8) : Bool := (hexV c).isSome
end Lz
namespace Go.Proofs.YtkaejkjheajaaaaGreatDoor
open Go.RowKit

theorem hexI1 (c : UInt8) : Lz.isDigit c = true → ((c.toNat : Int) - 48) % 256 = (Lz.hexN c : Int) ∧ Lz.hexB c = true := by
  revert c; exact Lz.byte_all (by decide +kernel)
theorem hexI2 (c : UInt8) : Lz.isDigit c = false → 97 ≤ bits BinOp.or IntKind.u8 (c.toNat : Int) 32 → bits BinOp.or IntKind.u8 (c.toNat : Int) 32 ≤ 102 → bits BinOp.or IntKind.u8 (c.toNat : Int) 32 - 97 + 10 = (Lz.hexN c : Int) ∧ Lz.hexB c = true := by
  revert c; exact Lz.byte_all (by decide +kernel)
theorem hexI3 (c : UInt8) : Lz.isDigit c = false → ¬ (97 ≤ bits BinOp.or IntKind.u8 (c.toNat : Int) 32 ∧ bits BinOp.or IntKind.u8 (c.toNat : Int) 32 ≤ 102) → (Lz.hexN c : Int) = 0 ∧ Lz.hexB c = false := by
  revert c; exact Lz.byte_all (by decide +kernel)
theorem hexN_lt (c : UInt8) : Lz.hexN c < 16 := by
  revert c; exact Lz.byte_all (by decide +kernel)

/-- What Hex tells. -/
def RHex (c : UInt8) (w : World) (e : Ending) (w' : World) : Prop := e = .returned (.tuple #[.int .i64 (Lz.hexN c), .bool (Lz.hexB c)]) ∧ w = w'

set_option maxRecDepth 100000 in
theorem Hex_any (c : UInt8) (w : World) : Calls Tryz.prog 121 #[.int .u8 c.toNat] w (RHex c w) := by
  have hc := byte_lt c
  have H1 := Lib.hid (hexI1 c)
  have H2 := Lib.hid (hexI2 c)
  have H3 := Lib.hid (hexI3 c)
  unfold RHex
  generalize hn : Lz.hexN c = n at *
  generalize hb : Lz.hexB c = b at *
  have cd := Digit_any c w
  generalize hdd : Lz.isDigit c = d at *
  have Cd := Lib.hid cd
  clear cd hn hb hdd
  cases d
  · have H2' := Lib.hid (H2.out rfl)
    have H3' := Lib.hid (H3.out rfl)
    clear H1 H2 H3
    go_enter Tryz.func121, Tryz.ntmps121
    go_wp2_with (go_at_call 142; refine (Cd.out).mono ?_; rintro e w' ⟨rfl, rfl⟩)
    · go_ret2
      rename_i h1 h2
      obtain ⟨e1, e2⟩ := H2'.out h1 h2
      exact ⟨by rw [← e1, e2]; rfl, rfl⟩
    · go_ret2
      rename_i h1 h2
      obtain ⟨e1, e2⟩ := H3'.out (by omega)
      exact ⟨by rw [e1, e2]; rfl, rfl⟩
    · go_ret2
      rename_i h1
      obtain ⟨e1, e2⟩ := H3'.out (by omega)
      exact ⟨by rw [e1, e2]; rfl, rfl⟩
  · obtain ⟨h1, h2⟩ := H1.out rfl
    clear H2 H3 H1
    subst h2
    have Hh := Lib.hid h1
    clear h1
    go_enter Tryz.func121, Tryz.ntmps121
    go_wp2_with (go_at_call 142; refine (Cd.out).mono ?_; rintro e w' ⟨rfl, rfl⟩)
    go_ret2
    exact ⟨by rw [← Hh.out]; rfl, rfl⟩

/-- What triple tells. -/
def RTriple (l : List UInt8) (w : World) (e : Ending) (w' : World) : Prop :=
  ∃ c : UInt8, e = .returned (.tuple #[.int .u8 c.toNat, .bool (Lz.tripleP l).isSome]) ∧ Hid (∀ b, Lz.tripleP l = some b → c = b) ∧ w = w'

theorem tripleI (a b : UInt8) : ((bits BinOp.or IntKind.i64 ((Lz.hexN a : Int) * 16) (Lz.hexN b)) % 256) = ((UInt8.ofNat (16 * Lz.hexN a + Lz.hexN b)).toNat : Int) := by
  have ha := hexN_lt a
  have hb := hexN_lt b
  generalize Lz.hexN a = x at *
  generalize Lz.hexN b = y at *
  exact (show ∀ x : Fin 16, ∀ y : Fin 16, ((bits BinOp.or IntKind.i64 ((x.1 : Int) * 16) y.1) % 256) = ((UInt8.ofNat (16 * x.1 + y.1)).toNat : Int) by decide +kernel) ⟨x, ha⟩ ⟨y, hb⟩

theorem triple_short {l : List UInt8} (h : l.length < 3) : Lz.tripleP l = none := by
  match l, h with
  | [], _ => rfl
  | [a], _ => unfold Lz.tripleP; split <;> simp_all
  | [a, b], _ => unfold Lz.tripleP; split <;> simp_all
theorem triple_other {l : List UInt8} {c : UInt8} (h0 : l[0]? = some c) (h : (c == 37) = false) : Lz.tripleP l = none := by
  unfold Lz.tripleP
  split
  · simp at h0; subst h0; simp at h
  · rfl
theorem triple_three {l : List UInt8} {c a b : UInt8} (h0 : l[0]? = some c) (h1 : l[1]? = some a) (h2 : l[2]? = some b) (h : (c == 37) = true) :
    Lz.tripleP l = if Lz.hexB a && Lz.hexB b then some (UInt8.ofNat (16 * Lz.hexN a + Lz.hexN b)) else none := by
  match l, h0, h1, h2 with
  | x :: y :: z :: r, h0, h1, h2 =>
    simp at h0 h1 h2 h
    subst h0 h1 h2 h
    show (match Lz.hexV y, Lz.hexV z with
      | some x, some y => some (UInt8.ofNat (16 * x + y))
      | _, _ => none) = _
    cases hy : Lz.hexV y <;> cases hz : Lz.hexV z <;> simp [Lz.hexB, Lz.hexN, hy, hz]

set_option maxHeartbeats 2000000 in
set_option maxRecDepth 100000 in
theorem triple_any (s : ByteArray) (hs : s.size ≤ 1073741824) (w : World) : Calls Tryz.prog 146 #[.string s] w (RTriple s.data.toList w) := by
  by_cases h3 : s.size < 3
  · have Ht := Lib.hid (triple_short (l := s.data.toList) (by rw [len_of_size]; exact h3))
    unfold RTriple
    go_enter Tryz.func146, Tryz.ntmps146
    go_wp2
    go_ret2
    refine ⟨0, ?_, Lib.hid (fun b hb => ?_), rfl⟩
    · rw [Ht.out]; rfl
    · rw [Ht.out] at hb; cases hb
  · have g0 := get_of_lt (s := s) (n := 0) (by omega)
    have g1 := get_of_lt (s := s) (n := 1) (by omega)
    have g2 := get_of_lt (s := s) (n := 2) (by omega)
    have i0 : ((s[0].toNat : Int) == 37) = (s[0] == 37) := beqI s[0] 37
    have n0 : ((s[0].toNat : Int) != 37) = !(s[0] == 37) := congrArg (! ·) i0
    generalize hq : (s[0] == 37) = q at i0 n0
    cases q
    · have Ht := Lib.hid (triple_other g0 hq)
      clear g0 g1 g2 hq
      simp only [Bool.not_false] at n0
      unfold RTriple
      go_enter Tryz.func146, Tryz.ntmps146
      go_wp2
      go_ret2
      refine ⟨0, ?_, Lib.hid (fun b hb => ?_), rfl⟩
      · rw [Ht.out]; rfl
      · rw [Ht.out] at hb; cases hb
    · have Ht := Lib.hid (triple_three g0 g1 g2 hq)
      have I := Lib.hid (tripleI s[1] s[2])
      have Ca := fun w => Hex_any s[1] w
      have Cb := fun w => Hex_any s[2] w
      unfold RHex at Ca Cb
      unfold RTriple
      have l1 := hexN_lt s[1]
      have l2 := hexN_lt s[2]
      generalize Lz.hexN s[1] = x at *
      generalize Lz.hexN s[2] = y at *
      generalize Lz.hexB s[1] = a at *
      generalize Lz.hexB s[2] = b at *
      clear g0 g1 g2 hq
      simp only [Bool.not_true] at n0
      cases a <;> cases b <;>
      · go_enter Tryz.func146, Tryz.ntmps146
        go_wp2_with fail
        with_reducible refine (Ca _).mono ?_
        rintro e w' ⟨rfl, rfl⟩
        go_wp2_with fail
        with_reducible refine (Cb _).mono ?_
        rintro e w' ⟨rfl, rfl⟩
        go_wp2
        go_ret2
        refine ⟨UInt8.ofNat (16 * x + y), ?_, Lib.hid (fun b hb => ?_), rfl⟩
        · rw [Ht.out, ← I.out]; rfl
        · rw [Ht.out] at hb; first | (cases hb; rfl) | cases hb
end Go.Proofs.YtkaejkjheajaaaaGreatDoor
