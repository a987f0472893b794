/-
  What the library's functions that package hosts calls besides return: IndexFunc at the predicate of a domain's bytes, Join of nothing, Cut, ContainsAny.
-/
import Derived.Test.YtkaejkjheajaaaaGreatDoorHRun
import Derived.Test.YtkaejkjheajaaaaGreatDoorHostS
import Derived.Test.YtkaejkjheajaaaaGreatDoorShelh
import Derived.Lib.DecodeNEq
import Derived.Lib.MapLaws
import Derived.Laws.RangeString
namespace Lz
open Go
theorem rune_hi (s : ByteArray) (pos : Nat) (h : pos < s.size) (hb : 128 ≤ (s[pos]'h).toNat) : 128 ≤ (Utf8.decode s pos).1 := by
  rw [Lib.decode_at]
  have h0 : (s.get! pos).toNat = (s[pos]'h).toNat := by
    congr 1
    show s.data[pos]! = _
    rw [getElem!_pos s.data pos h]; rfl
  rcases Lib.decodeN_shape (s.size - pos) (s.get! pos).toNat (s.get! (pos + 1)).toNat (s.get! (pos + 2)).toNat (s.get! (pos + 3)).toNat with ⟨h1, _⟩ | ⟨_, _, _, h2, h3⟩ | ⟨_, _, _, _, h2, _, h3⟩ | ⟨_, _, _, _, _, h2, _, h3⟩ | h3
  · omega
  · rw [h3]; exact h2
  · rw [h3]; show 128 ≤ _; omega
  · rw [h3]; show 128 ≤ _; omega
  · rw [h3]; show 128 ≤ 65533; omega
/-- Where the first rune is that a predicate says yes to which says yes to all beyond 127, and to bytes as q does. -/
theorem idx_any {p : Nat → Bool} {q : UInt8 → Bool} (hp : ∀ x, 128 ≤ x → p x = true) (hq : ∀ c : UInt8, c.toNat < 128 → p c.toNat = q c) (hq2 : ∀ c : UInt8, 128 ≤ c.toNat → q c = true) (s : ByteArray) :
    ∀ (f pos : Nat), s.size ≤ pos + f → decide (0 ≤ Lib.idxFuncFrom p true s f pos) = (s.data.toList.drop pos).any q
  | 0, pos, h => by
    rw [List.drop_eq_nil_of_le (by show s.size ≤ pos; omega)]; rfl
  | f + 1, pos, h => by
    rw [Lib.idxFuncFrom]
    by_cases hps : pos < s.size
    · rw [if_pos hps]
      have hd : s.data.toList.drop pos = s[pos] :: s.data.toList.drop (pos + 1) := by
        rw [List.drop_eq_getElem_cons (show pos < s.data.toList.length from hps)]; rfl
      rw [hd, List.any_cons]
      rcases Nat.lt_or_ge (s[pos]'hps).toNat 128 with h1 | h1
      · have hdec := decode_ascii s pos hps h1
        rw [hdec, hq _ h1]
        cases hqc : q s[pos] with
        | true => simp
        | false =>
          simp only [Bool.false_eq_true, if_false, Bool.false_or]
          exact idx_any hp hq hq2 s f (pos + 1) (by omega)
      · rw [hp _ (rune_hi s pos hps h1), hq2 _ h1]
        simp
    · rw [if_neg hps, List.drop_eq_nil_of_le (by show s.size ≤ pos; omega)]; rfl
theorem containsAny_eq (l chars : Bs) : Lib.containsAny l chars = l.any chars.contains := by
  unfold Lib.containsAny
  induction l with
  | nil => rfl
  | cons b r ih =>
    have hge := Lib.indexAny_ge chars r
    rw [Lib.indexAny, List.any_cons, ← ih]
    by_cases h : chars.contains b = true
    · rw [if_pos h, h]; simp
    · rw [if_neg h]
      have h2 : chars.contains b = false := by simpa using h
      rw [h2, Bool.false_or, Bool.eq_iff_iff, decide_eq_true_eq, decide_eq_true_eq]
      by_cases h3 : Lib.indexAny r chars = -1
      · rw [h3]; simp
      · rw [if_neg (by simpa using h3)]; omega
end Lz
namespace Go.Proofs.YtkaejkjheajaaaaGreatDoor
open Go.RowKit

theorem Join_z (a : Option Addr) (c : Nat) (sep : ByteArray) (w : World) : Calls Tryz.prog 145 #[.slice a 0 c, .string sep] w (RStr [] w) := by
  refine (Tryz.strings_Join_none a c sep w).mono ?_
  rintro e w' ⟨h1, rfl⟩
  exact ⟨_, h1, Lib.hid rfl, Below.refl _ _⟩
theorem Cut_h (s p : ByteArray) (hs : s.size ≤ 1073741824) (w : World) (hE : EnvH w) : Calls Tryz.prog 89 #[.string s, .string p] w (RStrStrB (Lib.cut s.data.toList p.data.toList).1 (Lib.cut s.data.toList p.data.toList).2.1 (Lib.cut s.data.toList p.data.toList).2.2 w) := by
  obtain ⟨m, hm⟩ := hE.ml
  exact (Tryz.strings_Cut s p m w (by omega) hm).mono fun _ _ ⟨he, n, hw⟩ => ⟨_, _, he, rfl, rfl, by rw [hw]; exact below_drewN (Below.refl _ _) n⟩

/-- Is a rune none of a domain's? -/
def pDom (x : Nat) : Bool := if x < 128 then Lz.oddB (UInt8.ofNat x) else true
def bannedB : ByteArray := ⟨#[0, 9, 10, 13, 32, 35, 47, 58, 60, 62, 63, 64, 91, 92, 93, 94, 124]⟩
theorem banned_at : ∀ x : Fin 128, 32 < x.val → x.val < 127 → x.val ≠ 37 → decide (0 ≤ Lib.indexByte bannedB.data.toList x.val.toUInt8) = Lz.oddB (UInt8.ofNat x.val) := by decide +kernel
theorem odd_at : ∀ x : Fin 128, (x.val ≤ 32 ∨ 127 ≤ x.val ∨ x.val = 37) → Lz.oddB (UInt8.ofNat x.val) = true := by decide +kernel

set_option maxRecDepth 100000 in
theorem dom1_any (x : Nat) (hx : x ≤ 1114111) (w : World) : Calls Tryz.prog 105 #[.int .i32 (x : Int)] w fun e w' => e = .returned (.bool (pDom x)) ∧ Below w.heap.size w w' := by
  by_cases h : x ≤ 32 ∨ 127 ≤ x ∨ x = 37
  · have hp : pDom x = true := by
      unfold pDom
      split
      · exact odd_at ⟨x, by assumption⟩ h
      · rfl
    rw [hp]
    rcases Nat.lt_or_ge 32 x with h1 | h1
    · have h1' : ¬ (x : Int) ≤ 32 := by omega
      have h1b : decide ((x : Int) ≤ 32) = false := decide_eq_false h1'
      rcases Nat.lt_or_ge x 127 with h2 | h2
      · have h3 : x = 37 := by omega
        have h2b : decide (127 ≤ (x : Int)) = false := decide_eq_false (by omega)
        have h3b : ((x : Int) == 37) = true := by rw [h3]; rfl
        have h2' : ¬ 127 ≤ (x : Int) := by omega
        clear h h3 hp
        go_enter Tryz.func105, Tryz.ntmps105
        go_wp2
        go_ret
        exact ⟨rfl, Below.refl _ _⟩
      · have h2b : decide (127 ≤ (x : Int)) = true := decide_eq_true (by omega)
        have h2' : 127 ≤ (x : Int) := by omega
        clear h hp
        go_enter Tryz.func105, Tryz.ntmps105
        go_wp2
        go_ret
        exact ⟨rfl, Below.refl _ _⟩
    · have h1' : (x : Int) ≤ 32 := by omega
      have h1b : decide ((x : Int) ≤ 32) = true := decide_eq_true h1'
      clear h hp
      go_enter Tryz.func105, Tryz.ntmps105
      go_wp2
      go_ret
      exact ⟨rfl, Below.refl _ _⟩
  · have hp : pDom x = decide (0 ≤ Lib.indexByte bannedB.data.toList x.toUInt8) := by
      unfold pDom
      rw [if_pos (by omega)]
      exact (banned_at ⟨x, by omega⟩ (by show 32 < x; omega) (by show x < 127; omega) (by show x ≠ 37; omega)).symm
    have cC := Tryz.strings_ContainsRune_ascii bannedB (x : Int) w (by omega) (by omega)
    rw [show ((x : Int)).toNat = x by omega, ← hp] at cC
    have CC := Lib.hid cC
    have h1' : ¬ (x : Int) ≤ 32 := by omega
    have h1b : decide ((x : Int) ≤ 32) = false := decide_eq_false h1'
    have h2' : ¬ 127 ≤ (x : Int) := by omega
    have h2b : decide (127 ≤ (x : Int)) = false := decide_eq_false h2'
    have h3b : ((x : Int) == 37) = false := beq_eq_false_iff_ne.2 (by omega)
    clear h hp cC
    go_enter Tryz.func105, Tryz.ntmps105
    go_wp2_with fail
    refine (CC.out).mono ?_
    rintro e w' ⟨rfl, rfl⟩
    go_wp2
    go_ret
    exact ⟨rfl, Below.refl _ _⟩
theorem pDom_hi (x : Nat) (h : 128 ≤ x) : pDom x = true := by unfold pDom; rw [if_neg (by omega)]
theorem pDom_lo (c : UInt8) (h : c.toNat < 128) : pDom c.toNat = Lz.oddB c := by unfold pDom; rw [if_pos h]; simp
theorem odd_hi : ∀ c : UInt8, 128 ≤ c.toNat → Lz.oddB c = true := Lz.byte_all (by decide +kernel)
theorem fn_dom1 (args : Array Value) (w : World) : (callFunc 105 args).run Tryz.prog w = .ok (.enter 105 args) w := enters_of Tryz.func105 (by kernel_rfl) rfl args w
/-- strings.IndexFunc at what no domain has: below 0 just where no byte is odd. -/
theorem IndexFunc_dom (s : ByteArray) (w : World) : Calls Tryz.prog 104 #[.string s, .func (.func 105) #[] #[]] w fun e w' => ∃ i : Int, e = .returned (.int .i64 i) ∧ Hid (decide (0 ≤ i) = s.data.toList.any Lz.oddB) ∧ Below w.heap.size w w' := by
  refine (Tryz.strings_IndexFunc_grows 105 #[] fn_dom1 pDom s w (fun W x hx _ => dom1_any x hx W)).mono ?_
  rintro e w' ⟨he, hb⟩
  refine ⟨_, he, Lib.hid ?_, hb⟩
  have := Lz.idx_any pDom_hi pDom_lo odd_hi s s.size 0 (by omega)
  rw [List.drop_zero] at this
  exact this
/-- strings.ContainsAny at what hosts have not, of a text of bytes below 128. -/
theorem ContainsAny_asc (s : ByteArray) (hs : s.size ≤ 1073741824) (ha : ∀ c ∈ s.data.toList, c.toNat < 128) (w : World) : Calls Tryz.prog 64 #[.string s, .string bannedB] w (RBool (s.data.toList.any Lz.banned.contains) w) := by
  refine (Tryz.strings_ContainsAny_laid s bannedB w (by omega) (by decide) (fun j b hj => ha b (List.mem_of_getElem? hj)) (fun j b hj => ?_)).mono ?_
  · have : ∀ b ∈ bannedB.data.toList, b.toNat < 128 := by decide
    exact this b (List.mem_of_getElem? hj)
  · rintro e w' ⟨he, hb⟩
    refine ⟨?_, hb⟩
    rw [he, Lz.containsAny_eq]; rfl
end Go.Proofs.YtkaejkjheajaaaaGreatDoor
