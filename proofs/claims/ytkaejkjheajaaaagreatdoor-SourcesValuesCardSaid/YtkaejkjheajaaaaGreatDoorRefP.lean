/-
  Plain laws: what the document's answer for source expressions computes, piece by piece, is what package sources computes. No program in sight, no condition.
-/
import Derived.Test.YtkaejkjheajaaaaGreatDoorBackP
namespace Lz
open Go
def isAlnum (c : UInt8) : Bool := isAlpha c || isDigit c
/-- Is a byte one of these? -/
def inB (m : Bs) (c : UInt8) : Bool := m.contains c
/-- Letters, digits, and some more. -/
def moreB (m : Bs) (c : UInt8) : Bool := isAlnum c || inB m c
theorem more_letter (c : UInt8) : moreB [43, 47, 45, 95] c = isLetter c := by revert c; exact byte_all (by decide +kernel)
theorem more_word (c : UInt8) : moreB [45] c = isWord c := by revert c; exact byte_all (by decide +kernel)
theorem more_schemed (c : UInt8) : moreB [43, 45, 46] c = isSchemed c := by revert c; exact byte_all (by decide +kernel)
theorem allB_congr {p q : UInt8 → Bool} (h : ∀ c, p c = q c) (l : Bs) : allB p l = allB q l := by
  have : p = q := funext h
  rw [this]
theorem head_alpha (c : UInt8) : isSchemed c = true → (!inB [48, 49, 50, 51, 52, 53, 54, 55, 56, 57, 43, 45, 46] c) = isAlpha c := by
  revert c; exact byte_all (by decide +kernel)
theorem scheme_ref (l : Bs) (a : UInt8) (h0 : l[0]? = some a) : schemeB l = (allB (moreB [43, 45, 46]) l && !inB [48, 49, 50, 51, 52, 53, 54, 55, 56, 57, 43, 45, 46] a) := by
  cases l with
  | nil => cases h0
  | cons b r =>
    obtain rfl : b = a := by simpa using h0
    rw [allB_congr more_schemed]
    unfold schemeB
    cases hb : allB isSchemed (b :: r)
    · simp
    · have h := all_of_allB hb
      rw [head_alpha b (h.1 b (by simp))]
      simp
theorem scheme_nil : schemeB [] = false := rfl

theorem index_one (l : Bs) (c : UInt8) : Lib.index l [c] = Lib.indexByte l c := by
  induction l with
  | nil => rfl
  | cons b l ih =>
    by_cases h : b = c
    · rw [index_one_hit h]
      show _ = if b == c then 0 else if Lib.indexByte l c == -1 then -1 else Lib.indexByte l c + 1
      rw [if_pos (by simpa using h)]
    · rw [index_one_miss h, ih]
      show _ = if b == c then 0 else if Lib.indexByte l c == -1 then -1 else Lib.indexByte l c + 1
      have hb : (b == c) = false := by simpa using h
      rw [hb]
      rfl

theorem take_prefix (p l : Bs) : (l.take p.length == p) = Lib.hasPrefix l p := by
  unfold Lib.hasPrefix
  rw [Bool.eq_iff_iff, beq_iff_eq, List.isPrefixOf_iff_prefix]
  constructor
  · intro e; rw [← e]; exact List.take_prefix _ _
  · intro e; exact (List.prefix_iff_eq_take.1 e).symm
theorem short_prefix {p l : Bs} (h : l.length < p.length) : Lib.hasPrefix l p = false := by
  unfold Lib.hasPrefix
  rw [Bool.eq_false_iff]
  intro e
  have := (List.isPrefixOf_iff_prefix.1 e).length_le
  omega
theorem low_take (l : Bs) (k : Nat) : low (l.take k) = (low l).take k := by unfold low; rw [List.map_take]

/-! ### numbers -/
/-- What digits are worth. -/
def decV (l : Bs) : Nat := l.foldl (fun a c => a * 10 + (c.toNat - 48)) 0
/-- .. at most 100000. -/
def capV (l : Bs) : Nat := l.foldl (fun a c => min (10 * a + (c.toNat - 48)) 100000) 0
theorem decV_snoc (l : Bs) (c : UInt8) : decV (l ++ [c]) = decV l * 10 + (c.toNat - 48) := by unfold decV; rw [List.foldl_append]; rfl
theorem capV_snoc (l : Bs) (c : UInt8) : capV (l ++ [c]) = min (10 * capV l + (c.toNat - 48)) 100000 := by unfold capV; rw [List.foldl_append]; rfl
theorem snoc_ind {P : Bs → Prop} (h0 : P []) (h1 : ∀ l c, P l → P (l ++ [c])) (l : Bs) : P l := by
  rw [← List.reverse_reverse l]
  induction l.reverse with
  | nil => exact h0
  | cons c r ih => rw [List.reverse_cons]; exact h1 _ _ ih
theorem capV_eq (l : Bs) : capV l = min (decV l) 100000 := by
  refine snoc_ind (P := fun l => capV l = min (decV l) 100000) rfl ?_ l
  intro l c ih
  rw [capV_snoc, decV_snoc, ih]
  omega
theorem capV_le (l : Bs) : capV l ≤ 100000 := by rw [capV_eq]; omega
theorem decV_fold (l : Bs) : ∀ a : Nat, a ≤ l.foldl (fun a c => a * 10 + (c.toNat - 48)) a := by
  induction l with
  | nil => intro a; exact Nat.le_refl _
  | cons c r ih => intro a; rw [List.foldl_cons]; exact Nat.le_trans (by omega) (ih _)
theorem parse_digits (l : Bs) : ∀ a : Nat, a < 18446744073709551616 → (∀ c ∈ l, isDigit c = true) →
    Lib.parseUint10 a l = if l.foldl (fun a c => a * 10 + (c.toNat - 48)) a < 18446744073709551616 then .ok (l.foldl (fun a c => a * 10 + (c.toNat - 48)) a) else .range := by
  induction l with
  | nil => intro a ha _; rw [List.foldl_nil, if_pos ha]; rfl
  | cons c r ih =>
    intro a ha hd
    obtain ⟨h1, h2⟩ := digit_nat (hd c (by simp))
    rw [List.foldl_cons]
    unfold Lib.parseUint10
    rw [if_pos ⟨h1, h2⟩]
    have hm := decV_fold r (a * 10 + (c.toNat - 48))
    split
    · rw [if_neg (by omega)]
    · split
      · rw [if_neg (by omega)]
      · exact ih _ (by omega) (fun x hx => hd x (by simp [hx]))
theorem port_digits {l : Bs} (h : allB isDigit l = true) : portP l = if capV l ≤ 65535 then some (capV l : Int) else none := by
  obtain ⟨hd, hne⟩ := all_of_allB h
  have h42 : l ≠ [42] := by
    rintro rfl
    have := hd 42 (by simp)
    revert this; decide
  unfold portP
  rw [if_neg h42]
  have ha : Lib.atoiAll l = if decV l < 9223372036854775808 then .ok (decV l : Int) else .range := by
    cases l with
    | nil => exact absurd rfl hne
    | cons c r =>
      obtain ⟨h1, h2⟩ := digit_nat (hd c (by simp))
      have hp := parse_digits (c :: r) 0 (by omega) hd
      unfold Lib.atoiAll
      dsimp only
      rw [if_neg (by omega)]
      unfold Lib.parseMag
      rw [if_neg (by simp), hp]
      have e : (c :: r).foldl (fun a c => a * 10 + (c.toNat - 48)) 0 = decV (c :: r) := rfl
      rw [e]
      by_cases hb : decV (c :: r) < 18446744073709551616
      · rw [if_pos hb]
        dsimp only
        by_cases hs : decV (c :: r) < 9223372036854775808
        · rw [if_neg (by omega), if_neg (by omega), if_neg (by omega), if_pos hs]
        · rw [if_pos (by omega), if_neg hs]
      · rw [if_neg hb, if_neg (by omega)]
  rw [ha, capV_eq]
  by_cases hs : decV l < 9223372036854775808
  · rw [if_pos hs]
    dsimp only
    rw [h, Bool.true_and]
    by_cases hv : decV l ≤ 65535
    · rw [if_pos (by simp; omega), if_pos (by omega)]
      congr 1
      omega
    · rw [if_neg (by simp; omega), if_neg (by omega)]
  · rw [if_neg hs, if_neg (by omega)]
theorem port_none {l : Bs} (h42 : l ≠ [42]) (h : allB isDigit l = false) : portP l = none := by
  unfold portP
  rw [if_neg h42]
  split
  · rw [h]; rfl
  · rfl

/-! ### labels -/
theorem splitC_none {c : UInt8} : ∀ {l : Bs}, (∀ x ∈ l, x ≠ c) → splitC c l = [l]
  | [], _ => rfl
  | b :: l, h => by
    rw [splitC, if_neg (by simpa using h b (by simp)), splitC_none (fun x hx => h x (by simp [hx]))]
theorem splitC_at {c : UInt8} (r : Bs) : ∀ {l : Bs}, (∀ x ∈ l, x ≠ c) → splitC c (l ++ c :: r) = l :: splitC c r
  | [], _ => by rw [List.nil_append, splitC, if_pos (by simp)]
  | b :: l, h => by
    rw [List.cons_append, splitC, if_neg (by simpa using h b (by simp)), splitC_at r (fun x hx => h x (by simp [hx]))]
/-- No byte of a piece is c. -/
def NoC (c : UInt8) (l : Bs) (a b : Nat) : Prop := ∀ j, a ≤ j → j < b → l[j]? ≠ some c
theorem noC_mem {c : UInt8} {l : Bs} {a b : Nat} (h : NoC c l a b) : ∀ x ∈ (l.drop a).take (b - a), x ≠ c := by
  rintro x hx rfl
  obtain ⟨j, hj⟩ := List.getElem?_of_mem hx
  rw [List.getElem?_take] at hj
  split at hj
  · rename_i hlt
    rw [List.getElem?_drop] at hj
    exact h (a + j) (by omega) (by omega) hj
  · cases hj
theorem split_piece_end {c : UInt8} {l : Bs} {a : Nat} (h : NoC c l a l.length) : splitC c (l.drop a) = [l.drop a] := by
  refine splitC_none ?_
  have := noC_mem h
  rwa [List.take_of_length_le (by simp)] at this
theorem split_piece {c : UInt8} {l : Bs} {a b : Nat} (hab : a ≤ b) (h : NoC c l a b) (hb : l[b]? = some c) : splitC c (l.drop a) = (l.drop a).take (b - a) :: splitC c (l.drop (b + 1)) := by
  have hlt : b < l.length := (List.getElem?_eq_some_iff.1 hb).1
  have e : l.drop a = (l.drop a).take (b - a) ++ c :: l.drop (b + 1) := by
    have h1 : (l.drop a).drop (b - a) = c :: l.drop (b + 1) := by
      rw [List.drop_drop, show a + (b - a) = b by omega, List.drop_eq_getElem_cons hlt]
      have : l[b] = c := by rw [List.getElem?_eq_getElem hlt] at hb; exact Option.some.inj hb
      rw [this]
    rw [← h1, List.take_append_drop]
  conv => lhs; rw [e]
  exact splitC_at _ (noC_mem h)
/-- All labels from a place on are names. -/
def namedFrom (l : Bs) (a : Nat) : Bool := (splitC 46 (l.drop a)).all (allB isWord)
theorem named_zero (l : Bs) : namedB l = namedFrom l 0 := by unfold namedB namedFrom; rw [split_eq]; rfl
theorem named_end {l : Bs} {a : Nat} (h : NoC 46 l a l.length) : namedFrom l a = allB isWord (l.drop a) := by
  unfold namedFrom; rw [split_piece_end h]; simp
theorem named_step {l : Bs} {a b : Nat} (hab : a ≤ b) (h : NoC 46 l a b) (hb : l[b]? = some 46) : namedFrom l a = (allB isWord ((l.drop a).take (b - a)) && namedFrom l (b + 1)) := by
  unfold namedFrom; rw [split_piece hab h hb]; rfl

/-! ### base64 -/
theorem base_take {l : Bs} {k : Nat} (hk : k ≤ l.length) (h1 : ∀ (j : Nat) b, k ≤ j → l[j]? = some b → b = 61) (h2 : ∀ b, 0 < k → l[k - 1]? = some b → b ≠ 61) :
    baseB l = (decide (l.length - k ≤ 2) && allB (moreB [43, 47, 45, 95]) (l.take k)) := by
  unfold baseB
  rw [Lib.trimRightB_take l 61 k hk h1 h2, allB_congr more_letter, List.length_take, Nat.min_eq_left hk]

/-! ### the whole -/
theorem seen_ref (c : UInt8) : isSeen c = (decide (33 ≤ (c.toNat : Int)) && decide ((c.toNat : Int) ≤ 126) && !inB [63, 35, 59, 44, 34, 60, 62, 92, 94, 96, 123, 124, 125] c) := by
  revert c; exact byte_all (by decide +kernel)
theorem path_ref (l : Bs) : (l.isEmpty || allB isSeen l) = l.all isSeen := by
  cases l with
  | nil => rfl
  | cons b r => simp [allB]
end Lz
