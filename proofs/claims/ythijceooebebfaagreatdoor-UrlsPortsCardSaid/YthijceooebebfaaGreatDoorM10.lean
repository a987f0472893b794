/-
  Plain laws on lists of bytes: numbers to a base, and what they are worth as labels; triples. No program in sight.
  strconv.FormatUint to the bases 8 and 16.
-/
import Derived.Test.YthijceooebebfaaGreatDoorM09
import Derived.Test.YthijceooebebfaaGreatDoorM04
import Derived.Laws.BitsAllLaws
namespace Lz
open Go

/-! ### Digits to a base -/
def baseD (b n : Nat) : Bs := if _h : n < b ∨ b < 2 then [hex1 n] else baseD b (n / b) ++ [hex1 (n % b)]
  termination_by n
  decreasing_by exact Nat.div_lt_self (by omega) (by omega)
theorem baseD_small {b n : Nat} (h : n < b) : baseD b n = [hex1 n] := by rw [baseD, dif_pos (Or.inl h)]
theorem baseD_big {b n : Nat} (hb : 2 ≤ b) (h : ¬ n < b) : baseD b n = baseD b (n / b) ++ [hex1 (n % b)] := by rw [baseD, dif_neg (by omega)]
theorem baseD_hex (n : Nat) : baseD 16 n = hexD n := by
  induction n using Nat.strongRecOn with
  | ind n ih =>
    by_cases h : n < 16
    · rw [baseD_small h, hexD_small h]
    · rw [baseD_big (by omega) h, hexD_big h, ih (n / 16) (by omega)]
theorem baseD_ne (b n : Nat) : baseD b n ≠ [] := by rw [baseD]; split <;> simp
theorem hex1_dig : ∀ d : Fin 10, hex1 d.val = UInt8.ofNat (48 + d.val) := by decide +kernel
theorem baseD_dec (n : Nat) : baseD 10 n = Lib.decDigits n := by
  induction n using Nat.strongRecOn with
  | ind n ih =>
    rw [Lib.decDigits]
    by_cases h : n < 10
    · rw [baseD_small h, dif_pos h]
      exact congrArg (fun x => [x]) (hex1_dig ⟨n, h⟩)
    · rw [baseD_big (by omega) h, dif_neg h, ih (n / 10) (by omega)]
      exact congrArg (fun x => _ ++ [x]) (hex1_dig ⟨n % 10, by omega⟩)
theorem baseD_chars (b : Nat) (hb : b ≤ 16) (hb2 : 2 ≤ b) (n : Nat) : ∀ c ∈ baseD b n, isHexD c = true := by
  induction n using Nat.strongRecOn with
  | ind n ih =>
    by_cases h : n < b
    · rw [baseD_small h]; intro c hc; rw [List.mem_singleton] at hc; rw [hc]; exact hex1_is (by omega)
    · rw [baseD_big hb2 h]
      intro c hc
      rcases List.mem_append.1 hc with hc | hc
      · exact ih (n / b) (Nat.div_lt_self (by omega) (by omega)) c hc
      · have := Nat.mod_lt n (show 0 < b by omega)
        rw [List.mem_singleton] at hc; rw [hc]; exact hex1_is (by omega)
theorem numF_app (b : Nat) : ∀ (x y : Bs) (n : Nat), numF b n (x ++ y) = (numF b n x).bind fun m => numF b m y
  | [], y, n => rfl
  | c :: x, y, n => by
    simp only [List.cons_append, numF]
    cases hexV c with
    | none => rfl
    | some d =>
      by_cases h : b ≤ d
      · simp [h]
      · simp only [h, if_false]; exact numF_app b x y _
theorem numF_base (b : Nat) (hb : b ≤ 16) (hb2 : 2 ≤ b) (n : Nat) (hn : n < 1099511627776) : numF b 0 (baseD b n) = some n := by
  induction n using Nat.strongRecOn with
  | ind n ih =>
    have one : ∀ m d, d < b → m * b + d < 1099511627776 → numF b m [hex1 d] = some (m * b + d) := by
      intro m d hd hm
      rw [numF, hexV_hex (by omega)]
      simp only [numF]
      rw [if_neg (by omega), Nat.min_eq_left (by omega)]
    by_cases h : n < b
    · rw [baseD_small h, one 0 n h (by omega)]; simp
    · rw [baseD_big hb2 h, numF_app, ih (n / b) (Nat.div_lt_self (by omega) (by omega)) (Nat.lt_of_le_of_lt (Nat.div_le_self n b) hn)]
      simp only [Option.bind_some]
      have hmod := Nat.mod_lt n (show 0 < b by omega)
      have hdm : n / b * b + n % b = n := by rw [Nat.mul_comm]; exact Nat.div_add_mod n b
      rw [one _ _ hmod (by omega), hdm]

/-! ### The ways of a label -/
def formP (n way : Nat) : Bs :=
  if way % 5 = 1 then [48, 120] ++ baseD 16 n
  else if way % 5 = 2 then [48, 88, 48, 48, 48] ++ baseD 16 n
  else if way % 5 = 3 then [48] ++ baseD 8 n
  else if way % 5 = 4 then [48, 48, 48] ++ baseD 8 n
  else Lib.decDigits n
theorem hexD_low1 : ∀ c : UInt8, isHexD c = true → low1 c = c ∧ c ≠ 120 ∧ c ≠ 46 ∧ c ≠ 37 ∧ c ≠ 91 ∧ oddB c = false ∧ banned.contains c = false ∧ (c < 32 || 126 < c) = false := byte_all (by decide +kernel)
theorem base_low (b : Nat) (hb : b ≤ 16) (hb2 : 2 ≤ b) (n : Nat) : low (baseD b n) = baseD b n := low_none _ fun c hc => (hexD_low1 c (baseD_chars b hb hb2 n c hc)).1
theorem dec_low (n : Nat) : low (Lib.decDigits n) = Lib.decDigits n := by rw [← baseD_dec]; exact base_low 10 (by omega) (by omega) n
/-- No needless digit. -/
theorem dec_head (n : Nat) (hn : 0 < n) : (Lib.decDigits n).head? ≠ some 48 := by
  induction n using Nat.strongRecOn with
  | ind n ih =>
    rw [← baseD_dec]
    by_cases h : n < 10
    · rw [baseD_small h]
      have : ∀ d : Fin 10, 0 < d.val → hex1 d.val ≠ 48 := by decide +kernel
      simpa using this ⟨n, h⟩ hn
    · rw [baseD_big (by omega) h, baseD_dec]
      have := ih (n / 10) (by omega) (by omega)
      have hne := dec_ne (n / 10)
      cases hx : Lib.decDigits (n / 10) with
      | nil => exact absurd hx hne
      | cons c r => rw [hx] at this; exact this
theorem num_of_dec (n : Nat) (hn : n < 1099511627776) : numP (Lib.decDigits n) = some n := by
  have hF : numF 10 0 (Lib.decDigits n) = some n := by rw [← baseD_dec]; exact numF_base 10 (by omega) (by omega) n hn
  have hne := dec_ne n
  unfold numP
  rw [dec_low]
  have hp : Lib.hasPrefix (Lib.decDigits n) [48, 120] = false := by
    rw [Bool.eq_false_iff]; intro hh
    unfold Lib.hasPrefix at hh
    obtain ⟨t, ht⟩ := List.isPrefixOf_iff_prefix.1 hh
    have : (120 : UInt8) ∈ Lib.decDigits n := by rw [← ht]; simp
    have := dec_digit n 120 this
    exact absurd this (by decide)
  rw [hp, if_neg (by simp)]
  by_cases h0 : n = 0
  · subst h0; decide +kernel
  · have hh := dec_head n (by omega)
    rw [if_neg, if_neg hne, hF]
    rintro ⟨_, h⟩
    apply hh
    cases hx : Lib.decDigits n with
    | nil => exact absurd hx hne
    | cons c r => rw [hx] at h; exact h
theorem numF_zeros (b : Nat) (hb : 2 ≤ b) (k : Nat) (x : Bs) : numF b 0 (List.replicate k 48 ++ x) = numF b 0 x := by
  induction k with
  | zero => rfl
  | succ k ih =>
    rw [List.replicate_succ, List.cons_append, numF, show hexV 48 = some 0 from rfl]
    simp only
    rw [if_neg (by omega), show min (0 * b + 0) 1099511627776 = 0 by omega, ih]
theorem num_hex (k n : Nat) (hn : n < 1099511627776) : numP ([48, 120] ++ (List.replicate k 48 ++ baseD 16 n)) = some n := by
  have hl : low ([48, 120] ++ (List.replicate k 48 ++ baseD 16 n)) = [48, 120] ++ (List.replicate k 48 ++ baseD 16 n) := by
    rw [low_append, low_append, base_low 16 (by omega) (by omega), low_none (List.replicate k 48)]; rfl
    intro c hc; rw [(List.mem_replicate.1 hc).2]; rfl
  unfold numP
  rw [hl, hasPrefix_self, if_pos rfl]
  have : (48 :: ([48, 120] ++ (List.replicate k 48 ++ baseD 16 n) : Bs).drop 2) = List.replicate (k + 1) 48 ++ baseD 16 n := rfl
  rw [this, numF_zeros 16 (by omega), numF_base 16 (by omega) (by omega) n hn]
theorem num_oct (k n : Nat) (hn : n < 1099511627776) : numP (48 :: (List.replicate k 48 ++ baseD 8 n)) = some n := by
  have hch : ∀ c ∈ (48 :: (List.replicate k 48 ++ baseD 8 n) : Bs), isHexD c = true := by
    intro c hc
    rcases List.mem_cons.1 hc with rfl | hc
    · rfl
    · rcases List.mem_append.1 hc with hc | hc
      · rw [(List.mem_replicate.1 hc).2]; rfl
      · exact baseD_chars 8 (by omega) (by omega) n c hc
  have hl : low (48 :: (List.replicate k 48 ++ baseD 8 n)) = 48 :: (List.replicate k 48 ++ baseD 8 n) := low_none _ fun c hc => (hexD_low1 c (hch c hc)).1
  unfold numP
  rw [hl]
  have hp : Lib.hasPrefix (48 :: (List.replicate k 48 ++ baseD 8 n)) [48, 120] = false := by
    rw [Bool.eq_false_iff]; intro hh
    unfold Lib.hasPrefix at hh
    obtain ⟨t, ht⟩ := List.isPrefixOf_iff_prefix.1 hh
    have : (120 : UInt8) ∈ (48 :: (List.replicate k 48 ++ baseD 8 n) : Bs) := by rw [← ht]; simp
    exact (hexD_low1 120 (hch 120 this)).2.1 rfl
  rw [hp, if_neg (by simp), if_pos]
  · show numF 8 0 (List.replicate k 48 ++ baseD 8 n) = _
    rw [numF_zeros 8 (by omega), numF_base 8 (by omega) (by omega) n hn]
  · have := baseD_ne 8 n
    refine ⟨?_, rfl⟩
    cases hx : baseD 8 n with
    | nil => exact absurd hx this
    | cons c r => simp; omega
theorem low_dec_or (n way : Nat) : low (formP n way) = (if way % 5 = 1 then [48, 120] ++ (List.replicate 0 48 ++ baseD 16 n)
  else if way % 5 = 2 then [48, 120] ++ (List.replicate 3 48 ++ baseD 16 n)
  else if way % 5 = 3 then 48 :: (List.replicate 0 48 ++ baseD 8 n)
  else if way % 5 = 4 then 48 :: (List.replicate 2 48 ++ baseD 8 n)
  else Lib.decDigits n) := by
  unfold formP
  repeat' split
  · rw [low_append, base_low 16 (by omega) (by omega)]; rfl
  · rw [low_append, base_low 16 (by omega) (by omega)]; rfl
  · rw [low_append, base_low 8 (by omega) (by omega)]; rfl
  · rw [low_append, base_low 8 (by omega) (by omega)]; rfl
  · exact dec_low n
theorem num_form (n way : Nat) (hn : n < 1099511627776) : numP (low (formP n way)) = some n := by
  rw [low_dec_or]
  repeat' split
  · exact num_hex 0 n hn
  · exact num_hex 3 n hn
  · exact num_oct 0 n hn
  · exact num_oct 2 n hn
  · exact num_of_dec n hn
/-- A byte of a label, in whichever way. -/
def isForm (c : UInt8) : Bool := isHexD c || c == 120 || c == 88
theorem form_byte : ∀ c : UInt8, isForm c = true → c ≠ 46 ∧ c ≠ 37 ∧ c ≠ 91 ∧ oddB c = false ∧ oddB (low1 c) = false ∧ low1 c ≠ 46 ∧ banned.contains c = false ∧ (c < 32 || 126 < c) = false := byte_all (by decide +kernel)
theorem isForm_hex {c : UInt8} (h : isHexD c = true) : isForm c = true := by unfold isForm; rw [h]; rfl
theorem dig_hexD : ∀ c : UInt8, isDigit c = true → isHexD c = true := byte_all (by decide +kernel)
theorem form_chars (n way : Nat) : ∀ c ∈ formP n way, isForm c = true := by
  have h16 := baseD_chars 16 (by omega) (by omega) n
  have h8 := baseD_chars 8 (by omega) (by omega) n
  unfold formP
  intro c hc
  repeat' split at hc
  · rcases List.mem_append.1 hc with hc | hc
    · simp at hc; rcases hc with rfl | rfl <;> rfl
    · exact isForm_hex (h16 c hc)
  · rcases List.mem_append.1 hc with hc | hc
    · simp at hc; rcases hc with rfl | rfl | rfl | rfl | rfl <;> rfl
    · exact isForm_hex (h16 c hc)
  · rcases List.mem_append.1 hc with hc | hc
    · simp at hc; rw [hc]; rfl
    · exact isForm_hex (h8 c hc)
  · rcases List.mem_append.1 hc with hc | hc
    · simp at hc; rw [hc]; rfl
    · exact isForm_hex (h8 c hc)
  · exact isForm_hex (dig_hexD c (dec_digit n c hc))
theorem form_ne (n way : Nat) : formP n way ≠ [] := by
  unfold formP
  repeat' split
  all_goals first | exact dec_ne n | simp

/-! ### Labels of an address, however it is written -/
theorem low_join : ∀ ls : List Bs, low (joinP [46] ls) = joinP [46] (ls.map low)
  | [] => rfl
  | [x] => rfl
  | x :: y :: r => by
    have := low_join (y :: r)
    rw [joinP, low_append, low_append, this]; rfl
theorem join_chars {ls : List Bs} (h : ∀ x ∈ ls, ∀ c ∈ x, isForm c = true) : ∀ c ∈ joinP [46] ls, isForm c = true ∨ c = 46 := by
  intro c hc
  rcases joinP_mem hc with hc | ⟨x, hx, hc⟩
  · right; simpa using hc
  · exact Or.inl (h x hx c hc)
theorem join_snoc : ∀ ls : List Bs, ls ≠ [] → ∀ x : Bs, joinP [46] (ls ++ [x]) = joinP [46] ls ++ [46] ++ x
  | [], h, _ => absurd rfl h
  | [y], _, x => rfl
  | y :: z :: r, _, x => by
    have := join_snoc (z :: r) (by simp) x
    show joinP [46] (y :: z :: (r ++ [x])) = _
    rw [joinP, show (z :: (r ++ [x]) : List Bs) = (z :: r) ++ [x] from rfl, this]
    simp [joinP]
theorem form_split {ls : List Bs} (hne : ls ≠ []) (h : ∀ x ∈ ls, ∀ c ∈ x, isForm c = true) : splitC 46 (low (joinP [46] ls)) = ls.map low := by
  rw [low_join]
  refine splitC_join 46 _ (by simpa using hne) ?_
  intro x hx c hc
  obtain ⟨y, hy, rfl⟩ := List.mem_map.1 hx
  obtain ⟨d, hd, rfl⟩ := List.mem_map.1 hc
  exact (form_byte d (h y hy d hd)).2.2.2.2.2.1
/-- Labels, and behind the last one a dot, or none. -/
theorem dom_forms {ls : List Bs} (dot : Bool) (hne : ls ≠ []) (h : ∀ x ∈ ls, x ≠ [] ∧ ∀ c ∈ x, isForm c = true) (hl : (numP (low (ls.getLast hne))).isSome = true) :
    hostPr (joinP [46] (ls ++ if dot then [[]] else [])) true = ofO 71 (fourP (ls.map low)) := by
  obtain ⟨ms, hms⟩ : ∃ ms : List Bs, ms = ls ++ if dot then [[]] else [] := ⟨_, rfl⟩
  rw [← hms]
  have hm : ∀ x ∈ ms, ∀ c ∈ x, isForm c = true := by
    intro x hx
    rw [hms] at hx
    rcases List.mem_append.1 hx with hx | hx
    · exact (h x hx).2
    · cases dot
      · cases hx
      · simp at hx; rw [hx]; intro c hc; cases hc
  have hmn : ms ≠ [] := by rw [hms]; simp [hne]
  have hch := join_chars hm
  have h91 : (joinP [46] ms)[0]? ≠ some 91 := by
    intro hh
    rcases hch 91 (List.mem_of_getElem? hh) with h | h
    · exact (form_byte 91 h).2.2.1 rfl
    · exact absurd h (by decide)
  have hlab : labelsP (low (joinP [46] ms)) = ls.map low := by
    unfold labelsP
    rw [form_split hmn hm]
    cases dot
    · have : ms = ls := by rw [hms]; simp
      rw [this, if_neg]
      rintro ⟨_, hh⟩
      rw [List.getLast?_map, List.getLast?_eq_some_getLast hne] at hh
      have hz : low (ls.getLast hne) = [] := Option.some.inj hh
      have := (h _ (List.getLast_mem hne)).1
      cases hx : ls.getLast hne with
      | nil => exact this hx
      | cons c r => rw [hx] at hz; cases hz
    · have : ms = ls ++ [[]] := by rw [hms]; simp
      rw [this, if_pos]
      · simp
      · refine ⟨?_, by simp; rfl⟩
        have := List.length_pos_iff.2 hne
        simp; omega
  unfold hostPr
  rw [if_neg h91, if_pos rfl]
  unfold domainP
  rw [decode_free _ fun c hc => by
    rcases hch c hc with h | rfl
    · exact (form_byte c h).2.1
    · decide]
  simp only
  have hodd : (low (joinP [46] ms)).any oddB = false := by
    rw [List.any_eq_false]
    intro c hc
    obtain ⟨d, hd, rfl⟩ := List.mem_map.1 hc
    rcases hch d hd with h | rfl
    · rw [(form_byte d h).2.2.2.2.1]; simp
    · decide
  have hnil : low (joinP [46] ms) ≠ [] := by
    intro hh
    have h1 := form_split hmn hm
    rw [hh] at h1
    have hls : ls.map low = labelsP [] := by rw [← hh, hlab]
    have : labelsP [] = [[]] := rfl
    rw [this] at hls
    cases ls with
    | nil => exact hne rfl
    | cons x r =>
      have hx := (h x (by simp)).1
      rw [List.map_cons] at hls
      injection hls with h2 _
      cases x with
      | nil => exact hx rfl
      | cons _ _ => cases h2
  rw [if_neg (by rw [hodd]; simp [hnil]), hlab]
  have hnum : numberedP (low (joinP [46] ms)) = true := by
    unfold numberedP
    rw [hlab]
    have : (ls.map low).getLastD [] = low (ls.getLast hne) := by
      rw [List.getLastD_eq_getLast?, List.getLast?_map, List.getLast?_eq_some_getLast hne]; rfl
    rw [this, hl, Bool.or_true]
  rw [hnum, if_pos rfl]
theorem other_forms {ls : List Bs} (h : ∀ x ∈ ls, ∀ c ∈ x, isForm c = true) : hostPr (joinP [46] ls) false = .ok (joinP [46] ls) := by
  have hch := join_chars h
  have h91 : (joinP [46] ls)[0]? ≠ some 91 := by
    intro hh
    rcases hch 91 (List.mem_of_getElem? hh) with h | h
    · exact (form_byte 91 h).2.2.1 rfl
    · exact absurd h (by decide)
  unfold hostPr
  rw [if_neg h91, if_neg (by simp)]
  have hb : (joinP [46] ls).any banned.contains = false := by
    rw [List.any_eq_false]
    intro c hc
    rcases hch c hc with h | rfl
    · rw [(form_byte c h).2.2.2.2.2.2.1]; simp
    · decide
  rw [hb, if_neg (by simp), encode_none]
  intro c hc
  rcases hch c hc with h | rfl
  · rw [(form_byte c h).2.2.2.2.2.2.2]; rfl
  · decide

/-! ### HostsFour -/
/-- The labels ahead of the last one. -/
def aheadP (n k : Nat) (ways : Nat → Nat) : List Bs := (List.range (k - 1)).map fun i => formP (n / 2 ^ (24 - 8 * i) % 256) (ways i)
def lastV (n k : Nat) : Nat := n % 2 ^ (8 * (5 - k))
def bytes4 (n : Nat) : List Nat := [n / 16777216 % 256, n / 65536 % 256, n / 256 % 256, n % 256]
theorem fourB_forms (n k : Nat) (ways : Nat → Nat) (hk : 1 ≤ k ∧ k ≤ 4) (hn : n < 4294967296) :
    fourB k ((aheadP n k ways ++ [formP (lastV n k) (ways 3)]).map low) = some (bytes4 n) := by
  have hb : ∀ m, n / m % 256 < 1099511627776 := fun m => Nat.lt_trans (Nat.mod_lt _ (by omega)) (by omega)
  have hz : ∀ m, ¬ 0 < n / m % 256 / 256 := fun m => by have := Nat.mod_lt (n / m) (show 0 < 256 by omega); omega
  obtain rfl | rfl | rfl | rfl : k = 1 ∨ k = 2 ∨ k = 3 ∨ k = 4 := by omega
  · show fourB 1 [low (formP (n % 4294967296) (ways 3))] = _
    rw [fourB_cons, num_form _ _ (by omega)]
    simp only [if_true, fourB, Option.map_some, List.append_nil]
    rw [if_neg (by omega)]
    show some [n % 4294967296 / 256 ^ 3 % 256, n % 4294967296 / 256 ^ 2 % 256, n % 4294967296 / 256 ^ 1 % 256, n % 4294967296 / 256 ^ 0 % 256] = _
    simp only [bytes4, Option.some.injEq, List.cons.injEq, and_true]
    omega
  · show fourB 2 [low (formP (n / 16777216 % 256) (ways 0)), low (formP (n % 16777216) (ways 3))] = _
    rw [fourB_cons, num_form _ _ (hb _)]
    simp only [List.cons_ne_nil, if_false, Nat.pow_one]
    rw [if_neg (hz _), fourB_cons, num_form _ _ (by omega)]
    simp only [if_true, fourB, Option.map_some, List.append_nil]
    rw [if_neg (by omega)]
    show some [n / 16777216 % 256 / 256 ^ 0 % 256, n % 16777216 / 256 ^ 2 % 256, n % 16777216 / 256 ^ 1 % 256, n % 16777216 / 256 ^ 0 % 256] = _
    simp only [bytes4, Option.some.injEq, List.cons.injEq, and_true]
    omega
  · show fourB 3 [low (formP (n / 16777216 % 256) (ways 0)), low (formP (n / 65536 % 256) (ways 1)), low (formP (n % 65536) (ways 3))] = _
    rw [fourB_cons, num_form _ _ (hb _)]
    simp only [List.cons_ne_nil, if_false, Nat.pow_one]
    rw [if_neg (hz _), fourB_cons, num_form _ _ (hb _)]
    simp only [List.cons_ne_nil, if_false, Nat.pow_one]
    rw [if_neg (hz _), fourB_cons, num_form _ _ (by omega)]
    simp only [if_true, fourB, Option.map_some, List.append_nil]
    rw [if_neg (by omega)]
    show some [n / 16777216 % 256 / 256 ^ 0 % 256, n / 65536 % 256 / 256 ^ 0 % 256, n % 65536 / 256 ^ 1 % 256, n % 65536 / 256 ^ 0 % 256] = _
    simp only [bytes4, Option.some.injEq, List.cons.injEq, and_true]
    omega
  · show fourB 4 [low (formP (n / 16777216 % 256) (ways 0)), low (formP (n / 65536 % 256) (ways 1)), low (formP (n / 256 % 256) (ways 2)), low (formP (n % 256) (ways 3))] = _
    rw [fourB_cons, num_form _ _ (hb _)]
    simp only [List.cons_ne_nil, if_false, Nat.pow_one]
    rw [if_neg (hz _), fourB_cons, num_form _ _ (hb _)]
    simp only [List.cons_ne_nil, if_false, Nat.pow_one]
    rw [if_neg (hz _), fourB_cons, num_form _ _ (hb _)]
    simp only [List.cons_ne_nil, if_false, Nat.pow_one]
    rw [if_neg (hz _), fourB_cons, num_form _ _ (by omega)]
    simp only [if_true, fourB, Option.map_some, List.append_nil]
    rw [if_neg (by omega)]
    show some [n / 16777216 % 256 / 256 ^ 0 % 256, n / 65536 % 256 / 256 ^ 0 % 256, n / 256 % 256 / 256 ^ 0 % 256, n % 256 / 256 ^ 0 % 256] = _
    simp only [bytes4, Option.some.injEq, List.cons.injEq, and_true]
    omega
theorem fourB_none : ∀ (xs : List Bs) (k v : Nat) (z : Bs), numP z = some v → 0 < v / 256 ^ (5 - k) → fourB k (xs ++ [z]) = none
  | [], k, v, z, hz, hv => by
    rw [List.nil_append, fourB_cons, hz]
    simp only [if_true]
    rw [if_pos hv]
  | x :: xs, k, v, z, hz, hv => by
    rw [List.cons_append, fourB_cons, fourB_none xs k v z hz hv]
    cases numP x with
    | none => rfl
    | some u => simp
theorem ahead_len (n k : Nat) (ways : Nat → Nat) : (aheadP n k ways).length = k - 1 := by unfold aheadP; simp
theorem ahead_form (n k : Nat) (ways : Nat → Nat) (m w : Nat) : ∀ x ∈ aheadP n k ways ++ [formP m w], x ≠ [] ∧ ∀ c ∈ x, isForm c = true := by
  intro x hx
  rcases List.mem_append.1 hx with hx | hx
  · unfold aheadP at hx
    obtain ⟨i, _, rfl⟩ := List.mem_map.1 hx
    exact ⟨form_ne _ _, form_chars _ _⟩
  · rw [List.mem_singleton] at hx
    rw [hx]
    exact ⟨form_ne _ _, form_chars _ _⟩
theorem ahead_last (n k : Nat) (ways : Nat → Nat) (m w : Nat) (hm : m < 1099511627776) (h : aheadP n k ways ++ [formP m w] ≠ []) : (numP (low ((aheadP n k ways ++ [formP m w]).getLast h))).isSome = true := by
  rw [List.getLast_append_right (by simp)]
  simp only [List.getLast_singleton]
  rw [num_form m w hm]; rfl
theorem four_says (n k : Nat) (ways : Nat → Nat) (hk : 1 ≤ k ∧ k ≤ 4) (hn : n < 4294967296) (dot : Bool) :
    hostPr (joinP [46] ((aheadP n k ways ++ [formP (lastV n k) (ways 3)]) ++ if dot then [[]] else [])) true = .ok (dottedP (bytes4 n)) := by
  have hlv : lastV n k < 1099511627776 := Nat.lt_of_le_of_lt (Nat.mod_le _ _) (by omega)
  rw [dom_forms dot (by simp) (ahead_form n k ways _ _) (ahead_last n k ways _ _ hlv _)]
  unfold fourP
  rw [List.length_map, List.length_append, ahead_len, if_neg (by simp; omega)]
  rw [show k - 1 + [formP (lastV n k) (ways 3)].length = k by simp; omega, fourB_forms n k ways hk hn]
  rfl
theorem pow_lab (m : Nat) : 2 ^ (8 * m) = 256 ^ m := by rw [Nat.pow_mul]
theorem four_beyond (n k : Nat) (ways : Nat → Nat) (hk : 1 ≤ k ∧ k ≤ 4) : hostPr (joinP [46] (aheadP n k ways ++ [formP (lastV n k + 2 ^ (8 * (5 - k))) (ways 3)])) true = .er 71 := by
  have hp : 256 ^ (5 - k) ≤ 256 ^ 4 := Nat.pow_le_pow_right (by omega) (by omega)
  have hpos : 0 < 256 ^ (5 - k) := Nat.pow_pos (by omega)
  have hlv : lastV n k < 256 ^ (5 - k) := by unfold lastV; rw [pow_lab]; exact Nat.mod_lt _ hpos
  have hm : lastV n k + 2 ^ (8 * (5 - k)) < 1099511627776 := by rw [pow_lab]; omega
  have h := dom_forms false (by simp) (ahead_form n k ways (lastV n k + 2 ^ (8 * (5 - k))) (ways 3)) (ahead_last n k ways _ _ hm (by simp))
  simp only [Bool.false_eq_true, if_false, List.append_nil] at h
  rw [h]
  unfold fourP
  rw [List.length_map, List.length_append, ahead_len, if_neg (by simp; omega)]
  rw [show k - 1 + [formP (lastV n k + 2 ^ (8 * (5 - k))) (ways 3)].length = k by simp; omega, List.map_append, List.map_singleton, fourB_none _ k _ _ (num_form _ _ hm)]
  · rfl
  · rw [pow_lab, Nat.add_div_right _ hpos]; exact Nat.succ_pos _
theorem four_more (n k : Nat) (ways : Nat → Nat) : hostPr (joinP [46] (aheadP n k ways ++ [formP (lastV n k) (ways 3)]) ++ [46, 48, 46, 48, 46, 48, 46, 48]) true = .er 71 := by
  have e : joinP [46] (aheadP n k ways ++ [formP (lastV n k) (ways 3)]) ++ [46, 48, 46, 48, 46, 48, 46, 48] = joinP [46] (aheadP n k ways ++ [formP (lastV n k) (ways 3)] ++ [[48], [48], [48], [48]]) := by
    have h := fun (ls : List Bs) (hl : ls ≠ []) => join_snoc ls hl [48]
    rw [show (aheadP n k ways ++ [formP (lastV n k) (ways 3)] ++ [[48], [48], [48], [48]] : List Bs) = (((aheadP n k ways ++ [formP (lastV n k) (ways 3)] ++ [[48]]) ++ [[48]]) ++ [[48]]) ++ [[48]] by simp]
    rw [h _ (by simp), h _ (by simp), h _ (by simp), h _ (by simp)]
    simp
  rw [e]
  have h := dom_forms (ls := aheadP n k ways ++ [formP (lastV n k) (ways 3)] ++ [[48], [48], [48], [48]]) false (by simp) (by
    intro x hx
    rcases List.mem_append.1 hx with hx | hx
    · exact ahead_form n k ways _ _ x hx
    · have : x = [48] := by simpa using hx
      rw [this]; exact ⟨by simp, by intro c hc; simp at hc; rw [hc]; rfl⟩) (by
    rw [List.getLast_append_right (by simp)]
    rfl)
  simp only [Bool.false_eq_true, if_false, List.append_nil] at h
  rw [h]
  unfold fourP
  rw [if_pos]
  · rfl
  · simp
theorem bytes4_len (n : Nat) : (bytes4 n).length = 4 ∧ ∀ x ∈ bytes4 n, x < 256 := by
  refine ⟨rfl, fun x hx => ?_⟩
  simp only [bytes4, List.mem_cons, List.not_mem_nil, or_false] at hx
  rcases hx with rfl | rfl | rfl | rfl <;> exact Nat.mod_lt _ (by omega)
/-- Is a text an address as it is told? -/
def ipP (s : Bs) : Bool := match hostPr s true with
  | .ok h => h == s && (s[0]? == some 91 || numberedP s)
  | .er _ => false
theorem ip_dotted (n : Nat) : ipP (dottedP (bytes4 n)) = true := by
  obtain ⟨h4, hl⟩ := bytes4_len n
  have hb : bytes4 n ≠ [] := by unfold bytes4; simp
  have hd : DomOk (dottedP (bytes4 n)) := by
    refine ⟨?_, ?_, ?_, Or.inr (four_dotted h4 hl)⟩
    · unfold dottedP
      exact joinP_ne (by simpa using hb) (by intro x hx; obtain ⟨n, _, rfl⟩ := List.mem_map.1 hx; exact dec_ne n)
    · rw [List.any_eq_false]
      intro c hc
      rcases dotted_chars _ c hc with h | rfl
      · rw [(dig_not c h).2.2.2.2.1]; simp
      · decide
    · apply low_none
      intro c hc
      rcases dotted_chars _ c hc with h | rfl
      · exact (dig_not c h).2.2.2.1
      · decide
  unfold ipP
  rw [dom_again hd true, numbered_dotted hb]
  simp
end Lz

namespace Lz
theorem mask15 (x : Nat) : x &&& 15 = x % 16 := Nat.and_two_pow_sub_one_eq_mod x 4
theorem mask7 (x : Nat) : x &&& 7 = x % 8 := Nat.and_two_pow_sub_one_eq_mod x 3
end Lz
namespace Go.Proofs.YthijceooebebfaaGreatDoor
open Go.RowKit

set_option maxRecDepth 100000 in
theorem pow2_8 (w : World) : Calls Tryz.prog 118 #[.int .i64 8] w fun e w' => e = .returned (.bool true) ∧ w = w' := by
  go_enter Tryz.func118, Tryz.ntmps118
  go_wp2
  go_ret
  exact ⟨rfl, rfl⟩
set_option maxRecDepth 100000 in
theorem pow2_16 (w : World) : Calls Tryz.prog 118 #[.int .i64 16] w fun e w' => e = .returned (.bool true) ∧ w = w' := by
  go_enter Tryz.func118, Tryz.ntmps118
  go_wp2
  go_ret
  exact ⟨rfl, rfl⟩
theorem db_at8 : IntKind.u64.wrap (bits BinOp.and IntKind.u64 8 (IntKind.u64.wrap (-8)) * 285870213051353865) / 288230376151711744 = 7 := by decide +kernel
theorem db_at16 : IntKind.u64.wrap (bits BinOp.and IntKind.u64 16 (IntKind.u64.wrap (-16)) * 285870213051353865) / 288230376151711744 = 15 := by decide +kernel
set_option maxRecDepth 100000 in
theorem tz64_8 (w : World) (h : w.cell? ⟨3, 7, none⟩ = some (.int .u8 3)) : Calls Tryz.prog 146 #[.int .u64 8] w fun e w' => e = .returned (.int .i64 3) ∧ w = w' := by
  have hx := db_at8
  go_enter Tryz.func146, Tryz.ntmps146
  go_wp2
  go_ret
  exact ⟨rfl, rfl⟩
set_option maxRecDepth 100000 in
theorem tz64_16 (w : World) (h : w.cell? ⟨3, 15, none⟩ = some (.int .u8 4)) : Calls Tryz.prog 146 #[.int .u64 16] w fun e w' => e = .returned (.int .i64 4) ∧ w = w' := by
  have hx := db_at16
  go_enter Tryz.func146, Tryz.ntmps146
  go_wp2
  go_ret
  exact ⟨rfl, rfl⟩
set_option maxRecDepth 100000 in
theorem tz_8 (w : World) (h : w.cell? ⟨3, 7, none⟩ = some (.int .u8 3)) : Calls Tryz.prog 119 #[.int .u64 8] w fun e w' => e = .returned (.int .i64 3) ∧ w = w' := by
  go_enter Tryz.func119, Tryz.ntmps119
  go_wp2_with fail
  refine (tz64_8 _ h).mono ?_
  rintro e w' ⟨rfl, rfl⟩
  go_wp2
  go_ret
  exact ⟨rfl, rfl⟩
set_option maxRecDepth 100000 in
theorem tz_16 (w : World) (h : w.cell? ⟨3, 15, none⟩ = some (.int .u8 4)) : Calls Tryz.prog 119 #[.int .u64 16] w fun e w' => e = .returned (.int .i64 4) ∧ w = w' := by
  go_enter Tryz.func119, Tryz.ntmps119
  go_wp2_with fail
  refine (tz64_16 _ h).mono ?_
  rintro e w' ⟨rfl, rfl⟩
  go_wp2
  go_ret
  exact ⟨rfl, rfl⟩

/-- A slice of bytes that is none, and a text. -/
def RFmt (l : List UInt8) (w : World) (e : Ending) (w' : World) : Prop := ∃ (u : ByteArray) (v : Value), e = .returned (.tuple #[v, .string u]) ∧ Hid (u.data.toList = l) ∧ Below w.heap.size w w'
theorem zero65 : Tryz.zeroCells151 = ((List.replicate 65 (0 : UInt8)).map fun c => Value.int .u8 (c.toNat : Int)).toArray := by kernel_rfl
theorem byteRow_cells (w : World) (l : List UInt8) (T : TypeId) : ByteRow (w.alloc (.cells (l.map fun c => Value.int .u8 (c.toNat : Int)).toArray T)) w.heap.size l := by
  intro j c h
  refine ⟨?_, ?_⟩
  · rw [World.cell?_alloc_mark]; simp [h]
  · simp
theorem fmt_len (b : Nat) (hb : 8 ≤ b) (u m n : Nat) (hu : b ≤ u) (h : u * b ^ m ≤ n) (hn : n ≤ 1099511627776) : m + 1 ≤ 13 := by
  rcases Nat.lt_or_ge m 13 with h1 | h1
  · omega
  · exfalso
    have h2 : 8 ^ 13 ≤ b ^ m := Nat.le_trans (Nat.pow_le_pow_left hb 13) (Nat.pow_le_pow_right (by omega) h1)
    have h3 : 8 * 8 ^ 13 ≤ u * b ^ m := Nat.mul_le_mul (by omega) h2
    omega
theorem digs1 : ∀ d : Fin 16, (⟨#[48, 49, 50, 51, 52, 53, 54, 55, 56, 57, 97, 98, 99, 100, 101, 102, 103, 104, 105, 106, 107, 108, 109, 110, 111, 112, 113, 114, 115, 116, 117, 118, 119, 120, 121, 122]⟩ : ByteArray)[d.val]'(Nat.lt_trans d.isLt (by decide)) = Lz.hex1 d.val := by decide +kernel
theorem digs (d : Nat) (h : d < 16) {h' : d < (⟨#[48, 49, 50, 51, 52, 53, 54, 55, 56, 57, 97, 98, 99, 100, 101, 102, 103, 104, 105, 106, 107, 108, 109, 110, 111, 112, 113, 114, 115, 116, 117, 118, 119, 120, 121, 122]⟩ : ByteArray).size} : (⟨#[48, 49, 50, 51, 52, 53, 54, 55, 56, 57, 97, 98, 99, 100, 101, 102, 103, 104, 105, 106, 107, 108, 109, 110, 111, 112, 113, 114, 115, 116, 117, 118, 119, 120, 121, 122]⟩ : ByteArray)[d]'h' = Lz.hex1 d := digs1 ⟨d, h⟩
set_option maxHeartbeats 1000000 in
set_option maxRecDepth 100000 in
theorem fmtBits_16 (n : Nat) (hn : n ≤ 1099511627776) (w : World) (h : w.cell? ⟨3, 15, none⟩ = some (.int .u8 4)) : Calls Tryz.prog 80 #[.slice none 0 0, .int .u64 n, .int .i64 16, .bool false, .bool false] w (RFmt (Lz.baseD 16 n) w) := by
  have hmade := byteRow_cells w (List.replicate 65 0) 151
  rw [← zero65] at hmade
  have hb0 : Below w.heap.size w (w.alloc (.cells Tryz.zeroCells151 151)) := (Below.refl _ w).alloc (Nat.le_refl _) _
  have h' : (w.alloc (.cells Tryz.zeroCells151 151)).cell? ⟨3, 15, none⟩ = some (.int .u8 4) := by
    rw [World.cell?_alloc_lt _ _ ⟨3, 15, none⟩ (World.block_lt_of_cell? _ _ h)]; exact h
  have Hm := Lib.hid hmade
  have H0 := Lib.hid hb0
  have Ht := Lib.hid h'
  have HN := Lib.hid hn
  clear hmade hb0 h' h
  go_enter Tryz.func80, Tryz.ntmps80
  go_wp2_with fail
  refine (pow2_16 _).mono ?_
  rintro e w' ⟨rfl, rfl⟩
  go_wp2_with fail
  refine (tz_16 _ Ht.out).mono ?_
  rintro e w' ⟨rfl, rfl⟩
  have hrow0 := Hm.out
  have hbx := H0.out
  generalize w.alloc (.cells Tryz.zeroCells151 151) = wx at hrow0 hbx ⊢
  clear Hm H0 Ht
  go_wp2_with fail
  go_loopw [1, 13] (fun a i wr => ∃ (u : Nat) (D L : List UInt8), D.length ≤ 13 ∧ u ≤ 1099511627776 ∧ a = .int .u64 u ∧ i = .int .i64 ((65 - D.length : Nat) : Int) ∧ ByteRow wr w.heap.size L ∧ Hid (L.length = 65) ∧ Hid (L.drop (65 - D.length) = D) ∧ Hid (Lz.baseD 16 n = Lz.baseD 16 u ++ D) ∧ Hid (u * 16 ^ D.length ≤ n) ∧ Below w.heap.size w wr) (fun a _ _ => (intOf a).toNat)
  case atStart => exact ⟨n, [], List.replicate 65 0, by simp, HN.out, rfl, rfl, hrow0, Lib.hid (by simp), Lib.hid (by simp), Lib.hid (by simp), Lib.hid (by simp), hbx⟩
  case round =>
    clear hrow0 hbx
    obtain ⟨u, D, L, hD, hu, rfl, rfl, hrow, hL, hLD, hE, hle, hb⟩ := hrel
    obtain ⟨i, hi⟩ : ∃ i : Nat, i = 64 - D.length := ⟨_, rfl⟩
    have hi1 : 65 - D.length = i + 1 := by omega
    have hi2 : i < 65 := by omega
    rw [hi1]
    have hLD2 : Hid (L.drop (i + 1) = D) := by show _ = _; have := hLD.out; rw [hi1] at this; exact this
    obtain ⟨c0, hc0⟩ : ∃ c, L[i]? = some c := ⟨_, List.getElem?_eq_getElem (by rw [hL.out]; exact hi2)⟩
    obtain ⟨hc1, hc2⟩ := hrow i c0 hc0
    have hi3 : ((i + 1 : Nat) : Int) - 1 = i := by omega
    have hi4 : (0 : Int) ≤ i := by omega
    have hi5 : (i : Int) < 65 := by omega
    have hset : ∀ c : UInt8, ByteRow (wr.setCell ⟨w.heap.size, i, none⟩ (.int .u8 (c.toNat : Int))) w.heap.size (L.set i c) ∧ (L.set i c).length = 65 ∧ (L.set i c).drop i = c :: D := fun c => by
      refine ⟨hrow.set i c, by rw [List.length_set]; exact hL.out, ?_⟩
      rw [List.drop_eq_getElem_cons (by rw [List.length_set, hL.out]; exact hi2), List.getElem_set_self, List.drop_set_of_lt (by omega), hLD2.out]
    have Hset := Lib.hid hset
    have Hi := Lib.hid hi
    clear hset hi1 hLD hLD2 hc0 hrow hL hi
    by_cases hub : u < 16
    · have hul : (u : Int) < 16 := by omega
      have hE2 : Hid (Lz.baseD 16 n = Lz.hex1 u :: D) := by
        show _ = _
        rw [hE.out, Lz.baseD_small hub]; rfl
      clear hE hle
      go_upto_region 25 with fail
      rw [digs u (by omega)]
      obtain ⟨r1, r2, r3⟩ := Hset.out (Lz.hex1 u)
      have hb2 := hb.setCell (Nat.le_refl _) (p := ⟨w.heap.size, i, none⟩) (.int .u8 ((Lz.hex1 u).toNat : Int))
      generalize wr.setCell ⟨w.heap.size, i, none⟩ (.int .u8 ((Lz.hex1 u).toNat : Int)) = w2 at r1 hb2 ⊢
      have hal : Tryz.prog.arrayLen 151 = 65 := by simp [Program.arrayLen, Tryz.underlying151]
      have hsl : ∀ W, (Instr.sliceAt 151 (.pointer (some ⟨w.heap.size, 0, none⟩)) (some (.int .i64 (i : Int))) none none).run Tryz.prog W = .ok (.slice (some ⟨w.heap.size, i, none⟩) (65 - i) (65 - i)) W := fun W => by
        rw [run_sliceAt_array_l W 151 ⟨w.heap.size, 0, none⟩ (by simp [Program.arrayLen, Program.elem, Tryz.underlying151]) .i64 (i : Int) (by omega) (by rw [hal]; omega)]
        go_simp
        intro h; omega
      have hcv : ∀ W, W = w2 → (convert 35 9 (.slice (some ⟨w.heap.size, i, none⟩) (65 - i) (65 - i))).run Tryz.prog W = .ok (.string ⟨(Lz.hex1 u :: D).toArray⟩) W := by
        rintro W rfl
        have hc := run_convert_bytes_back (P := Tryz.prog) W 35 9 5 ⟨w.heap.size, i, none⟩ (65 - i) (Lz.hex1 u :: D) Tryz.underlying35 Tryz.underlying5 Tryz.underlying9 (by
          intro j hj
          have hg : ((L.set i (Lz.hex1 u)).drop i)[j]? = some (Lz.hex1 u :: D)[j] := by rw [r3]; exact List.getElem?_eq_getElem hj
          rw [List.getElem?_drop] at hg
          have := (r1 (i + j) _ hg).1
          rw [show (⟨w.heap.size, i, none⟩ : Addr).add j = ⟨w.heap.size, i + j, none⟩ by simp [Addr.add]]
          exact this)
        rw [show (Lz.hex1 u :: D).length = 65 - i by rw [List.length_cons, Hi.out]; omega] at hc
        exact hc
      have hcv2 := hcv w2 rfl
      clear hal hcv r1 r3 Hset hc1 hc2
      go_wp2
      go_ret2
      exact ⟨_, _, rfl, Lib.hid (by rw [hE2.out]), hb2⟩
    · have hug : (16 : Int) ≤ (u : Int) := by omega
      have hd := Lz.baseD_big (b := 16) (n := u) (by omega) hub
      have hE2 : Hid (Lz.baseD 16 n = Lz.baseD 16 (u / 16) ++ (Lz.hex1 (u % 16) :: D)) := by
        show _ = _
        rw [hE.out, hd]; simp
      have hle2 : Hid (u / 16 * 16 ^ (Lz.hex1 (u % 16) :: D).length ≤ n) := by
        show _ ≤ _
        refine Nat.le_trans ?_ hle.out
        rw [List.length_cons, Nat.pow_succ, Nat.mul_comm (16 ^ _) 16, ← Nat.mul_assoc]
        exact Nat.mul_le_mul_right _ (Nat.div_mul_le_self u 16)
      have hD2 : D.length + 1 ≤ 13 := fmt_len 16 (by omega) u D.length n (by omega) hle.out HN.out
      have hand : bits .and .u64 (u : Int) 15 = ((u % 16 : Nat) : Int) := by rw [show (15 : Int) = ((15 : Nat) : Int) from rfl, u64_and_nat _ _ (by omega) (by omega), Lz.mask15]
      have hm16 : u % 16 < 16 := by omega
      generalize u % 16 = d at hand hm16 hE2 hle2
      clear hd hE hle
      go_wp2_with fail
      rw [digs d hm16]
      go_roundw
      case rel =>
        obtain ⟨r1, r2, r3⟩ := Hset.out (Lz.hex1 d)
        exact ⟨u / 16, Lz.hex1 d :: D, L.set i (Lz.hex1 d), by simpa using hD2, by omega, by go_num, by rw [List.length_cons, Hi.out]; congr 2; omega, r1, r2, Lib.hid (by rw [List.length_cons, show 65 - (D.length + 1) = i by rw [Hi.out]; omega]; exact r3), hE2, hle2, hb.setCell (Nat.le_refl _) _⟩
      case measure => simp [intOf]; omega
set_option maxRecDepth 100000 in
theorem FormatUintI_16 (n : Nat) (hn : n ≤ 1099511627776) (w : World) (h : w.cell? ⟨3, 15, none⟩ = some (.int .u8 4)) : Calls Tryz.prog 224 #[.int .u64 n, .int .i64 16] w (RStr (Lz.baseD 16 n) w) := by
  have cF := Lib.hid (fmtBits_16 n hn w h)
  go_enter Tryz.func224, Tryz.ntmps224
  go_wp2_with fail
  refine (cF.out).mono ?_
  rintro e w1 ⟨u, v, rfl, hu, hb⟩
  go_wp2
  go_ret
  exact ⟨u, rfl, hu, hb⟩
set_option maxRecDepth 100000 in
theorem FormatUint_16 (n : Nat) (hn : n ≤ 1099511627776) (w : World) (h : w.cell? ⟨3, 15, none⟩ = some (.int .u8 4)) : Calls Tryz.prog 213 #[.int .u64 n, .int .i64 16] w (RStr (Lz.baseD 16 n) w) := by
  have cF := Lib.hid (FormatUintI_16 n hn w h)
  go_enter Tryz.func213, Tryz.ntmps213
  go_wp2_with fail
  refine (cF.out).mono ?_
  rintro e w1 ⟨u, rfl, hu, hb⟩
  go_wp2
  go_ret
  exact ⟨u, rfl, hu, hb⟩

set_option maxHeartbeats 1000000 in
set_option maxRecDepth 100000 in
theorem fmtBits_8 (n : Nat) (hn : n ≤ 1099511627776) (w : World) (h : w.cell? ⟨3, 7, none⟩ = some (.int .u8 3)) : Calls Tryz.prog 80 #[.slice none 0 0, .int .u64 n, .int .i64 8, .bool false, .bool false] w (RFmt (Lz.baseD 8 n) w) := by
  have hmade := byteRow_cells w (List.replicate 65 0) 151
  rw [← zero65] at hmade
  have hb0 : Below w.heap.size w (w.alloc (.cells Tryz.zeroCells151 151)) := (Below.refl _ w).alloc (Nat.le_refl _) _
  have h' : (w.alloc (.cells Tryz.zeroCells151 151)).cell? ⟨3, 7, none⟩ = some (.int .u8 3) := by
    rw [World.cell?_alloc_lt _ _ ⟨3, 7, none⟩ (World.block_lt_of_cell? _ _ h)]; exact h
  have Hm := Lib.hid hmade
  have H0 := Lib.hid hb0
  have Ht := Lib.hid h'
  have HN := Lib.hid hn
  clear hmade hb0 h' h
  go_enter Tryz.func80, Tryz.ntmps80
  go_wp2_with fail
  refine (pow2_8 _).mono ?_
  rintro e w' ⟨rfl, rfl⟩
  go_wp2_with fail
  refine (tz_8 _ Ht.out).mono ?_
  rintro e w' ⟨rfl, rfl⟩
  have hrow0 := Hm.out
  have hbx := H0.out
  generalize w.alloc (.cells Tryz.zeroCells151 151) = wx at hrow0 hbx ⊢
  clear Hm H0 Ht
  go_wp2_with fail
  go_loopw [1, 13] (fun a i wr => ∃ (u : Nat) (D L : List UInt8), D.length ≤ 13 ∧ u ≤ 1099511627776 ∧ a = .int .u64 u ∧ i = .int .i64 ((65 - D.length : Nat) : Int) ∧ ByteRow wr w.heap.size L ∧ Hid (L.length = 65) ∧ Hid (L.drop (65 - D.length) = D) ∧ Hid (Lz.baseD 8 n = Lz.baseD 8 u ++ D) ∧ Hid (u * 8 ^ D.length ≤ n) ∧ Below w.heap.size w wr) (fun a _ _ => (intOf a).toNat)
  case atStart => exact ⟨n, [], List.replicate 65 0, by simp, HN.out, rfl, rfl, hrow0, Lib.hid (by simp), Lib.hid (by simp), Lib.hid (by simp), Lib.hid (by simp), hbx⟩
  case round =>
    clear hrow0 hbx
    obtain ⟨u, D, L, hD, hu, rfl, rfl, hrow, hL, hLD, hE, hle, hb⟩ := hrel
    obtain ⟨i, hi⟩ : ∃ i : Nat, i = 64 - D.length := ⟨_, rfl⟩
    have hi1 : 65 - D.length = i + 1 := by omega
    have hi2 : i < 65 := by omega
    rw [hi1]
    have hLD2 : Hid (L.drop (i + 1) = D) := by show _ = _; have := hLD.out; rw [hi1] at this; exact this
    obtain ⟨c0, hc0⟩ : ∃ c, L[i]? = some c := ⟨_, List.getElem?_eq_getElem (by rw [hL.out]; exact hi2)⟩
    obtain ⟨hc1, hc2⟩ := hrow i c0 hc0
    have hi3 : ((i + 1 : Nat) : Int) - 1 = i := by omega
    have hi4 : (0 : Int) ≤ i := by omega
    have hi5 : (i : Int) < 65 := by omega
    have hset : ∀ c : UInt8, ByteRow (wr.setCell ⟨w.heap.size, i, none⟩ (.int .u8 (c.toNat : Int))) w.heap.size (L.set i c) ∧ (L.set i c).length = 65 ∧ (L.set i c).drop i = c :: D := fun c => by
      refine ⟨hrow.set i c, by rw [List.length_set]; exact hL.out, ?_⟩
      rw [List.drop_eq_getElem_cons (by rw [List.length_set, hL.out]; exact hi2), List.getElem_set_self, List.drop_set_of_lt (by omega), hLD2.out]
    have Hset := Lib.hid hset
    have Hi := Lib.hid hi
    clear hset hi1 hLD hLD2 hc0 hrow hL hi
    by_cases hub : u < 8
    · have hul : (u : Int) < 8 := by omega
      have hE2 : Hid (Lz.baseD 8 n = Lz.hex1 u :: D) := by
        show _ = _
        rw [hE.out, Lz.baseD_small hub]; rfl
      clear hE hle
      go_upto_region 25 with fail
      rw [digs u (by omega)]
      obtain ⟨r1, r2, r3⟩ := Hset.out (Lz.hex1 u)
      have hb2 := hb.setCell (Nat.le_refl _) (p := ⟨w.heap.size, i, none⟩) (.int .u8 ((Lz.hex1 u).toNat : Int))
      generalize wr.setCell ⟨w.heap.size, i, none⟩ (.int .u8 ((Lz.hex1 u).toNat : Int)) = w2 at r1 hb2 ⊢
      have hal : Tryz.prog.arrayLen 151 = 65 := by simp [Program.arrayLen, Tryz.underlying151]
      have hsl : ∀ W, (Instr.sliceAt 151 (.pointer (some ⟨w.heap.size, 0, none⟩)) (some (.int .i64 (i : Int))) none none).run Tryz.prog W = .ok (.slice (some ⟨w.heap.size, i, none⟩) (65 - i) (65 - i)) W := fun W => by
        rw [run_sliceAt_array_l W 151 ⟨w.heap.size, 0, none⟩ (by simp [Program.arrayLen, Program.elem, Tryz.underlying151]) .i64 (i : Int) (by omega) (by rw [hal]; omega)]
        go_simp
        intro h; omega
      have hcv : ∀ W, W = w2 → (convert 35 9 (.slice (some ⟨w.heap.size, i, none⟩) (65 - i) (65 - i))).run Tryz.prog W = .ok (.string ⟨(Lz.hex1 u :: D).toArray⟩) W := by
        rintro W rfl
        have hc := run_convert_bytes_back (P := Tryz.prog) W 35 9 5 ⟨w.heap.size, i, none⟩ (65 - i) (Lz.hex1 u :: D) Tryz.underlying35 Tryz.underlying5 Tryz.underlying9 (by
          intro j hj
          have hg : ((L.set i (Lz.hex1 u)).drop i)[j]? = some (Lz.hex1 u :: D)[j] := by rw [r3]; exact List.getElem?_eq_getElem hj
          rw [List.getElem?_drop] at hg
          have := (r1 (i + j) _ hg).1
          rw [show (⟨w.heap.size, i, none⟩ : Addr).add j = ⟨w.heap.size, i + j, none⟩ by simp [Addr.add]]
          exact this)
        rw [show (Lz.hex1 u :: D).length = 65 - i by rw [List.length_cons, Hi.out]; omega] at hc
        exact hc
      have hcv2 := hcv w2 rfl
      clear hal hcv r1 r3 Hset hc1 hc2
      go_wp2
      go_ret2
      exact ⟨_, _, rfl, Lib.hid (by rw [hE2.out]), hb2⟩
    · have hug : (8 : Int) ≤ (u : Int) := by omega
      have hd := Lz.baseD_big (b := 8) (n := u) (by omega) hub
      have hE2 : Hid (Lz.baseD 8 n = Lz.baseD 8 (u / 8) ++ (Lz.hex1 (u % 8) :: D)) := by
        show _ = _
        rw [hE.out, hd]; simp
      have hle2 : Hid (u / 8 * 8 ^ (Lz.hex1 (u % 8) :: D).length ≤ n) := by
        show _ ≤ _
        refine Nat.le_trans ?_ hle.out
        rw [List.length_cons, Nat.pow_succ, Nat.mul_comm (8 ^ _) 8, ← Nat.mul_assoc]
        exact Nat.mul_le_mul_right _ (Nat.div_mul_le_self u 8)
      have hD2 : D.length + 1 ≤ 13 := fmt_len 8 (by omega) u D.length n (by omega) hle.out HN.out
      have hand : bits .and .u64 (u : Int) 7 = ((u % 8 : Nat) : Int) := by rw [show (7 : Int) = ((7 : Nat) : Int) from rfl, u64_and_nat _ _ (by omega) (by omega), Lz.mask7]
      have hm16 : u % 8 < 16 := by omega
      generalize u % 8 = d at hand hm16 hE2 hle2
      clear hd hE hle
      go_wp2_with fail
      rw [digs d hm16]
      go_roundw
      case rel =>
        obtain ⟨r1, r2, r3⟩ := Hset.out (Lz.hex1 d)
        exact ⟨u / 8, Lz.hex1 d :: D, L.set i (Lz.hex1 d), by simpa using hD2, by omega, by go_num, by rw [List.length_cons, Hi.out]; congr 2; omega, r1, r2, Lib.hid (by rw [List.length_cons, show 65 - (D.length + 1) = i by rw [Hi.out]; omega]; exact r3), hE2, hle2, hb.setCell (Nat.le_refl _) _⟩
      case measure => simp [intOf]; omega
set_option maxRecDepth 100000 in
theorem FormatUintI_8 (n : Nat) (hn : n ≤ 1099511627776) (w : World) (h : w.cell? ⟨3, 7, none⟩ = some (.int .u8 3)) : Calls Tryz.prog 224 #[.int .u64 n, .int .i64 8] w (RStr (Lz.baseD 8 n) w) := by
  have cF := Lib.hid (fmtBits_8 n hn w h)
  go_enter Tryz.func224, Tryz.ntmps224
  go_wp2_with fail
  refine (cF.out).mono ?_
  rintro e w1 ⟨u, v, rfl, hu, hb⟩
  go_wp2
  go_ret
  exact ⟨u, rfl, hu, hb⟩
set_option maxRecDepth 100000 in
theorem FormatUint_8 (n : Nat) (hn : n ≤ 1099511627776) (w : World) (h : w.cell? ⟨3, 7, none⟩ = some (.int .u8 3)) : Calls Tryz.prog 213 #[.int .u64 n, .int .i64 8] w (RStr (Lz.baseD 8 n) w) := by
  have cF := Lib.hid (FormatUintI_8 n hn w h)
  go_enter Tryz.func213, Tryz.ntmps213
  go_wp2_with fail
  refine (cF.out).mono ?_
  rintro e w1 ⟨u, rfl, hu, hb⟩
  go_wp2
  go_ret
  exact ⟨u, rfl, hu, hb⟩

end Go.Proofs.YthijceooebebfaaGreatDoor
