/-
  Plain laws: what is parsed, told as text, is parsed to the same; the bounds of what is parsed. No program in sight.
-/
import Derived.Test.YthijceooebebfaaGreatDoorM01
namespace Lz
open Go

/-! ### A to Z as a to z -/
theorem low1_low1 (c : UInt8) : low1 (low1 c) = low1 c := by revert c; exact byte_all (by decide +kernel)
theorem alpha_low1 (c : UInt8) : isAlpha (low1 c) = isAlpha c := by revert c; exact byte_all (by decide +kernel)
theorem word_low1 (c : UInt8) : isWord (low1 c) = isWord c := by revert c; exact byte_all (by decide +kernel)
theorem schemed_low1 (c : UInt8) : isSchemed (low1 c) = isSchemed c := by revert c; exact byte_all (by decide +kernel)
theorem dot_low1 (c : UInt8) : (low1 c == 46) = (c == 46) := by revert c; exact byte_all (by decide +kernel)
theorem low_low (l : Bs) : low (low l) = low l := by
  unfold low; rw [List.map_map]; exact List.map_congr_left fun c _ => low1_low1 c
theorem low_append (a b : Bs) : low (a ++ b) = low a ++ low b := by unfold low; exact List.map_append
theorem low_len (l : Bs) : (low l).length = l.length := by unfold low; simp
theorem low_isEmpty (l : Bs) : (low l).isEmpty = l.isEmpty := by cases l <;> rfl
theorem allB_low {p : UInt8 → Bool} (h : ∀ c, p (low1 c) = p c) (l : Bs) : allB p (low l) = allB p l := by
  unfold allB
  rw [low_isEmpty]
  congr 1
  unfold low
  rw [List.all_map]
  congr 1
  funext c
  exact h c
theorem schemeB_low (l : Bs) : schemeB (low l) = schemeB l := by
  unfold schemeB
  rw [allB_low schemed_low1]
  cases l with
  | nil => rfl
  | cons c r => show (isAlpha (low1 c) && _) = _; rw [alpha_low1]
theorem splitC_low : ∀ l : Bs, splitC 46 (low l) = (splitC 46 l).map low
  | [] => rfl
  | c :: l => by
    have ih := splitC_low l
    show splitC 46 (low1 c :: low l) = _
    rw [splitC, splitC, dot_low1, ih]
    by_cases h : c = 46
    · rw [if_pos (by simpa using h), if_pos (by simpa using h)]; rfl
    · rw [if_neg (by simpa using h), if_neg (by simpa using h)]
      cases splitC 46 l <;> rfl
theorem namedB_low (l : Bs) : namedB (low l) = namedB l := by
  unfold namedB
  rw [split_eq, split_eq, splitC_low, List.all_map]
  congr 1
  funext x
  exact allB_low word_low1 x

/-! ### Between quotes -/
theorem quotes_wrap (m : Bs) : quotes (39 :: (m ++ [39])) = true := by
  unfold quotes
  rw [show (39 :: (m ++ [39]) : Bs) = (39 :: m) ++ [39] from rfl, List.getLast?_append]
  simp
theorem inner_wrap (m : Bs) : ((39 :: (m ++ [39]) : Bs).drop 1).dropLast = m := by simp
theorem parse_wrap (m : Bs) : parseS (39 :: (m ++ [39])) = quotedS m := by
  unfold parseS
  rw [quotes_wrap, if_pos rfl, inner_wrap]
theorem key_back : ∀ k ∈ keywords, quotedS k = some (keyS k) := by decide +kernel
theorem key_head : ∀ k ∈ keywords, k.head? ≠ some 110 := by decide +kernel
theorem key_two : ∀ k ∈ keywords, k.take 2 ≠ [115, 104] := by decide +kernel
theorem hasPrefix_self (p l : Bs) : Lib.hasPrefix (p ++ l) p = true := by
  unfold Lib.hasPrefix
  exact List.isPrefixOf_iff_prefix.2 ⟨l, rfl⟩
theorem not_key_nonce (x : Bs) : keywords.contains (sNonce ++ x) = false := by
  rw [Bool.eq_false_iff]
  intro h
  have := key_head _ (List.contains_iff_mem.1 h)
  exact this rfl
theorem sSha_form (b : Int) : sSha b = 115 :: 104 :: 97 :: (Lib.itoa b ++ [45]) := rfl
theorem not_key_sha (b : Int) (x : Bs) : keywords.contains (sSha b ++ x) = false := by
  rw [Bool.eq_false_iff]
  intro h
  have := key_two _ (List.contains_iff_mem.1 h)
  exact this rfl
theorem nonce_back (v : Bs) (h : baseB v = true) : quotedS (sNonce ++ v) = some (nonceS v) := by
  unfold quotedS
  have e : low (sNonce ++ v) = sNonce ++ low v := by rw [low_append]; rfl
  rw [e, not_key_nonce, hasPrefix_self]
  show (if (true && baseB v) = true then _ else _) = _
  rw [h]
  rfl
theorem itoa256 : Lib.itoa 256 = [50, 53, 54] := by simp [Lib.itoa, Lib.decDigits]
theorem itoa384 : Lib.itoa 384 = [51, 56, 52] := by simp [Lib.itoa, Lib.decDigits]
theorem itoa512 : Lib.itoa 512 = [53, 49, 50] := by simp [Lib.itoa, Lib.decDigits]
theorem sha256 : sSha 256 = [115, 104, 97, 50, 53, 54, 45] := by rw [sSha_form, itoa256]; rfl
theorem sha384 : sSha 384 = [115, 104, 97, 51, 56, 52, 45] := by rw [sSha_form, itoa384]; rfl
theorem sha512 : sSha 512 = [115, 104, 97, 53, 49, 50, 45] := by rw [sSha_form, itoa512]; rfl
theorem sha_back (b : Int) (hb : b = 256 ∨ b = 384 ∨ b = 512) (v : Bs) (h : baseB v = true) : quotedS (sSha b ++ v) = some (hashS v b) := by
  have e : low (sSha b ++ v) = sSha b ++ low v := by
    rw [low_append]
    rcases hb with rfl | rfl | rfl
    · rw [sha256]; rfl
    · rw [sha384]; rfl
    · rw [sha512]; rfl
  have n : Lib.hasPrefix (sSha b ++ low v) sNonce = false := by rw [sSha_form]; rfl
  have own : shaS (sSha b ++ v) b = some (hashS v b) := by
    unfold shaS
    rw [e, hasPrefix_self, List.drop_left, h]
    rfl
  unfold quotedS
  rw [e, not_key_sha, n]
  show (shaS _ 256).or _ = _
  have off : ∀ b', (b' = 256 ∨ b' = 384 ∨ b' = 512) → b' ≠ b → shaS (sSha b ++ v) b' = none := by
    intro b' hb' hne
    unfold shaS
    have : Lib.hasPrefix (low (sSha b ++ v)) (sSha b') = false := by
      rw [e]
      rcases hb with rfl | rfl | rfl <;> rcases hb' with rfl | rfl | rfl
      · exact absurd rfl hne
      · rw [sha256, sha384]; rfl
      · rw [sha256, sha512]; rfl
      · rw [sha384, sha256]; rfl
      · exact absurd rfl hne
      · rw [sha384, sha512]; rfl
      · rw [sha512, sha256]; rfl
      · rw [sha512, sha384]; rfl
      · exact absurd rfl hne
    rw [this]; rfl
  rcases hb with rfl | rfl | rfl
  · rw [own]; rfl
  · rw [off 256 (by simp) (by decide), own]; rfl
  · rw [off 256 (by simp) (by decide), off 384 (by simp) (by decide), own]; rfl
/-- What quotedS answers. -/
theorem quoted_cases {l : Bs} {y : Src} (h : quotedS l = some y) : (low l ∈ keywords ∧ y = keyS (low l)) ∨ (∃ v, y = nonceS v ∧ baseB v = true ∧ v.length ≤ l.length) ∨ (∃ v b, y = hashS v b ∧ (b = 256 ∨ b = 384 ∨ b = 512) ∧ baseB v = true ∧ v.length ≤ l.length) := by
  unfold quotedS at h
  by_cases h1 : keywords.contains (low l) = true
  · rw [if_pos h1] at h
    exact Or.inl ⟨List.contains_iff_mem.1 h1, (Option.some.inj h).symm⟩
  · rw [if_neg h1] at h
    by_cases h2 : (Lib.hasPrefix (low l) sNonce && baseB (l.drop 6)) = true
    · rw [if_pos h2] at h
      rw [Bool.and_eq_true] at h2
      exact Or.inr (Or.inl ⟨_, (Option.some.inj h).symm, h2.2, by simp⟩)
    · rw [if_neg h2] at h
      have key : ∀ b, shaS l b = some y → (∃ v, y = hashS v b ∧ baseB v = true ∧ v.length ≤ l.length) := by
        intro b hb
        unfold shaS at hb
        by_cases h3 : (Lib.hasPrefix (low l) (sSha b) && baseB (l.drop (sSha b).length)) = true
        · rw [if_pos h3] at hb
          rw [Bool.and_eq_true] at h3
          exact ⟨_, (Option.some.inj hb).symm, h3.2, by simp⟩
        · rw [if_neg h3] at hb; cases hb
      rcases Option.or_eq_some_iff.1 h with h | ⟨_, h⟩
      · obtain ⟨v, a, c, d⟩ := key _ h; exact Or.inr (Or.inr ⟨v, 256, a, Or.inl rfl, c, d⟩)
      · rcases Option.or_eq_some_iff.1 h with h | ⟨_, h⟩
        · obtain ⟨v, a, c, d⟩ := key _ h; exact Or.inr (Or.inr ⟨v, 384, a, Or.inr (Or.inl rfl), c, d⟩)
        · obtain ⟨v, a, c, d⟩ := key _ h; exact Or.inr (Or.inr ⟨v, 512, a, Or.inr (Or.inr rfl), c, d⟩)
theorem quoted_back {l : Bs} {y : Src} (h : quotedS l = some y) : parseS (textT y) = some y := by
  rcases quoted_cases h with ⟨hk, rfl⟩ | ⟨v, rfl, hv, _⟩ | ⟨v, b, rfl, hb, hv, _⟩
  · show parseS (39 :: low l ++ [39]) = _
    rw [List.cons_append, parse_wrap]
    exact key_back _ hk
  · show parseS (39 :: ((sNonce ++ v) ++ [39])) = _
    rw [parse_wrap]
    exact nonce_back v hv
  · have e : textT (hashS v b) = 39 :: ((sSha b ++ v) ++ [39]) := by
      show [39, 115, 104, 97] ++ Lib.itoa b ++ [45] ++ v ++ [39] = _
      rw [sSha_form]
      simp
    rw [e, parse_wrap]
    exact sha_back b hb v hv

/-! ### Numbers -/
theorem dec_digit (n : Nat) : ∀ c ∈ Lib.decDigits n, isDigit c = true := by
  induction n using Nat.strongRecOn with
  | _ n ih =>
    intro c hc
    rw [Lib.decDigits] at hc
    have key : ∀ d, d < 10 → isDigit (UInt8.ofNat (48 + d)) = true := by decide
    split at hc
    · rename_i h
      rw [List.mem_singleton.1 hc]
      exact key n h
    · rcases List.mem_append.1 hc with hc | hc
      · exact ih (n / 10) (by omega) c hc
      · rw [List.mem_singleton.1 hc]
        exact key (n % 10) (by omega)
theorem dec_ne (n : Nat) : Lib.decDigits n ≠ [] := by
  rw [Lib.decDigits]; split <;> simp
theorem digit_nat {c : UInt8} (h : isDigit c = true) : 48 ≤ c.toNat ∧ c.toNat ≤ 57 := by
  revert h; revert c
  exact fun {c} => byte_all (p := fun c => isDigit c = true → 48 ≤ c.toNat ∧ c.toNat ≤ 57) (by decide +kernel) c
theorem parse_app (acc : Nat) (d : Nat) (hd : d < 10) : ∀ (l : Bs) (u : Nat), Lib.parseUint10 acc l = .ok u → u < 1844674407370955161 → Lib.parseUint10 acc (l ++ [UInt8.ofNat (48 + d)]) = .ok (u * 10 + d)
  | [], u, h, hu => by
    simp only [Lib.parseUint10] at h
    injection h with h
    subst h
    have e : (UInt8.ofNat (48 + d)).toNat = 48 + d := by
      rw [UInt8.toNat_ofNat']
      omega
    simp only [List.nil_append, Lib.parseUint10, e]
    rw [if_pos ⟨by omega, by omega⟩, if_neg (by omega), if_neg (by omega)]
    congr 1
    omega
  | c :: r, u, h, hu => by
    simp only [Lib.parseUint10] at h
    simp only [List.cons_append, Lib.parseUint10]
    split at h
    · rename_i h1
      rw [if_pos h1]
      split at h
      · cases h
      · rename_i h2
        rw [if_neg h2]
        split at h
        · cases h
        · rename_i h3
          rw [if_neg h3]
          exact parse_app _ d hd r u h hu
    · cases h
theorem parse_dec (n : Nat) (hn : n < 1000000) : Lib.parseUint10 0 (Lib.decDigits n) = .ok n := by
  induction n using Nat.strongRecOn with
  | _ n ih =>
    rw [Lib.decDigits]
    split
    · rename_i h
      have := parse_app 0 n h [] 0 rfl (by omega)
      simpa using this
    · rename_i h
      have := parse_app 0 (n % 10) (by omega) _ _ (ih (n / 10) (by omega) (by omega)) (by omega)
      rw [this]
      congr 1
      omega
theorem atoi_itoa {n : Int} (h0 : 0 ≤ n) (h1 : n ≤ 65535) : Lib.atoiAll (Lib.itoa n) = .ok n ∧ allB isDigit (Lib.itoa n) = true ∧ (Lib.itoa n).length ≤ 21 := by
  have e : Lib.itoa n = Lib.decDigits n.toNat := by unfold Lib.itoa; rw [if_neg (by omega)]
  rw [e]
  have hd := dec_digit n.toNat
  have hp := parse_dec n.toNat (by omega)
  have hne := dec_ne n.toNat
  refine ⟨?_, ?_, ?_⟩
  · cases hl : Lib.decDigits n.toNat with
    | nil => exact absurd hl hne
    | cons c r =>
      rw [hl] at hp hd
      obtain ⟨a, b⟩ := digit_nat (hd c (by simp))
      have hm : Lib.parseMag (c :: r) = .ok n.toNat := by
        unfold Lib.parseMag
        rw [if_neg (by simp), hp]
      unfold Lib.atoiAll
      dsimp only
      rw [if_neg (by omega), hm]
      dsimp only
      rw [if_neg (by omega), if_neg (by omega), if_neg (by omega)]
      congr 1
      omega
  · unfold allB
    rw [List.all_eq_true.2 hd]
    cases hl : Lib.decDigits n.toNat with
    | nil => exact absurd hl hne
    | cons c r => rfl
  · have : ∀ (k m : Nat), m < 10 ^ (k + 1) → (Lib.decDigits m).length ≤ k + 1 := by
      intro k
      induction k with
      | zero => intro m h; rw [Lib.decDigits, dif_pos (by simpa using h)]; simp
      | succ k ih =>
        intro m h
        rw [Lib.decDigits]
        split
        · simp
        · rw [List.length_append]
          have := ih (m / 10) (by rw [Nat.pow_succ] at h; omega)
          simp
          omega
    have := this 4 n.toNat (by omega)
    omega

/-! ### A host, and what stands with it -/
theorem word_not {c : UInt8} (h : isWord c = true) : c ≠ 58 ∧ c ≠ 47 ∧ c ≠ 39 ∧ c ≠ 42 ∧ c ≠ 46 := by
  revert h; revert c
  exact fun {c} => byte_all (p := fun c => isWord c = true → c ≠ 58 ∧ c ≠ 47 ∧ c ≠ 39 ∧ c ≠ 42 ∧ c ≠ 46) (by decide +kernel) c
theorem schemed_not {c : UInt8} (h : isSchemed c = true) : c ≠ 58 ∧ c ≠ 47 ∧ c ≠ 39 ∧ c ≠ 42 := by
  revert h; revert c
  exact fun {c} => byte_all (p := fun c => isSchemed c = true → c ≠ 58 ∧ c ≠ 47 ∧ c ≠ 39 ∧ c ≠ 42) (by decide +kernel) c
theorem digit_not {c : UInt8} (h : isDigit c = true) : c ≠ 58 ∧ c ≠ 47 ∧ c ≠ 39 ∧ c ≠ 42 := by
  revert h; revert c
  exact fun {c} => byte_all (p := fun c => isDigit c = true → c ≠ 58 ∧ c ≠ 47 ∧ c ≠ 39 ∧ c ≠ 42) (by decide +kernel) c
theorem all_of_allB {p : UInt8 → Bool} {l : Bs} (h : allB p l = true) : (∀ c ∈ l, p c = true) ∧ l ≠ [] := by
  unfold allB at h
  rw [Bool.and_eq_true, List.all_eq_true] at h
  refine ⟨h.1, ?_⟩
  rintro rfl
  exact absurd h.2 (by simp)
theorem splitC_chars (k : UInt8) : ∀ (l : Bs) (c : UInt8), c ∈ l → c = k ∨ ∃ x ∈ splitC k l, c ∈ x
  | [], c, h => by cases h
  | b :: l, c, h => by
    rw [splitC]
    by_cases hb : b = k
    · rw [if_pos (by simpa using hb)]
      rcases List.mem_cons.1 h with rfl | h
      · exact Or.inl hb
      · rcases splitC_chars k l c h with h | ⟨x, hx, hc⟩
        · exact Or.inl h
        · exact Or.inr ⟨x, List.mem_cons_of_mem _ hx, hc⟩
    · rw [if_neg (by simpa using hb)]
      cases hs : splitC k l with
      | nil =>
        rcases List.mem_cons.1 h with rfl | h
        · exact Or.inr ⟨[c], by simp, by simp⟩
        · rcases splitC_chars k l c h with h | ⟨x, hx, hc⟩
          · exact Or.inl h
          · rw [hs] at hx; cases hx
      | cons h0 t =>
        rcases List.mem_cons.1 h with rfl | h
        · exact Or.inr ⟨c :: h0, by simp, by simp⟩
        · rcases splitC_chars k l c h with h | ⟨x, hx, hc⟩
          · exact Or.inl h
          · rw [hs] at hx
            rcases List.mem_cons.1 hx with rfl | hx
            · exact Or.inr ⟨b :: x, by simp, by simp [hc]⟩
            · exact Or.inr ⟨x, by simp [hx], hc⟩
theorem splitC_head (k : UInt8) : ∀ l : Bs, ∃ x t, splitC k l = x :: t ∧ (∀ c r, x = c :: r → l.head? = some c)
  | [] => ⟨[], [], rfl, fun c r h => by cases h⟩
  | b :: l => by
    rw [splitC]
    by_cases hb : b = k
    · rw [if_pos (by simpa using hb)]
      exact ⟨[], _, rfl, fun c r h => by cases h⟩
    · rw [if_neg (by simpa using hb)]
      cases splitC k l with
      | nil => exact ⟨[b], [], rfl, fun c r h => by injection h with h1 _; rw [← h1]; rfl⟩
      | cons h0 t => exact ⟨b :: h0, t, rfl, fun c r h => by injection h with h1 _; rw [← h1]; rfl⟩
/-- The bytes of a host's name; the first one. -/
theorem named_chars {l : Bs} (h : namedB l = true) : (∀ c ∈ l, c ≠ 58 ∧ c ≠ 47 ∧ c ≠ 39 ∧ c ≠ 42) ∧ ∃ c r, l = c :: r ∧ isWord c = true := by
  unfold namedB at h
  rw [split_eq, List.all_eq_true] at h
  refine ⟨fun c hc => ?_, ?_⟩
  · rcases splitC_chars 46 l c hc with rfl | ⟨x, hx, hcx⟩
    · decide
    · have := word_not ((all_of_allB (h x hx)).1 c hcx)
      exact ⟨this.1, this.2.1, this.2.2.1, this.2.2.2.1⟩
  · obtain ⟨x, t, hs, hx⟩ := splitC_head 46 l
    have h0 := h x (by rw [hs]; simp)
    obtain ⟨hw, hne⟩ := all_of_allB h0
    cases x with
    | nil => exact absurd rfl hne
    | cons c r =>
      have hl := hx c r rfl
      cases l with
      | nil => cases hl
      | cons d q =>
        have : d = c := by simpa using hl
        subst this
        exact ⟨d, q, rfl, hw d (by simp)⟩

/-! ### Where things stand -/
theorem index_cons_miss {c b : UInt8} {l r : Bs} (h : b ≠ c) : Lib.index (b :: l) (c :: r) = if Lib.index l (c :: r) == -1 then -1 else Lib.index l (c :: r) + 1 := by
  rw [Lib.index]
  have : ((c :: r : Bs).isPrefixOf (b :: l)) = false := by
    have : (c == b) = false := by simpa using fun e => h e.symm
    simp [List.isPrefixOf, this]
  rw [this]
  rfl
theorem index_skip (c : UInt8) (r : Bs) : ∀ (a b : Bs), c ∉ a → Lib.index (a ++ b) (c :: r) = if Lib.index b (c :: r) = -1 then -1 else a.length + Lib.index b (c :: r)
  | [], b, _ => by
    simp only [List.nil_append, List.length_nil]
    split
    · assumption
    · simp
  | x :: a, b, h => by
    have hx : x ≠ c := fun e => h (by simp [e])
    have ih := index_skip c r a b (fun e => h (by simp [e]))
    rw [List.cons_append, index_cons_miss hx, ih]
    by_cases hb : Lib.index b (c :: r) = -1
    · rw [if_pos hb, if_pos hb]; rfl
    · rw [if_neg hb, if_neg hb]
      have := Lib.index_ge b (c :: r)
      rw [if_neg (by simp; omega)]
      simp
      omega
theorem index_absent (c : UInt8) (r : Bs) (a : Bs) (h : c ∉ a) : Lib.index a (c :: r) = -1 := by
  have := index_skip c r a [] h
  rw [List.append_nil] at this
  rw [this]
  rfl
theorem index_here (s b : Bs) (hs : s ≠ []) : Lib.index (s ++ b) s = 0 := by
  cases s with
  | nil => exact absurd rfl hs
  | cons c r =>
    rw [List.cons_append, Lib.index]
    have : ((c :: r : Bs).isPrefixOf (c :: (r ++ b))) = true := List.isPrefixOf_iff_prefix.2 ⟨b, rfl⟩
    rw [this]; rfl
/-- A cut at the first place. -/
theorem cut_hit (c : UInt8) (r a b : Bs) (h : c ∉ a) : Lib.cut (a ++ ((c :: r) ++ b)) (c :: r) = (a, b, true) := by
  have hi : Lib.index (a ++ ((c :: r) ++ b)) (c :: r) = a.length := by
    rw [index_skip c r a _ h, index_here _ _ (by simp)]
    rfl
  unfold Lib.cut
  rw [hi, if_pos (by omega)]
  simp
theorem cut_miss (l s : Bs) (h : Lib.index l s = -1) : Lib.cut l s = (l, [], false) := by
  unfold Lib.cut
  rw [h]; rfl
theorem indexByte_hit (c : UInt8) : ∀ (a b : Bs), c ∉ a → Lib.indexByte (a ++ c :: b) c = a.length
  | [], b, _ => by simp [Lib.indexByte]
  | x :: a, b, h => by
    have hx : (x == c) = false := by simpa using fun e => h (by simp [e])
    have ih := indexByte_hit c a b (fun e => h (by simp [e]))
    rw [List.cons_append, Lib.indexByte, hx, ih]
    simp
theorem indexByte_absent (c : UInt8) : ∀ (a : Bs), c ∉ a → Lib.indexByte a c = -1
  | [], _ => rfl
  | x :: a, h => by
    have hx : (x == c) = false := by simpa using fun e => h (by simp [e])
    have ih := indexByte_absent c a (fun e => h (by simp [e]))
    rw [Lib.indexByte, hx, ih]
    rfl
/-- Where a text has no such part, what stands behind has none. -/
theorem index_drop {l s : Bs} (h : Lib.index l s = -1) (k : Nat) : Lib.index (l.drop k) s = -1 := by
  rcases Lib.index_spec l s with ⟨_, h2⟩ | ⟨i, h2, _⟩
  · rcases Lib.index_spec (l.drop k) s with ⟨h3, _⟩ | ⟨i, h3, h4, h5, _⟩
    · exact h3
    · exfalso
      rw [List.length_drop] at h4
      by_cases hk : k ≤ l.length
      · have h6 := h2 (k + i) (by omega)
        unfold Lib.occAt at h5 h6
        rw [List.drop_drop] at h5
        rw [h5] at h6
        cases h6
      · have h6 := h2 l.length (Nat.le_refl _)
        unfold Lib.occAt at h5 h6
        rw [List.drop_eq_nil_of_le (by rw [List.length_drop]; omega)] at h5
        rw [List.drop_eq_nil_of_le (Nat.le_refl _)] at h6
        rw [h5] at h6
        cases h6
  · omega

/-! ### The host part as text -/
def nameT (wild : Bool) (host : Bs) : Bs := if wild then (if host = [] then [42] else [42, 46] ++ host) else host
def portT (port : Int) : Bs := if port = -2 then [58, 42] else if 0 ≤ port then 58 :: Lib.itoa port else []

/-- What hostP answers. -/
theorem hostP_cases {l : Bs} {w : Bool} {h : Bs} (e : hostP l = some (w, h)) : (w = true ∧ h = []) ∨ (namedB h = true ∧ low h = h ∧ h.length ≤ l.length) := by
  unfold hostP at e
  split at e
  · left
    have := Option.some.inj e
    exact ⟨(Prod.mk.inj this).1.symm, (Prod.mk.inj this).2.symm⟩
  · split at e
    · rename_i hn
      right
      have := Option.some.inj e
      obtain ⟨_, h2⟩ := Prod.mk.inj this
      rw [← h2]
      refine ⟨by rw [namedB_low]; exact hn, low_low _, ?_⟩
      rw [low_len]
      unfold Lib.trimPrefix
      split
      · simp
      · exact Nat.le_refl _
    · cases e
theorem hostP_back {w : Bool} {h : Bs} (e : (w = true ∧ h = []) ∨ (namedB h = true ∧ low h = h)) : hostP (nameT w h) = some (w, h) := by
  rcases e with ⟨rfl, rfl⟩ | ⟨hn, hl⟩
  · rfl
  · obtain ⟨hc, c, r, rfl, hw⟩ := named_chars hn
    cases w
    · have e1 : nameT false (c :: r) = c :: r := rfl
      rw [e1]
      unfold hostP
      have hc42 := (hc c (by simp)).2.2.2
      have hp : Lib.hasPrefix (c :: r) [42, 46] = false := by
        unfold Lib.hasPrefix
        have : ((42 : UInt8) == c) = false := by simpa using fun e => hc42 e.symm
        simp [List.isPrefixOf, this]
      have ht : Lib.trimPrefix (c :: r) [42, 46] = c :: r := by
        unfold Lib.trimPrefix; rw [hp]; rfl
      rw [if_neg (by intro h; injection h with h1 _; exact hc42 h1), ht, hn, if_pos rfl, hp, hl]
    · have e1 : nameT true (c :: r) = [42, 46] ++ (c :: r) := by unfold nameT; rw [if_pos rfl, if_neg (by simp)]
      rw [e1]
      unfold hostP
      have hp : Lib.hasPrefix ([42, 46] ++ (c :: r)) [42, 46] = true := hasPrefix_self _ _
      have ht : Lib.trimPrefix ([42, 46] ++ (c :: r)) [42, 46] = c :: r := by
        unfold Lib.trimPrefix; rw [hp, if_pos rfl]; rfl
      rw [if_neg (by intro h; cases h), ht, hn, if_pos rfl, hp, hl]
theorem nameT_chars {w : Bool} {h : Bs} (e : (w = true ∧ h = []) ∨ (namedB h = true ∧ low h = h)) : (∀ c ∈ nameT w h, c ≠ 58 ∧ c ≠ 47 ∧ c ≠ 39) ∧ nameT w h ≠ [] := by
  rcases e with ⟨rfl, rfl⟩ | ⟨hn, hl⟩
  · exact ⟨by decide, by decide⟩
  · obtain ⟨hc, c, r, rfl, hw⟩ := named_chars hn
    cases w
    · have e1 : nameT false (c :: r) = c :: r := rfl
      rw [e1]
      exact ⟨fun d hd => ⟨(hc d hd).1, (hc d hd).2.1, (hc d hd).2.2.1⟩, by simp⟩
    · have e1 : nameT true (c :: r) = 42 :: 46 :: (c :: r) := by unfold nameT; rw [if_pos rfl, if_neg (by simp)]; rfl
      rw [e1]
      refine ⟨fun d hd => ?_, by simp⟩
      rcases List.mem_cons.1 hd with rfl | hd
      · decide
      · rcases List.mem_cons.1 hd with rfl | hd
        · decide
        · exact ⟨(hc d hd).1, (hc d hd).2.1, (hc d hd).2.2.1⟩
/-- What portP answers. -/
theorem portP_cases {l : Bs} {n : Int} (e : portP l = some n) : n = -2 ∨ (0 ≤ n ∧ n ≤ 65535) := by
  unfold portP at e
  split at e
  · exact Or.inl (Option.some.inj e).symm
  · split at e
    · rename_i m hm
      split at e
      · rename_i h
        rw [Bool.and_eq_true, decide_eq_true_eq] at h
        have := Option.some.inj e
        subst this
        refine Or.inr ⟨?_, h.2⟩
        cases l with
        | nil => cases hm
        | cons c r =>
          have hd := digit_nat ((all_of_allB h.1).1 c (by simp))
          unfold Lib.atoiAll at hm
          dsimp only at hm
          rw [if_neg (by omega)] at hm
          cases hp : Lib.parseMag (c :: r) with
          | ok u =>
            rw [hp] at hm
            dsimp only at hm
            split at hm
            · cases hm
            · split at hm
              · cases hm
              · rw [if_neg (by omega)] at hm
                injection hm with hm
                omega
          | _ => rw [hp] at hm; cases hm
      · cases e
    · cases e
theorem portP_back {n : Int} (h : n = -2 ∨ (0 ≤ n ∧ n ≤ 65535)) : ∃ q, portT n = 58 :: q ∧ portP q = some n ∧ (∀ c ∈ q, c ≠ 58 ∧ c ≠ 47) ∧ q ≠ [] := by
  rcases h with rfl | ⟨h0, h1⟩
  · exact ⟨[42], rfl, rfl, by decide, by decide⟩
  · obtain ⟨ha, hd, _⟩ := atoi_itoa h0 h1
    refine ⟨Lib.itoa n, ?_, ?_, ?_, (all_of_allB hd).2⟩
    · unfold portT; rw [if_neg (by omega), if_pos h0]
    · unfold portP
      have hne : Lib.itoa n ≠ [42] := by
        intro e
        have := (all_of_allB hd).1 42 (by rw [e]; simp)
        exact absurd this (by decide)
      rw [if_neg hne, ha]
      dsimp only
      rw [hd, decide_eq_true h1]
      rfl
    · intro c hc
      have := digit_not ((all_of_allB hd).1 c hc)
      exact ⟨this.1, this.2.1⟩

theorem indexByte_head (c : UInt8) : ∀ l : Bs, 0 ≤ Lib.indexByte l c → ∃ p, l.drop (Lib.indexByte l c).toNat = c :: p
  | [], h => by simp [Lib.indexByte] at h
  | x :: l, h => by
    rw [Lib.indexByte] at h ⊢
    by_cases hx : (x == c) = true
    · rw [if_pos hx]
      have : x = c := by simpa using hx
      subst this
      exact ⟨l, rfl⟩
    · rw [if_neg hx] at h ⊢
      by_cases hm : (Lib.indexByte l c == -1) = true
      · rw [if_pos hm] at h; omega
      · rw [if_neg hm] at h ⊢
        have hge := Lib.indexByte_ge l c
        have hne : Lib.indexByte l c ≠ -1 := by simpa using hm
        obtain ⟨p, hp⟩ := indexByte_head c l (by omega)
        refine ⟨p, ?_⟩
        rw [show (Lib.indexByte l c + 1).toNat = (Lib.indexByte l c).toNat + 1 by omega, List.drop_succ_cons]
        exact hp

/-- What stands in a host source that was parsed. -/
structure HostOk (sch host path : Bs) (wild : Bool) (port : Int) : Prop where
  fname : (wild = true ∧ host = []) ∨ (namedB host = true ∧ low host = host)
  fport : port = -1 ∨ port = -2 ∨ (0 ≤ port ∧ port ≤ 65535)
  fpath : path = [] ∨ (allB isSeen path = true ∧ ∃ p, path = 47 :: p)
  fscheme : (schemeB sch = true ∧ low sch = sch) ∨ (sch = [] ∧ Lib.index path [58, 47, 47] = -1)

theorem hostedQ_cases {sch path r : Bs} {y : Src} (h : hostedQ sch path r = some y) : ∃ host wild port, y = ⟨3, [], 0, sch, host, wild, port, path⟩ ∧ ((wild = true ∧ host = []) ∨ (namedB host = true ∧ low host = host)) ∧ host.length ≤ r.length ∧
    (port = -1 ∨ port = -2 ∨ (0 ≤ port ∧ port ≤ 65535)) ∧ (path = [] ∨ allB isSeen path = true) := by
  unfold hostedQ at h
  cases hh : hostP (Lib.cut r [58]).1 with
  | none => rw [hh] at h; cases h
  | some wh =>
    obtain ⟨wild, host⟩ := wh
    rw [hh] at h
    dsimp only at h
    have hlen : (Lib.cut r [58]).1.length ≤ r.length := by
      unfold Lib.cut
      split
      · simp [List.length_take]; omega
      · exact Nat.le_refl _
    have hpr : ∃ port, (if (Lib.cut r [58]).2.2 then portP (Lib.cut r [58]).2.1 else some (-1)) = some port ∧ (port = -1 ∨ port = -2 ∨ (0 ≤ port ∧ port ≤ 65535)) := by
      cases hp : (if (Lib.cut r [58]).2.2 then portP (Lib.cut r [58]).2.1 else some (-1)) with
      | none => rw [hp] at h; cases h
      | some port =>
        refine ⟨port, rfl, ?_⟩
        split at hp
        · exact Or.inr (portP_cases hp)
        · exact Or.inl (Option.some.inj hp).symm
    obtain ⟨port, hp, hpc⟩ := hpr
    rw [hp] at h
    dsimp only at h
    split at h
    · rename_i hs
      refine ⟨host, wild, port, (Option.some.inj h).symm, ?_, ?_, hpc, ?_⟩
      · rcases hostP_cases hh with h | ⟨a, b, _⟩
        · exact Or.inl h
        · exact Or.inr ⟨a, b⟩
      · rcases hostP_cases hh with ⟨_, h⟩ | ⟨_, _, c⟩
        · rw [h]; exact Nat.zero_le _
        · exact Nat.le_trans c hlen
      · rw [Bool.or_eq_true] at hs
        rcases hs with hs | hs
        · exact Or.inl (List.isEmpty_iff.1 hs)
        · exact Or.inr hs
    · cases h
theorem hostedP_cases {sch l : Bs} {y : Src} (h : hostedP sch l = some y) : ∃ host wild port path k, y = ⟨3, [], 0, sch, host, wild, port, path⟩ ∧ ((wild = true ∧ host = []) ∨ (namedB host = true ∧ low host = host)) ∧ host.length ≤ l.length ∧
    (port = -1 ∨ port = -2 ∨ (0 ≤ port ∧ port ≤ 65535)) ∧ (path = [] ∨ (allB isSeen path = true ∧ ∃ p, path = 47 :: p)) ∧ (path = [] ∨ path = l.drop k) := by
  unfold hostedP at h
  split at h
  · rename_i hi
    obtain ⟨host, wild, port, h1, h2, h3, h4, h5⟩ := hostedQ_cases h
    obtain ⟨p, hp⟩ := indexByte_head 47 l hi
    refine ⟨host, wild, port, _, (Lib.indexByte l 47).toNat, h1, h2, Nat.le_trans h3 (by simp [List.length_take]; omega), h4, ?_, Or.inr rfl⟩
    rcases h5 with h5 | h5
    · exact Or.inl h5
    · exact Or.inr ⟨h5, p, hp⟩
  · obtain ⟨host, wild, port, h1, h2, h3, h4, h5⟩ := hostedQ_cases h
    exact ⟨host, wild, port, [], 0, h1, h2, h3, h4, Or.inl rfl, Or.inl rfl⟩
theorem hosted_cases {l : Bs} {y : Src} (h : hostedS l = some y) : ∃ sch host wild port path, y = ⟨3, [], 0, sch, host, wild, port, path⟩ ∧ HostOk sch host path wild port ∧ sch.length ≤ l.length ∧ host.length ≤ l.length ∧ path.length ≤ l.length := by
  unfold hostedS at h
  dsimp only at h
  have hl2 : (Lib.cut l [58, 47, 47]).2.1.length ≤ l.length ∧ (Lib.cut l [58, 47, 47]).1.length ≤ l.length := by
    unfold Lib.cut
    split
    · exact ⟨by simp [List.length_drop], by simp [List.length_take]; omega⟩
    · simp
  split at h
  · split at h
    · rename_i hs
      obtain ⟨host, wild, port, path, k, h1, h2, h3, h4, h5, h6⟩ := hostedP_cases h
      refine ⟨_, host, wild, port, path, h1, ⟨h2, h4, h5, Or.inl ⟨by rw [schemeB_low]; exact hs, low_low _⟩⟩, by rw [low_len]; exact hl2.2, Nat.le_trans h3 hl2.1, ?_⟩
      rcases h6 with rfl | rfl
      · exact Nat.zero_le _
      · exact Nat.le_trans (by simp) hl2.1
    · cases h
  · rename_i hc
    have hi : Lib.index l [58, 47, 47] = -1 := by
      unfold Lib.cut at hc
      have hge := Lib.index_ge l [58, 47, 47]
      by_cases h0 : 0 ≤ Lib.index l [58, 47, 47]
      · rw [if_pos h0] at hc; exact absurd rfl hc
      · omega
    obtain ⟨host, wild, port, path, k, h1, h2, h3, h4, h5, h6⟩ := hostedP_cases h
    refine ⟨[], host, wild, port, path, h1, ⟨h2, h4, h5, Or.inr ⟨rfl, ?_⟩⟩, Nat.zero_le _, h3, ?_⟩
    · rcases h6 with rfl | rfl
      · rfl
      · exact index_drop hi k
    · rcases h6 with rfl | rfl
      · exact Nat.zero_le _
      · simp

theorem hostedQ_back {sch host path : Bs} {wild : Bool} {port : Int} (h : HostOk sch host path wild port) : hostedQ sch path (nameT wild host ++ portT port) = some ⟨3, [], 0, sch, host, wild, port, path⟩ := by
  obtain ⟨h1, h2, h3, h4⟩ := h
  obtain ⟨hc, hne⟩ := nameT_chars h1
  have n58 : (58 : UInt8) ∉ nameT wild host := fun e => (hc 58 e).1 rfl
  have hp : (path.isEmpty || allB isSeen path) = true := by
    rcases h3 with rfl | ⟨a, _⟩
    · rfl
    · rw [a, Bool.or_true]
  unfold hostedQ
  rcases h2 with rfl | h2
  · have e : portT (-1) = [] := rfl
    rw [e, List.append_nil, cut_miss _ _ (index_absent 58 [] _ n58)]
    dsimp only
    rw [hostP_back h1]
    dsimp only
    rw [hp]
    rfl
  · obtain ⟨q, e, hq, _, _⟩ := portP_back h2
    rw [e]
    have := cut_hit 58 [] (nameT wild host) q n58
    rw [show nameT wild host ++ 58 :: q = nameT wild host ++ (([58] : Bs) ++ q) from rfl, this]
    dsimp only
    rw [hostP_back h1, if_pos rfl, hq]
    dsimp only
    rw [hp]
    rfl
/-- Name and port: no slash among them; what the last byte is not. -/
theorem namePort {host : Bs} {wild : Bool} {port : Int} (h1 : (wild = true ∧ host = []) ∨ (namedB host = true ∧ low host = host)) (h2 : port = -1 ∨ port = -2 ∨ (0 ≤ port ∧ port ≤ 65535)) :
    (47 : UInt8) ∉ nameT wild host ++ portT port ∧ (∀ c, (nameT wild host ++ portT port).getLast? = some c → c ≠ 58) ∧ (∀ c, (nameT wild host ++ portT port).head? = some c → c ≠ 39) ∧ nameT wild host ++ portT port ≠ [] ∧
    (∀ b, Lib.index b [58, 47, 47] = -1 → Lib.index ((nameT wild host ++ portT port) ++ b) [58, 47, 47] = -1) := by
  obtain ⟨hc, hne⟩ := nameT_chars h1
  have n58 : (58 : UInt8) ∉ nameT wild host := fun e => (hc 58 e).1 rfl
  have hhead : ∀ (z : Bs) c, (nameT wild host ++ z).head? = some c → c ≠ 39 := by
    intro z c hz
    cases hn : nameT wild host with
    | nil => exact absurd hn hne
    | cons d r =>
      rw [hn] at hz
      have : d = c := by simpa using hz
      subst this
      exact (hc d (by rw [hn]; simp)).2.2
  rcases h2 with rfl | h2
  · have e : portT (-1) = [] := rfl
    rw [e, List.append_nil]
    refine ⟨fun e => (hc 47 e).2.1 rfl, fun c hcl => (hc c (List.mem_of_getLast? hcl)).1, fun c h => hhead [] c (by rw [List.append_nil]; exact h), hne, fun b hb => ?_⟩
    rw [index_skip 58 [47, 47] _ b n58, hb]
    rfl
  · obtain ⟨q, e, hq, hqc, hqne⟩ := portP_back h2
    rw [e]
    refine ⟨?_, ?_, fun c h => hhead _ c h, by simp, ?_⟩
    · intro h
      rcases List.mem_append.1 h with h | h
      · exact (hc 47 h).2.1 rfl
      · rcases List.mem_cons.1 h with h | h
        · exact absurd h (by decide)
        · exact (hqc 47 h).2 rfl
    · intro c hcl
      rw [List.getLast?_append, List.getLast?_cons] at hcl
      cases hql : q.getLast? with
      | none => exact absurd (List.getLast?_eq_none_iff.1 hql) hqne
      | some d =>
        rw [hql] at hcl
        have : d = c := by simpa using hcl
        subst this
        exact (hqc d (List.mem_of_getLast? hql)).1
    · intro b hb
      rw [List.append_assoc, index_skip 58 [47, 47] _ _ n58]
      have n58q : (58 : UInt8) ∉ q := fun e => (hqc 58 e).1 rfl
      have : Lib.index (58 :: q ++ b) [58, 47, 47] = -1 := by
        cases q with
        | nil => exact absurd rfl hqne
        | cons d r =>
          have hd : ((47 : UInt8) == d) = false := by simpa using fun e => (hqc d (by simp)).2 e.symm
          have hi : Lib.index ((d :: r) ++ b) [58, 47, 47] = -1 := by
            rw [index_skip 58 [47, 47] _ _ n58q, hb]; rfl
          rw [List.cons_append, Lib.index]
          have hp : (([58, 47, 47] : Bs).isPrefixOf (58 :: ((d :: r) ++ b))) = false := by simp [List.isPrefixOf, hd]
          rw [hp, hi]
          rfl
      rw [this]
      rfl
theorem hostedP_back {sch host path : Bs} {wild : Bool} {port : Int} (h : HostOk sch host path wild port) : hostedP sch ((nameT wild host ++ portT port) ++ path) = some ⟨3, [], 0, sch, host, wild, port, path⟩ := by
  have hq := hostedQ_back h
  obtain ⟨n47, _, _, _, _⟩ := namePort h.fname h.fport
  unfold hostedP
  rcases h.fpath with rfl | ⟨_, p, rfl⟩
  · rw [List.append_nil, indexByte_absent 47 _ n47, if_neg (by decide)]
    exact hq
  · rw [indexByte_hit 47 _ p n47, if_pos (by omega)]
    simp only [Int.toNat_natCast, List.drop_left, List.take_left]
    exact hq
theorem hosted_back {l : Bs} {y : Src} (h : hostedS l = some y) : parseS (textT y) = some y := by
  obtain ⟨sch, host, wild, port, path, rfl, hok, _⟩ := hosted_cases h
  have hp := hostedP_back hok
  obtain ⟨n47, hlast, hhead, hne, hidx⟩ := namePort hok.fname hok.fport
  have ht : textT ⟨3, [], 0, sch, host, wild, port, path⟩ = (if sch = [] then [] else sch ++ [58, 47, 47]) ++ ((nameT wild host ++ portT port) ++ path) := by
    show addressT _ = _
    unfold addressT nameT portT
    simp only [List.append_assoc]
  rw [ht]
  have hs58 : schemeB sch = true → (58 : UInt8) ∉ sch := fun hs e => by
    unfold schemeB at hs
    rw [Bool.and_eq_true] at hs
    exact (schemed_not ((all_of_allB hs.2).1 58 e)).1 rfl
  have hS : hostedS ((if sch = [] then [] else sch ++ [58, 47, 47]) ++ ((nameT wild host ++ portT port) ++ path)) = some ⟨3, [], 0, sch, host, wild, port, path⟩ := by
    unfold hostedS
    rcases hok.fscheme with ⟨hs, hl⟩ | ⟨rfl, hi⟩
    · have hn : sch ≠ [] := by rintro rfl; cases hs
      rw [if_neg hn, List.append_assoc, cut_hit 58 [47, 47] sch _ (hs58 hs)]
      dsimp only
      rw [if_pos rfl, hs, if_pos rfl, hl]
      exact hp
    · rw [if_pos rfl, List.nil_append, cut_miss _ _ (hidx path hi)]
      dsimp only
      rw [if_neg (by decide)]
      exact hp
  unfold parseS
  have hq : quotes ((if sch = [] then [] else sch ++ [58, 47, 47]) ++ ((nameT wild host ++ portT port) ++ path)) = false := by
    unfold quotes
    have : ∀ c, ((if sch = [] then [] else sch ++ [58, 47, 47]) ++ ((nameT wild host ++ portT port) ++ path)).head? = some c → c ≠ 39 := by
      intro c hc
      by_cases hn : sch = []
      · rw [if_pos hn, List.nil_append] at hc
        refine hhead c ?_
        cases hnp : nameT wild host ++ portT port with
        | nil => exact absurd hnp hne
        | cons d r => rw [hnp] at hc; simpa using hc
      · rw [if_neg hn] at hc
        rcases hok.fscheme with ⟨hs, _⟩ | ⟨h0, _⟩
        · cases sch with
          | nil => exact absurd rfl hn
          | cons d r =>
            have : d = c := by simpa using hc
            subst this
            unfold schemeB at hs
            rw [Bool.and_eq_true] at hs
            exact (schemed_not ((all_of_allB hs.2).1 d (by simp))).2.2.1
        · exact absurd h0 hn
    cases hh : ((if sch = [] then [] else sch ++ [58, 47, 47]) ++ ((nameT wild host ++ portT port) ++ path)).head? with
    | none => rw [Bool.and_assoc, Bool.and_eq_false_iff]; right; rfl
    | some c =>
      have hc := this c hh
      have : (some c == some (39 : UInt8)) = false := by simpa using hc
      rw [this, Bool.and_false, Bool.false_and]
  rw [hq, if_neg (by decide)]
  have hx : (Lib.hasSuffix ((if sch = [] then [] else sch ++ [58, 47, 47]) ++ ((nameT wild host ++ portT port) ++ path)) [58] && schemeB (Lib.trimSuffix ((if sch = [] then [] else sch ++ [58, 47, 47]) ++ ((nameT wild host ++ portT port) ++ path)) [58])) = false := by
    generalize hT : (if sch = [] then [] else sch ++ [58, 47, 47]) ++ ((nameT wild host ++ portT port) ++ path) = T
    rw [Bool.and_eq_false_iff]
    cases hsf : Lib.hasSuffix T [58] with
    | false => exact Or.inl rfl
    | true =>
      right
      rw [Bool.eq_false_iff]
      intro hsb
      unfold Lib.trimSuffix at hsb
      rw [hsf, if_pos rfl] at hsb
      unfold Lib.hasSuffix at hsf
      obtain ⟨u, hu⟩ := List.isSuffixOf_iff_suffix.1 hsf
      have hlen : T.length - ([58] : Bs).length = u.length := by rw [← hu]; simp
      rw [hlen, ← hu, List.take_left] at hsb
      unfold schemeB at hsb
      rw [Bool.and_eq_true] at hsb
      have hu47 : (47 : UInt8) ∉ u := fun e => (schemed_not ((all_of_allB hsb.2).1 47 e)).2.1 rfl
      have hT47 : (47 : UInt8) ∉ T := by
        rw [← hu]
        intro e
        rcases List.mem_append.1 e with e | e
        · exact hu47 e
        · exact absurd (List.mem_singleton.1 e) (by decide)
      have hs0 : sch = [] := by
        by_cases hn : sch = []
        · exact hn
        · exfalso
          apply hT47
          rw [← hT, if_neg hn]
          simp
      have hp0 : path = [] := by
        rcases hok.fpath with h | ⟨_, p, h⟩
        · exact h
        · exfalso
          apply hT47
          rw [← hT, h]
          simp
      have hTl : T.getLast? = some 58 := by rw [← hu]; simp
      rw [← hT, if_pos hs0, hp0, List.nil_append, List.append_nil] at hTl
      exact hlast 58 hTl rfl
  rw [hx, if_neg (by decide)]
  exact hS

theorem scheme_back {t : Bs} (h : schemeB t = true) : parseS (textT (schemeS (low t))) = some (schemeS (low t)) := by
  have e : textT (schemeS (low t)) = low t ++ [58] := rfl
  have hs : schemeB (low t) = true := by rw [schemeB_low]; exact h
  rw [e]
  unfold parseS
  have hq : quotes (low t ++ [58]) = false := by
    unfold quotes
    have : ((low t ++ [58]).getLast? == some (39 : UInt8)) = false := by simp
    rw [this, Bool.and_false]
  have hsf : Lib.hasSuffix (low t ++ [58]) [58] = true := by
    unfold Lib.hasSuffix
    exact List.isSuffixOf_iff_suffix.2 ⟨low t, rfl⟩
  have htr : Lib.trimSuffix (low t ++ [58]) [58] = low t := by
    unfold Lib.trimSuffix
    rw [hsf, if_pos rfl]
    simp
  rw [hq, if_neg (by decide), hsf, htr, hs]
  simp only [Bool.and_self, if_true]
  rw [low_low]
/-- ████ What is parsed, told as text, is parsed to the same. ████ -/
theorem back (l : Bs) (y : Src) (h : parseS l = some y) : parseS (textT y) = some y := by
  unfold parseS at h
  split at h
  · exact quoted_back h
  · split at h
    · rename_i hs
      rw [Bool.and_eq_true] at hs
      rw [← Option.some.inj h]
      exact scheme_back hs.2
    · exact hosted_back h

/-- The bounds of what was parsed. -/
structure Fits (y : Src) (N : Nat) : Prop where
  ftext : y.text.length ≤ N
  fscheme : y.scheme.length ≤ N
  fhost : y.host.length ≤ N
  fpath : y.path.length ≤ N
  fport0 : -2 ≤ y.port
  fport1 : y.port ≤ 65535
  fbits0 : 0 ≤ y.bits
  fbits1 : y.bits ≤ 512
theorem portT_len {n : Int} (h : n = -1 ∨ n = -2 ∨ (0 ≤ n ∧ n ≤ 65535)) : (portT n).length ≤ 22 := by
  rcases h with rfl | rfl | ⟨h0, h1⟩
  · decide
  · decide
  · unfold portT
    rw [if_neg (by omega), if_pos h0]
    have := (atoi_itoa h0 h1).2.2
    simp
    omega
theorem fits (l : Bs) (y : Src) (N : Nat) (h : parseS l = some y) (hN : l.length ≤ N) : Fits y N ∧ (textT y).length ≤ 4 * N + 100 := by
  unfold parseS at h
  split at h
  · have hl : ((l.drop 1).dropLast).length ≤ N := by simp; omega
    rcases quoted_cases h with ⟨_, rfl⟩ | ⟨v, rfl, _, hv⟩ | ⟨v, b, rfl, hb, _, hv⟩
    · have e := low_len ((l.drop 1).dropLast)
      refine ⟨⟨by show (low _).length ≤ N; omega, Nat.zero_le _, Nat.zero_le _, Nat.zero_le _, by show (-2 : Int) ≤ -1; decide, by show (-1 : Int) ≤ _; decide, by show (0 : Int) ≤ 0; decide, by show (0 : Int) ≤ 512; decide⟩, ?_⟩
      show (39 :: low _ ++ [39]).length ≤ _
      simp only [List.length_cons, List.length_append, List.length_nil]
      omega
    · refine ⟨⟨by show v.length ≤ N; omega, Nat.zero_le _, Nat.zero_le _, Nat.zero_le _, by show (-2 : Int) ≤ -1; decide, by show (-1 : Int) ≤ _; decide, by show (0 : Int) ≤ 0; decide, by show (0 : Int) ≤ 512; decide⟩, ?_⟩
      show ([39, 110, 111, 110, 99, 101, 45] ++ v ++ [39]).length ≤ _
      simp only [List.length_cons, List.length_append, List.length_nil]
      omega
    · refine ⟨⟨by show v.length ≤ N; omega, Nat.zero_le _, Nat.zero_le _, Nat.zero_le _, by show (-2 : Int) ≤ -1; decide, by show (-1 : Int) ≤ _; decide, by show (0 : Int) ≤ b; omega, by show b ≤ 512; omega⟩, ?_⟩
      show ([39, 115, 104, 97] ++ Lib.itoa b ++ [45] ++ v ++ [39]).length ≤ _
      have : (Lib.itoa b).length = 3 := by
        rcases hb with rfl | rfl | rfl
        · rw [itoa256]; rfl
        · rw [itoa384]; rfl
        · rw [itoa512]; rfl
      simp only [List.length_cons, List.length_append, List.length_nil]
      omega
  · split at h
    · rw [← Option.some.inj h]
      have e : (low (Lib.trimSuffix l [58])).length ≤ N := by
        rw [low_len]
        unfold Lib.trimSuffix
        split
        · simp [List.length_take]; omega
        · exact hN
      refine ⟨⟨Nat.zero_le _, e, Nat.zero_le _, Nat.zero_le _, by show (-2 : Int) ≤ -1; decide, by show (-1 : Int) ≤ _; decide, by show (0 : Int) ≤ 0; decide, by show (0 : Int) ≤ 512; decide⟩, ?_⟩
      show (low (Lib.trimSuffix l [58]) ++ [58]).length ≤ _
      simp only [List.length_append, List.length_cons, List.length_nil]
      omega
    · obtain ⟨sch, host, wild, port, path, rfl, hok, h1, h2, h3⟩ := hosted_cases h
      have hpo := hok.fport
      refine ⟨⟨Nat.zero_le _, by show sch.length ≤ N; omega, by show host.length ≤ N; omega, by show path.length ≤ N; omega, by show (-2 : Int) ≤ port; omega, by show port ≤ 65535; omega, by show (0 : Int) ≤ 0; decide, by show (0 : Int) ≤ 512; decide⟩, ?_⟩
      have ht : textT ⟨3, [], 0, sch, host, wild, port, path⟩ = (if sch = [] then [] else sch ++ [58, 47, 47]) ++ ((nameT wild host ++ portT port) ++ path) := by
        show addressT _ = _
        unfold addressT nameT portT
        simp only [List.append_assoc]
      have e1 : (if sch = [] then [] else sch ++ [58, 47, 47]).length ≤ sch.length + 3 := by split <;> simp
      have e2 : (nameT wild host).length ≤ host.length + 2 := by
        unfold nameT
        split
        · split
          · simp
          · simp
        · omega
      have e3 := portT_len hpo
      rw [ht]
      simp only [List.length_append]
      omega
end Lz
