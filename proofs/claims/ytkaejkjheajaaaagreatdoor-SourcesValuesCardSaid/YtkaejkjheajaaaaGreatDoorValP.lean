/-
  Plain laws behind SourcesValues: a nonce, and a hash, have the value that stands there; with a byte in it that is none of base64's there is none. No program in sight, no condition.
-/
import Derived.Test.YtkaejkjheajaaaaGreatDoorBackP
namespace Lz
open Go

/-- The k-th of the heads. -/
def headAt : Nat → Bs
  | 0 => [110, 111, 110, 99, 101, 45]
  | 1 => [115, 104, 97, 50, 53, 54, 45]
  | 2 => [115, 104, 97, 51, 56, 52, 45]
  | 3 => [83, 72, 65, 53, 49, 50, 45]
  | _ => [78, 79, 78, 67, 69, 45]
def bitAt : Nat → Int
  | 0 => 0
  | 1 => 256
  | 2 => 384
  | 3 => 512
  | _ => 0
def kindAt (k : Nat) : Int := if k = 0 ∨ k = 4 then 4 else 5

theorem q_nonce (h rest : Bs) (hl : low h = sNonce) (hz : h.length = 6) : quotedS (h ++ rest) = if baseB rest then some (nonceS rest) else none := by
  have hlow : low (h ++ rest) = sNonce ++ low rest := by rw [low_append, hl]
  have hd : (h ++ rest).drop 6 = rest := by rw [← hz]; simp
  unfold quotedS
  rw [hlow, not_key_nonce]
  simp only [Bool.false_eq_true, if_false]
  rw [hasPrefix_self, hd, Bool.true_and]
  cases baseB rest
  · simp only [Bool.false_eq_true, if_false]
    have hs : ∀ b, shaS (h ++ rest) b = none := by
      intro b
      unfold shaS
      rw [hlow, sSha_form]
      rfl
    rw [hs, hs, hs]
    rfl
  · rfl

theorem q_sha (h rest : Bs) (b : Int) (hb : b = 256 ∨ b = 384 ∨ b = 512) (hl : low h = sSha b) (hz : h.length = 7) : quotedS (h ++ rest) = if baseB rest then some (hashS rest b) else none := by
  have hlow : low (h ++ rest) = sSha b ++ low rest := by rw [low_append, hl]
  have hd : (h ++ rest).drop 7 = rest := by rw [← hz]; simp
  have hn : Lib.hasPrefix (sSha b ++ low rest) sNonce = false := by rw [sSha_form]; rfl
  have hlen : ∀ c : Int, c = 256 ∨ c = 384 ∨ c = 512 → (sSha c).length = 7 := by
    rintro c (rfl | rfl | rfl)
    · rw [sha256]; rfl
    · rw [sha384]; rfl
    · rw [sha512]; rfl
  have hsh : ∀ c : Int, c = 256 ∨ c = 384 ∨ c = 512 → shaS (h ++ rest) c = if c = b then (if baseB rest then some (hashS rest b) else none) else none := by
    intro c hc
    unfold shaS
    rw [hlow, hlen c hc, hd]
    by_cases e : c = b
    · subst e
      rw [if_pos rfl, hasPrefix_self, Bool.true_and]
    · rw [if_neg e]
      have : Lib.hasPrefix (sSha b ++ low rest) (sSha c) = false := by
        rcases hb with rfl | rfl | rfl <;> rcases hc with rfl | rfl | rfl
        all_goals first | (exact absurd rfl e) | (simp only [sha256, sha384, sha512]; rfl)
      rw [this]
      rfl
  unfold quotedS
  rw [hlow, not_key_sha, hn]
  simp only [Bool.false_eq_true, if_false, Bool.false_and]
  rw [hsh 256 (by simp), hsh 384 (by simp), hsh 512 (by simp)]
  rcases hb with rfl | rfl | rfl <;> (cases baseB rest <;> simp)

theorem q_head (k : Nat) (hk : k < 5) (rest : Bs) : quotedS (headAt k ++ rest) = if baseB rest then some ⟨kindAt k, rest, bitAt k, [], [], false, -1, []⟩ else none := by
  obtain rfl | rfl | rfl | rfl | rfl : k = 0 ∨ k = 1 ∨ k = 2 ∨ k = 3 ∨ k = 4 := by omega
  · exact q_nonce _ rest (by decide) rfl
  · exact q_sha _ rest 256 (by simp) (by rw [sha256]; decide) rfl
  · exact q_sha _ rest 384 (by simp) (by rw [sha384]; decide) rfl
  · exact q_sha _ rest 512 (by simp) (by rw [sha512]; decide) rfl
  · exact q_nonce _ rest (by decide) rfl

theorem letter_ne61 {c : UInt8} : isLetter c = true → c ≠ 61 := by
  revert c; exact fun {c} => byte_all (p := fun c => isLetter c = true → c ≠ 61) (by decide +kernel) c
theorem base_eq (v : Bs) (h : allB isLetter v = true) : baseB (v ++ [61]) = true := by
  obtain ⟨ha, hne⟩ := all_of_allB h
  have ht : Lib.trimRightB (v ++ [61]) 61 = v := by
    have := Lib.trimRightB_take (v ++ [61]) 61 v.length (by simp) (by
      intro j b hj hb
      rw [List.getElem?_append_right hj] at hb
      have : j - v.length = 0 := by have := (List.getElem?_eq_some_iff.1 hb).1; simpa using this
      rw [this] at hb
      simpa using hb.symm) (by
      intro b h0 hb
      rw [List.getElem?_append_left (by omega)] at hb
      exact letter_ne61 (ha b (List.mem_of_getElem? hb)))
    rw [this]; simp
  unfold baseB
  rw [ht, h]
  simp
theorem base_odd (a b : Bs) (c : UInt8) (h1 : isLetter c = false) (h2 : c ≠ 61) : baseB (a ++ c :: b) = false := by
  have hm : c ∈ Lib.trimRightB (a ++ c :: b) 61 := by
    unfold Lib.trimRightB
    rw [List.mem_reverse, List.reverse_append, List.reverse_cons, List.append_assoc]
    rw [List.dropWhile_append]
    split
    · rw [List.singleton_append, List.dropWhile_cons_of_neg (by simpa using h2)]
      simp
    · simp
  unfold baseB
  have : allB isLetter (Lib.trimRightB (a ++ c :: b) 61) = false := by
    unfold allB
    have : (Lib.trimRightB (a ++ c :: b) 61).all isLetter = false := by
      rw [List.all_eq_false]
      exact ⟨c, hm, by simp [h1]⟩
    rw [this]; rfl
  rw [this, Bool.and_false]

/-- The test in SourcesValues. -/
def oddV (c : UInt8) : Bool := !isLetter c && !(c == 61)
theorem val_yes (k : Nat) (hk : k < 5) (v : Bs) (h : allB isLetter v = true) : parseS (39 :: (headAt k ++ v ++ [61, 39])) = some ⟨kindAt k, v ++ [61], bitAt k, [], [], false, -1, []⟩ := by
  have e : (39 :: (headAt k ++ v ++ [61, 39]) : Bs) = 39 :: ((headAt k ++ (v ++ [61])) ++ [39]) := by simp
  rw [e, parse_wrap, q_head k hk, base_eq v h]
  rfl
theorem val_no (k : Nat) (hk : k < 5) (a b : Bs) (c : UInt8) (h : oddV c = true) : parseS (39 :: (headAt k ++ a ++ [c] ++ b ++ [39])) = none := by
  have e : (39 :: (headAt k ++ a ++ [c] ++ b ++ [39]) : Bs) = 39 :: ((headAt k ++ (a ++ c :: b)) ++ [39]) := by simp
  unfold oddV at h
  rw [Bool.and_eq_true] at h
  rw [e, parse_wrap, q_head k hk, base_odd a b c (by simpa using h.1) (by simpa using h.2)]
  rfl

/-! ### letters by numbers -/
def nine : Bs := [97, 98, 99, 88, 89, 90, 48, 49, 57]
def letterAt (all : Bs) (b : UInt8) : UInt8 := all.getD (b.toNat % all.length) 0
def lettersP (l more : Bs) : Bs := if l = [] then [97] else (l.take 40).map (letterAt (nine ++ more))
theorem letter_mem {all : Bs} (h : all ≠ []) (b : UInt8) : letterAt all b ∈ all := by
  have hp : 0 < all.length := List.length_pos_iff.2 h
  have hlt := Nat.mod_lt b.toNat hp
  unfold letterAt
  rw [List.getD_eq_getElem?_getD, List.getElem?_eq_getElem hlt]
  exact List.getElem_mem hlt
theorem letters_all (l more : Bs) (p : UInt8 → Bool) (h9 : nine.all p = true) (hm : more.all p = true) : allB p (lettersP l more) = true := by
  have hall : ∀ c ∈ nine ++ more, p c = true := by
    intro c hc
    rcases List.mem_append.1 hc with h | h
    · exact List.all_eq_true.1 h9 c h
    · exact List.all_eq_true.1 hm c h
  unfold lettersP
  split
  · unfold allB
    have : p 97 = true := List.all_eq_true.1 h9 97 (by decide)
    simp [this]
  · rename_i hl
    unfold allB
    have h1 : ((l.take 40).map (letterAt (nine ++ more))).all p = true := by
      rw [List.all_eq_true]
      intro c hc
      obtain ⟨b, _, rfl⟩ := List.mem_map.1 hc
      exact hall _ (letter_mem (by simp [nine]) b)
    rw [h1]
    cases l with
    | nil => exact absurd rfl hl
    | cons a r => rfl
theorem letters_len (l more : Bs) : (lettersP l more).length ≤ 40 := by
  unfold lettersP
  split
  · decide
  · simp [List.length_take]; omega
end Lz
