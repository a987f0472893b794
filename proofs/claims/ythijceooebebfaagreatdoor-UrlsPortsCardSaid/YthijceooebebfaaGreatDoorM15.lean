/-
  Plain laws of URLs: ports and origins. No program in sight.
-/
import Derived.Test.YthijceooebebfaaGreatDoorM14
namespace Lz
open Go
/-- Bytes that neither the trim nor the cuts at # and ? look at. -/
def plainQ (c : UInt8) : Bool := !lowQ c && !(c == 35) && !(c == 63)
def finU (u : UrlL) : UR := .ok { u with query := encodeP (setU (if specP u.scheme then 3 else 2)) u.query, fragment := encodeP (setU 1) u.fragment }
theorem read_plain {s : Bs} (h : s.all plainQ = true) (b : Option UrlL) : readU s b = (mainU {} s b).bind finU := by
  have h1 : ∀ c ∈ s, plainQ c = true := List.all_eq_true.1 h
  have hl : ∀ c ∈ s, lowQ c = false := by
    intro c hc
    have := h1 c hc
    unfold plainQ at this
    cases hq : lowQ c
    · rfl
    · rw [hq] at this; cases this
  have h35 : (35 : UInt8) ∉ s := fun hc => by have := h1 35 hc; cases this
  have h63 : (63 : UInt8) ∉ s := fun hc => by have := h1 63 hc; cases this
  unfold readU
  rw [clean_id hl, cut_one_no h35]
  simp only
  rw [cut_one_no h63]
  rfl
theorem schemed_of {a : Bs} (h1 : a ≠ []) (h2 : ∀ c, a.head? = some c → isAlpha c = true) (h3 : a.all schemeC = true) (r : Bs) : schemedP (a ++ 58 :: r) = (low a, r, true) := by
  have h58 : (58 : UInt8) ∉ a := fun hc => by have := List.all_eq_true.1 h3 58 hc; cases this
  unfold schemedP
  rw [cut_one_at r h58]
  simp only
  cases a with
  | nil => exact absurd rfl h1
  | cons c t =>
    have := h2 c rfl
    simp only [List.isEmpty_cons, Bool.not_false, Bool.true_and, this, h3, if_true]
/-- The five schemes of UrlsPorts, and their ports. -/
def schemeAt (k : Nat) : Bs := [httpS, httpsS, wsS, wssS, ftpS].getD k httpS
def ownAt (k : Nat) : Nat := [80, 443, 80, 443, 21].getD k 80
theorem five {P : Nat → Prop} (h0 : P 0) (h1 : P 1) (h2 : P 2) (h3 : P 3) (h4 : P 4) (k : Nat) (hk : k < 5) : P k := by
  obtain rfl | rfl | rfl | rfl | rfl : k = 0 ∨ k = 1 ∨ k = 2 ∨ k = 3 ∨ k = 4 := by omega
  all_goals assumption
theorem scheme_def (k : Nat) (hk : k < 5) : defP (schemeAt k) = ownAt k := five (P := fun k => defP (schemeAt k) = ownAt k) rfl rfl rfl rfl rfl k hk
theorem scheme_spec (k : Nat) (hk : k < 5) : specP (schemeAt k) = true := five (P := fun k => specP (schemeAt k) = true) rfl rfl rfl rfl rfl k hk
theorem scheme_file (k : Nat) (hk : k < 5) : ¬ schemeAt k = fileS := five (P := fun k => ¬ schemeAt k = fileS) (by decide) (by decide) (by decide) (by decide) (by decide) k hk
theorem scheme_low (k : Nat) (hk : k < 5) : low (schemeAt k) = schemeAt k := five (P := fun k => low (schemeAt k) = schemeAt k) rfl rfl rfl rfl rfl k hk
theorem scheme_ok (k : Nat) (hk : k < 5) (r : Bs) : schemedP (schemeAt k ++ 58 :: r) = (schemeAt k, r, true) := by
  have h := five (P := fun k => schemeAt k ≠ [] ∧ (∀ c, (schemeAt k).head? = some c → isAlpha c = true) ∧ (schemeAt k).all schemeC = true)
    ⟨by decide, by intro c h; cases h; rfl, rfl⟩ ⟨by decide, by intro c h; cases h; rfl, rfl⟩ ⟨by decide, by intro c h; cases h; rfl, rfl⟩ ⟨by decide, by intro c h; cases h; rfl, rfl⟩ ⟨by decide, by intro c h; cases h; rfl, rfl⟩ k hk
  rw [schemed_of h.1 h.2.1 h.2.2, scheme_low k hk]
theorem scheme_plain (k : Nat) (hk : k < 5) : (schemeAt k).all plainQ = true := five (P := fun k => (schemeAt k).all plainQ = true) (by decide) (by decide) (by decide) (by decide) (by decide) k hk
theorem scheme_len (k : Nat) (hk : k < 5) : (schemeAt k).length ≤ 5 := five (P := fun k => (schemeAt k).length ≤ 5) (by decide) (by decide) (by decide) (by decide) (by decide) k hk
/-- A special scheme, two slashes, a place: it is read as the place. -/
theorem main_special (k : Nat) (hk : k < 5) (r : Bs) (hr : ∀ c, r.head? = some c → slashQ true c = false) : mainU {} (schemeAt k ++ 58 :: 47 :: 47 :: r) none = hostedU { scheme := schemeAt k } r := by
  unfold mainU
  rw [scheme_ok k hk]
  simp only [if_true, if_neg (scheme_file k hk), scheme_spec k hk]
  have hl : leadS true (47 :: 47 :: r) = 2 := by
    unfold leadS
    rw [List.takeWhile_cons, List.takeWhile_cons]
    have h47 : slashQ true 47 = true := rfl
    rw [h47]
    simp only [if_true]
    cases r with
    | nil => rfl
    | cons c t => rw [List.takeWhile_cons, hr c rfl]; rfl
  rw [hl]
  rfl

theorem itoa_nat (n : Nat) : Lib.itoa (n : Int) = Lib.decDigits n := by
  unfold Lib.itoa
  rw [if_neg (by omega)]; rfl
/-! ### ports -/
theorem portN_app (c : UInt8) : ∀ (l : Bs) (n : Nat), portN n (l ++ [c]) = (portN n l).bind fun m => if isDigit c then some (min (10 * m + (c.toNat - 48)) 1048576) else none
  | [], n => by
    simp only [List.nil_append, portN, Option.bind_some]
  | d :: r, n => by
    rw [List.cons_append, portN, portN]
    split
    · exact portN_app c r _
    · rfl
theorem digit_val : ∀ d : Fin 10, isDigit (UInt8.ofNat (48 + d.val)) = true ∧ (UInt8.ofNat (48 + d.val)).toNat - 48 = d.val := by decide +kernel
theorem portN_dec (n : Nat) : n ≤ 104857 → portN 0 (Lib.decDigits n) = some n := by
  induction n using Nat.strongRecOn with
  | _ n ih =>
    intro hn
    rw [Lib.decDigits]
    split
    · rename_i h
      obtain ⟨h1, h2⟩ := digit_val ⟨n, h⟩
      simp only at h1 h2
      rw [portN, h1, h2]
      simp only [if_true, portN]
      congr 1; omega
    · rename_i h
      obtain ⟨h1, h2⟩ := digit_val ⟨n % 10, Nat.mod_lt _ (by omega)⟩
      simp only at h1 h2
      rw [portN_app, ih (n / 10) (by omega) (by omega), h1, h2]
      simp only [if_true, Option.bind_some]
      congr 1; omega
theorem portN_zeros (l : Bs) : portN 0 (48 :: 48 :: l) = portN 0 l := rfl
theorem digit_plain : ∀ c : UInt8, isDigit c = true → plainQ c = true ∧ c ≠ 64 ∧ slashQ true c = false := byte_all (by decide +kernel)
/-- The text of UrlsPorts. -/
def portX (k n : Nat) : Bs := schemeAt k ++ [58, 47, 47, 117, 58, 112, 64, 72, 46, 120, 58, 48, 48] ++ Lib.decDigits n ++ [47, 113]
theorem portX_eq (k n : Nat) : portX k n = schemeAt k ++ 58 :: 47 :: 47 :: (([117, 58, 112] ++ 64 :: ([72, 46, 120] ++ 58 :: (48 :: 48 :: Lib.decDigits n))) ++ 47 :: [113]) := by
  simp [portX]
def portV (k n : Nat) : UrlL := { scheme := schemeAt k, user := [117], pass := [112], hasHost := true, host := [104, 46, 120], port := if n = ownAt k then -1 else (n : Int), path := [[113]] }
theorem host_hx : hostPr [72, 46, 120] true = .ok [104, 46, 120] := by decide +kernel
theorem host_hx2 : hostPr [104, 46, 120] true = .ok [104, 46, 120] := by decide +kernel
theorem port_place (k n : Nat) (hk : k < 5) (hn : n < 80000) :
    authU { scheme := schemeAt k } ([117, 58, 112] ++ 64 :: ([72, 46, 120] ++ 58 :: (48 :: 48 :: Lib.decDigits n))) = if 65535 < n then .er 81 else .ok { portV k n with path := [] } := by
  have h64 : (64 : UInt8) ∉ ([72, 46, 120] ++ 58 :: (48 :: 48 :: Lib.decDigits n) : Bs) := by
    intro h
    rcases List.mem_append.1 h with h | h
    · revert h; decide
    · rcases List.mem_cons.1 h with h | h
      · cases h
      · rcases List.mem_cons.1 h with h | h
        · cases h
        · rcases List.mem_cons.1 h with h | h
          · cases h
          · exact (digit_plain 64 (dec_digit n 64 h)).2.1 rfl
  unfold authU
  rw [lastAt_at _ h64]
  simp only
  rw [if_neg (by simp)]
  unfold placeU
  rw [colonP_at _ (by decide)]
  simp only [List.length_cons, List.length_nil]
  have ht : ([72, 46, 120] ++ 58 :: (48 :: 48 :: Lib.decDigits n) : Bs).take 3 = [72, 46, 120] := rfl
  have hd : ([72, 46, 120] ++ 58 :: (48 :: 48 :: Lib.decDigits n) : Bs).drop (3 + 1) = 48 :: 48 :: Lib.decDigits n := rfl
  rw [ht, hd, if_neg (by decide)]
  unfold hostU whoU
  simp only [scheme_spec k hk, host_hx]
  have hw : Lib.cut ([117, 58, 112] : Bs) [58] = ([117], [112], true) := by decide +kernel
  have e1 : encodeP (setU 5) ([117] : Bs) = [117] := by decide +kernel
  have e2 : encodeP (setU 5) ([112] : Bs) = [112] := by decide +kernel
  rw [hw]
  simp only [e1, e2]
  show portU _ _ = _
  unfold portU
  rw [portN_zeros, portN_dec n (by omega)]
  simp only
  by_cases h6 : 65535 < n
  · rw [if_pos h6, if_pos h6]
  · rw [if_neg h6, if_neg h6, scheme_def k hk]
    by_cases ho : n = ownAt k
    · rw [if_neg (by rw [ho]; simp)]
      simp [portV, ho]
    · rw [if_pos ⟨by simp, by omega⟩]
      simp [portV, ho]
theorem port_read (k n : Nat) (hk : k < 5) (hn : n < 80000) : readU (portX k n) none = if 65535 < n then .er 81 else .ok (portV k n) := by
  have hdig : ∀ c ∈ Lib.decDigits n, plainQ c = true ∧ c ≠ 64 ∧ slashQ true c = false := fun c hc => digit_plain c (dec_digit n c hc)
  have hp : (portX k n).all plainQ = true := by
    unfold portX
    rw [List.all_append, List.all_append, List.all_append, scheme_plain k hk]
    have : (Lib.decDigits n).all plainQ = true := List.all_eq_true.2 (fun c hc => (hdig c hc).1)
    rw [this]; rfl
  rw [read_plain hp, portX_eq, main_special k hk _ (by intro c h; cases h; rfl)]
  unfold hostedU
  simp only [scheme_spec k hk]
  rw [cutS_at [113] (by
    intro c hc
    have q1 : ∀ c ∈ ([117, 58, 112] : Bs), slashQ true c = false := by decide
    have q2 : ∀ c ∈ ([72, 46, 120] : Bs), slashQ true c = false := by decide
    rcases List.mem_append.1 hc with h | h
    · exact q1 c h
    · rcases List.mem_cons.1 h with rfl | h
      · rfl
      · rcases List.mem_append.1 h with h | h
        · exact q2 c h
        · rcases List.mem_cons.1 h with rfl | h
          · rfl
          · rcases List.mem_cons.1 h with rfl | h
            · rfl
            · rcases List.mem_cons.1 h with rfl | h
              · rfl
              · exact (hdig c h).2.2)]
  simp only [port_place k n hk hn]
  by_cases h6 : 65535 < n
  · rw [if_pos h6, if_pos h6]; rfl
  · rw [if_neg h6, if_neg h6]
    have hon : onP { portV k n with path := [] } [113] = portV k n := five (P := fun k => onP { portV k n with path := [] } [113] = portV k n) (by rfl) (by rfl) (by rfl) (by rfl) (by rfl) k hk
    show (UR.ok (onP { portV k n with path := [] } [113])).bind finU = _
    rw [hon]
    show finU (portV k n) = _
    unfold finU
    simp only [portV]
    rfl
theorem portX_len (k n : Nat) (hk : k < 5) (hn : n < 80000) : (portX k n).length ≤ 4000 := by
  have h1 := scheme_len k hk
  have h2 : ∀ m, m < 100000 → (Lib.decDigits m).length ≤ 5 := by
    intro m hm
    have : ∀ (k m : Nat), m < 10 ^ (k + 1) → (Lib.decDigits m).length ≤ k + 1 := by
      intro k
      induction k with
      | zero => intro m h; rw [Lib.decDigits, dif_pos (by simpa using h)]; simp
      | succ k ih =>
        intro m h
        rw [Lib.decDigits]
        split
        · simp
        · have := ih (m / 10) (by rw [Nat.pow_succ] at h; omega)
          simp; omega
    exact this 4 m (by simpa using hm)
  have h3 := h2 n (by omega)
  unfold portX
  simp
  omega
theorem port_parse (k n : Nat) (hk : k < 5) (hn : n < 80000) : parseU (portX k n) none = if 65535 < n then .er 81 else .ok (portV k n) := by
  unfold parseU
  rw [if_neg (by have := portX_len k n hk hn; omega)]
  exact port_read k n hk hn
theorem port_origin (k n : Nat) (hk : k < 5) : originU (portV k n) = schemeAt k ++ [58, 47, 47, 104, 46, 120] ++ (if n = ownAt k then [] else 58 :: Lib.decDigits n) := by
  unfold originU
  have hd : defP (portV k n).scheme ≠ -1 := by
    show defP (schemeAt k) ≠ -1
    rw [scheme_def k hk]; omega
  rw [if_pos hd]
  unfold atU
  by_cases h : n = ownAt k
  · simp [portV, h]
  · have : ¬ ((n : Int) = -1) := by omega
    simp [portV, h, itoa_nat]
/-- A scheme and a host alone. -/
def bareV (k : Nat) : UrlL := { scheme := schemeAt k, hasHost := true, host := [104, 46, 120], path := [[]] }
theorem bare_parse (k : Nat) (hk : k < 5) : parseU (schemeAt k ++ [58, 47, 47, 104, 46, 120]) none = .ok (bareV k) :=
  five (P := fun k => parseU (schemeAt k ++ [58, 47, 47, 104, 46, 120]) none = .ok (bareV k)) (by decide +kernel) (by decide +kernel) (by decide +kernel) (by decide +kernel) (by decide +kernel) k hk

/-! ### origins -/
theorem origin_plain {u : UrlL} (h : specP u.scheme = false) (hb : u.scheme ≠ blobS) : originU u = [110, 117, 108, 108] := by
  have hd : defP u.scheme = -1 := by
    unfold specP at h
    simp only [Bool.or_eq_false_iff, Bool.not_eq_false', beq_iff_eq] at h
    exact h.2
  unfold originU
  rw [if_neg (by rw [hd]; decide), if_neg (fun hh => hb hh.1)]
theorem origin_blob {u : UrlL} (h : u.scheme = blobS) (ho : u.opq = false) : originU u = [110, 117, 108, 108] := by
  have hd : defP u.scheme = -1 := by rw [h]; rfl
  unfold originU
  rw [if_neg (by rw [hd]; decide), if_neg (fun hh => by rw [ho] at hh; cases hh.2.1)]
theorem origin_in {u : UrlL} (h : u.scheme = blobS) (ho : u.opq = true) (hp : u.path ≠ []) : originU u = match parseU (u.path.headD []) none with
    | .ok x => if x.scheme = httpS ∨ x.scheme = httpsS then originU x else [110, 117, 108, 108]
    | .er _ => [110, 117, 108, 108] := by
  have hd : defP u.scheme = -1 := by rw [h]; rfl
  rw [originU, if_neg (by rw [hd]; decide), if_pos ⟨h, ho, hp⟩]
  cases parseU (u.path.headD []) none with
  | er n => rfl
  | ok x =>
    simp only
    by_cases hx : x.scheme = httpS ∨ x.scheme = httpsS
    · rw [if_pos hx, if_pos hx, originU, if_pos]
      rcases hx with hx | hx <;> rw [hx] <;> decide
    · rw [if_neg hx, if_neg hx]
end Lz
