/-
  Plain laws on lists of bytes: triples, and letters in the other case; addresses of eight pieces, however they are written. No program in sight.
-/
import Derived.Test.YtkaejkjheajaaaaGreatDoorHostS
namespace Lz
open Go

/-! ### HostsTriples -/
def flip1 (c : UInt8) (turn : Bool) : UInt8 := if turn && isAlpha c then c ^^^ 32 else c
/-- A byte, or its triple. -/
def tripC (c : UInt8) (tri turn : Bool) : Bs := if tri then [37, hex1 ((flip1 c turn).toNat / 16), hex1 ((flip1 c turn).toNat % 16)] else [flip1 c turn]
def tripT (tri turn : Nat → Bool) : Nat → Bs → Bs
  | _, [] => []
  | i, c :: r => tripC c (tri i) (turn i) ++ tripT tri turn (i + 1) r
def flipT (turn : Nat → Bool) : Nat → Bs → Bs
  | _, [] => []
  | i, c :: r => flip1 c (turn i) :: flipT turn (i + 1) r
theorem flip_byte : ∀ c : UInt8, (low1 (flip1 c true) = low1 c) ∧ ((c ≠ 37 → flip1 c true ≠ 37) ∧ (c ≠ 91 → flip1 c true ≠ 91)) := byte_all (by decide +kernel)
theorem flip_low (c : UInt8) (t : Bool) : low1 (flip1 c t) = low1 c := by
  cases t
  · rfl
  · exact (flip_byte c).1
theorem flip_37 {c : UInt8} (h : c ≠ 37) (t : Bool) : flip1 c t ≠ 37 := by
  cases t
  · exact h
  · exact (flip_byte c).2.1 h
theorem flip_91 {c : UInt8} (h : c ≠ 91) (t : Bool) : flip1 c t ≠ 91 := by
  cases t
  · exact h
  · exact (flip_byte c).2.2 h
theorem triple_hit : ∀ c : UInt8, tripleP [37, hex1 (c.toNat / 16), hex1 (c.toNat % 16)] = some c := byte_all (by decide +kernel)
theorem triple_cons (c : UInt8) (r : Bs) : tripleP (37 :: hex1 (c.toNat / 16) :: hex1 (c.toNat % 16) :: r) = some c := by
  have := triple_hit c
  unfold tripleP at this ⊢
  exact this
theorem trip_decode (tri turn : Nat → Bool) : ∀ (s : Bs) (i : Nat), (∀ c ∈ s, c ≠ 37) → decodeP (tripT tri turn i s) = flipT turn i s
  | [], i, _ => by rw [tripT, decodeP, flipT]
  | c :: r, i, h => by
    have ih := trip_decode tri turn r (i + 1) (fun x hx => h x (by simp [hx]))
    have hc := h c (by simp)
    rw [tripT, flipT, tripC]
    cases tri i
    · simp only [Bool.false_eq_true, if_false, List.singleton_append]
      exact decode_cons (triple_not (flip_37 hc _) _) ih
    · simp only [if_true, List.cons_append, List.nil_append]
      rw [decodeP, triple_cons]
      simp only [List.drop_succ_cons, List.drop_zero, ih]
theorem flip_lowT (turn : Nat → Bool) : ∀ (s : Bs) (i : Nat), low (flipT turn i s) = low s
  | [], _ => rfl
  | c :: r, i => by
    have ih := flip_lowT turn r (i + 1)
    show low1 (flip1 c (turn i)) :: low (flipT turn (i + 1) r) = low1 c :: low r
    rw [flip_low, ih]
theorem trip_head (tri turn : Nat → Bool) (i : Nat) (s : Bs) (h : s[0]? ≠ some 91) : (tripT tri turn i s)[0]? ≠ some 91 := by
  cases s with
  | nil => exact h
  | cons c r =>
    have hc : c ≠ 91 := by simpa using h
    rw [tripT, tripC]
    cases tri i
    · simpa using flip_91 hc _
    · simp
theorem trip_says (tri turn : Nat → Bool) (s : Bs) (h91 : s[0]? ≠ some 91) (h37 : ∀ c ∈ s, c ≠ 37) : hostPr (tripT tri turn 0 s) true = hostPr s true := by
  unfold hostPr
  rw [if_neg (trip_head tri turn 0 s h91), if_neg h91, if_pos rfl, if_pos rfl]
  unfold domainP
  rw [trip_decode tri turn s 0 h37, flip_lowT, decode_free s h37]

/-! ### HostsSix -/
/-- Digits, of four at least if these are needless. -/
def padP (pad : Bool) (x : Bs) : Bs := if pad then List.replicate (4 - x.length) 48 ++ x else x
theorem piece_pad {n : Nat} (h : n < 65536) (pad : Bool) : pieceP (padP pad (hexD n)) = some n := by
  cases pad
  · exact piece_hexD h
  · have hl := hexD_len 3 n (by simpa using h)
    have hne := hexD_ne n
    unfold padP
    simp only [if_true]
    unfold pieceP
    rw [if_neg]
    · have hz : ∀ k, (List.replicate k (48 : UInt8) ++ hexD n).foldlM hexF 0 = some n := by
        intro k
        induction k with
        | zero => exact hexD_fold n
        | succ k ih =>
          rw [List.replicate_succ, List.cons_append, List.foldlM_cons, hexF, show hexV 48 = some 0 from rfl]
          exact ih
      exact hz _
    · rintro (h1 | h1)
      · exact hne (List.append_eq_nil_iff.1 h1).2
      · rw [List.length_append, List.length_replicate] at h1; omega
theorem pad_chars (pad : Bool) (n : Nat) : ∀ c ∈ padP pad (hexD n), isHexD c = true := by
  unfold padP
  cases pad
  · exact hexD_chars n
  · intro c hc
    simp only [if_true] at hc
    rcases List.mem_append.1 hc with hc | hc
    · rw [(List.mem_replicate.1 hc).2]; rfl
    · exact hexD_chars n c hc
theorem pad_ne (pad : Bool) (n : Nat) : padP pad (hexD n) ≠ [] := by
  unfold padP
  cases pad
  · exact hexD_ne n
  · simp only [if_true]; intro h; exact hexD_ne n (List.append_eq_nil_iff.1 h).2
/-- What stands between colons. -/
def sixL (a : List Nat) (pad dots : Bool) : List Bs :=
  if dots then (a.take 6).map (fun n => padP pad (hexD n)) ++ [dottedP [a.getD 6 0 / 256, a.getD 6 0 % 256, a.getD 7 0 / 256, a.getD 7 0 % 256]]
  else a.map fun n => padP pad (hexD n)
def sixT (a : List Nat) (pad dots : Bool) : Bs := joinP [58] (sixL a pad dots)
theorem row_app (last : Bool) : ∀ (l : List Nat) (xs r : List Bs), xs.length = l.length → (∀ (i : Nat) (x : Bs) (n : Nat), xs[i]? = some x → l[i]? = some n → x.contains 46 = false ∧ pieceP x = some n) → rowP last (xs ++ r) = (rowP last r).map (l ++ ·)
  | [], [], r, _, _ => by simp
  | [], _ :: _, r, h, _ => by simp at h
  | _ :: _, [], r, h, _ => by simp at h
  | n :: l, x :: xs, r, h, hp => by
    obtain ⟨h1, h2⟩ := hp 0 x n rfl rfl
    rw [List.cons_append, rowP, h1, h2, row_app last l xs r (by simpa using h) (fun i y m hy hm => hp (i + 1) y m (by simpa using hy) (by simpa using hm))]
    simp only [Bool.and_false, Bool.false_eq_true, if_false]
    cases rowP last r <;> simp
theorem row_pad (last : Bool) (pad : Bool) (l : List Nat) (r : List Bs) (hl : ∀ n ∈ l, n < 65536) : rowP last (l.map (fun n => padP pad (hexD n)) ++ r) = (rowP last r).map (l ++ ·) := by
  refine row_app last l _ r (by simp) ?_
  intro i x n hx hn
  rw [List.getElem?_map, hn] at hx
  have hx : padP pad (hexD n) = x := Option.some.inj hx
  rw [← hx]
  refine ⟨?_, piece_pad (hl n (List.mem_of_getElem? hn)) pad⟩
  rw [Bool.eq_false_iff]; intro hc
  exact (isHexD_not 46 (pad_chars pad n 46 (List.contains_iff_mem.1 hc))).2 rfl
theorem byte_dec1 : ∀ n : Fin 256, byteP (Lib.decDigits n.val) = some n.val := by decide +kernel
theorem byte_dec {n : Nat} (h : n < 256) : byteP (Lib.decDigits n) = some n := byte_dec1 ⟨n, h⟩
theorem bytes_dotted {p q r s : Nat} (hp : p < 256) (hq : q < 256) (hr : r < 256) (hs : s < 256) : bytesP (dottedP [p, q, r, s]) = some [p, q, r, s] := by
  unfold bytesP
  rw [dotted_split (by simp)]
  simp only [List.map_cons, List.map_nil, List.mapM_cons, List.mapM_nil, byte_dec hp, byte_dec hq, byte_dec hr, byte_dec hs]
  rfl
theorem dotted_has (p : Nat) (q : Nat) (r : List Nat) : (dottedP (p :: q :: r)).contains 46 = true := by
  rw [List.contains_iff_mem]
  unfold dottedP
  rw [List.map_cons, List.map_cons, joinP]
  simp
theorem sixL_ne {a : List Nat} (h8 : a.length = 8) (pad dots : Bool) : sixL a pad dots ≠ [] := by
  unfold sixL
  cases dots
  · intro h; have := congrArg List.length h; simp [h8] at this
  · simp
theorem sixL_chars (a : List Nat) (pad dots : Bool) : ∀ x ∈ sixL a pad dots, x ≠ [] ∧ ∀ c ∈ x, c ≠ 58 := by
  have hp : ∀ l : List Nat, ∀ x ∈ l.map (fun n => padP pad (hexD n)), x ≠ [] ∧ ∀ c ∈ x, c ≠ 58 := by
    intro l x hx
    obtain ⟨n, _, rfl⟩ := List.mem_map.1 hx
    exact ⟨pad_ne pad n, fun c hc => (isHexD_not c (pad_chars pad n c hc)).1⟩
  unfold sixL
  intro x hx
  cases dots
  · exact hp _ x hx
  · rcases List.mem_append.1 hx with hx | hx
    · exact hp _ x hx
    · rw [List.mem_singleton] at hx
      rw [hx]
      refine ⟨?_, fun c hc => ?_⟩
      · unfold dottedP
        exact joinP_ne (by simp) (by intro x hx; obtain ⟨n, _, rfl⟩ := List.mem_map.1 hx; exact dec_ne n)
      · rcases dotted_chars _ c hc with h | rfl
        · exact (dig_not c h).2.1
        · decide
theorem join_head {ls : List Bs} (h : ∀ x ∈ ls, x ≠ [] ∧ ∀ c ∈ x, c ≠ 58) : (joinP [58] ls).head? ≠ some 58 := by
  cases ls with
  | nil => simp [joinP]
  | cons x r =>
    have hx := h x (by simp)
    cases hxx : x with
    | nil => exact absurd hxx hx.1
    | cons c y =>
      have hc := hx.2 c (by rw [hxx]; simp)
      cases r with
      | nil => simp [joinP]; exact hc
      | cons z r => simp [joinP]; exact hc
theorem join_col : ∀ ls : List Bs, (∀ x ∈ ls, x ≠ [] ∧ ∀ c ∈ x, c ≠ 58) → oneCol (joinP [58] ls) = true
  | [], _ => rfl
  | [x], h => by
    have := oneCol_app x [] (h x (by simp)).2 (h x (by simp)).1 rfl (by simp)
    rw [List.append_nil] at this
    exact this
  | x :: y :: r, h => by
    rw [joinP, List.append_assoc, List.singleton_append]
    exact oneCol_sep _ _ (h x (by simp)).2 (h x (by simp)).1 (join_col (y :: r) fun z hz => h z (by simp [hz])) (joinP_ne (by simp) fun z hz => (h z (by simp [hz])).1) (join_head fun z hz => h z (by simp [hz]))
/-- What is written with colons, no two of them beside each other. -/
theorem six_join {ls : List Bs} (hne : ls ≠ []) (h : ∀ x ∈ ls, x ≠ [] ∧ ∀ c ∈ x, c ≠ 58) : sixP (joinP [58] ls) = (rowP true ls).bind fun l => if l.length = 8 then some l else none := by
  have hn : joinP [58] ls ≠ [] := joinP_ne hne fun x hx => (h x hx).1
  have he : (joinP [58] ls).isEmpty = false := by rw [List.isEmpty_eq_false_iff]; exact hn
  unfold sixP
  rw [cut_miss _ _ (index_oneCol_none _ (join_col ls h))]
  have hr : rowS (joinP [58] ls) true = rowP true ls := by
    unfold rowS
    rw [if_neg hn, splitC_join 58 ls hne fun x hx => (h x hx).2]
  simp only [he, Bool.not_false, hr, show rowS [] true = some [] from rfl, Lib.hasPrefix]
  cases rowP true ls with
  | none => simp
  | some l => simp
theorem six_written {a : List Nat} (h8 : a.length = 8) (hl : ∀ n ∈ a, n < 65536) (pad dots : Bool) : sixP (sixT a pad dots) = some a := by
  unfold sixT
  rw [six_join (sixL_ne h8 pad dots) (sixL_chars a pad dots)]
  have : rowP true (sixL a pad dots) = some a := by
    unfold sixL
    cases dots
    · have := row_pad true pad a [] hl
      rw [List.append_nil] at this
      simp only [Bool.false_eq_true, if_false]
      rw [this]; simp [rowP]
    · simp only [if_true]
      rw [row_pad true pad (a.take 6) _ fun n hn => hl n (List.mem_of_mem_take hn)]
      obtain ⟨p, hp⟩ : ∃ p, a[6]? = some p := ⟨_, List.getElem?_eq_getElem (by omega)⟩
      obtain ⟨q, hq⟩ : ∃ q, a[7]? = some q := ⟨_, List.getElem?_eq_getElem (by omega)⟩
      have hpl := hl p (List.mem_of_getElem? hp)
      have hql := hl q (List.mem_of_getElem? hq)
      rw [List.getD_eq_getElem?_getD, List.getD_eq_getElem?_getD, hp, hq]
      simp only [Option.getD_some]
      rw [rowP, dotted_has, bytes_dotted (by omega) (by omega) (by omega) (by omega)]
      simp only [List.isEmpty_nil, Bool.and_true, if_true, Option.map_some, List.getD_cons_zero, List.getD_cons_succ]
      rw [show p / 256 * 256 + p % 256 = p by omega, show q / 256 * 256 + q % 256 = q by omega]
      congr 1
      have ha : a = a.take 6 ++ a.drop 6 := (List.take_append_drop 6 a).symm
      have hd : a.drop 6 = [p, q] := by
        rw [List.drop_eq_getElem_cons (by omega), List.drop_eq_getElem_cons (by omega), List.drop_eq_nil_of_le (by omega)]
        rw [List.getElem?_eq_getElem (by omega)] at hp hq
        rw [Option.some.inj hp, Option.some.inj hq]
      rw [← hd]; exact ha.symm
  rw [this]
  simp [h8]
theorem six_host {s : Bs} {a : List Nat} (h : sixP s = some a) (special : Bool) : hostPr ([91] ++ s ++ [93]) special = .ok ([91] ++ textP a ++ [93]) := by
  unfold hostPr
  rw [if_pos (by simp)]
  have h1 : ¬ (([91] ++ s ++ [93] : Bs).length < 2 ∨ ([91] ++ s ++ [93] : Bs).getLast? ≠ some 93) := by
    rw [List.getLast?_append]; simp
  rw [if_neg h1]
  have h2 : (([91] ++ s ++ [93] : Bs).drop 1).dropLast = s := by simp
  rw [h2, h]; rfl
theorem six_open {s : Bs} (h : s.getLast? ≠ some 93) : hostPr ([91] ++ s) true = .er 72 := by
  unfold hostPr
  rw [if_pos (by simp), if_pos]
  by_cases hs : s = []
  · left; rw [hs]; simp
  · right
    rw [List.getLast?_append, List.getLast?_eq_some_getLast hs] at *; simpa [List.getLast?_eq_some_getLast hs] using h
theorem text_inj {a b : List Nat} (ha : a.length = 8 ∧ ∀ n ∈ a, n < 65536) (hb : b.length = 8 ∧ ∀ n ∈ b, n < 65536) : ([91] ++ textP a ++ [93] : Bs) = [91] ++ textP b ++ [93] ↔ a = b := by
  refine ⟨fun h => ?_, fun h => by rw [h]⟩
  have h1 : textP a = textP b := by simpa using h
  have := six_back a ha.1 ha.2
  rw [h1, six_back b hb.1 hb.2] at this
  exact (Option.some.inj this).symm
theorem ip_six {a : List Nat} (ha : a.length = 8 ∧ ∀ n ∈ a, n < 65536) : ipP ([91] ++ textP a ++ [93]) = true := by
  unfold ipP
  rw [wrap_six a ha.1 ha.2 true]
  simp
/-- How often two colons stand beside each other. -/
def cols : Bs → Nat
  | [] => 0
  | [_] => 0
  | c :: d :: r => (if c == 58 && d == 58 then 1 else 0) + cols (d :: r)
theorem cols_one : ∀ l : Bs, oneCol l = true → cols l = 0
  | [], _ => rfl
  | [_], _ => rfl
  | c :: d :: r, h => by
    simp only [oneCol, Bool.and_eq_true] at h
    rw [cols, cols_one (d :: r) h.2]
    have : (c == 58 && d == 58) = false := by
      rw [Bool.eq_false_iff]; intro hh
      simp only [Bool.and_eq_true, beq_iff_eq] at hh
      have := h.1
      rw [hh.1, hh.2] at this; exact absurd this (by decide)
    rw [this]; rfl
theorem cols_app : ∀ (a b : Bs), cols (a ++ b) = cols a + cols b + (if a.getLast? = some 58 ∧ b.head? = some 58 then 1 else 0)
  | [], b => by simp [cols]
  | [c], [] => by simp [cols]
  | [c], d :: r => by
    show cols (c :: d :: r) = _
    rw [cols]
    by_cases h1 : c = 58 <;> by_cases h2 : d = 58 <;> simp [cols, h1, h2] <;> omega
  | c :: d :: r, b => by
    show cols (c :: d :: (r ++ b)) = _
    rw [cols, show (d :: (r ++ b) : Bs) = (d :: r) ++ b from rfl, cols_app (d :: r) b, cols, List.getLast?_cons_cons]
    omega
theorem oneCol_last : ∀ l : Bs, oneCol l = true → l.getLast? ≠ some 58
  | [], _ => by simp
  | [c], h => by simpa [oneCol] using h
  | c :: d :: r, h => by
    simp only [oneCol, Bool.and_eq_true] at h
    rw [List.getLast?_cons_cons]
    exact oneCol_last (d :: r) h.2
theorem text_cols (a : List Nat) : cols ([91] ++ textP a ++ [93]) ≤ 1 := by
  have hw : ∀ s : Bs, cols ([91] ++ s ++ [93]) = cols s := by
    intro s
    rw [cols_app, cols_app]
    simp [cols]
  rw [hw]
  unfold textP
  split
  · rw [cols_one _ (told_col a)]; omega
  · rw [cols_app, cols_app, cols_one _ (told_col _), cols_one _ (told_col _)]
    have h1 := oneCol_last _ (told_col (a.take (runP 0 a (0, 0)).1))
    have h2 := told_head (a.drop (runP 0 a (0, 0)).2)
    rw [if_neg (fun h => h1 h.1), if_neg (fun h => h2 h.2)]
    show 0 + cols [58, 58] + 0 + 0 + 0 ≤ 1
    decide
theorem told_small (l : List Nat) : ∀ c ∈ toldP l, (65 ≤ c && c ≤ 90) = false ∧ c ≠ 93 := by
  intro c hc
  unfold toldP at hc
  rcases joinP_mem hc with h | ⟨x, hx, h⟩
  · have : c = 58 := by simpa using h
    rw [this]; decide
  · obtain ⟨n, _, rfl⟩ := List.mem_map.1 hx
    have : ∀ c : UInt8, isHexD c = true → (65 ≤ c && c ≤ 90) = false ∧ c ≠ 93 := byte_all (by decide +kernel)
    exact this c (hexD_chars n c h)
theorem text_small (a : List Nat) : ∀ c ∈ ([91] ++ textP a ++ [93] : Bs), (65 ≤ c && c ≤ 90) = false := by
  intro c hc
  rcases List.mem_append.1 hc with hc | hc
  · rcases List.mem_append.1 hc with hc | hc
    · have : c = 91 := by simpa using hc
      rw [this]; decide
    · unfold textP at hc
      split at hc
      · exact (told_small _ c hc).1
      · rcases List.mem_append.1 hc with hc | hc
        · rcases List.mem_append.1 hc with hc | hc
          · exact (told_small _ c hc).1
          · have : c = 58 := by simpa using hc
            rw [this]; decide
        · exact (told_small _ c hc).1
  · have : c = 93 := by simpa using hc
    rw [this]; decide
theorem joinC_snoc : ∀ ls : List Bs, ls ≠ [] → ∀ x : Bs, joinP [58] (ls ++ [x]) = joinP [58] ls ++ [58] ++ x
  | [], h, _ => absurd rfl h
  | [y], _, x => rfl
  | y :: z :: r, _, x => by
    have := joinC_snoc (z :: r) (by simp) x
    show joinP [58] (y :: z :: (r ++ [x])) = _
    rw [joinP, show (z :: (r ++ [x]) : List Bs) = (z :: r) ++ [x] from rfl, this]
    simp [joinP]
theorem six_last (a : List Nat) (pad dots : Bool) : (sixT a pad dots).getLast? ≠ some 93 := by
  intro h
  have hm := List.mem_of_getLast? h
  unfold sixT at hm
  rcases joinP_mem hm with hm | ⟨x, hx, hc⟩
  · exact absurd hm (by decide)
  · unfold sixL at hx
    have hp : ∀ l : List Nat, ∀ x ∈ l.map (fun n => padP pad (hexD n)), (93 : UInt8) ∉ x := by
      intro l x hx hc
      obtain ⟨n, _, rfl⟩ := List.mem_map.1 hx
      exact absurd (pad_chars pad n 93 hc) (by decide)
    cases dots
    · exact hp _ x hx hc
    · rcases List.mem_append.1 hx with hx | hx
      · exact hp _ x hx hc
      · rw [List.mem_singleton] at hx
        rw [hx] at hc
        rcases dotted_chars _ _ hc with h | h
        · exact absurd h (by decide)
        · exact absurd h (by decide)
/-- A piece more. -/
theorem six_more {a : List Nat} (h8 : a.length = 8) (hl : ∀ n ∈ a, n < 65536) (pad dots : Bool) : hostPr ([91] ++ (sixT a pad dots ++ [58, 48]) ++ [93]) true = .er 72 := by
  have hno : sixP (sixT a pad dots ++ [58, 48]) = none := by
    unfold sixT
    have e : joinP [58] (sixL a pad dots) ++ [58, 48] = joinP [58] (sixL a pad dots ++ [[48]]) := by
      rw [joinC_snoc _ (sixL_ne h8 pad dots)]; simp
    rw [e, six_join (by simp) (by
      intro x hx
      rcases List.mem_append.1 hx with hx | hx
      · exact sixL_chars a pad dots x hx
      · rw [List.mem_singleton] at hx; rw [hx]; exact ⟨by simp, by intro c hc; simp at hc; rw [hc]; decide⟩)]
    unfold sixL
    cases dots
    · simp only [Bool.false_eq_true, if_false]
      rw [row_pad true pad a _ hl]
      have : rowP true [[48]] = some [0] := by decide +kernel
      rw [this]
      simp [h8]
    · simp only [if_true]
      rw [List.append_assoc, row_pad true pad (a.take 6) _ fun n hn => hl n (List.mem_of_mem_take hn)]
      have : ∀ x : Bs, 4 < x.length → rowP true ([x] ++ [[48]]) = none := by
        intro x hx
        show rowP true (x :: [[48]]) = none
        rw [rowP]
        have hp : pieceP x = none := by unfold pieceP; rw [if_pos (Or.inr hx)]
        simp [hp]
      rw [this]
      · rfl
      · generalize a.getD 6 0 / 256 = p
        generalize a.getD 6 0 % 256 = q
        generalize a.getD 7 0 / 256 = r
        generalize a.getD 7 0 % 256 = s
        unfold dottedP
        simp only [List.map_cons, List.map_nil, joinP, List.length_append, List.length_singleton]
        have := List.length_pos_iff.2 (dec_ne p)
        have := List.length_pos_iff.2 (dec_ne q)
        have := List.length_pos_iff.2 (dec_ne r)
        have := List.length_pos_iff.2 (dec_ne s)
        omega
  unfold hostPr
  rw [if_pos (by simp)]
  have h1 : ¬ (([91] ++ (sixT a pad dots ++ [58, 48]) ++ [93] : Bs).length < 2 ∨ ([91] ++ (sixT a pad dots ++ [58, 48]) ++ [93] : Bs).getLast? ≠ some 93) := by
    rw [List.getLast?_append]; simp
  rw [if_neg h1]
  have h2 : (([91] ++ (sixT a pad dots ++ [58, 48]) ++ [93] : Bs).drop 1).dropLast = sixT a pad dots ++ [58, 48] := by simp
  rw [h2, hno]; rfl
end Lz
