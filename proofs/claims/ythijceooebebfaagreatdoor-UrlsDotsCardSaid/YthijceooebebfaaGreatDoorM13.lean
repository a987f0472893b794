/-
  Plain laws on lists of bytes: triples, and letters in the other case; addresses of eight pieces, however they are written. No program in sight.
  hosts.domain, hosts.host, hosts.Parse, hosts.IP.
-/
import Derived.Test.YthijceooebebfaaGreatDoorM10
import Derived.Test.YthijceooebebfaaGreatDoorM12
namespace Lz
open Go

/-! ### HostsTriples -/
def flip1 (c : UInt8) (turn : Bool) : UInt8 := if turn && isAlpha c then c ^^^ 32 else c
/-- A byte, or its triple. -/
def tripC (c : UInt8) (tri turn : Bool) : Bs := if tri then [37, hex1 ((flip1 c turn).toNat / 16), hex1 ((flip1 c turn).toNat % 16)] else [flip1 c turn]
def tripT (tri turn : Nat → Bool) : Nat → Bs → Bs
  | _, [] => []
  | i, c :: r => tripC c (tri i) (turn i) ++ tripT tri turn (i + 1) r
def flipT (turn : Nat → Bool) : Nat → Bs → Bs
  | _, [] => []
  | i, c :: r => flip1 c (turn i) :: flipT turn (i + 1) r
theorem flip_byte : ∀ c : UInt8, (low1 (flip1 c true) = low1 c) ∧ ((c ≠ 37 → flip1 c true ≠ 37) ∧ (c ≠ 91 → flip1 c true ≠ 91)) := byte_all (by decide +kernel)
theorem flip_low (c : UInt8) (t : Bool) : low1 (flip1 c t) = low1 c := by
  cases t
  · rfl
  · exact (flip_byte c).1
theorem flip_37 {c : UInt8} (h : c ≠ 37) (t : Bool) : flip1 c t ≠ 37 := by
  cases t
  · exact h
  · exact (flip_byte c).2.1 h
theorem flip_91 {c : UInt8} (h : c ≠ 91) (t : Bool) : flip1 c t ≠ 91 := by
  cases t
  · exact h
  · exact (flip_byte c).2.2 h
theorem triple_hit : ∀ c : UInt8, tripleP [37, hex1 (c.toNat / 16), hex1 (c.toNat % 16)] = some c := byte_all (by decide +kernel)
theorem triple_cons (c : UInt8) (r : Bs) : tripleP (37 :: hex1 (c.toNat / 16) :: hex1 (c.toNat % 16) :: r) = some c := by
  have := triple_hit c
  unfold tripleP at this ⊢
  exact this
theorem trip_decode (tri turn : Nat → Bool) : ∀ (s : Bs) (i : Nat), (∀ c ∈ s, c ≠ 37) → decodeP (tripT tri turn i s) = flipT turn i s
  | [], i, _ => by rw [tripT, decodeP, flipT]
  | c :: r, i, h => by
    have ih := trip_decode tri turn r (i + 1) (fun x hx => h x (by simp [hx]))
    have hc := h c (by simp)
    rw [tripT, flipT, tripC]
    cases tri i
    · simp only [Bool.false_eq_true, if_false, List.singleton_append]
      exact decode_cons (triple_not (flip_37 hc _) _) ih
    · simp only [if_true, List.cons_append, List.nil_append]
      rw [decodeP, triple_cons]
      simp only [List.drop_succ_cons, List.drop_zero, ih]
theorem flip_lowT (turn : Nat → Bool) : ∀ (s : Bs) (i : Nat), low (flipT turn i s) = low s
  | [], _ => rfl
  | c :: r, i => by
    have ih := flip_lowT turn r (i + 1)
    show low1 (flip1 c (turn i)) :: low (flipT turn (i + 1) r) = low1 c :: low r
    rw [flip_low, ih]
theorem trip_head (tri turn : Nat → Bool) (i : Nat) (s : Bs) (h : s[0]? ≠ some 91) : (tripT tri turn i s)[0]? ≠ some 91 := by
  cases s with
  | nil => exact h
  | cons c r =>
    have hc : c ≠ 91 := by simpa using h
    rw [tripT, tripC]
    cases tri i
    · simpa using flip_91 hc _
    · simp
theorem trip_says (tri turn : Nat → Bool) (s : Bs) (h91 : s[0]? ≠ some 91) (h37 : ∀ c ∈ s, c ≠ 37) : hostPr (tripT tri turn 0 s) true = hostPr s true := by
  unfold hostPr
  rw [if_neg (trip_head tri turn 0 s h91), if_neg h91, if_pos rfl, if_pos rfl]
  unfold domainP
  rw [trip_decode tri turn s 0 h37, flip_lowT, decode_free s h37]

/-! ### HostsSix -/
/-- Digits, of four at least if these are needless. -/
def padP (pad : Bool) (x : Bs) : Bs := if pad then List.replicate (4 - x.length) 48 ++ x else x
theorem piece_pad {n : Nat} (h : n < 65536) (pad : Bool) : pieceP (padP pad (hexD n)) = some n := by
  cases pad
  · exact piece_hexD h
  · have hl := hexD_len 3 n (by simpa using h)
    have hne := hexD_ne n
    unfold padP
    simp only [if_true]
    unfold pieceP
    rw [if_neg]
    · have hz : ∀ k, (List.replicate k (48 : UInt8) ++ hexD n).foldlM hexF 0 = some n := by
        intro k
        induction k with
        | zero => exact hexD_fold n
        | succ k ih =>
          rw [List.replicate_succ, List.cons_append, List.foldlM_cons, hexF, show hexV 48 = some 0 from rfl]
          exact ih
      exact hz _
    · rintro (h1 | h1)
      · exact hne (List.append_eq_nil_iff.1 h1).2
      · rw [List.length_append, List.length_replicate] at h1; omega
theorem pad_chars (pad : Bool) (n : Nat) : ∀ c ∈ padP pad (hexD n), isHexD c = true := by
  unfold padP
  cases pad
  · exact hexD_chars n
  · intro c hc
    simp only [if_true] at hc
    rcases List.mem_append.1 hc with hc | hc
    · rw [(List.mem_replicate.1 hc).2]; rfl
    · exact hexD_chars n c hc
theorem pad_ne (pad : Bool) (n : Nat) : padP pad (hexD n) ≠ [] := by
  unfold padP
  cases pad
  · exact hexD_ne n
  · simp only [if_true]; intro h; exact hexD_ne n (List.append_eq_nil_iff.1 h).2
/-- What stands between colons. -/
def sixL (a : List Nat) (pad dots : Bool) : List Bs :=
  if dots then (a.take 6).map (fun n => padP pad (hexD n)) ++ [dottedP [a.getD 6 0 / 256, a.getD 6 0 % 256, a.getD 7 0 / 256, a.getD 7 0 % 256]]
  else a.map fun n => padP pad (hexD n)
def sixT (a : List Nat) (pad dots : Bool) : Bs := joinP [58] (sixL a pad dots)
theorem row_app (last : Bool) : ∀ (l : List Nat) (xs r : List Bs), xs.length = l.length → (∀ (i : Nat) (x : Bs) (n : Nat), xs[i]? = some x → l[i]? = some n → x.contains 46 = false ∧ pieceP x = some n) → rowP last (xs ++ r) = (rowP last r).map (l ++ ·)
  | [], [], r, _, _ => by simp
  | [], _ :: _, r, h, _ => by simp at h
  | _ :: _, [], r, h, _ => by simp at h
  | n :: l, x :: xs, r, h, hp => by
    obtain ⟨h1, h2⟩ := hp 0 x n rfl rfl
    rw [List.cons_append, rowP, h1, h2, row_app last l xs r (by simpa using h) (fun i y m hy hm => hp (i + 1) y m (by simpa using hy) (by simpa using hm))]
    simp only [Bool.and_false, Bool.false_eq_true, if_false]
    cases rowP last r <;> simp
theorem row_pad (last : Bool) (pad : Bool) (l : List Nat) (r : List Bs) (hl : ∀ n ∈ l, n < 65536) : rowP last (l.map (fun n => padP pad (hexD n)) ++ r) = (rowP last r).map (l ++ ·) := by
  refine row_app last l _ r (by simp) ?_
  intro i x n hx hn
  rw [List.getElem?_map, hn] at hx
  have hx : padP pad (hexD n) = x := Option.some.inj hx
  rw [← hx]
  refine ⟨?_, piece_pad (hl n (List.mem_of_getElem? hn)) pad⟩
  rw [Bool.eq_false_iff]; intro hc
  exact (isHexD_not 46 (pad_chars pad n 46 (List.contains_iff_mem.1 hc))).2 rfl
theorem byte_dec1 : ∀ n : Fin 256, byteP (Lib.decDigits n.val) = some n.val := by decide +kernel
theorem byte_dec {n : Nat} (h : n < 256) : byteP (Lib.decDigits n) = some n := byte_dec1 ⟨n, h⟩
theorem bytes_dotted {p q r s : Nat} (hp : p < 256) (hq : q < 256) (hr : r < 256) (hs : s < 256) : bytesP (dottedP [p, q, r, s]) = some [p, q, r, s] := by
  unfold bytesP
  rw [dotted_split (by simp)]
  simp only [List.map_cons, List.map_nil, List.mapM_cons, List.mapM_nil, byte_dec hp, byte_dec hq, byte_dec hr, byte_dec hs]
  rfl
theorem dotted_has (p : Nat) (q : Nat) (r : List Nat) : (dottedP (p :: q :: r)).contains 46 = true := by
  rw [List.contains_iff_mem]
  unfold dottedP
  rw [List.map_cons, List.map_cons, joinP]
  simp
theorem sixL_ne {a : List Nat} (h8 : a.length = 8) (pad dots : Bool) : sixL a pad dots ≠ [] := by
  unfold sixL
  cases dots
  · intro h; have := congrArg List.length h; simp [h8] at this
  · simp
theorem sixL_chars (a : List Nat) (pad dots : Bool) : ∀ x ∈ sixL a pad dots, x ≠ [] ∧ ∀ c ∈ x, c ≠ 58 := by
  have hp : ∀ l : List Nat, ∀ x ∈ l.map (fun n => padP pad (hexD n)), x ≠ [] ∧ ∀ c ∈ x, c ≠ 58 := by
    intro l x hx
    obtain ⟨n, _, rfl⟩ := List.mem_map.1 hx
    exact ⟨pad_ne pad n, fun c hc => (isHexD_not c (pad_chars pad n c hc)).1⟩
  unfold sixL
  intro x hx
  cases dots
  · exact hp _ x hx
  · rcases List.mem_append.1 hx with hx | hx
    · exact hp _ x hx
    · rw [List.mem_singleton] at hx
      rw [hx]
      refine ⟨?_, fun c hc => ?_⟩
      · unfold dottedP
        exact joinP_ne (by simp) (by intro x hx; obtain ⟨n, _, rfl⟩ := List.mem_map.1 hx; exact dec_ne n)
      · rcases dotted_chars _ c hc with h | rfl
        · exact (dig_not c h).2.1
        · decide
theorem join_head {ls : List Bs} (h : ∀ x ∈ ls, x ≠ [] ∧ ∀ c ∈ x, c ≠ 58) : (joinP [58] ls).head? ≠ some 58 := by
  cases ls with
  | nil => simp [joinP]
  | cons x r =>
    have hx := h x (by simp)
    cases hxx : x with
    | nil => exact absurd hxx hx.1
    | cons c y =>
      have hc := hx.2 c (by rw [hxx]; simp)
      cases r with
      | nil => simp [joinP]; exact hc
      | cons z r => simp [joinP]; exact hc
theorem join_col : ∀ ls : List Bs, (∀ x ∈ ls, x ≠ [] ∧ ∀ c ∈ x, c ≠ 58) → oneCol (joinP [58] ls) = true
  | [], _ => rfl
  | [x], h => by
    have := oneCol_app x [] (h x (by simp)).2 (h x (by simp)).1 rfl (by simp)
    rw [List.append_nil] at this
    exact this
  | x :: y :: r, h => by
    rw [joinP, List.append_assoc, List.singleton_append]
    exact oneCol_sep _ _ (h x (by simp)).2 (h x (by simp)).1 (join_col (y :: r) fun z hz => h z (by simp [hz])) (joinP_ne (by simp) fun z hz => (h z (by simp [hz])).1) (join_head fun z hz => h z (by simp [hz]))
/-- What is written with colons, no two of them beside each other. -/
theorem six_join {ls : List Bs} (hne : ls ≠ []) (h : ∀ x ∈ ls, x ≠ [] ∧ ∀ c ∈ x, c ≠ 58) : sixP (joinP [58] ls) = (rowP true ls).bind fun l => if l.length = 8 then some l else none := by
  have hn : joinP [58] ls ≠ [] := joinP_ne hne fun x hx => (h x hx).1
  have he : (joinP [58] ls).isEmpty = false := by rw [List.isEmpty_eq_false_iff]; exact hn
  unfold sixP
  rw [cut_miss _ _ (index_oneCol_none _ (join_col ls h))]
  have hr : rowS (joinP [58] ls) true = rowP true ls := by
    unfold rowS
    rw [if_neg hn, splitC_join 58 ls hne fun x hx => (h x hx).2]
  simp only [he, Bool.not_false, hr, show rowS [] true = some [] from rfl, Lib.hasPrefix]
  cases rowP true ls with
  | none => simp
  | some l => simp
theorem six_written {a : List Nat} (h8 : a.length = 8) (hl : ∀ n ∈ a, n < 65536) (pad dots : Bool) : sixP (sixT a pad dots) = some a := by
  unfold sixT
  rw [six_join (sixL_ne h8 pad dots) (sixL_chars a pad dots)]
  have : rowP true (sixL a pad dots) = some a := by
    unfold sixL
    cases dots
    · have := row_pad true pad a [] hl
      rw [List.append_nil] at this
      simp only [Bool.false_eq_true, if_false]
      rw [this]; simp [rowP]
    · simp only [if_true]
      rw [row_pad true pad (a.take 6) _ fun n hn => hl n (List.mem_of_mem_take hn)]
      obtain ⟨p, hp⟩ : ∃ p, a[6]? = some p := ⟨_, List.getElem?_eq_getElem (by omega)⟩
      obtain ⟨q, hq⟩ : ∃ q, a[7]? = some q := ⟨_, List.getElem?_eq_getElem (by omega)⟩
      have hpl := hl p (List.mem_of_getElem? hp)
      have hql := hl q (List.mem_of_getElem? hq)
      rw [List.getD_eq_getElem?_getD, List.getD_eq_getElem?_getD, hp, hq]
      simp only [Option.getD_some]
      rw [rowP, dotted_has, bytes_dotted (by omega) (by omega) (by omega) (by omega)]
      simp only [List.isEmpty_nil, Bool.and_true, if_true, Option.map_some, List.getD_cons_zero, List.getD_cons_succ]
      rw [show p / 256 * 256 + p % 256 = p by omega, show q / 256 * 256 + q % 256 = q by omega]
      congr 1
      have ha : a = a.take 6 ++ a.drop 6 := (List.take_append_drop 6 a).symm
      have hd : a.drop 6 = [p, q] := by
        rw [List.drop_eq_getElem_cons (by omega), List.drop_eq_getElem_cons (by omega), List.drop_eq_nil_of_le (by omega)]
        rw [List.getElem?_eq_getElem (by omega)] at hp hq
        rw [Option.some.inj hp, Option.some.inj hq]
      rw [← hd]; exact ha.symm
  rw [this]
  simp [h8]
theorem six_host {s : Bs} {a : List Nat} (h : sixP s = some a) (special : Bool) : hostPr ([91] ++ s ++ [93]) special = .ok ([91] ++ textP a ++ [93]) := by
  unfold hostPr
  rw [if_pos (by simp)]
  have h1 : ¬ (([91] ++ s ++ [93] : Bs).length < 2 ∨ ([91] ++ s ++ [93] : Bs).getLast? ≠ some 93) := by
    rw [List.getLast?_append]; simp
  rw [if_neg h1]
  have h2 : (([91] ++ s ++ [93] : Bs).drop 1).dropLast = s := by simp
  rw [h2, h]; rfl
theorem six_open {s : Bs} (h : s.getLast? ≠ some 93) : hostPr ([91] ++ s) true = .er 72 := by
  unfold hostPr
  rw [if_pos (by simp), if_pos]
  by_cases hs : s = []
  · left; rw [hs]; simp
  · right
    rw [List.getLast?_append, List.getLast?_eq_some_getLast hs] at *; simpa [List.getLast?_eq_some_getLast hs] using h
theorem text_inj {a b : List Nat} (ha : a.length = 8 ∧ ∀ n ∈ a, n < 65536) (hb : b.length = 8 ∧ ∀ n ∈ b, n < 65536) : ([91] ++ textP a ++ [93] : Bs) = [91] ++ textP b ++ [93] ↔ a = b := by
  refine ⟨fun h => ?_, fun h => by rw [h]⟩
  have h1 : textP a = textP b := by simpa using h
  have := six_back a ha.1 ha.2
  rw [h1, six_back b hb.1 hb.2] at this
  exact (Option.some.inj this).symm
theorem ip_six {a : List Nat} (ha : a.length = 8 ∧ ∀ n ∈ a, n < 65536) : ipP ([91] ++ textP a ++ [93]) = true := by
  unfold ipP
  rw [wrap_six a ha.1 ha.2 true]
  simp
/-- How often two colons stand beside each other. -/
def cols : Bs → Nat
  | [] => 0
  | [_] => 0
  | c :: d :: r => (if c == 58 && d == 58 then 1 else 0) + cols (d :: r)
theorem cols_one : ∀ l : Bs, oneCol l = true → cols l = 0
  | [], _ => rfl
  | [_], _ => rfl
  | c :: d :: r, h => by
    simp only [oneCol, Bool.and_eq_true] at h
    rw [cols, cols_one (d :: r) h.2]
    have : (c == 58 && d == 58) = false := by
      rw [Bool.eq_false_iff]; intro hh
      simp only [Bool.and_eq_true, beq_iff_eq] at hh
      have := h.1
      rw [hh.1, hh.2] at this; exact absurd this (by decide)
    rw [this]; rfl
theorem cols_app : ∀ (a b : Bs), cols (a ++ b) = cols a + cols b + (if a.getLast? = some 58 ∧ b.head? = some 58 then 1 else 0)
  | [], b => by simp [cols]
  | [c], [] => by simp [cols]
  | [c], d :: r => by
    show cols (c :: d :: r) = _
    rw [cols]
    by_cases h1 : c = 58 <;> by_cases h2 : d = 58 <;> simp [cols, h1, h2] <;> omega
  | c :: d :: r, b => by
    show cols (c :: d :: (r ++ b)) = _
    rw [cols, show (d :: (r ++ b) : Bs) = (d :: r) ++ b from rfl, cols_app (d :: r) b, cols, List.getLast?_cons_cons]
    omega
theorem oneCol_last : ∀ l : Bs, oneCol l = true → l.getLast? ≠ some 58
  | [], _ => by simp
  | [c], h => by simpa [oneCol] using h
  | c :: d :: r, h => by
    simp only [oneCol, Bool.and_eq_true] at h
    rw [List.getLast?_cons_cons]
    exact oneCol_last (d :: r) h.2
theorem text_cols (a : List Nat) : cols ([91] ++ textP a ++ [93]) ≤ 1 := by
  have hw : ∀ s : Bs, cols ([91] ++ s ++ [93]) = cols s := by
    intro s
    rw [cols_app, cols_app]
    simp [cols]
  rw [hw]
  unfold textP
  split
  · rw [cols_one _ (told_col a)]; omega
  · rw [cols_app, cols_app, cols_one _ (told_col _), cols_one _ (told_col _)]
    have h1 := oneCol_last _ (told_col (a.take (runP 0 a (0, 0)).1))
    have h2 := told_head (a.drop (runP 0 a (0, 0)).2)
    rw [if_neg (fun h => h1 h.1), if_neg (fun h => h2 h.2)]
    show 0 + cols [58, 58] + 0 + 0 + 0 ≤ 1
    decide
theorem told_small (l : List Nat) : ∀ c ∈ toldP l, (65 ≤ c && c ≤ 90) = false ∧ c ≠ 93 := by
  intro c hc
  unfold toldP at hc
  rcases joinP_mem hc with h | ⟨x, hx, h⟩
  · have : c = 58 := by simpa using h
    rw [this]; decide
  · obtain ⟨n, _, rfl⟩ := List.mem_map.1 hx
    have : ∀ c : UInt8, isHexD c = true → (65 ≤ c && c ≤ 90) = false ∧ c ≠ 93 := byte_all (by decide +kernel)
    exact this c (hexD_chars n c h)
theorem text_small (a : List Nat) : ∀ c ∈ ([91] ++ textP a ++ [93] : Bs), (65 ≤ c && c ≤ 90) = false := by
  intro c hc
  rcases List.mem_append.1 hc with hc | hc
  · rcases List.mem_append.1 hc with hc | hc
    · have : c = 91 := by simpa using hc
      rw [this]; decide
    · unfold textP at hc
      split at hc
      · exact (told_small _ c hc).1
      · rcases List.mem_append.1 hc with hc | hc
        · rcases List.mem_append.1 hc with hc | hc
          · exact (told_small _ c hc).1
          · have : c = 58 := by simpa using hc
            rw [this]; decide
        · exact (told_small _ c hc).1
  · have : c = 93 := by simpa using hc
    rw [this]; decide
theorem joinC_snoc : ∀ ls : List Bs, ls ≠ [] → ∀ x : Bs, joinP [58] (ls ++ [x]) = joinP [58] ls ++ [58] ++ x
  | [], h, _ => absurd rfl h
  | [y], _, x => rfl
  | y :: z :: r, _, x => by
    have := joinC_snoc (z :: r) (by simp) x
    show joinP [58] (y :: z :: (r ++ [x])) = _
    rw [joinP, show (z :: (r ++ [x]) : List Bs) = (z :: r) ++ [x] from rfl, this]
    simp [joinP]
theorem six_last (a : List Nat) (pad dots : Bool) : (sixT a pad dots).getLast? ≠ some 93 := by
  intro h
  have hm := List.mem_of_getLast? h
  unfold sixT at hm
  rcases joinP_mem hm with hm | ⟨x, hx, hc⟩
  · exact absurd hm (by decide)
  · unfold sixL at hx
    have hp : ∀ l : List Nat, ∀ x ∈ l.map (fun n => padP pad (hexD n)), (93 : UInt8) ∉ x := by
      intro l x hx hc
      obtain ⟨n, _, rfl⟩ := List.mem_map.1 hx
      exact absurd (pad_chars pad n 93 hc) (by decide)
    cases dots
    · exact hp _ x hx hc
    · rcases List.mem_append.1 hx with hx | hx
      · exact hp _ x hx hc
      · rw [List.mem_singleton] at hx
        rw [hx] at hc
        rcases dotted_chars _ _ hc with h | h
        · exact absurd h (by decide)
        · exact absurd h (by decide)
/-- A piece more. -/
theorem six_more {a : List Nat} (h8 : a.length = 8) (hl : ∀ n ∈ a, n < 65536) (pad dots : Bool) : hostPr ([91] ++ (sixT a pad dots ++ [58, 48]) ++ [93]) true = .er 72 := by
  have hno : sixP (sixT a pad dots ++ [58, 48]) = none := by
    unfold sixT
    have e : joinP [58] (sixL a pad dots) ++ [58, 48] = joinP [58] (sixL a pad dots ++ [[48]]) := by
      rw [joinC_snoc _ (sixL_ne h8 pad dots)]; simp
    rw [e, six_join (by simp) (by
      intro x hx
      rcases List.mem_append.1 hx with hx | hx
      · exact sixL_chars a pad dots x hx
      · rw [List.mem_singleton] at hx; rw [hx]; exact ⟨by simp, by intro c hc; simp at hc; rw [hc]; decide⟩)]
    unfold sixL
    cases dots
    · simp only [Bool.false_eq_true, if_false]
      rw [row_pad true pad a _ hl]
      have : rowP true [[48]] = some [0] := by decide +kernel
      rw [this]
      simp [h8]
    · simp only [if_true]
      rw [List.append_assoc, row_pad true pad (a.take 6) _ fun n hn => hl n (List.mem_of_mem_take hn)]
      have : ∀ x : Bs, 4 < x.length → rowP true ([x] ++ [[48]]) = none := by
        intro x hx
        show rowP true (x :: [[48]]) = none
        rw [rowP]
        have hp : pieceP x = none := by unfold pieceP; rw [if_pos (Or.inr hx)]
        simp [hp]
      rw [this]
      · rfl
      · generalize a.getD 6 0 / 256 = p
        generalize a.getD 6 0 % 256 = q
        generalize a.getD 7 0 / 256 = r
        generalize a.getD 7 0 % 256 = s
        unfold dottedP
        simp only [List.map_cons, List.map_nil, joinP, List.length_append, List.length_singleton]
        have := List.length_pos_iff.2 (dec_ne p)
        have := List.length_pos_iff.2 (dec_ne q)
        have := List.length_pos_iff.2 (dec_ne r)
        have := List.length_pos_iff.2 (dec_ne s)
        omega
  unfold hostPr
  rw [if_pos (by simp)]
  have h1 : ¬ (([91] ++ (sixT a pad dots ++ [58, 48]) ++ [93] : Bs).length < 2 ∨ ([91] ++ (sixT a pad dots ++ [58, 48]) ++ [93] : Bs).getLast? ≠ some 93) := by
    rw [List.getLast?_append]; simp
  rw [if_neg h1]
  have h2 : (([91] ++ (sixT a pad dots ++ [58, 48]) ++ [93] : Bs).drop 1).dropLast = sixT a pad dots ++ [58, 48] := by simp
  rw [h2, hno]; rfl
end Lz

namespace Go.Proofs.YthijceooebebfaaGreatDoor
open Go.RowKit

/-- A text, or an error. -/
def RHost (r : Lz.Res) (w : World) (e : Ending) (w' : World) : Prop :=
  Below w.heap.size w w' ∧ match r with
    | .ok t => ∃ u : ByteArray, e = .returned (.tuple #[.string u, .nilIface]) ∧ Hid (u.data.toList = t)
    | .er n => ∃ v d, d ≤ 2 ∧ e = .returned (.tuple #[.string ⟨#[]⟩, v]) ∧ Faulty w' (n : Int) d v
theorem rhost_new {w wx : World} {s : ByteArray} {n : Nat} {v : Value} {d : Nat} {t : TypeId} {fr : Nat × Nat} (hb : Below w.heap.size w wx) (hv : Faulty wx (n : Int) d v) (hd : d ≤ 1) :
    RHost (.er n) w (.returned (.tuple #[.string ⟨#[]⟩, .iface 211 (.pointer (some ⟨wx.heap.size, 0, none⟩))])) (wx.alloc (.cells #[.string s, v] t fr)) :=
  ⟨hb.alloc hb.size _, _, _, Nat.succ_le_succ hd, rfl, faulty_alloc hv⟩

theorem decode_len : ∀ l : List UInt8, (Lz.decodeP l).length ≤ l.length := by
  intro l
  induction h : l.length using Nat.strongRecOn generalizing l with
  | ind n ih =>
    cases l with
    | nil => rw [Lz.decodeP]; simp
    | cons c r =>
      rw [Lz.decodeP]
      simp only [List.length_cons] at h
      split
      · have := ih (r.drop 2).length (by simp; omega) (r.drop 2) rfl
        simp at this ⊢; omega
      · have := ih r.length (by omega) r rfl
        simp; omega

set_option maxHeartbeats 1000000 in
set_option maxRecDepth 100000 in
theorem domain_any (s : ByteArray) (hs : s.size ≤ 900000) (w : World) (hE : EnvH w) : Calls Tryz.prog 172 #[.string s] w (RHost (Lz.domainP s.data.toList) w) := by
  have hdl := decode_len s.data.toList
  rw [len_of_size] at hdl
  have HP : Hid (Lz.domainP s.data.toList = if Lz.low (Lz.decodeP s.data.toList) = [] ∨ (Lz.low (Lz.decodeP s.data.toList)).any Lz.oddB = true then .er 70 else if Lz.numberedP (Lz.low (Lz.decodeP s.data.toList)) then Lz.ofO 71 (Lz.fourP (Lz.labelsP (Lz.low (Lz.decodeP s.data.toList)))) else .ok (Lz.low (Lz.decodeP s.data.toList))) := Lib.hid rfl
  have Hdl := Lib.hid hdl
  clear hdl
  go_enter Tryz.func172, Tryz.ntmps172
  go_wp2_with fail
  refine (Decode_any s (by omega) _).mono ?_
  rintro e w1 ⟨d0, rfl, hd0, hb1⟩
  have hd0z : d0.size ≤ s.size := by rw [← len_of_size d0, hd0.out]; exact Hdl.out
  go_wp2_with fail
  refine (Lower_c d0 (by omega) _).mono ?_
  rintro e w2 ⟨d, rfl, hd, hb2⟩
  have hdz : d.size ≤ s.size := by rw [← len_of_size d, hd.out, low_length, len_of_size]; exact hd0z
  have HQ : Hid (Lz.domainP s.data.toList = if d.data.toList = [] ∨ d.data.toList.any Lz.oddB = true then .er 70 else if Lz.numberedP d.data.toList then Lz.ofO 71 (Lz.fourP (Lz.labelsP d.data.toList)) else .ok d.data.toList) := by
    show _ = _
    rw [HP.out, hd.out, hd0.out]
  have hx2 := below_call hb1 hb2
  clear HP Hdl hd0 hd hb1 hb2
  go_wp2_with fail
  refine (IndexFunc_dom d _).mono ?_
  rintro e w3 ⟨i, rfl, hi, hb3⟩
  have hx3 := below_call hx2 hb3
  by_cases hbad : d.data.toList = [] ∨ d.data.toList.any Lz.oddB = true
  · have HN : Hid (Lz.domainP s.data.toList = .er 70) := by show _ = _; rw [HQ.out, if_pos hbad]
    by_cases hz : d.size = 0
    · have he := isEmpty_of_size hz
      clear hbad HQ
      go_wp2
      go_ret2
      rw [HN.out]
      exact rhost_new (d := 0) hx3 rfl (by omega)
    · have he := isEmpty_of_pos (s := d) (by omega)
      have hi0 : 0 ≤ i := by
        have h1 := hi.out
        rcases hbad with h | h
        · exact absurd (by rw [← len_of_size, h]; rfl) hz
        · rw [h] at h1; exact of_decide_eq_true h1
      clear hbad HQ
      go_wp2
      go_ret2
      rw [HN.out]
      exact rhost_new (d := 0) hx3 rfl (by omega)
  · have hne : d.data.toList ≠ [] := fun h => hbad (Or.inl h)
    have hdpos : 0 < d.size := by rw [← len_of_size]; exact List.length_pos_iff.2 hne
    have he := isEmpty_of_pos hdpos
    have hi0 : ¬ 0 ≤ i := by
      intro h
      have h1 := hi.out
      rw [decide_eq_true h] at h1
      exact hbad (Or.inr h1.symm)
    have HQ2 : Hid (Lz.domainP s.data.toList = if Lz.numberedP d.data.toList then Lz.ofO 71 (Lz.fourP (Lz.labelsP d.data.toList)) else .ok d.data.toList) := by
      show _ = _; rw [HQ.out, if_neg hbad]
    have cN := numbered_any d (by omega) w3 (hE.below hx3)
    generalize Lz.numberedP d.data.toList = nb at cN HQ2
    have CN := Lib.hid cN
    clear hbad hne HQ cN
    go_wp2_with fail
    refine (CN.out).mono ?_
    rintro e w4 ⟨rfl, hb4⟩
    have hx4 := below_call hx3 hb4
    cases nb
    · have HN : Hid (Lz.domainP s.data.toList = .ok d.data.toList) := by show _ = _; rw [HQ2.out]; rfl
      go_wp2
      go_ret2
      rw [HN.out]
      exact ⟨hx4, d, rfl, Lib.hid rfl⟩
    · have HN : Hid (Lz.domainP s.data.toList = Lz.ofO 71 (Lz.fourP (Lz.labelsP d.data.toList))) := by show _ = _; rw [HQ2.out]; rfl
      go_wp2_with fail
      refine (labels_any d (by omega) _ (hE.below hx4)).mono ?_
      rintro e w5 ⟨xs, b, cap, rfl, hcap, hpos, hlen, hls, hsz, hT, hb5⟩
      have hx5 := below_call hx4 hb5
      have cF := four_any b cap xs hpos (by omega) (fun x hx => by have := hsz x hx; omega) w5 (hE.below hx5) hT
      have HN2 : Hid (Lz.domainP s.data.toList = Lz.ofO 71 (Lz.fourP (xs.map (·.data.toList)))) := by show _ = _; rw [HN.out, hls.out]
      generalize Lz.fourP (xs.map (·.data.toList)) = o at cF HN2
      have CF := Lib.hid cF
      clear cF hsz hT hls HN HQ2 hpos hlen hcap hb5
      go_wp2_with fail
      refine (CF.out).mono ?_
      rintro e w6 ⟨hb6, hres⟩
      have hx6 := below_call hx5 hb6
      cases o with
      | none =>
        obtain ⟨v, dd, hdd, rfl, hfy⟩ := hres
        have Hfy := Lib.hid hfy
        clear hfy
        go_wp2
        go_ret2
        rw [HN2.out]
        exact ⟨hx6, v, dd, hdd, rfl, Hfy.out⟩
      | some t =>
        obtain ⟨u, rfl, hu⟩ := hres
        go_wp2
        go_ret2
        rw [HN2.out]
        exact ⟨hx6, u, rfl, hu⟩

/-- What strings.ContainsAny says of a text. -/
def CAny (s : ByteArray) : Prop := ∀ W, EnvH W → Calls Tryz.prog 173 #[.string s, .string bannedB] W (RBool (s.data.toList.any Lz.banned.contains) W)
theorem moreP0 : Lz.moreP 0 = [] := rfl
theorem hasPrefix_head (s : List UInt8) (c : UInt8) : Lib.hasPrefix s [c] = decide (s[0]? = some c) := by
  unfold Lib.hasPrefix
  cases s with
  | nil => rfl
  | cons b r =>
    rw [Lz.isPrefix_one]
    by_cases h : c = b
    · rw [h]; simp
    · have h1 : (c == b) = false := beq_eq_false_iff_ne.2 h
      rw [h1, decide_eq_false]
      intro h2; exact h (Option.some.inj h2).symm

theorem text_len (a : List Nat) (h8 : a.length = 8) (hl : ∀ n ∈ a, n < 65536) : (Lz.textP a).length ≤ 100 := by
  unfold Lz.textP
  have h1 := told_len a hl (by omega)
  have h2 := told_len (a.take (Lz.runP 0 a (0, 0)).1) (fun n hn => hl n (List.mem_of_mem_take hn)) (by rw [List.length_take]; omega)
  have h3 := told_len (a.drop (Lz.runP 0 a (0, 0)).2) (fun n hn => hl n (List.mem_of_mem_drop hn)) (by rw [List.length_drop]; omega)
  split
  · omega
  · rw [List.length_append, List.length_append]; show _ + 2 + _ ≤ _; omega

set_option maxHeartbeats 1000000 in
set_option maxRecDepth 100000 in
theorem hostH_any (s : ByteArray) (special : Bool) (hs : s.size ≤ 900000) (hca : special = false → s.data.toList[0]? ≠ some 91 → CAny s) (w : World) (hE : EnvH w) : Calls Tryz.prog 159 #[.string s, .bool special] w (RHost (Lz.hostPr s.data.toList special) w) := by
  obtain ⟨q, hq⟩ : ∃ q, q = decide (s.data.toList[0]? = some 91) := ⟨_, rfl⟩
  have cP := fun W => HasPrefix_c s ⟨#[91]⟩ W
  rw [show Lib.hasPrefix s.data.toList (ByteArray.data ⟨#[91]⟩).toList = q by rw [hq]; exact hasPrefix_head _ _] at cP
  have CP := Lib.hid cP
  have Hq := Lib.hid hq
  have Hca := Lib.hid hca
  clear cP hq hca
  cases q
  · have h91 : s.data.toList[0]? ≠ some 91 := of_decide_eq_false Hq.out.symm
    cases special
    · have HP : Hid (Lz.hostPr s.data.toList false = if s.data.toList.any Lz.banned.contains then .er 70 else .ok (Lz.encodeP [] s.data.toList)) := by
        show _ = _
        unfold Lz.hostPr; rw [if_neg h91]; rfl
      have cA := Hca.out rfl h91
      unfold CAny at cA
      generalize s.data.toList.any Lz.banned.contains = bad at cA HP
      have CA := Lib.hid cA
      clear cA h91
      go_enter Tryz.func159, Tryz.ntmps159
      go_wp2_with fail
      refine (CP.out _).mono ?_
      rintro e w' ⟨rfl, rfl⟩
      go_wp2_with fail
      refine (CA.out _ hE).mono ?_
      rintro e w1 ⟨rfl, hb1⟩
      cases bad
      · have HN : Hid (Lz.hostPr s.data.toList false = .ok (Lz.encodeP [] s.data.toList)) := by show _ = _; rw [HP.out]; rfl
        go_wp2_with fail
        refine (Encode_any 0 (by omega) s (by omega) _).mono ?_
        rintro e w2 ⟨u, rfl, hu, hb2⟩
        go_wp2
        go_ret2
        rw [HN.out]
        exact ⟨below_call hb1 hb2, u, rfl, Lib.hid (by rw [hu.out, moreP0])⟩
      · have HN : Hid (Lz.hostPr s.data.toList false = .er 70) := by show _ = _; rw [HP.out]; rfl
        go_wp2
        go_ret2
        rw [HN.out]
        exact rhost_new (d := 0) hb1 rfl (by omega)
    · have HP : Hid (Lz.hostPr s.data.toList true = Lz.domainP s.data.toList) := by
        show _ = _
        unfold Lz.hostPr; rw [if_neg h91]; rfl
      have cD := domain_any s hs w hE
      generalize Lz.domainP s.data.toList = r at cD HP
      have CD := Lib.hid cD
      clear cD h91
      go_enter Tryz.func159, Tryz.ntmps159
      go_wp2_with fail
      refine (CP.out _).mono ?_
      rintro e w' ⟨rfl, rfl⟩
      go_wp2_with fail
      refine (CD.out).mono ?_
      rintro e w1 ⟨hb1, hres⟩
      cases r with
      | ok t =>
        obtain ⟨u, rfl, hu⟩ := hres
        go_wp2
        go_ret2
        rw [HP.out]
        exact ⟨hb1, u, rfl, hu⟩
      | er n =>
        obtain ⟨v, dd, hdd, rfl, hfy⟩ := hres
        have Hfy := Lib.hid hfy
        clear hfy
        go_wp2
        go_ret2
        rw [HP.out]
        exact ⟨hb1, v, dd, hdd, rfl, Hfy.out⟩
  · have h91 : s.data.toList[0]? = some 91 := of_decide_eq_true Hq.out.symm
    have hpos : 0 < s.size := by rw [← len_of_size]; exact (List.getElem?_eq_some_iff.1 h91).1
    have HP : Hid (Lz.hostPr s.data.toList special = if s.data.toList.length < 2 ∨ s.data.toList.getLast? ≠ some 93 then .er 72 else Lz.ofO 72 ((Lz.sixP ((s.data.toList.drop 1).dropLast)).map fun a => [91] ++ Lz.textP a ++ [93])) := by
      show _ = _
      unfold Lz.hostPr; rw [if_pos h91]
    by_cases h2 : s.size < 2
    · have HN : Hid (Lz.hostPr s.data.toList special = .er 72) := by show _ = _; rw [HP.out, if_pos (Or.inl (by rw [len_of_size]; exact h2))]
      have h2' : (s.size : Int) < 2 := by omega
      have h2b : decide ((s.size : Int) < 2) = true := decide_eq_true h2'
      go_enter Tryz.func159, Tryz.ntmps159
      go_wp2_with fail
      refine (CP.out _).mono ?_
      rintro e w' ⟨rfl, rfl⟩
      go_wp2
      go_ret2
      rw [HN.out]
      exact rhost_new (d := 0) (Below.refl _ _) rfl (by omega)
    · have h2' : ¬ (s.size : Int) < 2 := by omega
      have h2b : decide ((s.size : Int) < 2) = false := decide_eq_false h2'
      obtain ⟨k, hk⟩ : ∃ k, k = s.size - 1 := ⟨_, rfl⟩
      have hk1 : (s.size : Int) - 1 = (k : Int) := by omega
      have hkl : k < s.size := by omega
      have hk2 : (k : Int) < s.size := by omega
      have hk0 : (0 : Int) ≤ k := by omega
      have hk3 : (1 : Int) ≤ k := by omega
      have hk4 : (k : Int) ≤ s.size := by omega
      have hlast : s.data.toList.getLast? = some s[k] := by
        rw [List.getLast?_eq_getElem?, len_of_size, ← hk]
        exact get_of_lt hkl
      have Hk := Lib.hid hk
      have Hlast := Lib.hid hlast
      clear hk hlast
      by_cases h93 : s[k] = 93
      · have hb93 : ((s[k].toNat : Int) != 93) = false := by rw [h93]; rfl
        have hin : Hid ((s.extract 1 k).data.toList = (s.data.toList.drop 1).dropLast) := by
          show _ = _
          rw [Lib.extract_data, List.dropLast_eq_take, List.length_drop, len_of_size, Hk.out]
        have hinz : (s.extract 1 k).size ≤ 900000 := by have := extract_size_le' s 1 k; omega
        have HN : Hid (Lz.hostPr s.data.toList special = Lz.ofO 72 ((Lz.sixP (s.extract 1 k).data.toList).map fun a => [91] ++ Lz.textP a ++ [93])) := by
          show _ = _
          rw [HP.out, if_neg (by rw [len_of_size, Hlast.out, h93]; simp; omega), hin.out]
        have cX := parseSix_any (s.extract 1 k) (by omega) w hE
        have hok := fun a => Lz.six_ok (s := (s.extract 1 k).data.toList) (a := a)
        generalize Lz.sixP (s.extract 1 k).data.toList = o at cX HN hok
        have CX := Lib.hid cX
        have Hok := Lib.hid hok
        clear cX hok h93 HP h2 hin hinz
        go_enter Tryz.func159, Tryz.ntmps159
        go_wp2_with fail
        refine (CP.out _).mono ?_
        rintro e w' ⟨rfl, rfl⟩
        go_wp2_with fail
        refine (CX.out).mono ?_
        rintro e w1 ⟨hb1, hres⟩
        have hr1 : ∀ o, (w1.alloc o).heap[w1.heap.size]? = some o := fun o => heap_alloc_new w1 o
        have Hr1 := Lib.hid hr1
        clear hr1
        cases o with
        | none =>
          obtain ⟨v, rfl, hfy⟩ := hres
          have hfy2 := fun o => hfy.below ((Below.refl _ w1).alloc (Nat.le_refl _) o)
          have Hfy := Lib.hid hfy
          have Hfy2 := Lib.hid hfy2
          clear hfy2
          obtain ⟨p, u, rfl, _, _, _⟩ := hfy
          have HN2 : Hid (Lz.hostPr s.data.toList special = .er 72) := by show _ = _; rw [HN.out]; rfl
          clear HN
          go_upto_region 5 with (refine store_six rfl _ _ rfl w1.heap.size rfl z8 rfl z8_one rfl _ (Hr1.out _) rfl ?_)
          generalize hw2 : (w1.alloc _).setRow w1.heap.size z8 = w2
          have hf2 : Faulty w2 72 1 (.iface 211 (.pointer (some ⟨p, 0, none⟩))) := by rw [← hw2]; exact (Hfy2.out _).setRow (Hr1.out (.cells z8 216)) z8
          have hb2 : Below w.heap.size w w2 := by rw [← hw2]; exact below_setRow (hb1.alloc hb1.size _) hb1.size _
          clear hw2 Hfy Hfy2 Hr1 CX
          go_wp2
          go_ret2
          rw [HN2.out]
          exact rhost_new (n := 72) (d := 1) hb2 hf2 (by omega)
        | some a =>
          obtain rfl := hres
          obtain ⟨ha8, hal⟩ := Hok.out a rfl
          have HN2 : Hid (Lz.hostPr s.data.toList special = .ok ([91] ++ Lz.textP a ++ [93])) := by show _ = _; rw [HN.out]; rfl
          have htl := text_len a ha8 hal
          have cT := fun W hW => text_any a ha8 hal W hW
          unfold sixV at cT
          unfold sixV
          obtain ⟨cs, hcs⟩ : ∃ cs, cs = (a.map fun n : Nat => Value.int .u16 (n : Int)).toArray := ⟨_, rfl⟩
          rw [← hcs] at cT
          rw [← hcs]
          have hc8 : cs.size = 8 := by rw [hcs]; simp [ha8]
          have hc1 : cs.all (·.oneCell') = true := by rw [hcs]; simp [Value.oneCell']
          have hci : (Tryz.prog.info? 216).map (·.size) = some cs.size := by rw [six_size, hc8]
          have CT := Lib.hid cT
          have Hc8 := Lib.hid hc8
          have Hc1 := Lib.hid hc1
          have Hci := Lib.hid hci
          clear cT hc8 hc1 hci ha8 hal hcs Hok HN
          go_upto_region 5 with (refine store_six rfl _ _ rfl w1.heap.size rfl cs Hc8.out Hc1.out rfl _ (Hr1.out _) rfl ?_)
          generalize hw2 : (w1.alloc _).setRow w1.heap.size cs = w2
          have hr2 : w2.heap[w1.heap.size]? = some (.cells cs 216 (0, 0)) := by rw [← hw2]; exact setRow_heap _ _ _ _ _ _ (Hr1.out _)
          have hb2 : Below w.heap.size w w2 := by rw [← hw2]; exact below_setRow (hb1.alloc hb1.size _) hb1.size _
          have Hr2 := Lib.hid hr2
          clear hw2 Hr1 CX hr2
          go_wp2_with (refine wpList_load_row rfl 216 _ rfl w1.heap.size rfl 216 _ (0, 0) _ Hr2.out Tryz.underlying216 rfl Hci.out ?_)
          with_reducible refine (CT.out _ (hE.below hb2)).mono ?_
          rintro e w3 ⟨u, rfl, hu, hb3⟩
          have huz : u.size ≤ 100 := by rw [← len_of_size, hu.out]; exact htl
          have hs1 : ¬ (9223372036854775807 < 1 + u.size) := by omega
          have hs2 : ¬ (9223372036854775807 < 1 + u.size + 1) := by omega
          go_wp2
          go_ret2
          rw [HN2.out]
          refine ⟨below_call hb2 hb3, _, rfl, Lib.hid ?_⟩
          rw [append_data', append_data', hu.out]
      · have hb93 : ((s[k].toNat : Int) != 93) = true := by
          have : ((s[k].toNat : Int) == 93) = false := (beqI s[k] 93).trans (beq_eq_false_iff_ne.2 h93)
          simp only [bne, this]; rfl
        have HN : Hid (Lz.hostPr s.data.toList special = .er 72) := by
          show _ = _
          rw [HP.out, if_pos]
          right
          rw [Hlast.out]
          intro h; exact h93 (Option.some.inj h)
        clear h93
        go_enter Tryz.func159, Tryz.ntmps159
        go_wp2_with fail
        refine (CP.out _).mono ?_
        rintro e w' ⟨rfl, rfl⟩
        go_wp2
        go_ret2
        rw [HN.out]
        exact rhost_new (d := 0) (Below.refl _ _) rfl (by omega)

/-- The text of an answer, and its error's number. -/
def resT : Lz.Res → List UInt8
  | .ok t => t
  | .er _ => []
def resE : Lz.Res → Nat
  | .ok _ => 0
  | .er n => n
/-- What Parse tells. -/
def RParseH (r : Lz.Res) (w : World) (e : Ending) (w' : World) : Prop :=
  ∃ u : ByteArray, e = .returned (.tuple #[.string u, .int .i64 (resE r : Nat)]) ∧ Hid (u.data.toList = resT r) ∧ Below w.heap.size w w'

set_option maxHeartbeats 1000000 in
set_option maxRecDepth 100000 in
theorem ParseH_any (s : ByteArray) (special : Bool) (hs : s.size ≤ 900000) (hca : special = false → s.data.toList[0]? ≠ some 91 → CAny s) (w : World) (hE : EnvH w) : Calls Tryz.prog 138 #[.string s, .bool special] w (RParseH (Lz.hostPr s.data.toList special) w) := by
  have cH := hostH_any s special hs hca w hE
  generalize Lz.hostPr s.data.toList special = r at cH ⊢
  have CH := Lib.hid cH
  clear cH hca
  go_enter Tryz.func138, Tryz.ntmps138
  go_wp2_with fail
  refine (CH.out).mono ?_
  rintro e w1 ⟨hb1, hres⟩
  cases r with
  | ok t =>
    obtain ⟨u, rfl, hu⟩ := hres
    go_wp2
    go_ret2
    exact ⟨u, rfl, hu, hb1⟩
  | er n =>
    obtain ⟨v, d, hd, rfl, hfy⟩ := hres
    have cC := code_any d hd (n : Int) v w1 (hE.below hb1) hfy
    have CC := Lib.hid cC
    clear cC
    obtain ⟨t0, x0, rfl⟩ := hfy.iface
    go_wp2_with fail
    refine (CC.out).mono ?_
    rintro e w2 ⟨rfl, hb2⟩
    go_wp2
    go_ret2
    exact ⟨⟨#[]⟩, rfl, Lib.hid rfl, below_call hb1 hb2⟩

end Go.Proofs.YthijceooebebfaaGreatDoor
