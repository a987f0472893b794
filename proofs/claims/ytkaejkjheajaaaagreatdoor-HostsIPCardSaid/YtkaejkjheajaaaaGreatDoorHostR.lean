/-
  Plain laws on lists of bytes: what is told of a host is told of that again. No program in sight.
-/
import Derived.Test.YtkaejkjheajaaaaGreatDoorHostQ
namespace Lz
open Go

/-! ### Four bytes -/
theorem num_dec1 : ∀ n : Fin 256, numP (Lib.decDigits n.val) = some n.val := by decide +kernel
theorem num_dec {n : Nat} (h : n < 256) : numP (Lib.decDigits n) = some n := num_dec1 ⟨n, h⟩
theorem dig_not : ∀ c : UInt8, isDigit c = true → c ≠ 46 ∧ c ≠ 58 ∧ c ≠ 37 ∧ low1 c = c ∧ oddB c = false ∧ banned.contains c = false ∧ (c < 32 || 126 < c) = false := byte_all (by decide +kernel)
theorem dot_is : low1 46 = 46 ∧ oddB 46 = false ∧ banned.contains 46 = false := by decide
theorem dotted_chars (b : List Nat) : ∀ c ∈ dottedP b, isDigit c = true ∨ c = 46 := by
  intro c hc
  unfold dottedP at hc
  rcases joinP_mem hc with h | ⟨x, hx, h⟩
  · right; simpa using h
  · obtain ⟨n, _, rfl⟩ := List.mem_map.1 hx
    exact Or.inl (dec_digit n c h)
theorem dotted_split {b : List Nat} (hb : b ≠ []) : splitC 46 (dottedP b) = b.map fun x => Lib.decDigits x := by
  unfold dottedP
  exact splitC_join 46 _ (by simpa using hb) (by intro x hx c hc; obtain ⟨n, _, rfl⟩ := List.mem_map.1 hx; exact (dig_not c (dec_digit n c hc)).1)
theorem labels_dotted {b : List Nat} (hb : b ≠ []) : labelsP (dottedP b) = b.map fun x => Lib.decDigits x := by
  unfold labelsP
  rw [dotted_split hb, if_neg]
  rintro ⟨_, h⟩
  rw [List.getLast?_map] at h
  cases hl : b.getLast? with
  | none => rw [hl] at h; cases h
  | some x => rw [hl] at h; exact dec_ne x (Option.some.inj h)
theorem getLastD_map_dec {b : List Nat} (hb : b ≠ []) : (b.map fun x => Lib.decDigits x).getLastD [] = Lib.decDigits (b.getLast hb) := by
  rw [List.getLastD_eq_getLast?, List.getLast?_map, List.getLast?_eq_some_getLast hb]; rfl
theorem allB_dec (n : Nat) : allB isDigit (Lib.decDigits n) = true := by
  unfold allB
  rw [Bool.and_eq_true]
  refine ⟨List.all_eq_true.2 fun c hc => dec_digit n c hc, ?_⟩
  rw [Bool.not_eq_true', List.isEmpty_eq_false_iff]; exact dec_ne n
theorem numbered_dotted {b : List Nat} (hb : b ≠ []) : numberedP (dottedP b) = true := by
  unfold numberedP
  rw [labels_dotted hb, getLastD_map_dec hb, allB_dec]; rfl
theorem fourB_dec (b : List Nat) (n : Nat) (h : b.length ≤ n) (hn : n = 4) (hl : ∀ x ∈ b, x < 256) : fourB n (b.map fun x => Lib.decDigits x) = some b := by
  subst hn
  induction b with
  | nil => rfl
  | cons x r ih =>
    have hx : x < 256 := hl x (by simp)
    rw [List.map_cons, fourB, num_dec hx]
    have hm : (if (r.map fun x => Lib.decDigits x) = [] then 5 - 4 else 1) = 1 := by split <;> rfl
    simp only [hm]
    rw [if_neg (by omega), ih (fun y hy => hl y (List.mem_cons_of_mem _ hy)) (by simp at h; omega)]
    have : (List.range 1).reverse.map (fun k => x / 256 ^ k % 256) = [x] := by
      show [x / 256 ^ 0 % 256] = [x]
      rw [Nat.pow_zero, Nat.div_one, Nat.mod_eq_of_lt hx]
    rw [this]; rfl
theorem four_dotted {b : List Nat} (h4 : b.length = 4) (hl : ∀ x ∈ b, x < 256) : fourP (labelsP (dottedP b)) = some (dottedP b) := by
  have hb : b ≠ [] := by intro h; rw [h] at h4; cases h4
  unfold fourP
  rw [labels_dotted hb, List.length_map, h4, if_neg (by omega), fourB_dec b 4 (by omega) rfl hl]; rfl
/-- The bytes of one label. -/
def labB (many v : Nat) : List Nat := (List.range many).reverse.map fun k => v / 256 ^ k % 256
theorem labB_lt {many v x : Nat} (h : x ∈ labB many v) : x < 256 := by
  unfold labB at h
  simp only [List.mem_map, List.mem_reverse] at h
  obtain ⟨k, _, rfl⟩ := h
  exact Nat.mod_lt _ (by omega)
theorem labB_len (many v : Nat) : (labB many v).length = many := by unfold labB; simp
theorem fourB_cons (n : Nat) (s : Bs) (r : List Bs) : fourB n (s :: r) = match numP s with
    | none => none
    | some v => if 0 < v / 256 ^ (if r = [] then 5 - n else 1) then none else (fourB n r).map fun t => labB (if r = [] then 5 - n else 1) v ++ t := rfl
theorem fourB_inv {n : Nat} {s : Bs} {r : List Bs} {b : List Nat} (h : fourB n (s :: r) = some b) : ∃ v t, numP s = some v ∧ fourB n r = some t ∧ b = labB (if r = [] then 5 - n else 1) v ++ t := by
  rw [fourB_cons] at h
  cases hv : numP s with
  | none => rw [hv] at h; cases h
  | some v =>
    rw [hv] at h
    simp only at h
    generalize (if r = [] then 5 - n else 1) = m at h ⊢
    by_cases h0 : 0 < v / 256 ^ m
    · rw [if_pos h0] at h; cases h
    · rw [if_neg h0] at h
      cases hr : fourB n r with
      | none => rw [hr] at h; cases h
      | some t =>
        rw [hr] at h
        exact ⟨v, t, rfl, rfl, (Option.some.inj h).symm⟩
theorem fourB_len : ∀ (l : List Bs) (n : Nat) (b : List Nat), l ≠ [] → l.length ≤ n → n ≤ 4 → fourB n l = some b → b.length = l.length + (4 - n) ∧ ∀ x ∈ b, x < 256
  | [], n, b, h, _, _, _ => absurd rfl h
  | s :: r, n, b, _, hl, hn, h => by
    obtain ⟨v, t, hv, hr, rfl⟩ := fourB_inv h
    simp only [List.length_cons] at hl ⊢
    rw [List.length_append, labB_len]
    by_cases hr0 : r = []
    · rw [hr0, fourB] at hr
      injection hr with hr
      rw [hr0, if_pos rfl, ← hr]
      refine ⟨by simp; omega, fun x hx => ?_⟩
      rw [List.append_nil] at hx
      exact labB_lt hx
    · rw [if_neg hr0]
      obtain ⟨h1, h2⟩ := fourB_len r n t hr0 (by omega) hn hr
      refine ⟨by omega, fun x hx => ?_⟩
      rcases List.mem_append.1 hx with hx | hx
      · exact labB_lt hx
      · exact h2 x hx
theorem four_ok {l : List Bs} {t : Bs} (hl : l ≠ []) (h : fourP l = some t) : ∃ b : List Nat, b.length = 4 ∧ (∀ x ∈ b, x < 256) ∧ t = dottedP b := by
  unfold fourP at h
  split at h
  · cases h
  · cases hb : fourB l.length l with
    | none => rw [hb] at h; cases h
    | some b =>
      rw [hb] at h
      injection h with h
      obtain ⟨h1, h2⟩ := fourB_len l l.length b hl (Nat.le_refl _) (by omega) hb
      exact ⟨b, by omega, h2, h.symm⟩
theorem labels_ne (s : Bs) : labelsP s ≠ [] := by
  have hne : splitC 46 s ≠ [] := by
    cases s with
    | nil => simp [splitC]
    | cons b r =>
      rw [splitC]
      split
      · simp
      · split <;> simp
  unfold labelsP
  split
  · rename_i h
    intro h2
    have := congrArg List.length h2
    simp at this; omega
  · exact hne

/-! ### Triples -/
theorem triple_not {c : UInt8} (h : c ≠ 37) (r : Bs) : tripleP (c :: r) = none := by
  unfold tripleP
  split
  · rename_i heq
    injection heq with h1 _
    exact absurd h1 h
  · rfl
theorem decode_cons {c : UInt8} {r : Bs} {x : Bs} (h : tripleP (c :: r) = none) (hx : decodeP r = x) : decodeP (c :: r) = c :: x := by
  rw [decodeP, h]; simp [hx]
theorem decode_free : ∀ l : Bs, (∀ c ∈ l, c ≠ 37) → decodeP l = l
  | [], _ => by rw [decodeP]
  | c :: r, h => decode_cons (triple_not (h c (by simp)) r) (decode_free r fun x hx => h x (by simp [hx]))
theorem encode_none (of : Bs) (l : Bs) (h : ∀ c ∈ l, (c < 32 || 126 < c || of.contains c) = false) : encodeP of l = l := by
  unfold encodeP
  induction l with
  | nil => rfl
  | cons c r ih => rw [List.flatMap_cons, h c (by simp), ih fun x hx => h x (by simp [hx])]; rfl
theorem low_none (l : Bs) (h : ∀ c ∈ l, low1 c = c) : low l = l := by
  unfold low
  induction l with
  | nil => rfl
  | cons c r ih => rw [List.map_cons, h c (by simp), ih fun x hx => h x (by simp [hx])]

/-! ### What is told of a domain -/
/-- A domain as it is told. -/
def DomOk (d : Bs) : Prop := d ≠ [] ∧ d.any oddB = false ∧ low d = d ∧ (numberedP d = false ∨ fourP (labelsP d) = some d)
theorem odd_not : ∀ c : UInt8, oddB c = false → c ≠ 37 ∧ c ≠ 91 ∧ banned.contains c = false ∧ (c < 32 || 126 < c) = false := byte_all (by decide +kernel)
theorem any_false {p : UInt8 → Bool} {l : Bs} (h : l.any p = false) : ∀ c ∈ l, p c = false := by
  intro c hc
  rw [List.any_eq_false] at h
  simpa using h c hc
theorem dom_again {d : Bs} (h : DomOk d) (special : Bool) : hostPr d special = .ok d := by
  obtain ⟨h1, h2, h3, h4⟩ := h
  have hc := any_false h2
  have h91 : d[0]? ≠ some 91 := by
    intro h
    have := List.mem_of_getElem? h
    exact (odd_not 91 (hc 91 this)).2.1 rfl
  unfold hostPr
  rw [if_neg h91]
  cases special
  · have hb : d.any banned.contains = false := by
      rw [List.any_eq_false]; intro c hc'; have := (odd_not c (hc c hc')).2.2.1; rw [this]; simp
    rw [if_neg (by simp), hb, if_neg (by simp), encode_none]
    intro c hc'
    have := (odd_not c (hc c hc')).2.2.2
    rw [this]; rfl
  · rw [if_pos rfl]
    unfold domainP
    rw [decode_free d fun c hc' => (odd_not c (hc c hc')).1]
    simp only [h3]
    rw [if_neg (by rw [h2]; simp [h1])]
    rcases h4 with h4 | h4
    · rw [h4]; rfl
    · cases hn : numberedP d
      · rfl
      · rw [h4]; rfl
theorem dom_ok {s d : Bs} (h : domainP s = .ok d) : DomOk d := by
  unfold domainP at h
  simp only at h
  generalize hx : low (decodeP s) = x at h
  split at h
  · cases h
  · rename_i hn
    have hn1 : x ≠ [] := fun e => hn (Or.inl e)
    have hn2 : x.any oddB = false := by rw [← Bool.not_eq_true]; exact fun e => hn (Or.inr e)
    split at h
    · cases hf : fourP (labelsP x) with
      | none => rw [hf] at h; cases h
      | some t =>
        rw [hf] at h
        simp only [ofO] at h
        injection h with h
        rw [← h]
        obtain ⟨b, h4, hl, rfl⟩ := four_ok (labels_ne x) hf
        have hb : b ≠ [] := by intro h; rw [h] at h4; cases h4
        refine ⟨?_, ?_, ?_, Or.inr (four_dotted h4 hl)⟩
        · unfold dottedP
          exact joinP_ne (by simpa using hb) (by intro x hx; obtain ⟨n, _, rfl⟩ := List.mem_map.1 hx; exact dec_ne n)
        · rw [List.any_eq_false]
          intro c hc
          rcases dotted_chars b c hc with h | rfl
          · rw [(dig_not c h).2.2.2.2.1]; simp
          · decide
        · apply low_none
          intro c hc
          rcases dotted_chars b c hc with h | rfl
          · exact (dig_not c h).2.2.2.1
          · decide
    · rename_i hnn
      injection h with h
      rw [← h]
      exact ⟨hn1, hn2, by rw [← hx, low_low], Or.inl (by simpa using hnn)⟩

/-! ### What is told of an address, and of another host -/
theorem wrap_six (a : List Nat) (h8 : a.length = 8) (hl : ∀ n ∈ a, n < 65536) (special : Bool) : hostPr ([91] ++ textP a ++ [93]) special = .ok ([91] ++ textP a ++ [93]) := by
  unfold hostPr
  rw [if_pos (by simp)]
  have h1 : ¬ (([91] ++ textP a ++ [93] : Bs).length < 2 ∨ ([91] ++ textP a ++ [93] : Bs).getLast? ≠ some 93) := by
    rw [List.getLast?_append]; simp
  rw [if_neg h1]
  have h2 : (([91] ++ textP a ++ [93] : Bs).drop 1).dropLast = textP a := by simp
  rw [h2, six_back a h8 hl]; rfl
theorem not_enc : ∀ c : UInt8, banned.contains c = false → ∀ x ∈ (if c < 32 || 126 < c || ([] : Bs).contains c then [37, digitU (c.toNat / 16), digitU (c.toNat % 16)] else [c] : Bs), banned.contains x = false ∧ (x < 32 || 126 < x) = false := by
  have : ∀ c : UInt8, (banned.contains c || (if c < 32 || 126 < c || ([] : Bs).contains c then [37, digitU (c.toNat / 16), digitU (c.toNat % 16)] else [c] : Bs).all fun x => !banned.contains x && !(x < 32 || 126 < x)) = true := byte_all (by decide +kernel)
  intro c hc x hx
  have h := this c
  rw [hc, Bool.false_or, List.all_eq_true] at h
  simpa using h x hx
theorem enc_ok {s : Bs} (h : s.any banned.contains = false) : ∀ x ∈ encodeP [] s, banned.contains x = false ∧ (x < 32 || 126 < x) = false := by
  intro x hx
  unfold encodeP at hx
  obtain ⟨c, hc, hx⟩ := List.mem_flatMap.1 hx
  exact not_enc c (any_false h c hc) x hx
theorem other_again {s : Bs} (h : s.any banned.contains = false) : hostPr (encodeP [] s) false = .ok (encodeP [] s) := by
  have hc := enc_ok h
  have h91 : (encodeP [] s)[0]? ≠ some 91 := by
    intro h
    have := (hc 91 (List.mem_of_getElem? h)).1
    exact absurd this (by decide)
  unfold hostPr
  rw [if_neg h91, if_neg (by simp)]
  have hb : (encodeP [] s).any banned.contains = false := by
    rw [List.any_eq_false]; intro c hc'; rw [(hc c hc').1]; simp
  rw [hb, if_neg (by simp), encode_none]
  intro c hc'
  rw [(hc c hc').2]; rfl

/-- What Parse answers it answers of itself; of a special host it answers it of that, not special, too; and it is no empty text. -/
theorem host_again_true {s h : Bs} (e : hostPr s true = .ok h) : hostPr h true = .ok h ∧ hostPr h false = .ok h ∧ h ≠ [] := by
  unfold hostPr at e
  split at e
  · split at e
    · cases e
    · cases ha : sixP ((s.drop 1).dropLast) with
      | none => rw [ha] at e; cases e
      | some a =>
        rw [ha] at e
        simp only [Option.map_some, ofO] at e
        injection e with e
        rw [← e]
        obtain ⟨h8, hl⟩ := six_ok ha
        exact ⟨wrap_six a h8 hl true, wrap_six a h8 hl false, by simp⟩
  · rw [if_pos rfl] at e
    have := dom_ok e
    exact ⟨dom_again this true, dom_again this false, this.1⟩
theorem host_again_false {s h : Bs} (e : hostPr s false = .ok h) : hostPr h false = .ok h := by
  unfold hostPr at e
  split at e
  · split at e
    · cases e
    · cases ha : sixP ((s.drop 1).dropLast) with
      | none => rw [ha] at e; cases e
      | some a =>
        rw [ha] at e
        simp only [Option.map_some, ofO] at e
        injection e with e
        rw [← e]
        obtain ⟨h8, hl⟩ := six_ok ha
        exact wrap_six a h8 hl false
  · rw [if_neg (by simp)] at e
    split at e
    · cases e
    · rename_i hb
      injection e with e
      rw [← e]
      exact other_again (by simpa using hb)
/-- Which errors there are. -/
theorem host_err_true (s : Bs) (n : Nat) (e : hostPr s true = .er n) : n = 70 ∨ n = 71 ∨ n = 72 := by
  unfold hostPr domainP ofO at e
  simp only at e
  repeat' split at e
  all_goals first | (injection e with e; omega) | cases e | (rename_i h; cases h)
theorem host_err_false (s : Bs) (n : Nat) (e : hostPr s false = .er n) : n = 70 ∨ n = 72 := by
  unfold hostPr ofO at e
  repeat' split at e
  all_goals first | (injection e with e; omega) | cases e | (rename_i h; cases h)
end Lz
