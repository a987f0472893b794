/-
  Plain laws: what the document's answer (package lazaretref07) computes of an address, and that it agrees with Lz.ipP. No program in sight.
  Plain laws: the pieces of an IPv6 address as the document (package lazaretref07) tells them. No program in sight.
  Plain laws: two colons by place, zeros by place, decimals one by one. No program in sight.
-/
import Derived.Test.YtkaejkjheajaaaaGreatDoorHostT
import Derived.Test.YtkaejkjheajaaaaGreatDoorHRow
namespace Lz
open Go

/-- A number from 0 to 255, without a needless 0. -/
def decP (x : Bs) : Option Nat := (numF 10 0 x).bind fun n => if n ≤ 255 ∧ Lib.decDigits n = x then some n else none
theorem decP_dec1 : ∀ n : Fin 256, decP (Lib.decDigits n.val) = some n.val := by decide +kernel
theorem decP_iff {x : Bs} {n : Nat} : decP x = some n ↔ n < 256 ∧ x = Lib.decDigits n := by
  constructor
  · intro h
    unfold decP at h
    rw [Option.bind_eq_some_iff] at h
    obtain ⟨m, _, hm⟩ := h
    split at hm
    · rename_i hh
      obtain rfl := Option.some.inj hm
      exact ⟨by omega, hh.2.symm⟩
    · cases hm
  · rintro ⟨h, rfl⟩
    exact decP_dec1 ⟨n, h⟩
/-- What stands between, put together again. -/
theorem join_split (k : UInt8) : ∀ s : Bs, joinP [k] (splitC k s) = s
  | [] => rfl
  | b :: l => by
    have ih := join_split k l
    unfold splitC
    by_cases h : (b == k) = true
    · rw [if_pos h]
      have hb : b = k := by simpa using h
      cases e : splitC k l with
      | nil =>
        rw [e] at ih
        cases l with
        | nil => simp [splitC] at e
        | cons c r =>
          simp only [splitC] at e
          split at e
          · cases e
          · split at e <;> cases e
      | cons x r =>
        rw [e] at ih
        rw [joinP, ih, hb]; rfl
    · rw [if_neg h]
      cases e : splitC k l with
      | nil =>
        rw [e] at ih
        show b :: [] = b :: l
        rw [← ih]; rfl
      | cons x r =>
        rw [e] at ih
        show joinP [k] ((b :: x) :: r) = b :: l
        cases r with
        | nil => rw [joinP] at ih ⊢; rw [ih]
        | cons y z => rw [joinP] at ih ⊢; rw [← ih]; rfl
theorem ip_list {b : List Nat} (h4 : b.length = 4) (hl : ∀ x ∈ b, x < 256) : ipP (dottedP b) = true := by
  have hb : b ≠ [] := by intro h; rw [h] at h4; cases h4
  have hd : DomOk (dottedP b) := by
    refine ⟨?_, ?_, ?_, Or.inr (four_dotted h4 hl)⟩
    · unfold dottedP
      exact joinP_ne (by simpa using hb) (by intro x hx; obtain ⟨n, _, rfl⟩ := List.mem_map.1 hx; exact dec_ne n)
    · rw [List.any_eq_false]
      intro c hc
      rcases dotted_chars _ c hc with h | rfl
      · rw [(dig_not c h).2.2.2.2.1]; simp
      · decide
    · apply low_none
      intro c hc
      rcases dotted_chars _ c hc with h | rfl
      · exact (dig_not c h).2.2.2.1
      · decide
  unfold ipP
  rw [dom_again hd true, numbered_dotted hb]
  simp
/-- Four labels, each a number from 0 to 255. -/
def ip4R (s : Bs) : Bool := (splitC 46 s).all (fun x => (decP x).isSome) && (splitC 46 s).length == 4
theorem ip4R_iff (s : Bs) : ip4R s = true ↔ ∃ b : List Nat, b.length = 4 ∧ (∀ x ∈ b, x < 256) ∧ s = dottedP b := by
  unfold ip4R
  simp only [Bool.and_eq_true, List.all_eq_true, beq_iff_eq]
  constructor
  · rintro ⟨h, h4⟩
    refine ⟨(splitC 46 s).map fun x => (decP x).getD 0, by simpa using h4, ?_, ?_⟩
    · intro x hx
      obtain ⟨y, hy, rfl⟩ := List.mem_map.1 hx
      obtain ⟨n, hn⟩ := Option.isSome_iff_exists.1 (h y hy)
      rw [hn]
      exact (decP_iff.1 hn).1
    · unfold dottedP
      rw [List.map_map]
      have : (splitC 46 s).map ((fun x => Lib.decDigits x) ∘ fun x => (decP x).getD 0) = splitC 46 s := by
        conv => rhs; rw [← List.map_id (splitC 46 s)]
        apply List.map_congr_left
        intro y hy
        obtain ⟨n, hn⟩ := Option.isSome_iff_exists.1 (h y hy)
        show Lib.decDigits ((decP y).getD 0) = id y
        rw [hn]
        exact (decP_iff.1 hn).2.symm
      rw [this, join_split]
  · rintro ⟨b, h4, hl, rfl⟩
    have hb : b ≠ [] := by intro h; rw [h] at h4; cases h4
    rw [dotted_split hb]
    refine ⟨?_, by simpa using h4⟩
    intro x hx
    obtain ⟨n, hn, rfl⟩ := List.mem_map.1 hx
    rw [decP_iff.2 ⟨hl n hn, rfl⟩]; rfl
theorem ip_four (s : Bs) (h91 : s[0]? ≠ some 91) : ipP s = ip4R s := by
  rw [Bool.eq_iff_iff, ip4R_iff]
  constructor
  · intro h
    unfold ipP at h
    cases e : hostPr s true with
    | er n => rw [e] at h; cases h
    | ok t =>
      rw [e] at h
      simp only [Bool.and_eq_true, beq_iff_eq, Bool.or_eq_true] at h
      obtain ⟨rfl, h⟩ := h
      have hnum : numberedP t = true := by
        rcases h with h | h
        · exact absurd h h91
        · exact h
      unfold hostPr at e
      rw [if_neg h91, if_pos rfl] at e
      have hd := dom_ok e
      rcases hd.2.2.2 with h1 | h1
      · rw [hnum] at h1; cases h1
      · obtain ⟨b, h4, hl, hb⟩ := four_ok (labels_ne t) h1
        exact ⟨b, h4, hl, hb⟩
  · rintro ⟨b, h4, hl, rfl⟩
    exact ip_list h4 hl
end Lz

namespace Lz
open Go

theorem parseUintM_le (M : Nat) : ∀ (l : Bs) (acc n : Nat), acc ≤ M → Lib.parseUintM M acc l = .ok n → n ≤ M
  | [], acc, n, ha, h => by
    simp only [Lib.parseUintM] at h
    cases h; exact ha
  | c :: r, acc, n, ha, h => by
    simp only [Lib.parseUintM] at h
    split at h
    · split at h
      · cases h
      · split at h
        · cases h
        · exact parseUintM_le M r _ n (by omega) h
    · cases h
theorem mapM_length (f : Bs → Option Nat) : ∀ (l : List Bs) (b : List Nat), l.mapM f = some b → b.length = l.length
  | [], b, h => by simp at h; subst h; rfl
  | x :: r, b, h => by
    rw [List.mapM_cons] at h
    simp only [bind, Option.bind_eq_some_iff, pure, Option.some.injEq] at h
    obtain ⟨y, _, t, ht, rfl⟩ := h
    rw [List.length_cons, List.length_cons, mapM_length f r t ht]
theorem byteP_eq (x : Bs) : byteP x = decP x := by
  cases e : decP x with
  | some n =>
    obtain ⟨h, rfl⟩ := decP_iff.1 e
    exact byte_dec h
  | none =>
    unfold byteP
    split
    · rename_i n hn
      split
      · rename_i hx
        exfalso
        have hlt : n < 256 := by
          unfold Lib.parseUintB at hn
          split at hn
          · cases hn
          · have := parseUintM_le _ _ _ _ (by omega) hn
            omega
        rw [decP_iff.2 ⟨hlt, hx.symm⟩] at e
        cases e
      · rfl
    · rfl
/-- A piece, by digits. -/
def pieceR (x : Bs) : Option Nat := if x = [] ∨ 4 < x.length then none else numF 16 0 x
theorem numF_fold : ∀ (l : Bs) (n : Nat), (n + 1) * 16 ^ l.length ≤ 65536 → numF 16 n l = l.foldlM hexF n
  | [], n, _ => rfl
  | c :: r, n, h => by
    rw [List.foldlM_cons]
    show (match hexV c with | none => none | some d => if 16 ≤ d then none else numF 16 (min (n * 16 + d) 1099511627776) r) = _
    unfold hexF
    cases hc : hexV c with
    | none => rfl
    | some d =>
      have hd := hexV_lt16 c d hc
      rw [List.length_cons, Nat.pow_succ, Nat.mul_comm (16 ^ r.length) 16, ← Nat.mul_assoc] at h
      have h2 : (n * 16 + d + 1) * 16 ^ r.length ≤ (n + 1) * 16 * 16 ^ r.length := Nat.mul_le_mul_right _ (by omega)
      have h3 : 1 ≤ 16 ^ r.length := Nat.pow_pos (by omega)
      have h4 : n * 16 + d + 1 ≤ (n * 16 + d + 1) * 16 ^ r.length := Nat.le_mul_of_pos_right _ h3
      show (if 16 ≤ d then none else numF 16 (min (n * 16 + d) 1099511627776) r) = List.foldlM hexF (n * 16 + d) r
      rw [if_neg (by omega), Nat.min_eq_left (by omega), numF_fold r (n * 16 + d) (by omega)]
theorem pieceR_eq (x : Bs) : pieceR x = pieceP x := by
  unfold pieceR pieceP
  split
  · rfl
  · rename_i h
    have : (16 : Nat) ^ x.length ≤ 16 ^ 4 := Nat.pow_le_pow_right (by omega) (by omega)
    exact numF_fold x 0 (by omega)
/-- The pieces between colons; the last may be four bytes with dots. -/
def rowR (last : Bool) : List Bs → Option (List Nat)
  | [] => some []
  | x :: r => if last && r.isEmpty && (splitC 46 x).length == 4 then ((splitC 46 x).mapM decP).map fun b => [b.getD 0 0 * 256 + b.getD 1 0, b.getD 2 0 * 256 + b.getD 3 0]
    else match pieceR x with
      | none => none
      | some n => (rowR last r).map (n :: ·)
theorem split_one (k : UInt8) {x : Bs} (h : x.contains k = false) : splitC k x = [x] := splitC_free k x (by
  intro c hc e
  subst e
  rw [Bool.eq_false_iff] at h
  exact h (by simpa using hc))
theorem rowR_eq (last : Bool) : ∀ l : List Bs, rowR last l = rowP last l
  | [] => rfl
  | x :: r => by
    have ih := rowR_eq last r
    have hm : (fun x => byteP x) = decP := funext byteP_eq
    unfold rowR rowP
    rw [ih, pieceR_eq]
    by_cases h1 : (last && r.isEmpty) = true
    · rw [h1]
      simp only [Bool.true_and, beq_iff_eq]
      by_cases h2 : x.contains 46 = true
      · rw [if_pos h2]
        unfold bytesP
        rw [show byteP = decP from hm]
        by_cases h4 : (splitC 46 x).length = 4
        · rw [if_pos h4]
          cases e : (splitC 46 x).mapM decP with
          | none => rfl
          | some b =>
            have hl : b.length = 4 := by
              have := mapM_length _ _ _ e
              omega
            simp [hl]
        · rw [if_neg h4, piece_none (c := 46) (by simpa using h2) (by decide)]
          cases e : (splitC 46 x).mapM decP with
          | none => rfl
          | some b =>
            have hl : b.length ≠ 4 := by
              have := mapM_length _ _ _ e
              omega
            simp [hl]
      · have h2' : x.contains 46 = false := by simpa using h2
        rw [if_neg h2, split_one 46 h2']
        simp
        cases pieceP x <;> rfl
    · have h1' : (last && r.isEmpty) = false := by simpa using h1
      rw [h1']
      simp
      cases pieceP x <;> rfl
/-- Nothing has no pieces. -/
def rowSR (s : Bs) (last : Bool) : Option (List Nat) := if s = [] then some [] else rowR last (splitC 58 s)
theorem rowSR_eq (s : Bs) (last : Bool) : rowSR s last = rowS s last := by
  unfold rowSR rowS
  rw [rowR_eq]
/-- The eight pieces, as the document tells them. -/
def sixR (s : Bs) : Option (List Nat) :=
  match rowSR (Lib.cut s [58, 58]).1 (!(Lib.cut s [58, 58]).2.2), rowSR (Lib.cut s [58, 58]).2.1 true with
  | some x, some y => if (Lib.cut s [58, 58]).2.2 then (if 7 < x.length + y.length then none else some (x ++ List.replicate (8 - x.length - y.length) 0 ++ y)) else (if x.length = 8 then some x else none)
  | _, _ => none
theorem rowS_colon (t : Bs) : rowS (58 :: t) true = none := by
  unfold rowS
  rw [if_neg (by simp)]
  have hs : splitC 58 (58 :: t) = [] :: splitC 58 t := by simp [splitC]
  rw [hs]
  have hne : (splitC 58 t).isEmpty = false := by
    cases t with
    | nil => rfl
    | cons c r =>
      simp only [splitC]
      split
      · rfl
      · split <;> rfl
  unfold rowP
  rw [hne]
  simp [pieceP]
theorem cut_no {s : Bs} (h : (Lib.cut s [58, 58]).2.2 = false) : (Lib.cut s [58, 58]).1 = s ∧ (Lib.cut s [58, 58]).2.1 = [] := by
  unfold Lib.cut at h ⊢
  split at h
  · cases h
  · rename_i hh
    rw [if_neg hh]
    exact ⟨rfl, rfl⟩
theorem sixR_eq (s : Bs) : sixR s = sixP s := by
  have hno := @cut_no s
  unfold sixR sixP
  simp only [rowSR_eq]
  generalize Lib.cut s [58, 58] = c at hno
  obtain ⟨f, b, q⟩ := c
  simp only at hno ⊢
  cases q
  · obtain ⟨rfl, rfl⟩ := hno rfl
    by_cases h0 : f = []
    · subst h0
      simp [rowS]
    · have he : f.isEmpty = false := by cases f <;> simp_all
      rw [he]
      simp [rowS, Lib.hasPrefix]
      cases hx : rowP true (splitC 58 f) with
      | none => simp [h0]
      | some x => simp [h0]
  · by_cases hp : Lib.hasPrefix b [58] = true
    · have hb : ∃ t, b = 58 :: t := by
        cases b with
        | nil => simp [Lib.hasPrefix] at hp
        | cons c r =>
          have : c = 58 := by
            simp only [Lib.hasPrefix, List.isPrefixOf, Bool.and_true, beq_iff_eq] at hp
            exact hp.symm
          exact ⟨r, by rw [this]⟩
      obtain ⟨t, rfl⟩ := hb
      rw [rowS_colon, hp]
      cases rowS f (!true) <;> rfl
    · have hp' : Lib.hasPrefix b [58] = false := by simpa using hp
      rw [hp']
      cases hx : rowS f (!true) with
      | none => simp
      | some x =>
        cases hy : rowS b true with
        | none => simp
        | some y =>
          simp
          by_cases h8 : 8 ≤ x.length + y.length
          · rw [if_pos h8, if_pos (by omega)]
          · rw [if_neg h8, if_neg (by omega)]

/-! ### The text of an address, piece by piece -/
/-- The longest run of zeros among those that begin ahead of a place. -/
def runF (x : List Nat) : Nat → Nat × Nat
  | 0 => (0, 0)
  | i + 1 => if max ((runF x i).2 - (runF x i).1) 1 < zerosP (x.drop i) then (i, i + zerosP (x.drop i)) else runF x i
theorem runF_runP (x : List Nat) : ∀ m i : Nat, i + m = x.length → runP i (x.drop i) (runF x i) = runF x x.length
  | 0, i, h => by
    rw [List.drop_eq_nil_of_le (by omega), show i = x.length by omega]
    rfl
  | m + 1, i, h => by
    have hi : i < x.length := by omega
    have ih := runF_runP x m (i + 1) (by omega)
    rw [← ih]
    conv => lhs; rw [List.drop_eq_getElem_cons hi]
    rw [runP, ← List.drop_eq_getElem_cons hi]
    rfl
theorem runF_all (x : List Nat) : runP 0 x (0, 0) = runF x x.length := by
  have := runF_runP x x.length 0 (by omega)
  rwa [List.drop_zero] at this
theorem runF_ok (x : List Nat) : ∀ i, i ≤ x.length → ((runF x i).1 = 0 ∧ (runF x i).2 = 0) ∨ ((runF x i).1 + 2 ≤ (runF x i).2 ∧ (runF x i).1 < i ∧ (runF x i).2 ≤ x.length)
  | 0, _ => Or.inl ⟨rfl, rfl⟩
  | i + 1, h => by
    have ih := runF_ok x i (by omega)
    rw [runF]
    split
    · rename_i hh
      right
      have hz : zerosP (x.drop i) ≤ (x.drop i).length := by unfold zerosP; exact (List.takeWhile_prefix _).length_le
      rw [List.length_drop] at hz
      have h2 : 1 < zerosP (x.drop i) := Nat.lt_of_le_of_lt (Nat.le_max_right _ _) hh
      simp only
      omega
    · rcases ih with h1 | h1
      · exact Or.inl h1
      · right; omega
/-- Does a colon follow, ahead of a piece? -/
def colQ (s : Bs) : Bool := !s.isEmpty && !(s.getLast? == some 58)
theorem hexD_last (n : Nat) (s : Bs) : (s ++ hexD n).getLast? ≠ some 58 := by
  intro h
  rw [List.getLast?_append] at h
  cases e : (hexD n).getLast? with
  | none => exact hexD_ne n (List.getLast?_eq_none_iff.1 e)
  | some c =>
    rw [e] at h
    have hc : c = 58 := Option.some.inj h
    subst hc
    exact (isHexD_not 58 (hexD_chars n 58 (List.mem_of_getLast? e))).1 rfl
theorem told_snoc (l : List Nat) (n : Nat) : toldP (l ++ [n]) = (if l = [] then [] else toldP l ++ [58]) ++ hexD n := by
  unfold toldP
  rw [List.map_append, List.map_singleton]
  split
  · rename_i h; subst h; rfl
  · rename_i h
    rw [joinC_snoc _ (by simpa using h)]
theorem colQ_told (s : Bs) (hs : s = [] ∨ s.getLast? = some 58) (l : List Nat) : colQ (s ++ toldP l) = !l.isEmpty := by
  rcases List.eq_nil_or_concat l with rfl | ⟨r, n, rfl⟩
  · rw [show toldP [] = [] from rfl, List.append_nil]
    unfold colQ
    rcases hs with rfl | h
    · rfl
    · rw [h]; simp
  · rw [List.concat_eq_append, told_snoc, ← List.append_assoc]
    unfold colQ
    have h1 := hexD_last n (s ++ (if r = [] then [] else toldP r ++ [58]))
    have h2 : (s ++ (if r = [] then [] else toldP r ++ [58]) ++ hexD n).isEmpty = false := by
      cases e : (s ++ (if r = [] then [] else toldP r ++ [58]) ++ hexD n) with
      | nil => exact absurd (List.append_eq_nil_iff.1 e).2 (hexD_ne n)
      | cons _ _ => rfl
    rw [h2]
    have h3 : ((s ++ (if r = [] then [] else toldP r ++ [58]) ++ hexD n).getLast? == some 58) = false := by simpa using h1
    rw [h3]
    simp
/-- What is told ahead of a place, (p, q) being the zeros that are left out. -/
def outAt (a : List Nat) (p q i : Nat) : Bs := if p = q ∨ i ≤ p then toldP (a.take i) else toldP (a.take p) ++ [58, 58] ++ toldP ((a.drop q).take (i - q))
theorem outAt_zero (a : List Nat) (p q : Nat) : outAt a p q 0 = [] := by
  unfold outAt
  rw [if_pos (Or.inr (Nat.zero_le _))]; rfl
theorem outAt_step {a : List Nat} {p q i : Nat} (hi : i < a.length) (h : p = q ∨ i < p ∨ (p < q ∧ q ≤ i)) : outAt a p q (i + 1) = outAt a p q i ++ (if colQ (outAt a p q i) then [58] else []) ++ hexD (a.getD i 0) := by
  have hg : a.getD i 0 = a[i] := by simp [List.getD, List.getElem?_eq_getElem hi]
  by_cases h1 : p = q ∨ i < p
  · have e1 : outAt a p q (i + 1) = toldP (a.take i ++ [a[i]]) := by
      unfold outAt
      rw [if_pos (by omega), List.take_add_one, List.getElem?_eq_getElem hi]; rfl
    have e2 : outAt a p q i = toldP (a.take i) := by
      unfold outAt
      rw [if_pos (by omega)]
    have hc := colQ_told [] (Or.inl rfl) (a.take i)
    rw [List.nil_append] at hc
    rw [e1, e2, hc, told_snoc, hg]
    cases hl : a.take i with
    | nil => simp [toldP, joinP]
    | cons x r => simp
  · have hq : p < q ∧ q ≤ i := by omega
    have e1 : outAt a p q (i + 1) = toldP (a.take p) ++ [58, 58] ++ toldP ((a.drop q).take (i - q) ++ [a[i]]) := by
      unfold outAt
      rw [if_neg (by omega), show i + 1 - q = (i - q) + 1 by omega, List.take_add_one, List.getElem?_drop, show q + (i - q) = i by omega, List.getElem?_eq_getElem hi]; rfl
    have e2 : outAt a p q i = toldP (a.take p) ++ [58, 58] ++ toldP ((a.drop q).take (i - q)) := by
      unfold outAt
      rw [if_neg (by omega)]
    have hc := colQ_told (toldP (a.take p) ++ [58, 58]) (Or.inr (by simp)) ((a.drop q).take (i - q))
    rw [e1, e2, hc, told_snoc, hg]
    cases hl : (a.drop q).take (i - q) with
    | nil => simp [toldP, joinP]
    | cons x r => simp
theorem outAt_skip {a : List Nat} {p q : Nat} (h : p < q) : outAt a p q q = outAt a p q p ++ [58, 58] := by
  unfold outAt
  rw [if_neg (by omega), if_pos (by omega), Nat.sub_self, List.take_zero]
  simp [toldP, joinP]
theorem outAt_all (a : List Nat) : outAt a (runF a a.length).1 (runF a a.length).2 a.length = textP a := by
  unfold outAt textP
  rw [runF_all]
  rcases runF_ok a a.length (Nat.le_refl _) with h | h
  · rw [if_pos (Or.inl (by omega)), if_pos (by omega), List.take_length]
  · have e : (a.drop (runF a a.length).2).take (a.length - (runF a a.length).2) = a.drop (runF a a.length).2 := List.take_of_length_le (by rw [List.length_drop]; omega)
    rw [if_neg (by omega), if_neg (by omega), e]
/-- The document's answer whether a text is an address. -/
def ipR (s : Bs) : Bool :=
  if s[0]? = some 91 then (if s.length < 2 ∨ s.getLast? ≠ some 93 then false else match sixR ((s.drop 1).dropLast) with
    | some a => decide ([91] ++ textP a ++ [93] = s)
    | none => false)
  else ip4R s
theorem ipR_eq (s : Bs) : ipR s = ipP s := by
  unfold ipR
  by_cases h : s[0]? = some 91
  · rw [if_pos h]
    unfold ipP hostPr
    rw [if_pos h, sixR_eq]
    split
    · rfl
    · cases sixP ((s.drop 1).dropLast) with
      | none => rfl
      | some a =>
        show decide ([91] ++ textP a ++ [93] = s) = (([91] ++ textP a ++ [93] == s) && (s[0]? == some 91 || numberedP s))
        rw [h, Bool.eq_iff_iff]
        simp
  · rw [if_neg h, ip_four s h]
end Lz

namespace Lz
open Go
theorem pre2 (a : UInt8) (l : Bs) : ([58, 58] : Bs).isPrefixOf (a :: l) = (a == 58 && l[0]? == some 58) := by
  rw [Bool.eq_iff_iff]
  cases l with
  | nil => simp [List.isPrefixOf]
  | cons b r =>
    simp only [List.isPrefixOf, Bool.and_true, Bool.and_eq_true, beq_iff_eq, List.getElem?_cons_zero, Option.some.injEq]
    constructor
    · rintro ⟨h1, h2⟩; exact ⟨h1.symm, h2.symm⟩
    · rintro ⟨h1, h2⟩; exact ⟨h1.symm, h2.symm⟩
theorem index2_nil : Lib.index [] ([58, 58] : Bs) = -1 := rfl
theorem index2_cons (a : UInt8) (l : Bs) : Lib.index (a :: l) [58, 58] = if (a == 58 && l[0]? == some 58) = true then 0 else if Lib.index l [58, 58] = -1 then -1 else Lib.index l [58, 58] + 1 := by
  rw [Lib.index, pre2]
  split
  · rfl
  · by_cases h : Lib.index l [58, 58] = -1
    · rw [h]; rfl
    · rw [if_neg h, if_neg (by simpa using h)]
theorem index2_le : ∀ s : Bs, Lib.index s [58, 58] = -1 ∨ ∃ p : Nat, Lib.index s [58, 58] = p ∧ p + 2 ≤ s.length
  | [] => Or.inl index2_nil
  | a :: l => by
    rw [index2_cons]
    split
    · rename_i h
      right
      refine ⟨0, rfl, ?_⟩
      cases l with
      | nil => simp at h
      | cons b r => simp
    · rcases index2_le l with h | ⟨p, h, hp⟩
      · left; rw [if_pos h]
      · right
        refine ⟨p + 1, ?_, by simp; omega⟩
        rw [if_neg (by omega), h]; simp
/-- The first place, from one on, where two colons stand. -/
def atF (s : Bs) (k : Nat) : Int := if Lib.index (s.drop k) [58, 58] = -1 then -1 else Lib.index (s.drop k) [58, 58] + k
theorem atF_end {s : Bs} {k : Nat} (h : s.length ≤ k + 1) : atF s k = -1 := by
  unfold atF
  rw [if_pos]
  rcases index2_le (s.drop k) with h1 | ⟨p, _, hp⟩
  · exact h1
  · rw [List.length_drop] at hp; omega
theorem atF_step {s : Bs} {k : Nat} (h : k + 1 < s.length) : atF s k = if (s[k] == 58 && s[k + 1] == 58) = true then (k : Int) else atF s (k + 1) := by
  have e : s.drop k = s[k] :: s.drop (k + 1) := List.drop_eq_getElem_cons (by omega)
  have g : (s.drop (k + 1))[0]? = some s[k + 1] := by rw [List.getElem?_drop]; exact List.getElem?_eq_getElem h
  unfold atF
  rw [e, index2_cons, g]
  have hb : (some s[k + 1] == some (58 : UInt8)) = (s[k + 1] == 58) := rfl
  rw [hb]
  by_cases hh : (s[k] == 58 && s[k + 1] == 58) = true
  · rw [if_pos hh, if_pos hh, if_neg (by decide)]; simp
  · rw [if_neg hh, if_neg hh]
    by_cases h1 : Lib.index (s.drop (k + 1)) [58, 58] = -1
    · rw [if_pos h1, if_pos h1, if_pos rfl]
    · have h2 : 0 ≤ Lib.index (s.drop (k + 1)) [58, 58] := by
        rcases index2_le (s.drop (k + 1)) with h3 | ⟨p, h3, _⟩
        · exact absurd h3 h1
        · omega
      rw [if_neg h1, if_neg h1, if_neg (by omega)]
      omega
theorem cut_at (s : Bs) : (atF s 0 = -1 ∧ Lib.cut s [58, 58] = (s, [], false)) ∨ ∃ p : Nat, atF s 0 = p ∧ p + 2 ≤ s.length ∧ Lib.cut s [58, 58] = (s.take p, s.drop (p + 2), true) := by
  unfold atF Lib.cut
  rw [List.drop_zero]
  rcases index2_le s with h | ⟨p, h, hp⟩
  · left
    rw [if_pos h, h]
    exact ⟨rfl, rfl⟩
  · right
    refine ⟨p, ?_, hp, ?_⟩
    · rw [if_neg (by omega), h]; simp
    · rw [h, if_pos (by omega)]; rfl
theorem zerosP_cons (a : Nat) (r : List Nat) : zerosP (a :: r) = if a = 0 then zerosP r + 1 else 0 := by
  unfold zerosP
  rw [List.takeWhile_cons]
  by_cases h : a = 0
  · simp [h]
  · simp [h]
theorem zeros_lt0 : ∀ (l : List Nat) (k : Nat), k ≤ zerosP l → l[k]? = some 0 → k + 1 ≤ zerosP l
  | [], k, _, h => by simp at h
  | a :: r, 0, _, h => by
    rw [zerosP_cons, if_pos (by simpa using h)]; omega
  | a :: r, k + 1, hk, h => by
    rw [zerosP_cons] at hk ⊢
    split at hk
    · rename_i h0
      rw [if_pos h0]
      have := zeros_lt0 r k (by omega) (by simpa using h)
      omega
    · omega
theorem zeros_end0 : ∀ (l : List Nat) (k n : Nat), k ≤ zerosP l → l[k]? = some n → n ≠ 0 → zerosP l = k
  | [], k, _, _, h, _ => by simp at h
  | a :: r, 0, n, _, h, hn => by
    have : a = n := by simpa using h
    rw [zerosP_cons, if_neg (by omega)]
  | a :: r, k + 1, n, hk, h, hn => by
    rw [zerosP_cons] at hk ⊢
    split at hk
    · rename_i h0
      rw [if_pos h0, zeros_end0 r k n (by omega) (by simpa using h) hn]
    · omega
theorem zeros_lt {x : List Nat} {i k : Nat} (hk : k ≤ zerosP (x.drop i)) (hg : x[i + k]? = some 0) : k + 1 ≤ zerosP (x.drop i) := zeros_lt0 _ _ hk (by rw [List.getElem?_drop]; exact hg)
theorem zeros_end {x : List Nat} {i k n : Nat} (hk : k ≤ zerosP (x.drop i)) (hg : x[i + k]? = some n) (hn : n ≠ 0) : zerosP (x.drop i) = k := zeros_end0 _ _ n hk (by rw [List.getElem?_drop]; exact hg) hn
theorem zeros_le (l : List Nat) : zerosP l ≤ l.length := by unfold zerosP; exact (List.takeWhile_prefix _).length_le
theorem zeros_past {x : List Nat} {i k : Nat} (hk : k ≤ zerosP (x.drop i)) (h : x.length ≤ i + k) : zerosP (x.drop i) = k := by
  have := zeros_le (x.drop i)
  rw [List.length_drop] at this
  omega
theorem decs_cons (x : Bs) (r : List Bs) : (x :: r).mapM decP = match decP x with | none => none | some n => (r.mapM decP).map (n :: ·) := by
  rw [List.mapM_cons]
  cases decP x with
  | none => rfl
  | some n => cases r.mapM decP <;> rfl
theorem decP_le {x : Bs} {n : Nat} (h : decP x = some n) : n ≤ 255 := by
  have := (decP_iff.1 h).1
  omega
theorem numR_le (b : Nat) : ∀ (l : Bs) (n m : Nat), n ≤ 1099511627776 → numF b n l = some m → m ≤ 1099511627776
  | [], n, m, hn, h => by
    have : n = m := by simpa [numF] using h
    omega
  | c :: r, n, m, hn, h => by
    rw [numF] at h
    cases hc : hexV c with
    | none => rw [hc] at h; cases h
    | some d =>
      rw [hc] at h
      simp only at h
      split at h
      · cases h
      · exact numR_le b r _ m (Nat.min_le_right _ _) h
theorem pieceR_le {x : Bs} {n : Nat} (h : pieceR x = some n) : n ≤ 1099511627776 := by
  unfold pieceR at h
  split at h
  · cases h
  · exact numR_le 16 x 0 n (by omega) h
theorem rowR_ok (last : Bool) : ∀ (l : List Bs) (a : List Nat), rowR last l = some a → a.length ≤ l.length + 1 ∧ ∀ n ∈ a, n ≤ 1099511627776
  | [], a, h => by
    have : a = [] := by simpa [rowR] using h.symm
    subst this; simp
  | x :: r, a, h => by
    unfold rowR at h
    split at h
    · cases hm : (splitC 46 x).mapM decP with
      | none => rw [hm] at h; cases h
      | some b =>
        rw [hm] at h
        obtain rfl := Option.some.inj h
        have hb : ∀ (l : List Bs) (b : List Nat), l.mapM decP = some b → ∀ n ∈ b, n ≤ 255 := by
          intro l
          induction l with
          | nil => intro b hb; have : b = [] := by simpa using hb.symm
                   subst this; simp
          | cons y t ih =>
            intro b hb
            rw [decs_cons] at hb
            cases hy : decP y with
            | none => rw [hy] at hb; cases hb
            | some v =>
              rw [hy] at hb
              simp only [Option.map_eq_some_iff] at hb
              obtain ⟨c, hc, rfl⟩ := hb
              intro n hn
              rcases List.mem_cons.1 hn with rfl | hn
              · exact decP_le hy
              · exact ih c hc n hn
        have hg : ∀ i, b.getD i 0 ≤ 255 := by
          intro i
          rw [List.getD_eq_getElem?_getD]
          cases hi : b[i]? with
          | none => simp
          | some v => exact hb _ _ hm v (List.mem_of_getElem? hi)
        refine ⟨by simp, ?_⟩
        intro n hn
        have h0 := hg 0; have h1 := hg 1; have h2 := hg 2; have h3 := hg 3
        simp only [List.mem_cons, List.not_mem_nil, or_false] at hn
        rcases hn with rfl | rfl <;> omega
    · cases hp : pieceR x with
      | none => rw [hp] at h; cases h
      | some n =>
        rw [hp] at h
        simp only [Option.map_eq_some_iff] at h
        obtain ⟨c, hc, rfl⟩ := h
        obtain ⟨h1, h2⟩ := rowR_ok last r c hc
        refine ⟨by simp; omega, ?_⟩
        intro m hm
        rcases List.mem_cons.1 hm with rfl | hm
        · exact pieceR_le hp
        · exact h2 m hm
theorem rowSR_ok {s : Bs} {last : Bool} {a : List Nat} (h : rowSR s last = some a) : a.length ≤ s.length + 2 ∧ ∀ n ∈ a, n ≤ 1099511627776 := by
  unfold rowSR at h
  split at h
  · obtain rfl := Option.some.inj h; simp
  · obtain ⟨h1, h2⟩ := rowR_ok last _ a h
    have := splitC_len 58 s
    exact ⟨by omega, h2⟩
theorem rowR_four {x : Bs} {r : List Bs} {last : Bool} (h : (last && r.isEmpty && (splitC 46 x).length == 4) = true) : rowR last (x :: r) = ((splitC 46 x).mapM decP).map fun b => [b.getD 0 0 * 256 + b.getD 1 0, b.getD 2 0 * 256 + b.getD 3 0] := by
  rw [rowR, if_pos h]
theorem rowR_one {x : Bs} {r : List Bs} {last : Bool} (h : (last && r.isEmpty && (splitC 46 x).length == 4) = false) : rowR last (x :: r) = match pieceR x with | none => none | some n => (rowR last r).map (n :: ·) := by
  (rw [rowR, if_neg (by rw [h]; decide)]) <;> cases pieceR x <;> rfl
end Lz
