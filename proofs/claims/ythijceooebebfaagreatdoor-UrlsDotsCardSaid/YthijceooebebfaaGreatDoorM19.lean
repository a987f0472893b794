/-
  Plain laws of URLs: ReplaceAll of %2e by a dot. No program in sight.
  Plain laws on what package urls does piece by piece: one step of a path, cuts by places.
  strings.TrimFunc at blanks: bytes up to 32 fall away in front and behind.
  Package urls: Default, Special, drive, driven, colon.
  Package urls: paths in memory; rooted, dots.
-/
import Derived.Test.YthijceooebebfaaGreatDoorM14
import Derived.Lib.Replace
import Derived.Test.YthijceooebebfaaGreatDoorM18
import Derived.Shelf.Strings.FuncGrows
import Derived.Lib.TrimU
import Derived.Lib.RuneCountTail
import Derived.Shelf.Unicode.DecodeLast
import Derived.Shelf.Spec.DecodeLastRune8
import Derived.Lib.TrimAscii
import Derived.Test.YthijceooebebfaaGreatDoorM04
namespace Lz
open Go
theorem unE_no {b : UInt8} {l : Bs} (h : ([37, 50, 101] : Bs).isPrefixOf (b :: l) = false) : unE (b :: l) = b :: unE l := by
  conv => lhs; unfold unE
  split
  · rename_i r he
    rw [he] at h
    simp [List.isPrefixOf] at h
  · rename_i c r _ he
    injection he with h1 h2
    rw [h1, h2]
  · rename_i he
    cases he
theorem unE_yes (r : Bs) : unE (37 :: 50 :: 101 :: r) = 46 :: unE r := by
  conv => lhs; unfold unE
  rfl
theorem pre_form {s : Bs} (h : ([37, 50, 101] : Bs).isPrefixOf s = true) : ∃ r, s = 37 :: 50 :: 101 :: r := by
  match s, h with
  | a :: b :: c :: r, h =>
    simp only [List.isPrefixOf, Bool.and_true, Bool.and_eq_true, beq_iff_eq] at h
    obtain ⟨h1, h2, h3⟩ := h
    exact ⟨r, by rw [← h1, ← h2, ← h3]⟩
  | [], h => simp [List.isPrefixOf] at h
  | [_], h => simp [List.isPrefixOf] at h
  | [_, _], h => simp [List.isPrefixOf] at h
theorem unE_index : ∀ s : Bs, (Lib.index s [37, 50, 101] = -1 → unE s = s) ∧ (∀ i : Nat, Lib.index s [37, 50, 101] = i → unE s = s.take i ++ 46 :: unE (s.drop (i + 3)))
  | [] => ⟨fun _ => by unfold unE; rfl, fun i h => by
      have : Lib.index [] ([37, 50, 101] : Bs) = -1 := rfl
      rw [this] at h; omega⟩
  | b :: l => by
    obtain ⟨ih1, ih2⟩ := unE_index l
    rw [Lib.index]
    cases hp : ([37, 50, 101] : Bs).isPrefixOf (b :: l) with
    | true =>
      obtain ⟨r, hr⟩ := pre_form hp
      simp only [if_true]
      refine ⟨fun h => by omega, fun i h => ?_⟩
      have hi : i = 0 := by omega
      subst hi
      rw [hr, unE_yes]; rfl
    | false =>
      simp only [Bool.false_eq_true, if_false]
      have hge := Lib.index_ge l [37, 50, 101]
      by_cases h1 : Lib.index l [37, 50, 101] = -1
      · rw [h1]
        refine ⟨fun _ => by rw [unE_no hp, ih1 h1], fun i h => ?_⟩
        have : ((-1 : Int) == -1) = true := rfl
        rw [this, if_pos rfl] at h
        omega
      · have hb : (Lib.index l [37, 50, 101] == -1) = false := by rw [beq_eq_false_iff_ne]; exact h1
        rw [hb]
        simp only [Bool.false_eq_true, if_false]
        refine ⟨fun h => by omega, fun i h => ?_⟩
        obtain ⟨j, rfl⟩ : ∃ j, i = j + 1 := ⟨i - 1, by omega⟩
        rw [unE_no hp, ih2 j (by omega)]
        rfl
theorem replaceK_unE : ∀ (f : Nat) (s : Bs), s.length < f → Lib.replaceK [37, 50, 101] [46] (Lib.countFrom [37, 50, 101] f s) s = unE s
  | 0, s, h => by omega
  | f + 1, s, h => by
    obtain ⟨h1, h2⟩ := unE_index s
    rw [Lib.countFrom]
    by_cases hi : Lib.index s [37, 50, 101] = -1
    · rw [hi]
      show Lib.replaceK _ _ 0 s = _
      rw [h1 hi]; rfl
    · have hge := Lib.index_ge s [37, 50, 101]
      obtain ⟨i, hin⟩ : ∃ i : Nat, Lib.index s [37, 50, 101] = i := ⟨(Lib.index s [37, 50, 101]).toNat, by omega⟩
      have hb : (Lib.index s [37, 50, 101] == -1) = false := by rw [beq_eq_false_iff_ne]; exact hi
      rw [hb]
      simp only [Bool.false_eq_true, if_false]
      rw [Nat.add_comm 1, Lib.replaceK_hit _ _ _ _ i hin, hin]
      have hd : (s.drop (i + ([37, 50, 101] : Bs).length)).length < f := by
        have hs : s ≠ [] := by
          rintro rfl
          exact hi rfl
        have hl : 0 < s.length := by
          cases s with
          | nil => exact absurd rfl hs
          | cons _ _ => simp
        rw [List.length_drop]
        show s.length - (i + 3) < f
        omega
      have ih := replaceK_unE f (s.drop (i + ([37, 50, 101] : Bs).length)) hd
      have e : ((i : Int)).toNat = i := by omega
      rw [e, ih, h2 i hin]
      simp
theorem replace_unE (s : Bs) : Lib.replaceAll s [37, 50, 101] [46] = unE s := by
  unfold Lib.replaceAll Lib.replace
  rw [if_neg (by decide)]
  unfold Lib.replaceNum
  rw [if_pos (Or.inl (by decide))]
  exact replaceK_unE (s.length + 1) s (by omega)
end Lz

namespace Lz
open Go

/-- One piece of a path, read. -/
def stepL (scheme : Bs) (path : List Bs) (p : Bs) (more : Bool) : List Bs :=
  let q := encodeP (setU 4) p
  if dotsP q = 2 then (if more = false then shortP scheme path ++ [[]] else shortP scheme path)
  else if dotsP q = 1 then (if more = false then path ++ [[]] else path)
  else path ++ [if scheme = fileS ∧ path = [] ∧ driveP q = true then q.take 1 ++ [58] else q]
theorem splitS_cut (sp : Bool) : ∀ s : Bs, splitS sp s = (cutS sp s).1 :: (if (cutS sp s).2.2 then splitS sp (cutS sp s).2.1 else [])
  | [] => rfl
  | c :: r => by
    have ih := splitS_cut sp r
    rw [splitS]
    by_cases h : slashQ sp c = true
    · have h1 : (cutS sp (c :: r)) = ([], r, true) := by simp [cutS, h]
      rw [if_pos h, h1]
      simp
    · have h2 : slashQ sp c = false := by simpa using h
      have h1 : (cutS sp (c :: r)) = (c :: (cutS sp r).1, (cutS sp r).2.1, (cutS sp r).2.2) := by simp [cutS, h2]
      rw [if_neg h, h1, ih]
theorem onL_step (scheme : Bs) (path : List Bs) (p : Bs) (r : List Bs) : onL scheme path (p :: r) = onL scheme (stepL scheme path p (!decide (r = []))) r := by
  rw [onL, stepL]
  by_cases hr : r = []
  · simp only [hr]
    by_cases h2 : dotsP (encodeP (setU 4) p) = 2
    · simp [h2]
    · by_cases h1 : dotsP (encodeP (setU 4) p) = 1 <;> simp [h1, h2]
  · simp only [hr]
    by_cases h2 : dotsP (encodeP (setU 4) p) = 2
    · simp [h2]
    · by_cases h1 : dotsP (encodeP (setU 4) p) = 1 <;> simp [h1, h2]
theorem onL_nil (scheme : Bs) (path : List Bs) : onL scheme path [] = path := by rw [onL]
/-- One round of on. -/
theorem onP_step (u : UrlL) (t : Bs) : onP u t = if (cutS (specP u.scheme) t).2.2 then onP { u with path := stepL u.scheme u.path (cutS (specP u.scheme) t).1 true } (cutS (specP u.scheme) t).2.1 else { u with path := stepL u.scheme u.path (cutS (specP u.scheme) t).1 false } := by
  unfold onP
  rw [splitS_cut, onL_step]
  cases h : (cutS (specP u.scheme) t).2.2
  · simp [onL_nil]
  · simp [splitS_ne]
theorem stepL_dots2 (scheme : Bs) (path : List Bs) (p : Bs) (more : Bool) (h : dotsP (encodeP (setU 4) p) = 2) : stepL scheme path p more = if more = false then shortP scheme path ++ [[]] else shortP scheme path := by simp [stepL, h]
theorem stepL_dots1 (scheme : Bs) (path : List Bs) (p : Bs) (more : Bool) (h : dotsP (encodeP (setU 4) p) = 1) : stepL scheme path p more = if more = false then path ++ [[]] else path := by simp [stepL, h]
theorem stepL_dots0 (scheme : Bs) (path : List Bs) (p : Bs) (more : Bool) (h : dotsP (encodeP (setU 4) p) = 0) : stepL scheme path p more = path ++ [if scheme = fileS ∧ path = [] ∧ driveP (encodeP (setU 4) p) = true then (encodeP (setU 4) p).take 1 ++ [58] else encodeP (setU 4) p] := by simp [stepL, h]
theorem dotsP_cases (p : Bs) : dotsP p = 0 ∨ dotsP p = 1 ∨ dotsP p = 2 := by
  unfold dotsP; split
  · exact .inr (.inl rfl)
  · split
    · exact .inr (.inr rfl)
    · exact .inl rfl
/-- The first place of a byte that a test says yes to. -/
def plQ (q : UInt8 → Bool) (l : Bs) : Option Nat := l.findIdx? q
theorem plQ_none {q : UInt8 → Bool} {l : Bs} (h : plQ q l = none) : l.takeWhile (fun c => !q c) = l ∧ l.dropWhile (fun c => !q c) = [] ∧ l.any q = false := by
  induction l with
  | nil => exact ⟨rfl, rfl, rfl⟩
  | cons c r ih =>
    rw [plQ, List.findIdx?_cons] at h
    cases hc : q c with
    | true => rw [hc] at h; simp at h
    | false =>
      rw [hc] at h
      obtain ⟨h1, h2, h3⟩ := ih (by simpa [plQ] using h)
      simp [hc, h1, h2, h3]
theorem plQ_some {q : UInt8 → Bool} {l : Bs} {i : Nat} (h : plQ q l = some i) : i < l.length ∧ l.takeWhile (fun c => !q c) = l.take i ∧ (l.dropWhile (fun c => !q c)).drop 1 = l.drop (i + 1) ∧ l.any q = true := by
  induction l generalizing i with
  | nil => cases h
  | cons c r ih =>
    rw [plQ, List.findIdx?_cons] at h
    cases hc : q c with
    | true =>
      rw [hc] at h
      obtain rfl : 0 = i := by simpa using h
      simp [hc]
    | false =>
      rw [hc] at h
      simp only [Bool.false_eq_true, if_false, Option.map_eq_some_iff] at h
      obtain ⟨k, hk, rfl⟩ := h
      obtain ⟨h1, h2, h3, h4⟩ := ih hk
      exact ⟨by simp; omega, by simp [hc, h2], by simp [hc, h3], by simp [hc, h4]⟩
theorem cutS_none {sp : Bool} {s : Bs} (h : plQ (slashQ sp) s = none) : cutS sp s = (s, [], false) := by
  obtain ⟨h1, h2, h3⟩ := plQ_none h
  simp [cutS, h1, h2, h3]
theorem cutS_some {sp : Bool} {s : Bs} {i : Nat} (h : plQ (slashQ sp) s = some i) : cutS sp s = (s.take i, s.drop (i + 1), true) := by
  obtain ⟨h0, h1, h2, h3⟩ := plQ_some h
  unfold cutS; rw [h1, h2, h3]
theorem plQ_lt {q : UInt8 → Bool} {l : Bs} {i : Nat} (h : plQ q l = some i) : i < l.length := (plQ_some h).1
theorem plQ_skip (q : UInt8 → Bool) (l : Bs) (pos : Nat) : ∀ k, (∀ j b, pos ≤ j → j < pos + k → l[j]? = some b → q b = false) → (plQ q (l.drop pos)).map (· + pos) = (plQ q (l.drop (pos + k))).map (· + (pos + k))
  | 0, _ => rfl
  | k + 1, h => by
    rw [plQ_skip q l pos k fun j b h1 h2 hj => h j b h1 (by omega) hj]
    by_cases hl : pos + k < l.length
    · rw [List.drop_eq_getElem_cons hl, plQ, List.findIdx?_cons, h (pos + k) l[pos + k] (by omega) (by omega) (List.getElem?_eq_getElem hl)]
      show _ = Option.map _ (plQ q (l.drop (pos + k + 1)))
      rw [plQ]
      cases List.findIdx? q (l.drop (pos + k + 1)) with
      | none => rfl
      | some n => simp; omega
    · rw [List.drop_eq_nil_of_le (by omega), List.drop_eq_nil_of_le (by omega)]; rfl
theorem stepL_len (scheme : Bs) (path : List Bs) (p : Bs) (more : Bool) : (stepL scheme path p more).length ≤ path.length + 1 := by
  have hs : (shortP scheme path).length ≤ path.length := by
    unfold shortP; split
    · exact Nat.le_refl _
    · simp
  rcases dotsP_cases (encodeP (setU 4) p) with h | h | h
  · rw [stepL_dots0 _ _ _ _ h]; simp
  · rw [stepL_dots1 _ _ _ _ h]; split <;> simp
  · rw [stepL_dots2 _ _ _ _ h]; split <;> simp <;> omega
theorem cutS_more_len {sp : Bool} {s : Bs} (h : (cutS sp s).2.2 = true) : (cutS sp s).1.length + (cutS sp s).2.1.length + 1 = s.length := by
  cases hp : plQ (slashQ sp) s with
  | none => rw [cutS_none hp] at h; cases h
  | some i =>
    have := plQ_lt hp
    rw [cutS_some hp]
    simp; omega
theorem slash_contains (sp : Bool) : (if sp then ([47, 92] : Bs) else [47]).contains = slashQ sp := by
  funext c
  cases sp <;> (rw [Bool.eq_iff_iff]; simp [slashQ])
end Lz

namespace Lz
open Go
def spQ (c : UInt8) : Bool := decide (c ≤ 32)
def pSp (x : Nat) : Bool := decide (x ≤ 32)
theorem pSp_byte (c : UInt8) : pSp c.toNat = spQ c := by
  unfold pSp spQ
  congr 1
theorem pSp_hi {x : Nat} (h : 128 ≤ x) : pSp x = false := by unfold pSp; rw [decide_eq_false]; omega
theorem spQ_hi {c : UInt8} (h : 128 ≤ c.toNat) : spQ c = false := by rw [← pSp_byte]; exact pSp_hi h
/-- Where the first byte is that is no blank. -/
theorem idx_sp (s : ByteArray) : ∀ f pos, s.size ≤ pos + f → Lib.idxFuncFrom pSp false s f pos = if (s.data.toList.drop pos).all spQ then -1 else ((pos + ((s.data.toList.drop pos).takeWhile spQ).length : Nat) : Int)
  | 0, pos, h => by
    rw [List.drop_eq_nil_of_le (by show s.size ≤ pos; omega)]; rfl
  | f + 1, pos, h => by
    rw [Lib.idxFuncFrom]
    by_cases hps : pos < s.size
    · rw [if_pos hps]
      have hd : s.data.toList.drop pos = s[pos] :: s.data.toList.drop (pos + 1) := by
        rw [List.drop_eq_getElem_cons (show pos < s.data.toList.length from hps)]; rfl
      rw [hd, List.all_cons]
      rcases Nat.lt_or_ge (s[pos]'hps).toNat 128 with h1 | h1
      · rw [decode_ascii s pos hps h1, pSp_byte]
        cases hq : spQ s[pos] with
        | false => simp [hq]
        | true =>
          simp only [Bool.true_and, Bool.true_eq_false, if_false]
          rw [idx_sp s f (pos + 1) (by omega)]
          split
          · rfl
          · rw [List.takeWhile_cons, hq]; simp; omega
      · rw [pSp_hi (rune_hi s pos hps h1), spQ_hi h1]
        simp [spQ_hi h1]
    · rw [if_neg hps, List.drop_eq_nil_of_le (by show s.size ≤ pos; omega)]; rfl
theorem drop_takeWhile (q : UInt8 → Bool) (l : Bs) : l.drop (l.takeWhile q).length = l.dropWhile q := by
  induction l with
  | nil => rfl
  | cons c r ih =>
    rw [List.takeWhile_cons, List.dropWhile_cons]
    split
    · simpa using ih
    · rfl
theorem all_dropWhile {q : UInt8 → Bool} {l : Bs} (h : l.all q = true) : l.dropWhile q = [] := by
  induction l with
  | nil => rfl
  | cons c r ih =>
    rw [List.all_cons, Bool.and_eq_true] at h
    rw [List.dropWhile_cons, if_pos h.1]
    exact ih h.2
theorem trimLeft_sp (s : ByteArray) : (Lib.trimLeftF pSp s).data.toList = s.data.toList.dropWhile spQ := by
  unfold Lib.trimLeftF Lib.idxFunc
  rw [idx_sp s s.size 0 (by omega), List.drop_zero]
  by_cases h : s.data.toList.all spQ = true
  · rw [if_pos h, if_pos rfl, all_dropWhile h]
  · rw [if_neg h, if_neg (by omega)]
    rw [Lib.extract_data, Nat.zero_add]
    rw [show ((((s.data.toList.takeWhile spQ).length : Nat) : Int)).toNat = (s.data.toList.takeWhile spQ).length from rfl, drop_takeWhile, List.take_of_length_le]
    rw [← drop_takeWhile, List.length_drop]
    show s.size - _ ≤ _
    exact Nat.le_refl _
/-- What is decoded of all bytes that there are is decoded so where more follow that go on with no rune. -/
theorem dec_more {n n' b0 b1 b2 b3 c1 c2 c3 : Nat} (h0 : 128 ≤ b0) (hw : (Lib.decodeN n b0 b1 b2 b3).2 = n) (hn : n ≤ n') (h1 : 1 < n → c1 = b1) (h2 : 2 < n → c2 = b2) (h3 : 3 < n → c3 = b3) (he : n = 1 → n' = 1 ∨ c1 / 64 ≠ 2) : (Lib.decodeN n' b0 c1 c2 c3).2 = n := by
  rcases Lib.decodeN_shape n b0 b1 b2 b3 with ⟨h, _⟩ | ⟨ha, hb, hc, hd, h⟩ | ⟨ha, hb, hc, hd, he1, hf, h⟩ | ⟨ha, hb, hc, hd, he1, hf, hg, h⟩ | h
  · omega
  · rw [h] at hw
    obtain rfl : n = 2 := hw.symm
    rw [h1 (by omega)]
    unfold Lib.decodeN
    rw [if_neg (by omega), if_pos ⟨ha, by omega, hc⟩, if_pos hd]
  · rw [h] at hw
    obtain rfl : n = 3 := hw.symm
    rw [h1 (by omega), h2 (by omega)]
    unfold Lib.decodeN
    rw [if_neg (by omega), if_neg (by omega), if_pos ⟨ha, ⟨by omega, hc⟩, ⟨by omega, hd⟩⟩, if_pos ⟨he1, by omega⟩]
  · rw [h] at hw
    obtain rfl : n = 4 := hw.symm
    rw [h1 (by omega), h2 (by omega), h3 (by omega)]
    unfold Lib.decodeN
    rw [if_neg (by omega), if_neg (by omega), if_neg (by omega), if_pos ⟨ha, ⟨by omega, hc⟩, ⟨by omega, hd⟩, ⟨by omega, he1⟩⟩, if_pos ⟨hf, by omega⟩]
  · rw [h] at hw
    obtain rfl : n = 1 := hw.symm
    have := he rfl
    unfold Lib.decodeN
    rw [if_neg (by omega), if_neg (by omega), if_neg (by omega), if_neg (by omega)]
theorem dec_hi {n b0 b1 b2 b3 : Nat} (h0 : 128 ≤ b0) : 128 ≤ (Lib.decodeN n b0 b1 b2 b3).1 := by
  rcases Lib.decodeN_shape n b0 b1 b2 b3 with ⟨h, _⟩ | ⟨ha, hb, hc, hd, h⟩ | ⟨ha, hb, hc, hd, he1, hf, h⟩ | ⟨ha, hb, hc, hd, he1, hf, hg, h⟩ | h
  · omega
  · rw [h]; exact hd
  · rw [h]; show 128 ≤ _; omega
  · rw [h]; show 128 ≤ _; omega
  · rw [h]; show 128 ≤ 65533; omega

theorem get_nat' (s : ByteArray) (j : Nat) (h : j < s.size) : s.get! j = s[j]'h := by
  show s.data[j]! = _
  rw [getElem!_pos s.data j h]; rfl
/-- The last rune of a beginning behind which only blanks stand, where its last byte is beyond 127. -/
theorem last_dec (s : ByteArray) (i : Nat) (hi0 : 0 < i) (hi : i ≤ s.size) (hhi : 128 ≤ (s[i - 1]'(by omega)).toNat) (hend : ∀ h : i < s.size, (s[i]'h).toNat ≤ 32) :
    128 ≤ (Lib.decodeLastL (s.data.toList.take i)).1 ∧ (Lib.decodeLastL (s.data.toList.take i)).2 ≤ i ∧ (Utf8.decode s (i - (Lib.decodeLastL (s.data.toList.take i)).2)).2 = (Lib.decodeLastL (s.data.toList.take i)).2 := by
  obtain ⟨t, ht⟩ : ∃ t : ByteArray, t = s.extract 0 i := ⟨_, rfl⟩
  have htd : t.data.toList = s.data.toList.take i := by rw [ht, Lib.extract_data]; rfl
  have htz : t.size = i := by
    show t.data.toList.length = i
    rw [htd, List.length_take]
    show min i s.size = i
    omega
  have hg : ∀ j, j < i → t.get! j = s.get! j := fun j hj => by rw [ht, Go.Proofs.get!_extract' s 0 i j (by omega) hi, Nat.zero_add]
  have hlast : (s.get! (i - 1)).toNat = (s[i - 1]'(by omega)).toNat := by rw [get_nat' s (i - 1) (by omega)]
  have hone : (Utf8.decode s (i - 1)).2 = 1 := by
    rw [Lib.decode_at, show i - 1 + 1 = i by omega]
    refine dec_more (n := 1) (n' := s.size - (i - 1)) (b1 := 0) (b2 := 0) (b3 := 0) (by omega) ?_ (by omega) (by omega) (by omega) (by omega) (fun _ => ?_)
    · rcases Lib.decodeN_shape 1 (s.get! (i - 1)).toNat 0 0 0 with ⟨h, _⟩ | ⟨_, h, _⟩ | ⟨_, h, _⟩ | ⟨_, h, _⟩ | h
      · omega
      · omega
      · omega
      · omega
      · rw [h]
    · by_cases h : i < s.size
      · right
        have := hend h
        rw [get_nat' s i h]; omega
      · left; omega
  rw [← htd, Lib.decodeLastL_eq t (by omega) (by rw [htz, hg (i - 1) (by omega), hlast]; exact hhi)]
  have hls := Lib.lastStart_lt t.data.toList (fun h => by
    have h0 : t.data.toList.length = 0 := by rw [h]; rfl
    have h1 : t.data.toList.length = i := htz
    omega)
  have hls' : Lib.lastStart t.data.toList < i := by rw [← htz]; exact hls
  unfold Lib.lastOf
  obtain ⟨k, hk⟩ : ∃ k, k = Lib.lastStart t.data.toList := ⟨_, rfl⟩
  rw [← hk] at hls' ⊢
  have hgo : Lib.decodeGo (t.extract k t.size) = Utf8.decode t k := by
    unfold Lib.decodeGo
    rw [if_neg (by rw [ByteArray.size_extract]; omega), Lib.tail_decode]; rfl
  rw [hgo, htz]
  by_cases he : k + (Utf8.decode t k).2 = i
  · rw [if_pos he]
    have hd : Utf8.decode t k = Lib.decodeN (i - k) (s.get! k).toNat (t.get! (k + 1)).toNat (t.get! (k + 2)).toNat (t.get! (k + 3)).toNat := by
      rw [Lib.decode_at, htz, hg k hls']
    have hb0 : 128 ≤ (s.get! k).toNat := by
      rcases Nat.lt_or_ge (s.get! k).toNat 128 with h | h
      · exfalso
        have h1 : (Utf8.decode t k).2 = 1 := by
          rw [hd]; unfold Lib.decodeN; rw [if_pos h]
        have : k = i - 1 := by omega
        rw [this] at h
        omega
      · exact h
    refine ⟨by rw [hd]; exact dec_hi hb0, by omega, ?_⟩
    rw [show i - (Utf8.decode t k).2 = k by omega, Lib.decode_at s k]
    have hw : (Lib.decodeN (i - k) (s.get! k).toNat (t.get! (k + 1)).toNat (t.get! (k + 2)).toNat (t.get! (k + 3)).toNat).2 = i - k := by rw [← hd]; omega
    rw [dec_more hb0 hw (by omega) (fun h => by rw [hg (k + 1) (by omega)]) (fun h => by rw [hg (k + 2) (by omega)]) (fun h => by rw [hg (k + 3) (by omega)]) (fun h => by
      by_cases h2 : i < s.size
      · right
        have := hend h2
        rw [show k + 1 = i by omega, get_nat' s i h2]; omega
      · left; omega)]
    omega
  · rw [if_neg he]
    exact ⟨by show 128 ≤ Utf8.runeError; decide, by show 1 ≤ i; omega, by show (Utf8.decode s (i - 1)).2 = 1; exact hone⟩
/-- How much is left of a beginning. -/
def lenR (l : Bs) (i : Nat) : Nat := ((l.take i).reverse.dropWhile spQ).length
theorem lenR_succ {l : Bs} {i : Nat} {b : UInt8} (h : l[i]? = some b) : lenR l (i + 1) = if spQ b then lenR l i else i + 1 := by
  obtain ⟨hi, he⟩ := List.getElem?_eq_some_iff.1 h
  unfold lenR
  rw [List.take_succ_eq_append_getElem hi, he, List.reverse_append, List.reverse_singleton, List.singleton_append, List.dropWhile_cons]
  split
  · rfl
  · simp; omega
theorem right_sp (s : ByteArray) : ∀ f i, i ≤ f → i ≤ s.size → (∀ j, i ≤ j → ∀ h : j < s.size, (s[j]'h).toNat ≤ 32) →
    (if 0 ≤ Lib.lastIdxFuncFrom pSp false s f i then (Lib.lastIdxFuncFrom pSp false s f i).toNat + (Utf8.decode s (Lib.lastIdxFuncFrom pSp false s f i).toNat).2 else 0) = lenR s.data.toList i
  | 0, i, hf, hi, _ => by
    obtain rfl : i = 0 := by omega
    rfl
  | f + 1, i, hf, hi, ht => by
    cases i with
    | zero => rw [Lib.lastIdxFuncFrom]; rfl
    | succ m =>
      have hm : m < s.size := by omega
      have hstep : Lib.lastIdxFuncFrom pSp false s (f + 1) (m + 1) = if pSp (Lib.decodeLastL (s.data.toList.take (m + 1))).1 = false then (((m + 1) - (Lib.decodeLastL (s.data.toList.take (m + 1))).2 : Nat) : Int) else Lib.lastIdxFuncFrom pSp false s f ((m + 1) - (Lib.decodeLastL (s.data.toList.take (m + 1))).2) := by
        rw [Lib.lastIdxFuncFrom, if_pos (Nat.succ_pos m)]
      rw [hstep]
      have hcg : s.data.toList[m]? = some (s[m]'hm) := by
        rw [List.getElem?_eq_getElem (show m < s.data.toList.length from hm)]; rfl
      rw [lenR_succ hcg]
      rcases Nat.lt_or_ge (s[m]'hm).toNat 128 with h1 | h1
      · have hd : Lib.decodeLastL (s.data.toList.take (m + 1)) = ((s[m]'hm).toNat, 1) := by
          obtain ⟨hml, hme⟩ := List.getElem?_eq_some_iff.1 hcg
          rw [List.take_succ_eq_append_getElem hml, hme]
          exact Lib.decodeLastL_ascii _ _ h1
        rw [hd, pSp_byte]
        cases hq : spQ (s[m]'hm) with
        | false =>
          simp only [if_true, Bool.false_eq_true, if_false]
          rw [show m + 1 - 1 = m by omega, if_pos (by omega), show ((m : Int)).toNat = m from rfl, decode_ascii s m hm h1]
        | true =>
          simp only [Bool.true_eq_false, if_false, if_true]
          rw [show m + 1 - 1 = m by omega]
          refine right_sp s f m (by omega) (by omega) fun j hj hjl => ?_
          rcases Nat.eq_or_lt_of_le hj with e | e
          · subst e
            have : spQ (s[m]'hm) = true := hq
            unfold spQ at this
            have h2 := of_decide_eq_true this
            exact h2
          · exact ht j e hjl
      · obtain ⟨hd1, hd2, hd3⟩ := last_dec s (m + 1) (by omega) hi (by simpa using h1) (fun h => ht (m + 1) (Nat.le_refl _) h)
        rw [pSp_hi hd1, spQ_hi h1]
        simp only [if_true, Bool.false_eq_true, if_false]
        rw [if_pos (by omega), Int.toNat_natCast, hd3]
        omega
theorem last_lt (s : ByteArray) : ∀ f i, i ≤ s.size → Lib.lastIdxFuncFrom pSp false s f i < 0 ∨ Lib.lastIdxFuncFrom pSp false s f i < s.size
  | 0, _, _ => .inl (by rw [Lib.lastIdxFuncFrom]; omega)
  | f + 1, i, hi => by
    rw [Lib.lastIdxFuncFrom]
    by_cases h : 0 < i
    · rw [if_pos h]
      have hw := (Lib.decodeLastL_width (s.data.toList.take i) (by rw [List.length_take]; show 0 < min i s.size; omega)).1
      split
      · right; omega
      · exact last_lt s f _ (by omega)
    · rw [if_neg h]; left; omega
theorem trimRight_sp (s : ByteArray) : (Lib.trimRightF pSp s).data.toList = (s.data.toList.reverse.dropWhile spQ).reverse := by
  have h := right_sp s s.size s.size (Nat.le_refl _) (Nat.le_refl _) (fun j hj hjl => by omega)
  have hend : Lib.rightEndF pSp s = lenR s.data.toList s.size := by
    rw [← h]
    unfold Lib.rightEndF Lib.lastIdxFunc
    split
    · rename_i h0
      have hlt := last_lt s s.size s.size (Nat.le_refl _)
      congr 1
      unfold Lib.decodeGoB
      by_cases hz : (s.extract (Lib.lastIdxFuncFrom pSp false s s.size s.size).toNat s.size).size = 0
      · exfalso
        rw [ByteArray.size_extract] at hz
        omega
      · rw [if_neg hz, Lib.tail_decode]; rfl
    · rfl
  unfold Lib.trimRightF
  rw [hend, Lib.extract_data]
  show (s.data.toList.drop 0).take (lenR s.data.toList s.size - 0) = _
  unfold lenR
  rw [show s.data.toList.take s.size = s.data.toList from List.take_of_length_le (Nat.le_refl _), List.drop_zero, Nat.sub_zero]
  have hp : (s.data.toList.reverse.dropWhile spQ).reverse <+: s.data.toList := by
    have := (List.dropWhile_suffix spQ (l := s.data.toList.reverse)).reverse
    rwa [List.reverse_reverse] at this
  have := List.prefix_iff_eq_take.1 hp
  rw [List.length_reverse] at this
  exact this.symm
theorem trim_sp (s : ByteArray) : (Lib.trimF pSp s).data.toList = ((s.data.toList.dropWhile spQ).reverse.dropWhile spQ).reverse := by
  unfold Lib.trimF
  rw [trimRight_sp, trimLeft_sp]
end Lz

namespace Go.Proofs.YthijceooebebfaaGreatDoor
open Go.RowKit
theorem text_is (s : ByteArray) (k : List UInt8) : (s.toList == k) = decide (s.data.toList = k) := by
  rw [Lib.toList_data, Bool.eq_iff_iff]; simp
theorem text_yes {s : ByteArray} {k : List UInt8} (h : s.data.toList = k) : (s.toList == k) = true := (text_is s k).trans (decide_eq_true h)
theorem text_no {s : ByteArray} {k : List UInt8} (h : ¬ s.data.toList = k) : (s.toList == k) = false := (text_is s k).trans (decide_eq_false h)
set_option maxRecDepth 100000 in
theorem Default_any (s : ByteArray) (w : World) : Calls Tryz.prog 15 #[.string s] w fun e w' => e = .returned (.int .i64 (Lz.defP s.data.toList)) ∧ w = w' := by
  by_cases h0 : s.data.toList = [104, 116, 116, 112]
  · have g0 := text_yes h0
    have HV : Hid (Lz.defP s.data.toList = 80) := by show _ = _; rw [h0]; rfl
    clear h0
    go_enter Tryz.func15, Tryz.ntmps15
    go_wp2_with fail
    go_ret
    rw [HV.out]; exact ⟨rfl, rfl⟩
  · have g0 := text_no h0
    by_cases h1 : s.data.toList = [119, 115]
    · have g1 := text_yes h1
      have HV : Hid (Lz.defP s.data.toList = 80) := by show _ = _; rw [h1]; rfl
      clear h0 h1
      go_enter Tryz.func15, Tryz.ntmps15
      go_wp2_with fail
      go_ret
      rw [HV.out]; exact ⟨rfl, rfl⟩
    · have g1 := text_no h1
      by_cases h2 : s.data.toList = [104, 116, 116, 112, 115]
      · have g2 := text_yes h2
        have HV : Hid (Lz.defP s.data.toList = 443) := by show _ = _; rw [h2]; rfl
        clear h0 h1 h2
        go_enter Tryz.func15, Tryz.ntmps15
        go_wp2_with fail
        go_ret
        rw [HV.out]; exact ⟨rfl, rfl⟩
      · have g2 := text_no h2
        by_cases h3 : s.data.toList = [119, 115, 115]
        · have g3 := text_yes h3
          have HV : Hid (Lz.defP s.data.toList = 443) := by show _ = _; rw [h3]; rfl
          clear h0 h1 h2 h3
          go_enter Tryz.func15, Tryz.ntmps15
          go_wp2_with fail
          go_ret
          rw [HV.out]; exact ⟨rfl, rfl⟩
        · have g3 := text_no h3
          by_cases h4 : s.data.toList = [102, 116, 112]
          · have g4 := text_yes h4
            have HV : Hid (Lz.defP s.data.toList = 21) := by show _ = _; rw [h4]; rfl
            clear h0 h1 h2 h3 h4
            go_enter Tryz.func15, Tryz.ntmps15
            go_wp2_with fail
            go_ret
            rw [HV.out]; exact ⟨rfl, rfl⟩
          · have g4 := text_no h4
            have HV : Hid (Lz.defP s.data.toList = -1) := by
              show _ = _
              unfold Lz.defP
              rw [if_neg (fun h => h.elim h0 h1), if_neg (fun h => h.elim h2 h3), if_neg (show ¬ s.data.toList = Lz.ftpS from h4)]
            clear h0 h1 h2 h3 h4
            go_enter Tryz.func15, Tryz.ntmps15
            go_wp2_with fail
            go_ret
            rw [HV.out]; exact ⟨rfl, rfl⟩
set_option maxRecDepth 100000 in
theorem Special_any (s : ByteArray) (w : World) : Calls Tryz.prog 13 #[.string s] w fun e w' => e = .returned (.bool (Lz.specP s.data.toList)) ∧ w = w' := by
  by_cases h0 : s.data.toList = [102, 105, 108, 101]
  · have g0 := text_yes h0
    have HV : Hid (Lz.specP s.data.toList = true) := by show _ = _; rw [h0]; rfl
    clear h0
    go_enter Tryz.func13, Tryz.ntmps13
    go_wp2_with fail
    go_ret
    rw [HV.out]; exact ⟨rfl, rfl⟩
  · have g0 := text_no h0
    have cD := Default_any s w
    obtain ⟨d, hd⟩ : ∃ d, d = Lz.defP s.data.toList := ⟨_, rfl⟩
    have HV : Hid (Lz.specP s.data.toList = !(d == -1)) := by
      show _ = _
      unfold Lz.specP
      have : (s.data.toList == Lz.fileS) = false := by rw [beq_eq_false_iff_ne]; exact h0
      rw [this, Bool.false_or, hd]
    rw [← hd] at cD
    have CD := Lib.hid cD
    have hne : (d != -1) = !(d == -1) := rfl
    clear h0 cD hd
    go_enter Tryz.func13, Tryz.ntmps13
    go_wp2_with fail
    refine CD.out.mono ?_
    rintro e w1 ⟨rfl, rfl⟩
    go_wp2_with fail
    go_ret
    rw [HV.out]; exact ⟨by first | rfl | rw [hne], rfl⟩
/-- A place, or -1. -/
def intO : Option Nat → Int
  | some n => n
  | none => -1
theorem beqU (a b : UInt8) : ((a.toNat : Int) == (b.toNat : Int)) = (a == b) := beqI a b
theorem two_of {s : ByteArray} (h : s.size = 2) : s.data.toList = [s[0], s[1]] := by
  have h0 := get_of_lt (s := s) (n := 0) (by omega)
  have h1 := get_of_lt (s := s) (n := 1) (by omega)
  have hl : s.data.toList.length = 2 := h
  generalize s.data.toList = l at h0 h1 hl
  match l, hl with
  | [a, b], _ =>
    have e0 : a = s[0] := by simpa using h0
    have e1 : b = s[1] := by simpa using h1
    rw [e0, e1]
set_option maxRecDepth 100000 in
theorem drive_any (s : ByteArray) (w : World) : Calls Tryz.prog 102 #[.string s] w fun e w' => e = .returned (.bool (Lz.driveP s.data.toList)) ∧ w = w' := by
  by_cases h2 : s.size = 2
  · have h2I : ((s.size : Int) == 2) = true := by simp; omega
    have hp0 : 0 < s.size := by omega
    have hp1 : 1 < s.size := by omega
    have hp0I : (0 : Int) < (s.size : Int) := by omega
    have hp1I : (1 : Int) < (s.size : Int) := by omega
    have hl := two_of h2
    obtain ⟨a, ha⟩ : ∃ a, a = s[0] := ⟨_, rfl⟩
    obtain ⟨b, hb⟩ : ∃ b, b = s[1] := ⟨_, rfl⟩
    have haI : (s[0].toNat : Int) = (a.toNat : Int) := by rw [ha]
    have hbI : (s[1].toNat : Int) = (b.toNat : Int) := by rw [hb]
    rw [← ha, ← hb] at hl
    have HV : Hid (Lz.driveP s.data.toList = (Lz.isAlpha a && (b == 58 || b == 124))) := by show _ = _; rw [hl]; rfl
    have cA := Alpha_any a w
    have b1 : ((b.toNat : Int) == 58) = (b == 58) := beqU b 58
    have b2 : ((b.toNat : Int) == 124) = (b == 124) := beqU b 124
    generalize Lz.isAlpha a = p at cA HV
    generalize (b == 58) = q at b1 HV
    generalize (b == 124) = r at b2 HV
    have CA := Lib.hid cA
    have H2 := Lib.hid h2
    clear hl ha hb cA h2
    cases p
    · go_enter Tryz.func102, Tryz.ntmps102
      go_wp2_with fail
      refine CA.out.mono ?_
      rintro e w1 ⟨rfl, rfl⟩
      go_wp2_with fail
      go_ret
      rw [HV.out]; exact ⟨rfl, rfl⟩
    · cases q
      · go_enter Tryz.func102, Tryz.ntmps102
        go_wp2_with fail
        refine CA.out.mono ?_
        rintro e w1 ⟨rfl, rfl⟩
        go_wp2_with fail
        go_ret
        rw [HV.out]; exact ⟨by cases r <;> first | rfl | (rw [b2]; rfl), rfl⟩
      · go_enter Tryz.func102, Tryz.ntmps102
        go_wp2_with fail
        refine CA.out.mono ?_
        rintro e w1 ⟨rfl, rfl⟩
        go_wp2_with fail
        go_ret
        rw [HV.out]; exact ⟨rfl, rfl⟩
  · have h2I : ((s.size : Int) == 2) = false := by simp; omega
    have HV : Hid (Lz.driveP s.data.toList = false) := by
      show _ = _
      have hl : s.data.toList.length ≠ 2 := h2
      generalize s.data.toList = l at hl
      match l, hl with
      | [], _ => rfl
      | [_], _ => rfl
      | [_, _], hl => exact absurd rfl hl
      | _ :: _ :: _ :: _, _ => rfl
    go_enter Tryz.func102, Tryz.ntmps102
    go_wp2_with fail
    go_ret
    rw [HV.out]; exact ⟨rfl, rfl⟩
set_option maxRecDepth 100000 in
theorem colon_any (s : ByteArray) (hs : s.size ≤ 1048576) (w : World) : Calls Tryz.prog 140 #[.string s] w fun e w' => e = .returned (.int .i64 (intO (Lz.colonP false s.data.toList))) ∧ w = w' := by
  obtain ⟨o, ho⟩ : ∃ o, o = Lz.colonP false s.data.toList := ⟨_, rfl⟩
  have Ho := Lib.hid ho
  rw [← ho]
  clear ho
  go_enter Tryz.func140, Tryz.ntmps140
  go_wp2_with fail
  go_loopw [3, 7] (fun i k wr => ∃ (b : Bool) (j : Nat), i = .bool b ∧ k = .int .i64 j ∧ j ≤ s.size ∧ Hid (o = (Lz.colonP b (s.data.toList.drop j)).map (· + j)) ∧ w = wr) (fun _ k _ => s.size - (intOf k).toNat)
  case atStart => exact ⟨false, 0, rfl, rfl, Nat.zero_le _, by show _ = _; rw [Ho.out, List.drop_zero]; simp, rfl⟩
  case round =>
    obtain ⟨b, j, rfl, rfl, hj, hO, rfl⟩ := hrel
    by_cases hlt : j < s.size
    · have hltI : (j : Int) < (s.size : Int) := by omega
      have hj0 : (0 : Int) ≤ (j : Int) := by omega
      obtain ⟨c, hc⟩ : ∃ c, c = s[j] := ⟨_, rfl⟩
      have hcI : (s[j].toNat : Int) = (c.toNat : Int) := by rw [hc]
      have hst : Hid (o = (if c == 91 then (Lz.colonP true (s.data.toList.drop (j + 1))).map (· + 1) else if c == 93 then (Lz.colonP false (s.data.toList.drop (j + 1))).map (· + 1) else if c == 58 && !b then some 0 else (Lz.colonP b (s.data.toList.drop (j + 1))).map (· + 1)).map (· + j)) := by
        show _ = _
        rw [hO.out, List.drop_eq_getElem_cons (show j < s.data.toList.length from hlt), Lz.colonP, hc]
        rfl
      have hmm : ∀ x : Option Nat, (x.map (· + 1)).map (· + j) = x.map (· + (j + 1)) := by
        intro x
        cases x with
        | none => rfl
        | some n => simp; omega
      have b1 : ((c.toNat : Int) == 91) = (c == 91) := beqU c 91
      have b2 : ((c.toNat : Int) == 93) = (c == 93) := beqU c 93
      have b3 : ((c.toNat : Int) == 58) = (c == 58) := beqU c 58
      generalize (c == 91) = q1 at b1 hst
      generalize (c == 93) = q2 at b2 hst
      generalize (c == 58) = q3 at b3 hst
      have Hmm := Lib.hid hmm
      clear hc hO hmm
      cases q1
      · cases q2
        · cases q3
          · have HN : Hid (o = (Lz.colonP b (s.data.toList.drop (j + 1))).map (· + (j + 1))) := by show _ = _; rw [hst.out, ← Hmm.out]; rfl
            go_wp2_with fail
            go_roundw
            case rel => exact ⟨b, j + 1, rfl, by go_num, by omega, HN, trivial⟩
            case measure => simp [intOf]; omega
          · cases b
            · have HN : Hid (o = some j) := by show _ = _; rw [hst.out]; simp
              go_wp2_with fail
              go_ret
              rw [HN.out]; exact ⟨rfl, rfl⟩
            · have HN : Hid (o = (Lz.colonP true (s.data.toList.drop (j + 1))).map (· + (j + 1))) := by show _ = _; rw [hst.out, ← Hmm.out]; rfl
              go_wp2_with fail
              go_roundw
              case rel => exact ⟨true, j + 1, rfl, by go_num, by omega, HN, trivial⟩
              case measure => simp [intOf]; omega
        · have HN : Hid (o = (Lz.colonP false (s.data.toList.drop (j + 1))).map (· + (j + 1))) := by show _ = _; rw [hst.out, ← Hmm.out]; rfl
          go_wp2_with fail
          go_roundw
          case rel => exact ⟨false, j + 1, rfl, by go_num, by omega, HN, trivial⟩
          case measure => simp [intOf]; omega
      · have HN : Hid (o = (Lz.colonP true (s.data.toList.drop (j + 1))).map (· + (j + 1))) := by show _ = _; rw [hst.out, ← Hmm.out]; rfl
        go_wp2_with fail
        go_roundw
        case rel => exact ⟨true, j + 1, rfl, by go_num, by omega, HN, trivial⟩
        case measure => simp [intOf]; omega
    · have hltI : ¬ (j : Int) < (s.size : Int) := by omega
      have HN : Hid (o = none) := by
        show _ = _
        rw [hO.out, List.drop_eq_nil_of_le (show s.data.toList.length ≤ j by rw [len_of_size]; omega)]
        rfl
      go_wp2_with fail
      go_ret
      rw [HN.out]; exact ⟨rfl, rfl⟩
theorem extract_head2 (s : ByteArray) (k : Nat) : (s.extract 0 k).data.toList = s.data.toList.take k := by
  rw [Lib.extract_data]; rfl
theorem driven_short {l : List UInt8} (h : l.length < 2) : Lz.drivenP l = false := by
  match l, h with
  | [], _ => rfl
  | [_], _ => rfl
theorem driven_two {l : List UInt8} (h : l.length = 2) : Lz.drivenP l = Lz.driveP (l.take 2) := by
  match l, h with
  | [_, _], _ => rfl
theorem driven_more {l : List UInt8} {c : UInt8} (h : l[2]? = some c) : Lz.drivenP l = (Lz.driveP (l.take 2) && (c == 47 || c == 92)) := by
  match l, h with
  | a :: b :: d :: r, h =>
    have : d = c := by simpa using h
    rw [← this]; rfl
set_option maxRecDepth 100000 in
theorem driven_any (s : ByteArray) (w : World) : Calls Tryz.prog 104 #[.string s] w fun e w' => e = .returned (.bool (Lz.drivenP s.data.toList)) ∧ w = w' := by
  by_cases h2 : 2 ≤ s.size
  · have h2I : (2 : Int) ≤ (s.size : Int) := by omega
    have cD := drive_any (s.extract 0 2) w
    rw [extract_head2] at cD
    obtain ⟨q, hq⟩ : ∃ q, q = Lz.driveP (s.data.toList.take 2) := ⟨_, rfl⟩
    rw [← hq] at cD
    have CD := Lib.hid cD
    clear cD
    by_cases he : s.size = 2
    · have heI : ((s.size : Int) == 2) = true := by simp; omega
      have HV : Hid (Lz.drivenP s.data.toList = q) := by show _ = _; rw [driven_two (show s.data.toList.length = 2 from he), hq]
      have He := Lib.hid he
      clear he hq
      cases q
      · go_enter Tryz.func104, Tryz.ntmps104
        go_wp2_with fail
        refine CD.out.mono ?_
        rintro e w1 ⟨rfl, rfl⟩
        go_wp2_with fail
        go_ret
        rw [HV.out]; exact ⟨rfl, rfl⟩
      · go_enter Tryz.func104, Tryz.ntmps104
        go_wp2_with fail
        refine CD.out.mono ?_
        rintro e w1 ⟨rfl, rfl⟩
        go_wp2_with fail
        go_ret
        rw [HV.out]; exact ⟨rfl, rfl⟩
    · have heI : ((s.size : Int) == 2) = false := by simp; omega
      have hp2 : 2 < s.size := by omega
      have hp2I : (2 : Int) < (s.size : Int) := by omega
      obtain ⟨c, hc⟩ : ∃ c, c = s[2] := ⟨_, rfl⟩
      have hcI : (s[2].toNat : Int) = (c.toNat : Int) := by rw [hc]
      have HV : Hid (Lz.drivenP s.data.toList = (q && (c == 47 || c == 92))) := by show _ = _; rw [driven_more (c := c) (by rw [get_of_lt hp2, hc]), hq]
      have b1 : ((c.toNat : Int) == 47) = (c == 47) := beqU c 47
      have b2 : ((c.toNat : Int) == 92) = (c == 92) := beqU c 92
      generalize (c == 47) = p1 at b1 HV
      generalize (c == 92) = p2 at b2 HV
      clear hq hc he
      cases q
      · go_enter Tryz.func104, Tryz.ntmps104
        go_wp2_with fail
        refine CD.out.mono ?_
        rintro e w1 ⟨rfl, rfl⟩
        go_wp2_with fail
        go_ret
        rw [HV.out]; exact ⟨rfl, rfl⟩
      · cases p1
        · go_enter Tryz.func104, Tryz.ntmps104
          go_wp2_with fail
          refine CD.out.mono ?_
          rintro e w1 ⟨rfl, rfl⟩
          go_wp2_with fail
          go_ret
          rw [HV.out]; exact ⟨by cases p2 <;> first | rfl | (rw [b2]; rfl), rfl⟩
        · go_enter Tryz.func104, Tryz.ntmps104
          go_wp2_with fail
          refine CD.out.mono ?_
          rintro e w1 ⟨rfl, rfl⟩
          go_wp2_with fail
          go_ret
          rw [HV.out]; exact ⟨rfl, rfl⟩
  · have h2I : ¬ (2 : Int) ≤ (s.size : Int) := by omega
    have HV : Hid (Lz.drivenP s.data.toList = false) := by show _ = _; rw [driven_short (show s.data.toList.length < 2 by rw [len_of_size]; omega)]
    go_enter Tryz.func104, Tryz.ntmps104
    go_wp2_with fail
    go_ret
    rw [HV.out]; exact ⟨rfl, rfl⟩
end Go.Proofs.YthijceooebebfaaGreatDoor

namespace Go.Proofs.YthijceooebebfaaGreatDoor
open Go.RowKit
/-- A path, as the world holds it. -/
def PathAt (w : World) (v : Value) (l : List (List UInt8)) : Prop :=
  ∃ (a : Option Addr) (c : Nat) (xs : List ByteArray), v = .slice a xs.length c ∧ xs.map (fun x : ByteArray => x.data.toList) = l ∧ ∀ (j : Nat) (x : ByteArray), xs[j]? = some x → ∃ B off, a = some ⟨B, off, none⟩ ∧ B < w.heap.size ∧ w.cell? ⟨B, off + j, none⟩ = some (.string x)
theorem PathAt.below {w w' : World} {v : Value} {l : List (List UInt8)} (h : PathAt w v l) (hb : Below w.heap.size w w') : PathAt w' v l := by
  obtain ⟨a, c, xs, h1, h2, h3⟩ := h
  refine ⟨a, c, xs, h1, h2, fun j x hj => ?_⟩
  obtain ⟨B, off, e1, e2, e3⟩ := h3 j x hj
  exact ⟨B, off, e1, Nat.lt_of_lt_of_le e2 hb.size, by rw [hb.cell (p := ⟨B, off + j, none⟩) e2]; exact e3⟩
theorem drive_size {l : List UInt8} (h : Lz.driveP l = true) : l.length = 2 := by
  match l, h with
  | [_, _], _ => rfl
set_option maxRecDepth 100000 in
theorem rooted_any (v : Value) (l : List (List UInt8)) (w : World) (h : PathAt w v l) : Calls Tryz.prog 105 #[v] w fun e w' => e = .returned (.bool (Lz.rootedP l)) ∧ w = w' := by
  obtain ⟨a, c, xs, rfl, rfl, hx⟩ := h
  cases xs with
  | nil =>
    go_enter Tryz.func105, Tryz.ntmps105
    go_wp2_with fail
    go_ret
    exact ⟨rfl, rfl⟩
  | cons x r =>
    obtain ⟨B, off, rfl, hB, hc⟩ := hx 0 x rfl
    rw [Nat.add_zero] at hc
    have hl0 : (0 : Int) < ((x :: r).length : Int) := by rw [List.length_cons]; omega
    have hl1 : (0 : Int) < (r.length : Int) + 1 := by omega
    have cD := drive_any x w
    have HV : Hid (Lz.rootedP ((x :: r).map fun x : ByteArray => x.data.toList) = (Lz.driveP x.data.toList && (x.data.toList[1]? == some 58))) := rfl
    cases hq : Lz.driveP x.data.toList with
    | false =>
      rw [hq] at cD
      have HV2 : Hid (Lz.rootedP ((x :: r).map fun x : ByteArray => x.data.toList) = false) := by show _ = _; rw [HV.out, hq]; rfl
      have CD := Lib.hid cD
      clear cD hq hx
      go_enter Tryz.func105, Tryz.ntmps105
      go_wp2_with fail
      refine CD.out.mono ?_
      rintro e w1 ⟨rfl, rfl⟩
      go_wp2_with fail
      go_ret
      rw [HV2.out]; exact ⟨rfl, rfl⟩
    | true =>
      rw [hq] at cD
      have hz : x.size = 2 := drive_size hq
      have hp1 : 1 < x.size := by omega
      have hp1I : (1 : Int) < (x.size : Int) := by omega
      obtain ⟨d, hd⟩ : ∃ d, d = x[1] := ⟨_, rfl⟩
      have hdI : (x[1].toNat : Int) = (d.toNat : Int) := by rw [hd]
      have b1 : ((d.toNat : Int) == 58) = (d == 58) := beqU d 58
      have HV2 : Hid (Lz.rootedP ((x :: r).map fun x : ByteArray => x.data.toList) = (d == 58)) := by
        show _ = _
        rw [HV.out, hq, get_of_lt hp1, ← hd]; rfl
      have CD := Lib.hid cD
      have Hz := Lib.hid hz
      clear cD hq hx hd hz
      go_enter Tryz.func105, Tryz.ntmps105
      go_wp2_with fail
      refine CD.out.mono ?_
      rintro e w1 ⟨rfl, rfl⟩
      go_wp2_with fail
      go_ret
      rw [HV2.out]; exact ⟨by first | rfl | rw [b1] | (rw [← b1]; rfl), rfl⟩
end Go.Proofs.YthijceooebebfaaGreatDoor
