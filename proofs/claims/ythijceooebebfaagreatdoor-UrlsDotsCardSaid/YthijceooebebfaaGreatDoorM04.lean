/-
  Plain laws: what the document's answer for source expressions computes, piece by piece, is what package sources computes. No program in sight, no condition.
  Bytes that the call itself collects by append, and the text that they are turned to.
  Plain laws behind SourcesValues: a nonce, and a hash, have the value that stands there; with a byte in it that is none of base64's there is none. No program in sight, no condition.
  Small laws that the walks of hosts and urls lean on, with no word of package sources.
  What the package-level variables hold that the rows of law07 lay (no keywords among them), and Split, Itoa there.
-/
import Derived.Test.YthijceooebebfaaGreatDoorM03
import Derived.Test.YthijceooebebfaaGreatDoorM01
import Derived.Laws.AppendOwn
import Derived.Test.YthijceooebebfaaGreatDoorM02
import Derived.Lib.SlicesS
import Derived.BigRegion
import Derived.Deep.DeepCutAuto
import Derived.LaidEql
import Derived.Stop.Asserts
import Derived.RowKitTokens
import Derived.BigQuiet
import Derived.Deep.QuietTactic
import Derived.IntWalk
namespace Lz
open Go
def isAlnum (c : UInt8) : Bool := isAlpha c || isDigit c
/-- Is a byte one of these? -/
def inB (m : Bs) (c : UInt8) : Bool := m.contains c
/-- Letters, digits, and some more. -/
def moreB (m : Bs) (c : UInt8) : Bool := isAlnum c || inB m c
theorem more_letter (c : UInt8) : moreB [43, 47, 45, 95] c = isLetter c := by revert c; exact byte_all (by decide +kernel)
theorem more_word (c : UInt8) : moreB [45] c = isWord c := by revert c; exact byte_all (by decide +kernel)
theorem more_schemed (c : UInt8) : moreB [43, 45, 46] c = isSchemed c := by revert c; exact byte_all (by decide +kernel)
theorem allB_congr {p q : UInt8 → Bool} (h : ∀ c, p c = q c) (l : Bs) : allB p l = allB q l := by
  have : p = q := funext h
  rw [this]
theorem head_alpha (c : UInt8) : isSchemed c = true → (!inB [48, 49, 50, 51, 52, 53, 54, 55, 56, 57, 43, 45, 46] c) = isAlpha c := by
  revert c; exact byte_all (by decide +kernel)
theorem scheme_ref (l : Bs) (a : UInt8) (h0 : l[0]? = some a) : schemeB l = (allB (moreB [43, 45, 46]) l && !inB [48, 49, 50, 51, 52, 53, 54, 55, 56, 57, 43, 45, 46] a) := by
  cases l with
  | nil => cases h0
  | cons b r =>
    obtain rfl : b = a := by simpa using h0
    rw [allB_congr more_schemed]
    unfold schemeB
    cases hb : allB isSchemed (b :: r)
    · simp
    · have h := all_of_allB hb
      rw [head_alpha b (h.1 b (by simp))]
      simp
theorem scheme_nil : schemeB [] = false := rfl

theorem index_one (l : Bs) (c : UInt8) : Lib.index l [c] = Lib.indexByte l c := by
  induction l with
  | nil => rfl
  | cons b l ih =>
    by_cases h : b = c
    · rw [index_one_hit h]
      show _ = if b == c then 0 else if Lib.indexByte l c == -1 then -1 else Lib.indexByte l c + 1
      rw [if_pos (by simpa using h)]
    · rw [index_one_miss h, ih]
      show _ = if b == c then 0 else if Lib.indexByte l c == -1 then -1 else Lib.indexByte l c + 1
      have hb : (b == c) = false := by simpa using h
      rw [hb]
      rfl

theorem take_prefix (p l : Bs) : (l.take p.length == p) = Lib.hasPrefix l p := by
  unfold Lib.hasPrefix
  rw [Bool.eq_iff_iff, beq_iff_eq, List.isPrefixOf_iff_prefix]
  constructor
  · intro e; rw [← e]; exact List.take_prefix _ _
  · intro e; exact (List.prefix_iff_eq_take.1 e).symm
theorem short_prefix {p l : Bs} (h : l.length < p.length) : Lib.hasPrefix l p = false := by
  unfold Lib.hasPrefix
  rw [Bool.eq_false_iff]
  intro e
  have := (List.isPrefixOf_iff_prefix.1 e).length_le
  omega
theorem low_take (l : Bs) (k : Nat) : low (l.take k) = (low l).take k := by unfold low; rw [List.map_take]

/-! ### numbers -/
/-- What digits are worth. -/
def decV (l : Bs) : Nat := l.foldl (fun a c => a * 10 + (c.toNat - 48)) 0
/-- .. at most 100000. -/
def capV (l : Bs) : Nat := l.foldl (fun a c => min (10 * a + (c.toNat - 48)) 100000) 0
theorem decV_snoc (l : Bs) (c : UInt8) : decV (l ++ [c]) = decV l * 10 + (c.toNat - 48) := by unfold decV; rw [List.foldl_append]; rfl
theorem capV_snoc (l : Bs) (c : UInt8) : capV (l ++ [c]) = min (10 * capV l + (c.toNat - 48)) 100000 := by unfold capV; rw [List.foldl_append]; rfl
theorem snoc_ind {P : Bs → Prop} (h0 : P []) (h1 : ∀ l c, P l → P (l ++ [c])) (l : Bs) : P l := by
  rw [← List.reverse_reverse l]
  induction l.reverse with
  | nil => exact h0
  | cons c r ih => rw [List.reverse_cons]; exact h1 _ _ ih
theorem capV_eq (l : Bs) : capV l = min (decV l) 100000 := by
  refine snoc_ind (P := fun l => capV l = min (decV l) 100000) rfl ?_ l
  intro l c ih
  rw [capV_snoc, decV_snoc, ih]
  omega
theorem capV_le (l : Bs) : capV l ≤ 100000 := by rw [capV_eq]; omega
theorem decV_fold (l : Bs) : ∀ a : Nat, a ≤ l.foldl (fun a c => a * 10 + (c.toNat - 48)) a := by
  induction l with
  | nil => intro a; exact Nat.le_refl _
  | cons c r ih => intro a; rw [List.foldl_cons]; exact Nat.le_trans (by omega) (ih _)
theorem parse_digits (l : Bs) : ∀ a : Nat, a < 18446744073709551616 → (∀ c ∈ l, isDigit c = true) →
    Lib.parseUint10 a l = if l.foldl (fun a c => a * 10 + (c.toNat - 48)) a < 18446744073709551616 then .ok (l.foldl (fun a c => a * 10 + (c.toNat - 48)) a) else .range := by
  induction l with
  | nil => intro a ha _; rw [List.foldl_nil, if_pos ha]; rfl
  | cons c r ih =>
    intro a ha hd
    obtain ⟨h1, h2⟩ := digit_nat (hd c (by simp))
    rw [List.foldl_cons]
    unfold Lib.parseUint10
    rw [if_pos ⟨h1, h2⟩]
    have hm := decV_fold r (a * 10 + (c.toNat - 48))
    split
    · rw [if_neg (by omega)]
    · split
      · rw [if_neg (by omega)]
      · exact ih _ (by omega) (fun x hx => hd x (by simp [hx]))
theorem port_digits {l : Bs} (h : allB isDigit l = true) : portP l = if capV l ≤ 65535 then some (capV l : Int) else none := by
  obtain ⟨hd, hne⟩ := all_of_allB h
  have h42 : l ≠ [42] := by
    rintro rfl
    have := hd 42 (by simp)
    revert this; decide
  unfold portP
  rw [if_neg h42]
  have ha : Lib.atoiAll l = if decV l < 9223372036854775808 then .ok (decV l : Int) else .range := by
    cases l with
    | nil => exact absurd rfl hne
    | cons c r =>
      obtain ⟨h1, h2⟩ := digit_nat (hd c (by simp))
      have hp := parse_digits (c :: r) 0 (by omega) hd
      unfold Lib.atoiAll
      dsimp only
      rw [if_neg (by omega)]
      unfold Lib.parseMag
      rw [if_neg (by simp), hp]
      have e : (c :: r).foldl (fun a c => a * 10 + (c.toNat - 48)) 0 = decV (c :: r) := rfl
      rw [e]
      by_cases hb : decV (c :: r) < 18446744073709551616
      · rw [if_pos hb]
        dsimp only
        by_cases hs : decV (c :: r) < 9223372036854775808
        · rw [if_neg (by omega), if_neg (by omega), if_neg (by omega), if_pos hs]
        · rw [if_pos (by omega), if_neg hs]
      · rw [if_neg hb, if_neg (by omega)]
  rw [ha, capV_eq]
  by_cases hs : decV l < 9223372036854775808
  · rw [if_pos hs]
    dsimp only
    rw [h, Bool.true_and]
    by_cases hv : decV l ≤ 65535
    · rw [if_pos (by simp; omega), if_pos (by omega)]
      congr 1
      omega
    · rw [if_neg (by simp; omega), if_neg (by omega)]
  · rw [if_neg hs, if_neg (by omega)]
theorem port_none {l : Bs} (h42 : l ≠ [42]) (h : allB isDigit l = false) : portP l = none := by
  unfold portP
  rw [if_neg h42]
  split
  · rw [h]; rfl
  · rfl

/-! ### labels -/
theorem splitC_none {c : UInt8} : ∀ {l : Bs}, (∀ x ∈ l, x ≠ c) → splitC c l = [l]
  | [], _ => rfl
  | b :: l, h => by
    rw [splitC, if_neg (by simpa using h b (by simp)), splitC_none (fun x hx => h x (by simp [hx]))]
theorem splitC_at {c : UInt8} (r : Bs) : ∀ {l : Bs}, (∀ x ∈ l, x ≠ c) → splitC c (l ++ c :: r) = l :: splitC c r
  | [], _ => by rw [List.nil_append, splitC, if_pos (by simp)]
  | b :: l, h => by
    rw [List.cons_append, splitC, if_neg (by simpa using h b (by simp)), splitC_at r (fun x hx => h x (by simp [hx]))]
/-- No byte of a piece is c. -/
def NoC (c : UInt8) (l : Bs) (a b : Nat) : Prop := ∀ j, a ≤ j → j < b → l[j]? ≠ some c
theorem noC_mem {c : UInt8} {l : Bs} {a b : Nat} (h : NoC c l a b) : ∀ x ∈ (l.drop a).take (b - a), x ≠ c := by
  rintro x hx rfl
  obtain ⟨j, hj⟩ := List.getElem?_of_mem hx
  rw [List.getElem?_take] at hj
  split at hj
  · rename_i hlt
    rw [List.getElem?_drop] at hj
    exact h (a + j) (by omega) (by omega) hj
  · cases hj
theorem split_piece_end {c : UInt8} {l : Bs} {a : Nat} (h : NoC c l a l.length) : splitC c (l.drop a) = [l.drop a] := by
  refine splitC_none ?_
  have := noC_mem h
  rwa [List.take_of_length_le (by simp)] at this
theorem split_piece {c : UInt8} {l : Bs} {a b : Nat} (hab : a ≤ b) (h : NoC c l a b) (hb : l[b]? = some c) : splitC c (l.drop a) = (l.drop a).take (b - a) :: splitC c (l.drop (b + 1)) := by
  have hlt : b < l.length := (List.getElem?_eq_some_iff.1 hb).1
  have e : l.drop a = (l.drop a).take (b - a) ++ c :: l.drop (b + 1) := by
    have h1 : (l.drop a).drop (b - a) = c :: l.drop (b + 1) := by
      rw [List.drop_drop, show a + (b - a) = b by omega, List.drop_eq_getElem_cons hlt]
      have : l[b] = c := by rw [List.getElem?_eq_getElem hlt] at hb; exact Option.some.inj hb
      rw [this]
    rw [← h1, List.take_append_drop]
  conv => lhs; rw [e]
  exact splitC_at _ (noC_mem h)
/-- All labels from a place on are names. -/
def namedFrom (l : Bs) (a : Nat) : Bool := (splitC 46 (l.drop a)).all (allB isWord)
theorem named_zero (l : Bs) : namedB l = namedFrom l 0 := by unfold namedB namedFrom; rw [split_eq]; rfl
theorem named_end {l : Bs} {a : Nat} (h : NoC 46 l a l.length) : namedFrom l a = allB isWord (l.drop a) := by
  unfold namedFrom; rw [split_piece_end h]; simp
theorem named_step {l : Bs} {a b : Nat} (hab : a ≤ b) (h : NoC 46 l a b) (hb : l[b]? = some 46) : namedFrom l a = (allB isWord ((l.drop a).take (b - a)) && namedFrom l (b + 1)) := by
  unfold namedFrom; rw [split_piece hab h hb]; rfl

/-! ### base64 -/
theorem base_take {l : Bs} {k : Nat} (hk : k ≤ l.length) (h1 : ∀ (j : Nat) b, k ≤ j → l[j]? = some b → b = 61) (h2 : ∀ b, 0 < k → l[k - 1]? = some b → b ≠ 61) :
    baseB l = (decide (l.length - k ≤ 2) && allB (moreB [43, 47, 45, 95]) (l.take k)) := by
  unfold baseB
  rw [Lib.trimRightB_take l 61 k hk h1 h2, allB_congr more_letter, List.length_take, Nat.min_eq_left hk]

/-! ### the whole -/
theorem seen_ref (c : UInt8) : isSeen c = (decide (33 ≤ (c.toNat : Int)) && decide ((c.toNat : Int) ≤ 126) && !inB [63, 35, 59, 44, 34, 60, 62, 92, 94, 96, 123, 124, 125] c) := by
  revert c; exact byte_all (by decide +kernel)
theorem path_ref (l : Bs) : (l.isEmpty || allB isSeen l) = l.all isSeen := by
  cases l with
  | nil => rfl
  | cons b r => simp [allB]
end Lz

namespace Go.Proofs.YthijceooebebfaaGreatDoor
open Go.RowKit

/-- Bytes as cells. -/
def u8s (l : List UInt8) : List Value := l.map fun c => Value.int .u8 c.toNat
theorem u8s_snoc (l : List UInt8) (c : UInt8) : u8s l ++ [.int .u8 (c.toNat : Int)] = u8s (l ++ [c]) := by simp [u8s]
theorem u8s_app (l m : List UInt8) : u8s l ++ u8s m = u8s (l ++ m) := by simp [u8s]
theorem Tryz.infoU8 : (Tryz.prog.info? 5).map (fun i => (i.zero, i.size, i.bytes)) = some (some (.int .u8 0), 1, 1) := by kernel_rfl
theorem cell_one (w : World) (v : Value) (T : TypeId) (j : Nat) (u : Value) (h : [v][j]? = some u) : (w.alloc (.cells #[v] T)).cell? ((⟨w.heap.size, 0, none⟩ : Addr).add j) = some u := by
  rw [addr_add, World.cell?_alloc_mark]
  have hj : j < 1 := by have := (List.getElem?_eq_some_iff.1 h).1; simpa using this
  obtain rfl : j = 0 := by omega
  simpa using h
theorem Below.grown1 {B : Nat} {a w w' : World} {o : Obj} {v : Value} {base e size n : Nat} {xs : List Value} (h : Below B a w) (hown : w.ownsRow base e size v n xs) (hg : (w.alloc o).grownBy w' v.ownBlock) (hB : B ≤ w.heap.size) (hb : B ≤ base) : Below B a w' :=
  (h.alloc hB o).grown hg (by simp; omega) (fun k hk => Nat.le_trans hb ((hown.alloc o).lt k hk).1)
theorem conv_nil (w : World) : (convert 35 9 (.slice none 0 0)).run Tryz.prog w = .ok (.string ⟨#[]⟩) w := by kernel_rfl
/-- What has been collected, as a text. -/
theorem conv_own {w : World} {base : Nat} {v : Value} {n : Nat} {l : List UInt8} (h : w.ownsRow base 5 1 v n (u8s l)) :
    (convert 35 9 v).run Tryz.prog w = .ok (.string ⟨l.toArray⟩) w := by
  have hl : l.length = n := by have := h.1; simpa [u8s] using this
  rcases h.2 with ⟨rfl, h0⟩ | ⟨g, cap, cur, rfl, hbg, hg, hn, hcm, hcs, htk⟩
  · obtain rfl : l = [] := List.length_eq_zero_iff.1 (by omega)
    exact conv_nil w
  · rw [← hl]
    refine run_convert_bytes_back (P := Tryz.prog) w 35 9 5 ⟨g, 0, none⟩ cap l Tryz.underlying35 Tryz.underlying5 Tryz.underlying9 ?_
    intro j hj
    rw [addr_add]
    have h1 : cur[j]? = some (.int .u8 (l[j].toNat : Int)) := by
      have h2 : (u8s l)[j]? = some (.int .u8 (l[j].toNat : Int)) := by simp [u8s, hj]
      rw [← htk, List.getElem?_take] at h2
      split at h2
      · simpa using h2
      · cases h2
    simp [World.cell?, hg, h1]
end Go.Proofs.YthijceooebebfaaGreatDoor

namespace Lz
open Go

/-- The k-th of the heads. -/
def headAt : Nat → Bs
  | 0 => [110, 111, 110, 99, 101, 45]
  | 1 => [115, 104, 97, 50, 53, 54, 45]
  | 2 => [115, 104, 97, 51, 56, 52, 45]
  | 3 => [83, 72, 65, 53, 49, 50, 45]
  | _ => [78, 79, 78, 67, 69, 45]
def bitAt : Nat → Int
  | 0 => 0
  | 1 => 256
  | 2 => 384
  | 3 => 512
  | _ => 0
def kindAt (k : Nat) : Int := if k = 0 ∨ k = 4 then 4 else 5

theorem q_nonce (h rest : Bs) (hl : low h = sNonce) (hz : h.length = 6) : quotedS (h ++ rest) = if baseB rest then some (nonceS rest) else none := by
  have hlow : low (h ++ rest) = sNonce ++ low rest := by rw [low_append, hl]
  have hd : (h ++ rest).drop 6 = rest := by rw [← hz]; simp
  unfold quotedS
  rw [hlow, not_key_nonce]
  simp only [Bool.false_eq_true, if_false]
  rw [hasPrefix_self, hd, Bool.true_and]
  cases baseB rest
  · simp only [Bool.false_eq_true, if_false]
    have hs : ∀ b, shaS (h ++ rest) b = none := by
      intro b
      unfold shaS
      rw [hlow, sSha_form]
      rfl
    rw [hs, hs, hs]
    rfl
  · rfl

theorem q_sha (h rest : Bs) (b : Int) (hb : b = 256 ∨ b = 384 ∨ b = 512) (hl : low h = sSha b) (hz : h.length = 7) : quotedS (h ++ rest) = if baseB rest then some (hashS rest b) else none := by
  have hlow : low (h ++ rest) = sSha b ++ low rest := by rw [low_append, hl]
  have hd : (h ++ rest).drop 7 = rest := by rw [← hz]; simp
  have hn : Lib.hasPrefix (sSha b ++ low rest) sNonce = false := by rw [sSha_form]; rfl
  have hlen : ∀ c : Int, c = 256 ∨ c = 384 ∨ c = 512 → (sSha c).length = 7 := by
    rintro c (rfl | rfl | rfl)
    · rw [sha256]; rfl
    · rw [sha384]; rfl
    · rw [sha512]; rfl
  have hsh : ∀ c : Int, c = 256 ∨ c = 384 ∨ c = 512 → shaS (h ++ rest) c = if c = b then (if baseB rest then some (hashS rest b) else none) else none := by
    intro c hc
    unfold shaS
    rw [hlow, hlen c hc, hd]
    by_cases e : c = b
    · subst e
      rw [if_pos rfl, hasPrefix_self, Bool.true_and]
    · rw [if_neg e]
      have : Lib.hasPrefix (sSha b ++ low rest) (sSha c) = false := by
        rcases hb with rfl | rfl | rfl <;> rcases hc with rfl | rfl | rfl
        all_goals first | (exact absurd rfl e) | (simp only [sha256, sha384, sha512]; rfl)
      rw [this]
      rfl
  unfold quotedS
  rw [hlow, not_key_sha, hn]
  simp only [Bool.false_eq_true, if_false, Bool.false_and]
  rw [hsh 256 (by simp), hsh 384 (by simp), hsh 512 (by simp)]
  rcases hb with rfl | rfl | rfl <;> (cases baseB rest <;> simp)

theorem q_head (k : Nat) (hk : k < 5) (rest : Bs) : quotedS (headAt k ++ rest) = if baseB rest then some ⟨kindAt k, rest, bitAt k, [], [], false, -1, []⟩ else none := by
  obtain rfl | rfl | rfl | rfl | rfl : k = 0 ∨ k = 1 ∨ k = 2 ∨ k = 3 ∨ k = 4 := by omega
  · exact q_nonce _ rest (by decide) rfl
  · exact q_sha _ rest 256 (by simp) (by rw [sha256]; decide) rfl
  · exact q_sha _ rest 384 (by simp) (by rw [sha384]; decide) rfl
  · exact q_sha _ rest 512 (by simp) (by rw [sha512]; decide) rfl
  · exact q_nonce _ rest (by decide) rfl

theorem letter_ne61 {c : UInt8} : isLetter c = true → c ≠ 61 := by
  revert c; exact fun {c} => byte_all (p := fun c => isLetter c = true → c ≠ 61) (by decide +kernel) c
theorem base_eq (v : Bs) (h : allB isLetter v = true) : baseB (v ++ [61]) = true := by
  obtain ⟨ha, hne⟩ := all_of_allB h
  have ht : Lib.trimRightB (v ++ [61]) 61 = v := by
    have := Lib.trimRightB_take (v ++ [61]) 61 v.length (by simp) (by
      intro j b hj hb
      rw [List.getElem?_append_right hj] at hb
      have : j - v.length = 0 := by have := (List.getElem?_eq_some_iff.1 hb).1; simpa using this
      rw [this] at hb
      simpa using hb.symm) (by
      intro b h0 hb
      rw [List.getElem?_append_left (by omega)] at hb
      exact letter_ne61 (ha b (List.mem_of_getElem? hb)))
    rw [this]; simp
  unfold baseB
  rw [ht, h]
  simp
theorem base_odd (a b : Bs) (c : UInt8) (h1 : isLetter c = false) (h2 : c ≠ 61) : baseB (a ++ c :: b) = false := by
  have hm : c ∈ Lib.trimRightB (a ++ c :: b) 61 := by
    unfold Lib.trimRightB
    rw [List.mem_reverse, List.reverse_append, List.reverse_cons, List.append_assoc]
    rw [List.dropWhile_append]
    split
    · rw [List.singleton_append, List.dropWhile_cons_of_neg (by simpa using h2)]
      simp
    · simp
  unfold baseB
  have : allB isLetter (Lib.trimRightB (a ++ c :: b) 61) = false := by
    unfold allB
    have : (Lib.trimRightB (a ++ c :: b) 61).all isLetter = false := by
      rw [List.all_eq_false]
      exact ⟨c, hm, by simp [h1]⟩
    rw [this]; rfl
  rw [this, Bool.and_false]

/-- The test in SourcesValues. -/
def oddV (c : UInt8) : Bool := !isLetter c && !(c == 61)
theorem val_yes (k : Nat) (hk : k < 5) (v : Bs) (h : allB isLetter v = true) : parseS (39 :: (headAt k ++ v ++ [61, 39])) = some ⟨kindAt k, v ++ [61], bitAt k, [], [], false, -1, []⟩ := by
  have e : (39 :: (headAt k ++ v ++ [61, 39]) : Bs) = 39 :: ((headAt k ++ (v ++ [61])) ++ [39]) := by simp
  rw [e, parse_wrap, q_head k hk, base_eq v h]
  rfl
theorem val_no (k : Nat) (hk : k < 5) (a b : Bs) (c : UInt8) (h : oddV c = true) : parseS (39 :: (headAt k ++ a ++ [c] ++ b ++ [39])) = none := by
  have e : (39 :: (headAt k ++ a ++ [c] ++ b ++ [39]) : Bs) = 39 :: ((headAt k ++ (a ++ c :: b)) ++ [39]) := by simp
  unfold oddV at h
  rw [Bool.and_eq_true] at h
  rw [e, parse_wrap, q_head k hk, base_odd a b c (by simpa using h.1) (by simpa using h.2)]
  rfl

/-! ### letters by numbers -/
def nine : Bs := [97, 98, 99, 88, 89, 90, 48, 49, 57]
def letterAt (all : Bs) (b : UInt8) : UInt8 := all.getD (b.toNat % all.length) 0
def lettersP (l more : Bs) : Bs := if l = [] then [97] else (l.take 40).map (letterAt (nine ++ more))
theorem letter_mem {all : Bs} (h : all ≠ []) (b : UInt8) : letterAt all b ∈ all := by
  have hp : 0 < all.length := List.length_pos_iff.2 h
  have hlt := Nat.mod_lt b.toNat hp
  unfold letterAt
  rw [List.getD_eq_getElem?_getD, List.getElem?_eq_getElem hlt]
  exact List.getElem_mem hlt
theorem letters_all (l more : Bs) (p : UInt8 → Bool) (h9 : nine.all p = true) (hm : more.all p = true) : allB p (lettersP l more) = true := by
  have hall : ∀ c ∈ nine ++ more, p c = true := by
    intro c hc
    rcases List.mem_append.1 hc with h | h
    · exact List.all_eq_true.1 h9 c h
    · exact List.all_eq_true.1 hm c h
  unfold lettersP
  split
  · unfold allB
    have : p 97 = true := List.all_eq_true.1 h9 97 (by decide)
    simp [this]
  · rename_i hl
    unfold allB
    have h1 : ((l.take 40).map (letterAt (nine ++ more))).all p = true := by
      rw [List.all_eq_true]
      intro c hc
      obtain ⟨b, _, rfl⟩ := List.mem_map.1 hc
      exact hall _ (letter_mem (by simp [nine]) b)
    rw [h1]
    cases l with
    | nil => exact absurd rfl hl
    | cons a r => rfl
theorem letters_len (l more : Bs) : (lettersP l more).length ≤ 40 := by
  unfold lettersP
  split
  · decide
  · simp [List.length_take]; omega
end Lz

namespace Go.Proofs.YthijceooebebfaaGreatDoor
open Go.RowKit
theorem isEmpty_of_size {s : ByteArray} (h : s.size = 0) : s.toList.isEmpty = true := by
  rw [Lib.toList_data, List.isEmpty_iff, ← List.length_eq_zero_iff, len_of_size, h]
theorem isEmpty_of_pos {s : ByteArray} (h : 0 < s.size) : s.toList.isEmpty = false := by
  rw [Lib.toList_data]
  cases hl : s.data.toList with
  | nil => rw [← len_of_size, hl] at h; simp at h
  | cons _ _ => rfl
theorem get_of_lt {s : ByteArray} {n : Nat} (h : n < s.size) : s.data.toList[n]? = some s[n] := by
  rw [List.getElem?_eq_getElem (by rw [len_of_size]; exact h)]; rfl
theorem gPow : Tryz.prog.globalNamed "internal/strconv.uint64pow10" = some 0 := by kernel_rfl
theorem below_drewN {B : Nat} {a w : World} (h : Below B a w) (n : Nat) : Below B a (w.drewN n) := ⟨h.os, h.tape, h.output, h.size, h.block⟩
theorem below_call {w0 w w' : World} (h : Below w0.heap.size w0 w) (hb : Below w.heap.size w w') : Below w0.heap.size w0 w' := h.trans (hb.mono h.size)
/-- It returns a text, and leaves the world as it was but for new blocks. -/
def RStr (l : List UInt8) (w : World) (e : Ending) (w' : World) : Prop := ∃ u : ByteArray, e = .returned (.string u) ∧ Hid (u.data.toList = l) ∧ Below w.heap.size w w'
/-- Two texts, and a bool. -/
def RStrStrB (l m : List UInt8) (b : Bool) (w : World) (e : Ending) (w' : World) : Prop := ∃ u v : ByteArray, e = .returned (.tuple #[.string u, .string v, .bool b]) ∧ Hid (u.data.toList = l) ∧ Hid (v.data.toList = m) ∧ Below w.heap.size w w'
def RBool (b : Bool) (w : World) (e : Ending) (w' : World) : Prop := e = .returned (.bool b) ∧ Below w.heap.size w w'
def RInt (n : Int) (w : World) (e : Ending) (w' : World) : Prop := e = .returned (.int .i64 n) ∧ Below w.heap.size w w'
theorem Lower_c (s : ByteArray) (hs : s.size ≤ 1073741824) (w : World) : Calls Tryz.prog 98 #[.string s] w (RStr (Lz.low s.data.toList) w) :=
  (Lower_any s hs w).mono fun _ _ ⟨he, hb⟩ => ⟨_, he, rfl, hb⟩
theorem IndexByte_c (s : ByteArray) (c : UInt8) (w : World) : Calls Tryz.prog 73 #[.string s, .int .u8 c.toNat] w fun e w' => e = .returned (.int .i64 (Lib.indexByte s.data.toList c)) ∧ w = w' := by
  have h := Tryz.strings_IndexByte s c.toNat w
  have e : ((c.toNat : Int)).toNat.toUInt8 = c := by simp
  rw [e] at h
  exact h.mono fun _ _ ⟨he, hw⟩ => ⟨he, hw.symm⟩
theorem grow_below (w : World) (os : Array Obj) : Below w.heap.size w (Sort.grow w os) := by
  refine ⟨rfl, rfl, rfl, ?_, ?_⟩
  · show _ ≤ (w.heap ++ os).size
    simp
  · intro k hk
    show (w.heap ++ os)[k]? = _
    rw [Array.getElem?_append_left hk]
/-- A new slice of texts. -/
def RSplit (ls : List (List UInt8)) (w : World) (e : Ending) (w' : World) : Prop :=
  ∃ xs : List ByteArray, e = .returned (.slice (some ⟨w.heap.size, 0, none⟩) xs.length xs.length) ∧ Hid (xs.map (·.data.toList) = ls) ∧ Hid (w' = w.alloc (.cells (xs.map Value.string).toArray 9))
theorem piece_size {c : UInt8} {s : ByteArray} {xs : List ByteArray} (h : xs.map (·.data.toList) = Lz.splitC c s.data.toList) {x : ByteArray} (hx : x ∈ xs) : x.size ≤ s.size := by
  have := Lz.splitC_piece c s.data.toList x.data.toList (by rw [← h]; exact List.mem_map_of_mem hx)
  rwa [len_of_size, len_of_size] at this
theorem low_length (l : List UInt8) : (Lz.low l).length = l.length := by simp [Lz.low]
end Go.Proofs.YthijceooebebfaaGreatDoor
namespace Go.Proofs.YthijceooebebfaaGreatDoor
open Go.RowKit Go.Extern.Stop Go.Stop Go.Extern
theorem rlm (z : Sem Value) (f : TypeId → Addr → Nat → Nat → Sem Value) (v : Value) :
    ReflectliteValue.method z f #[v] = (do match ← ReflectliteValue.parts v with | none => z | some (t, a, fl) => f t a fl (fl % 32)) := rfl
theorem rls (v x : Value) : ReflectliteValue.set #[v, x] = (do
    let (some (dst, a, fl), some (src, b, _)) := (← ReflectliteValue.parts v, ← ReflectliteValue.parts x)
      | unsupported (.noEntry "extern/(internal/reflectlite.Value).Set.zeroValue")
    if fl / ReflectliteValue.flagAddr % 2 == 0 then unsupported (.noEntry "extern/(internal/reflectlite.Value).Set.unaddressable")
    let val ← loadVar src b
    if ← Rtype.directlyAssignable dst src then storeVar dst a val
    else if ← Rtype.implements dst src then
      if (← Rtype.kind src) == 20 then
        match val with
        | .nilIface => unsupported (.noEntry "extern/reflectlite: a nil value of one interface type handed on as a value of another")
        | _ => storeVar dst a val
      else storeVar dst a (.iface src val)
    else panicString ("reflectlite.Set: value of type " ++ (← Rtype.spelt src) ++ " is not assignable to type " ++ (← Rtype.spelt dst))
    pure (.tuple #[])) := rfl
theorem rt.methodKind (h : Value) (w : World) : (Go.method 419 138 (.agg #[h]) "Kind").run Tryz.prog w = .ok (253, h) w := by kernel_rfl
theorem rt.methodElem (h : Value) (w : World) : (Go.method 419 138 (.agg #[h]) "Elem").run Tryz.prog w = .ok (263, .agg #[h]) w := by kernel_rfl
theorem rt.methodImplements (h : Value) (w : World) : (Go.method 419 138 (.agg #[h]) "Implements").run Tryz.prog w = .ok (264, .agg #[h]) w := by kernel_rfl
theorem rt.methodAssignableTo (h : Value) (w : World) : (Go.method 419 138 (.agg #[h]) "AssignableTo").run Tryz.prog w = .ok (261, .agg #[h]) w := by kernel_rfl
end Go.Proofs.YthijceooebebfaaGreatDoor
namespace Go.Proofs.YthijceooebebfaaGreatDoor
open Go.RowKit
theorem extract_size_le' (s : ByteArray) (a b : Nat) : (s.extract a b).size ≤ s.size := by
  rw [← len_of_size, Lib.extract_data, List.length_take, List.length_drop, len_of_size]; omega
theorem extract_tail' (s : ByteArray) (k : Nat) : (s.extract k s.size).data.toList = s.data.toList.drop k := by
  rw [Lib.extract_data, List.take_of_length_le (by rw [List.length_drop, len_of_size]; exact Nat.le_refl _)]
theorem beqI (a b : UInt8) : ((a.toNat : Int) == (b.toNat : Int)) = (a == b) := by
  rw [Bool.eq_iff_iff, beq_iff_eq, beq_iff_eq]
  constructor
  · intro h; exact UInt8.toNat_inj.1 (by omega)
  · intro h; rw [h]
/-- A slice of bytes, as the world holds it. -/
def SlB (w : World) (v : Value) (l : List UInt8) : Prop :=
  ∃ a c, v = .slice a l.length c ∧ l.length ≤ 9223372036854775807 ∧ ∀ (j : Nat) (b : UInt8), l[j]? = some b → ∃ B off, a = some ⟨B, off, none⟩ ∧ B < w.heap.size ∧ w.cell? ⟨B, off + j, none⟩ = some (.int .u8 b.toNat)
theorem SlB.below {w w' : World} {v : Value} {l : List UInt8} (h : SlB w v l) (hb : Below w.heap.size w w') : SlB w' v l := by
  obtain ⟨a, c, h1, h2, h3⟩ := h
  refine ⟨a, c, h1, h2, fun j b hj => ?_⟩
  obtain ⟨B, off, e1, e2, e3⟩ := h3 j b hj
  exact ⟨B, off, e1, Nat.lt_of_lt_of_le e2 hb.size, by rw [hb.cell (p := ⟨B, off + j, none⟩) e2]; exact e3⟩
theorem append_data' (a b : ByteArray) : (a ++ b).data.toList = a.data.toList ++ b.data.toList := by simp
end Go.Proofs.YthijceooebebfaaGreatDoor

namespace Go.Proofs.YthijceooebebfaaGreatDoor
open Go.RowKit

structure EnvH (w : World) : Prop where
  ml : ∃ m, w.cell? ⟨1, 0, none⟩ = some (.int .i64 m)
  pow : Lib.TabIs Tryz.prog w "internal/strconv.uint64pow10" .u64 Lib.pow10Tab
  syn : ∃ te pe, w.cell? ⟨7, 0, none⟩ = some (.iface te pe)
  rng : ∃ te pe, w.cell? ⟨8, 0, none⟩ = some (.iface te pe)
  et : w.cell? ⟨6, 0, none⟩ = some (.iface 138 (.agg #[.pointer (some ⟨9, 52, none⟩)]))
  db8 : w.cell? ⟨3, 7, none⟩ = some (.int .u8 3)
  db16 : w.cell? ⟨3, 15, none⟩ = some (.int .u8 4)
  size : 9 ≤ w.heap.size

theorem EnvH.below {w w' : World} (h : EnvH w) (hb : Below w.heap.size w w') : EnvH w' := by
  have hz := h.size
  have hc : ∀ b o, b < 9 → w'.cell? ⟨b, o, none⟩ = w.cell? ⟨b, o, none⟩ := fun b o hlt => hb.cell (p := ⟨b, o, none⟩) (by show b < _; omega)
  obtain ⟨h1, h2, h3, h4, h5, h6, h7, h8⟩ := h
  refine ⟨?_, ?_, ?_, ?_, ?_, ?_, ?_, Nat.le_trans hz hb.size⟩
  · obtain ⟨m, hm⟩ := h1; exact ⟨m, by rw [hc _ _ (by decide)]; exact hm⟩
  · exact var?_below hb gPow (by show 0 < _; omega) h2
  · obtain ⟨a, b, hm⟩ := h3; exact ⟨a, b, by rw [hc _ _ (by decide)]; exact hm⟩
  · obtain ⟨a, b, hm⟩ := h4; exact ⟨a, b, by rw [hc _ _ (by decide)]; exact hm⟩
  · rw [hc _ _ (by decide)]; exact h5
  · rw [hc _ _ (by decide)]; exact h6
  · rw [hc _ _ (by decide)]; exact h7

theorem Split_h (s : ByteArray) (c : UInt8) (hs : s.size ≤ 1073741824) (w : World) (hE : EnvH w) : Calls Tryz.prog 209 #[.string s, .string ⟨#[c]⟩] w (RSplit (Lz.splitC c s.data.toList) w) := by
  obtain ⟨m, hm⟩ := hE.ml
  have hl : (Lib.splitB ⟨#[c]⟩ 0 (Lib.countB s ⟨#[c]⟩) s).map (·.data.toList) = Lz.splitC c s.data.toList := by
    rw [Lib.splitB_data]
    exact Lz.split_eq c s.data.toList
  have hn : (Lib.splitB ⟨#[c]⟩ 0 (Lib.countB s ⟨#[c]⟩) s).length = Lib.countB s ⟨#[c]⟩ + 1 := by
    have h := (Lz.split_both c s.data.toList).2
    rw [← hl, List.length_map] at h
    exact h
  refine (Tryz.strings_Split s ⟨#[c]⟩ m w (by omega) hm (Nat.le_refl 1)).mono fun e w' ⟨he, hw⟩ => ⟨_, ?_, hl, hw⟩
  rw [hn]
  exact he
theorem Itoa_h (n : Int) (h0 : -9223372036854775808 ≤ n) (h1 : n ≤ 9223372036854775807) (w : World) (hE : EnvH w) : Calls Tryz.prog 21 #[.int .i64 n] w (RStr (Lib.itoa n) w) :=
  (Tryz.strconv_Itoa n h0 h1 w hE.pow).mono fun _ _ ⟨he, k, os, hw⟩ => ⟨_, he, rfl, by rw [hw]; exact below_call (below_drewN (Below.refl _ _) k) (grow_below _ _)⟩
end Go.Proofs.YthijceooebebfaaGreatDoor
