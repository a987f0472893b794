/-
  Plain laws behind SourcesHost: a host of labels, in whichever case, with a scheme, a port and a path, or without, is parsed to these. No program in sight, no condition.
-/
import Derived.Test.YtkaejkjheajaaaaGreatDoorValP
namespace Lz
open Go

/-- A host's part as text, that is read so; what stands with it may be told so. -/
structure HostIs (S N path : Bs) (wild : Bool) (host : Bs) (port : Int) : Prop where
  name : hostP N = some (wild, host)
  chars : ∀ c ∈ N, c ≠ 58 ∧ c ≠ 47 ∧ c ≠ 39
  full : N ≠ []
  fport : port = -1 ∨ port = -2 ∨ (0 ≤ port ∧ port ≤ 65535)
  fpath : path = [] ∨ (allB isSeen path = true ∧ ∃ p, path = 47 :: p)
  fscheme : schemeB S = true ∨ (S = [] ∧ Lib.index path [58, 47, 47] = -1)

theorem hostedQ_is {S N host path : Bs} {wild : Bool} {port : Int} (sch : Bs) (h : HostIs S N path wild host port) : hostedQ sch path (N ++ portT port) = some ⟨3, [], 0, sch, host, wild, port, path⟩ := by
  obtain ⟨h1, hc, hne, h2, h3, h4⟩ := h
  have n58 : (58 : UInt8) ∉ N := fun e => (hc 58 e).1 rfl
  have hp : (path.isEmpty || allB isSeen path) = true := by
    rcases h3 with rfl | ⟨a, _⟩
    · rfl
    · rw [a, Bool.or_true]
  unfold hostedQ
  rcases h2 with rfl | h2
  · have e : portT (-1) = [] := rfl
    rw [e, List.append_nil, cut_miss _ _ (index_absent 58 [] _ n58)]
    dsimp only
    rw [h1]
    dsimp only
    rw [hp]
    rfl
  · obtain ⟨q, e, hq, _, _⟩ := portP_back h2
    rw [e]
    have := cut_hit 58 [] (N) q n58
    rw [show N ++ 58 :: q = N ++ (([58] : Bs) ++ q) from rfl, this]
    dsimp only
    rw [h1]
    dsimp only
    rw [if_pos rfl, hq]
    dsimp only
    rw [hp]
    rfl
/-- Name and port: no slash among them; what the last byte is not. -/
theorem namePort_is {N : Bs} {port : Int} (hc : ∀ c ∈ N, c ≠ 58 ∧ c ≠ 47 ∧ c ≠ 39) (hne : N ≠ []) (h2 : port = -1 ∨ port = -2 ∨ (0 ≤ port ∧ port ≤ 65535)) :
    (47 : UInt8) ∉ N ++ portT port ∧ (∀ c, (N ++ portT port).getLast? = some c → c ≠ 58) ∧ (∀ c, (N ++ portT port).head? = some c → c ≠ 39) ∧ N ++ portT port ≠ [] ∧
    (∀ b, Lib.index b [58, 47, 47] = -1 → Lib.index ((N ++ portT port) ++ b) [58, 47, 47] = -1) := by
  have n58 : (58 : UInt8) ∉ N := fun e => (hc 58 e).1 rfl
  have hhead : ∀ (z : Bs) c, (N ++ z).head? = some c → c ≠ 39 := by
    intro z c hz
    cases hn : N with
    | nil => exact absurd hn hne
    | cons d r =>
      rw [hn] at hz
      have : d = c := by simpa using hz
      subst this
      exact (hc d (by rw [hn]; simp)).2.2
  rcases h2 with rfl | h2
  · have e : portT (-1) = [] := rfl
    rw [e, List.append_nil]
    refine ⟨fun e => (hc 47 e).2.1 rfl, fun c hcl => (hc c (List.mem_of_getLast? hcl)).1, fun c h => hhead [] c (by rw [List.append_nil]; exact h), hne, fun b hb => ?_⟩
    rw [index_skip 58 [47, 47] _ b n58, hb]
    rfl
  · obtain ⟨q, e, hq, hqc, hqne⟩ := portP_back h2
    rw [e]
    refine ⟨?_, ?_, fun c h => hhead _ c h, by simp, ?_⟩
    · intro h
      rcases List.mem_append.1 h with h | h
      · exact (hc 47 h).2.1 rfl
      · rcases List.mem_cons.1 h with h | h
        · exact absurd h (by decide)
        · exact (hqc 47 h).2 rfl
    · intro c hcl
      rw [List.getLast?_append, List.getLast?_cons] at hcl
      cases hql : q.getLast? with
      | none => exact absurd (List.getLast?_eq_none_iff.1 hql) hqne
      | some d =>
        rw [hql] at hcl
        have : d = c := by simpa using hcl
        subst this
        exact (hqc d (List.mem_of_getLast? hql)).1
    · intro b hb
      rw [List.append_assoc, index_skip 58 [47, 47] _ _ n58]
      have n58q : (58 : UInt8) ∉ q := fun e => (hqc 58 e).1 rfl
      have : Lib.index (58 :: q ++ b) [58, 47, 47] = -1 := by
        cases q with
        | nil => exact absurd rfl hqne
        | cons d r =>
          have hd : ((47 : UInt8) == d) = false := by simpa using fun e => (hqc d (by simp)).2 e.symm
          have hi : Lib.index ((d :: r) ++ b) [58, 47, 47] = -1 := by
            rw [index_skip 58 [47, 47] _ _ n58q, hb]; rfl
          rw [List.cons_append, Lib.index]
          have hp : (([58, 47, 47] : Bs).isPrefixOf (58 :: ((d :: r) ++ b))) = false := by simp [List.isPrefixOf, hd]
          rw [hp, hi]
          rfl
      rw [this]
      rfl
theorem hostedP_is {S N host path : Bs} {wild : Bool} {port : Int} (sch : Bs) (h : HostIs S N path wild host port) : hostedP sch ((N ++ portT port) ++ path) = some ⟨3, [], 0, sch, host, wild, port, path⟩ := by
  have hq := hostedQ_is sch h
  obtain ⟨n47, _, _, _, _⟩ := namePort_is h.chars h.full h.fport
  unfold hostedP
  rcases h.fpath with rfl | ⟨_, p, rfl⟩
  · rw [List.append_nil, indexByte_absent 47 _ n47, if_neg (by decide)]
    exact hq
  · rw [indexByte_hit 47 _ p n47, if_pos (by omega)]
    simp only [Int.toNat_natCast, List.drop_left, List.take_left]
    exact hq
theorem parse_hosted {S N host path : Bs} {wild : Bool} {port : Int} (hok : HostIs S N path wild host port) :
    parseS ((if S = [] then [] else S ++ [58, 47, 47]) ++ ((N ++ portT port) ++ path)) = some ⟨3, [], 0, low S, host, wild, port, path⟩ := by
  have hp := hostedP_is (low S) hok
  obtain ⟨n47, hlast, hhead, hne, hidx⟩ := namePort_is hok.chars hok.full hok.fport
  have hs58 : schemeB S = true → (58 : UInt8) ∉ S := fun hs e => by
    unfold schemeB at hs
    rw [Bool.and_eq_true] at hs
    exact (schemed_not ((all_of_allB hs.2).1 58 e)).1 rfl
  have hS : hostedS ((if S = [] then [] else S ++ [58, 47, 47]) ++ ((N ++ portT port) ++ path)) = some ⟨3, [], 0, low S, host, wild, port, path⟩ := by
    unfold hostedS
    rcases hok.fscheme with hs | ⟨rfl, hi⟩
    · have hn : S ≠ [] := by rintro rfl; cases hs
      rw [if_neg hn, List.append_assoc, cut_hit 58 [47, 47] S _ (hs58 hs)]
      dsimp only
      rw [if_pos rfl, hs, if_pos rfl]
      exact hp
    · rw [if_pos rfl, List.nil_append, cut_miss _ _ (hidx path hi)]
      dsimp only
      rw [if_neg (by decide)]
      exact hp
  unfold parseS
  have hq : quotes ((if S = [] then [] else S ++ [58, 47, 47]) ++ ((N ++ portT port) ++ path)) = false := by
    unfold quotes
    have : ∀ c, ((if S = [] then [] else S ++ [58, 47, 47]) ++ ((N ++ portT port) ++ path)).head? = some c → c ≠ 39 := by
      intro c hc
      by_cases hn : S = []
      · rw [if_pos hn, List.nil_append] at hc
        refine hhead c ?_
        cases hnp : N ++ portT port with
        | nil => exact absurd hnp hne
        | cons d r => rw [hnp] at hc; simpa using hc
      · rw [if_neg hn] at hc
        rcases hok.fscheme with hs | ⟨h0, _⟩
        · cases S with
          | nil => exact absurd rfl hn
          | cons d r =>
            have : d = c := by simpa using hc
            subst this
            unfold schemeB at hs
            rw [Bool.and_eq_true] at hs
            exact (schemed_not ((all_of_allB hs.2).1 d (by simp))).2.2.1
        · exact absurd h0 hn
    cases hh : ((if S = [] then [] else S ++ [58, 47, 47]) ++ ((N ++ portT port) ++ path)).head? with
    | none => rw [Bool.and_assoc, Bool.and_eq_false_iff]; right; rfl
    | some c =>
      have hc := this c hh
      have : (some c == some (39 : UInt8)) = false := by simpa using hc
      rw [this, Bool.and_false, Bool.false_and]
  rw [hq, if_neg (by decide)]
  have hx : (Lib.hasSuffix ((if S = [] then [] else S ++ [58, 47, 47]) ++ ((N ++ portT port) ++ path)) [58] && schemeB (Lib.trimSuffix ((if S = [] then [] else S ++ [58, 47, 47]) ++ ((N ++ portT port) ++ path)) [58])) = false := by
    generalize hT : (if S = [] then [] else S ++ [58, 47, 47]) ++ ((N ++ portT port) ++ path) = T
    rw [Bool.and_eq_false_iff]
    cases hsf : Lib.hasSuffix T [58] with
    | false => exact Or.inl rfl
    | true =>
      right
      rw [Bool.eq_false_iff]
      intro hsb
      unfold Lib.trimSuffix at hsb
      rw [hsf, if_pos rfl] at hsb
      unfold Lib.hasSuffix at hsf
      obtain ⟨u, hu⟩ := List.isSuffixOf_iff_suffix.1 hsf
      have hlen : T.length - ([58] : Bs).length = u.length := by rw [← hu]; simp
      rw [hlen, ← hu, List.take_left] at hsb
      unfold schemeB at hsb
      rw [Bool.and_eq_true] at hsb
      have hu47 : (47 : UInt8) ∉ u := fun e => (schemed_not ((all_of_allB hsb.2).1 47 e)).2.1 rfl
      have hT47 : (47 : UInt8) ∉ T := by
        rw [← hu]
        intro e
        rcases List.mem_append.1 e with e | e
        · exact hu47 e
        · exact absurd (List.mem_singleton.1 e) (by decide)
      have hs0 : S = [] := by
        by_cases hn : S = []
        · exact hn
        · exfalso
          apply hT47
          rw [← hT, if_neg hn]
          simp
      have hp0 : path = [] := by
        rcases hok.fpath with h | ⟨_, p, h⟩
        · exact h
        · exfalso
          apply hT47
          rw [← hT, h]
          simp
      have hTl : T.getLast? = some 58 := by rw [← hu]; simp
      rw [← hT, if_pos hs0, hp0, List.nil_append, List.append_nil] at hTl
      exact hlast 58 hTl rfl
  rw [hx, if_neg (by decide)]
  exact hS


/-! ### The parts of SourcesHost -/
theorem letters_no (l more : Bs) (c : UInt8) (h9 : c ∉ nine) (hm : c ∉ more) : c ∉ lettersP l more := by
  unfold lettersP
  split
  · intro h
    exact h9 (by rw [List.mem_singleton.1 h]; decide)
  · intro h
    obtain ⟨b, _, e⟩ := List.mem_map.1 h
    have hmem := letter_mem (all := nine ++ more) (by simp [nine]) b
    rw [e] at hmem
    rcases List.mem_append.1 hmem with h | h
    · exact h9 h
    · exact hm h
theorem dash_word : nine.all isWord = true := by decide
/-- Two labels with a point between. -/
theorem two_labels {a b : Bs} (ha : allB isWord a = true) (hb : allB isWord b = true) : namedB (a ++ [46] ++ b) = true := by
  have e : ∀ {l : Bs}, allB isWord l = true → ∀ x ∈ l, x ≠ 46 := fun h x hx => (word_not ((all_of_allB h).1 x hx)).2.2.2.2
  unfold namedB
  rw [split_eq, List.append_assoc, List.singleton_append]
  have hsp : splitC 46 (a ++ 46 :: b) = [a, b] := by
    have h1 : ∀ (l r : Bs), (∀ x ∈ l, x ≠ 46) → splitC 46 (l ++ 46 :: r) = l :: splitC 46 r := by
      intro l r h
      induction l with
      | nil => rw [List.nil_append, splitC, if_pos (by simp)]
      | cons c l ih => rw [List.cons_append, splitC, if_neg (by simpa using h c (by simp)), ih (fun x hx => h x (by simp [hx]))]
    have h2 : ∀ (l : Bs), (∀ x ∈ l, x ≠ 46) → splitC 46 l = [l] := by
      intro l h
      induction l with
      | nil => rfl
      | cons c l ih => rw [splitC, if_neg (by simpa using h c (by simp)), ih (fun x hx => h x (by simp [hx]))]
    rw [h1 a b (e ha), h2 b (e hb)]
  rw [hsp]
  simp [ha, hb]
/-- The name, with what may stand ahead of it. -/
def wildT (wild : Bool) (name : Bs) : Bs := if wild then [42, 46] ++ name else name
theorem host_named {name : Bs} (hn : namedB name = true) (wild : Bool) : hostP (wildT wild name) = some (wild, low name) ∧ (∀ c ∈ wildT wild name, c ≠ 58 ∧ c ≠ 47 ∧ c ≠ 39) ∧ wildT wild name ≠ [] := by
  obtain ⟨hc, c, r, rfl, hw⟩ := named_chars hn
  cases wild
  · have e1 : wildT false (c :: r) = c :: r := rfl
    rw [e1]
    refine ⟨?_, fun d hd => ⟨(hc d hd).1, (hc d hd).2.1, (hc d hd).2.2.1⟩, by simp⟩
    unfold hostP
    have hc42 := (hc c (by simp)).2.2.2
    have hp : Lib.hasPrefix (c :: r) [42, 46] = false := by
      unfold Lib.hasPrefix
      have : ((42 : UInt8) == c) = false := by simpa using fun e => hc42 e.symm
      simp [List.isPrefixOf, this]
    have ht : Lib.trimPrefix (c :: r) [42, 46] = c :: r := by
      unfold Lib.trimPrefix; rw [hp]; rfl
    rw [if_neg (by intro h; injection h with h1 _; exact hc42 h1), ht, hn, if_pos rfl, hp]
  · have e1 : wildT true (c :: r) = 42 :: 46 :: (c :: r) := rfl
    rw [e1]
    refine ⟨?_, fun d hd => ?_, by simp⟩
    · unfold hostP
      have hp : Lib.hasPrefix (42 :: 46 :: (c :: r)) [42, 46] = true := hasPrefix_self [42, 46] (c :: r)
      have ht : Lib.trimPrefix (42 :: 46 :: (c :: r)) [42, 46] = c :: r := by
        unfold Lib.trimPrefix; rw [hp, if_pos rfl]; rfl
      rw [if_neg (by intro h; cases h), ht, hn, if_pos rfl, hp]
    · rcases List.mem_cons.1 hd with rfl | hd
      · decide
      · rcases List.mem_cons.1 hd with rfl | hd
        · decide
        · exact ⟨(hc d hd).1, (hc d hd).2.1, (hc d hd).2.2.1⟩
/-- What is written, and what is read. -/
theorem host_parse (a b s p : Bs) (wild hs hp : Bool) (port : Int) (ha : allB isWord a = true) (hb : allB isWord b = true) (hsc : allB isSchemed s = true) (hpa : allB isSeen p = true) (hp58 : (58 : UInt8) ∉ p) (hpo : port = -1 ∨ port = -2 ∨ (0 ≤ port ∧ port ≤ 65535)) :
    parseS ((if hs then 120 :: s ++ [58, 47, 47] else []) ++ (wildT wild (a ++ [46] ++ b) ++ portT port) ++ (if hp then 47 :: p ++ [47] else [])) =
      some ⟨3, [], 0, if hs then low (120 :: s) else [], low (a ++ [46] ++ b), wild, port, if hp then 47 :: p ++ [47] else []⟩ := by
  obtain ⟨h1, h2, h3⟩ := host_named (two_labels ha hb) wild
  have hpath : (if hp then 47 :: p ++ [47] else [] : Bs) = [] ∨ (allB isSeen (if hp then 47 :: p ++ [47] else []) = true ∧ ∃ q, (if hp then 47 :: p ++ [47] else [] : Bs) = 47 :: q) := by
    cases hp
    · exact Or.inl rfl
    · refine Or.inr ⟨?_, p ++ [47], rfl⟩
      unfold allB at hpa ⊢
      rw [Bool.and_eq_true] at hpa
      have : (47 :: p ++ [47] : Bs).all isSeen = true := by
        simp only [List.cons_append, List.all_cons, List.all_append, List.all_nil, hpa.1]
        decide
      rw [if_pos rfl, this]
      rfl
  have hidx : Lib.index (if hp then 47 :: p ++ [47] else [] : Bs) [58, 47, 47] = -1 := by
    refine index_absent 58 [47, 47] _ ?_
    cases hp
    · simp
    · rw [if_pos rfl]
      intro h
      rcases List.mem_append.1 h with h | h
      · rcases List.mem_cons.1 h with h | h
        · exact absurd h (by decide)
        · exact hp58 h
      · exact absurd (List.mem_singleton.1 h) (by decide)
  cases hs
  · have := parse_hosted (S := []) ⟨h1, h2, h3, hpo, hpath, Or.inr ⟨rfl, hidx⟩⟩
    rw [show low [] = [] from rfl] at this
    simpa using this
  · have hS : schemeB (120 :: s) = true := by
      unfold schemeB
      unfold allB at hsc ⊢
      rw [Bool.and_eq_true] at hsc
      simp only [List.all_cons, hsc.1]
      rfl
    have := parse_hosted (S := 120 :: s) ⟨h1, h2, h3, hpo, hpath, Or.inl hS⟩
    simpa using this
end Lz
