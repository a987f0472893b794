/-
  Plain laws of URLs: a text that says its scheme, and its host, is read alike by any base. No program in sight.
  Plain laws of URLs: how long a URL's text is. No program in sight.
  Plain laws of URLs: how long a URL's text is (the whole). No program in sight.
-/
import Derived.Test.YthijceooebebfaaGreatDoorM17
namespace Lz
open Go
theorem lead_two {r : Bs} (h : Lib.hasPrefix r [47, 47] = true) : 1 < leadS true r := by
  rw [hasPrefix_two] at h
  simp only [Bool.and_eq_true, beq_iff_eq] at h
  match r, h with
  | a :: b :: t, h =>
    have h1 : a = 47 := by simpa using h.1
    have h2 : b = 47 := by simpa using h.2
    subst h1; subst h2
    unfold leadS
    have h47 : slashQ true 47 = true := rfl
    rw [List.takeWhile_cons, List.takeWhile_cons, h47]
    simp
  | [a], h => have := h.2; simp at this
  | [], h => have := h.1; simp at this
/-- A scheme, and where it is special a host: the base makes no difference. -/
theorem main_base (u : UrlL) {s : Bs} (h : (schemedP s).2.2 = true) (hp : specP (schemedP s).1 = true → Lib.hasPrefix (schemedP s).2.1 [47, 47] = true) (b : Option UrlL) : mainU u s b = mainU u s none := by
  unfold mainU
  simp only
  rw [h, if_pos rfl, if_pos rfl]
  generalize (schemedP s).1 = sch at hp
  generalize (schemedP s).2.1 = r at hp
  by_cases hf : sch = fileS
  · rw [if_pos hf, if_pos hf]
    have hl := lead_two (hp (by rw [hf]; rfl))
    unfold filesU
    simp only [if_pos hl]
  · rw [if_neg hf, if_neg hf]
    by_cases hs : specP sch = true
    · rw [if_pos hs, if_pos hs]
      cases b with
      | none => rfl
      | some x =>
        simp only
        rw [if_neg (fun hh => by rw [hp hs] at hh; cases hh.2)]
    · rw [if_neg hs, if_neg hs]
theorem main_same_b {u : UrlL} (h : NU u) (b : Option UrlL) : mainU { query := u.query, hasQuery := u.hasQuery, fragment := u.fragment, hasFragment := u.hasFragment } (u.scheme ++ 58 :: bodyT u) b = .ok u := by
  have hs := schemed_of h.s1 h.s2 h.s3 (bodyT u)
  rw [main_base _ (by rw [hs]) _ b]
  · exact main_same h
  · rw [hs, h.s4]
    intro hsp
    have hh := (h.special hsp).1
    show Lib.hasPrefix (bodyT u) [47, 47] = true
    unfold bodyT
    rw [hh, hasPrefix_two]
    rfl
/-- WHAT IS READ, TOLD, IS READ AS IT AGAIN, BY ANY BASE. -/
theorem text_read_b {u : UrlL} (h : NU u) (b : Option UrlL) : readU (textU u) b = .ok u := by
  have h0 := text_read h
  unfold readU at h0 ⊢
  simp only at h0 ⊢
  have e : ∀ (w : UrlL) (t : Bs), (schemedP t).2.2 = true → (specP (schemedP t).1 = true → Lib.hasPrefix (schemedP t).2.1 [47, 47] = true) → mainU w t b = mainU w t none := fun w t h1 h2 => main_base w h1 h2 b
  have ht : (Lib.cut (Lib.cut (cleanP (textU u)) [35]).1 [63]).1 = u.scheme ++ 58 :: bodyT u := text_main h
  rw [e _ _ (by rw [ht, schemed_of h.s1 h.s2 h.s3]) (by
    rw [ht, schemed_of h.s1 h.s2 h.s3, h.s4]
    intro hsp
    have hh := (h.special hsp).1
    show Lib.hasPrefix (bodyT u) [47, 47] = true
    unfold bodyT
    rw [hh, hasPrefix_two]
    rfl)]
  exact h0
/-- What Parse answers, told, is read as it again, by any base that Parse answers. -/
theorem parse_again_b {s : Bs} {b : Option UrlL} {u : UrlL} (e : parseU s b = .ok u) (hl : (textU u).length ≤ 4000) {t : Bs} {b' : Option UrlL} {x : UrlL} (ex : parseU t b' = .ok x) : parseU (textU u) none = .ok u ∧ parseU (textU u) (some x) = .ok u := by
  refine ⟨?_, ?_⟩
  · unfold parseU
    rw [if_neg (by omega)]
    exact text_read (parse_form e)
  · rw [parse_base ex rfl hl]
    exact text_read_b (parse_form e) (some x)

/-! ### bytes of a text -/
theorem low_ge {c : UInt8} (h : lowQ c = false) : ¬ c < 32 := by
  unfold lowQ at h
  have := of_decide_eq_false h
  intro hc
  exact this (UInt8.le_of_lt hc)
theorem text_bytes {u : UrlL} (h : NU u) : ∀ c ∈ textU u, ¬ c < 32 ∧ c < 127 := by
  have hE : ∀ (of : Bs) (c : UInt8), okE of c = true → ¬ c < 32 ∧ c < 127 := by
    intro of c hc
    unfold okE at hc
    have h1 : (decide (c < 32) || decide (126 < c) || of.contains c) = false := by
      cases hh : (decide (c < 32) || decide (126 < c) || of.contains c)
      · rfl
      · rw [hh] at hc; cases hc
    simp only [Bool.or_eq_false_iff, decide_eq_false_iff_not] at h1
    refine ⟨h1.1.1, ?_⟩
    have h2 : ¬ 126 < c := h1.1.2
    rw [UInt8.lt_iff_toNat_lt] at h2 ⊢
    have : (126 : UInt8).toNat = 126 := rfl
    have : (127 : UInt8).toNat = 127 := rfl
    omega
  have hsch : ∀ c : UInt8, schemeC c = true → ¬ c < 32 ∧ c < 127 := byte_all (by decide +kernel)
  intro c hc
  rw [textU_eq] at hc
  rcases List.mem_append.1 hc with hc | hc
  · exact hsch c (List.all_eq_true.1 h.s3 c hc)
  · rcases List.mem_cons.1 hc with rfl | hc
    · decide
    · rcases List.mem_append.1 hc with hc | hc
      · rcases List.mem_append.1 hc with hc | hc
        · unfold bodyT at hc
          rcases List.mem_append.1 hc with hc | hc
          · split at hc
            · rename_i hh
              rcases List.mem_cons.1 hc with rfl | hc
              · decide
              · rcases List.mem_cons.1 hc with rfl | hc
                · decide
                · rcases List.mem_append.1 hc with hc | hc
                  · have := whoT_chars h.user h.pass c hc
                    exact ⟨low_ge (plain_of this.1).1, this.2.2⟩
                  · rcases h.host hh with H | ⟨hfs, he⟩
                    · have := placeT_chars H h.port c hc
                      exact ⟨low_ge (plain_of this.1).1, this.2.2.2⟩
                    · rw [he, (h.file hfs).2.2.1] at hc; cases hc
            · split at hc
              · have hq : ∀ c ∈ ([47, 46] : Bs), ¬ c < 32 ∧ c < 127 := by decide
                exact hq c hc
              · cases hc
          · split at hc
            · rename_i ho
              obtain ⟨_, p, hp, h2, _⟩ := h.opaqueN ho
              rw [hp] at hc
              exact hE _ c (all_mem h2 hc)
            · rename_i ho
              have ho : u.opq = false := by simpa using ho
              unfold pathT at hc
              obtain ⟨p, hp, hc⟩ := List.mem_flatMap.1 hc
              rcases List.mem_cons.1 hc with rfl | hc
              · decide
              · exact hE _ c (all_mem ((h.path ho).1 p hp).1 hc)
        · unfold queryT at hc
          split at hc
          · rcases List.mem_cons.1 hc with rfl | hc
            · decide
            · exact hE _ c (all_mem h.query hc)
          · cases hc
      · unfold fragT at hc
        split at hc
        · rcases List.mem_cons.1 hc with rfl | hc
          · decide
          · exact hE _ c (all_mem h.fragment hc)
        · cases hc

/-! ### UrlsAlone -/
/-- A front of bytes that the trim does not look at stays. -/
theorem clean_front {f : Bs} (hf : ∀ c ∈ f, lowQ c = false) (hne : f ≠ []) (s : Bs) : ∃ m, cleanP (f ++ s) = f ++ m := by
  rw [clean_eq, List.filter_append, List.filter_eq_self.2 (fun c hc => low_keep (hf c hc))]
  generalize s.filter keepQ = m
  have h1 : (f ++ m).dropWhile lowQ = f ++ m := by
    cases f with
    | nil => exact absurd rfl hne
    | cons c r => rw [List.cons_append, List.dropWhile_cons, hf c (by simp)]; rfl
  have h2 : ∀ l : Bs, ∃ l', (l ++ f.reverse).dropWhile lowQ = l' ++ f.reverse := by
    intro l
    induction l with
    | nil =>
      refine ⟨[], ?_⟩
      show f.reverse.dropWhile lowQ = f.reverse
      cases hr : f.reverse with
      | nil => rfl
      | cons c r =>
        have hc : c ∈ f := by rw [← List.mem_reverse, hr]; simp
        rw [List.dropWhile_cons, hf c hc]; rfl
    | cons c r ih =>
      rw [List.cons_append, List.dropWhile_cons]
      cases hc : lowQ c
      · exact ⟨c :: r, rfl⟩
      · simp only [if_true]; exact ih
  obtain ⟨l', hl⟩ := h2 m.reverse
  refine ⟨l'.reverse, ?_⟩
  rw [h1, List.reverse_append, hl, List.reverse_append, List.reverse_reverse]
theorem cut_front {f : Bs} {k : UInt8} (hk : k ∉ f) (s : Bs) : ∃ m, (Lib.cut (f ++ s) [k]).1 = f ++ m := by
  by_cases h : k ∈ s
  · obtain ⟨a, b, rfl, ha⟩ := split_first h
    refine ⟨a, ?_⟩
    rw [show f ++ (a ++ k :: b) = (f ++ a) ++ k :: b by simp, cut_one_at b (fun hh => (List.mem_append.1 hh).elim hk ha)]
  · refine ⟨s, ?_⟩
    rw [cut_one_no (fun hh => (List.mem_append.1 hh).elim hk h)]
theorem read_front {a : Bs} {p : Bs} (ha : SchN a) (hf : (a ++ 58 :: p).all plainQ = true) (hp : specP a = true → ∃ q, p = 47 :: 47 :: q) (s : Bs) (b : Option UrlL) : readU (a ++ 58 :: p ++ s) b = readU (a ++ 58 :: p ++ s) none := by
  have hpl : ∀ c ∈ a ++ 58 :: p, plainQ c = true := List.all_eq_true.1 hf
  obtain ⟨m, hm⟩ := clean_front (f := a ++ 58 :: p) (fun c hc => (plain_of (hpl c hc)).1) (by simp) s
  obtain ⟨m1, hm1⟩ := cut_front (f := a ++ 58 :: p) (k := 35) (fun hc => (plain_of (hpl 35 hc)).2.1 rfl) m
  obtain ⟨m2, hm2⟩ := cut_front (f := a ++ 58 :: p) (k := 63) (fun hc => (plain_of (hpl 63 hc)).2.2 rfl) m1
  have ht : (Lib.cut (Lib.cut (cleanP (a ++ 58 :: p ++ s)) [35]).1 [63]).1 = a ++ 58 :: (p ++ m2) := by
    rw [hm, hm1, hm2]; simp
  unfold readU
  simp only
  rw [main_base _ (by rw [ht, schemed_of ha.1 ha.2.1 ha.2.2.1]) (by
    rw [ht, schemed_of ha.1 ha.2.1 ha.2.2.1, ha.2.2.2]
    intro hsp
    obtain ⟨q, rfl⟩ := hp hsp
    show Lib.hasPrefix (47 :: 47 :: q ++ m2) [47, 47] = true
    rw [hasPrefix_two]; rfl) b]
/-- The four fronts of UrlsAlone. -/
def fronts : List Bs := [[120, 45, 121, 58], [104, 116, 116, 112, 58, 47, 47, 104, 47], [119, 115, 115, 58, 47, 47, 104, 58, 49, 47], [102, 105, 108, 101, 58, 47, 47, 104, 47]]
theorem alone_says {f : Bs} (hf : f ∈ fronts) (s : Bs) (hs : s.length ≤ 800) {t : Bs} {b' : Option UrlL} {x : UrlL} (ex : parseU t b' = .ok x) : parseU (f ++ s) (some x) = parseU (f ++ s) none := by
  have hlen : ∀ f ∈ fronts, f.length ≤ 10 := by decide
  have hl := hlen f hf
  rw [parse_base ex rfl (by rw [List.length_append]; omega)]
  have hn : parseU (f ++ s) none = readU (f ++ s) none := by
    unfold parseU
    rw [if_neg (by rw [List.length_append]; omega)]
  rw [hn]
  simp only [fronts, List.mem_cons, List.not_mem_nil, or_false] at hf
  have hS : ∀ a : Bs, (a ≠ [] ∧ (a.head?.map isAlpha).getD true = true ∧ a.all schemeC = true ∧ low a = a) → SchN a := by
    intro a ⟨h1, h2, h3, h4⟩
    refine ⟨h1, fun c hc => ?_, h3, h4⟩
    rw [hc] at h2
    exact h2
  rcases hf with rfl | rfl | rfl | rfl
  · exact read_front (a := [120, 45, 121]) (p := []) (hS _ (by decide)) (by decide) (fun h => absurd h (by decide)) s (some x)
  · exact read_front (a := httpS) (p := [47, 47, 104, 47]) (hS _ (by decide)) (by decide) (fun _ => ⟨_, rfl⟩) s (some x)
  · exact read_front (a := wssS) (p := [47, 47, 104, 58, 49, 47]) (hS _ (by decide)) (by decide) (fun _ => ⟨_, rfl⟩) s (some x)
  · exact read_front (a := fileS) (p := [47, 47, 104, 47]) (hS _ (by decide)) (by decide) (fun _ => ⟨_, rfl⟩) s (some x)
end Lz

namespace Lz
open Go
theorem enc_len3 (of : Bs) : ∀ s : Bs, (encodeP of s).length ≤ 3 * s.length
  | [] => Nat.zero_le _
  | c :: r => by
    have ih := enc_len3 of r
    unfold encodeP at ih ⊢
    rw [List.flatMap_cons, List.length_append, List.length_cons]
    have : (if c < 32 || 126 < c || of.contains c then [37, digitU (c.toNat / 16), digitU (c.toNat % 16)] else [c] : Bs).length ≤ 3 := by
      split
      · exact Nat.le_refl 3
      · exact Nat.le_add_left 1 2
    omega
/-- How long a path's text is. -/
def pl (l : List Bs) : Nat := (pathT l).length
theorem pl_nil : pl [] = 0 := rfl
theorem pl_app (a b : List Bs) : pl (a ++ b) = pl a + pl b := by simp [pl, pathT]
theorem pl_one (p : Bs) : pl [p] = p.length + 1 := by simp [pl, pathT]
theorem pl_short (scheme : Bs) (l : List Bs) : pl (shortP scheme l) ≤ pl l := by
  unfold shortP
  split
  · exact Nat.le_refl _
  · rcases List.eq_nil_or_concat l with rfl | ⟨r, p, rfl⟩
    · exact Nat.le_refl _
    · rw [List.concat_eq_append, List.dropLast_concat, pl_app]; omega
theorem pl_take (l : List Bs) : pl (l.take 1) ≤ pl l := by
  cases l with
  | nil => exact Nat.le_refl _
  | cons p r =>
    show pl [p] ≤ pl ([p] ++ r)
    rw [pl_app]; omega
def pw (l : List Bs) : Nat := (l.map fun p => 3 * p.length + 1).sum
theorem pw_cons (p : Bs) (l : List Bs) : pw (p :: l) = 3 * p.length + 1 + pw l := by simp [pw]
theorem onL_len (scheme : Bs) : ∀ (ps acc : List Bs), pl (onL scheme acc ps) ≤ pl acc + pw ps
  | [], acc => Nat.le_refl _
  | p :: r, acc => by
    have ih := fun a => onL_len scheme r a
    have he := enc_len3 (setU 4) p
    have hs := pl_short scheme acc
    have h1 : ∀ a : List Bs, pl (a ++ [[]]) = pl a + 1 := fun a => by rw [pl_app, pl_one]; rfl
    rw [onL, pw_cons]
    try simp only
    generalize encodeP (setU 4) p = q at he
    split
    · split
      · have := ih (shortP scheme acc ++ [[]])
        rw [h1] at this; omega
      · have := ih (shortP scheme acc); omega
    · split
      · split
        · have := ih (acc ++ [[]])
          rw [h1] at this; omega
        · have := ih acc; omega
      · have h2 : (if scheme = fileS ∧ acc = [] ∧ driveP q = true then q.take 1 ++ [58] else q).length ≤ q.length := by
          split
          · rename_i hh
            match q, hh.2.2 with
            | [a, b], _ => exact Nat.le_refl _
          · exact Nat.le_refl _
        have := ih (acc ++ [if scheme = fileS ∧ acc = [] ∧ driveP q = true then q.take 1 ++ [58] else q])
        rw [pl_app, pl_one] at this
        omega
theorem splitS_len (sp : Bool) : ∀ s : Bs, pw (splitS sp s) ≤ 3 * s.length + 1
  | [] => Nat.le_refl _
  | c :: r => by
    have ih := splitS_len sp r
    rw [splitS]
    split
    · rw [pw_cons, List.length_cons]; simp; omega
    · cases he : splitS sp r with
      | nil => exact absurd he (splitS_ne r)
      | cons x t =>
        rw [he, pw_cons] at ih
        show pw ((c :: x) :: t) ≤ _
        rw [pw_cons, List.length_cons, List.length_cons]; omega
theorem onP_len (u : UrlL) (t : Bs) : pl (onP u t).path ≤ pl u.path + 3 * t.length + 1 := by
  have h1 := onL_len u.scheme (splitS (specP u.scheme) t) u.path
  have h2 := splitS_len (specP u.scheme) t
  show pl (onL u.scheme u.path (splitS (specP u.scheme) t)) ≤ _
  omega
theorem cut_len (k : UInt8) (s : Bs) : (Lib.cut s [k]).1.length + (Lib.cut s [k]).2.1.length ≤ s.length := by
  have h := cut_facts k s
  cases hc : (Lib.cut s [k]).2.2 with
  | true =>
    have := congrArg List.length (h.2.2.2 hc)
    rw [List.length_append, List.length_cons] at this
    omega
  | false =>
    obtain ⟨h1, h2⟩ := h.2.1 hc
    rw [h1, h2]; simp
theorem cutS_len (sp : Bool) (s : Bs) : (cutS sp s).1.length + (cutS sp s).2.1.length ≤ s.length := by
  have h : ∀ s : Bs, (s.takeWhile fun c => !slashQ sp c).length + (s.dropWhile fun c => !slashQ sp c).length = s.length := by
    intro s
    have := congrArg List.length (List.takeWhile_append_dropWhile (p := fun c => !slashQ sp c) (l := s))
    rwa [List.length_append] at this
  have := h s
  unfold cutS
  simp only [List.length_drop]
  omega
theorem lastAt_len : ∀ {s x y : Bs}, lastAt s = some (x, y) → x.length + y.length + 1 = s.length
  | [], _, _, h => by cases h
  | c :: r, x, y, h => by
    rw [lastAt] at h
    cases hl : lastAt r with
    | some xy =>
      obtain ⟨a, b⟩ := xy
      rw [hl] at h
      have := lastAt_len hl
      simp only [Option.some.injEq, Prod.mk.injEq] at h
      obtain ⟨rfl, rfl⟩ := h
      rw [List.length_cons, List.length_cons]; omega
    | none =>
      rw [hl] at h
      simp only at h
      split at h
      · simp only [Option.some.injEq, Prod.mk.injEq] at h
        obtain ⟨rfl, rfl⟩ := h
        simp
      · cases h
/-! ### hosts -/
theorem joinP_len (sep : Bs) (m : Nat) : ∀ ls : List Bs, (∀ x, x ∈ ls → x.length ≤ m) → (joinP sep ls).length ≤ ls.length * (m + sep.length)
  | [], _ => by simp [joinP]
  | [x], h => by
    have hx := h x (by simp)
    simp [joinP]; omega
  | x :: y :: r, h => by
    have hx := h x (by simp)
    have hr := joinP_len sep m (y :: r) (fun z hz => h z (by simp [hz]))
    rw [joinP, List.length_append, List.length_append, List.length_cons, Nat.succ_mul]
    omega
theorem decode_lenU : ∀ l : Bs, (decodeP l).length ≤ l.length := by
  intro l
  induction h : l.length using Nat.strongRecOn generalizing l with
  | ind n ih =>
    cases l with
    | nil => rw [decodeP]; simp
    | cons c r =>
      rw [decodeP]
      simp only [List.length_cons] at h
      split
      · have := ih (r.drop 2).length (by simp; omega) (r.drop 2) rfl
        simp at this ⊢; omega
      · have := ih r.length (by omega) r rfl
        simp; omega
theorem told_lenU (l : List Nat) (h : ∀ n ∈ l, n < 65536) (h8 : l.length ≤ 8) : (toldP l).length ≤ 40 := by
  have hj := joinP_len [58] 4 (l.map hexD) (by
    intro x hx
    obtain ⟨n, hn, rfl⟩ := List.mem_map.1 hx
    exact hexD_len 3 n (by simpa using h n hn))
  rw [List.length_map] at hj
  unfold toldP
  simp at hj; omega
theorem textP_len (a : List Nat) (h8 : a.length = 8) (hl : ∀ n ∈ a, n < 65536) : (textP a).length ≤ 100 := by
  unfold textP
  have h1 := told_lenU a hl (by omega)
  have h2 := told_lenU (a.take (runP 0 a (0, 0)).1) (fun n hn => hl n (List.mem_of_mem_take hn)) (by rw [List.length_take]; omega)
  have h3 := told_lenU (a.drop (runP 0 a (0, 0)).2) (fun n hn => hl n (List.mem_of_mem_drop hn)) (by rw [List.length_drop]; omega)
  split
  · omega
  · rw [List.length_append, List.length_append]; show _ + 2 + _ ≤ _; omega
theorem decDigits_len : ∀ (k m : Nat), m < 10 ^ (k + 1) → (Lib.decDigits m).length ≤ k + 1 := by
  intro k
  induction k with
  | zero => intro m h; rw [Lib.decDigits, dif_pos (by simpa using h)]; simp
  | succ k ih =>
    intro m h
    rw [Lib.decDigits]
    split
    · simp
    · have := ih (m / 10) (by rw [Nat.pow_succ] at h; omega)
      simp; omega
theorem dottedP_len (b : List Nat) (h : b.length = 4) (hl : ∀ n ∈ b, n < 256) : (dottedP b).length ≤ 16 := by
  have hj := joinP_len [46] 3 (b.map fun x => Lib.decDigits x) (by
    intro x hx
    obtain ⟨n, hn, rfl⟩ := List.mem_map.1 hx
    exact decDigits_len 2 n (by have := hl n hn; simp; omega))
  rw [List.length_map, h] at hj
  exact hj
theorem host_lenU (s h : Bs) (b : Bool) (e : hostPr s b = .ok h) : h.length ≤ 3 * s.length + 110 := by
  unfold hostPr at e
  split at e
  · split at e
    · cases e
    · cases ha : sixP ((s.drop 1).dropLast) with
      | none => rw [ha] at e; cases e
      | some a =>
        rw [ha] at e
        simp only [Option.map_some, ofO] at e
        injection e with e
        obtain ⟨h8, hl⟩ := six_ok ha
        have := textP_len a h8 hl
        rw [← e, List.length_append, List.length_append]
        show 1 + _ + 1 ≤ _
        omega
  · split at e
    · unfold domainP at e
      simp only at e
      split at e
      · cases e
      · split at e
        · cases hf : fourP (labelsP (low (decodeP s))) with
          | none => rw [hf] at e; cases e
          | some t =>
            rw [hf] at e
            simp only [ofO] at e
            injection e with e
            obtain ⟨b4, h4, hl, rfl⟩ := four_ok (labels_ne _) hf
            have := dottedP_len b4 h4 hl
            rw [← e]; omega
        · injection e with e
          have := decode_lenU s
          rw [← e]
          show (low (decodeP s)).length ≤ _
          unfold low
          rw [List.length_map]; omega
    · split at e
      · cases e
      · injection e with e
        have := enc_len3 [] s
        rw [← e]; omega

/-! ### URLs -/
/-- The lengths of what is told of a URL, but for its query and fragment. -/
def wt (u : UrlL) : Nat := u.scheme.length + u.user.length + u.pass.length + u.host.length + pl u.path
theorem placeU_len {u v : UrlL} {a : Bs} (e : placeU u a = .ok v) : v.host.length ≤ 3 * a.length + 110 := by
  unfold placeU at e
  have hp : ∀ {w v : UrlL} {s : Bs}, portU w s = .ok v → v.host = w.host := by
    intro w v s h
    unfold portU at h
    cases hn : portN 0 s with
    | none => rw [hn] at h; cases h
    | some n =>
      rw [hn] at h
      simp only at h
      split at h
      · cases h
      · injection h with h
        rw [← h]; split <;> rfl
  cases hc : colonP false a with
  | some i =>
    rw [hc] at e
    simp only at e
    split at e
    · cases e
    · obtain ⟨w, hw, e⟩ := bind_ok e
      obtain ⟨h, rfl, hh⟩ := hostU_ok hw
      have h1 := host_lenU _ _ _ hh
      rw [hp e]
      rw [List.length_take] at h1
      show h.length ≤ _
      omega
  | none =>
    rw [hc] at e
    simp only at e
    split at e
    · cases e
    · obtain ⟨w, hw, e⟩ := bind_ok e
      obtain ⟨h, rfl, hh⟩ := hostU_ok hw
      have h1 := host_lenU _ _ _ hh
      rw [hp e]
      exact h1
theorem authU_len {u v : UrlL} {a : Bs} (e : authU u a = .ok v) (hu : u.port = -1) (hu1 : u.user = []) (hu2 : u.pass = []) : v.user.length + v.pass.length + v.host.length ≤ 3 * a.length + 110 := by
  unfold authU at e
  cases hl : lastAt a with
  | some xy =>
    obtain ⟨x, y⟩ := xy
    rw [hl] at e
    simp only at e
    split at e
    · cases e
    · have hlen := lastAt_len hl
      have h1 := placeU_len e
      obtain ⟨h, p, rfl, _⟩ := placeU_ok e (show (whoU u x).port = -1 from hu)
      have h2 := cut_len 58 x
      have h3 := enc_len3 (setU 5) (Lib.cut x [58]).1
      have h4 := enc_len3 (setU 5) (Lib.cut x [58]).2.1
      show (encodeP (setU 5) (Lib.cut x [58]).1).length + (encodeP (setU 5) (Lib.cut x [58]).2.1).length + h.length ≤ _
      have h1 : h.length ≤ 3 * y.length + 110 := h1
      omega
  | none =>
    rw [hl] at e
    have h1 := placeU_len e
    obtain ⟨h, p, rfl, _⟩ := placeU_ok e hu
    show u.user.length + u.pass.length + h.length ≤ _
    have h1 : h.length ≤ 3 * a.length + 110 := h1
    rw [hu1, hu2]
    simp; omega
theorem hostedU_len {u v : UrlL} {r : Bs} (e : hostedU u r = .ok v) (hu : u.port = -1) (hu1 : u.user = []) (hu2 : u.pass = []) (hp : u.path = []) : wt v ≤ u.scheme.length + 3 * r.length + 111 := by
  unfold hostedU at e
  obtain ⟨w, hw, e⟩ := bind_ok e
  have h1 := authU_len hw hu hu1 hu2
  obtain ⟨us, pa, h, p, rfl, _⟩ := authU_ok hw hu hu1 hu2
  injection e with e
  have hc := cutS_len (specP u.scheme) r
  have h1 : us.length + pa.length + h.length ≤ 3 * (cutS (specP u.scheme) r).1.length + 110 := h1
  split at e
  · have h2 := onP_len { u with user := us, pass := pa, host := h, hasHost := true, port := p } (cutS (specP u.scheme) r).2.1
    have h2 : pl (onP { u with user := us, pass := pa, host := h, hasHost := true, port := p } (cutS (specP u.scheme) r).2.1).path ≤ pl u.path + 3 * (cutS (specP u.scheme) r).2.1.length + 1 := h2
    have h0 : pl u.path = 0 := by rw [hp]; rfl
    rw [← e]
    show u.scheme.length + us.length + pa.length + h.length + pl _ ≤ _
    omega
  · rw [← e]
    show u.scheme.length + us.length + pa.length + h.length + pl u.path ≤ _
    rw [hp, pl_nil]; omega
/-- How long what is read ahead of the query is; the base counts once. -/
def bw : Option UrlL → Nat
  | some x => wt x
  | none => 0
theorem relU_len {u b v : UrlL} {r : Bs} (e : relU u b r = .ok v) (hs : u.scheme = b.scheme) (hu : Fresh u) : wt v ≤ wt b + 3 * r.length + 111 := by
  have hsl : u.scheme.length = b.scheme.length := by rw [hs]
  unfold relU at e
  simp only at e
  split at e
  · have h1 := hostedU_len e hu.port hu.user hu.pass hu.path
    have h2 : (if specP u.scheme = true then r.drop (leadS (specP u.scheme) r) else r.drop 2).length ≤ r.length := by
      split
      · rw [List.length_drop]; omega
      · rw [List.length_drop]; omega
    have h3 : b.scheme.length ≤ wt b := by unfold wt; omega
    omega
  · split at e
    · injection e with e
      have h1 := onP_len (restU u b) (r.drop 1)
      have h0 : pl (restU u b).path = 0 := by show pl u.path = 0; rw [hu.path]; rfl
      have h2 : (r.drop 1).length ≤ r.length := by rw [List.length_drop]; omega
      rw [← e]
      show u.scheme.length + b.user.length + b.pass.length + b.host.length + pl (onP (restU u b) (r.drop 1)).path ≤ _
      unfold wt
      omega
    · injection e with e
      rw [← e]
      unfold pathU
      have hs1 := pl_short u.scheme b.path
      split
      · have h1 : ∀ w : UrlL, w.path = shortP u.scheme b.path → pl (onP w r).path ≤ pl (shortP u.scheme b.path) + 3 * r.length + 1 := by
          intro w hw
          have h2 := onP_len w r
          rw [show pl w.path = pl (shortP u.scheme b.path) by rw [hw]] at h2
          exact h2
        show u.scheme.length + b.user.length + b.pass.length + b.host.length + pl _ ≤ _
        refine Nat.le_trans (Nat.add_le_add_left (h1 _ rfl) _) ?_
        unfold wt
        omega
      · split
        · show u.scheme.length + b.user.length + b.pass.length + b.host.length + pl b.path ≤ _
          unfold wt
          omega
        · show u.scheme.length + b.user.length + b.pass.length + b.host.length + pl b.path ≤ _
          unfold wt
          omega
theorem filesU_len {u v : UrlL} {b : Option UrlL} {r : Bs} (e : filesU u b r = .ok v) (hu : Fresh u) : wt v ≤ u.scheme.length + bw b + 3 * r.length + 111 := by
  have hz : pl u.path = 0 := by rw [hu.path]; rfl
  have hmk : ∀ (w : UrlL) (t : Bs) (k : Nat), w.scheme = u.scheme → w.user = [] → w.pass = [] → w.host.length + pl w.path + 3 * t.length ≤ k → wt (onP w t) ≤ u.scheme.length + k + 1 := by
    intro w t k h1 h2 h3 h4
    have h5 := onP_len w t
    show w.scheme.length + w.user.length + w.pass.length + w.host.length + pl (onP w t).path ≤ _
    rw [h1, h2, h3]
    simp only [List.length_nil]
    omega
  have hd2 : (r.drop 2).length ≤ r.length := by rw [List.length_drop]; omega
  have hd1 : (r.drop 1).length ≤ r.length := by rw [List.length_drop]; omega
  have hh0 : u.host.length = 0 := by rw [hu.host]; rfl
  have hc := cutS_len true (r.drop 2)
  unfold filesU at e
  simp only at e
  split at e
  · split at e
    · injection e with e
      rw [← e]
      have := hmk { u with hasHost := true } (r.drop 2) (3 * r.length) rfl hu.user hu.pass (by show u.host.length + pl u.path + _ ≤ _; omega)
      omega
    · obtain ⟨w, hw, e⟩ := bind_ok e
      injection e with e
      rw [← e]
      split at hw
      · injection hw with hw
        have hh : w.host = [] := by rw [← hw]; exact hu.host
        rw [if_neg (by rw [hh]; decide), ← hw]
        have := hmk { u with hasHost := true } (cutS true (r.drop 2)).2.1 (3 * r.length) rfl hu.user hu.pass (by show u.host.length + pl u.path + _ ≤ _; omega)
        omega
      · obtain ⟨h, rfl, hh⟩ := hostU_ok hw
        have hl := host_lenU _ _ _ hh
        split
        · have := hmk { u with hasHost := true, host := [] } (cutS true (r.drop 2)).2.1 (3 * r.length) rfl hu.user hu.pass (by show 0 + pl u.path + _ ≤ _; omega)
          refine Nat.le_trans this ?_
          omega
        · have := hmk { u with hasHost := true, host := h } (cutS true (r.drop 2)).2.1 (3 * r.length + 110) rfl hu.user hu.pass (by show h.length + pl u.path + _ ≤ _; omega)
          refine Nat.le_trans this ?_
          omega
  · have hb : ∀ x, b = some x → x.host.length + pl x.path ≤ bw b := by
      rintro x rfl
      show _ ≤ wt x
      unfold wt; omega
    split at e
    · injection e with e
      rw [← e]
      cases b with
      | none =>
        have := hmk { u with hasHost := true } (r.drop 1) (3 * r.length) rfl hu.user hu.pass (by show u.host.length + pl u.path + _ ≤ _; omega)
        refine Nat.le_trans this ?_
        omega
      | some x =>
        have hbx := hb x rfl
        have ht := pl_take x.path
        simp only
        split
        · split
          · have := hmk { u with hasHost := true, host := x.host, path := x.path.take 1 } (r.drop 1) (bw (some x) + 3 * r.length) rfl hu.user hu.pass (by show x.host.length + pl (x.path.take 1) + _ ≤ _; omega)
            refine Nat.le_trans this ?_
            omega
          · have := hmk { u with hasHost := true, host := x.host } (r.drop 1) (bw (some x) + 3 * r.length) rfl hu.user hu.pass (by show x.host.length + pl u.path + _ ≤ _; omega)
            refine Nat.le_trans this ?_
            omega
        · have := hmk { u with hasHost := true } (r.drop 1) (3 * r.length) rfl hu.user hu.pass (by show u.host.length + pl u.path + _ ≤ _; omega)
          refine Nat.le_trans this ?_
          omega
    · cases b with
      | none =>
        injection e with e
        rw [← e]
        have := hmk { u with hasHost := true } r (3 * r.length) rfl hu.user hu.pass (by show u.host.length + pl u.path + _ ≤ _; omega)
        refine Nat.le_trans this ?_
        omega
      | some x =>
        have hbx := hb x rfl
        simp only at e
        split at e
        · split at e
          · injection e with e
            rw [← e]
            have := hmk { u with hasHost := true, host := x.host } r (bw (some x) + 3 * r.length) rfl hu.user hu.pass (by show x.host.length + pl u.path + _ ≤ _; omega)
            refine Nat.le_trans this ?_
            omega
          · injection e with e
            rw [← e]
            have hs1 := pl_short u.scheme x.path
            have h00 : u.user.length = 0 ∧ u.pass.length = 0 := by rw [hu.user, hu.pass]; exact ⟨rfl, rfl⟩
            unfold pathU
            split
            · have := hmk { ({ ({ u with hasHost := true } : UrlL) with host := x.host } : UrlL) with path := shortP u.scheme x.path } r (bw (some x) + 3 * r.length) rfl hu.user hu.pass (by show x.host.length + pl (shortP u.scheme x.path) + _ ≤ _; omega)
              refine Nat.le_trans this ?_
              omega
            · split
              · show u.scheme.length + u.user.length + u.pass.length + x.host.length + pl x.path ≤ _
                omega
              · show u.scheme.length + u.user.length + u.pass.length + x.host.length + pl x.path ≤ _
                omega
        · injection e with e
          rw [← e]
          have := hmk { u with hasHost := true } r (3 * r.length) rfl hu.user hu.pass (by show u.host.length + pl u.path + _ ≤ _; omega)
          refine Nat.le_trans this ?_
          omega
end Lz

namespace Lz
open Go
theorem hostedU_q {u v : UrlL} {r : Bs} (e : hostedU u r = .ok v) (hu : u.port = -1) (hu1 : u.user = []) (hu2 : u.pass = []) : v.scheme = u.scheme ∧ v.query = u.query := by
  unfold hostedU at e
  obtain ⟨w, hw, e⟩ := bind_ok e
  obtain ⟨us, pa, h, p, rfl, _⟩ := authU_ok hw hu hu1 hu2
  injection e with e
  rw [← e]
  split <;> exact ⟨rfl, rfl⟩
theorem pathU_q (w b : UrlL) (r : Bs) : (pathU w b r).scheme = w.scheme ∧ ((pathU w b r).query = w.query ∨ (pathU w b r).query = b.query) := by
  unfold pathU
  split
  · exact ⟨rfl, Or.inl rfl⟩
  · split
    · exact ⟨rfl, Or.inl rfl⟩
    · exact ⟨rfl, Or.inr rfl⟩
theorem relU_q {u b v : UrlL} {r : Bs} (e : relU u b r = .ok v) (hu : Fresh u) : v.scheme = u.scheme ∧ (v.query = u.query ∨ v.query = b.query) := by
  unfold relU at e
  simp only at e
  split at e
  · have := hostedU_q e hu.port hu.user hu.pass
    exact ⟨this.1, Or.inl this.2⟩
  · split at e
    · injection e with e
      rw [← e]; exact ⟨rfl, Or.inl rfl⟩
    · injection e with e
      rw [← e]
      exact pathU_q (restU u b) b r
theorem filesU_q {u v : UrlL} {b : Option UrlL} {r : Bs} (e : filesU u b r = .ok v) : v.scheme = u.scheme ∧ (v.query = u.query ∨ ∃ x, b = some x ∧ x.scheme = fileS ∧ v.query = x.query) := by
  unfold filesU at e
  simp only at e
  split at e
  · split at e
    · injection e with e
      rw [← e]; exact ⟨rfl, Or.inl rfl⟩
    · obtain ⟨w, hw, e⟩ := bind_ok e
      injection e with e
      rw [← e]
      split at hw
      · injection hw with hw
        rw [← hw]
        split <;> exact ⟨rfl, Or.inl rfl⟩
      · obtain ⟨h, rfl, hh⟩ := hostU_ok hw
        split <;> exact ⟨rfl, Or.inl rfl⟩
  · split at e
    · injection e with e
      rw [← e]
      cases b with
      | none => exact ⟨rfl, Or.inl rfl⟩
      | some x =>
        simp only
        split
        · split <;> exact ⟨rfl, Or.inl rfl⟩
        · exact ⟨rfl, Or.inl rfl⟩
    · cases b with
      | none =>
        injection e with e
        rw [← e]; exact ⟨rfl, Or.inl rfl⟩
      | some x =>
        simp only at e
        split at e
        · rename_i hx
          split at e
          · injection e with e
            rw [← e]; exact ⟨rfl, Or.inl rfl⟩
          · injection e with e
            rw [← e]
            obtain ⟨h1, h2⟩ := pathU_q { ({ u with hasHost := true } : UrlL) with host := x.host } x r
            refine ⟨h1, ?_⟩
            rcases h2 with h2 | h2
            · exact Or.inl h2
            · exact Or.inr ⟨x, rfl, hx, h2⟩
        · injection e with e
          rw [← e]; exact ⟨rfl, Or.inl rfl⟩
theorem schemed_len {s : Bs} (h : (schemedP s).2.2 = true) : (schemedP s).1.length + 1 + (schemedP s).2.1.length = s.length := by
  have hc := cut_facts 58 s
  rw [schemedP_eq] at h ⊢
  by_cases hh : schemeOk (Lib.cut s [58]) = true
  · rw [if_pos hh]
    have h1 : (Lib.cut s [58]).2.2 = true := by
      unfold schemeOk at hh
      simp only [Bool.and_eq_true] at hh
      exact hh.1.1.1
    have := congrArg List.length (hc.2.2.2 h1)
    rw [List.length_append, List.length_cons] at this
    show (low (Lib.cut s [58]).1).length + 1 + (Lib.cut s [58]).2.1.length = _
    unfold low
    rw [List.length_map]; omega
  · rw [if_neg hh] at h; cases h
/-- How long what is read ahead of the query is, and whose query it is. -/
theorem mainU_all {u v : UrlL} {s : Bs} {b : Option UrlL} (e : mainU u s b = .ok v) (hu : Fresh u) (hb : ∀ x, b = some x → NU x) : wt v ≤ bw b + 3 * s.length + 120 ∧ (v.query = u.query ∨ ∃ x, b = some x ∧ v.scheme = x.scheme ∧ v.query = x.query) := by
  have hfr : ∀ sch, Fresh { u with scheme := sch } := fun sch => ⟨hu.user, hu.pass, hu.hasHost, hu.host, hu.port, hu.opq, hu.path⟩
  have hz : u.user.length = 0 ∧ u.pass.length = 0 ∧ u.host.length = 0 ∧ pl u.path = 0 := by rw [hu.user, hu.pass, hu.host, hu.path]; exact ⟨rfl, rfl, rfl, rfl⟩
  unfold mainU at e
  simp only at e
  cases hok : (schemedP s).2.2 with
  | true =>
    have hlen := schemed_len hok
    rw [hok, if_pos rfl] at e
    generalize (schemedP s).1 = sch at e hlen
    generalize (schemedP s).2.1 = r at e hlen
    have hhost : ∀ {t : Bs}, hostedU { u with scheme := sch } t = .ok v → t.length ≤ r.length → wt v ≤ bw b + 3 * s.length + 120 ∧ (v.query = u.query ∨ ∃ x, b = some x ∧ v.scheme = x.scheme ∧ v.query = x.query) := by
      intro t et ht
      have h1 := hostedU_len et hu.port hu.user hu.pass hu.path
      have h1 : wt v ≤ sch.length + 3 * t.length + 111 := h1
      exact ⟨by omega, Or.inl (hostedU_q et hu.port hu.user hu.pass).2⟩
    have hdr : ∀ n, (r.drop n).length ≤ r.length := fun n => by rw [List.length_drop]; omega
    split at e
    · rename_i hf
      have h1 := filesU_len (u := { u with scheme := sch }) e (hfr sch)
      have h1 : wt v ≤ sch.length + bw b + 3 * r.length + 111 := h1
      obtain ⟨h2, h3⟩ := filesU_q (u := { u with scheme := sch }) e
      refine ⟨by omega, ?_⟩
      rcases h3 with h3 | ⟨x, hx, hxf, h3⟩
      · exact Or.inl h3
      · exact Or.inr ⟨x, hx, h2.trans (hf.trans hxf.symm), h3⟩
    · split at e
      · cases b with
        | none => exact hhost e (hdr _)
        | some x =>
          simp only at e
          split at e
          · rename_i hh
            have h1 := relU_len (u := { u with scheme := sch }) e hh.1.symm (hfr sch)
            obtain ⟨h2, h3⟩ := relU_q (u := { u with scheme := sch }) e (hfr sch)
            refine ⟨?_, ?_⟩
            · show wt v ≤ wt x + 3 * s.length + 120
              omega
            · rcases h3 with h3 | h3
              · exact Or.inl h3
              · exact Or.inr ⟨x, rfl, h2.trans hh.1.symm, h3⟩
          · exact hhost e (hdr _)
      · split at e
        · exact hhost e (hdr _)
        · split at e
          · injection e with e
            rw [← e]
            have h1 := onP_len { u with scheme := sch } (r.drop 1)
            have h1 : pl (onP { u with scheme := sch } (r.drop 1)).path ≤ pl u.path + 3 * (r.drop 1).length + 1 := h1
            have h2 := hdr 1
            refine ⟨?_, Or.inl rfl⟩
            show sch.length + u.user.length + u.pass.length + u.host.length + pl _ ≤ _
            omega
          · injection e with e
            rw [← e]
            have h1 := enc_len3 [] r
            refine ⟨?_, Or.inl rfl⟩
            show sch.length + u.user.length + u.pass.length + u.host.length + pl [encodeP [] r] ≤ _
            rw [pl_one]
            omega
  | false =>
    rw [hok, if_neg (by decide)] at e
    cases b with
    | none => cases e
    | some x =>
      simp only at e
      split at e
      · cases e
      · split at e
        · injection e with e
          rw [← e]
          obtain ⟨h1, h2⟩ := pathU_q { ({ u with scheme := x.scheme } : UrlL) with opq := true } x []
          refine ⟨?_, ?_⟩
          · have hp : (pathU { ({ u with scheme := x.scheme } : UrlL) with opq := true } x []).path = x.path ∧ (pathU { ({ u with scheme := x.scheme } : UrlL) with opq := true } x []).user = u.user ∧ (pathU { ({ u with scheme := x.scheme } : UrlL) with opq := true } x []).pass = u.pass ∧ (pathU { ({ u with scheme := x.scheme } : UrlL) with opq := true } x []).host = u.host := by
              unfold pathU
              rw [if_neg (fun h => h rfl)]
              split <;> exact ⟨rfl, rfl, rfl, rfl⟩
            show wt _ ≤ wt x + 3 * s.length + 120
            unfold wt
            rw [h1, hp.1, hp.2.1, hp.2.2.1, hp.2.2.2]
            show x.scheme.length + _ + _ + _ + _ ≤ _
            omega
          · rcases h2 with h2 | h2
            · exact Or.inl h2
            · exact Or.inr ⟨x, rfl, h1, h2⟩
        · split at e
          · rename_i hf
            have h1 := filesU_len (u := { u with scheme := x.scheme }) e (hfr x.scheme)
            obtain ⟨h2, h3⟩ := filesU_q (u := { u with scheme := x.scheme }) e
            have h1 : wt v ≤ x.scheme.length + wt x + 3 * s.length + 111 := h1
            have h4 : x.scheme.length = 4 := by rw [hf]; rfl
            refine ⟨?_, ?_⟩
            · show wt v ≤ wt x + 3 * s.length + 120
              omega
            · rcases h3 with h3 | ⟨y, hy, _, h3⟩
              · exact Or.inl h3
              · cases hy
                exact Or.inr ⟨x, rfl, h2, h3⟩
          · have h1 := relU_len (u := { u with scheme := x.scheme }) e rfl (hfr x.scheme)
            obtain ⟨h2, h3⟩ := relU_q (u := { u with scheme := x.scheme }) e (hfr x.scheme)
            refine ⟨?_, ?_⟩
            · show wt v ≤ wt x + 3 * s.length + 120
              omega
            · rcases h3 with h3 | h3
              · exact Or.inl h3
              · exact Or.inr ⟨x, rfl, h2, h3⟩
theorem clean_len (s : Bs) : (cleanP s).length ≤ s.length := by
  rw [clean_eq, List.length_reverse]
  have h1 : ∀ l : Bs, (l.dropWhile lowQ).length ≤ l.length := fun l => (List.dropWhile_sublist lowQ).length_le
  refine Nat.le_trans (h1 _) ?_
  rw [List.length_reverse]
  refine Nat.le_trans (h1 _) ?_
  exact List.length_filter_le _ _
/-- All that is told of a URL but for signs. -/
def wq (u : UrlL) : Nat := wt u + u.query.length + u.fragment.length
def bq : Option UrlL → Nat
  | some x => wq x
  | none => 0
theorem readU_len {s : Bs} {b : Option UrlL} {u : UrlL} (e : readU s b = .ok u) (hb : ∀ x, b = some x → NU x) : wq u ≤ bq b + 3 * s.length + 120 := by
  unfold readU at e
  simp only at e
  obtain ⟨v, hv, e⟩ := bind_ok e
  injection e with e
  have hc := clean_len s
  have f := cut_len 35 (cleanP s)
  have q := cut_len 63 (Lib.cut (cleanP s) [35]).1
  have f' := cut_facts 35 (cleanP s)
  have q' := cut_facts 63 (Lib.cut (cleanP s) [35]).1
  have hl := @clean_last s
  generalize Lib.cut (cleanP s) [35] = F at hv f q f' q'
  generalize Lib.cut F.1 [63] = G at hv q q'
  obtain ⟨f1, f2, f3, _⟩ := f'
  obtain ⟨q1, q2, q3, _⟩ := q'
  obtain ⟨h1, h2⟩ := mainU_all hv ⟨rfl, rfl, rfl, rfl, rfl, rfl, rfl⟩ hb
  have hfr : v.fragment = F.2.1 := (mainU_form hv ⟨rfl, rfl, rfl, rfl, rfl, rfl, rfl⟩ (fun h => f1 (q3 _ h)) q1
    (fun h1 h2 h => by
      have e1 := (q2 h1).1
      have e2 := (f2 h2).1
      rw [e1, e2] at h
      have := hl h
      cases this)
    (fun h => (q2 h).2) hb).2.2.2
  have hfl := enc_len3 (setU 1) F.2.1
  rw [← e]
  show wt v + (encodeP (setU (if specP v.scheme then 3 else 2)) v.query).length + (encodeP (setU 1) v.fragment).length ≤ _
  rw [hfr]
  have hbw : bw b ≤ bq b := by
    cases b with
    | none => exact Nat.le_refl _
    | some x => show wt x ≤ wq x; unfold wq; omega
  rcases h2 with h2 | ⟨x, rfl, h3, h4⟩
  · rw [h2]
    have hql := enc_len3 (setU (if specP v.scheme then 3 else 2)) G.2.1
    have hql : (encodeP (setU (if specP v.scheme then 3 else 2)) ({ query := G.2.1, hasQuery := G.2.2, fragment := F.2.1, hasFragment := F.2.2 } : UrlL).query).length ≤ 3 * G.2.1.length := hql
    omega
  · rw [h4, h3, encode_id (hb x rfl).query]
    have h1 : wt v ≤ wt x + 3 * G.1.length + 120 := h1
    show wt v + x.query.length + _ ≤ wq x + 3 * s.length + 120
    unfold wq
    omega
theorem textU_len {u : UrlL} (hp : PortN u.scheme u.port) : (textU u).length ≤ wq u + 20 := by
  have h1 : (atU u).length ≤ u.host.length + 6 := by
    unfold atU
    rcases hp with h | ⟨n, h, hn, _⟩
    · rw [if_pos h]; omega
    · rw [if_neg (by omega), h, itoa_nat, List.length_append, List.length_append]
      have := decDigits_len 4 n (by omega)
      show u.host.length + 1 + _ ≤ _
      omega
  have h2 : (if u.opq = true then u.path.headD [] else u.path.flatMap fun p => 47 :: p).length ≤ pl u.path := by
    split
    · cases u.path with
      | nil => exact Nat.zero_le _
      | cons p r =>
        show p.length ≤ pl ([p] ++ r)
        rw [pl_app, pl_one]; omega
    · exact Nat.le_refl _
  have h3 : (if u.hasHost = true then [47, 47] ++ u.user ++ (if u.pass = [] then [] else [58] ++ u.pass) ++ (if u.user = [] ∧ u.pass = [] then [] else [64]) ++ atU u else if u.opq = false ∧ 1 < u.path.length ∧ u.path.head? = some [] then [47, 46] else [] : Bs).length ≤ 10 + u.user.length + u.pass.length + u.host.length := by
    split
    · have e1 : (if u.pass = [] then [] else [58] ++ u.pass : Bs).length ≤ u.pass.length + 1 := by
        split
        · exact Nat.zero_le _
        · rw [List.length_append]; show 1 + _ ≤ _; omega
      have e2 : (if u.user = [] ∧ u.pass = [] then [] else [64] : Bs).length ≤ 1 := by split <;> simp
      rw [List.length_append, List.length_append, List.length_append, List.length_append]
      show 2 + _ + _ + _ + _ ≤ _
      omega
    · split
      · show 2 ≤ _; omega
      · exact Nat.zero_le _
  have h4 : (if u.hasQuery = true then 63 :: u.query else [] : Bs).length ≤ u.query.length + 1 := by split <;> simp
  have h5 : (if u.hasFragment = true then 35 :: u.fragment else [] : Bs).length ≤ u.fragment.length + 1 := by split <;> simp
  unfold textU
  rw [List.length_append, List.length_append, List.length_append, List.length_append, List.length_append]
  unfold wq wt
  show u.scheme.length + 1 + _ + _ + _ + _ ≤ _
  omega
/-- UrlsAgain: of at most 300 bytes each, what is read is told in at most 4000. -/
theorem again_len {s base : Bs} {b : Option UrlL} {u : UrlL} (hs : s.length ≤ 300) (hb : base.length ≤ 300) (hx : ∀ x, b = some x → parseU base none = .ok x) (e : parseU s b = .ok u) : (textU u).length ≤ 4000 := by
  have hN : ∀ x, b = some x → NU x := fun x h => parse_form (hx x h)
  have hr : readU s b = .ok u := by
    unfold parseU at e
    rw [if_neg (by omega)] at e
    cases b with
    | none => exact e
    | some x =>
      simp only at e
      split at e
      · exact e
      · cases e
  have h1 := readU_len hr hN
  have h2 : bq b ≤ 3 * base.length + 120 := by
    cases b with
    | none => exact Nat.zero_le _
    | some x =>
      have hb0 := hx x rfl
      unfold parseU at hb0
      rw [if_neg (by omega)] at hb0
      have := readU_len hb0 (fun y hy => by cases hy)
      have : wq x ≤ 0 + 3 * base.length + 120 := this
      show wq x ≤ _
      omega
  have h3 := textU_len (parse_form e).port
  omega
end Lz
