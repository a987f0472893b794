/-
  Plain laws of URLs: what is read has the form that is read again. No program in sight.
  Plain laws of URLs: what is read has the form that is read again (the parts of a URL). No program in sight.
  Plain laws of URLs: what is read has the form that is read again (the whole). No program in sight.
-/
import Derived.Test.YthijceooebebfaaGreatDoorM16
namespace Lz
open Go
/-! ### hosts -/
theorem ban_not : ∀ c : UInt8, banned.contains c = false → (c < 32 || 126 < c) = false → plainQ c = true ∧ c ≠ 64 ∧ slashQ true c = false ∧ c < 127 ∧ c ≠ 58 ∧ c ≠ 91 ∧ c ≠ 93 ∧ c ≠ 124 := byte_all (by decide +kernel)
theorem hexc_not : ∀ c : UInt8, isHexD c = true → plainQ c = true ∧ c ≠ 64 ∧ slashQ true c = false ∧ c < 127 ∧ c ≠ 93 := byte_all (by decide +kernel)
theorem drive_no {h : Bs} (hc : ∀ c ∈ h, c ≠ 58 ∧ c ≠ 124) : driveP h = false := by
  match h, hc with
  | [], _ => rfl
  | [_], _ => rfl
  | [a, b], hc =>
    obtain ⟨h1, h2⟩ := hc b (by simp)
    show (isAlpha a && (b == 58 || b == 124)) = false
    have e1 : (b == 58) = false := by rw [beq_eq_false_iff_ne]; exact h1
    have e2 : (b == 124) = false := by rw [beq_eq_false_iff_ne]; exact h2
    rw [e1, e2]; simp
  | _ :: _ :: _ :: _, _ => rfl
theorem textP_mem (a : List Nat) : ∀ c ∈ textP a, isHexD c = true ∨ c = 58 := by
  have ht : ∀ l : List Nat, ∀ c ∈ toldP l, isHexD c = true ∨ c = 58 := by
    intro l c hc
    unfold toldP at hc
    rcases joinP_mem hc with h | ⟨x, hx, h⟩
    · exact Or.inr (List.mem_singleton.1 h)
    · obtain ⟨n, _, rfl⟩ := List.mem_map.1 hx
      exact Or.inl (hexD_chars n c h)
  intro c hc
  unfold textP at hc
  split at hc
  · exact ht _ c hc
  · rcases List.mem_append.1 hc with hc | hc
    · rcases List.mem_append.1 hc with hc | hc
      · exact ht _ c hc
      · right; simpa using hc
    · exact ht _ c hc
theorem hostN_of {sp : Bool} {h : Bs} (ha : hostPr h sp = .ok h) (hc : ∀ c ∈ h, banned.contains c = false ∧ (c < 32 || 126 < c) = false) : HostN sp h ∧ driveP h = false := by
  refine ⟨⟨ha, fun c hcm => ?_, Or.inl fun c hcm => ?_⟩, drive_no fun c hcm => ?_⟩
  · obtain ⟨h1, h2, h3, h4, _⟩ := ban_not c (hc c hcm).1 (hc c hcm).2; exact ⟨h1, h2, h3, h4⟩
  · obtain ⟨_, _, _, _, h5, h6, h7, _⟩ := ban_not c (hc c hcm).1 (hc c hcm).2; exact ⟨h5, h6, h7⟩
  · obtain ⟨_, _, _, _, h5, _, _, h8⟩ := ban_not c (hc c hcm).1 (hc c hcm).2; exact ⟨h5, h8⟩
/-- What is answered of a host is read again. -/
theorem host_N {s h : Bs} {sp : Bool} (e : hostPr s sp = .ok h) : HostN sp h ∧ driveP h = false ∧ (h = [] → s = []) ∧ (sp = true → h ≠ []) := by
  have hag : hostPr h sp = .ok h := by
    cases sp
    · exact host_again_false e
    · exact (host_again_true e).1
  have hne : sp = true → h ≠ [] := by
    rintro rfl
    exact (host_again_true e).2.2
  unfold hostPr at e
  split at e
  · split at e
    · cases e
    · cases ha : sixP ((s.drop 1).dropLast) with
      | none => rw [ha] at e; cases e
      | some a =>
        rw [ha] at e
        have e : ([91] ++ textP a ++ [93] : Bs) = h := by simpa [ofO] using e
        have hx : ∀ c ∈ textP a, c ≠ 93 ∧ plainQ c = true ∧ c ≠ 64 ∧ slashQ true c = false ∧ c < 127 := by
          intro c hc
          rcases textP_mem a c hc with h | rfl
          · obtain ⟨h1, h2, h3, h4, h5⟩ := hexc_not c h; exact ⟨h5, h1, h2, h3, h4⟩
          · decide
        subst e
        refine ⟨⟨hag, ?_, Or.inr ⟨textP a, by simp, fun hc => (hx 93 hc).1 rfl⟩⟩, ?_, fun h => by simp at h, hne⟩
        · intro c hc
          rcases List.mem_append.1 hc with hc | hc
          · rcases List.mem_append.1 hc with hc | hc
            · rw [List.mem_singleton.1 hc]; decide
            · exact (hx c hc).2
          · rw [List.mem_singleton.1 hc]; decide
        · cases ht : textP a with
          | nil => rfl
          | cons b r => cases r <;> rfl
  · split at e
    · have hd := dom_ok e
      have := hostN_of (sp := sp) hag (fun c hc => by
        have ho := odd_not c (any_false hd.2.1 c hc)
        exact ⟨ho.2.2.1, ho.2.2.2⟩)
      exact ⟨this.1, this.2, fun h => absurd h hd.1, hne⟩
    · split at e
      · cases e
      · rename_i hb
        have hb' : s.any banned.contains = false := by simpa using hb
        have e : encodeP [] s = h := by injection e
        subst e
        have := hostN_of (sp := sp) hag (enc_ok hb')
        refine ⟨this.1, this.2, fun h => ?_, hne⟩
        cases s with
        | nil => rfl
        | cons c r =>
          exfalso
          unfold encodeP at h
          rw [List.flatMap_cons] at h
          have := (List.append_eq_nil_iff.1 h).1
          split at this <;> cases this

/-! ### paths -/
theorem enc_slash {sp : Bool} {k : Nat} {s : Bs} (h : ∀ c ∈ s, slashQ sp c = false) : ∀ c ∈ encodeP (setU k) s, slashQ sp c = false := by
  have hd : ∀ d : Fin 16, slashQ true (digitU d.val) = false := by decide +kernel
  intro c hc
  unfold encodeP at hc
  obtain ⟨x, hx, hc⟩ := List.mem_flatMap.1 hc
  split at hc
  · simp only [List.mem_cons, List.not_mem_nil, or_false] at hc
    rcases hc with rfl | rfl | rfl
    · cases sp <;> rfl
    · exact slash_sub (hd ⟨x.toNat / 16, by have := x.toNat_lt; omega⟩)
    · exact slash_sub (hd ⟨x.toNat % 16, Nat.mod_lt _ (by omega)⟩)
  · rw [List.mem_singleton.1 hc]; exact h x hx
/-- The form of a path. -/
def PathN (scheme : Bs) (sp : Bool) (l : List Bs) : Prop := (∀ p ∈ l, pieceN sp p) ∧ (scheme = fileS → ∀ p, l.head? = some p → driveP p = true → p.take 1 ++ [58] = p)
theorem pathN_nil (scheme : Bs) (sp : Bool) : PathN scheme sp [] := ⟨(by intro p hp; cases hp), (by intro _ p hp; cases hp)⟩
theorem pieceN_nil (sp : Bool) : pieceN sp [] := ⟨rfl, by decide +kernel, fun c hc => by cases hc⟩
theorem pathN_snoc {scheme : Bs} {sp : Bool} {l : List Bs} {p : Bs} (h : PathN scheme sp l) (hp : pieceN sp p) (hd : scheme = fileS → l = [] → driveP p = true → p.take 1 ++ [58] = p) : PathN scheme sp (l ++ [p]) := by
  refine ⟨fun q hq => ?_, fun hf q hq hdq => ?_⟩
  · rcases List.mem_append.1 hq with hq | hq
    · exact h.1 q hq
    · rw [List.mem_singleton.1 hq]; exact hp
  · cases l with
    | nil =>
      have : p = q := by simpa using hq
      subst this
      exact hd hf rfl hdq
    | cons a r =>
      have : a = q := by simpa using hq
      subst this
      exact h.2 hf a rfl hdq
theorem pathN_short {scheme : Bs} {sp : Bool} {l : List Bs} (h : PathN scheme sp l) : PathN scheme sp (shortP scheme l) := by
  unfold shortP
  split
  · exact h
  · refine ⟨fun p hp => h.1 p ((List.dropLast_sublist l).subset hp), fun hf p hp hd => ?_⟩
    cases l with
    | nil => cases hp
    | cons a r =>
      cases r with
      | nil => cases hp
      | cons b t =>
        have : a = p := by simpa using hp
        subst this
        exact h.2 hf a rfl hd
theorem drive_piece : ∀ a : UInt8, isAlpha a = true → okE (setU 4) a = true ∧ dotsP [a, 58] = 0 ∧ slashQ true a = false := byte_all (by decide +kernel)
theorem onL_form (scheme : Bs) (sp : Bool) : ∀ (ps acc : List Bs), PathN scheme sp acc → (∀ p ∈ ps, ∀ c ∈ p, slashQ sp c = false) → PathN scheme sp (onL scheme acc ps)
  | [], acc, h, _ => h
  | p :: r, acc, h, hs => by
    have ih := fun acc ha => onL_form scheme sp r acc ha (fun q hq => hs q (List.mem_cons_of_mem _ hq))
    have hsl := enc_slash (k := 4) (hs p (by simp))
    have hok := encode_ok 4 (by omega) p
    rw [onL]
    try simp only
    generalize encodeP (setU 4) p = q at hsl hok
    have hnil : ∀ a, PathN scheme sp a → PathN scheme sp (a ++ [[]]) := fun a ha => pathN_snoc ha (pieceN_nil sp) (fun _ _ hd => by cases hd)
    split
    · apply ih
      split
      · exact hnil _ (pathN_short h)
      · exact pathN_short h
    · rename_i h2
      split
      · apply ih
        split
        · exact hnil _ h
        · exact h
      · rename_i h1
        apply ih
        have h0 : dotsP q = 0 := by
          unfold dotsP at h1 h2 ⊢
          split at h1
          · exact absurd rfl h1
          · rename_i hn
            rw [if_neg hn] at h2 ⊢
            split at h2
            · exact absurd rfl h2
            · rename_i hn2
              rw [if_neg hn2]
        split
        · rename_i hh
          obtain ⟨hf, ha, hd⟩ := hh
          match q, hd with
          | [a, b], hd =>
            unfold driveP at hd
            rw [Bool.and_eq_true] at hd
            obtain ⟨d1, d2, d3⟩ := drive_piece a hd.1
            refine pathN_snoc h ⟨?_, d2, ?_⟩ (fun _ _ _ => rfl)
            · show (okE (setU 4) a && (okE (setU 4) 58 && true)) = true
              rw [d1]; rfl
            · intro c hc
              rcases List.mem_cons.1 hc with rfl | hc
              · exact slash_sub d3
              · rw [List.mem_singleton.1 hc]; cases sp <;> rfl
        · rename_i hh
          exact pathN_snoc h ⟨hok, h0, hsl⟩ (fun hf ha hd => absurd ⟨hf, ha, hd⟩ hh)
theorem onL_ne (scheme : Bs) : ∀ (ps acc : List Bs), ps ≠ [] → onL scheme acc ps ≠ []
  | [], _, h => absurd rfl h
  | p :: r, acc, _ => by
    by_cases hr : r = []
    · subst hr
      simp only [onL]
      split
      · simp
      · split
        · simp
        · simp
    · have ih := fun acc => onL_ne scheme r acc hr
      rw [onL]
      try simp only
      split
      · exact ih _
      · split
        · exact ih _
        · exact ih _
theorem splitS_mem {sp : Bool} : ∀ (s : Bs), ∀ p ∈ splitS sp s, ∀ c ∈ p, slashQ sp c = false
  | [], p, hp, c, hc => by
    rw [splitS] at hp
    rw [List.mem_singleton.1 hp] at hc; cases hc
  | a :: r, p, hp, c, hc => by
    have ih := splitS_mem (sp := sp) r
    rw [splitS] at hp
    cases ha : slashQ sp a with
    | true =>
      rw [ha, if_pos rfl] at hp
      rcases List.mem_cons.1 hp with rfl | hp
      · cases hc
      · exact ih p hp c hc
    | false =>
      rw [ha] at hp
      simp only [Bool.false_eq_true, if_false] at hp
      cases he : splitS sp r with
      | nil =>
        rw [he] at hp
        rw [List.mem_singleton.1 hp] at hc
        rw [List.mem_singleton.1 hc]; exact ha
      | cons x t =>
        rw [he] at hp
        rcases List.mem_cons.1 hp with rfl | hp
        · rcases List.mem_cons.1 hc with rfl | hc
          · exact ha
          · exact ih x (by rw [he]; simp) c hc
        · exact ih p (by rw [he]; exact List.mem_cons_of_mem _ hp) c hc
theorem splitS_ne {sp : Bool} (s : Bs) : splitS sp s ≠ [] := by
  cases s with
  | nil => simp [splitS]
  | cons a r =>
    rw [splitS]
    split
    · simp
    · split <;> simp
end Lz

namespace Lz
open Go
theorem bind_ok {r : UR} {f : UrlL → UR} {v : UrlL} (h : r.bind f = .ok v) : ∃ u, r = .ok u ∧ f u = .ok v := by
  cases r with
  | ok u => exact ⟨u, rfl, h⟩
  | er n => cases h
/-- A port in form. -/
def PortN (s : Bs) (p : Int) : Prop := p = -1 ∨ ∃ n : Nat, p = n ∧ n ≤ 65535 ∧ (n : Int) ≠ defP s
theorem portU_ok {u v : UrlL} {s : Bs} (e : portU u s = .ok v) (hu : u.port = -1) : ∃ p, v = { u with port := p } ∧ PortN u.scheme p ∧ (s = [] → p = -1) := by
  unfold portU at e
  cases hn : portN 0 s with
  | none => rw [hn] at e; cases e
  | some n =>
    rw [hn] at e
    simp only at e
    split at e
    · cases e
    · rename_i h6
      split at e
      · rename_i hh
        injection e with e
        exact ⟨n, e.symm, Or.inr ⟨n, rfl, by omega, hh.2⟩, fun h => absurd h hh.1⟩
      · injection e with e
        refine ⟨-1, ?_, Or.inl rfl, fun _ => rfl⟩
        rw [← e, ← hu]
theorem hostU_ok {u v : UrlL} {s : Bs} (e : hostU u s = .ok v) : ∃ h, v = { u with host := h, hasHost := true } ∧ hostPr s (specP u.scheme) = .ok h := by
  unfold hostU at e
  cases hp : hostPr s (specP u.scheme) with
  | er n => rw [hp] at e; cases e
  | ok h =>
    rw [hp] at e
    injection e with e
    exact ⟨h, e.symm, rfl⟩
theorem placeU_ok {u v : UrlL} {a : Bs} (e : placeU u a = .ok v) (hu : u.port = -1) :
    ∃ h p, v = { u with host := h, hasHost := true, port := p } ∧ HostN (specP u.scheme) h ∧ driveP h = false ∧ PortN u.scheme p ∧ (specP u.scheme = true → h ≠ []) ∧ (h = [] → a = [] ∧ p = -1) := by
  unfold placeU at e
  cases hc : colonP false a with
  | some i =>
    rw [hc] at e
    simp only at e
    split at e
    · cases e
    · rename_i hne
      obtain ⟨w, hw, e⟩ := bind_ok e
      obtain ⟨h, rfl, hh⟩ := hostU_ok hw
      obtain ⟨p, rfl, hp, _⟩ := portU_ok e hu
      obtain ⟨n1, n2, n3, n4⟩ := host_N hh
      exact ⟨h, p, rfl, n1, n2, hp, n4, fun h0 => absurd (n3 h0) hne⟩
  | none =>
    rw [hc] at e
    simp only at e
    split at e
    · cases e
    · obtain ⟨w, hw, e⟩ := bind_ok e
      obtain ⟨h, rfl, hh⟩ := hostU_ok hw
      obtain ⟨p, rfl, hp, hp0⟩ := portU_ok e hu
      obtain ⟨n1, n2, n3, n4⟩ := host_N hh
      exact ⟨h, p, rfl, n1, n2, hp, n4, fun h0 => ⟨n3 h0, hp0 rfl⟩⟩
theorem authU_ok {u v : UrlL} {a : Bs} (e : authU u a = .ok v) (hu : u.port = -1) (hu1 : u.user = []) (hu2 : u.pass = []) :
    ∃ us pa h p, v = { u with user := us, pass := pa, host := h, hasHost := true, port := p } ∧ us.all (okE (setU 5)) = true ∧ pa.all (okE (setU 5)) = true ∧ HostN (specP u.scheme) h ∧ driveP h = false ∧ PortN u.scheme p ∧ (specP u.scheme = true → h ≠ []) ∧ (h = [] → us = [] ∧ pa = [] ∧ p = -1) := by
  unfold authU at e
  cases hl : lastAt a with
  | some xy =>
    obtain ⟨x, y⟩ := xy
    rw [hl] at e
    simp only at e
    split at e
    · cases e
    · rename_i hy
      obtain ⟨h, p, rfl, n1, n2, n3, n4, n5⟩ := placeU_ok e (show (whoU u x).port = -1 from hu)
      exact ⟨_, _, h, p, rfl, encode_ok 5 (by omega) _, encode_ok 5 (by omega) _, n1, n2, n3, n4, fun h0 => absurd (n5 h0).1 hy⟩
  | none =>
    rw [hl] at e
    obtain ⟨h, p, rfl, n1, n2, n3, n4, n5⟩ := placeU_ok e hu
    refine ⟨[], [], h, p, ?_, rfl, rfl, n1, n2, n3, n4, fun h0 => ⟨rfl, rfl, (n5 h0).2⟩⟩
    exact url_ext rfl hu1 hu2 rfl rfl rfl rfl rfl rfl rfl rfl rfl
/-- A scheme in form. -/
def SchN (s : Bs) : Prop := s ≠ [] ∧ (∀ c, s.head? = some c → isAlpha c = true) ∧ s.all schemeC = true ∧ low s = s
theorem onP_form {u : UrlL} {t : Bs} (h : PathN u.scheme (specP u.scheme) u.path) : PathN u.scheme (specP u.scheme) (onP u t).path ∧ (onP u t).path ≠ [] :=
  ⟨onL_form u.scheme (specP u.scheme) _ _ h (splitS_mem t), onL_ne u.scheme _ _ (splitS_ne t)⟩
/-- What an authority and a path make. -/
theorem hostedU_form {u v : UrlL} {r : Bs} (e : hostedU u r = .ok v) (hs : SchN u.scheme) (hf : u.scheme ≠ fileS) (hu : u.port = -1) (hu1 : u.user = []) (hu2 : u.pass = []) (ho : u.opq = false) (hp : u.path = []) :
    MU v ∧ v.scheme = u.scheme ∧ v.hasQuery = u.hasQuery ∧ v.query = u.query ∧ v.hasFragment = u.hasFragment ∧ v.fragment = u.fragment := by
  unfold hostedU at e
  obtain ⟨w, hw, e⟩ := bind_ok e
  obtain ⟨us, pa, h, p, rfl, n1, n2, n3, n4, n5, n6, n7⟩ := authU_ok hw hu hu1 hu2
  injection e with e
  have hpn : PathN u.scheme (specP u.scheme) u.path := by rw [hp]; exact pathN_nil _ _
  have key : ∀ (path : List Bs), PathN u.scheme (specP u.scheme) path → (specP u.scheme = true → path ≠ []) →
      MU { u with user := us, pass := pa, host := h, hasHost := true, port := p, path := path } := by
    intro path hpath hsp
    exact {
      s1 := hs.1, s2 := hs.2.1, s3 := hs.2.2.1, s4 := hs.2.2.2, user := n1, pass := n2
      special := fun hq => ⟨rfl, ho, hsp hq⟩
      bare := fun hh => by cases hh
      opaqueN := fun hq => by rw [show u.opq = false from ho] at hq; cases hq
      path := fun _ => ⟨hpath.1, fun hh => by cases hh⟩
      drive := hpath.2
      host := fun _ => Or.inl n3
      empty := n7
      needed := fun hq _ => n6 hq
      file := fun hq => absurd hq hf
      port := n5 }
  split at e
  · rename_i hc
    rw [← e]
    have hform := onP_form (u := { u with user := us, pass := pa, host := h, hasHost := true, port := p }) (t := (cutS (specP u.scheme) r).2.1) hpn
    exact ⟨key _ hform.1 (fun _ => hform.2), rfl, rfl, rfl, rfl, rfl⟩
  · rename_i hc
    rw [← e]
    refine ⟨key u.path hpn (fun hq => ?_), rfl, rfl, rfl, rfl, rfl⟩
    exfalso
    apply hc
    show ((cutS (specP u.scheme) r).2.2 || specP u.scheme) = true
    rw [hq, Bool.or_true]
/-- What is taken of a base. -/
theorem base_form {u b : UrlL} (hb : MU b) (hs : u.scheme = b.scheme) (hf : u.scheme ≠ fileS) (ho : u.opq = false) {path : List Bs} (hp : PathN u.scheme (specP u.scheme) path) (hne : (specP u.scheme = true ∨ b.hasHost = false) → path ≠ []) (q : Bs) (hq : Bool) :
    MU { u with user := b.user, pass := b.pass, hasHost := b.hasHost, host := b.host, port := b.port, path := path, query := q, hasQuery := hq } := by
  exact {
    s1 := by show u.scheme ≠ []; rw [hs]; exact hb.s1
    s2 := by show ∀ c, u.scheme.head? = some c → _; rw [hs]; exact hb.s2
    s3 := by show u.scheme.all schemeC = true; rw [hs]; exact hb.s3
    s4 := by show low u.scheme = u.scheme; rw [hs]; exact hb.s4
    user := hb.user
    pass := hb.pass
    special := fun h => ⟨by have := (hb.special (by rw [← hs]; exact h)).1; exact this, ho, hne (Or.inl h)⟩
    bare := hb.bare
    opaqueN := fun h => by rw [show u.opq = false from ho] at h; cases h
    path := fun _ => ⟨hp.1, fun hh => hne (Or.inr hh)⟩
    drive := hp.2
    host := fun h => by show HostN (specP u.scheme) b.host ∨ (u.scheme = fileS ∧ b.host = []); rw [hs]; exact hb.host h
    empty := hb.empty
    needed := fun h _ => by show b.host ≠ []; exact hb.needed (by rw [← hs]; exact h) (by rw [← hs]; exact hf)
    file := fun h => absurd h hf
    port := by show PortN u.scheme b.port; rw [hs]; exact hb.port }
theorem basePath {u b : UrlL} (hb : MU b) (hs : u.scheme = b.scheme) (hbo : b.opq = false) : PathN u.scheme (specP u.scheme) b.path ∧ ((specP u.scheme = true ∨ b.hasHost = false) → b.path ≠ []) := by
  rw [hs]
  refine ⟨⟨(hb.path hbo).1, hb.drive⟩, fun h => ?_⟩
  rcases h with h | h
  · exact (hb.special h).2.2
  · exact (hb.path hbo).2 h
/-- A URL of nothing but a scheme, a query and a fragment. -/
structure Fresh (u : UrlL) : Prop where
  user : u.user = []
  pass : u.pass = []
  hasHost : u.hasHost = false
  host : u.host = []
  port : u.port = -1
  opq : u.opq = false
  path : u.path = []
def QN (u : UrlL) : Prop := u.hasQuery = false → u.query = []
theorem pathU_form {u b w : UrlL} (r : Bs) (hw : w.scheme = u.scheme ∧ w.user = b.user ∧ w.pass = b.pass ∧ w.hasHost = b.hasHost ∧ w.host = b.host ∧ w.port = b.port ∧ w.opq = u.opq ∧ w.hasQuery = u.hasQuery ∧ w.query = u.query ∧ w.hasFragment = u.hasFragment ∧ w.fragment = u.fragment) (hp : PathN u.scheme (specP u.scheme) b.path) (hne : (specP u.scheme = true ∨ b.hasHost = false) → b.path ≠ []) (hq : QN u) (hbq : QN b) :
    ∃ path q hq', pathU w b r = { u with user := b.user, pass := b.pass, hasHost := b.hasHost, host := b.host, port := b.port, path := path, query := q, hasQuery := hq' } ∧ PathN u.scheme (specP u.scheme) path ∧ ((specP u.scheme = true ∨ b.hasHost = false) → path ≠ []) ∧ (hq' = false → q = []) := by
  obtain ⟨w1, w2, w3, w4, w5, w6, w7, w8, w9, w10, w11⟩ := hw
  unfold pathU
  by_cases hr : r = []
  · rw [if_neg (fun h => h hr)]
    cases hx : w.hasQuery
    · rw [if_neg (by decide)]
      exact ⟨b.path, b.query, b.hasQuery, url_ext w1 w2 w3 w4 w5 w6 w7 rfl rfl w10 rfl w11, hp, hne, hbq⟩
    · rw [if_pos rfl]
      exact ⟨b.path, u.query, u.hasQuery, url_ext w1 w2 w3 w4 w5 w6 w7 rfl (hx.symm.trans w8) w10 w9 w11, hp, hne, hq⟩
  · rw [if_pos hr]
    have hp' : PathN w.scheme (specP w.scheme) (shortP w.scheme b.path) := by rw [w1]; exact pathN_short hp
    obtain ⟨h1, h2⟩ := onP_form (u := { w with path := shortP w.scheme b.path }) (t := r) hp'
    have h1 : PathN w.scheme (specP w.scheme) (onP { w with path := shortP w.scheme b.path } r).path := h1
    rw [w1] at h1
    exact ⟨(onP { w with path := shortP w.scheme b.path } r).path, u.query, u.hasQuery, url_ext w1 w2 w3 w4 w5 w6 w7 rfl w8 w10 w9 w11, by rw [w1]; exact h1, fun _ => h2, hq⟩
/-- What a base and a text without a scheme make. -/
theorem relU_form {u b v : UrlL} {r : Bs} (e : relU u b r = .ok v) (hb : MU b) (hs : u.scheme = b.scheme) (hf : u.scheme ≠ fileS) (hu : Fresh u) (hbo : b.opq = false) (hq : QN u) (hbq : QN b) :
    MU v ∧ QN v ∧ v.hasFragment = u.hasFragment ∧ v.fragment = u.fragment := by
  have hsch : SchN u.scheme := by rw [hs]; exact ⟨hb.s1, hb.s2, hb.s3, hb.s4⟩
  obtain ⟨hpn, hpne⟩ := basePath hb hs hbo
  unfold relU at e
  simp only at e
  split at e
  · obtain ⟨h1, h2, h3, h4, h5, h6⟩ := hostedU_form e hsch hf hu.port hu.user hu.pass hu.opq hu.path
    exact ⟨h1, fun h => by rw [h4]; exact hq (h3 ▸ h), h5, h6⟩
  · split at e
    · injection e with e
      have hp0 : PathN (restU u b).scheme (specP (restU u b).scheme) (restU u b).path := by
        show PathN u.scheme (specP u.scheme) u.path
        rw [hu.path]; exact pathN_nil _ _
      obtain ⟨h1, h2⟩ := onP_form (u := restU u b) (t := r.drop 1) hp0
      have hm := base_form hb hs hf hu.opq (path := (onP (restU u b) (r.drop 1)).path) h1 (fun _ => h2) u.query u.hasQuery
      rw [← e]
      exact ⟨hm, hq, rfl, rfl⟩
    · injection e with e
      obtain ⟨path, q, hq', he, p1, p2, p3⟩ := pathU_form (u := u) (b := b) (w := restU u b) r ⟨rfl, rfl, rfl, rfl, rfl, rfl, rfl, rfl, rfl, rfl, rfl⟩ hpn hpne hq hbq
      rw [← e, he]
      exact ⟨base_form hb hs hf hu.opq p1 p2 q hq', p3, rfl, rfl⟩
/-- A URL of a file. -/
theorem file_form {u : UrlL} (hf : u.scheme = fileS) (hu : Fresh u) {host : Bs} {path : List Bs} (hN : HostN true host ∨ host = []) (hl : host ≠ localS) (hd : driveP host = false) (hp : PathN u.scheme (specP u.scheme) path) (hne : path ≠ []) (q : Bs) (hq : Bool) :
    MU { u with hasHost := true, host := host, path := path, query := q, hasQuery := hq } := by
  have hsp : specP u.scheme = true := by rw [hf]; rfl
  exact {
    s1 := by show u.scheme ≠ []; rw [hf]; decide
    s2 := by show ∀ c, u.scheme.head? = some c → _; rw [hf]; intro c hc; cases hc; rfl
    s3 := by show u.scheme.all schemeC = true; rw [hf]; decide
    s4 := by show low u.scheme = u.scheme; rw [hf]; decide
    user := by show u.user.all _ = true; rw [hu.user]; rfl
    pass := by show u.pass.all _ = true; rw [hu.pass]; rfl
    special := fun _ => ⟨rfl, hu.opq, hne⟩
    bare := fun h => by cases h
    opaqueN := fun h => by rw [show u.opq = false from hu.opq] at h; cases h
    path := fun _ => ⟨hp.1, fun _ => hne⟩
    drive := hp.2
    host := fun _ => by
      show HostN (specP u.scheme) host ∨ (u.scheme = fileS ∧ host = [])
      rw [hsp]
      rcases hN with h | h
      · exact Or.inl h
      · exact Or.inr ⟨hf, h⟩
    empty := fun _ => ⟨hu.user, hu.pass, hu.port⟩
    needed := fun _ h => absurd hf h
    file := fun _ => ⟨hu.user, hu.pass, hu.port, hl, hd⟩
    port := Or.inl hu.port }
theorem noHost : ([] : Bs) ≠ localS ∧ driveP [] = false := ⟨by decide, rfl⟩
/-- What stands behind file:, by a base. -/
theorem filesU_form {u v : UrlL} {b : Option UrlL} {r : Bs} (e : filesU u b r = .ok v) (hf : u.scheme = fileS) (hu : Fresh u) (hb : ∀ x, b = some x → MU x ∧ QN x) (hq : QN u) :
    MU v ∧ QN v ∧ v.hasFragment = u.hasFragment ∧ v.fragment = u.fragment := by
  have hsp : specP u.scheme = true := by rw [hf]; rfl
  have hp0 : PathN u.scheme (specP u.scheme) u.path := by rw [hu.path]; exact pathN_nil _ _
  have hmk : ∀ (w : UrlL) (t host : Bs), w.scheme = u.scheme → w.user = u.user → w.pass = u.pass → w.hasHost = true → w.host = host → w.port = u.port → w.opq = u.opq → PathN u.scheme (specP u.scheme) w.path → w.hasQuery = u.hasQuery → w.query = u.query → w.hasFragment = u.hasFragment → w.fragment = u.fragment → (HostN true host ∨ host = []) → host ≠ localS → driveP host = false →
      MU (onP w t) ∧ QN (onP w t) ∧ (onP w t).hasFragment = u.hasFragment ∧ (onP w t).fragment = u.fragment := by
    intro w t host w1 w2 w3 w4 w5 w6 w7 w8 w9 w10 w11 w12 hN hl hd
    have hw8 : PathN w.scheme (specP w.scheme) w.path := by rw [w1]; exact w8
    obtain ⟨h1, h2⟩ := onP_form (u := w) (t := t) hw8
    rw [w1] at h1
    have hm := file_form hf hu hN hl hd (path := (onP w t).path) h1 h2 u.query u.hasQuery
    have he : onP w t = { u with hasHost := true, host := host, path := (onP w t).path, query := u.query, hasQuery := u.hasQuery } := url_ext w1 w2 w3 w4 w5 w6 w7 rfl w9 w11 w10 w12
    rw [he]
    exact ⟨hm, hq, rfl, rfl⟩
  unfold filesU at e
  simp only at e
  split at e
  · split at e
    · injection e with e
      rw [← e]
      exact hmk _ _ [] rfl rfl rfl rfl hu.host rfl rfl hp0 rfl rfl rfl rfl (Or.inr rfl) noHost.1 noHost.2
    · rename_i hdr
      have hdr' : driveP (cutS true (r.drop 2)).1 = false := by simpa using hdr
      obtain ⟨w, hw, e⟩ := bind_ok e
      injection e with e
      rw [← e]
      split at hw
      · injection hw with hw
        have hh : w.host = [] := by rw [← hw]; exact hu.host
        rw [if_neg (by rw [hh]; decide), ← hw]
        exact hmk _ _ [] rfl rfl rfl rfl hu.host rfl rfl hp0 rfl rfl rfl rfl (Or.inr rfl) noHost.1 noHost.2
      · obtain ⟨h, rfl, hh⟩ := hostU_ok hw
        have hh : hostPr (cutS true (r.drop 2)).1 (specP u.scheme) = .ok h := hh
        rw [hsp] at hh
        obtain ⟨n1, n2, _, _⟩ := host_N hh
        split
        · exact hmk _ _ [] rfl rfl rfl rfl rfl rfl rfl hp0 rfl rfl rfl rfl (Or.inr rfl) noHost.1 noHost.2
        · rename_i hl
          exact hmk _ _ h rfl rfl rfl rfl rfl rfl rfl hp0 rfl rfl rfl rfl (Or.inl n1) hl n2
  · have hbase : ∀ x, b = some x → x.scheme = fileS → (HostN true x.host ∨ x.host = []) ∧ x.host ≠ localS ∧ driveP x.host = false ∧ PathN u.scheme (specP u.scheme) x.path ∧ x.path ≠ [] ∧ QN x := by
      intro x hx hxf
      obtain ⟨hm, hqx⟩ := hb x hx
      have hs : specP x.scheme = true := by rw [hxf]; rfl
      obtain ⟨s1, s2, s3⟩ := hm.special hs
      obtain ⟨_, _, _, f4, f5⟩ := hm.file hxf
      refine ⟨?_, f4, f5, ?_, s3, hqx⟩
      · rcases hm.host s1 with h | ⟨_, h⟩
        · rw [hs] at h; exact Or.inl h
        · exact Or.inr h
      · have := basePath (u := u) hm (hf.trans hxf.symm) s2
        exact this.1
    split at e
    · injection e with e
      rw [← e]
      cases b with
      | none => exact hmk _ _ [] rfl rfl rfl rfl hu.host rfl rfl hp0 rfl rfl rfl rfl (Or.inr rfl) noHost.1 noHost.2
      | some x =>
        simp only
        split
        · rename_i hxf
          obtain ⟨b1, b2, b3, b4, b5, b6⟩ := hbase x rfl hxf
          split
          · have hpt : PathN u.scheme (specP u.scheme) (x.path.take 1) := by
              refine ⟨fun p hp => b4.1 p (List.mem_of_mem_take hp), fun hfs p hp hd => ?_⟩
              refine b4.2 hfs p ?_ hd
              cases hx : x.path with
              | nil => rw [hx] at hp; cases hp
              | cons a t => rw [hx] at hp; exact hp
            exact hmk _ _ x.host rfl rfl rfl rfl rfl rfl rfl hpt rfl rfl rfl rfl b1 b2 b3
          · exact hmk _ _ x.host rfl rfl rfl rfl rfl rfl rfl hp0 rfl rfl rfl rfl b1 b2 b3
        · exact hmk _ _ [] rfl rfl rfl rfl hu.host rfl rfl hp0 rfl rfl rfl rfl (Or.inr rfl) noHost.1 noHost.2
    · cases b with
      | none =>
        injection e with e
        rw [← e]
        exact hmk _ _ [] rfl rfl rfl rfl hu.host rfl rfl hp0 rfl rfl rfl rfl (Or.inr rfl) noHost.1 noHost.2
      | some x =>
        simp only at e
        split at e
        · rename_i hxf
          obtain ⟨b1, b2, b3, b4, b5, b6⟩ := hbase x rfl hxf
          split at e
          · injection e with e
            rw [← e]
            exact hmk _ _ x.host rfl rfl rfl rfl rfl rfl rfl hp0 rfl rfl rfl rfl b1 b2 b3
          · injection e with e
            rw [← e]
            unfold pathU
            by_cases hr : r = []
            · rw [if_neg (fun h => h hr)]
              cases hx : u.hasQuery
              · rw [if_neg (show ¬ ((false : Bool) = true) by decide)]
                exact ⟨file_form hf hu b1 b2 b3 b4 b5 x.query x.hasQuery, b6, rfl, rfl⟩
              · rw [if_pos rfl]
                have hm := file_form hf hu b1 b2 b3 b4 b5 u.query true
                exact ⟨hm, (fun h => by cases h), rfl, rfl⟩
            · rw [if_pos hr]
              exact hmk _ _ x.host rfl rfl rfl rfl rfl rfl rfl (pathN_short b4) rfl rfl rfl rfl b1 b2 b3
        · injection e with e
          rw [← e]
          exact hmk _ _ [] rfl rfl rfl rfl hu.host rfl rfl hp0 rfl rfl rfl rfl (Or.inr rfl) noHost.1 noHost.2
end Lz

namespace Lz
open Go
theorem split_first {k : UInt8} : ∀ {s : Bs}, k ∈ s → ∃ a b, s = a ++ k :: b ∧ k ∉ a
  | [], h => by cases h
  | c :: r, h => by
    by_cases hc : c = k
    · exact ⟨[], r, by rw [hc]; rfl, by simp⟩
    · have hr : k ∈ r := by
        rcases List.mem_cons.1 h with h | h
        · exact absurd h.symm hc
        · exact h
      obtain ⟨a, b, rfl, ha⟩ := split_first hr
      exact ⟨c :: a, b, rfl, fun hh => by
        rcases List.mem_cons.1 hh with hh | hh
        · exact hc hh.symm
        · exact ha hh⟩
theorem cut_facts (k : UInt8) (s : Bs) : k ∉ (Lib.cut s [k]).1 ∧ ((Lib.cut s [k]).2.2 = false → (Lib.cut s [k]).1 = s ∧ (Lib.cut s [k]).2.1 = []) ∧ (∀ x ∈ (Lib.cut s [k]).1, x ∈ s) ∧ ((Lib.cut s [k]).2.2 = true → s = (Lib.cut s [k]).1 ++ k :: (Lib.cut s [k]).2.1) := by
  by_cases h : k ∈ s
  · obtain ⟨a, b, rfl, ha⟩ := split_first h
    rw [cut_one_at b ha]
    exact ⟨ha, (fun hh => by cases hh), fun x hx => List.mem_append_left _ hx, fun _ => rfl⟩
  · rw [cut_one_no h]
    exact ⟨h, fun _ => ⟨rfl, rfl⟩, fun x hx => hx, (fun hh => by cases hh)⟩
theorem scheme_lower : ∀ c : UInt8, low1 (low1 c) = low1 c ∧ (schemeC c = true → schemeC (low1 c) = true) ∧ (isAlpha c = true → isAlpha (low1 c) = true) := byte_all (by decide +kernel)
def schemeOk (c : Bs × Bs × Bool) : Bool := c.2.2 && !c.1.isEmpty && (match c.1 with | a :: _ => isAlpha a | [] => false) && c.1.all schemeC
theorem schemedP_eq (s : Bs) : schemedP s = if schemeOk (Lib.cut s [58]) = true then (low (Lib.cut s [58]).1, (Lib.cut s [58]).2.1, true) else ([], s, false) := rfl
/-- A scheme that is cut off is in form. -/
theorem schemed_inv {s : Bs} (h : (schemedP s).2.2 = true) : SchN (schemedP s).1 ∧ ∃ a, s = a ++ 58 :: (schemedP s).2.1 := by
  have hc := cut_facts 58 s
  rw [schemedP_eq] at h ⊢
  by_cases hh : schemeOk (Lib.cut s [58]) = true
  · rw [if_pos hh] at h ⊢
    unfold schemeOk at hh
    simp only [Bool.and_eq_true, Bool.not_eq_true'] at hh
    obtain ⟨⟨⟨h1, h2⟩, h3⟩, h4⟩ := hh
    refine ⟨⟨?_, ?_, ?_, low_low _⟩, (Lib.cut s [58]).1, hc.2.2.2 h1⟩
    · cases hx : (Lib.cut s [58]).1 with
      | nil => rw [hx] at h2; cases h2
      | cons a r => intro e; cases e
    · intro c hcc
      cases hx : (Lib.cut s [58]).1 with
      | nil => rw [hx] at h2; cases h2
      | cons a r =>
        rw [hx] at h3 hcc
        have : low1 a = c := by simpa [low] using hcc
        rw [← this]
        exact (scheme_lower a).2.2 h3
    · rw [List.all_eq_true]
      intro c hcc
      obtain ⟨a, ha, rfl⟩ := List.mem_map.1 hcc
      exact (scheme_lower a).2.1 (List.all_eq_true.1 h4 a ha)
  · rw [if_neg hh] at h
    cases h
theorem clean_last {s : Bs} {d : UInt8} (h : (cleanP s).getLast? = some d) : lowQ d = false := by
  rw [clean_eq, List.getLast?_reverse] at h
  have : ∀ l : Bs, (l.dropWhile lowQ).head? = some d → lowQ d = false := by
    intro l
    induction l with
    | nil => intro hh; cases hh
    | cons c r ih =>
      intro hh
      rw [List.dropWhile_cons] at hh
      cases hc : lowQ c
      · rw [hc] at hh
        have : c = d := by simpa using hh
        rw [← this]; exact hc
      · rw [hc] at hh
        exact ih (by simpa using hh)
  exact this _ h
theorem enc_not {k : UInt8} (hk : k ≠ 37 ∧ ∀ d : Fin 16, digitU d.val ≠ k) {of s : Bs} (h : k ∉ s) : k ∉ encodeP of s := by
  intro hc
  unfold encodeP at hc
  obtain ⟨x, hx, hc⟩ := List.mem_flatMap.1 hc
  split at hc
  · simp only [List.mem_cons, List.not_mem_nil, or_false] at hc
    rcases hc with hc | hc | hc
    · exact hk.1 hc
    · exact hk.2 ⟨x.toNat / 16, by have := x.toNat_lt; omega⟩ hc.symm
    · exact hk.2 ⟨x.toNat % 16, Nat.mod_lt _ (by omega)⟩ hc.symm
  · rw [List.mem_singleton.1 hc] at h; exact h hx
theorem enc_last {s : Bs} (h : s.getLast? ≠ some 32) : (encodeP [] s).getLast? ≠ some 32 := by
  rcases List.eq_nil_or_concat s with rfl | ⟨r, c, rfl⟩
  · intro hh; cases hh
  · rw [List.concat_eq_append] at h ⊢
    have hc : c ≠ 32 := by
      intro e; apply h; rw [e]; simp
    unfold encodeP
    rw [List.flatMap_append]
    intro hh
    have hx : ([c] : Bs).flatMap (fun c => if c < 32 || 126 < c || ([] : Bs).contains c then [37, digitU (c.toNat / 16), digitU (c.toNat % 16)] else [c]) ≠ [] := by
      rw [List.flatMap_cons]
      split <;> simp
    rw [List.getLast?_append] at hh
    have hd : ∀ d : Fin 16, digitU d.val ≠ 32 := by decide +kernel
    rw [List.flatMap_cons, List.flatMap_nil, List.append_nil] at hh
    split at hh
    · have : digitU (c.toNat % 16) = 32 := by simpa using hh
      exact hd ⟨c.toNat % 16, Nat.mod_lt _ (by omega)⟩ this
    · have : c = 32 := by simpa using hh
      exact hc this
theorem enc_head {s : Bs} (h : s[0]? ≠ some 47) : (encodeP [] s).head? ≠ some 47 := by
  cases s with
  | nil => intro hh; cases hh
  | cons c r =>
    unfold encodeP
    rw [List.flatMap_cons]
    split
    · intro hh; cases hh
    · intro hh
      apply h
      exact hh
theorem sp_plain {s : Bs} (h : specP s = false) : s ≠ fileS := fun e => by rw [e] at h; cases h
/-- What stands behind a scheme that is not special, without a host. -/
theorem bare_form {u : UrlL} (hu : Fresh u) (hs : SchN u.scheme) (hsp : specP u.scheme = false) {path : List Bs} (hp : PathN u.scheme (specP u.scheme) path) (hne : path ≠ []) : MU { u with path := path } := by
  exact {
    s1 := hs.1, s2 := hs.2.1, s3 := hs.2.2.1, s4 := hs.2.2.2
    user := by show u.user.all _ = true; rw [hu.user]; rfl
    pass := by show u.pass.all _ = true; rw [hu.pass]; rfl
    special := fun h => by rw [show specP u.scheme = false from hsp] at h; cases h
    bare := fun _ => ⟨hu.user, hu.pass, hu.host, hu.port⟩
    opaqueN := fun h => by rw [show u.opq = false from hu.opq] at h; cases h
    path := fun _ => ⟨hp.1, fun _ => hne⟩
    drive := hp.2
    host := fun h => by rw [show u.hasHost = false from hu.hasHost] at h; cases h
    empty := fun _ => ⟨hu.user, hu.pass, hu.port⟩
    needed := fun h => by rw [show specP u.scheme = false from hsp] at h; cases h
    file := fun h => absurd h (sp_plain hsp)
    port := Or.inl hu.port }
theorem opaque_form {u : UrlL} (hu : Fresh u) (hs : SchN u.scheme) (hsp : specP u.scheme = false) {p : Bs} (h1 : p.all (okE []) = true) (h2 : (35 : UInt8) ∉ p) (h3 : (63 : UInt8) ∉ p) (h4 : p.head? ≠ some 47) (q : Bs) (hq : Bool) (h5 : hq = false → u.hasFragment = false → p.getLast? ≠ some 32) :
    MU { u with opq := true, path := [p], query := q, hasQuery := hq } := by
  exact {
    s1 := hs.1, s2 := hs.2.1, s3 := hs.2.2.1, s4 := hs.2.2.2
    user := by show u.user.all _ = true; rw [hu.user]; rfl
    pass := by show u.pass.all _ = true; rw [hu.pass]; rfl
    special := fun h => by rw [show specP u.scheme = false from hsp] at h; cases h
    bare := fun _ => ⟨hu.user, hu.pass, hu.host, hu.port⟩
    opaqueN := fun _ => ⟨hu.hasHost, p, rfl, h1, h2, h3, h4, h5⟩
    path := fun h => by cases h
    drive := fun h => absurd h (sp_plain hsp)
    host := fun h => by rw [show u.hasHost = false from hu.hasHost] at h; cases h
    empty := fun _ => ⟨hu.user, hu.pass, hu.port⟩
    needed := fun h => by rw [show specP u.scheme = false from hsp] at h; cases h
    file := fun h => absurd h (sp_plain hsp)
    port := Or.inl hu.port }
theorem k35 : (35 : UInt8) ≠ 37 ∧ ∀ d : Fin 16, digitU d.val ≠ 35 := by decide +kernel
theorem k63 : (63 : UInt8) ≠ 37 ∧ ∀ d : Fin 16, digitU d.val ≠ 63 := by decide +kernel
/-- What stands ahead of the query is read to a URL in form. -/
theorem mainU_form {u v : UrlL} {s : Bs} {b : Option UrlL} (e : mainU u s b = .ok v) (hu : Fresh u) (h35 : (35 : UInt8) ∉ s) (h63 : (63 : UInt8) ∉ s) (hlast : u.hasQuery = false → u.hasFragment = false → s.getLast? ≠ some 32) (hq : QN u) (hb : ∀ x, b = some x → NU x) :
    MU v ∧ QN v ∧ v.hasFragment = u.hasFragment ∧ v.fragment = u.fragment := by
  have hb' : ∀ x, b = some x → MU x ∧ QN x := fun x hx => ⟨(hb x hx).toMU, (hb x hx).noQuery⟩
  have hfr : ∀ sch, Fresh { u with scheme := sch } := fun sch => ⟨hu.user, hu.pass, hu.hasHost, hu.host, hu.port, hu.opq, hu.path⟩
  unfold mainU at e
  simp only at e
  cases hok : (schemedP s).2.2 with
  | true =>
    obtain ⟨hsch, a, ha⟩ := schemed_inv hok
    rw [hok, if_pos rfl] at e
    have hr35 : (35 : UInt8) ∉ (schemedP s).2.1 := fun h => h35 (by rw [ha]; exact List.mem_append_right _ (List.mem_cons_of_mem _ h))
    have hr63 : (63 : UInt8) ∉ (schemedP s).2.1 := fun h => h63 (by rw [ha]; exact List.mem_append_right _ (List.mem_cons_of_mem _ h))
    have hrl : (schemedP s).2.1.getLast? = some 32 → s.getLast? = some 32 := by
      intro h
      rw [ha, List.getLast?_append, List.getLast?_cons, h]; rfl
    generalize (schemedP s).1 = sch at e hsch
    generalize (schemedP s).2.1 = r at e hr35 hr63 hrl
    have hhost : ∀ {t : Bs}, hostedU { u with scheme := sch } t = .ok v → sch ≠ fileS → MU v ∧ QN v ∧ v.hasFragment = u.hasFragment ∧ v.fragment = u.fragment := by
      intro t et hf
      obtain ⟨h1, h2, h3, h4, h5, h6⟩ := hostedU_form et hsch hf hu.port hu.user hu.pass hu.opq hu.path
      exact ⟨h1, fun h => by rw [h4]; exact hq (h3 ▸ h), h5, h6⟩
    split at e
    · rename_i hf
      exact filesU_form (u := { u with scheme := sch }) e hf (hfr sch) hb' hq
    · rename_i hf
      split at e
      · rename_i hsp
        cases b with
        | none => exact hhost e hf
        | some x =>
          simp only at e
          split at e
          · rename_i hh
            have hx := hb x rfl
            refine relU_form (u := { u with scheme := sch }) e hx.toMU hh.1.symm hf (hfr sch) ?_ hq hx.noQuery
            exact (hx.special (by rw [hh.1]; exact hsp)).2.1
          · exact hhost e hf
      · rename_i hsp
        have hsp' : specP sch = false := by simpa using hsp
        split at e
        · exact hhost e hf
        · rename_i hn2
          split at e
          · injection e with e
            rw [← e]
            have hp0 : PathN sch (specP sch) u.path := by rw [hu.path]; exact pathN_nil _ _
            obtain ⟨h1, h2⟩ := onP_form (u := { u with scheme := sch }) (t := r.drop 1) hp0
            exact ⟨bare_form (hfr sch) hsch hsp' h1 h2, hq, rfl, rfl⟩
          · rename_i hn1
            injection e with e
            rw [← e]
            have hh : r[0]? ≠ some 47 := by
              intro h
              apply hn1
              rw [hasPrefix_one, h]; rfl
            exact ⟨opaque_form (hfr sch) hsch hsp' (encode_ok 0 (by omega) r) (enc_not k35 hr35) (enc_not k63 hr63) (enc_head hh) u.query u.hasQuery (fun h1 h2 => enc_last (fun h => hlast h1 h2 (hrl h))), hq, rfl, rfl⟩
  | false =>
    rw [hok, if_neg (by decide)] at e
    cases b with
    | none => cases e
    | some x =>
      simp only at e
      have hx := hb x rfl
      have hsch : SchN x.scheme := ⟨hx.s1, hx.s2, hx.s3, hx.s4⟩
      split at e
      · cases e
      · rename_i hc
        split at e
        · rename_i ho
          injection e with e
          rw [ho, Bool.true_and] at hc
          have hc' : (!s.isEmpty || u.hasQuery || !u.hasFragment) = false := by simpa using hc
          simp only [Bool.or_eq_false_iff, Bool.not_eq_false'] at hc'
          obtain ⟨⟨_, c2⟩, c3⟩ := hc'
          obtain ⟨_, p, hp, p1, p2, p3, p4, _⟩ := hx.opaqueN ho
          have hsp : specP x.scheme = false := by
            cases hh : specP x.scheme
            · rfl
            · have := (hx.special hh).2.1; rw [ho] at this; cases this
          have he : pathU { u with scheme := x.scheme, opq := true } x [] = { u with scheme := x.scheme, opq := true, path := [p], query := x.query, hasQuery := x.hasQuery } := by
            unfold pathU
            rw [if_neg (fun h => h rfl)]
            show (if u.hasQuery = true then _ else _) = _
            rw [c2, if_neg (by decide), hp]
          rw [← e]
          have he2 : pathU { ({ u with scheme := x.scheme } : UrlL) with opq := true } x [] = { u with scheme := x.scheme, opq := true, path := [p], query := x.query, hasQuery := x.hasQuery } := he
          rw [he2]
          exact ⟨opaque_form (hfr x.scheme) hsch hsp p1 p2 p3 p4 x.query x.hasQuery (fun _ h => by rw [show u.hasFragment = true from c3] at h; cases h), hx.noQuery, rfl, rfl⟩
        · rename_i ho
          have ho' : x.opq = false := by simpa using ho
          split at e
          · rename_i hf
            exact filesU_form (u := { u with scheme := x.scheme }) e hf (hfr x.scheme) hb' hq
          · rename_i hf
            exact relU_form (u := { u with scheme := x.scheme }) e hx.toMU rfl hf (hfr x.scheme) ho' hq hx.noQuery
/-- WHAT IS READ IS IN FORM. -/
theorem readU_form {s : Bs} {b : Option UrlL} {u : UrlL} (e : readU s b = .ok u) (hb : ∀ x, b = some x → NU x) : NU u := by
  unfold readU at e
  simp only at e
  obtain ⟨v, hv, e⟩ := bind_ok e
  injection e with e
  have f := cut_facts 35 (cleanP s)
  have q := cut_facts 63 (Lib.cut (cleanP s) [35]).1
  have hl := @clean_last s
  generalize Lib.cut (cleanP s) [35] = F at hv f q
  generalize Lib.cut F.1 [63] = G at hv q
  obtain ⟨f1, f2, f3, _⟩ := f
  obtain ⟨q1, q2, q3, _⟩ := q
  obtain ⟨m, m2, m3, m4⟩ := mainU_form hv ⟨rfl, rfl, rfl, rfl, rfl, rfl, rfl⟩ (fun h => f1 (q3 _ h)) q1
    (fun h1 h2 h => by
      have e1 := (q2 h1).1
      have e2 := (f2 h2).1
      rw [e1, e2] at h
      have := hl h
      cases this)
    (fun h => (q2 h).2) hb
  rw [← e]
  have hz : ∀ of, encodeP of [] = [] := fun _ => rfl
  exact {
    s1 := m.s1, s2 := m.s2, s3 := m.s3, s4 := m.s4, user := m.user, pass := m.pass, special := m.special, bare := m.bare
    opaqueN := m.opaqueN, path := m.path, drive := m.drive, host := m.host, empty := m.empty, needed := m.needed, file := m.file, port := m.port
    query := by
      show (encodeP (setU (if specP v.scheme then 3 else 2)) v.query).all (okE (setU (if specP v.scheme then 3 else 2))) = true
      split
      · exact encode_ok 3 (by omega) _
      · exact encode_ok 2 (by omega) _
    noQuery := fun h => by show encodeP _ v.query = []; rw [m2 h]; rfl
    fragment := encode_ok 1 (by omega) _
    noFragment := fun h => by
      show encodeP _ v.fragment = []
      rw [m4]
      have : F.2.2 = false := m3.symm.trans h
      rw [show F.2.1 = [] from (f2 this).2]; rfl }
/-- What Parse answers is in form; told, it is read as it again. -/
theorem parse_form {s : Bs} {b : Option UrlL} {u : UrlL} (e : parseU s b = .ok u) : NU u := by
  unfold parseU at e
  split at e
  · cases e
  · cases b with
    | none => exact readU_form e (fun x hx => by cases hx)
    | some x =>
      simp only at e
      split at e
      · rename_i hx
        exact readU_form e (fun y hy => by cases hy; exact readU_form hx (fun z hz => by cases hz))
      · cases e
theorem parse_again {s : Bs} {b : Option UrlL} {u : UrlL} (e : parseU s b = .ok u) : readU (textU u) none = .ok u := text_read (parse_form e)
/-- By a base that Parse answers: nothing but the text's length matters. -/
theorem parse_base {s t : Bs} {b b' : Option UrlL} {x : UrlL} (e : parseU s b' = .ok x) (hb : b = some x) (ht : t.length ≤ 4000) : parseU t b = readU t b := by
  unfold parseU
  rw [if_neg (by omega), hb]
  simp only
  rw [if_pos (parse_again e)]
end Lz
