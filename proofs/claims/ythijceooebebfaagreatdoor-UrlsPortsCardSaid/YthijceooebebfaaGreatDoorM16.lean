/-
  Plain laws of URLs: the form of what is read, and that such a URL, told, is read as it again. No program in sight.
-/
import Derived.Test.YthijceooebebfaaGreatDoorM15
namespace Lz
open Go
/-- A piece of a path that is read as it again. -/
def pieceN (sp : Bool) (p : Bs) : Prop := p.all (okE (setU 4)) = true ∧ dotsP p = 0 ∧ ∀ c ∈ p, slashQ sp c = false
/-- A host that is read as it again, ahead of a port or a path. -/
structure HostN (sp : Bool) (h : Bs) : Prop where
  again : hostPr h sp = .ok h
  chars : ∀ c ∈ h, plainQ c = true ∧ c ≠ 64 ∧ slashQ true c = false ∧ c < 127
  colon : (∀ c ∈ h, c ≠ 58 ∧ c ≠ 91 ∧ c ≠ 93) ∨ ∃ x, h = 91 :: (x ++ [93]) ∧ (93 : UInt8) ∉ x
/-- The form of what is read, but for the query and the fragment. -/
structure MU (u : UrlL) : Prop where
  s1 : u.scheme ≠ []
  s2 : ∀ c, u.scheme.head? = some c → isAlpha c = true
  s3 : u.scheme.all schemeC = true
  s4 : low u.scheme = u.scheme
  user : u.user.all (okE (setU 5)) = true
  pass : u.pass.all (okE (setU 5)) = true
  special : specP u.scheme = true → u.hasHost = true ∧ u.opq = false ∧ u.path ≠ []
  bare : u.hasHost = false → u.user = [] ∧ u.pass = [] ∧ u.host = [] ∧ u.port = -1
  opaqueN : u.opq = true → u.hasHost = false ∧ ∃ p : Bs, u.path = [p] ∧ p.all (okE []) = true ∧ (35 : UInt8) ∉ p ∧ (63 : UInt8) ∉ p ∧ p.head? ≠ some 47 ∧ (u.hasQuery = false → u.hasFragment = false → p.getLast? ≠ some 32)
  path : u.opq = false → (∀ p ∈ u.path, pieceN (specP u.scheme) p) ∧ (u.hasHost = false → u.path ≠ [])
  drive : u.scheme = fileS → ∀ p, u.path.head? = some p → driveP p = true → p.take 1 ++ [58] = p
  host : u.hasHost = true → HostN (specP u.scheme) u.host ∨ (u.scheme = fileS ∧ u.host = [])
  empty : u.host = [] → u.user = [] ∧ u.pass = [] ∧ u.port = -1
  needed : specP u.scheme = true → u.scheme ≠ fileS → u.host ≠ []
  file : u.scheme = fileS → u.user = [] ∧ u.pass = [] ∧ u.port = -1 ∧ u.host ≠ localS ∧ driveP u.host = false
  port : u.port = -1 ∨ ∃ n : Nat, u.port = n ∧ n ≤ 65535 ∧ (n : Int) ≠ defP u.scheme
/-- The form of what is read. -/
structure NU (u : UrlL) : Prop extends MU u where
  query : u.query.all (okE (setU (if specP u.scheme then 3 else 2))) = true
  noQuery : u.hasQuery = false → u.query = []
  fragment : u.fragment.all (okE (setU 1)) = true
  noFragment : u.hasFragment = false → u.fragment = []

theorem MU.hostN {u : UrlL} (h : MU u) (hh : u.hasHost = true) (hf : u.scheme ≠ fileS) : HostN (specP u.scheme) u.host := (h.host hh).resolve_right fun x => hf x.1
/-- Pieces that stay as they are. -/
theorem onL_same (scheme : Bs) : ∀ (ps acc : List Bs), (∀ p ∈ ps, p.all (okE (setU 4)) = true ∧ dotsP p = 0) → (scheme = fileS → acc = [] → ∀ p, ps.head? = some p → driveP p = true → p.take 1 ++ [58] = p) → onL scheme acc ps = acc ++ ps
  | [], acc, _, _ => by rw [onL, List.append_nil]
  | p :: r, acc, h, hd => by
    obtain ⟨h1, h2⟩ := h p (by simp)
    have ih := onL_same scheme r (acc ++ [p]) (fun q hq => h q (List.mem_cons_of_mem _ hq)) (fun _ ha => by simp at ha)
    rw [onL, encode_id h1]
    simp only [h2]
    rw [if_neg (by decide), if_neg (by decide)]
    have e : (if scheme = fileS ∧ acc = [] ∧ driveP p = true then p.take 1 ++ [58] else p) = p := by
      split
      · rename_i hh
        exact hd hh.1 hh.2.1 p rfl hh.2.2
      · rfl
    rw [e, ih, List.append_assoc]; rfl
theorem splitS_no {sp : Bool} : ∀ {p : Bs}, (∀ c ∈ p, slashQ sp c = false) → splitS sp p = [p]
  | [], _ => rfl
  | c :: r, h => by
    rw [splitS, h c (by simp), splitS_no (fun x hx => h x (List.mem_cons_of_mem _ hx))]
    rfl
theorem splitS_at {sp : Bool} : ∀ {p : Bs} (r : Bs), (∀ c ∈ p, slashQ sp c = false) → splitS sp (p ++ 47 :: r) = p :: splitS sp r
  | [], r, _ => by
    show splitS sp (47 :: r) = _
    rw [splitS]; rfl
  | c :: t, r, h => by
    rw [List.cons_append, splitS, h c (by simp), splitS_at r (fun x hx => h x (List.mem_cons_of_mem _ hx))]
    rfl
/-- A path's text, without its first slash. -/
def joinS : List Bs → Bs
  | [] => []
  | [p] => p
  | p :: q :: r => p ++ 47 :: joinS (q :: r)
theorem joinS_flat : ∀ (l : List Bs), l ≠ [] → (l.flatMap fun p => 47 :: p) = 47 :: joinS l
  | [], h => absurd rfl h
  | [p], _ => by simp [joinS]
  | p :: q :: r, _ => by
    have ih := joinS_flat (q :: r) (by simp)
    rw [List.flatMap_cons, ih, joinS]; rfl
theorem splitS_join {sp : Bool} : ∀ (l : List Bs), l ≠ [] → (∀ p ∈ l, ∀ c ∈ p, slashQ sp c = false) → splitS sp (joinS l) = l
  | [], h, _ => absurd rfl h
  | [p], _, h => splitS_no (h p (by simp))
  | p :: q :: r, _, h => by
    rw [joinS, splitS_at _ (h p (by simp)), splitS_join (q :: r) (by simp) (fun x hx => h x (List.mem_cons_of_mem _ hx))]
/-- A path, told, is read as it again. -/
theorem onP_same {u : UrlL} {l : List Bs} (hne : l ≠ []) (h : ∀ p ∈ l, pieceN (specP u.scheme) p) (hd : u.scheme = fileS → ∀ p, l.head? = some p → driveP p = true → p.take 1 ++ [58] = p) (hp : u.path = []) :
    onP u (joinS l) = { u with path := l } := by
  unfold onP
  rw [splitS_join l hne (fun p hp => (h p hp).2.2), hp, onL_same u.scheme l [] (fun p hp => ⟨(h p hp).1, (h p hp).2.1⟩) (fun hf _ => hd hf)]
  rfl
/-- Who, where, and by which port, told. -/
def whoT (u : UrlL) : Bs := u.user ++ (if u.pass = [] then [] else [58] ++ u.pass) ++ (if u.user = [] ∧ u.pass = [] then [] else [64])
theorem port_dec {s : Bs} {n : Nat} (h6 : n ≤ 65535) (hd : (n : Int) ≠ defP s) (u : UrlL) (hu : u.scheme = s) : portU u (Lib.decDigits n) = .ok { u with port := n } := by
  unfold portU
  rw [portN_dec n (by omega)]
  simp only
  rw [if_neg (by omega), if_pos ⟨dec_ne n, by rw [hu]; exact hd⟩]
theorem port_nil (u : UrlL) : portU u [] = .ok u := rfl
theorem colonP_host {sp : Bool} {h : Bs} (H : HostN sp h) : colonP false h = none ∧ ∀ b, colonP false (h ++ 58 :: b) = some h.length := by
  rcases H.colon with hc | ⟨x, rfl, hx⟩
  · exact ⟨colonP_no (fun hh => (hc 58 hh).1 rfl) false, fun b => colonP_at b hc⟩
  · have e : ∀ b, colonP false (91 :: (x ++ 93 :: b)) = ((colonP false b).map (· + (x.length + 1))).map (· + 1) := by
      intro b
      rw [colonP]
      simp only [beq_self_eq_true, if_true]
      rw [colonP_in b hx]
    refine ⟨by have := e []; simpa [colonP] using this, fun b => ?_⟩
    have h2 := e (58 :: b)
    have h3 : (91 :: (x ++ [93]) : Bs) ++ 58 :: b = 91 :: (x ++ 93 :: (58 :: b)) := by simp
    rw [h3, h2]
    simp [colonP]
theorem url_ext {a b : UrlL} (h1 : a.scheme = b.scheme) (h2 : a.user = b.user) (h3 : a.pass = b.pass) (h4 : a.hasHost = b.hasHost) (h5 : a.host = b.host) (h6 : a.port = b.port) (h7 : a.opq = b.opq) (h8 : a.path = b.path) (h9 : a.hasQuery = b.hasQuery) (h10 : a.hasFragment = b.hasFragment) (h11 : a.query = b.query) (h12 : a.fragment = b.fragment) : a = b := by
  cases a; cases b; simp_all
/-- A place, told, is read as it again. -/
theorem place_same {u : UrlL} {h : Bs} {port : Int} (H : HostN (specP u.scheme) h) (hp : port = -1 ∨ ∃ n : Nat, port = n ∧ n ≤ 65535 ∧ (n : Int) ≠ defP u.scheme) (h0 : h = [] → port = -1 ∧ specP u.scheme = false) (hu : u.port = -1) :
    placeU u (if port = -1 then h else h ++ [58] ++ Lib.itoa port) = .ok { u with host := h, hasHost := true, port := port } := by
  obtain ⟨hc1, hc2⟩ := colonP_host H
  have hh : ∀ p : Int, u.port = p → hostU u h = .ok { u with host := h, hasHost := true, port := p } := by
    intro p hpu
    unfold hostU
    rw [H.again, ← hpu]
  rcases hp with rfl | ⟨n, rfl, hn, hd⟩
  · rw [if_pos rfl]
    unfold placeU
    rw [hc1]
    simp only
    rw [if_neg (fun hx => by have := (h0 hx.1).2; rw [this] at hx; cases hx.2), hh (-1) hu]
    rfl
  · have hne : h ≠ [] := fun e => by have := (h0 e).1; omega
    rw [if_neg (by omega), itoa_nat, List.append_assoc]
    show placeU u (h ++ 58 :: Lib.decDigits n) = _
    unfold placeU
    rw [hc2]
    simp only
    have ht : (h ++ 58 :: Lib.decDigits n).take h.length = h := List.take_left' rfl
    have hdr : (h ++ 58 :: Lib.decDigits n).drop (h.length + 1) = Lib.decDigits n := by simp
    rw [ht, hdr, if_neg hne, hh (-1) hu]
    show portU { u with host := h, hasHost := true, port := -1 } (Lib.decDigits n) = _
    exact port_dec (s := u.scheme) hn hd { u with host := h, hasHost := true, port := -1 } rfl
theorem set5_not : ∀ c : UInt8, okE (setU 5) c = true → plainQ c = true ∧ c ≠ 58 ∧ c ≠ 64 ∧ slashQ true c = false ∧ c < 127 := byte_all (by decide +kernel)
theorem set4_not : ∀ c : UInt8, okE (setU 4) c = true → plainQ c = true ∧ c < 127 := byte_all (by decide +kernel)
theorem set3_not : ∀ c : UInt8, okE (setU 3) c = true → lowQ c = false ∧ c ≠ 35 ∧ c < 127 := byte_all (by decide +kernel)
theorem set2_not : ∀ c : UInt8, okE (setU 2) c = true → lowQ c = false ∧ c ≠ 35 ∧ c < 127 := byte_all (by decide +kernel)
theorem set1_not : ∀ c : UInt8, okE (setU 1) c = true → lowQ c = false ∧ c < 127 := byte_all (by decide +kernel)
theorem digit_not3 : ∀ c : UInt8, isDigit c = true → plainQ c = true ∧ c ≠ 64 ∧ slashQ true c = false ∧ c < 127 := byte_all (by decide +kernel)
theorem slash_sub {sp : Bool} {c : UInt8} (h : slashQ true c = false) : slashQ sp c = false := by
  cases sp
  · unfold slashQ at h ⊢
    simp only [Bool.true_and, Bool.or_eq_false_iff] at h
    rw [h.1]; rfl
  · exact h
theorem all_mem {of l : Bs} (h : l.all (okE of) = true) {c : UInt8} (hc : c ∈ l) : okE of c = true := List.all_eq_true.1 h c hc
/-- The place's text: the host, and the port. -/
def placeT (h : Bs) (port : Int) : Bs := if port = -1 then h else h ++ [58] ++ Lib.itoa port
theorem placeT_chars {sp : Bool} {h : Bs} (H : HostN sp h) {port d : Int} (hp : port = -1 ∨ ∃ n : Nat, port = n ∧ n ≤ 65535 ∧ (n : Int) ≠ d) : ∀ c ∈ placeT h port, plainQ c = true ∧ c ≠ 64 ∧ slashQ true c = false ∧ c < 127 := by
  intro c hc
  unfold placeT at hc
  rcases hp with rfl | ⟨n, rfl, _, _⟩
  · rw [if_pos rfl] at hc; exact H.chars c hc
  · rw [if_neg (by omega), itoa_nat] at hc
    rcases List.mem_append.1 hc with hc | hc
    · rcases List.mem_append.1 hc with hc | hc
      · exact H.chars c hc
      · rw [List.mem_singleton.1 hc]; decide
    · exact digit_not3 c (dec_digit n c hc)
theorem whoT_chars {u : UrlL} (hu : u.user.all (okE (setU 5)) = true) (hp : u.pass.all (okE (setU 5)) = true) : ∀ c ∈ whoT u, plainQ c = true ∧ slashQ true c = false ∧ c < 127 := by
  intro c hc
  unfold whoT at hc
  rcases List.mem_append.1 hc with hc | hc
  · rcases List.mem_append.1 hc with hc | hc
    · obtain ⟨h1, _, _, h4, h5⟩ := set5_not c (all_mem hu hc); exact ⟨h1, h4, h5⟩
    · split at hc
      · cases hc
      · rcases List.mem_append.1 hc with hc | hc
        · rw [List.mem_singleton.1 hc]; decide
        · obtain ⟨h1, _, _, h4, h5⟩ := set5_not c (all_mem hp hc); exact ⟨h1, h4, h5⟩
  · split at hc
    · cases hc
    · rw [List.mem_singleton.1 hc]; decide
theorem placeT_ne {h : Bs} {port : Int} (hh : h ≠ []) : placeT h port ≠ [] := by
  unfold placeT
  split
  · exact hh
  · simp [hh]
/-- An authority, told, is read as it again. -/
theorem auth_same {u v : UrlL} (h : NU u) (hh : u.hasHost = true) (hf : u.scheme ≠ fileS) (hs : v.scheme = u.scheme) (hv1 : v.user = []) (hv2 : v.pass = []) (hv3 : v.port = -1) :
    authU v (whoT u ++ placeT u.host u.port) = .ok { v with user := u.user, pass := u.pass, host := u.host, hasHost := true, port := u.port } := by
  have H := h.toMU.hostN hh hf
  have h0 : u.host = [] → specP u.scheme = false := by
    intro e
    cases hq : specP u.scheme
    · rfl
    · exact absurd e (h.needed hq hf)
  have hpl : ∀ w : UrlL, w.scheme = u.scheme → w.port = -1 → placeU w (placeT u.host u.port) = .ok { w with host := u.host, hasHost := true, port := u.port } := by
    intro w hw hp
    have H' : HostN (specP w.scheme) u.host := by rw [hw]; exact H
    exact place_same H' (by rw [hw]; exact h.port) (fun e => ⟨(h.empty e).2.2, by rw [hw]; exact h0 e⟩) hp
  have hnot : (64 : UInt8) ∉ placeT u.host u.port := fun hc => (placeT_chars H h.port 64 hc).2.1 rfl
  by_cases hw : u.user = [] ∧ u.pass = []
  · have e : whoT u = [] := by unfold whoT; rw [hw.1, hw.2]; rfl
    rw [e, List.nil_append]
    unfold authU
    rw [lastAt_no hnot]
    simp only
    rw [hpl v hs hv3]
    congr 1
    exact url_ext rfl (hv1.trans hw.1.symm) (hv2.trans hw.2.symm) rfl rfl rfl rfl rfl rfl rfl rfl rfl
  · have e : whoT u ++ placeT u.host u.port = (u.user ++ (if u.pass = [] then [] else [58] ++ u.pass)) ++ 64 :: placeT u.host u.port := by
      unfold whoT
      rw [if_neg hw, List.append_assoc]; rfl
    have hne : placeT u.host u.port ≠ [] := placeT_ne (fun e => hw ⟨(h.empty e).1, (h.empty e).2.1⟩)
    have hn58 : (58 : UInt8) ∉ u.user := fun hc => (set5_not 58 (all_mem h.user hc)).2.1 rfl
    have hwho : whoU v (u.user ++ (if u.pass = [] then [] else [58] ++ u.pass)) = { v with user := u.user, pass := u.pass } := by
      unfold whoU
      by_cases hp : u.pass = []
      · rw [if_pos hp, List.append_nil, cut_one_no hn58]
        simp only [encode_id h.user, hp]
        rfl
      · rw [if_neg hp]
        show ({ v with user := encodeP (setU 5) (Lib.cut (u.user ++ 58 :: u.pass) [58]).1, pass := encodeP (setU 5) (Lib.cut (u.user ++ 58 :: u.pass) [58]).2.1 } : UrlL) = _
        rw [cut_one_at u.pass hn58]
        simp only [encode_id h.user, encode_id h.pass]
    rw [e]
    unfold authU
    rw [lastAt_at _ hnot]
    simp only
    rw [if_neg hne, hwho, hpl { v with user := u.user, pass := u.pass } hs hv3]
/-- A path's text. -/
def pathT (l : List Bs) : Bs := l.flatMap fun p => 47 :: p
theorem hosted_same {u v : UrlL} (h : NU u) (hh : u.hasHost = true) (hf : u.scheme ≠ fileS) (ho : u.opq = false) (hs : v.scheme = u.scheme) (hv1 : v.user = []) (hv2 : v.pass = []) (hv3 : v.port = -1) (hv4 : v.path = []) :
    hostedU v (whoT u ++ placeT u.host u.port ++ pathT u.path) = .ok { v with user := u.user, pass := u.pass, host := u.host, hasHost := true, port := u.port, path := u.path } := by
  have H := h.toMU.hostN hh hf
  have hsl : ∀ c ∈ whoT u ++ placeT u.host u.port, slashQ (specP v.scheme) c = false := by
    intro c hc
    rcases List.mem_append.1 hc with hc | hc
    · exact slash_sub (whoT_chars h.user h.pass c hc).2.1
    · exact slash_sub (placeT_chars H h.port c hc).2.2.1
  have ha := auth_same (v := v) h hh hf hs hv1 hv2 hv3
  unfold hostedU
  by_cases hp : u.path = []
  · have hsp : specP v.scheme = false := by
      rw [hs]
      cases hq : specP u.scheme
      · rfl
      · exact absurd hp (h.special hq).2.2
    have e : whoT u ++ placeT u.host u.port ++ pathT u.path = whoT u ++ placeT u.host u.port := by
      rw [hp]
      show _ ++ [] = _
      rw [List.append_nil]
    rw [e, cutS_no hsl]
    have hb : ∀ w : UrlL, w.scheme = v.scheme → (UR.ok (if (false || specP w.scheme) = true then onP w [] else w)) = .ok w := by
      intro w hw
      rw [hw, hsp]; rfl
    simp only [ha]
    refine Eq.trans (hb { v with user := u.user, pass := u.pass, host := u.host, hasHost := true, port := u.port } rfl) ?_
    congr 1
    exact url_ext rfl rfl rfl rfl rfl rfl rfl (hv4.trans hp.symm) rfl rfl rfl rfl
  · rw [show pathT u.path = 47 :: joinS u.path from joinS_flat u.path hp, cutS_at _ hsl]
    simp only [ha]
    have hpn := (h.path ho).1
    have hsame := onP_same (u := { v with user := u.user, pass := u.pass, host := u.host, hasHost := true, port := u.port }) hp (by
      intro p hpp; show pieceN (specP v.scheme) p; rw [hs]; exact hpn p hpp) (by intro hfs; exact absurd (hs.symm.trans hfs) hf) hv4
    show UR.ok (if (true || specP v.scheme) = true then onP _ (joinS u.path) else _) = _
    rw [Bool.true_or, if_pos rfl, hsame]
/-- What stands behind the scheme, ahead of the query. -/
def bodyT (u : UrlL) : Bs := (if u.hasHost then 47 :: 47 :: (whoT u ++ placeT u.host u.port) else if u.opq = false ∧ 1 < u.path.length ∧ u.path.head? = some [] then [47, 46] else []) ++ (if u.opq then u.path.headD [] else pathT u.path)
def queryT (u : UrlL) : Bs := if u.hasQuery then 63 :: u.query else []
def fragT (u : UrlL) : Bs := if u.hasFragment then 35 :: u.fragment else []
theorem textU_eq (u : UrlL) : textU u = u.scheme ++ 58 :: (bodyT u ++ queryT u ++ fragT u) := by
  unfold textU bodyT queryT fragT whoT placeT atU pathT
  cases u.hasHost
  · simp
  · simp
theorem beq_swap (x : UInt8) : ((47 : UInt8) == x) = (some x == some (47 : UInt8)) := by
  rw [Bool.eq_iff_iff]
  simp only [beq_iff_eq, Option.some.injEq]
  exact eq_comm
theorem hasPrefix_two (s : Bs) : Lib.hasPrefix s [47, 47] = (s[0]? == some 47 && s[1]? == some 47) := by
  cases s with
  | nil => rfl
  | cons a r =>
    cases r with
    | nil =>
      show ((47 : UInt8) == a && false) = ((some a == some 47) && (none == some (47 : UInt8)))
      rw [beq_swap]; rfl
    | cons b t =>
      show ((47 : UInt8) == a && ((47 : UInt8) == b && true)) = ((some a == some 47) && (some b == some 47))
      rw [beq_swap, beq_swap, Bool.and_true]
theorem hasPrefix_one (s : Bs) : Lib.hasPrefix s [47] = (s[0]? == some 47) := by
  cases s with
  | nil => rfl
  | cons a r =>
    show ((47 : UInt8) == a && true) = (some a == some 47)
    rw [beq_swap, Bool.and_true]
theorem leadS_two {sp : Bool} {r : Bs} (h : ∀ c, r.head? = some c → slashQ sp c = false) : leadS sp (47 :: 47 :: r) = 2 := by
  unfold leadS
  have h47 : slashQ sp 47 = true := rfl
  rw [List.takeWhile_cons, List.takeWhile_cons, h47]
  simp only [if_true]
  cases r with
  | nil => rfl
  | cons c t => rw [List.takeWhile_cons, h c rfl]; rfl
theorem joinS_head {l : List Bs} (hn : ¬ (1 < l.length ∧ l.head? = some [])) (h : ∀ p ∈ l, ∀ c ∈ p, slashQ false c = false) : (joinS l)[0]? ≠ some 47 := by
  cases l with
  | nil => simp [joinS]
  | cons p r =>
    cases p with
    | nil =>
      cases r with
      | nil => simp [joinS]
      | cons q t => exact absurd ⟨by simp, rfl⟩ hn
    | cons c p =>
      have hc := h (c :: p) (by simp) c (by simp)
      have e : (joinS ((c :: p) :: r))[0]? = some c := by
        cases r <;> simp [joinS]
      rw [e]
      intro hh
      rw [Option.some.inj hh] at hc
      cases hc
/-- What stands ahead of the query, told, is read as it again. -/
theorem main_same {u : UrlL} (h : NU u) : mainU { query := u.query, hasQuery := u.hasQuery, fragment := u.fragment, hasFragment := u.hasFragment } (u.scheme ++ 58 :: bodyT u) none = .ok u := by
  unfold mainU
  rw [schemed_of h.s1 h.s2 h.s3, h.s4]
  simp only [if_true]
  by_cases hf : u.scheme = fileS
  · rw [if_pos hf]
    obtain ⟨hh, ho, hp⟩ := h.special (by rw [hf]; rfl)
    obtain ⟨f1, f2, f3, f4, f5⟩ := h.file hf
    have H := h.host hh
    have hb : bodyT u = 47 :: 47 :: (u.host ++ 47 :: joinS u.path) := by
      unfold bodyT
      rw [hh, ho, show pathT u.path = 47 :: joinS u.path from joinS_flat u.path hp]
      have e1 : whoT u = [] := by unfold whoT; rw [f1, f2]; rfl
      have e2 : placeT u.host u.port = u.host := by unfold placeT; rw [if_pos f3]
      rw [e1, e2]; simp
    have hsl : ∀ c ∈ u.host, slashQ true c = false := by
      intro c hc
      rcases H with H | ⟨_, he⟩
      · exact (H.chars c hc).2.2.1
      · rw [he] at hc; cases hc
    rw [hb]
    unfold filesU
    have hlead : 1 < leadS true (47 :: 47 :: (u.host ++ 47 :: joinS u.path)) := by
      unfold leadS
      have h47 : slashQ true 47 = true := rfl
      rw [List.takeWhile_cons, List.takeWhile_cons, h47]
      simp
    simp only [if_pos hlead]
    have hd : (47 :: 47 :: (u.host ++ 47 :: joinS u.path) : Bs).drop 2 = u.host ++ 47 :: joinS u.path := rfl
    rw [hd, cutS_at _ hsl]
    simp only [f5]
    have hsp : specP u.scheme = true := by rw [hf]; rfl
    have hend : ∀ w : UrlL, w.scheme = u.scheme → w.user = [] → w.pass = [] → w.hasHost = true → w.host = u.host → w.port = -1 → w.opq = false → w.path = [] → w.hasQuery = u.hasQuery → w.hasFragment = u.hasFragment → w.query = u.query → w.fragment = u.fragment →
        (UR.ok (onP (if w.host = localS then { w with host := [] } else w) (joinS u.path))) = .ok u := by
      intro w w1 w2 w3 w4 w5 w6 w7 w8 w9 w10 w11 w12
      rw [if_neg (by rw [w5]; exact f4), onP_same (u := w) hp (by rw [w1]; exact (h.path ho).1) (by rw [w1]; exact h.drive) w8]
      congr 1
      exact url_ext w1 (w2.trans f1.symm) (w3.trans f2.symm) (w4.trans hh.symm) w5 (w6.trans f3.symm) (w7.trans ho.symm) rfl w9 w10 w11 w12
    by_cases h0 : u.host = []
    · rw [if_pos h0]
      exact hend _ rfl rfl rfl rfl h0.symm rfl rfl rfl rfl rfl rfl rfl
    · rw [if_neg h0]
      unfold hostU
      have hag := (H.resolve_right fun x => h0 x.2).again
      simp only [hag]
      exact hend _ rfl rfl rfl rfl rfl rfl rfl rfl rfl rfl rfl rfl
  · rw [if_neg hf]
    have hbody : u.hasHost = true → u.opq = false → bodyT u = 47 :: 47 :: (whoT u ++ placeT u.host u.port ++ pathT u.path) := by
      intro hh ho
      unfold bodyT
      rw [hh, ho]
      simp
    have hfin : u.hasHost = true → u.opq = false → hostedU { query := u.query, hasQuery := u.hasQuery, fragment := u.fragment, hasFragment := u.hasFragment, scheme := u.scheme } (whoT u ++ placeT u.host u.port ++ pathT u.path) = .ok u := by
      intro hh ho
      rw [hosted_same (v := { query := u.query, hasQuery := u.hasQuery, fragment := u.fragment, hasFragment := u.hasFragment, scheme := u.scheme }) h hh hf ho rfl rfl rfl rfl rfl]
      congr 1
      exact url_ext rfl rfl rfl hh.symm rfl rfl ho.symm rfl rfl rfl rfl rfl
    by_cases hs : specP u.scheme = true
    · rw [if_pos hs]
      obtain ⟨hh, ho, hp⟩ := h.special hs
      have hne := h.needed hs hf
      rw [hbody hh ho, leadS_two]
      · exact hfin hh ho
      · intro c hc
        have hpne : placeT u.host u.port ≠ [] := placeT_ne hne
        have hmem : c ∈ whoT u ++ placeT u.host u.port := by
          have hne2 : whoT u ++ placeT u.host u.port ≠ [] := by simp [hpne]
          cases hx : whoT u ++ placeT u.host u.port with
          | nil => exact absurd hx hne2
          | cons a r =>
            rw [hx] at hc
            have : a = c := by simpa using hc
            rw [← this]; simp
        rcases List.mem_append.1 hmem with hm | hm
        · exact (whoT_chars h.user h.pass c hm).2.1
        · exact (placeT_chars (h.toMU.hostN hh hf) h.port c hm).2.2.1
    · rw [if_neg hs]
      have hs' : specP u.scheme = false := by simpa using hs
      cases hh : u.hasHost with
      | true =>
        have ho : u.opq = false := by
          cases hq : u.opq
          · rfl
          · have := (h.opaqueN hq).1; rw [hh] at this; cases this
        rw [hbody hh ho, hasPrefix_two]
        simp only [List.getElem?_cons_zero, List.getElem?_cons_succ, beq_self_eq_true, Bool.and_self, if_true]
        exact hfin hh ho
      | false =>
        obtain ⟨b1, b2, b3, b4⟩ := h.bare hh
        cases ho : u.opq with
        | true =>
          obtain ⟨_, p, hp, h2, _, _, h5, _⟩ := h.opaqueN ho
          have hb : bodyT u = p := by unfold bodyT; rw [hh, ho, hp]; simp
          have h0 : (p[0]? == some 47) = false := by
            rw [beq_eq_false_iff_ne, ← List.head?_eq_getElem?]; exact h5
          rw [hb, hasPrefix_two, hasPrefix_one, h0]
          simp only [Bool.false_and, Bool.false_eq_true, if_false]
          rw [encode_id h2]
          congr 1
          exact url_ext rfl b1.symm b2.symm hh.symm b3.symm b4.symm ho.symm hp.symm rfl rfl rfl rfl
        | false =>
          obtain ⟨hpn, hpne⟩ := h.path ho
          have hpne := hpne hh
          have hres : ∀ w : UrlL, w.scheme = u.scheme → w.user = [] → w.pass = [] → w.hasHost = false → w.host = [] → w.port = -1 → w.opq = false → w.path = u.path → w.hasQuery = u.hasQuery → w.hasFragment = u.hasFragment → w.query = u.query → w.fragment = u.fragment → UR.ok w = .ok u := by
            intro w w1 w2 w3 w4 w5 w6 w7 w8 w9 w10 w11 w12
            congr 1
            exact url_ext w1 (w2.trans b1.symm) (w3.trans b2.symm) (w4.trans hh.symm) (w5.trans b3.symm) (w6.trans b4.symm) (w7.trans ho.symm) w8 w9 w10 w11 w12
          by_cases hc : 1 < u.path.length ∧ u.path.head? = some []
          · have hb : bodyT u = 47 :: 46 :: 47 :: joinS u.path := by
              unfold bodyT
              rw [hh, ho, show pathT u.path = 47 :: joinS u.path from joinS_flat u.path hpne]
              simp [hc]
            rw [hb, hasPrefix_two, hasPrefix_one]
            simp only [List.getElem?_cons_zero, List.getElem?_cons_succ, beq_self_eq_true, Bool.true_and]
            rw [if_neg (by decide), if_pos trivial]
            refine hres _ rfl rfl rfl rfl rfl rfl rfl ?_ rfl rfl rfl rfl
            show onL u.scheme [] (splitS (specP u.scheme) (46 :: 47 :: joinS u.path)) = u.path
            have hsp := splitS_at (sp := specP u.scheme) (p := [46]) (joinS u.path) (by intro c hc; rw [List.mem_singleton.1 hc, hs']; rfl)
            have hj : splitS (specP u.scheme) (46 :: 47 :: joinS u.path) = [46] :: u.path := by
              show splitS (specP u.scheme) ([46] ++ 47 :: joinS u.path) = _
              rw [hsp, splitS_join u.path hpne (fun p hp => (hpn p hp).2.2)]
            rw [hj, onL]
            have e1 : encodeP (setU 4) ([46] : Bs) = [46] := by decide +kernel
            have e2 : dotsP [46] = 1 := by decide +kernel
            simp only [e1, e2]
            rw [if_neg (by decide), if_pos trivial, if_neg hpne, onL_same u.scheme u.path [] (fun p hp => ⟨(hpn p hp).1, (hpn p hp).2.1⟩) (fun hfs => absurd hfs hf)]
            rfl
          · have hb : bodyT u = 47 :: joinS u.path := by
              unfold bodyT
              rw [hh, ho, show pathT u.path = 47 :: joinS u.path from joinS_flat u.path hpne]
              simp [hc]
            have h1 : ((47 :: joinS u.path : Bs)[1]? == some 47) = false := by
              rw [beq_eq_false_iff_ne, List.getElem?_cons_succ]
              exact joinS_head hc (fun p hp => by have := (hpn p hp).2.2; rw [hs'] at this; exact this)
            rw [hb, hasPrefix_two, hasPrefix_one, h1]
            simp only [List.getElem?_cons_zero, beq_self_eq_true, Bool.and_false, Bool.false_eq_true, if_false, if_true]
            have hsame := onP_same (u := { query := u.query, hasQuery := u.hasQuery, fragment := u.fragment, hasFragment := u.hasFragment, scheme := u.scheme }) hpne hpn (fun hfs => absurd hfs hf) rfl
            show UR.ok (onP { query := u.query, hasQuery := u.hasQuery, fragment := u.fragment, hasFragment := u.hasFragment, scheme := u.scheme } (joinS u.path)) = _
            rw [hsame]
            exact hres _ rfl rfl rfl rfl rfl rfl rfl rfl rfl rfl rfl rfl
theorem clean_id2 {s : Bs} (h1 : ∀ c ∈ s, keepQ c = true) (h2 : ∀ c, s.head? = some c → lowQ c = false) (h3 : ∀ c, s.getLast? = some c → lowQ c = false) : cleanP s = s := by
  rw [clean_eq]
  have hf : s.filter keepQ = s := List.filter_eq_self.2 h1
  have hd : ∀ l : Bs, (∀ c, l.head? = some c → lowQ c = false) → l.dropWhile lowQ = l := by
    intro l hl
    cases l with
    | nil => rfl
    | cons c r => rw [List.dropWhile_cons, hl c rfl]; rfl
  rw [hf, hd s h2, hd s.reverse (fun c hc => h3 c (by rw [List.head?_reverse] at hc; exact hc)), List.reverse_reverse]
theorem plain_of {c : UInt8} (h : plainQ c = true) : lowQ c = false ∧ c ≠ 35 ∧ c ≠ 63 := by
  unfold plainQ at h
  simp only [Bool.and_eq_true, Bool.not_eq_true', beq_eq_false_iff_ne] at h
  exact ⟨h.1.1, h.1.2, h.2⟩
theorem scheme_not : ∀ c : UInt8, schemeC c = true → plainQ c = true := byte_all (by decide +kernel)
theorem okE_keep : ∀ c : UInt8, okE [] c = true → keepQ c = true := byte_all (by decide +kernel)
theorem okE_space : ∀ c : UInt8, okE [] c = true → c ≠ 32 → lowQ c = false := byte_all (by decide +kernel)
theorem pathT_chars {sp : Bool} {l : List Bs} (h : ∀ p ∈ l, pieceN sp p) : ∀ c ∈ pathT l, plainQ c = true := by
  intro c hc
  unfold pathT at hc
  obtain ⟨p, hp, hc⟩ := List.mem_flatMap.1 hc
  rcases List.mem_cons.1 hc with rfl | hc
  · decide
  · exact (set4_not c (all_mem (h p hp).1 hc)).1
theorem body_chars {u : UrlL} (h : NU u) : ∀ c ∈ bodyT u, c ≠ 35 ∧ c ≠ 63 ∧ keepQ c = true ∧ (u.opq = false → lowQ c = false) := by
  have hpl : ∀ c, plainQ c = true → c ≠ 35 ∧ c ≠ 63 ∧ keepQ c = true ∧ (u.opq = false → lowQ c = false) := fun c hc => by
    obtain ⟨h1, h2, h3⟩ := plain_of hc
    exact ⟨h2, h3, low_keep h1, fun _ => h1⟩
  intro c hc
  unfold bodyT at hc
  rcases List.mem_append.1 hc with hc | hc
  · apply hpl
    split at hc
    · rename_i hh
      rcases List.mem_cons.1 hc with rfl | hc
      · decide
      · rcases List.mem_cons.1 hc with rfl | hc
        · decide
        · rcases List.mem_append.1 hc with hc | hc
          · exact (whoT_chars h.user h.pass c hc).1
          · rcases h.host hh with H | ⟨hfs, he⟩
            · exact (placeT_chars H h.port c hc).1
            · rw [he, (h.file hfs).2.2.1] at hc; cases hc
    · split at hc
      · have hq : ∀ c ∈ ([47, 46] : Bs), plainQ c = true := by decide
        exact hq c hc
      · cases hc
  · split at hc
    · rename_i ho
      obtain ⟨_, p, hp, h2, h3, h4, _, _⟩ := h.opaqueN ho
      rw [hp] at hc
      have hc : c ∈ p := hc
      exact ⟨fun e => h3 (e ▸ hc), fun e => h4 (e ▸ hc), okE_keep c (all_mem h2 hc), fun e => by rw [ho] at e; cases e⟩
    · rename_i ho
      have ho : u.opq = false := by simpa using ho
      exact hpl c (pathT_chars (h.path ho).1 c hc)
theorem query_low {u : UrlL} (h : NU u) : ∀ c ∈ u.query, lowQ c = false ∧ c ≠ 35 := by
  intro c hc
  have := all_mem h.query hc
  split at this
  · exact ⟨(set3_not c this).1, (set3_not c this).2.1⟩
  · exact ⟨(set2_not c this).1, (set2_not c this).2.1⟩
theorem last_append {a b : Bs} {c : UInt8} (hb : b ≠ []) (h : (a ++ b).getLast? = some c) : c ∈ b := by
  rw [List.getLast?_append] at h
  cases hl : b.getLast? with
  | none => exact absurd (List.getLast?_eq_none_iff.1 hl) hb
  | some d =>
    rw [hl] at h
    have : d = c := by simpa using h
    rw [← this]; exact List.mem_of_getLast? hl
theorem clean_text {u : UrlL} (h : NU u) : cleanP (textU u) = textU u := by
  rw [textU_eq]
  have hsch : ∀ c ∈ u.scheme, lowQ c = false := fun c hc => (plain_of (scheme_not c (List.all_eq_true.1 h.s3 c hc))).1
  have hq : ∀ c ∈ queryT u, lowQ c = false := by
    intro c hc
    unfold queryT at hc
    split at hc
    · rcases List.mem_cons.1 hc with rfl | hc
      · decide
      · exact (query_low h c hc).1
    · cases hc
  have hf : ∀ c ∈ fragT u, lowQ c = false := by
    intro c hc
    unfold fragT at hc
    split at hc
    · rcases List.mem_cons.1 hc with rfl | hc
      · decide
      · exact (set1_not c (all_mem h.fragment hc)).1
    · cases hc
  cases ho : u.opq with
  | false =>
    apply clean_id
    intro c hc
    rcases List.mem_append.1 hc with hc | hc
    · exact hsch c hc
    · rcases List.mem_cons.1 hc with rfl | hc
      · decide
      · rcases List.mem_append.1 hc with hc | hc
        · rcases List.mem_append.1 hc with hc | hc
          · exact (body_chars h c hc).2.2.2 ho
          · exact hq c hc
        · exact hf c hc
  | true =>
    apply clean_id2
    · intro c hc
      rcases List.mem_append.1 hc with hc | hc
      · exact low_keep (hsch c hc)
      · rcases List.mem_cons.1 hc with rfl | hc
        · decide
        · rcases List.mem_append.1 hc with hc | hc
          · rcases List.mem_append.1 hc with hc | hc
            · exact (body_chars h c hc).2.2.1
            · exact low_keep (hq c hc)
          · exact low_keep (hf c hc)
    · intro c hc
      cases hs : u.scheme with
      | nil => exact absurd hs h.s1
      | cons a r =>
        rw [hs] at hc
        have : a = c := by simpa using hc
        rw [← this]; exact hsch a (by rw [hs]; simp)
    · intro c hc
      obtain ⟨hh, p, hp, h2, h3, h4, h5, h6⟩ := h.opaqueN ho
      have e : u.scheme ++ 58 :: (bodyT u ++ queryT u ++ fragT u) = (u.scheme ++ 58 :: (bodyT u ++ queryT u)) ++ fragT u := by simp
      rw [e] at hc
      by_cases hfe : fragT u = []
      · rw [hfe, List.append_nil] at hc
        have e2 : u.scheme ++ 58 :: (bodyT u ++ queryT u) = (u.scheme ++ 58 :: bodyT u) ++ queryT u := by simp
        rw [e2] at hc
        by_cases hqe : queryT u = []
        · rw [hqe, List.append_nil] at hc
          have hb : bodyT u = p := by unfold bodyT; rw [hh, ho, hp]; simp
          rw [hb] at hc
          have n1 : u.hasFragment = false := by
            cases hx : u.hasFragment
            · rfl
            · unfold fragT at hfe; rw [hx] at hfe; cases hfe
          have n2 : u.hasQuery = false := by
            cases hx : u.hasQuery
            · rfl
            · unfold queryT at hqe; rw [hx] at hqe; cases hqe
          have hl := h6 n2 n1
          by_cases hpe : p = []
          · rw [hpe] at hc
            have := last_append (a := u.scheme) (b := [58]) (by decide) hc
            rw [List.mem_singleton.1 this]; decide
          · have e3 : u.scheme ++ 58 :: p = (u.scheme ++ [58]) ++ p := by simp
            rw [e3] at hc
            have hm := last_append hpe hc
            refine okE_space c (all_mem h2 hm) ?_
            rintro rfl
            apply hl
            rw [List.getLast?_append] at hc
            cases hx : p.getLast? with
            | none => exact absurd (List.getLast?_eq_none_iff.1 hx) hpe
            | some d => rw [hx] at hc; simpa using hc
        · exact hq c (last_append hqe hc)
      · exact hf c (last_append hfe hc)
/-- What the cuts at # and ? make of a URL's text. -/
theorem text_cuts {u : UrlL} (h : NU u) : Lib.cut (textU u) [35] = (u.scheme ++ 58 :: (bodyT u ++ queryT u), u.fragment, u.hasFragment) ∧ Lib.cut (u.scheme ++ 58 :: (bodyT u ++ queryT u)) [63] = (u.scheme ++ 58 :: bodyT u, u.query, u.hasQuery) := by
  have hsch : ∀ c ∈ u.scheme, plainQ c = true := fun c hc => scheme_not c (List.all_eq_true.1 h.s3 c hc)
  have h35 : (35 : UInt8) ∉ u.scheme ++ 58 :: (bodyT u ++ queryT u) := by
    intro hc
    rcases List.mem_append.1 hc with hc | hc
    · exact (plain_of (hsch 35 hc)).2.1 rfl
    · rcases List.mem_cons.1 hc with hc | hc
      · cases hc
      · rcases List.mem_append.1 hc with hc | hc
        · exact (body_chars h 35 hc).1 rfl
        · unfold queryT at hc
          split at hc
          · rcases List.mem_cons.1 hc with hc | hc
            · cases hc
            · exact (query_low h 35 hc).2 rfl
          · cases hc
  have h63 : (63 : UInt8) ∉ u.scheme ++ 58 :: bodyT u := by
    intro hc
    rcases List.mem_append.1 hc with hc | hc
    · exact (plain_of (hsch 63 hc)).2.2 rfl
    · rcases List.mem_cons.1 hc with hc | hc
      · cases hc
      · exact (body_chars h 63 hc).2.1 rfl
  have hc1 : Lib.cut (textU u) [35] = (u.scheme ++ 58 :: (bodyT u ++ queryT u), u.fragment, u.hasFragment) := by
    rw [textU_eq, show u.scheme ++ 58 :: (bodyT u ++ queryT u ++ fragT u) = (u.scheme ++ 58 :: (bodyT u ++ queryT u)) ++ fragT u by simp]
    unfold fragT
    cases hx : u.hasFragment
    · rw [if_neg (by decide), List.append_nil, cut_one_no h35, h.noFragment hx]
    · rw [if_pos rfl, cut_one_at _ h35]
  have hc2 : Lib.cut (u.scheme ++ 58 :: (bodyT u ++ queryT u)) [63] = (u.scheme ++ 58 :: bodyT u, u.query, u.hasQuery) := by
    rw [show u.scheme ++ 58 :: (bodyT u ++ queryT u) = (u.scheme ++ 58 :: bodyT u) ++ queryT u by simp]
    unfold queryT
    cases hx : u.hasQuery
    · rw [if_neg (by decide), List.append_nil, cut_one_no h63, h.noQuery hx]
    · rw [if_pos rfl, cut_one_at _ h63]
  exact ⟨hc1, hc2⟩
theorem text_main {u : UrlL} (h : NU u) : (Lib.cut (Lib.cut (cleanP (textU u)) [35]).1 [63]).1 = u.scheme ++ 58 :: bodyT u := by
  obtain ⟨hc1, hc2⟩ := text_cuts h
  rw [clean_text h, hc1]
  simp only
  rw [hc2]
/-- WHAT IS READ, TOLD, IS READ AS IT AGAIN. -/
theorem text_read {u : UrlL} (h : NU u) : readU (textU u) none = .ok u := by
  obtain ⟨hc1, hc2⟩ := text_cuts h
  unfold readU
  rw [clean_text h, hc1]
  simp only
  rw [hc2]
  simp only
  rw [main_same h]
  show UR.ok { u with query := encodeP (setU (if specP u.scheme then 3 else 2)) u.query, fragment := encodeP (setU 1) u.fragment } = _
  rw [encode_id h.query, encode_id h.fragment]
end Lz
