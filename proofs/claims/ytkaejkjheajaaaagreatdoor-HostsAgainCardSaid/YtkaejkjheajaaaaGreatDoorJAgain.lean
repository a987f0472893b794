/-
  lazaretlaw07.HostsAgain: it returns true, whatever the text.
-/
import Derived.Test.YtkaejkjheajaaaaGreatDoorJAny
namespace Go.Proofs.YtkaejkjheajaaaaGreatDoor
open Go.RowKit

theorem okH (r : Lz.Res) (hr : ∀ n, r = .er n → 1 ≤ n) : ((resE r : Nat) : Int) = 0 ↔ ∃ t, r = .ok t := by
  cases r with
  | ok t => simp [resE]
  | er n =>
    have := hr n rfl
    simp only [resE]
    constructor
    · intro h; omega
    · rintro ⟨t, ht⟩; cases ht
theorem isP_ok {h : List UInt8} {b : Bool} (e : Lz.hostPr h b = .ok h) : isP h b h 0 = true := by
  unfold isP; rw [e]; simp [resT, resE]
theorem enc1_len : ∀ (of : List UInt8) (c : UInt8), (if c < 32 || 126 < c || of.contains c then [37, Lz.digitU (c.toNat / 16), Lz.digitU (c.toNat % 16)] else [c]).length ≤ 3 := by
  intro of c
  generalize (decide (c < 32) || decide (126 < c) || of.contains c) = q
  cases q
  · exact Nat.le_add_left 1 2
  · exact Nat.le_refl 3
theorem encode_len (of : List UInt8) : ∀ l : List UInt8, (Lz.encodeP of l).length ≤ 3 * l.length
  | [] => Nat.zero_le _
  | c :: r => by
    have ih := encode_len of r
    have h1 := enc1_len of c
    unfold Lz.encodeP at ih ⊢
    rw [List.flatMap_cons, List.length_append, List.length_cons]
    omega
theorem dec_len3 {n : Nat} (h : n < 256) : (Lib.decDigits n).length ≤ 3 := by
  have := dec3 (UInt8.ofNat n)
  rwa [show (UInt8.ofNat n).toNat = n by simp; omega] at this
theorem dotted_len (b : List Nat) (h : b.length = 4) (hl : ∀ n ∈ b, n < 256) : (Lz.dottedP b).length ≤ 16 := by
  have hj := join_len [46] 3 (b.map fun x => Lib.decDigits x) (by
    intro x hx
    obtain ⟨n, hn, rfl⟩ := List.mem_map.1 hx
    exact dec_len3 (hl n hn))
  rw [joinP_eq, List.length_map, h] at hj
  exact hj
theorem host_len (s h : List UInt8) (b : Bool) (e : Lz.hostPr s b = .ok h) : h.length ≤ 3 * s.length + 200 := by
  unfold Lz.hostPr at e
  split at e
  · split at e
    · cases e
    · cases ha : Lz.sixP ((s.drop 1).dropLast) with
      | none => rw [ha] at e; cases e
      | some a =>
        rw [ha] at e
        simp only [Option.map_some, Lz.ofO] at e
        injection e with e
        obtain ⟨h8, hl⟩ := Lz.six_ok ha
        have := text_len a h8 hl
        rw [← e, List.length_append, List.length_append]
        show 1 + _ + 1 ≤ _
        omega
  · split at e
    · unfold Lz.domainP at e
      simp only at e
      split at e
      · cases e
      · split at e
        · cases hf : Lz.fourP (Lz.labelsP (Lz.low (Lz.decodeP s))) with
          | none => rw [hf] at e; cases e
          | some t =>
            rw [hf] at e
            simp only [Lz.ofO] at e
            injection e with e
            obtain ⟨b4, h4, hl, rfl⟩ := Lz.four_ok (Lz.labels_ne _) hf
            have := dotted_len b4 h4 hl
            rw [← e]; omega
        · injection e with e
          have := decode_len s
          rw [← e, low_length]; omega
    · split at e
      · cases e
      · injection e with e
        have := encode_len [] s
        rw [← e]; omega

set_option maxHeartbeats 2000000 in
set_option maxRecDepth 100000 in
theorem hostsAgain_any (s : ByteArray) (w : World) (hE : EnvH w) : Calls Tryz.prog 7 #[.string s] w (RBool true w) := by
  have hb0 := Below.refl w.heap.size w
  by_cases hbig : 2000 < s.size
  · have hbg : (2000 : Int) < (s.size : Int) := by omega
    go_enter Tryz.func7, Tryz.ntmps7
    go_wp2_with fail
    refine (houses_any _ hE).mono ?_
    rintro e w1 ⟨rfl, hb⟩
    go_wp2
    go_ret
    exact ⟨rfl, hb⟩
  · have hbg : ¬ (2000 : Int) < (s.size : Int) := by omega
    have cT := fun W hW => ParseH_any s true (by omega) (fun h => by cases h) W hW
    have cF := fun W hW => ParseH_any s false (by omega) (fun _ _ => cany_all s (by omega)) W hW
    have gT := fun h => Lz.host_again_true (s := s.data.toList) (h := h)
    have gF := fun h => Lz.host_again_false (s := s.data.toList) (h := h)
    have eT := fun n => Lz.host_err_true s.data.toList n
    have eF := fun n => Lz.host_err_false s.data.toList n
    have lT := fun h => host_len s.data.toList h true
    have lF := fun h => host_len s.data.toList h false
    generalize Lz.hostPr s.data.toList true = rT at cT gT eT lT
    generalize Lz.hostPr s.data.toList false = rF at cF gF eF lF
    rw [len_of_size] at lT lF
    have CT := Lib.hid cT
    have CF := Lib.hid cF
    have GT := Lib.hid gT
    have GF := Lib.hid gF
    have ET := Lib.hid eT
    have EF := Lib.hid eF
    have LT := Lib.hid lT
    have LF := Lib.hid lF
    clear cT cF gT gF eT eF lT lF hbig
    go_enter Tryz.func7, Tryz.ntmps7
    go_wp2_with fail
    refine (CT.out _ hE).mono ?_
    rintro e w1 ⟨u, rfl, hu, hb1⟩
    clear CT
    go_upto_region 4 with fail
    go_cut [33] (fun s33 wx => s33 = .bool false ∧ EnvH wx ∧ Below w.heap.size w wx)
    case first =>
      cases rT with
      | ok t =>
        obtain ⟨g1, g2, g3⟩ := GT.out t rfl
        have hl := LT.out t rfl
        have huz : u.size ≤ 6200 := by rw [← len_of_size, hu.out]; show t.length ≤ _; omega
        have hut : u.data.toList = t := hu.out
        have hpos : 0 < u.size := by rw [← len_of_size, hut]; exact List.length_pos_iff.2 g3
        have he := isEmpty_of_pos hpos
        rw [← hut] at g1 g2
        have c1 := fun W hW => is_any u true u 0 (by omega) (fun h => by cases h) W hW
        have c2 := fun W hW => is_any u false u 0 (by omega) (fun _ _ => cany_all u (by omega)) W hW
        rw [isP_ok g1] at c1
        rw [isP_ok g2] at c2
        have C1 := Lib.hid c1
        have C2 := Lib.hid c2
        have hz : ((resE (.ok t) : Nat) : Int) = 0 := rfl
        rw [hz]
        clear c1 c2 g1 g2 g3 GT LT hut hl hu hz
        have hE1 := hE.below hb1
        go_wp2_with (first | (go_at_call 22; (with_reducible refine (C1.out _ (by assumption)).mono ?_); rintro e w2 ⟨rfl, hb2⟩; have hE2 := EnvH.below (by assumption) hb2) | (go_at_call 22; (with_reducible refine (C2.out _ (by assumption)).mono ?_); rintro e w3 ⟨rfl, hb3⟩; have hE3 := EnvH.below (by assumption) hb3))
        go_meet
        exact ⟨rfl, by assumption, below_call (below_call hb1 hb2) hb3⟩
      | er n =>
        have hn := ET.out n rfl
        have hz : (((resE (.er n) : Nat) : Int) == 0) = false := by apply beq_eq_false_iff_ne.2; show (n : Int) ≠ 0; omega
        go_wp2_with fail
        go_meet
        exact ⟨rfl, hE.below hb1, hb1⟩
    case rest =>
      obtain ⟨rfl, hE2, hbx⟩ := hcut
      have hT : ((resE rT : Nat) : Int) = 0 ∨ (u.toList.isEmpty = true ∧ (((resE rT : Nat) : Int) = 70 ∨ ((resE rT : Nat) : Int) = 71 ∨ ((resE rT : Nat) : Int) = 72)) := by
        cases rT with
        | ok t => exact Or.inl rfl
        | er n =>
          have hn := ET.out n rfl
          refine Or.inr ⟨isEmpty_of_size (by rw [← len_of_size, hu.out]; rfl), ?_⟩
          show (n : Int) = 70 ∨ (n : Int) = 71 ∨ (n : Int) = 72
          omega
      generalize ((resE rT : Nat) : Int) = a at hT ⊢
      have HT := Lib.hid hT
      clear hT GT ET LT hu hb1
      go_wp2_with fail
      refine (CF.out _ hE2).mono ?_
      rintro e w4 ⟨v, rfl, hv, hb4⟩
      have hE4 := hE2.below hb4
      have hb04 := below_call hbx hb4
      clear CF
      go_upto_region 7 with fail
      go_cut [46] (fun s46 wx => s46 = .bool false ∧ EnvH wx ∧ Below w.heap.size w wx)
      case first =>
        cases rF with
        | ok t =>
          have g1 := GF.out t rfl
          have hl := LF.out t rfl
          have hvz : v.size ≤ 6200 := by rw [← len_of_size, hv.out]; show t.length ≤ _; omega
          have hvt : v.data.toList = t := hv.out
          rw [← hvt] at g1
          have c1 := fun W hW => is_any v false v 0 (by omega) (fun _ _ => cany_all v (by omega)) W hW
          rw [isP_ok g1] at c1
          have C1 := Lib.hid c1
          have hz : ((resE (.ok t) : Nat) : Int) = 0 := rfl
          rw [hz]
          clear c1 g1 GF LF hvt hl hv hz
          go_wp2_with fail
          refine (C1.out _ hE4).mono ?_
          rintro e w5 ⟨rfl, hb5⟩
          go_wp2_with fail
          go_meet
          exact ⟨rfl, hE4.below hb5, below_call hb04 hb5⟩
        | er n =>
          have hn := EF.out n rfl
          have hz : (((resE (.er n) : Nat) : Int) == 0) = false := by apply beq_eq_false_iff_ne.2; show (n : Int) ≠ 0; omega
          go_wp2_with fail
          go_meet
          exact ⟨rfl, hE4, hb04⟩
      case rest =>
        obtain ⟨rfl, hE5, hb5⟩ := hcut
        have hF : ((resE rF : Nat) : Int) = 0 ∨ (v.toList.isEmpty = true ∧ (((resE rF : Nat) : Int) = 70 ∨ ((resE rF : Nat) : Int) = 72)) := by
          cases rF with
          | ok t => exact Or.inl rfl
          | er n =>
            have hn := EF.out n rfl
            refine Or.inr ⟨isEmpty_of_size (by rw [← len_of_size, hv.out]; rfl), ?_⟩
            show (n : Int) = 70 ∨ (n : Int) = 72
            omega
        generalize ((resE rF : Nat) : Int) = b at hF ⊢
        have cH := Lib.hid (houses_any _ hE5)
        clear GF EF LF hv hE2 hE4
        rcases HT.out with rfl | ⟨he1, rfl | rfl | rfl⟩ <;> rcases hF with rfl | ⟨he2, rfl | rfl⟩
        all_goals
          go_wp2_with fail
          refine (cH.out).mono ?_
          rintro e w6 ⟨rfl, hb6⟩
          go_wp2
          go_ret
          exact ⟨rfl, below_call hb5 hb6⟩
end Go.Proofs.YtkaejkjheajaaaaGreatDoor
