/-
  lazaretlaw08.UrlsOrigins: it returns true, whatever the text.
  The statement and the card of lazaretlaw08.UrlsOrigins: whatever comes in, the law returns true, and what came in reads as it did.
-/
import Derived.Test.YthijceooebebfaaGreatDoorM34
import Derived.Test.YthijceooebebfaaGreatDoorM32
import Derived.Test.YthijceooebebfaaGreatDoorCards
import Derived.Test.YthijceooebebfaaGreatDoorTie
namespace Go.Proofs.YthijceooebebfaaGreatDoor
open Go.RowKit
attribute [local go_sem ↓] Go.wp_at_zero Go.wp_at_succ
/-- A text that is determined by its bytes. -/
theorem str_det {l : List UInt8} {w : World} {e : Ending} {w' : World} (h : RStr l w e w') : e = .returned (.string ⟨l.toArray⟩) ∧ Below w.heap.size w w' := by
  obtain ⟨u, he, hu, hb⟩ := h
  refine ⟨?_, hb⟩
  have : u = ⟨l.toArray⟩ := by
    have := hu.out
    subst this
    rfl
  rw [he, this]
def nullB : ByteArray := ⟨#[110, 117, 108, 108]⟩
/-- What Origin tells of a URL that is kept. -/
theorem origin_det (C : Array Value) (u : Lz.UrlL) (w : World) (G : ByteArray) (hv : UrlVal w (.agg C) u) (hE : EnvU w) (hO : OrigOk u) (hG : G.data.toList = Lz.originU u) :
    Calls Tryz.prog 22 #[.agg C] w fun e w' => e = .returned (.string G) ∧ Below w.heap.size w w' := by
  refine (Origin_any _ u w hv hE hO).mono ?_
  intro e w' hr
  obtain ⟨he, hb⟩ := str_det hr
  have : G = ⟨(Lz.originU u).toArray⟩ := by rw [← hG]
  rw [this]
  exact ⟨he, hb⟩
theorem url_scheme {w : World} {v1 v2 v3 v5 v6 v7 v8 v9 v10 v11 v12 : Value} {s : ByteArray} {u : Lz.UrlL} (h : UrlVal w (.agg #[.string s, v1, v2, v3, v5, v6, v7, v8, v9, v10, v11, v12]) u) : u.scheme = s.data.toList := by
  obtain ⟨_, _, _, _, _, _, _, _, _, _, _, _, _, _, h1, h2, _⟩ := h.form
  rw [h2]
  simp only [Value.agg.injEq, Array.mk.injEq, List.cons.injEq, Value.string.injEq] at h1
  rw [h1.1]
theorem url_opq {w : World} {v1 v2 v3 v5 v6 v7 v8 v9 v10 v11 v12 : Value} {q : Bool} {u : Lz.UrlL} (h : UrlVal w (.agg #[v1, v2, v3, v5, v6, v7, .bool q, v8, v9, v10, v11, v12]) u) : u.opq = q := by
  obtain ⟨_, _, _, _, _, _, _, _, _, _, _, _, _, _, h1, h2, _⟩ := h.form
  rw [h2]
  simp only [Value.agg.injEq, Array.mk.injEq, List.cons.injEq, Value.bool.injEq] at h1
  obtain ⟨_, _, _, _, _, _, h, _⟩ := h1
  rw [h]
/-- The first text of a path. -/
theorem url_path0 {w : World} {v1 v2 v3 v5 v6 v7 v8 v9 v10 v11 v12 : Value} {a : Option Addr} {n c : Nat} {u : Lz.UrlL} (h : UrlVal w (.agg #[v1, v2, v3, v5, v6, v7, v8, .slice a n c, v9, v10, v11, v12]) u) (hp : u.path ≠ []) :
    0 < n ∧ ∃ G o x, a = some ⟨G, o, none⟩ ∧ G < w.heap.size ∧ w.cell? ⟨G, o, none⟩ = some (.string x) ∧ x.data.toList = u.path.headD [] := by
  obtain ⟨_, _, _, _, _, _, _, a', c', xs, _, _, _, _, h1, h2, hx⟩ := h.form
  simp only [Value.agg.injEq, Array.mk.injEq, List.cons.injEq, Value.slice.injEq] at h1
  obtain ⟨_, _, _, _, _, _, _, ⟨ha, hn, _⟩, _⟩ := h1
  subst h2
  cases xs with
  | nil => exact absurd rfl hp
  | cons x r =>
    obtain ⟨G, o, h3, h4, h5⟩ := hx 0 x rfl
    refine ⟨by rw [hn]; simp, G, o, x, by rw [ha, h3], h4, h5, rfl⟩
set_option maxHeartbeats 8000000 in
set_option maxRecDepth 100000 in
theorem urlsOrigins_any (s : ByteArray) (w : World) (hE : EnvU w) : Calls Tryz.prog 9 #[.string s] w (RBool true w) := by
  by_cases hbig : 300 < s.size
  · have hbg : (300 : Int) < (s.size : Int) := by omega
    have cH := Lib.hid (places_any w hE)
    clear hbig
    go_enter Tryz.func9, Tryz.ntmps9
    go_wp2_with fail
    refine cH.out.mono ?_
    rintro e w1 ⟨rfl, hb⟩
    go_wp2_with fail
    go_ret
    exact ⟨rfl, hb⟩
  · have hbg : ¬ (300 : Int) < (s.size : Int) := by omega
    have hcat : ¬ (9223372036854775807 < 5 + s.size) := by omega
    obtain ⟨R1, hR1⟩ : ∃ R, R = Lz.parseU s.data.toList none := ⟨_, rfl⟩
    have cP1 := Lib.hid (parse_any0 s w hE)
    rw [← hR1] at cP1
    have hb00 := Below.refl w.heap.size w
    have HE := Lib.hid hE
    have HR1 := Lib.hid hR1
    clear hbig hE hR1
    go_enter Tryz.func9, Tryz.ntmps9
    go_wp2_with fail
    refine cP1.out.mono ?_
    intro e w1 hr
    obtain ⟨v1, z1, u, rfl, hb1, hox, hk⟩ := hr.open
    obtain ⟨sc1, us1, pa1, hh1, hs1, pr1, op1, a1, n1, c1, hq1, hf1, qr1, fr1, rfl⟩ := hox.form
    have hP := PU.new (HE.out.below hb1) hb1 hox
    clear hox cP1 hr HE
    go_upto_region 4 with fail
    generalize w1.alloc (.cells #[.string sc1, .string us1, .string pa1, .bool hh1, .string hs1, .int .i64 pr1, .bool op1, .slice a1 n1 c1, .bool hq1, .bool hf1, .string qr1, .string fr1] 27) = V at hP ⊢
    generalize w1.heap.size = r1 at hP ⊢
    have HP := Lib.hid hP
    obtain ⟨R2, hR2⟩ : ∃ R, R = Lz.parseU (Lz.blobS ++ 58 :: s.data.toList) none := ⟨_, rfl⟩
    have cP2 := Lib.hid (parse_any0 ((⟨#[98, 108, 111, 98, 58]⟩ : ByteArray) ++ s) V hP.env)
    rw [show ((⟨#[98, 108, 111, 98, 58]⟩ : ByteArray) ++ s).data.toList = Lz.blobS ++ 58 :: s.data.toList by rw [append_data']; rfl, ← hR2] at cP2
    have HR2 := Lib.hid hR2
    clear hP hR2
    go_wp2_with fail
    refine cP2.out.mono ?_
    intro e w2 hr
    obtain ⟨v2, z2, u2, rfl, hb2, hox, hk2⟩ := hr.open
    obtain ⟨sc2, us2, pa2, hh2, hs2, pr2, op2, a2, n2, c2, hq2, hf2, qr2, fr2, rfl⟩ := hox.form
    have hP2 := (HP.out.call hb2).alloc (.cells #[.string sc2, .string us2, .string pa2, .bool hh2, .string hs2, .int .i64 pr2, .bool op2, .slice a2 n2 c2, .bool hq2, .bool hf2, .string qr2, .string fr2] 27)
    have hQ2 := PU.new (w := w) (HP.out.env.below hb2) (below_call HP.out.below hb2) hox
    clear hox cP2 hr HP hb2
    go_upto_region 5 with fail
    generalize w2.alloc (.cells #[.string sc2, .string us2, .string pa2, .bool hh2, .string hs2, .int .i64 pr2, .bool op2, .slice a2 n2 c2, .bool hq2, .bool hf2, .string qr2, .string fr2] 27) = V2 at hP2 hQ2 ⊢
    generalize w2.heap.size = r2 at hQ2 ⊢
    have HP2 := Lib.hid hP2
    have HQ2 := Lib.hid hQ2
    clear hP2 hQ2
    go_cut [41] (fun t wx => t = .bool false ∧ PU r2 #[.string sc2, .string us2, .string pa2, .bool hh2, .string hs2, .int .i64 pr2, .bool op2, .slice a2 n2 c2, .bool hq2, .bool hf2, .string qr2, .string fr2] u2 w wx)
    case first =>
      rcases hk with ⟨hR, hk0⟩ | ⟨m, hR, _, hk0⟩
      case inr =>
        have hm := Lz.parse_err (HR1.out.symm.trans hR)
        have hkb : (z1 == 0) = false := by rw [hk0]; simp; omega
        clear hm hk0 hR
        go_wp2_with fail
        go_meet
        exact ⟨rfl, HQ2.out⟩
      case inl =>
        have hkb : (z1 == 0) = true := by rw [hk0]; rfl
        have c0 := rowAt HP2.out.row 0 (.string sc1) rfl
        have hsc := url_scheme HP2.out.own.val
        have cS := Lib.hid (Special_any sc1 V2)
        obtain ⟨q, hq⟩ : ∃ q, q = Lz.specP sc1.data.toList := ⟨_, rfl⟩
        rw [← hq] at cS
        cases q with
        | true =>
          clear hq hsc hR hk0
          go_wp2_with fail
          refine cS.out.mono ?_
          rintro e w3 ⟨rfl, rfl⟩
          go_wp2_with fail
          go_meet
          exact ⟨rfl, HQ2.out⟩
        | false =>
          by_cases hb : sc1.data.toList = Lz.blobS
          · have e0 := text_yes (k := [98, 108, 111, 98]) hb
            have e1 : (sc1.toList != [98, 108, 111, 98]) = false := by simp [bne, e0]
            clear hq hsc hR hk0 hb
            go_wp2_with fail
            refine cS.out.mono ?_
            rintro e w3 ⟨rfl, rfl⟩
            go_wp2_with fail
            go_meet
            exact ⟨rfl, HQ2.out⟩
          · have e0 := text_no (k := [98, 108, 111, 98]) hb
            have e1 : (sc1.toList != [98, 108, 111, 98]) = true := by simp [bne, e0]
            have hO := origOk_parse (HR1.out.symm.trans hR) (fun y h => by cases h)
            have cO := Lib.hid (origin_det _ u V2 nullB HP2.out.own.val HP2.out.env hO (by rw [Lz.origin_plain (by rw [hsc]; exact hq.symm) (by rw [hsc]; exact hb)]; rfl))
            have en : (nullB.toList == [110, 117, 108, 108]) = true := by decide +kernel
            have en2 : (nullB.toList != [110, 117, 108, 108]) = false := by decide +kernel
            clear hq hsc hR hk0 hb hO
            go_wp2_with (first | (refine load_url_g rfl _ rfl r1 rfl _ HP2.out.row rfl ?_) | (go_at_call 13; refine cS.out.mono ?_; rintro e w3 ⟨rfl, rfl⟩) | (go_at_call 22; refine cO.out.mono ?_; rintro e w3 ⟨rfl, hb3⟩))
            go_meet
            exact ⟨rfl, HQ2.out.call hb3⟩
    case rest =>
      obtain ⟨rfl, hQ3⟩ := hcut
      have HQ3 := Lib.hid hQ3
      clear HQ2 HP2 HR1 hk
      have c6 := rowAt hQ3.row 6 (.bool op2) rfl
      have hop := url_opq hQ3.own.val
      rcases hk2 with ⟨hR, hk0⟩ | ⟨m, hR, _, hk0⟩
      case inr =>
        have hm := Lz.parse_err (HR2.out.symm.trans hR)
        have hkb : (z2 != 0) = true := by rw [hk0]; simp; omega
        have cH := Lib.hid (places_any wc hQ3.env)
        clear hm hk0 hR hop hQ3
        go_wp2_with fail
        refine cH.out.mono ?_
        rintro e w4 ⟨rfl, hb4⟩
        go_wp2_with fail
        go_ret
        exact ⟨rfl, below_call HQ3.out.below hb4⟩
      case inl =>
        have hkb : (z2 != 0) = false := by rw [hk0]; rfl
        have hpe := HR2.out.symm.trans hR
        have hO := origOk_parse hpe (fun y h => by cases h)
        have en : (nullB.toList == [110, 117, 108, 108]) = true := by decide +kernel
        cases op2 with
        | false =>
          have cO := Lib.hid (origin_det _ u2 wc nullB hQ3.own.val hQ3.env hO (by rw [Lz.origins_none hpe hop]; rfl))
          clear hk0 hR hop hQ3 hpe hO
          go_wp2_with (first | (refine load_url_g rfl _ rfl r2 rfl _ HQ3.out.row rfl ?_))
          refine cO.out.mono ?_
          rintro e w4 ⟨rfl, hb4⟩
          have hQ4 := HQ3.out.call hb4
          have cH := Lib.hid (places_any w4 hQ4.env)
          have hb04 := hQ4.below
          clear hQ4
          go_wp2_with fail
          refine cH.out.mono ?_
          rintro e w5 ⟨rfl, hb5⟩
          go_wp2_with fail
          go_ret
          exact ⟨rfl, below_call hb04 hb5⟩
        | true =>
          obtain ⟨hpn, hoe⟩ := Lz.origins_path hpe hop
          obtain ⟨hn0, G, o, x, ha, hG, hc0, hx0⟩ := url_path0 hQ3.own.val hpn
          subst ha
          have c7 := rowAt hQ3.row 7 (.slice (some ⟨G, o, none⟩) n2 c2) rfl
          rw [← hx0] at hoe
          obtain ⟨R3, hR3⟩ : ∃ R, R = Lz.parseU x.data.toList none := ⟨_, rfl⟩
          rw [← hR3] at hoe
          have cP3 := Lib.hid (parse_any0 x wc hQ3.env)
          rw [← hR3] at cP3
          have HR3 := Lib.hid hR3
          have HOE := Lib.hid hoe
          have HO := Lib.hid hO
          clear hk0 hR hop hQ3 hpe hO hpn hoe hx0 hR3
          go_wp2_with fail
          refine cP3.out.mono ?_
          intro e w4 hr
          obtain ⟨v4, z4, u4, rfl, hb4, hox, hk4⟩ := hr.open
          obtain ⟨sc3, us3, pa3, hh3, hs3, pr3, op3, a3, n3, c3, hq3, hf3, qr3, fr3, rfl⟩ := hox.form
          have hP4 := (HQ3.out.call hb4).alloc (.cells #[.string sc3, .string us3, .string pa3, .bool hh3, .string hs3, .int .i64 pr3, .bool op3, .slice a3 n3 c3, .bool hq3, .bool hf3, .string qr3, .string fr3] 27)
          have hQ4 := PU.new (w := w) (HQ3.out.env.below hb4) (below_call HQ3.out.below hb4) hox
          clear hox cP3 hr HQ3 hb4 c6 c7 hc0
          go_upto_region 10 with fail
          generalize w4.alloc (.cells #[.string sc3, .string us3, .string pa3, .bool hh3, .string hs3, .int .i64 pr3, .bool op3, .slice a3 n3 c3, .bool hq3, .bool hf3, .string qr3, .string fr3] 27) = V4 at hP4 hQ4 ⊢
          generalize w4.heap.size = r4 at hQ4 ⊢
          have k0 := rowAt hQ4.row 0 (.string sc3) rfl
          have hsc := url_scheme hQ4.own.val
          have HP4 := Lib.hid hP4
          have HQ4 := Lib.hid hQ4
          clear hP4 hQ4
          obtain ⟨q, hq⟩ : ∃ q, q = decide (z4 = 0 ∧ (sc3.data.toList = Lz.httpS ∨ sc3.data.toList = Lz.httpsS)) := ⟨_, rfl⟩
          go_cut [78] (fun t wx => t = .bool q ∧ V4 = wx)
          case first =>
            by_cases hn4 : z4 = 0
            · have e4 : (z4 == 0) = true := by rw [hn4]; rfl
              by_cases h1 : sc3.data.toList = Lz.httpS
              · have q1 := text_yes (k := [104, 116, 116, 112]) h1
                have HQ : Hid (q = true) := Lib.hid (by rw [hq]; simp [hn4, h1])
                clear hq h1 hn4 hk4 hsc
                go_wp2_with fail
                go_meet
                exact ⟨by rw [HQ.out], rfl⟩
              · have q1 := text_no (k := [104, 116, 116, 112]) h1
                by_cases h2 : sc3.data.toList = Lz.httpsS
                · have q2 := text_yes (k := [104, 116, 116, 112, 115]) h2
                  have HQ : Hid (q = true) := Lib.hid (by rw [hq]; simp [hn4, h2])
                  clear hq h1 h2 hn4 hk4 hsc
                  go_wp2_with fail
                  go_meet
                  exact ⟨by rw [HQ.out], rfl⟩
                · have q2 := text_no (k := [104, 116, 116, 112, 115]) h2
                  have HQ : Hid (q = false) := Lib.hid (by rw [hq]; simp [h1, h2])
                  clear hq h1 h2 hn4 hk4 hsc
                  go_wp2_with fail
                  go_meet
                  exact ⟨by rw [HQ.out], rfl⟩
            · have e4 : (z4 == 0) = false := beq_eq_false_iff_ne.2 hn4
              have HQ : Hid (q = false) := Lib.hid (by rw [hq]; simp [hn4])
              clear hq hn4 hk4 hsc
              go_wp2_with fail
              go_meet
              exact ⟨by rw [HQ.out], rfl⟩
          case rest =>
            obtain ⟨rfl, rfl⟩ := hcut
            cases q with
            | false =>
              have hq2 := of_decide_eq_false hq.symm
              have hnull : Lz.originU u2 = nullB.data.toList := by
                rw [HOE.out]
                rcases hk4 with ⟨hR, hk0⟩ | ⟨m, hR, _, hk0⟩
                · rw [hR]
                  simp only
                  rw [if_neg]
                  · rfl
                  · rw [hsc]; exact fun h => hq2 ⟨hk0, h⟩
                · rw [hR]; rfl
              have cO := Lib.hid (origin_det _ u2 V4 nullB HP4.out.own.val HP4.out.env HO.out hnull.symm)
              clear hq hq2 hk4 hsc hnull
              go_wp2_with (first | (refine load_url_g rfl _ rfl r2 rfl _ HP4.out.row rfl ?_))
              refine cO.out.mono ?_
              rintro e w5 ⟨rfl, hb5⟩
              have hQ5 := HP4.out.call hb5
              have cH := Lib.hid (places_any w5 hQ5.env)
              have hb05 := hQ5.below
              clear hQ5
              go_wp2_with fail
              refine cH.out.mono ?_
              rintro e w6 ⟨rfl, hb6⟩
              go_wp2_with fail
              go_ret
              exact ⟨rfl, below_call hb05 hb6⟩
            | true =>
              have hqb := of_decide_eq_true hq.symm
              obtain ⟨G3, hG3⟩ : ∃ G3 : ByteArray, G3.data.toList = Lz.originU u4 := ⟨⟨(Lz.originU u4).toArray⟩, rfl⟩
              have hpe4 : Lz.parseU x.data.toList none = .ok u4 := by
                rw [← HR3.out]
                rcases hk4 with ⟨hR, hk0⟩ | ⟨m, hR, _, hk0⟩
                · exact hR
                · have := Lz.parse_err (HR3.out.symm.trans hR)
                  rw [hk0] at hqb
                  omega
              have hO4 := origOk_parse hpe4 (fun y h => by cases h)
              have hsame : Lz.originU u2 = Lz.originU u4 := by
                rw [HOE.out, HR3.out, hpe4]
                simp only
                rw [if_pos (by rw [hsc]; exact hqb.2)]
              have cO : Hid (∀ V, PU r2 #[.string sc2, .string us2, .string pa2, .bool hh2, .string hs2, .int .i64 pr2, .bool true, .slice (some ⟨G, o, none⟩) n2 c2, .bool hq2, .bool hf2, .string qr2, .string fr2] u2 w V ∧ PU r4 #[.string sc3, .string us3, .string pa3, .bool hh3, .string hs3, .int .i64 pr3, .bool op3, .slice a3 n3 c3, .bool hq3, .bool hf3, .string qr3, .string fr3] u4 w V → Calls Tryz.prog 22 #[.agg #[.string sc2, .string us2, .string pa2, .bool hh2, .string hs2, .int .i64 pr2, .bool true, .slice (some ⟨G, o, none⟩) n2 c2, .bool hq2, .bool hf2, .string qr2, .string fr2]] V fun e w' => e = .returned (.string G3) ∧ (PU r2 #[.string sc2, .string us2, .string pa2, .bool hh2, .string hs2, .int .i64 pr2, .bool true, .slice (some ⟨G, o, none⟩) n2 c2, .bool hq2, .bool hf2, .string qr2, .string fr2] u2 w w' ∧ PU r4 #[.string sc3, .string us3, .string pa3, .bool hh3, .string hs3, .int .i64 pr3, .bool op3, .slice a3 n3 c3, .bool hq3, .bool hf3, .string qr3, .string fr3] u4 w w')) := Lib.hid (fun V hV => (origin_det _ u2 V G3 hV.1.own.val hV.1.env HO.out (by rw [hG3, hsame])).mono fun e w' ⟨h1, h2⟩ => ⟨h1, hV.1.call h2, hV.2.call h2⟩)
              have cO4 : Hid (∀ V, PU r2 #[.string sc2, .string us2, .string pa2, .bool hh2, .string hs2, .int .i64 pr2, .bool true, .slice (some ⟨G, o, none⟩) n2 c2, .bool hq2, .bool hf2, .string qr2, .string fr2] u2 w V ∧ PU r4 #[.string sc3, .string us3, .string pa3, .bool hh3, .string hs3, .int .i64 pr3, .bool op3, .slice a3 n3 c3, .bool hq3, .bool hf3, .string qr3, .string fr3] u4 w V → Calls Tryz.prog 22 #[.agg #[.string sc3, .string us3, .string pa3, .bool hh3, .string hs3, .int .i64 pr3, .bool op3, .slice a3 n3 c3, .bool hq3, .bool hf3, .string qr3, .string fr3]] V fun e w' => e = .returned (.string G3) ∧ (PU r2 #[.string sc2, .string us2, .string pa2, .bool hh2, .string hs2, .int .i64 pr2, .bool true, .slice (some ⟨G, o, none⟩) n2 c2, .bool hq2, .bool hf2, .string qr2, .string fr2] u2 w w' ∧ PU r4 #[.string sc3, .string us3, .string pa3, .bool hh3, .string hs3, .int .i64 pr3, .bool op3, .slice a3 n3 c3, .bool hq3, .bool hf3, .string qr3, .string fr3] u4 w w')) := Lib.hid (fun V hV => (origin_det _ u4 V G3 hV.2.own.val hV.2.env hO4 hG3).mono fun e w' ⟨h1, h2⟩ => ⟨h1, hV.1.call h2, hV.2.call h2⟩)
              have cH : Hid (∀ V, PU r2 #[.string sc2, .string us2, .string pa2, .bool hh2, .string hs2, .int .i64 pr2, .bool true, .slice (some ⟨G, o, none⟩) n2 c2, .bool hq2, .bool hf2, .string qr2, .string fr2] u2 w V ∧ PU r4 #[.string sc3, .string us3, .string pa3, .bool hh3, .string hs3, .int .i64 pr3, .bool op3, .slice a3 n3 c3, .bool hq3, .bool hf3, .string qr3, .string fr3] u4 w V → Calls Tryz.prog 12 #[] V fun e w' => e = .returned (.bool true) ∧ (PU r2 #[.string sc2, .string us2, .string pa2, .bool hh2, .string hs2, .int .i64 pr2, .bool true, .slice (some ⟨G, o, none⟩) n2 c2, .bool hq2, .bool hf2, .string qr2, .string fr2] u2 w w' ∧ PU r4 #[.string sc3, .string us3, .string pa3, .bool hh3, .string hs3, .int .i64 pr3, .bool op3, .slice a3 n3 c3, .bool hq3, .bool hf3, .string qr3, .string fr3] u4 w w')) := Lib.hid (fun V hV => (places_any V hV.1.env).mono fun e w' ⟨h1, h2⟩ => ⟨h1, hV.1.call h2, hV.2.call h2⟩)
              have hK : PU r2 #[.string sc2, .string us2, .string pa2, .bool hh2, .string hs2, .int .i64 pr2, .bool true, .slice (some ⟨G, o, none⟩) n2 c2, .bool hq2, .bool hf2, .string qr2, .string fr2] u2 w V4 ∧ PU r4 #[.string sc3, .string us3, .string pa3, .bool hh3, .string hs3, .int .i64 pr3, .bool op3, .slice a3 n3 c3, .bool hq3, .bool hf3, .string qr3, .string fr3] u4 w V4 := ⟨HP4.out, HQ4.out⟩
              have hKd : PU r2 #[.string sc2, .string us2, .string pa2, .bool hh2, .string hs2, .int .i64 pr2, .bool true, .slice (some ⟨G, o, none⟩) n2 c2, .bool hq2, .bool hf2, .string qr2, .string fr2] u2 w V4.drew ∧ PU r4 #[.string sc3, .string us3, .string pa3, .bool hh3, .string hs3, .int .i64 pr3, .bool op3, .slice a3 n3 c3, .bool hq3, .bool hf3, .string qr3, .string fr3] u4 w V4.drew := ⟨HP4.out.drew, HQ4.out.drew⟩
              have egg : (G3.toList == G3.toList) = true := by simp
              clear hq hqb hk4 hsc hpe4 hO4 hsame hG3
              go_upto_region 11 with fail
              go_region_held3 (fun V => ((V.cell? ⟨r2, 0, none⟩ = some (.string sc2) ∧ V.cell? ⟨r2, 1, none⟩ = some (.string us2) ∧ V.cell? ⟨r2, 2, none⟩ = some (.string pa2) ∧ V.cell? ⟨r2, 3, none⟩ = some (.bool hh2) ∧ V.cell? ⟨r2, 4, none⟩ = some (.string hs2) ∧ V.cell? ⟨r2, 5, none⟩ = some (.int .i64 pr2) ∧ V.cell? ⟨r2, 6, none⟩ = some (.bool true) ∧ V.cell? ⟨r2, 7, none⟩ = some (.slice (some ⟨G, o, none⟩) n2 c2) ∧ V.cell? ⟨r2, 8, none⟩ = some (.bool hq2) ∧ V.cell? ⟨r2, 9, none⟩ = some (.bool hf2) ∧ V.cell? ⟨r2, 10, none⟩ = some (.string qr2) ∧ V.cell? ⟨r2, 11, none⟩ = some (.string fr2)) ∧ (V.cell? ⟨r4, 0, none⟩ = some (.string sc3) ∧ V.cell? ⟨r4, 1, none⟩ = some (.string us3) ∧ V.cell? ⟨r4, 2, none⟩ = some (.string pa3) ∧ V.cell? ⟨r4, 3, none⟩ = some (.bool hh3) ∧ V.cell? ⟨r4, 4, none⟩ = some (.string hs3) ∧ V.cell? ⟨r4, 5, none⟩ = some (.int .i64 pr3) ∧ V.cell? ⟨r4, 6, none⟩ = some (.bool op3) ∧ V.cell? ⟨r4, 7, none⟩ = some (.slice a3 n3 c3) ∧ V.cell? ⟨r4, 8, none⟩ = some (.bool hq3) ∧ V.cell? ⟨r4, 9, none⟩ = some (.bool hf3) ∧ V.cell? ⟨r4, 10, none⟩ = some (.string qr3) ∧ V.cell? ⟨r4, 11, none⟩ = some (.string fr3))) ∧ (PU r2 #[.string sc2, .string us2, .string pa2, .bool hh2, .string hs2, .int .i64 pr2, .bool true, .slice (some ⟨G, o, none⟩) n2 c2, .bool hq2, .bool hf2, .string qr2, .string fr2] u2 w V ∧ PU r4 #[.string sc3, .string us3, .string pa3, .bool hh3, .string hs3, .int .i64 pr3, .bool op3, .slice a3 n3 c3, .bool hq3, .bool hf3, .string qr3, .string fr3] u4 w V)) (first | exact ⟨⟨row12 (PU.row (And.left (by assumption))), row12 (PU.row (And.right (by assumption)))⟩, by assumption⟩ | assumption) (first | (go_at_call_of 22 (Value.agg #[.string sc2, .string us2, .string pa2, .bool hh2, .string hs2, .int .i64 pr2, .bool true, .slice (some ⟨G, o, none⟩) n2 c2, .bool hq2, .bool hf2, .string qr2, .string fr2]); refine (cO.out _ (by assumption)).mono ?_; rintro e w5 ⟨rfl, hK5⟩) | (go_at_call_of 22 (Value.agg #[.string sc3, .string us3, .string pa3, .bool hh3, .string hs3, .int .i64 pr3, .bool op3, .slice a3 n3 c3, .bool hq3, .bool hf3, .string qr3, .string fr3]); refine (cO4.out _ (by assumption)).mono ?_; rintro e w5 ⟨rfl, hK5⟩) | (go_at_call 12; refine (cH.out _ (by assumption)).mono ?_; rintro e w5 ⟨rfl, hK5⟩))
              go_wp2_with fail
              go_ret
              exact ⟨rfl, hK5.1.below⟩
end Go.Proofs.YthijceooebebfaaGreatDoor

namespace Go.Proofs.YthijceooebebfaaGreatDoor.urlsOrigins
open Go.ChangeShapes Go.WideShapes Go.ChangeAt Go.RowKit Go.Proofs.YthijceooebebfaaGreatDoor

theorem walk (s0 : ByteArray) (w : World) (hE : EnvU w) : Calls Tryz.prog 9 #[.string s0] w (RBool true w) := urlsOrigins_any s0 w hE

theorem env {W : World} (h : laidMetH Tryz.prog Rows.urlsSchemesRow.laid W) (hsh : W.ShapedOpen Tryz.prog) : EnvU W := envU_row h hsh

set_option maxRecDepth 100000 in
/-- WHAT THE WALK GIVES, FOR EVERY ARGUMENT AND EVERY WORLD THAT HOLDS WHAT THE ROW LISTS. -/
theorem contract (H : Type) (enc : TypeId × Value → H) (W : World) (base : Nat) (args : Array Value) (ds gs : List (DataW H)) (before : List MemPlace)
    (hval : ∀ (j : Nat) t v, Tryz.f9.params[j]? = some t → args[j]? = some v → Value.okWide Tryz.prog W .any base t v)
    (hW : DataW.Whole enc Tryz.prog Tryz.f9.params.toList Rows.urlsOriginsSpec.vars false W args.toList ds gs before) (hL : laidMetH Tryz.prog Rows.urlsOriginsRow.laid W) (hsh : W.ShapedOpen Tryz.prog) :
    Calls Tryz.prog 9 args W fun e W' => ∃ v, e = .returned v ∧ Rows.urlsOriginsSpec.post enc Tryz.prog Tryz.f9 false true false false W args v W' := by
  have hW' := hW
  obtain ⟨p, q, hA0, hV, rfl, hfz, hnd⟩ := hW
  have hA : DataW.TrodAll enc Tryz.prog W 0 (fun _ => true) true Tryz.f9.params.toList args.toList ds p := hA0
  rw [Tryz.params9] at hA hval
  have hAk := hA
  have hlt : ∀ x ∈ p, x.block < W.heap.size := fun x hx => hW'.lt x (List.mem_append_left _ hx)
  obtain ⟨v0, d0, rfl, rfl, h0⟩ := trodAll_one hA
  obtain ⟨rfl, rfl⟩ := trodVars_none hV
  obtain ⟨s0, rfl, rfl, rfl, hs0⟩ := Go.ChangeMaps.open_string Tryz.underlying9 (hval 0 9 v0 rfl rfl) h0
  clear hA0
  refine (walk s0 W (env hL hsh)).mono fun e W' hr => ?_
  obtain ⟨he, hb⟩ : e = .returned (.bool true) ∧ Below W.heap.size W W' := hr
  subst he
  refine ⟨_, rfl, _, _, _, [], [], [], hW', ?_, ?_, ?_, hb.frame _, ?_⟩
  · exact trodAll_mk1 (shut_bool Tryz.underlying4 true)
  · exact trodAll_below hb (by decide +kernel) hAk hlt
  · rfl
  · exact fun h => by cases h

theorem met (os : Os) (args : Array Value) : laidMetH Tryz.prog Rows.urlsOriginsRow.laid ((startU os).forCall (fun _ _ => 0) ⟨#[], args, []⟩).memory := metU os args
theorem reads (os : Os) {H : Type} (enc : TypeId × Value → H) : ∃ places, DataW.whole enc Tryz.prog ((startU os).forCall (fun _ _ => 0) ⟨#[], #[.string ⟨#[]⟩], []⟩).memory Tryz.f9.params.toList Rows.urlsOriginsSpec.vars false #[Value.string ⟨#[]⟩].toList 8 = some ([.lit (.string [])], [], places) :=
  ⟨[], by kernel_rfl⟩

set_option maxRecDepth 100000 in
theorem lifted (os : Os) (started : os.Started) (H : Type) (enc : TypeId × Value → H) (F : Stop.Interp) :
    ReturnsInHanded {} Tryz.checked os 9 .any ((OpenSpec.ofChange Rows.urlsOriginsSpec).preRow enc Tryz.prog Tryz.f9 Rows.urlsOriginsRow.domain false Rows.urlsOriginsRow.laid) (((OpenSpec.ofChange Rows.urlsOriginsSpec).at F).post enc Tryz.prog Tryz.f9 false true false false) := by
  obtain ⟨places, hx⟩ := reads os enc
  refine returnsInHanded_of_row (C := Tryz.checked) (s := OpenSpec.ofChange Rows.urlsOriginsSpec) ownU started (by kernel_rfl) Tryz.func9
    (witness_row_atRef (enc := enc) (C := Tryz.checked) false (startU os) #[.string ⟨#[]⟩] rfl (by kernel_rfl) (by kernel_rfl) (by kernel_rfl)
      (OpenSpec.preRow_of_cond 8 hx (by kernel_rfl) (fun k hk => by cases hk) (by kernel_rfl) (met os _))) ?_
  intro W base args ds gs before hval hW _ _ _ hL hsh _
  exact contract H enc W base args ds gs before hval hW hL hsh

theorem c1 : Rows.urlsOriginsRow.wf (OpenSpec.ofChange Rows.urlsOriginsSpec) = true := by kernel_rfl
theorem c2 : namedTie Tryz.prog Rows.urlsOriginsRow.named Rows.urlsOriginsSpec.vars = true := by kernel_rfl
theorem c3 : (Rows.urlsOriginsRow.inPlace == Tryz.prog.inPlace 9) = true := by kernel_rfl
theorem c4 : (Rows.urlsOriginsRow.unfollowed == Tryz.prog.unfollowed 9) = true := by kernel_rfl
theorem c5 : (Rows.urlsOriginsRow.recurses == Tryz.prog.recurses 9) = true := by kernel_rfl
theorem c6 : (Rows.urlsOriginsRow.named == Tryz.prog.varsNamed 9) = true := by kernel_rfl
theorem c7 : (Rows.urlsOriginsRow.lifted == Tryz.prog.liftsFinal) = true := liftU
theorem c8 : (Tryz.prog.make == some Rows.urlsOriginsRow.make) = true := makeU
theorem c9 : (Rows.urlsOriginsRow.plainKeys == Tryz.prog.plainKeys) = true := keysU
theorem closed : joinedFacts Tryz.prog 9 Tryz.f9 Rows.urlsOriginsSpec Rows.urlsOriginsRow = true := by
  unfold joinedFacts
  repeat' (with_reducible refine andI ?_ ?_)
  all_goals first
    | with_reducible exact c1 | with_reducible exact laidOut | with_reducible exact mapsU | with_reducible exact c2 | with_reducible exact c3 | with_reducible exact c4 | with_reducible exact c5 | with_reducible exact c6
    | with_reducible exact c9 | with_reducible exact heardU | with_reducible exact mayU | with_reducible exact c7 | with_reducible exact c8
    | kernel_rfl
set_option maxRecDepth 100000 in
theorem said : Rows.UrlsOriginsSaid :=
  OpenClaim.holds_of_cond 9 Tryz.f9 rfl rfl rfl rfl rfl rfl rfl ⟨rfl, rfl, rfl, rfl, rfl⟩ rfl rfl rfl rfl rfl (by kernel_rfl) Tryz.func9 closed
    (of_decide_eq_true (by kernel_rfl)) (by unfold Func.isWrapper; first | (rw [if_pos (by decide +kernel)]; kernel_rfl) | (rw [if_neg (by decide +kernel)]; exact ⟨rfl, rfl⟩))
    (fun os started H enc _ F => by rw [OpenClaim.pre_eq_preRow]; exact lifted os started H enc F)

theorem plain (f : FuncId) (fn : Func) (hf : Tryz.pinned.checked.prog.funcNamed "lazaret/lazaretlaw08.UrlsOrigins" = some f) (hfn : Tryz.pinned.checked.prog.funcs[f]? = some fn) :
    true = Tryz.pinned.checked.prog.looks [] ∧ ∀ (j : Nat) t, fn.params[j]? = some t → Tryz.pinned.checked.prog.wantsStandIn t = false := by
  obtain rfl : f = 9 := Option.some.inj ((show Tryz.prog.funcNamed "lazaret/lazaretlaw08.UrlsOrigins" = some 9 by kernel_rfl).symm.trans hf) |>.symm
  obtain rfl : fn = Tryz.f9 := (Option.some.inj (Tryz.func9.symm.trans hfn)).symm
  refine ⟨by kernel_rfl, fun j t ht => ?_⟩
  rw [Tryz.params9] at ht
  have hall : ∀ t ∈ (#[9] : Array TypeId), Tryz.prog.wantsStandIn t = false := by decide +kernel
  exact hall t (Array.mem_of_getElem? ht)

theorem card : Rows.UrlsOriginsCardSaid :=
  Claim7.holds_tied_plain_at .later [] _ _ _ _ said (fun _ h => by cases h) (by kernel_rfl) (fun _ h => by cases h) urlsOrigins_row_tie rfl ⟨rfl, rfl⟩ (by kernel_rfl) rfl plain (by kernel_rfl)
end Go.Proofs.YthijceooebebfaaGreatDoor.urlsOrigins
