/-
  lazaretlaw08.UrlsOrigins: it returns true, whatever the text.
  lazaretlaw08.UrlsPorts: it returns true, whatever the scheme and the port.
  The statement and the card of lazaretlaw08.UrlsPorts: whatever comes in, the law returns true, and what came in reads as it did.
-/
import Derived.Test.YthijceooebebfaaGreatDoorM34
import Derived.Test.YthijceooebebfaaGreatDoorM32
import Derived.Test.YthijceooebebfaaGreatDoorM15
import Derived.Deep.DeepWitnessRowRef
import Derived.Test.YthijceooebebfaaGreatDoorCards
import Derived.Test.YthijceooebebfaaGreatDoorTie
namespace Go.Proofs.YthijceooebebfaaGreatDoor
open Go.RowKit
attribute [local go_sem ↓] Go.wp_at_zero Go.wp_at_succ
/-- A text that is determined by its bytes. -/
theorem str_det {l : List UInt8} {w : World} {e : Ending} {w' : World} (h : RStr l w e w') : e = .returned (.string ⟨l.toArray⟩) ∧ Below w.heap.size w w' := by
  obtain ⟨u, he, hu, hb⟩ := h
  refine ⟨?_, hb⟩
  have : u = ⟨l.toArray⟩ := by
    have := hu.out
    subst this
    rfl
  rw [he, this]
def nullB : ByteArray := ⟨#[110, 117, 108, 108]⟩
/-- What Origin tells of a URL that is kept. -/
theorem origin_det (C : Array Value) (u : Lz.UrlL) (w : World) (G : ByteArray) (hv : UrlVal w (.agg C) u) (hE : EnvU w) (hO : OrigOk u) (hG : G.data.toList = Lz.originU u) :
    Calls Tryz.prog 22 #[.agg C] w fun e w' => e = .returned (.string G) ∧ Below w.heap.size w w' := by
  refine (Origin_any _ u w hv hE hO).mono ?_
  intro e w' hr
  obtain ⟨he, hb⟩ := str_det hr
  have : G = ⟨(Lz.originU u).toArray⟩ := by rw [← hG]
  rw [this]
  exact ⟨he, hb⟩
theorem url_scheme {w : World} {v1 v2 v3 v5 v6 v7 v8 v9 v10 v11 v12 : Value} {s : ByteArray} {u : Lz.UrlL} (h : UrlVal w (.agg #[.string s, v1, v2, v3, v5, v6, v7, v8, v9, v10, v11, v12]) u) : u.scheme = s.data.toList := by
  obtain ⟨_, _, _, _, _, _, _, _, _, _, _, _, _, _, h1, h2, _⟩ := h.form
  rw [h2]
  simp only [Value.agg.injEq, Array.mk.injEq, List.cons.injEq, Value.string.injEq] at h1
  rw [h1.1]
theorem url_opq {w : World} {v1 v2 v3 v5 v6 v7 v8 v9 v10 v11 v12 : Value} {q : Bool} {u : Lz.UrlL} (h : UrlVal w (.agg #[v1, v2, v3, v5, v6, v7, .bool q, v8, v9, v10, v11, v12]) u) : u.opq = q := by
  obtain ⟨_, _, _, _, _, _, _, _, _, _, _, _, _, _, h1, h2, _⟩ := h.form
  rw [h2]
  simp only [Value.agg.injEq, Array.mk.injEq, List.cons.injEq, Value.bool.injEq] at h1
  obtain ⟨_, _, _, _, _, _, h, _⟩ := h1
  rw [h]
/-- The first text of a path. -/
theorem url_path0 {w : World} {v1 v2 v3 v5 v6 v7 v8 v9 v10 v11 v12 : Value} {a : Option Addr} {n c : Nat} {u : Lz.UrlL} (h : UrlVal w (.agg #[v1, v2, v3, v5, v6, v7, v8, .slice a n c, v9, v10, v11, v12]) u) (hp : u.path ≠ []) :
    0 < n ∧ ∃ G o x, a = some ⟨G, o, none⟩ ∧ G < w.heap.size ∧ w.cell? ⟨G, o, none⟩ = some (.string x) ∧ x.data.toList = u.path.headD [] := by
  obtain ⟨_, _, _, _, _, _, _, a', c', xs, _, _, _, _, h1, h2, hx⟩ := h.form
  simp only [Value.agg.injEq, Array.mk.injEq, List.cons.injEq, Value.slice.injEq] at h1
  obtain ⟨_, _, _, _, _, _, _, ⟨ha, hn, _⟩, _⟩ := h1
  subst h2
  cases xs with
  | nil => exact absurd rfl hp
  | cons x r =>
    obtain ⟨G, o, h3, h4, h5⟩ := hx 0 x rfl
    refine ⟨by rw [hn]; simp, G, o, x, by rw [ha, h3], h4, h5, rfl⟩
set_option maxHeartbeats 8000000 in
set_option maxRecDepth 100000 in
theorem urlsOrigins_any (s : ByteArray) (w : World) (hE : EnvU w) : Calls Tryz.prog 9 #[.string s] w (RBool true w) := by
  by_cases hbig : 300 < s.size
  · have hbg : (300 : Int) < (s.size : Int) := by omega
    have cH := Lib.hid (places_any w hE)
    clear hbig
    go_enter Tryz.func9, Tryz.ntmps9
    go_wp2_with fail
    refine cH.out.mono ?_
    rintro e w1 ⟨rfl, hb⟩
    go_wp2_with fail
    go_ret
    exact ⟨rfl, hb⟩
  · have hbg : ¬ (300 : Int) < (s.size : Int) := by omega
    have hcat : ¬ (9223372036854775807 < 5 + s.size) := by omega
    obtain ⟨R1, hR1⟩ : ∃ R, R = Lz.parseU s.data.toList none := ⟨_, rfl⟩
    have cP1 := Lib.hid (parse_any0 s w hE)
    rw [← hR1] at cP1
    have hb00 := Below.refl w.heap.size w
    have HE := Lib.hid hE
    have HR1 := Lib.hid hR1
    clear hbig hE hR1
    go_enter Tryz.func9, Tryz.ntmps9
    go_wp2_with fail
    refine cP1.out.mono ?_
    intro e w1 hr
    obtain ⟨v1, z1, u, rfl, hb1, hox, hk⟩ := hr.open
    obtain ⟨sc1, us1, pa1, hh1, hs1, pr1, op1, a1, n1, c1, hq1, hf1, qr1, fr1, rfl⟩ := hox.form
    have hP := PU.new (HE.out.below hb1) hb1 hox
    clear hox cP1 hr HE
    go_upto_region 4 with fail
    generalize w1.alloc (.cells #[.string sc1, .string us1, .string pa1, .bool hh1, .string hs1, .int .i64 pr1, .bool op1, .slice a1 n1 c1, .bool hq1, .bool hf1, .string qr1, .string fr1] 27) = V at hP ⊢
    generalize w1.heap.size = r1 at hP ⊢
    have HP := Lib.hid hP
    obtain ⟨R2, hR2⟩ : ∃ R, R = Lz.parseU (Lz.blobS ++ 58 :: s.data.toList) none := ⟨_, rfl⟩
    have cP2 := Lib.hid (parse_any0 ((⟨#[98, 108, 111, 98, 58]⟩ : ByteArray) ++ s) V hP.env)
    rw [show ((⟨#[98, 108, 111, 98, 58]⟩ : ByteArray) ++ s).data.toList = Lz.blobS ++ 58 :: s.data.toList by rw [append_data']; rfl, ← hR2] at cP2
    have HR2 := Lib.hid hR2
    clear hP hR2
    go_wp2_with fail
    refine cP2.out.mono ?_
    intro e w2 hr
    obtain ⟨v2, z2, u2, rfl, hb2, hox, hk2⟩ := hr.open
    obtain ⟨sc2, us2, pa2, hh2, hs2, pr2, op2, a2, n2, c2, hq2, hf2, qr2, fr2, rfl⟩ := hox.form
    have hP2 := (HP.out.call hb2).alloc (.cells #[.string sc2, .string us2, .string pa2, .bool hh2, .string hs2, .int .i64 pr2, .bool op2, .slice a2 n2 c2, .bool hq2, .bool hf2, .string qr2, .string fr2] 27)
    have hQ2 := PU.new (w := w) (HP.out.env.below hb2) (below_call HP.out.below hb2) hox
    clear hox cP2 hr HP hb2
    go_upto_region 5 with fail
    generalize w2.alloc (.cells #[.string sc2, .string us2, .string pa2, .bool hh2, .string hs2, .int .i64 pr2, .bool op2, .slice a2 n2 c2, .bool hq2, .bool hf2, .string qr2, .string fr2] 27) = V2 at hP2 hQ2 ⊢
    generalize w2.heap.size = r2 at hQ2 ⊢
    have HP2 := Lib.hid hP2
    have HQ2 := Lib.hid hQ2
    clear hP2 hQ2
    go_cut [41] (fun t wx => t = .bool false ∧ PU r2 #[.string sc2, .string us2, .string pa2, .bool hh2, .string hs2, .int .i64 pr2, .bool op2, .slice a2 n2 c2, .bool hq2, .bool hf2, .string qr2, .string fr2] u2 w wx)
    case first =>
      rcases hk with ⟨hR, hk0⟩ | ⟨m, hR, _, hk0⟩
      case inr =>
        have hm := Lz.parse_err (HR1.out.symm.trans hR)
        have hkb : (z1 == 0) = false := by rw [hk0]; simp; omega
        clear hm hk0 hR
        go_wp2_with fail
        go_meet
        exact ⟨rfl, HQ2.out⟩
      case inl =>
        have hkb : (z1 == 0) = true := by rw [hk0]; rfl
        have c0 := rowAt HP2.out.row 0 (.string sc1) rfl
        have hsc := url_scheme HP2.out.own.val
        have cS := Lib.hid (Special_any sc1 V2)
        obtain ⟨q, hq⟩ : ∃ q, q = Lz.specP sc1.data.toList := ⟨_, rfl⟩
        rw [← hq] at cS
        cases q with
        | true =>
          clear hq hsc hR hk0
          go_wp2_with fail
          refine cS.out.mono ?_
          rintro e w3 ⟨rfl, rfl⟩
          go_wp2_with fail
          go_meet
          exact ⟨rfl, HQ2.out⟩
        | false =>
          by_cases hb : sc1.data.toList = Lz.blobS
          · have e0 := text_yes (k := [98, 108, 111, 98]) hb
            have e1 : (sc1.toList != [98, 108, 111, 98]) = false := by simp [bne, e0]
            clear hq hsc hR hk0 hb
            go_wp2_with fail
            refine cS.out.mono ?_
            rintro e w3 ⟨rfl, rfl⟩
            go_wp2_with fail
            go_meet
            exact ⟨rfl, HQ2.out⟩
          · have e0 := text_no (k := [98, 108, 111, 98]) hb
            have e1 : (sc1.toList != [98, 108, 111, 98]) = true := by simp [bne, e0]
            have hO := origOk_parse (HR1.out.symm.trans hR) (fun y h => by cases h)
            have cO := Lib.hid (origin_det _ u V2 nullB HP2.out.own.val HP2.out.env hO (by rw [Lz.origin_plain (by rw [hsc]; exact hq.symm) (by rw [hsc]; exact hb)]; rfl))
            have en : (nullB.toList == [110, 117, 108, 108]) = true := by decide +kernel
            have en2 : (nullB.toList != [110, 117, 108, 108]) = false := by decide +kernel
            clear hq hsc hR hk0 hb hO
            go_wp2_with (first | (refine load_url_g rfl _ rfl r1 rfl _ HP2.out.row rfl ?_) | (go_at_call 13; refine cS.out.mono ?_; rintro e w3 ⟨rfl, rfl⟩) | (go_at_call 22; refine cO.out.mono ?_; rintro e w3 ⟨rfl, hb3⟩))
            go_meet
            exact ⟨rfl, HQ2.out.call hb3⟩
    case rest =>
      obtain ⟨rfl, hQ3⟩ := hcut
      have HQ3 := Lib.hid hQ3
      clear HQ2 HP2 HR1 hk
      have c6 := rowAt hQ3.row 6 (.bool op2) rfl
      have hop := url_opq hQ3.own.val
      rcases hk2 with ⟨hR, hk0⟩ | ⟨m, hR, _, hk0⟩
      case inr =>
        have hm := Lz.parse_err (HR2.out.symm.trans hR)
        have hkb : (z2 != 0) = true := by rw [hk0]; simp; omega
        have cH := Lib.hid (places_any wc hQ3.env)
        clear hm hk0 hR hop hQ3
        go_wp2_with fail
        refine cH.out.mono ?_
        rintro e w4 ⟨rfl, hb4⟩
        go_wp2_with fail
        go_ret
        exact ⟨rfl, below_call HQ3.out.below hb4⟩
      case inl =>
        have hkb : (z2 != 0) = false := by rw [hk0]; rfl
        have hpe := HR2.out.symm.trans hR
        have hO := origOk_parse hpe (fun y h => by cases h)
        have en : (nullB.toList == [110, 117, 108, 108]) = true := by decide +kernel
        cases op2 with
        | false =>
          have cO := Lib.hid (origin_det _ u2 wc nullB hQ3.own.val hQ3.env hO (by rw [Lz.origins_none hpe hop]; rfl))
          clear hk0 hR hop hQ3 hpe hO
          go_wp2_with (first | (refine load_url_g rfl _ rfl r2 rfl _ HQ3.out.row rfl ?_))
          refine cO.out.mono ?_
          rintro e w4 ⟨rfl, hb4⟩
          have hQ4 := HQ3.out.call hb4
          have cH := Lib.hid (places_any w4 hQ4.env)
          have hb04 := hQ4.below
          clear hQ4
          go_wp2_with fail
          refine cH.out.mono ?_
          rintro e w5 ⟨rfl, hb5⟩
          go_wp2_with fail
          go_ret
          exact ⟨rfl, below_call hb04 hb5⟩
        | true =>
          obtain ⟨hpn, hoe⟩ := Lz.origins_path hpe hop
          obtain ⟨hn0, G, o, x, ha, hG, hc0, hx0⟩ := url_path0 hQ3.own.val hpn
          subst ha
          have c7 := rowAt hQ3.row 7 (.slice (some ⟨G, o, none⟩) n2 c2) rfl
          rw [← hx0] at hoe
          obtain ⟨R3, hR3⟩ : ∃ R, R = Lz.parseU x.data.toList none := ⟨_, rfl⟩
          rw [← hR3] at hoe
          have cP3 := Lib.hid (parse_any0 x wc hQ3.env)
          rw [← hR3] at cP3
          have HR3 := Lib.hid hR3
          have HOE := Lib.hid hoe
          have HO := Lib.hid hO
          clear hk0 hR hop hQ3 hpe hO hpn hoe hx0 hR3
          go_wp2_with fail
          refine cP3.out.mono ?_
          intro e w4 hr
          obtain ⟨v4, z4, u4, rfl, hb4, hox, hk4⟩ := hr.open
          obtain ⟨sc3, us3, pa3, hh3, hs3, pr3, op3, a3, n3, c3, hq3, hf3, qr3, fr3, rfl⟩ := hox.form
          have hP4 := (HQ3.out.call hb4).alloc (.cells #[.string sc3, .string us3, .string pa3, .bool hh3, .string hs3, .int .i64 pr3, .bool op3, .slice a3 n3 c3, .bool hq3, .bool hf3, .string qr3, .string fr3] 27)
          have hQ4 := PU.new (w := w) (HQ3.out.env.below hb4) (below_call HQ3.out.below hb4) hox
          clear hox cP3 hr HQ3 hb4 c6 c7 hc0
          go_upto_region 10 with fail
          generalize w4.alloc (.cells #[.string sc3, .string us3, .string pa3, .bool hh3, .string hs3, .int .i64 pr3, .bool op3, .slice a3 n3 c3, .bool hq3, .bool hf3, .string qr3, .string fr3] 27) = V4 at hP4 hQ4 ⊢
          generalize w4.heap.size = r4 at hQ4 ⊢
          have k0 := rowAt hQ4.row 0 (.string sc3) rfl
          have hsc := url_scheme hQ4.own.val
          have HP4 := Lib.hid hP4
          have HQ4 := Lib.hid hQ4
          clear hP4 hQ4
          obtain ⟨q, hq⟩ : ∃ q, q = decide (z4 = 0 ∧ (sc3.data.toList = Lz.httpS ∨ sc3.data.toList = Lz.httpsS)) := ⟨_, rfl⟩
          go_cut [78] (fun t wx => t = .bool q ∧ V4 = wx)
          case first =>
            by_cases hn4 : z4 = 0
            · have e4 : (z4 == 0) = true := by rw [hn4]; rfl
              by_cases h1 : sc3.data.toList = Lz.httpS
              · have q1 := text_yes (k := [104, 116, 116, 112]) h1
                have HQ : Hid (q = true) := Lib.hid (by rw [hq]; simp [hn4, h1])
                clear hq h1 hn4 hk4 hsc
                go_wp2_with fail
                go_meet
                exact ⟨by rw [HQ.out], rfl⟩
              · have q1 := text_no (k := [104, 116, 116, 112]) h1
                by_cases h2 : sc3.data.toList = Lz.httpsS
                · have q2 := text_yes (k := [104, 116, 116, 112, 115]) h2
                  have HQ : Hid (q = true) := Lib.hid (by rw [hq]; simp [hn4, h2])
                  clear hq h1 h2 hn4 hk4 hsc
                  go_wp2_with fail
                  go_meet
                  exact ⟨by rw [HQ.out], rfl⟩
                · have q2 := text_no (k := [104, 116, 116, 112, 115]) h2
                  have HQ : Hid (q = false) := Lib.hid (by rw [hq]; simp [h1, h2])
                  clear hq h1 h2 hn4 hk4 hsc
                  go_wp2_with fail
                  go_meet
                  exact ⟨by rw [HQ.out], rfl⟩
            · have e4 : (z4 == 0) = false := beq_eq_false_iff_ne.2 hn4
              have HQ : Hid (q = false) := Lib.hid (by rw [hq]; simp [hn4])
              clear hq hn4 hk4 hsc
              go_wp2_with fail
              go_meet
              exact ⟨by rw [HQ.out], rfl⟩
          case rest =>
            obtain ⟨rfl, rfl⟩ := hcut
            cases q with
            | false =>
              have hq2 := of_decide_eq_false hq.symm
              have hnull : Lz.originU u2 = nullB.data.toList := by
                rw [HOE.out]
                rcases hk4 with ⟨hR, hk0⟩ | ⟨m, hR, _, hk0⟩
                · rw [hR]
                  simp only
                  rw [if_neg]
                  · rfl
                  · rw [hsc]; exact fun h => hq2 ⟨hk0, h⟩
                · rw [hR]; rfl
              have cO := Lib.hid (origin_det _ u2 V4 nullB HP4.out.own.val HP4.out.env HO.out hnull.symm)
              clear hq hq2 hk4 hsc hnull
              go_wp2_with (first | (refine load_url_g rfl _ rfl r2 rfl _ HP4.out.row rfl ?_))
              refine cO.out.mono ?_
              rintro e w5 ⟨rfl, hb5⟩
              have hQ5 := HP4.out.call hb5
              have cH := Lib.hid (places_any w5 hQ5.env)
              have hb05 := hQ5.below
              clear hQ5
              go_wp2_with fail
              refine cH.out.mono ?_
              rintro e w6 ⟨rfl, hb6⟩
              go_wp2_with fail
              go_ret
              exact ⟨rfl, below_call hb05 hb6⟩
            | true =>
              have hqb := of_decide_eq_true hq.symm
              obtain ⟨G3, hG3⟩ : ∃ G3 : ByteArray, G3.data.toList = Lz.originU u4 := ⟨⟨(Lz.originU u4).toArray⟩, rfl⟩
              have hpe4 : Lz.parseU x.data.toList none = .ok u4 := by
                rw [← HR3.out]
                rcases hk4 with ⟨hR, hk0⟩ | ⟨m, hR, _, hk0⟩
                · exact hR
                · have := Lz.parse_err (HR3.out.symm.trans hR)
                  rw [hk0] at hqb
                  omega
              have hO4 := origOk_parse hpe4 (fun y h => by cases h)
              have hsame : Lz.originU u2 = Lz.originU u4 := by
                rw [HOE.out, HR3.out, hpe4]
                simp only
                rw [if_pos (by rw [hsc]; exact hqb.2)]
              have cO : Hid (∀ V, PU r2 #[.string sc2, .string us2, .string pa2, .bool hh2, .string hs2, .int .i64 pr2, .bool true, .slice (some ⟨G, o, none⟩) n2 c2, .bool hq2, .bool hf2, .string qr2, .string fr2] u2 w V ∧ PU r4 #[.string sc3, .string us3, .string pa3, .bool hh3, .string hs3, .int .i64 pr3, .bool op3, .slice a3 n3 c3, .bool hq3, .bool hf3, .string qr3, .string fr3] u4 w V → Calls Tryz.prog 22 #[.agg #[.string sc2, .string us2, .string pa2, .bool hh2, .string hs2, .int .i64 pr2, .bool true, .slice (some ⟨G, o, none⟩) n2 c2, .bool hq2, .bool hf2, .string qr2, .string fr2]] V fun e w' => e = .returned (.string G3) ∧ (PU r2 #[.string sc2, .string us2, .string pa2, .bool hh2, .string hs2, .int .i64 pr2, .bool true, .slice (some ⟨G, o, none⟩) n2 c2, .bool hq2, .bool hf2, .string qr2, .string fr2] u2 w w' ∧ PU r4 #[.string sc3, .string us3, .string pa3, .bool hh3, .string hs3, .int .i64 pr3, .bool op3, .slice a3 n3 c3, .bool hq3, .bool hf3, .string qr3, .string fr3] u4 w w')) := Lib.hid (fun V hV => (origin_det _ u2 V G3 hV.1.own.val hV.1.env HO.out (by rw [hG3, hsame])).mono fun e w' ⟨h1, h2⟩ => ⟨h1, hV.1.call h2, hV.2.call h2⟩)
              have cO4 : Hid (∀ V, PU r2 #[.string sc2, .string us2, .string pa2, .bool hh2, .string hs2, .int .i64 pr2, .bool true, .slice (some ⟨G, o, none⟩) n2 c2, .bool hq2, .bool hf2, .string qr2, .string fr2] u2 w V ∧ PU r4 #[.string sc3, .string us3, .string pa3, .bool hh3, .string hs3, .int .i64 pr3, .bool op3, .slice a3 n3 c3, .bool hq3, .bool hf3, .string qr3, .string fr3] u4 w V → Calls Tryz.prog 22 #[.agg #[.string sc3, .string us3, .string pa3, .bool hh3, .string hs3, .int .i64 pr3, .bool op3, .slice a3 n3 c3, .bool hq3, .bool hf3, .string qr3, .string fr3]] V fun e w' => e = .returned (.string G3) ∧ (PU r2 #[.string sc2, .string us2, .string pa2, .bool hh2, .string hs2, .int .i64 pr2, .bool true, .slice (some ⟨G, o, none⟩) n2 c2, .bool hq2, .bool hf2, .string qr2, .string fr2] u2 w w' ∧ PU r4 #[.string sc3, .string us3, .string pa3, .bool hh3, .string hs3, .int .i64 pr3, .bool op3, .slice a3 n3 c3, .bool hq3, .bool hf3, .string qr3, .string fr3] u4 w w')) := Lib.hid (fun V hV => (origin_det _ u4 V G3 hV.2.own.val hV.2.env hO4 hG3).mono fun e w' ⟨h1, h2⟩ => ⟨h1, hV.1.call h2, hV.2.call h2⟩)
              have cH : Hid (∀ V, PU r2 #[.string sc2, .string us2, .string pa2, .bool hh2, .string hs2, .int .i64 pr2, .bool true, .slice (some ⟨G, o, none⟩) n2 c2, .bool hq2, .bool hf2, .string qr2, .string fr2] u2 w V ∧ PU r4 #[.string sc3, .string us3, .string pa3, .bool hh3, .string hs3, .int .i64 pr3, .bool op3, .slice a3 n3 c3, .bool hq3, .bool hf3, .string qr3, .string fr3] u4 w V → Calls Tryz.prog 12 #[] V fun e w' => e = .returned (.bool true) ∧ (PU r2 #[.string sc2, .string us2, .string pa2, .bool hh2, .string hs2, .int .i64 pr2, .bool true, .slice (some ⟨G, o, none⟩) n2 c2, .bool hq2, .bool hf2, .string qr2, .string fr2] u2 w w' ∧ PU r4 #[.string sc3, .string us3, .string pa3, .bool hh3, .string hs3, .int .i64 pr3, .bool op3, .slice a3 n3 c3, .bool hq3, .bool hf3, .string qr3, .string fr3] u4 w w')) := Lib.hid (fun V hV => (places_any V hV.1.env).mono fun e w' ⟨h1, h2⟩ => ⟨h1, hV.1.call h2, hV.2.call h2⟩)
              have hK : PU r2 #[.string sc2, .string us2, .string pa2, .bool hh2, .string hs2, .int .i64 pr2, .bool true, .slice (some ⟨G, o, none⟩) n2 c2, .bool hq2, .bool hf2, .string qr2, .string fr2] u2 w V4 ∧ PU r4 #[.string sc3, .string us3, .string pa3, .bool hh3, .string hs3, .int .i64 pr3, .bool op3, .slice a3 n3 c3, .bool hq3, .bool hf3, .string qr3, .string fr3] u4 w V4 := ⟨HP4.out, HQ4.out⟩
              have hKd : PU r2 #[.string sc2, .string us2, .string pa2, .bool hh2, .string hs2, .int .i64 pr2, .bool true, .slice (some ⟨G, o, none⟩) n2 c2, .bool hq2, .bool hf2, .string qr2, .string fr2] u2 w V4.drew ∧ PU r4 #[.string sc3, .string us3, .string pa3, .bool hh3, .string hs3, .int .i64 pr3, .bool op3, .slice a3 n3 c3, .bool hq3, .bool hf3, .string qr3, .string fr3] u4 w V4.drew := ⟨HP4.out.drew, HQ4.out.drew⟩
              have egg : (G3.toList == G3.toList) = true := by simp
              clear hq hqb hk4 hsc hpe4 hO4 hsame hG3
              go_upto_region 11 with fail
              go_region_held3 (fun V => ((V.cell? ⟨r2, 0, none⟩ = some (.string sc2) ∧ V.cell? ⟨r2, 1, none⟩ = some (.string us2) ∧ V.cell? ⟨r2, 2, none⟩ = some (.string pa2) ∧ V.cell? ⟨r2, 3, none⟩ = some (.bool hh2) ∧ V.cell? ⟨r2, 4, none⟩ = some (.string hs2) ∧ V.cell? ⟨r2, 5, none⟩ = some (.int .i64 pr2) ∧ V.cell? ⟨r2, 6, none⟩ = some (.bool true) ∧ V.cell? ⟨r2, 7, none⟩ = some (.slice (some ⟨G, o, none⟩) n2 c2) ∧ V.cell? ⟨r2, 8, none⟩ = some (.bool hq2) ∧ V.cell? ⟨r2, 9, none⟩ = some (.bool hf2) ∧ V.cell? ⟨r2, 10, none⟩ = some (.string qr2) ∧ V.cell? ⟨r2, 11, none⟩ = some (.string fr2)) ∧ (V.cell? ⟨r4, 0, none⟩ = some (.string sc3) ∧ V.cell? ⟨r4, 1, none⟩ = some (.string us3) ∧ V.cell? ⟨r4, 2, none⟩ = some (.string pa3) ∧ V.cell? ⟨r4, 3, none⟩ = some (.bool hh3) ∧ V.cell? ⟨r4, 4, none⟩ = some (.string hs3) ∧ V.cell? ⟨r4, 5, none⟩ = some (.int .i64 pr3) ∧ V.cell? ⟨r4, 6, none⟩ = some (.bool op3) ∧ V.cell? ⟨r4, 7, none⟩ = some (.slice a3 n3 c3) ∧ V.cell? ⟨r4, 8, none⟩ = some (.bool hq3) ∧ V.cell? ⟨r4, 9, none⟩ = some (.bool hf3) ∧ V.cell? ⟨r4, 10, none⟩ = some (.string qr3) ∧ V.cell? ⟨r4, 11, none⟩ = some (.string fr3))) ∧ (PU r2 #[.string sc2, .string us2, .string pa2, .bool hh2, .string hs2, .int .i64 pr2, .bool true, .slice (some ⟨G, o, none⟩) n2 c2, .bool hq2, .bool hf2, .string qr2, .string fr2] u2 w V ∧ PU r4 #[.string sc3, .string us3, .string pa3, .bool hh3, .string hs3, .int .i64 pr3, .bool op3, .slice a3 n3 c3, .bool hq3, .bool hf3, .string qr3, .string fr3] u4 w V)) (first | exact ⟨⟨row12 (PU.row (And.left (by assumption))), row12 (PU.row (And.right (by assumption)))⟩, by assumption⟩ | assumption) (first | (go_at_call_of 22 (Value.agg #[.string sc2, .string us2, .string pa2, .bool hh2, .string hs2, .int .i64 pr2, .bool true, .slice (some ⟨G, o, none⟩) n2 c2, .bool hq2, .bool hf2, .string qr2, .string fr2]); refine (cO.out _ (by assumption)).mono ?_; rintro e w5 ⟨rfl, hK5⟩) | (go_at_call_of 22 (Value.agg #[.string sc3, .string us3, .string pa3, .bool hh3, .string hs3, .int .i64 pr3, .bool op3, .slice a3 n3 c3, .bool hq3, .bool hf3, .string qr3, .string fr3]); refine (cO4.out _ (by assumption)).mono ?_; rintro e w5 ⟨rfl, hK5⟩) | (go_at_call 12; refine (cH.out _ (by assumption)).mono ?_; rintro e w5 ⟨rfl, hK5⟩))
              go_wp2_with fail
              go_ret
              exact ⟨rfl, hK5.1.below⟩
end Go.Proofs.YthijceooebebfaaGreatDoor

namespace Go.Proofs.YthijceooebebfaaGreatDoor
open Go.RowKit
attribute [local go_sem ↓] Go.wp_at_zero Go.wp_at_succ
theorem nat_of_wf' {k : IntKind} {n : Int} (h : (Lit.int k n).wf = true) (hm : k.min = 0) : ∃ m : Nat, n = (m : Int) ∧ (m : Int) ≤ k.max := by
  simp only [Lit.wf, Bool.and_eq_true, decide_eq_true_eq] at h
  rw [hm] at h
  exact ⟨n.toNat, by omega, by omega⟩
theorem nat8_of_wf' {n : Int} (h : (Lit.int .u8 n).wf = true) : ∃ m : Nat, n = (m : Int) ∧ m < 256 := by
  obtain ⟨m, rfl, h1⟩ := nat_of_wf' h (by decide)
  rw [show IntKind.u8.max = 255 by decide] at h1
  exact ⟨m, rfl, by omega⟩
theorem nat32_of_wf' {n : Int} (h : (Lit.int .u32 n).wf = true) : ∃ m : Nat, n = (m : Int) ∧ m < 4294967296 := by
  obtain ⟨m, rfl, h1⟩ := nat_of_wf' h (by decide)
  rw [show IntKind.u32.max = 4294967295 by decide] at h1
  exact ⟨m, rfl, by omega⟩
def strsP : Array Value := #[.string ⟨#[104, 116, 116, 112]⟩, .string ⟨#[104, 116, 116, 112, 115]⟩, .string ⟨#[119, 115]⟩, .string ⟨#[119, 115, 115]⟩, .string ⟨#[102, 116, 112]⟩]
def ownsP : Array Value := #[.int .i64 80, .int .i64 443, .int .i64 80, .int .i64 443, .int .i64 21]
theorem strsP_at (k : Nat) (hk : k < 5) : ∃ sk : ByteArray, strsP[k]? = some (.string sk) ∧ sk.data.toList = Lz.schemeAt k ∧ sk.size ≤ 5 := by
  rcases (show k = 0 ∨ k = 1 ∨ k = 2 ∨ k = 3 ∨ k = 4 by omega) with rfl | rfl | rfl | rfl | rfl
  all_goals exact ⟨_, rfl, rfl, by decide⟩
theorem ownsP_at (k : Nat) (hk : k < 5) : ownsP[k]? = some (.int .i64 (Lz.ownAt k : Int)) := by
  rcases (show k = 0 ∨ k = 1 ∨ k = 2 ∨ k = 3 ∨ k = 4 by omega) with rfl | rfl | rfl | rfl | rfl
  all_goals rfl
/-- The two rows of the law, in a world. -/
structure PW (B k : Nat) (sk : ByteArray) (W0 V : World) : Prop where
  str : V.cell? ⟨B, k, none⟩ = some (.string sk)
  own : V.cell? ⟨B + 1, k, none⟩ = some (.int .i64 (Lz.ownAt k : Int))
  lt : B + 1 < V.heap.size
  below : Below W0.heap.size W0 V
  env : EnvU V
theorem PW.own2 {B k : Nat} {sk : ByteArray} {W0 V : World} {ow : Int} (ho : Hid (ow = (Lz.ownAt k : Int))) (h : PW B k sk W0 V) : V.cell? ⟨B + 1, k, none⟩ = some (.int .i64 ow) := by
  rw [ho.out]; exact h.own
theorem PW.call {B k : Nat} {sk : ByteArray} {W0 V V' : World} (h : PW B k sk W0 V) (hb : Below V.heap.size V V') : PW B k sk W0 V' :=
  ⟨by rw [hb.cell (p := ⟨B, k, none⟩) (show B < _ by have := h.lt; omega)]; exact h.str, by rw [hb.cell (p := ⟨B + 1, k, none⟩) h.lt]; exact h.own, Nat.lt_of_lt_of_le h.lt hb.size, below_call h.below hb, h.env.below hb⟩
theorem PW.alloc {B k : Nat} {sk : ByteArray} {W0 V : World} (h : PW B k sk W0 V) (o : Obj) : PW B k sk W0 (V.alloc o) := h.call ((Below.refl _ _).alloc (Nat.le_refl _) o)
theorem PW.drew {B k : Nat} {sk : ByteArray} {W0 V : World} (h : PW B k sk W0 V) : PW B k sk W0 V.drew := h.call (Below.refl _ _).drew
theorem store_url {o : Oper} {a : Act} {K : Act → World → Prop} {Q : Exit → Act → World → Prop} {V : World} {r : Nat} {C0 C : Array Value} (h0 : V.heap[r]? = some (.cells C0 27 (0, 0))) (hs0 : C0.size = 12) (h12 : C.size = 12) (h1 : C.all (·.oneCell') = true)
    (x y : Operand) (ho : o.op = .store 27 x y) (hx : a.eval x = .pointer (some ⟨r, 0, none⟩)) (hy : a.eval y = .agg C) (hK : K (a.put o.dst undef) (V.setRow r C)) : o.wp Tryz.prog a V K Q :=
  wp_store_row 27 x y ho r C hx hy 27 C0 h0 (by rw [h12]; exact urlSize) (by rw [hs0, h12]) h1 hK
theorem PU.store {r : Nat} {C0 C : Array Value} {u : Lz.UrlL} {w V : World} (h0 : V.heap[r]? = some (.cells C0 27 (0, 0))) (hw : w.heap.size ≤ r) (hE : EnvU w) (hb : Below w.heap.size w V) (ho : UrlOwn V (.agg C) u) : PU r C u w (V.setRow r C) :=
  ⟨setRow_heap _ _ _ _ _ _ h0, below_setRow hb hw, hE.below (below_setRow hb hw), ho.setRow h0 C⟩
theorem cell_setRow {V : World} {r b j : Nat} (C : Array Value) (h : b ≠ r) : (V.setRow r C).cell? ⟨b, j, none⟩ = V.cell? ⟨b, j, none⟩ := by
  unfold World.cell?
  rw [setRow_other _ _ _ _ h]
theorem PW.setRow {B k : Nat} {sk : ByteArray} {W0 V : World} {r : Nat} {C0 C : Array Value} (h : PW B k sk W0 V) (h0 : V.heap[r]? = some (.cells C0 27 (0, 0))) (hB : B + 1 < r) (hw : W0.heap.size ≤ r) (hE : EnvU W0) : PW B k sk W0 (V.setRow r C) :=
  ⟨by rw [cell_setRow _ (by omega)]; exact h.str, by rw [cell_setRow _ (by omega)]; exact h.own, Nat.lt_trans hB (row_lt (setRow_heap V r C0 C _ _ h0)), below_setRow h.below hw, hE.below (below_setRow h.below hw)⟩
theorem bytes_ext {a b : ByteArray} (h : a.data.toList = b.data.toList) : a = b := by
  cases a; cases b
  simp only at h
  rw [Array.toList_inj.1 h]
theorem url_port {w : World} {v0 v1 v2 v3 v5 v6 v7 v8 v9 v10 v11 : Value} {n : Int} {u : Lz.UrlL} (h : UrlVal w (.agg #[v0, v1, v2, v3, v5, .int .i64 n, v6, v7, v8, v9, v10, v11]) u) : u.port = n := by
  obtain ⟨_, _, _, _, _, _, _, _, _, _, _, _, _, _, h1, h2, _⟩ := h.form
  rw [h2]
  simp only [Value.agg.injEq, Array.mk.injEq, List.cons.injEq, Value.int.injEq] at h1
  obtain ⟨_, _, _, _, _, h, _⟩ := h1
  rw [h.2]
/-- Itoa of a number, as a text that is determined. -/
theorem itoa_det (n : Nat) (hn : n < 80000) (D : ByteArray) (hD : D.data.toList = Lib.decDigits n) {B k : Nat} {sk : ByteArray} {W0 : World} (V : World) (h : PW B k sk W0 V) :
    Calls Tryz.prog 21 #[.int .i64 (n : Int)] V fun e w' => e = .returned (.string D) ∧ PW B k sk W0 w' ∧ Below V.heap.size V w' := by
  refine (Itoa_h (n : Int) (by omega) (by omega) V h.env.h).mono ?_
  intro e w' hr
  obtain ⟨he, hb⟩ := str_det hr
  refine ⟨?_, h.call hb, hb⟩
  rw [he, Lz.itoa_nat, ← hD]
theorem dec_size (n : Nat) (hn : n < 80000) (D : ByteArray) (hD : D.data.toList = Lib.decDigits n) : D.size ≤ 5 := by
  rw [← len_of_size, hD]
  exact Lz.decDigits_len 4 n (by omega)
set_option maxHeartbeats 8000000 in
set_option maxRecDepth 100000 in
theorem urlsPorts_any (m0 m1 : Nat) (w : World) (h0 : m0 < 256) (h1 : m1 < 4294967296) (hE : EnvU w) : Calls Tryz.prog 8 #[.int .u8 m0, .int .u32 m1] w (RBool true w) := by
  obtain ⟨k, hk⟩ : ∃ k, k = m0 % 5 := ⟨_, rfl⟩
  obtain ⟨n, hn⟩ : ∃ n, n = m1 % 80000 := ⟨_, rfl⟩
  have hk5 : k < 5 := by omega
  have hn8 : n < 80000 := by omega
  have kI : (m0 : Int) % 5 = (k : Int) := by omega
  have kT : Int.tmod (m0 : Int) 5 = (k : Int) := by rw [Int.tmod_eq_emod_of_nonneg (by omega)]; exact kI
  have kw : RowKit.wrap64 (m0 : Int) = (m0 : Int) := by unfold RowKit.wrap64; omega
  have nI : (m1 : Int) % 80000 = (n : Int) := by omega
  have nT : Int.tmod (m1 : Int) 80000 = (n : Int) := by rw [Int.tmod_eq_emod_of_nonneg (by omega)]; exact nI
  obtain ⟨sk, hsk, hskd, hskz⟩ := strsP_at k hk5
  obtain ⟨D, hD⟩ : ∃ D : ByteArray, D.data.toList = Lib.decDigits n := ⟨⟨(Lib.decDigits n).toArray⟩, rfl⟩
  have hDz := dec_size n hn8 D hD
  obtain ⟨W, hW⟩ : ∃ W, W = (w.alloc (.cells #[.string ⟨#[104, 116, 116, 112]⟩, .string ⟨#[104, 116, 116, 112, 115]⟩, .string ⟨#[119, 115]⟩, .string ⟨#[119, 115, 115]⟩, .string ⟨#[102, 116, 112]⟩] 40)).alloc (.cells #[.int .i64 80, .int .i64 443, .int .i64 80, .int .i64 443, .int .i64 21] 41) := ⟨_, rfl⟩
  have hbW : Below w.heap.size w W := by rw [hW]; exact ((Below.refl _ w).alloc (Nat.le_refl _) _).alloc (by simp) _
  have r1 : W.heap[w.heap.size]? = some (.cells strsP 40 (0, 0)) := by rw [hW, Below.heap_alloc _ _ _ (by simp)]; exact heap_new w (.cells strsP 40)
  have r2 : W.heap[w.heap.size + 1]? = some (.cells ownsP 41 (0, 0)) := by rw [hW]; exact heap_new2 _ _ _
  have hP : PW w.heap.size k sk w W := ⟨rowAt r1 k _ hsk, rowAt r2 k _ (ownsP_at k hk5), row_lt r2, hbW, hE.below hbW⟩
  have k0 : (0 : Int) ≤ (k : Int) := by omega
  have k5 : (k : Int) < 5 := by omega
  have cI : Hid (∀ V, PW w.heap.size k sk w V → Calls Tryz.prog 21 #[.int .i64 (n : Int)] V fun e w' => e = .returned (.string D) ∧ PW w.heap.size k sk w w' ∧ Below V.heap.size V w') := Lib.hid (fun V hV => itoa_det n hn8 D hD V hV)
  have HW := Lib.hid hW
  have HE := Lib.hid hE
  have HP := Lib.hid hP
  have HK := Lib.hid hk5
  have HN := Lib.hid hn8
  have HD := Lib.hid hD
  have HS := Lib.hid hskd
  have n1 : ¬ (9223372036854775807 < sk.size + 13) := by omega
  have n2 : ¬ (9223372036854775807 < sk.size + 13 + D.size) := by omega
  have n3 : ¬ (9223372036854775807 < sk.size + 13 + D.size + 2) := by omega
  have n4 : ¬ (9223372036854775807 < sk.size + 6) := by omega
  have n5 : ¬ (9223372036854775807 < sk.size + 6 + 1) := by omega
  have n6 : ¬ (9223372036854775807 < sk.size + 6 + 1 + D.size) := by omega
  clear hk hn hk5 hn8 hsk hskd hD hW r1 r2 hP hE h0 h1 hbW
  go_enter Tryz.func8, Tryz.ntmps8
  go_upto_region 5 with fail
  rw [← HW.out]
  obtain ⟨R, hR⟩ : ∃ R, R = (if 65535 < n then Lz.UR.er 81 else .ok (Lz.portV k n)) := ⟨_, rfl⟩
  have hXd : (sk ++ ⟨#[58, 47, 47, 117, 58, 112, 64, 72, 46, 120, 58, 48, 48]⟩ ++ D ++ ⟨#[47, 113]⟩ : ByteArray).data.toList = Lz.portX k n := by
    rw [append_data', append_data', append_data', HS.out, HD.out]; rfl
  have cP : Hid (∀ V, PW w.heap.size k sk w V → Calls Tryz.prog 20 #[.string (sk ++ ⟨#[58, 47, 47, 117, 58, 112, 64, 72, 46, 120, 58, 48, 48]⟩ ++ D ++ ⟨#[47, 113]⟩), .pointer none] V (RParse R V)) := Lib.hid (fun V hV => by
    have := parse_any0 (sk ++ ⟨#[58, 47, 47, 117, 58, 112, 64, 72, 46, 120, 58, 48, 48]⟩ ++ D ++ ⟨#[47, 113]⟩) V hV.env
    rw [hXd, Lz.port_parse k n HK.out HN.out, ← hR] at this
    exact this)
  have HR := Lib.hid hR
  have hPd := HP.out.drew
  clear hR hXd HW kI kT nI nT kw
  generalize hB : w.heap.size = B at *
  go_cut [9, 10] (fun p t wx => ∃ (r : Nat) (C : Array Value) (u : Lz.UrlL) (z : Int), p = .pointer (some ⟨r, 0, none⟩) ∧ t = .int .i64 z ∧ PU r C u w wx ∧ PW B k sk w wx ∧ ((R = .ok u ∧ z = 0) ∨ ∃ m : Nat, R = .er m ∧ u = zeroU ∧ z = (m : Int)))
  case first =>
    refine wp_region_held_drew (S := PW B k sk w) (by kernel_rfl) hPd (fun hHeld => ?_)
    refine wpAnyH_take (i := 0) (oi := ({ dst := some 23, op := Op.move (Operand.tmp 7), type := 3, pos := "outright.go:114", after := #[], guard := none } : Oper)) (v := ?_) rfl (by kernel_rfl) (by kernel_rfl) (by kernel_rfl) (fun _ _ _ h => h) (Or.inl ⟨by rfl, ?_⟩) (by assumption) ?_
    rotate_left
    · (intro W hSw; go_simp; try with_reducible rfl)
    (try simp only [Act.put, List.setIfInBounds_toArray, List.set_cons_zero, List.set_cons_succ])
    refine wpAnyH_take (i := 1) (oi := ({ dst := some 24, op := Op.indexAddr 40 (Operand.tmp 5) (Operand.tmp 23), type := 0, pos := "outright.go:114", after := #[{ on := 0, ground := Ground.data }], guard := none } : Oper)) (v := ?_) rfl (by kernel_rfl) (by kernel_rfl) (by kernel_rfl) (fun _ _ _ h => h) (Or.inl ⟨by rfl, ?_⟩) (by assumption) ?_
    rotate_left
    · (intro W hSw; go_simp; try with_reducible rfl)
    (try simp only [Act.put, List.setIfInBounds_toArray, List.set_cons_zero, List.set_cons_succ])
    refine wpAnyH_take (i := 2) (oi := ({ dst := some 25, op := Op.load 9 (Operand.tmp 24), type := 9, pos := "outright.go:114", after := #[{ on := 1, ground := Ground.data }], guard := none } : Oper)) (v := ?_) rfl (by kernel_rfl) (by kernel_rfl) (by kernel_rfl) (fun _ _ _ h => h) (Or.inl ⟨by rfl, ?_⟩) (by assumption) ?_
    rotate_left
    · (intro W hSw; have hcs := hSw.str; go_simp; try with_reducible rfl)
    (try simp only [Act.put, List.setIfInBounds_toArray, List.set_cons_zero, List.set_cons_succ])
    refine wpAnyH_take (i := 3) (oi := ({ dst := some 26, op := Op.binOp BinOp.add 9 (Operand.tmp 25) (Operand.const (Value.string { data := #[58, 47, 47, 117, 58, 112, 64, 72, 46, 120, 58, 48, 48] })) 9, type := 9, pos := "outright.go:114", after := #[{ on := 2, ground := Ground.data }], guard := none } : Oper)) (v := ?_) rfl (by kernel_rfl) (by kernel_rfl) (by kernel_rfl) (fun _ _ _ h => h) (Or.inl ⟨by rfl, ?_⟩) (by assumption) ?_
    rotate_left
    · (intro W hSw; go_simp; try with_reducible rfl)
    (try simp only [Act.put, List.setIfInBounds_toArray, List.set_cons_zero, List.set_cons_succ])
    refine wpAnyH_take (i := 4) (oi := ({ dst := some 27, op := Op.move (Operand.tmp 8), type := 3, pos := "outright.go:114", after := #[], guard := none } : Oper)) (v := ?_) rfl (by kernel_rfl) (by kernel_rfl) (by kernel_rfl) (fun _ _ _ h => h) (Or.inl ⟨by rfl, ?_⟩) (by assumption) ?_
    rotate_left
    · (intro W hSw; go_simp; try with_reducible rfl)
    (try simp only [Act.put, List.setIfInBounds_toArray, List.set_cons_zero, List.set_cons_succ])
    refine wpAnyH_ready (rs := [5, 12]) (by kernel_rfl) (by simp) ?_
    refine AllReadyH.cons (o := ({ dst := some 28, op := Op.call { callee := Callee.value (Operand.func 21), args := #[Operand.tmp 27], argTypes := #[3] }, type := 9, pos := "outright.go:114", after := #[{ on := 4, ground := Ground.data }], guard := none } : Oper)) rfl (fun K hK => ?_) ?_
    · skip
      go_simp
      go_at_call 21
      refine (cI.out _ (by assumption)).mono ?_
      rintro e w2 ⟨rfl, hP2, hb2⟩
      refine hK.out _ _ hP2 (fun hHeld => ?_)
      clear hK K
      (try simp only [Act.put, List.setIfInBounds_toArray, List.set_cons_zero, List.set_cons_succ])
      refine wpAnyH_take (i := 6) (oi := ({ dst := some 29, op := Op.binOp BinOp.add 9 (Operand.tmp 26) (Operand.tmp 28) 9, type := 9, pos := "outright.go:114", after := #[{ on := 3, ground := Ground.data }, { on := 5, ground := Ground.data }], guard := none } : Oper)) (v := ?_) rfl (by kernel_rfl) (by kernel_rfl) (by kernel_rfl) (fun _ _ _ h => h) (Or.inl ⟨by rfl, ?_⟩) (by assumption) ?_
      rotate_left
      · (intro W hSw; go_simp; try with_reducible rfl)
      (try simp only [Act.put, List.setIfInBounds_toArray, List.set_cons_zero, List.set_cons_succ])
      refine wpAnyH_take (i := 7) (oi := ({ dst := some 30, op := Op.binOp BinOp.add 9 (Operand.tmp 29) (Operand.const (Value.string { data := #[47, 113] })) 9, type := 9, pos := "outright.go:114", after := #[{ on := 6, ground := Ground.data }], guard := none } : Oper)) (v := ?_) rfl (by kernel_rfl) (by kernel_rfl) (by kernel_rfl) (fun _ _ _ h => h) (Or.inl ⟨by rfl, ?_⟩) (by assumption) ?_
      rotate_left
      · (intro W hSw; go_simp; try with_reducible rfl)
      (try simp only [Act.put, List.setIfInBounds_toArray, List.set_cons_zero, List.set_cons_succ])
      refine wpAnyH_ready (rs := [8, 12]) (by kernel_rfl) (by simp) ?_
      refine AllReadyH.cons (o := ({ dst := some 31, op := Op.call { callee := Callee.value (Operand.func 20), args := #[Operand.tmp 30, Operand.const (Value.pointer none)], argTypes := #[9, 44] }, type := 29, pos := "outright.go:114", after := #[{ on := 7, ground := Ground.data }, { on := 5, ground := Ground.chain }], guard := none } : Oper)) rfl (fun K hK => ?_) ?_
      · skip
        go_simp
        go_at_call 20
        refine (cP.out _ (by assumption)).mono ?_
        intro e w3 hr
        obtain ⟨v3, z3, u3, rfl, hb3, hox, hk3⟩ := hr.open
        obtain ⟨sc1, us1, pa1, hh1, hs1, pr1, op1, a1, n1, c1, hq1, hf1, qr1, fr1, rfl⟩ := hox.form
        have hP3 := hHeld.call hb3
        refine hK.out _ _ hP3 (fun hHeld => ?_)
        clear hK K
        (try simp only [Act.put, List.setIfInBounds_toArray, List.set_cons_zero, List.set_cons_succ])
        refine wpAnyH_take (i := 9) (oi := ({ dst := some 22, op := Op.move (Operand.tmp 31), type := 29, pos := "outright.go:114", after := #[{ on := 8, ground := Ground.data }], guard := none } : Oper)) (v := ?_) rfl (by kernel_rfl) (by kernel_rfl) (by kernel_rfl) (fun _ _ _ h => h) (Or.inl ⟨by rfl, ?_⟩) (by assumption) ?_
        rotate_left
        · (intro W hSw; go_simp; try with_reducible rfl)
        (try simp only [Act.put, List.setIfInBounds_toArray, List.set_cons_zero, List.set_cons_succ])
        refine wpAnyH_take (i := 10) (oi := ({ dst := some 32, op := Op.extract (Operand.tmp 22) 0, type := 27, pos := "outright.go:114", after := #[{ on := 9, ground := Ground.data }], guard := none } : Oper)) (v := ?_) rfl (by kernel_rfl) (by kernel_rfl) (by kernel_rfl) (fun _ _ _ h => h) (Or.inl ⟨by rfl, ?_⟩) (by assumption) ?_
        rotate_left
        · (intro W hSw; go_simp; try with_reducible rfl)
        (try simp only [Act.put, List.setIfInBounds_toArray, List.set_cons_zero, List.set_cons_succ])
        refine wpAnyH_take (i := 11) (oi := ({ dst := some 33, op := Op.extract (Operand.tmp 22) 1, type := 28, pos := "outright.go:114", after := #[{ on := 9, ground := Ground.data }, { on := 13, ground := Ground.gcOnly Departure.lateStores }], guard := none } : Oper)) (v := ?_) rfl (by kernel_rfl) (by kernel_rfl) (by kernel_rfl) (fun _ _ _ h => h) (Or.inl ⟨by rfl, ?_⟩) (by assumption) ?_
        rotate_left
        · (intro W hSw; go_simp; try with_reducible rfl)
        (try simp only [Act.put, List.setIfInBounds_toArray, List.set_cons_zero, List.set_cons_succ])
        refine wpAnyH_ready (rs := [12]) (by kernel_rfl) (by simp) ?_
        refine AllReadyH.cons (o := ({ dst := some 9, op := Op.alloc 27, type := 0, pos := "outright.go:114", after := #[], guard := none } : Oper)) rfl (fun K hK => ?_) ?_
        · go_simp
          refine hK.out _ _ (PW.alloc hP3 _) (fun hHeld => ?_)
          clear hK K
          (try simp only [Act.put, List.setIfInBounds_toArray, List.set_cons_zero, List.set_cons_succ])
          refine wpAnyH_ready (rs := [13]) (by kernel_rfl) (by simp) ?_
          refine AllReadyH.cons (o := ({ dst := none, op := Op.store 27 (Operand.tmp 9) (Operand.tmp 32), type := 0, pos := "outright.go:114", after := #[{ on := 12, ground := Ground.data }, { on := 10, ground := Ground.data }, { on := 8, ground := Ground.chain }, { on := 0, ground := Ground.phase }, { on := 1, ground := Ground.phase }, { on := 2, ground := Ground.phase }, { on := 3, ground := Ground.phase }, { on := 4, ground := Ground.phase }, { on := 5, ground := Ground.phase }, { on := 6, ground := Ground.phase }, { on := 7, ground := Ground.phase }, { on := 8, ground := Ground.phase }, { on := 9, ground := Ground.phase }, { on := 10, ground := Ground.phase }, { on := 11, ground := Ground.textOnly Departure.lateStores }, { on := 12, ground := Ground.phase }], guard := none } : Oper)) rfl (fun K hK => ?_) ?_
          · go_simp
            refine hK.out _ _ (PW.alloc hP3 _) (fun hHeld => ?_)
            clear hK K
            (try simp only [Act.put, List.setIfInBounds_toArray, List.set_cons_zero, List.set_cons_succ])
            refine wpAnyH_take (i := 14) (oi := ({ dst := some 10, op := Op.assign (Operand.tmp 33), type := 28, pos := "outright.go:114", after := #[{ on := 11, ground := Ground.data }, { on := 13, ground := Ground.chain }, { on := 0, ground := Ground.phase }, { on := 1, ground := Ground.phase }, { on := 2, ground := Ground.phase }, { on := 3, ground := Ground.phase }, { on := 4, ground := Ground.phase }, { on := 5, ground := Ground.phase }, { on := 6, ground := Ground.phase }, { on := 7, ground := Ground.phase }, { on := 8, ground := Ground.phase }, { on := 9, ground := Ground.phase }, { on := 10, ground := Ground.phase }, { on := 11, ground := Ground.phase }, { on := 12, ground := Ground.phase }, { on := 13, ground := Ground.phase }], guard := none } : Oper)) (v := ?_) rfl (by kernel_rfl) (by kernel_rfl) (by kernel_rfl) (fun _ _ _ h => h) (Or.inl ⟨by rfl, ?_⟩) (by assumption) ?_
            rotate_left
            · (intro W hSw; go_simp; try with_reducible rfl)
            (try simp only [Act.put, List.setIfInBounds_toArray, List.set_cons_zero, List.set_cons_succ])
            refine wpAnyH_done (by kernel_rfl) ?_ _
            go_wp2_with fail
            go_meet
            exact ⟨_, _, _, _, rfl, rfl, PU.new hP3.env hP3.below hox, hHeld, hk3⟩
          · exact AllReadyH.nil
        · exact AllReadyH.nil
      refine AllReadyH.cons (o := ({ dst := some 9, op := Op.alloc 27, type := 0, pos := "outright.go:114", after := #[], guard := none } : Oper)) rfl (fun K hK => ?_) ?_
      · go_simp
        refine hK.out _ _ (PW.alloc hP2 _) (fun hHeld => ?_)
        clear hK K
        (try simp only [Act.put, List.setIfInBounds_toArray, List.set_cons_zero, List.set_cons_succ])
        have hrow0 : (w2.alloc (.cells zeroC 27)).heap[w2.heap.size]? = some (.cells zeroC 27 (0, 0)) := heap_new _ _
        refine wpAnyH_ready (rs := [8]) (by kernel_rfl) (by simp) ?_
        refine AllReadyH.cons (o := ({ dst := some 31, op := Op.call { callee := Callee.value (Operand.func 20), args := #[Operand.tmp 30, Operand.const (Value.pointer none)], argTypes := #[9, 44] }, type := 29, pos := "outright.go:114", after := #[{ on := 7, ground := Ground.data }, { on := 5, ground := Ground.chain }], guard := none } : Oper)) rfl (fun K hK => ?_) ?_
        · skip
          go_simp
          go_at_call 20
          refine (cP.out _ (by assumption)).mono ?_
          intro e w3 hr
          obtain ⟨v3, z3, u3, rfl, hb3, hox, hk3⟩ := hr.open
          obtain ⟨sc1, us1, pa1, hh1, hs1, pr1, op1, a1, n1, c1, hq1, hf1, qr1, fr1, rfl⟩ := hox.form
          have hP3 := hHeld.call hb3
          refine hK.out _ _ hP3 (fun hHeld => ?_)
          clear hK K
          (try simp only [Act.put, List.setIfInBounds_toArray, List.set_cons_zero, List.set_cons_succ])
          have hrow : w3.heap[w2.heap.size]? = some (.cells zeroC 27 (0, 0)) := (hb3.block _ (row_lt hrow0)).trans hrow0
          have hl2 := hP2.lt
          have hl3 := hP2.below.size
          refine wpAnyH_take (i := 9) (oi := ({ dst := some 22, op := Op.move (Operand.tmp 31), type := 29, pos := "outright.go:114", after := #[{ on := 8, ground := Ground.data }], guard := none } : Oper)) (v := ?_) rfl (by kernel_rfl) (by kernel_rfl) (by kernel_rfl) (fun _ _ _ h => h) (Or.inl ⟨by rfl, ?_⟩) (by assumption) ?_
          rotate_left
          · (intro W hSw; go_simp; try with_reducible rfl)
          (try simp only [Act.put, List.setIfInBounds_toArray, List.set_cons_zero, List.set_cons_succ])
          refine wpAnyH_take (i := 10) (oi := ({ dst := some 32, op := Op.extract (Operand.tmp 22) 0, type := 27, pos := "outright.go:114", after := #[{ on := 9, ground := Ground.data }], guard := none } : Oper)) (v := ?_) rfl (by kernel_rfl) (by kernel_rfl) (by kernel_rfl) (fun _ _ _ h => h) (Or.inl ⟨by rfl, ?_⟩) (by assumption) ?_
          rotate_left
          · (intro W hSw; go_simp; try with_reducible rfl)
          (try simp only [Act.put, List.setIfInBounds_toArray, List.set_cons_zero, List.set_cons_succ])
          refine wpAnyH_take (i := 11) (oi := ({ dst := some 33, op := Op.extract (Operand.tmp 22) 1, type := 28, pos := "outright.go:114", after := #[{ on := 9, ground := Ground.data }, { on := 13, ground := Ground.gcOnly Departure.lateStores }], guard := none } : Oper)) (v := ?_) rfl (by kernel_rfl) (by kernel_rfl) (by kernel_rfl) (fun _ _ _ h => h) (Or.inl ⟨by rfl, ?_⟩) (by assumption) ?_
          rotate_left
          · (intro W hSw; go_simp; try with_reducible rfl)
          (try simp only [Act.put, List.setIfInBounds_toArray, List.set_cons_zero, List.set_cons_succ])
          refine wpAnyH_ready (rs := [13]) (by kernel_rfl) (by simp) ?_
          refine AllReadyH.cons (o := ({ dst := none, op := Op.store 27 (Operand.tmp 9) (Operand.tmp 32), type := 0, pos := "outright.go:114", after := #[{ on := 12, ground := Ground.data }, { on := 10, ground := Ground.data }, { on := 8, ground := Ground.chain }, { on := 0, ground := Ground.phase }, { on := 1, ground := Ground.phase }, { on := 2, ground := Ground.phase }, { on := 3, ground := Ground.phase }, { on := 4, ground := Ground.phase }, { on := 5, ground := Ground.phase }, { on := 6, ground := Ground.phase }, { on := 7, ground := Ground.phase }, { on := 8, ground := Ground.phase }, { on := 9, ground := Ground.phase }, { on := 10, ground := Ground.phase }, { on := 11, ground := Ground.textOnly Departure.lateStores }, { on := 12, ground := Ground.phase }], guard := none } : Oper)) rfl (fun K hK => ?_) ?_
          · skip
            rw [if_pos (by rfl)]
            refine store_url hrow rfl rfl (by simp [Value.oneCell']) (.tmp 9) (.tmp 32) rfl rfl rfl ?_
            refine hK.out _ _ (hP3.setRow hrow (by omega) (by omega) HE.out) (fun hHeld => ?_)
            clear hK K
            (try simp only [Act.put])
            refine wpAnyH_take (i := 14) (oi := ({ dst := some 10, op := Op.assign (Operand.tmp 33), type := 28, pos := "outright.go:114", after := #[{ on := 11, ground := Ground.data }, { on := 13, ground := Ground.chain }, { on := 0, ground := Ground.phase }, { on := 1, ground := Ground.phase }, { on := 2, ground := Ground.phase }, { on := 3, ground := Ground.phase }, { on := 4, ground := Ground.phase }, { on := 5, ground := Ground.phase }, { on := 6, ground := Ground.phase }, { on := 7, ground := Ground.phase }, { on := 8, ground := Ground.phase }, { on := 9, ground := Ground.phase }, { on := 10, ground := Ground.phase }, { on := 11, ground := Ground.phase }, { on := 12, ground := Ground.phase }, { on := 13, ground := Ground.phase }], guard := none } : Oper)) (v := ?_) rfl (by kernel_rfl) (by kernel_rfl) (by kernel_rfl) (fun _ _ _ h => h) (Or.inl ⟨by rfl, ?_⟩) (by assumption) ?_
            rotate_left
            · (intro W hSw; go_simp; try with_reducible rfl)
            (try simp only [Act.put, List.setIfInBounds_toArray, List.set_cons_zero, List.set_cons_succ])
            refine wpAnyH_done (by kernel_rfl) ?_ _
            go_wp2_with fail
            go_meet
            exact ⟨_, _, _, _, rfl, rfl, PU.store hrow (by omega) HE.out hP3.below hox, hHeld, hk3⟩
          · exact AllReadyH.nil
        · exact AllReadyH.nil
      exact AllReadyH.nil
    refine AllReadyH.cons (o := ({ dst := some 9, op := Op.alloc 27, type := 0, pos := "outright.go:114", after := #[], guard := none } : Oper)) rfl (fun K hK => ?_) ?_
    · go_simp
      refine hK.out _ _ (PW.alloc hPd _) (fun hHeld => ?_)
      clear hK K
      (try simp only [Act.put, List.setIfInBounds_toArray, List.set_cons_zero, List.set_cons_succ])
      have hrow0 : (W.drew.alloc (.cells zeroC 27)).heap[W.heap.size]? = some (.cells zeroC 27 (0, 0)) := heap_new W.drew _
      refine wpAnyH_ready (rs := [5]) (by kernel_rfl) (by simp) ?_
      refine AllReadyH.cons (o := ({ dst := some 28, op := Op.call { callee := Callee.value (Operand.func 21), args := #[Operand.tmp 27], argTypes := #[3] }, type := 9, pos := "outright.go:114", after := #[{ on := 4, ground := Ground.data }], guard := none } : Oper)) rfl (fun K hK => ?_) ?_
      · skip
        go_simp
        go_at_call 21
        refine (cI.out _ (by assumption)).mono ?_
        rintro e w2 ⟨rfl, hP2, hb2⟩
        refine hK.out _ _ hP2 (fun hHeld => ?_)
        clear hK K
        (try simp only [Act.put, List.setIfInBounds_toArray, List.set_cons_zero, List.set_cons_succ])
        have hrow1 : w2.heap[W.heap.size]? = some (.cells zeroC 27 (0, 0)) := (hb2.block _ (row_lt hrow0)).trans hrow0
        refine wpAnyH_take (i := 6) (oi := ({ dst := some 29, op := Op.binOp BinOp.add 9 (Operand.tmp 26) (Operand.tmp 28) 9, type := 9, pos := "outright.go:114", after := #[{ on := 3, ground := Ground.data }, { on := 5, ground := Ground.data }], guard := none } : Oper)) (v := ?_) rfl (by kernel_rfl) (by kernel_rfl) (by kernel_rfl) (fun _ _ _ h => h) (Or.inl ⟨by rfl, ?_⟩) (by assumption) ?_
        rotate_left
        · (intro W hSw; go_simp; try with_reducible rfl)
        (try simp only [Act.put, List.setIfInBounds_toArray, List.set_cons_zero, List.set_cons_succ])
        refine wpAnyH_take (i := 7) (oi := ({ dst := some 30, op := Op.binOp BinOp.add 9 (Operand.tmp 29) (Operand.const (Value.string { data := #[47, 113] })) 9, type := 9, pos := "outright.go:114", after := #[{ on := 6, ground := Ground.data }], guard := none } : Oper)) (v := ?_) rfl (by kernel_rfl) (by kernel_rfl) (by kernel_rfl) (fun _ _ _ h => h) (Or.inl ⟨by rfl, ?_⟩) (by assumption) ?_
        rotate_left
        · (intro W hSw; go_simp; try with_reducible rfl)
        (try simp only [Act.put, List.setIfInBounds_toArray, List.set_cons_zero, List.set_cons_succ])
        refine wpAnyH_ready (rs := [8]) (by kernel_rfl) (by simp) ?_
        refine AllReadyH.cons (o := ({ dst := some 31, op := Op.call { callee := Callee.value (Operand.func 20), args := #[Operand.tmp 30, Operand.const (Value.pointer none)], argTypes := #[9, 44] }, type := 29, pos := "outright.go:114", after := #[{ on := 7, ground := Ground.data }, { on := 5, ground := Ground.chain }], guard := none } : Oper)) rfl (fun K hK => ?_) ?_
        · skip
          go_simp
          go_at_call 20
          refine (cP.out _ (by assumption)).mono ?_
          intro e w3 hr
          obtain ⟨v3, z3, u3, rfl, hb3, hox, hk3⟩ := hr.open
          obtain ⟨sc1, us1, pa1, hh1, hs1, pr1, op1, a1, n1, c1, hq1, hf1, qr1, fr1, rfl⟩ := hox.form
          have hP3 := hHeld.call hb3
          refine hK.out _ _ hP3 (fun hHeld => ?_)
          clear hK K
          (try simp only [Act.put, List.setIfInBounds_toArray, List.set_cons_zero, List.set_cons_succ])
          have hrow : w3.heap[W.heap.size]? = some (.cells zeroC 27 (0, 0)) := (hb3.block _ (row_lt hrow1)).trans hrow1
          have hl2 := HP.out.lt
          have hl3 := HP.out.below.size
          refine wpAnyH_take (i := 9) (oi := ({ dst := some 22, op := Op.move (Operand.tmp 31), type := 29, pos := "outright.go:114", after := #[{ on := 8, ground := Ground.data }], guard := none } : Oper)) (v := ?_) rfl (by kernel_rfl) (by kernel_rfl) (by kernel_rfl) (fun _ _ _ h => h) (Or.inl ⟨by rfl, ?_⟩) (by assumption) ?_
          rotate_left
          · (intro W hSw; go_simp; try with_reducible rfl)
          (try simp only [Act.put, List.setIfInBounds_toArray, List.set_cons_zero, List.set_cons_succ])
          refine wpAnyH_take (i := 10) (oi := ({ dst := some 32, op := Op.extract (Operand.tmp 22) 0, type := 27, pos := "outright.go:114", after := #[{ on := 9, ground := Ground.data }], guard := none } : Oper)) (v := ?_) rfl (by kernel_rfl) (by kernel_rfl) (by kernel_rfl) (fun _ _ _ h => h) (Or.inl ⟨by rfl, ?_⟩) (by assumption) ?_
          rotate_left
          · (intro W hSw; go_simp; try with_reducible rfl)
          (try simp only [Act.put, List.setIfInBounds_toArray, List.set_cons_zero, List.set_cons_succ])
          refine wpAnyH_take (i := 11) (oi := ({ dst := some 33, op := Op.extract (Operand.tmp 22) 1, type := 28, pos := "outright.go:114", after := #[{ on := 9, ground := Ground.data }, { on := 13, ground := Ground.gcOnly Departure.lateStores }], guard := none } : Oper)) (v := ?_) rfl (by kernel_rfl) (by kernel_rfl) (by kernel_rfl) (fun _ _ _ h => h) (Or.inl ⟨by rfl, ?_⟩) (by assumption) ?_
          rotate_left
          · (intro W hSw; go_simp; try with_reducible rfl)
          (try simp only [Act.put, List.setIfInBounds_toArray, List.set_cons_zero, List.set_cons_succ])
          refine wpAnyH_ready (rs := [13]) (by kernel_rfl) (by simp) ?_
          refine AllReadyH.cons (o := ({ dst := none, op := Op.store 27 (Operand.tmp 9) (Operand.tmp 32), type := 0, pos := "outright.go:114", after := #[{ on := 12, ground := Ground.data }, { on := 10, ground := Ground.data }, { on := 8, ground := Ground.chain }, { on := 0, ground := Ground.phase }, { on := 1, ground := Ground.phase }, { on := 2, ground := Ground.phase }, { on := 3, ground := Ground.phase }, { on := 4, ground := Ground.phase }, { on := 5, ground := Ground.phase }, { on := 6, ground := Ground.phase }, { on := 7, ground := Ground.phase }, { on := 8, ground := Ground.phase }, { on := 9, ground := Ground.phase }, { on := 10, ground := Ground.phase }, { on := 11, ground := Ground.textOnly Departure.lateStores }, { on := 12, ground := Ground.phase }], guard := none } : Oper)) rfl (fun K hK => ?_) ?_
          · skip
            rw [if_pos (by rfl)]
            refine store_url hrow rfl rfl (by simp [Value.oneCell']) (.tmp 9) (.tmp 32) rfl rfl rfl ?_
            refine hK.out _ _ (hP3.setRow hrow (by omega) (by omega) HE.out) (fun hHeld => ?_)
            clear hK K
            (try simp only [Act.put])
            refine wpAnyH_take (i := 14) (oi := ({ dst := some 10, op := Op.assign (Operand.tmp 33), type := 28, pos := "outright.go:114", after := #[{ on := 11, ground := Ground.data }, { on := 13, ground := Ground.chain }, { on := 0, ground := Ground.phase }, { on := 1, ground := Ground.phase }, { on := 2, ground := Ground.phase }, { on := 3, ground := Ground.phase }, { on := 4, ground := Ground.phase }, { on := 5, ground := Ground.phase }, { on := 6, ground := Ground.phase }, { on := 7, ground := Ground.phase }, { on := 8, ground := Ground.phase }, { on := 9, ground := Ground.phase }, { on := 10, ground := Ground.phase }, { on := 11, ground := Ground.phase }, { on := 12, ground := Ground.phase }, { on := 13, ground := Ground.phase }], guard := none } : Oper)) (v := ?_) rfl (by kernel_rfl) (by kernel_rfl) (by kernel_rfl) (fun _ _ _ h => h) (Or.inl ⟨by rfl, ?_⟩) (by assumption) ?_
            rotate_left
            · (intro W hSw; go_simp; try with_reducible rfl)
            (try simp only [Act.put, List.setIfInBounds_toArray, List.set_cons_zero, List.set_cons_succ])
            refine wpAnyH_done (by kernel_rfl) ?_ _
            go_wp2_with fail
            go_meet
            exact ⟨_, _, _, _, rfl, rfl, PU.store hrow (by omega) HE.out hP3.below hox, hHeld, hk3⟩
          · exact AllReadyH.nil
        · exact AllReadyH.nil
      · exact AllReadyH.nil
    exact AllReadyH.nil
  case rest =>
    obtain ⟨r, C, u, z, rfl, rfl, hU, hP1, hk⟩ := hcut
    obtain ⟨sc1, us1, pa1, hh1, hs1, pr1, op1, a1, n1, c1, hq1, hf1, qr1, fr1, hC⟩ := hU.own.form
    obtain rfl : C = #[.string sc1, .string us1, .string pa1, .bool hh1, .string hs1, .int .i64 pr1, .bool op1, .slice a1 n1 c1, .bool hq1, .bool hf1, .string qr1, .string fr1] := by injection hC
    clear hC
    have HU := Lib.hid hU
    have HP1 := Lib.hid hP1
    clear hU hP1 hPd cP HP
    by_cases hbig : 65535 < n
    · have hbI : (65535 : Int) < (n : Int) := by omega
      have hz : z = 81 := by
        have hR := HR.out
        rw [if_pos hbig] at hR
        rcases hk with ⟨h, _⟩ | ⟨m, h, _, h2⟩
        · rw [hR] at h; cases h
        · rw [hR] at h; injection h with h; rw [h2, ← h]; rfl
      have hzb : (z == 81) = true := by rw [hz]; rfl
      have cH := Lib.hid (places_any wc HU.out.env)
      clear hbig hz hk
      go_wp2_with fail
      refine cH.out.mono ?_
      rintro e w4 ⟨rfl, hb4⟩
      go_wp2_with fail
      go_ret
      exact ⟨rfl, below_call HU.out.below hb4⟩
    · have hbI : ¬ (65535 : Int) < (n : Int) := by omega
      obtain ⟨hu, hz⟩ : u = Lz.portV k n ∧ z = 0 := by
        have hR := HR.out
        rw [if_neg hbig] at hR
        rcases hk with ⟨h, h2⟩ | ⟨m, h, _⟩
        · rw [hR] at h; injection h with h; exact ⟨h.symm, h2⟩
        · rw [hR] at h; cases h
      have hzb : (z == 0) = true := by rw [hz]; rfl
      have hpr := url_port HU.out.own.val
      rw [hu] at hpr
      have hprt : pr1 = if n = Lz.ownAt k then -1 else (n : Int) := hpr.symm
      have cst := HP1.out.str
      have cow := HP1.out.own
      obtain ⟨ow, how⟩ : ∃ ow : Int, ow = (Lz.ownAt k : Int) := ⟨_, rfl⟩
      rw [← how] at cow
      have hO := origOk_parse (s := Lz.portX k n) (b := none) (u := Lz.portV k n) (by rw [Lz.port_parse k n HK.out HN.out, if_neg hbig]) (fun y h => by cases h)
      have hOb := origOk_parse (Lz.bare_parse k HK.out) (fun y h => by cases h)
      obtain ⟨GO, hGO⟩ : ∃ GO : ByteArray, GO.data.toList = Lz.originU (Lz.portV k n) := ⟨⟨(Lz.originU (Lz.portV k n)).toArray⟩, rfl⟩
      have hpo := Lz.port_origin k n HK.out
      have hwd : (sk ++ ⟨#[58, 47, 47, 104, 46, 120]⟩ : ByteArray).data.toList = Lz.schemeAt k ++ [58, 47, 47, 104, 46, 120] := by rw [append_data', HS.out]
      have hbo : Lz.originU (Lz.bareV k) = Lz.schemeAt k ++ [58, 47, 47, 104, 46, 120] := by
        have := Lz.port_origin k (Lz.ownAt k) HK.out
        rw [if_pos rfl, List.append_nil] at this
        rw [← this]
        unfold Lz.originU Lz.bareV Lz.portV Lz.atU
        simp
      have hdef := Lz.scheme_def k HK.out
      have HU2 : Hid (PU r #[.string sc1, .string us1, .string pa1, .bool hh1, .string hs1, .int .i64 pr1, .bool op1, .slice a1 n1 c1, .bool hq1, .bool hf1, .string qr1, .string fr1] (Lz.portV k n) w wc) := Lib.hid (by rw [← hu]; exact HU.out)
      have hbp := Lz.bare_parse k HK.out
      have HBP := Lib.hid hbp
      have HHwd := Lib.hid hwd
      have HOs := Lib.hid hO
      have HOb := Lib.hid hOb
      have HGO := Lib.hid hGO
      have HPO := Lib.hid hpo
      have HBO := Lib.hid hbo
      have HDef := Lib.hid (hdef.trans how.symm)
      have HPr := Lib.hid hprt
      have HHow := Lib.hid how
      have how2 : Hid (ow = (Lz.ownAt k : Int)) := Lib.hid how
      clear hu hz hk HU hpr hprt hO hOb hGO hpo hwd hbo hdef hbp how hbig
      obtain ⟨q, hq⟩ : ∃ q, q = decide (n = Lz.ownAt k) := ⟨_, rfl⟩
      have hne : ((n : Int) != ow) = !q := by
        rw [hq, HHow.out, Bool.eq_iff_iff]; simp; omega
      have HQ := Lib.hid hq
      clear hq
      go_upto_if 49 with fail
      go_cut [11] (fun t wx => t = .string GO ∧ PU r #[.string sc1, .string us1, .string pa1, .bool hh1, .string hs1, .int .i64 pr1, .bool op1, .slice a1 n1 c1, .bool hq1, .bool hf1, .string qr1, .string fr1] (Lz.portV k n) w wx ∧ PW B k sk w wx)
      case first =>
        cases q with
        | true =>
          have hG : (sk ++ ⟨#[58, 47, 47, 104, 46, 120]⟩ : ByteArray) = GO := by
            have e : (sk ++ ⟨#[58, 47, 47, 104, 46, 120]⟩ : ByteArray).data.toList = GO.data.toList := by
              rw [HHwd.out, HGO.out, HPO.out, if_pos (of_decide_eq_true HQ.out.symm), List.append_nil]
            exact bytes_ext e
          go_wp2_with fail
          go_meet
          exact ⟨by first | rfl | rw [hG], HU2.out, HP1.out⟩
        | false =>
          have hG : (sk ++ ⟨#[58, 47, 47, 104, 46, 120]⟩ ++ ⟨#[58]⟩ ++ D : ByteArray) = GO := by
            have e : (sk ++ ⟨#[58, 47, 47, 104, 46, 120]⟩ ++ ⟨#[58]⟩ ++ D : ByteArray).data.toList = GO.data.toList := by
              rw [append_data', append_data', HHwd.out, HGO.out, HPO.out, if_neg (of_decide_eq_false HQ.out.symm), HD.out]; simp
            exact bytes_ext e
          have cI2 := Lib.hid (cI.out wc HP1.out)
          go_wp2_with fail
          refine cI2.out.mono ?_
          rintro e w4 ⟨rfl, hP4, hb4⟩
          go_wp2_with fail
          go_meet
          exact ⟨by first | rfl | rw [hG], HU2.out.call hb4, hP4⟩
      case rest =>
        obtain ⟨rfl, hU3, hP3⟩ := hcut
        have HU3 := Lib.hid hU3
        have HP3 := Lib.hid hP3
        have cB := Lib.hid (parse_any0 (sk ++ ⟨#[58, 47, 47, 104, 46, 120]⟩) wc hU3.env)
        rw [HHwd.out, HBP.out] at cB
        have cst3 := hP3.str
        clear hU3 hP3 HU2 HP1 cst cow
        go_wp2_with fail
        refine cB.out.mono ?_
        intro e w4 hr
        obtain ⟨v4, z4, u4, rfl, hb4, hox, hk4⟩ := hr.open
        obtain ⟨rfl, rfl⟩ : u4 = Lz.bareV k ∧ z4 = 0 := by
          rcases hk4 with ⟨h, h2⟩ | ⟨m, h, _⟩
          · injection h with h; exact ⟨h.symm, h2⟩
          · cases h
        obtain ⟨sc2, us2, pa2, hh2, hs2, pr2, op2, a2, n2, c2, hq2, hf2, qr2, fr2, rfl⟩ := hox.form
        have hU4 := (HU3.out.call hb4).alloc (.cells #[.string sc2, .string us2, .string pa2, .bool hh2, .string hs2, .int .i64 pr2, .bool op2, .slice a2 n2 c2, .bool hq2, .bool hf2, .string qr2, .string fr2] 27)
        have hP4 := (HP3.out.call hb4).alloc (.cells #[.string sc2, .string us2, .string pa2, .bool hh2, .string hs2, .int .i64 pr2, .bool op2, .slice a2 n2 c2, .bool hq2, .bool hf2, .string qr2, .string fr2] 27)
        have hV4 := PU.new (w := w) (HU3.out.env.below hb4) (below_call HU3.out.below hb4) hox
        clear hk4 hox hr cB hb4 HU3 HP3 cst3
        go_upto_region 12 with fail
        generalize w4.alloc (.cells #[.string sc2, .string us2, .string pa2, .bool hh2, .string hs2, .int .i64 pr2, .bool op2, .slice a2 n2 c2, .bool hq2, .bool hf2, .string qr2, .string fr2] 27) = V4 at hU4 hP4 hV4 ⊢
        generalize w4.heap.size = r4 at hV4 ⊢
        have hpr2 := url_port hV4.own.val
        have e5 : (pr2 == -1) = true := by rw [← hpr2]; rfl
        have cO1 : Hid (∀ V, (PU r #[.string sc1, .string us1, .string pa1, .bool hh1, .string hs1, .int .i64 pr1, .bool op1, .slice a1 n1 c1, .bool hq1, .bool hf1, .string qr1, .string fr1] (Lz.portV k n) w V ∧ PU r4 #[.string sc2, .string us2, .string pa2, .bool hh2, .string hs2, .int .i64 pr2, .bool op2, .slice a2 n2 c2, .bool hq2, .bool hf2, .string qr2, .string fr2] (Lz.bareV k) w V ∧ PW B k sk w V) → Calls Tryz.prog 22 #[.agg #[.string sc1, .string us1, .string pa1, .bool hh1, .string hs1, .int .i64 pr1, .bool op1, .slice a1 n1 c1, .bool hq1, .bool hf1, .string qr1, .string fr1]] V fun e w' => e = .returned (.string GO) ∧ (PU r #[.string sc1, .string us1, .string pa1, .bool hh1, .string hs1, .int .i64 pr1, .bool op1, .slice a1 n1 c1, .bool hq1, .bool hf1, .string qr1, .string fr1] (Lz.portV k n) w w' ∧ PU r4 #[.string sc2, .string us2, .string pa2, .bool hh2, .string hs2, .int .i64 pr2, .bool op2, .slice a2 n2 c2, .bool hq2, .bool hf2, .string qr2, .string fr2] (Lz.bareV k) w w' ∧ PW B k sk w w')) := Lib.hid (fun V hV => (origin_det _ _ V GO hV.1.own.val hV.1.env HOs.out HGO.out).mono fun e w' ⟨h1, h2⟩ => ⟨h1, hV.1.call h2, hV.2.1.call h2, hV.2.2.call h2⟩)
        have cO2 : Hid (∀ V, (PU r #[.string sc1, .string us1, .string pa1, .bool hh1, .string hs1, .int .i64 pr1, .bool op1, .slice a1 n1 c1, .bool hq1, .bool hf1, .string qr1, .string fr1] (Lz.portV k n) w V ∧ PU r4 #[.string sc2, .string us2, .string pa2, .bool hh2, .string hs2, .int .i64 pr2, .bool op2, .slice a2 n2 c2, .bool hq2, .bool hf2, .string qr2, .string fr2] (Lz.bareV k) w V ∧ PW B k sk w V) → Calls Tryz.prog 22 #[.agg #[.string sc2, .string us2, .string pa2, .bool hh2, .string hs2, .int .i64 pr2, .bool op2, .slice a2 n2 c2, .bool hq2, .bool hf2, .string qr2, .string fr2]] V fun e w' => e = .returned (.string (sk ++ ⟨#[58, 47, 47, 104, 46, 120]⟩)) ∧ (PU r #[.string sc1, .string us1, .string pa1, .bool hh1, .string hs1, .int .i64 pr1, .bool op1, .slice a1 n1 c1, .bool hq1, .bool hf1, .string qr1, .string fr1] (Lz.portV k n) w w' ∧ PU r4 #[.string sc2, .string us2, .string pa2, .bool hh2, .string hs2, .int .i64 pr2, .bool op2, .slice a2 n2 c2, .bool hq2, .bool hf2, .string qr2, .string fr2] (Lz.bareV k) w w' ∧ PW B k sk w w')) := Lib.hid (fun V hV => (origin_det _ _ V _ hV.2.1.own.val hV.1.env HOb.out (by rw [HHwd.out, HBO.out])).mono fun e w' ⟨h1, h2⟩ => ⟨h1, hV.1.call h2, hV.2.1.call h2, hV.2.2.call h2⟩)
        have cD : Hid (∀ V, (PU r #[.string sc1, .string us1, .string pa1, .bool hh1, .string hs1, .int .i64 pr1, .bool op1, .slice a1 n1 c1, .bool hq1, .bool hf1, .string qr1, .string fr1] (Lz.portV k n) w V ∧ PU r4 #[.string sc2, .string us2, .string pa2, .bool hh2, .string hs2, .int .i64 pr2, .bool op2, .slice a2 n2 c2, .bool hq2, .bool hf2, .string qr2, .string fr2] (Lz.bareV k) w V ∧ PW B k sk w V) → Calls Tryz.prog 15 #[.string sk] V fun e w' => e = .returned (.int .i64 ow) ∧ (PU r #[.string sc1, .string us1, .string pa1, .bool hh1, .string hs1, .int .i64 pr1, .bool op1, .slice a1 n1 c1, .bool hq1, .bool hf1, .string qr1, .string fr1] (Lz.portV k n) w w' ∧ PU r4 #[.string sc2, .string us2, .string pa2, .bool hh2, .string hs2, .int .i64 pr2, .bool op2, .slice a2 n2 c2, .bool hq2, .bool hf2, .string qr2, .string fr2] (Lz.bareV k) w w' ∧ PW B k sk w w')) := Lib.hid (fun V hV => (default_is sk ow V (by rw [HS.out]; exact HDef.out)).mono fun e w' ⟨h1, h2⟩ => by subst h2; exact ⟨h1, hV⟩)
        have cH : Hid (∀ V, (PU r #[.string sc1, .string us1, .string pa1, .bool hh1, .string hs1, .int .i64 pr1, .bool op1, .slice a1 n1 c1, .bool hq1, .bool hf1, .string qr1, .string fr1] (Lz.portV k n) w V ∧ PU r4 #[.string sc2, .string us2, .string pa2, .bool hh2, .string hs2, .int .i64 pr2, .bool op2, .slice a2 n2 c2, .bool hq2, .bool hf2, .string qr2, .string fr2] (Lz.bareV k) w V ∧ PW B k sk w V) → Calls Tryz.prog 12 #[] V fun e w' => e = .returned (.bool true) ∧ (PU r #[.string sc1, .string us1, .string pa1, .bool hh1, .string hs1, .int .i64 pr1, .bool op1, .slice a1 n1 c1, .bool hq1, .bool hf1, .string qr1, .string fr1] (Lz.portV k n) w w' ∧ PU r4 #[.string sc2, .string us2, .string pa2, .bool hh2, .string hs2, .int .i64 pr2, .bool op2, .slice a2 n2 c2, .bool hq2, .bool hf2, .string qr2, .string fr2] (Lz.bareV k) w w' ∧ PW B k sk w w')) := Lib.hid (fun V hV => (places_any V hV.1.env).mono fun e w' ⟨h1, h2⟩ => ⟨h1, hV.1.call h2, hV.2.1.call h2, hV.2.2.call h2⟩)
        have hK : PU r #[.string sc1, .string us1, .string pa1, .bool hh1, .string hs1, .int .i64 pr1, .bool op1, .slice a1 n1 c1, .bool hq1, .bool hf1, .string qr1, .string fr1] (Lz.portV k n) w V4 ∧ PU r4 #[.string sc2, .string us2, .string pa2, .bool hh2, .string hs2, .int .i64 pr2, .bool op2, .slice a2 n2 c2, .bool hq2, .bool hf2, .string qr2, .string fr2] (Lz.bareV k) w V4 ∧ PW B k sk w V4 := ⟨hU4, hV4, hP4⟩
        have hKd : PU r #[.string sc1, .string us1, .string pa1, .bool hh1, .string hs1, .int .i64 pr1, .bool op1, .slice a1 n1 c1, .bool hq1, .bool hf1, .string qr1, .string fr1] (Lz.portV k n) w V4.drew ∧ PU r4 #[.string sc2, .string us2, .string pa2, .bool hh2, .string hs2, .int .i64 pr2, .bool op2, .slice a2 n2 c2, .bool hq2, .bool hf2, .string qr2, .string fr2] (Lz.bareV k) w V4.drew ∧ PW B k sk w V4.drew := ⟨hU4.drew, hV4.drew, hP4.drew⟩
        have e1 : (pr1 == -1) = q := by
          rw [HPr.out, HQ.out]
          by_cases h : n = Lz.ownAt k
          · simp [h]
          · simp [h] <;> omega
        have e2 : ((n : Int) == ow) = q := by
          rw [HQ.out, HHow.out, Bool.eq_iff_iff]; simp; omega
        have e3 : (pr1 == (n : Int)) = !q := by
          rw [HPr.out, HQ.out]
          by_cases h : n = Lz.ownAt k
          · simp [h] <;> omega
          · simp [h]
        clear hpr2 hU4 hV4 hP4 HQ HPr HDef HBO HPO HHow HGO
        cases q
        all_goals
          go_region_held3 (fun V => ((V.cell? ⟨r, 0, none⟩ = some (.string sc1) ∧ V.cell? ⟨r, 1, none⟩ = some (.string us1) ∧ V.cell? ⟨r, 2, none⟩ = some (.string pa1) ∧ V.cell? ⟨r, 3, none⟩ = some (.bool hh1) ∧ V.cell? ⟨r, 4, none⟩ = some (.string hs1) ∧ V.cell? ⟨r, 5, none⟩ = some (.int .i64 pr1) ∧ V.cell? ⟨r, 6, none⟩ = some (.bool op1) ∧ V.cell? ⟨r, 7, none⟩ = some (.slice a1 n1 c1) ∧ V.cell? ⟨r, 8, none⟩ = some (.bool hq1) ∧ V.cell? ⟨r, 9, none⟩ = some (.bool hf1) ∧ V.cell? ⟨r, 10, none⟩ = some (.string qr1) ∧ V.cell? ⟨r, 11, none⟩ = some (.string fr1)) ∧ (V.cell? ⟨r4, 0, none⟩ = some (.string sc2) ∧ V.cell? ⟨r4, 1, none⟩ = some (.string us2) ∧ V.cell? ⟨r4, 2, none⟩ = some (.string pa2) ∧ V.cell? ⟨r4, 3, none⟩ = some (.bool hh2) ∧ V.cell? ⟨r4, 4, none⟩ = some (.string hs2) ∧ V.cell? ⟨r4, 5, none⟩ = some (.int .i64 pr2) ∧ V.cell? ⟨r4, 6, none⟩ = some (.bool op2) ∧ V.cell? ⟨r4, 7, none⟩ = some (.slice a2 n2 c2) ∧ V.cell? ⟨r4, 8, none⟩ = some (.bool hq2) ∧ V.cell? ⟨r4, 9, none⟩ = some (.bool hf2) ∧ V.cell? ⟨r4, 10, none⟩ = some (.string qr2) ∧ V.cell? ⟨r4, 11, none⟩ = some (.string fr2)) ∧ V.cell? ⟨B, k, none⟩ = some (.string sk) ∧ V.cell? ⟨B + 1, k, none⟩ = some (.int .i64 ow)) ∧ (PU r #[.string sc1, .string us1, .string pa1, .bool hh1, .string hs1, .int .i64 pr1, .bool op1, .slice a1 n1 c1, .bool hq1, .bool hf1, .string qr1, .string fr1] (Lz.portV k n) w V ∧ PU r4 #[.string sc2, .string us2, .string pa2, .bool hh2, .string hs2, .int .i64 pr2, .bool op2, .slice a2 n2 c2, .bool hq2, .bool hf2, .string qr2, .string fr2] (Lz.bareV k) w V ∧ PW B k sk w V)) (first | exact ⟨⟨row12 (PU.row (And.left (by assumption))), row12 (PU.row (And.left (And.right (by assumption)))), PW.str (And.right (And.right (by assumption))), PW.own2 how2 (And.right (And.right (by assumption)))⟩, by assumption⟩ | assumption) (first | (go_at_call_of 22 (Value.agg #[.string sc1, .string us1, .string pa1, .bool hh1, .string hs1, .int .i64 pr1, .bool op1, .slice a1 n1 c1, .bool hq1, .bool hf1, .string qr1, .string fr1]); refine (cO1.out _ (by assumption)).mono ?_; rintro e w5 ⟨rfl, hK5⟩) | (go_at_call_of 22 (Value.agg #[.string sc2, .string us2, .string pa2, .bool hh2, .string hs2, .int .i64 pr2, .bool op2, .slice a2 n2 c2, .bool hq2, .bool hf2, .string qr2, .string fr2]); refine (cO2.out _ (by assumption)).mono ?_; rintro e w5 ⟨rfl, hK5⟩) | (go_at_call 15; refine (cD.out _ (by assumption)).mono ?_; rintro e w5 ⟨rfl, hK5⟩) | (go_at_call 12; refine (cH.out _ (by assumption)).mono ?_; rintro e w5 ⟨rfl, hK5⟩))
          go_wp2_with fail
          go_ret
          exact ⟨rfl, hK5.1.below⟩
end Go.Proofs.YthijceooebebfaaGreatDoor

namespace Go.Proofs.YthijceooebebfaaGreatDoor.urlsPorts
open Go.ChangeShapes Go.WideShapes Go.ChangeAt Go.RowKit Go.Proofs.YthijceooebebfaaGreatDoor

theorem walk (m0 : Nat) (m1 : Nat) (w : World) (hm0 : m0 < 256) (hm1 : m1 < 4294967296) (hE : EnvU w) : Calls Tryz.prog 8 #[.int .u8 m0, .int .u32 m1] w (RBool true w) := urlsPorts_any m0 m1 w hm0 hm1 hE

theorem env {W : World} (h : laidMetH Tryz.prog Rows.urlsSchemesRow.laid W) (hsh : W.ShapedOpen Tryz.prog) : EnvU W := envU_row h hsh

set_option maxRecDepth 100000 in
/-- WHAT THE WALK GIVES, FOR EVERY ARGUMENT AND EVERY WORLD THAT HOLDS WHAT THE ROW LISTS. -/
theorem contract (H : Type) (enc : TypeId × Value → H) (W : World) (base : Nat) (args : Array Value) (ds gs : List (DataW H)) (before : List MemPlace)
    (hval : ∀ (j : Nat) t v, Tryz.f8.params[j]? = some t → args[j]? = some v → Value.okWide Tryz.prog W .any base t v)
    (hW : DataW.Whole enc Tryz.prog Tryz.f8.params.toList Rows.urlsPortsSpec.vars false W args.toList ds gs before) (hL : laidMetH Tryz.prog Rows.urlsPortsRow.laid W) (hsh : W.ShapedOpen Tryz.prog) :
    Calls Tryz.prog 8 args W fun e W' => ∃ v, e = .returned v ∧ Rows.urlsPortsSpec.post enc Tryz.prog Tryz.f8 false true false false W args v W' := by
  have hW' := hW
  obtain ⟨p, q, hA0, hV, rfl, hfz, hnd⟩ := hW
  have hA : DataW.TrodAll enc Tryz.prog W 0 (fun _ => true) true Tryz.f8.params.toList args.toList ds p := hA0
  rw [Tryz.params8] at hA hval
  have hAk := hA
  have hlt : ∀ x ∈ p, x.block < W.heap.size := fun x hx => hW'.lt x (List.mem_append_left _ hx)
  obtain ⟨v0, v1, d0, d1, p0, p1, rfl, rfl, rfl, h0, h1⟩ := trodAll_two hA
  obtain ⟨rfl, rfl⟩ := trodVars_none hV
  obtain ⟨z0, rfl, rfl, rfl, hz0⟩ := open_int Tryz.underlying5 (hval 0 5 v0 rfl rfl) h0
  obtain ⟨m0, rfl, hm0⟩ := nat8_of_wf' hz0
  obtain ⟨z1, rfl, rfl, rfl, hz1⟩ := open_int Tryz.underlying39 (hval 1 39 v1 rfl rfl) h1
  obtain ⟨m1, rfl, hm1⟩ := nat32_of_wf' hz1
  clear hA0
  refine (walk m0 m1 W hm0 hm1 (env hL hsh)).mono fun e W' hr => ?_
  obtain ⟨he, hb⟩ : e = .returned (.bool true) ∧ Below W.heap.size W W' := hr
  subst he
  refine ⟨_, rfl, _, _, _, [], [] ++ [], [], hW', ?_, ?_, ?_, hb.frame _, ?_⟩
  · exact trodAll_mk1 (shut_bool Tryz.underlying4 true)
  · exact trodAll_below hb (by decide +kernel) hAk hlt
  · rfl
  · exact fun h => by cases h

theorem met (os : Os) (args : Array Value) : laidMetH Tryz.prog Rows.urlsPortsRow.laid ((startU os).forCall (fun _ _ => 0) ⟨#[], args, []⟩).memory := metU os args
theorem reads (os : Os) {H : Type} (enc : TypeId × Value → H) : ∃ places, DataW.whole enc Tryz.prog ((startU os).forCall (fun _ _ => 0) ⟨#[], #[.int .u8 0, .int .u32 0], []⟩).memory Tryz.f8.params.toList Rows.urlsPortsSpec.vars false #[Value.int .u8 0, .int .u32 0].toList 8 = some ([.lit (.int .u8 0), .lit (.int .u32 0)], [], places) :=
  ⟨[], by kernel_rfl⟩

set_option maxRecDepth 100000 in
theorem lifted (os : Os) (started : os.Started) (H : Type) (enc : TypeId × Value → H) (F : Stop.Interp) :
    ReturnsInHanded {} Tryz.checked os 8 .any ((OpenSpec.ofChange Rows.urlsPortsSpec).preRow enc Tryz.prog Tryz.f8 Rows.urlsPortsRow.domain false Rows.urlsPortsRow.laid) (((OpenSpec.ofChange Rows.urlsPortsSpec).at F).post enc Tryz.prog Tryz.f8 false true false false) := by
  obtain ⟨places, hx⟩ := reads os enc
  refine returnsInHanded_of_row (C := Tryz.checked) (s := OpenSpec.ofChange Rows.urlsPortsSpec) ownU started (by kernel_rfl) Tryz.func8
    (witness_row_atRef (enc := enc) (C := Tryz.checked) false (startU os) #[.int .u8 0, .int .u32 0] rfl (by kernel_rfl) (by kernel_rfl) (by kernel_rfl)
      (OpenSpec.preRow_of_cond 8 hx (by kernel_rfl) (fun k hk => by cases hk) (by kernel_rfl) (met os _))) ?_
  intro W base args ds gs before hval hW _ _ _ hL hsh _
  exact contract H enc W base args ds gs before hval hW hL hsh

theorem c1 : Rows.urlsPortsRow.wf (OpenSpec.ofChange Rows.urlsPortsSpec) = true := by kernel_rfl
theorem c2 : namedTie Tryz.prog Rows.urlsPortsRow.named Rows.urlsPortsSpec.vars = true := by kernel_rfl
theorem c3 : (Rows.urlsPortsRow.inPlace == Tryz.prog.inPlace 8) = true := by kernel_rfl
theorem c4 : (Rows.urlsPortsRow.unfollowed == Tryz.prog.unfollowed 8) = true := by kernel_rfl
theorem c5 : (Rows.urlsPortsRow.recurses == Tryz.prog.recurses 8) = true := by kernel_rfl
theorem c6 : (Rows.urlsPortsRow.named == Tryz.prog.varsNamed 8) = true := by kernel_rfl
theorem c7 : (Rows.urlsPortsRow.lifted == Tryz.prog.liftsFinal) = true := liftU
theorem c8 : (Tryz.prog.make == some Rows.urlsPortsRow.make) = true := makeU
theorem c9 : (Rows.urlsPortsRow.plainKeys == Tryz.prog.plainKeys) = true := keysU
theorem closed : joinedFacts Tryz.prog 8 Tryz.f8 Rows.urlsPortsSpec Rows.urlsPortsRow = true := by
  unfold joinedFacts
  repeat' (with_reducible refine andI ?_ ?_)
  all_goals first
    | with_reducible exact c1 | with_reducible exact laidOut | with_reducible exact mapsU | with_reducible exact c2 | with_reducible exact c3 | with_reducible exact c4 | with_reducible exact c5 | with_reducible exact c6
    | with_reducible exact c9 | with_reducible exact heardU | with_reducible exact mayU | with_reducible exact c7 | with_reducible exact c8
    | kernel_rfl
set_option maxRecDepth 100000 in
theorem said : Rows.UrlsPortsSaid :=
  OpenClaim.holds_of_cond 8 Tryz.f8 rfl rfl rfl rfl rfl rfl rfl ⟨rfl, rfl, rfl, rfl, rfl⟩ rfl rfl rfl rfl rfl (by kernel_rfl) Tryz.func8 closed
    (of_decide_eq_true (by kernel_rfl)) (by unfold Func.isWrapper; first | (rw [if_pos (by decide +kernel)]; kernel_rfl) | (rw [if_neg (by decide +kernel)]; exact ⟨rfl, rfl⟩))
    (fun os started H enc _ F => by rw [OpenClaim.pre_eq_preRow]; exact lifted os started H enc F)

theorem plain (f : FuncId) (fn : Func) (hf : Tryz.pinned.checked.prog.funcNamed "lazaret/lazaretlaw08.UrlsPorts" = some f) (hfn : Tryz.pinned.checked.prog.funcs[f]? = some fn) :
    true = Tryz.pinned.checked.prog.looks [] ∧ ∀ (j : Nat) t, fn.params[j]? = some t → Tryz.pinned.checked.prog.wantsStandIn t = false := by
  obtain rfl : f = 8 := Option.some.inj ((show Tryz.prog.funcNamed "lazaret/lazaretlaw08.UrlsPorts" = some 8 by kernel_rfl).symm.trans hf) |>.symm
  obtain rfl : fn = Tryz.f8 := (Option.some.inj (Tryz.func8.symm.trans hfn)).symm
  refine ⟨by kernel_rfl, fun j t ht => ?_⟩
  rw [Tryz.params8] at ht
  have hall : ∀ t ∈ (#[5, 39] : Array TypeId), Tryz.prog.wantsStandIn t = false := by decide +kernel
  exact hall t (Array.mem_of_getElem? ht)

theorem card : Rows.UrlsPortsCardSaid :=
  Claim7.holds_tied_plain_at .later [] _ _ _ _ said (fun _ h => by cases h) (by kernel_rfl) (fun _ h => by cases h) urlsPorts_row_tie rfl ⟨rfl, rfl⟩ (by kernel_rfl) rfl plain (by kernel_rfl)
end Go.Proofs.YthijceooebebfaaGreatDoor.urlsPorts
