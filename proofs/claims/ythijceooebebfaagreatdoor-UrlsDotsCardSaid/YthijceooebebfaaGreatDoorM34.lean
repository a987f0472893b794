/-
  lazaretlaw08: rows of URLs that a law keeps; UrlsAgain.
  From a row's list of what is laid, and from the world's shape, to 'EnvU': what the walks of package urls ask of the package-level variables.
  From what a row hands over to what the walks ask, and back: arguments of several shapes. No condition.
  What the rows of lazaretlaw08 share: what is laid, and a world that a witness starts in.
-/
import Derived.Test.YthijceooebebfaaGreatDoorM33
import Derived.Test.YthijceooebebfaaGreatDoorM25
import Derived.Test.YthijceooebebfaaGreatDoorRows
import Derived.ProofKit
import Derived.OpenShut
import Derived.Deep.DeepHandedRow
import Derived.Deep.DeepWitnessRowRef
import Derived.Lib.LaidTab
import Derived.Lib.LaidU8
import Derived.LaidMore
import Derived.LaidSub
import Derived.LaidHandle
import Derived.Shelf.Vars
import Derived.PinnedBridge
import Derived.Test.YthijceooebebfaaGreatDoorM04
import Derived.Carry
namespace Go.Proofs.YthijceooebebfaaGreatDoor
open Go.RowKit
/-- A URL that a law keeps in a row of its own. -/
structure PU (r : Nat) (C : Array Value) (u : Lz.UrlL) (W0 V : World) : Prop where
  row : V.heap[r]? = some (.cells C 27 (0, 0))
  below : Below W0.heap.size W0 V
  env : EnvU V
  own : UrlOwn V (.agg C) u
theorem PU.new {w w2 : World} {C : Array Value} {u : Lz.UrlL} (hE : EnvU w2) (hb : Below w.heap.size w w2) (ho : UrlOwn w2 (.agg C) u) : PU w2.heap.size C u w (w2.alloc (.cells C 27)) :=
  have hba := (Below.refl w2.heap.size w2).alloc (Nat.le_refl _) (.cells C 27)
  ⟨heap_new _ _, below_call hb hba, hE.below hba, ho.below hba⟩
theorem PU.call {r : Nat} {C : Array Value} {u : Lz.UrlL} {W0 V V' : World} (h : PU r C u W0 V) (hb : Below V.heap.size V V') : PU r C u W0 V' :=
  ⟨(hb.block _ (row_lt h.row)).trans h.row, below_call h.below hb, h.env.below hb, h.own.below hb⟩
theorem PU.alloc {r : Nat} {C : Array Value} {u : Lz.UrlL} {W0 V : World} (h : PU r C u W0 V) (o : Obj) : PU r C u W0 (V.alloc o) := h.call ((Below.refl _ _).alloc (Nat.le_refl _) o)
theorem PU.drew {r : Nat} {C : Array Value} {u : Lz.UrlL} {W0 V : World} (h : PU r C u W0 V) : PU r C u W0 V.drew := h.call (Below.refl _ _).drew
/-- What a call answers, as a URL in all cases. -/
theorem RParse.open {R : Lz.UR} {w : World} {e : Ending} {w' : World} (h : RParse R w e w') : ∃ (v : Value) (n : Int) (u : Lz.UrlL), e = .returned (.tuple #[v, .int .i64 n]) ∧ Below w.heap.size w w' ∧ UrlOwn w' v u ∧ ((R = .ok u ∧ n = 0) ∨ ∃ k : Nat, R = .er k ∧ u = zeroU ∧ n = (k : Int)) := by
  obtain ⟨v, n, he, hb, hres⟩ := h
  obtain ⟨u, h1, h2⟩ := hres.cases
  exact ⟨v, n, u, he, hb, h1, h2⟩
theorem path_le {s : List UInt8} {b : Option Lz.UrlL} {u : Lz.UrlL} (e : Lz.parseU s b = .ok u) (hb : ∀ x, b = some x → ∃ t, Lz.parseU t none = .ok x) : u.path.length ≤ 1000000000 := (textOk_parse e hb).path
theorem by_ok {s base : List UInt8} {u : Lz.UrlL} (e : Lz.byU s base = .ok u) : TextOk u ∧ OrigOk u ∧ Lz.NU u := by
  obtain ⟨b, h1, h2⟩ := Lz.byU_form s base
  rw [h1] at e
  exact ⟨textOk_parse e (fun x hx => ⟨_, h2 x hx⟩), origOk_parse e (fun x hx => ⟨_, h2 x hx⟩), Lz.parse_form e⟩
theorem by_err {s base : List UInt8} {n : Nat} (e : Lz.byU s base = .er n) : n = 3 ∨ n = 2 ∨ n = 70 ∨ n = 71 ∨ n = 72 ∨ n = 81 ∨ n = 82 := by
  obtain ⟨b, h1, _⟩ := Lz.byU_form s base
  rw [h1] at e
  exact Lz.parse_err e
theorem parse_any0 (s : ByteArray) (w : World) (hE : EnvU w) : Calls Tryz.prog 20 #[.string s, .pointer none] w (RParse (Lz.parseU s.data.toList none) w) := Parse_any none (.pointer none) s w hE rfl (fun y h => by cases h)
theorem same_yes (v1 v2 : Value) (u : Lz.UrlL) (w : World) (h1 : UrlVal w v1 u) (h2 : UrlVal w v2 u) (hL : u.path.length ≤ 1000000000) : Calls Tryz.prog 18 #[v1, v2] w (RBool true w) := by
  have := lawSame_any v1 v2 u u w h1 h2 hL
  rw [show decide (u = u) = true by simp] at this
  exact this

set_option maxHeartbeats 8000000 in
set_option maxRecDepth 100000 in
theorem urlsAgain_any (s base other : ByteArray) (w : World) (hE : EnvU w) : Calls Tryz.prog 4 #[.string s, .string base, .string other] w (RBool true w) := by
  have hb00 := Below.refl w.heap.size w
  have cH := Lib.hid (places_any w hE)
  by_cases hbig : 300 < s.size ∨ 300 < base.size ∨ 300 < other.size
  · obtain ⟨q1, h1⟩ : ∃ q, decide ((300 : Int) < (s.size : Int)) = q := ⟨_, rfl⟩
    obtain ⟨q2, h2⟩ : ∃ q, decide ((300 : Int) < (base.size : Int)) = q := ⟨_, rfl⟩
    obtain ⟨q3, h3⟩ : ∃ q, decide ((300 : Int) < (other.size : Int)) = q := ⟨_, rfl⟩
    have hq : (q1 || (q2 || q3)) = true := by
      rw [← h1, ← h2, ← h3]; simp; omega
    clear hbig
    cases q1 <;> cases q2 <;> cases q3 <;> first | (exact absurd hq (by decide)) | skip
    all_goals
      clear hq
      go_enter Tryz.func4, Tryz.ntmps4
      go_wp2_with fail
      refine cH.out.mono ?_
      rintro e w1 ⟨rfl, hb⟩
      go_wp2_with fail
      go_ret
      exact ⟨rfl, hb⟩
  · have g1 : ¬ (300 : Int) < (s.size : Int) := by omega
    have g2 : ¬ (300 : Int) < (base.size : Int) := by omega
    have g3 : ¬ (300 : Int) < (other.size : Int) := by omega
    have l1 : s.data.toList.length ≤ 300 := by rw [len_of_size]; omega
    have l2 : base.data.toList.length ≤ 300 := by rw [len_of_size]; omega
    have cB := by_any s base w hE
    have hag := fun u e => Lz.again_by (u := u) l1 l2 e
    have hok := fun u e => by_ok (s := s.data.toList) (base := base.data.toList) (u := u) e
    have her := fun n e => by_err (s := s.data.toList) (base := base.data.toList) (n := n) e
    generalize Lz.byU s.data.toList base.data.toList = R at cB hag hok her
    have CB := Lib.hid cB
    have HA := Lib.hid hag
    have HO := Lib.hid hok
    have HX := Lib.hid her
    have HE := Lib.hid hE
    clear cB hag hok her hE l1 l2 hbig
    go_enter Tryz.func4, Tryz.ntmps4
    go_wp2_with fail
    refine CB.out.mono ?_
    intro e w1 hr
    obtain ⟨v1, n, u, rfl, hb1, hox, hk⟩ := hr.open
    obtain ⟨sc1, us1, pa1, hh1, hs1, pr1, op1, a1, n1, c1, hq1, hf1, qr1, fr1, rfl⟩ := hox.form
    have hP := PU.new (HE.out.below hb1) hb1 hox
    clear hox CB hr
    go_upto_region 4 with fail
    generalize w1.alloc (.cells #[.string sc1, .string us1, .string pa1, .bool hh1, .string hs1, .int .i64 pr1, .bool op1, .slice a1 n1 c1, .bool hq1, .bool hf1, .string qr1, .string fr1] 27) = V at hP ⊢
    generalize w1.heap.size = r1 at hP ⊢
    have HP := Lib.hid hP
    clear hP
    rcases hk with ⟨hR, hk0⟩ | ⟨m, hR, hz, hk0⟩
    case inr =>
      have hm := HX.out m hR
      have hkb : (n != 0) = true := by rw [hk0]; simp; omega
      have cS := Lib.hid (same_yes _ _ zeroU V (by have := HP.out.own.val; rw [hz] at this; exact this) (zero_val V) (by show (0 : Nat) ≤ _; omega))
      clear hm hk0 hR hz
      go_wp2_with (first | (refine load_url_g rfl _ rfl r1 rfl _ HP.out.row rfl ?_))
      refine cS.out.mono ?_
      rintro e w2 ⟨rfl, hb2⟩
      have cH2 := Lib.hid (places_any w2 (HP.out.env.below hb2))
      have hb02 := below_call HP.out.below hb2
      go_wp2_with fail
      refine cH2.out.mono ?_
      rintro e w3 ⟨rfl, hb3⟩
      go_wp2_with fail
      go_ret
      exact ⟨rfl, below_call hb02 hb3⟩
    case inl =>
      have hkb : (n != 0) = false := by rw [hk0]; rfl
      obtain ⟨hT, _, _⟩ := HO.out u hR
      obtain ⟨hby, hln, hp0, hbo⟩ := HA.out u hR
      have cT := Lib.hid (Text_any _ u V HP.out.own.val HP.out.env.h hT.p0 hT.p1 hT.host (by have := hT.text; omega) hT.path)
      have hpl := hT.path
      clear hk0 hR hT HX HO HA
      go_wp2_with (first | (refine load_url_g rfl _ rfl r1 rfl _ HP.out.row rfl ?_))
      refine cT.out.mono ?_
      rintro e w2 ⟨t, rfl, ht, hb2⟩
      have hP2 := HP.out.call hb2
      have hts : t.size ≤ 4000 := by rw [← len_of_size, ht.out]; exact hln
      have HBy : Hid (∀ c ∈ t.data.toList, ¬ c < 32 ∧ c < 127) := Lib.hid (by rw [ht.out]; exact hby)
      have HPa : Hid (Lz.parseU t.data.toList none = .ok u) := Lib.hid (by rw [ht.out]; exact hp0)
      have HBo : Hid (Lz.byU t.data.toList other.data.toList = .ok u) := Lib.hid (by rw [ht.out]; exact hbo _)
      have HP2 := Lib.hid hP2
      clear hP2 hby hln hp0 hbo HP cT hb2
      go_wp2_with fail
      go_loopw [10] (fun k wr => ∃ i : Nat, k = .int .i64 i ∧ i ≤ t.size ∧ w2 = wr) (fun k _ => t.size - (intOf k).toNat)
      case atStart => exact ⟨0, rfl, Nat.zero_le _, rfl⟩
      case round =>
        obtain ⟨i, rfl, hi, rfl⟩ := hrel
        by_cases hlt : i < t.size
        · have hltI : (i : Int) < (t.size : Int) := by omega
          have hi0 : (0 : Int) ≤ (i : Int) := by omega
          have hc := HBy.out t[i] (by rw [show t[i] = t.data.toList[i]'(by rw [len_of_size]; exact hlt) from rfl]; exact List.getElem_mem _)
          have hc1 : ¬ ((t[i].toNat : Int) < 32) := by
            have := hc.1
            rw [UInt8.lt_iff_toNat_lt] at this
            have e : (32 : UInt8).toNat = 32 := rfl
            omega
          have hc2 : ¬ ((126 : Int) < (t[i].toNat : Int)) := by
            have := hc.2
            rw [UInt8.lt_iff_toNat_lt] at this
            have e : (127 : UInt8).toNat = 127 := rfl
            omega
          clear hc
          go_wp2_with fail
          go_roundw
          case rel => exact ⟨i + 1, by go_num, by omega, by first | rfl | trivial⟩
          case measure => simp [intOf]; omega
        · have hltI : ¬ (i : Int) < (t.size : Int) := by omega
          have cP := Lib.hid (parse_any0 t w2 HP2.out.env)
          rw [HPa.out] at cP
          go_wp2_with fail
          refine cP.out.mono ?_
          intro e w3 hr
          obtain ⟨v3, n3, u3, rfl, hb3, hox, hk3⟩ := hr.open
          obtain ⟨rfl, rfl⟩ : u3 = u ∧ n3 = 0 := by
            rcases hk3 with ⟨h, h2⟩ | ⟨k, h, _⟩
            · injection h with h; exact ⟨h.symm, h2⟩
            · cases h
          obtain ⟨sc2, us2, pa2, hh2, hs2, pr2, op2, a2, n2, c2, hq2, hf2, qr2, fr2, rfl⟩ := hox.form
          have hP3 := (HP2.out.call hb3).alloc (.cells #[.string sc2, .string us2, .string pa2, .bool hh2, .string hs2, .int .i64 pr2, .bool op2, .slice a2 n2 c2, .bool hq2, .bool hf2, .string qr2, .string fr2] 27)
          have hQ3 := PU.new (w := w) (HP2.out.env.below hb3) (below_call HP2.out.below hb3) hox
          clear hk3 hox hr cP hb3
          go_upto_region 13 with fail
          generalize w3.alloc (.cells #[.string sc2, .string us2, .string pa2, .bool hh2, .string hs2, .int .i64 pr2, .bool op2, .slice a2 n2 c2, .bool hq2, .bool hf2, .string qr2, .string fr2] 27) = V3 at hP3 hQ3 ⊢
          generalize w3.heap.size = r3 at hQ3 ⊢
          have cB2 := Lib.hid (by_any t other V3 hP3.env)
          rw [HBo.out] at cB2
          have HP3 := Lib.hid hP3
          have HQ3 := Lib.hid hQ3
          clear hP3 hQ3 HP2
          go_wp2_with fail
          refine cB2.out.mono ?_
          intro e w4 hr
          obtain ⟨v4, n4, u4, rfl, hb4, hox, hk4⟩ := hr.open
          obtain ⟨rfl, rfl⟩ : u4 = u3 ∧ n4 = 0 := by
            rcases hk4 with ⟨h, h2⟩ | ⟨k, h, _⟩
            · injection h with h; exact ⟨h.symm, h2⟩
            · cases h
          obtain ⟨sc3, us3, pa3, hh3, hs3, pr3, op3, a3, n3, c3, hq3, hf3, qr3, fr3, rfl⟩ := hox.form
          have hP4 := (HP3.out.call hb4).alloc (.cells #[.string sc3, .string us3, .string pa3, .bool hh3, .string hs3, .int .i64 pr3, .bool op3, .slice a3 n3 c3, .bool hq3, .bool hf3, .string qr3, .string fr3] 27)
          have hQ4 := (HQ3.out.call hb4).alloc (.cells #[.string sc3, .string us3, .string pa3, .bool hh3, .string hs3, .int .i64 pr3, .bool op3, .slice a3 n3 c3, .bool hq3, .bool hf3, .string qr3, .string fr3] 27)
          have hR4 := PU.new (w := w) (HP3.out.env.below hb4) (below_call HP3.out.below hb4) hox
          clear hk4 hox hr cB2 hb4
          go_upto_region 14 with fail
          generalize w4.alloc (.cells #[.string sc3, .string us3, .string pa3, .bool hh3, .string hs3, .int .i64 pr3, .bool op3, .slice a3 n3 c3, .bool hq3, .bool hf3, .string qr3, .string fr3] 27) = V4 at hP4 hQ4 hR4 ⊢
          generalize w4.heap.size = r4 at hR4 ⊢
          have HP4 := Lib.hid hP4
          have HQ4 := Lib.hid hQ4
          have HR4 := Lib.hid hR4
          have cS1 := Lib.hid (same_yes _ _ u4 V4 hQ4.own.val hP4.own.val hpl)
          clear hP4 hQ4 hR4 HP3 HQ3
          go_wp2_with (first | (refine load_url_g rfl _ rfl r3 rfl _ HQ4.out.row rfl ?_) | (refine load_url_g rfl _ rfl r1 rfl _ HP4.out.row rfl ?_))
          refine cS1.out.mono ?_
          rintro e w5 ⟨rfl, hb5⟩
          have hP5 := HP4.out.call hb5
          have hQ5 := HQ4.out.call hb5
          have hR5 := HR4.out.call hb5
          have cS2 := Lib.hid (same_yes _ _ u4 w5 hR5.own.val hP5.own.val hpl)
          have HP5 := Lib.hid hP5
          have HQ5 := Lib.hid hQ5
          have HR5 := Lib.hid hR5
          clear hP5 hQ5 hR5 HP4 HQ4 HR4 hb5
          go_wp2_with (first | (refine load_url_g rfl _ rfl r4 rfl _ HR5.out.row rfl ?_) | (refine load_url_g rfl _ rfl r1 rfl _ HP5.out.row rfl ?_))
          refine cS2.out.mono ?_
          rintro e w6 ⟨rfl, hb6⟩
          have hQ6 := HQ5.out.call hb6
          have hTq : TextOk u4 := textOk_parse HPa.out (fun x hx => by cases hx)
          have cT2 := Lib.hid (Text_any _ u4 w6 hQ6.own.val hQ6.env.h hTq.p0 hTq.p1 hTq.host (by have := hTq.text; omega) hTq.path)
          have HQ6 := Lib.hid hQ6
          clear hQ6 HQ5 HP5 HR5 hb6 hTq
          go_wp2_with (first | (refine load_url_g rfl _ rfl r3 rfl _ HQ6.out.row rfl ?_))
          refine cT2.out.mono ?_
          rintro e w7 ⟨t2, rfl, ht2, hb7⟩
          have htt : (t2.toList == t.toList) = true := by rw [same_text, ht2.out, ht.out]; simp
          have hQ7 := HQ6.out.call hb7
          have cH2 := Lib.hid (places_any w7 hQ7.env)
          have hb07 := hQ7.below
          clear ht2 hQ7 HQ6 hb7
          go_wp2_with fail
          refine cH2.out.mono ?_
          rintro e w8 ⟨rfl, hb8⟩
          go_wp2_with fail
          go_ret
          exact ⟨rfl, below_call hb07 hb8⟩
end Go.Proofs.YthijceooebebfaaGreatDoor

set_option maxRecDepth 100000
namespace Go.Proofs.YthijceooebebfaaGreatDoor
open Go.ChangeShapes Go.WideShapes Go.ChangeAt Go.RowKit

theorem laid_reads {l : List (String × DataW Unit)} {W : World} (h : laidMetH Tryz.prog l W) {n : String} {d : DataW Unit} (hm : (n, d) ∈ l) (hn : d.handleName?.isNone = true) : Lib.VarReads Tryz.prog W n d :=
  Lib.laidMet.reads (laidMetH_iff.1 h).1 (List.mem_filter.2 ⟨hm, hn⟩)

theorem tab_of_reads {W : World} {name : String} {k : IntKind} {zs : List Int} {g : Nat} {t e : TypeId} {n : Nat}
    (hg : Tryz.prog.globalNamed name = some g) (hty : (Tryz.prog.globals[g]?).map (·.type) = some t) (ht : Tryz.prog.underlying t = some (.array n e)) (he : Tryz.prog.underlying e = some (.int k)) (hce : Tryz.prog.cellsOf e = 1) (hct : Tryz.prog.cellsOf t = n)
    (h : Lib.VarReads Tryz.prog W name (Lib.tabData k zs)) : Lib.TabIs Tryz.prog W name k zs := by
  obtain ⟨g', t', cs, fuel, p, hg', ht', hvar, hd⟩ := h
  obtain rfl := Option.some.inj (hg.symm.trans hg')
  obtain rfl := Option.some.inj (hty.symm.trans ht')
  unfold Lib.TabIs
  rw [hvar, ← Lib.cells_of_tab ht he hce hct hd]

theorem iface_of_reads {W : World} {name : String} {nm : String} {d : DataW Unit} {g : Nat} {t : TypeId} {ms : Array (String × TypeId)}
    (hg : Tryz.prog.globalNamed name = some g) (hty : (Tryz.prog.globals[g]?).map (·.type) = some t) (ht : Tryz.prog.underlying t = some (.interface ms))
    (h : Lib.VarReads Tryz.prog W name (.iface nm d)) : ∃ te pe, W.cell? ⟨g, 0, none⟩ = some (.iface te pe) := by
  obtain ⟨g', t', cs, fuel, p, hg', ht', hvar, hd⟩ := h
  obtain rfl := Option.some.inj (hg.symm.trans hg')
  obtain rfl := Option.some.inj (hty.symm.trans ht')
  have hcell := World.var?_cell hg hvar 0
  cases fuel with
  | zero => simp [DataW.trod] at hd
  | succ n =>
    unfold DataW.trod at hd
    rw [ht] at hd
    obtain ⟨cs⟩ := cs
    match cs, hd, hcell with
    | [.iface u v], _, hcell => exact ⟨u, v, by simpa using hcell⟩
    | [.nilIface], hd, _ => simp at hd
    | [], hd, _ => simp at hd
    | _ :: _ :: _, hd, _ => simp at hd

theorem gSyn : Tryz.prog.globalNamed "strconv.ErrSyntax" = some 7 := by kernel_rfl
theorem gRng : Tryz.prog.globalNamed "strconv.ErrRange" = some 8 := by kernel_rfl
theorem gEt : Tryz.prog.globalNamed "errors.errorType" = some 6 := by kernel_rfl
theorem gEtRt : (Tryz.prog.cutTypes.find? (·.1 == "internal/reflectlite.rtype")).map (·.2) = some 138 := by kernel_rfl
theorem gEtRow : ((List.range Tryz.prog.types.size).filter fun t => Tryz.prog.rowNamed t [101, 114, 114, 111, 114]) = [52] := by kernel_rfl

theorem et_of_laid {l : List (String × DataW Unit)} {W : World} (h : laidMetH Tryz.prog l W) (hm : ("errors.errorType", Rows.laid_errors_errorType) ∈ l) :
    W.cell? ⟨6, 0, none⟩ = some (.iface 138 (.agg #[.pointer (some ⟨9, 52, none⟩)])) := by
  obtain ⟨name, u, ty, e1, e2, e3, e4, e5⟩ := (laidMetH_iff.1 h).2 _ (List.mem_filter.2 ⟨hm, rfl⟩)
  have en : name = [101, 114, 114, 111, 114] := (Option.some.inj e1).symm
  subst en
  obtain rfl := Option.some.inj (gEtRt.symm.trans e2)
  have hm : ty ∈ (List.range Tryz.prog.types.size).filter fun t => Tryz.prog.rowNamed t [101, 114, 114, 111, 114] := List.mem_filter.2 ⟨List.mem_range.2 e3, e4⟩
  rw [gEtRow] at hm
  obtain rfl := List.mem_singleton.1 hm
  have hh : typeHandle Tryz.prog 52 = .pointer (some ⟨9, 52, none⟩) := by kernel_rfl
  rw [hh] at e5
  simpa using World.var?_cell gEt e5 0

theorem spot_none {w : World} {b o : Nat} {sp : Option Nat} {v : Value} (h : w.cell? ⟨b, o, sp⟩ = some v) : sp = none := by
  cases sp with
  | none => rfl
  | some x =>
    unfold World.cell? at h
    split at h <;> simp at h

def dbTab : List Int := [0, 1, 56, 2, 57, 49, 28, 3, 61, 58, 42, 50, 38, 29, 17, 4, 62, 47, 59, 36, 45, 43, 51, 22, 53, 39, 33, 30, 24, 18, 12, 5, 63, 55, 48, 27, 60, 41, 37, 16, 46, 35, 44, 21, 52, 32, 23, 11, 54, 26, 40, 15, 34, 20, 31, 10, 25, 14, 19, 9, 13, 8, 7, 6]
theorem gDb : Tryz.prog.globalNamed "math/bits.deBruijn64tab" = some 3 := by kernel_rfl
theorem envH_of_laid {l : List (String × DataW Unit)} {W : World} (h : laidMetH Tryz.prog l W) (hsh : W.ShapedOpen Tryz.prog)
    (m1 : ("internal/strconv.uint64pow10", Rows.laid_internal_strconv_uint64pow10) ∈ l) (m2 : ("errors.errorType", Rows.laid_errors_errorType) ∈ l)
    (m3 : ("strconv.ErrRange", Rows.laid_strconv_ErrRange) ∈ l) (m4 : ("strconv.ErrSyntax", Rows.laid_strconv_ErrSyntax) ∈ l) (m5 : ("math/bits.deBruijn64tab", Rows.laid_math_bits_deBruijn64tab) ∈ l) : EnvH W := by
  have hdb : Lib.TabIs Tryz.prog W "math/bits.deBruijn64tab" .u8 dbTab := tab_of_reads gDb (t := 193) (by kernel_rfl) (Tryz.underlying193) (Tryz.underlying5) (by kernel_rfl) (by kernel_rfl) (laid_reads h m5 rfl)
  have hcell := fun o => World.var?_cell gDb hdb o
  exact {
    ml := cell_of_shapedOpen_int (zero := #[.int .i64 0]) (t := 3) hsh (of_decide_eq_true (by kernel_rfl)) (by kernel_rfl) rfl (by kernel_rfl) (by kernel_rfl) (Tryz.underlying3)
    pow := tab_of_reads gPow (t := 150) (by kernel_rfl) (Tryz.underlying150) (Tryz.underlying100) (by kernel_rfl) (by kernel_rfl) (laid_reads h m1 rfl)
    syn := iface_of_reads gSyn (t := 52) (by kernel_rfl) (Tryz.underlying52) (laid_reads h m4 rfl)
    rng := iface_of_reads gRng (t := 52) (by kernel_rfl) (Tryz.underlying52) (laid_reads h m3 rfl)
    et := et_of_laid h m2
    db8 := (hcell 7).trans (by rfl)
    db16 := (hcell 15).trans (by rfl)
    size := by
      have hs : (((begin Tryz.prog (fun _ _ => 0) default).world.heap[9 - 1]?).bind Obj.row?).isSome = true := by kernel_rfl
      obtain ⟨⟨zero, t⟩, h0⟩ := Option.isSome_iff_exists.1 hs
      obtain ⟨cs, hc, _⟩ := hsh.1 (9 - 1) zero t (of_decide_eq_true (by kernel_rfl)) h0
      have := (Array.getElem?_eq_some_iff.1 hc).1
      omega }

theorem gFirst : Tryz.prog.globalNamed "unicode/utf8.first" = some 4 := by kernel_rfl
theorem gAcc : Tryz.prog.globalNamed "unicode/utf8.acceptRanges" = some 5 := by kernel_rfl
theorem utf8_of_reads {w : World} (h3 : Lib.VarReads Tryz.prog w "unicode/utf8.first" Lib.firstData) (h4 : Lib.VarReads Tryz.prog w "unicode/utf8.acceptRanges" Lib.acceptData) : Lib.Utf8Tabs 4 5 w := by
  have c5 : Tryz.prog.cellsOf 5 = 1 := by kernel_rfl
  have c119 : Tryz.prog.cellsOf 182 = 256 := by kernel_rfl
  have c138 : Tryz.prog.cellsOf 195 = 2 := by kernel_rfl
  have y3 : (Tryz.prog.globals[4]?).map (·.type) = some 182 := by kernel_rfl
  have y4 : (Tryz.prog.globals[5]?).map (·.type) = some 196 := by kernel_rfl
  refine ⟨fun c hc => ?_, fun i hi => ?_⟩
  · obtain ⟨g, t, cs, fuel, p, hg, hty, hvar, hd⟩ := h3
    obtain rfl := Option.some.inj (gFirst.symm.trans hg)
    obtain rfl := Option.some.inj (y3.symm.trans hty)
    have hcs := Lib.cells_of_tab (Tryz.underlying182) (Tryz.underlying5) c5 c119 hd
    have := World.var?_cell hg hvar c
    rw [this, ← Array.getElem?_toList, hcs]
    simp [Lib.firstTab, hc]
  · obtain ⟨g, t, cs, fuel, p, hg, hty, hvar, hd⟩ := h4
    obtain rfl := Option.some.inj (gAcc.symm.trans hg)
    obtain rfl := Option.some.inj (y4.symm.trans hty)
    obtain ⟨fuel', d, q, hdi, he⟩ := Lib.array_elem (Tryz.underlying196) hd i hi
    simp only [List.getElem?_map, List.getElem?_range hi, Option.map_some, Option.some.injEq] at hdi
    subst hdi
    rw [c138] at he
    have hcs := Lib.ints_of_struct (Tryz.underlying195) (fun j f hj => by
      match j, hj with
      | 0, hj => simp at hj; subst hj; exact ⟨Tryz.underlying5, rfl, c5⟩
      | 1, hj => simp at hj; subst hj; exact ⟨Tryz.underlying5, rfl, c5⟩
      | j + 2, hj => simp at hj) (by rw [c138]; rfl) he
    have e0 := congrArg (·[0]?) hcs
    have e1 := congrArg (·[1]?) hcs
    simp only [List.getElem?_take, List.getElem?_drop] at e0 e1
    constructor
    · rw [World.var?_cell hg hvar (2 * i), ← Array.getElem?_toList]
      simpa [Nat.mul_comm] using e0
    · rw [World.var?_cell hg hvar (2 * i + 1), ← Array.getElem?_toList]
      simpa [Nat.mul_comm] using e1
theorem envU_of_laid {l : List (String × DataW Unit)} {W : World} (h : laidMetH Tryz.prog l W) (hsh : W.ShapedOpen Tryz.prog)
    (m1 : ("internal/strconv.uint64pow10", Rows.laid_internal_strconv_uint64pow10) ∈ l) (m2 : ("errors.errorType", Rows.laid_errors_errorType) ∈ l)
    (m3 : ("strconv.ErrRange", Rows.laid_strconv_ErrRange) ∈ l) (m4 : ("strconv.ErrSyntax", Rows.laid_strconv_ErrSyntax) ∈ l) (m5 : ("math/bits.deBruijn64tab", Rows.laid_math_bits_deBruijn64tab) ∈ l)
    (m6 : ("unicode/utf8.first", Rows.laid_unicode_utf8_first) ∈ l) (m7 : ("unicode/utf8.acceptRanges", Rows.laid_unicode_utf8_acceptRanges) ∈ l) : EnvU W :=
  ⟨envH_of_laid h hsh m1 m2 m3 m4 m5, utf8_of_reads (by
      have := laid_reads h m6 (by kernel_rfl)
      rw [show Rows.laid_unicode_utf8_first = Lib.firstData from Pinned.utf8First_eq] at this
      exact this) (by
      have := laid_reads h m7 (by kernel_rfl)
      rw [show (Rows.laid_unicode_utf8_acceptRanges : DataW Unit) = Lib.acceptData by kernel_rfl] at this
      exact this)⟩
end Go.Proofs.YthijceooebebfaaGreatDoor

namespace Go.Proofs.YthijceooebebfaaGreatDoor
open Go.ChangeShapes Go.WideShapes Go.ChangeAt Go.RowKit

theorem laidOut : laidOutB Tryz.prog = true := by kernel_rfl
theorem cellsU8 : Tryz.prog.cellsOf 5 = 1 := by kernel_rfl

/-- The arguments read behind the call as they did. -/
theorem trodAll_below {H : Type} {enc : TypeId × Value → H} {W W' : World} (hb : Below W.heap.size W W') : ∀ {ts : List TypeId} {vs : List Value} {ds : List (DataW H)} {ps : List MemPlace},
    (∀ t ∈ ts, Tryz.prog.readableRec t = true ∧ t < Tryz.prog.types.size) → DataW.TrodAll enc Tryz.prog W 0 (fun _ => true) true ts vs ds ps → (∀ x ∈ ps, x.block < W.heap.size) →
    DataW.TrodAll enc Tryz.prog W' 0 (fun b => decide (b < W.heap.size)) true ts vs ds ps
  | [], [], [], _, _, h, _ => h
  | t :: ts, v :: vs, d :: ds, ps, ht, ⟨p, q, h1, h2, e⟩, hlt =>
    ⟨p, q, Below.trod laidOut (ht t (by simp)).1 (ht t (by simp)).2 h1 hb (fun x hx => hlt x (by rw [e]; exact List.mem_append_left _ hx)),
      trodAll_below hb (fun t' h' => ht t' (by simp [h'])) h2 (fun x hx => hlt x (by rw [e]; exact List.mem_append_right _ hx)), e⟩
  | [], _ :: _, _, _, _, h, _ => by simp [DataW.TrodAll] at h
  | [], [], _ :: _, _, _, h, _ => by simp [DataW.TrodAll] at h
  | _ :: _, [], _, _, _, h, _ => by simp [DataW.TrodAll] at h
  | _ :: _, _ :: _, [], _, _, h, _ => by simp [DataW.TrodAll] at h

/-- A byte that came in. -/
theorem byte_of_wf {n : Int} (h : (Lit.int .u8 n).wf = true) : 0 ≤ n ∧ n ≤ 255 := by
  simp only [Lit.wf, Bool.and_eq_true, decide_eq_true_eq] at h
  have h0 : IntKind.u8.min = 0 := by decide
  have h1 : IntKind.u8.max = 255 := by decide
  rw [h0, h1] at h
  exact h

set_option maxRecDepth 100000 in
/-- A slice of bytes that came in, as its cell. -/
theorem slB_cell {H : Type} {enc : TypeId × Value → H} {W : World} {base : Nat} {sp : Nat → Bool} {hd : Bool} {v : Value} {x : DataW H × List MemPlace} {fuel : Nat}
    (hf : DataW.trod enc Tryz.prog W base sp hd fuel 35 [v] = some x) : ∃ l, SlB W v l := by
  rcases open_ints Tryz.underlying35 Tryz.underlying5 cellsU8 hf with ⟨hcs, hx⟩ | ⟨a, len', cap', zs, hcs, _, hl, hm, hz, hx, hcell, hwz⟩
  · obtain rfl := List.singleton_inj.1 hcs
    exact ⟨[], none, 0, rfl, by simp, fun j b hj => by simp at hj⟩
  · obtain rfl := List.singleton_inj.1 hcs
    have hzl : len' ≤ zs.length := by rw [hz]; split <;> omega
    have hm' : cap' ≤ 9223372036854775807 := hm
    have hlen : ((zs.take len').map (fun z => UInt8.ofNat z.toNat)).length = len' := by simp; omega
    refine ⟨(zs.take len').map (fun z => UInt8.ofNat z.toNat), some a, cap', by rw [hlen], by rw [hlen]; omega, fun j b hj => ?_⟩
    have hjl : j < len' := by
      have := (List.getElem?_eq_some_iff.1 hj).1
      rw [hlen] at this; exact this
    obtain ⟨B, off, rfl, hc⟩ := ints_at hcell (by omega)
    have h1 := hc j (by omega)
    refine ⟨B, off, rfl, World.block_lt_of_cell? _ _ h1, ?_⟩
    rw [h1]
    have hzj : zs[j]? = some (zs.getD j 0) := by
      rw [List.getD_eq_getElem?_getD, List.getElem?_eq_getElem (by omega)]; rfl
    have hb : b = UInt8.ofNat (zs.getD j 0).toNat := by
      rw [List.getElem?_map, List.getElem?_take, if_pos hjl, hzj] at hj
      exact (Option.some.inj hj).symm
    obtain ⟨w0, w1⟩ := byte_of_wf (hwz _ (List.mem_of_getElem? hzj))
    rw [hb, UInt8.toNat_ofNat']
    congr 2
    omega
set_option maxRecDepth 100000 in
/-- A slice of bytes that came in. -/
theorem slB_of {H : Type} {enc : TypeId × Value → H} {W : World} {base : Nat} {sp : Nat → Bool} {hd : Bool} {v : Value} {d : DataW H} {ps : List MemPlace} {r : Reach} {b0 : Nat}
    (hv : Value.okWide Tryz.prog W r b0 35 v) (h : DataW.Trod enc Tryz.prog W base sp hd 35 v d ps) : ∃ l, SlB W v l := by
  obtain ⟨a0, len, cap, rfl⟩ := okWide_slice Tryz.underlying35 hv
  obtain ⟨fuel, hf⟩ := h
  exact slB_cell hf
end Go.Proofs.YthijceooebebfaaGreatDoor

namespace Go.Proofs.YthijceooebebfaaGreatDoor
open Go.ChangeShapes Go.WideShapes Go.ChangeAt Go.RowKit
theorem ownU : ownKnob Tryz.prog.godebug = none := by kernel_rfl
theorem envU_row {W : World} (h : laidMetH Tryz.prog Rows.urlsSchemesRow.laid W) (hsh : W.ShapedOpen Tryz.prog) : EnvU W :=
  envU_of_laid h hsh (.tail _ (.tail _ (.head _))) (.tail _ (.tail _ (.tail _ (.tail _ (.head _))))) (.tail _ (.tail _ (.tail _ (.tail _ (.tail _ (.head _))))))
    (.tail _ (.tail _ (.tail _ (.tail _ (.tail _ (.tail _ (.head _))))))) (.tail _ (.head _))
    (.tail _ (.tail _ (.tail _ (.tail _ (.tail _ (.tail _ (.tail _ (.head _)))))))) (.tail _ (.tail _ (.tail _ (.head _))))
def cellsOfPinned : DataW Unit → Array Value
  | .agg l => (l.filterMap fun | .lit (.int k z) => some (Value.int k z) | _ => none).toArray
  | _ => #[]
/-- The witness starts where the door's own run ends; the table of unicode/utf8, that the door does not lay, is laid besides. -/
noncomputable def startU (os : Os) : World :=
  { World.doorLaid Tryz.prog 84 os with heap := (World.doorLaid Tryz.prog 84 os).heap.modify 4 fun
      | .cells _ t frozen => .cells (cellsOfPinned Rows.laid_unicode_utf8_first) t frozen
      | o => o }
theorem metU (os : Os) (args : Array Value) : laidMetH Tryz.prog Rows.urlsSchemesRow.laid ((startU os).forCall (fun _ _ => 0) ⟨#[], args, []⟩).memory :=
  laidMetH_of_parts3 (fuel := 8) (laidMet_of_run' 8 (by kernel_rfl) (by kernel_rfl)) (by kernel_rfl) (by kernel_rfl)
/-! What every row asks of the program, fact by fact: together they outgrow the kernel's memory. -/
theorem andI {a b : Bool} (h1 : a = true) (h2 : b = true) : (a && b) = true := by rw [h1, h2]; rfl
theorem mayU : Tryz.prog.mayEnter = true := by kernel_rfl
theorem liftU : (Rows.urlsSchemesRow.lifted == Tryz.prog.liftsFinal) = true := by kernel_rfl
theorem makeU : (Tryz.prog.make == some Rows.urlsSchemesRow.make) = true := by kernel_rfl
theorem mapsU : mapsRowed Tryz.prog = true := by kernel_rfl
theorem keysU : (Rows.urlsSchemesRow.plainKeys == Tryz.prog.plainKeys) = true := by kernel_rfl
theorem heardU : Tryz.prog.stopsHeard = true := by kernel_rfl
end Go.Proofs.YthijceooebebfaaGreatDoor
