/-
  lazaretlaw08.UrlsAlone: it returns true, whatever the texts.
  lazaretlaw08.UrlsBlank: it returns true, whatever the texts and the places.
  The statement and the card of lazaretlaw08.UrlsBlank: whatever comes in, the law returns true, and what came in reads as it did.
-/
import Derived.Test.YthijceooebebfaaGreatDoorM34
import Derived.Test.YthijceooebebfaaGreatDoorCards
import Derived.Test.YthijceooebebfaaGreatDoorTie
namespace Go.Proofs.YthijceooebebfaaGreatDoor
open Go.RowKit
/-- Of two answers that are one, the URLs are one, and the numbers. -/
theorem two_same {R : Lz.UR} {u1 u2 : Lz.UrlL} {z1 z2 : Int} (h1 : (R = .ok u1 ∧ z1 = 0) ∨ ∃ k : Nat, R = .er k ∧ u1 = zeroU ∧ z1 = (k : Int)) (h2 : (R = .ok u2 ∧ z2 = 0) ∨ ∃ k : Nat, R = .er k ∧ u2 = zeroU ∧ z2 = (k : Int)) : u2 = u1 ∧ z2 = z1 := by
  rcases h1 with ⟨h1, h1'⟩ | ⟨k, h1, h1', h1''⟩
  · rcases h2 with ⟨h2, h2'⟩ | ⟨k2, h2, _⟩
    · rw [h1] at h2; injection h2 with h2; exact ⟨h2.symm, by omega⟩
    · rw [h1] at h2; cases h2
  · rcases h2 with ⟨h2, h2'⟩ | ⟨k2, h2, h2', h2''⟩
    · rw [h1] at h2; cases h2
    · rw [h1] at h2; injection h2 with h2; exact ⟨by rw [h1', h2'], by omega⟩
theorem path_of {s base : List UInt8} {u : Lz.UrlL} {z : Int} (h : (Lz.byU s base = .ok u ∧ z = 0) ∨ ∃ k : Nat, Lz.byU s base = .er k ∧ u = zeroU ∧ z = (k : Int)) : u.path.length ≤ 1000000000 := by
  rcases h with ⟨h, _⟩ | ⟨k, _, h, _⟩
  · exact (by_ok h).1.path
  · rw [h]; show (0 : Nat) ≤ _; omega
theorem by_front (F : ByteArray) (hF : F.data.toList ∈ Lz.fronts) (s base : ByteArray) (hs : s.size ≤ 800) (w : World) (hE : EnvU w) : Calls Tryz.prog 17 #[.string (F ++ s), .string base] w (RParse (Lz.byU (F.data.toList ++ s.data.toList) []) w) := by
  have := by_any (F ++ s) base w hE
  have e : Lz.byU (F ++ s).data.toList base.data.toList = Lz.byU (F.data.toList ++ s.data.toList) [] := by
    rw [append_data', Lz.alone_by hF _ (by rw [len_of_size]; exact hs), Lz.alone_by hF _ (by rw [len_of_size]; exact hs)]
  rw [e] at this
  exact this
theorem idxF0 (w : World) : (Instr.index 37 (.agg #[.string ⟨#[120, 45, 121, 58]⟩, .string ⟨#[104, 116, 116, 112, 58, 47, 47, 104, 47]⟩, .string ⟨#[119, 115, 115, 58, 47, 47, 104, 58, 49, 47]⟩, .string ⟨#[102, 105, 108, 101, 58, 47, 47, 104, 47]⟩]) (.int .i64 0)).run Tryz.prog w = .ok (.string ⟨#[120, 45, 121, 58]⟩) w := by kernel_rfl
theorem idxF1 (w : World) : (Instr.index 37 (.agg #[.string ⟨#[120, 45, 121, 58]⟩, .string ⟨#[104, 116, 116, 112, 58, 47, 47, 104, 47]⟩, .string ⟨#[119, 115, 115, 58, 47, 47, 104, 58, 49, 47]⟩, .string ⟨#[102, 105, 108, 101, 58, 47, 47, 104, 47]⟩]) (.int .i64 1)).run Tryz.prog w = .ok (.string ⟨#[104, 116, 116, 112, 58, 47, 47, 104, 47]⟩) w := by kernel_rfl
theorem idxF2 (w : World) : (Instr.index 37 (.agg #[.string ⟨#[120, 45, 121, 58]⟩, .string ⟨#[104, 116, 116, 112, 58, 47, 47, 104, 47]⟩, .string ⟨#[119, 115, 115, 58, 47, 47, 104, 58, 49, 47]⟩, .string ⟨#[102, 105, 108, 101, 58, 47, 47, 104, 47]⟩]) (.int .i64 2)).run Tryz.prog w = .ok (.string ⟨#[119, 115, 115, 58, 47, 47, 104, 58, 49, 47]⟩) w := by kernel_rfl
theorem idxF3 (w : World) : (Instr.index 37 (.agg #[.string ⟨#[120, 45, 121, 58]⟩, .string ⟨#[104, 116, 116, 112, 58, 47, 47, 104, 47]⟩, .string ⟨#[119, 115, 115, 58, 47, 47, 104, 58, 49, 47]⟩, .string ⟨#[102, 105, 108, 101, 58, 47, 47, 104, 47]⟩]) (.int .i64 3)).run Tryz.prog w = .ok (.string ⟨#[102, 105, 108, 101, 58, 47, 47, 104, 47]⟩) w := by kernel_rfl
set_option maxHeartbeats 8000000 in
set_option maxRecDepth 100000 in
theorem urlsAlone_any (s a b : ByteArray) (w : World) (hE : EnvU w) : Calls Tryz.prog 6 #[.string s, .string a, .string b] w (RBool true w) := by
  have hb00 := Below.refl w.heap.size w
  have cH := Lib.hid (places_any w hE)
  by_cases hbig : 800 < s.size ∨ 800 < a.size ∨ 800 < b.size
  · obtain ⟨q1, h1⟩ : ∃ q, decide ((800 : Int) < (s.size : Int)) = q := ⟨_, rfl⟩
    obtain ⟨q2, h2⟩ : ∃ q, decide ((800 : Int) < (a.size : Int)) = q := ⟨_, rfl⟩
    obtain ⟨q3, h3⟩ : ∃ q, decide ((800 : Int) < (b.size : Int)) = q := ⟨_, rfl⟩
    have hq : (q1 || (q2 || q3)) = true := by
      rw [← h1, ← h2, ← h3]; simp; omega
    clear hbig
    cases q1 <;> cases q2 <;> cases q3 <;> first | (exact absurd hq (by decide)) | skip
    all_goals
      clear hq
      go_enter Tryz.func6, Tryz.ntmps6
      go_wp2_with fail
      refine cH.out.mono ?_
      rintro e w1 ⟨rfl, hb⟩
      go_wp2_with fail
      go_ret
      exact ⟨rfl, hb⟩
  · have g1 : ¬ (800 : Int) < (s.size : Int) := by omega
    have g2 : ¬ (800 : Int) < (a.size : Int) := by omega
    have g3 : ¬ (800 : Int) < (b.size : Int) := by omega
    have hs8 : s.size ≤ 800 := by omega
    have n1 : ¬ (9223372036854775807 < 4 + s.size) := by omega
    have n2 : ¬ (9223372036854775807 < 9 + s.size) := by omega
    have n3 : ¬ (9223372036854775807 < 10 + s.size) := by omega
    have hb00 := Below.refl w.heap.size w
    clear hbig cH
    go_enter Tryz.func6, Tryz.ntmps6
    go_wp2_with fail
    go_loopw [28] (fun k wr => ∃ i : Nat, k = .int .i64 i ∧ i ≤ 4 ∧ EnvU wr ∧ Below w.heap.size w wr) (fun k _ => 4 - (intOf k).toNat)
    case atStart => exact ⟨0, rfl, by omega, hE, hb00⟩
    case round =>
      obtain ⟨i, rfl, hi, hEr, hbr⟩ := hrel
      by_cases hlt : i < 4
      · rcases (show i = 0 ∨ i = 1 ∨ i = 2 ∨ i = 3 by omega) with rfl | rfl | rfl | rfl
        all_goals
          have j0 := idxF0 wr
          have j1 := idxF1 wr
          have j2 := idxF2 wr
          have j3 := idxF3 wr
          go_upto_region 6 with fail
          clear j0 j1 j2 j3
          go_wp2_with fail
          refine (by_front _ ?hF s a hs8 _ hEr).mono ?_
          case hF => decide
          intro e w1 hr
          obtain ⟨v1, z1, u1, rfl, hb1, hox, hk1⟩ := hr.open
          obtain ⟨sc1, us1, pa1, hh1, hs1, pr1, op1, a1, n1, c1, hq1, hf1, qr1, fr1, rfl⟩ := hox.form
          have hP := PU.new (w := w) (hEr.below hb1) (below_call hbr hb1) hox
          have hpl := path_of hk1
          clear hox hr
          go_upto_region 7 with fail
          generalize w1.alloc (.cells #[.string sc1, .string us1, .string pa1, .bool hh1, .string hs1, .int .i64 pr1, .bool op1, .slice a1 n1 c1, .bool hq1, .bool hf1, .string qr1, .string fr1] 27) = V at hP ⊢
          generalize w1.heap.size = r1 at hP ⊢
          have HP := Lib.hid hP
          clear hP hb1
          go_wp2_with fail
          refine (by_front _ ?hF s b hs8 _ HP.out.env).mono ?_
          case hF => decide
          intro e w2 hr
          obtain ⟨v2, z2, u2, rfl, hb2, hox, hk2⟩ := hr.open
          obtain ⟨hu, hz⟩ := two_same hk1 hk2
          subst hu hz
          obtain ⟨sc2, us2, pa2, hh2, hs2, pr2, op2, a2, n2, c2, hq2, hf2, qr2, fr2, rfl⟩ := hox.form
          have hP2 := (HP.out.call hb2).alloc (.cells #[.string sc2, .string us2, .string pa2, .bool hh2, .string hs2, .int .i64 pr2, .bool op2, .slice a2 n2 c2, .bool hq2, .bool hf2, .string qr2, .string fr2] 27)
          have hQ2 := PU.new (w := w) (HP.out.env.below hb2) (below_call HP.out.below hb2) hox
          clear hox hr hk1 hk2 hb2 HP
          go_upto_region 8 with fail
          generalize w2.alloc (.cells #[.string sc2, .string us2, .string pa2, .bool hh2, .string hs2, .int .i64 pr2, .bool op2, .slice a2 n2 c2, .bool hq2, .bool hf2, .string qr2, .string fr2] 27) = V2 at hP2 hQ2 ⊢
          generalize w2.heap.size = r2 at hQ2 ⊢
          have HP2 := Lib.hid hP2
          have HQ2 := Lib.hid hQ2
          have ez : (z2 != z2) = false := by simp
          have cS := Lib.hid (same_yes _ _ u2 V2 hP2.own.val hQ2.own.val hpl)
          clear hP2 hQ2
          go_wp2_with (first | (refine load_url_g rfl _ rfl r1 rfl _ HP2.out.row rfl ?_) | (refine load_url_g rfl _ rfl r2 rfl _ HQ2.out.row rfl ?_))
          refine cS.out.mono ?_
          rintro e w3 ⟨rfl, hb3⟩
          have hQ3 := HQ2.out.call hb3
          clear HP2 HQ2 cS hb3
          go_wp2_with fail
          go_roundw
          case rel => first | exact ⟨1, by go_num, by omega, hQ3.env, hQ3.below⟩ | exact ⟨2, by go_num, by omega, hQ3.env, hQ3.below⟩ | exact ⟨3, by go_num, by omega, hQ3.env, hQ3.below⟩ | exact ⟨4, by go_num, by omega, hQ3.env, hQ3.below⟩
          case measure => simp [intOf]
      · obtain rfl : i = 4 := by omega
        have cH := Lib.hid (places_any wr hEr)
        go_wp2_with fail
        refine cH.out.mono ?_
        rintro e w1 ⟨rfl, hb⟩
        go_wp2_with fail
        go_ret
        exact ⟨rfl, below_call hbr hb⟩
end Go.Proofs.YthijceooebebfaaGreatDoor

namespace Go.Proofs.YthijceooebebfaaGreatDoor
open Go.RowKit
theorem insB_some {x : UInt8} {m : Nat} (hm : x.toNat % 4 = m) : Lz.insB (some x) = if 0 < m then [([9, 10, 13] : List UInt8).getD (m - 1) 9] else [] := by
  show (if 0 < x.toNat % 4 then _ else _) = _
  rw [hm]
theorem blank_step {l : List UInt8} {s : ByteArray} {i : Nat} (hlt : i < s.size) : Lz.blankF l i (s.data.toList.drop i) = Lz.insB l[i]? ++ s[i] :: Lz.blankF l (i + 1) (s.data.toList.drop (i + 1)) := by
  have h : s.data.toList.drop i = s[i] :: s.data.toList.drop (i + 1) := by
    rw [List.drop_eq_getElem_cons (by rw [len_of_size]; exact hlt)]
    rfl
  rw [h]; rfl
theorem extract_one (s : ByteArray) (i : Nat) (h : i < s.size) : (s.extract i (i + 1)).data.toList = [s[i]] := by
  rw [Lib.extract_data, show i + 1 - i = 1 by omega, List.drop_eq_getElem_cons (by rw [len_of_size]; exact h)]
  rfl
theorem blank_all (l : List UInt8) (s : ByteArray) (u : ByteArray) (i : Nat) (hi : s.size ≤ i) (h : u.data.toList ++ Lz.blankF l i (s.data.toList.drop i) = [32] ++ Lz.blankF l 0 s.data.toList) : u.data.toList = [32] ++ Lz.blankF l 0 s.data.toList := by
  rw [List.drop_eq_nil_of_le (by rw [len_of_size]; exact hi)] at h
  rw [← h]
  show _ = u.data.toList ++ []
  rw [List.append_nil]
theorem blank_next {l : List UInt8} {s u u' : ByteArray} {i : Nat} (hlt : i < s.size) (h : u.data.toList ++ Lz.blankF l i (s.data.toList.drop i) = [32] ++ Lz.blankF l 0 s.data.toList) (hu : u'.data.toList = u.data.toList ++ Lz.insB l[i]? ++ [s[i]]) :
    u'.data.toList ++ Lz.blankF l (i + 1) (s.data.toList.drop (i + 1)) = [32] ++ Lz.blankF l 0 s.data.toList := by
  rw [← h, blank_step hlt, hu]
  simp
theorem blank_by2 (s base : ByteArray) (l : List UInt8) (t : ByteArray) (hs : s.size ≤ 800) (ht : t.data.toList = [32] ++ Lz.blankF l 0 s.data.toList) (w : World) (hE : EnvU w) :
    Calls Tryz.prog 17 #[.string (t ++ ⟨#[32, 10]⟩), .string base] w (RParse (Lz.byU s.data.toList base.data.toList) w) := by
  have := by_any (t ++ ⟨#[32, 10]⟩) base w hE
  have e : Lz.byU (t ++ ⟨#[32, 10]⟩ : ByteArray).data.toList base.data.toList = Lz.byU s.data.toList base.data.toList := by
    rw [append_data', ht]
    exact Lz.blank_by _ l (by rw [len_of_size]; exact hs) _
  rw [e] at this
  exact this
set_option maxHeartbeats 8000000 in
set_option maxRecDepth 100000 in
theorem urlsBlank_any (s base : ByteArray) (v : Value) (l : List UInt8) (w : World) (hl : SlB w v l) (hE : EnvU w) : Calls Tryz.prog 5 #[.string s, .string base, v] w (RBool true w) := by
  have hb00 := Below.refl w.heap.size w
  have cH := Lib.hid (places_any w hE)
  by_cases hbig : 800 < s.size ∨ 800 < base.size
  · obtain ⟨q1, h1⟩ : ∃ q, decide ((800 : Int) < (s.size : Int)) = q := ⟨_, rfl⟩
    obtain ⟨q2, h2⟩ : ∃ q, decide ((800 : Int) < (base.size : Int)) = q := ⟨_, rfl⟩
    have hq : (q1 || q2) = true := by
      rw [← h1, ← h2]; simp; omega
    clear hbig
    cases q1 <;> cases q2 <;> first | (exact absurd hq (by decide)) | skip
    all_goals
      clear hq
      go_enter Tryz.func5, Tryz.ntmps5
      go_wp2_with fail
      refine cH.out.mono ?_
      rintro e w1 ⟨rfl, hb⟩
      go_wp2_with fail
      go_ret
      exact ⟨rfl, hb⟩
  · have g1 : ¬ (800 : Int) < (s.size : Int) := by omega
    have g2 : ¬ (800 : Int) < (base.size : Int) := by omega
    have hs8 : s.size ≤ 800 := by omega
    obtain ⟨a, c, rfl, hlm, hcell⟩ := hl
    have HC := Lib.hid hcell
    clear hbig cH hcell
    go_enter Tryz.func5, Tryz.ntmps5
    go_wp2_with fail
    go_loopw [8, 9] (fun t k wr => ∃ (u : ByteArray) (i : Nat), t = .string u ∧ k = .int .i64 i ∧ i ≤ s.size ∧ u.size ≤ 1 + 2 * i ∧ Hid (u.data.toList ++ Lz.blankF l i (s.data.toList.drop i) = [32] ++ Lz.blankF l 0 s.data.toList) ∧ w = wr) (fun _ k _ => s.size - (intOf k).toNat)
    case atStart => exact ⟨⟨#[32]⟩, 0, rfl, rfl, Nat.zero_le _, by decide, Lib.hid rfl, rfl⟩
    case round =>
      obtain ⟨u, i, rfl, rfl, hi, hus, HU, rfl⟩ := hrel
      by_cases hlt : i < s.size
      · have hltI : (i : Int) < (s.size : Int) := by omega
        have hi0 : (0 : Int) ≤ (i : Int) := by omega
        have hxz : (s.extract i (i + 1)).size = 1 := by rw [← len_of_size, extract_one s i hlt]; rfl
        cases hli : l[i]? with
        | none =>
          have hle : l.length ≤ i := List.getElem?_eq_none_iff.1 hli
          have hll : ¬ (i : Int) < (l.length : Int) := by omega
          have n1 : ¬ (9223372036854775807 < u.size + 1) := by omega
          have HN : Hid ((u ++ s.extract i (i + 1)).data.toList ++ Lz.blankF l (i + 1) (s.data.toList.drop (i + 1)) = [32] ++ Lz.blankF l 0 s.data.toList) := Lib.hid (blank_next hlt HU.out (by rw [append_data', extract_one s i hlt, hli]; simp [Lz.insB]))
          clear hli hle HU
          go_wp2_with fail
          go_roundw
          case rel => exact ⟨_, i + 1, rfl, by go_num, by omega, by simp [hxz]; omega, HN, by first | rfl | trivial⟩
          case measure => simp [intOf]; omega
        | some x =>
          have hll : (i : Int) < (l.length : Int) := by have := (List.getElem?_eq_some_iff.1 hli).1; omega
          obtain ⟨B, off, rfl, hB, hc⟩ := HC.out i x hli
          obtain ⟨m, hm⟩ : ∃ m, x.toNat % 4 = m := ⟨_, rfl⟩
          have hmI : (x.toNat : Int) % 4 = (m : Int) := by omega
          have hmT : Int.tmod (x.toNat : Int) 4 = (m : Int) := by rw [Int.tmod_eq_emod_of_nonneg (by omega)]; exact hmI
          have hx255 := x.toNat_lt
          have hins := insB_some hm
          have hm4 : m < 4 := by omega
          have hBl : B < w.heap.size := hB
          have n0 : ¬ (9223372036854775807 < u.size + 1) := by omega
          have n2 : ¬ (9223372036854775807 < u.size + 1 + 1) := by omega
          clear hm
          rcases (show m = 0 ∨ m = 1 ∨ m = 2 ∨ m = 3 by omega) with rfl | rfl | rfl | rfl
          · have HN : Hid ((u ++ s.extract i (i + 1)).data.toList ++ Lz.blankF l (i + 1) (s.data.toList.drop (i + 1)) = [32] ++ Lz.blankF l 0 s.data.toList) := Lib.hid (blank_next hlt HU.out (by rw [append_data', extract_one s i hlt, hli, hins]; simp))
            clear hli HU hins
            go_wp2_with fail
            go_roundw
            case rel => exact ⟨_, i + 1, rfl, by go_num, by omega, by simp [hxz]; omega, HN, by first | rfl | trivial⟩
            case measure => simp [intOf]; omega
          · have HN : Hid ((u ++ (⟨#[9, 10, 13]⟩ : ByteArray).extract 0 1 ++ s.extract i (i + 1)).data.toList ++ Lz.blankF l (i + 1) (s.data.toList.drop (i + 1)) = [32] ++ Lz.blankF l 0 s.data.toList) := Lib.hid (blank_next hlt HU.out (by rw [append_data', append_data', extract_one s i hlt, hli, hins, show ((⟨#[9, 10, 13]⟩ : ByteArray).extract 0 1).data.toList = [9] by decide +kernel]; simp))
            have hez : ((⟨#[9, 10, 13]⟩ : ByteArray).extract 0 1).size = 1 := by decide +kernel
            clear hli HU hins
            go_wp2_with fail
            go_roundw
            case rel => exact ⟨_, i + 1, rfl, by go_num, by omega, by rw [ByteArray.size_append, ByteArray.size_append, hez, hxz]; omega, HN, by first | rfl | trivial⟩
            case measure => simp [intOf]; omega
          · have HN : Hid ((u ++ (⟨#[9, 10, 13]⟩ : ByteArray).extract 1 2 ++ s.extract i (i + 1)).data.toList ++ Lz.blankF l (i + 1) (s.data.toList.drop (i + 1)) = [32] ++ Lz.blankF l 0 s.data.toList) := Lib.hid (blank_next hlt HU.out (by rw [append_data', append_data', extract_one s i hlt, hli, hins, show ((⟨#[9, 10, 13]⟩ : ByteArray).extract 1 2).data.toList = [10] by decide +kernel]; simp))
            have hez : ((⟨#[9, 10, 13]⟩ : ByteArray).extract 1 2).size = 1 := by decide +kernel
            clear hli HU hins
            go_wp2_with fail
            go_roundw
            case rel => exact ⟨_, i + 1, rfl, by go_num, by omega, by rw [ByteArray.size_append, ByteArray.size_append, hez, hxz]; omega, HN, by first | rfl | trivial⟩
            case measure => simp [intOf]; omega
          · have HN : Hid ((u ++ (⟨#[9, 10, 13]⟩ : ByteArray).extract 2 3 ++ s.extract i (i + 1)).data.toList ++ Lz.blankF l (i + 1) (s.data.toList.drop (i + 1)) = [32] ++ Lz.blankF l 0 s.data.toList) := Lib.hid (blank_next hlt HU.out (by rw [append_data', append_data', extract_one s i hlt, hli, hins, show ((⟨#[9, 10, 13]⟩ : ByteArray).extract 2 3).data.toList = [13] by decide +kernel]; simp))
            have hez : ((⟨#[9, 10, 13]⟩ : ByteArray).extract 2 3).size = 1 := by decide +kernel
            clear hli HU hins
            go_wp2_with fail
            go_roundw
            case rel => exact ⟨_, i + 1, rfl, by go_num, by omega, by rw [ByteArray.size_append, ByteArray.size_append, hez, hxz]; omega, HN, by first | rfl | trivial⟩
            case measure => simp [intOf]; omega
      · have hltI : ¬ (i : Int) < (s.size : Int) := by omega
        have ht := blank_all l s u i (by omega) HU.out
        have Ht := Lib.hid ht
        have n1 : ¬ (9223372036854775807 < u.size + 2) := by omega
        have cB := Lib.hid (by_any s base w hE)
        clear ht HU
        go_wp2_with fail
        refine cB.out.mono ?_
        intro e w1 hr
        obtain ⟨v1, z1, u1, rfl, hb1, hox, hk1⟩ := hr.open
        obtain ⟨sc1, us1, pa1, hh1, hs1, pr1, op1, a1, n1, c1, hq1, hf1, qr1, fr1, rfl⟩ := hox.form
        have hP := PU.new (w := w) (hE.below hb1) hb1 hox
        have hpl := path_of hk1
        clear hox hr cB
        go_upto_region 13 with fail
        generalize w1.alloc (.cells #[.string sc1, .string us1, .string pa1, .bool hh1, .string hs1, .int .i64 pr1, .bool op1, .slice a1 n1 c1, .bool hq1, .bool hf1, .string qr1, .string fr1] 27) = V at hP ⊢
        generalize w1.heap.size = r1 at hP ⊢
        have HP := Lib.hid hP
        clear hP hb1
        have cB2 := Lib.hid (blank_by2 s base l u hs8 Ht.out V HP.out.env)
        go_wp2_with fail
        refine cB2.out.mono ?_
        intro e w2 hr
        obtain ⟨v2, z2, u2, rfl, hb2, hox, hk2⟩ := hr.open
        obtain ⟨hu, hz⟩ := two_same hk1 hk2
        subst hu hz
        obtain ⟨sc2, us2, pa2, hh2, hs2, pr2, op2, a2, n2, c2, hq2, hf2, qr2, fr2, rfl⟩ := hox.form
        have hP2 := (HP.out.call hb2).alloc (.cells #[.string sc2, .string us2, .string pa2, .bool hh2, .string hs2, .int .i64 pr2, .bool op2, .slice a2 n2 c2, .bool hq2, .bool hf2, .string qr2, .string fr2] 27)
        have hQ2 := PU.new (w := w) (HP.out.env.below hb2) (below_call HP.out.below hb2) hox
        clear hox hr hk1 hk2 hb2 HP cB2
        go_upto_region 14 with fail
        generalize w2.alloc (.cells #[.string sc2, .string us2, .string pa2, .bool hh2, .string hs2, .int .i64 pr2, .bool op2, .slice a2 n2 c2, .bool hq2, .bool hf2, .string qr2, .string fr2] 27) = V2 at hP2 hQ2 ⊢
        generalize w2.heap.size = r2 at hQ2 ⊢
        have HP2 := Lib.hid hP2
        have HQ2 := Lib.hid hQ2
        have ez : (z2 == z2) = true := by simp
        have cS := Lib.hid (same_yes _ _ u2 V2 hP2.own.val hQ2.own.val hpl)
        clear hP2 hQ2
        go_wp2_with (first | (refine load_url_g rfl _ rfl r1 rfl _ HP2.out.row rfl ?_) | (refine load_url_g rfl _ rfl r2 rfl _ HQ2.out.row rfl ?_))
        refine cS.out.mono ?_
        rintro e w3 ⟨rfl, hb3⟩
        have hQ3 := HQ2.out.call hb3
        have cH := Lib.hid (places_any w3 hQ3.env)
        have hb03 := hQ3.below
        clear hQ3 HP2 HQ2 hb3 cS
        go_wp2_with fail
        refine cH.out.mono ?_
        rintro e w4 ⟨rfl, hb4⟩
        go_wp2_with fail
        go_ret
        exact ⟨rfl, below_call hb03 hb4⟩
end Go.Proofs.YthijceooebebfaaGreatDoor

namespace Go.Proofs.YthijceooebebfaaGreatDoor.urlsBlank
open Go.ChangeShapes Go.WideShapes Go.ChangeAt Go.RowKit Go.Proofs.YthijceooebebfaaGreatDoor

theorem walk (s0 : ByteArray) (s1 : ByteArray) (v2 : Value) (l2 : List UInt8) (w : World) (i2 : SlB w v2 l2) (hE : EnvU w) : Calls Tryz.prog 5 #[.string s0, .string s1, v2] w (RBool true w) := urlsBlank_any s0 s1 v2 l2 w i2 hE

theorem env {W : World} (h : laidMetH Tryz.prog Rows.urlsSchemesRow.laid W) (hsh : W.ShapedOpen Tryz.prog) : EnvU W := envU_row h hsh

set_option maxRecDepth 100000 in
/-- WHAT THE WALK GIVES, FOR EVERY ARGUMENT AND EVERY WORLD THAT HOLDS WHAT THE ROW LISTS. -/
theorem contract (H : Type) (enc : TypeId × Value → H) (W : World) (base : Nat) (args : Array Value) (ds gs : List (DataW H)) (before : List MemPlace)
    (hval : ∀ (j : Nat) t v, Tryz.f5.params[j]? = some t → args[j]? = some v → Value.okWide Tryz.prog W .any base t v)
    (hW : DataW.Whole enc Tryz.prog Tryz.f5.params.toList Rows.urlsBlankSpec.vars false W args.toList ds gs before) (hL : laidMetH Tryz.prog Rows.urlsBlankRow.laid W) (hsh : W.ShapedOpen Tryz.prog) :
    Calls Tryz.prog 5 args W fun e W' => ∃ v, e = .returned v ∧ Rows.urlsBlankSpec.post enc Tryz.prog Tryz.f5 false true false false W args v W' := by
  have hW' := hW
  obtain ⟨p, q, hA0, hV, rfl, hfz, hnd⟩ := hW
  have hA : DataW.TrodAll enc Tryz.prog W 0 (fun _ => true) true Tryz.f5.params.toList args.toList ds p := hA0
  rw [Tryz.params5] at hA hval
  have hAk := hA
  have hlt : ∀ x ∈ p, x.block < W.heap.size := fun x hx => hW'.lt x (List.mem_append_left _ hx)
  obtain ⟨v0, v1, v2, d0, d1, d2, p0, p1, p2, rfl, rfl, rfl, h0, h1, h2⟩ := trodAll_three hA
  obtain ⟨rfl, rfl⟩ := trodVars_none hV
  obtain ⟨s0, rfl, rfl, rfl, hs0⟩ := Go.ChangeMaps.open_string Tryz.underlying9 (hval 0 9 v0 rfl rfl) h0
  obtain ⟨s1, rfl, rfl, rfl, hs1⟩ := Go.ChangeMaps.open_string Tryz.underlying9 (hval 1 9 v1 rfl rfl) h1
  obtain ⟨l2, i2⟩ := slB_of (hval 2 35 v2 rfl rfl) h2
  clear hA0
  refine (walk s0 s1 v2 l2 W i2 (env hL hsh)).mono fun e W' hr => ?_
  obtain ⟨he, hb⟩ : e = .returned (.bool true) ∧ Below W.heap.size W W' := hr
  subst he
  refine ⟨_, rfl, _, _, _, [], [] ++ [] ++ p2, [], hW', ?_, ?_, ?_, hb.frame _, ?_⟩
  · exact trodAll_mk1 (shut_bool Tryz.underlying4 true)
  · exact trodAll_below hb (by decide +kernel) hAk hlt
  · rfl
  · exact fun h => by cases h

theorem met (os : Os) (args : Array Value) : laidMetH Tryz.prog Rows.urlsBlankRow.laid ((startU os).forCall (fun _ _ => 0) ⟨#[], args, []⟩).memory := metU os args
theorem reads (os : Os) {H : Type} (enc : TypeId × Value → H) : ∃ places, DataW.whole enc Tryz.prog ((startU os).forCall (fun _ _ => 0) ⟨#[], #[.string ⟨#[]⟩, .string ⟨#[]⟩, .slice none 0 0], []⟩).memory Tryz.f5.params.toList Rows.urlsBlankSpec.vars false #[Value.string ⟨#[]⟩, .string ⟨#[]⟩, .slice none 0 0].toList 8 = some ([.lit (.string []), .lit (.string []), .nil], [], places) :=
  ⟨[], by kernel_rfl⟩

set_option maxRecDepth 100000 in
theorem lifted (os : Os) (started : os.Started) (H : Type) (enc : TypeId × Value → H) (F : Stop.Interp) :
    ReturnsInHanded {} Tryz.checked os 5 .any ((OpenSpec.ofChange Rows.urlsBlankSpec).preRow enc Tryz.prog Tryz.f5 Rows.urlsBlankRow.domain false Rows.urlsBlankRow.laid) (((OpenSpec.ofChange Rows.urlsBlankSpec).at F).post enc Tryz.prog Tryz.f5 false true false false) := by
  obtain ⟨places, hx⟩ := reads os enc
  refine returnsInHanded_of_row (C := Tryz.checked) (s := OpenSpec.ofChange Rows.urlsBlankSpec) ownU started (by kernel_rfl) Tryz.func5
    (witness_row_atRef (enc := enc) (C := Tryz.checked) false (startU os) #[.string ⟨#[]⟩, .string ⟨#[]⟩, .slice none 0 0] rfl (by kernel_rfl) (by kernel_rfl) (by kernel_rfl)
      (OpenSpec.preRow_of_cond 8 hx (by kernel_rfl) (fun k hk => by cases hk) (by kernel_rfl) (met os _))) ?_
  intro W base args ds gs before hval hW _ _ _ hL hsh _
  exact contract H enc W base args ds gs before hval hW hL hsh

theorem c1 : Rows.urlsBlankRow.wf (OpenSpec.ofChange Rows.urlsBlankSpec) = true := by kernel_rfl
theorem c2 : namedTie Tryz.prog Rows.urlsBlankRow.named Rows.urlsBlankSpec.vars = true := by kernel_rfl
theorem c3 : (Rows.urlsBlankRow.inPlace == Tryz.prog.inPlace 5) = true := by kernel_rfl
theorem c4 : (Rows.urlsBlankRow.unfollowed == Tryz.prog.unfollowed 5) = true := by kernel_rfl
theorem c5 : (Rows.urlsBlankRow.recurses == Tryz.prog.recurses 5) = true := by kernel_rfl
theorem c6 : (Rows.urlsBlankRow.named == Tryz.prog.varsNamed 5) = true := by kernel_rfl
theorem c7 : (Rows.urlsBlankRow.lifted == Tryz.prog.liftsFinal) = true := liftU
theorem c8 : (Tryz.prog.make == some Rows.urlsBlankRow.make) = true := makeU
theorem c9 : (Rows.urlsBlankRow.plainKeys == Tryz.prog.plainKeys) = true := keysU
theorem closed : joinedFacts Tryz.prog 5 Tryz.f5 Rows.urlsBlankSpec Rows.urlsBlankRow = true := by
  unfold joinedFacts
  repeat' (with_reducible refine andI ?_ ?_)
  all_goals first
    | with_reducible exact c1 | with_reducible exact laidOut | with_reducible exact mapsU | with_reducible exact c2 | with_reducible exact c3 | with_reducible exact c4 | with_reducible exact c5 | with_reducible exact c6
    | with_reducible exact c9 | with_reducible exact heardU | with_reducible exact mayU | with_reducible exact c7 | with_reducible exact c8
    | kernel_rfl
set_option maxRecDepth 100000 in
theorem said : Rows.UrlsBlankSaid :=
  OpenClaim.holds_of_cond 5 Tryz.f5 rfl rfl rfl rfl rfl rfl rfl ⟨rfl, rfl, rfl, rfl, rfl⟩ rfl rfl rfl rfl rfl (by kernel_rfl) Tryz.func5 closed
    (of_decide_eq_true (by kernel_rfl)) (by unfold Func.isWrapper; first | (rw [if_pos (by decide +kernel)]; kernel_rfl) | (rw [if_neg (by decide +kernel)]; exact ⟨rfl, rfl⟩))
    (fun os started H enc _ F => by rw [OpenClaim.pre_eq_preRow]; exact lifted os started H enc F)

theorem plain (f : FuncId) (fn : Func) (hf : Tryz.pinned.checked.prog.funcNamed "lazaret/lazaretlaw08.UrlsBlank" = some f) (hfn : Tryz.pinned.checked.prog.funcs[f]? = some fn) :
    true = Tryz.pinned.checked.prog.looks [] ∧ ∀ (j : Nat) t, fn.params[j]? = some t → Tryz.pinned.checked.prog.wantsStandIn t = false := by
  obtain rfl : f = 5 := Option.some.inj ((show Tryz.prog.funcNamed "lazaret/lazaretlaw08.UrlsBlank" = some 5 by kernel_rfl).symm.trans hf) |>.symm
  obtain rfl : fn = Tryz.f5 := (Option.some.inj (Tryz.func5.symm.trans hfn)).symm
  refine ⟨by kernel_rfl, fun j t ht => ?_⟩
  rw [Tryz.params5] at ht
  have hall : ∀ t ∈ (#[9, 9, 35] : Array TypeId), Tryz.prog.wantsStandIn t = false := by decide +kernel
  exact hall t (Array.mem_of_getElem? ht)

theorem card : Rows.UrlsBlankCardSaid :=
  Claim7.holds_tied_plain_at .later [] _ _ _ _ said (fun _ h => by cases h) (by kernel_rfl) (fun _ h => by cases h) urlsBlank_row_tie rfl ⟨rfl, rfl⟩ (by kernel_rfl) rfl plain (by kernel_rfl)
end Go.Proofs.YthijceooebebfaaGreatDoor.urlsBlank
