/-
  Package urls: authority, hosted.
  Plain laws: what stays when an authority is read.
  Package urls: hosted, rest.
  Package urls: Clone, path.
-/
import Derived.Test.YthijceooebebfaaGreatDoorM21
import Derived.Test.YthijceooebebfaaGreatDoorM14
import Derived.BigRegion
namespace Go.Proofs.YthijceooebebfaaGreatDoor
open Go.RowKit

/-- Behind who is asked. -/
def AuthRel (B M : Nat) (goal : Lz.UR) (L : Nat) (w : World) (s1 : Value) (wx : World) : Prop :=
  ∃ (ab : ByteArray) (u : Lz.UrlL), s1 = .string ab ∧ Below B w wx ∧ MkIs B M wx u ∧ Hid (goal = Lz.placeU u ab.data.toList) ∧ ab.size ≤ L
/-- Behind where the host ends. -/
def PlaceRel (B M : Nat) (goal : Lz.UR) (L : Nat) (w : World) (s1 s9 : Value) (wx : World) : Prop :=
  ∃ (ab pb : ByteArray) (u : Lz.UrlL), s1 = .string ab ∧ s9 = .string pb ∧ Below B w wx ∧ MkIs B M wx u ∧ Hid (goal = if ab.data.toList = [] ∧ Lz.specP u.scheme = true then .er 70 else (Lz.hostU u ab.data.toList).bind fun v => Lz.portU v pb.data.toList) ∧ ab.size ≤ L ∧ pb.size ≤ L
theorem mk_who {B M : Nat} {w w1 : World} {u : Lz.UrlL} (hm : MkIs B M w1 u) (hb : Below B w w1) (ub pb : ByteArray) (l : List UInt8) (hu : ub.data.toList = Lz.encodeP (Lz.setU 5) (Lib.cut l [58]).1) (hp : pb.data.toList = Lz.encodeP (Lz.setU 5) (Lib.cut l [58]).2.1) :
    Below B w ((w1.setCell ⟨M, 1, none⟩ (.string ub)).setCell ⟨M, 2, none⟩ (.string pb)) ∧ MkIs B M ((w1.setCell ⟨M, 1, none⟩ (.string ub)).setCell ⟨M, 2, none⟩ (.string pb)) (Lz.whoU u l) := by
  obtain ⟨sch, usr, pas, hh, hst, prt, opq, a, c, xs, hq, hf, qry, frg, hk, rfl, hc, hcells⟩ := hm.form
  have m1 := mk_set hk 1 (.string ub) ⟨sch, ub, pas, hh, hst, prt, opq, .slice a xs.length c, xs, hq, hf, qry, frg⟩ (Lz.specP sch.data.toList) (slashB (Lz.specP sch.data.toList)) (by simp) (fun _ h => h)
  have m2 := mk_set m1 2 (.string pb) ⟨sch, ub, pb, hh, hst, prt, opq, .slice a xs.length c, xs, hq, hf, qry, frg⟩ (Lz.specP sch.data.toList) (slashB (Lz.specP sch.data.toList)) (by simp) (fun _ h => h)
  refine ⟨(hb.setCell (p := ⟨M, 1, none⟩) hk.le _).setCell (p := ⟨M, 2, none⟩) hk.le _, _, m2, Lib.hid ?_⟩
  unfold Lz.whoU
  rw [← hu, ← hp]; rfl
theorem lastN_some {s : List UInt8} {i : Nat} (h : Lz.lastN s = some i) : Lz.lastAt s = some (s.take i, s.drop (i + 1)) ∧ i < s.length := by
  unfold Lz.lastN at h
  rw [Option.map_eq_some_iff] at h
  obtain ⟨⟨x, y⟩, h1, h2⟩ := h
  have hl := Lz.lastAt_len h1
  have hs : ∀ {s x y : List UInt8}, Lz.lastAt s = some (x, y) → s = x ++ 64 :: y := by
    intro s
    induction s with
    | nil => intro x y h; cases h
    | cons c r ih =>
      intro x y h
      rw [Lz.lastAt] at h
      cases hr : Lz.lastAt r with
      | some z =>
        obtain ⟨x', y'⟩ := z
        rw [hr] at h
        simp only [Option.some.injEq, Prod.mk.injEq] at h
        rw [← h.1, ← h.2, ih hr]; rfl
      | none =>
        rw [hr] at h
        simp only at h
        split at h
        · rename_i hc
          simp only [Option.some.injEq, Prod.mk.injEq] at h
          rw [← h.1, ← h.2, show c = 64 by simpa using hc]; rfl
        · cases h
  have he := hs h1
  simp only at h2
  subst h2
  refine ⟨?_, by omega⟩
  rw [h1]
  congr 1
  rw [he]
  simp
theorem lastN_no {s : List UInt8} (h : Lz.lastN s = none) : Lz.lastAt s = none := by
  unfold Lz.lastN at h; rw [Option.map_eq_none_iff] at h; exact h
theorem authU_none {u : Lz.UrlL} {s : List UInt8} (h : Lz.lastN s = none) : Lz.authU u s = Lz.placeU u s := by unfold Lz.authU; rw [lastN_no h]
theorem authU_some {u : Lz.UrlL} {s : List UInt8} {i : Nat} (h : Lz.lastN s = some i) : Lz.authU u s = if s.drop (i + 1) = [] then .er 70 else Lz.placeU (Lz.whoU u (s.take i)) (s.drop (i + 1)) := by unfold Lz.authU; rw [(lastN_some h).1]
theorem placeU_none {u : Lz.UrlL} {s : List UInt8} (h : Lz.colonP false s = none) : Lz.placeU u s = if s = [] ∧ Lz.specP u.scheme = true then .er 70 else (Lz.hostU u s).bind fun v => Lz.portU v [] := by unfold Lz.placeU; rw [h]
theorem placeU_some {u : Lz.UrlL} {s : List UInt8} {i : Nat} (h : Lz.colonP false s = some i) : Lz.placeU u s = if s.take i = [] then .er 70 else (Lz.hostU u (s.take i)).bind fun v => Lz.portU v (s.drop (i + 1)) := by unfold Lz.placeU; rw [h]
theorem colonP_lt : ∀ {b : Bool} {s : List UInt8} {i : Nat}, Lz.colonP b s = some i → i < s.length
  | _, [], _, h => by cases h
  | b, c :: r, i, h => by
    rw [Lz.colonP] at h
    have key : ∀ b' k, (Lz.colonP b' r).map (· + 1) = some k → k < (c :: r).length := by
      intro b' k hk
      rw [Option.map_eq_some_iff] at hk
      obtain ⟨m, hm, rfl⟩ := hk
      have := colonP_lt hm
      simp; omega
    split at h
    · exact key _ _ h
    · split at h
      · exact key _ _ h
      · split at h
        · injection h with h; subst h; simp
        · exact key _ _ h

set_option maxHeartbeats 2000000 in
set_option maxRecDepth 100000 in
theorem authM_any (B M : Nat) (u : Lz.UrlL) (s : ByteArray) (hs : s.size ≤ 900000) (w : World) (hE : EnvH w) (hm : MkIs B M w u) (hB : B ≤ w.heap.size) (hBg : 9 ≤ B) :
    Calls Tryz.prog 108 #[.pointer (some ⟨M, 0, none⟩), .string s] w (RMkE B M (Lz.authU u s.data.toList) w) := by
  obtain ⟨goal, hgoal⟩ : ∃ goal, goal = Lz.authU u s.data.toList := ⟨_, rfl⟩
  rw [← hgoal]
  have Hgoal := Lib.hid hgoal
  have HE := Lib.hid hE
  have Hm := Lib.hid hm
  have cL := Lib.hid (fun W => last_any s (by omega) W)
  obtain ⟨o, ho⟩ : ∃ o, o = Lz.lastN s.data.toList := ⟨_, rfl⟩
  rw [← ho] at cL
  obtain ⟨oi, hoi⟩ : ∃ oi, oi = intO o := ⟨_, rfl⟩
  rw [← hoi] at cL
  have Ho := Lib.hid ho
  have Hoi := Lib.hid hoi
  clear hgoal hE hm ho hoi
  go_enter Tryz.func108, Tryz.ntmps108
  go_wp2_with fail
  refine (cL.out _).mono ?_
  rintro e w1 ⟨rfl, rfl⟩
  go_upto_if 15 with fail
  go_cut [1] (fun s1 wx => AuthRel B M goal s.size w s1 wx)
  case first =>
    cases o with
    | none =>
      obtain rfl : oi = -1 := Hoi.out
      have HG : Hid (goal = Lz.placeU u s.data.toList) := by show _ = _; rw [Hgoal.out, authU_none Ho.out.symm]
      go_wp2_with fail
      go_meet
      exact ⟨s, u, rfl, Below.refl _ _, Hm.out, HG, Nat.le_refl _⟩
    | some i =>
      obtain rfl : oi = (i : Int) := Hoi.out
      have hil : i < s.size := by rw [← len_of_size]; exact (lastN_some Ho.out.symm).2
      have HG : Hid (goal = if s.data.toList.drop (i + 1) = [] then .er 70 else Lz.placeU (Lz.whoU u (s.data.toList.take i)) (s.data.toList.drop (i + 1))) := by show _ = _; rw [Hgoal.out, authU_some Ho.out.symm]
      have hi0 : (0 : Int) ≤ (i : Int) := by omega
      have hi1 : (i : Int) ≤ (s.size : Int) := by omega
      have hi2 : (0 : Int) ≤ (i : Int) + 1 := by omega
      have hi3 : (i : Int) + 1 ≤ (s.size : Int) := by omega
      have hi4 : ((i : Int) + 1).toNat = i + 1 := by omega
      have hw1 : IntKind.i64.wrap ((i : Int) + 1) = (i : Int) + 1 := IntWalk.i64_in _ (by omega)
      have hx1 := extract_size_le' s 0 i
      have cC := Lib.hid (Cut_h (s.extract 0 i) ⟨#[58]⟩ (by omega) w HE.out)
      go_wp2_with fail
      refine cC.out.mono ?_
      rintro e w1 ⟨ub, pb, rfl, hub, hpb, hb1⟩
      have hcl := Lz.cut_len 58 (s.extract 0 i).data.toList
      rw [show ([58] : List UInt8) = (⟨#[58]⟩ : ByteArray).data.toList from rfl, ← hub.out, ← hpb.out, len_of_size, len_of_size, len_of_size] at hcl
      have cE1 := Lib.hid (Encode_any 5 (by decide) ub (by omega) w1)
      go_wp2_with fail
      refine cE1.out.mono ?_
      rintro e w2 ⟨ue, rfl, hue, hb2⟩
      have cE2 := Lib.hid (Encode_any 5 (by decide) pb (by omega) w2)
      go_wp2_with fail
      refine cE2.out.mono ?_
      rintro e w3 ⟨pe, rfl, hpe, hb3⟩
      have hb13 := below_call (below_call hb1 hb2) hb3
      have hm3 := Hm.out.below hb13
      obtain ⟨hb4, hm4⟩ := mk_who hm3 (hb13.mono hB) ue pe (s.data.toList.take i) (by rw [hue.out, hub.out, extract_head2]; rfl) (by rw [hpe.out, hpb.out, extract_head2]; rfl)
      obtain ⟨sch, usr, pas, hh, hst, prt, opq, a, c, xs, hq, hf, qry, frg, hk, hux, hc, hcells⟩ := hm3.form
      have c1 := rowAt hk.row 1 (.string usr) rfl
      have f1 := rowFz hk.row 1
      have c2 := rowAt hk.row 2 (.string pas) rfl
      have f2 := rowFz hk.row 2
      have hxd : (s.extract (i + 1) s.size).data.toList = s.data.toList.drop (i + 1) := extract_tail' s (i + 1)
      by_cases he : s.data.toList.drop (i + 1) = []
      · have hem : (s.extract (i + 1) s.size).toList.isEmpty = true := isEmpty_of_size (by rw [← len_of_size, hxd, he]; rfl)
        have HG2 : Hid (goal = .er 70) := by show _ = _; rw [HG.out, if_pos he]
        clear hux hcells hk hcl hub hpb hue hpe he hxd
        go_wp2_with fail
        go_ret
        refine ⟨_, rfl, hb4, ?_⟩
        rw [HG2.out]
        exact ⟨_, rfl⟩
      · have hem : (s.extract (i + 1) s.size).toList.isEmpty = false := isEmpty_of_pos (by rw [← len_of_size, hxd]; exact List.length_pos_iff.2 he)
        have HG2 : Hid (goal = Lz.placeU (Lz.whoU u (s.data.toList.take i)) (s.extract (i + 1) s.size).data.toList) := by show _ = _; rw [HG.out, if_neg he, hxd]
        have hxl := extract_size_le' s (i + 1) s.size
        clear hux hcells hk hcl hub hpb hue hpe he hxd
        go_wp2_with fail
        go_meet
        exact ⟨_, _, rfl, hb4, hm4, HG2, hxl⟩
  case rest =>
    obtain ⟨ab, u1, rfl, hbw, hm1, hG, hal⟩ := hcut
    have hEc := HE.out.at hbw hBg
    have hBc : B ≤ wc.heap.size := Nat.le_trans hB hbw.size
    have cN := Lib.hid (fun W => colon_any ab (by omega) W)
    obtain ⟨o2, ho2⟩ : ∃ o2, o2 = Lz.colonP false ab.data.toList := ⟨_, rfl⟩
    rw [← ho2] at cN
    obtain ⟨oi2, hoi2⟩ : ∃ oi2, oi2 = intO o2 := ⟨_, rfl⟩
    rw [← hoi2] at cN
    have Ho2 := Lib.hid ho2
    have Hoi2 := Lib.hid hoi2
    clear ho2 cL hoi2 Hoi
    go_wp2_with fail
    refine (cN.out _).mono ?_
    rintro e w2 ⟨rfl, rfl⟩
    go_upto_if 48 with fail
    go_cut [1, 9] (fun s1 s9 wx => PlaceRel B M goal s.size w s1 s9 wx)
    case first =>
      cases o2 with
      | none =>
        obtain rfl : oi2 = -1 := Hoi2.out
        have HG : Hid (goal = if ab.data.toList = [] ∧ Lz.specP u1.scheme = true then .er 70 else (Lz.hostU u1 ab.data.toList).bind fun v => Lz.portU v (⟨#[]⟩ : ByteArray).data.toList) := by show _ = _; rw [hG.out, placeU_none Ho2.out.symm]
        go_wp2_with fail
        go_meet
        exact ⟨ab, ⟨#[]⟩, u1, rfl, rfl, hbw, hm1, HG, hal, Nat.zero_le _⟩
      | some i =>
        obtain rfl : oi2 = (i : Int) := Hoi2.out
        have hil : i < ab.size := by rw [← len_of_size]; exact colonP_lt Ho2.out.symm
        have HG : Hid (goal = if ab.data.toList.take i = [] then .er 70 else (Lz.hostU u1 (ab.data.toList.take i)).bind fun v => Lz.portU v (ab.data.toList.drop (i + 1))) := by show _ = _; rw [hG.out, placeU_some Ho2.out.symm]
        have hi0 : (0 : Int) ≤ (i : Int) := by omega
        have hi1 : (i : Int) ≤ (ab.size : Int) := by omega
        have hi2 : (0 : Int) ≤ (i : Int) + 1 := by omega
        have hi3 : (i : Int) + 1 ≤ (ab.size : Int) := by omega
        have hi4 : ((i : Int) + 1).toNat = i + 1 := by omega
        have hw1 : IntKind.i64.wrap ((i : Int) + 1) = (i : Int) + 1 := IntWalk.i64_in _ (by omega)
        have hx1 := extract_size_le' ab 0 i
        have hx2 := extract_size_le' ab (i + 1) ab.size
        have hxa : (ab.extract 0 i).data.toList = ab.data.toList.take i := extract_head2 ab i
        have hxd : (ab.extract (i + 1) ab.size).data.toList = ab.data.toList.drop (i + 1) := extract_tail' ab (i + 1)
        by_cases he : ab.data.toList.take i = []
        · have hem : (ab.extract 0 i).toList.isEmpty = true := isEmpty_of_size (by rw [← len_of_size, hxa, he]; rfl)
          have HG2 : Hid (goal = .er 70) := by show _ = _; rw [HG.out, if_pos he]
          clear he hxa hxd
          go_wp2_with fail
          go_quiet (fail)
          have hb4 : Below B w (wc.drewN nq) := below_drewN hbw nq
          generalize wc.drewN nq = wa at hb4 ⊢
          go_wp2_with fail
          go_ret
          refine ⟨_, rfl, hb4, ?_⟩
          rw [HG2.out]
          exact ⟨_, rfl⟩
        · have hem : (ab.extract 0 i).toList.isEmpty = false := isEmpty_of_pos (by rw [← len_of_size, hxa]; exact List.length_pos_iff.2 he)
          have HG2 : Hid (goal = if (ab.extract 0 i).data.toList = [] ∧ Lz.specP u1.scheme = true then .er 70 else (Lz.hostU u1 (ab.extract 0 i).data.toList).bind fun v => Lz.portU v (ab.extract (i + 1) ab.size).data.toList) := by
            show _ = _
            rw [HG.out, if_neg he, if_neg (fun h => he (by rw [← hxa]; exact h.1)), hxa, hxd]
          clear he hxa hxd
          go_wp2_with fail
          go_quiet (fail)
          have hb4 : Below B w (wc.drewN nq) := below_drewN hbw nq
          have hm4 : MkIs B M (wc.drewN nq) u1 := hm1.below (below_drewN (Below.refl _ wc) nq)
          generalize wc.drewN nq = wa at hb4 hm4 ⊢
          go_wp2_with fail
          go_meet
          exact ⟨_, _, u1, rfl, rfl, hb4, hm4, HG2, by omega, by omega⟩
    case rest =>
      clear cN Hoi2 hG hal hm1 hbw hEc hBc
      obtain ⟨ab, pb, u2, rfl, rfl, hbw, hm2, hG, hal, hpl⟩ := hcut
      have hEc := HE.out.at hbw hBg
      have hBc : B ≤ wc.heap.size := Nat.le_trans hB hbw.size
      obtain ⟨sch, usr, pas, hh, hst, prt, opq, a, c, xs, hq, hf, qry, frg, hk, hux, hc, hcells⟩ := hm2.form
      have hus : u2.scheme = sch.data.toList := by rw [hux]
      have c12 := rowAt hk.row 12 (.bool (Lz.specP sch.data.toList)) rfl
      have hG2 : Hid (goal = if ab.data.toList = [] ∧ Lz.specP sch.data.toList = true then .er 70 else (Lz.hostU u2 ab.data.toList).bind fun v => Lz.portU v pb.data.toList) := by show _ = _; rw [hG.out, hus]
      generalize Lz.specP sch.data.toList = sp at hG2 c12
      clear hux hk hcells hus hG
      have cH := Lib.hid (hostM_any B M u2 ab (by omega) wc hEc hm2 hBc)
      have hfin : Hid ((goal = (Lz.hostU u2 ab.data.toList).bind fun v => Lz.portU v pb.data.toList)) ∨ (ab.data.toList = [] ∧ sp = true) := by
        by_cases h : ab.data.toList = [] ∧ sp = true
        · exact .inr h
        · exact .inl (Lib.hid (by rw [hG2.out, if_neg h]))
      by_cases he : ab.data.toList = []
      · have hem : ab.toList.isEmpty = true := isEmpty_of_size (by rw [← len_of_size, he]; rfl)
        cases sp with
        | true =>
          have HG3 : Hid (goal = .er 70) := by show _ = _; rw [hG2.out, if_pos ⟨he, rfl⟩]
          clear he hfin
          go_wp2_with fail
          go_ret
          refine ⟨_, rfl, hbw, ?_⟩
          rw [HG3.out]
          exact ⟨_, rfl⟩
        | false =>
          have HG3 : Hid (goal = (Lz.hostU u2 ab.data.toList).bind fun v => Lz.portU v pb.data.toList) := hfin.resolve_right (fun h => by cases h.2)
          clear he hfin
          go_wp2_with fail
          refine cH.out.mono ?_
          rintro e w3 ⟨v, rfl, hb3, hres⟩
          have hb03 := hbw.trans hb3
          generalize Lz.hostU u2 ab.data.toList = r at hres HG3
          cases r with
          | er n =>
            obtain ⟨p, rfl⟩ := hres
            go_wp2_with fail
            go_ret
            refine ⟨_, rfl, hb03, ?_⟩
            rw [HG3.out]
            exact ⟨p, rfl⟩
          | ok u3 =>
            obtain ⟨rfl, hm3⟩ := hres
            have cP := Lib.hid (portM_any B M u3 pb (by omega) w3 hm3)
            have HG4 : Hid (goal = Lz.portU u3 pb.data.toList) := Lib.hid HG3.out
            go_wp2_with fail
            refine cP.out.mono ?_
            rintro e w4 ⟨v, rfl, hb4, hres⟩
            go_wp2_with fail
            go_ret
            refine ⟨v, rfl, hb03.trans hb4, ?_⟩
            rw [HG4.out]
            exact hres
      · have hem : ab.toList.isEmpty = false := isEmpty_of_pos (by rw [← len_of_size]; exact List.length_pos_iff.2 he)
        have HG3 : Hid (goal = (Lz.hostU u2 ab.data.toList).bind fun v => Lz.portU v pb.data.toList) := hfin.resolve_right (fun h => he h.1)
        clear he hfin
        go_wp2_with fail
        refine cH.out.mono ?_
        rintro e w3 ⟨v, rfl, hb3, hres⟩
        have hb03 := hbw.trans hb3
        generalize Lz.hostU u2 ab.data.toList = r at hres HG3
        cases r with
        | er n =>
          obtain ⟨p, rfl⟩ := hres
          go_wp2_with fail
          go_ret
          refine ⟨_, rfl, hb03, ?_⟩
          rw [HG3.out]
          exact ⟨p, rfl⟩
        | ok u3 =>
          obtain ⟨rfl, hm3⟩ := hres
          have cP := Lib.hid (portM_any B M u3 pb (by omega) w3 hm3)
          have HG4 : Hid (goal = Lz.portU u3 pb.data.toList) := Lib.hid HG3.out
          go_wp2_with fail
          refine cP.out.mono ?_
          rintro e w4 ⟨v, rfl, hb4, hres⟩
          go_wp2_with fail
          go_ret
          refine ⟨v, rfl, hb03.trans hb4, ?_⟩
          rw [HG4.out]
          exact hres
end Go.Proofs.YthijceooebebfaaGreatDoor

namespace Lz
open Go
theorem bind_path {r : UR} {f : UrlL → UR} {u v : UrlL} (hr : ∀ x, r = .ok x → x.path = u.path ∧ x.scheme = u.scheme) (hf : ∀ x y, f x = .ok y → y.path = x.path ∧ y.scheme = x.scheme) (h : r.bind f = .ok v) : v.path = u.path ∧ v.scheme = u.scheme := by
  cases r with
  | er n => cases h
  | ok x => exact ⟨((hf x v h).1).trans (hr x rfl).1, ((hf x v h).2).trans (hr x rfl).2⟩
theorem hostU_path {u v : UrlL} {s : Bs} (h : hostU u s = .ok v) : v.path = u.path ∧ v.scheme = u.scheme := by
  unfold hostU at h
  split at h
  · cases h
  · injection h with h; subst h; exact ⟨rfl, rfl⟩
theorem portU_path {u v : UrlL} {s : Bs} (h : portU u s = .ok v) : v.path = u.path ∧ v.scheme = u.scheme := by
  unfold portU at h
  split at h
  · cases h
  · split at h
    · cases h
    · split at h <;> (injection h with h; subst h; exact ⟨rfl, rfl⟩)
theorem placeU_path {u v : UrlL} {s : Bs} (h : placeU u s = .ok v) : v.path = u.path ∧ v.scheme = u.scheme := by
  unfold placeU at h
  split at h
  · split at h
    · cases h
    · exact bind_path (fun x hx => hostU_path hx) (fun x y hy => portU_path hy) h
  · split at h
    · cases h
    · exact bind_path (fun x hx => hostU_path hx) (fun x y hy => portU_path hy) h
theorem authU_path {u v : UrlL} {s : Bs} (h : authU u s = .ok v) : v.path = u.path ∧ v.scheme = u.scheme := by
  unfold authU at h
  split at h
  · split at h
    · cases h
    · exact ⟨(placeU_path h).1, (placeU_path h).2⟩
  · exact placeU_path h
end Lz

namespace Go.Proofs.YthijceooebebfaaGreatDoor
open Go.RowKit

set_option maxHeartbeats 2000000 in
set_option maxRecDepth 100000 in
theorem hostedM_any (B M : Nat) (u : Lz.UrlL) (s : ByteArray) (hs : s.size ≤ 900000) (w : World) (hE : EnvH w) (hm : MkIs B M w u) (hB : B ≤ w.heap.size) (hBg : 9 ≤ B) (hL : u.path.length ≤ 50000000) :
    Calls Tryz.prog 69 #[.pointer (some ⟨M, 0, none⟩), .string s] w (RMkE B M (Lz.hostedU u s.data.toList) w) := by
  obtain ⟨sp, hsp⟩ : ∃ sp, sp = Lz.specP u.scheme := ⟨_, rfl⟩
  have h13 : w.cell? ⟨M, 13, none⟩ = some (.string (slashB sp)) := by
    obtain ⟨sch, usr, pas, hh, hst, prt, opq, a, c, xs, hq, hf, qry, frg, hk, rfl, _, _⟩ := hm.form
    rw [hsp]; exact rowAt hk.row 13 _ rfl
  have cC := Lib.hid (cutM_any M sp s (by omega) w h13)
  have hlen := Lz.cutS_len sp s.data.toList
  obtain ⟨goal, hgoal⟩ : ∃ goal, goal = Lz.hostedU u s.data.toList := ⟨_, rfl⟩
  rw [← hgoal]
  have hU : goal = (Lz.authU u (Lz.cutS sp s.data.toList).1).bind fun v => .ok (if (Lz.cutS sp s.data.toList).2.2 || Lz.specP v.scheme then Lz.onP v (Lz.cutS sp s.data.toList).2.1 else v) := by
    rw [hgoal, hsp]; rfl
  generalize Lz.cutS sp s.data.toList = cc at cC hU hlen
  obtain ⟨al, tl, more⟩ := cc
  simp only [len_of_size] at hlen
  have HU := Lib.hid hU
  have Hm := Lib.hid hm
  have HE := Lib.hid hE
  clear hU hm hE h13 hgoal
  go_enter Tryz.func69, Tryz.ntmps69
  go_wp2_with fail
  refine cC.out.mono ?_
  rintro e w1 ⟨ab, tb, rfl, hab, htb, hb1⟩
  have has : ab.size ≤ s.size := by rw [← len_of_size, hab.out]; omega
  have hts : tb.size ≤ s.size := by rw [← len_of_size, htb.out]; omega
  have hm1 := Hm.out.below hb1
  have hE1 := HE.out.below hb1
  have hbB := hb1.mono hB
  have hB1 : B ≤ w1.heap.size := Nat.le_trans hB hb1.size
  have cA := Lib.hid (authM_any B M u ab (by omega) w1 hE1 hm1 hB1 hBg)
  have hU2 : goal = (Lz.authU u ab.data.toList).bind fun v => .ok (if more || Lz.specP v.scheme then Lz.onP v tb.data.toList else v) := by rw [HU.out, hab.out, htb.out]
  generalize hr : Lz.authU u ab.data.toList = r at cA hU2
  have HU2 := Lib.hid hU2
  have hrp : ∀ v, r = .ok v → v.path.length ≤ 50000000 := fun v hv => by rw [(Lz.authU_path (hr.trans hv)).1]; exact hL
  have Hrp := Lib.hid hrp
  clear hab htb hr hrp cC hU2 HU
  go_wp2_with fail
  refine cA.out.mono ?_
  rintro e w2 ⟨v, rfl, hb2, hres⟩
  have hb02 := hbB.trans hb2
  have hB2 : B ≤ w2.heap.size := Nat.le_trans hB1 hb2.size
  have hE2 := hE1.at hb2 hBg
  cases r with
  | er n =>
    obtain ⟨p, rfl⟩ := hres
    clear cA
    go_wp2_with fail
    go_ret
    refine ⟨_, rfl, hb02, ?_⟩
    rw [HU2.out]
    exact ⟨p, rfl⟩
  | ok u2 =>
    obtain ⟨rfl, hm2⟩ := hres
    have hl2 := Hrp.out u2 rfl
    obtain ⟨sch, usr, pas, hh, hst, prt, opq, a, c, xs, hq, hf, qry, frg, hk, hux, hc, hcells⟩ := hm2.form
    have hus : u2.scheme = sch.data.toList := by rw [hux]
    have c12 := rowAt hk.row 12 (.bool (Lz.specP sch.data.toList)) rfl
    rw [← hus] at c12
    have hG2 : goal = Lz.UR.ok (if more || Lz.specP u2.scheme then Lz.onP u2 tb.data.toList else u2) := HU2.out
    generalize Lz.specP u2.scheme = q at c12 hG2
    have HG2 := Lib.hid hG2
    have cO := Lib.hid (on_any B M tb u2 w2 hE2 hm2 hB2 hBg (by omega))
    have Hm2 := Lib.hid hm2
    clear hux hk hcells hus cA hG2 hm2 hE2 hE1 hm1
    cases more with
    | true =>
      go_wp2_with fail
      refine cO.out.mono ?_
      rintro e w3 ⟨rfl, hb3, hm3⟩
      go_wp2_with fail
      go_ret
      refine ⟨_, rfl, hb02.trans hb3, ?_⟩
      rw [HG2.out]
      exact ⟨rfl, hm3⟩
    | false =>
      cases q with
      | true =>
        go_wp2_with fail
        refine cO.out.mono ?_
        rintro e w3 ⟨rfl, hb3, hm3⟩
        go_wp2_with fail
        go_ret
        refine ⟨_, rfl, hb02.trans hb3, ?_⟩
        rw [HG2.out]
        exact ⟨rfl, hm3⟩
      | false =>
        go_wp2_with fail
        go_ret
        refine ⟨_, rfl, hb02, ?_⟩
        rw [HG2.out]
        exact ⟨rfl, Hm2.out⟩
/-- A URL as a value. -/
def MkV.val (x : MkV) : Value := .agg #[.string x.sch, .string x.usr, .string x.pas, .bool x.hh, .string x.hst, .int .i64 x.prt, .bool x.opq, x.pv, .bool x.hq, .bool x.hf, .string x.qry, .string x.frg]
/-- A URL's value, as the world holds it. -/
def UrlVal (w : World) (v : Value) (u : Lz.UrlL) : Prop := ∃ x : MkV, v = x.val ∧ PathAt w x.pv (x.xs.map (fun x : ByteArray => x.data.toList)) ∧ Hid (x.url = u)
theorem UrlVal.form {w : World} {v : Value} {u : Lz.UrlL} (h : UrlVal w v u) : ∃ (sch usr pas : ByteArray) (hh : Bool) (hst : ByteArray) (prt : Int) (opq : Bool) (a : Option Addr) (c : Nat) (xs : List ByteArray) (hq hf : Bool) (qry frg : ByteArray),
    v = .agg #[.string sch, .string usr, .string pas, .bool hh, .string hst, .int .i64 prt, .bool opq, .slice a xs.length c, .bool hq, .bool hf, .string qry, .string frg] ∧
    u = ⟨sch.data.toList, usr.data.toList, pas.data.toList, hh, hst.data.toList, prt, opq, xs.map (fun x : ByteArray => x.data.toList), hq, hf, qry.data.toList, frg.data.toList⟩ ∧
    ∀ (j : Nat) (x : ByteArray), xs[j]? = some x → ∃ G off, a = some ⟨G, off, none⟩ ∧ G < w.heap.size ∧ w.cell? ⟨G, off + j, none⟩ = some (.string x) := by
  obtain ⟨⟨sch, usr, pas, hh, hst, prt, opq, pv, xs, hq, hf, qry, frg⟩, rfl, hp, hu⟩ := h
  obtain ⟨a, c, ys, hpv, hys, hcells⟩ := hp
  have hpv' : pv = .slice a ys.length c := hpv
  subst hpv'
  refine ⟨sch, usr, pas, hh, hst, prt, opq, a, c, ys, hq, hf, qry, frg, rfl, ?_, hcells⟩
  rw [← hu.out, hys]; rfl
/-- A URL's value, as all worlds hold it that keep the blocks below B. -/
def UrlKept (B : Nat) (w : World) (v : Value) (u : Lz.UrlL) : Prop := ∀ w', Below B w w' → UrlVal w' v u
theorem UrlKept.now {B : Nat} {w : World} {v : Value} {u : Lz.UrlL} (h : UrlKept B w v u) : UrlVal w v u := h w (Below.refl _ _)
theorem UrlKept.at {B : Nat} {w w' : World} {v : Value} {u : Lz.UrlL} (h : UrlKept B w v u) (hb : Below B w w') : UrlKept B w' v u := fun w2 h2 => h w2 (hb.trans h2)
/-- rest has done its work: no other block was touched. -/
def RRest (B M : Nat) (u : Lz.UrlL) (w : World) (e : Ending) (w' : World) : Prop := RMk B M u w e w' ∧ ∀ k, k < w.heap.size → k ≠ M → w'.heap[k]? = w.heap[k]?
set_option maxHeartbeats 2000000 in
set_option maxRecDepth 100000 in
theorem rest_any (B M : Nat) (u b : Lz.UrlL) (v : Value) (w : World) (hm : MkIs B M w u) (hB : B ≤ w.heap.size) (hv : UrlVal w v b) :
    Calls Tryz.prog 106 #[.pointer (some ⟨M, 0, none⟩), v] w (RRest B M (Lz.restU u b) w) := by
  obtain ⟨sch, usr, pas, hh, hst, prt, opq, a, c, xs, hq, hf, qry, frg, hk, rfl, hc, hcells⟩ := hm.form
  obtain ⟨sch2, usr2, pas2, hh2, hst2, prt2, opq2, a2, c2, xs2, hq2, hf2, qry2, frg2, rfl, rfl, hcells2⟩ := hv.form
  go_enter Tryz.func106, Tryz.ntmps106
  have hMl : M < w.heap.size := row_lt hk.row
  have hMn : ¬ M = w.heap.size := by omega
  have hMn2 : ¬ w.heap.size = M := by omega
  have c1 := rowAt hk.row 1 (.string usr) rfl
  have c2 := rowAt hk.row 2 (.string pas) rfl
  have c3 := rowAt hk.row 3 (.bool hh) rfl
  have c4 := rowAt hk.row 4 (.string hst) rfl
  have c5 := rowAt hk.row 5 (.int .i64 prt) rfl
  have f1 := rowFz hk.row 1
  have f2 := rowFz hk.row 2
  have f3 := rowFz hk.row 3
  have f4 := rowFz hk.row 4
  have f5 := rowFz hk.row 5
  have m1 := mk_set hk 1 (.string usr2) ⟨sch, usr2, pas, hh, hst, prt, opq, .slice a xs.length c, xs, hq, hf, qry, frg⟩ (Lz.specP sch.data.toList) (slashB (Lz.specP sch.data.toList)) (by simp) (fun _ h => h)
  have m2 := mk_set m1 2 (.string pas2) ⟨sch, usr2, pas2, hh, hst, prt, opq, .slice a xs.length c, xs, hq, hf, qry, frg⟩ (Lz.specP sch.data.toList) (slashB (Lz.specP sch.data.toList)) (by simp) (fun _ h => h)
  have m3 := mk_set m2 3 (.bool hh2) ⟨sch, usr2, pas2, hh2, hst, prt, opq, .slice a xs.length c, xs, hq, hf, qry, frg⟩ (Lz.specP sch.data.toList) (slashB (Lz.specP sch.data.toList)) (by simp) (fun _ h => h)
  have m4 := mk_set m3 4 (.string hst2) ⟨sch, usr2, pas2, hh2, hst2, prt, opq, .slice a xs.length c, xs, hq, hf, qry, frg⟩ (Lz.specP sch.data.toList) (slashB (Lz.specP sch.data.toList)) (by simp) (fun _ h => h)
  have m5 := mk_set m4 5 (.int .i64 prt2) ⟨sch, usr2, pas2, hh2, hst2, prt2, opq, .slice a xs.length c, xs, hq, hf, qry, frg⟩ (Lz.specP sch.data.toList) (slashB (Lz.specP sch.data.toList)) (by simp) (fun _ h => h)
  have hbb : Below B w (((((w.setCell ⟨M, 1, none⟩ (.string usr2)).setCell ⟨M, 2, none⟩ (.string pas2)).setCell ⟨M, 3, none⟩ (.bool hh2)).setCell ⟨M, 4, none⟩ (.string hst2)).setCell ⟨M, 5, none⟩ (.int .i64 prt2)) := (((((Below.refl B w).setCell (p := ⟨M, 1, none⟩) hk.le _).setCell (p := ⟨M, 2, none⟩) hk.le _).setCell (p := ⟨M, 3, none⟩) hk.le _).setCell (p := ⟨M, 4, none⟩) hk.le _).setCell (p := ⟨M, 5, none⟩) hk.le _
  have hsz : (((((w.setCell ⟨M, 1, none⟩ (.string usr2)).setCell ⟨M, 2, none⟩ (.string pas2)).setCell ⟨M, 3, none⟩ (.bool hh2)).setCell ⟨M, 4, none⟩ (.string hst2)).setCell ⟨M, 5, none⟩ (.int .i64 prt2)).heap.size = w.heap.size := by simp
  have HE : Hid (∀ wx : World, Below w.heap.size (((((w.setCell ⟨M, 1, none⟩ (.string usr2)).setCell ⟨M, 2, none⟩ (.string pas2)).setCell ⟨M, 3, none⟩ (.bool hh2)).setCell ⟨M, 4, none⟩ (.string hst2)).setCell ⟨M, 5, none⟩ (.int .i64 prt2)) wx →
      RRest B M (Lz.restU ⟨sch.data.toList, usr.data.toList, pas.data.toList, hh, hst.data.toList, prt, opq, xs.map (fun x : ByteArray => x.data.toList), hq, hf, qry.data.toList, frg.data.toList⟩ ⟨sch2.data.toList, usr2.data.toList, pas2.data.toList, hh2, hst2.data.toList, prt2, opq2, xs2.map (fun x : ByteArray => x.data.toList), hq2, hf2, qry2.data.toList, frg2.data.toList⟩) w (.returned (.tuple #[])) wx) := by
    intro wx hb
    refine ⟨⟨rfl, hbb.trans (hb.mono hB), _, m5.below (by rw [hsz]; exact hb), Lib.hid rfl⟩, fun k hkl hkM => ?_⟩
    rw [hb.block k hkl, setCell_other hkM, setCell_other hkM, setCell_other hkM, setCell_other hkM, setCell_other hkM]
  clear m1 m2 m3 m4 m5 hbb hsz hk hm hv hcells hcells2
  go_wp2_with fail
  go_region
  all_goals
    go_end0
    exact HE.out _ ((Below.refl _ _).alloc (by simp) _).drew
end Go.Proofs.YthijceooebebfaaGreatDoor

namespace Go.Proofs.YthijceooebebfaaGreatDoor
open Go.RowKit

/-- A path of one's own. -/
def RClone (B : Nat) (l : List (List UInt8)) (w : World) (e : Ending) (w' : World) : Prop :=
  ∃ (a : Option Addr) (n c : Nat) (xs : List ByteArray), e = .returned (.slice a n c) ∧ xs.map (fun x : ByteArray => x.data.toList) = l ∧ PathOwn w' B (.slice a n c) xs ∧ Below w.heap.size w w'
set_option maxHeartbeats 1000000 in
set_option maxRecDepth 100000 in
theorem Clone_any (B : Nat) (v : Value) (l : List (List UInt8)) (w : World) (h : PathAt w v l) (hB : B ≤ w.heap.size) (hL : l.length ≤ 1000000000) : Calls Tryz.prog 99 #[v] w (RClone B l w) := by
  obtain ⟨i0, hi, hz0, hz1, hz2⟩ := info_parts infoTxt
  obtain ⟨a, c, xs, rfl, rfl, hx⟩ := h
  have hxl : xs.length ≤ 1000000000 := by simpa using hL
  cases a with
  | none =>
    have hxs : xs = [] := by
      cases xs with
      | nil => rfl
      | cons x r => obtain ⟨G, off, h, _⟩ := hx 0 x rfl; cases h
    subst hxs
    have hnil := fun W : World => Lib.run_eql_slice_nil (P := Tryz.prog) W 25 9 none 0 c 0 0 Tryz.underlying25
    clear hx
    go_enter Tryz.func99, Tryz.ntmps99
    go_wp2_with fail
    go_ret
    exact ⟨none, 0, 0, [], rfl, rfl, PathOwn.nil _ _, Below.refl _ _⟩
  | some p =>
    have hnews : ∀ (j : Nat) (u : Value), (xs.map Value.string)[j]? = some u → w.cell? (p.add j) = some u := by
      intro j u hj
      rw [List.getElem?_map, Option.map_eq_some_iff] at hj
      obtain ⟨x, hj, rfl⟩ := hj
      obtain ⟨G, off, hp, _, hc⟩ := hx j x hj
      obtain rfl : p = ⟨G, off, none⟩ := Option.some.inj hp
      rw [show (⟨G, off, none⟩ : Addr).add j = ⟨G, off + j, none⟩ by simp [Addr.add]]
      exact hc
    have hlt : ∀ (j : Nat) (u : Value), (xs.map Value.string)[j]? = some u → (p.add j).block < w.heap.size := fun j u hj => World.block_lt_of_cell? _ _ (hnews j u hj)
    have hn2 : Hid (∀ (j : Nat) (u : Value), (xs.map Value.string)[j]? = some u → (w.alloc (.cells #[] 9)).cell? (p.add j) = some u) := Lib.hid (fun j u hj => by
      rw [World.cell?_alloc_lt _ _ _ (hlt j u hj)]; exact hnews j u hj)
    have hown0 := World.ownsRow_made (base := B) (e := 9) (size := 1) w #[] 0 hB (Nat.zero_le _) rfl
    have Hown0 := Lib.hid hown0
    have hnil := fun W : World => Lib.run_eql_slice_nil (P := Tryz.prog) W 25 9 (some p) xs.length c 0 0 Tryz.underlying25
    clear hnews hlt hx hown0
    go_enter Tryz.func99, Tryz.ntmps99
    go_wp2_with (at_builtin; refine wpList_append_own _ rfl (.tmp 5) (.tmp 6) 25 rfl B 9 i0 (.string ⟨#[]⟩) 1 16 Tryz.underlying25 hi hz0 hz1 hz2 rfl (by decide) _ 0 [] rfl Hown0.out p xs.length c (xs.map Value.string) rfl (by simp) hn2.out (by simp [Value.oneCell']) (by unfold maxLen; omega) (by omega) (by simp; omega) ?_)
    intro v' w' hown hg _
    have hb : Below w.heap.size w w' := ((Below.refl _ w).alloc (Nat.le_refl _) _).grown hg (by simp) (fun k hk => by simp [Value.ownBlock] at hk; omega)
    try rw [Nat.zero_add, List.nil_append] at hown
    have hP : PathOwn w' B v' xs := .inl hown
    obtain ⟨a', c', rfl, _, _⟩ := hP.form
    have HP := Lib.hid hP
    clear hown hg hP
    go_wp2_with fail
    go_ret
    exact ⟨a', _, c', xs, rfl, rfl, HP.out, hb⟩

theorem mk_path {B M : Nat} {w w1 : World} {u : Lz.UrlL} {v : Value} {xs : List ByteArray} (hm : MkIs B M w1 u) (hb : Below B w w1) (hown : PathOwn w1 B v xs) :
    Below B w (w1.setCell ⟨M, 7, none⟩ v) ∧ MkIs B M (w1.setCell ⟨M, 7, none⟩ v) { u with path := xs.map (fun x : ByteArray => x.data.toList) } := by
  obtain ⟨sch, usr, pas, hh, hst, prt, opq, a, c, ys, hq, hf, qry, frg, hk, rfl, hc, hcells⟩ := hm.form
  refine ⟨hb.setCell (p := ⟨M, 7, none⟩) hk.le _, ⟨sch, usr, pas, hh, hst, prt, opq, v, xs, hq, hf, qry, frg⟩, ⟨rowSet hk.row 7 v (by simp), hown.setCell hk.row maker_ne 7 v, hk.le⟩, Lib.hid rfl⟩
set_option maxHeartbeats 2000000 in
set_option maxRecDepth 100000 in
theorem pathM_any (B M : Nat) (u b : Lz.UrlL) (v : Value) (r : ByteArray) (w : World) (hE : EnvH w) (hm : MkIs B M w u) (hB : B ≤ w.heap.size) (hBg : 9 ≤ B) (hv : UrlVal w v b) (hL : b.path.length + r.size ≤ 100000000) :
    Calls Tryz.prog 65 #[.pointer (some ⟨M, 0, none⟩), v, .string r] w (RMk B M (Lz.pathU u b r.data.toList) w) := by
  obtain ⟨goal, hgoal⟩ : ∃ goal, goal = Lz.pathU u b r.data.toList := ⟨_, rfl⟩
  rw [← hgoal]
  obtain ⟨sch2, usr2, pas2, hh2, hst2, prt2, opq2, a2, c2, xs2, hq2, hf2, qry2, frg2, rfl, hbx, hcells2⟩ := hv.form
  obtain ⟨W, hW⟩ : ∃ W, W = w.alloc (.cells #[.string sch2, .string usr2, .string pas2, .bool hh2, .string hst2, .int .i64 prt2, .bool opq2, .slice a2 xs2.length c2, .bool hq2, .bool hf2, .string qry2, .string frg2] 27) := ⟨_, rfl⟩
  have hbW : Below w.heap.size w W := by rw [hW]; exact (Below.refl _ w).alloc (Nat.le_refl _) _
  have hBW : B ≤ W.heap.size := Nat.le_trans hB hbW.size
  have hR : W.heap[w.heap.size]? = some (.cells #[.string sch2, .string usr2, .string pas2, .bool hh2, .string hst2, .int .i64 prt2, .bool opq2, .slice a2 xs2.length c2, .bool hq2, .bool hf2, .string qry2, .string frg2] 27 (0, 0)) := by
    rw [hW]; show (w.heap.push _)[w.heap.size]? = _; simp
  have hwl : w.heap.size < W.heap.size := row_lt hR
  have hp : PathAt W (.slice a2 xs2.length c2) b.path := by
    have h1 : PathAt w (.slice a2 xs2.length c2) b.path := ⟨a2, c2, xs2, rfl, by rw [hbx], hcells2⟩
    exact h1.below hbW
  have cC := Lib.hid (Clone_any B _ _ W hp hBW (by omega))
  have hmW := hm.below hbW
  have hEW := hE.below hbW
  have d7 := rowAt hR 7 (.slice a2 xs2.length c2) rfl
  have HR := Lib.hid hR
  have Hgoal := Lib.hid hgoal
  have Hbx := Lib.hid hbx
  clear hgoal hbx hm hE hp hcells2 hv hR
  go_enter Tryz.func65, Tryz.ntmps65
  go_wp2_with (rw [← hW])
  refine cC.out.mono ?_
  rintro e w1 ⟨a1, n1, c1, xs1, rfl, hxs1, hown1, hb1⟩
  have hb01 : Below B w w1 := (hbW.mono hB).trans (hb1.mono hBW)
  have hm1 := hmW.below hb1
  obtain ⟨hb2, hm2⟩ := mk_path hm1 hb01 hown1
  rw [hxs1] at hm2
  have hE2 : EnvH (w1.setCell ⟨M, 7, none⟩ (.slice a1 n1 c1)) := (hEW.below hb1).at ((Below.refl B w1).setCell (p := ⟨M, 7, none⟩) (by obtain ⟨x, hx, _⟩ := hm1; exact hx.le) _) hBg
  have hB2 : B ≤ (w1.setCell ⟨M, 7, none⟩ (.slice a1 n1 c1)).heap.size := Nat.le_trans hB hb2.size
  obtain ⟨sch, usr, pas, hh, hst, prt, opq, a, c, xs, hq, hf, qry, frg, hk, hux, hc, hcells⟩ := hm1.form
  have hMlt : M < w1.heap.size := row_lt hk.row
  have c7 := rowAt hk.row 7 (.slice a xs.length c) rfl
  have f7 := rowFz hk.row 7
  have hR2 : (w1.setCell ⟨M, 7, none⟩ (.slice a1 n1 c1)).heap[w.heap.size]? = some (.cells #[.string sch2, .string usr2, .string pas2, .bool hh2, .string hst2, .int .i64 prt2, .bool opq2, .slice a2 xs2.length c2, .bool hq2, .bool hf2, .string qry2, .string frg2] 27 (0, 0)) := by
    have h1 : w1.heap[w.heap.size]? = _ := (hb1.block _ hwl).trans HR.out
    rw [setCell_other (fun e => ?_), h1]
    have h2 := hk.row
    have e' : w.heap.size = M := e
    rw [← e', h1] at h2
    injection h2 with h2
    injection h2 with h3 _ _
    have := congrArg Array.size h3
    simp at this
  clear hux hcells hk
  clear hm1 hmW hEW cC d7 hb1 hown1
  generalize hWx : w1.setCell ⟨M, 7, none⟩ (.slice a1 n1 c1) = wx at hb2 hm2 hE2 hB2 hR2
  by_cases hr : r.data.toList = []
  · have g0 := text_yes hr
    have hem : r.toList.isEmpty = true := isEmpty_of_size (by rw [← len_of_size, hr]; rfl)
    obtain ⟨sch, usr, pas, hh, hst, prt, opq, a, c, xs, hq, hf, qry, frg, hk, hux, hc, hcells⟩ := hm2.form
    have c8 := rowAt hk.row 8 (.bool hq) rfl
    have f8 := rowFz hk.row 8
    have c10 := rowAt hk.row 10 (.string qry) rfl
    have f10 := rowFz hk.row 10
    have hqu : u.hasQuery = hq := congrArg (fun z : Lz.UrlL => z.hasQuery) hux
    have hM2 : ¬ M = w.heap.size := fun e => by
      have h2 := hk.row
      rw [e, hR2] at h2
      injection h2 with h2
      injection h2 with h3 _ _
      have := congrArg Array.size h3
      simp at this
    have hM3 : ¬ w.heap.size = M := fun e => hM2 e.symm
    have r10 := rowAt hR2 10 (.string qry2) rfl
    have r8 := rowAt hR2 8 (.bool hq2) rfl
    cases hq with
    | true =>
      have HG : Hid (goal = { u with path := b.path }) := by
        show _ = _
        rw [Hgoal.out]; unfold Lz.pathU; rw [if_neg (fun h => h hr), hqu]; rfl
      have HF : Hid (RMk B M goal w (.returned (.tuple #[])) wx) := ⟨rfl, hb2, by rw [HG.out]; exact hm2⟩
      clear hr hux hk hcells hm2
      go_wp2_with fail
      go_end0
      exact HF.out
    | false =>
      have HG : Hid (goal = { u with path := b.path, query := b.query, hasQuery := b.hasQuery }) := by
        show _ = _
        rw [Hgoal.out]; unfold Lz.pathU; rw [if_neg (fun h => h hr), hqu]; rfl
      have m1 := mk_set hk 10 (.string qry2) ⟨sch, usr, pas, hh, hst, prt, opq, .slice a xs.length c, xs, false, hf, qry2, frg⟩ (Lz.specP sch.data.toList) (slashB (Lz.specP sch.data.toList)) (by simp) (fun _ h => h)
      have m2 := mk_set m1 8 (.bool hq2) ⟨sch, usr, pas, hh, hst, prt, opq, .slice a xs.length c, xs, hq2, hf, qry2, frg⟩ (Lz.specP sch.data.toList) (slashB (Lz.specP sch.data.toList)) (by simp) (fun _ h => h)
      have hbb := ((Below.refl B wx).setCell (p := ⟨M, 10, none⟩) hk.le (.string qry2)).setCell (p := ⟨M, 8, none⟩) hk.le (.bool hq2)
      have HF : Hid (∀ wy, Below (wx.setCell ⟨M, 10, none⟩ (.string qry2)).heap.size ((wx.setCell ⟨M, 10, none⟩ (.string qry2)).setCell ⟨M, 8, none⟩ (.bool hq2)) wy → RMk B M goal w (.returned (.tuple #[])) wy) := Lib.hid (fun wy hby => by
        refine ⟨rfl, (hb2.trans hbb).trans (hby.mono (by simpa using hB2)), _, m2.below (by simpa using hby), Lib.hid ?_⟩
        rw [HG.out, Hbx.out, show u = { u with path := u.path } from rfl]
        have h1 : ({ u with path := b.path } : Lz.UrlL) = _ := hux
        have h2 := congrArg (fun z : Lz.UrlL => ({ z with query := qry2.data.toList, hasQuery := hq2 } : Lz.UrlL)) h1
        rw [Hbx.out] at h2
        exact h2.symm)
      clear hr hux hk hcells hm2 m1 m2 hbb
      go_wp2_with fail
      go_region
      all_goals
        go_end0
        exact HF.out _ (by first | exact Below.refl _ _ | exact (Below.refl _ _).drew)
  · have g0 := text_no hr
    have hem : r.toList.isEmpty = false := isEmpty_of_pos (by rw [← len_of_size]; exact List.length_pos_iff.2 hr)
    have HG : Hid (goal = Lz.onP { u with path := Lz.shortP u.scheme b.path } r.data.toList) := by
      show _ = _
      rw [Hgoal.out]; unfold Lz.pathU; rw [if_pos hr]
    have cS := Lib.hid (shorten_any B M _ wx hm2 (by show b.path.length ≤ _; omega))
    clear hr
    go_wp2_with fail
    refine cS.out.mono ?_
    rintro e w3 ⟨rfl, hb3, hm3⟩
    have hb03 := hb2.trans hb3
    have hsl := shortP_len u.scheme b.path
    have cO := Lib.hid (on_any B M r _ w3 (hE2.at hb3 hBg) hm3 (Nat.le_trans hB2 hb3.size) hBg (by show (Lz.shortP u.scheme b.path).length + _ ≤ _; omega))
    go_wp2_with fail
    refine cO.out.mono ?_
    rintro e w4 ⟨rfl, hb4, hm4⟩
    go_wp2_with fail
    go_end0
    refine ⟨rfl, hb03.trans hb4, ?_⟩
    rw [HG.out]; exact hm4
end Go.Proofs.YthijceooebebfaaGreatDoor
