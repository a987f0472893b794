/-
  lazaretref07.six.
-/
import Derived.Test.YtkaejkjheajaaaaGreatDoorLRef
import Derived.Test.YtkaejkjheajaaaaGreatDoorHFmt
import Derived.Laws.AppendOwnNone
import Derived.Maps.AppendAt
import Derived.BigQuiet
import Derived.Deep.QuietTactic
namespace Lz
open Go
/-- Where the longest run of zeros begins, and how many these are. -/
def frR (a : List Nat) (i : Nat) (fr : Int) (mn : Nat) : Prop := fr = (if (runF a i).1 = (runF a i).2 then -1 else ((runF a i).1 : Int)) ∧ mn = max ((runF a i).2 - (runF a i).1) 1
theorem frR_zero (a : List Nat) : frR a 0 (-1) 1 := ⟨by simp [runF], by simp [runF]⟩
theorem frR_hit {a : List Nat} {i mn k : Nat} {fr : Int} (h : frR a i fr mn) (hk : zerosP (a.drop i) = k) (hl : mn < k) : frR a (i + 1) i k := by
  obtain ⟨_, h2⟩ := h
  have e : runF a (i + 1) = (i, i + k) := by
    rw [runF, hk, ← h2, if_pos hl]
  unfold frR
  rw [e]
  constructor
  · rw [if_neg (by simp; omega)]
  · simp only; omega
theorem frR_miss {a : List Nat} {i mn k : Nat} {fr : Int} (h : frR a i fr mn) (hk : zerosP (a.drop i) = k) (hl : ¬ mn < k) : frR a (i + 1) fr mn := by
  have e : runF a (i + 1) = runF a i := by
    rw [runF, hk, ← h.2, if_neg hl]
  unfold frR
  rw [e]
  exact h
/-- May the pieces be an address? -/
def sixOk (neg : Bool) (o1 o2 : Option (List Nat)) : Bool := o1.isSome && o2.isSome && (if neg then (o1.getD []).length == 8 else decide ((o1.getD []).length + (o2.getD []).length ≤ 7))
theorem sixR_ok {s : Bs} {o1 o2 : Option (List Nat)} {neg : Bool} (h1 : rowSR (Lib.cut s [58, 58]).1 neg = o1) (h2 : rowSR (Lib.cut s [58, 58]).2.1 true = o2) (hn : (!(Lib.cut s [58, 58]).2.2) = neg) :
    sixR s = (if sixOk neg o1 o2 then some (o1.getD [] ++ List.replicate (8 - (o1.getD []).length - (o2.getD []).length) 0 ++ o2.getD []) else none) ∧ (neg = true → o2 = some []) := by
  have hno := @cut_no s
  subst hn
  unfold sixR
  rw [h1, h2]
  generalize Lib.cut s [58, 58] = c at hno h1 h2
  obtain ⟨f, b, q⟩ := c
  simp only at hno h1 h2 ⊢
  cases q
  · obtain ⟨rfl, rfl⟩ := hno rfl
    have h0 : o2 = some [] := by rw [← h2]; rfl
    subst h0
    refine ⟨?_, fun _ => rfl⟩
    cases o1 with
    | none => rfl
    | some x =>
      by_cases h8 : x.length = 8
      · simp [sixOk, h8]
      · simp [sixOk, h8]
  · refine ⟨?_, fun h => by cases h⟩
    cases o1 with
    | none => rfl
    | some x =>
      cases o2 with
      | none => rfl
      | some y =>
        by_cases h7 : 7 < x.length + y.length
        · have h7' : ¬ (x.length + y.length ≤ 7) := by omega
          simp [sixOk, h7, h7']
        · have h7' : x.length + y.length ≤ 7 := by omega
          simp [sixOk, h7, h7']
end Lz
namespace Go.Proofs.YtkaejkjheajaaaaGreatDoor
open Go.RowKit
attribute [local go_sem ↓] Go.wp_at_zero Go.wp_at_succ
set_option maxRecDepth 100000 in
theorem FormatIntI_16 (n : Nat) (hn : n ≤ 1099511627776) (w : World) (h : w.cell? ⟨4, 15, none⟩ = some (.int .u8 4)) : Calls Tryz.prog 42 #[.int .i64 n, .int .i64 16] w (RStr (Lz.baseD 16 n) w) := by
  have cF := Lib.hid (fmtBits_16 n hn w h)
  have hw : IntKind.u64.wrap (n : Int) = (n : Int) := IntWalk.u64_in _ (by omega)
  have hn0 : (0 : Int) ≤ (n : Int) := by omega
  have hn1 : ¬ (n : Int) < 0 := by omega
  go_enter Tryz.func42, Tryz.ntmps42
  go_wp2_with fail
  refine (cF.out).mono ?_
  rintro e w1 ⟨u, v, rfl, hu, hb⟩
  go_wp2
  go_ret
  exact ⟨u, rfl, hu, hb⟩
set_option maxRecDepth 100000 in
theorem FormatInt_16 (n : Nat) (hn : n ≤ 1099511627776) (w : World) (h : w.cell? ⟨4, 15, none⟩ = some (.int .u8 4)) : Calls Tryz.prog 128 #[.int .i64 n, .int .i64 16] w (RStr (Lz.hexD n) w) := by
  have cF := Lib.hid (FormatIntI_16 n hn w h)
  go_enter Tryz.func128, Tryz.ntmps128
  go_wp2_with fail
  refine (cF.out).mono ?_
  rintro e w1 ⟨u, rfl, hu, hb⟩
  go_wp2
  go_ret
  exact ⟨u, rfl, Lib.hid (by rw [hu.out, Lz.baseD_hex]), hb⟩
theorem own_slice {w : World} {base : Nat} {e : TypeId} {size n : Nat} {v : Value} {xs : List Value} (h : w.ownsRow base e size v n xs) : ∃ a c, v = .slice a n c := by
  rcases h.2 with ⟨rfl, rfl⟩ | ⟨g, cap, cur, rfl, _⟩
  · exact ⟨_, _, rfl⟩
  · exact ⟨_, _, rfl⟩
theorem own_ints {w : World} {base : Nat} {v : Value} {n : Nat} {l : List Nat} (h : w.ownsRow base 3 1 v n (intn l)) (hn : 1 ≤ n) :
    ∃ g cap, v = .slice (some ⟨g, 0, none⟩) n cap ∧ g < w.heap.size ∧ ∀ (j m : Nat), l[j]? = some m → w.cell? ⟨g, j, none⟩ = some (.int .i64 (m : Int)) := by
  have hl : l.length = n := by have := h.1; simpa [intn] using this
  rcases h.2 with ⟨rfl, h0⟩ | ⟨g, cap, cur, rfl, hbg, hg, hnc, hcm, hcs, htk⟩
  · omega
  · refine ⟨g, cap, rfl, (Array.getElem?_eq_some_iff.1 hg).1, fun j m hj => ?_⟩
    have h2 : (intn l)[j]? = some (.int .i64 (m : Int)) := by simp [intn, hj]
    rw [← htk, List.getElem?_take] at h2
    split at h2
    · simp only [World.cell?, hg]
      simpa using h2
    · cases h2
def lenV : Value → Nat
  | .slice _ n _ => n
  | _ => 0
def fillZ (x : List Nat) (m : Nat) : List Nat := x ++ List.replicate (m - x.length) 0
theorem fillZ_self (x : List Nat) : fillZ x x.length = x := by simp [fillZ]
theorem fillZ_next {x : List Nat} {m : Nat} (h : x.length ≤ m) : fillZ x m ++ [0] = fillZ x (m + 1) := by
  unfold fillZ
  rw [show m + 1 - x.length = (m - x.length) + 1 by omega, List.replicate_succ', List.append_assoc]
theorem fillZ_len {x : List Nat} {m : Nat} (h : x.length ≤ m) : (fillZ x m).length = m := by simp [fillZ]; omega
/-- The address, told, or an error. -/
def RSix7 (o : Option (List Nat)) (w : World) (e : Ending) (w' : World) : Prop :=
  Below w.heap.size w w' ∧ match o with
    | some a => ∃ u : ByteArray, e = .returned (.tuple #[.string u, .int .i64 0]) ∧ Hid (u.data.toList = Lz.textP a)
    | none => e = .returned (.tuple #[.string ⟨#[]⟩, .int .i64 72])

set_option maxHeartbeats 2000000 in
set_option maxRecDepth 100000 in
theorem six07_any (s : ByteArray) (hs : s.size ≤ 90000) (w : World) (hE : EnvH w) : Calls Tryz.prog 73 #[.string s] w (RSix7 (Lz.sixR s.data.toList) w) := by
  obtain ⟨i0, hi, hz0, hz1, hz2⟩ := info_parts infoI64
  have hws : IntKind.i64.wrap ((s.size : Int) - 2) = (s.size : Int) - 2 := IntWalk.i64_in _ (by omega)
  go_enter Tryz.func73, Tryz.ntmps73
  go_wp2_with fail
  go_loopw [4, 5] (fun a i wr => ∃ (at0 z : Int), a = .int .i64 at0 ∧ i = .int .i64 z ∧ -2 ≤ z ∧ z ≤ (s.size : Int) - 2 ∧ -1 ≤ at0 ∧ at0 ≤ 90000 ∧ Hid (at0 = Lz.atF s.data.toList (z + 1).toNat) ∧ w = wr) (fun _ i _ => (intOf i + 1).toNat)
  case atStart => exact ⟨-1, (s.size : Int) - 2, rfl, rfl, by omega, by omega, by omega, by omega, by show _ = _; rw [Lz.atF_end (by rw [len_of_size]; omega)], rfl⟩
  case round =>
    obtain ⟨at0, z, rfl, rfl, hz1', hz2', ha1, ha2, hat, rfl⟩ := hrel
    by_cases hz : 0 ≤ z
    · obtain ⟨j, rfl⟩ : ∃ j : Nat, z = j := ⟨z.toNat, by omega⟩
      have hj : j + 1 < s.size := by omega
      have hj0 : j < s.size := by omega
      have hjI : (j : Int) < (s.size : Int) := by omega
      have hjI1 : (j : Int) + 1 < (s.size : Int) := by omega
      have hj1 : (0 : Int) ≤ (j : Int) + 1 := by omega
      have hw1 : IntKind.i64.wrap ((j : Int) + 1) = (j : Int) + 1 := IntWalk.i64_in _ (by omega)
      have hw2 : IntKind.i64.wrap ((j : Int) - 1) = (j : Int) - 1 := IntWalk.i64_in _ (by omega)
      have hst : Hid (Lz.atF s.data.toList j = if (s[j] == 58 && s[j + 1] == 58) = true then (j : Int) else at0) := by
        show _ = _
        rw [Lz.atF_step (show j + 1 < s.data.toList.length from hj), hat.out]
        rfl
      obtain ⟨c, hc⟩ : ∃ c, c = s[j] := ⟨_, rfl⟩
      obtain ⟨d, hd⟩ : ∃ d, d = s[j + 1] := ⟨_, rfl⟩
      have hcI : (s[j].toNat : Int) = (c.toNat : Int) := by rw [hc]
      have hdI : (s[j + 1].toNat : Int) = (d.toNat : Int) := by rw [hd]
      rw [← hc, ← hd] at hst
      have hb1 : ((c.toNat : Int) == 58) = (c == 58) := beqI c 58
      have hb2 : ((d.toNat : Int) == 58) = (d == 58) := beqI d 58
      clear hc hd hat
      cases h1 : (c == 58)
      · rw [h1] at hb1
        have hst2 : Hid (at0 = Lz.atF s.data.toList j) := by show _ = _; rw [hst.out, h1]; rfl
        clear h1 hst hb2
        go_wp2_with fail
        go_roundw
        case rel => exact ⟨at0, (j : Int) - 1, rfl, rfl, by omega, by omega, ha1, ha2, by show _ = _; rw [hst2.out, show ((j : Int) - 1 + 1).toNat = j by omega], trivial⟩
        case measure => simp [intOf]
      · rw [h1] at hb1
        cases h2 : (d == 58)
        · rw [h2] at hb2
          have hst2 : Hid (at0 = Lz.atF s.data.toList j) := by show _ = _; rw [hst.out, h1, h2]; rfl
          clear h1 h2 hst
          go_wp2_with fail
          go_roundw
          case rel => exact ⟨at0, (j : Int) - 1, rfl, rfl, by omega, by omega, ha1, ha2, by show _ = _; rw [hst2.out, show ((j : Int) - 1 + 1).toNat = j by omega], trivial⟩
          case measure => simp [intOf]
        · rw [h2] at hb2
          have hst2 : Hid ((j : Int) = Lz.atF s.data.toList j) := by show _ = _; rw [hst.out, h1, h2]; rfl
          clear h1 h2 hst
          go_wp2_with fail
          go_roundw
          case rel => exact ⟨j, (j : Int) - 1, rfl, rfl, by omega, by omega, by omega, by omega, by show _ = _; rw [show ((j : Int) - 1 + 1).toNat = j by omega]; exact hst2.out, trivial⟩
          case measure => simp [intOf]
    · have hat0 : Hid (at0 = Lz.atF s.data.toList 0) := by show _ = _; rw [hat.out, show (z + 1).toNat = 0 by omega]
      have Hz1 := Lib.hid hz1'
      have Hz2 := Lib.hid hz2'
      clear hat hz1' hz2'
      go_upto_if 39 with fail
      go_cut [6, 7] (fun f b wx => ∃ fb bb : ByteArray, f = .string fb ∧ b = .string bb ∧ fb.size ≤ 90000 ∧ bb.size ≤ 90000 ∧ Hid (fb.data.toList = (Lib.cut s.data.toList [58, 58]).1) ∧ Hid (bb.data.toList = (Lib.cut s.data.toList [58, 58]).2.1) ∧ Hid ((!(Lib.cut s.data.toList [58, 58]).2.2) = decide (at0 < 0)) ∧ Below w.heap.size w wx)
      case first =>
        rcases Lz.cut_at s.data.toList with ⟨h0, hcut⟩ | ⟨p, h0, hp, hcut⟩
        · have hneg : ¬ (0 : Int) ≤ at0 := by rw [hat0.out, h0]; decide
          have hneg2 : Hid (at0 < 0) := by show _ < _; omega
          have Hcut := Lib.hid hcut
          clear h0 hcut
          go_wp2_with fail
          go_meet
          exact ⟨s, ⟨#[]⟩, rfl, rfl, hs, Nat.zero_le _, by show _ = _; rw [Hcut.out], by show _ = _; (rw [Hcut.out]) <;> rfl, by show _ = _; (rw [Hcut.out, decide_eq_true hneg2.out]) <;> rfl, Below.refl _ w⟩
        · obtain rfl : at0 = (p : Int) := by rw [hat0.out, h0]
          have hp2 : p + 2 ≤ s.size := by rw [← len_of_size]; exact hp
          have hneg : (0 : Int) ≤ (p : Int) := by omega
          have hpw : IntKind.i64.wrap ((p : Int) + 2) = (p : Int) + 2 := IntWalk.i64_in _ (by omega)
          have hp3 : (p : Int) ≤ (s.size : Int) := by omega
          have hp4 : (p : Int) + 2 ≤ (s.size : Int) := by omega
          have hp5 : (0 : Int) ≤ (p : Int) + 2 := by omega
          have Hcut := Lib.hid hcut
          clear h0 hcut hp
          go_wp2_with fail
          go_quiet (fail)
          go_wp2_with fail
          go_meet
          exact ⟨_, _, rfl, rfl, by rw [← len_of_size, Lib.extract_data, List.length_take]; omega, by rw [← len_of_size, Lib.extract_data, List.length_take]; omega, by show _ = _; rw [Hcut.out, Lib.extract_data, List.drop_zero, Nat.sub_zero], by show _ = _; rw [Hcut.out, Lib.extract_data, List.take_of_length_le (by rw [List.length_drop, len_of_size]; exact Nat.le_refl _)], by show _ = _; (rw [Hcut.out, decide_eq_false (by omega)]) <;> rfl, by first | exact ⟨rfl, rfl, rfl, Nat.le_refl _, fun _ _ => rfl⟩ | exact Below.refl _ w⟩
      case rest =>
      obtain ⟨fb, bb, rfl, rfl, hfz, hbz, hfb, hbb, hng, hbc⟩ := hcut
      have hbcz := hbc.size
      have c1 := Lib.hid (pieces07_any fb (decide (at0 < 0)) (by omega) wc (hE.below hbc))
      obtain ⟨o1, ho1⟩ : ∃ o, o = Lz.rowSR fb.data.toList (decide (at0 < 0)) := ⟨_, rfl⟩
      obtain ⟨o2, ho2⟩ : ∃ o, o = Lz.rowSR bb.data.toList true := ⟨_, rfl⟩
      rw [← ho1] at c1
      have hok := Lz.sixR_ok (s := s.data.toList) (o1 := o1) (o2 := o2) (neg := decide (at0 < 0)) (by rw [← hfb.out, ho1]) (by rw [← hbb.out, ho2]) hng.out
      have hx1 : ∀ n ∈ o1.getD [], n ≤ 1099511627776 := by
        cases e : o1 with
        | none => simp
        | some x => exact (Lz.rowSR_ok (ho1.symm.trans e)).2
      have hx2 : ∀ n ∈ o2.getD [], n ≤ 1099511627776 := by
        cases e : o2 with
        | none => simp
        | some x => exact (Lz.rowSR_ok (ho2.symm.trans e)).2
      have hl1 : (o1.getD []).length ≤ 100000 := by
        cases e : o1 with
        | none => simp
        | some x => have := (Lz.rowSR_ok (ho1.symm.trans e)).1; rw [len_of_size] at this; simp only [Option.getD_some]; omega
      have hl2 : (o2.getD []).length ≤ 100000 := by
        cases e : o2 with
        | none => simp
        | some x => have := (Lz.rowSR_ok (ho2.symm.trans e)).1; rw [len_of_size] at this; simp only [Option.getD_some]; omega
      have Hok := Lib.hid hok
      have Hx1 := Lib.hid hx1
      have Hx2 := Lib.hid hx2
      have Ho2 := Lib.hid ho2
      clear hok hx1 hx2 hfb hbb hng ho1 ho2 hat0
      go_wp2_with fail
      refine c1.out.mono ?_
      rintro e w1 ⟨v1, rfl, hown1, hb1⟩
      have hbw1 := below_call hbc hb1
      have c2 := pieces07_any bb true (by omega) w1 (hE.below hbw1)
      rw [← Ho2.out] at c2
      have C2 := Lib.hid c2
      obtain ⟨a1, p1, rfl⟩ := own_slice hown1
      have Hown1 := Lib.hid hown1
      clear c2 c1 hown1
      go_wp2_with fail
      refine C2.out.mono ?_
      rintro e w2 ⟨v2, rfl, hown2, hb2⟩
      obtain ⟨a2, p2, rfl⟩ := own_slice hown2
      have hap : ∀ g, (Value.slice a1 (o1.getD []).length p1).ownBlock = some g → (Value.slice a2 (o2.getD []).length p2).ownBlock ≠ some g := fun g h h2 => by
        have h3 := (Hown1.out.lt g h).2
        have h4 := (hown2.lt g h2).1
        omega
      have Hap := Lib.hid hap
      have Hown1' := Lib.hid (own_below Hown1.out hb2)
      have Hown2 := Lib.hid hown2
      have hbw2 := below_call hbw1 hb2
      clear hown2 C2 Hown1 hap
      obtain ⟨q, hq⟩ : ∃ q, q = !Lz.sixOk (decide (at0 < 0)) o1 o2 := ⟨_, rfl⟩
      have Hq := Lib.hid hq
      clear hq
      go_upto_region 12 with fail
      go_cut [85] (fun c wx => c = .bool q ∧ w2 = wx)
      case first =>
        have hlt0 : ∀ b : Bool, decide (at0 < 0) = b → (b = true → at0 < 0) ∧ (b = false → ¬ at0 < 0 ∧ 0 ≤ at0) := by
          intro b hb
          subst hb
          refine ⟨fun h => of_decide_eq_true h, fun h => ?_⟩
          have := of_decide_eq_false h
          exact ⟨this, by omega⟩
        cases o1 with
        | none =>
          have HQ : Hid (q = true) := by show _ = _; rw [Hq.out]; rfl
          clear hlt0
          go_wp2_with fail
          go_meet
          exact ⟨by rw [HQ.out], rfl⟩
        | some x =>
          cases o2 with
          | none =>
            have HQ : Hid (q = true) := by show _ = _; rw [Hq.out]; rfl
            clear hlt0
            go_wp2_with fail
            go_meet
            exact ⟨by rw [HQ.out], rfl⟩
          | some y =>
            have hxl : x.length ≤ 100000 := hl1
            have hyl : y.length ≤ 100000 := hl2
            have hw8 : IntKind.i64.wrap ((x.length : Int) + (y.length : Int)) = (x.length : Int) + (y.length : Int) := IntWalk.i64_in _ (by omega)
            by_cases hneg : at0 < 0
            · have hneg2 : ¬ 0 ≤ at0 := by omega
              by_cases h8 : x.length = 8
              · have h8I : ((x.length : Int) != 8) = false := by simp; omega
                have hy0 : y.length = 0 := by
                  have := Hok.out.2 (decide_eq_true hneg)
                  rw [Option.some.inj this]; rfl
                have h7 : (7 : Int) < (x.length : Int) + (y.length : Int) := by omega
                have HQ : Hid (q = false) := by show _ = _; rw [Hq.out]; simp [Lz.sixOk, hneg, h8]
                have Hy0 := Lib.hid hy0
                have H8 := Lib.hid h8
                clear hlt0 h8 hy0
                go_wp2_with fail
                go_meet
                exact ⟨by rw [HQ.out], rfl⟩
              · have h8I : ((x.length : Int) != 8) = true := by simp; omega
                have HQ : Hid (q = true) := by show _ = _; rw [Hq.out]; simp [Lz.sixOk, hneg, h8]
                clear hlt0
                go_wp2_with fail
                go_meet
                exact ⟨by rw [HQ.out], rfl⟩
            · have hneg2 : 0 ≤ at0 := by omega
              by_cases h7 : 7 < x.length + y.length
              · have h7I : (7 : Int) < (x.length : Int) + (y.length : Int) := by omega
                have HQ : Hid (q = true) := by show _ = _; rw [Hq.out]; simp [Lz.sixOk, hneg]; omega
                clear hlt0
                go_wp2_with fail
                go_meet
                exact ⟨by rw [HQ.out], rfl⟩
              · have h7I : ¬ (7 : Int) < (x.length : Int) + (y.length : Int) := by omega
                have HQ : Hid (q = false) := by show _ = _; rw [Hq.out]; simp [Lz.sixOk, hneg]; omega
                clear hlt0
                go_wp2_with fail
                go_meet
                exact ⟨by rw [HQ.out], rfl⟩
      case rest =>
      obtain ⟨rfl, rfl⟩ := hcut
      cases q
      · obtain ⟨x, hx⟩ : ∃ x, x = o1.getD [] := ⟨_, rfl⟩
        obtain ⟨y, hy⟩ : ∃ y, y = o2.getD [] := ⟨_, rfl⟩
        have hokT : Lz.sixOk (decide (at0 < 0)) o1 o2 = true := by
          have := Hq.out
          cases h : Lz.sixOk (decide (at0 < 0)) o1 o2
          · rw [h] at this; cases this
          · rfl
        have hsum : x.length + y.length ≤ 8 := by
          have h := hokT
          unfold Lz.sixOk at h
          rw [← hx, ← hy] at h
          cases hb : decide (at0 < 0)
          · rw [hb] at h
            simp only [Bool.and_eq_true, if_neg (show ¬ (false = true) by decide), decide_eq_true_eq] at h
            omega
          · have h2 := Hok.out.2 hb
            rw [hb] at h
            rw [h2] at hy
            simp only [Bool.and_eq_true, if_pos, beq_iff_eq] at h
            rw [hy]; simp; omega
        have HS : Hid (Lz.sixR s.data.toList = some (x ++ List.replicate (8 - x.length - y.length) 0 ++ y)) := by
          show _ = _
          rw [Hok.out.1, if_pos hokT, hx, hy]
        have hown1 := Hown1'.out
        have hown2 := Hown2.out
        rw [← hx] at hown1 Hx1 hl1
        rw [← hy] at hown2 Hx2 hl2
        have hap := Hap.out
        rw [show (o1.getD []).length = x.length by rw [hx], show (o2.getD []).length = y.length by rw [hy]] at hap ⊢
        have hbz1 := hbw1.size
        have hbz2 := hbw2.size
        have h1c : w1.heap.size ≤ w2.heap.size := hb2.size
        have Hx := Lib.hid hx
        have Hy := Lib.hid hy
        have Hs1 := Lib.hid hown1
        have Hs2 := Lib.hid hown2
        have Hsa := Lib.hid hap
        clear hx hy hokT hown1 hown2 Hok Hq Hap Hown1' Hown2 hap hl1 hl2 Ho2
        go_wp2_with fail
        go_loopw [8] (fun v wr => ∃ (m : Nat) (a : Option Addr) (c : Nat), v = .slice a m c ∧ x.length ≤ m ∧ m + y.length ≤ 8 ∧ Hid (wr.ownsRow wc.heap.size 3 1 (.slice a m c) m (intn (fillZ x m))) ∧ Hid (wr.ownsRow w1.heap.size 3 1 (.slice a2 y.length p2) y.length (intn y)) ∧ Hid (∀ g, (Value.slice a m c).ownBlock = some g → (Value.slice a2 y.length p2).ownBlock ≠ some g) ∧ w1.heap.size ≤ wr.heap.size ∧ Below wc.heap.size wc wr) (fun v _ => 8 - lenV v)
        case atStart => exact ⟨x.length, a1, p1, rfl, Nat.le_refl _, hsum, Lib.hid (by rw [fillZ_self]; exact Hs1.out), Hs2, Hsa, h1c, below_call hb1 hb2⟩
        case round =>
          clear Hs1 Hs2 Hsa
          obtain ⟨m, a, c, rfl, hm1, hm2, ho, ho2, hsa, hz1c, hb⟩ := hrel
          have hsz := hb.size
          have hmw : IntKind.i64.wrap ((m : Int) + (y.length : Int)) = (m : Int) + (y.length : Int) := IntWalk.i64_in _ (by omega)
          by_cases hl : m + y.length < 8
          · have hlI : (m : Int) + (y.length : Int) < 8 := by omega
            go_wp2_with (at_builtin; refine wpList_append_own_at _ rfl (.tmp 92) (.tmp 93) 36 rfl wc.heap.size 3 i0 (.int .i64 0) 1 8 Tryz.underlying36 hi hz0 hz1 hz2 rfl (by decide) _ _ _ rfl (ho.out.alloc _) ⟨wr.heap.size, 0, none⟩ 1 1 [.int .i64 0] rfl rfl (cell_one _ _ _) (by simp [Value.oneCell']) (by unfold maxLen; omega) (by omega) (by simp; omega) ?_)
            intro v' w4 hown' hgrow _ hat
            have hb4 : Below wc.heap.size wc w4 := Below.grown1 hb ho.out hgrow hsz (Nat.le_refl _)
            obtain ⟨a', c', rfl⟩ := own_slice hown'
            have ho4 : Hid (w4.ownsRow w1.heap.size 3 1 (.slice a2 y.length p2) y.length (intn y)) := by
              refine (ho2.out.alloc _).kept hgrow ?_
              cases he : (Value.slice a2 y.length p2).ownBlock with
              | none => exact Or.inl rfl
              | some g => exact Or.inr (fun h => hsa.out g h.symm he)
            have hsa4 : Hid (∀ g, (Value.slice a' (m + 1) c').ownBlock = some g → (Value.slice a2 y.length p2).ownBlock ≠ some g) := by
              intro g hg hg2
              rcases hat with h | h
              · exact hsa.out g (h.symm.trans hg) hg2
              · have h5 := (ho2.out.lt g hg2).2
                rw [hg] at h
                have h6 : g = wr.heap.size + 1 := by have := Option.some.inj h; simpa using this
                omega
            have hz4 : w1.heap.size ≤ w4.heap.size := by
              have := hgrow.size
              simp at this
              omega
            have hown4 : Hid (w4.ownsRow wc.heap.size 3 1 (.slice a' (m + 1) c') (m + 1) (intn (fillZ x (m + 1)))) := by
              show _
              rw [← fillZ_next hm1, ← intn_snoc]
              exact hown'
            clear hown' hgrow hat
            go_wp2
            go_roundw
            case rel => exact ⟨m + 1, a', c', rfl, by omega, by omega, hown4, ho4, hsa4, hz4, hb4⟩
            case measure => simp [lenV]; omega
          · have hlI : ¬ (m : Int) + (y.length : Int) < 8 := by omega
            have hm8 : m + y.length = 8 := by omega
            obtain ⟨A, hA⟩ : ∃ A, A = fillZ x m ++ y := ⟨_, rfl⟩
            have hAl : A.length = 8 := by rw [hA, List.length_append, fillZ_len hm1]; exact hm8
            have HS2 : Hid (Lz.sixR s.data.toList = some A) := by
              show _ = _
              rw [HS.out, hA]
              unfold fillZ
              rw [show m - x.length = 8 - x.length - y.length by omega]
            have hAb : Hid (∀ n ∈ A, n ≤ 1099511627776) := by
              show ∀ n ∈ A, n ≤ 1099511627776
              intro n hn
              rw [hA] at hn
              unfold fillZ at hn
              rcases List.mem_append.1 hn with h | h
              · rcases List.mem_append.1 h with h | h
                · exact Hx1.out n h
                · rw [(List.mem_replicate.1 h).2]; omega
              · exact Hx2.out n h
            have hyb := Hx2
            have HA := Lib.hid hA
            clear HS hA Hx Hy Hx1
            go_upto_region 16 with fail
            go_cut [8] (fun v wx => wx.ownsRow w.heap.size 3 1 v 8 (intn A) ∧ Below w.heap.size w wx)
            case first =>
              cases a2 with
              | none =>
                have hy0 : y = [] := by
                  rcases ho2.out.2 with ⟨_, h⟩ | ⟨g, cap, cur, h, _⟩
                  · exact List.length_eq_zero_iff.1 h
                  · cases h
                have hp0 : p2 = 0 := by
                  rcases ho2.out.2 with ⟨h, _⟩ | ⟨g, cap, cur, h, _⟩
                  · injection h
                  · cases h
                subst hy0
                subst hp0
                have hfin : wr.ownsRow wc.heap.size 3 1 (.slice a m c) 8 (intn A) := by
                  have := ho.out
                  rw [HA.out, List.append_nil]
                  simp at hm8
                  rw [← hm8]
                  exact this
                have Hfin := Lib.hid hfin
                clear hfin
                go_wp2_with (at_builtin; refine wpList_append_own_none rfl (.tmp 95) (.tmp 96) 36 rfl wc.heap.size 3 i0 1 Tryz.underlying36 hi _ _ _ rfl ho.out rfl ?_)
                go_wp2
                go_meet
                exact ⟨own_weaken Hfin.out hbcz, below_call hbc hb⟩
              | some ad =>
                obtain ⟨g2, rfl⟩ : ∃ g, ad = ⟨g, 0, none⟩ := by
                  rcases ho2.out.2 with ⟨h, _⟩ | ⟨g, cap, cur, h, _⟩
                  · cases h
                  · injection h with h1; exact ⟨g, Option.some.inj h1⟩
                have hcells : ∀ j u, (intn y)[j]? = some u → wr.cell? ((⟨g2, 0, none⟩ : Addr).add j) = some u := by
                  intro j u hj
                  rw [addr_add]
                  have hjl : j < y.length := by have := (List.getElem?_eq_some_iff.1 hj).1; simpa [intn] using this
                  rw [ho2.out.cellAt j (by omega)]; exact hj
                have Hc := Lib.hid hcells
                clear hcells
                go_wp2_with (at_builtin; refine wpList_append_own _ rfl (.tmp 95) (.tmp 96) 36 rfl wc.heap.size 3 i0 (.int .i64 0) 1 8 Tryz.underlying36 hi hz0 hz1 hz2 rfl (by decide) _ _ _ rfl ho.out ⟨g2, 0, none⟩ y.length p2 (intn y) rfl (by simp [intn]) Hc.out (by simp [intn, Value.oneCell']) (by unfold maxLen; omega) (by omega) hsz ?_)
                intro v' w4 hown' hgrow _
                have hb4 : Below wc.heap.size wc w4 := hb.grown hgrow hsz (fun k hk => (ho.out.lt k hk).1)
                have hown4 : Hid (w4.ownsRow wc.heap.size 3 1 v' 8 (intn A)) := by
                  show _
                  have h := hown'
                  rw [show intn (fillZ x m) ++ intn y = intn A by rw [HA.out]; simp [intn]] at h
                  exact h
                clear hown' hgrow
                go_wp2
                go_meet
                exact ⟨own_weaken hown4.out hbcz, below_call hbc hb4⟩
            case rest =>
            obtain ⟨hown, hbw⟩ := hcut
            obtain ⟨g, cap, rfl, hgl, hcells⟩ := own_ints hown (by decide)
            have Hc := Lib.hid hcells
            have hE4 := hE.below hbw
            have hAlen := Lib.hid hAl
            clear hown hcells hAl HA
            go_wp2_with fail
            go_loopw [12, 13, 14] (fun f mm i wr => ∃ (fr : Int) (mn k : Nat), f = .int .i64 fr ∧ mm = .int .i64 mn ∧ i = .int .i64 k ∧ k ≤ 8 ∧ mn ≤ 100 ∧ Hid (Lz.frR A k fr mn) ∧ wc = wr) (fun _ _ i _ => 8 - (intOf i).toNat)
            case atStart => exact ⟨-1, 1, 0, rfl, rfl, rfl, by omega, by omega, Lib.hid (Lz.frR_zero A), rfl⟩
            case round =>
              obtain ⟨fr, mn, k, rfl, rfl, rfl, hk, hmn, hfr, rfl⟩ := hrel
              by_cases hk8 : k < 8
              · have hkI : (k : Int) < 8 := by omega
                go_wp2_with fail
                go_loopw [15] (fun kk wr => ∃ m : Nat, kk = .int .i64 m ∧ k + m ≤ 8 ∧ Hid (m ≤ Lz.zerosP (A.drop k)) ∧ wc = wr) (fun kk _ => 8 - (intOf kk).toNat)
                case atStart => exact ⟨0, rfl, by omega, Lib.hid (Nat.zero_le _), rfl⟩
                case round =>
                  obtain ⟨m, rfl, hm, hmz, rfl⟩ := hrel
                  have hw1 : IntKind.i64.wrap ((k : Int) + (m : Int)) = (k : Int) + (m : Int) := IntWalk.i64_in _ (by omega)
                  by_cases hlt : k + m < 8
                  · obtain ⟨n, hn⟩ : ∃ n, A[k + m]? = some n := ⟨_, List.getElem?_eq_getElem (by rw [hAlen.out]; exact hlt)⟩
                    have hc := Hc.out (k + m) n hn
                    have hkm1 : (k : Int) + (m : Int) < 8 := by omega
                    have hkm0 : (0 : Int) ≤ (k : Int) + (m : Int) := by omega
                    by_cases h0 : n = 0
                    · subst h0
                      have hmz2 := Lib.hid (Lz.zeros_lt hmz.out hn)
                      clear hn hmz
                      go_wp2_with fail
                      go_roundw
                      case rel => exact ⟨m + 1, by go_num, by omega, hmz2, trivial⟩
                      case measure => simp [intOf]; omega
                    · have hn0 : ((n : Int) == 0) = false := by simp; omega
                      have HZ := Lz.zeros_end hmz.out hn h0
                      by_cases hmn2 : mn < m
                      · have hmI : (mn : Int) < (m : Int) := by omega
                        have hfr2 := Lib.hid (Lz.frR_hit hfr.out HZ hmn2)
                        clear hn HZ hfr hmz
                        go_wp2_with fail
                        go_roundw
                        case rel => exact ⟨k, m, k + 1, rfl, rfl, by go_num, by omega, by omega, hfr2, trivial⟩
                        case measure => simp [intOf]; omega
                      · have hmI : ¬ (mn : Int) < (m : Int) := by omega
                        have hfr2 := Lib.hid (Lz.frR_miss hfr.out HZ hmn2)
                        clear hn HZ hfr hmz
                        go_wp2_with fail
                        go_roundw
                        case rel => exact ⟨fr, mn, k + 1, rfl, rfl, by go_num, by omega, by omega, hfr2, trivial⟩
                        case measure => simp [intOf]; omega
                  · have hkm1 : ¬ (k : Int) + (m : Int) < 8 := by omega
                    have HZ := Lz.zeros_past hmz.out (by rw [hAlen.out]; omega)
                    by_cases hmn2 : mn < m
                    · have hmI : (mn : Int) < (m : Int) := by omega
                      have hfr2 := Lib.hid (Lz.frR_hit hfr.out HZ hmn2)
                      clear HZ hfr hmz
                      go_wp2_with fail
                      go_roundw
                      case rel => exact ⟨k, m, k + 1, rfl, rfl, by go_num, by omega, by omega, hfr2, trivial⟩
                      case measure => simp [intOf]; omega
                    · have hmI : ¬ (mn : Int) < (m : Int) := by omega
                      have hfr2 := Lib.hid (Lz.frR_miss hfr.out HZ hmn2)
                      clear HZ hfr hmz
                      go_wp2_with fail
                      go_roundw
                      case rel => exact ⟨fr, mn, k + 1, rfl, rfl, by go_num, by omega, by omega, hfr2, trivial⟩
                      case measure => simp [intOf]; omega
              · have hkI : ¬ (k : Int) < 8 := by omega
                obtain ⟨p, q, hpq⟩ : ∃ p q, Lz.runF A A.length = (p, q) := ⟨_, _, rfl⟩
                have hrok := Lz.runF_ok A A.length (Nat.le_refl _)
                have hout := Lz.outAt_all A
                have hfr8 := hfr.out
                rw [show k = A.length by rw [hAlen.out]; omega] at hfr8
                unfold Lz.frR at hfr8
                rw [hpq] at hrok hout hfr8
                simp only at hrok hout hfr8
                rw [hAlen.out] at hrok hout
                have Hout := Lib.hid hout
                have Hrok := Lib.hid hrok
                have Hfr := Lib.hid hfr8
                clear hout hrok hfr8 hpq hfr
                go_wp2_with fail
                go_loopw [16, 17] (fun o i wr => ∃ (u : ByteArray) (k : Nat), o = .string u ∧ i = .int .i64 k ∧ k ≤ 8 ∧ u.size ≤ 20 * k ∧ Hid (u.data.toList = Lz.outAt A p q k) ∧ Hid (p = q ∨ k ≤ p ∨ (p < q ∧ q ≤ k)) ∧ Below wc.heap.size wc wr) (fun _ i _ => 8 - (intOf i).toNat)
                case atStart => exact ⟨⟨#[]⟩, 0, rfl, rfl, by omega, Nat.le_refl _, by show _ = _; (rw [Lz.outAt_zero]) <;> rfl, Lib.hid (by omega), Below.refl _ _⟩
                case round =>
                  clear hkI hk
                  obtain ⟨u, j, rfl, rfl, hj, huz, hu, hjp, hb⟩ := hrel
                  have hbw4 := below_call hbw hb
                  by_cases hj8 : j < 8
                  · have hjI : (j : Int) < 8 := by omega
                    by_cases hhit : p ≠ q ∧ j = p
                    · have hfe : ((j : Int) == fr) = true := by rw [Hfr.out.1, if_neg hhit.1, hhit.2]; simp
                      have hpq : p + 2 ≤ q ∧ q ≤ 8 := by have := Hrok.out; omega
                      have hmnq : mn = q - p := by rw [Hfr.out.2]; omega
                      have hw1 : IntKind.i64.wrap ((j : Int) + (mn : Int)) = (j : Int) + (mn : Int) := IntWalk.i64_in _ (by omega)
                      have hw2 : IntKind.i64.wrap ((j : Int) + (mn : Int) - 1) = (j : Int) + (mn : Int) - 1 := IntWalk.i64_in _ (by omega)
                      have hno : ¬ (9223372036854775807 < u.size + 2) := by omega
                      have hu2 : Hid (u.data.toList ++ [58, 58] = Lz.outAt A p q q) := by
                        show _ = _
                        rw [Lz.outAt_skip (by omega), hu.out, hhit.2]
                      have hq2 : (q : Int) = (j : Int) + (mn : Int) - 1 + 1 := by omega
                      have hqz : u.size + 2 ≤ 20 * q := by omega
                      have hjq : j < q := by omega
                      have Hq2 := Lib.hid hq2
                      have Hpq := Lib.hid hpq
                      clear hhit hmnq hq2 hpq
                      go_wp2_with fail
                      go_roundw
                      case rel =>
                        refine ⟨u ++ ⟨#[58, 58]⟩, q, rfl, ?_, Hpq.out.2, by rw [ByteArray.size_append]; exact hqz, by show _ = _; rw [append_data']; exact hu2.out, Lib.hid (by have := Hpq.out; omega), hb⟩
                        have := Hq2.out
                        go_num
                      case measure => have hq2 := Hq2.out; simp [intOf] <;> omega
                    · have hfe : ((j : Int) == fr) = false := by
                        rw [Hfr.out.1]
                        by_cases hpq : p = q
                        · rw [if_pos hpq, beq_eq_false_iff_ne]; omega
                        · rw [if_neg hpq, beq_eq_false_iff_ne]; intro h; exact hhit ⟨hpq, by omega⟩
                      have hst : p = q ∨ j < p ∨ (p < q ∧ q ≤ j) := by have := hjp.out; omega
                      have hos := Lz.outAt_step (a := A) (p := p) (q := q) (i := j) (by rw [hAlen.out]; exact hj8) hst
                      obtain ⟨n, hn⟩ : ∃ n, A[j]? = some n := ⟨_, List.getElem?_eq_getElem (by rw [hAlen.out]; exact hj8)⟩
                      have hnb := hAb.out n (List.mem_of_getElem? hn)
                      have hc : wr.cell? ⟨g, j, none⟩ = some (.int .i64 (n : Int)) := by rw [hb.cell (p := ⟨g, j, none⟩) hgl]; exact Hc.out j n hn
                      rw [show A.getD j 0 = n by rw [List.getD_eq_getElem?_getD, hn]; rfl, ← hu.out] at hos
                      obtain ⟨b, hbq⟩ : ∃ b, b = Lz.colQ u.data.toList := ⟨_, rfl⟩
                      rw [← hbq] at hos
                      have cF := Lib.hid (FormatInt_16 n hnb wr (hE4.below hb).db16)
                      have Hos := Lib.hid hos
                      have Hst := Lib.hid hst
                      have Hbq := Lib.hid hbq
                      clear hos hst hn hjp hhit hu hbq
                      go_upto_region 33 with fail
                      go_cut [144] (fun c wx => c = .bool b ∧ wr = wx)
                      case first =>
                        by_cases hz : u.size = 0
                        · have he := isEmpty_of_size hz
                          have HB : Hid (b = false) := by
                            show _ = _
                            rw [Hbq.out]
                            have : u.data.toList = [] := List.length_eq_zero_iff.1 hz
                            unfold Lz.colQ
                            rw [this]; rfl
                          have Hz := Lib.hid hz
                          clear hz
                          go_wp2_with fail
                          go_meet
                          exact ⟨by rw [HB.out], rfl⟩
                        · have he := isEmpty_of_pos (s := u) (by omega)
                          obtain ⟨n1, hn1⟩ : ∃ n1, n1 = u.size - 1 := ⟨_, rfl⟩
                          have hn1l : n1 < u.size := by omega
                          have hwn : IntKind.i64.wrap ((u.size : Int) - 1) = (n1 : Int) := by rw [show (u.size : Int) - 1 = (n1 : Int) by omega]; exact IntWalk.i64_in _ (by omega)
                          have hn1a : (0 : Int) ≤ (n1 : Int) := by omega
                          have hn1b : (n1 : Int) < (u.size : Int) := by omega
                          obtain ⟨d, hd⟩ : ∃ d, d = u[n1] := ⟨_, rfl⟩
                          have hdI : (u[n1].toNat : Int) = (d.toNat : Int) := by rw [hd]
                          have hgl2 : u.data.toList.getLast? = some d := by
                            rw [List.getLast?_eq_getElem?, len_of_size, ← hn1, get_of_lt hn1l, hd]
                          have hB : b = !(d == 58) := by
                            rw [Hbq.out]
                            unfold Lz.colQ
                            have he2 : u.data.toList.isEmpty = false := by
                              cases e : u.data.toList with
                              | nil => rw [e] at hgl2; cases hgl2
                              | cons _ _ => rfl
                            rw [he2, hgl2]
                            rfl
                          have hne : ((d.toNat : Int) != 58) = b := by
                            rw [hB]
                            show (!((d.toNat : Int) == 58)) = _
                            rw [show ((d.toNat : Int) == 58) = (d == 58) from beqI d 58]
                          have Hn1 := Lib.hid hn1
                          clear hB hgl2 hd hn1 hz
                          go_wp2_with fail
                          go_meet
                          exact ⟨by first | rfl | rw [hne], rfl⟩
                      case rest =>
                      obtain ⟨rfl, rfl⟩ := hcut
                      clear Hbq
                      go_upto_if 144 with fail
                      go_cut [16] (fun o wx => ∃ u2 : ByteArray, o = .string u2 ∧ u2.size ≤ u.size + 1 ∧ Hid (u2.data.toList = u.data.toList ++ (if b then [58] else [])) ∧ wr = wx)
                      case first =>
                        cases b
                        · go_wp2_with fail
                          go_meet
                          exact ⟨u, rfl, by omega, by show _ = _; simp, rfl⟩
                        · have hno : ¬ (9223372036854775807 < u.size + 1) := by omega
                          go_wp2_with fail
                          go_meet
                          exact ⟨u ++ ⟨#[58]⟩, rfl, by rw [ByteArray.size_append]; exact Nat.le_refl _, by show _ = _; rw [append_data']; rfl, rfl⟩
                      case rest =>
                      obtain ⟨u2, rfl, hu2z, hu2, rfl⟩ := hcut
                      go_wp2_with fail
                      refine cF.out.mono ?_
                      rintro e w5 ⟨t, rfl, ht, hb5⟩
                      have htz : t.size ≤ 11 := by rw [← len_of_size, ht.out]; exact Lz.hexD_len 10 n (by omega)
                      have hno : ¬ (9223372036854775807 < u2.size + t.size) := by omega
                      have hb6 := below_call hb hb5
                      go_wp2_with fail
                      go_roundw
                      case rel =>
                        refine ⟨u2 ++ t, j + 1, rfl, by go_num, by omega, by rw [ByteArray.size_append]; omega, ?_, Lib.hid (by have := Hst.out; omega), hb6⟩
                        show _ = _
                        rw [Hos.out, append_data', hu2.out, ht.out]
                      case measure => simp [intOf]; omega
                  · have hjI : ¬ (j : Int) < 8 := by omega
                    have HU : Hid (u.data.toList = Lz.textP A) := by
                      show _ = _
                      rw [hu.out, show j = 8 by omega, Hout.out]
                    go_wp2_with fail
                    go_ret2
                    rw [HS2.out]
                    exact ⟨hbw4, u, rfl, HU⟩
      · have HN : Hid (Lz.sixR s.data.toList = none) := by
          show _ = _
          rw [Hok.out.1, if_neg]
          intro h
          have := Hq.out
          rw [h] at this; cases this
        go_wp2_with fail
        go_ret2
        rw [HN.out]
        exact ⟨hbw2, rfl⟩
end Go.Proofs.YtkaejkjheajaaaaGreatDoor
