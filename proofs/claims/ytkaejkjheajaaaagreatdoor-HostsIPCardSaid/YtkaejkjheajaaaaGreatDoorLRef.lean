/-
  lazaretref02.Hex.
  lazaretref07.digits, decimal.
  lazaretref07.decimal.
  lazaretref07.Cut.
  lazaretref07.pieces.
-/
import Derived.Test.YtkaejkjheajaaaaGreatDoorHEnv
import Derived.Test.YtkaejkjheajaaaaGreatDoorHostP
import Derived.Test.YtkaejkjheajaaaaGreatDoorRefA
import Derived.Test.YtkaejkjheajaaaaGreatDoorLPlain
import Derived.Test.YtkaejkjheajaaaaGreatDoorHDot
import Derived.StillTailTactics
namespace Lz
open Go
def hexDigs : Bs := [48, 49, 50, 51, 52, 53, 54, 55, 56, 57, 97, 98, 99, 100, 101, 102]
def hexHit (k : Nat) (c : UInt8) : Bool := hexDigs.getD k 0 == c || (65 ≤ c && c ≤ 90 && hexDigs.getD k 0 == c + 32)
theorem hexV_find : ∀ c : UInt8, hexV c = (List.range 16).find? fun k => hexHit k c := byte_all (by decide +kernel)
theorem hexV_at {c : UInt8} {k : Nat} (hk : k < 16) (h : hexHit k c = true) (hno : ∀ i, i < k → hexHit i c = false) : hexV c = some k := by
  rw [hexV_find, List.find?_eq_some_iff_getElem]
  refine ⟨h, k, by simpa using hk, by simp, fun j hj => ?_⟩
  simp [hno j hj]
theorem hexV_no {c : UInt8} (hno : ∀ i, i < 16 → hexHit i c = false) : hexV c = none := by
  rw [hexV_find, List.find?_eq_none]
  intro i hi
  have := hno i (by simpa using hi)
  simp [this]
end Lz
namespace Go.Proofs.YtkaejkjheajaaaaGreatDoor
open Go.RowKit
def RHex02 (o : Option Nat) (w : World) (e : Ending) (w' : World) : Prop := e = .returned (.tuple #[.int .i64 ((o.getD 0 : Nat) : Int), .bool o.isSome]) ∧ w = w'
theorem digAt : ∀ k : Fin 16, (⟨#[48, 49, 50, 51, 52, 53, 54, 55, 56, 57, 97, 98, 99, 100, 101, 102]⟩ : ByteArray)[k.val]'(show k.val < 16 from k.isLt) = Lz.hexDigs.getD k.val 0 := by decide +kernel
theorem digAtN (k : Nat) (h : k < 16) {h' : k < (⟨#[48, 49, 50, 51, 52, 53, 54, 55, 56, 57, 97, 98, 99, 100, 101, 102]⟩ : ByteArray).size} : (⟨#[48, 49, 50, 51, 52, 53, 54, 55, 56, 57, 97, 98, 99, 100, 101, 102]⟩ : ByteArray)[k]'h' = Lz.hexDigs.getD k 0 := digAt ⟨k, h⟩

set_option maxHeartbeats 1000000 in
set_option maxRecDepth 100000 in
theorem Hex02_any (c : UInt8) (w : World) : Calls Tryz.prog 130 #[.int .u8 (c.toNat : Int)] w (RHex02 (Lz.hexV c) w) := by
  have hcb := byte_lt c
  go_enter Tryz.func130, Tryz.ntmps130
  go_wp2_with fail
  go_loopw [5] (fun i wr => ∃ k : Nat, i = .int .i64 k ∧ k ≤ 16 ∧ Hid (∀ j, j < k → Lz.hexHit j c = false) ∧ w = wr) (fun i _ => 16 - (intOf i).toNat)
  case atStart => exact ⟨0, rfl, by omega, Lib.hid (fun j hj => absurd hj (by omega)), rfl⟩
  case round =>
    obtain ⟨k, rfl, hk, hno, rfl⟩ := hrel
    by_cases hlt : k < 16
    · have hltI : (k : Int) < 16 := by omega
      have hk0 : (0 : Int) ≤ (k : Int) := by omega
      obtain ⟨e, he⟩ : ∃ e, e = Lz.hexDigs.getD k 0 := ⟨_, rfl⟩
      have hdg : ∀ h', ((⟨#[48, 49, 50, 51, 52, 53, 54, 55, 56, 57, 97, 98, 99, 100, 101, 102]⟩ : ByteArray)[k]'h') = e := fun h' => by rw [he]; exact digAtN k hlt
      obtain ⟨q, hq⟩ : ∃ q, q = Lz.hexHit k c := ⟨_, rfl⟩
      have Hq := Lib.hid (show q = (e == c || (65 ≤ c && c ≤ 90 && e == c + 32)) by rw [hq, he]; rfl)
      have Hq2 := Lib.hid hq
      have h1 := beqI e c
      clear he hq
      go_upto_region 5 with fail
      go_cut [32] (fun s wx => s = .bool q ∧ w = wx)
      case first =>
        by_cases hb1 : e = c
        · have hb1I : ((e.toNat : Int) == (c.toNat : Int)) = true := h1.trans (by simp [hb1])
          have HQ : Hid (q = true) := by show _ = _; rw [Hq.out, hb1]; simp
          clear hb1 h1
          go_wp2_with fail
          go_meet
          exact ⟨by rw [HQ.out], rfl⟩
        · have hb1I : ((e.toNat : Int) == (c.toNat : Int)) = false := h1.trans (by simpa using hb1)
          have hb1B : (e == c) = false := by simpa using hb1
          clear hb1 h1
          by_cases h65 : 65 ≤ (c.toNat : Int)
          · have d65 : decide ((65 : UInt8) ≤ c) = true := by rw [decide_eq_true_eq, UInt8.le_iff_toNat_le]; show 65 ≤ _; omega
            have e65 := decide_eq_true h65
            by_cases h90 : (c.toNat : Int) ≤ 90
            · have d90 : decide (c ≤ (90 : UInt8)) = true := by rw [decide_eq_true_eq, UInt8.le_iff_toNat_le]; show _ ≤ 90; omega
              have e90 := decide_eq_true h90
              have hcn : (c + 32).toNat = c.toNat + 32 := by rw [UInt8.toNat_add]; show (c.toNat + 32) % 256 = _; omega
              have hw : IntKind.u8.wrap ((c.toNat : Int) + 32) = ((c + 32 : UInt8).toNat : Int) := by rw [hcn, IntWalk.u8_in _ (by omega)]; omega
              have hw2 : (c.toNat : Int) + 32 = ((c + 32 : UInt8).toNat : Int) := by rw [hcn]; omega
              obtain ⟨c2, hc2⟩ : ∃ c2, c2 = c + 32 := ⟨_, rfl⟩
              rw [← hc2] at hw hw2
              have h2 := beqI e c2
              have hcb2 := byte_lt c2
              have HQ : Hid (q = (e == c2)) := by show _ = _; rw [Hq.out, hb1B, d65, d90, ← hc2]; simp
              clear hc2 hcn
              cases hx : (e == c2)
              · rw [hx] at h2
                have HQ2 : Hid (q = false) := by show _ = _; rw [HQ.out, hx]
                clear hx
                go_wp2_with fail
                go_meet
                exact ⟨by rw [HQ2.out], rfl⟩
              · rw [hx] at h2
                have HQ2 : Hid (q = true) := by show _ = _; rw [HQ.out, hx]
                clear hx
                go_wp2_with fail
                go_meet
                exact ⟨by rw [HQ2.out], rfl⟩
            · have e90 := decide_eq_false h90
              have HQ : Hid (q = false) := by
                show _ = _
                rw [Hq.out, hb1B, show decide (c ≤ (90 : UInt8)) = false by rw [decide_eq_false_iff_not, UInt8.le_iff_toNat_le]; show ¬ _ ≤ 90; omega]; simp
              go_wp2_with fail
              go_meet
              exact ⟨by rw [HQ.out], rfl⟩
          · have e65 := decide_eq_false h65
            have HQ : Hid (q = false) := by
              show _ = _
              rw [Hq.out, hb1B, show decide ((65 : UInt8) ≤ c) = false by rw [decide_eq_false_iff_not, UInt8.le_iff_toNat_le]; show ¬ 65 ≤ _; omega]; simp
            go_wp2_with fail
            go_meet
            exact ⟨by rw [HQ.out], rfl⟩
      case rest =>
      obtain ⟨rfl, rfl⟩ := hcut
      cases q
      · go_wp2_with fail
        go_roundw
        case rel =>
          refine ⟨k + 1, by go_num, by omega, ?_, trivial⟩
          show ∀ j, j < k + 1 → _
          intro j hj
          rcases Nat.lt_or_ge j k with h | h
          · exact hno.out j h
          · rw [show j = k by omega]; exact Hq2.out.symm
        case measure => simp [intOf]; omega
      · have HV : Hid (Lz.hexV c = some k) := Lib.hid (Lz.hexV_at hlt Hq2.out.symm hno.out)
        go_wp2_with fail
        go_ret2
        rw [HV.out]
        exact ⟨rfl, rfl⟩
    · have hltI : ¬ (k : Int) < 16 := by omega
      have HV : Hid (Lz.hexV c = none) := Lib.hid (Lz.hexV_no (fun i hi => hno.out i (by omega)))
      go_wp2_with fail
      go_ret2
      rw [HV.out]
      exact ⟨rfl, rfl⟩
end Go.Proofs.YtkaejkjheajaaaaGreatDoor

namespace Go.Proofs.YtkaejkjheajaaaaGreatDoor
open Go.RowKit
attribute [local go_sem ↓] Go.wp_at_zero Go.wp_at_succ
/-- A number, or none; the world as it was. -/
def RDig (o : Option Nat) (w : World) (e : Ending) (w' : World) : Prop := e = .returned (.tuple #[.int .i64 ((o.getD 0 : Nat) : Int), .bool o.isSome]) ∧ w = w'
theorem numF_cons (b n : Nat) (c : UInt8) (r : List UInt8) : Lz.numF b n (c :: r) = match Lz.hexV c with | none => none | some d => if b ≤ d then none else Lz.numF b (min (n * b + d) 1099511627776) r := by
  rw [Lz.numF]
  cases Lz.hexV c <;> rfl
theorem Hex02_none {c : UInt8} (h : Lz.hexV c = none) (w : World) : Calls Tryz.prog 130 #[.int .u8 (c.toNat : Int)] w fun e w' => e = .returned (.tuple #[.int .i64 0, .bool false]) ∧ w = w' := by
  have := Hex02_any c w
  rw [h] at this
  exact this
theorem Hex02_some {c : UInt8} {d : Nat} (h : Lz.hexV c = some d) (w : World) : Calls Tryz.prog 130 #[.int .u8 (c.toNat : Int)] w fun e w' => e = .returned (.tuple #[.int .i64 (d : Int), .bool true]) ∧ w = w' := by
  have := Hex02_any c w
  rw [h] at this
  exact this

set_option maxHeartbeats 1000000 in
set_option maxRecDepth 100000 in
theorem digits07_any (s : ByteArray) (b : Nat) (hb : b ≤ 16) (hs : s.size ≤ 1048576) (w : World) : Calls Tryz.prog 80 #[.string s, .int .i64 (b : Int)] w (RDig (Lz.numF b 0 s.data.toList) w) := by
  obtain ⟨o, ho⟩ : ∃ o, o = Lz.numF b 0 s.data.toList := ⟨_, rfl⟩
  rw [← ho]
  have Ho := Lib.hid ho
  clear ho
  go_enter Tryz.func80, Tryz.ntmps80
  go_wp2_with fail
  go_loopw [6, 7] (fun n i wr => ∃ k m : Nat, i = .int .i64 k ∧ n = .int .i64 m ∧ k ≤ s.size ∧ m ≤ 1099511627776 ∧ Hid (o = Lz.numF b m (s.data.toList.drop k)) ∧ w = wr) (fun _ i _ => s.size - (intOf i).toNat)
  case atStart => exact ⟨0, 0, rfl, rfl, Nat.zero_le _, Nat.zero_le _, by show _ = _; rw [Ho.out]; rfl, rfl⟩
  case round =>
    obtain ⟨k, m, rfl, rfl, hk, hm, hN, rfl⟩ := hrel
    by_cases hlt : k < s.size
    · have hltI : (k : Int) < (s.size : Int) := by omega
      have hk0 : (0 : Int) ≤ (k : Int) := by omega
      obtain ⟨c, hc⟩ : ∃ c, c = s[k] := ⟨_, rfl⟩
      have hcI : (s[k].toNat : Int) = (c.toNat : Int) := by rw [hc]
      have hN2 : Hid (o = match Lz.hexV c with | none => none | some d => if b ≤ d then none else Lz.numF b (min (m * b + d) 1099511627776) (s.data.toList.drop (k + 1))) := by
        show _ = _
        rw [hN.out, List.drop_eq_getElem_cons (show k < s.data.toList.length by rw [len_of_size]; exact hlt), numF_cons, hc]
        rfl
      clear hc hN
      cases hv : Lz.hexV c with
      | none =>
        have cH := Lib.hid (Hex02_none hv w)
        have HO : Hid (o = none) := by show _ = _; rw [hN2.out, hv]
        clear hv hN2
        go_wp2_with fail
        refine cH.out.mono ?_
        rintro e w1 ⟨rfl, rfl⟩
        go_wp2_with fail
        go_ret2
        rw [HO.out]
        exact ⟨rfl, rfl⟩
      | some d =>
        have cH := Lib.hid (Hex02_some hv w)
        have hd := Lz.hexV_lt16 c d hv
        by_cases hbd : b ≤ d
        · have HO : Hid (o = none) := by show _ = _; rw [hN2.out, hv]; exact if_pos hbd
          have hbdI : (b : Int) ≤ (d : Int) := by omega
          clear hv hN2
          go_wp2_with fail
          refine cH.out.mono ?_
          rintro e w1 ⟨rfl, rfl⟩
          go_wp2_with fail
          go_ret2
          rw [HO.out]
          exact ⟨rfl, rfl⟩
        · have HN : Hid (o = Lz.numF b (min (m * b + d) 1099511627776) (s.data.toList.drop (k + 1))) := by show _ = _; rw [hN2.out, hv]; exact if_neg hbd
          have hbdI : ¬ (b : Int) ≤ (d : Int) := by omega
          obtain ⟨mb, hmb⟩ : ∃ mb, mb = m * b := ⟨_, rfl⟩
          have hmbl : mb ≤ 1099511627776 * 16 := by rw [hmb]; exact Nat.mul_le_mul hm hb
          have hmbI : (m : Int) * (b : Int) = (mb : Int) := by rw [hmb]; simp
          have hw1 : IntKind.i64.wrap (mb : Int) = (mb : Int) := IntWalk.i64_in _ (by omega)
          have hw2 : IntKind.i64.wrap ((mb : Int) + (d : Int)) = (mb : Int) + (d : Int) := IntWalk.i64_in _ (by omega)
          rw [← hmb] at HN
          clear hv hN2 hmb
          go_wp2_with fail
          refine cH.out.mono ?_
          rintro e w1 ⟨rfl, rfl⟩
          go_wp2_with fail
          go_roundw
          case rel =>
            refine ⟨k + 1, min (mb + d) 1099511627776, by go_num, ?_, by omega, Nat.min_le_right _ _, HN, trivial⟩
            go_num
          case measure => simp [intOf]; omega
    · have hltI : ¬ (k : Int) < (s.size : Int) := by omega
      have HO : Hid (o = some m) := by show _ = _; rw [hN.out, List.drop_eq_nil_of_le (by rw [len_of_size]; omega)]; rfl
      go_wp2_with fail
      go_ret2
      rw [HO.out]
      exact ⟨rfl, rfl⟩
end Go.Proofs.YtkaejkjheajaaaaGreatDoor

namespace Go.Proofs.YtkaejkjheajaaaaGreatDoor
open Go.RowKit
attribute [local go_sem ↓] Go.wp_at_zero Go.wp_at_succ
/-- A number, and whether it is one. -/
def RDec (s : List UInt8) (w : World) (e : Ending) (w' : World) : Prop := e = .returned (.tuple #[.int .i64 (((Lz.numF 10 0 s).getD 0 : Nat) : Int), .bool (Lz.decP s).isSome]) ∧ Below w.heap.size w w'

set_option maxHeartbeats 1000000 in
set_option maxRecDepth 100000 in
theorem decimal07_any (s : ByteArray) (hs : s.size ≤ 1048576) (w : World) (hE : EnvH w) : Calls Tryz.prog 41 #[.string s] w (RDec s.data.toList w) := by
  have cD := digits07_any s 10 (by omega) hs w
  obtain ⟨o, ho⟩ : ∃ o, o = Lz.numF 10 0 s.data.toList := ⟨_, rfl⟩
  rw [← ho] at cD
  have Ho := Lib.hid ho
  clear ho
  cases o with
  | none =>
    have CD := Lib.hid (show Calls Tryz.prog 80 #[.string s, .int .i64 10] w (fun e w' => e = .returned (.tuple #[.int .i64 0, .bool false]) ∧ w = w') from cD)
    have HV : Hid (Lz.decP s.data.toList = none) := by show _ = _; unfold Lz.decP; rw [← Ho.out]; rfl
    clear cD
    have hb := Below.refl w.heap.size w
    go_enter Tryz.func41, Tryz.ntmps41
    go_wp2_with fail
    refine CD.out.mono ?_
    rintro e w1 ⟨rfl, rfl⟩
    go_wp2_with fail
    go_ret2
    refine ⟨?_, hb⟩
    rw [← Ho.out, HV.out]; rfl
  | some n =>
    have CD := Lib.hid (show Calls Tryz.prog 80 #[.string s, .int .i64 10] w (fun e w' => e = .returned (.tuple #[.int .i64 (n : Int), .bool true]) ∧ w = w') from cD)
    clear cD
    have hb := Below.refl w.heap.size w
    by_cases h255 : n ≤ 255
    · have h255I : (n : Int) ≤ 255 := by omega
      have h255d := decide_eq_true h255I
      have hn0 : (0 : Int) ≤ (n : Int) := by omega
      obtain ⟨q, hq⟩ : ∃ q : Bool, q = decide (Lib.decDigits n = s.data.toList) := ⟨_, rfl⟩
      have HV : Hid ((Lz.decP s.data.toList).isSome = q) := by
        show _ = _
        unfold Lz.decP
        rw [← Ho.out, hq]
        show (if n ≤ 255 ∧ Lib.decDigits n = s.data.toList then some n else none).isSome = _
        by_cases h : Lib.decDigits n = s.data.toList
        · rw [if_pos ⟨h255, h⟩, decide_eq_true h]; rfl
        · rw [if_neg (fun hh => h hh.2), decide_eq_false h]; rfl
      have Hq := Lib.hid hq
      clear hq
      go_enter Tryz.func41, Tryz.ntmps41
      go_wp2_with fail
      refine CD.out.mono ?_
      rintro e w1 ⟨rfl, rfl⟩
      go_wp2_with fail
      refine (Itoa_h (n : Int) (by omega) (by omega) w hE).mono ?_
      rintro e w2 ⟨t, rfl, ht, hb2⟩
      have hteq : (t.toList == s.toList) = q := by
        rw [Hq.out, Bool.eq_iff_iff, decide_eq_true_eq, beq_iff_eq, Lib.toList_data, Lib.toList_data, ht.out, Lib.itoa_nonneg]
      clear ht
      go_wp2_with fail
      go_ret2
      refine ⟨?_, hb2⟩
      rw [← Ho.out, HV.out]; rfl
    · have h255I : ¬ (n : Int) ≤ 255 := by omega
      have h255d := decide_eq_false h255I
      have HV : Hid (Lz.decP s.data.toList = none) := by
        show _ = _
        unfold Lz.decP
        rw [← Ho.out]
        exact if_neg (fun h => h255 h.1)
      go_enter Tryz.func41, Tryz.ntmps41
      go_wp2_with fail
      refine CD.out.mono ?_
      rintro e w1 ⟨rfl, rfl⟩
      go_wp2_with fail
      go_ret2
      refine ⟨?_, hb⟩
      rw [← Ho.out, HV.out]; rfl
end Go.Proofs.YtkaejkjheajaaaaGreatDoor

namespace Lz
open Go
theorem splitC_ht (k : UInt8) (l : Bs) : ∃ h t, splitC k l = h :: t := by
  cases l with
  | nil => exact ⟨[], [], rfl⟩
  | cons b r =>
    simp only [splitC]
    split
    · exact ⟨_, _, rfl⟩
    · split
      · exact ⟨_, _, rfl⟩
      · exact ⟨_, _, rfl⟩
/-- One byte more: a new text begins, or the last one grows. -/
theorem splitC_snoc (k c : UInt8) : ∀ p : Bs, splitC k (p ++ [c]) = if c == k then splitC k p ++ [[]] else (splitC k p).dropLast ++ [(splitC k p).getLastD [] ++ [c]]
  | [] => by
    show splitC k [c] = _
    simp only [splitC]
    split <;> rfl
  | b :: l => by
    have ih := splitC_snoc k c l
    obtain ⟨h, t, e⟩ := splitC_ht k l
    rw [e] at ih
    show splitC k (b :: (l ++ [c])) = _
    by_cases hb : (b == k) = true
    · rw [splitC, if_pos hb, ih, splitC, if_pos hb, e]
      split
      · rfl
      · cases t <;> rfl
    · rw [splitC, if_neg hb, ih, splitC, if_neg hb, e]
      by_cases hc : (c == k) = true
      · rw [if_pos hc, if_pos hc]; rfl
      · rw [if_neg hc, if_neg hc]
        cases t <;> rfl
theorem set_last {xs : List ByteArray} {m : Nat} {y z : ByteArray} {c : UInt8} (hm : xs.length = m + 1) (hy : xs[m]? = some y) (hz : z.data.toList = y.data.toList ++ [c]) :
    (xs.set m z).map (·.data.toList) = (xs.map (·.data.toList)).dropLast ++ [(xs.map (·.data.toList)).getLastD [] ++ [c]] := by
  rcases List.eq_nil_or_concat xs with rfl | ⟨r, x, rfl⟩
  · simp at hm
  · rw [List.concat_eq_append] at hm hy ⊢
    have hr : m = r.length := by simp at hm; omega
    subst hr
    have hx : x = y := by simpa using hy
    subst hx
    simp [hz]
end Lz
namespace Go.Proofs.YtkaejkjheajaaaaGreatDoor
open Go.RowKit
attribute [local go_sem ↓] Go.wp_at_zero Go.wp_at_succ
theorem extract_one {s : ByteArray} {j : Nat} (h : j < s.size) : (s.extract j (j + 1)).data.toList = [s[j]] := by
  have hg := get_of_lt h
  have hl : j < s.data.toList.length := h
  rw [Lib.extract_data, show j + 1 - j = 1 by omega, List.drop_eq_getElem_cons hl]
  rw [List.getElem?_eq_getElem hl] at hg
  rw [Option.some.inj hg]
  rfl
/-- Texts in a row of their own. -/
def RCut (l : List (List UInt8)) (w : World) (e : Ending) (w' : World) : Prop :=
  ∃ (v : Value) (xs : List ByteArray), e = .returned v ∧ Hid (xs.map (·.data.toList) = l) ∧ w'.ownsRow w.heap.size 9 1 v xs.length (xs.map Value.string) ∧ Below w.heap.size w w'

set_option maxHeartbeats 1000000 in
set_option maxRecDepth 100000 in
theorem Cut07_any (s : ByteArray) (k : UInt8) (hs : s.size ≤ 1000000) (w : World) : Calls Tryz.prog 40 #[.string s, .int .u8 (k.toNat : Int)] w (RCut (Lz.splitC k s.data.toList) w) := by
  obtain ⟨i0, hi, hz0, hz1, hz2⟩ := info_parts infoStr
  have hkb := byte_lt k
  have h0 : (w.alloc (.cells #[.string ⟨#[]⟩] 9)).ownsRow w.heap.size 9 1 (.slice (some ⟨w.heap.size, 0, none⟩) 1 1) 1 (([⟨#[]⟩] : List ByteArray).map Value.string) :=
    World.ownsRow_lit w #[.string ⟨#[]⟩] 1 (Nat.le_refl _) (by unfold maxLen; omega) rfl
  have hb0 : Below w.heap.size w (w.alloc (.cells #[.string ⟨#[]⟩] 9)) := (Below.refl _ w).alloc (Nat.le_refl _) _
  have H0 := Lib.hid h0
  have HB0 := Lib.hid hb0
  clear h0 hb0
  go_enter Tryz.func40, Tryz.ntmps40
  go_wp2_with fail
  go_loopw [5, 6] (fun v i wr => ∃ (j : Nat) (xs : List ByteArray), j ≤ s.size ∧ i = .int .i64 j ∧ Hid (xs.map (·.data.toList) = Lz.splitC k (s.data.toList.take j)) ∧ wr.ownsRow w.heap.size 9 1 v xs.length (xs.map Value.string) ∧ xs.length ≤ j + 1 ∧ (∀ x ∈ xs, x.size ≤ j) ∧ Below w.heap.size w wr) (fun _ i _ => s.size - (intOf i).toNat)
  case atStart => exact ⟨0, [⟨#[]⟩], Nat.zero_le _, rfl, Lib.hid rfl, H0.out, Nat.le_refl _, by intro x hx; rw [List.mem_singleton.1 hx]; exact Nat.le_refl _, HB0.out⟩
  case round =>
    obtain ⟨j, xs, hj, rfl, hxs, hown, hxl, hxz, hb⟩ := hrel
    by_cases hlt : j < s.size
    · have hltI : (j : Int) < (s.size : Int) := by omega
      have hj0 : (0 : Int) ≤ (j : Int) := by omega
      obtain ⟨c, hc⟩ : ∃ c, c = s[j] := ⟨_, rfl⟩
      have hcI : (s[j].toNat : Int) = (c.toNat : Int) := by rw [hc]
      have hst := Lz.splitC_snoc k c (s.data.toList.take j)
      have htk : s.data.toList.take (j + 1) = s.data.toList.take j ++ [c] := by rw [List.take_add_one, get_of_lt hlt, ← hc]; rfl
      rw [← htk, ← hxs.out] at hst
      have Hst := Lib.hid hst
      have hck := beqI c k
      have Hown := Lib.hid hown
      have Hxz := Lib.hid hxz
      have hsz := hb.size
      have Hc := Lib.hid hc
      clear hc htk hst hown hxz
      cases hq : (c == k)
      · rw [hq] at hck
        have HN := Lib.hid hq
        clear hq
        have HN2 : Hid (Lz.splitC k (s.data.toList.take (j + 1)) = (xs.map (·.data.toList)).dropLast ++ [(xs.map (·.data.toList)).getLastD [] ++ [c]]) := by
          show _ = _
          rw [Hst.out, HN.out, if_neg (by decide)]
        obtain ⟨m, hm⟩ : ∃ m, xs.length = m + 1 := by
          obtain ⟨h', t, e⟩ := Lz.splitC_ht k (s.data.toList.take j)
          have h := congrArg List.length hxs.out
          rw [e, List.length_map, List.length_cons] at h
          exact ⟨_, h⟩
        obtain ⟨y, hy⟩ : ∃ y, xs[m]? = some y := ⟨_, List.getElem?_eq_getElem (by omega)⟩
        have hyz := Hxz.out y (List.mem_of_getElem? hy)
        obtain ⟨g, cap, rfl⟩ : ∃ g cap, u5 = .slice (some ⟨g, 0, none⟩) xs.length cap := by
          rcases Hown.out.2 with ⟨_, h0⟩ | ⟨g, cap, cur, h, _⟩
          · omega
          · exact ⟨g, cap, h⟩
        have hcell : wr.cell? ⟨g, m, none⟩ = some (.string y) := by
          rw [Hown.out.cellAt m (by omega), List.getElem?_map, hy]; rfl
        have hcD : wr.drew.cell? ⟨g, m, none⟩ = some (.string y) := hcell
        have hfr : wr.drew.frozen? ⟨g, m, none⟩ = false := Hown.out.frozenAt m
        have hset := (Hown.out.drew.stored m (.string (y ++ s.extract j (j + 1)))).1
        rw [← List.map_set] at hset
        have hgl := (Hown.out.lt g rfl).1
        have hzs : (y ++ s.extract j (j + 1)).size ≤ j + 1 := by rw [← len_of_size, append_data', extract_one hlt]; simp; omega
        have hxset : Hid ((xs.set m (y ++ s.extract j (j + 1))).map (·.data.toList) = Lz.splitC k (s.data.toList.take (j + 1))) := by
          show _ = _
          rw [HN2.out]
          exact Lz.set_last hm hy (by rw [append_data', extract_one hlt, ← Hc.out])
        have Hset := Lib.hid hset
        have hw1 : IntKind.i64.wrap ((xs.length : Int) - 1) = (m : Int) := by rw [show (xs.length : Int) - 1 = (m : Int) by omega]; exact IntWalk.i64_in _ (by omega)
        have hm0 : (0 : Int) ≤ (m : Int) := by omega
        have hmn : (m : Int) < (xs.length : Int) := by omega
        have hno : ¬ (9223372036854775807 < y.size + (min (j + 1) s.size - j)) := by omega
        have hw2 : IntKind.i64.wrap ((j : Int) + 1) = (j : Int) + 1 := IntWalk.i64_in _ (by omega)
        have hj1 : (j : Int) + 1 ≤ (s.size : Int) := by omega
        have hj2 : (j : Int) ≤ (j : Int) + 1 := by omega
        have hj3 : (0 : Int) ≤ (j : Int) + 1 := by omega
        have Hm := Lib.hid hm
        have Hy := Lib.hid hy
        clear hset HN2 hm hy hxs hcell
        go_upto_region 7 with fail
        go_still_tail 17, (by kernel_rfl)
        change wpList _ _ _ _ _ wr.drew
        have hbD := hb.drew
        generalize wr.drew = w2 at hcD hfr Hset hbD ⊢
        generalize y ++ s.extract j (j + 1) = z at hxset Hset hzs ⊢
        go_wp2_with fail
        go_roundw
        case rel =>
          refine ⟨j + 1, xs.set m z, by omega, by go_num, hxset.out, ?_, by simp; omega, ?_, hbD.setCell hgl _⟩
          · have := Hset.out
            rwa [List.length_set]
          · intro x hx
            rcases List.mem_or_eq_of_mem_set hx with h | h
            · exact Nat.le_succ_of_le (Hxz.out x h)
            · rw [h]; exact hzs
        case measure => simp [intOf]; omega
      · rw [hq] at hck
        have HN : Hid (Lz.splitC k (s.data.toList.take (j + 1)) = (xs ++ [(⟨#[]⟩ : ByteArray)]).map (fun x : ByteArray => x.data.toList)) := by
          show _ = _
          rw [Hst.out, hq, if_pos rfl, List.map_append]; rfl
        clear hq
        have hst2 : xs.map Value.string ++ [Value.string ⟨#[]⟩] = (xs ++ [(⟨#[]⟩ : ByteArray)]).map Value.string := by simp
        have Hst2 := Lib.hid hst2
        clear hst2
        go_wp2_with (at_builtin; refine wpList_append_own _ rfl (.tmp 19) (.tmp 20) 35 rfl w.heap.size 9 i0 (.string ⟨#[]⟩) 1 16 Tryz.underlying35 hi hz0 hz1 hz2 rfl (by decide) _ _ _ rfl (Hown.out.alloc _) ⟨wr.heap.size, 0, none⟩ 1 1 [.string ⟨#[]⟩] rfl rfl (cell_one _ _ _) (by simp [Value.oneCell']) (by unfold maxLen; omega) (by omega) (by simp; omega) ?_)
        intro v' w3 hown' hgrow _
        have hb3 := Below.grown1 hb Hown.out hgrow hsz (Nat.le_refl _)
        rw [Hst2.out] at hown'
        have Hown3 := Lib.hid hown'
        clear hown' hgrow
        go_wp2
        go_roundw
        case rel =>
          refine ⟨j + 1, xs ++ [⟨#[]⟩], by omega, by go_num, by show _ = _; rw [HN.out], ?_, ?_, ?_, hb3⟩
          · have := Hown3.out
            rwa [show (xs ++ [(⟨#[]⟩ : ByteArray)]).length = xs.length + 1 by simp]
          · simp; omega
          · intro x hx
            rcases List.mem_append.1 hx with h | h
            · exact Nat.le_succ_of_le (Hxz.out x h)
            · rw [List.mem_singleton.1 h]; exact Nat.zero_le _
        case measure => simp [intOf]; omega
    · have hjl : j = s.size := by omega
      have hltI : ¬ (j : Int) < (s.size : Int) := by omega
      have HX : Hid (xs.map (·.data.toList) = Lz.splitC k s.data.toList) := by
        show _ = _
        rw [hxs.out, List.take_of_length_le (by rw [len_of_size]; omega)]
      have Hown := Lib.hid hown
      clear hown hjl hlt hxs
      go_wp2_with fail
      go_ret
      exact ⟨_, xs, rfl, HX, Hown.out, hb⟩
end Go.Proofs.YtkaejkjheajaaaaGreatDoor

namespace Go.Proofs.YtkaejkjheajaaaaGreatDoor
open Go.RowKit
attribute [local go_sem ↓] Go.wp_at_zero Go.wp_at_succ
theorem own_weaken {w : World} {base base' : Nat} {e : TypeId} {size n : Nat} {v : Value} {xs : List Value} (h : w.ownsRow base e size v n xs) (hb : base' ≤ base) : w.ownsRow base' e size v n xs :=
  ⟨h.1, h.2.imp id (fun ⟨g, cap, cur, a, b, c⟩ => ⟨g, cap, cur, a, Nat.le_trans hb b, c⟩)⟩
/-- Numbers as cells. -/
def intn (l : List Nat) : List Value := l.map fun n : Nat => Value.int .i64 (n : Int)
theorem intn_snoc (l : List Nat) (n : Nat) : intn l ++ [.int .i64 (n : Int)] = intn (l ++ [n]) := by simp [intn]
theorem infoI64 : (Tryz.prog.info? 3).map (fun i => (i.zero, i.size, i.bytes)) = some (some (.int .i64 0), 1, 8) := by kernel_rfl
/-- Block b's first cells are these numbers, and may be written. -/
def IntRow (w : World) (b : Nat) (l : List Nat) : Prop := ∀ (j n : Nat), l[j]? = some n → w.cell? ⟨b, j, none⟩ = some (.int .i64 (n : Int)) ∧ w.frozen? ⟨b, j, none⟩ = false
theorem IntRow.set {w : World} {b : Nat} {l : List Nat} (h : IntRow w b l) (k : Nat) (c : Nat) : IntRow (w.setCell ⟨b, k, none⟩ (.int .i64 (c : Int))) b (l.set k c) := by
  intro j d hd
  rw [List.getElem?_set] at hd
  by_cases hjk : k = j
  · subst hjk
    rw [if_pos rfl] at hd
    split at hd
    · rename_i hlt
      obtain ⟨h1, h2⟩ := h k _ (List.getElem?_eq_getElem hlt)
      obtain rfl := Option.some.inj hd
      refine ⟨?_, ?_⟩
      · exact World.cell?_setCell_same _ _ _ h1
      · rw [World.frozen?_setCell]; exact h2
    · cases hd
  · rw [if_neg hjk] at hd
    obtain ⟨h1, h2⟩ := h j d hd
    refine ⟨?_, ?_⟩
    · rw [World.cell?_setCell_other _ _ _ _ (by intro e; injection e with _ e2 _; exact hjk e2)]; exact h1
    · rw [World.frozen?_setCell]; exact h2
theorem IntRow.below {w w' : World} {b B : Nat} {l : List Nat} (h : IntRow w b l) (hb : Below B w w') (hB : b < B) : IntRow w' b l := by
  intro j n hj
  obtain ⟨h1, h2⟩ := h j n hj
  exact ⟨(hb.cell (p := ⟨b, j, none⟩) hB).trans h1, (hb.frozen (p := ⟨b, j, none⟩) hB).trans h2⟩
theorem intRow_zero (w : World) (T : TypeId) : IntRow (w.alloc (.cells #[.int .i64 0, .int .i64 0, .int .i64 0, .int .i64 0] T)) w.heap.size [0, 0, 0, 0] := by
  intro j n h
  have hz : (#[.int .i64 0, .int .i64 0, .int .i64 0, .int .i64 0] : Array Value) = (intn [0, 0, 0, 0]).toArray := rfl
  have hj : j < 4 := (List.getElem?_eq_some_iff.1 h).1
  refine ⟨?_, ?_⟩
  · rw [World.cell?_alloc_mark, hz]
    simp only [intn, List.getElem?_toArray, List.getElem?_map, h, Option.map_some]
  · have hb : (w.alloc (.cells #[.int .i64 0, .int .i64 0, .int .i64 0, .int .i64 0] T)).heap[w.heap.size]? = some (.cells #[.int .i64 0, .int .i64 0, .int .i64 0, .int .i64 0] T) := by
      show (w.heap.push _)[w.heap.size]? = _
      simp
    simp only [World.frozen?, hb]
    simp
theorem decimal07_none {y : ByteArray} (hs : y.size ≤ 1048576) (h : Lz.decP y.data.toList = none) (w : World) (hE : EnvH w) : Calls Tryz.prog 41 #[.string y] w fun e w' => (∃ z : Nat, e = .returned (.tuple #[.int .i64 (z : Int), .bool false])) ∧ Below w.heap.size w w' := by
  refine (decimal07_any y hs w hE).mono ?_
  rintro e w' ⟨rfl, hb⟩
  refine ⟨⟨(Lz.numF 10 0 y.data.toList).getD 0, ?_⟩, hb⟩
  rw [h]; rfl
theorem decimal07_some {y : ByteArray} {n : Nat} (hs : y.size ≤ 1048576) (h : Lz.decP y.data.toList = some n) (w : World) (hE : EnvH w) : Calls Tryz.prog 41 #[.string y] w fun e w' => e = .returned (.tuple #[.int .i64 (n : Int), .bool true]) ∧ Below w.heap.size w w' := by
  refine (decimal07_any y hs w hE).mono ?_
  rintro e w' ⟨rfl, hb⟩
  refine ⟨?_, hb⟩
  have h2 : Lz.numF 10 0 y.data.toList = some n := by
    unfold Lz.decP at h
    rw [Option.bind_eq_some_iff] at h
    obtain ⟨m, hm, hh⟩ := h
    split at hh
    · rw [hm, Option.some.inj hh]
    · cases hh
  rw [h, h2]; rfl
theorem cell_two' (w : World) (v v2 : Value) (T : TypeId) (j : Nat) (u : Value) (h : [v, v2][j]? = some u) : (w.alloc (.cells #[v, v2] T)).cell? ((⟨w.heap.size, 0, none⟩ : Addr).add j) = some u := by
  rw [addr_add, World.cell?_alloc_mark]
  simpa using h
theorem set_next (vs : List Nat) (k n : Nat) (hk : k < 4) (hv : vs.length = k) : (vs ++ List.replicate (4 - k) 0).set k n = (vs ++ [n]) ++ List.replicate (4 - (k + 1)) 0 := by
  rw [show 4 - k = (4 - (k + 1)) + 1 by omega, List.replicate_succ, List.set_append_right _ _ (by omega), hv, Nat.sub_self, List.set_cons_zero, List.append_assoc]
  rfl
/-- The pieces, in a row of their own, or none. -/
def RPcs (o : Option (List Nat)) (w : World) (e : Ending) (w' : World) : Prop :=
  ∃ v, e = .returned (.tuple #[v, .bool o.isSome]) ∧ w'.ownsRow w.heap.size 3 1 v (o.getD []).length (intn (o.getD [])) ∧ Below w.heap.size w w'
theorem rpcs_fail {w wx : World} (hb : Below w.heap.size w wx) : RPcs none w (.returned (.tuple #[.slice none 0 0, .bool false])) wx :=
  ⟨_, rfl, World.ownsRow_nil wx w.heap.size 3 1, hb⟩

set_option maxHeartbeats 2000000 in
set_option maxRecDepth 100000 in
theorem pieces07_any (s : ByteArray) (last : Bool) (hs : s.size ≤ 100000) (w : World) (hE : EnvH w) : Calls Tryz.prog 127 #[.string s, .bool last] w (RPcs (Lz.rowSR s.data.toList last) w) := by
  obtain ⟨i0, hi, hz0, hz1, hz2⟩ := info_parts infoI64
  by_cases hz : s.size = 0
  · have he := isEmpty_of_size hz
    have HS : Hid (Lz.rowSR s.data.toList last = some []) := by
      show _ = _
      unfold Lz.rowSR
      rw [if_pos (List.length_eq_zero_iff.1 (show s.data.toList.length = 0 by rw [len_of_size]; exact hz))]
    go_enter Tryz.func127, Tryz.ntmps127
    go_wp2
    go_ret2
    rw [HS.out]
    exact ⟨_, rfl, World.ownsRow_nil w w.heap.size 3 1, Below.refl _ _⟩
  · have he := isEmpty_of_pos (s := s) (by omega)
    have HS : Hid (Lz.rowSR s.data.toList last = Lz.rowR last (Lz.splitC 58 s.data.toList)) := by
      show _ = _
      unfold Lz.rowSR
      rw [if_neg]
      intro h; exact hz (by rw [← len_of_size, h]; rfl)
    have cS := Lib.hid (Cut07_any s 58 (by omega) w)
    go_enter Tryz.func127, Tryz.ntmps127
    go_wp2_with fail
    refine (cS.out).mono ?_
    rintro e w1 ⟨v1, xs, rfl, hxs, hown1, hb1⟩
    have hlen : xs.length ≤ s.size + 1 := by
      have h := Lz.splitC_len 58 s.data.toList
      rw [← hxs.out, List.length_map, len_of_size] at h
      omega
    have hlen1 : 1 ≤ xs.length := by
      obtain ⟨h', t, e⟩ := Lz.splitC_ht 58 s.data.toList
      have h := congrArg List.length hxs.out
      rw [e, List.length_map, List.length_cons] at h
      omega
    obtain ⟨b1, cap1, rfl, hcap1, hT⟩ := texts_own hown1 hlen1
    have hsz : ∀ x, x ∈ xs → x.size ≤ s.size := fun x hx => piece_size hxs.out hx
    have HT := Lib.hid hT
    have Hsz := Lib.hid hsz
    have hB : Hid (Lz.rowSR s.data.toList last = Lz.rowR last (xs.map (·.data.toList))) := by
      show _ = _
      rw [HS.out, hxs.out]
    have hbs1 := hb1.size
    clear cS hT hsz HS hxs he hown1
    have hst := World.ownsRow_nil w1 w1.heap.size 3 1
    go_wp2_with fail
    go_loopw [6, 8] (fun a i wr => ∃ (j : Nat) (ls : List Nat), j ≤ xs.length ∧ i = .int .i64 j ∧ ls.length = j ∧ Hid (Lz.rowR last (xs.map (·.data.toList)) = (Lz.rowR last ((xs.drop j).map (·.data.toList))).map (ls ++ ·)) ∧ wr.ownsRow w1.heap.size 3 1 a j (intn ls) ∧ Below w1.heap.size w1 wr) (fun _ i _ => xs.length - (intOf i).toNat)
    case atStart => exact ⟨0, [], Nat.zero_le _, rfl, rfl, by show _ = _; simp, hst, Below.refl _ w1⟩
    case round =>
      clear hst
      obtain ⟨j, ls, hj, rfl, hlj, hF, hown, hb⟩ := hrel
      have hbw := below_call hb1 hb
      have hsz := hb.size
      have Hown := Lib.hid hown
      by_cases hlt : j < xs.length
      · obtain ⟨x, hx⟩ : ∃ x, xs[j]? = some x := ⟨_, List.getElem?_eq_getElem hlt⟩
        have hcx := (HT.out.below hb).cells _ _ hx
        have hxz := Hsz.out x (List.mem_of_getElem? hx)
        have hdrop : xs.drop j = x :: xs.drop (j + 1) := by
          rw [List.drop_eq_getElem_cons hlt]
          congr 1
          have := List.getElem?_eq_getElem hlt
          rw [hx] at this; exact (Option.some.inj this).symm
        have cX := Lib.hid (Cut07_any x 46 (by omega) wr)
        have hmap : (xs.drop j).map (·.data.toList) = x.data.toList :: (xs.drop (j + 1)).map (·.data.toList) := by rw [hdrop]; rfl
        have hemp : ((xs.drop (j + 1)).map (·.data.toList)).isEmpty = decide (j + 1 = xs.length) := by
          rw [Bool.eq_iff_iff, List.isEmpty_iff, List.map_eq_nil_iff, List.drop_eq_nil_iff, decide_eq_true_eq]; omega
        rw [hmap] at hF
        have Hemp := Lib.hid hemp
        clear hx hdrop hown hmap hemp
        go_wp2_with fail
        refine (cX.out).mono ?_
        rintro e w2 ⟨v2, ys, rfl, hys, hown2, hb2⟩
        have hyl1 : 1 ≤ ys.length := by
          obtain ⟨h', t, e⟩ := Lz.splitC_ht 46 x.data.toList
          have h := congrArg List.length hys.out
          rw [e, List.length_map, List.length_cons] at h
          omega
        obtain ⟨b2, cap2, rfl, hcap2, hT2⟩ := texts_own hown2 hyl1
        have hysz : ∀ y, y ∈ ys → y.size ≤ x.size := fun y hy => piece_size hys.out hy
        have HT2 := Lib.hid hT2
        have Hysz := Lib.hid hysz
        have hb12 : Below w1.heap.size w1 w2 := below_call hb hb2
        have hbw2 := below_call hb1 hb12
        have Hown2 := Lib.hid (own_below Hown.out hb2)
        have hcx2 : w2.cell? ⟨b1, j, none⟩ = some (.string x) := by rw [hb2.cell (p := ⟨b1, j, none⟩) (World.block_lt_of_cell? _ _ hcx)]; exact hcx
        have hsz2 := hb12.size
        have hbsz2 := hbw2.size
        obtain ⟨q, hq⟩ : ∃ q, q = (last && decide (j + 1 = xs.length) && (ys.length == 4)) := ⟨_, rfl⟩
        have hq2 : Hid ((last && ((xs.drop (j + 1)).map (·.data.toList)).isEmpty && (Lz.splitC 46 x.data.toList).length == 4) = q) := by
          show _ = _
          rw [Hemp.out, hq, ← hys.out, List.length_map]
        have Hq := Lib.hid hq
        clear hT2 hysz hown2 cX hq Hemp hb2 hcx Hown hsz hbw
        go_upto_region 9 with fail
        go_cut [43] (fun s43 wx => s43 = .bool q ∧ w2 = wx)
        case first =>
          cases last
          · have HQ : Hid (q = false) := by show _ = _; rw [Hq.out]; rfl
            go_wp2_with fail
            go_meet
            exact ⟨by rw [HQ.out], rfl⟩
          · by_cases hjn : j + 1 = xs.length
            · have hjb : ((j : Int) == (xs.length : Int) - 1) = true := by simp; omega
              have HQ : Hid (q = (ys.length == 4)) := by show _ = _; rw [Hq.out, decide_eq_true hjn]; rfl
              have h4 : ((ys.length : Int) == 4) = (ys.length == 4) := by rw [Bool.eq_iff_iff]; simp; omega
              go_wp2_with fail
              go_meet
              exact ⟨by rw [HQ.out], rfl⟩
            · have hjb : ((j : Int) == (xs.length : Int) - 1) = false := by simp; omega
              have HQ : Hid (q = false) := by show _ = _; rw [Hq.out, decide_eq_false hjn]; simp
              go_wp2_with fail
              go_meet
              exact ⟨by rw [HQ.out], rfl⟩
        case rest =>
          obtain ⟨rfl, rfl⟩ := hcut
          cases q
          · have hcons := Lz.rowR_one hq2.out
            obtain ⟨o, ho⟩ : ∃ o, o = Lz.numF 16 0 x.data.toList := ⟨_, rfl⟩
            have hpc : Lz.pieceR x.data.toList = if x.size = 0 ∨ 4 < x.size then none else o := by
              unfold Lz.pieceR
              rw [ho, len_of_size]
              have : (x.data.toList = []) ↔ x.size = 0 := by rw [← len_of_size, List.length_eq_zero_iff]
              simp only [this]
            rw [hpc] at hcons
            have hcons2 : Hid (Lz.rowSR s.data.toList last = (match (if x.size = 0 ∨ 4 < x.size then none else o) with | none => none | some n => (Lz.rowR last ((xs.drop (j + 1)).map (fun x : ByteArray => x.data.toList))).map (n :: ·)).map (ls ++ ·)) := by
              show _ = _
              (rw [hB.out, hF.out, hcons]) <;> (generalize (if x.size = 0 ∨ 4 < x.size then none else o) = oo; cases oo <;> rfl)
            have hF2 : Hid (Lz.rowR last (xs.map (·.data.toList)) = (match (if x.size = 0 ∨ 4 < x.size then none else o) with | none => none | some n => (Lz.rowR last ((xs.drop (j + 1)).map (fun x : ByteArray => x.data.toList))).map (n :: ·)).map (ls ++ ·)) := by
              show _ = _
              (rw [hF.out, hcons]) <;> (generalize (if x.size = 0 ∨ 4 < x.size then none else o) = oo; cases oo <;> rfl)
            have cD := digits07_any x 16 (by omega) (by omega) w2
            rw [← ho] at cD
            have hol : ∀ n, o = some n → n ≤ 1099511627776 := fun n hn => Lz.numR_le 16 x.data.toList 0 n (by omega) (by rw [← ho]; exact hn)
            have Hol := Lib.hid hol
            clear hcons hpc hq2 Hq ho hF hys hol
            cases o with
            | none =>
              have CD := Lib.hid (show Calls Tryz.prog 80 #[.string x, .int .i64 16] w2 (fun e w' => e = .returned (.tuple #[.int .i64 0, .bool false]) ∧ w2 = w') from cD)
              have HN : Hid (Lz.rowSR s.data.toList last = none) := by
                show _ = _
                rw [hcons2.out, ite_self]; rfl
              clear cD hcons2 hF2
              go_wp2_with fail
              refine CD.out.mono ?_
              rintro e w3 ⟨rfl, rfl⟩
              go_wp2_with fail
              go_ret2
              rw [HN.out]
              exact rpcs_fail hbw2
            | some n =>
              have CD := Lib.hid (show Calls Tryz.prog 80 #[.string x, .int .i64 16] w2 (fun e w' => e = .returned (.tuple #[.int .i64 (n : Int), .bool true]) ∧ w2 = w') from cD)
              clear cD
              by_cases hx0 : x.size = 0 ∨ 4 < x.size
              · have HN : Hid (Lz.rowSR s.data.toList last = none) := by
                  show _ = _
                  rw [hcons2.out, if_pos hx0]; rfl
                clear hcons2 hF2
                rcases hx0 with hx0 | hx0
                · have hx0I : (x.size : Int) < 1 := by omega
                  have Hx0 := Lib.hid hx0
                  clear hx0
                  go_wp2_with fail
                  refine CD.out.mono ?_
                  rintro e w3 ⟨rfl, rfl⟩
                  go_wp2_with fail
                  go_ret2
                  rw [HN.out]
                  exact rpcs_fail hbw2
                · have hx1I : ¬ (x.size : Int) < 1 := by omega
                  have hx0I : 4 < (x.size : Int) := by omega
                  go_wp2_with fail
                  refine CD.out.mono ?_
                  rintro e w3 ⟨rfl, rfl⟩
                  go_wp2_with fail
                  go_ret2
                  rw [HN.out]
                  exact rpcs_fail hbw2
              · have hx1I : ¬ (x.size : Int) < 1 := by omega
                have hx0I : ¬ 4 < (x.size : Int) := by omega
                have hF3 : Hid (Lz.rowR last (xs.map (·.data.toList)) = (Lz.rowR last ((xs.drop (j + 1)).map (·.data.toList))).map ((ls ++ [n]) ++ ·)) := by
                  show _ = _
                  rw [hF2.out, if_neg hx0]
                  simp only
                  cases Lz.rowR last ((xs.drop (j + 1)).map (·.data.toList)) <;> simp
                clear hcons2 hF2 hx0
                go_wp2_with fail
                refine CD.out.mono ?_
                rintro e w3 ⟨rfl, rfl⟩
                go_wp2_with (at_builtin; refine wpList_append_own _ rfl (.tmp 102) (.tmp 104) 36 rfl w1.heap.size 3 i0 (.int .i64 0) 1 8 Tryz.underlying36 hi hz0 hz1 hz2 rfl (by decide) _ _ _ rfl (Hown2.out.alloc _) ⟨w2.heap.size, 0, none⟩ 1 1 [.int .i64 (n : Int)] rfl rfl (cell_one _ _ _) (by simp [Value.oneCell']) (by unfold maxLen; omega) (by omega) (by simp; omega) ?_)
                intro v' w4 hown' hgrow _
                have hb4 : Below w1.heap.size w1 w4 := Below.grown1 hb12 Hown2.out hgrow hsz2 (Nat.le_refl _)
                rw [intn_snoc] at hown'
                have Hown4 := Lib.hid hown'
                clear hown' hgrow
                go_wp2
                go_roundw
                case rel => exact ⟨j + 1, ls ++ [n], by omega, by go_num, by simp [hlj], hF3.out, Hown4.out, hb4⟩
                case measure => simp [intOf]; omega
          · have hcons := Lz.rowR_four hq2.out
            have h4 : ys.length = 4 := by
              have h := Hq.out
              cases hh : (ys.length == 4)
              · rw [hh] at h; simp at h
              · simpa using hh
            have HR : Hid (Lz.rowSR s.data.toList last = (((ys.map (fun y : ByteArray => y.data.toList)).mapM Lz.decP).map fun b => [b.getD 0 0 * 256 + b.getD 1 0, b.getD 2 0 * 256 + b.getD 3 0]).map (ls ++ ·)) := by
              show _ = _
              rw [hB.out, hF.out, hcons, ← hys.out]
            have Hi4 := Lib.hid (intRow_zero w2 185)
            have H4 := Lib.hid h4
            have hx2 := HT2.out.lt
            clear hcons h4 hq2 hys hF hB Hq
            go_wp2_with fail
            go_loopw [11] (fun k wr2 => ∃ (k' : Nat) (vs : List Nat), k' ≤ 4 ∧ k = .int .i64 k' ∧ vs.length = k' ∧ Hid (∀ n ∈ vs, n ≤ 255) ∧ Hid ((ys.map (fun y : ByteArray => y.data.toList)).mapM Lz.decP = (((ys.drop k').map (fun y : ByteArray => y.data.toList)).mapM Lz.decP).map (vs ++ ·)) ∧ IntRow wr2 w2.heap.size (vs ++ List.replicate (4 - k') 0) ∧ Below w2.heap.size w2 wr2) (fun k _ => 4 - (intOf k).toNat)
            case atStart => exact ⟨0, [], Nat.zero_le _, rfl, rfl, Lib.hid (by simp), by show _ = _; simp, Hi4.out, (Below.refl _ w2).alloc (Nat.le_refl _) _⟩
            case round =>
              clear Hi4
              obtain ⟨k', vs, hk', rfl, hvl, hvb, hD, hrow, hb3⟩ := hrel
              have hbw3 := below_call hbw2 hb3
              have hE3 := hE.below hbw3
              by_cases hk4 : k' < 4
              · obtain ⟨y, hy⟩ : ∃ y, ys[k']? = some y := ⟨_, List.getElem?_eq_getElem (by rw [H4.out]; exact hk4)⟩
                have hcy := (HT2.out.below hb3).cells _ _ hy
                have hyz := Hysz.out y (List.mem_of_getElem? hy)
                have hkl : k' < ys.length := by rw [H4.out]; exact hk4
                have hkI : (k' : Int) < 4 := by omega
                have hk0 : (0 : Int) ≤ (k' : Int) := by omega
                have hdrop : ys.drop k' = y :: ys.drop (k' + 1) := by
                  rw [List.drop_eq_getElem_cons hkl]
                  congr 1
                  have := List.getElem?_eq_getElem hkl
                  rw [hy] at this; exact (Option.some.inj this).symm
                rw [hdrop, List.map_cons, Lz.decs_cons] at hD
                cases ho : Lz.decP y.data.toList with
                | none =>
                  have cD := Lib.hid (decimal07_none (y := y) (by omega) ho wr hE3)
                  have HN : Hid (Lz.rowSR s.data.toList last = none) := by
                    show _ = _
                    rw [HR.out, hD.out, ho]; rfl
                  clear ho hD HR hrow hy hdrop
                  go_wp2_with fail
                  refine cD.out.mono ?_
                  rintro e w4 ⟨⟨z, rfl⟩, hb4⟩
                  go_wp2_with fail
                  go_ret2
                  rw [HN.out]
                  exact rpcs_fail (below_call hbw3 hb4)
                | some n =>
                  have cD := Lib.hid (decimal07_some (y := y) (by omega) ho wr hE3)
                  have hn255 := Lz.decP_le ho
                  have hD2 : Hid ((ys.map (fun y : ByteArray => y.data.toList)).mapM Lz.decP = (((ys.drop (k' + 1)).map (fun y : ByteArray => y.data.toList)).mapM Lz.decP).map ((vs ++ [n]) ++ ·)) := by
                    show _ = _
                    rw [hD.out, ho]
                    simp only
                    cases ((ys.drop (k' + 1)).map (fun y : ByteArray => y.data.toList)).mapM Lz.decP <;> simp
                  obtain ⟨hcz, _⟩ := hrow k' 0 (by rw [List.getElem?_append_right (by omega), hvl, Nat.sub_self, show 4 - k' = (4 - (k' + 1)) + 1 by omega, List.replicate_succ]; rfl)
                  have hRl := World.block_lt_of_cell? _ _ hcz
                  have Hrow := Lib.hid hrow
                  clear ho hD hrow hy hdrop hcz
                  go_wp2_with fail
                  refine cD.out.mono ?_
                  rintro e w4 ⟨rfl, hb4⟩
                  have hrow4 := Hrow.out.below hb4 hRl
                  have hb24 : Below w2.heap.size w2 w4 := below_call hb3 hb4
                  obtain ⟨hc4, hf4⟩ := hrow4 k' 0 (by rw [List.getElem?_append_right (by omega), hvl, Nat.sub_self, show 4 - k' = (4 - (k' + 1)) + 1 by omega, List.replicate_succ]; rfl)
                  have hset := hrow4.set k' n
                  rw [set_next vs k' n hk4 hvl] at hset
                  have Hset := Lib.hid hset
                  clear hset hrow4
                  go_wp2_with fail
                  go_roundw
                  case rel =>
                    refine ⟨k' + 1, vs ++ [n], by omega, by go_num, by simp [hvl], Lib.hid ?_, hD2.out, Hset.out, hb24.setCell (Nat.le_refl _) _⟩
                    intro m hm
                    rcases List.mem_append.1 hm with h | h
                    · exact hvb.out m h
                    · rw [List.mem_singleton.1 h]; exact hn255
                  case measure => simp [intOf]; omega
              · have hk4' : k' = 4 := by omega
                have hkI : ¬ (k' : Int) < 4 := by omega
                obtain ⟨a, b, c, d, rfl⟩ := Lz.four_form (hvl.trans hk4')
                have hrow' : IntRow wr w2.heap.size [a, b, c, d] := by
                  have := hrow
                  rw [hk4'] at this
                  simpa using this
                obtain ⟨hca, _⟩ := hrow' 0 a rfl
                obtain ⟨hcb, _⟩ := hrow' 1 b rfl
                obtain ⟨hcc, _⟩ := hrow' 2 c rfl
                obtain ⟨hcd, _⟩ := hrow' 3 d rfl
                have hba := hvb.out a (by simp)
                have hbb := hvb.out b (by simp)
                have hbc := hvb.out c (by simp)
                have hbd := hvb.out d (by simp)
                have HF : Hid (Lz.rowSR s.data.toList last = some (ls ++ [a * 256 + b, c * 256 + d])) := by
                  show _ = _
                  rw [HR.out, hD.out, hk4', List.drop_eq_nil_of_le (by rw [H4.out]; exact Nat.le_refl _)]
                  rfl
                have hm1 : IntKind.i64.wrap ((a : Int) * 256) = (a : Int) * 256 := IntWalk.i64_in _ (by omega)
                have hm2 : IntKind.i64.wrap ((c : Int) * 256) = (c : Int) * 256 := IntWalk.i64_in _ (by omega)
                have hm3 : IntKind.i64.wrap ((a : Int) * 256 + (b : Int)) = ((a * 256 + b : Nat) : Int) := by rw [show (a : Int) * 256 + (b : Int) = ((a * 256 + b : Nat) : Int) by omega]; exact IntWalk.i64_in _ (by omega)
                have hm4 : IntKind.i64.wrap ((c : Int) * 256 + (d : Int)) = ((c * 256 + d : Nat) : Int) := by rw [show (c : Int) * 256 + (d : Int) = ((c * 256 + d : Nat) : Int) by omega]; exact IntWalk.i64_in _ (by omega)
                obtain ⟨z1, hz1'⟩ : ∃ z, z = a * 256 + b := ⟨_, rfl⟩
                obtain ⟨z2, hz2'⟩ : ∃ z, z = c * 256 + d := ⟨_, rfl⟩
                rw [← hz1'] at hm3
                rw [← hz2'] at hm4
                rw [← hz1', ← hz2'] at HF
                have Hown3 := Lib.hid (own_below Hown2.out hb3)
                have hb13 : Below w1.heap.size w1 wr := below_call hb12 hb3
                have hsz3 := hb13.size
                clear hk4' hrow hrow' hD HR hz1' hz2' hvb hvl hk4
                go_wp2_with (at_builtin; refine wpList_append_own _ rfl (.tmp 61) (.tmp 74) 36 rfl w1.heap.size 3 i0 (.int .i64 0) 1 8 Tryz.underlying36 hi hz0 hz1 hz2 rfl (by decide) _ _ _ rfl (Hown3.out.alloc _) ⟨wr.heap.size, 0, none⟩ 2 2 [.int .i64 (z1 : Int), .int .i64 (z2 : Int)] rfl rfl (cell_two' _ _ _ _) (by simp [Value.oneCell']) (by unfold maxLen; omega) (by omega) (by simp; omega) ?_)
                intro v' w4 hown' hgrow _
                have hb4 : Below w1.heap.size w1 w4 := Below.grown1 hb13 Hown3.out hgrow hsz3 (Nat.le_refl _)
                have Hown4 := Lib.hid hown'
                clear hown' hgrow
                go_wp2
                go_ret2
                rw [HF.out]
                refine ⟨_, rfl, ?_, below_call hb1 hb4⟩
                have h5 := own_weaken Hown4.out hbs1
                rw [show intn ls ++ [.int .i64 (z1 : Int), .int .i64 (z2 : Int)] = intn (ls ++ [z1, z2]) by simp [intn], show j + 2 = (ls ++ [z1, z2]).length by simp [hlj]] at h5
                exact h5
      · have hjl : j = xs.length := by omega
        have HR : Hid (Lz.rowSR s.data.toList last = some ls) := by
          show _ = _
          rw [hB.out, hF.out, hjl, List.drop_length]
          simp [Lz.rowR]
        have hlt' : ¬ j < xs.length := hlt
        clear hlt hjl hown hF
        go_wp2
        go_ret2
        rw [HR.out]
        exact ⟨_, rfl, by rw [Option.getD_some, hlj]; exact own_weaken Hown.out hbs1, hbw⟩
end Go.Proofs.YtkaejkjheajaaaaGreatDoor
