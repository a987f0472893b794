/-
  lazaretref07.Parse of a text that begins with [, lazaretref07.IP, and lazaretlaw07.HostsIP.
-/
import Derived.Test.YtkaejkjheajaaaaGreatDoorLRefF
import Derived.Test.YtkaejkjheajaaaaGreatDoorJAny
namespace Lz
open Go
/-- The address in brackets, told. -/
def parO (s : Bs) : Option Bs := if s.length < 2 ∨ s.getLast? ≠ some 93 then none else (sixR ((s.drop 1).dropLast)).map fun a => [91] ++ textP a ++ [93]
theorem ipR_open {s : Bs} (h : s[0]? = some 91) : ipR s = match parO s with | some t => decide (t = s) | none => false := by
  unfold ipR parO
  rw [if_pos h]
  split
  · rfl
  · cases sixR ((s.drop 1).dropLast) <;> rfl
theorem ipR_four {s : Bs} (h : s[0]? ≠ some 91) : ipR s = ip4R s := by
  unfold ipR
  rw [if_neg h]
theorem parO_len {s t : Bs} (h : parO s = some t) (hl : ∀ a, sixR ((s.drop 1).dropLast) = some a → (textP a).length ≤ 1000) : t.length ≤ 1002 := by
  unfold parO at h
  split at h
  · cases h
  · cases e : sixR ((s.drop 1).dropLast) with
    | none => rw [e] at h; cases h
    | some a =>
      rw [e] at h
      obtain rfl := Option.some.inj h
      have := hl a e
      simp; omega
end Lz
namespace Go.Proofs.YtkaejkjheajaaaaGreatDoor
open Go.RowKit
attribute [local go_sem ↓] Go.wp_at_zero Go.wp_at_succ
/-- A text, told, or an error. -/
def RPar7 (o : Option (List UInt8)) (w : World) (e : Ending) (w' : World) : Prop :=
  Below w.heap.size w w' ∧ match o with
    | some t => ∃ u : ByteArray, e = .returned (.tuple #[.string u, .int .i64 0]) ∧ Hid (u.data.toList = t)
    | none => e = .returned (.tuple #[.string ⟨#[]⟩, .int .i64 72])

set_option maxHeartbeats 1000000 in
set_option maxRecDepth 100000 in
theorem Parse07_open (s : ByteArray) (sp : Bool) (hs : s.size ≤ 90000) (h0 : s.data.toList[0]? = some 91) (w : World) (hE : EnvH w) : Calls Tryz.prog 39 #[.string s, .bool sp] w (RPar7 (Lz.parO s.data.toList) w) := by
  have hpos : 0 < s.size := by
    have := (List.getElem?_eq_some_iff.1 h0).1
    exact this
  have hposI : (0 : Int) < (s.size : Int) := by omega
  have hs0 : s[0] = 91 := by
    have := get_of_lt hpos
    rw [h0] at this
    exact (Option.some.inj this).symm
  have hb0 : ((s[0].toNat : Int) == 91) = true := by rw [hs0]; rfl
  have H0 := Lib.hid h0
  have Hs0 := Lib.hid hs0
  clear h0 hs0
  have hbr := Below.refl w.heap.size w
  by_cases h2 : s.size < 2
  · have h2I : (s.size : Int) < 2 := by omega
    have HN : Hid (Lz.parO s.data.toList = none) := by
      show _ = _
      unfold Lz.parO
      rw [if_pos (Or.inl (by rw [len_of_size]; exact h2))]
    go_enter Tryz.func39, Tryz.ntmps39
    go_wp2_with fail
    go_ret2
    rw [HN.out]
    exact ⟨hbr, rfl⟩
  · have h2I : ¬ (s.size : Int) < 2 := by omega
    obtain ⟨n1, hn1⟩ : ∃ n1, n1 = s.size - 1 := ⟨_, rfl⟩
    have hn1l : n1 < s.size := by omega
    have hwn : IntKind.i64.wrap ((s.size : Int) - 1) = (n1 : Int) := by rw [show (s.size : Int) - 1 = (n1 : Int) by omega]; exact IntWalk.i64_in _ (by omega)
    have hn1a : (0 : Int) ≤ (n1 : Int) := by omega
    have hn1b : (n1 : Int) < (s.size : Int) := by omega
    have hn1c : (1 : Int) ≤ (n1 : Int) := by omega
    have hn1d : (n1 : Int) ≤ (s.size : Int) := by omega
    obtain ⟨d, hd⟩ : ∃ d, d = s[n1] := ⟨_, rfl⟩
    have hdI : (s[n1].toNat : Int) = (d.toNat : Int) := by rw [hd]
    have hgl2 : s.data.toList.getLast? = some d := by
      rw [List.getLast?_eq_getElem?, len_of_size, ← hn1, get_of_lt hn1l, hd]
    have hex : (s.extract 1 n1).data.toList = (s.data.toList.drop 1).dropLast := by
      rw [Lib.extract_data, List.dropLast_eq_take, List.length_drop, len_of_size, hn1]
    have Hgl := Lib.hid hgl2
    have Hex := Lib.hid hex
    have Hn1 := Lib.hid hn1
    clear hd hgl2 hex hn1
    have hd93 : ((d.toNat : Int) == 93) = (d == 93) := beqI d 93
    cases hq : (d == 93)
    · have hdn : ((d.toNat : Int) != 93) = true := by
        show (!((d.toNat : Int) == 93)) = _
        rw [hd93, hq]; rfl
      have HN : Hid (Lz.parO s.data.toList = none) := by
        show _ = _
        unfold Lz.parO
        rw [if_pos (Or.inr (by rw [Hgl.out]; intro h; have := Option.some.inj h; rw [this] at hq; cases hq))]
      clear hd93 hq
      go_enter Tryz.func39, Tryz.ntmps39
      go_wp2_with fail
      go_ret2
      rw [HN.out]
      exact ⟨hbr, rfl⟩
    · have hdn : ((d.toNat : Int) != 93) = false := by
        show (!((d.toNat : Int) == 93)) = _
        rw [hd93, hq]; rfl
      have HN : Hid (Lz.parO s.data.toList = (Lz.sixR (s.extract 1 n1).data.toList).map fun a => [91] ++ Lz.textP a ++ [93]) := by
        show _ = _
        unfold Lz.parO
        rw [if_neg, Hex.out]
        rw [Hgl.out, len_of_size]
        rintro (h | h)
        · exact h2 h
        · exact h (by rw [eq_of_beq hq])
      have cS := six07_any (s.extract 1 n1) (by rw [← len_of_size, Lib.extract_data, List.length_take, List.length_drop, len_of_size]; omega) w hE
      have hlen : ∀ a, Lz.sixR (s.extract 1 n1).data.toList = some a → (Lz.textP a).length ≤ 1000 := by
        intro a ha
        rw [Lz.sixR_eq] at ha
        obtain ⟨h8, hl⟩ := Lz.six_ok ha
        have := text_len a h8 hl
        omega
      generalize Lz.sixR (s.extract 1 n1).data.toList = o at cS HN hlen
      have CS := Lib.hid cS
      have Hlen := Lib.hid hlen
      clear cS hlen hd93 hq
      go_enter Tryz.func39, Tryz.ntmps39
      go_wp2_with fail
      refine CS.out.mono ?_
      rintro e w1 ⟨hb, hres⟩
      cases o with
      | none =>
        obtain rfl := hres
        go_wp2_with fail
        go_ret2
        rw [HN.out]
        exact ⟨hb, rfl⟩
      | some a =>
        obtain ⟨u, rfl, hu⟩ := hres
        have huz : u.size ≤ 1000 := by rw [← len_of_size, hu.out]; exact Hlen.out a rfl
        have hno1 : ¬ (9223372036854775807 < 1 + u.size) := by omega
        have hno2 : ¬ (9223372036854775807 < 1 + u.size + 1) := by omega
        go_wp2_with fail
        go_ret2
        rw [HN.out]
        refine ⟨hb, _, rfl, ?_⟩
        show _ = _
        (rw [append_data', append_data', hu.out]) <;> rfl

set_option maxHeartbeats 1000000 in
set_option maxRecDepth 100000 in
theorem IP07_any (s : ByteArray) (hs : s.size ≤ 90000) (w : World) (hE : EnvH w) : Calls Tryz.prog 26 #[.string s] w (RBool (Lz.ipR s.data.toList) w) := by
  by_cases h0 : s.data.toList[0]? = some 91
  · have hpos : 0 < s.size := by
      have := (List.getElem?_eq_some_iff.1 h0).1
      exact this
    have hposI : (0 : Int) < (s.size : Int) := by omega
    have hs0 : s[0] = 91 := by
      have := get_of_lt hpos
      rw [h0] at this
      exact (Option.some.inj this).symm
    have hb0 : ((s[0].toNat : Int) == 91) = true := by rw [hs0]; rfl
    have cP := Parse07_open s true hs h0 w hE
    have hip := Lz.ipR_open h0
    generalize Lz.parO s.data.toList = o at cP hip
    have CP := Lib.hid cP
    have Hip := Lib.hid hip
    have Hs0 := Lib.hid hs0
    clear h0 hs0 cP hip
    go_enter Tryz.func26, Tryz.ntmps26
    go_wp2_with fail
    refine CP.out.mono ?_
    rintro e w1 ⟨hb, hres⟩
    cases o with
    | none =>
      obtain rfl := hres
      go_wp2_with fail
      go_ret
      rw [Hip.out]
      exact ⟨rfl, hb⟩
    | some t =>
      obtain ⟨u, rfl, hu⟩ := hres
      obtain ⟨q, hq⟩ : ∃ q : Bool, q = decide (t = s.data.toList) := ⟨_, rfl⟩
      have hteq : (u.toList == s.toList) = q := by
        rw [hq, Bool.eq_iff_iff, decide_eq_true_eq, beq_iff_eq, Lib.toList_data, Lib.toList_data, hu.out]
      have HV : Hid (Lz.ipR s.data.toList = q) := by show _ = _; rw [Hip.out, hq]
      clear hq hu Hip
      go_wp2_with fail
      go_ret
      rw [HV.out]
      exact ⟨rfl, hb⟩
  · have hip := Lz.ipR_four h0
    have cS := Lib.hid (Cut07_any s 46 (by omega) w)
    have H0 := Lib.hid h0
    have Hip := Lib.hid hip
    clear h0 hip
    go_enter Tryz.func26, Tryz.ntmps26
    go_upto_region 1 with fail
    go_cut [16] (fun c wx => c = .bool false ∧ w = wx)
    case first =>
      by_cases hz : s.size = 0
      · have hzI : ¬ (0 : Int) < (s.size : Int) := by omega
        have Hz := Lib.hid hz
        clear hz
        go_wp2_with fail
        go_meet
        exact ⟨rfl, rfl⟩
      · have hpos : 0 < s.size := by omega
        have hzI : (0 : Int) < (s.size : Int) := by omega
        have hb0 : ((s[0].toNat : Int) == 91) = false := by
          rw [show ((s[0].toNat : Int) == 91) = (s[0] == 91) from beqI s[0] 91, beq_eq_false_iff_ne]
          intro h
          exact H0.out (by rw [get_of_lt hpos, h])
        go_wp2_with fail
        go_meet
        exact ⟨rfl, rfl⟩
    case rest =>
    obtain ⟨rfl, rfl⟩ := hcut
    go_wp2_with fail
    refine cS.out.mono ?_
    rintro e w1 ⟨v1, xs, rfl, hxs, hown1, hb1⟩
    have hlen1 : 1 ≤ xs.length := by
      obtain ⟨h', t, e⟩ := Lz.splitC_ht 46 s.data.toList
      have h := congrArg List.length hxs.out
      rw [e, List.length_map, List.length_cons] at h
      omega
    obtain ⟨b1, cap1, rfl, hcap1, hT⟩ := texts_own hown1 hlen1
    have hsz : ∀ x, x ∈ xs → x.size ≤ s.size := fun x hx => piece_size hxs.out hx
    have hlen : xs.length ≤ s.size + 1 := by
      have h := Lz.splitC_len 46 s.data.toList
      rw [← hxs.out, List.length_map, len_of_size] at h
      omega
    have HT := Lib.hid hT
    have Hsz := Lib.hid hsz
    have hB : Hid (Lz.ipR s.data.toList = ((xs.map (fun x : ByteArray => x.data.toList)).all (fun x => (Lz.decP x).isSome) && (xs.length == 4))) := by
      show _ = _
      rw [Hip.out]
      unfold Lz.ip4R
      rw [← hxs.out, List.length_map]
    have hbs1 := hb1.size
    clear cS hT hsz Hip hxs hown1 H0
    go_wp2_with fail
    go_loopw [6] (fun i wr => ∃ j : Nat, j ≤ xs.length ∧ i = .int .i64 j ∧ Hid ((xs.map (fun x : ByteArray => x.data.toList)).all (fun x => (Lz.decP x).isSome) = ((xs.drop j).map (fun x : ByteArray => x.data.toList)).all (fun x => (Lz.decP x).isSome)) ∧ Below w1.heap.size w1 wr) (fun i _ => xs.length - (intOf i).toNat)
    case atStart => exact ⟨0, Nat.zero_le _, rfl, by show _ = _; rw [List.drop_zero], Below.refl _ w1⟩
    case round =>
      obtain ⟨j, hj, rfl, hF, hb⟩ := hrel
      have hbw := below_call hb1 hb
      by_cases hlt : j < xs.length
      · obtain ⟨x, hx⟩ : ∃ x, xs[j]? = some x := ⟨_, List.getElem?_eq_getElem hlt⟩
        have hcx := (HT.out.below hb).cells _ _ hx
        have hxz := Hsz.out x (List.mem_of_getElem? hx)
        have hdrop : xs.drop j = x :: xs.drop (j + 1) := by
          rw [List.drop_eq_getElem_cons hlt]
          congr 1
          have := List.getElem?_eq_getElem hlt
          rw [hx] at this; exact (Option.some.inj this).symm
        rw [hdrop, List.map_cons, List.all_cons] at hF
        cases ho : Lz.decP x.data.toList with
        | none =>
          have cD := Lib.hid (decimal07_none (y := x) (by omega) ho wr (hE.below hbw))
          have HN : Hid (Lz.ipR s.data.toList = false) := by
            show _ = _
            rw [hB.out, hF.out, ho]; rfl
          clear ho hF hx hdrop hB
          go_wp2_with fail
          refine cD.out.mono ?_
          rintro e w4 ⟨⟨z, rfl⟩, hb4⟩
          go_wp2_with fail
          go_ret
          rw [HN.out]
          exact ⟨rfl, below_call hbw hb4⟩
        | some n =>
          have cD := Lib.hid (decimal07_some (y := x) (by omega) ho wr (hE.below hbw))
          have hF2 : Hid ((xs.map (fun x : ByteArray => x.data.toList)).all (fun x => (Lz.decP x).isSome) = ((xs.drop (j + 1)).map (fun x : ByteArray => x.data.toList)).all (fun x => (Lz.decP x).isSome)) := by
            show _ = _
            rw [hF.out, ho]; rfl
          clear ho hF hx hdrop
          go_wp2_with fail
          refine cD.out.mono ?_
          rintro e w4 ⟨rfl, hb4⟩
          have hb5 := below_call hb hb4
          go_wp2_with fail
          go_roundw
          case rel => exact ⟨j + 1, by omega, by go_num, hF2.out, hb5⟩
          case measure => simp [intOf]; omega
      · have h4 : ((xs.length : Int) == 4) = (xs.length == 4) := by rw [Bool.eq_iff_iff]; simp; omega
        have HV : Hid (Lz.ipR s.data.toList = (xs.length == 4)) := by
          show _ = _
          rw [hB.out, hF.out, show j = xs.length by omega, List.drop_length]
          rfl
        clear hB hF
        go_wp2_with fail
        go_ret
        rw [HV.out]
        exact ⟨by (rw [← h4]) <;> rfl, hbw⟩

set_option maxHeartbeats 1000000 in
set_option maxRecDepth 100000 in
theorem hostsIP_any (s : ByteArray) (w : World) (hE : EnvH w) : Calls Tryz.prog 11 #[.string s] w (RBool true w) := by
  by_cases hbig : 2000 < s.size
  · have hbg : (2000 : Int) < (s.size : Int) := by omega
    go_enter Tryz.func11, Tryz.ntmps11
    go_wp2_with fail
    refine (houses_any _ hE).mono ?_
    rintro e w1 ⟨rfl, hb⟩
    go_wp2
    go_ret
    exact ⟨rfl, hb⟩
  · have hbg : ¬ (2000 : Int) < (s.size : Int) := by omega
    have cA := IP_any s (by omega) w hE
    have cB := fun W hW => IP07_any s (by omega) W hW
    rw [← Lz.ipR_eq] at cA
    generalize Lz.ipR s.data.toList = q at cA cB
    have CA := Lib.hid cA
    have CB := Lib.hid cB
    clear cA cB
    have hqq : (q == q) = true := by simp
    go_enter Tryz.func11, Tryz.ntmps11
    go_wp2_with fail
    refine CA.out.mono ?_
    rintro e w1 ⟨rfl, hb1⟩
    go_wp2_with fail
    refine (CB.out _ (hE.below hb1)).mono ?_
    rintro e w2 ⟨rfl, hb2⟩
    have hb3 := below_call hb1 hb2
    go_wp2_with fail
    refine (houses_any _ (hE.below hb3)).mono ?_
    rintro e w4 ⟨rfl, hb4⟩
    go_wp2_with fail
    go_ret
    exact ⟨rfl, below_call hb3 hb4⟩
end Go.Proofs.YtkaejkjheajaaaaGreatDoor
