/-
  hosts.bytes: four decimal numbers.
  hosts.six.run: the longest run of pieces 0.
  Plain laws on lists of bytes: what is told of an IPv6 address is read as it again. No program in sight.
-/
import Derived.Test.YthijceooebebfaaGreatDoorM07
import Derived.Lib.ParseIntBCases
import Derived.Test.YthijceooebebfaaGreatDoorM06
import Derived.Test.YthijceooebebfaaGreatDoorM03
namespace Go.Proofs.YthijceooebebfaaGreatDoor
open Go.RowKit

/-- What ParseUint of ten and eight tells. -/
def RPu (l : List UInt8) (w : World) (e : Ending) (w' : World) : Prop :=
  Below w.heap.size w w' ∧ ((∃ u, Lib.parseUintB 8 l = .ok u ∧ e = .returned (.tuple #[.int .u64 u, .nilIface])) ∨ ((∀ u, Lib.parseUintB 8 l ≠ .ok u) ∧ ∃ n t p, e = .returned (.tuple #[.int .u64 n, .iface t p])))
theorem ParseUint_c (s : ByteArray) (hs : s.size ≤ 1073741824) (w : World) (hE : EnvH w) : Calls Tryz.prog 223 #[.string s, .int .i64 10, .int .i64 8] w (RPu s.data.toList w) := by
  by_cases ho : ∃ u, Lib.parseUintB 8 s.data.toList = .ok u
  · obtain ⟨u, hu⟩ := ho
    refine (Tryz.strconv_ParseUint_10_at8_ok s (by omega) u hu w).mono fun e w' ⟨he, hw⟩ => ⟨?_, Or.inl ⟨u, hu, he⟩⟩
    rcases hw with rfl | rfl
    · exact Below.refl _ _
    · exact Lib.bytesWorld_below _ _ _
  · have hn : ∀ u, Lib.parseUintB 8 s.data.toList ≠ .ok u := fun u h => ho ⟨u, h⟩
    by_cases hr : Lib.parseUintB 8 s.data.toList = .range
    · obtain ⟨te, pe, hv⟩ := hE.rng
      refine (Tryz.strconv_ParseUint_10_at8_range s (by omega) hr (.iface te pe) w hv (Or.inr ⟨te, pe, rfl⟩)).mono ?_
      rintro e w' ⟨N, he, _, _, hb⟩
      exact ⟨hb, Or.inr ⟨hn, _, _, _, he⟩⟩
    · have hx : Lib.parseUintB 8 s.data.toList = Lib.parseUintB 8 [] := by
        cases h : Lib.parseUintB 8 s.data.toList
        all_goals first | rfl | exact absurd h (hn _) | exact absurd h hr
      obtain ⟨te, pe, hv⟩ := hE.syn
      refine (Tryz.strconv_ParseUint_10_at8_syntax s (by omega) hx (.iface te pe) w hv (Or.inr ⟨te, pe, rfl⟩)).mono ?_
      rintro e w' ⟨N, he, _, _, hb⟩
      exact ⟨hb, Or.inr ⟨hn, _, _, _, he⟩⟩

theorem mapM_snoc_some {f : List UInt8 → Option Nat} {l : List (List UInt8)} {ls : List Nat} {x : List UInt8} {n : Nat} (h : l.mapM f = some ls) (hx : f x = some n) : (l ++ [x]).mapM f = some (ls ++ [n]) := by
  rw [List.mapM_append, h]; simp [hx]
theorem mapM_none {f : List UInt8 → Option Nat} {l : List (List UInt8)} {x : List UInt8} (hm : x ∈ l) (hx : f x = none) : l.mapM f = none := by
  obtain ⟨a, b, rfl⟩ := List.append_of_mem hm
  rw [List.mapM_append, List.mapM_cons, hx]
  cases a.mapM f <;> simp

/-- Numbers as bytes. -/
def u8n (l : List Nat) : List Value := l.map fun n : Nat => Value.int .u8 (n : Int)
theorem u8n_snoc (l : List Nat) (n : Nat) : u8n l ++ [.int .u8 (n : Int)] = u8n (l ++ [n]) := by simp [u8n]

/-- What bytes tells. -/
def RByts (o : Option (List Nat)) (w : World) (e : Ending) (w' : World) : Prop :=
  Below w.heap.size w w' ∧ match o with
    | some l => l.length = 4 ∧ ∃ v base, e = .returned (.tuple #[v, .nilIface]) ∧ w.heap.size ≤ base ∧ w'.ownsRow base 5 1 v 4 (u8n l)
    | none => ∃ v, e = .returned (.tuple #[.slice none 0 0, v]) ∧ Faulty w' 72 1 v
theorem rbyts_fail {w wx : World} {s : ByteArray} {t : TypeId} {fr : Nat × Nat} (hb : Below w.heap.size w wx) :
    RByts none w (.returned (.tuple #[.slice none 0 0, .iface 211 (.pointer (some ⟨wx.heap.size, 0, none⟩))])) (wx.alloc (.cells #[.string s, .iface 28 (.int .i64 72)] t fr)) :=
  ⟨hb.alloc hb.size _, _, rfl, faulty_alloc rfl⟩
theorem parseUint8_le {l : List UInt8} {u : Nat} (h : Lib.parseUintB 8 l = .ok u) : u ≤ 255 := Lib.parseUintB_le h

set_option maxHeartbeats 1000000 in
set_option maxRecDepth 100000 in
theorem bytes_any (s : ByteArray) (hs : s.size ≤ 1048576) (w : World) (hE : EnvH w) : Calls Tryz.prog 211 #[.string s] w (RByts (Lz.bytesP s.data.toList) w) := by
  obtain ⟨i0, hi, hz0, hz1, hz2⟩ := info_parts infoByte
  have cS := Lib.hid (Split_h s 46 (by omega) w hE)
  go_enter Tryz.func211, Tryz.ntmps211
  go_wp2_with fail
  refine (cS.out).mono ?_
  rintro e w1 ⟨xs, rfl, hxs, hw1⟩
  have hlen : xs.length ≤ s.size + 1 := by
    have h := Lz.splitC_len 46 s.data.toList
    rw [← hxs.out, List.length_map, len_of_size] at h
    omega
  have hsz : ∀ x, x ∈ xs → x.size ≤ s.size := fun x hx => piece_size hxs.out hx
  have hb1 : Below w.heap.size w w1 := by rw [hw1.out]; exact (Below.refl _ w).alloc (Nat.le_refl _) _
  have hT : TextsAt w1 w.heap.size xs := by
    refine ⟨by rw [hw1.out]; simp, fun j x hj => ?_⟩
    rw [hw1.out]
    have := World.cell?_alloc_mark w (xs.map Value.string).toArray 9 (0, 0) j
    rw [this]
    simp [hj]
  have HT := Lib.hid hT
  have Hsz := Lib.hid hsz
  have hB : Hid (Lz.bytesP s.data.toList = match (xs.map (·.data.toList)).mapM Lz.byteP with | some l => if l.length = 4 then some l else none | none => none) := by
    show _ = _
    rw [hxs.out]; rfl
  have hbs1 := hb1.size
  clear cS hw1 hT hsz
  have hst := World.ownsRow_nil w1 w1.heap.size 5 1
  go_wp2_with fail
  go_loopw [4, 12] (fun a i wr => ∃ (j : Nat) (ls : List Nat), j ≤ xs.length ∧ i = .int .i64 j ∧ Hid (((xs.take j).map (·.data.toList)).mapM Lz.byteP = some ls) ∧ ls.length = j ∧ wr.ownsRow w1.heap.size 5 1 a j (u8n ls) ∧ Below w1.heap.size w1 wr) (fun _ i _ => xs.length - (intOf i).toNat)
  case atStart => exact ⟨0, [], Nat.zero_le _, rfl, Lib.hid rfl, rfl, hst, Below.refl _ w1⟩
  case round =>
    clear hst
    obtain ⟨j, ls, hj, rfl, hls, hlj, hown, hb⟩ := hrel
    have hbw := below_call hb1 hb
    have hsz := hb.size
    have Hown := Lib.hid hown
    by_cases hlt : j < xs.length
    · obtain ⟨x, hx⟩ : ∃ x, xs[j]? = some x := ⟨_, List.getElem?_eq_getElem hlt⟩
      have hcx := (HT.out.below hb).cells _ _ hx
      have hxz := Hsz.out x (List.mem_of_getElem? hx)
      have hxm : Hid (x.data.toList ∈ xs.map (·.data.toList)) := Lib.hid (List.mem_map_of_mem (List.mem_of_getElem? hx))
      have htk : xs.take (j + 1) = xs.take j ++ [x] := by rw [List.take_add_one, hx]; rfl
      have Htk := Lib.hid htk
      clear htk hx hown
      go_wp2_with fail
      refine (ParseUint_c x (by omega) _ (hE.below hbw)).mono ?_
      rintro e w2 ⟨hb2, ⟨u, hu, rfl⟩ | ⟨hn, n, t, p, rfl⟩⟩
      · have hu8 := parseUint8_le hu
        have Hu := Lib.hid hu
        clear hu
        have hbw2 := below_call hbw hb2
        go_wp2_with fail
        refine (Itoa_h (u : Int) (by omega) (by omega) _ (hE.below hbw2)).mono ?_
        rintro e w3 ⟨d, rfl, hd, hb3⟩
        have hbw3 := below_call hbw2 hb3
        have Hown3 := Lib.hid (own_below (own_below Hown.out hb2) hb3)
        have hbz := hbw3.size
        have hb13 : Below w1.heap.size w1 w3 := below_call (below_call hb hb2) hb3
        have hsz3 := hb13.size
        have hdd : Hid (d.data.toList = Lib.decDigits u) := by show _ = _; rw [hd.out, Lib.itoa_nonneg]
        have hby : Hid (Lz.byteP x.data.toList = if d.toList == x.toList then some u else none) := by
          show _ = _
          have h1 : Lz.byteP x.data.toList = if Lib.decDigits u = x.data.toList then some u else none := by
            unfold Lz.byteP; rw [Hu.out]
          rw [h1, Lib.toList_data, Lib.toList_data, hdd.out]
          by_cases h : Lib.decDigits u = x.data.toList <;> simp [h]
        generalize hq : (d.toList == x.toList) = q at hby
        cases q
        · have HB : Hid (Lz.bytesP s.data.toList = none) := by
            show _ = _
            rw [hB.out, mapM_none hxm.out hby.out]
          go_wp2
          go_ret2
          rw [HB.out]
          exact rbyts_fail hbw3
        · have hls2 : Hid (((xs.take (j + 1)).map (·.data.toList)).mapM Lz.byteP = some (ls ++ [u])) := by
            show _ = _
            rw [Htk.out, List.map_append]
            exact mapM_snoc_some hls.out hby.out
          go_wp2_with (at_builtin; refine wpList_append_own _ rfl (.tmp 34) (.tmp 37) 35 rfl w1.heap.size 5 i0 (.int .u8 0) 1 1 Tryz.underlying35 hi hz0 hz1 hz2 rfl (by decide) _ _ _ rfl (Hown3.out.alloc _) ⟨w3.heap.size, 0, none⟩ 1 1 [.int .u8 (u : Int)] rfl rfl (cell_one _ _ _) (by simp [Value.oneCell']) (by unfold maxLen; omega) (by omega) (by simp; omega) ?_)
          intro v' w4 hown' hgrow _
          have hb4 : Below w1.heap.size w1 w4 := Below.grown1 hb13 Hown3.out hgrow hsz3 (Nat.le_refl _)
          rw [u8n_snoc] at hown'
          have Hown4 := Lib.hid hown'
          clear hown' hgrow
          go_wp2
          go_roundw
          case rel => exact ⟨j + 1, ls ++ [u], by omega, by go_num, hls2.out, by simp [hlj], Hown4.out, hb4⟩
          case measure => simp [intOf]; omega
      · have HB : Hid (Lz.bytesP s.data.toList = none) := by
          show _ = _
          have h1 : Lz.byteP x.data.toList = none := by
            unfold Lz.byteP
            split
            · rename_i n' h; exact absurd h (hn _)
            · rfl
          rw [hB.out, mapM_none hxm.out h1]
        clear hn
        go_wp2
        go_ret2
        rw [HB.out]
        exact rbyts_fail (below_call hbw hb2)
    · have hjl : j = xs.length := by omega
      have hB2 : Hid (Lz.bytesP s.data.toList = if j = 4 then some ls else none) := by
        show _ = _
        have := hls.out
        rw [hjl, List.take_length] at this
        rw [hB.out, this]
        show (if ls.length = 4 then some ls else none) = _
        rw [hlj]
      obtain ⟨a, c, rfl⟩ : ∃ a c, u4 = .slice a j c := by
        rcases hown.2 with ⟨rfl, h0⟩ | ⟨g, cap, cur, rfl, _⟩
        · exact ⟨none, 0, by rw [h0]⟩
        · exact ⟨_, _, rfl⟩
      have Hjl := Lib.hid hjl
      have hlt' : ¬ j < xs.length := hlt
      clear hown hjl hlt
      by_cases h4 : j = 4
      · have HB : Hid (Lz.bytesP s.data.toList = some ls) := by show _ = _; rw [hB2.out, if_pos h4]
        have H4 := Lib.hid h4
        have h4b : ((j : Int) != 4) = false := by rw [h4]; rfl
        clear h4
        go_wp2
        go_ret2
        rw [HB.out]
        refine ⟨hbw, by rw [hlj]; exact H4.out, _, w1.heap.size, rfl, hbs1, ?_⟩
        have := Hown.out
        rw [H4.out] at this ⊢
        exact this
      · have HB : Hid (Lz.bytesP s.data.toList = none) := by show _ = _; rw [hB2.out, if_neg h4]
        have h4b : ((j : Int) != 4) = true := by simp; omega
        clear h4
        go_wp2
        go_ret2
        rw [HB.out]
        exact rbyts_fail hbw
end Go.Proofs.YthijceooebebfaaGreatDoor

namespace Lz
open Go
theorem zeros_zero {l : List Nat} {k : Nat} (h : l[k]? = some 0) : zerosP (l.drop k) = 1 + zerosP (l.drop (k + 1)) := by
  have hk := (List.getElem?_eq_some_iff.1 h).1
  rw [List.drop_eq_getElem_cons hk]
  have : l[k] = 0 := (List.getElem?_eq_some_iff.1 h).2
  rw [this]
  unfold zerosP
  rw [List.takeWhile_cons]
  simp; omega
theorem zeros_non {l : List Nat} {k x : Nat} (h : l[k]? = some x) (hx : x ≠ 0) : zerosP (l.drop k) = 0 := by
  have hk := (List.getElem?_eq_some_iff.1 h).1
  rw [List.drop_eq_getElem_cons hk]
  have : l[k] = x := (List.getElem?_eq_some_iff.1 h).2
  rw [this]
  unfold zerosP
  rw [List.takeWhile_cons]
  simp [hx]
theorem run_step {l : List Nat} {i : Nat} (f : Nat × Nat) (hi : i < l.length) : runP i (l.drop i) f = runP (i + 1) (l.drop (i + 1)) (if max (f.2 - f.1) 1 < zerosP (l.drop i) then (i, i + zerosP (l.drop i)) else f) := by
  rw [List.drop_eq_getElem_cons hi]; rfl
end Lz
namespace Go.Proofs.YthijceooebebfaaGreatDoor
open Go.RowKit

/-- Eight pieces, as cells. -/
def sixV (l : List Nat) : Value := .agg (l.map fun n : Nat => Value.int .u16 (n : Int)).toArray
def RRun (l : List Nat) (w : World) (e : Ending) (w' : World) : Prop := e = .returned (.tuple #[.int .i64 ((Lz.runP 0 l (0, 0)).1 : Nat), .int .i64 ((Lz.runP 0 l (0, 0)).2 : Nat)]) ∧ Below w.heap.size w w'

set_option maxHeartbeats 1000000 in
set_option maxRecDepth 100000 in
theorem run_any (l : List Nat) (h8 : l.length = 8) (w : World) : Calls Tryz.prog 188 #[sixV l] w (RRun l w) := by
  unfold sixV
  obtain ⟨w1, hw1⟩ : ∃ w1, w1 = w.alloc (.cells (l.map fun n : Nat => Value.int .u16 (n : Int)).toArray 216) := ⟨_, rfl⟩
  have hc : ∀ j x, l[j]? = some x → w1.cell? ⟨w.heap.size, j, none⟩ = some (.int .u16 (x : Nat)) := by
    intro j x hj
    rw [hw1, World.cell?_alloc_mark]
    simp [hj]
  have hb1 : Below w.heap.size w w1 := by rw [hw1]; exact (Below.refl _ w).alloc (Nat.le_refl _) _
  have Hc := Lib.hid hc
  have H8 := Lib.hid h8
  clear hc h8
  go_enter Tryz.func188, Tryz.ntmps188
  go_wp2
  rw [← hw1]
  clear hw1
  go_loop [2, 3, 6] (fun a b c => ∃ i f t : Nat, i ≤ 8 ∧ f ≤ t ∧ t ≤ 8 ∧ a = .int .i64 f ∧ b = .int .i64 t ∧ c = .int .i64 i ∧ Hid (Lz.runP i (l.drop i) (f, t) = Lz.runP 0 l (0, 0))) (fun _ _ c => 8 - (intOf c).toNat)
  case atStart => exact ⟨0, 0, 0, by omega, by omega, by omega, rfl, rfl, rfl, Lib.hid rfl⟩
  case round =>
    obtain ⟨i, f, t, hi, hft, ht, rfl, rfl, rfl, hR⟩ := hrel
    by_cases hlt : i < 8
    · have hz8 : Lz.zerosP (l.drop 8) = 0 := by rw [List.drop_eq_nil_of_le (by rw [H8.out]; exact Nat.le_refl _)]; rfl
      have Hz8 := Lib.hid hz8
      clear hz8
      go_wp2
      go_loop [5] (fun c => ∃ k : Nat, i ≤ k ∧ k ≤ 8 ∧ c = .int .i64 k ∧ Hid (Lz.zerosP (l.drop i) = (k - i) + Lz.zerosP (l.drop k))) (fun c => 8 - (intOf c).toNat)
      case atStart => exact ⟨i, Nat.le_refl _, by omega, rfl, by show _ = _; omega⟩
      case round =>
        obtain ⟨k, hik, hk, rfl, hZ⟩ := hrel
        by_cases hk8 : k < 8
        · obtain ⟨x, hx⟩ : ∃ x, l[k]? = some x := ⟨_, List.getElem?_eq_getElem (by rw [H8.out]; exact hk8)⟩
          have hcx := Hc.out k x hx
          by_cases hx0 : x = 0
          · have hxb : ((x : Int) == 0) = true := by rw [hx0]; rfl
            have hZ2 : Hid (Lz.zerosP (l.drop i) = (k + 1 - i) + Lz.zerosP (l.drop (k + 1))) := by
              show _ = _
              rw [hx0] at hx
              rw [hZ.out, Lz.zeros_zero hx]; omega
            clear hx hx0
            go_wp2
            go_round
            case rel => exact ⟨k + 1, by omega, by omega, by go_num, hZ2⟩
            case measure => simp [intOf]; omega
          · have hxb : ((x : Int) == 0) = false := beq_eq_false_iff_ne.2 (by omega)
            have hZ2 : Hid (Lz.zerosP (l.drop i) = k - i) := by show _ = _; rw [hZ.out, Lz.zeros_non hx hx0]; omega
            clear hx hx0
            have hst := Lz.run_step (f, t) (show i < l.length by rw [H8.out]; exact hlt)
            rw [hZ2.out, hR.out] at hst
            have Hst := Lib.hid hst
            clear hst
            obtain ⟨d, hd⟩ : ∃ d : Nat, d = k - i := ⟨_, rfl⟩
            obtain ⟨g, hg⟩ : ∃ g : Nat, g = t - f := ⟨_, rfl⟩
            have hd1 : (k : Int) - i = d := by omega
            have hg1 : (t : Int) - f = g := by omega
            have hki : i + (k - i) = k := by omega
            by_cases hm : max (t - f) 1 < k - i
            · have hm' : max (g : Int) 1 < d := by omega
              have HS : Hid (Lz.runP (i + 1) (l.drop (i + 1)) (i, k) = Lz.runP 0 l (0, 0)) := by
                show _ = _
                have := Hst.out
                rw [if_pos hm, hki] at this
                exact this.symm
              clear hd hg hm hki
              go_wp2
              go_round
              case rel => exact ⟨i + 1, i, k, by omega, hik, hk, rfl, rfl, by go_num, HS⟩
              case measure => simp [intOf]; omega
            · have hm' : ¬ max (g : Int) 1 < d := by omega
              have HS : Hid (Lz.runP (i + 1) (l.drop (i + 1)) (f, t) = Lz.runP 0 l (0, 0)) := by
                show _ = _
                have := Hst.out
                rw [if_neg hm] at this
                exact this.symm
              clear hd hg hm hki
              go_wp2
              go_round
              case rel => exact ⟨i + 1, f, t, by omega, hft, ht, rfl, rfl, by go_num, HS⟩
              case measure => simp [intOf]; omega

        ·   have hZ2 : Hid (Lz.zerosP (l.drop i) = k - i) := by
              show _ = _
              have : k = 8 := by omega
              have hz := hZ.out
              rw [this, Hz8.out] at hz
              omega
            have hst := Lz.run_step (f, t) (show i < l.length by rw [H8.out]; exact hlt)
            rw [hZ2.out, hR.out] at hst
            have Hst := Lib.hid hst
            clear hst
            obtain ⟨d, hd⟩ : ∃ d : Nat, d = k - i := ⟨_, rfl⟩
            obtain ⟨g, hg⟩ : ∃ g : Nat, g = t - f := ⟨_, rfl⟩
            have hd1 : (k : Int) - i = d := by omega
            have hg1 : (t : Int) - f = g := by omega
            have hki : i + (k - i) = k := by omega
            by_cases hm : max (t - f) 1 < k - i
            · have hm' : max (g : Int) 1 < d := by omega
              have HS : Hid (Lz.runP (i + 1) (l.drop (i + 1)) (i, k) = Lz.runP 0 l (0, 0)) := by
                show _ = _
                have := Hst.out
                rw [if_pos hm, hki] at this
                exact this.symm
              clear hd hg hm hki
              go_wp2
              go_round
              case rel => exact ⟨i + 1, i, k, by omega, hik, hk, rfl, rfl, by go_num, HS⟩
              case measure => simp [intOf]; omega
            · have hm' : ¬ max (g : Int) 1 < d := by omega
              have HS : Hid (Lz.runP (i + 1) (l.drop (i + 1)) (f, t) = Lz.runP 0 l (0, 0)) := by
                show _ = _
                have := Hst.out
                rw [if_neg hm] at this
                exact this.symm
              clear hd hg hm hki
              go_wp2
              go_round
              case rel => exact ⟨i + 1, f, t, by omega, hft, ht, rfl, rfl, by go_num, HS⟩
              case measure => simp [intOf]; omega

    · have hi8 : i = 8 := by omega
      have hR2 : Hid (Lz.runP 0 l (0, 0) = (f, t)) := by
        show _ = _
        rw [← hR.out, hi8, List.drop_eq_nil_of_le (by rw [H8.out]; exact Nat.le_refl _)]; rfl
      clear hi8
      go_wp2
      go_ret2
      exact ⟨by rw [hR2.out]; rfl, hb1⟩
end Go.Proofs.YthijceooebebfaaGreatDoor

namespace Lz
open Go

/-! ### Digits to the base 16 -/
def hex1 (d : Nat) : UInt8 := if d < 10 then UInt8.ofNat (48 + d) else UInt8.ofNat (87 + d)
theorem hexV_hex1 : ∀ d : Fin 16, hexV (hex1 d.val) = some d.val := by decide +kernel
theorem hexV_hex {d : Nat} (h : d < 16) : hexV (hex1 d) = some d := hexV_hex1 ⟨d, h⟩
theorem hexD_small {n : Nat} (h : n < 16) : hexD n = [hex1 n] := by
  rw [hexD, dif_pos h, Nat.mod_eq_of_lt h]; unfold hex1; rfl
theorem hexD_big {n : Nat} (h : ¬ n < 16) : hexD n = hexD (n / 16) ++ [hex1 (n % 16)] := by
  rw [hexD, dif_neg h]; unfold hex1; rfl
/-- A digit as it is told. -/
def isHexD (c : UInt8) : Bool := isDigit c || (97 ≤ c && c ≤ 102)
theorem hex1_is1 : ∀ d : Fin 16, isHexD (hex1 d.val) = true := by decide +kernel
theorem hex1_is {d : Nat} (h : d < 16) : isHexD (hex1 d) = true := hex1_is1 ⟨d, h⟩
theorem hexD_chars (n : Nat) : ∀ c ∈ hexD n, isHexD c = true := by
  induction n using Nat.strongRecOn with
  | ind n ih =>
    by_cases h : n < 16
    · rw [hexD_small h]; intro c hc; rw [List.mem_singleton] at hc; rw [hc]; exact hex1_is h
    · rw [hexD_big h]
      intro c hc
      rcases List.mem_append.1 hc with hc | hc
      · exact ih (n / 16) (by omega) c hc
      · rw [List.mem_singleton] at hc; rw [hc]; exact hex1_is (by omega)
theorem hexD_ne (n : Nat) : hexD n ≠ [] := by
  rw [hexD]; simp
theorem hexD_len (k : Nat) : ∀ n, n < 16 ^ (k + 1) → (hexD n).length ≤ k + 1 := by
  induction k with
  | zero => intro n h; rw [hexD_small (by simpa using h)]; simp
  | succ k ih =>
    intro n h
    by_cases h1 : n < 16
    · rw [hexD_small h1]; simp
    · rw [hexD_big h1]
      have := ih (n / 16) (by rw [Nat.pow_succ] at h; omega)
      simp only [List.length_append, List.length_singleton]; omega
def hexF (n : Nat) (c : UInt8) : Option Nat := (hexV c).map (n * 16 + ·)
theorem hexD_fold (n : Nat) : (hexD n).foldlM hexF 0 = some n := by
  induction n using Nat.strongRecOn with
  | ind n ih =>
    by_cases h : n < 16
    · rw [hexD_small h]
      simp [List.foldlM_cons, hexF, hexV_hex h]
    · rw [hexD_big h, List.foldlM_append, ih (n / 16) (by omega)]
      simp only [Option.bind_eq_bind, Option.bind_some, List.foldlM_cons, List.foldlM_nil, hexF, hexV_hex (show n % 16 < 16 by omega), Option.map_some]
      show some _ = _
      congr 1
      omega
theorem piece_hexD {n : Nat} (h : n < 65536) : pieceP (hexD n) = some n := by
  unfold pieceP
  have hl := hexD_len 3 n (by simpa using h)
  rw [if_neg]
  · exact hexD_fold n
  · rintro (h1 | h1)
    · exact hexD_ne n h1
    · omega
theorem hexV_lt16 : ∀ c : UInt8, ∀ d, hexV c = some d → d < 16 := by
  intro c; revert c
  have : ∀ c : UInt8, (match hexV c with | some d => decide (d < 16) | none => true) = true := byte_all (by decide +kernel)
  intro c d h
  have := this c
  rw [h] at this
  simpa using this
theorem hexF_lt {l : Bs} : ∀ {n m : Nat}, l.foldlM hexF n = some m → m < (n + 1) * 16 ^ l.length := by
  induction l with
  | nil => intro n m h; simp at h; simp; omega
  | cons c r ih =>
    intro n m h
    rw [List.foldlM_cons] at h
    unfold hexF at h
    cases hc : hexV c with
    | none => rw [hc] at h; cases h
    | some d =>
      rw [hc] at h
      have hd := hexV_lt16 c d hc
      have h2 := ih (n := n * 16 + d) h
      rw [List.length_cons, Nat.pow_succ]
      have : (n * 16 + d + 1) * 16 ^ r.length ≤ ((n + 1) * 16) * 16 ^ r.length := Nat.mul_le_mul_right _ (by omega)
      rw [Nat.mul_comm (16 ^ r.length) 16, ← Nat.mul_assoc]
      omega
theorem pieceP_lt {x : Bs} {n : Nat} (h : pieceP x = some n) : n < 65536 := by
  unfold pieceP at h
  split at h
  · cases h
  · rename_i hx
    have h2 := hexF_lt (l := x) (n := 0) (m := n) h
    have : (16 : Nat) ^ x.length ≤ 16 ^ 4 := Nat.pow_le_pow_right (by omega) (by omega)
    omega

/-! ### Joined and split -/
theorem splitC_free (k : UInt8) : ∀ l : Bs, (∀ c ∈ l, c ≠ k) → splitC k l = [l]
  | [], _ => rfl
  | c :: l, h => by
    rw [splitC, if_neg (by simpa using h c (by simp)), splitC_free k l (fun x hx => h x (by simp [hx]))]
theorem splitC_app (k : UInt8) : ∀ (a b : Bs), (∀ c ∈ a, c ≠ k) → splitC k (a ++ k :: b) = a :: splitC k b
  | [], b, _ => by simp [splitC]
  | c :: a, b, h => by
    show splitC k (c :: (a ++ k :: b)) = _
    rw [splitC, if_neg (by simpa using h c (by simp)), splitC_app k a b (fun x hx => h x (by simp [hx]))]
theorem splitC_join (k : UInt8) : ∀ ls : List Bs, ls ≠ [] → (∀ x ∈ ls, ∀ c ∈ x, c ≠ k) → splitC k (joinP [k] ls) = ls
  | [], h, _ => absurd rfl h
  | [x], _, h => by rw [joinP]; exact splitC_free k x (h x (by simp))
  | x :: y :: r, _, h => by
    rw [joinP, List.append_assoc, List.singleton_append, splitC_app k x _ (h x (by simp)), splitC_join k (y :: r) (by simp) (fun z hz => h z (by simp [hz]))]
theorem joinP_mem {sep : Bs} : ∀ {ls : List Bs} {c : UInt8}, c ∈ joinP sep ls → c ∈ sep ∨ ∃ x ∈ ls, c ∈ x
  | [], c, h => by simp [joinP] at h
  | [x], c, h => Or.inr ⟨x, by simp, h⟩
  | x :: y :: r, c, h => by
    rw [joinP] at h
    rcases List.mem_append.1 h with h | h
    · rcases List.mem_append.1 h with h | h
      · exact Or.inr ⟨x, by simp, h⟩
      · exact Or.inl h
    · rcases joinP_mem h with h | ⟨z, hz, hc⟩
      · exact Or.inl h
      · exact Or.inr ⟨z, by simp [hz], hc⟩
theorem joinP_ne {sep : Bs} : ∀ {ls : List Bs}, ls ≠ [] → (∀ x ∈ ls, x ≠ []) → joinP sep ls ≠ []
  | [], h, _ => absurd rfl h
  | [x], _, h => h x (by simp)
  | x :: y :: r, _, h => by
    rw [joinP]
    have := h x (by simp)
    cases x with
    | nil => exact absurd rfl this
    | cons a b => simp

theorem isHexD_not : ∀ c : UInt8, isHexD c = true → c ≠ 58 ∧ c ≠ 46 := byte_all (by decide +kernel)
theorem hexD_not (n : Nat) : ∀ c ∈ hexD n, c ≠ 58 ∧ c ≠ 46 := fun c hc => isHexD_not c (hexD_chars n c hc)
theorem told_row (last : Bool) : ∀ l : List Nat, (∀ n ∈ l, n < 65536) → rowP last (l.map hexD) = some l
  | [], _ => rfl
  | n :: l, h => by
    have h46 : (hexD n).contains 46 = false := by
      rw [Bool.eq_false_iff]; intro hc
      exact (hexD_not n 46 (List.contains_iff_mem.1 hc)).2 rfl
    rw [List.map_cons, rowP, h46, piece_hexD (h n (by simp)), told_row last l (fun m hm => h m (by simp [hm]))]
    simp
theorem told_row_s (last : Bool) (l : List Nat) (h : ∀ n ∈ l, n < 65536) : rowS (toldP l) last = some l := by
  unfold rowS
  by_cases hl : l = []
  · rw [hl]; rfl
  · have hne : toldP l ≠ [] := by
      unfold toldP
      exact joinP_ne (by simpa using hl) (by intro x hx; obtain ⟨n, _, rfl⟩ := List.mem_map.1 hx; exact hexD_ne n)
    rw [if_neg hne]
    unfold toldP
    rw [splitC_join 58 _ (by simpa using hl) (by intro x hx c hc; obtain ⟨n, _, rfl⟩ := List.mem_map.1 hx; exact (hexD_not n c hc).1)]
    exact told_row last l h

/-! ### The two colons -/
/-- Nowhere two colons, nor one at the front or the end. -/
def oneCol : Bs → Bool
  | [] => true
  | [c] => c != 58
  | c :: d :: r => (c != 58 || d != 58) && oneCol (d :: r)
theorem index_oneCol : ∀ (a b : Bs), oneCol a = true → Lib.index (a ++ 58 :: 58 :: b) [58, 58] = a.length
  | [], b, _ => by rw [List.nil_append, show (58 :: 58 :: b : Bs) = [58, 58] ++ b from rfl, index_here _ _ (by simp)]; rfl
  | [c], b, h => by
    have hc : c ≠ 58 := by simpa [oneCol] using h
    show Lib.index (c :: ([] ++ 58 :: 58 :: b)) [58, 58] = _
    rw [index_cons_miss hc, index_oneCol [] b rfl]; rfl
  | c :: d :: r, b, h => by
    simp only [oneCol, Bool.and_eq_true, Bool.or_eq_true, bne_iff_ne] at h
    have ih := index_oneCol (d :: r) b h.2
    have hp : ([58, 58] : Bs).isPrefixOf (c :: d :: (r ++ 58 :: 58 :: b)) = false := by
      rw [Bool.eq_false_iff]; intro hh
      simp only [List.isPrefixOf, Bool.and_eq_true, beq_iff_eq] at hh
      rcases h.1 with h1 | h1
      · exact h1 hh.1.symm
      · exact h1 hh.2.1.symm
    show Lib.index (c :: d :: (r ++ 58 :: 58 :: b)) [58, 58] = _
    rw [Lib.index, hp]
    simp only [Bool.false_eq_true, if_false]
    rw [show (d :: (r ++ 58 :: 58 :: b) : Bs) = (d :: r) ++ 58 :: 58 :: b from rfl, ih]
    rw [if_neg (by simp; omega)]
    simp
theorem index_oneCol_none : ∀ (a : Bs), oneCol a = true → Lib.index a [58, 58] = -1
  | [], _ => rfl
  | [c], h => by
    have hc : c ≠ 58 := by simpa [oneCol] using h
    rw [index_cons_miss hc]; rfl
  | c :: d :: r, h => by
    simp only [oneCol, Bool.and_eq_true, Bool.or_eq_true, bne_iff_ne] at h
    have ih := index_oneCol_none (d :: r) h.2
    have hp : ([58, 58] : Bs).isPrefixOf (c :: d :: r) = false := by
      rw [Bool.eq_false_iff]; intro hh
      simp only [List.isPrefixOf, Bool.and_eq_true, beq_iff_eq] at hh
      rcases h.1 with h1 | h1
      · exact h1 hh.1.symm
      · exact h1 hh.2.1.symm
    rw [Lib.index, hp]
    simp only [Bool.false_eq_true, if_false]
    rw [ih]; rfl
theorem oneCol_app : ∀ (x b : Bs), (∀ c ∈ x, c ≠ 58) → x ≠ [] → oneCol b = true → b.head? ≠ some 58 → oneCol (x ++ b) = true
  | [], _, _, h, _, _ => absurd rfl h
  | [c], [], h, _, _, _ => by simpa [oneCol] using h c (by simp)
  | [c], d :: r, h, _, hb, _ => by
    show oneCol (c :: d :: r) = true
    rw [oneCol, hb]; simpa using Or.inl (h c (by simp))
  | c :: d :: r, b, h, _, hb, hh => by
    show oneCol (c :: d :: (r ++ b)) = true
    rw [oneCol, show (d :: (r ++ b) : Bs) = (d :: r) ++ b from rfl, oneCol_app (d :: r) b (fun z hz => h z (by simp [hz])) (by simp) hb hh]
    simpa using Or.inl (h c (by simp))
theorem oneCol_sep : ∀ (x b : Bs), (∀ c ∈ x, c ≠ 58) → x ≠ [] → oneCol b = true → b ≠ [] → b.head? ≠ some 58 → oneCol (x ++ 58 :: b) = true
  | [], _, _, h, _, _, _ => absurd rfl h
  | [c], [], _, _, _, h, _ => absurd rfl h
  | [c], d :: r, h, _, hb, _, hh => by
    show oneCol (c :: 58 :: d :: r) = true
    have hd : d ≠ 58 := by simpa using hh
    rw [oneCol, oneCol, hb]
    simp [h c (by simp), hd]
  | c :: d :: r, b, h, _, hb, hn, hh => by
    show oneCol (c :: d :: (r ++ 58 :: b)) = true
    rw [oneCol, show (d :: (r ++ 58 :: b) : Bs) = (d :: r) ++ 58 :: b from rfl, oneCol_sep (d :: r) b (fun z hz => h z (by simp [hz])) (by simp) hb hn hh]
    simpa using Or.inl (h c (by simp))
theorem told_head (l : List Nat) : (toldP l).head? ≠ some 58 := by
  unfold toldP
  match l with
  | [] => simp [joinP]
  | [n] =>
    show (hexD n).head? ≠ _
    intro h
    cases hx : hexD n with
    | nil => rw [hx] at h; cases h
    | cons c r => rw [hx] at h; exact (hexD_not n c (by rw [hx]; simp)).1 (by simpa using h)
  | n :: m :: r =>
    show (hexD n ++ [58] ++ _).head? ≠ _
    intro h
    cases hx : hexD n with
    | nil => exact hexD_ne n hx
    | cons c r => rw [hx] at h; exact (hexD_not n c (by rw [hx]; simp)).1 (by simpa using h)
theorem told_ne {l : List Nat} (h : l ≠ []) : toldP l ≠ [] := by
  unfold toldP
  exact joinP_ne (by simpa using h) (by intro x hx; obtain ⟨n, _, rfl⟩ := List.mem_map.1 hx; exact hexD_ne n)
theorem told_col : ∀ l : List Nat, oneCol (toldP l) = true
  | [] => rfl
  | [n] => by
    have := oneCol_app (hexD n) [] (fun c hc => (hexD_not n c hc).1) (hexD_ne n) rfl (by simp)
    rw [List.append_nil] at this
    exact this
  | n :: m :: r => by
    show oneCol (hexD n ++ [58] ++ toldP (m :: r)) = true
    rw [List.append_assoc, List.singleton_append]
    exact oneCol_sep _ _ (fun c hc => (hexD_not n c hc).1) (hexD_ne n) (told_col (m :: r)) (told_ne (by simp)) (told_head _)
theorem cut_told (l r : List Nat) : Lib.cut (toldP l ++ [58, 58] ++ toldP r) [58, 58] = (toldP l, toldP r, true) := by
  have h := index_oneCol (toldP l) (toldP r) (told_col l)
  unfold Lib.cut
  rw [show toldP l ++ [58, 58] ++ toldP r = toldP l ++ 58 :: 58 :: toldP r by simp, h]
  rw [if_pos (by omega)]
  simp
theorem cut_none (l : List Nat) : Lib.cut (toldP l) [58, 58] = (toldP l, [], false) := cut_miss _ _ (index_oneCol_none _ (told_col l))

/-! ### The longest run -/
/-- A run of pieces 0, of two at least; or none. -/
def RunOk (a : List Nat) (f : Nat × Nat) : Prop := f = (0, 0) ∨ (f.1 + 2 ≤ f.2 ∧ f.2 ≤ a.length ∧ ∀ k, f.1 ≤ k → k < f.2 → a[k]? = some 0)
theorem zeros_all (l : List Nat) : zerosP l ≤ l.length ∧ ∀ k, k < zerosP l → l[k]? = some 0 := by
  unfold zerosP
  induction l with
  | nil => simp
  | cons x r ih =>
    rw [List.takeWhile_cons]
    by_cases h : x = 0
    · simp only [h, beq_self_eq_true, if_true, List.length_cons]
      refine ⟨by omega, fun k hk => ?_⟩
      cases k with
      | zero => rfl
      | succ k => simpa using ih.2 k (by omega)
    · simp [h]
theorem run_ok (a : List Nat) : ∀ (n i : Nat) (f : Nat × Nat), a.length - i = n → RunOk a f → RunOk a (runP i (a.drop i) f) := by
  intro n
  induction n with
  | zero => intro i f hn hf; rw [List.drop_eq_nil_of_le (by omega)]; exact hf
  | succ n ih =>
    intro i f hn hf
    have hi : i < a.length := by omega
    have hd := List.drop_eq_getElem_cons hi
    rw [hd, runP, ← hd]
    refine ih (i + 1) _ (by omega) ?_
    split
    · rename_i hm
      have hz := zeros_all (a.drop i)
      rw [List.length_drop] at hz
      refine Or.inr ⟨by show i + 2 ≤ i + zerosP _; omega, by show i + zerosP _ ≤ _; omega, fun k h1 h2 => ?_⟩
      have := hz.2 (k - i) (by show k - i < zerosP _; have : k < i + zerosP (a.drop i) := h2; have : i ≤ k := h1; omega)
      rw [List.getElem?_drop, show i + (k - i) = k by have : i ≤ k := h1; omega] at this
      exact this
    · exact hf
theorem run_ok0 (a : List Nat) : RunOk a (runP 0 a (0, 0)) := by
  have := run_ok a _ 0 (0, 0) rfl (Or.inl rfl)
  rwa [List.drop_zero] at this

/-- What an address is told as is read as it again. -/
theorem six_back (a : List Nat) (h8 : a.length = 8) (hl : ∀ n ∈ a, n < 65536) : sixP (textP a) = some a := by
  unfold textP
  have hr := run_ok0 a
  generalize runP 0 a (0, 0) = f at hr ⊢
  obtain ⟨f, t⟩ := f
  by_cases he : f = t
  · rw [if_pos he]
    unfold sixP
    rw [cut_none]
    have hne : (toldP a).isEmpty = false := by
      rw [List.isEmpty_eq_false_iff]; exact told_ne (by intro h; rw [h] at h8; cases h8)
    simp only [hne, told_row_s _ a hl, show rowS [] true = some [] from rfl, List.append_nil, List.length_nil, Nat.add_zero, h8, Lib.hasPrefix]
    simp
  · rcases hr with hr | ⟨h1, h2, h3⟩
    · exact absurd (by injection hr with a b; rw [a, b]) he
    · simp only at h1 h2 h3
      rw [if_neg (by exact he)]
      unfold sixP
      rw [cut_told]
      have hp : Lib.hasPrefix (toldP (a.drop t)) [58] = false := by
        rw [Bool.eq_false_iff]; intro hh
        unfold Lib.hasPrefix at hh
        have := told_head (a.drop t)
        cases hx : toldP (a.drop t) with
        | nil => rw [hx] at hh; cases hh
        | cons c r => rw [hx] at hh this; simp [List.isPrefixOf] at hh; exact this (by simp [hh])
      simp only [hp, told_row_s _ (a.take f) (fun n hn => hl n (List.mem_of_mem_take hn)), told_row_s _ (a.drop t) (fun n hn => hl n (List.mem_of_mem_drop hn))]
      simp only [Bool.not_true, Bool.false_and, Bool.or_self, Bool.false_eq_true, if_false, if_true, List.length_take, List.length_drop]
      rw [if_neg (by omega)]
      congr 1
      apply List.ext_getElem?
      intro k
      by_cases hk : k < f
      · rw [List.append_assoc, List.getElem?_append_left (by simp; omega), List.getElem?_take, if_pos hk]
      · rw [List.append_assoc, List.getElem?_append_right (by simp; omega)]
        by_cases hkt : k < t
        · rw [List.getElem?_append_left (by simp; omega), List.getElem?_replicate, if_pos (by simp; omega), h3 k (by omega) hkt]
        · rw [List.getElem?_append_right (by simp; omega), List.getElem?_drop]
          congr 1
          simp; omega

theorem bytesP_ok {x : Bs} {l : List Nat} (h : bytesP x = some l) : l.length = 4 ∧ ∀ n ∈ l, n < 256 := by
  unfold bytesP at h
  cases hm : (splitC 46 x).mapM byteP with
  | none => rw [hm] at h; cases h
  | some m =>
    rw [hm] at h
    have : ∀ (xs : List Bs) (m : List Nat), xs.mapM byteP = some m → ∀ n ∈ m, n < 256 := by
      intro xs
      induction xs with
      | nil => intro m h n hn; simp at h; rw [h] at hn; cases hn
      | cons x r ih =>
        intro m h n hn
        rw [List.mapM_cons] at h
        cases hx : byteP x with
        | none => rw [hx] at h; cases h
        | some v =>
          rw [hx] at h
          cases hr : r.mapM byteP with
          | none => rw [hr] at h; cases h
          | some ms =>
            rw [hr] at h
            have h : some (v :: ms) = some m := h
            injection h with h
            rw [← h] at hn
            rcases List.mem_cons.1 hn with rfl | hn
            · unfold byteP at hx
              split at hx
              · rename_i u hu
                have := Lib.parseUintB_le hu
                split at hx
                · injection hx with hx; omega
                · cases hx
              · cases hx
            · exact ih ms hr n hn
    simp only at h
    split at h
    · injection h with h; rw [← h]; exact ⟨by assumption, this _ _ hm⟩
    · cases h
theorem four_form {b : List Nat} (h : b.length = 4) : ∃ p q s t, b = [p, q, s, t] := by
  cases b with
  | nil => cases h
  | cons p b => cases b with
    | nil => cases h
    | cons q b => cases b with
      | nil => cases h
      | cons s b => cases b with
        | nil => cases h
        | cons t b => cases b with
          | nil => exact ⟨p, q, s, t, rfl⟩
          | cons _ _ => simp at h
theorem rowP_ok (last : Bool) : ∀ (ls : List Bs) (l : List Nat), rowP last ls = some l → ∀ n ∈ l, n < 65536
  | [], l, h, n, hn => by simp [rowP] at h; rw [h] at hn; cases hn
  | x :: r, l, h, n, hn => by
    rw [rowP] at h
    split at h
    · cases hb : bytesP x with
      | none => rw [hb] at h; cases h
      | some b =>
        rw [hb] at h
        obtain ⟨h4, hlt⟩ := bytesP_ok hb
        obtain ⟨p, q, s, t, rfl⟩ := four_form h4
        simp only [Option.map_some, List.getD_cons_zero, List.getD_cons_succ] at h
        injection h with h
        rw [← h] at hn
        have := hlt p (by simp); have := hlt q (by simp); have := hlt s (by simp); have := hlt t (by simp)
        simp only [List.mem_cons, List.not_mem_nil, or_false] at hn
        rcases hn with rfl | rfl <;> omega
    · cases hp : pieceP x with
      | none => rw [hp] at h; cases h
      | some v =>
        rw [hp] at h
        simp only at h
        cases hr : rowP last r with
        | none => rw [hr] at h; cases h
        | some m =>
          rw [hr] at h
          simp only [Option.map_some] at h
          injection h with h
          rw [← h] at hn
          rcases List.mem_cons.1 hn with rfl | hn
          · exact pieceP_lt hp
          · exact rowP_ok last r m hr n hn
theorem rowS_ok {s : Bs} {last : Bool} {l : List Nat} (h : rowS s last = some l) : ∀ n ∈ l, n < 65536 := by
  unfold rowS at h
  split at h
  · injection h with h; rw [← h]; intro n hn; cases hn
  · exact rowP_ok _ _ _ h
theorem six_ok {s : Bs} {a : List Nat} (h : sixP s = some a) : a.length = 8 ∧ ∀ n ∈ a, n < 65536 := by
  unfold sixP at h
  simp only at h
  split at h
  · cases h
  · split at h
    · rename_i x y hx hy
      have h1 := rowS_ok hx
      have h2 := rowS_ok hy
      split at h
      · split at h
        · cases h
        · injection h with h
          rw [← h]
          refine ⟨by simp; omega, fun n hn => ?_⟩
          simp only [List.mem_append, List.mem_replicate] at hn
          rcases hn with (hn | hn) | hn
          · exact h1 n hn
          · omega
          · exact h2 n hn
      · split at h
        · injection h with h
          rw [← h]
          refine ⟨by simpa using by assumption, fun n hn => ?_⟩
          rcases List.mem_append.1 hn with hn | hn
          · exact h1 n hn
          · exact h2 n hn
        · cases h
    · cases h
end Lz
