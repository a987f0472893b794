/-
  hosts.bytes: four decimal numbers.
-/
import Derived.Test.YtkaejkjheajaaaaGreatDoorHDot
import Derived.Lib.ParseIntBCases
namespace Go.Proofs.YtkaejkjheajaaaaGreatDoor
open Go.RowKit

/-- What ParseUint of ten and eight tells. -/
def RPu (l : List UInt8) (w : World) (e : Ending) (w' : World) : Prop :=
  Below w.heap.size w w' ∧ ((∃ u, Lib.parseUintB 8 l = .ok u ∧ e = .returned (.tuple #[.int .u64 u, .nilIface])) ∨ ((∀ u, Lib.parseUintB 8 l ≠ .ok u) ∧ ∃ n t p, e = .returned (.tuple #[.int .u64 n, .iface t p])))
theorem ParseUint_c (s : ByteArray) (hs : s.size ≤ 1073741824) (w : World) (hE : EnvH w) : Calls Tryz.prog 163 #[.string s, .int .i64 10, .int .i64 8] w (RPu s.data.toList w) := by
  by_cases ho : ∃ u, Lib.parseUintB 8 s.data.toList = .ok u
  · obtain ⟨u, hu⟩ := ho
    refine (Tryz.strconv_ParseUint_10_at8_ok s (by omega) u hu w).mono fun e w' ⟨he, hw⟩ => ⟨?_, Or.inl ⟨u, hu, he⟩⟩
    rcases hw with rfl | rfl
    · exact Below.refl _ _
    · exact Lib.bytesWorld_below _ _ _
  · have hn : ∀ u, Lib.parseUintB 8 s.data.toList ≠ .ok u := fun u h => ho ⟨u, h⟩
    by_cases hr : Lib.parseUintB 8 s.data.toList = .range
    · obtain ⟨te, pe, hv⟩ := hE.rng
      refine (Tryz.strconv_ParseUint_10_at8_range s (by omega) hr (.iface te pe) w hv (Or.inr ⟨te, pe, rfl⟩)).mono ?_
      rintro e w' ⟨N, he, _, _, hb⟩
      exact ⟨hb, Or.inr ⟨hn, _, _, _, he⟩⟩
    · have hx : Lib.parseUintB 8 s.data.toList = Lib.parseUintB 8 [] := by
        cases h : Lib.parseUintB 8 s.data.toList
        all_goals first | rfl | exact absurd h (hn _) | exact absurd h hr
      obtain ⟨te, pe, hv⟩ := hE.syn
      refine (Tryz.strconv_ParseUint_10_at8_syntax s (by omega) hx (.iface te pe) w hv (Or.inr ⟨te, pe, rfl⟩)).mono ?_
      rintro e w' ⟨N, he, _, _, hb⟩
      exact ⟨hb, Or.inr ⟨hn, _, _, _, he⟩⟩

theorem mapM_snoc_some {f : List UInt8 → Option Nat} {l : List (List UInt8)} {ls : List Nat} {x : List UInt8} {n : Nat} (h : l.mapM f = some ls) (hx : f x = some n) : (l ++ [x]).mapM f = some (ls ++ [n]) := by
  rw [List.mapM_append, h]; simp [hx]
theorem mapM_none {f : List UInt8 → Option Nat} {l : List (List UInt8)} {x : List UInt8} (hm : x ∈ l) (hx : f x = none) : l.mapM f = none := by
  obtain ⟨a, b, rfl⟩ := List.append_of_mem hm
  rw [List.mapM_append, List.mapM_cons, hx]
  cases a.mapM f <;> simp

/-- Numbers as bytes. -/
def u8n (l : List Nat) : List Value := l.map fun n : Nat => Value.int .u8 (n : Int)
theorem u8n_snoc (l : List Nat) (n : Nat) : u8n l ++ [.int .u8 (n : Int)] = u8n (l ++ [n]) := by simp [u8n]

/-- What bytes tells. -/
def RByts (o : Option (List Nat)) (w : World) (e : Ending) (w' : World) : Prop :=
  Below w.heap.size w w' ∧ match o with
    | some l => l.length = 4 ∧ ∃ v base, e = .returned (.tuple #[v, .nilIface]) ∧ w.heap.size ≤ base ∧ w'.ownsRow base 5 1 v 4 (u8n l)
    | none => ∃ v, e = .returned (.tuple #[.slice none 0 0, v]) ∧ Faulty w' 72 1 v
theorem rbyts_fail {w wx : World} {s : ByteArray} {t : TypeId} {fr : Nat × Nat} (hb : Below w.heap.size w wx) :
    RByts none w (.returned (.tuple #[.slice none 0 0, .iface 87 (.pointer (some ⟨wx.heap.size, 0, none⟩))])) (wx.alloc (.cells #[.string s, .iface 30 (.int .i64 72)] t fr)) :=
  ⟨hb.alloc hb.size _, _, rfl, faulty_alloc rfl⟩
theorem parseUint8_le {l : List UInt8} {u : Nat} (h : Lib.parseUintB 8 l = .ok u) : u ≤ 255 := Lib.parseUintB_le h

set_option maxHeartbeats 1000000 in
set_option maxRecDepth 100000 in
theorem bytes_any (s : ByteArray) (hs : s.size ≤ 1048576) (w : World) (hE : EnvH w) : Calls Tryz.prog 144 #[.string s] w (RByts (Lz.bytesP s.data.toList) w) := by
  obtain ⟨i0, hi, hz0, hz1, hz2⟩ := info_parts infoByte
  have cS := Lib.hid (Split_h s 46 (by omega) w hE)
  go_enter Tryz.func144, Tryz.ntmps144
  go_wp2_with fail
  refine (cS.out).mono ?_
  rintro e w1 ⟨xs, rfl, hxs, hw1⟩
  have hlen : xs.length ≤ s.size + 1 := by
    have h := Lz.splitC_len 46 s.data.toList
    rw [← hxs.out, List.length_map, len_of_size] at h
    omega
  have hsz : ∀ x, x ∈ xs → x.size ≤ s.size := fun x hx => piece_size hxs.out hx
  have hb1 : Below w.heap.size w w1 := by rw [hw1.out]; exact (Below.refl _ w).alloc (Nat.le_refl _) _
  have hT : TextsAt w1 w.heap.size xs := by
    refine ⟨by rw [hw1.out]; simp, fun j x hj => ?_⟩
    rw [hw1.out]
    have := World.cell?_alloc_mark w (xs.map Value.string).toArray 9 (0, 0) j
    rw [this]
    simp [hj]
  have HT := Lib.hid hT
  have Hsz := Lib.hid hsz
  have hB : Hid (Lz.bytesP s.data.toList = match (xs.map (·.data.toList)).mapM Lz.byteP with | some l => if l.length = 4 then some l else none | none => none) := by
    show _ = _
    rw [hxs.out]; rfl
  have hbs1 := hb1.size
  clear cS hw1 hT hsz
  have hst := World.ownsRow_nil w1 w1.heap.size 5 1
  go_wp2_with fail
  go_loopw [4, 12] (fun a i wr => ∃ (j : Nat) (ls : List Nat), j ≤ xs.length ∧ i = .int .i64 j ∧ Hid (((xs.take j).map (·.data.toList)).mapM Lz.byteP = some ls) ∧ ls.length = j ∧ wr.ownsRow w1.heap.size 5 1 a j (u8n ls) ∧ Below w1.heap.size w1 wr) (fun _ i _ => xs.length - (intOf i).toNat)
  case atStart => exact ⟨0, [], Nat.zero_le _, rfl, Lib.hid rfl, rfl, hst, Below.refl _ w1⟩
  case round =>
    clear hst
    obtain ⟨j, ls, hj, rfl, hls, hlj, hown, hb⟩ := hrel
    have hbw := below_call hb1 hb
    have hsz := hb.size
    have Hown := Lib.hid hown
    by_cases hlt : j < xs.length
    · obtain ⟨x, hx⟩ : ∃ x, xs[j]? = some x := ⟨_, List.getElem?_eq_getElem hlt⟩
      have hcx := (HT.out.below hb).cells _ _ hx
      have hxz := Hsz.out x (List.mem_of_getElem? hx)
      have hxm : Hid (x.data.toList ∈ xs.map (·.data.toList)) := Lib.hid (List.mem_map_of_mem (List.mem_of_getElem? hx))
      have htk : xs.take (j + 1) = xs.take j ++ [x] := by rw [List.take_add_one, hx]; rfl
      have Htk := Lib.hid htk
      clear htk hx hown
      go_wp2_with fail
      refine (ParseUint_c x (by omega) _ (hE.below hbw)).mono ?_
      rintro e w2 ⟨hb2, ⟨u, hu, rfl⟩ | ⟨hn, n, t, p, rfl⟩⟩
      · have hu8 := parseUint8_le hu
        have Hu := Lib.hid hu
        clear hu
        have hbw2 := below_call hbw hb2
        go_wp2_with fail
        refine (Itoa_h (u : Int) (by omega) (by omega) _ (hE.below hbw2)).mono ?_
        rintro e w3 ⟨d, rfl, hd, hb3⟩
        have hbw3 := below_call hbw2 hb3
        have Hown3 := Lib.hid (own_below (own_below Hown.out hb2) hb3)
        have hbz := hbw3.size
        have hb13 : Below w1.heap.size w1 w3 := below_call (below_call hb hb2) hb3
        have hsz3 := hb13.size
        have hdd : Hid (d.data.toList = Lib.decDigits u) := by show _ = _; rw [hd.out, Lib.itoa_nonneg]
        have hby : Hid (Lz.byteP x.data.toList = if d.toList == x.toList then some u else none) := by
          show _ = _
          have h1 : Lz.byteP x.data.toList = if Lib.decDigits u = x.data.toList then some u else none := by
            unfold Lz.byteP; rw [Hu.out]
          rw [h1, Lib.toList_data, Lib.toList_data, hdd.out]
          by_cases h : Lib.decDigits u = x.data.toList <;> simp [h]
        generalize hq : (d.toList == x.toList) = q at hby
        cases q
        · have HB : Hid (Lz.bytesP s.data.toList = none) := by
            show _ = _
            rw [hB.out, mapM_none hxm.out hby.out]
          go_wp2
          go_ret2
          rw [HB.out]
          exact rbyts_fail hbw3
        · have hls2 : Hid (((xs.take (j + 1)).map (·.data.toList)).mapM Lz.byteP = some (ls ++ [u])) := by
            show _ = _
            rw [Htk.out, List.map_append]
            exact mapM_snoc_some hls.out hby.out
          go_wp2_with (at_builtin; refine wpList_append_own _ rfl (.tmp 34) (.tmp 37) 22 rfl w1.heap.size 5 i0 (.int .u8 0) 1 1 Tryz.underlying22 hi hz0 hz1 hz2 rfl (by decide) _ _ _ rfl (Hown3.out.alloc _) ⟨w3.heap.size, 0, none⟩ 1 1 [.int .u8 (u : Int)] rfl rfl (cell_one _ _ _) (by simp [Value.oneCell']) (by unfold maxLen; omega) (by omega) (by simp; omega) ?_)
          intro v' w4 hown' hgrow _
          have hb4 : Below w1.heap.size w1 w4 := Below.grown1 hb13 Hown3.out hgrow hsz3 (Nat.le_refl _)
          rw [u8n_snoc] at hown'
          have Hown4 := Lib.hid hown'
          clear hown' hgrow
          go_wp2
          go_roundw
          case rel => exact ⟨j + 1, ls ++ [u], by omega, by go_num, hls2.out, by simp [hlj], Hown4.out, hb4⟩
          case measure => simp [intOf]; omega
      · have HB : Hid (Lz.bytesP s.data.toList = none) := by
          show _ = _
          have h1 : Lz.byteP x.data.toList = none := by
            unfold Lz.byteP
            split
            · rename_i n' h; exact absurd h (hn _)
            · rfl
          rw [hB.out, mapM_none hxm.out h1]
        clear hn
        go_wp2
        go_ret2
        rw [HB.out]
        exact rbyts_fail (below_call hbw hb2)
    · have hjl : j = xs.length := by omega
      have hB2 : Hid (Lz.bytesP s.data.toList = if j = 4 then some ls else none) := by
        show _ = _
        have := hls.out
        rw [hjl, List.take_length] at this
        rw [hB.out, this]
        show (if ls.length = 4 then some ls else none) = _
        rw [hlj]
      obtain ⟨a, c, rfl⟩ : ∃ a c, u4 = .slice a j c := by
        rcases hown.2 with ⟨rfl, h0⟩ | ⟨g, cap, cur, rfl, _⟩
        · exact ⟨none, 0, by rw [h0]⟩
        · exact ⟨_, _, rfl⟩
      have Hjl := Lib.hid hjl
      have hlt' : ¬ j < xs.length := hlt
      clear hown hjl hlt
      by_cases h4 : j = 4
      · have HB : Hid (Lz.bytesP s.data.toList = some ls) := by show _ = _; rw [hB2.out, if_pos h4]
        have H4 := Lib.hid h4
        have h4b : ((j : Int) != 4) = false := by rw [h4]; rfl
        clear h4
        go_wp2
        go_ret2
        rw [HB.out]
        refine ⟨hbw, by rw [hlj]; exact H4.out, _, w1.heap.size, rfl, hbs1, ?_⟩
        have := Hown.out
        rw [H4.out] at this ⊢
        exact this
      · have HB : Hid (Lz.bytesP s.data.toList = none) := by show _ = _; rw [hB2.out, if_neg h4]
        have h4b : ((j : Int) != 4) = true := by simp; omega
        clear h4
        go_wp2
        go_ret2
        rw [HB.out]
        exact rbyts_fail hbw
end Go.Proofs.YtkaejkjheajaaaaGreatDoor
