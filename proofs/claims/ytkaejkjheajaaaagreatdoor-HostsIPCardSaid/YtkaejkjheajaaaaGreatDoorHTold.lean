/-
  hosts.told and hosts.six.text.
-/
import Derived.Test.YtkaejkjheajaaaaGreatDoorHRow
import Derived.Test.YtkaejkjheajaaaaGreatDoorHFmt
import Derived.Test.YtkaejkjheajaaaaGreatDoorJLib
namespace Go.Proofs.YtkaejkjheajaaaaGreatDoor
open Go.RowKit

/-- A slice of pieces, as the world holds it. -/
def SlU (w : World) (v : Value) (l : List Nat) : Prop :=
  ∃ a c, v = .slice a l.length c ∧ l.length ≤ 1000000 ∧ ∀ (j : Nat) (b : Nat), l[j]? = some b → ∃ B off, a = some ⟨B, off, none⟩ ∧ B < w.heap.size ∧ w.cell? ⟨B, off + j, none⟩ = some (.int .u16 (b : Int))
theorem hexD4 {n : Nat} (h : n < 65536) : (Lz.hexD n).length ≤ 4 := Lz.hexD_len 3 n (by simpa using h)

set_option maxHeartbeats 1000000 in
set_option maxRecDepth 100000 in
theorem told_any (v : Value) (l : List Nat) (w : World) (hE : EnvH w) (hl : SlU w v l) (hlt : ∀ n ∈ l, n < 65536) : Calls Tryz.prog 102 #[v] w (RStr (Lz.toldP l) w) := by
  obtain ⟨i0, hi, hz0, hz1, hz2⟩ := info_parts infoStr
  obtain ⟨a, c, rfl, hl9, hcells⟩ := hl
  have Hc := Lib.hid hcells
  have Hlt := Lib.hid hlt
  clear hcells hlt
  have h0 := World.ownsRow_nil w w.heap.size 9 1
  go_enter Tryz.func102, Tryz.ntmps102
  go_wp2
  go_loopw [3, 8] (fun a i wr => ∃ (j : Nat) (xs : List ByteArray), j ≤ l.length ∧ i = .int .i64 j ∧ Hid (xs.map (·.data.toList) = (l.take j).map Lz.hexD) ∧ wr.ownsRow w.heap.size 9 1 a j (xs.map Value.string) ∧ Below w.heap.size w wr) (fun _ i _ => l.length - (intOf i).toNat)
  case atStart => exact ⟨0, [], Nat.zero_le _, rfl, Lib.hid rfl, h0, Below.refl _ w⟩
  case round =>
    clear h0
    obtain ⟨j, xs, hj, rfl, hxs, hown, hb⟩ := hrel
    have hsz := hb.size
    have Hown := Lib.hid hown
    by_cases hlt : j < l.length
    · have hg : l[j]? = some l[j] := List.getElem?_eq_getElem hlt
      obtain ⟨B, off, rfl, hBl, hcv⟩ := Hc.out j l[j] hg
      have hcv2 : wr.cell? ⟨B, off + j, none⟩ = some (.int .u16 l[j]) := by rw [hb.cell (p := ⟨B, off + j, none⟩) hBl]; exact hcv
      have htk : l.take (j + 1) = l.take j ++ [l[j]] := by rw [List.take_add_one, hg]; rfl
      have hn := Hlt.out l[j] (List.getElem_mem hlt)
      generalize l[j] = n at *
      have Htk := Lib.hid htk
      clear htk hg hcv hown
      have hn0 : (0 : Int) ≤ (n : Int) := by omega
      have hnu : IntKind.u64.wrap (n : Int) = (n : Int) := wrap64 (by omega) (by omega)
      go_wp2_with fail
      refine (FormatUint_16 n (by omega) _ (hE.below hb).db16).mono ?_
      rintro e w1 ⟨t, rfl, ht, hb1⟩
      have Hown1 := Lib.hid (own_below Hown.out hb1)
      have hb2 : Below w.heap.size w w1 := below_call hb hb1
      have hsz2 := hb2.size
      have hst : xs.map Value.string ++ [Value.string t] = (xs ++ [t]).map Value.string := by simp
      have Hst := Lib.hid hst
      have hxs2 : Hid ((xs ++ [t]).map (·.data.toList) = (l.take (j + 1)).map Lz.hexD) := by
        show _ = _
        rw [Htk.out, List.map_append, List.map_append, hxs.out, List.map_singleton, List.map_singleton, ht.out, Lz.baseD_hex]
      clear hst Htk
      go_wp2_with (at_builtin; refine wpList_append_own _ rfl (.tmp 12) (.tmp 16) 35 rfl w.heap.size 9 i0 (.string ⟨#[]⟩) 1 16 Tryz.underlying35 hi hz0 hz1 hz2 rfl (by decide) _ _ _ rfl (Hown1.out.alloc _) ⟨w1.heap.size, 0, none⟩ 1 1 [.string t] rfl rfl (cell_one _ _ _) (by simp [Value.oneCell']) (by unfold maxLen; omega) (by omega) (by simp; omega) ?_)
      intro v' w3 hown' hgrow _
      have hb3 := Below.grown1 hb2 Hown1.out hgrow hsz2 (Nat.le_refl _)
      rw [Hst.out] at hown'
      have Hown3 := Lib.hid hown'
      clear hown' hgrow
      go_wp2
      go_roundw
      case rel => exact ⟨j + 1, xs ++ [t], by omega, by go_num, hxs2.out, Hown3.out, hb3⟩
      case measure => simp [intOf]; omega
    · have hjl : j = l.length := by omega
      have hlj : ¬ j < l.length := hlt
      have HD : Hid (xs.map (·.data.toList) = l.map Lz.hexD) := by show _ = _; rw [hxs.out, hjl, List.take_length]
      have hxl : xs.length = j := by have := hown.1; simpa using this
      by_cases h1 : j = 0
      · obtain ⟨a0, c0, rfl⟩ : ∃ a c, u3 = .slice a 0 c := by
          rw [h1] at hown
          rcases hown.2 with ⟨h, _⟩ | ⟨g, cap, cur, h, _⟩
          · exact ⟨_, _, h⟩
          · exact ⟨_, _, h⟩
        have HL : Hid (Lz.toldP l = []) := by
          show _ = _
          rw [List.length_eq_zero_iff.1 (show l.length = 0 by omega)]; rfl
        clear hown Hown hxl hjl hlt hxs h1
        go_wp2_with fail
        with_reducible refine (Join_z a0 c0 ⟨#[58]⟩ _).mono ?_
        rintro e w1 ⟨u, rfl, hu, hb1⟩
        go_wp2
        go_ret
        exact ⟨u, rfl, Lib.hid (by rw [hu.out, HL.out]), below_call hb hb1⟩
      · obtain ⟨b, cap, rfl, hcap, hT⟩ := texts_own hown (by omega)
        have hxx : ∀ x, x ∈ xs → x.size ≤ 4 := by
          intro x hx
          have h1 : x.data.toList ∈ l.map Lz.hexD := by rw [← HD.out]; exact List.mem_map_of_mem hx
          obtain ⟨n, hn, hc⟩ := List.mem_map.1 h1
          rw [← len_of_size, ← hc]
          exact hexD4 (Hlt.out n hn)
        have HX := Lib.hid hxx
        have HT := Lib.hid hT
        have Hcap := Lib.hid hcap
        have hxn : Hid (xs.length ≤ 1000000) := by show _ ≤ _; omega
        clear hxx hT hown Hown hxl hjl hcap hlt hxs
        go_wp2_with fail
        with_reducible refine (Join_c b cap xs ⟨#[58]⟩ _ HT.out Hcap.out hxn.out 4 (by omega) HX.out (by decide)).mono ?_
        rintro e w1 ⟨u, rfl, hu, hb1⟩
        go_wp2
        go_ret
        refine ⟨u, rfl, Lib.hid ?_, below_call hb hb1⟩
        rw [hu.out, HD.out]
        rfl
end Go.Proofs.YtkaejkjheajaaaaGreatDoor
