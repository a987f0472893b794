/-
  hosts.dotted: bytes in decimal digits.
-/
import Derived.Test.YtkaejkjheajaaaaGreatDoorHLab
import Derived.Test.YtkaejkjheajaaaaGreatDoorOwn
import Derived.Test.YtkaejkjheajaaaaGreatDoorLet
import Derived.Lib.ItoaMem
namespace Go.Proofs.YtkaejkjheajaaaaGreatDoor
open Go.RowKit

theorem infoStr : (Tryz.prog.info? 9).map (fun i => (i.zero, i.size, i.bytes)) = some (some (.string ⟨#[]⟩), 1, 16) := by kernel_rfl
theorem joinP_eq (sep : List UInt8) : ∀ ls : List (List UInt8), Lib.join ls sep = Lz.joinP sep ls
  | [] => rfl
  | [x] => by simp [Lib.join, Lz.joinP]
  | x :: y :: r => by
    have := joinP_eq sep (y :: r)
    simp [Lib.join, Lz.joinP] at this ⊢
    rw [← this]

theorem own_below {w w1 : World} {base : Nat} {e : TypeId} {size n : Nat} {v : Value} {xs : List Value} (h : w.ownsRow base e size v n xs) (hb : Below w.heap.size w w1) : w1.ownsRow base e size v n xs :=
  h.kept (row := none) (by constructor <;> first | exact hb.os | exact hb.tape | exact hb.output | exact hb.size | exact fun k hk _ => hb.block k hk) (by cases hv : v.ownBlock <;> simp)

theorem dec3 (c : UInt8) : (Lib.decDigits c.toNat).length ≤ 3 := by revert c; exact Lz.byte_all (by decide +kernel)

/-- An own row of texts, as Join takes it. -/
theorem texts_own {w : World} {base : Nat} {v : Value} {n : Nat} {xs : List ByteArray} (h : w.ownsRow base 9 1 v n (xs.map Value.string)) (hn : 1 ≤ n) :
    ∃ b cap, v = .slice (some ⟨b, 0, none⟩) xs.length cap ∧ xs.length ≤ cap ∧ TextsAt w b xs := by
  have hl : xs.length = n := by have := h.1; simpa using this
  rcases h.2 with ⟨rfl, h0⟩ | ⟨g, cap, cur, rfl, hbg, hg, hnc, hcm, hcs, htk⟩
  · omega
  · refine ⟨g, cap, by rw [hl], by omega, (Array.getElem?_eq_some_iff.1 hg).1, fun j x hj => ?_⟩
    have h2 : (xs.map Value.string)[j]? = some (.string x) := by simp [hj]
    rw [← htk, List.getElem?_take] at h2
    split at h2
    · simp only [World.cell?, hg]
      simpa using h2
    · cases h2

theorem join_len (sep : List UInt8) (m : Nat) : ∀ ls : List (List UInt8), (∀ x, x ∈ ls → x.length ≤ m) → (Lib.join ls sep).length ≤ ls.length * (m + sep.length) := by
  intro ls
  rw [joinP_eq]
  induction ls with
  | nil => intro _; simp [Lz.joinP]
  | cons x r ih =>
    intro h
    have hx := h x (by simp)
    have hr := ih (fun y hy => h y (by simp [hy]))
    cases r with
    | nil => simp [Lz.joinP]; omega
    | cons y r =>
      simp only [Lz.joinP, List.length_append, List.length_cons, Nat.succ_mul] at hr ⊢
      omega

theorem Join_c (b cap : Nat) (xs : List ByteArray) (sep : ByteArray) (w : World) (hT : TextsAt w b xs) (hc : xs.length ≤ cap) (hn : xs.length ≤ 1000000) (m : Nat) (hm : m ≤ 1000000) (hx : ∀ x, x ∈ xs → x.size ≤ m) (hs : sep.size ≤ 10) :
    Calls Tryz.prog 145 #[.slice (some ⟨b, 0, none⟩) xs.length cap, .string sep] w (RStr (Lz.joinP sep.data.toList (xs.map (·.data.toList))) w) := by
  have hj := join_len sep.data.toList m (xs.map (·.data.toList)) (by
    intro y hy
    obtain ⟨x, hx', rfl⟩ := List.mem_map.1 hy
    rw [len_of_size]; exact hx x hx')
  rw [List.length_map, len_of_size] at hj
  have hb : xs.length * (m + sep.size) ≤ 1000000 * 1000010 := Nat.mul_le_mul hn (by omega)
  have h := Tryz.strings_Join b 0 cap xs sep w (fun j x hj => by rw [Nat.zero_add]; exact hT.cells j x hj) hT.lt (by omega) hc (by omega)
  exact h.mono fun e w' ⟨h1, h2⟩ => ⟨_, h1, Lib.hid (by rw [← joinP_eq]), h2⟩

set_option maxHeartbeats 1000000 in
set_option maxRecDepth 100000 in
theorem dotted_any (v : Value) (l : List UInt8) (w : World) (hE : EnvH w) (hl : SlB w v l) (hlen : l.length ≤ 16) (hl1 : 1 ≤ l.length) : Calls Tryz.prog 149 #[v] w (RStr (Lz.dottedP (l.map (·.toNat))) w) := by
  obtain ⟨i0, hi, hz0, hz1, hz2⟩ := info_parts infoStr
  obtain ⟨a, c, rfl, hl9, hcells⟩ := hl
  have Hc := Lib.hid hcells
  clear hcells
  have h0 := World.ownsRow_nil w w.heap.size 9 1
  go_enter Tryz.func149, Tryz.ntmps149
  go_wp2
  go_loopw [3, 8] (fun a i wr => ∃ (j : Nat) (xs : List ByteArray), j ≤ l.length ∧ i = .int .i64 j ∧ Hid (xs.map (·.data.toList) = (l.take j).map (fun c => Lib.decDigits c.toNat)) ∧ wr.ownsRow w.heap.size 9 1 a j (xs.map Value.string) ∧ Below w.heap.size w wr) (fun _ i _ => l.length - (intOf i).toNat)
  case atStart => exact ⟨0, [], Nat.zero_le _, rfl, Lib.hid rfl, h0, Below.refl _ w⟩
  case round =>
    clear h0
    obtain ⟨j, xs, hj, rfl, hxs, hown, hb⟩ := hrel
    have hsz := hb.size
    have Hown := Lib.hid hown
    by_cases hlt : j < l.length
    · have hg : l[j]? = some l[j] := List.getElem?_eq_getElem hlt
      obtain ⟨B, off, rfl, hBl, hcv⟩ := Hc.out j l[j] hg
      have hcv2 : wr.cell? ⟨B, off + j, none⟩ = some (.int .u8 l[j].toNat) := by rw [hb.cell (p := ⟨B, off + j, none⟩) hBl]; exact hcv
      have htk : l.take (j + 1) = l.take j ++ [l[j]] := by rw [List.take_add_one, hg]; rfl
      generalize l[j] = c at *
      have Htk := Lib.hid htk
      have hc8 := byte_lt c
      clear htk hg hcv hown
      have hc0 : (0 : Int) ≤ (c.toNat : Int) := by omega
      go_wp2_with fail
      refine (Itoa_h (c.toNat : Int) (by omega) (by omega) _ (hE.below hb)).mono ?_
      rintro e w1 ⟨t, rfl, ht, hb1⟩
      have Hown1 := Lib.hid (own_below Hown.out hb1)
      have hb2 : Below w.heap.size w w1 := below_call hb hb1
      have hsz2 := hb2.size
      have hst : xs.map Value.string ++ [Value.string t] = (xs ++ [t]).map Value.string := by simp
      have Hst := Lib.hid hst
      have hxs2 : Hid ((xs ++ [t]).map (·.data.toList) = (l.take (j + 1)).map (fun c => Lib.decDigits c.toNat)) := by
        show _ = _
        rw [Htk.out, List.map_append, List.map_append, hxs.out, List.map_singleton, List.map_singleton, ht.out, Lib.itoa_nonneg]
      clear hst Htk
      go_wp2_with (at_builtin; refine wpList_append_own _ rfl (.tmp 12) (.tmp 16) 35 rfl w.heap.size 9 i0 (.string ⟨#[]⟩) 1 16 Tryz.underlying35 hi hz0 hz1 hz2 rfl (by decide) _ _ _ rfl (Hown1.out.alloc _) ⟨w1.heap.size, 0, none⟩ 1 1 [.string t] rfl rfl (cell_one _ _ _) (by simp [Value.oneCell']) (by unfold maxLen; omega) (by omega) (by simp; omega) ?_)
      intro v' w3 hown' hgrow _
      have hb3 := Below.grown1 hb2 Hown1.out hgrow hsz2 (Nat.le_refl _)
      rw [Hst.out] at hown'
      have Hown3 := Lib.hid hown'
      clear hown' hgrow
      go_wp2
      go_roundw
      case rel => exact ⟨j + 1, xs ++ [t], by omega, by go_num, hxs2.out, Hown3.out, hb3⟩
      case measure => simp [intOf]; omega
    · have hjl : j = l.length := by omega
      obtain ⟨b, cap, rfl, hcap, hT⟩ := texts_own hown (by omega)
      have hxl : xs.length = j := by have := hown.1; simpa using this
      have hxx : ∀ x, x ∈ xs → x.size ≤ 3 := by
        intro x hx
        have h1 : x.data.toList ∈ (l.take j).map (fun c => Lib.decDigits c.toNat) := by rw [← hxs.out]; exact List.mem_map_of_mem hx
        obtain ⟨c, _, hc⟩ := List.mem_map.1 h1
        rw [← len_of_size, ← hc]
        exact dec3 c
      have HX := Lib.hid hxx
      have HT := Lib.hid hT
      have Hcap := Lib.hid hcap
      have hxn : Hid (xs.length ≤ 1000000) := by show _ ≤ _; omega
      have Hj := Lib.hid hjl
      have hlj : ¬ j < l.length := hlt
      clear hxx hT hown Hown hxl hjl hcap hlt
      go_wp2_with fail
      with_reducible refine (Join_c b cap xs ⟨#[46]⟩ _ HT.out Hcap.out hxn.out 3 (by omega) HX.out (by decide)).mono ?_
      rintro e w1 ⟨u, rfl, hu, hb1⟩
      go_wp2
      go_ret
      refine ⟨u, rfl, Lib.hid ?_, below_call hb hb1⟩
      rw [hu.out, hxs.out, Hj.out, List.take_length]
      unfold Lz.dottedP
      rw [List.map_map]
      rfl
end Go.Proofs.YtkaejkjheajaaaaGreatDoor
