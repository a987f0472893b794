/-
  lazaretlaw07.HostsTriples: it returns true, whatever the text, and whichever bytes are triples.
-/
import Derived.Test.YtkaejkjheajaaaaGreatDoorJLaw
namespace Lz
open Go
theorem tripT_app (f g : Nat → Bool) : ∀ (a b : Bs) (i : Nat), tripT f g i (a ++ b) = tripT f g i a ++ tripT f g (i + a.length) b
  | [], b, i => by simp [tripT]
  | c :: a, b, i => by
    have ih := tripT_app f g a b (i + 1)
    show tripC c (f i) (g i) ++ tripT f g (i + 1) (a ++ b) = tripC c (f i) (g i) ++ tripT f g (i + 1) a ++ _
    rw [ih, List.append_assoc, List.length_cons, show i + 1 + a.length = i + (a.length + 1) by omega]
theorem tripT_snoc (f g : Nat → Bool) (s : Bs) (j : Nat) (c : UInt8) (h : s[j]? = some c) : tripT f g 0 (s.take (j + 1)) = tripT f g 0 (s.take j) ++ tripC c (f j) (g j) := by
  have hj := (List.getElem?_eq_some_iff.1 h).1
  rw [List.take_add_one, h]
  show tripT f g 0 (s.take j ++ [c]) = _
  rw [tripT_app, List.length_take, Nat.min_eq_left (by omega), Nat.zero_add]
  simp [tripT]
theorem tripC_len (c : UInt8) (f g : Bool) : (tripC c f g).length ≤ 3 := by unfold tripC; cases f <;> simp
end Lz
namespace Go.Proofs.YtkaejkjheajaaaaGreatDoor
open Go.RowKit

/-- A slice of bools, as the world holds it. -/
def SlO (w : World) (v : Value) (l : List Bool) : Prop :=
  ∃ a c, v = .slice a l.length c ∧ l.length ≤ 9223372036854775807 ∧ ∀ (j : Nat) (b : Bool), l[j]? = some b → ∃ B off, a = some ⟨B, off, none⟩ ∧ B < w.heap.size ∧ w.cell? ⟨B, off + j, none⟩ = some (.bool b)

theorem alpha_split (c : UInt8) : Lz.isAlpha c = ((decide (97 ≤ (c.toNat : Int)) && decide ((c.toNat : Int) ≤ 122)) || (decide (65 ≤ (c.toNat : Int)) && decide ((c.toNat : Int) ≤ 90))) := by
  revert c; exact Lz.byte_all (by decide +kernel)
theorem xor32 (c : UInt8) : bits BinOp.xor IntKind.u8 (c.toNat : Int) 32 = ((c ^^^ 32).toNat : Int) := by revert c; exact Lz.byte_all (by decide +kernel)
theorem tripDigits (x y : Fin 16) (u : ByteArray) : (((u ++ ({ data := #[37] } : ByteArray)) ++ ByteArray.extract { data := #[48, 49, 50, 51, 52, 53, 54, 55, 56, 57, 97, 98, 99, 100, 101, 102] } x.1 (x.1 + 1)) ++ ByteArray.extract { data := #[48, 49, 50, 51, 52, 53, 54, 55, 56, 57, 97, 98, 99, 100, 101, 102] } y.1 (y.1 + 1)).data.toList = u.data.toList ++ [37, Lz.hex1 x.1, Lz.hex1 y.1] := by
  have h : ∀ z : Fin 16, (ByteArray.extract { data := #[48, 49, 50, 51, 52, 53, 54, 55, 56, 57, 97, 98, 99, 100, 101, 102] } z.1 (z.1 + 1)).data.toList = [Lz.hex1 z.1] := by decide +kernel
  rw [append_data', append_data', append_data', h x, h y]
  simp
theorem conv_one (w : World) (d : UInt8) : (convert 22 9 (.slice (some ⟨w.heap.size, 0, none⟩) 1 1)).run Tryz.prog (w.alloc (.cells #[.int .u8 (d.toNat : Int)] 5)) = .ok (.string ⟨#[d]⟩) (w.alloc (.cells #[.int .u8 (d.toNat : Int)] 5)) := by
  exact run_convert_bytes_back (P := Tryz.prog) (w.alloc (.cells #[.int .u8 (d.toNat : Int)] 5)) 22 9 5 ⟨w.heap.size, 0, none⟩ 1 [d] Tryz.underlying22 Tryz.underlying5 Tryz.underlying9 (by
    intro j hj
    have : j = 0 := by simp at hj; exact hj
    subst this
    rw [addr_add, World.cell?_alloc_mark]
    rfl)

set_option maxHeartbeats 4000000 in
set_option maxRecDepth 100000 in
theorem hostsTriples_any (s : ByteArray) (v1 v2 : Value) (l1 l2 : List Bool) (w : World) (hE : EnvH w) (i1 : SlO w v1 l1) (i2 : SlO w v2 l2) : Calls Tryz.prog 10 #[.string s, v1, v2] w (RBool true w) := by
  obtain ⟨a1, c1, rfl, hl1, hc1⟩ := i1
  obtain ⟨a2, c2, rfl, hl2, hc2⟩ := i2
  have Hc1 := Lib.hid hc1
  have Hc2 := Lib.hid hc2
  clear hc1 hc2
  by_cases hbig : 300 < s.size
  · have hbg : (300 : Int) < (s.size : Int) := by omega
    have hbd : decide ((300 : Int) < (s.size : Int)) = true := decide_eq_true hbg
    clear hbig
    go_enter Tryz.func10, Tryz.ntmps10
    go_wp2_with fail
    refine (houses_any _ hE).mono ?_
    rintro e w1 ⟨rfl, hb⟩
    go_wp2
    go_ret
    exact ⟨rfl, hb⟩
  have hbg : ¬ (300 : Int) < (s.size : Int) := by omega
  have hbd : decide ((300 : Int) < (s.size : Int)) = false := decide_eq_false hbg
  obtain ⟨f, hf⟩ : ∃ f : Nat → Bool, f = fun j => l1.getD j false := ⟨_, rfl⟩
  obtain ⟨g, hg⟩ : ∃ g : Nat → Bool, g = fun j => l2.getD j false := ⟨_, rfl⟩
  have Hf := Lib.hid hf
  have Hg := Lib.hid hg
  clear hf hg
  obtain ⟨br, hbr⟩ : ∃ br, br = decide (s.data.toList[0]? = some 91) := ⟨_, rfl⟩
  have Hbr := Lib.hid hbr
  clear hbr
  go_enter Tryz.func10, Tryz.ntmps10
  go_upto_region 1 with fail
  go_cut [25] (fun s25 wx => s25 = .bool br ∧ w = wx)
  case first =>
    by_cases hz : 0 < s.size
    · have hz1 : (0 : Int) < (s.size : Int) := by omega
      have hzd : decide ((0 : Int) < (s.size : Int)) = true := decide_eq_true hz1
      have hzd2 : decide (0 < s.size) = true := decide_eq_true hz
      have hg0 := get_of_lt hz
      have hB : ((s[0].toNat : Int) == 91) = br := by
        rw [Hbr.out, hg0]
        have h1 := beqI s[0] 91
        rw [show ((91 : UInt8).toNat : Int) = 91 from rfl] at h1
        rw [h1]
        by_cases h : s[0] = 91 <;> simp [h]
      clear hg0
      go_wp2_with fail
      go_meet
      exact ⟨rfl, rfl⟩
    · have hzd : decide ((0 : Int) < (s.size : Int)) = false := decide_eq_false (by omega)
      have hzd2 : decide (0 < s.size) = false := decide_eq_false hz
      have HB : Hid (br = false) := by
        show _ = _
        rw [Hbr.out, List.length_eq_zero_iff.1 (show s.data.toList.length = 0 by rw [len_of_size]; omega)]; rfl
      go_wp2_with fail
      go_meet
      exact ⟨by rw [HB.out], rfl⟩
  case rest =>
    obtain ⟨rfl, rfl⟩ := hcut
    cases br
    · have h91 : Hid (s.data.toList[0]? ≠ some 91) := Lib.hid (of_decide_eq_false Hbr.out.symm)
      clear Hbr
      go_wp2_with fail
      go_loopw [8, 9] (fun t i wr => ∃ (j : Nat) (u : ByteArray), j ≤ s.size ∧ t = .string u ∧ i = .int .i64 j ∧ u.size ≤ 3 * j ∧ Hid (u.data.toList = Lz.tripT f g 0 (s.data.toList.take j)) ∧ Hid (∀ c ∈ s.data.toList.take j, c ≠ 37) ∧ Below w.heap.size w wr) (fun _ i _ => s.size - (intOf i).toNat)
      case atStart => exact ⟨0, ⟨#[]⟩, Nat.zero_le _, rfl, rfl, Nat.le_refl _, Lib.hid rfl, Lib.hid (by simp), Below.refl _ w⟩
      case round =>
        obtain ⟨j, u, hj, rfl, rfl, huz, hu, h37, hb⟩ := hrel
        by_cases hlt : j < s.size
        · obtain ⟨c, hc⟩ : ∃ c, c = s[j] := ⟨_, rfl⟩
          have hgc := get_of_lt hlt
          rw [← hc] at hgc
          have hcI : (s[j].toNat : Int) = (c.toNat : Int) := by rw [hc]
          have Hgc := Lib.hid hgc
          have hcb := byte_lt c
          clear hgc hc
          by_cases hc37 : c = 37
          · have h37b : ((c.toNat : Int) == 37) = true := by rw [hc37]; rfl
            clear hc37
            go_wp2_with fail
            refine (houses_any _ (hE.below hb)).mono ?_
            rintro e w1 ⟨rfl, hb1⟩
            go_wp2
            go_ret
            exact ⟨rfl, below_call hb hb1⟩
          · have h37b : ((c.toNat : Int) == 37) = false := (beqI c 37).trans (beq_eq_false_iff_ne.2 hc37)
            obtain ⟨q, hq⟩ : ∃ q, q = (g j && Lz.isAlpha c) := ⟨_, rfl⟩
            have Hq := Lib.hid hq
            have H37 := Lib.hid hc37
            clear hq hc37
            go_upto_region 11 with fail
            go_cut [64] (fun s64 wx => s64 = .bool q ∧ wr = wx)
            case first =>
              by_cases hj2 : j < l2.length
              · obtain ⟨b, hbj⟩ : ∃ b, l2[j]? = some b := ⟨_, List.getElem?_eq_getElem hj2⟩
                obtain ⟨B, off, rfl, hBl, hcv⟩ := Hc2.out j b hbj
                have hcv2 : wr.cell? ⟨B, off + j, none⟩ = some (.bool b) := by rw [hb.cell (p := ⟨B, off + j, none⟩) hBl]; exact hcv
                have hgj : g j = b := by rw [Hg.out]; show l2.getD j false = b; rw [List.getD_eq_getElem?_getD, hbj]; rfl
                have hj2I : (j : Int) < (l2.length : Int) := by omega
                have hj2d : decide ((j : Int) < (l2.length : Int)) = true := decide_eq_true hj2I
                have hj0 : (0 : Int) ≤ (j : Int) := by omega
                clear hbj hcv
                cases b
                · have HA : Hid (q = false) := by show _ = _; rw [Hq.out, hgj]; rfl
                  go_wp2_with fail
                  go_meet
                  exact ⟨by rw [HA.out], rfl⟩
                · by_cases h1 : 97 ≤ (c.toNat : Int)
                  · by_cases h2 : (c.toNat : Int) ≤ 122
                    · have h3 : 65 ≤ (c.toNat : Int) := by omega
                      have h4 : ¬ (c.toNat : Int) ≤ 90 := by omega
                      have d1 := decide_eq_true h1
                      have d2 := decide_eq_true h2
                      have d3 := decide_eq_true h3
                      have d4 := decide_eq_false h4
                      have HA : Hid (q = true) := by
                        show _ = _
                        rw [Hq.out, hgj, alpha_split, d1, d2, d3, d4]; rfl
                      go_wp2_with fail
                      go_meet
                      exact ⟨by rw [HA.out], rfl⟩
                    · have h3 : 65 ≤ (c.toNat : Int) := by omega
                      have h4 : ¬ (c.toNat : Int) ≤ 90 := by omega
                      have d1 := decide_eq_true h1
                      have d2 := decide_eq_false h2
                      have d3 := decide_eq_true h3
                      have d4 := decide_eq_false h4
                      have HA : Hid (q = false) := by
                        show _ = _
                        rw [Hq.out, hgj, alpha_split, d1, d2, d3, d4]; rfl
                      go_wp2_with fail
                      go_meet
                      exact ⟨by rw [HA.out], rfl⟩
                  · have h2 : (c.toNat : Int) ≤ 122 := by omega
                    by_cases h3 : 65 ≤ (c.toNat : Int)
                    · by_cases h4 : (c.toNat : Int) ≤ 90
                      · have d1 := decide_eq_false h1
                        have d2 := decide_eq_true h2
                        have d3 := decide_eq_true h3
                        have d4 := decide_eq_true h4
                        have HA : Hid (q = true) := by
                          show _ = _
                          rw [Hq.out, hgj, alpha_split, d1, d2, d3, d4]; rfl
                        go_wp2_with fail
                        go_meet
                        exact ⟨by rw [HA.out], rfl⟩
                      · have d1 := decide_eq_false h1
                        have d2 := decide_eq_true h2
                        have d3 := decide_eq_true h3
                        have d4 := decide_eq_false h4
                        have HA : Hid (q = false) := by
                          show _ = _
                          rw [Hq.out, hgj, alpha_split, d1, d2, d3, d4]; rfl
                        go_wp2_with fail
                        go_meet
                        exact ⟨by rw [HA.out], rfl⟩
                    · have h4 : (c.toNat : Int) ≤ 90 := by omega
                      have d1 := decide_eq_false h1
                      have d2 := decide_eq_true h2
                      have d3 := decide_eq_false h3
                      have d4 := decide_eq_true h4
                      have HA : Hid (q = false) := by
                        show _ = _
                        rw [Hq.out, hgj, alpha_split, d1, d2, d3, d4]; rfl
                      go_wp2_with fail
                      go_meet
                      exact ⟨by rw [HA.out], rfl⟩
              · have hj2d : decide ((j : Int) < (l2.length : Int)) = false := decide_eq_false (by omega)
                have hj2I : ¬ (j : Int) < (l2.length : Int) := by omega
                have HA : Hid (q = false) := by
                  show _ = _
                  rw [Hq.out, Hg.out]
                  show (l2.getD j false && _) = false
                  rw [List.getD_eq_getElem?_getD, List.getElem?_eq_none (by omega)]; rfl
                go_wp2_with fail
                go_meet
                exact ⟨by rw [HA.out], rfl⟩
            case rest =>
              obtain ⟨rfl, rfl⟩ := hcut
              obtain ⟨d, hd⟩ : ∃ d, d = Lz.flip1 c (g j) := ⟨_, rfl⟩
              have Hd := Lib.hid hd
              clear hd
              go_upto_if 64 with fail
              go_cut [10] (fun s10 wx => s10 = .int .u8 (d.toNat : Int) ∧ wr = wx)
              case first =>
                cases q
                · have HD : Hid (d = c) := by
                    show _ = _
                    rw [Hd.out]; unfold Lz.flip1
                    rw [if_neg]
                    rw [← Hq.out]; simp
                  go_wp2_with fail
                  go_meet
                  exact ⟨by rw [HD.out], rfl⟩
                · have HD : Hid (d = c ^^^ 32) := by
                    show _ = _
                    rw [Hd.out]; unfold Lz.flip1
                    rw [if_pos Hq.out.symm]
                  have hx := xor32 c
                  go_wp2_with fail
                  go_meet
                  exact ⟨by rw [HD.out, UInt8.toNat_xor]; rfl, rfl⟩
              case rest =>
                obtain ⟨rfl, rfl⟩ := hcut
                clear Hq
                obtain ⟨r, hr⟩ : ∃ r, r = f j := ⟨_, rfl⟩
                have Hr := Lib.hid hr
                clear hr
                go_upto_region 13 with fail
                go_cut [76] (fun s76 wx => s76 = .bool r ∧ wr = wx)
                case first =>
                  by_cases hj2 : j < l1.length
                  · obtain ⟨b, hbj⟩ : ∃ b, l1[j]? = some b := ⟨_, List.getElem?_eq_getElem hj2⟩
                    obtain ⟨B, off, rfl, hBl, hcv⟩ := Hc1.out j b hbj
                    have hcv2 : wr.cell? ⟨B, off + j, none⟩ = some (.bool b) := by rw [hb.cell (p := ⟨B, off + j, none⟩) hBl]; exact hcv
                    have HA : Hid (r = b) := by show _ = _; rw [Hr.out, Hf.out]; show l1.getD j false = b; rw [List.getD_eq_getElem?_getD, hbj]; rfl
                    have hj2I : (j : Int) < (l1.length : Int) := by omega
                    have hj2d : decide ((j : Int) < (l1.length : Int)) = true := decide_eq_true hj2I
                    have hj0 : (0 : Int) ≤ (j : Int) := by omega
                    clear hbj hcv
                    go_wp2_with fail
                    go_meet
                    exact ⟨by rw [HA.out], rfl⟩
                  · have hj2d : decide ((j : Int) < (l1.length : Int)) = false := decide_eq_false (by omega)
                    have hj2I : ¬ (j : Int) < (l1.length : Int) := by omega
                    have HA : Hid (r = false) := by
                      show _ = _
                      rw [Hr.out, Hf.out]
                      show l1.getD j false = false
                      rw [List.getD_eq_getElem?_getD, List.getElem?_eq_none (by omega)]; rfl
                    go_wp2_with fail
                    go_meet
                    exact ⟨by rw [HA.out], rfl⟩
                case rest =>
                  obtain ⟨rfl, rfl⟩ := hcut
                  have hsn := Lz.tripT_snoc f g s.data.toList j c Hgc.out
                  have h37n : Hid (∀ x ∈ s.data.toList.take (j + 1), x ≠ 37) := by
                    show ∀ x ∈ _, _
                    intro x hx
                    rw [List.take_add_one, Hgc.out] at hx
                    rcases List.mem_append.1 hx with hx | hx
                    · exact h37.out x hx
                    · have : x = c := by simpa using hx
                      rw [this]; exact H37.out
                  unfold Lz.tripC at hsn
                  rw [← Hd.out, ← Hr.out] at hsn
                  have Hsn := Lib.hid hsn
                  clear hsn Hr Hd Hgc H37 h37
                  cases r
                  · have hcv := conv_one wr d
                    have Hcv := Lib.hid hcv
                    clear hcv
                    have hs1 : ¬ (9223372036854775807 < u.size + 1) := by omega
                    have hcv := Hcv.out
                    have hsz := hb.size
                    have HU : Hid ((u ++ (⟨#[d]⟩ : ByteArray)).data.toList = Lz.tripT f g 0 (s.data.toList.take (j + 1))) := by
                      show _ = _
                      rw [append_data', hu.out, Hsn.out]; rfl
                    have HZ : Hid ((u ++ (⟨#[d]⟩ : ByteArray)).size ≤ 3 * (j + 1)) := by
                      show _ ≤ _
                      rw [← len_of_size, append_data', List.length_append, len_of_size]
                      show u.size + 1 ≤ _
                      omega
                    clear hu Hsn
                    go_wp2_with fail
                    go_roundw
                    case rel => exact ⟨j + 1, _, by omega, rfl, by go_num, HZ.out, HU.out, h37n.out, hb.alloc hsz _⟩
                    case measure => simp [intOf]; omega
                  · obtain ⟨x, hx, hx16⟩ : ∃ x : Nat, d.toNat / 16 = x ∧ x < 16 := ⟨_, rfl, by have := d.toNat_lt; omega⟩
                    obtain ⟨y, hy, hy16⟩ : ∃ y : Nat, d.toNat % 16 = y ∧ y < 16 := ⟨_, rfl, by omega⟩
                    have hxI : (d.toNat : Int) / 16 = (x : Int) := by omega
                    have hyI : (d.toNat : Int) % 16 = (y : Int) := by omega
                    have Hx := Lib.hid hx
                    have Hy := Lib.hid hy
                    clear hx hy
                    have hxw : IntKind.u8.wrap ((x : Int) + 1) = (x : Int) + 1 := wrap8 (by omega) (by omega)
                    have hyw : IntKind.u8.wrap ((y : Int) + 1) = (y : Int) + 1 := wrap8 (by omega) (by omega)
                    have hx1 : (x : Int) + 1 ≤ 16 := by omega
                    have hy1 : (y : Int) + 1 ≤ 16 := by omega
                    have hx0 : (0 : Int) ≤ x := by omega
                    have hx2 : (0 : Int) ≤ (x : Int) + 1 := by omega
                    have hy2 : (0 : Int) ≤ (y : Int) + 1 := by omega
                    have hx3 : (x : Int) ≤ (x : Int) + 1 := by omega
                    have hy3 : (y : Int) ≤ (y : Int) + 1 := by omega
                    have hy0 : (0 : Int) ≤ y := by omega
                    have hs0 : ¬ (9223372036854775807 < u.size + 1) := by omega
                    have hs1 : ¬ (9223372036854775807 < u.size + 1 + (min (x + 1) 16 - x)) := by omega
                    have hs2 : ¬ (9223372036854775807 < u.size + 1 + (min (x + 1) 16 - x) + (min (y + 1) 16 - y)) := by omega
                    go_wp2_with fail
                    go_quiet (fail)
                    generalize hT : ((u ++ ({ data := #[37] } : ByteArray)) ++ ByteArray.extract { data := #[48, 49, 50, 51, 52, 53, 54, 55, 56, 57, 97, 98, 99, 100, 101, 102] } x (x + 1)) ++ ByteArray.extract { data := #[48, 49, 50, 51, 52, 53, 54, 55, 56, 57, 97, 98, 99, 100, 101, 102] } y (y + 1) = tx
                    have hTd : tx.data.toList = u.data.toList ++ [37, Lz.hex1 x, Lz.hex1 y] := by rw [← hT]; exact tripDigits ⟨x, hx16⟩ ⟨y, hy16⟩ u
                    have HU : Hid (tx.data.toList = Lz.tripT f g 0 (s.data.toList.take (j + 1))) := by
                      show _ = _
                      rw [hTd, hu.out, Hsn.out, Hx.out, Hy.out]; simp
                    have hZ : tx.size ≤ 3 * (j + 1) := by
                      rw [← len_of_size, hTd, List.length_append, len_of_size]
                      show u.size + 3 ≤ _
                      omega
                    clear hT hTd hu Hsn
                    go_wp2
                    go_roundw
                    case rel => exact ⟨j + 1, tx, by omega, rfl, by go_num, hZ, HU.out, h37n.out, below_drewN hb nq⟩
                    case measure => simp [intOf]; omega
        · have hjs : j = s.size := by omega
          have hjn : ¬ j < s.size := hlt
          have HU : Hid (u.data.toList = Lz.tripT f g 0 s.data.toList) := by
            show _ = _
            rw [hu.out, hjs, List.take_of_length_le (by rw [len_of_size]; exact Nat.le_refl _)]
          have HN : Hid (∀ c ∈ s.data.toList, c ≠ 37) := by
            have := h37.out
            rw [hjs, List.take_of_length_le (by rw [len_of_size]; exact Nat.le_refl _)] at this
            exact Lib.hid this
          have HT : Hid (Lz.hostPr u.data.toList true = Lz.hostPr s.data.toList true) := by
            show _ = _
            rw [HU.out]; exact Lz.trip_says f g s.data.toList h91.out HN.out
          have cP := fun W hW => ParseH_any s true (by omega) (fun h => by cases h) W hW
          have hE1 := hE.below hb
          clear hu h37 hjs hlt
          have CP := Lib.hid cP
          clear cP
          go_wp2_with fail
          refine (CP.out _ hE1).mono ?_
          rintro e w1 ⟨h, rfl, hh, hb1⟩
          have hb01 := below_call hb hb1
          have hE2 := hE1.below hb1
          have cI := fun W hW => is_any u true h ((resE (Lz.hostPr s.data.toList true) : Nat) : Int) (by omega) (fun h => by cases h) W hW
          have hI : isP u.data.toList true h.data.toList ((resE (Lz.hostPr s.data.toList true) : Nat) : Int) = true := by
            unfold isP
            rw [HT.out, hh.out]; simp
          rw [hI] at cI
          have CI := Lib.hid cI
          clear cI hI
          generalize ((resE (Lz.hostPr s.data.toList true) : Nat) : Int) = en at CI ⊢
          go_wp2_with fail
          refine (CI.out _ hE2).mono ?_
          rintro e w2 ⟨rfl, hb2⟩
          go_wp2_with fail
          refine (houses_any _ (hE2.below hb2)).mono ?_
          rintro e w3 ⟨rfl, hb3⟩
          go_wp2
          go_ret
          exact ⟨rfl, below_call (below_call hb01 hb2) hb3⟩
    · go_wp2_with fail
      refine (houses_any _ hE).mono ?_
      rintro e w1 ⟨rfl, hb⟩
      go_wp2
      go_ret
      exact ⟨rfl, hb⟩
end Go.Proofs.YtkaejkjheajaaaaGreatDoor
