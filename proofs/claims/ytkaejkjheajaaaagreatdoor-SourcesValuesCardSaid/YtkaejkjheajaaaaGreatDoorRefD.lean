/-
  The walk of the document's answer for source expressions, fourth part: quoted.
-/
import Derived.Test.YtkaejkjheajaaaaGreatDoorRefC
namespace Go.Proofs.YtkaejkjheajaaaaGreatDoor
open Go.RowKit

def kwObj : Obj := .cells #[.string ⟨#[115, 101, 108, 102]⟩, .string ⟨#[117, 110, 115, 97, 102, 101, 45, 105, 110, 108, 105, 110, 101]⟩, .string ⟨#[117, 110, 115, 97, 102, 101, 45, 101, 118, 97, 108]⟩, .string ⟨#[115, 116, 114, 105, 99, 116, 45, 100, 121, 110, 97, 109, 105, 99]⟩, .string ⟨#[117, 110, 115, 97, 102, 101, 45, 104, 97, 115, 104, 101, 115]⟩, .string ⟨#[114, 101, 112, 111, 114, 116, 45, 115, 97, 109, 112, 108, 101]⟩, .string ⟨#[119, 97, 115, 109, 45, 117, 110, 115, 97, 102, 101, 45, 101, 118, 97, 108]⟩, .string ⟨#[117, 110, 115, 97, 102, 101, 45, 97, 108, 108, 111, 119, 45, 114, 101, 100, 105, 114, 101, 99, 116, 115]⟩] 9
/-- The rows of quoted: the result's, and the words. -/
structure QRow (w wx : World) : Prop where
  row : ∃ cs : Array Value, cs.size = 8 ∧ wx.heap[w.heap.size]? = some (.cells cs 28 (0, 0))
  kws : wx.heap[w.heap.size + 1]? = some kwObj
  below : Below w.heap.size w wx
theorem QRow.call {w w1 w2 : World} (h : QRow w w1) (hb : Below w1.heap.size w1 w2) : QRow w w2 := by
  obtain ⟨⟨cs, h1, h3⟩, h4, h5⟩ := h
  exact ⟨⟨cs, h1, by rw [hb.block _ (Array.getElem?_eq_some_iff.1 h3).1]; exact h3⟩, by rw [hb.block _ (Array.getElem?_eq_some_iff.1 h4).1]; exact h4, below_call h5 hb⟩
theorem QRow.drew {w w1 : World} (h : QRow w w1) : QRow w w1.drew := ⟨h.row, h.kws, h.below.drew⟩
def kwAt (k : Nat) : ByteArray := ⟨(Lz.keywords.getD k []).toArray⟩
theorem QRow.kw {w w1 : World} (h : QRow w w1) {k : Nat} (hk : k < 8) : w1.cell? ⟨w.heap.size + 1, k, none⟩ = some (.string (kwAt k)) := by
  have h2 := h.kws
  unfold kwObj at h2
  rw [cell_of_row _ _ k _ _ _ h2]
  obtain rfl | rfl | rfl | rfl | rfl | rfl | rfl | rfl : k = 0 ∨ k = 1 ∨ k = 2 ∨ k = 3 ∨ k = 4 ∨ k = 5 ∨ k = 6 ∨ k = 7 := by omega
  all_goals rfl
theorem kwAt_data (k : Nat) : (kwAt k).data.toList = Lz.keywords.getD k [] := rfl
theorem kw_size : ∀ k, k < 8 → (kwAt k).size ≤ 100 := by decide +kernel
theorem kw_hit {l : List UInt8} {k : Nat} (hk : k < 8) (h : l = Lz.keywords.getD k []) : Lz.keywords.contains l = true := by
  rw [List.contains_iff_mem, h]
  have : k < Lz.keywords.length := hk
  simp only [List.getD_eq_getElem?_getD, List.getElem?_eq_getElem this, Option.getD_some]
  exact List.getElem_mem this
theorem kw_miss {l : List UInt8} (h : ∀ k, k < 8 → Lz.keywords.getD k [] ≠ l) : Lz.keywords.contains l = false := by
  rw [Bool.eq_false_iff]
  intro hc
  rw [List.contains_iff_mem] at hc
  obtain ⟨k, hk⟩ := List.getElem?_of_mem hc
  have hlt : k < 8 := (List.getElem?_eq_some_iff.1 hk).1
  refine h k hlt ?_
  simp only [List.getD_eq_getElem?_getD, hk, Option.getD_some]

def KRel (s : ByteArray) (w : World) (i : Value) (wr : World) : Prop :=
  ∃ k : Nat, k ≤ 8 ∧ i = .int .i64 k ∧ Hid (∀ j, j < k → Lz.keywords.getD j [] ≠ Lz.low s.data.toList) ∧ QRow w wr
def BRel (s : ByteArray) (w : World) (i : Value) (wr : World) : Prop :=
  ∃ (k : Nat) (b : Int), k ≤ 3 ∧ i = .int .i64 b ∧ b = 256 + 128 * k ∧ Hid (∀ j, j < k → Lz.shaS s.data.toList (bitsOf j) = none) ∧ QRow w wr

set_option maxHeartbeats 2000000 in
set_option maxRecDepth 100000 in
theorem quoted25_any (s : ByteArray) (hs : s.size ≤ 1048576) (w : World) (hE : Env w) : Calls Tryz.prog 30 #[.string s] w (RSrcB (Lz.quotedS s.data.toList) w) := by
  go_enter Tryz.func30, Tryz.ntmps30
  go_wp2
  go_loopw [5] (fun i wr => KRel s w i wr) (fun i _ => 8 - (intOf i).toNat)
  case atStart =>
    refine ⟨0, by omega, rfl, Lib.hid (fun j h => by omega), ?_⟩
    refine ⟨⟨#[.int .i64 0, .string ⟨#[]⟩, .int .i64 0, .string ⟨#[]⟩, .string ⟨#[]⟩, .bool false, .int .i64 0, .string ⟨#[]⟩], rfl, ?_⟩, ?_, ((Below.refl _ w).alloc (Nat.le_refl _) _).alloc (by simp) _⟩
    · exact (alloc_two (Below.refl _ _)).1
    · exact (alloc_two (Below.refl _ _)).2
  case round =>
    obtain ⟨k, hk, rfl, hno, hQ⟩ := hrel
    by_cases hlt : k < 8
    · have hkw := hQ.kw hlt
      have hkd := hQ.drew.kw hlt
      have hkz := kw_size k hlt
      have hb : ∀ u : ByteArray, u.data.toList = Lz.low s.data.toList → (u.toList == (kwAt k).toList) = decide (Lz.keywords.getD k [] = Lz.low s.data.toList) := by
        intro u hu
        rw [Lib.toList_data, Lib.toList_data, hu, kwAt_data]
        by_cases h : Lz.keywords.getD k [] = Lz.low s.data.toList
        · rw [decide_eq_true h, h]; simp
        · rw [decide_eq_false h]; rw [beq_eq_false_iff_ne]; exact fun e => h e.symm
      obtain ⟨q, hq⟩ : ∃ q, q = decide (Lz.keywords.getD k [] = Lz.low s.data.toList) := ⟨_, rfl⟩
      rw [← hq] at hb
      have Hb := Lib.hid hb
      have Hq := Lib.hid hq
      have HQ := Lib.hid hQ
      clear hb hq hQ
      go_upto_region 5 with fail
      go_cut [22] (fun s22 wx => s22 = .bool q ∧ QRow w wx)
      case first =>
        go_region_with ((go_at_call 32; (refine (Lower02_c s (by omega) _).mono ?_); (rintro e w9 ⟨u, rfl, hu, hb9⟩); (have hq9 := Hb.out u hu.out); (have hQ9 : QRow w w9 := QRow.call (by first | exact HQ.out.drew | exact HQ.out) hb9); (have hk9 := hQ9.kw hlt)))
        all_goals
          clear hq9
          go_wp2_with fail
          go_meet
          exact ⟨by rw [← Hb.out u hu.out], hQ9⟩
      case rest =>
        clear HQ hkw hkd Hb
        obtain ⟨rfl, hQ⟩ := hcut
        have hkw := hQ.kw hlt
        cases q
        · go_wp2
          go_roundw
          case rel => exact ⟨k + 1, by omega, by go_num, Lib.hid (fun j hj => by
            by_cases hjk : j < k
            · exact hno.out j hjk
            · obtain rfl : j = k := by omega
              exact of_decide_eq_false Hq.out.symm), hQ⟩
          case measure => simp [intOf]; omega
        · have HK : Hid (Lz.quotedS s.data.toList = some (Lz.keyS (Lz.keywords.getD k []))) := by
            show _ = _
            have h := of_decide_eq_true Hq.out.symm
            unfold Lz.quotedS
            rw [kw_hit hlt h.symm, if_pos rfl, h]
          obtain ⟨⟨cs, hcsz, hR1⟩, hK1, hx1⟩ := hQ
          clear hK1
          go_wp2_with (refine store_src rfl _ _ rfl w.heap.size rfl rfl _ hR1 hcsz ?_)
          refine bodyPost_ret (results_src (u := 3) rfl _ _ w.heap.size ⟨1, kwAt k, 0, ⟨#[]⟩, ⟨#[]⟩, false, -1, ⟨#[]⟩⟩ (0, 0) rfl (setRow_heap _ _ _ _ _ _ hR1)) rfl ⟨⟨1, kwAt k, 0, ⟨#[]⟩, ⟨#[]⟩, false, -1, ⟨#[]⟩⟩, ?_, ?_, below_setRow hx1 (Nat.le_refl _) _⟩
          · rw [HK.out]; rfl
          · rw [HK.out]; exact Lib.hid (fun y hy => Option.some.inj hy)
    · have HK : Hid (Lz.keywords.contains (Lz.low s.data.toList) = false) := by
        show _ = _
        exact kw_miss (fun j hj => hno.out j (by omega))
      clear hno
      go_wp2_with fail
      refine (behind_any s ⟨#[110, 111, 110, 99, 101, 45]⟩ (by omega) _).mono ?_
      rintro e w2 ⟨v, rfl, hv, hvz, hb2⟩
      have hQ2 := hQ.call hb2
      clear hb2 hQ
      generalize hhp : Lib.hasPrefix (Lz.low s.data.toList) (ByteArray.data ⟨#[110, 111, 110, 99, 101, 45]⟩).toList = hp at hv
      have Hhp := Lib.hid hhp
      have cB := Lib.hid (base25_any v (by omega) w2)
      generalize hbb : Lz.baseB v.data.toList = bb at cB
      have Hbb := Lib.hid hbb
      clear hbb hhp
      by_cases hN : hp = true ∧ bb = true
      · obtain ⟨rfl, rfl⟩ := hN
        have hd := hv.out (by trivial)
        have HR : Hid (Lz.quotedS s.data.toList = some (Lz.nonceS v.data.toList)) := by
          show _ = _
          unfold Lz.quotedS
          have h1 : Lib.hasPrefix (Lz.low s.data.toList) Lz.sNonce = true := Hhp.out
          have h2 : s.data.toList.drop 6 = v.data.toList := hd.symm
          rw [HK.out, h1, h2, Hbb.out]
          rfl
        clear hd hv
        obtain ⟨⟨cs, hcsz, hR1⟩, hK1, hx1⟩ := hQ2
        clear hK1
        go_wp2_with (first | (go_at_call 53; (with_reducible refine (cB.out).mono ?_); rintro e w3 ⟨rfl, rfl⟩) | (refine store_src rfl _ _ rfl w.heap.size rfl rfl _ hR1 hcsz ?_))
        refine bodyPost_ret (results_src (u := 3) rfl _ _ w.heap.size ⟨4, v, 0, ⟨#[]⟩, ⟨#[]⟩, false, -1, ⟨#[]⟩⟩ (0, 0) rfl (setRow_heap _ _ _ _ _ _ hR1)) rfl ⟨⟨4, v, 0, ⟨#[]⟩, ⟨#[]⟩, false, -1, ⟨#[]⟩⟩, ?_, ?_, below_setRow hx1 (Nat.le_refl _) _⟩
        · rw [HR.out]; rfl
        · rw [HR.out]; exact Lib.hid (fun y hy => Option.some.inj hy)
      · have Hrest : Hid (Lz.quotedS s.data.toList = (Lz.shaS s.data.toList 256).or ((Lz.shaS s.data.toList 384).or (Lz.shaS s.data.toList 512))) := by
          show _ = _
          unfold Lz.quotedS
          have h1 : (Lib.hasPrefix (Lz.low s.data.toList) Lz.sNonce && Lz.baseB (s.data.toList.drop 6)) = false := by
            cases hp
            · have : Lib.hasPrefix (Lz.low s.data.toList) Lz.sNonce = false := Hhp.out
              rw [this]; rfl
            · have hd : v.data.toList = s.data.toList.drop 6 := hv.out (by trivial)
              rw [← hd, Hbb.out]
              cases bb <;> simp_all
          rw [HK.out, h1]
          rfl
        have hcase : (hp = false) ∨ (hp = true ∧ bb = false) := by cases hp <;> cases bb <;> simp_all
        clear hN hv Hhp Hbb HK
        rcases hcase with rfl | ⟨rfl, rfl⟩
        all_goals
          go_wp2_with (go_at_call 53; (with_reducible refine (cB.out).mono ?_); rintro e w3 ⟨rfl, rfl⟩)
          clear cB
          go_loopw [8] (fun i wr => BRel s w i wr) (fun i _ => (640 - intOf i).toNat)
          case atStart => exact ⟨0, 256, by omega, rfl, by omega, Lib.hid (fun j h => by omega), hQ2⟩
          case round =>
            clear hQ2
            obtain ⟨k2, b, hk2, rfl, hbk, hno, hQ2⟩ := hrel
            have Hbk := Lib.hid hbk
            by_cases hlt2 : k2 < 3
            · have hb0 : 256 ≤ b := by omega
              have hb1 : b ≤ 512 := by omega
              have hil := itoa_bits_len k2 hlt2
              have hbits : bitsOf k2 = b := by unfold bitsOf; omega
              rw [hbits] at hil
              have Hil := Lib.hid hil
              have Hbits := Lib.hid hbits
              clear hil hbits hbk
              go_wp2_with fail
              refine (Itoa_c b (by omega) (by omega) _ (hE.below hQ2.below)).mono ?_
              rintro e w3 ⟨t, rfl, ht, hb3⟩
              have htz : t.size ≤ 3 := by rw [← len_of_size, ht.out, Hil.out]; omega
              have hQ3 := hQ2.call hb3
              clear hb3 hQ2
              go_wp2_with fail
              refine (behind_any s _ (by omega) _).mono ?_
              rintro e w4 ⟨v2, rfl, hv2, hv2z, hb4⟩
              have hQ4 := hQ3.call hb4
              clear hb4 hQ3
              have hsd := sSha_data t b ht.out
              rw [hsd] at hv2
              rw [hsd]
              generalize hhp : Lib.hasPrefix (Lz.low s.data.toList) (Lz.sSha b) = hp2 at hv2
              have Hhp2 := Lib.hid hhp
              have Hsd := Lib.hid hsd
              have cB2 := Lib.hid (base25_any v2 (by omega) w4)
              generalize hbb : Lz.baseB v2.data.toList = bb2 at cB2
              have Hbb2 := Lib.hid hbb
              clear hhp hbb hsd
              by_cases hN2 : hp2 = true ∧ bb2 = true
              · obtain ⟨rfl, rfl⟩ := hN2
                have hd : v2.data.toList = s.data.toList.drop (Lz.sSha b).length := by
                  have h := hv2.out (by trivial)
                  rw [h, ← Hsd.out, len_of_size]
                have hsk : Lz.shaS s.data.toList (bitsOf k2) = some (Lz.hashS v2.data.toList b) := by
                  rw [Hbits.out]
                  unfold Lz.shaS
                  rw [← hd, Hhp2.out, Hbb2.out]
                  rfl
                have HR : Hid (Lz.quotedS s.data.toList = some (Lz.hashS v2.data.toList b)) := by
                  show _ = _
                  rw [Hrest.out, sha_or hlt2 hno.out hsk]
                clear hd hsk hv2
                obtain ⟨⟨cs, hcsz, hR1⟩, hK1, hx1⟩ := hQ4
                clear hK1
                go_wp2_with (first | (go_at_call 53; (with_reducible refine (cB2.out).mono ?_); rintro e w3 ⟨rfl, rfl⟩) | (refine store_src rfl _ _ rfl w.heap.size rfl rfl _ hR1 hcsz ?_))
                refine bodyPost_ret (results_src (u := 3) rfl _ _ w.heap.size ⟨5, v2, b, ⟨#[]⟩, ⟨#[]⟩, false, -1, ⟨#[]⟩⟩ (0, 0) rfl (setRow_heap _ _ _ _ _ _ hR1)) rfl ⟨⟨5, v2, b, ⟨#[]⟩, ⟨#[]⟩, false, -1, ⟨#[]⟩⟩, ?_, ?_, below_setRow hx1 (Nat.le_refl _) _⟩
                · rw [HR.out]; rfl
                · rw [HR.out]; exact Lib.hid (fun y hy => Option.some.inj hy)
              · have hsn : Lz.shaS s.data.toList (bitsOf k2) = none := by
                  rw [Hbits.out]
                  refine sha_none_of ?_
                  rw [Hhp2.out]
                  cases hp2
                  · rfl
                  · have h := hv2.out (by trivial)
                    rw [← len_of_size, Hsd.out] at h
                    rw [← h, Hbb2.out]
                    cases bb2 <;> simp_all
                have Hsn := Lib.hid hsn
                have hcase : (hp2 = false) ∨ (hp2 = true ∧ bb2 = false) := by cases hp2 <;> cases bb2 <;> simp_all
                clear hsn hN2 hv2 Hhp2 Hbb2
                rcases hcase with rfl | ⟨rfl, rfl⟩
                all_goals
                  go_wp2_with (go_at_call 53; (with_reducible refine (cB2.out).mono ?_); rintro e w3 ⟨rfl, rfl⟩)
                  go_roundw
                  case rel => exact ⟨k2 + 1, b + 128, by omega, rfl, by have := Hbk.out; omega, Lib.hid (fun j hj => by
                    by_cases hjk : j < k2
                    · exact hno.out j hjk
                    · obtain rfl : j = k2 := by omega
                      exact Hsn.out), hQ4⟩
                  case measure => simp [intOf]; omega
            · have hb1 : 512 < b := by omega
              have HR : Hid (Lz.quotedS s.data.toList = none) := by
                show _ = _
                rw [Hrest.out, sha_or_none (fun j hj => hno.out j (by omega))]
              obtain ⟨⟨cs, hcsz, hR1⟩, hK1, hx1⟩ := hQ2
              clear hK1 hbk hno
              go_wp2_with (refine store_src rfl _ _ rfl w.heap.size rfl rfl _ hR1 hcsz ?_)
              refine bodyPost_ret (results_src (u := 3) rfl _ _ w.heap.size ⟨0, ⟨#[]⟩, 0, ⟨#[]⟩, ⟨#[]⟩, false, 0, ⟨#[]⟩⟩ (0, 0) rfl (setRow_heap _ _ _ _ _ _ hR1)) rfl ⟨⟨0, ⟨#[]⟩, 0, ⟨#[]⟩, ⟨#[]⟩, false, 0, ⟨#[]⟩⟩, ?_, ?_, below_setRow hx1 (Nat.le_refl _) _⟩
              · rw [HR.out]; rfl
              · rw [HR.out]; exact Lib.hid (fun y hy => by cases hy)
end Go.Proofs.YtkaejkjheajaaaaGreatDoor
