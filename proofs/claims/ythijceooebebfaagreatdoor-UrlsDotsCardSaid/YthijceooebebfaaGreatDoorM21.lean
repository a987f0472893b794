/-
  Package urls: on.
  Package urls: the last @, host, port.
-/
import Derived.Test.YthijceooebebfaaGreatDoorM20
import Derived.Test.YthijceooebebfaaGreatDoorM13
namespace Go.Proofs.YthijceooebebfaaGreatDoor
open Go.RowKit

def strLen : Value → Nat
  | .string s => s.size
  | _ => 0
def bitN : Value → Nat
  | .bool true => 1
  | _ => 0
theorem shortP_len (s : List UInt8) (l : List (List UInt8)) : (Lz.shortP s l).length ≤ l.length := by
  unfold Lz.shortP; split
  · exact Nat.le_refl _
  · simp
/-- One round of on is left. -/
def OnRel (B M : Nat) (goal : Lz.UrlL) (L : Nat) (w : World) (t m : Value) (wr : World) : Prop :=
  ∃ (tb : ByteArray) (b : Bool) (u : Lz.UrlL), t = .string tb ∧ m = .bool b ∧ Below B w wr ∧ MkIs B M wr u ∧ Hid (goal = if b then Lz.onP u tb.data.toList else u) ∧ (b = true → u.path.length + tb.size ≤ L)
theorem mkis_path {B M : Nat} {w : World} {sch usr pas : ByteArray} {hh : Bool} {hst : ByteArray} {prt : Int} {opq : Bool} {pv : Value} {xs : List ByteArray} {hq hf : Bool} {qry frg : ByteArray} {l : List (List UInt8)}
    (h : MkAt B M w ⟨sch, usr, pas, hh, hst, prt, opq, pv, xs, hq, hf, qry, frg⟩ (Lz.specP sch.data.toList) (slashB (Lz.specP sch.data.toList))) (hl : xs.map (fun x : ByteArray => x.data.toList) = l) :
    MkIs B M w ⟨sch.data.toList, usr.data.toList, pas.data.toList, hh, hst.data.toList, prt, opq, l, hq, hf, qry.data.toList, frg.data.toList⟩ := ⟨_, h, Lib.hid (by rw [← hl]; rfl)⟩
theorem app_is {B M : Nat} {w : World} {sch usr pas : ByteArray} {hh : Bool} {hst : ByteArray} {prt : Int} {opq : Bool} {pv : Value} {xs : List ByteArray} {hq hf : Bool} {qry frg p : ByteArray} {u : Lz.UrlL}
    (h : MkAt B M w ⟨sch, usr, pas, hh, hst, prt, opq, pv, xs ++ [p], hq, hf, qry, frg⟩ (Lz.specP sch.data.toList) (slashB (Lz.specP sch.data.toList)))
    (hu : u = ⟨sch.data.toList, usr.data.toList, pas.data.toList, hh, hst.data.toList, prt, opq, xs.map (fun x : ByteArray => x.data.toList), hq, hf, qry.data.toList, frg.data.toList⟩) :
    MkIs B M w { u with path := u.path ++ [p.data.toList] } := by
  subst hu
  exact mkis_path h (by simp)
theorem map_snoc (xs : List ByteArray) (p : ByteArray) : (xs ++ [p]).map (fun x : ByteArray => x.data.toList) = xs.map (fun x : ByteArray => x.data.toList) ++ [p.data.toList] := by simp

set_option maxHeartbeats 2000000 in
set_option maxRecDepth 100000 in
theorem on_any (B M : Nat) (t : ByteArray) (u : Lz.UrlL) (w : World) (hE : EnvH w) (hm : MkIs B M w u) (hB : B ≤ w.heap.size) (hBg : 9 ≤ B) (hL : u.path.length + t.size ≤ 100000000) :
    Calls Tryz.prog 71 #[.pointer (some ⟨M, 0, none⟩), .string t] w (RMk B M (Lz.onP u t.data.toList) w) := by
  obtain ⟨goal, hgoal⟩ : ∃ goal, goal = Lz.onP u t.data.toList := ⟨_, rfl⟩
  rw [← hgoal]
  have Hgoal := Lib.hid hgoal
  clear hgoal
  have HE := Lib.hid hE
  have Hm := Lib.hid hm
  clear hE hm
  go_enter Tryz.func71, Tryz.ntmps71
  go_wp2_with fail
  go_loopw [1, 4] (fun tv mv wr => OnRel B M goal 100000000 w tv mv wr) (fun tv mv _ => if bitN mv = 1 then strLen tv + 1 else 0)
  case atStart => exact ⟨t, true, u, rfl, rfl, Below.refl _ _, Hm.out, Lib.hid Hgoal.out, fun _ => hL⟩
  case round =>
    obtain ⟨tb, b, u', rfl, rfl, hbw, hmr, hG, hLr⟩ := hrel
    have hEr := HE.out.at hbw hBg
    have hBr : B ≤ wr.heap.size := Nat.le_trans hB hbw.size
    cases b with
    | false =>
      have HF : Hid (goal = u') := Lib.hid hG.out
      go_wp2_with fail
      go_end0
      exact ⟨rfl, hbw, by rw [HF.out]; exact hmr⟩
    | true =>
      have hLr := hLr rfl
      have hsp : ∃ sp, sp = Lz.specP u'.scheme := ⟨_, rfl⟩
      obtain ⟨sp, hsp⟩ := hsp
      have h13 : wr.cell? ⟨M, 13, none⟩ = some (.string (slashB sp)) := by
        obtain ⟨sch, usr, pas, hh, hst, prt, opq, a, c, xs, hq, hf, qry, frg, hk, rfl, _, _⟩ := hmr.form
        rw [hsp]; exact rowAt hk.row 13 _ rfl
      have cC := Lib.hid (cutM_any M sp tb (by omega) wr h13)
      have hstep := Lz.onP_step u' tb.data.toList
      rw [← hsp] at hstep
      generalize hcut : Lz.cutS sp tb.data.toList = cc at cC hstep
      obtain ⟨pl, rl, more⟩ := cc
      have hG2 : Hid (goal = if more then Lz.onP { u' with path := Lz.stepL u'.scheme u'.path pl true } rl else { u' with path := Lz.stepL u'.scheme u'.path pl false }) := by
        show _ = _
        rw [hG.out, if_pos rfl, hstep]
      have hlen : more = true → pl.length + rl.length + 1 = tb.size := by
        intro hm
        have := Lz.cutS_more_len (sp := sp) (s := tb.data.toList) (by rw [hcut]; exact hm)
        rw [hcut, len_of_size] at this
        exact this
      have hlen2 : pl.length ≤ tb.size := by
        have := Lz.cutS_len sp tb.data.toList
        rw [hcut, len_of_size] at this
        simp only at this
        omega
      clear hG hcut hstep h13
      have HL := Lib.hid hlen
      clear hlen
      go_wp2_with fail
      refine cC.out.mono ?_
      rintro e w1 ⟨pb, rb, rfl, hpb, hrb, hb1⟩
      have hps : pb.size ≤ 100000000 := by rw [← len_of_size, hpb.out]; omega
      have cE := Lib.hid (Encode_any 4 (by decide) pb (by omega) w1)
      go_wp2_with fail
      refine cE.out.mono ?_
      rintro e w2 ⟨qb, rfl, hqb, hb2⟩
      have hqs : qb.size ≤ 300000000 := by
        have := Lz.enc_len3 (Lz.moreP 4) pb.data.toList
        rw [← hqb.out, len_of_size, len_of_size] at this
        omega
      have hb12 := below_call hb1 hb2
      have cD := Lib.hid (dots_any qb (by omega) w2 (hEr.below hb12))
      go_wp2_with fail
      refine cD.out.mono ?_
      rintro e w3 ⟨rfl, hb3⟩
      have hb13 := below_call hb12 hb3
      have hm3 := hmr.below hb13
      have hbw3 : Below B w w3 := hbw.trans (hb13.mono hBr)
      have hB3 : B ≤ w3.heap.size := Nat.le_trans hBr hb13.size
      have hqe : Lz.encodeP (Lz.setU 4) pl = qb.data.toList := by rw [hqb.out, hpb.out]; rfl
      have hrl : rl = rb.data.toList := hrb.out.symm
      clear hqb hpb hrb hb1 hb2 hb3 hb12 hb13 cC cE cD hmr
      generalize hd : Lz.dotsP qb.data.toList = d
      have hdq : Lz.dotsP (Lz.encodeP (Lz.setU 4) pl) = d := by rw [hqe]; exact hd
      have hnext : Hid (∀ (wx : World) (ux : Lz.UrlL), Below B w wx → MkIs B M wx ux → ux = { u' with path := Lz.stepL u'.scheme u'.path pl more } → OnRel B M goal 100000000 w (.string rb) (.bool more) wx) := by
        intro wx ux hbx hmx hux
        refine ⟨rb, more, ux, rfl, rfl, hbx, hmx, Lib.hid ?_, ?_⟩
        · rw [hG2.out, hux, hrl]; cases more <;> rfl
        · rw [hux]
          intro hmt
          have h1 := Lz.stepL_len u'.scheme u'.path pl more
          have h2 : rb.size = rl.length := by rw [hrl, len_of_size]
          show (Lz.stepL u'.scheme u'.path pl more).length + rb.size ≤ _
          have := HL.out hmt; omega
      have hmeas : Hid (more = true → rb.size + 1 < tb.size + 1) := by
        intro hm
        have := HL.out hm
        have h2 : rb.size = rl.length := by rw [hrl, len_of_size]
        omega
      rcases Lz.dotsP_cases qb.data.toList with h0 | h0 | h0
      · -- a text
        obtain rfl : d = 0 := by rw [← hd]; exact h0
        clear hd h0
        obtain ⟨sch, usr, pas, hh, hst, prt, opq, a, c, xs, hq, hf, qry, frg, hk, hux, hc, hcells⟩ := hm3.form
        have hxl : xs.length ≤ 1000000000 := by
          have h1 := congrArg (fun z : Lz.UrlL => z.path.length) hux
          simp only [List.length_map] at h1
          rw [← h1]
          omega
        have hus : u'.scheme = sch.data.toList := by rw [hux]
        have hup : u'.path = xs.map (fun x : ByteArray => x.data.toList) := by rw [hux]
        have c7 := rowAt hk.row 7 (.slice a xs.length c) rfl
        have c0 := rowAt hk.row 0 (.string sch) rfl
        have hA : Hid (¬ (u'.scheme = Lz.fileS ∧ u'.path = [] ∧ Lz.driveP qb.data.toList = true) → ({ u' with path := u'.path ++ [qb.data.toList] } : Lz.UrlL) = { u' with path := Lz.stepL u'.scheme u'.path pl more }) := by
          intro hn
          rw [Lz.stepL_dots0 _ _ _ _ hdq, hqe, if_neg hn]
        by_cases hf0 : sch.data.toList = Lz.fileS
        · have g0 := text_yes (k := [102, 105, 108, 101]) hf0
          by_cases hx : xs = []
          · have hzl : ((xs.length : Int) == 0) = true := by rw [hx]; rfl
            have cR := drive_any qb w3
            cases hdr : Lz.driveP qb.data.toList with
            | true =>
              have hz : qb.size = 2 := drive_size hdr
              have hz1 : (1 : Int) ≤ (qb.size : Int) := by omega
              have hz2 : ¬ (9223372036854775807 < (qb.extract 0 1).size + (⟨#[58]⟩ : ByteArray).size) := by
                have := extract_size_le' qb 0 1
                have h1 : (⟨#[58]⟩ : ByteArray).size = 1 := rfl
                omega
              have hP : Hid ((qb.extract 0 1 ++ ⟨#[58]⟩).data.toList = qb.data.toList.take 1 ++ [58]) := by
                show _ = _
                rw [append_data', extract_head2]
              have hAB : Hid (({ u' with path := u'.path ++ [(qb.extract 0 1 ++ ⟨#[58]⟩).data.toList] } : Lz.UrlL) = { u' with path := Lz.stepL u'.scheme u'.path pl more }) := by
                show _ = _
                rw [Lz.stepL_dots0 _ _ _ _ hdq, hqe, if_pos ⟨by rw [hus]; exact hf0, by rw [hup, hx]; rfl, hdr⟩, hP.out]
              rw [hdr] at cR
              have CR := Lib.hid cR
              clear cR hf0 hdr hz hx
              go_wp2_with fail
              refine CR.out.mono ?_
              rintro e w4 ⟨rfl, rfl⟩
              have hoa := hk.own.below ((Below.refl _ w3).alloc (Nat.le_refl _) (.cells #[.string (qb.extract 0 1 ++ ⟨#[58]⟩)] 9))
              go_wp2_with (at_builtin; refine wpList_append_path _ rfl (.tmp 64) (.tmp 66) rfl B _ xs rfl hoa ⟨w3.heap.size, 0, none⟩ 1 (qb.extract 0 1 ++ ⟨#[58]⟩) rfl (cell_one _ _ _ 0 _ rfl) hxl (by simp; omega) ?_)
              intro g7 n7 c7' w5 row hown5 hg hrow
              obtain ⟨hb5, hM5⟩ := app_mid hk hB3 hg hrow
              have c75 := rowAt hM5 7 (.slice a xs.length c) rfl
              have f75 := rowFz hM5 7
              obtain ⟨hb6, hk6⟩ := app_done hb5 hM5 hk.le hown5
              have hm6 := app_is hk6 hux
              have hb7 := hbw3.trans hb6
              go_wp2_with fail
              go_roundw
              case measure => cases more with
                | true => have := hmeas.out (by trivial); simp [bitN, strLen]; omega
                | false => simp [bitN, strLen]
              case rel => exact hnext.out _ _ hb7 hm6 (by exact hAB.out)
            | false =>
              have hAB := Lib.hid (hA.out (fun h => by rw [hdr] at h; exact absurd h.2.2 (by simp)))
              rw [hdr] at cR
              have CR := Lib.hid cR
              clear cR hf0 hdr hx
              go_wp2_with fail
              refine CR.out.mono ?_
              rintro e w4 ⟨rfl, rfl⟩
              have hoa := hk.own.below ((Below.refl _ w3).alloc (Nat.le_refl _) (.cells #[.string qb] 9))
              go_wp2_with (at_builtin; refine wpList_append_path _ rfl (.tmp 64) (.tmp 66) rfl B _ xs rfl hoa ⟨w3.heap.size, 0, none⟩ 1 qb rfl (cell_one _ _ _ 0 _ rfl) hxl (by simp; omega) ?_)
              intro g7 n7 c7' w5 row hown5 hg hrow
              obtain ⟨hb5, hM5⟩ := app_mid hk hB3 hg hrow
              have c75 := rowAt hM5 7 (.slice a xs.length c) rfl
              have f75 := rowFz hM5 7
              obtain ⟨hb6, hk6⟩ := app_done hb5 hM5 hk.le hown5
              have hm6 := app_is hk6 hux
              have hb7 := hbw3.trans hb6
              go_wp2_with fail
              go_roundw
              case measure => cases more with
                | true => have := hmeas.out (by trivial); simp [bitN, strLen]; omega
                | false => simp [bitN, strLen]
              case rel => exact hnext.out _ _ hb7 hm6 (by exact hAB.out)
          · have hne : xs ≠ [] := hx
            have hzl : ((xs.length : Int) == 0) = false := by
              have : 0 < xs.length := List.length_pos_iff.2 hne
              rw [beq_eq_false_iff_ne]; omega
            have hAB := Lib.hid (hA.out (fun h => hne (by rw [hup] at h; simpa using h.2.1)))
            clear hf0 hx hne
            have hoa := hk.own.below ((Below.refl _ w3).alloc (Nat.le_refl _) (.cells #[.string qb] 9))
            go_wp2_with (at_builtin; refine wpList_append_path _ rfl (.tmp 64) (.tmp 66) rfl B _ xs rfl hoa ⟨w3.heap.size, 0, none⟩ 1 qb rfl (cell_one _ _ _ 0 _ rfl) hxl (by simp; omega) ?_)
            intro g7 n7 c7' w5 row hown5 hg hrow
            obtain ⟨hb5, hM5⟩ := app_mid hk hB3 hg hrow
            have c75 := rowAt hM5 7 (.slice a xs.length c) rfl
            have f75 := rowFz hM5 7
            obtain ⟨hb6, hk6⟩ := app_done hb5 hM5 hk.le hown5
            have hm6 := app_is hk6 hux
            have hb7 := hbw3.trans hb6
            go_wp2_with fail
            go_roundw
            case measure => cases more with
              | true => have := hmeas.out (by trivial); simp [bitN, strLen]; omega
              | false => simp [bitN, strLen]
            case rel => exact hnext.out _ _ hb7 hm6 (by exact hAB.out)
        · have g0 := text_no (k := [102, 105, 108, 101]) hf0
          have hAB := Lib.hid (hA.out (fun h => hf0 (by rw [← hus]; exact h.1)))
          clear hf0
          have hoa := hk.own.below ((Below.refl _ w3).alloc (Nat.le_refl _) (.cells #[.string qb] 9))
          go_wp2_with (at_builtin; refine wpList_append_path _ rfl (.tmp 64) (.tmp 66) rfl B _ xs rfl hoa ⟨w3.heap.size, 0, none⟩ 1 qb rfl (cell_one _ _ _ 0 _ rfl) hxl (by simp; omega) ?_)
          intro g7 n7 c7' w5 row hown5 hg hrow
          obtain ⟨hb5, hM5⟩ := app_mid hk hB3 hg hrow
          have c75 := rowAt hM5 7 (.slice a xs.length c) rfl
          have f75 := rowFz hM5 7
          obtain ⟨hb6, hk6⟩ := app_done hb5 hM5 hk.le hown5
          have hm6 := app_is hk6 hux
          have hb7 := hbw3.trans hb6
          go_wp2_with fail
          go_roundw
          case measure => cases more with
            | true => have := hmeas.out (by trivial); simp [bitN, strLen]; omega
            | false => simp [bitN, strLen]
          case rel => exact hnext.out _ _ hb7 hm6 (by exact hAB.out)
      · -- one dot
        obtain rfl : d = 1 := by rw [← hd]; exact h0
        clear hd h0
        cases more with
        | true =>
          go_wp2_with fail
          go_roundw
          case measure => have := hmeas.out (by trivial); simp [bitN, strLen]; omega
          case rel => exact hnext.out _ _ hbw3 hm3 (by rw [Lz.stepL_dots1 _ _ _ _ hdq]; rfl)
        | false =>
          obtain ⟨sch, usr, pas, hh, hst, prt, opq, a, c, xs, hq, hf, qry, frg, hk, hux, hc, hcells⟩ := hm3.form
          have hxl : xs.length ≤ 1000000000 := by
            have h1 := congrArg (fun z : Lz.UrlL => z.path.length) hux
            simp only [List.length_map] at h1
            rw [← h1]
            omega
          have c7 := rowAt hk.row 7 (.slice a xs.length c) rfl
          have hoa := hk.own.below ((Below.refl _ w3).alloc (Nat.le_refl _) (.cells #[.string ⟨#[]⟩] 9))
          go_wp2_with (at_builtin; refine wpList_append_path _ rfl (.tmp 31) (.tmp 32) rfl B _ xs rfl hoa ⟨w3.heap.size, 0, none⟩ 1 ⟨#[]⟩ rfl (cell_one _ _ _ 0 _ rfl) hxl (by simp; omega) ?_)
          intro g7 n7 c7' w5 row hown5 hg hrow
          obtain ⟨hb5, hM5⟩ := app_mid hk hB3 hg hrow
          have c75 := rowAt hM5 7 (.slice a xs.length c) rfl
          have f75 := rowFz hM5 7
          obtain ⟨hb6, hk6⟩ := app_done hb5 hM5 hk.le hown5
          have hm6 := app_is hk6 hux
          have hb7 := hbw3.trans hb6
          go_wp2_with fail
          go_roundw
          case measure => simp [bitN, strLen]
          case rel => exact hnext.out _ _ hb7 hm6 (by rw [Lz.stepL_dots1 _ _ _ _ hdq]; rfl)
      · -- two dots
        obtain rfl : d = 2 := by rw [← hd]; exact h0
        clear hd h0
        have cS := Lib.hid (shorten_any B M u' w3 hm3 (by omega))
        go_wp2_with fail
        refine cS.out.mono ?_
        rintro e w4 ⟨rfl, hb4, hm4⟩
        have hbw4 := hbw3.trans hb4
        have hB4 : B ≤ w4.heap.size := Nat.le_trans hB3 hb4.size
        cases more with
        | true =>
          go_wp2_with fail
          go_roundw
          case measure => have := hmeas.out (by trivial); simp [bitN, strLen]; omega
          case rel => exact hnext.out _ _ hbw4 hm4 (by rw [Lz.stepL_dots2 _ _ _ _ hdq]; rfl)
        | false =>
          obtain ⟨sch, usr, pas, hh, hst, prt, opq, a, c, xs, hq, hf, qry, frg, hk, hux, hc, hcells⟩ := hm4.form
          have hxl : xs.length ≤ 1000000000 := by
            have h1 := congrArg (fun z : Lz.UrlL => z.path.length) hux
            simp only [List.length_map] at h1
            rw [← h1]
            have h2 : (Lz.shortP u'.scheme u'.path).length ≤ u'.path.length := shortP_len _ _
            omega
          have c7 := rowAt hk.row 7 (.slice a xs.length c) rfl
          have hoa := hk.own.below ((Below.refl _ w4).alloc (Nat.le_refl _) (.cells #[.string ⟨#[]⟩] 9))
          go_wp2_with (at_builtin; refine wpList_append_path _ rfl (.tmp 31) (.tmp 32) rfl B _ xs rfl hoa ⟨w4.heap.size, 0, none⟩ 1 ⟨#[]⟩ rfl (cell_one _ _ _ 0 _ rfl) hxl (by simp; omega) ?_)
          intro g7 n7 c7' w5 row hown5 hg hrow
          obtain ⟨hb5, hM5⟩ := app_mid hk hB4 hg hrow
          have c75 := rowAt hM5 7 (.slice a xs.length c) rfl
          have f75 := rowFz hM5 7
          obtain ⟨hb6, hk6⟩ := app_done hb5 hM5 hk.le hown5
          have hm6 := app_is hk6 hux
          have hb7 := hbw4.trans hb6
          go_wp2_with fail
          go_roundw
          case measure => simp [bitN, strLen]
          case rel => exact hnext.out _ _ hb7 hm6 (by rw [Lz.stepL_dots2 _ _ _ _ hdq]; rfl)
end Go.Proofs.YthijceooebebfaaGreatDoor

namespace Lz
open Go
theorem lastAt_found {s : Bs} {j : Nat} (hj : s[j]? = some 64) (h : ∀ k, j < k → s[k]? ≠ some 64) : lastAt s = some (s.take j, s.drop (j + 1)) := by
  have hl := (List.getElem?_eq_some_iff.1 hj).1
  have he := (List.getElem?_eq_some_iff.1 hj).2
  have h1 : s = s.take j ++ 64 :: s.drop (j + 1) := by
    rw [← he, ← List.drop_eq_getElem_cons hl, List.take_append_drop]
  have h2 : (64 : UInt8) ∉ s.drop (j + 1) := by
    intro hm
    obtain ⟨k, hk⟩ := List.mem_iff_getElem?.1 hm
    rw [List.getElem?_drop] at hk
    exact h _ (by omega) hk
  have := lastAt_at (s.take j) h2
  rw [← h1] at this
  exact this
theorem lastAt_none {s : Bs} (h : ∀ k : Nat, s[k]? ≠ some 64) : lastAt s = none := lastAt_no fun hm => by
  obtain ⟨k, hk⟩ := List.mem_iff_getElem?.1 hm
  exact h k hk
/-- Where the last @ stands. -/
def lastN (s : Bs) : Option Nat := (lastAt s).map fun z => z.1.length
theorem lastN_found {s : Bs} {j : Nat} (hj : s[j]? = some 64) (h : ∀ k, j < k → s[k]? ≠ some 64) : lastN s = some j := by
  have hl := (List.getElem?_eq_some_iff.1 hj).1
  rw [lastN, lastAt_found hj h]
  simp; omega
theorem lastN_none {s : Bs} (h : ∀ k : Nat, s[k]? ≠ some 64) : lastN s = none := by rw [lastN, lastAt_none h]; rfl
end Lz
namespace Go.Proofs.YthijceooebebfaaGreatDoor
open Go.RowKit

set_option maxRecDepth 100000 in
theorem lastStr_any (s : ByteArray) (hs : s.size ≤ 1000000000) (w : World) : Calls Tryz.prog 161 #[.string s, .int .u8 64] w fun e w' => e = .returned (.int .i64 (intO (Lz.lastN s.data.toList))) ∧ w = w' := by
  obtain ⟨o, ho⟩ : ∃ o, o = intO (Lz.lastN s.data.toList) := ⟨_, rfl⟩
  have Ho := Lib.hid ho
  rw [← ho]
  clear ho
  go_enter Tryz.func161, Tryz.ntmps161
  go_wp2_with fail
  go_loopw [5] (fun i wr => ∃ j : Nat, i = .int .i64 ((j : Int) - 1) ∧ j ≤ s.size ∧ Hid (∀ k, j ≤ k → s.data.toList[k]? ≠ some 64) ∧ w = wr) (fun i _ => (intOf i + 1).toNat)
  case atStart => exact ⟨s.size, by go_num, Nat.le_refl _, Lib.hid (fun k hk h => by have := (List.getElem?_eq_some_iff.1 h).1; rw [len_of_size] at this; omega), rfl⟩
  case round =>
    obtain ⟨j, rfl, hj, hN, rfl⟩ := hrel
    cases j with
    | zero =>
      have HN : Hid (o = -1) := by show _ = _; rw [Ho.out, Lz.lastN_none fun k => hN.out k (Nat.zero_le _)]; rfl
      have h0 : ¬ ((0 : Int) ≤ ((0 : Nat) : Int) - 1) := by omega
      go_wp2_with fail
      go_ret
      rw [HN.out]; exact ⟨rfl, rfl⟩
    | succ m =>
      have hm : m < s.size := by omega
      have hmI : (m : Int) < (s.size : Int) := by omega
      have hm1 : ((m + 1 : Nat) : Int) - 1 = (m : Int) := by omega
      have hm2 : (m : Int) + 1 - 1 = (m : Int) := by omega
      have hm0 : (0 : Int) ≤ (m : Int) := by omega
      obtain ⟨c, hc⟩ : ∃ c, c = s[m] := ⟨_, rfl⟩
      have hcI : (s[m].toNat : Int) = (c.toNat : Int) := by rw [hc]
      have hcg : s.data.toList[m]? = some c := by rw [get_of_lt hm, hc]
      have b1 : ((c.toNat : Int) == 64) = (c == 64) := beqU c 64
      cases hq : (c == 64) with
      | true =>
        rw [hq] at b1
        have hc64 : c = 64 := by simpa using hq
        have HN : Hid (o = (m : Int)) := by
          show _ = _
          rw [Ho.out, Lz.lastN_found (j := m) (by rw [hcg, hc64]) (fun k hk => hN.out k (by omega))]; rfl
        clear hc hq hcg hN
        go_wp2_with fail
        go_ret
        rw [HN.out, ← hm1]; exact ⟨rfl, rfl⟩
      | false =>
        rw [hq] at b1
        have hc64 : c ≠ 64 := by simpa using hq
        have HN : Hid (∀ k, m ≤ k → s.data.toList[k]? ≠ some 64) := Lib.hid (fun k hk h => by
          rcases Nat.eq_or_lt_of_le hk with e | e
          · rw [← e, hcg] at h; exact hc64 (Option.some.inj h)
          · exact hN.out k e h)
        clear hc hq hcg hN
        go_wp2_with fail
        go_roundw
        case rel => exact ⟨m, by go_num, by omega, HN, trivial⟩
        case measure => simp [intOf]
theorem last_any (s : ByteArray) (hs : s.size ≤ 1000000000) (w : World) : Calls Tryz.prog 139 #[.string s, .int .u8 64] w fun e w' => e = .returned (.int .i64 (intO (Lz.lastN s.data.toList))) ∧ w = w' := by
  have cL := Lib.hid (fun W => lastStr_any s hs W)
  generalize intO (Lz.lastN s.data.toList) = o at cL ⊢
  go_enter Tryz.func139, Tryz.ntmps139
  go_wp2_with fail
  refine (cL.out _).mono ?_
  rintro e w1 ⟨rfl, rfl⟩
  go_wp2_with fail
  go_ret
  exact ⟨rfl, rfl⟩

/-- An error of a part of a URL. -/
def FaultU (n : Nat) (v : Value) : Prop := ∃ p : ByteArray, v = .iface 85 (.agg #[.string p, .iface 28 (.int .i64 (n : Int))])
/-- The URL and no error, or an error. -/
def MkRes (B M : Nat) (r : Lz.UR) (w : World) (v : Value) : Prop := match r with
  | .ok u => v = .nilIface ∧ MkIs B M w u
  | .er n => FaultU n v
def RMkE (B M : Nat) (r : Lz.UR) (w : World) (e : Ending) (w' : World) : Prop := ∃ v, e = .returned v ∧ Below B w w' ∧ MkRes B M r w' v
theorem resE_er {s : List UInt8} {b : Bool} {n : Nat} (h : Lz.hostPr s b = .er n) : n ≠ 0 ∧ 70 ≤ n ∧ n ≤ 72 := by
  cases b with
  | true => rcases Lz.host_err_true s n h with h | h | h <;> omega
  | false => rcases Lz.host_err_false s n h with h | h <;> omega

set_option maxRecDepth 100000 in
theorem hostM_any (B M : Nat) (u : Lz.UrlL) (s : ByteArray) (hs : s.size ≤ 900000) (w : World) (hE : EnvH w) (hm : MkIs B M w u) (hB : B ≤ w.heap.size) :
    Calls Tryz.prog 103 #[.pointer (some ⟨M, 0, none⟩), .string s] w (RMkE B M (Lz.hostU u s.data.toList) w) := by
  obtain ⟨sch, usr, pas, hh, hst, prt, opq, a, c, xs, hq, hf, qry, frg, hk, hux, hc, hcells⟩ := hm.form
  have hus : u.scheme = sch.data.toList := by rw [hux]
  have c12 := rowAt hk.row 12 (.bool (Lz.specP sch.data.toList)) rfl
  have cP := ParseH_any s (Lz.specP sch.data.toList) hs (fun _ _ => cany_all s (by omega)) w hE
  have hU : Lz.hostU u s.data.toList = (match Lz.hostPr s.data.toList (Lz.specP sch.data.toList) with | .er n => .er n | .ok h => .ok { u with host := h, hasHost := true }) := by
    unfold Lz.hostU; rw [hus]; cases Lz.hostPr s.data.toList (Lz.specP sch.data.toList) <;> rfl
  have her : ∀ n, Lz.hostPr s.data.toList (Lz.specP sch.data.toList) = .er n → n ≠ 0 := fun n h => (resE_er h).1
  generalize Lz.hostPr s.data.toList (Lz.specP sch.data.toList) = r at cP hU her
  rw [hU]
  have CP := Lib.hid cP
  clear cP hU
  cases r with
  | ok h =>
    go_enter Tryz.func103, Tryz.ntmps103
    go_wp2_with fail
    refine CP.out.mono ?_
    rintro e w1 ⟨hb, rfl, hhb, hb1⟩
    have hk1 := hk.below hb1
    have c4 := rowAt hk1.row 4 (.string hst) rfl
    have f4 := rowFz hk1.row 4
    have m1 := mk_set hk1 4 (.string hb) ⟨sch, usr, pas, hh, hb, prt, opq, .slice a xs.length c, xs, hq, hf, qry, frg⟩ (Lz.specP sch.data.toList) (slashB (Lz.specP sch.data.toList)) (by simp) (fun _ h => h)
    have c3 := rowAt m1.row 3 (.bool hh) rfl
    have f3 := rowFz m1.row 3
    have m2 := mk_set m1 3 (.bool true) ⟨sch, usr, pas, true, hb, prt, opq, .slice a xs.length c, xs, hq, hf, qry, frg⟩ (Lz.specP sch.data.toList) (slashB (Lz.specP sch.data.toList)) (by simp) (fun _ h => h)
    have hbb : Below B w ((w1.setCell ⟨M, 4, none⟩ (.string hb)).setCell ⟨M, 3, none⟩ (.bool true)) := ((hb1.mono hB).setCell (p := ⟨M, 4, none⟩) hk.le _).setCell (p := ⟨M, 3, none⟩) hk.le _
    have HF : Hid (MkIs B M ((w1.setCell ⟨M, 4, none⟩ (.string hb)).setCell ⟨M, 3, none⟩ (.bool true)) { u with host := h, hasHost := true }) := by
      refine ⟨_, m2, Lib.hid ?_⟩
      rw [hux, ← show _ = h from hhb.out]; rfl
    have HB := Lib.hid hbb
    have e0 : ((resE (.ok h) : Nat) : Int) = 0 := rfl
    clear m1 m2 hbb hm hk hhb
    go_wp2_with fail
    go_ret
    exact ⟨_, rfl, HB.out, rfl, HF.out⟩
  | er n =>
    have hn := her n rfl
    have hn0 : (((n : Nat) : Int) != 0) = true := by simp; omega
    have hrE : ((resE (.er n) : Nat) : Int) = (n : Int) := rfl
    go_enter Tryz.func103, Tryz.ntmps103
    go_wp2_with fail
    refine CP.out.mono ?_
    rintro e w1 ⟨hb, rfl, hhb, hb1⟩
    have hbb := hb1.mono hB
    clear hhb
    go_wp2_with fail
    go_ret
    exact ⟨_, rfl, hbb, _, rfl⟩

theorem digit_ge : ∀ c : UInt8, Lz.isDigit c = true → 48 ≤ c.toNat ∧ c.toNat ≤ 57 := Lz.byte_all (by decide +kernel)
def portEnd (u : Lz.UrlL) (s : List UInt8) (d : Int) : Option Nat → Lz.UR
  | none => .er 81
  | some n => if 65535 < n then .er 81 else .ok (if s ≠ [] ∧ (n : Int) ≠ d then { u with port := n } else u)
theorem portU_end (u : Lz.UrlL) (s : List UInt8) : Lz.portU u s = portEnd u s (Lz.defP u.scheme) (Lz.portN 0 s) := by
  unfold Lz.portU; cases Lz.portN 0 s <;> rfl
theorem portN_cons (a : Nat) (c : UInt8) (r : List UInt8) : Lz.portN a (c :: r) = if Lz.isDigit c then Lz.portN (min (10 * a + (c.toNat - 48)) 1048576) r else none := rfl
set_option maxHeartbeats 1000000 in
set_option maxRecDepth 100000 in
theorem portM_any (B M : Nat) (u : Lz.UrlL) (s : ByteArray) (hs : s.size ≤ 1000000000) (w : World) (hm : MkIs B M w u) :
    Calls Tryz.prog 141 #[.pointer (some ⟨M, 0, none⟩), .string s] w (RMkE B M (Lz.portU u s.data.toList) w) := by
  have hm0 := Lib.hid hm
  obtain ⟨sch, usr, pas, hh, hst, prt, opq, a, c, xs, hq, hf, qry, frg, hk, hux, hc, hcells⟩ := hm.form
  have hus : u.scheme = sch.data.toList := by rw [hux]
  have c0 := rowAt hk.row 0 (.string sch) rfl
  have c5 := rowAt hk.row 5 (.int .i64 prt) rfl
  have f5 := rowFz hk.row 5
  have hset : Hid (∀ n : Nat, MkIs B M (w.setCell ⟨M, 5, none⟩ (.int .i64 n)) { u with port := n }) := Lib.hid (fun n => by
    have m1 := mk_set hk 5 (.int .i64 n) ⟨sch, usr, pas, hh, hst, n, opq, .slice a xs.length c, xs, hq, hf, qry, frg⟩ (Lz.specP sch.data.toList) (slashB (Lz.specP sch.data.toList)) (by simp) (fun _ h => h)
    refine ⟨_, m1, Lib.hid ?_⟩
    rw [hux]; rfl)
  have hle := hk.le
  obtain ⟨o, ho⟩ : ∃ o, o = Lz.portN 0 s.data.toList := ⟨_, rfl⟩
  have HU : Hid (Lz.portU u s.data.toList = portEnd u s.data.toList (Lz.defP sch.data.toList) o) := by
    show _ = _
    rw [portU_end, ho, hus]
  have Ho := Lib.hid ho
  have cD := Lib.hid (fun W => Default_any sch W)
  obtain ⟨d, hd⟩ : ∃ d, d = Lz.defP sch.data.toList := ⟨_, rfl⟩
  rw [← hd] at cD HU
  clear ho hm hux hk hcells hus hc hd
  go_enter Tryz.func141, Tryz.ntmps141
  go_wp2_with fail
  go_loopw [5, 9] (fun n j wr => ∃ a i : Nat, n = .int .i64 a ∧ j = .int .i64 i ∧ i ≤ s.size ∧ a ≤ 1048576 ∧ Hid (o = Lz.portN a (s.data.toList.drop i)) ∧ w = wr) (fun _ j _ => s.size - (intOf j).toNat)
  case atStart => exact ⟨0, 0, rfl, rfl, Nat.zero_le _, by omega, Lib.hid (by rw [Ho.out, List.drop_zero]), rfl⟩
  case round =>
    obtain ⟨a, i, rfl, rfl, hi, ha, hO, rfl⟩ := hrel
    by_cases hlt : i < s.size
    · have hltI : (i : Int) < (s.size : Int) := by omega
      have hi0 : (0 : Int) ≤ (i : Int) := by omega
      obtain ⟨c, hc⟩ : ∃ c, c = s[i] := ⟨_, rfl⟩
      have hcI : (s[i].toNat : Int) = (c.toNat : Int) := by rw [hc]
      have hst : Hid (o = if Lz.isDigit c then Lz.portN (min (10 * a + (c.toNat - 48)) 1048576) (s.data.toList.drop (i + 1)) else none) := by
        show _ = _
        rw [hO.out, List.drop_eq_getElem_cons (show i < s.data.toList.length from hlt), portN_cons, hc]
        rfl
      have cA := Digit_any c w
      cases hdg : Lz.isDigit c with
      | false =>
        rw [hdg] at cA hst
        have HN : Hid (o = none) := Lib.hid hst.out
        have CA := Lib.hid cA
        clear cA hdg hO hst hc
        go_wp2_with fail
        refine CA.out.mono ?_
        rintro e w1 ⟨rfl, rfl⟩
        go_wp2_with fail
        go_ret
        refine ⟨_, rfl, Below.refl _ _, ?_⟩
        rw [HU.out, HN.out]
        exact ⟨_, rfl⟩
      | true =>
        obtain ⟨hc1, hc2⟩ := digit_ge c hdg
        rw [hdg] at cA hst
        obtain ⟨x, hx⟩ : ∃ x, x = c.toNat - 48 := ⟨_, rfl⟩
        have hxc : (c.toNat : Int) - 48 = (x : Int) := by omega
        have hx9 : x ≤ 9 := by omega
        have hst2 : Hid (o = Lz.portN (min (10 * a + x) 1048576) (s.data.toList.drop (i + 1))) := by
          show _ = _
          rw [hst.out, if_pos rfl, hx]
        have hxw : IntKind.u8.wrap (x : Int) = (x : Int) := IntWalk.u8_in _ (by omega)
        have hxw2 : IntKind.i64.wrap (x : Int) = (x : Int) := IntWalk.i64_in _ (by omega)
        have CA := Lib.hid cA
        clear cA hdg hO hst hc hx hc1 hc2
        rcases Nat.lt_or_ge (10 * a + x) 1048576 with hmn | hmn
        · have hmI : 10 * (a : Int) + (x : Int) < 1048576 := by omega
          have hmI2 : 10 * (a : Int) + (x : Int) ≤ 1048576 := by omega
          have HN : Hid (o = Lz.portN (10 * a + x) (s.data.toList.drop (i + 1))) := by show _ = _; rw [hst2.out, Nat.min_eq_left (by omega)]
          go_wp2_with fail
          refine CA.out.mono ?_
          rintro e w1 ⟨rfl, rfl⟩
          go_wp2_with fail
          go_roundw
          case rel => exact ⟨10 * a + x, i + 1, by go_num, by go_num, by omega, by omega, HN, trivial⟩
          case measure => simp [intOf]; omega
        · have hmI : ¬ (10 * (a : Int) + (x : Int) < 1048576) := by omega
          have hmI2 : (1048576 : Int) ≤ 10 * (a : Int) + (x : Int) := by omega
          have HN : Hid (o = Lz.portN 1048576 (s.data.toList.drop (i + 1))) := by show _ = _; rw [hst2.out, Nat.min_eq_right (by omega)]
          go_wp2_with fail
          refine CA.out.mono ?_
          rintro e w1 ⟨rfl, rfl⟩
          go_wp2_with fail
          go_roundw
          case rel => exact ⟨1048576, i + 1, by go_num, by go_num, by omega, by omega, HN, trivial⟩
          case measure => simp [intOf]; omega
    · have hltI : ¬ (i : Int) < (s.size : Int) := by omega
      have HN : Hid (o = some a) := by
        show _ = _
        rw [hO.out, List.drop_eq_nil_of_le (show s.data.toList.length ≤ i by rw [len_of_size]; omega)]
        rfl
      clear hO
      by_cases ha2 : 65535 < a
      · have haI : (65535 : Int) < (a : Int) := by omega
        have HR : Hid (Lz.portU u s.data.toList = .er 81) := by show _ = _; rw [HU.out, HN.out, portEnd, if_pos ha2]
        go_wp2_with fail
        go_ret
        refine ⟨_, rfl, Below.refl _ _, ?_⟩
        rw [HR.out]
        exact ⟨_, rfl⟩
      · have haI : ¬ (65535 : Int) < (a : Int) := by omega
        by_cases he : s.data.toList = []
        · have g0 := text_yes he
          have hem : s.toList.isEmpty = true := isEmpty_of_size (by rw [← len_of_size, he]; rfl)
          have HR : Hid (Lz.portU u s.data.toList = .ok u) := by show _ = _; rw [HU.out, HN.out, portEnd, if_neg ha2, if_neg (fun h => h.1 he)]
          clear he
          go_wp2_with fail
          go_ret
          refine ⟨_, rfl, Below.refl _ _, ?_⟩
          rw [HR.out]
          exact ⟨rfl, hm0.out⟩
        · have g0 := text_no he
          have hem : s.toList.isEmpty = false := isEmpty_of_pos (by rw [← len_of_size]; exact List.length_pos_iff.2 he)
          by_cases hd : (a : Int) = d
          · have hdb : ((a : Int) != d) = false := by simp [hd]
            have HR : Hid (Lz.portU u s.data.toList = .ok u) := by show _ = _; rw [HU.out, HN.out, portEnd, if_neg ha2, if_neg (fun h => h.2 hd)]
            clear he hd
            go_wp2_with fail
            refine (cD.out _).mono ?_
            rintro e w1 ⟨rfl, rfl⟩
            go_wp2_with fail
            go_ret
            refine ⟨_, rfl, Below.refl _ _, ?_⟩
            rw [HR.out]
            exact ⟨rfl, hm0.out⟩
          · have hdb : ((a : Int) != d) = true := by simp [hd]
            have HR : Hid (Lz.portU u s.data.toList = .ok { u with port := a }) := by show _ = _; rw [HU.out, HN.out, portEnd, if_neg ha2, if_pos ⟨he, hd⟩]
            clear he hd
            go_wp2_with fail
            refine (cD.out _).mono ?_
            rintro e w1 ⟨rfl, rfl⟩
            go_wp2_with fail
            go_ret
            refine ⟨_, rfl, (Below.refl _ _).setCell (p := ⟨M, 5, none⟩) hle _, ?_⟩
            rw [HR.out]
            exact ⟨rfl, hset.out a⟩
end Go.Proofs.YthijceooebebfaaGreatDoor
