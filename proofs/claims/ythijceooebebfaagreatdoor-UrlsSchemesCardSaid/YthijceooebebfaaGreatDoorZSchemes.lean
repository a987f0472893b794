/-
  lazaretref08: Default, Special.
  lazaretlaw08.UrlsSchemes: it returns true, whatever the text.
  The statement and the card of lazaretlaw08.UrlsSchemes: whatever text, the law returns true, and the text reads as it did.
-/
import Derived.Test.YthijceooebebfaaGreatDoorM19
import Derived.Test.YthijceooebebfaaGreatDoorM33
import Derived.Test.YthijceooebebfaaGreatDoorCards
import Derived.Test.YthijceooebebfaaGreatDoorTie
import Derived.Test.YthijceooebebfaaGreatDoorM34
namespace Go.Proofs.YthijceooebebfaaGreatDoor
open Go.RowKit
set_option maxRecDepth 100000 in
theorem Default08_any (s : ByteArray) (w : World) : Calls Tryz.prog 16 #[.string s] w fun e w' => e = .returned (.int .i64 (Lz.defP s.data.toList)) ∧ w = w' := by
  by_cases h0 : s.data.toList = [104, 116, 116, 112]
  · have g0 := text_yes h0
    have HV : Hid (Lz.defP s.data.toList = 80) := by show _ = _; rw [h0]; rfl
    clear h0
    go_enter Tryz.func16, Tryz.ntmps16
    go_wp2_with fail
    go_ret
    rw [HV.out]; exact ⟨rfl, rfl⟩
  · have g0 := text_no h0
    by_cases h1 : s.data.toList = [119, 115]
    · have g1 := text_yes h1
      have HV : Hid (Lz.defP s.data.toList = 80) := by show _ = _; rw [h1]; rfl
      clear h0 h1
      go_enter Tryz.func16, Tryz.ntmps16
      go_wp2_with fail
      go_ret
      rw [HV.out]; exact ⟨rfl, rfl⟩
    · have g1 := text_no h1
      by_cases h2 : s.data.toList = [104, 116, 116, 112, 115]
      · have g2 := text_yes h2
        have HV : Hid (Lz.defP s.data.toList = 443) := by show _ = _; rw [h2]; rfl
        clear h0 h1 h2
        go_enter Tryz.func16, Tryz.ntmps16
        go_wp2_with fail
        go_ret
        rw [HV.out]; exact ⟨rfl, rfl⟩
      · have g2 := text_no h2
        by_cases h3 : s.data.toList = [119, 115, 115]
        · have g3 := text_yes h3
          have HV : Hid (Lz.defP s.data.toList = 443) := by show _ = _; rw [h3]; rfl
          clear h0 h1 h2 h3
          go_enter Tryz.func16, Tryz.ntmps16
          go_wp2_with fail
          go_ret
          rw [HV.out]; exact ⟨rfl, rfl⟩
        · have g3 := text_no h3
          by_cases h4 : s.data.toList = [102, 116, 112]
          · have g4 := text_yes h4
            have HV : Hid (Lz.defP s.data.toList = 21) := by show _ = _; rw [h4]; rfl
            clear h0 h1 h2 h3 h4
            go_enter Tryz.func16, Tryz.ntmps16
            go_wp2_with fail
            go_ret
            rw [HV.out]; exact ⟨rfl, rfl⟩
          · have g4 := text_no h4
            have HV : Hid (Lz.defP s.data.toList = -1) := by
              show _ = _
              unfold Lz.defP
              rw [if_neg (fun h => h.elim h0 h1), if_neg (fun h => h.elim h2 h3), if_neg (show ¬ s.data.toList = Lz.ftpS from h4)]
            clear h0 h1 h2 h3 h4
            go_enter Tryz.func16, Tryz.ntmps16
            go_wp2_with fail
            go_ret
            rw [HV.out]; exact ⟨rfl, rfl⟩
theorem spec_ge (s : List UInt8) (h0 : ¬ s = Lz.fileS) : Lz.specP s = decide (0 ≤ Lz.defP s) := by
  unfold Lz.specP
  have : (s == Lz.fileS) = false := by rw [beq_eq_false_iff_ne]; exact h0
  rw [this, Bool.false_or]
  unfold Lz.defP
  split
  · rfl
  · split
    · rfl
    · split <;> rfl
set_option maxRecDepth 100000 in
theorem Special08_any (s : ByteArray) (w : World) : Calls Tryz.prog 14 #[.string s] w fun e w' => e = .returned (.bool (Lz.specP s.data.toList)) ∧ w = w' := by
  by_cases h0 : s.data.toList = [102, 105, 108, 101]
  · have g0 := text_yes h0
    have HV : Hid (Lz.specP s.data.toList = true) := by show _ = _; rw [h0]; rfl
    clear h0
    go_enter Tryz.func14, Tryz.ntmps14
    go_wp2_with fail
    go_ret
    rw [HV.out]; exact ⟨rfl, rfl⟩
  · have g0 := text_no h0
    have cD := Default08_any s w
    have hsp := spec_ge _ h0
    obtain ⟨d, hd⟩ : ∃ d, d = Lz.defP s.data.toList := ⟨_, rfl⟩
    rw [← hd] at cD hsp
    have CD := Lib.hid cD
    by_cases hge : 0 ≤ d
    · have HV : Hid (Lz.specP s.data.toList = true) := Lib.hid (hsp.trans (decide_eq_true hge))
      clear h0 cD hd hsp
      go_enter Tryz.func14, Tryz.ntmps14
      go_wp2_with fail
      refine CD.out.mono ?_
      rintro e w1 ⟨rfl, rfl⟩
      go_wp2_with fail
      go_ret
      rw [HV.out]; exact ⟨rfl, rfl⟩
    · have HV : Hid (Lz.specP s.data.toList = false) := Lib.hid (hsp.trans (decide_eq_false hge))
      clear h0 cD hd hsp
      go_enter Tryz.func14, Tryz.ntmps14
      go_wp2_with fail
      refine CD.out.mono ?_
      rintro e w1 ⟨rfl, rfl⟩
      go_wp2_with fail
      go_ret
      rw [HV.out]; exact ⟨by simp [hge], rfl⟩
end Go.Proofs.YthijceooebebfaaGreatDoor

namespace Go.Proofs.YthijceooebebfaaGreatDoor
open Go.RowKit
set_option maxHeartbeats 2000000 in
set_option maxRecDepth 100000 in
theorem urlsSchemes_any (s : ByteArray) (w : World) (hE : EnvU w) : Calls Tryz.prog 3 #[.string s] w (RBool true w) := by
  have cH := Lib.hid (places_any w hE)
  by_cases hbig : 300 < s.size
  · have hbg : (300 : Int) < (s.size : Int) := by omega
    clear hbig
    go_enter Tryz.func3, Tryz.ntmps3
    go_wp2_with fail
    refine cH.out.mono ?_
    rintro e w1 ⟨rfl, hb⟩
    go_wp2_with fail
    go_ret
    exact ⟨rfl, hb⟩
  · have hbg : ¬ (300 : Int) < (s.size : Int) := by omega
    have c1 := Special_any s w
    have c2 := Special08_any s w
    have c3 := Default_any s w
    have c4 := Default08_any s w
    generalize Lz.specP s.data.toList = q at c1 c2
    generalize Lz.defP s.data.toList = d at c3 c4
    have hdd : (d == d) = true := by simp
    have C1 := Lib.hid c1
    have C2 := Lib.hid c2
    have C3 := Lib.hid c3
    have C4 := Lib.hid c4
    clear hbig c1 c2 c3 c4
    cases q with
    | true =>
      go_enter Tryz.func3, Tryz.ntmps3
      go_wp2_with (first
        | (go_at_call 13; refine C1.out.mono ?_; rintro e wn ⟨rfl, rfl⟩)
        | (go_at_call 14; refine C2.out.mono ?_; rintro e wn ⟨rfl, rfl⟩)
        | (go_at_call 15; refine C3.out.mono ?_; rintro e wn ⟨rfl, rfl⟩)
        | (go_at_call 16; refine C4.out.mono ?_; rintro e wn ⟨rfl, rfl⟩)
        | (go_at_call 12; refine cH.out.mono ?_; rintro e wn ⟨rfl, hb⟩))
      go_ret
      exact ⟨rfl, hb⟩
    | false =>
      go_enter Tryz.func3, Tryz.ntmps3
      go_wp2_with (first
        | (go_at_call 13; refine C1.out.mono ?_; rintro e wn ⟨rfl, rfl⟩)
        | (go_at_call 14; refine C2.out.mono ?_; rintro e wn ⟨rfl, rfl⟩)
        | (go_at_call 15; refine C3.out.mono ?_; rintro e wn ⟨rfl, rfl⟩)
        | (go_at_call 16; refine C4.out.mono ?_; rintro e wn ⟨rfl, rfl⟩)
        | (go_at_call 12; refine cH.out.mono ?_; rintro e wn ⟨rfl, hb⟩))
      go_ret
      exact ⟨rfl, hb⟩
end Go.Proofs.YthijceooebebfaaGreatDoor

namespace Go.Proofs.YthijceooebebfaaGreatDoor.urlsSchemes
open Go.ChangeShapes Go.WideShapes Go.ChangeAt Go.RowKit Go.Proofs.YthijceooebebfaaGreatDoor

theorem walk (s : ByteArray) (w : World) (hE : EnvU w) : Calls Tryz.prog 3 #[.string s] w (RBool true w) := urlsSchemes_any s w hE

theorem env {W : World} (h : laidMetH Tryz.prog Rows.urlsSchemesRow.laid W) (hsh : W.ShapedOpen Tryz.prog) : EnvU W := envU_row h hsh

set_option maxRecDepth 100000 in
/-- WHAT THE WALK GIVES, FOR EVERY ARGUMENT AND EVERY WORLD THAT HOLDS WHAT THE ROW LISTS. -/
theorem contract (H : Type) (enc : TypeId × Value → H) (W : World) (base : Nat) (args : Array Value) (ds gs : List (DataW H)) (before : List MemPlace)
    (hval : ∀ (j : Nat) t v, Tryz.f3.params[j]? = some t → args[j]? = some v → Value.okWide Tryz.prog W .any base t v)
    (hW : DataW.Whole enc Tryz.prog Tryz.f3.params.toList Rows.urlsSchemesSpec.vars false W args.toList ds gs before) (hL : laidMetH Tryz.prog Rows.urlsSchemesRow.laid W) (hsh : W.ShapedOpen Tryz.prog) :
    Calls Tryz.prog 3 args W fun e W' => ∃ v, e = .returned v ∧ Rows.urlsSchemesSpec.post enc Tryz.prog Tryz.f3 false true false false W args v W' := by
  have hW' := hW
  obtain ⟨p, q, hA0, hV, rfl, hfz, hnd⟩ := hW
  have hA : DataW.TrodAll enc Tryz.prog W 0 (fun _ => true) true Tryz.f3.params.toList args.toList ds p := hA0
  rw [Tryz.params3] at hA hval
  obtain ⟨v0, d0, rfl, rfl, h0⟩ := trodAll_one hA
  obtain ⟨rfl, rfl⟩ := trodVars_none hV
  obtain ⟨s, rfl, rfl, rfl, hs⟩ := Go.ChangeMaps.open_string Tryz.underlying9 (hval 0 9 v0 rfl rfl) h0
  clear hA0
  simp only [List.append_nil] at hW'
  refine (walk s W (env hL hsh)).mono fun e W' hr => ?_
  obtain ⟨he, hb⟩ : e = .returned (.bool true) ∧ Below W.heap.size W W' := hr
  subst he
  refine ⟨_, rfl, _, _, _, [], [], [], hW', ?_, ?_, ?_, hb.frame _, ?_⟩
  · exact trodAll_mk1 (shut_bool Tryz.underlying4 true)
  · exact trodAll_mk1 (Go.ChangeMaps.shut_string Tryz.underlying9 hs)
  · rfl
  · exact fun h => by cases h

theorem met (os : Os) (args : Array Value) : laidMetH Tryz.prog Rows.urlsSchemesRow.laid ((startU os).forCall (fun _ _ => 0) ⟨#[], args, []⟩).memory := metU os args
theorem reads (os : Os) {H : Type} (enc : TypeId × Value → H) : ∃ places, DataW.whole enc Tryz.prog ((startU os).forCall (fun _ _ => 0) ⟨#[], #[.string ⟨#[]⟩], []⟩).memory Tryz.f3.params.toList Rows.urlsSchemesSpec.vars false #[Value.string ⟨#[]⟩].toList 8 = some ([.lit (.string [])], [], places) :=
  ⟨[], by kernel_rfl⟩

set_option maxRecDepth 100000 in
theorem lifted (os : Os) (started : os.Started) (H : Type) (enc : TypeId × Value → H) (F : Stop.Interp) :
    ReturnsInHanded {} Tryz.checked os 3 .any ((OpenSpec.ofChange Rows.urlsSchemesSpec).preRow enc Tryz.prog Tryz.f3 Rows.urlsSchemesRow.domain false Rows.urlsSchemesRow.laid) (((OpenSpec.ofChange Rows.urlsSchemesSpec).at F).post enc Tryz.prog Tryz.f3 false true false false) := by
  obtain ⟨places, hx⟩ := reads os enc
  refine returnsInHanded_of_row (C := Tryz.checked) (s := OpenSpec.ofChange Rows.urlsSchemesSpec) ownU started (by kernel_rfl) Tryz.func3
    (witness_row_atRef (enc := enc) (C := Tryz.checked) false (startU os) #[.string ⟨#[]⟩] rfl (by kernel_rfl) (by kernel_rfl) (by kernel_rfl)
      (OpenSpec.preRow_of_cond 8 hx (by kernel_rfl) (fun k hk => by cases hk) (by kernel_rfl) (met os _))) ?_
  intro W base args ds gs before hval hW _ _ _ hL hsh _
  exact contract H enc W base args ds gs before hval hW hL hsh

theorem c1 : Rows.urlsSchemesRow.wf (OpenSpec.ofChange Rows.urlsSchemesSpec) = true := by kernel_rfl
theorem c2 : namedTie Tryz.prog Rows.urlsSchemesRow.named Rows.urlsSchemesSpec.vars = true := by kernel_rfl
theorem c3 : (Rows.urlsSchemesRow.inPlace == Tryz.prog.inPlace 3) = true := by kernel_rfl
theorem c4 : (Rows.urlsSchemesRow.unfollowed == Tryz.prog.unfollowed 3) = true := by kernel_rfl
theorem c5 : (Rows.urlsSchemesRow.recurses == Tryz.prog.recurses 3) = true := by kernel_rfl
theorem c6 : (Rows.urlsSchemesRow.named == Tryz.prog.varsNamed 3) = true := by kernel_rfl
theorem c7 : (Rows.urlsSchemesRow.lifted == Tryz.prog.liftsFinal) = true := liftU
theorem c8 : (Tryz.prog.make == some Rows.urlsSchemesRow.make) = true := makeU
theorem c9 : (Rows.urlsSchemesRow.plainKeys == Tryz.prog.plainKeys) = true := keysU
theorem closed : joinedFacts Tryz.prog 3 Tryz.f3 Rows.urlsSchemesSpec Rows.urlsSchemesRow = true := by
  unfold joinedFacts
  repeat' (with_reducible refine andI ?_ ?_)
  all_goals first
    | with_reducible exact c1 | with_reducible exact laidOut | with_reducible exact mapsU | with_reducible exact c2 | with_reducible exact c3 | with_reducible exact c4 | with_reducible exact c5 | with_reducible exact c6
    | with_reducible exact c9 | with_reducible exact heardU | with_reducible exact mayU | with_reducible exact c7 | with_reducible exact c8
    | kernel_rfl
set_option maxRecDepth 100000 in
theorem said : Rows.UrlsSchemesSaid :=
  OpenClaim.holds_of_cond 3 Tryz.f3 rfl rfl rfl rfl rfl rfl rfl ⟨rfl, rfl, rfl, rfl, rfl⟩ rfl rfl rfl rfl rfl (by kernel_rfl) Tryz.func3 closed
    (of_decide_eq_true (by kernel_rfl)) (by unfold Func.isWrapper; first | (rw [if_pos (by decide +kernel)]; kernel_rfl) | (rw [if_neg (by decide +kernel)]; exact ⟨rfl, rfl⟩))
    (fun os started H enc _ F => by rw [OpenClaim.pre_eq_preRow]; exact lifted os started H enc F)

theorem plain (f : FuncId) (fn : Func) (hf : Tryz.pinned.checked.prog.funcNamed "lazaret/lazaretlaw08.UrlsSchemes" = some f) (hfn : Tryz.pinned.checked.prog.funcs[f]? = some fn) :
    true = Tryz.pinned.checked.prog.looks [] ∧ ∀ (j : Nat) t, fn.params[j]? = some t → Tryz.pinned.checked.prog.wantsStandIn t = false := by
  obtain rfl : f = 3 := Option.some.inj ((show Tryz.prog.funcNamed "lazaret/lazaretlaw08.UrlsSchemes" = some 3 by kernel_rfl).symm.trans hf) |>.symm
  obtain rfl : fn = Tryz.f3 := (Option.some.inj (Tryz.func3.symm.trans hfn)).symm
  refine ⟨by kernel_rfl, fun j t ht => ?_⟩
  rw [Tryz.params3] at ht
  obtain rfl : t = 9 := by simpa using Array.mem_of_getElem? ht
  exact (show Tryz.prog.wantsStandIn 9 = false by kernel_rfl)

theorem card : Rows.UrlsSchemesCardSaid :=
  Claim7.holds_tied_plain_at .later [] _ _ _ _ said (fun _ h => by cases h) (by kernel_rfl) (fun _ h => by cases h) urlsSchemes_row_tie rfl ⟨rfl, rfl⟩ (by kernel_rfl) rfl plain (by kernel_rfl)
end Go.Proofs.YthijceooebebfaaGreatDoor.urlsSchemes
