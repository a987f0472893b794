/-
  The statement and the card.
-/
import Derived.Test.YtjhccadmmnjpeaaGreatDoorNV
import Derived.Test.YtjhccadmmnjpeaaGreatDoorCards
import Derived.Test.YtjhccadmmnjpeaaGreatDoorTie
import Derived.SizedLaws
namespace Go.Proofs.YtjhccadmmnjpeaaGreatDoor
open Go.ChangeShapes Go.WideShapes Go.ChangeAt Go.RowKit
section
variable {H : Type} {enc : TypeId × Value → H} {W : World} {base : Nat} {sp : Nat → Bool} {hd : Bool} {v : Value} {fuel : Nat} {x : Option (DataW H × List MemPlace)}
theorem cell_str (h : DataW.trod enc Tryz.prog W base sp hd fuel 9 [v] = x) (hx : x.isSome = true) : ∃ s : ByteArray, v = .string s := by
  obtain ⟨y, rfl⟩ := Option.isSome_iff_exists.1 hx
  obtain ⟨s, h1, _⟩ := DataW.trod_string Tryz.underlying9 h
  exact ⟨s, List.singleton_inj.1 h1⟩
end
end Go.Proofs.YtjhccadmmnjpeaaGreatDoor
namespace Go.Proofs.YtjhccadmmnjpeaaGreatDoor
open Go.ChangeShapes Go.WideShapes Go.ChangeAt Go.RowKit
section
variable {H : Type} {enc : TypeId × Value → H} {W : World} {base : Nat} {sp : Nat → Bool} {hd : Bool} {v : Value} {d : DataW H} {ps : List MemPlace} {r : Reach} {b0 : Nat}
set_option maxRecDepth 100000 in
theorem str2_of (hv : Value.okWide Tryz.prog W r b0 23 v) (h : DataW.Trod enc Tryz.prog W base sp hd 23 v d ps) : ∃ s0 s1 : ByteArray, v = .agg #[.string s0, .string s1] := by
  simp only [Value.okWide, Tryz.underlying23] at hv
  obtain ⟨⟨cs⟩, rfl, hsz, _⟩ := hv
  have h2 : Tryz.prog.cellsOf 23 = 2 := by kernel_rfl
  rw [h2] at hsz
  match cs, hsz with
  | [a, b], _ =>
    obtain ⟨fuel, hf⟩ := h
    cases fuel with
    | zero => simp [DataW.trod] at hf
    | succ m =>
      rw [DataW.trod_step] at hf
      unfold DataW.trodStep at hf
      simp only [Tryz.underlying23, Value.cells, h2, cellsStr] at hf
      simp [List.range, List.range.loop, Option.bind_eq_some_iff] at hf
      obtain ⟨_, _, ha, _, ⟨_, _, hb, _⟩, _⟩ := hf
      obtain ⟨s0, rfl⟩ := cell_str ha rfl
      obtain ⟨s1, rfl⟩ := cell_str hb rfl
      exact ⟨s0, s1, rfl⟩
end
end Go.Proofs.YtjhccadmmnjpeaaGreatDoor
namespace Go.Proofs.YtjhccadmmnjpeaaGreatDoor.allowNonce
open Go.ChangeShapes Go.WideShapes Go.ChangeAt Go.RowKit Go.Proofs.YtjhccadmmnjpeaaGreatDoor

theorem walk (v0 : Value) (l0 : List (List UInt8)) (v1 : Value) (l1 : List UInt8) (s2 t2 : ByteArray) (w : World) (i0 : PathAt w v0 l0) (i1 : SlB w v1 l1) (hE : EnvA tabA tab2A w) : Calls Tryz.prog 5 #[v0, v1, .agg #[.string s2, .string t2]] w (RBool true w) := allowNonce_any v0 l0 v1 l1 s2 t2 w i0 i1 hE

theorem env {W : World} (h : laidMetH Tryz.prog Rows.allowInlineRow.laid W) (hsh : W.ShapedOpen Tryz.prog) : EnvA tabA tab2A W := envA_row h hsh

set_option maxRecDepth 100000 in
/-- WHAT THE WALK GIVES, FOR EVERY ARGUMENT AND EVERY WORLD THAT HOLDS WHAT THE ROW LISTS. -/
theorem contract (H : Type) (enc : TypeId × Value → H) (W : World) (base : Nat) (args : Array Value) (ds gs : List (DataW H)) (before : List MemPlace)
    (hval : ∀ (j : Nat) t v, Tryz.f5.params[j]? = some t → args[j]? = some v → Value.okWide Tryz.prog W .any base t v)
    (hW : DataW.Whole enc Tryz.prog Tryz.f5.params.toList Rows.allowNonceSpec.vars false W args.toList ds gs before) (hL : laidMetH Tryz.prog Rows.allowNonceRow.laid W) (hsh : W.ShapedOpen Tryz.prog) :
    Calls Tryz.prog 5 args W fun e W' => ∃ v, e = .returned v ∧ Rows.allowNonceSpec.post enc Tryz.prog Tryz.f5 false true false false W args v W' := by
  have hW' := hW
  obtain ⟨p, q, hA0, hV, rfl, hfz, hnd⟩ := hW
  have hA : DataW.TrodAll enc Tryz.prog W 0 (fun _ => true) true Tryz.f5.params.toList args.toList ds p := hA0
  rw [Tryz.params5] at hA hval
  have hAk := hA
  have hlt : ∀ x ∈ p, x.block < W.heap.size := fun x hx => hW'.lt x (List.mem_append_left _ hx)
  obtain ⟨v0, v1, v2, d0, d1, d2, p0, p1, p2, rfl, rfl, rfl, h0, h1, h2⟩ := trodAll_three hA
  obtain ⟨rfl, rfl⟩ := trodVars_none hV
  obtain ⟨l0, i0, z0⟩ := path_of (hval 0 22 v0 rfl rfl) h0
  obtain ⟨l1, i1⟩ := slB_of (hval 1 30 v1 rfl rfl) h1
  obtain ⟨s2, t2, rfl⟩ := str2_of (hval 2 23 v2 rfl rfl) h2
  clear hA0
  refine (walk v0 l0 v1 l1 s2 t2 W i0 i1 (env hL hsh)).mono fun e W' hr => ?_
  obtain ⟨he, hb⟩ : e = .returned (.bool true) ∧ Below W.heap.size W W' := hr
  subst he
  refine ⟨_, rfl, _, _, _, [], p0 ++ p1 ++ p2, [], hW', ?_, ?_, ?_, hb.frame _, ?_⟩
  · exact trodAll_mk1 (shut_bool Tryz.underlying4 true)
  · exact trodAll_below hb (by decide +kernel) hAk hlt
  · rfl
  · exact fun h => by cases h

theorem met (os : Os) (args : Array Value) : laidMetH Tryz.prog Rows.allowNonceRow.laid ((startU os).forCall (fun _ _ => 0) ⟨#[], args, []⟩).memory := metU os args
theorem reads (os : Os) {H : Type} (enc : TypeId × Value → H) : ∃ places, DataW.whole enc Tryz.prog ((startU os).forCall (fun _ _ => 0) ⟨#[], #[.slice none 0 0, .slice none 0 0, .agg #[.string ⟨#[]⟩, .string ⟨#[]⟩]], []⟩).memory Tryz.f5.params.toList Rows.allowNonceSpec.vars false #[Value.slice none 0 0, .slice none 0 0, .agg #[.string ⟨#[]⟩, .string ⟨#[]⟩]].toList 8 = some ([.nil, .nil, .agg [.lit (.string []), .lit (.string [])]], [], places) :=
  ⟨[], by kernel_rfl⟩

set_option maxRecDepth 100000 in
theorem lifted (os : Os) (started : os.Started) (H : Type) (enc : TypeId × Value → H) (F : Stop.Interp) :
    ReturnsInHanded {} Tryz.checked os 5 .any ((OpenSpec.ofChange Rows.allowNonceSpec).preRow enc Tryz.prog Tryz.f5 Rows.allowNonceRow.domain false Rows.allowNonceRow.laid) (((OpenSpec.ofChange Rows.allowNonceSpec).at F).post enc Tryz.prog Tryz.f5 false true false false) := by
  obtain ⟨places, hx⟩ := reads os enc
  refine returnsInHanded_of_row (C := Tryz.checked) (s := OpenSpec.ofChange Rows.allowNonceSpec) ownU started (by kernel_rfl) Tryz.func5
    (witness_row_atRef (enc := enc) (C := Tryz.checked) false (startU os) #[.slice none 0 0, .slice none 0 0, .agg #[.string ⟨#[]⟩, .string ⟨#[]⟩]] rfl (by kernel_rfl) (by kernel_rfl) (by kernel_rfl)
      (OpenSpec.preRow_of_cond 8 hx (by kernel_rfl) (fun k hk => by cases hk) (by kernel_rfl) (met os _))) ?_
  intro W base args ds gs before hval hW _ _ _ hL hsh _
  exact contract H enc W base args ds gs before hval hW hL hsh

theorem c1 : Rows.allowNonceRow.wf (OpenSpec.ofChange Rows.allowNonceSpec) = true := by kernel_rfl
theorem c2 : namedTie Tryz.prog Rows.allowNonceRow.named Rows.allowNonceSpec.vars = true := by kernel_rfl
theorem c3 : (Rows.allowNonceRow.inPlace == Tryz.prog.inPlace 5) = true := by kernel_rfl
theorem c4 : (Rows.allowNonceRow.unfollowed == Tryz.prog.unfollowed 5) = true := by kernel_rfl
theorem c5 : (Rows.allowNonceRow.recurses == Tryz.prog.recurses 5) = true := by kernel_rfl
theorem c6 : (Rows.allowNonceRow.named == Tryz.prog.varsNamed 5) = true := by kernel_rfl
theorem c7 : (Rows.allowNonceRow.lifted == Tryz.prog.liftsFinal) = true := liftU
theorem c8 : (Tryz.prog.make == some Rows.allowNonceRow.make) = true := makeU
theorem c9 : (Rows.allowNonceRow.plainKeys == Tryz.prog.plainKeys) = true := keysU
theorem closed : joinedFacts Tryz.prog 5 Tryz.f5 Rows.allowNonceSpec Rows.allowNonceRow = true := by
  unfold joinedFacts
  repeat' (with_reducible refine andI ?_ ?_)
  all_goals first
    | with_reducible exact c1 | with_reducible exact laidOut | with_reducible exact mapsU | with_reducible exact c2 | with_reducible exact c3 | with_reducible exact c4 | with_reducible exact c5 | with_reducible exact c6
    | with_reducible exact c9 | with_reducible exact heardU | with_reducible exact mayU | with_reducible exact c7 | with_reducible exact c8
    | kernel_rfl
set_option maxRecDepth 100000 in
theorem said : Rows.AllowNonceSaid :=
  OpenClaim.holds_of_cond 5 Tryz.f5 rfl rfl rfl rfl rfl rfl rfl ⟨rfl, rfl, rfl, rfl, rfl⟩ rfl rfl rfl rfl rfl (by kernel_rfl) Tryz.func5 closed
    (of_decide_eq_true (by kernel_rfl)) (by unfold Func.isWrapper; first | (rw [if_pos (by decide +kernel)]; kernel_rfl) | (rw [if_neg (by decide +kernel)]; exact ⟨rfl, rfl⟩))
    (fun os started H enc _ F => by rw [OpenClaim.pre_eq_preRow]; exact lifted os started H enc F)

theorem plain (f : FuncId) (fn : Func) (hf : Tryz.pinned.checked.prog.funcNamed "lazaret/lazaretlaw27.AllowNonce" = some f) (hfn : Tryz.pinned.checked.prog.funcs[f]? = some fn) :
    true = Tryz.pinned.checked.prog.looks [] ∧ ∀ (j : Nat) t, fn.params[j]? = some t → Tryz.pinned.checked.prog.wantsStandIn t = false := by
  obtain rfl : f = 5 := Option.some.inj ((show Tryz.prog.funcNamed "lazaret/lazaretlaw27.AllowNonce" = some 5 by kernel_rfl).symm.trans hf) |>.symm
  obtain rfl : fn = Tryz.f5 := (Option.some.inj (Tryz.func5.symm.trans hfn)).symm
  refine ⟨by kernel_rfl, fun j t ht => ?_⟩
  rw [Tryz.params5] at ht
  have hall : ∀ t ∈ (#[22, 30, 23] : Array TypeId), Tryz.prog.wantsStandIn t = false := by decide +kernel
  exact hall t (Array.mem_of_getElem? ht)

theorem card : Rows.AllowNonceCardSaid :=
  Claim7.holds_tied_plain_at .later [] _ _ _ _ said (fun _ h => by cases h) (by kernel_rfl) (fun _ h => by cases h) allowNonce_row_tie rfl ⟨rfl, rfl⟩ (by kernel_rfl) rfl plain (by kernel_rfl)
end Go.Proofs.YtjhccadmmnjpeaaGreatDoor.allowNonce
