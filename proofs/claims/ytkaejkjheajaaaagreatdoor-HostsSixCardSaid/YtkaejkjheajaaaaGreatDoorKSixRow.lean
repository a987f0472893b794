/-
  The statement and the card of lazaretlaw07.HostsSix: whatever the two addresses and however the first is written, the law returns true, and what came in reads as it did.
-/
import Derived.Test.YtkaejkjheajaaaaGreatDoorCards
import Derived.Test.YtkaejkjheajaaaaGreatDoorTie
import Derived.Test.YtkaejkjheajaaaaGreatDoorJEnv
import Derived.Test.YtkaejkjheajaaaaGreatDoorRow
import Derived.Test.YtkaejkjheajaaaaGreatDoorKSix
namespace Go.Proofs.YtkaejkjheajaaaaGreatDoor
open Go.ChangeShapes Go.WideShapes Go.ChangeAt Go.RowKit

theorem nat_of_wf {k : IntKind} {n : Int} (h : (Lit.int k n).wf = true) (hm : k.min = 0) : ∃ m : Nat, n = (m : Int) ∧ (m : Int) ≤ k.max := by
  simp only [Lit.wf, Bool.and_eq_true, decide_eq_true_eq] at h
  rw [hm] at h
  exact ⟨n.toNat, by omega, by omega⟩
theorem nat8_of_wf {n : Int} (h : (Lit.int .u8 n).wf = true) : ∃ m : Nat, n = (m : Int) ∧ m < 256 := by
  obtain ⟨m, rfl, h1⟩ := nat_of_wf h (by decide)
  rw [show IntKind.u8.max = 255 by decide] at h1
  exact ⟨m, rfl, by omega⟩
theorem nat16_of_wf {n : Int} (h : (Lit.int .u16 n).wf = true) : ∃ m : Nat, n = (m : Int) ∧ m < 65536 := by
  obtain ⟨m, rfl, h1⟩ := nat_of_wf h (by decide)
  rw [show IntKind.u16.max = 65535 by decide] at h1
  exact ⟨m, rfl, by omega⟩
theorem nat32_of_wf {n : Int} (h : (Lit.int .u32 n).wf = true) : ∃ m : Nat, n = (m : Int) ∧ m < 4294967296 := by
  obtain ⟨m, rfl, h1⟩ := nat_of_wf h (by decide)
  rw [show IntKind.u32.max = 4294967295 by decide] at h1
  exact ⟨m, rfl, by omega⟩
theorem cell8 {H : Type} {enc : TypeId × Value → H} {W : World} {base : Nat} {sp : Nat → Bool} {hd : Bool} {v : Value} {x : DataW H × List MemPlace} {fuel : Nat}
    (hf : DataW.trod enc Tryz.prog W base sp hd fuel 5 [v] = some x) : ∃ m : Nat, v = .int .u8 m ∧ m < 256 := by
  obtain ⟨n, h, _, hw⟩ := DataW.trod_int Tryz.underlying5 hf
  obtain rfl := List.singleton_inj.1 h
  obtain ⟨m, rfl, hm⟩ := nat8_of_wf hw
  exact ⟨m, rfl, hm⟩
theorem cell16 {H : Type} {enc : TypeId × Value → H} {W : World} {base : Nat} {sp : Nat → Bool} {hd : Bool} {v : Value} {x : DataW H × List MemPlace} {fuel : Nat}
    (hf : DataW.trod enc Tryz.prog W base sp hd fuel 24 [v] = some x) : ∃ m : Nat, v = .int .u16 m ∧ m < 65536 := by
  obtain ⟨n, h, _, hw⟩ := DataW.trod_int Tryz.underlying24 hf
  obtain rfl := List.singleton_inj.1 h
  obtain ⟨m, rfl, hm⟩ := nat16_of_wf hw
  exact ⟨m, rfl, hm⟩
set_option maxRecDepth 100000 in
theorem arr8x4_of {H : Type} {enc : TypeId × Value → H} {W : World} {base : Nat} {sp : Nat → Bool} {hd : Bool} {v : Value} {d : DataW H} {ps : List MemPlace} {r : Reach} {b0 : Nat}
    (hv : Value.okWide Tryz.prog W r b0 44 v) (h : DataW.Trod enc Tryz.prog W base sp hd 44 v d ps) :
    ∃ a0 a1 a2 a3 : Nat, v = .agg #[.int .u8 a0, .int .u8 a1, .int .u8 a2, .int .u8 a3] ∧ a0 < 256 ∧ a1 < 256 ∧ a2 < 256 ∧ a3 < 256 := by
  simp only [Value.okWide, Tryz.underlying44] at hv
  obtain ⟨⟨cs⟩, rfl, hsz, _⟩ := hv
  have h4 : Tryz.prog.cellsOf 44 = 4 := by kernel_rfl
  have h1 : Tryz.prog.cellsOf 5 = 1 := by kernel_rfl
  rw [h4] at hsz
  match cs, hsz with
  | [a, b, c, e], _ =>
    obtain ⟨fuel, hf⟩ := h
    cases fuel with
    | zero => simp [DataW.trod] at hf
    | succ m =>
      rw [DataW.trod_step] at hf
      unfold DataW.trodStep at hf
      simp only [Tryz.underlying44, Value.cells, h4, h1] at hf
      simp [List.range, List.range.loop, Option.bind_eq_some_iff] at hf
      obtain ⟨_, _, ha, _, ⟨_, _, hb, _, ⟨_, _, hc, _, ⟨_, _, he, _⟩, _⟩, _⟩, _⟩ := hf
      obtain ⟨a0, rfl, i0⟩ := cell8 ha
      obtain ⟨a1, rfl, i1⟩ := cell8 hb
      obtain ⟨a2, rfl, i2⟩ := cell8 hc
      obtain ⟨a3, rfl, i3⟩ := cell8 he
      exact ⟨a0, a1, a2, a3, rfl, i0, i1, i2, i3⟩
set_option maxRecDepth 100000 in
theorem arr16x8_of {H : Type} {enc : TypeId × Value → H} {W : World} {base : Nat} {sp : Nat → Bool} {hd : Bool} {v : Value} {d : DataW H} {ps : List MemPlace} {r : Reach} {b0 : Nat}
    (hv : Value.okWide Tryz.prog W r b0 49 v) (h : DataW.Trod enc Tryz.prog W base sp hd 49 v d ps) :
    ∃ l : List Nat, v = .agg (l.map (fun n : Nat => Value.int .u16 (n : Int))).toArray ∧ l.length = 8 ∧ ∀ n ∈ l, n < 65536 := by
  simp only [Value.okWide, Tryz.underlying49] at hv
  obtain ⟨⟨cs⟩, rfl, hsz, _⟩ := hv
  have h8 : Tryz.prog.cellsOf 49 = 8 := by kernel_rfl
  have h1 : Tryz.prog.cellsOf 24 = 1 := by kernel_rfl
  rw [h8] at hsz
  match cs, hsz with
  | [a, b, c, e, f, g, i, j], _ =>
    obtain ⟨fuel, hf⟩ := h
    cases fuel with
    | zero => simp [DataW.trod] at hf
    | succ m =>
      rw [DataW.trod_step] at hf
      unfold DataW.trodStep at hf
      simp only [Tryz.underlying49, Value.cells, h8, h1] at hf
      simp [List.range, List.range.loop, Option.bind_eq_some_iff] at hf
      obtain ⟨_, _, ha, _, ⟨_, _, hb, _, ⟨_, _, hc, _, ⟨_, _, he, _, ⟨_, _, hf', _, ⟨_, _, hg, _, ⟨_, _, hi, _, ⟨_, _, hj, _⟩, _⟩, _⟩, _⟩, _⟩, _⟩, _⟩, _⟩ := hf
      obtain ⟨a0, rfl, i0⟩ := cell16 ha
      obtain ⟨a1, rfl, i1⟩ := cell16 hb
      obtain ⟨a2, rfl, i2⟩ := cell16 hc
      obtain ⟨a3, rfl, i3⟩ := cell16 he
      obtain ⟨a4, rfl, i4⟩ := cell16 hf'
      obtain ⟨a5, rfl, i5⟩ := cell16 hg
      obtain ⟨a6, rfl, i6⟩ := cell16 hi
      obtain ⟨a7, rfl, i7⟩ := cell16 hj
      refine ⟨[a0, a1, a2, a3, a4, a5, a6, a7], rfl, rfl, ?_⟩
      intro n hn
      simp only [List.mem_cons, List.not_mem_nil, or_false] at hn
      rcases hn with rfl | rfl | rfl | rfl | rfl | rfl | rfl | rfl <;> assumption
end Go.Proofs.YtkaejkjheajaaaaGreatDoor
namespace Go.Proofs.YtkaejkjheajaaaaGreatDoor.hostsSix
open Go.ChangeShapes Go.WideShapes Go.ChangeAt Go.RowKit Go.Proofs.YtkaejkjheajaaaaGreatDoor

theorem own : ownKnob Tryz.prog.godebug = none := by kernel_rfl

theorem walk (a b : List Nat) (m : Nat) (ha : a.length = 8 ∧ ∀ n ∈ a, n < 65536) (hb : b.length = 8 ∧ ∀ n ∈ b, n < 65536) (hm : m < 256) (w : World) (hE : EnvH w) : Calls Tryz.prog 9 #[sixV a, sixV b, .int .u8 m] w (RBool true w) := hostsSix_go a b m ha hb hm w hE

theorem env {W : World} (h : laidMetH Tryz.prog Rows.hostsSixRow.laid W) (hsh : W.ShapedOpen Tryz.prog) : EnvH W :=
  envH_of_laid h hsh (.tail _ (.tail _ (.head _))) (.tail _ (.tail _ (.tail _ (.tail _ (.head _))))) (.tail _ (.tail _ (.tail _ (.tail _ (.tail _ (.head _))))))
    (.tail _ (.tail _ (.tail _ (.tail _ (.tail _ (.tail _ (.head _))))))) (.tail _ (.head _))

set_option maxRecDepth 100000 in
/-- WHAT THE WALK GIVES, FOR EVERY ARGUMENT AND EVERY WORLD THAT HOLDS WHAT THE ROW LISTS. -/
theorem contract (H : Type) (enc : TypeId × Value → H) (W : World) (base : Nat) (args : Array Value) (ds gs : List (DataW H)) (before : List MemPlace)
    (hval : ∀ (j : Nat) t v, Tryz.f9.params[j]? = some t → args[j]? = some v → Value.okWide Tryz.prog W .any base t v)
    (hW : DataW.Whole enc Tryz.prog Tryz.f9.params.toList Rows.hostsSixSpec.vars false W args.toList ds gs before) (hL : laidMetH Tryz.prog Rows.hostsSixRow.laid W) (hsh : W.ShapedOpen Tryz.prog) :
    Calls Tryz.prog 9 args W fun e W' => ∃ v, e = .returned v ∧ Rows.hostsSixSpec.post enc Tryz.prog Tryz.f9 false true false false W args v W' := by
  have hW' := hW
  obtain ⟨p, q, hA0, hV, rfl, hfz, hnd⟩ := hW
  have hA : DataW.TrodAll enc Tryz.prog W 0 (fun _ => true) true Tryz.f9.params.toList args.toList ds p := hA0
  rw [Tryz.params9] at hA hval
  have hAk := hA
  have hlt : ∀ x ∈ p, x.block < W.heap.size := fun x hx => hW'.lt x (List.mem_append_left _ hx)
  obtain ⟨v0, v1, v2, d0, d1, d2, p0, p1, p2, rfl, rfl, rfl, h0, h1, h2⟩ := trodAll_three hA
  obtain ⟨rfl, rfl⟩ := trodVars_none hV
  obtain ⟨a, rfl, ha⟩ := arr16x8_of (hval 0 49 v0 rfl rfl) h0
  obtain ⟨b, rfl, hb0⟩ := arr16x8_of (hval 1 49 v1 rfl rfl) h1
  obtain ⟨n2, rfl, rfl, rfl, hn2⟩ := open_int Tryz.underlying5 (hval 2 5 v2 rfl rfl) h2
  obtain ⟨m, rfl, hm⟩ := nat8_of_wf hn2
  clear hA0
  refine (walk a b m ha hb0 hm W (env hL hsh)).mono fun e W' hr => ?_
  obtain ⟨he, hb⟩ : e = .returned (.bool true) ∧ Below W.heap.size W W' := hr
  subst he
  refine ⟨_, rfl, _, _, _, [], p0 ++ p1 ++ [], [], hW', ?_, ?_, ?_, hb.frame _, ?_⟩
  · exact trodAll_mk1 (shut_bool Tryz.underlying4 true)
  · exact trodAll_below hb (by decide +kernel) hAk hlt
  · rfl
  · exact fun h => by cases h

def cellsOfPinned : DataW Unit → Array Value
  | .agg l => (l.filterMap fun | .lit (.int k z) => some (Value.int k z) | _ => none).toArray
  | _ => #[]
/-- The witness starts where the door's own run ends; the table of unicode/utf8, that the door does not lay, is laid besides. -/
noncomputable def start (os : Os) : World :=
  { World.doorLaid Tryz.prog 84 os with heap := (World.doorLaid Tryz.prog 84 os).heap.modify 6 fun
      | .cells _ t frozen => .cells (cellsOfPinned Rows.laid_unicode_utf8_first) t frozen
      | o => o }
theorem met (os : Os) (args : Array Value) : laidMetH Tryz.prog Rows.hostsSixRow.laid ((start os).forCall (fun _ _ => 0) ⟨#[], args, []⟩).memory :=
  laidMetH_of_parts3 (fuel := 8) (laidMet_of_run' 8 (by kernel_rfl) (by kernel_rfl)) (by kernel_rfl) (by kernel_rfl)
theorem reads (os : Os) {H : Type} (enc : TypeId × Value → H) : ∃ places, DataW.whole enc Tryz.prog ((start os).forCall (fun _ _ => 0) ⟨#[], #[.agg #[.int .u16 0, .int .u16 0, .int .u16 0, .int .u16 0, .int .u16 0, .int .u16 0, .int .u16 0, .int .u16 0], .agg #[.int .u16 0, .int .u16 0, .int .u16 0, .int .u16 0, .int .u16 0, .int .u16 0, .int .u16 0, .int .u16 0], .int .u8 0], []⟩).memory Tryz.f9.params.toList Rows.hostsSixSpec.vars false #[Value.agg #[.int .u16 0, .int .u16 0, .int .u16 0, .int .u16 0, .int .u16 0, .int .u16 0, .int .u16 0, .int .u16 0], .agg #[.int .u16 0, .int .u16 0, .int .u16 0, .int .u16 0, .int .u16 0, .int .u16 0, .int .u16 0, .int .u16 0], .int .u8 0].toList 8 = some ([.agg [.lit (.int .u16 0), .lit (.int .u16 0), .lit (.int .u16 0), .lit (.int .u16 0), .lit (.int .u16 0), .lit (.int .u16 0), .lit (.int .u16 0), .lit (.int .u16 0)], .agg [.lit (.int .u16 0), .lit (.int .u16 0), .lit (.int .u16 0), .lit (.int .u16 0), .lit (.int .u16 0), .lit (.int .u16 0), .lit (.int .u16 0), .lit (.int .u16 0)], .lit (.int .u8 0)], [], places) :=
  ⟨[], by kernel_rfl⟩

set_option maxRecDepth 100000 in
theorem lifted (os : Os) (started : os.Started) (H : Type) (enc : TypeId × Value → H) (F : Stop.Interp) :
    ReturnsInHanded {} Tryz.checked os 9 .any ((OpenSpec.ofChange Rows.hostsSixSpec).preRow enc Tryz.prog Tryz.f9 Rows.hostsSixRow.domain false Rows.hostsSixRow.laid) (((OpenSpec.ofChange Rows.hostsSixSpec).at F).post enc Tryz.prog Tryz.f9 false true false false) := by
  obtain ⟨places, hx⟩ := reads os enc
  refine returnsInHanded_of_row (C := Tryz.checked) (s := OpenSpec.ofChange Rows.hostsSixSpec) own started (by kernel_rfl) Tryz.func9
    (witness_row_atRef (enc := enc) (C := Tryz.checked) false (start os) #[.agg #[.int .u16 0, .int .u16 0, .int .u16 0, .int .u16 0, .int .u16 0, .int .u16 0, .int .u16 0, .int .u16 0], .agg #[.int .u16 0, .int .u16 0, .int .u16 0, .int .u16 0, .int .u16 0, .int .u16 0, .int .u16 0, .int .u16 0], .int .u8 0] rfl (by kernel_rfl) (by kernel_rfl) (by kernel_rfl)
      (OpenSpec.preRow_of_cond 8 hx (by kernel_rfl) (fun k hk => by cases hk) (by kernel_rfl) (met os _))) ?_
  intro W base args ds gs before hval hW _ _ _ hL hsh _
  exact contract H enc W base args ds gs before hval hW hL hsh

theorem said : Rows.HostsSixSaid :=
  OpenClaim.holds_of_cond 9 Tryz.f9 rfl rfl rfl rfl rfl rfl rfl ⟨rfl, rfl, rfl, rfl, rfl⟩ rfl rfl rfl rfl rfl (by kernel_rfl) Tryz.func9 (by kernel_rfl)
    (of_decide_eq_true (by kernel_rfl)) (by unfold Func.isWrapper; first | (rw [if_pos (by decide +kernel)]; kernel_rfl) | (rw [if_neg (by decide +kernel)]; exact ⟨rfl, rfl⟩))
    (fun os started H enc _ F => by rw [OpenClaim.pre_eq_preRow]; exact lifted os started H enc F)

theorem plain (f : FuncId) (fn : Func) (hf : Tryz.pinned.checked.prog.funcNamed "lazaret/lazaretlaw07.HostsSix" = some f) (hfn : Tryz.pinned.checked.prog.funcs[f]? = some fn) :
    true = Tryz.pinned.checked.prog.looks [] ∧ ∀ (j : Nat) t, fn.params[j]? = some t → Tryz.pinned.checked.prog.wantsStandIn t = false := by
  obtain rfl : f = 9 := Option.some.inj ((show Tryz.prog.funcNamed "lazaret/lazaretlaw07.HostsSix" = some 9 by kernel_rfl).symm.trans hf) |>.symm
  obtain rfl : fn = Tryz.f9 := (Option.some.inj (Tryz.func9.symm.trans hfn)).symm
  refine ⟨by kernel_rfl, fun j t ht => ?_⟩
  rw [Tryz.params9] at ht
  have hm := Array.mem_of_getElem? ht
  simp only [List.mem_toArray, List.mem_cons, List.not_mem_nil, or_false] at hm
  rcases hm with rfl | rfl | rfl
  · exact (show Tryz.prog.wantsStandIn 49 = false by kernel_rfl)
  · exact (show Tryz.prog.wantsStandIn 49 = false by kernel_rfl)
  · exact (show Tryz.prog.wantsStandIn 5 = false by kernel_rfl)

theorem card : Rows.HostsSixCardSaid :=
  Claim7.holds_tied_plain_at .later [] _ _ _ _ said (fun _ h => by cases h) (by kernel_rfl) (fun _ h => by cases h) hostsSix_row_tie rfl ⟨rfl, rfl⟩ (by kernel_rfl) rfl plain (by kernel_rfl)
end Go.Proofs.YtkaejkjheajaaaaGreatDoor.hostsSix
