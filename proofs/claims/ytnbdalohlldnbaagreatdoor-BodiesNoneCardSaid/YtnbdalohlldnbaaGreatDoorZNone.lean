/-
  From the rows of lazaretlaw20 to what the walks ask: the scopes, the table of blanks; a token that came in.
  What the rows of lazaretlaw20 share: what is laid, and a world that a witness starts in.
  The statement and the card of lazaretlaw20.BodiesNone: whatever comes in, the law returns true, and what came in reads as it did.
-/
import Derived.Test.YtnbdalohlldnbaaGreatDoorM18
import Derived.Test.YtnbdalohlldnbaaGreatDoorRows
import Derived.ProofKit
import Derived.OpenShut
import Derived.Deep.DeepHandedRow
import Derived.Deep.DeepWitnessRowRef
import Derived.Lib.LaidTab
import Derived.Lib.LaidU8
import Derived.LaidMore
import Derived.LaidSub
import Derived.LaidHandle
import Derived.Shelf.Vars
import Derived.PinnedBridge
import Derived.Carry
import Derived.Deep.DeepLaidRun
import Derived.Test.YtnbdalohlldnbaaGreatDoorCards
import Derived.Test.YtnbdalohlldnbaaGreatDoorTie
set_option maxRecDepth 100000
namespace Go.Proofs.YtnbdalohlldnbaaGreatDoor
open Go.ChangeShapes Go.WideShapes Go.ChangeAt Go.RowKit
theorem laid_reads {l : List (String × DataW Unit)} {W : World} (h : laidMetH Tryz.prog l W) {n : String} {d : DataW Unit} (hm : (n, d) ∈ l) (hn : d.handleName?.isNone = true) : Lib.VarReads Tryz.prog W n d :=
  Lib.laidMet.reads (laidMetH_iff.1 h).1 (List.mem_filter.2 ⟨hm, hn⟩)
theorem tab_of_reads {W : World} {name : String} {k : IntKind} {zs : List Int} {g : Nat} {t e : TypeId} {n : Nat}
    (hg : Tryz.prog.globalNamed name = some g) (hty : (Tryz.prog.globals[g]?).map (·.type) = some t) (ht : Tryz.prog.underlying t = some (.array n e)) (he : Tryz.prog.underlying e = some (.int k)) (hce : Tryz.prog.cellsOf e = 1) (hct : Tryz.prog.cellsOf t = n)
    (h : Lib.VarReads Tryz.prog W name (Lib.tabData k zs)) : Lib.TabIs Tryz.prog W name k zs := by
  obtain ⟨g', t', cs, fuel, p, hg', ht', hvar, hd⟩ := h
  obtain rfl := Option.some.inj (hg.symm.trans hg')
  obtain rfl := Option.some.inj (hty.symm.trans ht')
  unfold Lib.TabIs
  rw [hvar, ← Lib.cells_of_tab ht he hce hct hd]
theorem gSp : Tryz.prog.globalNamed "strings.asciiSpace" = some 1 := by kernel_rfl
theorem gSc : Tryz.prog.globalNamed "lazaret/kinds.scopes" = some 4 := by kernel_rfl
theorem cellsS1 : Tryz.prog.cellsOf 9 = 1 := by kernel_rfl
theorem cellsB1 : Tryz.prog.cellsOf 4 = 1 := by kernel_rfl
theorem cellsI1 : Tryz.prog.cellsOf 3 = 1 := by kernel_rfl
theorem cellsA1 : Tryz.prog.cellsOf 22 = 1 := by kernel_rfl
theorem sc_of_laid {W : World} (h : Lib.VarReads Tryz.prog W "lazaret/kinds.scopes" Rows.laid_lazaret_kinds_scopes) : ∀ j : Nat, j < 4 → W.cell? ⟨4, j, none⟩ = some (.string (Bd.scopesL.getD j Bd.em)) := by
  obtain ⟨g', t', cs, fuel, p, hg', ht', hvar, hd⟩ := h
  obtain rfl := Option.some.inj (gSc.symm.trans hg')
  obtain rfl := Option.some.inj ((show (Tryz.prog.globals[4]?).map (·.type) = some 192 by kernel_rfl).symm.trans ht')
  obtain ⟨xs, m, _, hx, _, hxl, hcell⟩ := DataW.trod_array Tryz.underlying192 hd
  have e : (Rows.laid_lazaret_kinds_scopes : DataW Unit) = .agg (Bd.scopesL.map fun l => .lit (.string l.data.toList)) := by kernel_rfl
  have hm := congrArg Prod.fst hx
  rw [e] at hm
  dsimp only at hm
  injection hm with hm
  intro i hi
  have h1 := hcell i hi
  rw [cellsS1, Nat.mul_one, List.getElem?_eq_getElem (by rw [hxl]; exact hi)] at h1
  obtain ⟨s, hs, hy, _⟩ := DataW.trod_string (Tryz.underlying9) h1
  have hy1 : (xs[i]'(by rw [hxl]; exact hi)).1 = .lit (.string s.data.toList) := by rw [hy]
  have hl : i < Bd.scopesL.length := hi
  have h2 : (xs.map (·.1))[i]? = (Bd.scopesL.map fun l => (.lit (.string l.data.toList) : DataW Unit))[i]? := by rw [hm]
  rw [List.getElem?_map, List.getElem?_map, List.getElem?_eq_getElem (by rw [hxl]; exact hi), List.getElem?_eq_getElem hl, Option.map_some, Option.map_some, hy1] at h2
  have h3 : s = Bd.scopesL[i] := by
    have := Option.some.inj h2
    injection this with this
    injection this with this
    exact ByteArray.ext (Array.toList_inj.1 this)
  have h4 := congrArg (fun l : List Value => l[0]?) hs
  simp only [List.getElem?_take, List.getElem?_drop, Nat.add_zero] at h4
  rw [World.var?_cell gSc hvar i, ← Array.getElem?_toList, List.getD_eq_getElem?_getD, List.getElem?_eq_getElem hl, Option.getD_some, ← h3]
  simpa using h4
theorem e2_of_laid {l : List (String × DataW Unit)} {W : World} (h : laidMetH Tryz.prog l W) (hsh : W.ShapedOpen Tryz.prog) (m1 : ("strings.asciiSpace", Rows.laid_strings_asciiSpace) ∈ l) (m2 : ("lazaret/kinds.scopes", Rows.laid_lazaret_kinds_scopes) ∈ l) : E2 W :=
  ⟨⟨cell_of_shapedOpen_int (zero := #[.int .i64 0]) (t := 3) hsh (of_decide_eq_true (by kernel_rfl)) (by kernel_rfl) rfl (by kernel_rfl) (by kernel_rfl) (Tryz.underlying3), sc_of_laid (laid_reads h m2 rfl)⟩,
    tab_of_reads gSp (t := 140) (by kernel_rfl) (Tryz.underlying140) (Tryz.underlying5) (by kernel_rfl) (by kernel_rfl) (laid_reads h m1 rfl)⟩
section
variable {H : Type} {enc : TypeId × Value → H} {W : World} {base : Nat} {sp : Nat → Bool} {hd : Bool} {v : Value} {fuel : Nat} {x : Option (DataW H × List MemPlace)}
theorem bcell_str (h : DataW.trod enc Tryz.prog W base sp hd fuel 9 [v] = x) (hx : x.isSome = true) : ∃ s : ByteArray, v = .string s := by
  obtain ⟨y, rfl⟩ := Option.isSome_iff_exists.1 hx
  obtain ⟨s, h1, _⟩ := DataW.trod_string Tryz.underlying9 h
  exact ⟨s, List.singleton_inj.1 h1⟩
theorem bcell_bool (h : DataW.trod enc Tryz.prog W base sp hd fuel 4 [v] = x) (hx : x.isSome = true) : ∃ b : Bool, v = .bool b := by
  obtain ⟨y, rfl⟩ := Option.isSome_iff_exists.1 hx
  obtain ⟨b, h1, _⟩ := DataW.trod_bool Tryz.underlying4 h
  exact ⟨b, List.singleton_inj.1 h1⟩
theorem bcell_int (h : DataW.trod enc Tryz.prog W base sp hd fuel 3 [v] = x) (hx : x.isSome = true) : ∃ n : Int, v = .int .i64 n := by
  obtain ⟨y, rfl⟩ := Option.isSome_iff_exists.1 hx
  obtain ⟨n, h1, _⟩ := DataW.trod_int Tryz.underlying3 h
  exact ⟨n, List.singleton_inj.1 h1⟩
theorem bcell_attrs (h : DataW.trod enc Tryz.prog W base sp hd fuel 22 [v] = x) (hx : x.isSome = true) : ∃ a n c, v = .slice a n c := by
  obtain ⟨y, rfl⟩ := Option.isSome_iff_exists.1 hx
  rcases DataW.trod_slice Tryz.underlying22 h with ⟨h1, _⟩ | ⟨a, len, cap, _, _, _, _, h1, _⟩
  · exact ⟨_, _, _, List.singleton_inj.1 h1⟩
  · exact ⟨_, _, _, List.singleton_inj.1 h1⟩
theorem bcell_at {f : Field} {cs : List Value} {t : TypeId} {y : Option (DataW H × List MemPlace)} (h : DataW.trod enc Tryz.prog W base sp hd fuel f.type ((cs.drop f.offset).take (Tryz.prog.cellsOf f.type)) = y) (ht : f.type = t) (hc : Tryz.prog.cellsOf t = 1) {c : Value} {r : List Value} (hd' : cs.drop f.offset = c :: r) : DataW.trod enc Tryz.prog W base sp hd fuel t [c] = y := by
  subst ht
  rw [hc, hd'] at h
  exact h
theorem len9 {α : Type} {l : List α} (h : l.length = 9) : ∃ a b c d e f g i j, l = [a, b, c, d, e, f, g, i, j] := by
  match l, h with
  | [a, b, c, d, e, f, g, i, j], _ => exact ⟨a, b, c, d, e, f, g, i, j, rfl⟩
theorem cellsTok : Tryz.prog.cellsOf 24 = 9 := by kernel_rfl
set_option maxRecDepth 100000 in
/-- A token that came in. -/
theorem tok_of {d : DataW H} {ps : List MemPlace} {r : Reach} {b0 : Nat} (hv : Value.okWide Tryz.prog W r b0 24 v) (h : DataW.Trod enc Tryz.prog W base sp hd 24 v d ps) :
    ∃ (kd fr tt : Int) (nm tx0 : ByteArray) (a : Option Addr) (n c : Nat) (dp se qu : Bool), v = .agg #[.int .i64 kd, .string nm, .string tx0, .slice a n c, .bool dp, .bool se, .bool qu, .int .i64 fr, .int .i64 tt] := by
  simp only [Value.okWide, Tryz.underlying24] at hv
  obtain ⟨⟨cs⟩, rfl, hsz, _⟩ := hv
  rw [cellsTok] at hsz
  obtain ⟨fuel, hf⟩ := h
  obtain ⟨a, b, c, e, f, g, i, j, k, rfl⟩ := len9 hsz
  obtain ⟨xs, n, _, _, _, hlen, hx⟩ := DataW.trod_struct Tryz.underlying24 (show DataW.trod enc Tryz.prog W base sp hd fuel 24 [a, b, c, e, f, g, i, j, k] = some (d, ps) from hf)
  have hsome : ∀ i, i < 9 → xs[i]?.isSome = true := fun i hi => by rw [List.getElem?_eq_getElem (by rw [hlen]; exact hi)]; rfl
  obtain ⟨kd, rfl⟩ := bcell_int (bcell_at (hx 0 _ rfl) rfl cellsI1 rfl) (hsome 0 (by omega))
  obtain ⟨nm, rfl⟩ := bcell_str (bcell_at (hx 1 _ rfl) rfl cellsS1 rfl) (hsome 1 (by omega))
  obtain ⟨tx0, rfl⟩ := bcell_str (bcell_at (hx 2 _ rfl) rfl cellsS1 rfl) (hsome 2 (by omega))
  obtain ⟨a0, n0, c0, rfl⟩ := bcell_attrs (bcell_at (hx 3 _ rfl) rfl cellsA1 rfl) (hsome 3 (by omega))
  obtain ⟨dp, rfl⟩ := bcell_bool (bcell_at (hx 4 _ rfl) rfl cellsB1 rfl) (hsome 4 (by omega))
  obtain ⟨se, rfl⟩ := bcell_bool (bcell_at (hx 5 _ rfl) rfl cellsB1 rfl) (hsome 5 (by omega))
  obtain ⟨qu, rfl⟩ := bcell_bool (bcell_at (hx 6 _ rfl) rfl cellsB1 rfl) (hsome 6 (by omega))
  obtain ⟨fr, rfl⟩ := bcell_int (bcell_at (hx 7 _ rfl) rfl cellsI1 rfl) (hsome 7 (by omega))
  obtain ⟨tt, rfl⟩ := bcell_int (bcell_at (hx 8 _ rfl) rfl cellsI1 rfl) (hsome 8 (by omega))
  exact ⟨kd, fr, tt, nm, tx0, a0, n0, c0, dp, se, qu, rfl⟩
end
end Go.Proofs.YtnbdalohlldnbaaGreatDoor

set_option maxRecDepth 100000
namespace Go.Proofs.YtnbdalohlldnbaaGreatDoor
open Go.ChangeShapes Go.WideShapes Go.ChangeAt Go.RowKit
theorem laidOut : laidOutB Tryz.prog = true := by kernel_rfl
/-- The arguments read behind the call as they did. -/
theorem trodAll_below {H : Type} {enc : TypeId × Value → H} {W W' : World} (hb : Below W.heap.size W W') : ∀ {ts : List TypeId} {vs : List Value} {ds : List (DataW H)} {ps : List MemPlace},
    (∀ t ∈ ts, Tryz.prog.readableRec t = true ∧ t < Tryz.prog.types.size) → DataW.TrodAll enc Tryz.prog W 0 (fun _ => true) true ts vs ds ps → (∀ x ∈ ps, x.block < W.heap.size) →
    DataW.TrodAll enc Tryz.prog W' 0 (fun b => decide (b < W.heap.size)) true ts vs ds ps
  | [], [], [], _, _, h, _ => h
  | t :: ts, v :: vs, d :: ds, ps, ht, ⟨p, q, h1, h2, e⟩, hlt =>
    ⟨p, q, Below.trod laidOut (ht t (by simp)).1 (ht t (by simp)).2 h1 hb (fun x hx => hlt x (by rw [e]; exact List.mem_append_left _ hx)),
      trodAll_below hb (fun t' h' => ht t' (by simp [h'])) h2 (fun x hx => hlt x (by rw [e]; exact List.mem_append_right _ hx)), e⟩
  | [], _ :: _, _, _, _, h, _ => by simp [DataW.TrodAll] at h
  | [], [], _ :: _, _, _, h, _ => by simp [DataW.TrodAll] at h
  | _ :: _, [], _, _, _, h, _ => by simp [DataW.TrodAll] at h
  | _ :: _, _ :: _, [], _, _, h, _ => by simp [DataW.TrodAll] at h

theorem ownU : ownKnob Tryz.prog.godebug = none := by kernel_rfl
theorem e2_row {W : World} (h : laidMetH Tryz.prog Rows.bodiesNoneRow.laid W) (hsh : W.ShapedOpen Tryz.prog) : E2 W := e2_of_laid h hsh (.tail _ (.head _)) (.tail _ (.tail _ (.head _)))
/-- The witness starts where the door's own run ends. -/
noncomputable def startU (os : Os) : World := World.doorLaid Tryz.prog 200 os
theorem metU (os : Os) (args : Array Value) : laidMetH Tryz.prog Rows.bodiesNoneRow.laid ((startU os).forCall (fun _ _ => 0) ⟨#[], args, []⟩).memory :=
  laidMetH_of_parts3 (fuel := 8) (laidMet_of_run3 8 (by kernel_rfl) (by kernel_rfl) (by kernel_rfl)) (by kernel_rfl) (by kernel_rfl)
/-! What every row asks of the program, fact by fact: together they outgrow the kernel's memory. -/
theorem andI {a b : Bool} (h1 : a = true) (h2 : b = true) : (a && b) = true := by rw [h1, h2]; rfl
theorem mayU : Tryz.prog.mayEnter = true := by kernel_rfl
theorem liftU : (Rows.bodiesNoneRow.lifted == Tryz.prog.liftsFinal) = true := by kernel_rfl
theorem makeU : (Tryz.prog.make == some Rows.bodiesNoneRow.make) = true := by kernel_rfl
theorem mapsU : mapsRowed Tryz.prog = true := by kernel_rfl
theorem keysU : (Rows.bodiesNoneRow.plainKeys == Tryz.prog.plainKeys) = true := by kernel_rfl
theorem heardU : Tryz.prog.stopsHeard = true := by kernel_rfl
/-- A token that came in, by its parts. -/
structure TokI where
  kd : Int
  fr : Int
  tt : Int
  nm : ByteArray
  tx : ByteArray
  a : Option Addr
  n : Nat
  c : Nat
  dp : Bool
  se : Bool
  qu : Bool
def TokI.val (x : TokI) : Value := .agg #[.int .i64 x.kd, .string x.nm, .string x.tx, .slice x.a x.n x.c, .bool x.dp, .bool x.se, .bool x.qu, .int .i64 x.fr, .int .i64 x.tt]
theorem tokI_of {H : Type} {enc : TypeId × Value → H} {W : World} {base : Nat} {sp : Nat → Bool} {hd : Bool} {v : Value} {d : DataW H} {ps : List MemPlace} {r : Reach} {b0 : Nat} (hv : Value.okWide Tryz.prog W r b0 24 v) (h : DataW.Trod enc Tryz.prog W base sp hd 24 v d ps) : ∃ x : TokI, v = x.val := by
  obtain ⟨kd, fr, tt, nm, tx0, a, n, c, dp, se, qu, rfl⟩ := tok_of hv h
  exact ⟨⟨kd, fr, tt, nm, tx0, a, n, c, dp, se, qu⟩, rfl⟩
theorem bodiesNone_any (x : TokI) (w : World) (hE : E2 w) : Calls Tryz.prog 3 #[x.val] w (RBool true w) := BodiesNone_any hE x.kd x.fr x.tt x.nm x.tx x.a x.n x.c x.dp x.se x.qu
end Go.Proofs.YtnbdalohlldnbaaGreatDoor

namespace Go.Proofs.YtnbdalohlldnbaaGreatDoor.bodiesNone
open Go.ChangeShapes Go.WideShapes Go.ChangeAt Go.RowKit Go.Proofs.YtnbdalohlldnbaaGreatDoor

theorem walk (x0 : TokI) (w : World) (hE : E2 w) : Calls Tryz.prog 3 #[x0.val] w (RBool true w) := bodiesNone_any x0 w hE

theorem env {W : World} (h : laidMetH Tryz.prog Rows.bodiesNoneRow.laid W) (hsh : W.ShapedOpen Tryz.prog) : E2 W := e2_row h hsh

set_option maxRecDepth 100000 in
/-- WHAT THE WALK GIVES, FOR EVERY ARGUMENT AND EVERY WORLD THAT HOLDS WHAT THE ROW LISTS. -/
theorem contract (H : Type) (enc : TypeId × Value → H) (W : World) (base : Nat) (args : Array Value) (ds gs : List (DataW H)) (before : List MemPlace)
    (hval : ∀ (j : Nat) t v, Tryz.f3.params[j]? = some t → args[j]? = some v → Value.okWide Tryz.prog W .any base t v)
    (hW : DataW.Whole enc Tryz.prog Tryz.f3.params.toList Rows.bodiesNoneSpec.vars false W args.toList ds gs before) (hL : laidMetH Tryz.prog Rows.bodiesNoneRow.laid W) (hsh : W.ShapedOpen Tryz.prog) :
    Calls Tryz.prog 3 args W fun e W' => ∃ v, e = .returned v ∧ Rows.bodiesNoneSpec.post enc Tryz.prog Tryz.f3 false true false false W args v W' := by
  have hW' := hW
  obtain ⟨p, q, hA0, hV, rfl, hfz, hnd⟩ := hW
  have hA : DataW.TrodAll enc Tryz.prog W 0 (fun _ => true) true Tryz.f3.params.toList args.toList ds p := hA0
  rw [Tryz.params3] at hA hval
  have hAk := hA
  have hlt : ∀ x ∈ p, x.block < W.heap.size := fun x hx => hW'.lt x (List.mem_append_left _ hx)
  obtain ⟨v0, d0, rfl, rfl, h0⟩ := trodAll_one hA
  obtain ⟨rfl, rfl⟩ := trodVars_none hV
  obtain ⟨x0, rfl⟩ := tokI_of (hval 0 24 v0 rfl rfl) h0
  clear hA0
  refine (walk x0 W (env hL hsh)).mono fun e W' hr => ?_
  obtain ⟨he, hb⟩ : e = .returned (.bool true) ∧ Below W.heap.size W W' := hr
  subst he
  refine ⟨_, rfl, _, _, _, [], p, [], hW', ?_, ?_, ?_, hb.frame _, ?_⟩
  · exact trodAll_mk1 (shut_bool Tryz.underlying4 true)
  · exact trodAll_below hb (by decide +kernel) hAk hlt
  · rfl
  · exact fun h => by cases h

theorem met (os : Os) (args : Array Value) : laidMetH Tryz.prog Rows.bodiesNoneRow.laid ((startU os).forCall (fun _ _ => 0) ⟨#[], args, []⟩).memory := metU os args
theorem reads (os : Os) {H : Type} (enc : TypeId × Value → H) : ∃ places, DataW.whole enc Tryz.prog ((startU os).forCall (fun _ _ => 0) ⟨#[], #[.agg #[.int .i64 0, .string ⟨#[]⟩, .string ⟨#[]⟩, .slice none 0 0, .bool false, .bool false, .bool false, .int .i64 0, .int .i64 0]], []⟩).memory Tryz.f3.params.toList Rows.bodiesNoneSpec.vars false #[Value.agg #[.int .i64 0, .string ⟨#[]⟩, .string ⟨#[]⟩, .slice none 0 0, .bool false, .bool false, .bool false, .int .i64 0, .int .i64 0]].toList 8 = some ([.agg [.lit (.int .i64 0), .lit (.string []), .lit (.string []), .nil, .lit (.bool false), .lit (.bool false), .lit (.bool false), .lit (.int .i64 0), .lit (.int .i64 0)]], [], places) :=
  ⟨[], by kernel_rfl⟩

set_option maxRecDepth 100000 in
theorem lifted (os : Os) (started : os.Started) (H : Type) (enc : TypeId × Value → H) (F : Stop.Interp) :
    ReturnsInHanded {} Tryz.checked os 3 .any ((OpenSpec.ofChange Rows.bodiesNoneSpec).preRow enc Tryz.prog Tryz.f3 Rows.bodiesNoneRow.domain false Rows.bodiesNoneRow.laid) (((OpenSpec.ofChange Rows.bodiesNoneSpec).at F).post enc Tryz.prog Tryz.f3 false true false false) := by
  obtain ⟨places, hx⟩ := reads os enc
  refine returnsInHanded_of_row (C := Tryz.checked) (s := OpenSpec.ofChange Rows.bodiesNoneSpec) ownU started (by kernel_rfl) Tryz.func3
    (witness_row_atRef (enc := enc) (C := Tryz.checked) false (startU os) #[.agg #[.int .i64 0, .string ⟨#[]⟩, .string ⟨#[]⟩, .slice none 0 0, .bool false, .bool false, .bool false, .int .i64 0, .int .i64 0]] rfl (by kernel_rfl) (by kernel_rfl) (by kernel_rfl)
      (OpenSpec.preRow_of_cond 8 hx (by kernel_rfl) (fun k hk => by cases hk) (by kernel_rfl) (met os _))) ?_
  intro W base args ds gs before hval hW _ _ _ hL hsh _
  exact contract H enc W base args ds gs before hval hW hL hsh

theorem c1 : Rows.bodiesNoneRow.wf (OpenSpec.ofChange Rows.bodiesNoneSpec) = true := by kernel_rfl
theorem c2 : namedTie Tryz.prog Rows.bodiesNoneRow.named Rows.bodiesNoneSpec.vars = true := by kernel_rfl
theorem c3 : (Rows.bodiesNoneRow.inPlace == Tryz.prog.inPlace 3) = true := by kernel_rfl
theorem c4 : (Rows.bodiesNoneRow.unfollowed == Tryz.prog.unfollowed 3) = true := by kernel_rfl
theorem c5 : (Rows.bodiesNoneRow.recurses == Tryz.prog.recurses 3) = true := by kernel_rfl
theorem c6 : (Rows.bodiesNoneRow.named == Tryz.prog.varsNamed 3) = true := by kernel_rfl
theorem c7 : (Rows.bodiesNoneRow.lifted == Tryz.prog.liftsFinal) = true := liftU
theorem c8 : (Tryz.prog.make == some Rows.bodiesNoneRow.make) = true := makeU
theorem c9 : (Rows.bodiesNoneRow.plainKeys == Tryz.prog.plainKeys) = true := keysU
theorem closed : joinedFacts Tryz.prog 3 Tryz.f3 Rows.bodiesNoneSpec Rows.bodiesNoneRow = true := by
  unfold joinedFacts
  repeat' (with_reducible refine andI ?_ ?_)
  all_goals first
    | with_reducible exact c1 | with_reducible exact laidOut | with_reducible exact mapsU | with_reducible exact c2 | with_reducible exact c3 | with_reducible exact c4 | with_reducible exact c5 | with_reducible exact c6
    | with_reducible exact c9 | with_reducible exact heardU | with_reducible exact mayU | with_reducible exact c7 | with_reducible exact c8
    | kernel_rfl
set_option maxRecDepth 100000 in
theorem said : Rows.BodiesNoneSaid :=
  OpenClaim.holds_of_cond 3 Tryz.f3 rfl rfl rfl rfl rfl rfl rfl ⟨rfl, rfl, rfl, rfl, rfl⟩ rfl rfl rfl rfl rfl (by kernel_rfl) Tryz.func3 closed
    (of_decide_eq_true (by kernel_rfl)) (by unfold Func.isWrapper; first | (rw [if_pos (by decide +kernel)]; kernel_rfl) | (rw [if_neg (by decide +kernel)]; exact ⟨rfl, rfl⟩))
    (fun os started H enc _ F => by rw [OpenClaim.pre_eq_preRow]; exact lifted os started H enc F)

theorem plain (f : FuncId) (fn : Func) (hf : Tryz.pinned.checked.prog.funcNamed "lazaret/lazaretlaw20.BodiesNone" = some f) (hfn : Tryz.pinned.checked.prog.funcs[f]? = some fn) :
    false = Tryz.pinned.checked.prog.looks [] ∧ ∀ (j : Nat) t, fn.params[j]? = some t → Tryz.pinned.checked.prog.wantsStandIn t = false := by
  obtain rfl : f = 3 := Option.some.inj ((show Tryz.prog.funcNamed "lazaret/lazaretlaw20.BodiesNone" = some 3 by kernel_rfl).symm.trans hf) |>.symm
  obtain rfl : fn = Tryz.f3 := (Option.some.inj (Tryz.func3.symm.trans hfn)).symm
  refine ⟨by kernel_rfl, fun j t ht => ?_⟩
  rw [Tryz.params3] at ht
  have hall : ∀ t ∈ (#[24] : Array TypeId), Tryz.prog.wantsStandIn t = false := by decide +kernel
  exact hall t (Array.mem_of_getElem? ht)

theorem card : Rows.BodiesNoneCardSaid :=
  Claim7.holds_tied_plain_at .later [] _ _ _ _ said (fun _ h => by cases h) (by kernel_rfl) (fun _ h => by cases h) bodiesNone_row_tie rfl ⟨rfl, rfl⟩ (by kernel_rfl) rfl plain (by kernel_rfl)
end Go.Proofs.YtnbdalohlldnbaaGreatDoor.bodiesNone
