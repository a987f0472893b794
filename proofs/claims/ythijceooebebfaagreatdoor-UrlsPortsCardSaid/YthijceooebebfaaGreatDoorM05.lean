/-
  hosts.fault and hosts.code: errors.As at a target of the type api.Errno, at an error that is a fault over a fault over a number at most.
  The contracts of the library that the walks of this seat lean on, at this dump: each one application of a summary that the kit proves.
-/
import Derived.Test.YthijceooebebfaaGreatDoorM04
import Derived.Test.YthijceooebebfaaGreatDoorM02
import Derived.Shelf.Strings.Builder1
import Derived.Shelf.Strings.Builder2
import Derived.Shelf.Strings.OnBuilder
import Derived.Shelf.Strings.Trim
import Derived.Shelf.Small.Utf8
import Derived.Shelf.Small.Strs
import Derived.Shelf.Strings.BuilderF
import Derived.Shelf.Strings.BuilderK
import Derived.Shelf.Strconv.Itoa0
import Derived.Shelf.Strconv.Itoa1
import Derived.Shelf.LaysM
import Derived.Shelf.Strconv.Itoa2
import Derived.Shelf.Strconv.Itoa3
import Derived.Shelf.Strconv.Itoa4
import Derived.Shelf.Strconv.Clone
import Derived.Shelf.Strconv.SyntaxError
import Derived.Shelf.LaysC
import Derived.Shelf.Strconv.ToError
import Derived.Shelf.Strconv.Lower
import Derived.Shelf.Strconv.ParseUint10
import Derived.Shelf.Strconv.ParseUint10Empty
import Derived.Shelf.Strconv.ParseUint10Any
import Derived.Shelf.Strconv.RangeError
import Derived.Shelf.Strconv.ToErrorRange
import Derived.Ground.MpProg
import Derived.Shelf.Pu.ParseUintPublic10
import Derived.Shelf.Pu.ErrVarParseUint
import Derived.Shelf.Strings.Search1
import Derived.Shelf.Strings.Search2
import Derived.Shelf.Strings.Search3
import Derived.Shelf.Strings.Cut
import Derived.Shelf.Strings.Count
import Derived.Shelf.Strings.Shaped
import Derived.Shelf.GgClosure.StringsIndexFunc
import Derived.Shelf.GgClosure.StringsTrimFunc
import Derived.Ground.GgwProg
import Derived.Shelf.GgClosure.StringsIndexFuncTop
import Derived.Shelf.GgClosure.StringsRunes
import Derived.Shelf.Strings.Prefix
import Derived.Shelf.Strings.Split
import Derived.Shelf.Strings.Replace
import Derived.Shelf.Strings.SplitShaped
import Derived.Shelf.Strings.Runes
import Derived.Shelf.Strings.IndexAny
import Derived.Shelf.Strings.AsciiSet
import Derived.Shelf.Strings.IndexAnyAll
import Derived.Shelf.Unicode.DecodeSlow
import Derived.Shelf.Unicode.DecodeAny
import Derived.Shelf.Unicode.DecodeLast
import Derived.Shelf.Strings.FuncGrows
import Derived.Test.YthijceooebebfaaGreatDoorProg
namespace Go.Proofs.YthijceooebebfaaGreatDoor
open Go.RowKit Go.Extern.Stop Go.Stop Go.Extern

/-! ### Closed facts on the model's entries for internal/reflectlite, at the type api.Errno -/
theorem Er.valueOfP (t : Addr) (w : World) : (ReflectliteValue.unpack (.iface 221 (.pointer (some t)))).run Tryz.prog w
    = .ok (.agg #[.pointer (some ⟨9, 221, none⟩), .pointer (some ⟨w.heap.size, 0, none⟩), .int .u64 150]) (w.alloc (.cells #[.pointer (some t)] 221)) := by kernel_rfl
theorem Er.typeP (a : Addr) (w : World) : (ReflectliteValue.methodAny (ReflectliteValue.valueError "reflectlite.Value.Type" 0) (fun t _ _ _ => ReflectliteType.toType t) #[.agg #[.pointer (some ⟨9, 221, none⟩), .pointer (some a), .int .u64 150]]).run Tryz.prog w
    = .ok (.iface 138 (.agg #[.pointer (some ⟨9, 221, none⟩)])) w := by kernel_rfl
theorem Er.kindP (w : World) : ((ReflectliteType.abiMethod fun t => (fun a : Nat => Value.int IntKind.u8 (a : Int)) <$> Rtype.kind t) #[.pointer (some ⟨9, 221, none⟩)]).run Tryz.prog w = .ok (.int .u8 22) w := by kernel_rfl
theorem Er.kindT (w : World) : ((ReflectliteType.abiMethod fun t => (fun a : Nat => Value.int IntKind.u8 (a : Int)) <$> Rtype.kind t) #[.pointer (some ⟨9, 28, none⟩)]).run Tryz.prog w = .ok (.int .u8 2) w := by kernel_rfl
theorem Er.partsP (a : Addr) (w : World) : (ReflectliteValue.parts (.agg #[.pointer (some ⟨9, 221, none⟩), .pointer (some a), .int .u64 150])).run Tryz.prog w = .ok (some (221, a, 150)) w := by kernel_rfl
/-- (Value).IsNil at the Value of a pointer that is not nil. -/
theorem Er.isNilP (a p : Addr) (W : World) (ha : W.cell? a = some (.pointer (some p))) :
    (ReflectliteValue.method (ReflectliteValue.valueError "reflectlite.Value.IsNil" 0) ReflectliteValue.isNil #[.agg #[.pointer (some ⟨9, 221, none⟩), .pointer (some a), .int .u64 150]]).run Tryz.prog W = .ok (.bool false) W := by
  rw [rlm]
  simp only [Sem.run_bind, Er.partsP, Result.andThen]
  simp [ReflectliteValue.isNil, loadVar, isAgg, underlying, Tryz.underlying221, ha, Result.andThen]
theorem Er.elemP (w : World) : (ReflectliteType.method ReflectliteType.elem #[.agg #[.pointer (some ⟨9, 221, none⟩)]]).run Tryz.prog w = .ok (.iface 138 (.agg #[.pointer (some ⟨9, 28, none⟩)])) w := by kernel_rfl
theorem Er.implementsT (w : World) : (ReflectliteType.relation "Implements" ReflectliteType.implements_ #[.agg #[.pointer (some ⟨9, 28, none⟩)], .iface 138 (.agg #[.pointer (some ⟨9, 52, none⟩)])]).run Tryz.prog w = .ok (.bool true) w := by kernel_rfl
theorem Er.typeOfT (v : Value) (w : World) : (ReflectliteType.typeOf #[.iface 28 v]).run Tryz.prog w = .ok (.iface 138 (.agg #[.pointer (some ⟨9, 28, none⟩)])) w := by kernel_rfl
theorem Er.assignableT (w : World) : (ReflectliteType.relation "AssignableTo" ReflectliteType.assignableTo #[.agg #[.pointer (some ⟨9, 28, none⟩)], .iface 138 (.agg #[.pointer (some ⟨9, 28, none⟩)])]).run Tryz.prog w = .ok (.bool true) w := by kernel_rfl
theorem Er.valueOfT (n : Int) (w : World) : (ReflectliteValue.unpack (.iface 28 (.int .i64 n))).run Tryz.prog w
    = .ok (.agg #[.pointer (some ⟨9, 28, none⟩), .pointer (some ⟨w.heap.size, 0, none⟩), .int .u64 130]) (w.alloc (.cells #[(.int .i64 n)] 28)) := by kernel_rfl
theorem Er.elemOfP (w : World) : (Rtype.elem? 221).run Tryz.prog w = .ok (some 28) w := by kernel_rfl
theorem Er.mkT (p : Addr) (w : World) : (ReflectliteValue.mk 28 p ReflectliteValue.flagAddr).run Tryz.prog w = .ok (.agg #[.pointer (some ⟨9, 28, none⟩), .pointer (some p), .int .u64 386]) w := by kernel_rfl
/-- (Value).Elem at the Value of a pointer that is not nil: the variable that it points to, addressable. -/
theorem Er.elemVP (a p : Addr) (W : World) (ha : W.cell? a = some (.pointer (some p))) :
    (ReflectliteValue.method (ReflectliteValue.valueError "reflectlite.Value.Elem" 0) ReflectliteValue.elem #[.agg #[.pointer (some ⟨9, 221, none⟩), .pointer (some a), .int .u64 150]]).run Tryz.prog W
      = .ok (.agg #[.pointer (some ⟨9, 28, none⟩), .pointer (some p), .int .u64 386]) W := by
  rw [rlm]
  simp only [Sem.run_bind, Er.partsP, Result.andThen]
  simp [ReflectliteValue.elem, loadVar, isAgg, underlying, Tryz.underlying221, ha, Result.andThen, Er.elemOfP, Er.mkT]
theorem Er.partsTa (a : Addr) (w : World) : (ReflectliteValue.parts (.agg #[.pointer (some ⟨9, 28, none⟩), .pointer (some a), .int .u64 386])).run Tryz.prog w = .ok (some (28, a, 386)) w := by kernel_rfl
theorem Er.partsT (a : Addr) (w : World) : (ReflectliteValue.parts (.agg #[.pointer (some ⟨9, 28, none⟩), .pointer (some a), .int .u64 130])).run Tryz.prog w = .ok (some (28, a, 128 + 2)) w := by kernel_rfl
theorem Er.directT (w : World) : (Rtype.directlyAssignable 28 28).run Tryz.prog w = .ok true w := by kernel_rfl
/-- (Value).Set: the variable at 'ta' gets what the Value's own variable 'b' holds. -/
theorem Er.setT (ta b : Addr) (n : Int) (old : Value) (W : World) (hb : W.cell? b = some (.int .i64 n)) (ht : W.cell? ta = some old) (hf : W.frozen? ta = false) :
    (ReflectliteValue.set #[.agg #[.pointer (some ⟨9, 28, none⟩), .pointer (some ta), .int .u64 386], .agg #[.pointer (some ⟨9, 28, none⟩), .pointer (some b), .int .u64 130]]).run Tryz.prog W
      = .ok (.tuple #[]) (W.setCell ta (.int .i64 n)) := by
  rw [rls]
  simp only [Sem.run_bind, Er.partsTa, Er.partsT, Result.andThen]
  simp [ReflectliteValue.flagAddr, loadVar, isAgg, underlying, Tryz.underlying28, hb, Result.andThen, Er.directT, storeVar, Value.cells, storeCells, Addr.add]
  rw [run_store Tryz.prog W ta _ _ (by rfl)]
  simp [ht, hf]


/-- An error that is a number of the program's, below d faults. -/
def Faulty (w : World) (e : Int) : Nat → Value → Prop
  | 0, v => v = .iface 28 (.int .i64 e)
  | d + 1, v => ∃ (p : Nat) (u : Value), v = .iface 211 (.pointer (some ⟨p, 0, none⟩)) ∧ p < w.heap.size ∧ w.cell? ⟨p, 1, none⟩ = some u ∧ Faulty w e d u
theorem Faulty.below {w w' : World} {e : Int} (hb : Below w.heap.size w w') : ∀ {d : Nat} {v : Value}, Faulty w e d v → Faulty w' e d v
  | 0, _, h => h
  | d + 1, v, ⟨p, u, h1, h2, h3, h4⟩ => ⟨p, u, h1, Nat.lt_of_lt_of_le h2 hb.size, by rw [hb.cell (p := ⟨p, 1, none⟩) h2]; exact h3, Faulty.below hb h4⟩

theorem Unwrap_any (p : Nat) (v : Value) (w : World) (h : w.cell? ⟨p, 1, none⟩ = some v) : Calls Tryz.prog 283 #[.pointer (some ⟨p, 0, none⟩)] w fun e w' => e = .returned v ∧ w = w' := by
  go_enter Tryz.func283, Tryz.ntmps283
  go_wp2
  go_ret
  exact ⟨rfl, rfl⟩

theorem typeOfF (v : Value) (w : World) : (ReflectliteType.typeOf #[.iface 211 v]).run Tryz.prog w = .ok (.iface 138 (.agg #[.pointer (some ⟨9, 211, none⟩)])) w := by kernel_rfl
theorem assignableF (w : World) : (ReflectliteType.relation "AssignableTo" ReflectliteType.assignableTo #[.agg #[.pointer (some ⟨9, 211, none⟩)], .iface 138 (.agg #[.pointer (some ⟨9, 28, none⟩)])]).run Tryz.prog w = .ok (.bool false) w := by kernel_rfl
theorem noAsF (v : Value) (xT : TypeId) (w : World) : (Instr.typeAssert (.iface 211 v) xT 262 true).run Tryz.prog w = .ok (.tuple #[.nilIface, .bool false]) w := run_typeAssert_lacksB Tryz.underlying262 (by kernel_rfl) (by kernel_rfl) v xT w
theorem hasUnF (v : Value) (xT : TypeId) (w : World) : (Instr.typeAssert (.iface 211 v) xT 143 true).run Tryz.prog w = .ok (.tuple #[.iface 211 v, .bool true]) w := run_typeAssert_hasB Tryz.underlying143 (by kernel_rfl) v xT w

/-- What as does at an error that a number is found in: the variable at tb holds it. -/
def RAs (n : Int) (tb : Nat) (w : World) (e : Ending) (w' : World) : Prop := e = .returned (.bool true) ∧ Below tb w w' ∧ w'.cell? ⟨tb, 0, none⟩ = some (.int .i64 n)

set_option maxHeartbeats 4000000 in
set_option maxRecDepth 100000 in
theorem asE_zero (n : Int) (vb tb : Nat) (old : Value) (w : World) (hv : w.cell? ⟨vb, 0, none⟩ = some (.pointer (some ⟨tb, 0, none⟩))) (ht : w.cell? ⟨tb, 0, none⟩ = some old) (hf : w.frozen? ⟨tb, 0, none⟩ = false) :
    Calls Tryz.prog 198 #[.iface 28 (.int .i64 n), .iface 221 (.pointer (some ⟨tb, 0, none⟩)), .agg #[.pointer (some ⟨9, 221, none⟩), .pointer (some ⟨vb, 0, none⟩), .int .u64 150], .iface 138 (.agg #[.pointer (some ⟨9, 28, none⟩)])] w
      (RAs n tb w) := by
  have h48 := @run_callFunc_extern Tryz.prog 195 _ (fun args => ReflectliteValue.unpack (args.getD 0 (.tuple #[]))) Tryz.func195 (by kernel_rfl) (by kernel_rfl) (by kernel_rfl) (by kernel_rfl)
  have h95 := @run_callFunc_extern Tryz.prog 75 _ ReflectliteType.typeOf Tryz.func75 (by kernel_rfl) (by kernel_rfl) (by kernel_rfl) (by kernel_rfl)
  have h214 := @run_callFunc_extern Tryz.prog 261 _ (ReflectliteType.relation "AssignableTo" ReflectliteType.assignableTo) Tryz.func261 (by kernel_rfl) (by kernel_rfl) (by kernel_rfl) (by kernel_rfl)
  have h96 := @run_callFunc_extern Tryz.prog 219 _ (ReflectliteValue.method (ReflectliteValue.valueError "reflectlite.Value.Elem" 0) ReflectliteValue.elem) Tryz.func219 (by kernel_rfl) (by kernel_rfl) (by kernel_rfl) (by kernel_rfl)
  have h97 := @run_callFunc_extern Tryz.prog 220 _ ReflectliteValue.set Tryz.func220 (by kernel_rfl) (by kernel_rfl) (by kernel_rfl) (by kernel_rfl)
  have tO := Er.typeOfT
  have mA := rt.methodAssignableTo
  have aT := Er.assignableT
  have vT := Er.valueOfT
  have hvl := World.block_lt_of_cell? _ _ hv
  have htl := World.block_lt_of_cell? _ _ ht
  have el := Er.elemVP ⟨vb, 0, none⟩ ⟨tb, 0, none⟩ (w.alloc (.cells #[.pointer (some ⟨9, 221, none⟩), .pointer (some ⟨vb, 0, none⟩), .int .u64 150] 241)) (by rw [World.cell?_alloc_lt _ _ ⟨vb, 0, none⟩ hvl]; exact hv)
  have hn2 : ((w.alloc (.cells #[.pointer (some ⟨9, 221, none⟩), .pointer (some ⟨vb, 0, none⟩), .int .u64 150] 241)).alloc (.cells #[.int .i64 n] 28)).cell? ⟨tb, 0, none⟩ = some old := by
    rw [World.cell?_alloc_lt _ _ ⟨tb, 0, none⟩ (by simp; simp at htl; omega), World.cell?_alloc_lt _ _ ⟨tb, 0, none⟩ htl]; exact ht
  have Hn2 := Lib.hid hn2
  have st := Er.setT ⟨tb, 0, none⟩ ⟨w.heap.size + 1, 0, none⟩ n old ((w.alloc (.cells #[.pointer (some ⟨9, 221, none⟩), .pointer (some ⟨vb, 0, none⟩), .int .u64 150] 241)).alloc (.cells #[.int .i64 n] 28))
    (by rw [World.cell?_alloc_at _ _ _ _ (by simp)]; rfl)
    hn2
    (by rw [World.frozen?_alloc_old _ _ ⟨tb, 0, none⟩ (by simp; simp at htl; omega), World.frozen?_alloc_old _ _ ⟨tb, 0, none⟩ (Nat.ne_of_lt htl)]; exact hf)
  clear hn2
  go_enter Tryz.func198, Tryz.ntmps198
  go_wp2
  refine wp_loop_rounds 1 ?_
  rw [rounds_succ]
  go_wp2
  go_ret
  have hz : tb < w.heap.size := htl
  exact ⟨rfl, (((Below.refl tb w).setCell (p := ⟨tb, 0, none⟩) (Nat.le_refl _) _).alloc (by simp; omega) _).alloc (by simp; omega) _, by
    rw [World.cell?_alloc_lt _ _ ⟨tb, 0, none⟩ (by simp; omega), World.cell?_alloc_lt _ _ ⟨tb, 0, none⟩ (by simp; omega)]
    exact World.cell?_setCell_same _ _ _ ht⟩

set_option maxHeartbeats 4000000 in
set_option maxRecDepth 100000 in
/-- At a fault: as goes on at what it wraps (as a call of as on that does). -/
theorem asE_one (p : Nat) (n : Int) (vb tb : Nat) (old : Value) (w : World) (hp : w.cell? ⟨p, 1, none⟩ = some (.iface 28 (.int .i64 n))) (hv : w.cell? ⟨vb, 0, none⟩ = some (.pointer (some ⟨tb, 0, none⟩))) (ht : w.cell? ⟨tb, 0, none⟩ = some old) (hf : w.frozen? ⟨tb, 0, none⟩ = false) :
    Calls Tryz.prog 198 #[.iface 211 (.pointer (some ⟨p, 0, none⟩)), .iface 221 (.pointer (some ⟨tb, 0, none⟩)), .agg #[.pointer (some ⟨9, 221, none⟩), .pointer (some ⟨vb, 0, none⟩), .int .u64 150], .iface 138 (.agg #[.pointer (some ⟨9, 28, none⟩)])] w
      (RAs n tb w) := by
  have h48 := @run_callFunc_extern Tryz.prog 195 _ (fun args => ReflectliteValue.unpack (args.getD 0 (.tuple #[]))) Tryz.func195 (by kernel_rfl) (by kernel_rfl) (by kernel_rfl) (by kernel_rfl)
  have h95 := @run_callFunc_extern Tryz.prog 75 _ ReflectliteType.typeOf Tryz.func75 (by kernel_rfl) (by kernel_rfl) (by kernel_rfl) (by kernel_rfl)
  have h214 := @run_callFunc_extern Tryz.prog 261 _ (ReflectliteType.relation "AssignableTo" ReflectliteType.assignableTo) Tryz.func261 (by kernel_rfl) (by kernel_rfl) (by kernel_rfl) (by kernel_rfl)
  have h96 := @run_callFunc_extern Tryz.prog 219 _ (ReflectliteValue.method (ReflectliteValue.valueError "reflectlite.Value.Elem" 0) ReflectliteValue.elem) Tryz.func219 (by kernel_rfl) (by kernel_rfl) (by kernel_rfl) (by kernel_rfl)
  have h97 := @run_callFunc_extern Tryz.prog 220 _ ReflectliteValue.set Tryz.func220 (by kernel_rfl) (by kernel_rfl) (by kernel_rfl) (by kernel_rfl)
  have tO := Er.typeOfT
  have tOF := typeOfF
  have mA := rt.methodAssignableTo
  have aT := Er.assignableT
  have aF := assignableF
  have vT := Er.valueOfT
  have a1 := noAsF
  have a3 := hasUnF
  have nu : ∀ w, (nilAhead 419 211 (.pointer (some ⟨p, 0, none⟩)) "Unwrap").run Tryz.prog w = .ok (some false) w := fun _ => by kernel_rfl
  have mU : ∀ w, (Go.method 419 211 (.pointer (some ⟨p, 0, none⟩)) "Unwrap").run Tryz.prog w = .ok (283, .pointer (some ⟨p, 0, none⟩)) w := fun _ => by kernel_rfl
  have hvl := World.block_lt_of_cell? _ _ hv
  have htl := World.block_lt_of_cell? _ _ ht
  have el := Er.elemVP ⟨vb, 0, none⟩ ⟨tb, 0, none⟩ (w.alloc (.cells #[.pointer (some ⟨9, 221, none⟩), .pointer (some ⟨vb, 0, none⟩), .int .u64 150] 241)) (by rw [World.cell?_alloc_lt _ _ ⟨vb, 0, none⟩ hvl]; exact hv)
  have hn2 : ((w.alloc (.cells #[.pointer (some ⟨9, 221, none⟩), .pointer (some ⟨vb, 0, none⟩), .int .u64 150] 241)).alloc (.cells #[.int .i64 n] 28)).cell? ⟨tb, 0, none⟩ = some old := by
    rw [World.cell?_alloc_lt _ _ ⟨tb, 0, none⟩ (by simp; simp at htl; omega), World.cell?_alloc_lt _ _ ⟨tb, 0, none⟩ htl]; exact ht
  have st := Er.setT ⟨tb, 0, none⟩ ⟨w.heap.size + 1, 0, none⟩ n old ((w.alloc (.cells #[.pointer (some ⟨9, 221, none⟩), .pointer (some ⟨vb, 0, none⟩), .int .u64 150] 241)).alloc (.cells #[.int .i64 n] 28))
    (by rw [World.cell?_alloc_at _ _ _ _ (by simp)]; rfl)
    hn2
    (by rw [World.frozen?_alloc_old _ _ ⟨tb, 0, none⟩ (by simp; simp at htl; omega), World.frozen?_alloc_old _ _ ⟨tb, 0, none⟩ (Nat.ne_of_lt htl)]; exact hf)
  clear hn2
  have cU := Lib.hid (fun w' : World => Unwrap_any p (.iface 28 (.int .i64 n)) w')
  have hpl : p < w.heap.size := World.block_lt_of_cell? _ _ hp
  go_enter Tryz.func198, Tryz.ntmps198
  go_wp2
  refine wp_loop_rounds 2 ?_
  rw [rounds_succ]
  go_wp2_with fail
  refine (cU.out _ (by rw [World.cell?_alloc_lt _ _ ⟨p, 1, none⟩ hpl]; exact hp)).mono ?_
  rintro e w1 ⟨rfl, rfl⟩
  go_wp2
  rw [rounds_succ]
  go_wp2
  go_ret
  have hz : tb < w.heap.size := htl
  exact ⟨rfl, (((Below.refl tb w).setCell (p := ⟨tb, 0, none⟩) (Nat.le_refl _) _).alloc (by simp; omega) _).alloc (by simp; omega) _, by
    rw [World.cell?_alloc_lt _ _ ⟨tb, 0, none⟩ (by simp; omega), World.cell?_alloc_lt _ _ ⟨tb, 0, none⟩ (by simp; omega)]
    exact World.cell?_setCell_same _ _ _ ht⟩

set_option maxHeartbeats 4000000 in
set_option maxRecDepth 100000 in
/-- At a fault over a fault. -/
theorem asE_two (p p2 : Nat) (n : Int) (vb tb : Nat) (old : Value) (w : World) (hp : w.cell? ⟨p, 1, none⟩ = some (.iface 211 (.pointer (some ⟨p2, 0, none⟩)))) (hp2 : w.cell? ⟨p2, 1, none⟩ = some (.iface 28 (.int .i64 n))) (hv : w.cell? ⟨vb, 0, none⟩ = some (.pointer (some ⟨tb, 0, none⟩))) (ht : w.cell? ⟨tb, 0, none⟩ = some old) (hf : w.frozen? ⟨tb, 0, none⟩ = false) :
    Calls Tryz.prog 198 #[.iface 211 (.pointer (some ⟨p, 0, none⟩)), .iface 221 (.pointer (some ⟨tb, 0, none⟩)), .agg #[.pointer (some ⟨9, 221, none⟩), .pointer (some ⟨vb, 0, none⟩), .int .u64 150], .iface 138 (.agg #[.pointer (some ⟨9, 28, none⟩)])] w
      (RAs n tb w) := by
  have h48 := @run_callFunc_extern Tryz.prog 195 _ (fun args => ReflectliteValue.unpack (args.getD 0 (.tuple #[]))) Tryz.func195 (by kernel_rfl) (by kernel_rfl) (by kernel_rfl) (by kernel_rfl)
  have h95 := @run_callFunc_extern Tryz.prog 75 _ ReflectliteType.typeOf Tryz.func75 (by kernel_rfl) (by kernel_rfl) (by kernel_rfl) (by kernel_rfl)
  have h214 := @run_callFunc_extern Tryz.prog 261 _ (ReflectliteType.relation "AssignableTo" ReflectliteType.assignableTo) Tryz.func261 (by kernel_rfl) (by kernel_rfl) (by kernel_rfl) (by kernel_rfl)
  have h96 := @run_callFunc_extern Tryz.prog 219 _ (ReflectliteValue.method (ReflectliteValue.valueError "reflectlite.Value.Elem" 0) ReflectliteValue.elem) Tryz.func219 (by kernel_rfl) (by kernel_rfl) (by kernel_rfl) (by kernel_rfl)
  have h97 := @run_callFunc_extern Tryz.prog 220 _ ReflectliteValue.set Tryz.func220 (by kernel_rfl) (by kernel_rfl) (by kernel_rfl) (by kernel_rfl)
  have tO := Er.typeOfT
  have tOF := typeOfF
  have mA := rt.methodAssignableTo
  have aT := Er.assignableT
  have aF := assignableF
  have vT := Er.valueOfT
  have a1 := noAsF
  have a3 := hasUnF
  have nu : ∀ w, (nilAhead 419 211 (.pointer (some ⟨p, 0, none⟩)) "Unwrap").run Tryz.prog w = .ok (some false) w := fun _ => by kernel_rfl
  have mU : ∀ w, (Go.method 419 211 (.pointer (some ⟨p, 0, none⟩)) "Unwrap").run Tryz.prog w = .ok (283, .pointer (some ⟨p, 0, none⟩)) w := fun _ => by kernel_rfl
  have hvl := World.block_lt_of_cell? _ _ hv
  have htl := World.block_lt_of_cell? _ _ ht
  have el := Er.elemVP ⟨vb, 0, none⟩ ⟨tb, 0, none⟩ (w.alloc (.cells #[.pointer (some ⟨9, 221, none⟩), .pointer (some ⟨vb, 0, none⟩), .int .u64 150] 241)) (by rw [World.cell?_alloc_lt _ _ ⟨vb, 0, none⟩ hvl]; exact hv)
  have hn2 : ((w.alloc (.cells #[.pointer (some ⟨9, 221, none⟩), .pointer (some ⟨vb, 0, none⟩), .int .u64 150] 241)).alloc (.cells #[.int .i64 n] 28)).cell? ⟨tb, 0, none⟩ = some old := by
    rw [World.cell?_alloc_lt _ _ ⟨tb, 0, none⟩ (by simp; simp at htl; omega), World.cell?_alloc_lt _ _ ⟨tb, 0, none⟩ htl]; exact ht
  have st := Er.setT ⟨tb, 0, none⟩ ⟨w.heap.size + 1, 0, none⟩ n old ((w.alloc (.cells #[.pointer (some ⟨9, 221, none⟩), .pointer (some ⟨vb, 0, none⟩), .int .u64 150] 241)).alloc (.cells #[.int .i64 n] 28))
    (by rw [World.cell?_alloc_at _ _ _ _ (by simp)]; rfl)
    hn2
    (by rw [World.frozen?_alloc_old _ _ ⟨tb, 0, none⟩ (by simp; simp at htl; omega), World.frozen?_alloc_old _ _ ⟨tb, 0, none⟩ (Nat.ne_of_lt htl)]; exact hf)
  clear hn2
  have nu2 : ∀ w, (nilAhead 419 211 (.pointer (some ⟨p2, 0, none⟩)) "Unwrap").run Tryz.prog w = .ok (some false) w := fun _ => by kernel_rfl
  have mU2 : ∀ w, (Go.method 419 211 (.pointer (some ⟨p2, 0, none⟩)) "Unwrap").run Tryz.prog w = .ok (283, .pointer (some ⟨p2, 0, none⟩)) w := fun _ => by kernel_rfl
  have cU := Lib.hid (fun w' : World => Unwrap_any p (.iface 211 (.pointer (some ⟨p2, 0, none⟩))) w')
  have cU2 := Lib.hid (fun w' : World => Unwrap_any p2 (.iface 28 (.int .i64 n)) w')
  have hpl2 : p2 < w.heap.size := World.block_lt_of_cell? _ _ hp2
  have hpl : p < w.heap.size := World.block_lt_of_cell? _ _ hp
  go_enter Tryz.func198, Tryz.ntmps198
  go_wp2
  refine wp_loop_rounds 3 ?_
  rw [rounds_succ]
  go_wp2_with fail
  refine (cU.out _ (by rw [World.cell?_alloc_lt _ _ ⟨p, 1, none⟩ hpl]; exact hp)).mono ?_
  rintro e w1 ⟨rfl, rfl⟩
  go_wp2
  rw [rounds_succ]
  go_wp2_with fail
  refine (cU2.out _ (by rw [World.cell?_alloc_lt _ _ ⟨p2, 1, none⟩ hpl2]; exact hp2)).mono ?_
  rintro e w1 ⟨rfl, rfl⟩
  go_wp2
  rw [rounds_succ]
  go_wp2
  go_ret
  have hz : tb < w.heap.size := htl
  exact ⟨rfl, (((Below.refl tb w).setCell (p := ⟨tb, 0, none⟩) (Nat.le_refl _) _).alloc (by simp; omega) _).alloc (by simp; omega) _, by
    rw [World.cell?_alloc_lt _ _ ⟨tb, 0, none⟩ (by simp; omega), World.cell?_alloc_lt _ _ ⟨tb, 0, none⟩ (by simp; omega)]
    exact World.cell?_setCell_same _ _ _ ht⟩

theorem as_faulty (vb tb : Nat) (old : Value) (d : Nat) (hd : d ≤ 2) (n : Int) (v : Value) (w : World) (h : Faulty w n d v) (hv : w.cell? ⟨vb, 0, none⟩ = some (.pointer (some ⟨tb, 0, none⟩))) (ht : w.cell? ⟨tb, 0, none⟩ = some old) (hf : w.frozen? ⟨tb, 0, none⟩ = false) :
    Calls Tryz.prog 198 #[v, .iface 221 (.pointer (some ⟨tb, 0, none⟩)), .agg #[.pointer (some ⟨9, 221, none⟩), .pointer (some ⟨vb, 0, none⟩), .int .u64 150], .iface 138 (.agg #[.pointer (some ⟨9, 28, none⟩)])] w
      (RAs n tb w) := by
  match d, hd, h with
  | 0, _, h => rw [show v = _ from h]; exact asE_zero n vb tb old w hv ht hf
  | 1, _, ⟨p, u, h1, _, h3, h4⟩ => rw [h1]; rw [show u = _ from h4] at h3; exact asE_one p n vb tb old w h3 hv ht hf
  | 2, _, ⟨p, u, h1, _, h3, p2, u2, h4, _, h6, h7⟩ => rw [h1]; rw [h4] at h3; rw [show u2 = _ from h7] at h6; exact asE_two p p2 n vb tb old w h3 h6 hv ht hf

set_option maxHeartbeats 4000000 in
set_option maxRecDepth 100000 in
/-- errors.As at an error in which a number is found. -/
theorem As_faulty (d : Nat) (hd : d ≤ 2) (n : Int) (t0 : TypeId) (x0 : Value) (tb : Nat) (old : Value) (w : World) (hE : EnvH w) (hB : Faulty w n d (.iface t0 x0)) (ht : w.cell? ⟨tb, 0, none⟩ = some old) (hf : w.frozen? ⟨tb, 0, none⟩ = false) :
    Calls Tryz.prog 174 #[.iface t0 x0, .iface 221 (.pointer (some ⟨tb, 0, none⟩))] w (RAs n tb w) := by
  have h48 := @run_callFunc_extern Tryz.prog 195 _ (fun args => ReflectliteValue.unpack (args.getD 0 (.tuple #[]))) Tryz.func195 (by kernel_rfl) (by kernel_rfl) (by kernel_rfl) (by kernel_rfl)
  have h49 := @run_callFunc_extern Tryz.prog 196 _ (ReflectliteValue.methodAny (ReflectliteValue.valueError "reflectlite.Value.Type" 0) (fun t _ _ _ => ReflectliteType.toType t)) Tryz.func196 (by kernel_rfl) (by kernel_rfl) (by kernel_rfl) (by kernel_rfl)
  have h50 := @run_callFunc_extern Tryz.prog 197 _ (ReflectliteValue.method (ReflectliteValue.valueError "reflectlite.Value.IsNil" 0) ReflectliteValue.isNil) Tryz.func197 (by kernel_rfl) (by kernel_rfl) (by kernel_rfl) (by kernel_rfl)
  have h203 := @run_callFunc_extern Tryz.prog 253 _ (ReflectliteType.abiMethod fun t => do pure (.int .u8 (← Rtype.kind t))) Tryz.func253 (by kernel_rfl) (by kernel_rfl) (by kernel_rfl) (by kernel_rfl)
  have h216 := @run_callFunc_extern Tryz.prog 263 _ (ReflectliteType.method ReflectliteType.elem) Tryz.func263 (by kernel_rfl) (by kernel_rfl) (by kernel_rfl) (by kernel_rfl)
  have h217 := @run_callFunc_extern Tryz.prog 264 _ (ReflectliteType.relation "Implements" ReflectliteType.implements_) Tryz.func264 (by kernel_rfl) (by kernel_rfl) (by kernel_rfl) (by kernel_rfl)
  have f6 := Er.valueOfP
  have f7 := Er.typeP
  have mK := rt.methodKind
  have mE := rt.methodElem
  have mI := rt.methodImplements
  have kP := Er.kindP
  have kT := Er.kindT
  have eP := Er.elemP
  have iT := Er.implementsT
  have htl := World.block_lt_of_cell? _ _ ht
  have hz : tb < w.heap.size := htl
  have hzE := hE.size
  have n8 := Er.isNilP ⟨w.heap.size, 0, none⟩ ⟨tb, 0, none⟩ ((w.alloc (.cells #[.pointer (some ⟨tb, 0, none⟩)] 221)).alloc (.cells #[.pointer (some ⟨9, 221, none⟩), .pointer (some ⟨w.heap.size, 0, none⟩), .int .u64 150] 241)) (by simp)
  have hg2 : ((w.alloc (.cells #[.pointer (some ⟨tb, 0, none⟩)] 221)).alloc (.cells #[.pointer (some ⟨9, 221, none⟩), .pointer (some ⟨w.heap.size, 0, none⟩), .int .u64 150] 241)).cell? ⟨6, 0, none⟩ = some (.iface 138 (.agg #[.pointer (some ⟨9, 52, none⟩)])) := by
    rw [World.cell?_alloc_lt _ _ ⟨6, 0, none⟩ (by simp <;> omega), World.cell?_alloc_lt _ _ ⟨6, 0, none⟩ (by show 6 < _; omega)]; exact hE.et
  have ca : ∀ w1 : World, Below w.heap.size w w1 → w1.cell? ⟨w.heap.size, 0, none⟩ = some (.pointer (some ⟨tb, 0, none⟩)) → Calls Tryz.prog 198 #[.iface t0 x0, .iface 221 (.pointer (some ⟨tb, 0, none⟩)), .agg #[.pointer (some ⟨9, 221, none⟩), .pointer (some ⟨w.heap.size, 0, none⟩), .int .u64 150], .iface 138 (.agg #[.pointer (some ⟨9, 28, none⟩)])] w1
      (RAs n tb w1) := fun w1 hb hc => as_faulty w.heap.size tb old d hd n _ w1 (hB.below hb) hc (by rw [hb.cell htl]; exact ht) (by rw [hb.frozen htl]; exact hf)
  have Ca := Lib.hid ca
  clear ca
  go_enter Tryz.func174, Tryz.ntmps174
  go_wp2_with fail
  refine (Ca.out _ (((Below.refl _ w).alloc (Nat.le_refl _) _).alloc (by simp) _) (by simp)).mono ?_
  rintro e w1 ⟨rfl, hb1, hc1⟩
  go_wp2
  go_ret
  exact ⟨rfl, (((Below.refl tb w).alloc (Nat.le_of_lt hz) _).alloc (by simp; omega) _).trans hb1, hc1⟩

theorem Faulty.iface {w : World} {e : Int} : ∀ {d : Nat} {v : Value}, Faulty w e d v → ∃ t x, v = .iface t x
  | 0, _, h => ⟨_, _, h⟩
  | _ + 1, _, ⟨_, _, h, _⟩ => ⟨_, _, h⟩
/-- hosts.code: an error's number. -/
theorem code_any (d : Nat) (hd : d ≤ 2) (n : Int) (v : Value) (w : World) (hE : EnvH w) (h : Faulty w n d v) : Calls Tryz.prog 160 #[v] w fun e w' => e = .returned (.int .i64 n) ∧ Below w.heap.size w w' := by
  obtain ⟨t0, x0, rfl⟩ := h.iface
  have cA := Lib.hid (As_faulty d hd n t0 x0 w.heap.size (.int .i64 0) (w.alloc (.cells #[.int .i64 0] 28)) (hE.below ((Below.refl _ w).alloc (Nat.le_refl _) _)) (h.below ((Below.refl _ w).alloc (Nat.le_refl _) _)) (by simp) (by simp))
  go_enter Tryz.func160, Tryz.ntmps160
  go_wp2_with fail
  refine cA.out.mono ?_
  rintro e w1 ⟨rfl, hb1, hc1⟩
  go_wp2
  go_ret
  exact ⟨rfl, ((Below.refl _ w).alloc (Nat.le_refl _) _).trans hb1⟩
end Go.Proofs.YthijceooebebfaaGreatDoor

namespace Go.Proofs
open Go.Shelf
def Tryz.lays156_ren : Go.Shelf.Ren := ⟨fun | 156 => 214 | 165 => 176 | 166 => 28 | 169 => 30 | 240 => 38 | 241 => 201 | 276 => 57 | 277 => 221 | n => n, fun | 31 => 25 | 9 => 9 | 3 => 3 | 4 => 4 | 0 => 0 | 20 => 20 | 72 => 50 | 76 => 53 | 70 => 48 | 37 => 35 | 75 => 52 | 127 => 60 | 164 => 77 | 5 => 5 | 80 => 55 | n => n, fun | n => n⟩
theorem Tryz.lays156 : Go.Proofs.Lays.n156 Tryz.prog Tryz.lays156_ren := {
  mixed := by kernel_rfl
  f156 := Tryz.func214.trans (congrArg some (by kernel_rfl))
  f165 := Tryz.func176.trans (congrArg some (by kernel_rfl))
  f166 := Tryz.func28.trans (congrArg some (by kernel_rfl))
  f169 := Tryz.func30.trans (congrArg some (by kernel_rfl))
  f240 := Tryz.func38.trans (congrArg some (by kernel_rfl))
  f241 := Tryz.func201.trans (congrArg some (by kernel_rfl))
  f276 := Tryz.func57.trans (congrArg some (by kernel_rfl))
  f277 := Tryz.func221.trans (congrArg some (by kernel_rfl))
  t0 := Tryz.underlying0
  a0 := Tryz.isAgg0
  z0 := Tryz.sizeOf0
  v0 := Tryz.zeroValue0
  t3 := Tryz.underlying3
  a3 := Tryz.isAgg3
  z3 := Tryz.sizeOf3
  v3 := Tryz.zeroValue3
  t4 := Tryz.underlying4
  a4 := Tryz.isAgg4
  z4 := Tryz.sizeOf4
  v4 := Tryz.zeroValue4
  t9 := Tryz.underlying9
  a9 := Tryz.isAgg9
  z9 := Tryz.sizeOf9
  v9 := Tryz.zeroValue9
  t20 := Tryz.underlying20
  a20 := Tryz.isAgg20
  z20 := Tryz.sizeOf20
  v20 := Tryz.zeroValue20
  t31 := Tryz.underlying25
  a31 := Tryz.isAgg25
  z31 := Tryz.sizeOf25
  v31 := Tryz.zeroValue25
  t37 := Tryz.underlying35
  a37 := Tryz.isAgg35
  z37 := Tryz.sizeOf35
  v37 := Tryz.zeroValue35
  t70 := Tryz.underlying48
  a70 := Tryz.isAgg48
  z70 := Tryz.sizeOf48
  v70 := Tryz.zeroValue48
  t72 := Tryz.underlying50
  a72 := Tryz.isAgg50
  z72 := Tryz.sizeOf50
  v72 := Tryz.zeroValue50
  t75 := Tryz.underlying52
  a75 := Tryz.isAgg52
  z75 := Tryz.sizeOf52
  v75 := Tryz.zeroValue52
  t76 := Tryz.underlying53
  a76 := Tryz.isAgg53
  z76 := Tryz.sizeOf53
  v76 := Tryz.zeroValue53
  t127 := Tryz.underlying60
  a127 := Tryz.isAgg60
  z127 := Tryz.sizeOf60
  v127 := Tryz.zeroValue60
  t164 := Tryz.underlying77
  a164 := Tryz.isAgg77
  z164 := Tryz.sizeOf77
  v164 := Tryz.zeroValue77 }
theorem Tryz.Builder_Extra_156 : Builder.Extra Tryz.prog Tryz.lays156_ren := {
  sizeBuilder := by kernel_rfl
  liesBuilder := by kernel_rfl
  t5 := Tryz.underlying5
  a5 := Tryz.isAgg5
  z5 := Tryz.sizeOf5
  v5 := Tryz.zeroValue5
  infoByte := by kernel_rfl
  cellsByte := by kernel_rfl
  sizeByte := by kernel_rfl
  neB5 := by decide }
open Go.RowKit in
theorem Tryz.strings_Join (bk o c : Nat) (xs : List ByteArray) (sep : ByteArray) (w : World) (hcells : ∀ (j : Nat) x, xs[j]? = some x → w.cell? ⟨bk, o + j, none⟩ = some (.string x)) (hbk : bk < w.heap.size) (hN : xs.length ≤ 140737488355328) (hcap : xs.length ≤ c) (hlen : (Lib.join (xs.map (·.data.toList)) sep.data.toList).length ≤ 140737488355328) :
    Calls Tryz.prog 214 #[.slice (some ⟨bk, o, none⟩) xs.length c, .string sep] w fun e w' => e = .returned (.string ⟨(Lib.join (xs.map (·.data.toList)) sep.data.toList).toArray⟩) ∧ Below w.heap.size w w' := Any.strings_Join Tryz.lays156 Tryz.Builder_Extra_156 bk o c xs sep w hcells hbk hN hcap hlen
def Tryz.lays160_ren : Go.Shelf.Ren := ⟨fun | 160 => 216 | 232 => 225 | 231 => 109 | 227 => 110 | 234 => 226 | 233 => 111 | 236 => 227 | 235 => 112 | 228 => 142 | 271 => 149 | 151 => 97 | 197 => 130 | 120 => 163 | 152 => 135 | 260 => 150 | 137 => 73 | 119 => 157 | 224 => 127 | 225 => 126 | 217 => 114 | 266 => 144 | n => n, fun | 9 => 9 | 4 => 4 | 3 => 3 | 5 => 5 | 117 => 133 | 116 => 132 | 0 => 0 | 124 => 136 | 21 => 21 | 105 => 163 | 46 => 93 | 119 => 182 | 139 => 196 | 138 => 195 | n => n, fun | 3 => 4 | 4 => 5 | n => n⟩
theorem Tryz.lays160 : Go.Proofs.Lays.n160 Tryz.prog Tryz.lays160_ren := {
  mixed := by kernel_rfl
  f119 := Tryz.func157.trans (congrArg some (by kernel_rfl))
  f120 := Tryz.func163.trans (congrArg some (by kernel_rfl))
  f137 := Tryz.func73.trans (congrArg some (by kernel_rfl))
  f151 := Tryz.func97.trans (congrArg some (by kernel_rfl))
  f152 := Tryz.func135.trans (congrArg some (by kernel_rfl))
  f160 := Tryz.func216.trans (congrArg some (by kernel_rfl))
  f197 := Tryz.func130.trans (congrArg some (by kernel_rfl))
  f217 := Tryz.func114.trans (congrArg some (by kernel_rfl))
  f224 := Tryz.func127.trans (congrArg some (by kernel_rfl))
  f225 := Tryz.func126.trans (congrArg some (by kernel_rfl))
  f227 := Tryz.func110.trans (congrArg some (by kernel_rfl))
  f228 := Tryz.func142.trans (congrArg some (by kernel_rfl))
  f231 := Tryz.func109.trans (congrArg some (by kernel_rfl))
  f232 := Tryz.func225.trans (congrArg some (by kernel_rfl))
  f233 := Tryz.func111.trans (congrArg some (by kernel_rfl))
  f234 := Tryz.func226.trans (congrArg some (by kernel_rfl))
  f235 := Tryz.func112.trans (congrArg some (by kernel_rfl))
  f236 := Tryz.func227.trans (congrArg some (by kernel_rfl))
  f260 := Tryz.func150.trans (congrArg some (by kernel_rfl))
  f266 := Tryz.func144.trans (congrArg some (by kernel_rfl))
  f271 := Tryz.func149.trans (congrArg some (by kernel_rfl))
  t0 := Tryz.underlying0
  a0 := Tryz.isAgg0
  z0 := Tryz.sizeOf0
  v0 := Tryz.zeroValue0
  t3 := Tryz.underlying3
  a3 := Tryz.isAgg3
  z3 := Tryz.sizeOf3
  v3 := Tryz.zeroValue3
  t4 := Tryz.underlying4
  a4 := Tryz.isAgg4
  z4 := Tryz.sizeOf4
  v4 := Tryz.zeroValue4
  t5 := Tryz.underlying5
  a5 := Tryz.isAgg5
  z5 := Tryz.sizeOf5
  v5 := Tryz.zeroValue5
  t9 := Tryz.underlying9
  a9 := Tryz.isAgg9
  z9 := Tryz.sizeOf9
  v9 := Tryz.zeroValue9
  t21 := Tryz.underlying21
  a21 := Tryz.isAgg21
  z21 := Tryz.sizeOf21
  v21 := Tryz.zeroValue21
  t46 := Tryz.underlying93
  a46 := Tryz.isAgg93
  z46 := Tryz.sizeOf93
  v46 := Tryz.zeroValue93
  t105 := Tryz.underlying163
  a105 := Tryz.isAgg163
  z105 := Tryz.sizeOf163
  v105 := Tryz.zeroValue163
  t116 := Tryz.underlying132
  a116 := Tryz.isAgg132
  z116 := Tryz.sizeOf132
  t117 := Tryz.underlying133
  a117 := Tryz.isAgg133
  z117 := Tryz.sizeOf133
  v117 := Tryz.zeroValue133
  t119 := Tryz.underlying182
  a119 := Tryz.isAgg182
  z119 := Tryz.sizeOf182
  t124 := Tryz.underlying136
  a124 := Tryz.isAgg136
  z124 := Tryz.sizeOf136
  v124 := Tryz.zeroValue136
  t138 := Tryz.underlying195
  a138 := Tryz.isAgg195
  z138 := Tryz.sizeOf195
  v138 := Tryz.zeroValue195
  t139 := Tryz.underlying196
  a139 := Tryz.isAgg196
  z139 := Tryz.sizeOf196
  v139 := Tryz.zeroValue196
  g3 := by kernel_rfl
  g4 := by kernel_rfl }
def Tryz.laysPu14_ren : Go.Shelf.Ren := ⟨fun | 14 => 223 | 16 => 229 | 17 => 230 | 19 => 231 | 20 => 232 | 21 => 233 | 22 => 234 | 23 => 235 | 24 => 236 | 25 => 237 | 27 => 21 | 26 => 238 | 28 => 34 | 29 => 45 | 30 => 77 | 31 => 78 | 32 => 79 | 33 => 80 | 35 => 116 | 34 => 115 | 36 => 117 | 37 => 118 | 38 => 119 | 39 => 145 | 40 => 146 | n => n, fun | 9 => 9 | 3 => 3 | 22 => 100 | 24 => 52 | 25 => 257 | 4 => 4 | 34 => 270 | 5 => 5 | 36 => 93 | 37 => 35 | 0 => 0 | 39 => 271 | 21 => 21 | 44 => 275 | 47 => 60 | 50 => 278 | 48 => 276 | 2 => 2 | 52 => 99 | 55 => 103 | 59 => 150 | 60 => 39 | 20 => 20 | 61 => 151 | 65 => 192 | 66 => 193 | 67 => 55 | n => n, fun | 0 => 7 | 1 => 8 | 2 => 0 | 3 => 2 | 4 => 3 | n => n⟩
theorem Tryz.laysPu14 : Go.Proofs.LaysPu.n14 Tryz.prog Tryz.laysPu14_ren := {
  mixed := by kernel_rfl
  f14 := Tryz.func223.trans (congrArg some (by kernel_rfl))
  f16 := Tryz.func229.trans (congrArg some (by kernel_rfl))
  f17 := Tryz.func230.trans (congrArg some (by kernel_rfl))
  f19 := Tryz.func231.trans (congrArg some (by kernel_rfl))
  f20 := Tryz.func232.trans (congrArg some (by kernel_rfl))
  f21 := Tryz.func233.trans (congrArg some (by kernel_rfl))
  f22 := Tryz.func234.trans (congrArg some (by kernel_rfl))
  f23 := Tryz.func235.trans (congrArg some (by kernel_rfl))
  f24 := Tryz.func236.trans (congrArg some (by kernel_rfl))
  f25 := Tryz.func237.trans (congrArg some (by kernel_rfl))
  f26 := Tryz.func238.trans (congrArg some (by kernel_rfl))
  f27 := Tryz.func21.trans (congrArg some (by kernel_rfl))
  f28 := Tryz.func34.trans (congrArg some (by kernel_rfl))
  f29 := Tryz.func45.trans (congrArg some (by kernel_rfl))
  f30 := Tryz.func77.trans (congrArg some (by kernel_rfl))
  f31 := Tryz.func78.trans (congrArg some (by kernel_rfl))
  f32 := Tryz.func79.trans (congrArg some (by kernel_rfl))
  f33 := Tryz.func80.trans (congrArg some (by kernel_rfl))
  f34 := Tryz.func115.trans (congrArg some (by kernel_rfl))
  f35 := Tryz.func116.trans (congrArg some (by kernel_rfl))
  f36 := Tryz.func117.trans (congrArg some (by kernel_rfl))
  f37 := Tryz.func118.trans (congrArg some (by kernel_rfl))
  f38 := Tryz.func119.trans (congrArg some (by kernel_rfl))
  f39 := Tryz.func145.trans (congrArg some (by kernel_rfl))
  f40 := Tryz.func146.trans (congrArg some (by kernel_rfl))
  t0 := Tryz.underlying0
  a0 := Tryz.isAgg0
  z0 := Tryz.sizeOf0
  v0 := Tryz.zeroValue0
  i0 := by kernel_rfl
  t2 := Tryz.underlying2
  a2 := Tryz.isAgg2
  z2 := Tryz.sizeOf2
  v2 := Tryz.zeroValue2
  i2 := by kernel_rfl
  t3 := Tryz.underlying3
  a3 := Tryz.isAgg3
  z3 := Tryz.sizeOf3
  v3 := Tryz.zeroValue3
  i3 := by kernel_rfl
  t4 := Tryz.underlying4
  a4 := Tryz.isAgg4
  z4 := Tryz.sizeOf4
  v4 := Tryz.zeroValue4
  i4 := by kernel_rfl
  t5 := Tryz.underlying5
  a5 := Tryz.isAgg5
  z5 := Tryz.sizeOf5
  v5 := Tryz.zeroValue5
  i5 := by kernel_rfl
  t9 := Tryz.underlying9
  a9 := Tryz.isAgg9
  z9 := Tryz.sizeOf9
  v9 := Tryz.zeroValue9
  i9 := by kernel_rfl
  t20 := Tryz.underlying20
  a20 := Tryz.isAgg20
  z20 := Tryz.sizeOf20
  v20 := Tryz.zeroValue20
  i20 := by kernel_rfl
  t21 := Tryz.underlying21
  a21 := Tryz.isAgg21
  z21 := Tryz.sizeOf21
  v21 := Tryz.zeroValue21
  i21 := by kernel_rfl
  t22 := Tryz.underlying100
  a22 := Tryz.isAgg100
  z22 := Tryz.sizeOf100
  v22 := Tryz.zeroValue100
  i22 := by kernel_rfl
  t24 := Tryz.underlying52
  a24 := Tryz.isAgg52
  z24 := Tryz.sizeOf52
  v24 := Tryz.zeroValue52
  i24 := by kernel_rfl
  t25 := Tryz.underlying257
  a25 := Tryz.isAgg257
  z25 := Tryz.sizeOf257
  v25 := Tryz.zeroValue257
  i25 := by kernel_rfl
  t34 := Tryz.underlying270
  a34 := Tryz.isAgg270
  z34 := Tryz.sizeOf270
  v34 := Tryz.zeroValue270
  i34 := by kernel_rfl
  c34 := by kernel_rfl
  t36 := Tryz.underlying93
  a36 := Tryz.isAgg93
  z36 := Tryz.sizeOf93
  v36 := Tryz.zeroValue93
  i36 := by kernel_rfl
  t37 := Tryz.underlying35
  a37 := Tryz.isAgg35
  z37 := Tryz.sizeOf35
  v37 := Tryz.zeroValue35
  i37 := by kernel_rfl
  t39 := Tryz.underlying271
  a39 := Tryz.isAgg271
  z39 := Tryz.sizeOf271
  v39 := Tryz.zeroValue271
  i39 := by kernel_rfl
  t44 := Tryz.underlying275
  a44 := Tryz.isAgg275
  z44 := Tryz.sizeOf275
  v44 := Tryz.zeroValue275
  i44 := by kernel_rfl
  t47 := Tryz.underlying60
  a47 := Tryz.isAgg60
  z47 := Tryz.sizeOf60
  v47 := Tryz.zeroValue60
  i47 := by kernel_rfl
  t48 := Tryz.underlying276
  a48 := Tryz.isAgg276
  z48 := Tryz.sizeOf276
  v48 := Tryz.zeroValue276
  i48 := by kernel_rfl
  t50 := Tryz.underlying278
  a50 := Tryz.isAgg278
  z50 := Tryz.sizeOf278
  v50 := Tryz.zeroValue278
  i50 := by kernel_rfl
  t52 := Tryz.underlying99
  a52 := Tryz.isAgg99
  z52 := Tryz.sizeOf99
  v52 := Tryz.zeroValue99
  i52 := by kernel_rfl
  t55 := Tryz.underlying103
  a55 := Tryz.isAgg103
  z55 := Tryz.sizeOf103
  v55 := Tryz.zeroValue103
  i55 := by kernel_rfl
  t59 := Tryz.underlying150
  a59 := Tryz.isAgg150
  z59 := Tryz.sizeOf150
  v59 := Tryz.zeroValue150
  i59 := by kernel_rfl
  t60 := Tryz.underlying39
  a60 := Tryz.isAgg39
  z60 := Tryz.sizeOf39
  v60 := Tryz.zeroValue39
  i60 := by kernel_rfl
  t61 := Tryz.underlying151
  a61 := Tryz.isAgg151
  z61 := Tryz.sizeOf151
  t65 := Tryz.underlying192
  a65 := Tryz.isAgg192
  z65 := Tryz.sizeOf192
  v65 := Tryz.zeroValue192
  i65 := by kernel_rfl
  t66 := Tryz.underlying193
  a66 := Tryz.isAgg193
  z66 := Tryz.sizeOf193
  v66 := Tryz.zeroValue193
  i66 := by kernel_rfl
  t67 := Tryz.underlying55
  a67 := Tryz.isAgg55
  z67 := Tryz.sizeOf55
  v67 := Tryz.zeroValue55
  i67 := by kernel_rfl
  g0 := by kernel_rfl
  m0 := by kernel_rfl
  g1 := by kernel_rfl
  m1 := by kernel_rfl
  g2 := by kernel_rfl
  m2 := by kernel_rfl
  g3 := by kernel_rfl
  m3 := by kernel_rfl
  g4 := by kernel_rfl
  m4 := by kernel_rfl }
open Go.RowKit in
theorem Tryz.strconv_ParseUint_10_at8_ok (s : ByteArray) (hmax : s.size ≤ 9223372036854775806) (u : Nat) (h : Lib.parseUintB 8 s.data.toList = .ok u) (w : World) :
    Calls Tryz.prog 223 #[.string s, .int .i64 10, .int .i64 8] w fun e w' => e = .returned (.tuple #[.int .u64 u, .nilIface]) ∧ (w' = w ∨ w' = Lib.bytesWorld w 5 s) := Any.strconv_ParseUint_10_at8_ok Tryz.laysPu14 s hmax u h w
open Go.RowKit in
theorem Tryz.strconv_ParseUint_10_at8_syntax (s : ByteArray) (hlim : s.size ≤ 281474976710656) (h : Lib.parseUintB 8 s.data.toList = Lib.parseUintB 8 []) (ev : Value) (w : World) (hv : w.cell? ⟨7, 0, none⟩ = some ev) (hev : ev = .nilIface ∨ ∃ te pe, ev = .iface te pe) :
    Calls Tryz.prog 223 #[.string s, .int .i64 10, .int .i64 8] w fun e w' => ∃ N, e = .returned (.tuple #[.int .u64 0, .iface 271 (.pointer (some ⟨N, 0, none⟩))]) ∧ w.heap.size ≤ N ∧ w'.heap[N]? = some (.cells #[.string ⟨#[80, 97, 114, 115, 101, 85, 105, 110, 116]⟩, .string s, ev] 275 (0, 0)) ∧ Below w.heap.size w w' := Any.strconv_ParseUint_10_at8_syntax Tryz.laysPu14 s hlim h ev w hv hev
open Go.RowKit in
theorem Tryz.strconv_ParseUint_10_at8_range (s : ByteArray) (hlim : s.size ≤ 281474976710656) (h : Lib.parseUintB 8 s.data.toList = .range) (ev : Value) (w : World) (hv : w.cell? ⟨8, 0, none⟩ = some ev) (hev : ev = .nilIface ∨ ∃ te pe, ev = .iface te pe) :
    Calls Tryz.prog 223 #[.string s, .int .i64 10, .int .i64 8] w fun e w' => ∃ N, e = .returned (.tuple #[.int .u64 255, .iface 271 (.pointer (some ⟨N, 0, none⟩))]) ∧ w.heap.size ≤ N ∧ w'.heap[N]? = some (.cells #[.string ⟨#[80, 97, 114, 115, 101, 85, 105, 110, 116]⟩, .string s, ev] 275 (0, 0)) ∧ Below w.heap.size w w' := Any.strconv_ParseUint_10_at8_range Tryz.laysPu14 s hlim h ev w hv hev
def Tryz.lays144_ren : Go.Shelf.Ren := ⟨fun | 144 => 210 | 143 => 177 | 219 => 88 | 217 => 114 | 225 => 126 | 224 => 127 | 267 => 128 | 266 => 144 | 314 => 148 | n => n, fun | 9 => 9 | 4 => 4 | 3 => 3 | 5 => 5 | 46 => 93 | 146 => 172 | 51 => 39 | n => n, fun | 1 => 1 | n => n⟩
theorem Tryz.lays144 : Go.Proofs.Lays.n144 Tryz.prog Tryz.lays144_ren := {
  mixed := by kernel_rfl
  f143 := Tryz.func177.trans (congrArg some (by kernel_rfl))
  f144 := Tryz.func210.trans (congrArg some (by kernel_rfl))
  f217 := Tryz.func114.trans (congrArg some (by kernel_rfl))
  f219 := Tryz.func88.trans (congrArg some (by kernel_rfl))
  f224 := Tryz.func127.trans (congrArg some (by kernel_rfl))
  f225 := Tryz.func126.trans (congrArg some (by kernel_rfl))
  f266 := Tryz.func144.trans (congrArg some (by kernel_rfl))
  f267 := Tryz.func128.trans (congrArg some (by kernel_rfl))
  f314 := Tryz.func148.trans (congrArg some (by kernel_rfl))
  t3 := Tryz.underlying3
  a3 := Tryz.isAgg3
  z3 := Tryz.sizeOf3
  v3 := Tryz.zeroValue3
  t4 := Tryz.underlying4
  a4 := Tryz.isAgg4
  z4 := Tryz.sizeOf4
  v4 := Tryz.zeroValue4
  t5 := Tryz.underlying5
  a5 := Tryz.isAgg5
  z5 := Tryz.sizeOf5
  v5 := Tryz.zeroValue5
  t9 := Tryz.underlying9
  a9 := Tryz.isAgg9
  z9 := Tryz.sizeOf9
  v9 := Tryz.zeroValue9
  t46 := Tryz.underlying93
  a46 := Tryz.isAgg93
  z46 := Tryz.sizeOf93
  v46 := Tryz.zeroValue93
  t51 := Tryz.underlying39
  a51 := Tryz.isAgg39
  z51 := Tryz.sizeOf39
  v51 := Tryz.zeroValue39
  t146 := Tryz.underlying172
  a146 := Tryz.isAgg172
  z146 := Tryz.sizeOf172
  v146 := Tryz.zeroValue172
  g1 := by kernel_rfl }
open Go.RowKit Go.Lib in
theorem Tryz.strings_Contains (s sub : ByteArray) (m : Int) (w : World) (hs : s.size < 4294967281) (hm : w.cell? ⟨1, 0, none⟩ = some (.int .i64 m)) :
    Calls Tryz.prog 210 #[.string s, .string sub] w fun e w' => e = .returned (.bool (Lib.contains s.data.toList sub.data.toList)) ∧ w' = w := Any.strings_Contains Tryz.lays144 s sub m w hs hm
end Go.Proofs
