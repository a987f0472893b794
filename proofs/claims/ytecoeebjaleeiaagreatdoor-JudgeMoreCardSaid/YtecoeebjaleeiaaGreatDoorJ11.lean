/-
  hosts.number.
-/
import Derived.Test.YtecoeebjaleeiaaGreatDoorJ06
import Derived.Test.YtecoeebjaleeiaaGreatDoorJ07
import Derived.Test.YtecoeebjaleeiaaGreatDoorJ10
set_option maxHeartbeats 4000000
set_option maxRecDepth 100000
namespace Go.Proofs.YtecoeebjaleeiaaGreatDoor
open Go.RowKit Go.Extern.Stop Go.Stop Go.Extern
theorem Er.valueOfP (t:Addr) (w:World):(ReflectliteValue.unpack (.iface 272 (.pointer (some t)))).run Tryz.prog w
 =.ok (.agg #[.pointer (some ⟨15,272,none⟩),.pointer (some ⟨w.heap.size,0,none⟩),.int .u64 150]) (w.alloc (.cells #[.pointer (some t)] 272)):=by kernel_rfl
theorem Er.typeP (a:Addr) (w:World):(ReflectliteValue.methodAny (ReflectliteValue.valueError "reflectlite.Value.Type" 0) (fun t _ _ _=>ReflectliteType.toType t) #[.agg #[.pointer (some ⟨15,272,none⟩),.pointer (some a),.int .u64 150]]).run Tryz.prog w
 =.ok (.iface 163 (.agg #[.pointer (some ⟨15,272,none⟩)])) w:=by kernel_rfl
theorem Er.kindP (w:World):((ReflectliteType.abiMethod fun t=>(fun a:Nat=>Value.int IntKind.u8 (a:Int)) <$> Rtype.kind t) #[.pointer (some ⟨15,272,none⟩)]).run Tryz.prog w=.ok (.int .u8 22) w:=by kernel_rfl
theorem Er.kindT (w:World):((ReflectliteType.abiMethod fun t=>(fun a:Nat=>Value.int IntKind.u8 (a:Int)) <$> Rtype.kind t) #[.pointer (some ⟨15,33,none⟩)]).run Tryz.prog w=.ok (.int .u8 2) w:=by kernel_rfl
theorem Er.partsP (a:Addr) (w:World):(ReflectliteValue.parts (.agg #[.pointer (some ⟨15,272,none⟩),.pointer (some a),.int .u64 150])).run Tryz.prog w=.ok (some (272,a,150)) w:=by kernel_rfl
theorem Er.isNilP (a p:Addr) (W:World) (ha:W.cell? a=some (.pointer (some p))):
  (ReflectliteValue.method (ReflectliteValue.valueError "reflectlite.Value.IsNil" 0) ReflectliteValue.isNil #[.agg #[.pointer (some ⟨15,272,none⟩),.pointer (some a),.int .u64 150]]).run Tryz.prog W=.ok (.bool false) W:=by
 rw[rlm];simp only[Sem.run_bind,Er.partsP,Result.andThen]
 simp[ReflectliteValue.isNil,loadVar,isAgg,underlying,Tryz.underlying272,ha,Result.andThen]
theorem Er.elemP (w:World):(ReflectliteType.method ReflectliteType.elem #[.agg #[.pointer (some ⟨15,272,none⟩)]]).run Tryz.prog w=.ok (.iface 163 (.agg #[.pointer (some ⟨15,33,none⟩)])) w:=by kernel_rfl
theorem Er.implementsT (w:World):(ReflectliteType.relation "Implements" ReflectliteType.implements_ #[.agg #[.pointer (some ⟨15,33,none⟩)],.iface 163 (.agg #[.pointer (some ⟨15,54,none⟩)])]).run Tryz.prog w=.ok (.bool true) w:=by kernel_rfl
theorem Er.typeOfT (v:Value) (w:World):(ReflectliteType.typeOf #[.iface 33 v]).run Tryz.prog w=.ok (.iface 163 (.agg #[.pointer (some ⟨15,33,none⟩)])) w:=by kernel_rfl
theorem Er.assignableT (w:World):(ReflectliteType.relation "AssignableTo" ReflectliteType.assignableTo #[.agg #[.pointer (some ⟨15,33,none⟩)],.iface 163 (.agg #[.pointer (some ⟨15,33,none⟩)])]).run Tryz.prog w=.ok (.bool true) w:=by kernel_rfl
theorem Er.valueOfT (n:Int) (w:World):(ReflectliteValue.unpack (.iface 33 (.int .i64 n))).run Tryz.prog w
 =.ok (.agg #[.pointer (some ⟨15,33,none⟩),.pointer (some ⟨w.heap.size,0,none⟩),.int .u64 130]) (w.alloc (.cells #[(.int .i64 n)] 33)):=by kernel_rfl
theorem Er.elemOfP (w:World):(Rtype.elem? 272).run Tryz.prog w=.ok (some 33) w:=by kernel_rfl
theorem Er.mkT (p:Addr) (w:World):(ReflectliteValue.mk 33 p ReflectliteValue.flagAddr).run Tryz.prog w=.ok (.agg #[.pointer (some ⟨15,33,none⟩),.pointer (some p),.int .u64 386]) w:=by kernel_rfl
theorem Er.elemVP (a p:Addr) (W:World) (ha:W.cell? a=some (.pointer (some p))):
  (ReflectliteValue.method (ReflectliteValue.valueError "reflectlite.Value.Elem" 0) ReflectliteValue.elem #[.agg #[.pointer (some ⟨15,272,none⟩),.pointer (some a),.int .u64 150]]).run Tryz.prog W
   =.ok (.agg #[.pointer (some ⟨15,33,none⟩),.pointer (some p),.int .u64 386]) W:=by
 rw[rlm];simp only[Sem.run_bind,Er.partsP,Result.andThen]
 simp[ReflectliteValue.elem,loadVar,isAgg,underlying,Tryz.underlying272,ha,Result.andThen,Er.elemOfP,Er.mkT]
theorem Er.partsTa (a:Addr) (w:World):(ReflectliteValue.parts (.agg #[.pointer (some ⟨15,33,none⟩),.pointer (some a),.int .u64 386])).run Tryz.prog w=.ok (some (33,a,386)) w:=by kernel_rfl
theorem Er.partsT (a:Addr) (w:World):(ReflectliteValue.parts (.agg #[.pointer (some ⟨15,33,none⟩),.pointer (some a),.int .u64 130])).run Tryz.prog w=.ok (some (33,a,128+2)) w:=by kernel_rfl
theorem Er.directT (w:World):(Rtype.directlyAssignable 33 33).run Tryz.prog w=.ok true w:=by kernel_rfl
theorem Er.setT (ta b:Addr) (n:Int) (old:Value) (W:World) (hb:W.cell? b=some (.int .i64 n)) (ht:W.cell? ta=some old) (hf:W.frozen? ta=false):
  (ReflectliteValue.set #[.agg #[.pointer (some ⟨15,33,none⟩),.pointer (some ta),.int .u64 386],.agg #[.pointer (some ⟨15,33,none⟩),.pointer (some b),.int .u64 130]]).run Tryz.prog W
   =.ok (.tuple #[]) (W.setCell ta (.int .i64 n)):=by
 rw[rls];simp only[Sem.run_bind,Er.partsTa,Er.partsT,Result.andThen]
 simp[ReflectliteValue.flagAddr,loadVar,isAgg,underlying,Tryz.underlying33,hb,Result.andThen,Er.directT,storeVar,Value.cells,storeCells,Addr.add]
 rw[run_store Tryz.prog W ta _ _ (by rfl)]
 simp[ht,hf]
def dF (w:World) (e:Int):Nat->Value->Prop
 | 0,v=>v=.iface 33 (.int .i64 e)
 | d+1,v=>∃(p:Nat) (u:Value),v=.iface 263 (.pointer (some ⟨p,0,none⟩))/\p<w.heap.size/\w.cell? ⟨p,1,none⟩=some u/\dF w e d u
theorem dF.below {w w':World} {e:Int} (hb:Below w.heap.size w w'):∀{d:Nat} {v:Value},dF w e d v->dF w' e d v
 | 0,_,h=>h
 | d+1,v,⟨p,u,h1,h2,h3,h4⟩=>⟨p,u,h1,Nat.lt_of_lt_of_le h2 hb.size,by rw[hb.cell (p:=⟨p,1,none⟩) h2];exact h3,dF.below hb h4⟩
theorem qx (p:Nat) (v:Value) (w:World) (h:w.cell? ⟨p,1,none⟩=some v):Calls Tryz.prog 344 #[.pointer (some ⟨p,0,none⟩)] w fun e w'=>e=.returned v/\w=w':=by
 go_enter Tryz.func344,Tryz.ntmps344
 go_wp2
 go_ret;exact⟨rfl,rfl⟩
theorem Jk (v:Value) (w:World):(ReflectliteType.typeOf #[.iface 263 v]).run Tryz.prog w=.ok (.iface 163 (.agg #[.pointer (some ⟨15,263,none⟩)])) w:=by kernel_rfl
theorem tT (w:World):(ReflectliteType.relation "AssignableTo" ReflectliteType.assignableTo #[.agg #[.pointer (some ⟨15,263,none⟩)],.iface 163 (.agg #[.pointer (some ⟨15,33,none⟩)])]).run Tryz.prog w=.ok (.bool false) w:=by kernel_rfl
theorem S4 (v:Value) (xT:TypeId) (w:World):(Instr.typeAssert (.iface 263 v) xT 284 true).run Tryz.prog w=.ok (.tuple #[.nilIface,.bool false]) w:=run_typeAssert_lacksB Tryz.underlying284 (by kernel_rfl) (by kernel_rfl) v xT w
theorem Mw (v:Value) (xT:TypeId) (w:World):(Instr.typeAssert (.iface 263 v) xT 168 true).run Tryz.prog w=.ok (.tuple #[.iface 263 v,.bool true]) w:=run_typeAssert_hasB Tryz.underlying168 (by kernel_rfl) v xT w
def RAs (n:Int) (tb:Nat) (w:World) (e:Ending) (w':World):Prop:=e=.returned (.bool true)/\Below tb w w'/\w'.cell? ⟨tb,0,none⟩=some (.int .i64 n)
theorem NW (n:Int) (vb tb:Nat) (old:Value) (w:World) (hv:w.cell? ⟨vb,0,none⟩=some (.pointer (some ⟨tb,0,none⟩))) (ht:w.cell? ⟨tb,0,none⟩=some old) (hf:w.frozen? ⟨tb,0,none⟩=false):
  Calls Tryz.prog 183 #[.iface 33 (.int .i64 n),.iface 272 (.pointer (some ⟨tb,0,none⟩)),.agg #[.pointer (some ⟨15,272,none⟩),.pointer (some ⟨vb,0,none⟩),.int .u64 150],.iface 163 (.agg #[.pointer (some ⟨15,33,none⟩)])] w
   (RAs n tb w):=by
 have Su:= @run_callFunc_extern Tryz.prog 180 _ (fun args=>ReflectliteValue.unpack (args.getD 0 (.tuple #[]))) Tryz.func180 (by kernel_rfl) (by kernel_rfl) (by kernel_rfl) (by kernel_rfl);have h95:= @run_callFunc_extern Tryz.prog 68 _ ReflectliteType.typeOf Tryz.func68 (by kernel_rfl) (by kernel_rfl) (by kernel_rfl) (by kernel_rfl);have Sq:= @run_callFunc_extern Tryz.prog 318 _ (ReflectliteType.relation "AssignableTo" ReflectliteType.assignableTo) Tryz.func318 (by kernel_rfl) (by kernel_rfl) (by kernel_rfl) (by kernel_rfl);have h96:= @run_callFunc_extern Tryz.prog 221 _ (ReflectliteValue.method (ReflectliteValue.valueError "reflectlite.Value.Elem" 0) ReflectliteValue.elem) Tryz.func221 (by kernel_rfl) (by kernel_rfl) (by kernel_rfl) (by kernel_rfl);have h97:= @run_callFunc_extern Tryz.prog 222 _ ReflectliteValue.set Tryz.func222 (by kernel_rfl) (by kernel_rfl) (by kernel_rfl) (by kernel_rfl);have tO:=Er.typeOfT;have mA:=rt.methodAssignableTo;have aT:=Er.assignableT;have vT:=Er.valueOfT;have Iw:=World.block_lt_of_cell? _ _ hv;have nC:=World.block_lt_of_cell? _ _ ht
 have el:=Er.elemVP ⟨vb,0,none⟩ ⟨tb,0,none⟩ (w.alloc (.cells #[.pointer (some ⟨15,272,none⟩),.pointer (some ⟨vb,0,none⟩),.int .u64 150] 230)) (by rw[World.cell?_alloc_lt _ _ ⟨vb,0,none⟩ Iw];exact hv)
 have pZ:((w.alloc (.cells #[.pointer (some ⟨15,272,none⟩),.pointer (some ⟨vb,0,none⟩),.int .u64 150] 230)).alloc (.cells #[.int .i64 n] 33)).cell? ⟨tb,0,none⟩=some old:=by
  rw[World.cell?_alloc_lt _ _ ⟨tb,0,none⟩ (by simp;simp at nC;omega),World.cell?_alloc_lt _ _ ⟨tb,0,none⟩ nC];exact ht
 have Hn2:=Ih pZ
 have st:=Er.setT ⟨tb,0,none⟩ ⟨w.heap.size+1,0,none⟩ n old ((w.alloc (.cells #[.pointer (some ⟨15,272,none⟩),.pointer (some ⟨vb,0,none⟩),.int .u64 150] 230)).alloc (.cells #[.int .i64 n] 33))
  (by rw[World.cell?_alloc_at _ _ _ _ (by simp)];rfl)
  pZ
  (by rw[World.frozen?_alloc_old _ _ ⟨tb,0,none⟩ (by simp;simp at nC;omega),World.frozen?_alloc_old _ _ ⟨tb,0,none⟩ (Nat.ne_of_lt nC)];exact hf)
 clear pZ;go_enter Tryz.func183,Tryz.ntmps183
 go_wp2
 refine wp_loop_rounds 1 ?_;rw[rounds_succ]
 go_wp2
 go_ret;have hz:tb<w.heap.size:=nC
 exact⟨rfl,(((Below.refl tb w).setCell (p:=⟨tb,0,none⟩) (Nat.le_refl _) _).alloc (by simp;omega) _).alloc (by simp;omega) _,by
  rw[World.cell?_alloc_lt _ _ ⟨tb,0,none⟩ (by simp;omega),World.cell?_alloc_lt _ _ ⟨tb,0,none⟩ (by simp;omega)];exact World.cell?_setCell_same _ _ _ ht⟩
theorem Qy (p:Nat) (n:Int) (vb tb:Nat) (old:Value) (w:World) (hp:w.cell? ⟨p,1,none⟩=some (.iface 33 (.int .i64 n))) (hv:w.cell? ⟨vb,0,none⟩=some (.pointer (some ⟨tb,0,none⟩))) (ht:w.cell? ⟨tb,0,none⟩=some old) (hf:w.frozen? ⟨tb,0,none⟩=false):
  Calls Tryz.prog 183 #[.iface 263 (.pointer (some ⟨p,0,none⟩)),.iface 272 (.pointer (some ⟨tb,0,none⟩)),.agg #[.pointer (some ⟨15,272,none⟩),.pointer (some ⟨vb,0,none⟩),.int .u64 150],.iface 163 (.agg #[.pointer (some ⟨15,33,none⟩)])] w
   (RAs n tb w):=by
 have Su:= @run_callFunc_extern Tryz.prog 180 _ (fun args=>ReflectliteValue.unpack (args.getD 0 (.tuple #[]))) Tryz.func180 (by kernel_rfl) (by kernel_rfl) (by kernel_rfl) (by kernel_rfl);have h95:= @run_callFunc_extern Tryz.prog 68 _ ReflectliteType.typeOf Tryz.func68 (by kernel_rfl) (by kernel_rfl) (by kernel_rfl) (by kernel_rfl);have Sq:= @run_callFunc_extern Tryz.prog 318 _ (ReflectliteType.relation "AssignableTo" ReflectliteType.assignableTo) Tryz.func318 (by kernel_rfl) (by kernel_rfl) (by kernel_rfl) (by kernel_rfl);have h96:= @run_callFunc_extern Tryz.prog 221 _ (ReflectliteValue.method (ReflectliteValue.valueError "reflectlite.Value.Elem" 0) ReflectliteValue.elem) Tryz.func221 (by kernel_rfl) (by kernel_rfl) (by kernel_rfl) (by kernel_rfl);have h97:= @run_callFunc_extern Tryz.prog 222 _ ReflectliteValue.set Tryz.func222 (by kernel_rfl) (by kernel_rfl) (by kernel_rfl) (by kernel_rfl);have tO:=Er.typeOfT;have tOF:=Jk;have mA:=rt.methodAssignableTo;have aT:=Er.assignableT;have aF:=tT;have vT:=Er.valueOfT;have a1:=S4;have a3:=Mw;have nu:∀w,(nilAhead 489 263 (.pointer (some ⟨p,0,none⟩)) "Unwrap").run Tryz.prog w=.ok (some false) w:=fun _=>by kernel_rfl
 have mU:∀w,(Go.method 489 263 (.pointer (some ⟨p,0,none⟩)) "Unwrap").run Tryz.prog w=.ok (344,.pointer (some ⟨p,0,none⟩)) w:=fun _=>by kernel_rfl
 have Iw:=World.block_lt_of_cell? _ _ hv;have nC:=World.block_lt_of_cell? _ _ ht;have el:=Er.elemVP ⟨vb,0,none⟩ ⟨tb,0,none⟩ (w.alloc (.cells #[.pointer (some ⟨15,272,none⟩),.pointer (some ⟨vb,0,none⟩),.int .u64 150] 230)) (by rw[World.cell?_alloc_lt _ _ ⟨vb,0,none⟩ Iw];exact hv)
 have pZ:((w.alloc (.cells #[.pointer (some ⟨15,272,none⟩),.pointer (some ⟨vb,0,none⟩),.int .u64 150] 230)).alloc (.cells #[.int .i64 n] 33)).cell? ⟨tb,0,none⟩=some old:=by
  rw[World.cell?_alloc_lt _ _ ⟨tb,0,none⟩ (by simp;simp at nC;omega),World.cell?_alloc_lt _ _ ⟨tb,0,none⟩ nC];exact ht
 have st:=Er.setT ⟨tb,0,none⟩ ⟨w.heap.size+1,0,none⟩ n old ((w.alloc (.cells #[.pointer (some ⟨15,272,none⟩),.pointer (some ⟨vb,0,none⟩),.int .u64 150] 230)).alloc (.cells #[.int .i64 n] 33))
  (by rw[World.cell?_alloc_at _ _ _ _ (by simp)];rfl)
  pZ
  (by rw[World.frozen?_alloc_old _ _ ⟨tb,0,none⟩ (by simp;simp at nC;omega),World.frozen?_alloc_old _ _ ⟨tb,0,none⟩ (Nat.ne_of_lt nC)];exact hf)
 clear pZ;have cU:=Ih (fun w':World=>qx p (.iface 33 (.int .i64 n)) w');have Sd:p<w.heap.size:=World.block_lt_of_cell? _ _ hp;go_enter Tryz.func183,Tryz.ntmps183
 go_wp2
 refine wp_loop_rounds 2 ?_;rw[rounds_succ]
 go_wp2_with fail
 refine(cU.out _ (by rw[World.cell?_alloc_lt _ _ ⟨p,1,none⟩ Sd];exact hp)).mono ?_;rintro e w1 ⟨rfl,rfl⟩
 go_wp2
 rw[rounds_succ]
 go_wp2
 go_ret;have hz:tb<w.heap.size:=nC
 exact⟨rfl,(((Below.refl tb w).setCell (p:=⟨tb,0,none⟩) (Nat.le_refl _) _).alloc (by simp;omega) _).alloc (by simp;omega) _,by
  rw[World.cell?_alloc_lt _ _ ⟨tb,0,none⟩ (by simp;omega),World.cell?_alloc_lt _ _ ⟨tb,0,none⟩ (by simp;omega)];exact World.cell?_setCell_same _ _ _ ht⟩
theorem QZ (p p2:Nat) (n:Int) (vb tb:Nat) (old:Value) (w:World) (hp:w.cell? ⟨p,1,none⟩=some (.iface 263 (.pointer (some ⟨p2,0,none⟩)))) (AM:w.cell? ⟨p2,1,none⟩=some (.iface 33 (.int .i64 n))) (hv:w.cell? ⟨vb,0,none⟩=some (.pointer (some ⟨tb,0,none⟩))) (ht:w.cell? ⟨tb,0,none⟩=some old) (hf:w.frozen? ⟨tb,0,none⟩=false):
  Calls Tryz.prog 183 #[.iface 263 (.pointer (some ⟨p,0,none⟩)),.iface 272 (.pointer (some ⟨tb,0,none⟩)),.agg #[.pointer (some ⟨15,272,none⟩),.pointer (some ⟨vb,0,none⟩),.int .u64 150],.iface 163 (.agg #[.pointer (some ⟨15,33,none⟩)])] w
   (RAs n tb w):=by
 have Su:= @run_callFunc_extern Tryz.prog 180 _ (fun args=>ReflectliteValue.unpack (args.getD 0 (.tuple #[]))) Tryz.func180 (by kernel_rfl) (by kernel_rfl) (by kernel_rfl) (by kernel_rfl);have h95:= @run_callFunc_extern Tryz.prog 68 _ ReflectliteType.typeOf Tryz.func68 (by kernel_rfl) (by kernel_rfl) (by kernel_rfl) (by kernel_rfl);have Sq:= @run_callFunc_extern Tryz.prog 318 _ (ReflectliteType.relation "AssignableTo" ReflectliteType.assignableTo) Tryz.func318 (by kernel_rfl) (by kernel_rfl) (by kernel_rfl) (by kernel_rfl);have h96:= @run_callFunc_extern Tryz.prog 221 _ (ReflectliteValue.method (ReflectliteValue.valueError "reflectlite.Value.Elem" 0) ReflectliteValue.elem) Tryz.func221 (by kernel_rfl) (by kernel_rfl) (by kernel_rfl) (by kernel_rfl);have h97:= @run_callFunc_extern Tryz.prog 222 _ ReflectliteValue.set Tryz.func222 (by kernel_rfl) (by kernel_rfl) (by kernel_rfl) (by kernel_rfl);have tO:=Er.typeOfT;have tOF:=Jk;have mA:=rt.methodAssignableTo;have aT:=Er.assignableT;have aF:=tT;have vT:=Er.valueOfT;have a1:=S4;have a3:=Mw;have nu:∀w,(nilAhead 489 263 (.pointer (some ⟨p,0,none⟩)) "Unwrap").run Tryz.prog w=.ok (some false) w:=fun _=>by kernel_rfl
 have mU:∀w,(Go.method 489 263 (.pointer (some ⟨p,0,none⟩)) "Unwrap").run Tryz.prog w=.ok (344,.pointer (some ⟨p,0,none⟩)) w:=fun _=>by kernel_rfl
 have Iw:=World.block_lt_of_cell? _ _ hv;have nC:=World.block_lt_of_cell? _ _ ht;have el:=Er.elemVP ⟨vb,0,none⟩ ⟨tb,0,none⟩ (w.alloc (.cells #[.pointer (some ⟨15,272,none⟩),.pointer (some ⟨vb,0,none⟩),.int .u64 150] 230)) (by rw[World.cell?_alloc_lt _ _ ⟨vb,0,none⟩ Iw];exact hv)
 have pZ:((w.alloc (.cells #[.pointer (some ⟨15,272,none⟩),.pointer (some ⟨vb,0,none⟩),.int .u64 150] 230)).alloc (.cells #[.int .i64 n] 33)).cell? ⟨tb,0,none⟩=some old:=by
  rw[World.cell?_alloc_lt _ _ ⟨tb,0,none⟩ (by simp;simp at nC;omega),World.cell?_alloc_lt _ _ ⟨tb,0,none⟩ nC];exact ht
 have st:=Er.setT ⟨tb,0,none⟩ ⟨w.heap.size+1,0,none⟩ n old ((w.alloc (.cells #[.pointer (some ⟨15,272,none⟩),.pointer (some ⟨vb,0,none⟩),.int .u64 150] 230)).alloc (.cells #[.int .i64 n] 33))
  (by rw[World.cell?_alloc_at _ _ _ _ (by simp)];rfl)
  pZ
  (by rw[World.frozen?_alloc_old _ _ ⟨tb,0,none⟩ (by simp;simp at nC;omega),World.frozen?_alloc_old _ _ ⟨tb,0,none⟩ (Nat.ne_of_lt nC)];exact hf)
 clear pZ;have nu2:∀w,(nilAhead 489 263 (.pointer (some ⟨p2,0,none⟩)) "Unwrap").run Tryz.prog w=.ok (some false) w:=fun _=>by kernel_rfl
 have mU2:∀w,(Go.method 489 263 (.pointer (some ⟨p2,0,none⟩)) "Unwrap").run Tryz.prog w=.ok (344,.pointer (some ⟨p2,0,none⟩)) w:=fun _=>by kernel_rfl
 have cU:=Ih (fun w':World=>qx p (.iface 263 (.pointer (some ⟨p2,0,none⟩))) w');have cU2:=Ih (fun w':World=>qx p2 (.iface 33 (.int .i64 n)) w');have abS:p2<w.heap.size:=World.block_lt_of_cell? _ _ AM;have Sd:p<w.heap.size:=World.block_lt_of_cell? _ _ hp;go_enter Tryz.func183,Tryz.ntmps183
 go_wp2
 refine wp_loop_rounds 3 ?_;rw[rounds_succ]
 go_wp2_with fail
 refine(cU.out _ (by rw[World.cell?_alloc_lt _ _ ⟨p,1,none⟩ Sd];exact hp)).mono ?_;rintro e w1 ⟨rfl,rfl⟩
 go_wp2
 rw[rounds_succ]
 go_wp2_with fail
 refine(cU2.out _ (by rw[World.cell?_alloc_lt _ _ ⟨p2,1,none⟩ abS];exact AM)).mono ?_;rintro e w1 ⟨rfl,rfl⟩
 go_wp2
 rw[rounds_succ]
 go_wp2
 go_ret;have hz:tb<w.heap.size:=nC
 exact⟨rfl,(((Below.refl tb w).setCell (p:=⟨tb,0,none⟩) (Nat.le_refl _) _).alloc (by simp;omega) _).alloc (by simp;omega) _,by
  rw[World.cell?_alloc_lt _ _ ⟨tb,0,none⟩ (by simp;omega),World.cell?_alloc_lt _ _ ⟨tb,0,none⟩ (by simp;omega)];exact World.cell?_setCell_same _ _ _ ht⟩
theorem Lc (vb tb:Nat) (old:Value) (d:Nat) (hd:d<=2) (n:Int) (v:Value) (w:World) (h:dF w n d v) (hv:w.cell? ⟨vb,0,none⟩=some (.pointer (some ⟨tb,0,none⟩))) (ht:w.cell? ⟨tb,0,none⟩=some old) (hf:w.frozen? ⟨tb,0,none⟩=false):
  Calls Tryz.prog 183 #[v,.iface 272 (.pointer (some ⟨tb,0,none⟩)),.agg #[.pointer (some ⟨15,272,none⟩),.pointer (some ⟨vb,0,none⟩),.int .u64 150],.iface 163 (.agg #[.pointer (some ⟨15,33,none⟩)])] w
   (RAs n tb w):=by
 match d,hd,h with
 | 0,_,h=>rw[show v=_ from h];exact NW n vb tb old w hv ht hf
 | 1,_,⟨p,u,h1,_,h3,h4⟩=>rw[h1];rw[show u=_ from h4]at h3;exact Qy p n vb tb old w h3 hv ht hf
 | 2,_,⟨p,u,h1,_,h3,p2,u2,h4,_,h6,h7⟩=>rw[h1];rw[h4]at h3;rw[show u2=_ from h7]at h6;exact QZ p p2 n vb tb old w h3 h6 hv ht hf
theorem KC (d:Nat) (hd:d<=2) (n:Int) (t0:TypeId) (x0:Value) (tb:Nat) (old:Value) (w:World) (hE:dQ w) (hB:dF w n d (.iface t0 x0)) (ht:w.cell? ⟨tb,0,none⟩=some old) (hf:w.frozen? ⟨tb,0,none⟩=false):
  Calls Tryz.prog 145 #[.iface t0 x0,.iface 272 (.pointer (some ⟨tb,0,none⟩))] w (RAs n tb w):=by
 have Su:= @run_callFunc_extern Tryz.prog 180 _ (fun args=>ReflectliteValue.unpack (args.getD 0 (.tuple #[]))) Tryz.func180 (by kernel_rfl) (by kernel_rfl) (by kernel_rfl) (by kernel_rfl);have h49:= @run_callFunc_extern Tryz.prog 181 _ (ReflectliteValue.methodAny (ReflectliteValue.valueError "reflectlite.Value.Type" 0) (fun t _ _ _=>ReflectliteType.toType t)) Tryz.func181 (by kernel_rfl) (by kernel_rfl) (by kernel_rfl) (by kernel_rfl);have h50:= @run_callFunc_extern Tryz.prog 182 _ (ReflectliteValue.method (ReflectliteValue.valueError "reflectlite.Value.IsNil" 0) ReflectliteValue.isNil) Tryz.func182 (by kernel_rfl) (by kernel_rfl) (by kernel_rfl) (by kernel_rfl);have abV:= @run_callFunc_extern Tryz.prog 310 _ (ReflectliteType.abiMethod fun t=>do pure (.int .u8 (<-Rtype.kind t))) Tryz.func310 (by kernel_rfl) (by kernel_rfl) (by kernel_rfl) (by kernel_rfl);have ace:= @run_callFunc_extern Tryz.prog 320 _ (ReflectliteType.method ReflectliteType.elem) Tryz.func320 (by kernel_rfl) (by kernel_rfl) (by kernel_rfl) (by kernel_rfl)
 have acx:= @run_callFunc_extern Tryz.prog 321 _ (ReflectliteType.relation "Implements" ReflectliteType.implements_) Tryz.func321 (by kernel_rfl) (by kernel_rfl) (by kernel_rfl) (by kernel_rfl);have f6:=Er.valueOfP;have f7:=Er.typeP;have mK:=rt.methodKind;have mE:=rt.methodElem;have mI:=rt.methodImplements;have kP:=Er.kindP;have kT:=Er.kindT;have eP:=Er.elemP;have iT:=Er.implementsT;have nC:=World.block_lt_of_cell? _ _ ht;have hz:tb<w.heap.size:=nC;have hzE:=hE.size;have n8:=Er.isNilP ⟨w.heap.size,0,none⟩ ⟨tb,0,none⟩ ((w.alloc (.cells #[.pointer (some ⟨tb,0,none⟩)] 272)).alloc (.cells #[.pointer (some ⟨15,272,none⟩),.pointer (some ⟨w.heap.size,0,none⟩),.int .u64 150] 230)) (by simp)
 have zl:((w.alloc (.cells #[.pointer (some ⟨tb,0,none⟩)] 272)).alloc (.cells #[.pointer (some ⟨15,272,none⟩),.pointer (some ⟨w.heap.size,0,none⟩),.int .u64 150] 230)).cell? ⟨3,0,none⟩=some (.iface 163 (.agg #[.pointer (some ⟨15,54,none⟩)])):=by
  rw[World.cell?_alloc_lt _ _ ⟨3,0,none⟩ (by simp<;>omega),World.cell?_alloc_lt _ _ ⟨3,0,none⟩ (by show 3<_;omega)];exact hE.et
 have ca:∀w1:World,Below w.heap.size w w1->w1.cell? ⟨w.heap.size,0,none⟩=some (.pointer (some ⟨tb,0,none⟩))->Calls Tryz.prog 183 #[.iface t0 x0,.iface 272 (.pointer (some ⟨tb,0,none⟩)),.agg #[.pointer (some ⟨15,272,none⟩),.pointer (some ⟨w.heap.size,0,none⟩),.int .u64 150],.iface 163 (.agg #[.pointer (some ⟨15,33,none⟩)])] w1
  (RAs n tb w1):=fun w1 hb hc=>Lc w.heap.size tb old d hd n _ w1 (hB.below hb) hc (by rw[hb.cell nC];exact ht) (by rw[hb.frozen nC];exact hf)
 have Ca:=Ih ca;clear ca;go_enter Tryz.func145,Tryz.ntmps145
 go_wp2_with fail
 refine(Ca.out _ (((Below.refl _ w).alloc (Nat.le_refl _) _).alloc (by simp) _) (by simp)).mono ?_;rintro e w1 ⟨rfl,ar,iD⟩
 go_wp2
 go_ret;exact⟨rfl,(((Below.refl tb w).alloc (Nat.le_of_lt hz) _).alloc (by simp;omega) _).trans ar,iD⟩
theorem dF.iface {w:World} {e:Int}:∀{d:Nat} {v:Value},dF w e d v->∃t x,v=.iface t x
 | 0,_,h=>⟨_,_,h⟩
 | _+1,_,⟨_,_,h,_⟩=>⟨_,_,h⟩
theorem MA (d:Nat) (hd:d<=2) (n:Int) (v:Value) (w:World) (hE:dQ w) (h:dF w n d v):Calls Tryz.prog 169 #[v] w fun e w'=>e=.returned (.int .i64 n)/\Below w.heap.size w w':=by
 obtain⟨t0,x0,rfl⟩:=h.iface;have cA:=Ih (KC d hd n t0 x0 w.heap.size (.int .i64 0) (w.alloc (.cells #[.int .i64 0] 33)) (hE.below ((Below.refl _ w).alloc (Nat.le_refl _) _)) (h.below ((Below.refl _ w).alloc (Nat.le_refl _) _)) (by simp) (by simp));go_enter Tryz.func169,Tryz.ntmps169
 go_wp2_with fail
 refine cA.out.mono ?_;rintro e w1 ⟨rfl,ar,iD⟩
 go_wp2
 go_ret;exact⟨rfl,((Below.refl _ w).alloc (Nat.le_refl _) _).trans ar⟩
end Go.Proofs.YtecoeebjaleeiaaGreatDoor
namespace Lz
open Go
theorem kK (base:Nat):∀(l:Bs) (n:Nat) (c:UInt8),gj base n (l++[c])=match gj base n l with
  | none=>none
  | some m=>match jb c with
    | none=>none
    | some d=>if base<=d then none else some (min (m*base+d) 1099511627776)
 | [],n,c=>by
   simp only[List.nil_append,gj];cases jb c with
   | none=>rfl
   | some d=>by_cases h:base<=d<;>simp[h]
 | x::r,n,c=>by
   simp only[List.cons_append,gj];cases jb x with
   | none=>rfl
   | some d=>
     by_cases h:base<=d
     ·simp[h]
     ·simp only[h,if_false];exact kK base r _ c
theorem gw (base:Nat) (l m:Bs) (n:Nat) (h:gj base n l=none):gj base n (l++m)=none:=by
 induction m generalizing l with
 | nil=>simpa using h
 | cons c r ih=>
   have:=kK base l n c;rw[h]at this;have h2:=ih (l++[c]) this;simpa using h2
end Lz
namespace Go.Proofs.YtecoeebjaleeiaaGreatDoor
open Go.RowKit
theorem gx {w:World} {e:Int} {s:ByteArray} {d:Nat} {u:Value} {t:TypeId} {fr:Nat×Nat} (hu:dF w e d u):dF (w.alloc (.cells #[.string s,u] t fr)) e (d+1) (.iface 263 (.pointer (some ⟨w.heap.size,0,none⟩))):=
 ⟨w.heap.size,u,rfl,by simp,by rw[World.cell?_alloc_mark];rfl,hu.below ((Below.refl _ w).alloc (Nat.le_refl _) _)⟩
def Vt (o:Option Nat) (w:World) (e:Ending) (w':World):Prop:=
 Below w.heap.size w w'/\match o with
  | some n=>e=.returned (.tuple #[.int .u64 n,.nilIface])/\n<=1099511627776
  | none=>∃v,e=.returned (.tuple #[.int .u64 0,v])/\dF w' 71 1 v
theorem eD {w wx:World} {s:ByteArray} {t:TypeId} {fr:Nat×Nat} (hb:Below w.heap.size w wx):
  Vt none w (.returned (.tuple #[.int .u64 0,.iface 263 (.pointer (some ⟨wx.heap.size,0,none⟩))])) (wx.alloc (.cells #[.string s,.iface 33 (.int .i64 71)] t fr)):=
 ⟨hb.alloc hb.size _,_,rfl,gx rfl⟩
theorem vE {w wx:World} {n:Nat} (hb:Below w.heap.size w wx) (hn:n<=1099511627776):Vt (some n) w (.returned (.tuple #[.int .u64 n,.nilIface])) wx:=⟨hb,rfl,hn⟩
theorem wrap64 {x:Int} (h0:0<=x) (h1:x<=18446744073709551615):IntKind.u64.wrap x=x:=by
 have hb:IntKind.u64.bits=64:=rfl;have hs:IntKind.u64.signed=false:=rfl;simp only[IntKind.wrap,hb,hs]
 simp
 omega
theorem rp (n B d:Nat) (hn:n<=1099511627776) (hB:B<=16) (hd:d<16):
  min (IntKind.u64.wrap (IntKind.u64.wrap ((n:Int)*(B:Int))+(d:Int))) 1099511627776=((min (n*B+d) 1099511627776:Nat):Int):=by
 have hm:n*B<=1099511627776*16:=Nat.mul_le_mul hn hB;have e:(n:Int)*(B:Int)=((n*B:Nat):Int):=by simp
 rw[e];generalize n*B=m at hm⊢;rw[wrap64 (x:=(m:Int)) (by omega) (by omega),wrap64 (by omega) (by omega)];omega
def ex (s:List UInt8):Nat×List UInt8:=
 if Lib.hasPrefix (Lz.low s) [48,120]then(16,48::(Lz.low s).drop 2)else if 1<s.length/\s[0]? =some 48 then(8,s.drop 1)else(10,s)
def rU (a:Nat×List UInt8):Option Nat:=if a.2=[]then none else Lz.gj a.1 0 a.2
theorem Fz (s:List UInt8):Lz.sD s=rU (ex s):=by
 unfold Lz.sD ex rU;by_cases h1:Lib.hasPrefix (Lz.low s) [48,120]=true
 ·simp[h1]
 ·by_cases h2:1<s.length/\s[0]? =some 48
  ·have:s.drop 1≠[]:=by intro h;have:=congrArg List.length h;simp at this;omega
   rw[if_neg h1,if_pos h2,if_neg h1,if_pos h2];exact(if_neg this).symm
  ·simp[h1,h2]
theorem jH (s p:ByteArray) (w:World):Calls Tryz.prog 59 #[.string s,.string p] w fun e w'=>e=.returned (.bool (Lib.hasPrefix s.data.toList p.data.toList))/\w=w':=by
 exact(Tryz.strings_HasPrefix s p w).mono fun _ _ ⟨h1,h2⟩=>⟨h1,h2.symm⟩
theorem xR (s:ByteArray) (hs:s.size<=1048576) (w:World):Calls Tryz.prog 275 #[.string s] w (Vt (Lz.sD s.data.toList) w):=by
 rw[Fz];obtain⟨q1,bO⟩:∃q,q=Lib.hasPrefix (Lz.low s.data.toList) [48,120]:=⟨_,rfl⟩;have iB:Below w.heap.size w w:=Below.refl _ w;go_enter Tryz.func275,Tryz.ntmps275
 go_wp2_with fail
 with_reducible refine(kv s (by omega) _).mono ?_
 rintro e w1 ⟨lw,rfl,Fj,ar⟩
 go_wp2_with fail
 with_reducible refine(jH lw ⟨#[48,120]⟩ _).mono ?_
 rintro e w1' ⟨rfl,rfl⟩;rw[show Lib.hasPrefix lw.data.toList (ByteArray.data ⟨#[48,120]⟩).toList=q1 by rw[bO,Fj.out]]
 obtain hq|⟨hq,XN,Jx⟩|⟨hq,XN⟩|⟨hq,XN,Jx⟩:q1=true\/(q1=false/\1<s.size/\s.data.toList[0]? =some 48)\/(q1=false/\¬1<s.size)\/(q1=false/\1<s.size/\s.data.toList[0]? ≠some 48):=by
  cases q1
  ·by_cases h1:1<s.size
   ·by_cases h3:s.data.toList[0]? =some 48
    ·exact Or.inr (Or.inl ⟨rfl,h1,h3⟩)
    ·exact Or.inr (Or.inr (Or.inr ⟨rfl,h1,h3⟩))
   ·exact Or.inr (Or.inr (Or.inl ⟨rfl,h1⟩))
  ·exact Or.inl rfl
 ·have hlz:lw.size=s.size:=by rw[<-aa,Fj.out];simp[Lz.low]
  have vv:2<=lw.size:=by
   have:=bO.symm.trans hq;rw[<-Fj.out]at this;rw[<-Lib.hasPrefix_of_take,Bool.and_eq_true,decide_eq_true_eq,aa]at this;exact this.1
  have aU:¬(9223372036854775807<1+(lw.size-2)):=by omega
  have HA:Hid (ex s.data.toList=(16,((⟨#[48]⟩:ByteArray)++lw.extract 2 lw.size).data.toList)):=by
   show _=_;rw[mo,bR,Fj.out];unfold ex;rw[if_pos (bO.symm.trans hq)];rfl
  have XG:((⟨#[48]⟩:ByteArray)++lw.extract 2 lw.size).size<=s.size+1:=by
   have h1:((⟨#[48]⟩:ByteArray)++lw.extract 2 lw.size).data.toList.length=1+(lw.size-2):=by
    rw[mo,bR,List.length_append,List.length_drop,aa];rfl
   rw[<-aa];omega
  subst hq;clear bO hlz;obtain⟨B,hB⟩:∃B:Nat,B=16:=⟨_,rfl⟩;rw[show(16:Nat)=B from hB.symm]at HA;have nQ:1<=B/\B<=16:=by omega
  go_upto_region 4 with fail
  go_quiet (fail)
  rw[show Value.int .i64 16=Value.int .i64 (B:Int) by rw[hB];rfl];have lW:=below_drewN ar nq;generalize (⟨#[48]⟩:ByteArray)++lw.extract 2 lw.size=u at HA XG⊢;generalize w1.drewN nq=wx at lW⊢;clear hB ar Fj aU vv;by_cases hz:u.size=0
  ·have he:=aq hz
   have HN:Hid (rU (ex s.data.toList)=none):=by
    show _=_;rw[HA.out];have:u.data.toList=[]:=List.length_eq_zero_iff.1 (by rw[aa];exact hz);unfold rU;rw[this];rfl
   first
    | (exfalso;omega)
    | (go_wp2;go_ret2;rw[HN.out];exact eD lW)
  ·have he:=an (s:=u) (by omega)
   have HU:Hid (rU (ex s.data.toList)=Lz.gj B 0 u.data.toList):=by
    show _=_;rw[HA.out];have:u.data.toList≠[]:=by intro h;exact hz (by rw[<-aa,h];rfl)
    exact if_neg this
   go_wp2_with fail
   go_loopw [7,39] (fun a i wr=>∃j n:Nat,j<=u.size/\n<=1099511627776/\a=.int .u64 n/\i=.int .i64 j/\Hid (Lz.gj B 0 (u.data.toList.take j)=some n)/\Below w.heap.size w wr) (fun _ i _=>u.size-(intOf i).toNat)
   case atStart=>exact⟨0,0,Nat.zero_le _,by omega,rfl,rfl,Ih rfl,lW⟩
   case round=>
    clear lW;obtain⟨j,n,hj,hn,rfl,rfl,hN,hb⟩:=hrel;by_cases aV:j<u.size
    ·have hg:=aB (s:=u) aV;have gH:u.data.toList.take (j+1)=u.data.toList.take j++[u[j]]:=by rw[List.take_add_one,hg];rfl
     have vr:=Lz.kK B (u.data.toList.take j) 0 u[j];rw[<-gH,hN.out]at vr;have lT:=fun h=>Lz.gw B (u.data.toList.take (j+1)) (u.data.toList.drop (j+1)) 0 h;rw[List.take_append_drop]at lT;have cH:=fun W=>ny u[j] W;unfold DS Lz.jr Lz.qp at cH;have kj:=kx u[j];unfold Lz.jr at kj;generalize PF:Lz.jb u[j]=xv at cH vr kj;have It:=Ih vr;have O3:=Ih lT;clear vr lT gH hg PF;cases xv with
     | none=>
       have lV:Hid (Lz.gj B 0 u.data.toList=none):=by show _=_;exact O3.out It.out
       go_wp2_with fail
       with_reducible refine(cH _).mono ?_
       rintro e w' ⟨rfl,rfl⟩
       go_wp2
       go_ret2
       rw[HU.out,lV.out];exact eD hb
     | some d=>
       by_cases pE:B<=d
       ·have lV:Hid (Lz.gj B 0 u.data.toList=none):=by show _=_;exact O3.out (It.out.trans (if_pos pE))
        have Ij:(B:Int)<=(d:Int):=by omega
        go_wp2_with fail
        with_reducible refine(cH _).mono ?_
        rintro e w' ⟨rfl,rfl⟩
        go_wp2
        go_ret2
        rw[HU.out,lV.out];exact eD hb
       ·have pB:Hid (Lz.gj B 0 (u.data.toList.take (j+1))=some (min (n*B+d) 1099511627776)):=by show _=_;exact It.out.trans (if_neg pE)
        have Ij:¬(B:Int)<=(d:Int):=by omega
        go_wp2_with fail
        with_reducible refine(cH _).mono ?_
        rintro e w' ⟨rfl,rfl⟩
        go_wp2
        go_roundw
        case rel=>exact⟨j+1,_,by omega,Nat.min_le_right _ _,congrArg _ (rp n B d hn nQ.2 kj),by go_num,pB.out,hb⟩
        case measure=>simp[intOf];omega
    ·have SJ:j=u.size:=by omega
     have lV:Hid (Lz.gj B 0 u.data.toList=some n):=by
      show _=_;have:=hN.out;rw[SJ,List.take_of_length_le (by rw[aa];exact Nat.le_refl _)]at this;exact this
     go_wp2
     go_ret2
     rw[HU.out,lV.out];exact vE hb hn
 ·have Su:((s[0].toNat:Int)==48)=true:=by
   rw[aB (by omega)]at Jx;exact(Kr s[0] 48).trans (beq_iff_eq.2 (Option.some.inj Jx))
  have HA:Hid (ex s.data.toList=(8,(s.extract 1 s.size).data.toList)):=by
   show _=_;rw[bR];unfold ex;rw[if_neg (by rw[<-bO,hq];decide),if_pos ⟨by rw[aa];exact XN,Jx⟩]
  have XG:(s.extract 1 s.size).size<=s.size+1:=Nat.le_succ_of_le (aP s 1 s.size);subst hq;clear Jx bO;obtain⟨B,hB⟩:∃B:Nat,B=8:=⟨_,rfl⟩;rw[show(8:Nat)=B from hB.symm]at HA;have nQ:1<=B/\B<=16:=by omega
  go_upto_region 6 with fail
  go_quiet (fail)
  rw[show Value.int .i64 8=Value.int .i64 (B:Int) by rw[hB];rfl];have lW:=below_drewN ar nq;generalize s.extract 1 s.size=u at HA XG⊢;generalize w1.drewN nq=wx at lW⊢;clear hB Su XN ar Fj;by_cases hz:u.size=0
  ·have he:=aq hz
   have HN:Hid (rU (ex s.data.toList)=none):=by
    show _=_;rw[HA.out];have:u.data.toList=[]:=List.length_eq_zero_iff.1 (by rw[aa];exact hz);unfold rU;rw[this];rfl
   first
    | (exfalso;omega)
    | (go_wp2;go_ret2;rw[HN.out];exact eD lW)
  ·have he:=an (s:=u) (by omega)
   have HU:Hid (rU (ex s.data.toList)=Lz.gj B 0 u.data.toList):=by
    show _=_;rw[HA.out];have:u.data.toList≠[]:=by intro h;exact hz (by rw[<-aa,h];rfl)
    exact if_neg this
   go_wp2_with fail
   go_loopw [7,39] (fun a i wr=>∃j n:Nat,j<=u.size/\n<=1099511627776/\a=.int .u64 n/\i=.int .i64 j/\Hid (Lz.gj B 0 (u.data.toList.take j)=some n)/\Below w.heap.size w wr) (fun _ i _=>u.size-(intOf i).toNat)
   case atStart=>exact⟨0,0,Nat.zero_le _,by omega,rfl,rfl,Ih rfl,lW⟩
   case round=>
    clear lW;obtain⟨j,n,hj,hn,rfl,rfl,hN,hb⟩:=hrel;by_cases aV:j<u.size
    ·have hg:=aB (s:=u) aV;have gH:u.data.toList.take (j+1)=u.data.toList.take j++[u[j]]:=by rw[List.take_add_one,hg];rfl
     have vr:=Lz.kK B (u.data.toList.take j) 0 u[j];rw[<-gH,hN.out]at vr;have lT:=fun h=>Lz.gw B (u.data.toList.take (j+1)) (u.data.toList.drop (j+1)) 0 h;rw[List.take_append_drop]at lT;have cH:=fun W=>ny u[j] W;unfold DS Lz.jr Lz.qp at cH;have kj:=kx u[j];unfold Lz.jr at kj;generalize PF:Lz.jb u[j]=xv at cH vr kj;have It:=Ih vr;have O3:=Ih lT;clear vr lT gH hg PF;cases xv with
     | none=>
       have lV:Hid (Lz.gj B 0 u.data.toList=none):=by show _=_;exact O3.out It.out
       go_wp2_with fail
       with_reducible refine(cH _).mono ?_
       rintro e w' ⟨rfl,rfl⟩
       go_wp2
       go_ret2
       rw[HU.out,lV.out];exact eD hb
     | some d=>
       by_cases pE:B<=d
       ·have lV:Hid (Lz.gj B 0 u.data.toList=none):=by show _=_;exact O3.out (It.out.trans (if_pos pE))
        have Ij:(B:Int)<=(d:Int):=by omega
        go_wp2_with fail
        with_reducible refine(cH _).mono ?_
        rintro e w' ⟨rfl,rfl⟩
        go_wp2
        go_ret2
        rw[HU.out,lV.out];exact eD hb
       ·have pB:Hid (Lz.gj B 0 (u.data.toList.take (j+1))=some (min (n*B+d) 1099511627776)):=by show _=_;exact It.out.trans (if_neg pE)
        have Ij:¬(B:Int)<=(d:Int):=by omega
        go_wp2_with fail
        with_reducible refine(cH _).mono ?_
        rintro e w' ⟨rfl,rfl⟩
        go_wp2
        go_roundw
        case rel=>exact⟨j+1,_,by omega,Nat.min_le_right _ _,congrArg _ (rp n B d hn nQ.2 kj),by go_num,pB.out,hb⟩
        case measure=>simp[intOf];omega
    ·have SJ:j=u.size:=by omega
     have lV:Hid (Lz.gj B 0 u.data.toList=some n):=by
      show _=_;have:=hN.out;rw[SJ,List.take_of_length_le (by rw[aa];exact Nat.le_refl _)]at this;exact this
     go_wp2
     go_ret2
     rw[HU.out,lV.out];exact vE hb hn
 ·have HA:Hid (ex s.data.toList=(10,s.data.toList)):=by
   show _=_;unfold ex;rw[if_neg (by rw[<-bO,hq];decide),if_neg (by rw[aa];exact fun h=>XN h.1)]
  have XG:s.size<=s.size+1:=Nat.le_succ _;have h2c:(s.size:Int)<=1:=by omega
  subst hq;clear bO;obtain⟨B,hB⟩:∃B:Nat,B=10:=⟨_,rfl⟩;rw[show(10:Nat)=B from hB.symm]at HA;have nQ:1<=B/\B<=16:=by omega
  go_upto_region 7 with fail
  rw[show Value.int .i64 10=Value.int .i64 (B:Int) by rw[hB];rfl];have lW:=ar;generalize w1=wx at lW⊢;clear hB XN h2c ar Fj;by_cases hz:s.size=0
  ·have he:=aq hz
   have HN:Hid (rU (ex s.data.toList)=none):=by
    show _=_;rw[HA.out];have:s.data.toList=[]:=List.length_eq_zero_iff.1 (by rw[aa];exact hz);unfold rU;rw[this];rfl
   first
    | (exfalso;omega)
    | (go_wp2;go_ret2;rw[HN.out];exact eD lW)
  ·have he:=an (s:=s) (by omega)
   have HU:Hid (rU (ex s.data.toList)=Lz.gj B 0 s.data.toList):=by
    show _=_;rw[HA.out];have:s.data.toList≠[]:=by intro h;exact hz (by rw[<-aa,h];rfl)
    exact if_neg this
   go_wp2_with fail
   go_loopw [7,39] (fun a i wr=>∃j n:Nat,j<=s.size/\n<=1099511627776/\a=.int .u64 n/\i=.int .i64 j/\Hid (Lz.gj B 0 (s.data.toList.take j)=some n)/\Below w.heap.size w wr) (fun _ i _=>s.size-(intOf i).toNat)
   case atStart=>exact⟨0,0,Nat.zero_le _,by omega,rfl,rfl,Ih rfl,lW⟩
   case round=>
    clear lW;obtain⟨j,n,hj,hn,rfl,rfl,hN,hb⟩:=hrel;by_cases aV:j<s.size
    ·have hg:=aB (s:=s) aV;have gH:s.data.toList.take (j+1)=s.data.toList.take j++[s[j]]:=by rw[List.take_add_one,hg];rfl
     have vr:=Lz.kK B (s.data.toList.take j) 0 s[j];rw[<-gH,hN.out]at vr;have lT:=fun h=>Lz.gw B (s.data.toList.take (j+1)) (s.data.toList.drop (j+1)) 0 h;rw[List.take_append_drop]at lT;have cH:=fun W=>ny s[j] W;unfold DS Lz.jr Lz.qp at cH;have kj:=kx s[j];unfold Lz.jr at kj;generalize PF:Lz.jb s[j]=xv at cH vr kj;have It:=Ih vr;have O3:=Ih lT;clear vr lT gH hg PF;cases xv with
     | none=>
       have lV:Hid (Lz.gj B 0 s.data.toList=none):=by show _=_;exact O3.out It.out
       go_wp2_with fail
       with_reducible refine(cH _).mono ?_
       rintro e w' ⟨rfl,rfl⟩
       go_wp2
       go_ret2
       rw[HU.out,lV.out];exact eD hb
     | some d=>
       by_cases pE:B<=d
       ·have lV:Hid (Lz.gj B 0 s.data.toList=none):=by show _=_;exact O3.out (It.out.trans (if_pos pE))
        have Ij:(B:Int)<=(d:Int):=by omega
        go_wp2_with fail
        with_reducible refine(cH _).mono ?_
        rintro e w' ⟨rfl,rfl⟩
        go_wp2
        go_ret2
        rw[HU.out,lV.out];exact eD hb
       ·have pB:Hid (Lz.gj B 0 (s.data.toList.take (j+1))=some (min (n*B+d) 1099511627776)):=by show _=_;exact It.out.trans (if_neg pE)
        have Ij:¬(B:Int)<=(d:Int):=by omega
        go_wp2_with fail
        with_reducible refine(cH _).mono ?_
        rintro e w' ⟨rfl,rfl⟩
        go_wp2
        go_roundw
        case rel=>exact⟨j+1,_,by omega,Nat.min_le_right _ _,congrArg _ (rp n B d hn nQ.2 kj),by go_num,pB.out,hb⟩
        case measure=>simp[intOf];omega
    ·have SJ:j=s.size:=by omega
     have lV:Hid (Lz.gj B 0 s.data.toList=some n):=by
      show _=_;have:=hN.out;rw[SJ,List.take_of_length_le (by rw[aa];exact Nat.le_refl _)]at this;exact this
     go_wp2
     go_ret2
     rw[HU.out,lV.out];exact vE hb hn
 ·have Su:((s[0].toNat:Int)==48)=false:=by
   rw[aB (by omega)]at Jx;exact(Kr s[0] 48).trans (beq_eq_false_iff_ne.2 (fun h=>Jx (congrArg some h)))
  have HA:Hid (ex s.data.toList=(10,s.data.toList)):=by
   show _=_;unfold ex;rw[if_neg (by rw[<-bO,hq];decide),if_neg (fun h=>Jx h.2)]
  have XG:s.size<=s.size+1:=Nat.le_succ _;subst hq;clear bO Jx;obtain⟨B,hB⟩:∃B:Nat,B=10:=⟨_,rfl⟩;rw[show(10:Nat)=B from hB.symm]at HA;have nQ:1<=B/\B<=16:=by omega
  go_upto_region 7 with fail
  rw[show Value.int .i64 10=Value.int .i64 (B:Int) by rw[hB];rfl];have lW:=ar;generalize w1=wx at lW⊢;clear hB Su ar Fj;by_cases hz:s.size=0
  ·have he:=aq hz
   have HN:Hid (rU (ex s.data.toList)=none):=by
    show _=_;rw[HA.out];have:s.data.toList=[]:=List.length_eq_zero_iff.1 (by rw[aa];exact hz);unfold rU;rw[this];rfl
   first
    | (exfalso;omega)
    | (go_wp2;go_ret2;rw[HN.out];exact eD lW)
  ·have he:=an (s:=s) (by omega)
   have HU:Hid (rU (ex s.data.toList)=Lz.gj B 0 s.data.toList):=by
    show _=_;rw[HA.out];have:s.data.toList≠[]:=by intro h;exact hz (by rw[<-aa,h];rfl)
    exact if_neg this
   go_wp2_with fail
   go_loopw [7,39] (fun a i wr=>∃j n:Nat,j<=s.size/\n<=1099511627776/\a=.int .u64 n/\i=.int .i64 j/\Hid (Lz.gj B 0 (s.data.toList.take j)=some n)/\Below w.heap.size w wr) (fun _ i _=>s.size-(intOf i).toNat)
   case atStart=>exact⟨0,0,Nat.zero_le _,by omega,rfl,rfl,Ih rfl,lW⟩
   case round=>
    clear lW;obtain⟨j,n,hj,hn,rfl,rfl,hN,hb⟩:=hrel;by_cases aV:j<s.size
    ·have hg:=aB (s:=s) aV;have gH:s.data.toList.take (j+1)=s.data.toList.take j++[s[j]]:=by rw[List.take_add_one,hg];rfl
     have vr:=Lz.kK B (s.data.toList.take j) 0 s[j];rw[<-gH,hN.out]at vr;have lT:=fun h=>Lz.gw B (s.data.toList.take (j+1)) (s.data.toList.drop (j+1)) 0 h;rw[List.take_append_drop]at lT;have cH:=fun W=>ny s[j] W;unfold DS Lz.jr Lz.qp at cH;have kj:=kx s[j];unfold Lz.jr at kj;generalize PF:Lz.jb s[j]=xv at cH vr kj;have It:=Ih vr;have O3:=Ih lT;clear vr lT gH hg PF;cases xv with
     | none=>
       have lV:Hid (Lz.gj B 0 s.data.toList=none):=by show _=_;exact O3.out It.out
       go_wp2_with fail
       with_reducible refine(cH _).mono ?_
       rintro e w' ⟨rfl,rfl⟩
       go_wp2
       go_ret2
       rw[HU.out,lV.out];exact eD hb
     | some d=>
       by_cases pE:B<=d
       ·have lV:Hid (Lz.gj B 0 s.data.toList=none):=by show _=_;exact O3.out (It.out.trans (if_pos pE))
        have Ij:(B:Int)<=(d:Int):=by omega
        go_wp2_with fail
        with_reducible refine(cH _).mono ?_
        rintro e w' ⟨rfl,rfl⟩
        go_wp2
        go_ret2
        rw[HU.out,lV.out];exact eD hb
       ·have pB:Hid (Lz.gj B 0 (s.data.toList.take (j+1))=some (min (n*B+d) 1099511627776)):=by show _=_;exact It.out.trans (if_neg pE)
        have Ij:¬(B:Int)<=(d:Int):=by omega
        go_wp2_with fail
        with_reducible refine(cH _).mono ?_
        rintro e w' ⟨rfl,rfl⟩
        go_wp2
        go_roundw
        case rel=>exact⟨j+1,_,by omega,Nat.min_le_right _ _,congrArg _ (rp n B d hn nQ.2 kj),by go_num,pB.out,hb⟩
        case measure=>simp[intOf];omega
    ·have SJ:j=s.size:=by omega
     have lV:Hid (Lz.gj B 0 s.data.toList=some n):=by
      show _=_;have:=hN.out;rw[SJ,List.take_of_length_le (by rw[aa];exact Nat.le_refl _)]at this;exact this
     go_wp2
     go_ret2
     rw[HU.out,lV.out];exact vE hb hn
end Go.Proofs.YtecoeebjaleeiaaGreatDoor
