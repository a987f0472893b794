/-
  hosts.fault and hosts.code: errors.As at a target of the type api.Errno, at an error that is a fault over a fault over a number at most.
-/
import Derived.Test.YtfepgodjaeddgaaGreatDoorR09
import Derived.Test.YtfepgodjaeddgaaGreatDoorR07
set_option maxHeartbeats 4000000
set_option maxRecDepth 100000
namespace Go.Proofs.YtfepgodjaeddgaaGreatDoor
open Go.RowKit Go.Extern.Stop Go.Stop Go.Extern
theorem Er.valueOfP (t:Addr) (w:World):(ReflectliteValue.unpack (.iface 269 (.pointer (some t)))).run Tryz.prog w
 =.ok (.agg #[.pointer (some ⟨11,269,none⟩),.pointer (some ⟨w.heap.size,0,none⟩),.int .u64 150]) (w.alloc (.cells #[.pointer (some t)] 269)):=by kernel_rfl
theorem Er.typeP (a:Addr) (w:World):(ReflectliteValue.methodAny (ReflectliteValue.valueError "reflectlite.Value.Type" 0) (fun t _ _ _=>ReflectliteType.toType t) #[.agg #[.pointer (some ⟨11,269,none⟩),.pointer (some a),.int .u64 150]]).run Tryz.prog w
 =.ok (.iface 164 (.agg #[.pointer (some ⟨11,269,none⟩)])) w:=by kernel_rfl
theorem Er.kindP (w:World):((ReflectliteType.abiMethod fun t=>(fun a:Nat=>Value.int IntKind.u8 (a:Int)) <$> Rtype.kind t) #[.pointer (some ⟨11,269,none⟩)]).run Tryz.prog w=.ok (.int .u8 22) w:=by kernel_rfl
theorem Er.kindT (w:World):((ReflectliteType.abiMethod fun t=>(fun a:Nat=>Value.int IntKind.u8 (a:Int)) <$> Rtype.kind t) #[.pointer (some ⟨11,30,none⟩)]).run Tryz.prog w=.ok (.int .u8 2) w:=by kernel_rfl
theorem Er.partsP (a:Addr) (w:World):(ReflectliteValue.parts (.agg #[.pointer (some ⟨11,269,none⟩),.pointer (some a),.int .u64 150])).run Tryz.prog w=.ok (some (269,a,150)) w:=by kernel_rfl
theorem Er.isNilP (a p:Addr) (W:World) (ha:W.cell? a=some (.pointer (some p))):
  (ReflectliteValue.method (ReflectliteValue.valueError "reflectlite.Value.IsNil" 0) ReflectliteValue.isNil #[.agg #[.pointer (some ⟨11,269,none⟩),.pointer (some a),.int .u64 150]]).run Tryz.prog W=.ok (.bool false) W:=by
 rw[rlm];simp only[Sem.run_bind,Er.partsP,Result.andThen]
 simp[ReflectliteValue.isNil,loadVar,isAgg,underlying,Tryz.underlying269,ha,Result.andThen]
theorem Er.elemP (w:World):(ReflectliteType.method ReflectliteType.elem #[.agg #[.pointer (some ⟨11,269,none⟩)]]).run Tryz.prog w=.ok (.iface 164 (.agg #[.pointer (some ⟨11,30,none⟩)])) w:=by kernel_rfl
theorem Er.implementsT (w:World):(ReflectliteType.relation "Implements" ReflectliteType.implements_ #[.agg #[.pointer (some ⟨11,30,none⟩)],.iface 164 (.agg #[.pointer (some ⟨11,50,none⟩)])]).run Tryz.prog w=.ok (.bool true) w:=by kernel_rfl
theorem Er.typeOfT (v:Value) (w:World):(ReflectliteType.typeOf #[.iface 30 v]).run Tryz.prog w=.ok (.iface 164 (.agg #[.pointer (some ⟨11,30,none⟩)])) w:=by kernel_rfl
theorem Er.assignableT (w:World):(ReflectliteType.relation "AssignableTo" ReflectliteType.assignableTo #[.agg #[.pointer (some ⟨11,30,none⟩)],.iface 164 (.agg #[.pointer (some ⟨11,30,none⟩)])]).run Tryz.prog w=.ok (.bool true) w:=by kernel_rfl
theorem Er.valueOfT (n:Int) (w:World):(ReflectliteValue.unpack (.iface 30 (.int .i64 n))).run Tryz.prog w
 =.ok (.agg #[.pointer (some ⟨11,30,none⟩),.pointer (some ⟨w.heap.size,0,none⟩),.int .u64 130]) (w.alloc (.cells #[(.int .i64 n)] 30)):=by kernel_rfl
theorem Er.elemOfP (w:World):(Rtype.elem? 269).run Tryz.prog w=.ok (some 30) w:=by kernel_rfl
theorem Er.mkT (p:Addr) (w:World):(ReflectliteValue.mk 30 p ReflectliteValue.flagAddr).run Tryz.prog w=.ok (.agg #[.pointer (some ⟨11,30,none⟩),.pointer (some p),.int .u64 386]) w:=by kernel_rfl
theorem Er.elemVP (a p:Addr) (W:World) (ha:W.cell? a=some (.pointer (some p))):
  (ReflectliteValue.method (ReflectliteValue.valueError "reflectlite.Value.Elem" 0) ReflectliteValue.elem #[.agg #[.pointer (some ⟨11,269,none⟩),.pointer (some a),.int .u64 150]]).run Tryz.prog W
   =.ok (.agg #[.pointer (some ⟨11,30,none⟩),.pointer (some p),.int .u64 386]) W:=by
 rw[rlm];simp only[Sem.run_bind,Er.partsP,Result.andThen]
 simp[ReflectliteValue.elem,loadVar,isAgg,underlying,Tryz.underlying269,ha,Result.andThen,Er.elemOfP,Er.mkT]
theorem Er.partsTa (a:Addr) (w:World):(ReflectliteValue.parts (.agg #[.pointer (some ⟨11,30,none⟩),.pointer (some a),.int .u64 386])).run Tryz.prog w=.ok (some (30,a,386)) w:=by kernel_rfl
theorem Er.partsT (a:Addr) (w:World):(ReflectliteValue.parts (.agg #[.pointer (some ⟨11,30,none⟩),.pointer (some a),.int .u64 130])).run Tryz.prog w=.ok (some (30,a,128+2)) w:=by kernel_rfl
theorem Er.directT (w:World):(Rtype.directlyAssignable 30 30).run Tryz.prog w=.ok true w:=by kernel_rfl
theorem Er.setT (ta b:Addr) (n:Int) (old:Value) (W:World) (hb:W.cell? b=some (.int .i64 n)) (ht:W.cell? ta=some old) (hf:W.frozen? ta=false):
  (ReflectliteValue.set #[.agg #[.pointer (some ⟨11,30,none⟩),.pointer (some ta),.int .u64 386],.agg #[.pointer (some ⟨11,30,none⟩),.pointer (some b),.int .u64 130]]).run Tryz.prog W
   =.ok (.tuple #[]) (W.setCell ta (.int .i64 n)):=by
 rw[rls];simp only[Sem.run_bind,Er.partsTa,Er.partsT,Result.andThen]
 simp[ReflectliteValue.flagAddr,loadVar,isAgg,underlying,Tryz.underlying30,hb,Result.andThen,Er.directT,storeVar,Value.cells,storeCells,Addr.add]
 rw[run_store Tryz.prog W ta _ _ (by rfl)]
 simp[ht,hf]
def Faulty (w:World) (e:Int):Nat->Value->Prop
 | 0,v=>v=.iface 30 (.int .i64 e)
 | d+1,v=>∃(p:Nat) (u:Value),v=.iface 261 (.pointer (some ⟨p,0,none⟩))/\p<w.heap.size/\w.cell? ⟨p,1,none⟩=some u/\Faulty w e d u
theorem Faulty.below {w w':World} {e:Int} (hb:Below w.heap.size w w'):∀{d:Nat} {v:Value},Faulty w e d v->Faulty w' e d v
 | 0,_,h=>h
 | d+1,v,⟨p,u,h1,h2,h3,h4⟩=>⟨p,u,h1,Nat.lt_of_lt_of_le h2 hb.size,by rw[hb.cell (p:=⟨p,1,none⟩) h2];exact h3,Faulty.below hb h4⟩
theorem Unwrap_any (p:Nat) (v:Value) (w:World) (h:w.cell? ⟨p,1,none⟩=some v):Calls Tryz.prog 357 #[.pointer (some ⟨p,0,none⟩)] w fun e w'=>e=.returned v/\w=w':=by
 go_enter Tryz.func357,Tryz.ntmps357
 go_wp2
 go_ret;exact⟨rfl,rfl⟩
theorem typeOfF (v:Value) (w:World):(ReflectliteType.typeOf #[.iface 261 v]).run Tryz.prog w=.ok (.iface 164 (.agg #[.pointer (some ⟨11,261,none⟩)])) w:=by kernel_rfl
theorem assignableF (w:World):(ReflectliteType.relation "AssignableTo" ReflectliteType.assignableTo #[.agg #[.pointer (some ⟨11,261,none⟩)],.iface 164 (.agg #[.pointer (some ⟨11,30,none⟩)])]).run Tryz.prog w=.ok (.bool false) w:=by kernel_rfl
theorem noAsF (v:Value) (xT:TypeId) (w:World):(Instr.typeAssert (.iface 261 v) xT 207 true).run Tryz.prog w=.ok (.tuple #[.nilIface,.bool false]) w:=run_typeAssert_lacksB Tryz.underlying207 (by kernel_rfl) (by kernel_rfl) v xT w
theorem hasUnF (v:Value) (xT:TypeId) (w:World):(Instr.typeAssert (.iface 261 v) xT 169 true).run Tryz.prog w=.ok (.tuple #[.iface 261 v,.bool true]) w:=run_typeAssert_hasB Tryz.underlying169 (by kernel_rfl) v xT w
def RAs (n:Int) (tb:Nat) (w:World) (e:Ending) (w':World):Prop:=e=.returned (.bool true)/\Below tb w w'/\w'.cell? ⟨tb,0,none⟩=some (.int .i64 n)
theorem asE_zero (n:Int) (vb tb:Nat) (old:Value) (w:World) (hv:w.cell? ⟨vb,0,none⟩=some (.pointer (some ⟨tb,0,none⟩))) (ht:w.cell? ⟨tb,0,none⟩=some old) (hf:w.frozen? ⟨tb,0,none⟩=false):
  Calls Tryz.prog 168 #[.iface 30 (.int .i64 n),.iface 269 (.pointer (some ⟨tb,0,none⟩)),.agg #[.pointer (some ⟨11,269,none⟩),.pointer (some ⟨vb,0,none⟩),.int .u64 150],.iface 164 (.agg #[.pointer (some ⟨11,30,none⟩)])] w
   (RAs n tb w):=by
 have h48:= @run_callFunc_extern Tryz.prog 165 _ (fun args=>ReflectliteValue.unpack (args.getD 0 (.tuple #[]))) Tryz.func165 (by kernel_rfl) (by kernel_rfl) (by kernel_rfl) (by kernel_rfl);have h95:= @run_callFunc_extern Tryz.prog 107 _ ReflectliteType.typeOf Tryz.func107 (by kernel_rfl) (by kernel_rfl) (by kernel_rfl) (by kernel_rfl);have h214:= @run_callFunc_extern Tryz.prog 330 _ (ReflectliteType.relation "AssignableTo" ReflectliteType.assignableTo) Tryz.func330 (by kernel_rfl) (by kernel_rfl) (by kernel_rfl) (by kernel_rfl);have h96:= @run_callFunc_extern Tryz.prog 213 _ (ReflectliteValue.method (ReflectliteValue.valueError "reflectlite.Value.Elem" 0) ReflectliteValue.elem) Tryz.func213 (by kernel_rfl) (by kernel_rfl) (by kernel_rfl) (by kernel_rfl);have h97:= @run_callFunc_extern Tryz.prog 214 _ ReflectliteValue.set Tryz.func214 (by kernel_rfl) (by kernel_rfl) (by kernel_rfl) (by kernel_rfl);have tO:=Er.typeOfT;have mA:=rt.methodAssignableTo;have aT:=Er.assignableT;have vT:=Er.valueOfT;have hvl:=World.block_lt_of_cell? _ _ hv;have htl:=World.block_lt_of_cell? _ _ ht
 have el:=Er.elemVP ⟨vb,0,none⟩ ⟨tb,0,none⟩ (w.alloc (.cells #[.pointer (some ⟨11,269,none⟩),.pointer (some ⟨vb,0,none⟩),.int .u64 150] 178)) (by rw[World.cell?_alloc_lt _ _ ⟨vb,0,none⟩ hvl];exact hv)
 have hn2:((w.alloc (.cells #[.pointer (some ⟨11,269,none⟩),.pointer (some ⟨vb,0,none⟩),.int .u64 150] 178)).alloc (.cells #[.int .i64 n] 30)).cell? ⟨tb,0,none⟩=some old:=by
  rw[World.cell?_alloc_lt _ _ ⟨tb,0,none⟩ (by simp;simp at htl;omega),World.cell?_alloc_lt _ _ ⟨tb,0,none⟩ htl];exact ht
 have Hn2:=Ih hn2
 have st:=Er.setT ⟨tb,0,none⟩ ⟨w.heap.size+1,0,none⟩ n old ((w.alloc (.cells #[.pointer (some ⟨11,269,none⟩),.pointer (some ⟨vb,0,none⟩),.int .u64 150] 178)).alloc (.cells #[.int .i64 n] 30))
  (by rw[World.cell?_alloc_at _ _ _ _ (by simp)];rfl)
  hn2
  (by rw[World.frozen?_alloc_old _ _ ⟨tb,0,none⟩ (by simp;simp at htl;omega),World.frozen?_alloc_old _ _ ⟨tb,0,none⟩ (Nat.ne_of_lt htl)];exact hf)
 clear hn2;go_enter Tryz.func168,Tryz.ntmps168
 go_wp2
 refine wp_loop_rounds 1 ?_;rw[rounds_succ]
 go_wp2
 go_ret;have hz:tb<w.heap.size:=htl
 exact⟨rfl,(((Below.refl tb w).setCell (p:=⟨tb,0,none⟩) (Nat.le_refl _) _).alloc (by simp;omega) _).alloc (by simp;omega) _,by
  rw[World.cell?_alloc_lt _ _ ⟨tb,0,none⟩ (by simp;omega),World.cell?_alloc_lt _ _ ⟨tb,0,none⟩ (by simp;omega)];exact World.cell?_setCell_same _ _ _ ht⟩
theorem asE_one (p:Nat) (n:Int) (vb tb:Nat) (old:Value) (w:World) (hp:w.cell? ⟨p,1,none⟩=some (.iface 30 (.int .i64 n))) (hv:w.cell? ⟨vb,0,none⟩=some (.pointer (some ⟨tb,0,none⟩))) (ht:w.cell? ⟨tb,0,none⟩=some old) (hf:w.frozen? ⟨tb,0,none⟩=false):
  Calls Tryz.prog 168 #[.iface 261 (.pointer (some ⟨p,0,none⟩)),.iface 269 (.pointer (some ⟨tb,0,none⟩)),.agg #[.pointer (some ⟨11,269,none⟩),.pointer (some ⟨vb,0,none⟩),.int .u64 150],.iface 164 (.agg #[.pointer (some ⟨11,30,none⟩)])] w
   (RAs n tb w):=by
 have h48:= @run_callFunc_extern Tryz.prog 165 _ (fun args=>ReflectliteValue.unpack (args.getD 0 (.tuple #[]))) Tryz.func165 (by kernel_rfl) (by kernel_rfl) (by kernel_rfl) (by kernel_rfl);have h95:= @run_callFunc_extern Tryz.prog 107 _ ReflectliteType.typeOf Tryz.func107 (by kernel_rfl) (by kernel_rfl) (by kernel_rfl) (by kernel_rfl);have h214:= @run_callFunc_extern Tryz.prog 330 _ (ReflectliteType.relation "AssignableTo" ReflectliteType.assignableTo) Tryz.func330 (by kernel_rfl) (by kernel_rfl) (by kernel_rfl) (by kernel_rfl);have h96:= @run_callFunc_extern Tryz.prog 213 _ (ReflectliteValue.method (ReflectliteValue.valueError "reflectlite.Value.Elem" 0) ReflectliteValue.elem) Tryz.func213 (by kernel_rfl) (by kernel_rfl) (by kernel_rfl) (by kernel_rfl);have h97:= @run_callFunc_extern Tryz.prog 214 _ ReflectliteValue.set Tryz.func214 (by kernel_rfl) (by kernel_rfl) (by kernel_rfl) (by kernel_rfl);have tO:=Er.typeOfT;have tOF:=typeOfF;have mA:=rt.methodAssignableTo;have aT:=Er.assignableT;have aF:=assignableF;have vT:=Er.valueOfT;have a1:=noAsF;have a3:=hasUnF;have nu:∀w,(nilAhead 453 261 (.pointer (some ⟨p,0,none⟩)) "Unwrap").run Tryz.prog w=.ok (some false) w:=fun _=>by kernel_rfl
 have mU:∀w,(Go.method 453 261 (.pointer (some ⟨p,0,none⟩)) "Unwrap").run Tryz.prog w=.ok (357,.pointer (some ⟨p,0,none⟩)) w:=fun _=>by kernel_rfl
 have hvl:=World.block_lt_of_cell? _ _ hv;have htl:=World.block_lt_of_cell? _ _ ht;have el:=Er.elemVP ⟨vb,0,none⟩ ⟨tb,0,none⟩ (w.alloc (.cells #[.pointer (some ⟨11,269,none⟩),.pointer (some ⟨vb,0,none⟩),.int .u64 150] 178)) (by rw[World.cell?_alloc_lt _ _ ⟨vb,0,none⟩ hvl];exact hv)
 have hn2:((w.alloc (.cells #[.pointer (some ⟨11,269,none⟩),.pointer (some ⟨vb,0,none⟩),.int .u64 150] 178)).alloc (.cells #[.int .i64 n] 30)).cell? ⟨tb,0,none⟩=some old:=by
  rw[World.cell?_alloc_lt _ _ ⟨tb,0,none⟩ (by simp;simp at htl;omega),World.cell?_alloc_lt _ _ ⟨tb,0,none⟩ htl];exact ht
 have st:=Er.setT ⟨tb,0,none⟩ ⟨w.heap.size+1,0,none⟩ n old ((w.alloc (.cells #[.pointer (some ⟨11,269,none⟩),.pointer (some ⟨vb,0,none⟩),.int .u64 150] 178)).alloc (.cells #[.int .i64 n] 30))
  (by rw[World.cell?_alloc_at _ _ _ _ (by simp)];rfl)
  hn2
  (by rw[World.frozen?_alloc_old _ _ ⟨tb,0,none⟩ (by simp;simp at htl;omega),World.frozen?_alloc_old _ _ ⟨tb,0,none⟩ (Nat.ne_of_lt htl)];exact hf)
 clear hn2;have cU:=Ih (fun w':World=>Unwrap_any p (.iface 30 (.int .i64 n)) w');have hpl:p<w.heap.size:=World.block_lt_of_cell? _ _ hp;go_enter Tryz.func168,Tryz.ntmps168
 go_wp2
 refine wp_loop_rounds 2 ?_;rw[rounds_succ]
 go_wp2_with fail
 refine(cU.out _ (by rw[World.cell?_alloc_lt _ _ ⟨p,1,none⟩ hpl];exact hp)).mono ?_;rintro e w1 ⟨rfl,rfl⟩
 go_wp2
 rw[rounds_succ]
 go_wp2
 go_ret;have hz:tb<w.heap.size:=htl
 exact⟨rfl,(((Below.refl tb w).setCell (p:=⟨tb,0,none⟩) (Nat.le_refl _) _).alloc (by simp;omega) _).alloc (by simp;omega) _,by
  rw[World.cell?_alloc_lt _ _ ⟨tb,0,none⟩ (by simp;omega),World.cell?_alloc_lt _ _ ⟨tb,0,none⟩ (by simp;omega)];exact World.cell?_setCell_same _ _ _ ht⟩
theorem asE_two (p p2:Nat) (n:Int) (vb tb:Nat) (old:Value) (w:World) (hp:w.cell? ⟨p,1,none⟩=some (.iface 261 (.pointer (some ⟨p2,0,none⟩)))) (hp2:w.cell? ⟨p2,1,none⟩=some (.iface 30 (.int .i64 n))) (hv:w.cell? ⟨vb,0,none⟩=some (.pointer (some ⟨tb,0,none⟩))) (ht:w.cell? ⟨tb,0,none⟩=some old) (hf:w.frozen? ⟨tb,0,none⟩=false):
  Calls Tryz.prog 168 #[.iface 261 (.pointer (some ⟨p,0,none⟩)),.iface 269 (.pointer (some ⟨tb,0,none⟩)),.agg #[.pointer (some ⟨11,269,none⟩),.pointer (some ⟨vb,0,none⟩),.int .u64 150],.iface 164 (.agg #[.pointer (some ⟨11,30,none⟩)])] w
   (RAs n tb w):=by
 have h48:= @run_callFunc_extern Tryz.prog 165 _ (fun args=>ReflectliteValue.unpack (args.getD 0 (.tuple #[]))) Tryz.func165 (by kernel_rfl) (by kernel_rfl) (by kernel_rfl) (by kernel_rfl);have h95:= @run_callFunc_extern Tryz.prog 107 _ ReflectliteType.typeOf Tryz.func107 (by kernel_rfl) (by kernel_rfl) (by kernel_rfl) (by kernel_rfl);have h214:= @run_callFunc_extern Tryz.prog 330 _ (ReflectliteType.relation "AssignableTo" ReflectliteType.assignableTo) Tryz.func330 (by kernel_rfl) (by kernel_rfl) (by kernel_rfl) (by kernel_rfl);have h96:= @run_callFunc_extern Tryz.prog 213 _ (ReflectliteValue.method (ReflectliteValue.valueError "reflectlite.Value.Elem" 0) ReflectliteValue.elem) Tryz.func213 (by kernel_rfl) (by kernel_rfl) (by kernel_rfl) (by kernel_rfl);have h97:= @run_callFunc_extern Tryz.prog 214 _ ReflectliteValue.set Tryz.func214 (by kernel_rfl) (by kernel_rfl) (by kernel_rfl) (by kernel_rfl);have tO:=Er.typeOfT;have tOF:=typeOfF;have mA:=rt.methodAssignableTo;have aT:=Er.assignableT;have aF:=assignableF;have vT:=Er.valueOfT;have a1:=noAsF;have a3:=hasUnF;have nu:∀w,(nilAhead 453 261 (.pointer (some ⟨p,0,none⟩)) "Unwrap").run Tryz.prog w=.ok (some false) w:=fun _=>by kernel_rfl
 have mU:∀w,(Go.method 453 261 (.pointer (some ⟨p,0,none⟩)) "Unwrap").run Tryz.prog w=.ok (357,.pointer (some ⟨p,0,none⟩)) w:=fun _=>by kernel_rfl
 have hvl:=World.block_lt_of_cell? _ _ hv;have htl:=World.block_lt_of_cell? _ _ ht;have el:=Er.elemVP ⟨vb,0,none⟩ ⟨tb,0,none⟩ (w.alloc (.cells #[.pointer (some ⟨11,269,none⟩),.pointer (some ⟨vb,0,none⟩),.int .u64 150] 178)) (by rw[World.cell?_alloc_lt _ _ ⟨vb,0,none⟩ hvl];exact hv)
 have hn2:((w.alloc (.cells #[.pointer (some ⟨11,269,none⟩),.pointer (some ⟨vb,0,none⟩),.int .u64 150] 178)).alloc (.cells #[.int .i64 n] 30)).cell? ⟨tb,0,none⟩=some old:=by
  rw[World.cell?_alloc_lt _ _ ⟨tb,0,none⟩ (by simp;simp at htl;omega),World.cell?_alloc_lt _ _ ⟨tb,0,none⟩ htl];exact ht
 have st:=Er.setT ⟨tb,0,none⟩ ⟨w.heap.size+1,0,none⟩ n old ((w.alloc (.cells #[.pointer (some ⟨11,269,none⟩),.pointer (some ⟨vb,0,none⟩),.int .u64 150] 178)).alloc (.cells #[.int .i64 n] 30))
  (by rw[World.cell?_alloc_at _ _ _ _ (by simp)];rfl)
  hn2
  (by rw[World.frozen?_alloc_old _ _ ⟨tb,0,none⟩ (by simp;simp at htl;omega),World.frozen?_alloc_old _ _ ⟨tb,0,none⟩ (Nat.ne_of_lt htl)];exact hf)
 clear hn2;have nu2:∀w,(nilAhead 453 261 (.pointer (some ⟨p2,0,none⟩)) "Unwrap").run Tryz.prog w=.ok (some false) w:=fun _=>by kernel_rfl
 have mU2:∀w,(Go.method 453 261 (.pointer (some ⟨p2,0,none⟩)) "Unwrap").run Tryz.prog w=.ok (357,.pointer (some ⟨p2,0,none⟩)) w:=fun _=>by kernel_rfl
 have cU:=Ih (fun w':World=>Unwrap_any p (.iface 261 (.pointer (some ⟨p2,0,none⟩))) w');have cU2:=Ih (fun w':World=>Unwrap_any p2 (.iface 30 (.int .i64 n)) w');have hpl2:p2<w.heap.size:=World.block_lt_of_cell? _ _ hp2;have hpl:p<w.heap.size:=World.block_lt_of_cell? _ _ hp;go_enter Tryz.func168,Tryz.ntmps168
 go_wp2
 refine wp_loop_rounds 3 ?_;rw[rounds_succ]
 go_wp2_with fail
 refine(cU.out _ (by rw[World.cell?_alloc_lt _ _ ⟨p,1,none⟩ hpl];exact hp)).mono ?_;rintro e w1 ⟨rfl,rfl⟩
 go_wp2
 rw[rounds_succ]
 go_wp2_with fail
 refine(cU2.out _ (by rw[World.cell?_alloc_lt _ _ ⟨p2,1,none⟩ hpl2];exact hp2)).mono ?_;rintro e w1 ⟨rfl,rfl⟩
 go_wp2
 rw[rounds_succ]
 go_wp2
 go_ret;have hz:tb<w.heap.size:=htl
 exact⟨rfl,(((Below.refl tb w).setCell (p:=⟨tb,0,none⟩) (Nat.le_refl _) _).alloc (by simp;omega) _).alloc (by simp;omega) _,by
  rw[World.cell?_alloc_lt _ _ ⟨tb,0,none⟩ (by simp;omega),World.cell?_alloc_lt _ _ ⟨tb,0,none⟩ (by simp;omega)];exact World.cell?_setCell_same _ _ _ ht⟩
theorem as_faulty (vb tb:Nat) (old:Value) (d:Nat) (hd:d<=2) (n:Int) (v:Value) (w:World) (h:Faulty w n d v) (hv:w.cell? ⟨vb,0,none⟩=some (.pointer (some ⟨tb,0,none⟩))) (ht:w.cell? ⟨tb,0,none⟩=some old) (hf:w.frozen? ⟨tb,0,none⟩=false):
  Calls Tryz.prog 168 #[v,.iface 269 (.pointer (some ⟨tb,0,none⟩)),.agg #[.pointer (some ⟨11,269,none⟩),.pointer (some ⟨vb,0,none⟩),.int .u64 150],.iface 164 (.agg #[.pointer (some ⟨11,30,none⟩)])] w
   (RAs n tb w):=by
 match d,hd,h with
 | 0,_,h=>rw[show v=_ from h];exact asE_zero n vb tb old w hv ht hf
 | 1,_,⟨p,u,h1,_,h3,h4⟩=>rw[h1];rw[show u=_ from h4]at h3;exact asE_one p n vb tb old w h3 hv ht hf
 | 2,_,⟨p,u,h1,_,h3,p2,u2,h4,_,h6,h7⟩=>rw[h1];rw[h4]at h3;rw[show u2=_ from h7]at h6;exact asE_two p p2 n vb tb old w h3 h6 hv ht hf
theorem As_faulty (d:Nat) (hd:d<=2) (n:Int) (t0:TypeId) (x0:Value) (tb:Nat) (old:Value) (w:World) (hE:EnvH w) (hB:Faulty w n d (.iface t0 x0)) (ht:w.cell? ⟨tb,0,none⟩=some old) (hf:w.frozen? ⟨tb,0,none⟩=false):
  Calls Tryz.prog 110 #[.iface t0 x0,.iface 269 (.pointer (some ⟨tb,0,none⟩))] w (RAs n tb w):=by
 have h48:= @run_callFunc_extern Tryz.prog 165 _ (fun args=>ReflectliteValue.unpack (args.getD 0 (.tuple #[]))) Tryz.func165 (by kernel_rfl) (by kernel_rfl) (by kernel_rfl) (by kernel_rfl);have h49:= @run_callFunc_extern Tryz.prog 166 _ (ReflectliteValue.methodAny (ReflectliteValue.valueError "reflectlite.Value.Type" 0) (fun t _ _ _=>ReflectliteType.toType t)) Tryz.func166 (by kernel_rfl) (by kernel_rfl) (by kernel_rfl) (by kernel_rfl);have h50:= @run_callFunc_extern Tryz.prog 167 _ (ReflectliteValue.method (ReflectliteValue.valueError "reflectlite.Value.IsNil" 0) ReflectliteValue.isNil) Tryz.func167 (by kernel_rfl) (by kernel_rfl) (by kernel_rfl) (by kernel_rfl);have h203:= @run_callFunc_extern Tryz.prog 321 _ (ReflectliteType.abiMethod fun t=>do pure (.int .u8 (<-Rtype.kind t))) Tryz.func321 (by kernel_rfl) (by kernel_rfl) (by kernel_rfl) (by kernel_rfl);have h216:= @run_callFunc_extern Tryz.prog 332 _ (ReflectliteType.method ReflectliteType.elem) Tryz.func332 (by kernel_rfl) (by kernel_rfl) (by kernel_rfl) (by kernel_rfl)
 have h217:= @run_callFunc_extern Tryz.prog 333 _ (ReflectliteType.relation "Implements" ReflectliteType.implements_) Tryz.func333 (by kernel_rfl) (by kernel_rfl) (by kernel_rfl) (by kernel_rfl);have f6:=Er.valueOfP;have f7:=Er.typeP;have mK:=rt.methodKind;have mE:=rt.methodElem;have mI:=rt.methodImplements;have kP:=Er.kindP;have kT:=Er.kindT;have eP:=Er.elemP;have iT:=Er.implementsT;have htl:=World.block_lt_of_cell? _ _ ht;have hz:tb<w.heap.size:=htl;have hzE:=hE.size;have n8:=Er.isNilP ⟨w.heap.size,0,none⟩ ⟨tb,0,none⟩ ((w.alloc (.cells #[.pointer (some ⟨tb,0,none⟩)] 269)).alloc (.cells #[.pointer (some ⟨11,269,none⟩),.pointer (some ⟨w.heap.size,0,none⟩),.int .u64 150] 178)) (by simp)
 have hg2:((w.alloc (.cells #[.pointer (some ⟨tb,0,none⟩)] 269)).alloc (.cells #[.pointer (some ⟨11,269,none⟩),.pointer (some ⟨w.heap.size,0,none⟩),.int .u64 150] 178)).cell? ⟨1,0,none⟩=some (.iface 164 (.agg #[.pointer (some ⟨11,50,none⟩)])):=by
  rw[World.cell?_alloc_lt _ _ ⟨1,0,none⟩ (by simp<;>omega),World.cell?_alloc_lt _ _ ⟨1,0,none⟩ (by show 1<_;omega)];exact hE.et
 have ca:∀w1:World,Below w.heap.size w w1->w1.cell? ⟨w.heap.size,0,none⟩=some (.pointer (some ⟨tb,0,none⟩))->Calls Tryz.prog 168 #[.iface t0 x0,.iface 269 (.pointer (some ⟨tb,0,none⟩)),.agg #[.pointer (some ⟨11,269,none⟩),.pointer (some ⟨w.heap.size,0,none⟩),.int .u64 150],.iface 164 (.agg #[.pointer (some ⟨11,30,none⟩)])] w1
  (RAs n tb w1):=fun w1 hb hc=>as_faulty w.heap.size tb old d hd n _ w1 (hB.below hb) hc (by rw[hb.cell htl];exact ht) (by rw[hb.frozen htl];exact hf)
 have Ca:=Ih ca;clear ca;go_enter Tryz.func110,Tryz.ntmps110
 go_wp2_with fail
 refine(Ca.out _ (((Below.refl _ w).alloc (Nat.le_refl _) _).alloc (by simp) _) (by simp)).mono ?_;rintro e w1 ⟨rfl,hb1,hc1⟩
 go_wp2
 go_ret;exact⟨rfl,(((Below.refl tb w).alloc (Nat.le_of_lt hz) _).alloc (by simp;omega) _).trans hb1,hc1⟩
theorem Faulty.iface {w:World} {e:Int}:∀{d:Nat} {v:Value},Faulty w e d v->∃t x,v=.iface t x
 | 0,_,h=>⟨_,_,h⟩
 | _+1,_,⟨_,_,h,_⟩=>⟨_,_,h⟩
theorem code_any (d:Nat) (hd:d<=2) (n:Int) (v:Value) (w:World) (hE:EnvH w) (h:Faulty w n d v):Calls Tryz.prog 229 #[v] w fun e w'=>e=.returned (.int .i64 n)/\Below w.heap.size w w':=by
 obtain⟨t0,x0,rfl⟩:=h.iface;have cA:=Ih (As_faulty d hd n t0 x0 w.heap.size (.int .i64 0) (w.alloc (.cells #[.int .i64 0] 30)) (hE.below ((Below.refl _ w).alloc (Nat.le_refl _) _)) (h.below ((Below.refl _ w).alloc (Nat.le_refl _) _)) (by simp) (by simp));go_enter Tryz.func229,Tryz.ntmps229
 go_wp2_with fail
 refine cA.out.mono ?_;rintro e w1 ⟨rfl,hb1,hc1⟩
 go_wp2
 go_ret;exact⟨rfl,((Below.refl _ w).alloc (Nat.le_refl _) _).trans hb1⟩
end Go.Proofs.YtfepgodjaeddgaaGreatDoor
