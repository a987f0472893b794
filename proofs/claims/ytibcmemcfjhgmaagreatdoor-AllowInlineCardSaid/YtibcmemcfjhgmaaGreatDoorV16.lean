/-
  hosts.bytes: four decimal numbers.
-/
import Derived.Test.YtibcmemcfjhgmaaGreatDoorV07
import Derived.Test.YtibcmemcfjhgmaaGreatDoorV11
import Derived.Test.YtibcmemcfjhgmaaGreatDoorV09
set_option maxHeartbeats 4000000
set_option maxRecDepth 100000
namespace Go.Proofs.YtibcmemcfjhgmaaGreatDoor
open Go.RowKit Go.Extern.Stop Go.Stop Go.Extern
theorem Er.valueOfP (t:Addr) (w:World):(ReflectliteValue.unpack (.iface 330 (.pointer (some t)))).run Tryz.prog w
 =.ok (.agg #[.pointer (some ⟨15,330,none⟩),.pointer (some ⟨w.heap.size,0,none⟩),.int .u64 150]) (w.alloc (.cells #[.pointer (some t)] 330)):=by kernel_rfl
theorem Er.typeP (a:Addr) (w:World):(ReflectliteValue.methodAny (ReflectliteValue.valueError "reflectlite.Value.Type" 0) (fun t _ _ _=>ReflectliteType.toType t) #[.agg #[.pointer (some ⟨15,330,none⟩),.pointer (some a),.int .u64 150]]).run Tryz.prog w
 =.ok (.iface 223 (.agg #[.pointer (some ⟨15,330,none⟩)])) w:=by kernel_rfl
theorem Er.kindP (w:World):((ReflectliteType.abiMethod fun t=>(fun a:Nat=>Value.int IntKind.u8 (a:Int)) <$> Rtype.kind t) #[.pointer (some ⟨15,330,none⟩)]).run Tryz.prog w=.ok (.int .u8 22) w:=by kernel_rfl
theorem Er.kindT (w:World):((ReflectliteType.abiMethod fun t=>(fun a:Nat=>Value.int IntKind.u8 (a:Int)) <$> Rtype.kind t) #[.pointer (some ⟨15,39,none⟩)]).run Tryz.prog w=.ok (.int .u8 2) w:=by kernel_rfl
theorem Er.partsP (a:Addr) (w:World):(ReflectliteValue.parts (.agg #[.pointer (some ⟨15,330,none⟩),.pointer (some a),.int .u64 150])).run Tryz.prog w=.ok (some (330,a,150)) w:=by kernel_rfl
theorem Er.isNilP (a p:Addr) (W:World) (ha:W.cell? a=some (.pointer (some p))):
  (ReflectliteValue.method (ReflectliteValue.valueError "reflectlite.Value.IsNil" 0) ReflectliteValue.isNil #[.agg #[.pointer (some ⟨15,330,none⟩),.pointer (some a),.int .u64 150]]).run Tryz.prog W=.ok (.bool false) W:=by
 rw[rlm];simp only[Sem.run_bind,Er.partsP,Result.andThen]
 simp[ReflectliteValue.isNil,loadVar,isAgg,underlying,Tryz.underlying330,ha,Result.andThen]
theorem Er.elemP (w:World):(ReflectliteType.method ReflectliteType.elem #[.agg #[.pointer (some ⟨15,330,none⟩)]]).run Tryz.prog w=.ok (.iface 223 (.agg #[.pointer (some ⟨15,39,none⟩)])) w:=by kernel_rfl
theorem Er.implementsT (w:World):(ReflectliteType.relation "Implements" ReflectliteType.implements_ #[.agg #[.pointer (some ⟨15,39,none⟩)],.iface 223 (.agg #[.pointer (some ⟨15,74,none⟩)])]).run Tryz.prog w=.ok (.bool true) w:=by kernel_rfl
theorem Er.typeOfT (v:Value) (w:World):(ReflectliteType.typeOf #[.iface 39 v]).run Tryz.prog w=.ok (.iface 223 (.agg #[.pointer (some ⟨15,39,none⟩)])) w:=by kernel_rfl
theorem Er.assignableT (w:World):(ReflectliteType.relation "AssignableTo" ReflectliteType.assignableTo #[.agg #[.pointer (some ⟨15,39,none⟩)],.iface 223 (.agg #[.pointer (some ⟨15,39,none⟩)])]).run Tryz.prog w=.ok (.bool true) w:=by kernel_rfl
theorem Er.valueOfT (n:Int) (w:World):(ReflectliteValue.unpack (.iface 39 (.int .i64 n))).run Tryz.prog w
 =.ok (.agg #[.pointer (some ⟨15,39,none⟩),.pointer (some ⟨w.heap.size,0,none⟩),.int .u64 130]) (w.alloc (.cells #[(.int .i64 n)] 39)):=by kernel_rfl
theorem Er.elemOfP (w:World):(Rtype.elem? 330).run Tryz.prog w=.ok (some 39) w:=by kernel_rfl
theorem Er.mkT (p:Addr) (w:World):(ReflectliteValue.mk 39 p ReflectliteValue.flagAddr).run Tryz.prog w=.ok (.agg #[.pointer (some ⟨15,39,none⟩),.pointer (some p),.int .u64 386]) w:=by kernel_rfl
theorem Er.elemVP (a p:Addr) (W:World) (ha:W.cell? a=some (.pointer (some p))):
  (ReflectliteValue.method (ReflectliteValue.valueError "reflectlite.Value.Elem" 0) ReflectliteValue.elem #[.agg #[.pointer (some ⟨15,330,none⟩),.pointer (some a),.int .u64 150]]).run Tryz.prog W
   =.ok (.agg #[.pointer (some ⟨15,39,none⟩),.pointer (some p),.int .u64 386]) W:=by
 rw[rlm];simp only[Sem.run_bind,Er.partsP,Result.andThen]
 simp[ReflectliteValue.elem,loadVar,isAgg,underlying,Tryz.underlying330,ha,Result.andThen,Er.elemOfP,Er.mkT]
theorem Er.partsTa (a:Addr) (w:World):(ReflectliteValue.parts (.agg #[.pointer (some ⟨15,39,none⟩),.pointer (some a),.int .u64 386])).run Tryz.prog w=.ok (some (39,a,386)) w:=by kernel_rfl
theorem Er.partsT (a:Addr) (w:World):(ReflectliteValue.parts (.agg #[.pointer (some ⟨15,39,none⟩),.pointer (some a),.int .u64 130])).run Tryz.prog w=.ok (some (39,a,128+2)) w:=by kernel_rfl
theorem Er.directT (w:World):(Rtype.directlyAssignable 39 39).run Tryz.prog w=.ok true w:=by kernel_rfl
theorem Er.setT (ta b:Addr) (n:Int) (old:Value) (W:World) (hb:W.cell? b=some (.int .i64 n)) (ht:W.cell? ta=some old) (hf:W.frozen? ta=false):
  (ReflectliteValue.set #[.agg #[.pointer (some ⟨15,39,none⟩),.pointer (some ta),.int .u64 386],.agg #[.pointer (some ⟨15,39,none⟩),.pointer (some b),.int .u64 130]]).run Tryz.prog W
   =.ok (.tuple #[]) (W.setCell ta (.int .i64 n)):=by
 rw[rls];simp only[Sem.run_bind,Er.partsTa,Er.partsT,Result.andThen]
 simp[ReflectliteValue.flagAddr,loadVar,isAgg,underlying,Tryz.underlying39,hb,Result.andThen,Er.directT,storeVar,Value.cells,storeCells,Addr.add]
 rw[run_store Tryz.prog W ta _ _ (by rfl)]
 simp[ht,hf]
def dv (w:World) (e:Int):Nat->Value->Prop
 | 0,v=>v=.iface 39 (.int .i64 e)
 | d+1,v=>∃(p:Nat) (u:Value),v=.iface 321 (.pointer (some ⟨p,0,none⟩))/\p<w.heap.size/\w.cell? ⟨p,1,none⟩=some u/\dv w e d u
theorem dv.below {w w':World} {e:Int} (hb:Below w.heap.size w w'):∀{d:Nat} {v:Value},dv w e d v->dv w' e d v
 | 0,_,h=>h
 | d+1,v,⟨p,u,h1,h2,h3,h4⟩=>⟨p,u,h1,Nat.lt_of_lt_of_le h2 hb.size,by rw[hb.cell (p:=⟨p,1,none⟩) h2];exact h3,dv.below hb h4⟩
theorem pj (p:Nat) (v:Value) (w:World) (h:w.cell? ⟨p,1,none⟩=some v):Calls Tryz.prog 389 #[.pointer (some ⟨p,0,none⟩)] w fun e w'=>e=.returned v/\w=w':=by
 go_enter Tryz.func389,Tryz.ntmps389
 go_wp2
 go_ret;exact⟨rfl,rfl⟩
theorem G7 (v:Value) (w:World):(ReflectliteType.typeOf #[.iface 321 v]).run Tryz.prog w=.ok (.iface 223 (.agg #[.pointer (some ⟨15,321,none⟩)])) w:=by kernel_rfl
theorem sy (w:World):(ReflectliteType.relation "AssignableTo" ReflectliteType.assignableTo #[.agg #[.pointer (some ⟨15,321,none⟩)],.iface 223 (.agg #[.pointer (some ⟨15,39,none⟩)])]).run Tryz.prog w=.ok (.bool false) w:=by kernel_rfl
theorem S2 (v:Value) (xT:TypeId) (w:World):(Instr.typeAssert (.iface 321 v) xT 249 true).run Tryz.prog w=.ok (.tuple #[.nilIface,.bool false]) w:=run_typeAssert_lacksB Tryz.underlying249 (by kernel_rfl) (by kernel_rfl) v xT w
theorem N2 (v:Value) (xT:TypeId) (w:World):(Instr.typeAssert (.iface 321 v) xT 228 true).run Tryz.prog w=.ok (.tuple #[.iface 321 v,.bool true]) w:=run_typeAssert_hasB Tryz.underlying228 (by kernel_rfl) v xT w
def RAs (n:Int) (tb:Nat) (w:World) (e:Ending) (w':World):Prop:=e=.returned (.bool true)/\Below tb w w'/\w'.cell? ⟨tb,0,none⟩=some (.int .i64 n)
theorem NH (n:Int) (vb tb:Nat) (old:Value) (w:World) (hv:w.cell? ⟨vb,0,none⟩=some (.pointer (some ⟨tb,0,none⟩))) (ht:w.cell? ⟨tb,0,none⟩=some old) (hf:w.frozen? ⟨tb,0,none⟩=false):
  Calls Tryz.prog 153 #[.iface 39 (.int .i64 n),.iface 330 (.pointer (some ⟨tb,0,none⟩)),.agg #[.pointer (some ⟨15,330,none⟩),.pointer (some ⟨vb,0,none⟩),.int .u64 150],.iface 223 (.agg #[.pointer (some ⟨15,39,none⟩)])] w
   (RAs n tb w):=by
 have R8:= @run_callFunc_extern Tryz.prog 150 _ (fun args=>ReflectliteValue.unpack (args.getD 0 (.tuple #[]))) Tryz.func150 (by kernel_rfl) (by kernel_rfl) (by kernel_rfl) (by kernel_rfl);have Sx:= @run_callFunc_extern Tryz.prog 132 _ ReflectliteType.typeOf Tryz.func132 (by kernel_rfl) (by kernel_rfl) (by kernel_rfl) (by kernel_rfl);have Sl:= @run_callFunc_extern Tryz.prog 365 _ (ReflectliteType.relation "AssignableTo" ReflectliteType.assignableTo) Tryz.func365 (by kernel_rfl) (by kernel_rfl) (by kernel_rfl) (by kernel_rfl);have h96:= @run_callFunc_extern Tryz.prog 217 _ (ReflectliteValue.method (ReflectliteValue.valueError "reflectlite.Value.Elem" 0) ReflectliteValue.elem) Tryz.func217 (by kernel_rfl) (by kernel_rfl) (by kernel_rfl) (by kernel_rfl);have h97:= @run_callFunc_extern Tryz.prog 218 _ ReflectliteValue.set Tryz.func218 (by kernel_rfl) (by kernel_rfl) (by kernel_rfl) (by kernel_rfl);have tO:=Er.typeOfT;have mA:=rt.methodAssignableTo;have aT:=Er.assignableT;have vT:=Er.valueOfT;have K5:=World.block_lt_of_cell? _ _ hv;have kK:=World.block_lt_of_cell? _ _ ht
 have el:=Er.elemVP ⟨vb,0,none⟩ ⟨tb,0,none⟩ (w.alloc (.cells #[.pointer (some ⟨15,330,none⟩),.pointer (some ⟨vb,0,none⟩),.int .u64 150] 197)) (by rw[World.cell?_alloc_lt _ _ ⟨vb,0,none⟩ K5];exact hv)
 have y6:((w.alloc (.cells #[.pointer (some ⟨15,330,none⟩),.pointer (some ⟨vb,0,none⟩),.int .u64 150] 197)).alloc (.cells #[.int .i64 n] 39)).cell? ⟨tb,0,none⟩=some old:=by
  rw[World.cell?_alloc_lt _ _ ⟨tb,0,none⟩ (by simp;simp at kK;omega),World.cell?_alloc_lt _ _ ⟨tb,0,none⟩ kK];exact ht
 have Hn2:=Ih y6
 have st:=Er.setT ⟨tb,0,none⟩ ⟨w.heap.size+1,0,none⟩ n old ((w.alloc (.cells #[.pointer (some ⟨15,330,none⟩),.pointer (some ⟨vb,0,none⟩),.int .u64 150] 197)).alloc (.cells #[.int .i64 n] 39))
  (by rw[World.cell?_alloc_at _ _ _ _ (by simp)];rfl)
  y6
  (by rw[World.frozen?_alloc_old _ _ ⟨tb,0,none⟩ (by simp;simp at kK;omega),World.frozen?_alloc_old _ _ ⟨tb,0,none⟩ (Nat.ne_of_lt kK)];exact hf)
 clear y6;go_enter Tryz.func153,Tryz.ntmps153
 go_wp2
 refine wp_loop_rounds 1 ?_;rw[rounds_succ]
 go_wp2
 go_ret;have hz:tb<w.heap.size:=kK
 exact⟨rfl,(((Below.refl tb w).setCell (p:=⟨tb,0,none⟩) (Nat.le_refl _) _).alloc (by simp;omega) _).alloc (by simp;omega) _,by
  rw[World.cell?_alloc_lt _ _ ⟨tb,0,none⟩ (by simp;omega),World.cell?_alloc_lt _ _ ⟨tb,0,none⟩ (by simp;omega)];exact World.cell?_setCell_same _ _ _ ht⟩
theorem Qi (p:Nat) (n:Int) (vb tb:Nat) (old:Value) (w:World) (hp:w.cell? ⟨p,1,none⟩=some (.iface 39 (.int .i64 n))) (hv:w.cell? ⟨vb,0,none⟩=some (.pointer (some ⟨tb,0,none⟩))) (ht:w.cell? ⟨tb,0,none⟩=some old) (hf:w.frozen? ⟨tb,0,none⟩=false):
  Calls Tryz.prog 153 #[.iface 321 (.pointer (some ⟨p,0,none⟩)),.iface 330 (.pointer (some ⟨tb,0,none⟩)),.agg #[.pointer (some ⟨15,330,none⟩),.pointer (some ⟨vb,0,none⟩),.int .u64 150],.iface 223 (.agg #[.pointer (some ⟨15,39,none⟩)])] w
   (RAs n tb w):=by
 have R8:= @run_callFunc_extern Tryz.prog 150 _ (fun args=>ReflectliteValue.unpack (args.getD 0 (.tuple #[]))) Tryz.func150 (by kernel_rfl) (by kernel_rfl) (by kernel_rfl) (by kernel_rfl);have Sx:= @run_callFunc_extern Tryz.prog 132 _ ReflectliteType.typeOf Tryz.func132 (by kernel_rfl) (by kernel_rfl) (by kernel_rfl) (by kernel_rfl);have Sl:= @run_callFunc_extern Tryz.prog 365 _ (ReflectliteType.relation "AssignableTo" ReflectliteType.assignableTo) Tryz.func365 (by kernel_rfl) (by kernel_rfl) (by kernel_rfl) (by kernel_rfl);have h96:= @run_callFunc_extern Tryz.prog 217 _ (ReflectliteValue.method (ReflectliteValue.valueError "reflectlite.Value.Elem" 0) ReflectliteValue.elem) Tryz.func217 (by kernel_rfl) (by kernel_rfl) (by kernel_rfl) (by kernel_rfl);have h97:= @run_callFunc_extern Tryz.prog 218 _ ReflectliteValue.set Tryz.func218 (by kernel_rfl) (by kernel_rfl) (by kernel_rfl) (by kernel_rfl);have tO:=Er.typeOfT;have tOF:=G7;have mA:=rt.methodAssignableTo;have aT:=Er.assignableT;have aF:=sy;have vT:=Er.valueOfT;have a1:=S2;have a3:=N2;have nu:∀w,(nilAhead 507 321 (.pointer (some ⟨p,0,none⟩)) "Unwrap").run Tryz.prog w=.ok (some false) w:=fun _=>by kernel_rfl
 have mU:∀w,(Go.method 507 321 (.pointer (some ⟨p,0,none⟩)) "Unwrap").run Tryz.prog w=.ok (389,.pointer (some ⟨p,0,none⟩)) w:=fun _=>by kernel_rfl
 have K5:=World.block_lt_of_cell? _ _ hv;have kK:=World.block_lt_of_cell? _ _ ht;have el:=Er.elemVP ⟨vb,0,none⟩ ⟨tb,0,none⟩ (w.alloc (.cells #[.pointer (some ⟨15,330,none⟩),.pointer (some ⟨vb,0,none⟩),.int .u64 150] 197)) (by rw[World.cell?_alloc_lt _ _ ⟨vb,0,none⟩ K5];exact hv)
 have y6:((w.alloc (.cells #[.pointer (some ⟨15,330,none⟩),.pointer (some ⟨vb,0,none⟩),.int .u64 150] 197)).alloc (.cells #[.int .i64 n] 39)).cell? ⟨tb,0,none⟩=some old:=by
  rw[World.cell?_alloc_lt _ _ ⟨tb,0,none⟩ (by simp;simp at kK;omega),World.cell?_alloc_lt _ _ ⟨tb,0,none⟩ kK];exact ht
 have st:=Er.setT ⟨tb,0,none⟩ ⟨w.heap.size+1,0,none⟩ n old ((w.alloc (.cells #[.pointer (some ⟨15,330,none⟩),.pointer (some ⟨vb,0,none⟩),.int .u64 150] 197)).alloc (.cells #[.int .i64 n] 39))
  (by rw[World.cell?_alloc_at _ _ _ _ (by simp)];rfl)
  y6
  (by rw[World.frozen?_alloc_old _ _ ⟨tb,0,none⟩ (by simp;simp at kK;omega),World.frozen?_alloc_old _ _ ⟨tb,0,none⟩ (Nat.ne_of_lt kK)];exact hf)
 clear y6;have cU:=Ih (fun w':World=>pj p (.iface 39 (.int .i64 n)) w');have oj:p<w.heap.size:=World.block_lt_of_cell? _ _ hp;go_enter Tryz.func153,Tryz.ntmps153
 go_wp2
 refine wp_loop_rounds 2 ?_;rw[rounds_succ]
 go_wp2_with fail
 refine(cU.out _ (by rw[World.cell?_alloc_lt _ _ ⟨p,1,none⟩ oj];exact hp)).mono ?_;rintro e w1 ⟨rfl,rfl⟩
 go_wp2
 rw[rounds_succ]
 go_wp2
 go_ret;have hz:tb<w.heap.size:=kK
 exact⟨rfl,(((Below.refl tb w).setCell (p:=⟨tb,0,none⟩) (Nat.le_refl _) _).alloc (by simp;omega) _).alloc (by simp;omega) _,by
  rw[World.cell?_alloc_lt _ _ ⟨tb,0,none⟩ (by simp;omega),World.cell?_alloc_lt _ _ ⟨tb,0,none⟩ (by simp;omega)];exact World.cell?_setCell_same _ _ _ ht⟩
theorem Ry (p p2:Nat) (n:Int) (vb tb:Nat) (old:Value) (w:World) (hp:w.cell? ⟨p,1,none⟩=some (.iface 321 (.pointer (some ⟨p2,0,none⟩)))) (Ay:w.cell? ⟨p2,1,none⟩=some (.iface 39 (.int .i64 n))) (hv:w.cell? ⟨vb,0,none⟩=some (.pointer (some ⟨tb,0,none⟩))) (ht:w.cell? ⟨tb,0,none⟩=some old) (hf:w.frozen? ⟨tb,0,none⟩=false):
  Calls Tryz.prog 153 #[.iface 321 (.pointer (some ⟨p,0,none⟩)),.iface 330 (.pointer (some ⟨tb,0,none⟩)),.agg #[.pointer (some ⟨15,330,none⟩),.pointer (some ⟨vb,0,none⟩),.int .u64 150],.iface 223 (.agg #[.pointer (some ⟨15,39,none⟩)])] w
   (RAs n tb w):=by
 have R8:= @run_callFunc_extern Tryz.prog 150 _ (fun args=>ReflectliteValue.unpack (args.getD 0 (.tuple #[]))) Tryz.func150 (by kernel_rfl) (by kernel_rfl) (by kernel_rfl) (by kernel_rfl);have Sx:= @run_callFunc_extern Tryz.prog 132 _ ReflectliteType.typeOf Tryz.func132 (by kernel_rfl) (by kernel_rfl) (by kernel_rfl) (by kernel_rfl);have Sl:= @run_callFunc_extern Tryz.prog 365 _ (ReflectliteType.relation "AssignableTo" ReflectliteType.assignableTo) Tryz.func365 (by kernel_rfl) (by kernel_rfl) (by kernel_rfl) (by kernel_rfl);have h96:= @run_callFunc_extern Tryz.prog 217 _ (ReflectliteValue.method (ReflectliteValue.valueError "reflectlite.Value.Elem" 0) ReflectliteValue.elem) Tryz.func217 (by kernel_rfl) (by kernel_rfl) (by kernel_rfl) (by kernel_rfl);have h97:= @run_callFunc_extern Tryz.prog 218 _ ReflectliteValue.set Tryz.func218 (by kernel_rfl) (by kernel_rfl) (by kernel_rfl) (by kernel_rfl);have tO:=Er.typeOfT;have tOF:=G7;have mA:=rt.methodAssignableTo;have aT:=Er.assignableT;have aF:=sy;have vT:=Er.valueOfT;have a1:=S2;have a3:=N2;have nu:∀w,(nilAhead 507 321 (.pointer (some ⟨p,0,none⟩)) "Unwrap").run Tryz.prog w=.ok (some false) w:=fun _=>by kernel_rfl
 have mU:∀w,(Go.method 507 321 (.pointer (some ⟨p,0,none⟩)) "Unwrap").run Tryz.prog w=.ok (389,.pointer (some ⟨p,0,none⟩)) w:=fun _=>by kernel_rfl
 have K5:=World.block_lt_of_cell? _ _ hv;have kK:=World.block_lt_of_cell? _ _ ht;have el:=Er.elemVP ⟨vb,0,none⟩ ⟨tb,0,none⟩ (w.alloc (.cells #[.pointer (some ⟨15,330,none⟩),.pointer (some ⟨vb,0,none⟩),.int .u64 150] 197)) (by rw[World.cell?_alloc_lt _ _ ⟨vb,0,none⟩ K5];exact hv)
 have y6:((w.alloc (.cells #[.pointer (some ⟨15,330,none⟩),.pointer (some ⟨vb,0,none⟩),.int .u64 150] 197)).alloc (.cells #[.int .i64 n] 39)).cell? ⟨tb,0,none⟩=some old:=by
  rw[World.cell?_alloc_lt _ _ ⟨tb,0,none⟩ (by simp;simp at kK;omega),World.cell?_alloc_lt _ _ ⟨tb,0,none⟩ kK];exact ht
 have st:=Er.setT ⟨tb,0,none⟩ ⟨w.heap.size+1,0,none⟩ n old ((w.alloc (.cells #[.pointer (some ⟨15,330,none⟩),.pointer (some ⟨vb,0,none⟩),.int .u64 150] 197)).alloc (.cells #[.int .i64 n] 39))
  (by rw[World.cell?_alloc_at _ _ _ _ (by simp)];rfl)
  y6
  (by rw[World.frozen?_alloc_old _ _ ⟨tb,0,none⟩ (by simp;simp at kK;omega),World.frozen?_alloc_old _ _ ⟨tb,0,none⟩ (Nat.ne_of_lt kK)];exact hf)
 clear y6;have nu2:∀w,(nilAhead 507 321 (.pointer (some ⟨p2,0,none⟩)) "Unwrap").run Tryz.prog w=.ok (some false) w:=fun _=>by kernel_rfl
 have mU2:∀w,(Go.method 507 321 (.pointer (some ⟨p2,0,none⟩)) "Unwrap").run Tryz.prog w=.ok (389,.pointer (some ⟨p2,0,none⟩)) w:=fun _=>by kernel_rfl
 have cU:=Ih (fun w':World=>pj p (.iface 321 (.pointer (some ⟨p2,0,none⟩))) w');have cU2:=Ih (fun w':World=>pj p2 (.iface 39 (.int .i64 n)) w');have ace:p2<w.heap.size:=World.block_lt_of_cell? _ _ Ay;have oj:p<w.heap.size:=World.block_lt_of_cell? _ _ hp;go_enter Tryz.func153,Tryz.ntmps153
 go_wp2
 refine wp_loop_rounds 3 ?_;rw[rounds_succ]
 go_wp2_with fail
 refine(cU.out _ (by rw[World.cell?_alloc_lt _ _ ⟨p,1,none⟩ oj];exact hp)).mono ?_;rintro e w1 ⟨rfl,rfl⟩
 go_wp2
 rw[rounds_succ]
 go_wp2_with fail
 refine(cU2.out _ (by rw[World.cell?_alloc_lt _ _ ⟨p2,1,none⟩ ace];exact Ay)).mono ?_;rintro e w1 ⟨rfl,rfl⟩
 go_wp2
 rw[rounds_succ]
 go_wp2
 go_ret;have hz:tb<w.heap.size:=kK
 exact⟨rfl,(((Below.refl tb w).setCell (p:=⟨tb,0,none⟩) (Nat.le_refl _) _).alloc (by simp;omega) _).alloc (by simp;omega) _,by
  rw[World.cell?_alloc_lt _ _ ⟨tb,0,none⟩ (by simp;omega),World.cell?_alloc_lt _ _ ⟨tb,0,none⟩ (by simp;omega)];exact World.cell?_setCell_same _ _ _ ht⟩
theorem Kv (vb tb:Nat) (old:Value) (d:Nat) (hd:d<=2) (n:Int) (v:Value) (w:World) (h:dv w n d v) (hv:w.cell? ⟨vb,0,none⟩=some (.pointer (some ⟨tb,0,none⟩))) (ht:w.cell? ⟨tb,0,none⟩=some old) (hf:w.frozen? ⟨tb,0,none⟩=false):
  Calls Tryz.prog 153 #[v,.iface 330 (.pointer (some ⟨tb,0,none⟩)),.agg #[.pointer (some ⟨15,330,none⟩),.pointer (some ⟨vb,0,none⟩),.int .u64 150],.iface 223 (.agg #[.pointer (some ⟨15,39,none⟩)])] w
   (RAs n tb w):=by
 match d,hd,h with
 | 0,_,h=>rw[show v=_ from h];exact NH n vb tb old w hv ht hf
 | 1,_,⟨p,u,h1,_,h3,h4⟩=>rw[h1];rw[show u=_ from h4]at h3;exact Qi p n vb tb old w h3 hv ht hf
 | 2,_,⟨p,u,h1,_,h3,p2,u2,h4,_,h6,h7⟩=>rw[h1];rw[h4]at h3;rw[show u2=_ from h7]at h6;exact Ry p p2 n vb tb old w h3 h6 hv ht hf
theorem Kx (d:Nat) (hd:d<=2) (n:Int) (t0:TypeId) (x0:Value) (tb:Nat) (old:Value) (w:World) (hE:eU w) (hB:dv w n d (.iface t0 x0)) (ht:w.cell? ⟨tb,0,none⟩=some old) (hf:w.frozen? ⟨tb,0,none⟩=false):
  Calls Tryz.prog 103 #[.iface t0 x0,.iface 330 (.pointer (some ⟨tb,0,none⟩))] w (RAs n tb w):=by
 have R8:= @run_callFunc_extern Tryz.prog 150 _ (fun args=>ReflectliteValue.unpack (args.getD 0 (.tuple #[]))) Tryz.func150 (by kernel_rfl) (by kernel_rfl) (by kernel_rfl) (by kernel_rfl);have h49:= @run_callFunc_extern Tryz.prog 151 _ (ReflectliteValue.methodAny (ReflectliteValue.valueError "reflectlite.Value.Type" 0) (fun t _ _ _=>ReflectliteType.toType t)) Tryz.func151 (by kernel_rfl) (by kernel_rfl) (by kernel_rfl) (by kernel_rfl);have h50:= @run_callFunc_extern Tryz.prog 152 _ (ReflectliteValue.method (ReflectliteValue.valueError "reflectlite.Value.IsNil" 0) ReflectliteValue.isNil) Tryz.func152 (by kernel_rfl) (by kernel_rfl) (by kernel_rfl) (by kernel_rfl);have abv:= @run_callFunc_extern Tryz.prog 353 _ (ReflectliteType.abiMethod fun t=>do pure (.int .u8 (<-Rtype.kind t))) Tryz.func353 (by kernel_rfl) (by kernel_rfl) (by kernel_rfl) (by kernel_rfl);have acg:= @run_callFunc_extern Tryz.prog 367 _ (ReflectliteType.method ReflectliteType.elem) Tryz.func367 (by kernel_rfl) (by kernel_rfl) (by kernel_rfl) (by kernel_rfl)
 have abY:= @run_callFunc_extern Tryz.prog 368 _ (ReflectliteType.relation "Implements" ReflectliteType.implements_) Tryz.func368 (by kernel_rfl) (by kernel_rfl) (by kernel_rfl) (by kernel_rfl);have f6:=Er.valueOfP;have f7:=Er.typeP;have mK:=rt.methodKind;have mE:=rt.methodElem;have mI:=rt.methodImplements;have kP:=Er.kindP;have kT:=Er.kindT;have eP:=Er.elemP;have iT:=Er.implementsT;have kK:=World.block_lt_of_cell? _ _ ht;have hz:tb<w.heap.size:=kK;have hzE:=hE.size;have n8:=Er.isNilP ⟨w.heap.size,0,none⟩ ⟨tb,0,none⟩ ((w.alloc (.cells #[.pointer (some ⟨tb,0,none⟩)] 330)).alloc (.cells #[.pointer (some ⟨15,330,none⟩),.pointer (some ⟨w.heap.size,0,none⟩),.int .u64 150] 197)) (by simp)
 have Pl:((w.alloc (.cells #[.pointer (some ⟨tb,0,none⟩)] 330)).alloc (.cells #[.pointer (some ⟨15,330,none⟩),.pointer (some ⟨w.heap.size,0,none⟩),.int .u64 150] 197)).cell? ⟨3,0,none⟩=some (.iface 223 (.agg #[.pointer (some ⟨15,74,none⟩)])):=by
  rw[World.cell?_alloc_lt _ _ ⟨3,0,none⟩ (by simp<;>omega),World.cell?_alloc_lt _ _ ⟨3,0,none⟩ (by show 3<_;omega)];exact hE.et
 have ca:∀w1:World,Below w.heap.size w w1->w1.cell? ⟨w.heap.size,0,none⟩=some (.pointer (some ⟨tb,0,none⟩))->Calls Tryz.prog 153 #[.iface t0 x0,.iface 330 (.pointer (some ⟨tb,0,none⟩)),.agg #[.pointer (some ⟨15,330,none⟩),.pointer (some ⟨w.heap.size,0,none⟩),.int .u64 150],.iface 223 (.agg #[.pointer (some ⟨15,39,none⟩)])] w1
  (RAs n tb w1):=fun w1 hb hc=>Kv w.heap.size tb old d hd n _ w1 (hB.below hb) hc (by rw[hb.cell kK];exact ht) (by rw[hb.frozen kK];exact hf)
 have Ca:=Ih ca;clear ca;go_enter Tryz.func103,Tryz.ntmps103
 go_wp2_with fail
 refine(Ca.out _ (((Below.refl _ w).alloc (Nat.le_refl _) _).alloc (by simp) _) (by simp)).mono ?_;rintro e w1 ⟨rfl,av,iE⟩
 go_wp2
 go_ret;exact⟨rfl,(((Below.refl tb w).alloc (Nat.le_of_lt hz) _).alloc (by simp;omega) _).trans av,iE⟩
theorem dv.iface {w:World} {e:Int}:∀{d:Nat} {v:Value},dv w e d v->∃t x,v=.iface t x
 | 0,_,h=>⟨_,_,h⟩
 | _+1,_,⟨_,_,h,_⟩=>⟨_,_,h⟩
theorem Ng (d:Nat) (hd:d<=2) (n:Int) (v:Value) (w:World) (hE:eU w) (h:dv w n d v):Calls Tryz.prog 269 #[v] w fun e w'=>e=.returned (.int .i64 n)/\Below w.heap.size w w':=by
 obtain⟨t0,x0,rfl⟩:=h.iface;have cA:=Ih (Kx d hd n t0 x0 w.heap.size (.int .i64 0) (w.alloc (.cells #[.int .i64 0] 39)) (hE.below ((Below.refl _ w).alloc (Nat.le_refl _) _)) (h.below ((Below.refl _ w).alloc (Nat.le_refl _) _)) (by simp) (by simp));go_enter Tryz.func269,Tryz.ntmps269
 go_wp2_with fail
 refine cA.out.mono ?_;rintro e w1 ⟨rfl,av,iE⟩
 go_wp2
 go_ret;exact⟨rfl,((Below.refl _ w).alloc (Nat.le_refl _) _).trans av⟩
end Go.Proofs.YtibcmemcfjhgmaaGreatDoor
namespace Lz
open Go
theorem jJ (base:Nat):∀(l:Bs) (n:Nat) (c:UInt8),fB base n (l++[c])=match fB base n l with
  | none=>none
  | some m=>match iC c with
    | none=>none
    | some d=>if base<=d then none else some (min (m*base+d) 1099511627776)
 | [],n,c=>by
   simp only[List.nil_append,fB];cases iC c with
   | none=>rfl
   | some d=>by_cases h:base<=d<;>simp[h]
 | x::r,n,c=>by
   simp only[List.cons_append,fB];cases iC x with
   | none=>rfl
   | some d=>
     by_cases h:base<=d
     ·simp[h]
     ·simp only[h,if_false];exact jJ base r _ c
theorem fT (base:Nat) (l m:Bs) (n:Nat) (h:fB base n l=none):fB base n (l++m)=none:=by
 induction m generalizing l with
 | nil=>simpa using h
 | cons c r ih=>
   have:=jJ base l n c;rw[h]at this;have h2:=ih (l++[c]) this;simpa using h2
end Lz
namespace Go.Proofs.YtibcmemcfjhgmaaGreatDoor
open Go.RowKit
theorem fR {w:World} {e:Int} {s:ByteArray} {d:Nat} {u:Value} {t:TypeId} {fr:Nat×Nat} (hu:dv w e d u):dv (w.alloc (.cells #[.string s,u] t fr)) e (d+1) (.iface 321 (.pointer (some ⟨w.heap.size,0,none⟩))):=
 ⟨w.heap.size,u,rfl,by simp,by rw[World.cell?_alloc_mark];rfl,hu.below ((Below.refl _ w).alloc (Nat.le_refl _) _)⟩
def VF (o:Option Nat) (w:World) (e:Ending) (w':World):Prop:=
 Below w.heap.size w w'/\match o with
  | some n=>e=.returned (.tuple #[.int .u64 n,.nilIface])/\n<=1099511627776
  | none=>∃v,e=.returned (.tuple #[.int .u64 0,v])/\dv w' 71 1 v
theorem d8 {w wx:World} {s:ByteArray} {t:TypeId} {fr:Nat×Nat} (hb:Below w.heap.size w wx):
  VF none w (.returned (.tuple #[.int .u64 0,.iface 321 (.pointer (some ⟨wx.heap.size,0,none⟩))])) (wx.alloc (.cells #[.string s,.iface 39 (.int .i64 71)] t fr)):=
 ⟨hb.alloc hb.size _,_,rfl,fR rfl⟩
theorem tG {w wx:World} {n:Nat} (hb:Below w.heap.size w wx) (hn:n<=1099511627776):VF (some n) w (.returned (.tuple #[.int .u64 n,.nilIface])) wx:=⟨hb,rfl,hn⟩
theorem wrap64 {x:Int} (h0:0<=x) (h1:x<=18446744073709551615):IntKind.u64.wrap x=x:=by
 have hb:IntKind.u64.bits=64:=rfl;have hs:IntKind.u64.signed=false:=rfl;simp only[IntKind.wrap,hb,hs]
 simp
 omega
theorem pL (n B d:Nat) (hn:n<=1099511627776) (hB:B<=16) (hd:d<16):
  min (IntKind.u64.wrap (IntKind.u64.wrap ((n:Int)*(B:Int))+(d:Int))) 1099511627776=((min (n*B+d) 1099511627776:Nat):Int):=by
 have hm:n*B<=1099511627776*16:=Nat.mul_le_mul hn hB;have e:(n:Int)*(B:Int)=((n*B:Nat):Int):=by simp
 rw[e];generalize n*B=m at hm⊢;rw[wrap64 (x:=(m:Int)) (by omega) (by omega),wrap64 (by omega) (by omega)];omega
def dW (s:List UInt8):Nat×List UInt8:=
 if Lib.hasPrefix (Lz.low s) [48,120]then(16,48::(Lz.low s).drop 2)else if 1<s.length/\s[0]? =some 48 then(8,s.drop 1)else(10,s)
def pZ (a:Nat×List UInt8):Option Nat:=if a.2=[]then none else Lz.fB a.1 0 a.2
theorem EP (s:List UInt8):Lz.qY s=pZ (dW s):=by
 unfold Lz.qY dW pZ;by_cases h1:Lib.hasPrefix (Lz.low s) [48,120]=true
 ·simp[h1]
 ·by_cases h2:1<s.length/\s[0]? =some 48
  ·have:s.drop 1≠[]:=by intro h;have:=congrArg List.length h;simp at this;omega
   rw[if_neg h1,if_pos h2,if_neg h1,if_pos h2];exact(if_neg this).symm
  ·simp[h1,h2]
theorem nh (s p:ByteArray) (w:World):Calls Tryz.prog 124 #[.string s,.string p] w fun e w'=>e=.returned (.bool (Lib.hasPrefix s.data.toList p.data.toList))/\w=w':=by
 exact(Tryz.strings_HasPrefix s p w).mono fun _ _ ⟨h1,h2⟩=>⟨h1,h2.symm⟩
theorem uZ (s:ByteArray) (hs:s.size<=1048576) (w:World):Calls Tryz.prog 305 #[.string s] w (VF (Lz.qY s.data.toList) w):=by
 rw[EP];obtain⟨q1,gF⟩:∃q,q=Lib.hasPrefix (Lz.low s.data.toList) [48,120]:=⟨_,rfl⟩;have kN:Below w.heap.size w w:=Below.refl _ w;go_enter Tryz.func305,Tryz.ntmps305
 go_wp2_with fail
 with_reducible refine(kp s (by omega) _).mono ?_
 rintro e w1 ⟨lw,rfl,DD,av⟩
 go_wp2_with fail
 with_reducible refine(nh lw ⟨#[48,120]⟩ _).mono ?_
 rintro e w1' ⟨rfl,rfl⟩;rw[show Lib.hasPrefix lw.data.toList (ByteArray.data ⟨#[48,120]⟩).toList=q1 by rw[gF,DD.out]]
 obtain hq|⟨hq,XL,IP⟩|⟨hq,XL⟩|⟨hq,XL,IP⟩:q1=true\/(q1=false/\1<s.size/\s.data.toList[0]? =some 48)\/(q1=false/\¬1<s.size)\/(q1=false/\1<s.size/\s.data.toList[0]? ≠some 48):=by
  cases q1
  ·by_cases h1:1<s.size
   ·by_cases h3:s.data.toList[0]? =some 48
    ·exact Or.inr (Or.inl ⟨rfl,h1,h3⟩)
    ·exact Or.inr (Or.inr (Or.inr ⟨rfl,h1,h3⟩))
   ·exact Or.inr (Or.inr (Or.inl ⟨rfl,h1⟩))
  ·exact Or.inl rfl
 ·have hlz:lw.size=s.size:=by rw[<-ac,DD.out];simp[Lz.low]
  have AP:2<=lw.size:=by
   have:=gF.symm.trans hq;rw[<-DD.out]at this;rw[<-Lib.hasPrefix_of_take,Bool.and_eq_true,decide_eq_true_eq,ac]at this;exact this.1
  have iz:¬(9223372036854775807<1+(lw.size-2)):=by omega
  have HA:Hid (dW s.data.toList=(16,((⟨#[48]⟩:ByteArray)++lw.extract 2 lw.size).data.toList)):=by
   show _=_;rw[lj,bN,DD.out];unfold dW;rw[if_pos (gF.symm.trans hq)];rfl
  have XU:((⟨#[48]⟩:ByteArray)++lw.extract 2 lw.size).size<=s.size+1:=by
   have h1:((⟨#[48]⟩:ByteArray)++lw.extract 2 lw.size).data.toList.length=1+(lw.size-2):=by
    rw[lj,bN,List.length_append,List.length_drop,ac];rfl
   rw[<-ac];omega
  subst hq;clear gF hlz;obtain⟨B,hB⟩:∃B:Nat,B=16:=⟨_,rfl⟩;rw[show(16:Nat)=B from hB.symm]at HA;have y8:1<=B/\B<=16:=by omega
  go_upto_region 4 with fail
  go_quiet (fail)
  rw[show Value.int .i64 16=Value.int .i64 (B:Int) by rw[hB];rfl];have qL:=below_drewN av nq;generalize (⟨#[48]⟩:ByteArray)++lw.extract 2 lw.size=u at HA XU⊢;generalize w1.drewN nq=wx at qL⊢;clear hB av DD iz AP;by_cases hz:u.size=0
  ·have he:=aN hz
   have HN:Hid (pZ (dW s.data.toList)=none):=by
    show _=_;rw[HA.out];have:u.data.toList=[]:=List.length_eq_zero_iff.1 (by rw[ac];exact hz);unfold pZ;rw[this];rfl
   first
    | (exfalso;omega)
    | (go_wp2;go_ret2;rw[HN.out];exact d8 qL)
  ·have he:=aG (s:=u) (by omega)
   have HU:Hid (pZ (dW s.data.toList)=Lz.fB B 0 u.data.toList):=by
    show _=_;rw[HA.out];have:u.data.toList≠[]:=by intro h;exact hz (by rw[<-ac,h];rfl)
    exact if_neg this
   go_wp2_with fail
   go_loopw [7,39] (fun a i wr=>∃j n:Nat,j<=u.size/\n<=1099511627776/\a=.int .u64 n/\i=.int .i64 j/\Hid (Lz.fB B 0 (u.data.toList.take j)=some n)/\Below w.heap.size w wr) (fun _ i _=>u.size-(intOf i).toNat)
   case atStart=>exact⟨0,0,Nat.zero_le _,by omega,rfl,rfl,Ih rfl,qL⟩
   case round=>
    clear qL;obtain⟨j,n,hj,hn,rfl,rfl,hN,hb⟩:=hrel;by_cases aL:j<u.size
    ·have hg:=aB (s:=u) aL;have gu:u.data.toList.take (j+1)=u.data.toList.take j++[u[j]]:=by rw[List.take_add_one,hg];rfl
     have jF:=Lz.jJ B (u.data.toList.take j) 0 u[j];rw[<-gu,hN.out]at jF;have ix:=fun h=>Lz.fT B (u.data.toList.take (j+1)) (u.data.toList.drop (j+1)) 0 h;rw[List.take_append_drop]at ix;have cH:=fun W=>lC u[j] W;unfold Ce Lz.iN Lz.oT at cH;have jh:=jB u[j];unfold Lz.iN at jh;generalize Gy:Lz.iC u[j]=xv at cH jF jh;have GF:=Ih jF;have Oh:=Ih ix;clear jF ix gu hg Gy;cases xv with
     | none=>
       have kJ:Hid (Lz.fB B 0 u.data.toList=none):=by show _=_;exact Oh.out GF.out
       go_wp2_with fail
       with_reducible refine(cH _).mono ?_
       rintro e w' ⟨rfl,rfl⟩
       go_wp2
       go_ret2
       rw[HU.out,kJ.out];exact d8 hb
     | some d=>
       by_cases KP:B<=d
       ·have kJ:Hid (Lz.fB B 0 u.data.toList=none):=by show _=_;exact Oh.out (GF.out.trans (if_pos KP))
        have Gr:(B:Int)<=(d:Int):=by omega
        go_wp2_with fail
        with_reducible refine(cH _).mono ?_
        rintro e w' ⟨rfl,rfl⟩
        go_wp2
        go_ret2
        rw[HU.out,kJ.out];exact d8 hb
       ·have K0:Hid (Lz.fB B 0 (u.data.toList.take (j+1))=some (min (n*B+d) 1099511627776)):=by show _=_;exact GF.out.trans (if_neg KP)
        have Gr:¬(B:Int)<=(d:Int):=by omega
        go_wp2_with fail
        with_reducible refine(cH _).mono ?_
        rintro e w' ⟨rfl,rfl⟩
        go_wp2
        go_roundw
        case rel=>exact⟨j+1,_,by omega,Nat.min_le_right _ _,congrArg _ (pL n B d hn y8.2 jh),by go_num,K0.out,hb⟩
        case measure=>simp[intOf];omega
    ·have WM:j=u.size:=by omega
     have kJ:Hid (Lz.fB B 0 u.data.toList=some n):=by
      show _=_;have:=hN.out;rw[WM,List.take_of_length_le (by rw[ac];exact Nat.le_refl _)]at this;exact this
     go_wp2
     go_ret2
     rw[HU.out,kJ.out];exact tG hb hn
 ·have R8:((s[0].toNat:Int)==48)=true:=by
   rw[aB (by omega)]at IP;exact(tT s[0] 48).trans (beq_iff_eq.2 (Option.some.inj IP))
  have HA:Hid (dW s.data.toList=(8,(s.extract 1 s.size).data.toList)):=by
   show _=_;rw[bN];unfold dW;rw[if_neg (by rw[<-gF,hq];decide),if_pos ⟨by rw[ac];exact XL,IP⟩]
  have XU:(s.extract 1 s.size).size<=s.size+1:=Nat.le_succ_of_le (bg s 1 s.size);subst hq;clear IP gF;obtain⟨B,hB⟩:∃B:Nat,B=8:=⟨_,rfl⟩;rw[show(8:Nat)=B from hB.symm]at HA;have y8:1<=B/\B<=16:=by omega
  go_upto_region 6 with fail
  go_quiet (fail)
  rw[show Value.int .i64 8=Value.int .i64 (B:Int) by rw[hB];rfl];have qL:=below_drewN av nq;generalize s.extract 1 s.size=u at HA XU⊢;generalize w1.drewN nq=wx at qL⊢;clear hB R8 XL av DD;by_cases hz:u.size=0
  ·have he:=aN hz
   have HN:Hid (pZ (dW s.data.toList)=none):=by
    show _=_;rw[HA.out];have:u.data.toList=[]:=List.length_eq_zero_iff.1 (by rw[ac];exact hz);unfold pZ;rw[this];rfl
   first
    | (exfalso;omega)
    | (go_wp2;go_ret2;rw[HN.out];exact d8 qL)
  ·have he:=aG (s:=u) (by omega)
   have HU:Hid (pZ (dW s.data.toList)=Lz.fB B 0 u.data.toList):=by
    show _=_;rw[HA.out];have:u.data.toList≠[]:=by intro h;exact hz (by rw[<-ac,h];rfl)
    exact if_neg this
   go_wp2_with fail
   go_loopw [7,39] (fun a i wr=>∃j n:Nat,j<=u.size/\n<=1099511627776/\a=.int .u64 n/\i=.int .i64 j/\Hid (Lz.fB B 0 (u.data.toList.take j)=some n)/\Below w.heap.size w wr) (fun _ i _=>u.size-(intOf i).toNat)
   case atStart=>exact⟨0,0,Nat.zero_le _,by omega,rfl,rfl,Ih rfl,qL⟩
   case round=>
    clear qL;obtain⟨j,n,hj,hn,rfl,rfl,hN,hb⟩:=hrel;by_cases aL:j<u.size
    ·have hg:=aB (s:=u) aL;have gu:u.data.toList.take (j+1)=u.data.toList.take j++[u[j]]:=by rw[List.take_add_one,hg];rfl
     have jF:=Lz.jJ B (u.data.toList.take j) 0 u[j];rw[<-gu,hN.out]at jF;have ix:=fun h=>Lz.fT B (u.data.toList.take (j+1)) (u.data.toList.drop (j+1)) 0 h;rw[List.take_append_drop]at ix;have cH:=fun W=>lC u[j] W;unfold Ce Lz.iN Lz.oT at cH;have jh:=jB u[j];unfold Lz.iN at jh;generalize Gy:Lz.iC u[j]=xv at cH jF jh;have GF:=Ih jF;have Oh:=Ih ix;clear jF ix gu hg Gy;cases xv with
     | none=>
       have kJ:Hid (Lz.fB B 0 u.data.toList=none):=by show _=_;exact Oh.out GF.out
       go_wp2_with fail
       with_reducible refine(cH _).mono ?_
       rintro e w' ⟨rfl,rfl⟩
       go_wp2
       go_ret2
       rw[HU.out,kJ.out];exact d8 hb
     | some d=>
       by_cases KP:B<=d
       ·have kJ:Hid (Lz.fB B 0 u.data.toList=none):=by show _=_;exact Oh.out (GF.out.trans (if_pos KP))
        have Gr:(B:Int)<=(d:Int):=by omega
        go_wp2_with fail
        with_reducible refine(cH _).mono ?_
        rintro e w' ⟨rfl,rfl⟩
        go_wp2
        go_ret2
        rw[HU.out,kJ.out];exact d8 hb
       ·have K0:Hid (Lz.fB B 0 (u.data.toList.take (j+1))=some (min (n*B+d) 1099511627776)):=by show _=_;exact GF.out.trans (if_neg KP)
        have Gr:¬(B:Int)<=(d:Int):=by omega
        go_wp2_with fail
        with_reducible refine(cH _).mono ?_
        rintro e w' ⟨rfl,rfl⟩
        go_wp2
        go_roundw
        case rel=>exact⟨j+1,_,by omega,Nat.min_le_right _ _,congrArg _ (pL n B d hn y8.2 jh),by go_num,K0.out,hb⟩
        case measure=>simp[intOf];omega
    ·have WM:j=u.size:=by omega
     have kJ:Hid (Lz.fB B 0 u.data.toList=some n):=by
      show _=_;have:=hN.out;rw[WM,List.take_of_length_le (by rw[ac];exact Nat.le_refl _)]at this;exact this
     go_wp2
     go_ret2
     rw[HU.out,kJ.out];exact tG hb hn
 ·have HA:Hid (dW s.data.toList=(10,s.data.toList)):=by
   show _=_;unfold dW;rw[if_neg (by rw[<-gF,hq];decide),if_neg (by rw[ac];exact fun h=>XL h.1)]
  have XU:s.size<=s.size+1:=Nat.le_succ _;have h2c:(s.size:Int)<=1:=by omega
  subst hq;clear gF;obtain⟨B,hB⟩:∃B:Nat,B=10:=⟨_,rfl⟩;rw[show(10:Nat)=B from hB.symm]at HA;have y8:1<=B/\B<=16:=by omega
  go_upto_region 7 with fail
  rw[show Value.int .i64 10=Value.int .i64 (B:Int) by rw[hB];rfl];have qL:=av;generalize w1=wx at qL⊢;clear hB XL h2c av DD;by_cases hz:s.size=0
  ·have he:=aN hz
   have HN:Hid (pZ (dW s.data.toList)=none):=by
    show _=_;rw[HA.out];have:s.data.toList=[]:=List.length_eq_zero_iff.1 (by rw[ac];exact hz);unfold pZ;rw[this];rfl
   first
    | (exfalso;omega)
    | (go_wp2;go_ret2;rw[HN.out];exact d8 qL)
  ·have he:=aG (s:=s) (by omega)
   have HU:Hid (pZ (dW s.data.toList)=Lz.fB B 0 s.data.toList):=by
    show _=_;rw[HA.out];have:s.data.toList≠[]:=by intro h;exact hz (by rw[<-ac,h];rfl)
    exact if_neg this
   go_wp2_with fail
   go_loopw [7,39] (fun a i wr=>∃j n:Nat,j<=s.size/\n<=1099511627776/\a=.int .u64 n/\i=.int .i64 j/\Hid (Lz.fB B 0 (s.data.toList.take j)=some n)/\Below w.heap.size w wr) (fun _ i _=>s.size-(intOf i).toNat)
   case atStart=>exact⟨0,0,Nat.zero_le _,by omega,rfl,rfl,Ih rfl,qL⟩
   case round=>
    clear qL;obtain⟨j,n,hj,hn,rfl,rfl,hN,hb⟩:=hrel;by_cases aL:j<s.size
    ·have hg:=aB (s:=s) aL;have gu:s.data.toList.take (j+1)=s.data.toList.take j++[s[j]]:=by rw[List.take_add_one,hg];rfl
     have jF:=Lz.jJ B (s.data.toList.take j) 0 s[j];rw[<-gu,hN.out]at jF;have ix:=fun h=>Lz.fT B (s.data.toList.take (j+1)) (s.data.toList.drop (j+1)) 0 h;rw[List.take_append_drop]at ix;have cH:=fun W=>lC s[j] W;unfold Ce Lz.iN Lz.oT at cH;have jh:=jB s[j];unfold Lz.iN at jh;generalize Gy:Lz.iC s[j]=xv at cH jF jh;have GF:=Ih jF;have Oh:=Ih ix;clear jF ix gu hg Gy;cases xv with
     | none=>
       have kJ:Hid (Lz.fB B 0 s.data.toList=none):=by show _=_;exact Oh.out GF.out
       go_wp2_with fail
       with_reducible refine(cH _).mono ?_
       rintro e w' ⟨rfl,rfl⟩
       go_wp2
       go_ret2
       rw[HU.out,kJ.out];exact d8 hb
     | some d=>
       by_cases KP:B<=d
       ·have kJ:Hid (Lz.fB B 0 s.data.toList=none):=by show _=_;exact Oh.out (GF.out.trans (if_pos KP))
        have Gr:(B:Int)<=(d:Int):=by omega
        go_wp2_with fail
        with_reducible refine(cH _).mono ?_
        rintro e w' ⟨rfl,rfl⟩
        go_wp2
        go_ret2
        rw[HU.out,kJ.out];exact d8 hb
       ·have K0:Hid (Lz.fB B 0 (s.data.toList.take (j+1))=some (min (n*B+d) 1099511627776)):=by show _=_;exact GF.out.trans (if_neg KP)
        have Gr:¬(B:Int)<=(d:Int):=by omega
        go_wp2_with fail
        with_reducible refine(cH _).mono ?_
        rintro e w' ⟨rfl,rfl⟩
        go_wp2
        go_roundw
        case rel=>exact⟨j+1,_,by omega,Nat.min_le_right _ _,congrArg _ (pL n B d hn y8.2 jh),by go_num,K0.out,hb⟩
        case measure=>simp[intOf];omega
    ·have WM:j=s.size:=by omega
     have kJ:Hid (Lz.fB B 0 s.data.toList=some n):=by
      show _=_;have:=hN.out;rw[WM,List.take_of_length_le (by rw[ac];exact Nat.le_refl _)]at this;exact this
     go_wp2
     go_ret2
     rw[HU.out,kJ.out];exact tG hb hn
 ·have R8:((s[0].toNat:Int)==48)=false:=by
   rw[aB (by omega)]at IP;exact(tT s[0] 48).trans (beq_eq_false_iff_ne.2 (fun h=>IP (congrArg some h)))
  have HA:Hid (dW s.data.toList=(10,s.data.toList)):=by
   show _=_;unfold dW;rw[if_neg (by rw[<-gF,hq];decide),if_neg (fun h=>IP h.2)]
  have XU:s.size<=s.size+1:=Nat.le_succ _;subst hq;clear gF IP;obtain⟨B,hB⟩:∃B:Nat,B=10:=⟨_,rfl⟩;rw[show(10:Nat)=B from hB.symm]at HA;have y8:1<=B/\B<=16:=by omega
  go_upto_region 7 with fail
  rw[show Value.int .i64 10=Value.int .i64 (B:Int) by rw[hB];rfl];have qL:=av;generalize w1=wx at qL⊢;clear hB R8 av DD;by_cases hz:s.size=0
  ·have he:=aN hz
   have HN:Hid (pZ (dW s.data.toList)=none):=by
    show _=_;rw[HA.out];have:s.data.toList=[]:=List.length_eq_zero_iff.1 (by rw[ac];exact hz);unfold pZ;rw[this];rfl
   first
    | (exfalso;omega)
    | (go_wp2;go_ret2;rw[HN.out];exact d8 qL)
  ·have he:=aG (s:=s) (by omega)
   have HU:Hid (pZ (dW s.data.toList)=Lz.fB B 0 s.data.toList):=by
    show _=_;rw[HA.out];have:s.data.toList≠[]:=by intro h;exact hz (by rw[<-ac,h];rfl)
    exact if_neg this
   go_wp2_with fail
   go_loopw [7,39] (fun a i wr=>∃j n:Nat,j<=s.size/\n<=1099511627776/\a=.int .u64 n/\i=.int .i64 j/\Hid (Lz.fB B 0 (s.data.toList.take j)=some n)/\Below w.heap.size w wr) (fun _ i _=>s.size-(intOf i).toNat)
   case atStart=>exact⟨0,0,Nat.zero_le _,by omega,rfl,rfl,Ih rfl,qL⟩
   case round=>
    clear qL;obtain⟨j,n,hj,hn,rfl,rfl,hN,hb⟩:=hrel;by_cases aL:j<s.size
    ·have hg:=aB (s:=s) aL;have gu:s.data.toList.take (j+1)=s.data.toList.take j++[s[j]]:=by rw[List.take_add_one,hg];rfl
     have jF:=Lz.jJ B (s.data.toList.take j) 0 s[j];rw[<-gu,hN.out]at jF;have ix:=fun h=>Lz.fT B (s.data.toList.take (j+1)) (s.data.toList.drop (j+1)) 0 h;rw[List.take_append_drop]at ix;have cH:=fun W=>lC s[j] W;unfold Ce Lz.iN Lz.oT at cH;have jh:=jB s[j];unfold Lz.iN at jh;generalize Gy:Lz.iC s[j]=xv at cH jF jh;have GF:=Ih jF;have Oh:=Ih ix;clear jF ix gu hg Gy;cases xv with
     | none=>
       have kJ:Hid (Lz.fB B 0 s.data.toList=none):=by show _=_;exact Oh.out GF.out
       go_wp2_with fail
       with_reducible refine(cH _).mono ?_
       rintro e w' ⟨rfl,rfl⟩
       go_wp2
       go_ret2
       rw[HU.out,kJ.out];exact d8 hb
     | some d=>
       by_cases KP:B<=d
       ·have kJ:Hid (Lz.fB B 0 s.data.toList=none):=by show _=_;exact Oh.out (GF.out.trans (if_pos KP))
        have Gr:(B:Int)<=(d:Int):=by omega
        go_wp2_with fail
        with_reducible refine(cH _).mono ?_
        rintro e w' ⟨rfl,rfl⟩
        go_wp2
        go_ret2
        rw[HU.out,kJ.out];exact d8 hb
       ·have K0:Hid (Lz.fB B 0 (s.data.toList.take (j+1))=some (min (n*B+d) 1099511627776)):=by show _=_;exact GF.out.trans (if_neg KP)
        have Gr:¬(B:Int)<=(d:Int):=by omega
        go_wp2_with fail
        with_reducible refine(cH _).mono ?_
        rintro e w' ⟨rfl,rfl⟩
        go_wp2
        go_roundw
        case rel=>exact⟨j+1,_,by omega,Nat.min_le_right _ _,congrArg _ (pL n B d hn y8.2 jh),by go_num,K0.out,hb⟩
        case measure=>simp[intOf];omega
    ·have WM:j=s.size:=by omega
     have kJ:Hid (Lz.fB B 0 s.data.toList=some n):=by
      show _=_;have:=hN.out;rw[WM,List.take_of_length_le (by rw[ac];exact Nat.le_refl _)]at this;exact this
     go_wp2
     go_ret2
     rw[HU.out,kJ.out];exact tG hb hn
end Go.Proofs.YtibcmemcfjhgmaaGreatDoor
namespace Lz
open Go
theorem KC (c:UInt8) (l:Bs):aD c l≠[]:=by
 cases l with
 | nil=>simp[aD]
 | cons b r=>
   rw[aD];split
   ·simp
   ·split<;>simp
theorem dropWhile_nil {p:UInt8->Bool}:∀{l:Bs},l.dropWhile p=[]↔l.all p=true
 | []=>by simp
 | a::r=>by
   rw[List.dropWhile_cons,List.all_cons];cases h:p a
   ·simp
   ·simpa using dropWhile_nil (p:=p) (l:=r)
theorem Ke {l cs:Bs}:Lib.trimS l cs=[]↔l.all (cs.contains ·)=true:=by
 unfold Lib.trimS Lib.trimLeftS Lib.trimRightS;rw[dropWhile_nil];constructor
 ·intro h;rw[List.all_reverse]at h
  have h2:∀r:Bs,(r.dropWhile (cs.contains ·)).all (cs.contains ·)=true->r.all (cs.contains ·)=true:=by
   intro r
   induction r with
   | nil=>simp
   | cons a r ih=>
     rw[List.dropWhile_cons,List.all_cons];cases h:cs.contains a
     ·simp only[Bool.false_eq_true,if_false];rw[List.all_cons,h];simp
     ·simpa using ih
  have:=h2 l.reverse h
  rwa [List.all_reverse]at this
 ·intro h;rw[List.all_reverse];have h2:∀r:Bs,r.all (cs.contains ·)=true->(r.dropWhile (cs.contains ·)).all (cs.contains ·)=true:=fun r hr=>by rw[dropWhile_nil.2 hr];rfl
  exact h2 _ (by rw[List.all_reverse];exact h)
theorem lY (c:UInt8):([48,49,50,51,52,53,54,55,56,57]:Bs).contains c=aQ c:=by revert c;exact aA (by decide +kernel)
end Lz
namespace Go.Proofs.YtibcmemcfjhgmaaGreatDoor
open Go.RowKit
structure fV (w:World) (b:Nat) (xs:List ByteArray):Prop where
 lt:b<w.heap.size
 cells:∀j x,xs[j]? =some x->w.cell? ⟨b,j,none⟩=some (.string x)
theorem fV.below {w w':World} {b:Nat} {xs:List ByteArray} (h:fV w b xs) (hb:Below w.heap.size w w'):fV w' b xs:=
 ⟨Nat.lt_of_lt_of_le h.lt hb.size,fun j x hj=>by rw[hb.cell (p:=⟨b,j,none⟩) h.lt];exact h.cells j x hj⟩
theorem fV.take {w:World} {b:Nat} {xs:List ByteArray} (h:fV w b xs) (n:Nat):fV w b (xs.take n):=
 ⟨h.lt,fun j x hj=>h.cells j x (by rw[List.getElem?_take]at hj;split at hj<;>simp_all)⟩
def Yu (ls:List (List UInt8)) (m:Nat) (w:World) (e:Ending) (w':World):Prop:=
 ∃(xs:List ByteArray) (b cap:Nat),e=.returned (.slice (some ⟨b,0,none⟩) xs.length cap)/\xs.length<=cap/\1<=xs.length/\xs.length<=m+1/\Hid (xs.map (·.data.toList)=ls)/\(∀x,x∈xs->x.size<=m)/\fV w' b xs/\Below w.heap.size w w'
theorem vZ (s:ByteArray) (hs:s.size<=1048576) (w:World) (hE:eU w):Calls Tryz.prog 303 #[.string s] w (Yu (Lz.dn s.data.toList) s.size w):=by
 have cS:=Ih (zy s 46 (by omega) w hE);go_enter Tryz.func303,Tryz.ntmps303
 go_wp2_with fail
 refine(cS.out).mono ?_;rintro e w1 ⟨xs,rfl,mc,me⟩;have iB:Hid (Lz.aD 46 s.data.toList=xs.map (·.data.toList)):=Ih mc.out.symm
 have aO:xs.length<=s.size+1:=by
  have h:=Lz.iR 46 s.data.toList;rw[<-mc.out,List.length_map,ac]at h;omega
 have AG:1<=xs.length:=by
  have:=Lz.KC 46 s.data.toList;rw[<-mc.out]at this;cases xs with
  | nil=>simp at this
  | cons _ _=>simp
 have fu:∀x,x∈xs->x.size<=s.size:=fun x hx=>lS mc.out hx;have av:Below w.heap.size w w1:=by rw[me.out];exact(Below.refl _ w).alloc (Nat.le_refl _) _
 have hT:fV w1 w.heap.size xs:=by
  refine⟨by rw[me.out];simp,fun j x hj=>?_⟩;rw[me.out];have:=World.cell?_alloc_mark w (xs.map Value.string).toArray 9 (0,0) j;rw[this]
  simp[hj]
 obtain⟨x,hx⟩:∃x,xs[xs.length-1]? =some x:=⟨_,List.getElem?_eq_getElem (by omega)⟩;have DO:=hT.cells _ _ hx;have iK:xs.getLast? =some x:=by rw[List.getLast?_eq_getElem?];exact hx
 have HT:=Ih hT;have Sn:=Ih fu;have Hl:=Ih iK;clear cS me mc hT fu hx iK;obtain⟨n,hn⟩:∃n,n=xs.length-1:=⟨_,rfl⟩;rw[<-hn]at DO;have DN:(xs.length:Int)-1=n:=by omega
 have hnl:n<xs.length:=by omega
 have y6:(n:Int)<xs.length:=by omega
 have hn3:(n:Int)<=xs.length:=by omega
 have wN:(0:Int)<=n:=by omega
 have Hn:=Ih hn;clear hn;by_cases h1:1<xs.length
 ·have TP:(0:Int)<n:=by omega
  by_cases hz:x.size=0
  ·have he:=aN hz
   have HD:Hid ((xs.take n).map (·.data.toList)=Lz.dn s.data.toList):=by
    show _=_;unfold Lz.dn
    rw[iB.out,if_pos ⟨by simpa using h1,by
     rw[List.getLast?_map,Hl.out];show some x.data.toList=some [];rw[List.length_eq_zero_iff.1 (show x.data.toList.length=0 by rw[ac];exact hz)]⟩]
    rw[List.dropLast_eq_take,List.length_map,List.map_take,Hn.out]
   clear iB
   go_wp2
   go_ret;refine⟨xs.take n,w.heap.size,xs.length,?_,by simp;omega,by simp;omega,by simp;omega,HD,fun y hy=>Sn.out y (List.mem_of_mem_take hy),HT.out.take n,av⟩;rw[List.length_take,Nat.min_eq_left (by omega)];rfl
  ·have he:=aG (s:=x) (by omega)
   have HD:Hid (xs.map (·.data.toList)=Lz.dn s.data.toList):=by
    show _=_;unfold Lz.dn;rw[iB.out,if_neg];rintro⟨_,h⟩;rw[List.getLast?_map,Hl.out]at h;have:x.data.toList=[]:=Option.some.inj h;exact hz (by rw[<-ac,this];rfl)
   clear iB
   go_wp2
   go_ret;exact⟨xs,w.heap.size,xs.length,rfl,Nat.le_refl _,AG,aO,HD,Sn.out,HT.out,av⟩
 ·have TP:¬(0:Int)<n:=by omega
  have HD:Hid (xs.map (·.data.toList)=Lz.dn s.data.toList):=by
   show _=_;unfold Lz.dn;rw[iB.out,if_neg];rintro⟨h,_⟩;exact h1 (by simpa using h)
  clear iB
  go_wp2
  go_ret;exact⟨xs,w.heap.size,xs.length,rfl,Nat.le_refl _,AG,aO,HD,Sn.out,HT.out,av⟩
theorem Bw (s:ByteArray) (hs:s.size<=1073741824) (w:World):
  Calls Tryz.prog 304 #[.string s,.string ⟨#[48,49,50,51,52,53,54,55,56,57]⟩] w (dX (Lib.trimS s.data.toList [48,49,50,51,52,53,54,55,56,57]) w):=
 (Any.strings_Trim_laid Tryz.lays160 (by kernel_rfl) s ⟨#[48,49,50,51,52,53,54,55,56,57]⟩ w (by omega) (by decide) (ascii_of_all (by decide))).mono fun _ _ ⟨h1,h2⟩=>⟨_,h1,Ih rfl,h2⟩
theorem Aw {xs:List ByteArray} {ls:List (List UInt8)} {x:ByteArray} (h:xs.map (·.data.toList)=ls) (hx:xs[xs.length-1]? =some x):ls.getLastD []=x.data.toList:=by
 rw[<-h,List.getLastD_eq_getLast?,List.getLast?_map,List.getLast?_eq_getElem?,hx];rfl
theorem zu (s:ByteArray) (hs:s.size<=1048576) (w:World) (hE:eU w):Calls Tryz.prog 276 #[.string s] w (a5 (Lz.dy s.data.toList) w):=by
 have cL:=Ih (vZ s hs w hE);go_enter Tryz.func276,Tryz.ntmps276
 go_wp2_with fail
 refine(cL.out).mono ?_;rintro e w1 ⟨xs,b,cap,rfl,jD,AG,aO,DU,fu,hT,av⟩;obtain⟨x,hx⟩:∃x,xs[xs.length-1]? =some x:=⟨_,List.getElem?_eq_getElem (by omega)⟩;have DO:=hT.cells _ _ hx;have Py:=fu x (List.mem_of_getElem? hx);have iK:=Aw DU.out hx;obtain⟨n,hn⟩:∃n,n=xs.length-1:=⟨_,rfl⟩;rw[<-hn]at DO;have DN:(xs.length:Int)-1=n:=by omega
 have y6:(n:Int)<xs.length:=by omega
 have wN:(0:Int)<=n:=by omega
 obtain⟨q,hq⟩:∃q,q=Lz.dj Lz.aQ x.data.toList:=⟨_,rfl⟩;have hN:Lz.dy s.data.toList=(q||(Lz.qY x.data.toList).isSome):=by unfold Lz.dy;rw[iK,hq]
 have HN:=Ih hN;have Hq:=Ih hq;clear hN iK hq hn hx DU fu hT cL;have cN:=Ih (fun W=>uZ x (by omega) W)
 go_upto_region 3 with fail
 go_cut [21] (fun s21 wx=>s21=.bool q/\Below w.heap.size w wx)
 case first=>
  by_cases hz:x.size=0
  ·have he:=aN hz
   have HQ:Hid (q=false):=by
    show _=_;rw[Hq.out,List.length_eq_zero_iff.1 (show x.data.toList.length=0 by rw[ac];exact hz)];rfl
   go_wp2_with fail
   go_meet;exact⟨by rw[HQ.out],av⟩
  ·have he:=aG (s:=x) (by omega)
   go_wp2_with fail
   refine(Bw x (by omega) _).mono ?_;rintro e w2 ⟨t,rfl,ht,aE⟩
   have hqt:q=t.toList.isEmpty:=by
    rw[Hq.out,Lib.toList_data,ht.out];unfold Lz.dj;have du:x.data.toList≠[]:=by intro h;exact hz (by rw[<-ac,h];rfl)
    rw[Bool.eq_iff_iff];simp only[Bool.and_eq_true,List.isEmpty_iff,Lz.Ke,Bool.not_eq_true',List.isEmpty_eq_false_iff];constructor
    ·rintro⟨h,_⟩;rw[List.all_eq_true]at h⊢;exact fun c hc=>(Lz.lY c).trans (h c hc)
    ·intro h;rw[List.all_eq_true]at h;exact⟨List.all_eq_true.2 (fun c hc=>(Lz.lY c).symm.trans (h c hc)),du⟩
   have HQ:=Ih hqt;clear hqt
   go_wp2_with fail
   go_meet;exact⟨by rw[HQ.out],ae av aE⟩
 case rest=>
  obtain⟨rfl,Su⟩:=hcut;cases q
  ·go_wp2_with fail
   refine(cN.out _).mono ?_;rintro e w2 ⟨aE,hr⟩;cases ho:Lz.qY x.data.toList with
   | none=>
     rw[ho]at hr;obtain⟨v,rfl,hF⟩:=hr;obtain⟨t0,x0,rfl⟩:=hF.iface;have kJ:Hid (Lz.dy s.data.toList=false):=by show _=_;rw[HN.out,ho];rfl
     clear ho
     go_wp2
     go_ret;exact⟨by rw[kJ.out];rfl,ae Su aE⟩
   | some n=>
     rw[ho]at hr;obtain⟨rfl,_⟩:=hr;have kJ:Hid (Lz.dy s.data.toList=true):=by show _=_;rw[HN.out,ho];rfl
     clear ho
     go_wp2
     go_ret;exact⟨by rw[kJ.out];rfl,ae Su aE⟩
  ·have kJ:Hid (Lz.dy s.data.toList=true):=by show _=_;rw[HN.out];rfl
   go_wp2
   go_ret;exact⟨by rw[kJ.out];rfl,Su⟩
theorem Hw:(Tryz.prog.info? 9).map (fun i=>(i.zero,i.size,i.bytes))=some (some (.string ⟨#[]⟩),1,16):=by kernel_rfl
theorem qE (sep:List UInt8):∀ls:List (List UInt8),Lib.join ls sep=Lz.fE sep ls
 | []=>rfl
 | [x]=>by simp[Lib.join,Lz.fE]
 | x::y::r=>by
   have:=qE sep (y::r)
   simp[Lib.join,Lz.fE]at this⊢
   rw[<-this]
theorem dh {w w1:World} {base:Nat} {e:TypeId} {size n:Nat} {v:Value} {xs:List Value} (h:w.ownsRow base e size v n xs) (hb:Below w.heap.size w w1):w1.ownsRow base e size v n xs:=
 h.kept (row:=none) (by constructor<;>first |exact hb.os|exact hb.tape|exact hb.output|exact hb.size|exact fun k hk _=>hb.block k hk) (by cases hv:v.ownBlock<;>simp)
theorem aaV (c:UInt8):(Lib.decDigits c.toNat).length<=3:=by revert c;exact Lz.aA (by decide +kernel)
theorem xK {w:World} {base:Nat} {v:Value} {n:Nat} {xs:List ByteArray} (h:w.ownsRow base 9 1 v n (xs.map Value.string)) (hn:1<=n):
  ∃b cap,v=.slice (some ⟨b,0,none⟩) xs.length cap/\xs.length<=cap/\fV w b xs:=by
 have hl:xs.length=n:=by have:=h.1;simpa using this
 rcases h.2 with⟨rfl,h0⟩|⟨g,cap,dx,rfl,mu,hg,Uf,tj,iF,gu⟩
 ·omega
 ·refine⟨g,cap,by rw[hl],by omega,(Array.getElem?_eq_some_iff.1 hg).1,fun j x hj=>?_⟩;have h2:(xs.map Value.string)[j]? =some (.string x):=by simp[hj]
  rw[<-gu,List.getElem?_take]at h2;split at h2
  ·simp only[World.cell?,hg];simpa using h2
  ·cases h2
theorem Bd (sep:List UInt8) (m:Nat):∀ls:List (List UInt8),(∀x,x∈ls->x.length<=m)->(Lib.join ls sep).length<=ls.length*(m+sep.length):=by
 intro ls;rw[qE]
 induction ls with
 | nil=>intro _;simp[Lz.fE]
 | cons x r ih=>
   intro h;have hx:=h x (by simp);have hr:=ih (fun y hy=>h y (by simp[hy]));cases r with
   | nil=>simp[Lz.fE];omega
   | cons y r=>
     simp only[Lz.fE,List.length_append,List.length_cons,Nat.succ_mul]at hr⊢;omega
theorem NT (b cap:Nat) (xs:List ByteArray) (sep:ByteArray) (w:World) (hT:fV w b xs) (hc:xs.length<=cap) (hn:xs.length<=1000000) (m:Nat) (hm:m<=1000000) (hx:∀x,x∈xs->x.size<=m) (hs:sep.size<=10):
  Calls Tryz.prog 250 #[.slice (some ⟨b,0,none⟩) xs.length cap,.string sep] w (dX (Lz.fE sep.data.toList (xs.map (·.data.toList))) w):=by
 have hj:=Bd sep.data.toList m (xs.map (·.data.toList)) (by
  intro y hy;obtain⟨x,hx',rfl⟩:=List.mem_map.1 hy;rw[ac];exact hx x hx')
 rw[List.length_map,ac]at hj;have hb:xs.length*(m+sep.size)<=1000000*1000010:=Nat.mul_le_mul hn (by omega);have h:=Tryz.strings_Join b 0 cap xs sep w (fun j x hj=>by rw[Nat.zero_add];exact hT.cells j x hj) hT.lt (by omega) hc (by omega);exact h.mono fun e w' ⟨h1,h2⟩=>⟨_,h1,Ih (by rw[<-qE]),h2⟩
theorem Eh (v:Value) (l:List UInt8) (w:World) (hE:eU w) (hl:SlB w v l) (aO:l.length<=16) (XQ:1<=l.length):Calls Tryz.prog 334 #[v] w (dX (Lz.eR (l.map (·.toNat))) w):=by
 obtain⟨i0,hi,eZ,d9,eo⟩:=info_parts Hw;obtain⟨a,c,rfl,hl9,aW⟩:=hl;have Hc:=Ih aW;clear aW;have h0:=World.ownsRow_nil w w.heap.size 9 1;go_enter Tryz.func334,Tryz.ntmps334
 go_wp2
 go_loopw [3,8] (fun a i wr=>∃(j:Nat) (xs:List ByteArray),j<=l.length/\i=.int .i64 j/\Hid (xs.map (·.data.toList)=(l.take j).map (fun c=>Lib.decDigits c.toNat))/\wr.ownsRow w.heap.size 9 1 a j (xs.map Value.string)/\Below w.heap.size w wr) (fun _ i _=>l.length-(intOf i).toNat)
 case atStart=>exact⟨0,[],Nat.zero_le _,rfl,Ih rfl,h0,Below.refl _ w⟩
 case round=>
  clear h0;obtain⟨j,xs,hj,rfl,mc,ai,hb⟩:=hrel;have fu:=hb.size;have bi:=Ih ai;by_cases aL:j<l.length
  ·have hg:l[j]? =some l[j]:=List.getElem?_eq_getElem aL;obtain⟨B,off,rfl,hBl,kL⟩:=Hc.out j l[j] hg;have aax:wr.cell? ⟨B,off+j,none⟩=some (.int .u8 l[j].toNat):=by rw[hb.cell (p:=⟨B,off+j,none⟩) hBl];exact kL
   have gu:l.take (j+1)=l.take j++[l[j]]:=by rw[List.take_add_one,hg];rfl
   generalize l[j]=c at *;have Wp:=Ih gu;have TO:=ff c;clear gu hg kL ai;have lW:(0:Int)<=(c.toNat:Int):=by omega
   go_wp2_with fail
   refine(vB (c.toNat:Int) (by omega) (by omega) _ (hE.below hb)).mono ?_;rintro e w1 ⟨t,rfl,ht,av⟩;have ir:=Ih (dh bi.out av);have aE:Below w.heap.size w w1:=ae hb av;have ns:=aE.size;have hst:xs.map Value.string++[Value.string t]=(xs++[t]).map Value.string:=by simp
   have iA:=Ih hst
   have VZ:Hid ((xs++[t]).map (·.data.toList)=(l.take (j+1)).map (fun c=>Lib.decDigits c.toNat)):=by
    show _=_;rw[Wp.out,List.map_append,List.map_append,mc.out,List.map_singleton,List.map_singleton,ht.out,Lib.itoa_nonneg]
   clear hst Wp
   go_wp2_with (at_builtin;refine wpList_append_own _ rfl (.tmp 12) (.tmp 16) 22 rfl w.heap.size 9 i0 (.string ⟨#[]⟩) 1 16 Tryz.underlying22 hi eZ d9 eo rfl (by decide) _ _ _ rfl (ir.out.alloc _) ⟨w1.heap.size,0,none⟩ 1 1 [.string t] rfl rfl (aJ _ _ _) (by simp[Value.oneCell']) (by unfold maxLen;omega) (by omega) (by simp;omega) ?_)
   intro v' w3 aS bp _;have bj:=Below.grown1 aE ir.out bp ns (Nat.le_refl _);rw[iA.out]at aS;have dZ:=Ih aS;clear aS bp
   go_wp2
   go_roundw
   case rel=>exact⟨j+1,xs++[t],by omega,by go_num,VZ.out,dZ.out,bj⟩
   case measure=>simp[intOf];omega
  ·have mq:j=l.length:=by omega
   obtain⟨b,cap,rfl,jD,hT⟩:=xK ai (by omega);have DH:xs.length=j:=by have:=ai.1;simpa using this
   have Z1:∀x,x∈xs->x.size<=3:=by
    intro x hx;have h1:x.data.toList∈(l.take j).map (fun c=>Lib.decDigits c.toNat):=by rw[<-mc.out];exact List.mem_map_of_mem hx
    obtain⟨c,_,hc⟩:=List.mem_map.1 h1;rw[<-ac,<-hc];exact aaV c
   have HX:=Ih Z1;have HT:=Ih hT;have V6:=Ih jD;have hxn:Hid (xs.length<=1000000):=by show _<=_;omega
   have Hj:=Ih mq;have Ll:¬j<l.length:=aL;clear Z1 hT ai bi DH mq jD aL
   go_wp2_with fail
   with_reducible refine(NT b cap xs ⟨#[46]⟩ _ HT.out V6.out hxn.out 3 (by omega) HX.out (by decide)).mono ?_
   rintro e w1 ⟨u,rfl,hu,av⟩
   go_wp2
   go_ret;refine⟨u,rfl,Ih ?_,ae hb av⟩;rw[hu.out,mc.out,Hj.out,List.take_length];unfold Lz.eR;rw[List.map_map];rfl
def RPu (l:List UInt8) (w:World) (e:Ending) (w':World):Prop:=
 Below w.heap.size w w'/\((∃u,Lib.parseUintB 8 l=.ok u/\e=.returned (.tuple #[.int .u64 u,.nilIface]))\/((∀u,Lib.parseUintB 8 l≠.ok u)/\∃n t p,e=.returned (.tuple #[.int .u64 n,.iface t p])))
theorem BD (s:ByteArray) (hs:s.size<=1073741824) (w:World) (hE:eU w):Calls Tryz.prog 337 #[.string s,.int .i64 10,.int .i64 8] w (RPu s.data.toList w):=by
 by_cases ho:∃u,Lib.parseUintB 8 s.data.toList=.ok u
 ·obtain⟨u,hu⟩:=ho;refine(Tryz.strconv_ParseUint_10_at8_ok s (by omega) u hu w).mono fun e w' ⟨he,hw⟩=>⟨?_,Or.inl ⟨u,hu,he⟩⟩;rcases hw with rfl|rfl
  ·exact Below.refl _ _
  ·exact Lib.bytesWorld_below _ _ _
 ·have hn:∀u,Lib.parseUintB 8 s.data.toList≠.ok u:=fun u h=>ho ⟨u,h⟩;by_cases hr:Lib.parseUintB 8 s.data.toList=.range
  ·obtain⟨te,pe,hv⟩:=hE.rng;refine(Tryz.strconv_ParseUint_10_at8_range s (by omega) hr (.iface te pe) w hv (Or.inr ⟨te,pe,rfl⟩)).mono ?_;rintro e w' ⟨N,he,_,_,hb⟩;exact⟨hb,Or.inr ⟨hn,_,_,_,he⟩⟩
  ·have hx:Lib.parseUintB 8 s.data.toList=Lib.parseUintB 8 []:=by
    cases h:Lib.parseUintB 8 s.data.toList
    all_goals first |rfl|exact absurd h (hn _)|exact absurd h hr
   obtain⟨te,pe,hv⟩:=hE.syn;refine(Tryz.strconv_ParseUint_10_at8_syntax s (by omega) hx (.iface te pe) w hv (Or.inr ⟨te,pe,rfl⟩)).mono ?_;rintro e w' ⟨N,he,_,_,hb⟩;exact⟨hb,Or.inr ⟨hn,_,_,_,he⟩⟩
theorem uH {f:List UInt8->Option Nat} {l:List (List UInt8)} {ls:List Nat} {x:List UInt8} {n:Nat} (h:l.mapM f=some ls) (hx:f x=some n):(l++[x]).mapM f=some (ls++[n]):=by
 rw[List.mapM_append,h];simp[hx]
theorem xS {f:List UInt8->Option Nat} {l:List (List UInt8)} {x:List UInt8} (hm:x∈l) (hx:f x=none):l.mapM f=none:=by
 obtain⟨a,b,rfl⟩:=List.append_of_mem hm;rw[List.mapM_append,List.mapM_cons,hx];cases a.mapM f<;>simp
def u8n (l:List Nat):List Value:=l.map fun n:Nat=>Value.int .u8 (n:Int)
theorem vY (l:List Nat) (n:Nat):u8n l++[.int .u8 (n:Int)]=u8n (l++[n]):=by simp[u8n]
def S1 (o:Option (List Nat)) (w:World) (e:Ending) (w':World):Prop:=
 Below w.heap.size w w'/\match o with
  | some l=>l.length=4/\∃v base,e=.returned (.tuple #[v,.nilIface])/\w.heap.size<=base/\w'.ownsRow base 5 1 v 4 (u8n l)
  | none=>∃v,e=.returned (.tuple #[.slice none 0 0,v])/\dv w' 72 1 v
theorem oY {w wx:World} {s:ByteArray} {t:TypeId} {fr:Nat×Nat} (hb:Below w.heap.size w wx):
  S1 none w (.returned (.tuple #[.slice none 0 0,.iface 321 (.pointer (some ⟨wx.heap.size,0,none⟩))])) (wx.alloc (.cells #[.string s,.iface 39 (.int .i64 72)] t fr)):=
 ⟨hb.alloc hb.size _,_,rfl,fR rfl⟩
theorem wQ {l:List UInt8} {u:Nat} (h:Lib.parseUintB 8 l=.ok u):u<=255:=Lib.parseUintB_le h
theorem JV (s:ByteArray) (hs:s.size<=1048576) (w:World) (hE:eU w):Calls Tryz.prog 332 #[.string s] w (S1 (Lz.gJ s.data.toList) w):=by
 obtain⟨i0,hi,eZ,d9,eo⟩:=info_parts pR;have cS:=Ih (zy s 46 (by omega) w hE);go_enter Tryz.func332,Tryz.ntmps332
 go_wp2_with fail
 refine(cS.out).mono ?_;rintro e w1 ⟨xs,rfl,mc,me⟩
 have aO:xs.length<=s.size+1:=by
  have h:=Lz.iR 46 s.data.toList;rw[<-mc.out,List.length_map,ac]at h;omega
 have fu:∀x,x∈xs->x.size<=s.size:=fun x hx=>lS mc.out hx;have av:Below w.heap.size w w1:=by rw[me.out];exact(Below.refl _ w).alloc (Nat.le_refl _) _
 have hT:fV w1 w.heap.size xs:=by
  refine⟨by rw[me.out];simp,fun j x hj=>?_⟩;rw[me.out];have:=World.cell?_alloc_mark w (xs.map Value.string).toArray 9 (0,0) j;rw[this]
  simp[hj]
 have HT:=Ih hT;have Sn:=Ih fu
 have hB:Hid (Lz.gJ s.data.toList=match (xs.map (·.data.toList)).mapM Lz.kx with|some l=>if l.length=4 then some l else none|none=>none):=by
  show _=_;rw[mc.out];rfl
 have Ss:=av.size;clear cS me hT fu;have hst:=World.ownsRow_nil w1 w1.heap.size 5 1
 go_wp2_with fail
 go_loopw [4,12] (fun a i wr=>∃(j:Nat) (ls:List Nat),j<=xs.length/\i=.int .i64 j/\Hid (((xs.take j).map (·.data.toList)).mapM Lz.kx=some ls)/\ls.length=j/\wr.ownsRow w1.heap.size 5 1 a j (u8n ls)/\Below w1.heap.size w1 wr) (fun _ i _=>xs.length-(intOf i).toNat)
 case atStart=>exact⟨0,[],Nat.zero_le _,rfl,Ih rfl,rfl,hst,Below.refl _ w1⟩
 case round=>
  clear hst;obtain⟨j,ls,hj,rfl,DU,Ll,ai,hb⟩:=hrel;have aC:=ae av hb;have fu:=hb.size;have bi:=Ih ai;by_cases aL:j<xs.length
  ·obtain⟨x,hx⟩:∃x,xs[j]? =some x:=⟨_,List.getElem?_eq_getElem aL⟩;have DO:=(HT.out.below hb).cells _ _ hx;have Py:=Sn.out x (List.mem_of_getElem? hx);have VW:Hid (x.data.toList∈xs.map (·.data.toList)):=Ih (List.mem_map_of_mem (List.mem_of_getElem? hx));have gu:xs.take (j+1)=xs.take j++[x]:=by rw[List.take_add_one,hx];rfl
   have Wp:=Ih gu;clear gu hx ai
   go_wp2_with fail
   refine(BD x (by omega) _ (hE.below aC)).mono ?_;rintro e w2 ⟨aE,⟨u,hu,rfl⟩|⟨hn,n,t,p,rfl⟩⟩
   ·have hu8:=wQ hu;have Hu:=Ih hu;clear hu;have eC:=ae aC aE
    go_wp2_with fail
    refine(vB (u:Int) (by omega) (by omega) _ (hE.below eC)).mono ?_;rintro e w3 ⟨d,rfl,hd,bj⟩;have gw:=ae eC bj;have dZ:=Ih (dh (dh bi.out aE) bj);have R3:=gw.size;have mn:Below w1.heap.size w1 w3:=ae (ae hb aE) bj;have OH:=mn.size;have Xr:Hid (d.data.toList=Lib.decDigits u):=by show _=_;rw[hd.out,Lib.itoa_nonneg]
    have Xk:Hid (Lz.kx x.data.toList=if d.toList==x.toList then some u else none):=by
     show _=_
     have h1:Lz.kx x.data.toList=if Lib.decDigits u=x.data.toList then some u else none:=by
      unfold Lz.kx;rw[Hu.out]
     rw[h1,Lib.toList_data,Lib.toList_data,Xr.out];by_cases h:Lib.decDigits u=x.data.toList<;>simp[h]
    generalize hq:(d.toList==x.toList)=q at Xk;cases q
    ·have HB:Hid (Lz.gJ s.data.toList=none):=by
      show _=_;rw[hB.out,xS VW.out Xk.out]
     go_wp2
     go_ret2
     rw[HB.out];exact oY gw
    ·have abO:Hid (((xs.take (j+1)).map (·.data.toList)).mapM Lz.kx=some (ls++[u])):=by
      show _=_;rw[Wp.out,List.map_append];exact uH DU.out Xk.out
     go_wp2_with (at_builtin;refine wpList_append_own _ rfl (.tmp 34) (.tmp 37) 93 rfl w1.heap.size 5 i0 (.int .u8 0) 1 1 Tryz.underlying93 hi eZ d9 eo rfl (by decide) _ _ _ rfl (dZ.out.alloc _) ⟨w3.heap.size,0,none⟩ 1 1 [.int .u8 (u:Int)] rfl rfl (aJ _ _ _) (by simp[Value.oneCell']) (by unfold maxLen;omega) (by omega) (by simp;omega) ?_)
     intro v' w4 aS bp _;have eB:Below w1.heap.size w1 w4:=Below.grown1 mn dZ.out bp OH (Nat.le_refl _);rw[vY]at aS;have iL:=Ih aS;clear aS bp
     go_wp2
     go_roundw
     case rel=>exact⟨j+1,ls++[u],by omega,by go_num,abO.out,by simp[Ll],iL.out,eB⟩
     case measure=>simp[intOf];omega
   ·have HB:Hid (Lz.gJ s.data.toList=none):=by
     show _=_
     have h1:Lz.kx x.data.toList=none:=by
      unfold Lz.kx;split
      ·rename_i n' h;exact absurd h (hn _)
      ·rfl
     rw[hB.out,xS VW.out h1]
    clear hn
    go_wp2
    go_ret2
    rw[HB.out];exact oY (ae aC aE)
  ·have mq:j=xs.length:=by omega
   have AM:Hid (Lz.gJ s.data.toList=if j=4 then some ls else none):=by
    show _=_;have:=DU.out;rw[mq,List.take_length]at this;rw[hB.out,this];show(if ls.length=4 then some ls else none)=_;rw[Ll]
   obtain⟨a,c,rfl⟩:∃a c,u4=.slice a j c:=by
    rcases ai.2 with⟨rfl,h0⟩|⟨g,cap,dx,rfl,_⟩
    ·exact⟨none,0,by rw[h0]⟩
    ·exact⟨_,_,rfl⟩
   have Hjl:=Ih mq;have O6:¬j<xs.length:=aL;clear ai mq aL;by_cases h4:j=4
   ·have HB:Hid (Lz.gJ s.data.toList=some ls):=by show _=_;rw[AM.out,if_pos h4]
    have H4:=Ih h4;have h4b:((j:Int) != 4)=false:=by rw[h4];rfl
    clear h4
    go_wp2
    go_ret2
    rw[HB.out];refine⟨aC,by rw[Ll];exact H4.out,_,w1.heap.size,rfl,Ss,?_⟩;have:=bi.out;rw[H4.out]at this⊢;exact this
   ·have HB:Hid (Lz.gJ s.data.toList=none):=by show _=_;rw[AM.out,if_neg h4]
    have h4b:((j:Int) != 4)=true:=by simp;omega
    clear h4
    go_wp2
    go_ret2
    rw[HB.out];exact oY aC
end Go.Proofs.YtibcmemcfjhgmaaGreatDoor
