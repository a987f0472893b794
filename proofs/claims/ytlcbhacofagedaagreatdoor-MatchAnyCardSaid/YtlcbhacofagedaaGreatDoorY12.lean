/-
  hosts.fault and hosts.code: errors.As at a target of the type api.Errno, at an error that is a fault over a fault over a number at most.
-/
import Derived.Test.YtlcbhacofagedaaGreatDoorY07
import Derived.Test.YtlcbhacofagedaaGreatDoorY08
set_option maxHeartbeats 4000000
set_option maxRecDepth 100000
namespace Go.Proofs.YtlcbhacofagedaaGreatDoor
open Go.RowKit Go.Extern.Stop Go.Stop Go.Extern
theorem Er.valueOfP (t:Addr) (w:World):(ReflectliteValue.unpack (.iface 234 (.pointer (some t)))).run Tryz.prog w
 =.ok (.agg #[.pointer (some ⟨11,234,none⟩),.pointer (some ⟨w.heap.size,0,none⟩),.int .u64 150]) (w.alloc (.cells #[.pointer (some t)] 234)):=by kernel_rfl
theorem Er.typeP (a:Addr) (w:World):(ReflectliteValue.methodAny (ReflectliteValue.valueError "reflectlite.Value.Type" 0) (fun t _ _ _=>ReflectliteType.toType t) #[.agg #[.pointer (some ⟨11,234,none⟩),.pointer (some a),.int .u64 150]]).run Tryz.prog w
 =.ok (.iface 149 (.agg #[.pointer (some ⟨11,234,none⟩)])) w:=by kernel_rfl
theorem Er.kindP (w:World):((ReflectliteType.abiMethod fun t=>(fun a:Nat=>Value.int IntKind.u8 (a:Int)) <$> Rtype.kind t) #[.pointer (some ⟨11,234,none⟩)]).run Tryz.prog w=.ok (.int .u8 22) w:=by kernel_rfl
theorem Er.kindT (w:World):((ReflectliteType.abiMethod fun t=>(fun a:Nat=>Value.int IntKind.u8 (a:Int)) <$> Rtype.kind t) #[.pointer (some ⟨11,27,none⟩)]).run Tryz.prog w=.ok (.int .u8 2) w:=by kernel_rfl
theorem Er.partsP (a:Addr) (w:World):(ReflectliteValue.parts (.agg #[.pointer (some ⟨11,234,none⟩),.pointer (some a),.int .u64 150])).run Tryz.prog w=.ok (some (234,a,150)) w:=by kernel_rfl
theorem Er.isNilP (a p:Addr) (W:World) (ha:W.cell? a=some (.pointer (some p))):
  (ReflectliteValue.method (ReflectliteValue.valueError "reflectlite.Value.IsNil" 0) ReflectliteValue.isNil #[.agg #[.pointer (some ⟨11,234,none⟩),.pointer (some a),.int .u64 150]]).run Tryz.prog W=.ok (.bool false) W:=by
 rw[rlm];simp only[Sem.run_bind,Er.partsP,Result.andThen]
 simp[ReflectliteValue.isNil,loadVar,isAgg,underlying,Tryz.underlying234,ha,Result.andThen]
theorem Er.elemP (w:World):(ReflectliteType.method ReflectliteType.elem #[.agg #[.pointer (some ⟨11,234,none⟩)]]).run Tryz.prog w=.ok (.iface 149 (.agg #[.pointer (some ⟨11,27,none⟩)])) w:=by kernel_rfl
theorem Er.implementsT (w:World):(ReflectliteType.relation "Implements" ReflectliteType.implements_ #[.agg #[.pointer (some ⟨11,27,none⟩)],.iface 149 (.agg #[.pointer (some ⟨11,59,none⟩)])]).run Tryz.prog w=.ok (.bool true) w:=by kernel_rfl
theorem Er.typeOfT (v:Value) (w:World):(ReflectliteType.typeOf #[.iface 27 v]).run Tryz.prog w=.ok (.iface 149 (.agg #[.pointer (some ⟨11,27,none⟩)])) w:=by kernel_rfl
theorem Er.assignableT (w:World):(ReflectliteType.relation "AssignableTo" ReflectliteType.assignableTo #[.agg #[.pointer (some ⟨11,27,none⟩)],.iface 149 (.agg #[.pointer (some ⟨11,27,none⟩)])]).run Tryz.prog w=.ok (.bool true) w:=by kernel_rfl
theorem Er.valueOfT (n:Int) (w:World):(ReflectliteValue.unpack (.iface 27 (.int .i64 n))).run Tryz.prog w
 =.ok (.agg #[.pointer (some ⟨11,27,none⟩),.pointer (some ⟨w.heap.size,0,none⟩),.int .u64 130]) (w.alloc (.cells #[(.int .i64 n)] 27)):=by kernel_rfl
theorem Er.elemOfP (w:World):(Rtype.elem? 234).run Tryz.prog w=.ok (some 27) w:=by kernel_rfl
theorem Er.mkT (p:Addr) (w:World):(ReflectliteValue.mk 27 p ReflectliteValue.flagAddr).run Tryz.prog w=.ok (.agg #[.pointer (some ⟨11,27,none⟩),.pointer (some p),.int .u64 386]) w:=by kernel_rfl
theorem Er.elemVP (a p:Addr) (W:World) (ha:W.cell? a=some (.pointer (some p))):
  (ReflectliteValue.method (ReflectliteValue.valueError "reflectlite.Value.Elem" 0) ReflectliteValue.elem #[.agg #[.pointer (some ⟨11,234,none⟩),.pointer (some a),.int .u64 150]]).run Tryz.prog W
   =.ok (.agg #[.pointer (some ⟨11,27,none⟩),.pointer (some p),.int .u64 386]) W:=by
 rw[rlm];simp only[Sem.run_bind,Er.partsP,Result.andThen]
 simp[ReflectliteValue.elem,loadVar,isAgg,underlying,Tryz.underlying234,ha,Result.andThen,Er.elemOfP,Er.mkT]
theorem Er.partsTa (a:Addr) (w:World):(ReflectliteValue.parts (.agg #[.pointer (some ⟨11,27,none⟩),.pointer (some a),.int .u64 386])).run Tryz.prog w=.ok (some (27,a,386)) w:=by kernel_rfl
theorem Er.partsT (a:Addr) (w:World):(ReflectliteValue.parts (.agg #[.pointer (some ⟨11,27,none⟩),.pointer (some a),.int .u64 130])).run Tryz.prog w=.ok (some (27,a,128+2)) w:=by kernel_rfl
theorem Er.directT (w:World):(Rtype.directlyAssignable 27 27).run Tryz.prog w=.ok true w:=by kernel_rfl
theorem Er.setT (ta b:Addr) (n:Int) (jo:Value) (W:World) (hb:W.cell? b=some (.int .i64 n)) (ht:W.cell? ta=some jo) (hf:W.frozen? ta=false):
  (ReflectliteValue.set #[.agg #[.pointer (some ⟨11,27,none⟩),.pointer (some ta),.int .u64 386],.agg #[.pointer (some ⟨11,27,none⟩),.pointer (some b),.int .u64 130]]).run Tryz.prog W
   =.ok (.tuple #[]) (W.setCell ta (.int .i64 n)):=by
 rw[rls];simp only[Sem.run_bind,Er.partsTa,Er.partsT,Result.andThen]
 simp[ReflectliteValue.flagAddr,loadVar,isAgg,underlying,Tryz.underlying27,hb,Result.andThen,Er.directT,storeVar,Value.cells,storeCells,Addr.add]
 rw[run_store Tryz.prog W ta _ _ (by rfl)]
 simp[ht,hf]
def dE (w:World) (e:Int):Nat->Value->Prop
 | 0,v=>v=.iface 27 (.int .i64 e)
 | d+1,v=>∃(p:Nat) (u:Value),v=.iface 225 (.pointer (some ⟨p,0,none⟩))/\p<w.heap.size/\w.cell? ⟨p,1,none⟩=some u/\dE w e d u
theorem dE.below {w w':World} {e:Int} (hb:Below w.heap.size w w'):∀{d:Nat} {v:Value},dE w e d v->dE w' e d v
 | 0,_,h=>h
 | d+1,v,⟨p,u,h1,h2,h3,h4⟩=>⟨p,u,h1,Nat.lt_of_lt_of_le h2 hb.size,by rw[hb.cell (p:=⟨p,1,none⟩) h2];exact h3,dE.below hb h4⟩
theorem oN (p:Nat) (v:Value) (w:World) (h:w.cell? ⟨p,1,none⟩=some v):Calls Tryz.prog 341 #[.pointer (some ⟨p,0,none⟩)] w fun e w'=>e=.returned v/\w=w':=by
 go_enter Tryz.func341,Tryz.ntmps341
 go_wp2
 go_ret;exact⟨rfl,rfl⟩
theorem G8 (v:Value) (w:World):(ReflectliteType.typeOf #[.iface 225 v]).run Tryz.prog w=.ok (.iface 149 (.agg #[.pointer (some ⟨11,225,none⟩)])) w:=by kernel_rfl
theorem rN (w:World):(ReflectliteType.relation "AssignableTo" ReflectliteType.assignableTo #[.agg #[.pointer (some ⟨11,225,none⟩)],.iface 149 (.agg #[.pointer (some ⟨11,27,none⟩)])]).run Tryz.prog w=.ok (.bool false) w:=by kernel_rfl
theorem S6 (v:Value) (xT:TypeId) (w:World):(Instr.typeAssert (.iface 225 v) xT 153 true).run Tryz.prog w=.ok (.tuple #[.nilIface,.bool false]) w:=run_typeAssert_lacksB Tryz.underlying153 (by kernel_rfl) (by kernel_rfl) v xT w
theorem MG (v:Value) (xT:TypeId) (w:World):(Instr.typeAssert (.iface 225 v) xT 156 true).run Tryz.prog w=.ok (.tuple #[.iface 225 v,.bool true]) w:=run_typeAssert_hasB Tryz.underlying156 (by kernel_rfl) v xT w
def RAs (n:Int) (tb:Nat) (w:World) (e:Ending) (w':World):Prop:=e=.returned (.bool true)/\Below tb w w'/\w'.cell? ⟨tb,0,none⟩=some (.int .i64 n)
theorem N9 (n:Int) (vb tb:Nat) (jo:Value) (w:World) (hv:w.cell? ⟨vb,0,none⟩=some (.pointer (some ⟨tb,0,none⟩))) (ht:w.cell? ⟨tb,0,none⟩=some jo) (hf:w.frozen? ⟨tb,0,none⟩=false):
  Calls Tryz.prog 104 #[.iface 27 (.int .i64 n),.iface 234 (.pointer (some ⟨tb,0,none⟩)),.agg #[.pointer (some ⟨11,234,none⟩),.pointer (some ⟨vb,0,none⟩),.int .u64 150],.iface 149 (.agg #[.pointer (some ⟨11,27,none⟩)])] w
   (RAs n tb w):=by
 have AH:= @run_callFunc_extern Tryz.prog 101 _ (fun args=>ReflectliteValue.unpack (args.getD 0 (.tuple #[]))) Tryz.func101 (by kernel_rfl) (by kernel_rfl) (by kernel_rfl) (by kernel_rfl);have Zk:= @run_callFunc_extern Tryz.prog 140 _ ReflectliteType.typeOf Tryz.func140 (by kernel_rfl) (by kernel_rfl) (by kernel_rfl) (by kernel_rfl);have R3:= @run_callFunc_extern Tryz.prog 328 _ (ReflectliteType.relation "AssignableTo" ReflectliteType.assignableTo) Tryz.func328 (by kernel_rfl) (by kernel_rfl) (by kernel_rfl) (by kernel_rfl);have h96:= @run_callFunc_extern Tryz.prog 153 _ (ReflectliteValue.method (ReflectliteValue.valueError "reflectlite.Value.Elem" 0) ReflectliteValue.elem) Tryz.func153 (by kernel_rfl) (by kernel_rfl) (by kernel_rfl) (by kernel_rfl);have h97:= @run_callFunc_extern Tryz.prog 154 _ ReflectliteValue.set Tryz.func154 (by kernel_rfl) (by kernel_rfl) (by kernel_rfl) (by kernel_rfl);have tO:=Er.typeOfT;have mA:=rt.methodAssignableTo;have aT:=Er.assignableT;have vT:=Er.valueOfT;have yz:=World.block_lt_of_cell? _ _ hv;have kl:=World.block_lt_of_cell? _ _ ht
 have el:=Er.elemVP ⟨vb,0,none⟩ ⟨tb,0,none⟩ (w.alloc (.cells #[.pointer (some ⟨11,234,none⟩),.pointer (some ⟨vb,0,none⟩),.int .u64 150] 109)) (by rw[World.cell?_alloc_lt _ _ ⟨vb,0,none⟩ yz];exact hv)
 have sR:((w.alloc (.cells #[.pointer (some ⟨11,234,none⟩),.pointer (some ⟨vb,0,none⟩),.int .u64 150] 109)).alloc (.cells #[.int .i64 n] 27)).cell? ⟨tb,0,none⟩=some jo:=by
  rw[World.cell?_alloc_lt _ _ ⟨tb,0,none⟩ (by simp;simp at kl;omega),World.cell?_alloc_lt _ _ ⟨tb,0,none⟩ kl];exact ht
 have Hn2:=Ih sR
 have st:=Er.setT ⟨tb,0,none⟩ ⟨w.heap.size+1,0,none⟩ n jo ((w.alloc (.cells #[.pointer (some ⟨11,234,none⟩),.pointer (some ⟨vb,0,none⟩),.int .u64 150] 109)).alloc (.cells #[.int .i64 n] 27))
  (by rw[World.cell?_alloc_at _ _ _ _ (by simp)];rfl)
  sR
  (by rw[World.frozen?_alloc_old _ _ ⟨tb,0,none⟩ (by simp;simp at kl;omega),World.frozen?_alloc_old _ _ ⟨tb,0,none⟩ (Nat.ne_of_lt kl)];exact hf)
 clear sR;go_enter Tryz.func104,Tryz.ntmps104
 go_wp2
 refine wp_loop_rounds 1 ?_;rw[rounds_succ]
 go_wp2
 go_ret;have hz:tb<w.heap.size:=kl
 exact⟨rfl,(((Below.refl tb w).setCell (p:=⟨tb,0,none⟩) (Nat.le_refl _) _).alloc (by simp;omega) _).alloc (by simp;omega) _,by
  rw[World.cell?_alloc_lt _ _ ⟨tb,0,none⟩ (by simp;omega),World.cell?_alloc_lt _ _ ⟨tb,0,none⟩ (by simp;omega)];exact World.cell?_setCell_same _ _ _ ht⟩
theorem P6 (p:Nat) (n:Int) (vb tb:Nat) (jo:Value) (w:World) (hp:w.cell? ⟨p,1,none⟩=some (.iface 27 (.int .i64 n))) (hv:w.cell? ⟨vb,0,none⟩=some (.pointer (some ⟨tb,0,none⟩))) (ht:w.cell? ⟨tb,0,none⟩=some jo) (hf:w.frozen? ⟨tb,0,none⟩=false):
  Calls Tryz.prog 104 #[.iface 225 (.pointer (some ⟨p,0,none⟩)),.iface 234 (.pointer (some ⟨tb,0,none⟩)),.agg #[.pointer (some ⟨11,234,none⟩),.pointer (some ⟨vb,0,none⟩),.int .u64 150],.iface 149 (.agg #[.pointer (some ⟨11,27,none⟩)])] w
   (RAs n tb w):=by
 have AH:= @run_callFunc_extern Tryz.prog 101 _ (fun args=>ReflectliteValue.unpack (args.getD 0 (.tuple #[]))) Tryz.func101 (by kernel_rfl) (by kernel_rfl) (by kernel_rfl) (by kernel_rfl);have Zk:= @run_callFunc_extern Tryz.prog 140 _ ReflectliteType.typeOf Tryz.func140 (by kernel_rfl) (by kernel_rfl) (by kernel_rfl) (by kernel_rfl);have R3:= @run_callFunc_extern Tryz.prog 328 _ (ReflectliteType.relation "AssignableTo" ReflectliteType.assignableTo) Tryz.func328 (by kernel_rfl) (by kernel_rfl) (by kernel_rfl) (by kernel_rfl);have h96:= @run_callFunc_extern Tryz.prog 153 _ (ReflectliteValue.method (ReflectliteValue.valueError "reflectlite.Value.Elem" 0) ReflectliteValue.elem) Tryz.func153 (by kernel_rfl) (by kernel_rfl) (by kernel_rfl) (by kernel_rfl);have h97:= @run_callFunc_extern Tryz.prog 154 _ ReflectliteValue.set Tryz.func154 (by kernel_rfl) (by kernel_rfl) (by kernel_rfl) (by kernel_rfl);have tO:=Er.typeOfT;have tOF:=G8;have mA:=rt.methodAssignableTo;have aT:=Er.assignableT;have aF:=rN;have vT:=Er.valueOfT;have a1:=S6;have a3:=MG;have nu:∀w,(nilAhead 448 225 (.pointer (some ⟨p,0,none⟩)) "Unwrap").run Tryz.prog w=.ok (some false) w:=fun _=>by kernel_rfl
 have mU:∀w,(Go.method 448 225 (.pointer (some ⟨p,0,none⟩)) "Unwrap").run Tryz.prog w=.ok (341,.pointer (some ⟨p,0,none⟩)) w:=fun _=>by kernel_rfl
 have yz:=World.block_lt_of_cell? _ _ hv;have kl:=World.block_lt_of_cell? _ _ ht;have el:=Er.elemVP ⟨vb,0,none⟩ ⟨tb,0,none⟩ (w.alloc (.cells #[.pointer (some ⟨11,234,none⟩),.pointer (some ⟨vb,0,none⟩),.int .u64 150] 109)) (by rw[World.cell?_alloc_lt _ _ ⟨vb,0,none⟩ yz];exact hv)
 have sR:((w.alloc (.cells #[.pointer (some ⟨11,234,none⟩),.pointer (some ⟨vb,0,none⟩),.int .u64 150] 109)).alloc (.cells #[.int .i64 n] 27)).cell? ⟨tb,0,none⟩=some jo:=by
  rw[World.cell?_alloc_lt _ _ ⟨tb,0,none⟩ (by simp;simp at kl;omega),World.cell?_alloc_lt _ _ ⟨tb,0,none⟩ kl];exact ht
 have st:=Er.setT ⟨tb,0,none⟩ ⟨w.heap.size+1,0,none⟩ n jo ((w.alloc (.cells #[.pointer (some ⟨11,234,none⟩),.pointer (some ⟨vb,0,none⟩),.int .u64 150] 109)).alloc (.cells #[.int .i64 n] 27))
  (by rw[World.cell?_alloc_at _ _ _ _ (by simp)];rfl)
  sR
  (by rw[World.frozen?_alloc_old _ _ ⟨tb,0,none⟩ (by simp;simp at kl;omega),World.frozen?_alloc_old _ _ ⟨tb,0,none⟩ (Nat.ne_of_lt kl)];exact hf)
 clear sR;have cU:=Ih (fun w':World=>oN p (.iface 27 (.int .i64 n)) w');have Pj:p<w.heap.size:=World.block_lt_of_cell? _ _ hp;go_enter Tryz.func104,Tryz.ntmps104
 go_wp2
 refine wp_loop_rounds 2 ?_;rw[rounds_succ]
 go_wp2_with fail
 refine(cU.out _ (by rw[World.cell?_alloc_lt _ _ ⟨p,1,none⟩ Pj];exact hp)).mono ?_;rintro e w1 ⟨rfl,rfl⟩
 go_wp2
 rw[rounds_succ]
 go_wp2
 go_ret;have hz:tb<w.heap.size:=kl
 exact⟨rfl,(((Below.refl tb w).setCell (p:=⟨tb,0,none⟩) (Nat.le_refl _) _).alloc (by simp;omega) _).alloc (by simp;omega) _,by
  rw[World.cell?_alloc_lt _ _ ⟨tb,0,none⟩ (by simp;omega),World.cell?_alloc_lt _ _ ⟨tb,0,none⟩ (by simp;omega)];exact World.cell?_setCell_same _ _ _ ht⟩
theorem Rz (p p2:Nat) (n:Int) (vb tb:Nat) (jo:Value) (w:World) (hp:w.cell? ⟨p,1,none⟩=some (.iface 225 (.pointer (some ⟨p2,0,none⟩)))) (Av:w.cell? ⟨p2,1,none⟩=some (.iface 27 (.int .i64 n))) (hv:w.cell? ⟨vb,0,none⟩=some (.pointer (some ⟨tb,0,none⟩))) (ht:w.cell? ⟨tb,0,none⟩=some jo) (hf:w.frozen? ⟨tb,0,none⟩=false):
  Calls Tryz.prog 104 #[.iface 225 (.pointer (some ⟨p,0,none⟩)),.iface 234 (.pointer (some ⟨tb,0,none⟩)),.agg #[.pointer (some ⟨11,234,none⟩),.pointer (some ⟨vb,0,none⟩),.int .u64 150],.iface 149 (.agg #[.pointer (some ⟨11,27,none⟩)])] w
   (RAs n tb w):=by
 have AH:= @run_callFunc_extern Tryz.prog 101 _ (fun args=>ReflectliteValue.unpack (args.getD 0 (.tuple #[]))) Tryz.func101 (by kernel_rfl) (by kernel_rfl) (by kernel_rfl) (by kernel_rfl);have Zk:= @run_callFunc_extern Tryz.prog 140 _ ReflectliteType.typeOf Tryz.func140 (by kernel_rfl) (by kernel_rfl) (by kernel_rfl) (by kernel_rfl);have R3:= @run_callFunc_extern Tryz.prog 328 _ (ReflectliteType.relation "AssignableTo" ReflectliteType.assignableTo) Tryz.func328 (by kernel_rfl) (by kernel_rfl) (by kernel_rfl) (by kernel_rfl);have h96:= @run_callFunc_extern Tryz.prog 153 _ (ReflectliteValue.method (ReflectliteValue.valueError "reflectlite.Value.Elem" 0) ReflectliteValue.elem) Tryz.func153 (by kernel_rfl) (by kernel_rfl) (by kernel_rfl) (by kernel_rfl);have h97:= @run_callFunc_extern Tryz.prog 154 _ ReflectliteValue.set Tryz.func154 (by kernel_rfl) (by kernel_rfl) (by kernel_rfl) (by kernel_rfl);have tO:=Er.typeOfT;have tOF:=G8;have mA:=rt.methodAssignableTo;have aT:=Er.assignableT;have aF:=rN;have vT:=Er.valueOfT;have a1:=S6;have a3:=MG;have nu:∀w,(nilAhead 448 225 (.pointer (some ⟨p,0,none⟩)) "Unwrap").run Tryz.prog w=.ok (some false) w:=fun _=>by kernel_rfl
 have mU:∀w,(Go.method 448 225 (.pointer (some ⟨p,0,none⟩)) "Unwrap").run Tryz.prog w=.ok (341,.pointer (some ⟨p,0,none⟩)) w:=fun _=>by kernel_rfl
 have yz:=World.block_lt_of_cell? _ _ hv;have kl:=World.block_lt_of_cell? _ _ ht;have el:=Er.elemVP ⟨vb,0,none⟩ ⟨tb,0,none⟩ (w.alloc (.cells #[.pointer (some ⟨11,234,none⟩),.pointer (some ⟨vb,0,none⟩),.int .u64 150] 109)) (by rw[World.cell?_alloc_lt _ _ ⟨vb,0,none⟩ yz];exact hv)
 have sR:((w.alloc (.cells #[.pointer (some ⟨11,234,none⟩),.pointer (some ⟨vb,0,none⟩),.int .u64 150] 109)).alloc (.cells #[.int .i64 n] 27)).cell? ⟨tb,0,none⟩=some jo:=by
  rw[World.cell?_alloc_lt _ _ ⟨tb,0,none⟩ (by simp;simp at kl;omega),World.cell?_alloc_lt _ _ ⟨tb,0,none⟩ kl];exact ht
 have st:=Er.setT ⟨tb,0,none⟩ ⟨w.heap.size+1,0,none⟩ n jo ((w.alloc (.cells #[.pointer (some ⟨11,234,none⟩),.pointer (some ⟨vb,0,none⟩),.int .u64 150] 109)).alloc (.cells #[.int .i64 n] 27))
  (by rw[World.cell?_alloc_at _ _ _ _ (by simp)];rfl)
  sR
  (by rw[World.frozen?_alloc_old _ _ ⟨tb,0,none⟩ (by simp;simp at kl;omega),World.frozen?_alloc_old _ _ ⟨tb,0,none⟩ (Nat.ne_of_lt kl)];exact hf)
 clear sR;have nu2:∀w,(nilAhead 448 225 (.pointer (some ⟨p2,0,none⟩)) "Unwrap").run Tryz.prog w=.ok (some false) w:=fun _=>by kernel_rfl
 have mU2:∀w,(Go.method 448 225 (.pointer (some ⟨p2,0,none⟩)) "Unwrap").run Tryz.prog w=.ok (341,.pointer (some ⟨p2,0,none⟩)) w:=fun _=>by kernel_rfl
 have cU:=Ih (fun w':World=>oN p (.iface 225 (.pointer (some ⟨p2,0,none⟩))) w');have cU2:=Ih (fun w':World=>oN p2 (.iface 27 (.int .i64 n)) w');have abd:p2<w.heap.size:=World.block_lt_of_cell? _ _ Av;have Pj:p<w.heap.size:=World.block_lt_of_cell? _ _ hp;go_enter Tryz.func104,Tryz.ntmps104
 go_wp2
 refine wp_loop_rounds 3 ?_;rw[rounds_succ]
 go_wp2_with fail
 refine(cU.out _ (by rw[World.cell?_alloc_lt _ _ ⟨p,1,none⟩ Pj];exact hp)).mono ?_;rintro e w1 ⟨rfl,rfl⟩
 go_wp2
 rw[rounds_succ]
 go_wp2_with fail
 refine(cU2.out _ (by rw[World.cell?_alloc_lt _ _ ⟨p2,1,none⟩ abd];exact Av)).mono ?_;rintro e w1 ⟨rfl,rfl⟩
 go_wp2
 rw[rounds_succ]
 go_wp2
 go_ret;have hz:tb<w.heap.size:=kl
 exact⟨rfl,(((Below.refl tb w).setCell (p:=⟨tb,0,none⟩) (Nat.le_refl _) _).alloc (by simp;omega) _).alloc (by simp;omega) _,by
  rw[World.cell?_alloc_lt _ _ ⟨tb,0,none⟩ (by simp;omega),World.cell?_alloc_lt _ _ ⟨tb,0,none⟩ (by simp;omega)];exact World.cell?_setCell_same _ _ _ ht⟩
theorem Kl (vb tb:Nat) (jo:Value) (d:Nat) (hd:d<=2) (n:Int) (v:Value) (w:World) (h:dE w n d v) (hv:w.cell? ⟨vb,0,none⟩=some (.pointer (some ⟨tb,0,none⟩))) (ht:w.cell? ⟨tb,0,none⟩=some jo) (hf:w.frozen? ⟨tb,0,none⟩=false):
  Calls Tryz.prog 104 #[v,.iface 234 (.pointer (some ⟨tb,0,none⟩)),.agg #[.pointer (some ⟨11,234,none⟩),.pointer (some ⟨vb,0,none⟩),.int .u64 150],.iface 149 (.agg #[.pointer (some ⟨11,27,none⟩)])] w
   (RAs n tb w):=by
 match d,hd,h with
 | 0,_,h=>rw[show v=_ from h];exact N9 n vb tb jo w hv ht hf
 | 1,_,⟨p,u,h1,_,h3,h4⟩=>rw[h1];rw[show u=_ from h4]at h3;exact P6 p n vb tb jo w h3 hv ht hf
 | 2,_,⟨p,u,h1,_,h3,p2,u2,h4,_,h6,h7⟩=>rw[h1];rw[h4]at h3;rw[show u2=_ from h7]at h6;exact Rz p p2 n vb tb jo w h3 h6 hv ht hf
theorem Ky (d:Nat) (hd:d<=2) (n:Int) (t0:TypeId) (x0:Value) (tb:Nat) (jo:Value) (w:World) (hE:de w) (hB:dE w n d (.iface t0 x0)) (ht:w.cell? ⟨tb,0,none⟩=some jo) (hf:w.frozen? ⟨tb,0,none⟩=false):
  Calls Tryz.prog 65 #[.iface t0 x0,.iface 234 (.pointer (some ⟨tb,0,none⟩))] w (RAs n tb w):=by
 have AH:= @run_callFunc_extern Tryz.prog 101 _ (fun args=>ReflectliteValue.unpack (args.getD 0 (.tuple #[]))) Tryz.func101 (by kernel_rfl) (by kernel_rfl) (by kernel_rfl) (by kernel_rfl);have h49:= @run_callFunc_extern Tryz.prog 102 _ (ReflectliteValue.methodAny (ReflectliteValue.valueError "reflectlite.Value.Type" 0) (fun t _ _ _=>ReflectliteType.toType t)) Tryz.func102 (by kernel_rfl) (by kernel_rfl) (by kernel_rfl) (by kernel_rfl);have h50:= @run_callFunc_extern Tryz.prog 103 _ (ReflectliteValue.method (ReflectliteValue.valueError "reflectlite.Value.IsNil" 0) ReflectliteValue.isNil) Tryz.func103 (by kernel_rfl) (by kernel_rfl) (by kernel_rfl) (by kernel_rfl);have aa2:= @run_callFunc_extern Tryz.prog 316 _ (ReflectliteType.abiMethod fun t=>do pure (.int .u8 (<-Rtype.kind t))) Tryz.func316 (by kernel_rfl) (by kernel_rfl) (by kernel_rfl) (by kernel_rfl);have abe:= @run_callFunc_extern Tryz.prog 330 _ (ReflectliteType.method ReflectliteType.elem) Tryz.func330 (by kernel_rfl) (by kernel_rfl) (by kernel_rfl) (by kernel_rfl)
 have abA:= @run_callFunc_extern Tryz.prog 331 _ (ReflectliteType.relation "Implements" ReflectliteType.implements_) Tryz.func331 (by kernel_rfl) (by kernel_rfl) (by kernel_rfl) (by kernel_rfl);have f6:=Er.valueOfP;have f7:=Er.typeP;have mK:=rt.methodKind;have mE:=rt.methodElem;have mI:=rt.methodImplements;have kP:=Er.kindP;have kT:=Er.kindT;have eP:=Er.elemP;have iT:=Er.implementsT;have kl:=World.block_lt_of_cell? _ _ ht;have hz:tb<w.heap.size:=kl;have hzE:=hE.size;have n8:=Er.isNilP ⟨w.heap.size,0,none⟩ ⟨tb,0,none⟩ ((w.alloc (.cells #[.pointer (some ⟨tb,0,none⟩)] 234)).alloc (.cells #[.pointer (some ⟨11,234,none⟩),.pointer (some ⟨w.heap.size,0,none⟩),.int .u64 150] 109)) (by simp)
 have wZ:((w.alloc (.cells #[.pointer (some ⟨tb,0,none⟩)] 234)).alloc (.cells #[.pointer (some ⟨11,234,none⟩),.pointer (some ⟨w.heap.size,0,none⟩),.int .u64 150] 109)).cell? ⟨1,0,none⟩=some (.iface 149 (.agg #[.pointer (some ⟨11,59,none⟩)])):=by
  rw[World.cell?_alloc_lt _ _ ⟨1,0,none⟩ (by simp<;>omega),World.cell?_alloc_lt _ _ ⟨1,0,none⟩ (by show 1<_;omega)];exact hE.et
 have ca:∀w1:World,Below w.heap.size w w1->w1.cell? ⟨w.heap.size,0,none⟩=some (.pointer (some ⟨tb,0,none⟩))->Calls Tryz.prog 104 #[.iface t0 x0,.iface 234 (.pointer (some ⟨tb,0,none⟩)),.agg #[.pointer (some ⟨11,234,none⟩),.pointer (some ⟨w.heap.size,0,none⟩),.int .u64 150],.iface 149 (.agg #[.pointer (some ⟨11,27,none⟩)])] w1
  (RAs n tb w1):=fun w1 hb hc=>Kl w.heap.size tb jo d hd n _ w1 (hB.below hb) hc (by rw[hb.cell kl];exact ht) (by rw[hb.frozen kl];exact hf)
 have Ca:=Ih ca;clear ca;go_enter Tryz.func65,Tryz.ntmps65
 go_wp2_with fail
 refine(Ca.out _ (((Below.refl _ w).alloc (Nat.le_refl _) _).alloc (by simp) _) (by simp)).mono ?_;rintro e w1 ⟨rfl,aC,j7⟩
 go_wp2
 go_ret;exact⟨rfl,(((Below.refl tb w).alloc (Nat.le_of_lt hz) _).alloc (by simp;omega) _).trans aC,j7⟩
theorem dE.iface {w:World} {e:Int}:∀{d:Nat} {v:Value},dE w e d v->∃t x,v=.iface t x
 | 0,_,h=>⟨_,_,h⟩
 | _+1,_,⟨_,_,h,_⟩=>⟨_,_,h⟩
theorem LM (d:Nat) (hd:d<=2) (n:Int) (v:Value) (w:World) (hE:de w) (h:dE w n d v):Calls Tryz.prog 200 #[v] w fun e w'=>e=.returned (.int .i64 n)/\Below w.heap.size w w':=by
 obtain⟨t0,x0,rfl⟩:=h.iface;have cA:=Ih (Ky d hd n t0 x0 w.heap.size (.int .i64 0) (w.alloc (.cells #[.int .i64 0] 27)) (hE.below ((Below.refl _ w).alloc (Nat.le_refl _) _)) (h.below ((Below.refl _ w).alloc (Nat.le_refl _) _)) (by simp) (by simp));go_enter Tryz.func200,Tryz.ntmps200
 go_wp2_with fail
 refine cA.out.mono ?_;rintro e w1 ⟨rfl,aC,j7⟩
 go_wp2
 go_ret;exact⟨rfl,((Below.refl _ w).alloc (Nat.le_refl _) _).trans aC⟩
end Go.Proofs.YtlcbhacofagedaaGreatDoor
