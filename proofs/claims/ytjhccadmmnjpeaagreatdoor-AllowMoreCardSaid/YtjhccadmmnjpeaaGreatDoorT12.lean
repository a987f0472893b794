/-
  hosts.number.
-/
import Derived.Test.YtjhccadmmnjpeaaGreatDoorT06
import Derived.Test.YtjhccadmmnjpeaaGreatDoorT09
set_option maxHeartbeats 4000000
set_option maxRecDepth 100000
namespace Go.Proofs.YtjhccadmmnjpeaaGreatDoor
open Go.RowKit Go.Extern.Stop Go.Stop Go.Extern
theorem Er.valueOfP (t:Addr) (w:World):(ReflectliteValue.unpack (.iface 300 (.pointer (some t)))).run Tryz.prog w
 =.ok (.agg #[.pointer (some ⟨13,300,none⟩),.pointer (some ⟨w.heap.size,0,none⟩),.int .u64 150]) (w.alloc (.cells #[.pointer (some t)] 300)):=by kernel_rfl
theorem Er.typeP (a:Addr) (w:World):(ReflectliteValue.methodAny (ReflectliteValue.valueError "reflectlite.Value.Type" 0) (fun t _ _ _=>ReflectliteType.toType t) #[.agg #[.pointer (some ⟨13,300,none⟩),.pointer (some a),.int .u64 150]]).run Tryz.prog w
 =.ok (.iface 195 (.agg #[.pointer (some ⟨13,300,none⟩)])) w:=by kernel_rfl
theorem Er.kindP (w:World):((ReflectliteType.abiMethod fun t=>(fun a:Nat=>Value.int IntKind.u8 (a:Int)) <$> Rtype.kind t) #[.pointer (some ⟨13,300,none⟩)]).run Tryz.prog w=.ok (.int .u8 22) w:=by kernel_rfl
theorem Er.kindT (w:World):((ReflectliteType.abiMethod fun t=>(fun a:Nat=>Value.int IntKind.u8 (a:Int)) <$> Rtype.kind t) #[.pointer (some ⟨13,37,none⟩)]).run Tryz.prog w=.ok (.int .u8 2) w:=by kernel_rfl
theorem Er.partsP (a:Addr) (w:World):(ReflectliteValue.parts (.agg #[.pointer (some ⟨13,300,none⟩),.pointer (some a),.int .u64 150])).run Tryz.prog w=.ok (some (300,a,150)) w:=by kernel_rfl
theorem Er.isNilP (a p:Addr) (W:World) (ha:W.cell? a=some (.pointer (some p))):
  (ReflectliteValue.method (ReflectliteValue.valueError "reflectlite.Value.IsNil" 0) ReflectliteValue.isNil #[.agg #[.pointer (some ⟨13,300,none⟩),.pointer (some a),.int .u64 150]]).run Tryz.prog W=.ok (.bool false) W:=by
 rw[rlm];simp only[Sem.run_bind,Er.partsP,Result.andThen]
 simp[ReflectliteValue.isNil,loadVar,isAgg,underlying,Tryz.underlying300,ha,Result.andThen]
theorem Er.elemP (w:World):(ReflectliteType.method ReflectliteType.elem #[.agg #[.pointer (some ⟨13,300,none⟩)]]).run Tryz.prog w=.ok (.iface 195 (.agg #[.pointer (some ⟨13,37,none⟩)])) w:=by kernel_rfl
theorem Er.implementsT (w:World):(ReflectliteType.relation "Implements" ReflectliteType.implements_ #[.agg #[.pointer (some ⟨13,37,none⟩)],.iface 195 (.agg #[.pointer (some ⟨13,57,none⟩)])]).run Tryz.prog w=.ok (.bool true) w:=by kernel_rfl
theorem Er.typeOfT (v:Value) (w:World):(ReflectliteType.typeOf #[.iface 37 v]).run Tryz.prog w=.ok (.iface 195 (.agg #[.pointer (some ⟨13,37,none⟩)])) w:=by kernel_rfl
theorem Er.assignableT (w:World):(ReflectliteType.relation "AssignableTo" ReflectliteType.assignableTo #[.agg #[.pointer (some ⟨13,37,none⟩)],.iface 195 (.agg #[.pointer (some ⟨13,37,none⟩)])]).run Tryz.prog w=.ok (.bool true) w:=by kernel_rfl
theorem Er.valueOfT (n:Int) (w:World):(ReflectliteValue.unpack (.iface 37 (.int .i64 n))).run Tryz.prog w
 =.ok (.agg #[.pointer (some ⟨13,37,none⟩),.pointer (some ⟨w.heap.size,0,none⟩),.int .u64 130]) (w.alloc (.cells #[(.int .i64 n)] 37)):=by kernel_rfl
theorem Er.elemOfP (w:World):(Rtype.elem? 300).run Tryz.prog w=.ok (some 37) w:=by kernel_rfl
theorem Er.mkT (p:Addr) (w:World):(ReflectliteValue.mk 37 p ReflectliteValue.flagAddr).run Tryz.prog w=.ok (.agg #[.pointer (some ⟨13,37,none⟩),.pointer (some p),.int .u64 386]) w:=by kernel_rfl
theorem Er.elemVP (a p:Addr) (W:World) (ha:W.cell? a=some (.pointer (some p))):
  (ReflectliteValue.method (ReflectliteValue.valueError "reflectlite.Value.Elem" 0) ReflectliteValue.elem #[.agg #[.pointer (some ⟨13,300,none⟩),.pointer (some a),.int .u64 150]]).run Tryz.prog W
   =.ok (.agg #[.pointer (some ⟨13,37,none⟩),.pointer (some p),.int .u64 386]) W:=by
 rw[rlm];simp only[Sem.run_bind,Er.partsP,Result.andThen]
 simp[ReflectliteValue.elem,loadVar,isAgg,underlying,Tryz.underlying300,ha,Result.andThen,Er.elemOfP,Er.mkT]
theorem Er.partsTa (a:Addr) (w:World):(ReflectliteValue.parts (.agg #[.pointer (some ⟨13,37,none⟩),.pointer (some a),.int .u64 386])).run Tryz.prog w=.ok (some (37,a,386)) w:=by kernel_rfl
theorem Er.partsT (a:Addr) (w:World):(ReflectliteValue.parts (.agg #[.pointer (some ⟨13,37,none⟩),.pointer (some a),.int .u64 130])).run Tryz.prog w=.ok (some (37,a,128+2)) w:=by kernel_rfl
theorem Er.directT (w:World):(Rtype.directlyAssignable 37 37).run Tryz.prog w=.ok true w:=by kernel_rfl
theorem Er.setT (ta b:Addr) (n:Int) (old:Value) (W:World) (hb:W.cell? b=some (.int .i64 n)) (ht:W.cell? ta=some old) (hf:W.frozen? ta=false):
  (ReflectliteValue.set #[.agg #[.pointer (some ⟨13,37,none⟩),.pointer (some ta),.int .u64 386],.agg #[.pointer (some ⟨13,37,none⟩),.pointer (some b),.int .u64 130]]).run Tryz.prog W
   =.ok (.tuple #[]) (W.setCell ta (.int .i64 n)):=by
 rw[rls];simp only[Sem.run_bind,Er.partsTa,Er.partsT,Result.andThen]
 simp[ReflectliteValue.flagAddr,loadVar,isAgg,underlying,Tryz.underlying37,hb,Result.andThen,Er.directT,storeVar,Value.cells,storeCells,Addr.add]
 rw[run_store Tryz.prog W ta _ _ (by rfl)]
 simp[ht,hf]
def Faulty (w:World) (e:Int):Nat->Value->Prop
 | 0,v=>v=.iface 37 (.int .i64 e)
 | d+1,v=>∃(p:Nat) (u:Value),v=.iface 291 (.pointer (some ⟨p,0,none⟩))/\p<w.heap.size/\w.cell? ⟨p,1,none⟩=some u/\Faulty w e d u
theorem Faulty.below {w w':World} {e:Int} (hb:Below w.heap.size w w'):∀{d:Nat} {v:Value},Faulty w e d v->Faulty w' e d v
 | 0,_,h=>h
 | d+1,v,⟨p,u,h1,h2,h3,h4⟩=>⟨p,u,h1,Nat.lt_of_lt_of_le h2 hb.size,by rw[hb.cell (p:=⟨p,1,none⟩) h2];exact h3,Faulty.below hb h4⟩
theorem Unwrap_any (p:Nat) (v:Value) (w:World) (h:w.cell? ⟨p,1,none⟩=some v):Calls Tryz.prog 370 #[.pointer (some ⟨p,0,none⟩)] w fun e w'=>e=.returned v/\w=w':=by
 go_enter Tryz.func370,Tryz.ntmps370
 go_wp2
 go_ret;exact⟨rfl,rfl⟩
theorem typeOfF (v:Value) (w:World):(ReflectliteType.typeOf #[.iface 291 v]).run Tryz.prog w=.ok (.iface 195 (.agg #[.pointer (some ⟨13,291,none⟩)])) w:=by kernel_rfl
theorem assignableF (w:World):(ReflectliteType.relation "AssignableTo" ReflectliteType.assignableTo #[.agg #[.pointer (some ⟨13,291,none⟩)],.iface 195 (.agg #[.pointer (some ⟨13,37,none⟩)])]).run Tryz.prog w=.ok (.bool false) w:=by kernel_rfl
theorem noAsF (v:Value) (xT:TypeId) (w:World):(Instr.typeAssert (.iface 291 v) xT 215 true).run Tryz.prog w=.ok (.tuple #[.nilIface,.bool false]) w:=run_typeAssert_lacksB Tryz.underlying215 (by kernel_rfl) (by kernel_rfl) v xT w
theorem hasUnF (v:Value) (xT:TypeId) (w:World):(Instr.typeAssert (.iface 291 v) xT 200 true).run Tryz.prog w=.ok (.tuple #[.iface 291 v,.bool true]) w:=run_typeAssert_hasB Tryz.underlying200 (by kernel_rfl) v xT w
def RAs (n:Int) (tb:Nat) (w:World) (e:Ending) (w':World):Prop:=e=.returned (.bool true)/\Below tb w w'/\w'.cell? ⟨tb,0,none⟩=some (.int .i64 n)
theorem asE_zero (n:Int) (vb tb:Nat) (old:Value) (w:World) (hv:w.cell? ⟨vb,0,none⟩=some (.pointer (some ⟨tb,0,none⟩))) (ht:w.cell? ⟨tb,0,none⟩=some old) (hf:w.frozen? ⟨tb,0,none⟩=false):
  Calls Tryz.prog 128 #[.iface 37 (.int .i64 n),.iface 300 (.pointer (some ⟨tb,0,none⟩)),.agg #[.pointer (some ⟨13,300,none⟩),.pointer (some ⟨vb,0,none⟩),.int .u64 150],.iface 195 (.agg #[.pointer (some ⟨13,37,none⟩)])] w
   (RAs n tb w):=by
 have h48:= @run_callFunc_extern Tryz.prog 125 _ (fun args=>ReflectliteValue.unpack (args.getD 0 (.tuple #[]))) Tryz.func125 (by kernel_rfl) (by kernel_rfl) (by kernel_rfl) (by kernel_rfl);have h95:= @run_callFunc_extern Tryz.prog 113 _ ReflectliteType.typeOf Tryz.func113 (by kernel_rfl) (by kernel_rfl) (by kernel_rfl) (by kernel_rfl);have h214:= @run_callFunc_extern Tryz.prog 346 _ (ReflectliteType.relation "AssignableTo" ReflectliteType.assignableTo) Tryz.func346 (by kernel_rfl) (by kernel_rfl) (by kernel_rfl) (by kernel_rfl);have h96:= @run_callFunc_extern Tryz.prog 190 _ (ReflectliteValue.method (ReflectliteValue.valueError "reflectlite.Value.Elem" 0) ReflectliteValue.elem) Tryz.func190 (by kernel_rfl) (by kernel_rfl) (by kernel_rfl) (by kernel_rfl);have h97:= @run_callFunc_extern Tryz.prog 191 _ ReflectliteValue.set Tryz.func191 (by kernel_rfl) (by kernel_rfl) (by kernel_rfl) (by kernel_rfl);have tO:=Er.typeOfT;have mA:=rt.methodAssignableTo;have aT:=Er.assignableT;have vT:=Er.valueOfT;have hvl:=World.block_lt_of_cell? _ _ hv;have htl:=World.block_lt_of_cell? _ _ ht
 have el:=Er.elemVP ⟨vb,0,none⟩ ⟨tb,0,none⟩ (w.alloc (.cells #[.pointer (some ⟨13,300,none⟩),.pointer (some ⟨vb,0,none⟩),.int .u64 150] 162)) (by rw[World.cell?_alloc_lt _ _ ⟨vb,0,none⟩ hvl];exact hv)
 have hn2:((w.alloc (.cells #[.pointer (some ⟨13,300,none⟩),.pointer (some ⟨vb,0,none⟩),.int .u64 150] 162)).alloc (.cells #[.int .i64 n] 37)).cell? ⟨tb,0,none⟩=some old:=by
  rw[World.cell?_alloc_lt _ _ ⟨tb,0,none⟩ (by simp;simp at htl;omega),World.cell?_alloc_lt _ _ ⟨tb,0,none⟩ htl];exact ht
 have Hn2:=Ih hn2
 have st:=Er.setT ⟨tb,0,none⟩ ⟨w.heap.size+1,0,none⟩ n old ((w.alloc (.cells #[.pointer (some ⟨13,300,none⟩),.pointer (some ⟨vb,0,none⟩),.int .u64 150] 162)).alloc (.cells #[.int .i64 n] 37))
  (by rw[World.cell?_alloc_at _ _ _ _ (by simp)];rfl)
  hn2
  (by rw[World.frozen?_alloc_old _ _ ⟨tb,0,none⟩ (by simp;simp at htl;omega),World.frozen?_alloc_old _ _ ⟨tb,0,none⟩ (Nat.ne_of_lt htl)];exact hf)
 clear hn2;go_enter Tryz.func128,Tryz.ntmps128
 go_wp2
 refine wp_loop_rounds 1 ?_;rw[rounds_succ]
 go_wp2
 go_ret;have hz:tb<w.heap.size:=htl
 exact⟨rfl,(((Below.refl tb w).setCell (p:=⟨tb,0,none⟩) (Nat.le_refl _) _).alloc (by simp;omega) _).alloc (by simp;omega) _,by
  rw[World.cell?_alloc_lt _ _ ⟨tb,0,none⟩ (by simp;omega),World.cell?_alloc_lt _ _ ⟨tb,0,none⟩ (by simp;omega)];exact World.cell?_setCell_same _ _ _ ht⟩
theorem asE_one (p:Nat) (n:Int) (vb tb:Nat) (old:Value) (w:World) (hp:w.cell? ⟨p,1,none⟩=some (.iface 37 (.int .i64 n))) (hv:w.cell? ⟨vb,0,none⟩=some (.pointer (some ⟨tb,0,none⟩))) (ht:w.cell? ⟨tb,0,none⟩=some old) (hf:w.frozen? ⟨tb,0,none⟩=false):
  Calls Tryz.prog 128 #[.iface 291 (.pointer (some ⟨p,0,none⟩)),.iface 300 (.pointer (some ⟨tb,0,none⟩)),.agg #[.pointer (some ⟨13,300,none⟩),.pointer (some ⟨vb,0,none⟩),.int .u64 150],.iface 195 (.agg #[.pointer (some ⟨13,37,none⟩)])] w
   (RAs n tb w):=by
 have h48:= @run_callFunc_extern Tryz.prog 125 _ (fun args=>ReflectliteValue.unpack (args.getD 0 (.tuple #[]))) Tryz.func125 (by kernel_rfl) (by kernel_rfl) (by kernel_rfl) (by kernel_rfl);have h95:= @run_callFunc_extern Tryz.prog 113 _ ReflectliteType.typeOf Tryz.func113 (by kernel_rfl) (by kernel_rfl) (by kernel_rfl) (by kernel_rfl);have h214:= @run_callFunc_extern Tryz.prog 346 _ (ReflectliteType.relation "AssignableTo" ReflectliteType.assignableTo) Tryz.func346 (by kernel_rfl) (by kernel_rfl) (by kernel_rfl) (by kernel_rfl);have h96:= @run_callFunc_extern Tryz.prog 190 _ (ReflectliteValue.method (ReflectliteValue.valueError "reflectlite.Value.Elem" 0) ReflectliteValue.elem) Tryz.func190 (by kernel_rfl) (by kernel_rfl) (by kernel_rfl) (by kernel_rfl);have h97:= @run_callFunc_extern Tryz.prog 191 _ ReflectliteValue.set Tryz.func191 (by kernel_rfl) (by kernel_rfl) (by kernel_rfl) (by kernel_rfl);have tO:=Er.typeOfT;have tOF:=typeOfF;have mA:=rt.methodAssignableTo;have aT:=Er.assignableT;have aF:=assignableF;have vT:=Er.valueOfT;have a1:=noAsF;have a3:=hasUnF;have nu:∀w,(nilAhead 478 291 (.pointer (some ⟨p,0,none⟩)) "Unwrap").run Tryz.prog w=.ok (some false) w:=fun _=>by kernel_rfl
 have mU:∀w,(Go.method 478 291 (.pointer (some ⟨p,0,none⟩)) "Unwrap").run Tryz.prog w=.ok (370,.pointer (some ⟨p,0,none⟩)) w:=fun _=>by kernel_rfl
 have hvl:=World.block_lt_of_cell? _ _ hv;have htl:=World.block_lt_of_cell? _ _ ht;have el:=Er.elemVP ⟨vb,0,none⟩ ⟨tb,0,none⟩ (w.alloc (.cells #[.pointer (some ⟨13,300,none⟩),.pointer (some ⟨vb,0,none⟩),.int .u64 150] 162)) (by rw[World.cell?_alloc_lt _ _ ⟨vb,0,none⟩ hvl];exact hv)
 have hn2:((w.alloc (.cells #[.pointer (some ⟨13,300,none⟩),.pointer (some ⟨vb,0,none⟩),.int .u64 150] 162)).alloc (.cells #[.int .i64 n] 37)).cell? ⟨tb,0,none⟩=some old:=by
  rw[World.cell?_alloc_lt _ _ ⟨tb,0,none⟩ (by simp;simp at htl;omega),World.cell?_alloc_lt _ _ ⟨tb,0,none⟩ htl];exact ht
 have st:=Er.setT ⟨tb,0,none⟩ ⟨w.heap.size+1,0,none⟩ n old ((w.alloc (.cells #[.pointer (some ⟨13,300,none⟩),.pointer (some ⟨vb,0,none⟩),.int .u64 150] 162)).alloc (.cells #[.int .i64 n] 37))
  (by rw[World.cell?_alloc_at _ _ _ _ (by simp)];rfl)
  hn2
  (by rw[World.frozen?_alloc_old _ _ ⟨tb,0,none⟩ (by simp;simp at htl;omega),World.frozen?_alloc_old _ _ ⟨tb,0,none⟩ (Nat.ne_of_lt htl)];exact hf)
 clear hn2;have cU:=Ih (fun w':World=>Unwrap_any p (.iface 37 (.int .i64 n)) w');have hpl:p<w.heap.size:=World.block_lt_of_cell? _ _ hp;go_enter Tryz.func128,Tryz.ntmps128
 go_wp2
 refine wp_loop_rounds 2 ?_;rw[rounds_succ]
 go_wp2_with fail
 refine(cU.out _ (by rw[World.cell?_alloc_lt _ _ ⟨p,1,none⟩ hpl];exact hp)).mono ?_;rintro e w1 ⟨rfl,rfl⟩
 go_wp2
 rw[rounds_succ]
 go_wp2
 go_ret;have hz:tb<w.heap.size:=htl
 exact⟨rfl,(((Below.refl tb w).setCell (p:=⟨tb,0,none⟩) (Nat.le_refl _) _).alloc (by simp;omega) _).alloc (by simp;omega) _,by
  rw[World.cell?_alloc_lt _ _ ⟨tb,0,none⟩ (by simp;omega),World.cell?_alloc_lt _ _ ⟨tb,0,none⟩ (by simp;omega)];exact World.cell?_setCell_same _ _ _ ht⟩
theorem asE_two (p p2:Nat) (n:Int) (vb tb:Nat) (old:Value) (w:World) (hp:w.cell? ⟨p,1,none⟩=some (.iface 291 (.pointer (some ⟨p2,0,none⟩)))) (hp2:w.cell? ⟨p2,1,none⟩=some (.iface 37 (.int .i64 n))) (hv:w.cell? ⟨vb,0,none⟩=some (.pointer (some ⟨tb,0,none⟩))) (ht:w.cell? ⟨tb,0,none⟩=some old) (hf:w.frozen? ⟨tb,0,none⟩=false):
  Calls Tryz.prog 128 #[.iface 291 (.pointer (some ⟨p,0,none⟩)),.iface 300 (.pointer (some ⟨tb,0,none⟩)),.agg #[.pointer (some ⟨13,300,none⟩),.pointer (some ⟨vb,0,none⟩),.int .u64 150],.iface 195 (.agg #[.pointer (some ⟨13,37,none⟩)])] w
   (RAs n tb w):=by
 have h48:= @run_callFunc_extern Tryz.prog 125 _ (fun args=>ReflectliteValue.unpack (args.getD 0 (.tuple #[]))) Tryz.func125 (by kernel_rfl) (by kernel_rfl) (by kernel_rfl) (by kernel_rfl);have h95:= @run_callFunc_extern Tryz.prog 113 _ ReflectliteType.typeOf Tryz.func113 (by kernel_rfl) (by kernel_rfl) (by kernel_rfl) (by kernel_rfl);have h214:= @run_callFunc_extern Tryz.prog 346 _ (ReflectliteType.relation "AssignableTo" ReflectliteType.assignableTo) Tryz.func346 (by kernel_rfl) (by kernel_rfl) (by kernel_rfl) (by kernel_rfl);have h96:= @run_callFunc_extern Tryz.prog 190 _ (ReflectliteValue.method (ReflectliteValue.valueError "reflectlite.Value.Elem" 0) ReflectliteValue.elem) Tryz.func190 (by kernel_rfl) (by kernel_rfl) (by kernel_rfl) (by kernel_rfl);have h97:= @run_callFunc_extern Tryz.prog 191 _ ReflectliteValue.set Tryz.func191 (by kernel_rfl) (by kernel_rfl) (by kernel_rfl) (by kernel_rfl);have tO:=Er.typeOfT;have tOF:=typeOfF;have mA:=rt.methodAssignableTo;have aT:=Er.assignableT;have aF:=assignableF;have vT:=Er.valueOfT;have a1:=noAsF;have a3:=hasUnF;have nu:∀w,(nilAhead 478 291 (.pointer (some ⟨p,0,none⟩)) "Unwrap").run Tryz.prog w=.ok (some false) w:=fun _=>by kernel_rfl
 have mU:∀w,(Go.method 478 291 (.pointer (some ⟨p,0,none⟩)) "Unwrap").run Tryz.prog w=.ok (370,.pointer (some ⟨p,0,none⟩)) w:=fun _=>by kernel_rfl
 have hvl:=World.block_lt_of_cell? _ _ hv;have htl:=World.block_lt_of_cell? _ _ ht;have el:=Er.elemVP ⟨vb,0,none⟩ ⟨tb,0,none⟩ (w.alloc (.cells #[.pointer (some ⟨13,300,none⟩),.pointer (some ⟨vb,0,none⟩),.int .u64 150] 162)) (by rw[World.cell?_alloc_lt _ _ ⟨vb,0,none⟩ hvl];exact hv)
 have hn2:((w.alloc (.cells #[.pointer (some ⟨13,300,none⟩),.pointer (some ⟨vb,0,none⟩),.int .u64 150] 162)).alloc (.cells #[.int .i64 n] 37)).cell? ⟨tb,0,none⟩=some old:=by
  rw[World.cell?_alloc_lt _ _ ⟨tb,0,none⟩ (by simp;simp at htl;omega),World.cell?_alloc_lt _ _ ⟨tb,0,none⟩ htl];exact ht
 have st:=Er.setT ⟨tb,0,none⟩ ⟨w.heap.size+1,0,none⟩ n old ((w.alloc (.cells #[.pointer (some ⟨13,300,none⟩),.pointer (some ⟨vb,0,none⟩),.int .u64 150] 162)).alloc (.cells #[.int .i64 n] 37))
  (by rw[World.cell?_alloc_at _ _ _ _ (by simp)];rfl)
  hn2
  (by rw[World.frozen?_alloc_old _ _ ⟨tb,0,none⟩ (by simp;simp at htl;omega),World.frozen?_alloc_old _ _ ⟨tb,0,none⟩ (Nat.ne_of_lt htl)];exact hf)
 clear hn2;have nu2:∀w,(nilAhead 478 291 (.pointer (some ⟨p2,0,none⟩)) "Unwrap").run Tryz.prog w=.ok (some false) w:=fun _=>by kernel_rfl
 have mU2:∀w,(Go.method 478 291 (.pointer (some ⟨p2,0,none⟩)) "Unwrap").run Tryz.prog w=.ok (370,.pointer (some ⟨p2,0,none⟩)) w:=fun _=>by kernel_rfl
 have cU:=Ih (fun w':World=>Unwrap_any p (.iface 291 (.pointer (some ⟨p2,0,none⟩))) w');have cU2:=Ih (fun w':World=>Unwrap_any p2 (.iface 37 (.int .i64 n)) w');have hpl2:p2<w.heap.size:=World.block_lt_of_cell? _ _ hp2;have hpl:p<w.heap.size:=World.block_lt_of_cell? _ _ hp;go_enter Tryz.func128,Tryz.ntmps128
 go_wp2
 refine wp_loop_rounds 3 ?_;rw[rounds_succ]
 go_wp2_with fail
 refine(cU.out _ (by rw[World.cell?_alloc_lt _ _ ⟨p,1,none⟩ hpl];exact hp)).mono ?_;rintro e w1 ⟨rfl,rfl⟩
 go_wp2
 rw[rounds_succ]
 go_wp2_with fail
 refine(cU2.out _ (by rw[World.cell?_alloc_lt _ _ ⟨p2,1,none⟩ hpl2];exact hp2)).mono ?_;rintro e w1 ⟨rfl,rfl⟩
 go_wp2
 rw[rounds_succ]
 go_wp2
 go_ret;have hz:tb<w.heap.size:=htl
 exact⟨rfl,(((Below.refl tb w).setCell (p:=⟨tb,0,none⟩) (Nat.le_refl _) _).alloc (by simp;omega) _).alloc (by simp;omega) _,by
  rw[World.cell?_alloc_lt _ _ ⟨tb,0,none⟩ (by simp;omega),World.cell?_alloc_lt _ _ ⟨tb,0,none⟩ (by simp;omega)];exact World.cell?_setCell_same _ _ _ ht⟩
theorem as_faulty (vb tb:Nat) (old:Value) (d:Nat) (hd:d<=2) (n:Int) (v:Value) (w:World) (h:Faulty w n d v) (hv:w.cell? ⟨vb,0,none⟩=some (.pointer (some ⟨tb,0,none⟩))) (ht:w.cell? ⟨tb,0,none⟩=some old) (hf:w.frozen? ⟨tb,0,none⟩=false):
  Calls Tryz.prog 128 #[v,.iface 300 (.pointer (some ⟨tb,0,none⟩)),.agg #[.pointer (some ⟨13,300,none⟩),.pointer (some ⟨vb,0,none⟩),.int .u64 150],.iface 195 (.agg #[.pointer (some ⟨13,37,none⟩)])] w
   (RAs n tb w):=by
 match d,hd,h with
 | 0,_,h=>rw[show v=_ from h];exact asE_zero n vb tb old w hv ht hf
 | 1,_,⟨p,u,h1,_,h3,h4⟩=>rw[h1];rw[show u=_ from h4]at h3;exact asE_one p n vb tb old w h3 hv ht hf
 | 2,_,⟨p,u,h1,_,h3,p2,u2,h4,_,h6,h7⟩=>rw[h1];rw[h4]at h3;rw[show u2=_ from h7]at h6;exact asE_two p p2 n vb tb old w h3 h6 hv ht hf
theorem As_faulty (d:Nat) (hd:d<=2) (n:Int) (t0:TypeId) (x0:Value) (tb:Nat) (old:Value) (w:World) (hE:EnvH w) (hB:Faulty w n d (.iface t0 x0)) (ht:w.cell? ⟨tb,0,none⟩=some old) (hf:w.frozen? ⟨tb,0,none⟩=false):
  Calls Tryz.prog 79 #[.iface t0 x0,.iface 300 (.pointer (some ⟨tb,0,none⟩))] w (RAs n tb w):=by
 have h48:= @run_callFunc_extern Tryz.prog 125 _ (fun args=>ReflectliteValue.unpack (args.getD 0 (.tuple #[]))) Tryz.func125 (by kernel_rfl) (by kernel_rfl) (by kernel_rfl) (by kernel_rfl);have h49:= @run_callFunc_extern Tryz.prog 126 _ (ReflectliteValue.methodAny (ReflectliteValue.valueError "reflectlite.Value.Type" 0) (fun t _ _ _=>ReflectliteType.toType t)) Tryz.func126 (by kernel_rfl) (by kernel_rfl) (by kernel_rfl) (by kernel_rfl);have h50:= @run_callFunc_extern Tryz.prog 127 _ (ReflectliteValue.method (ReflectliteValue.valueError "reflectlite.Value.IsNil" 0) ReflectliteValue.isNil) Tryz.func127 (by kernel_rfl) (by kernel_rfl) (by kernel_rfl) (by kernel_rfl);have h203:= @run_callFunc_extern Tryz.prog 334 _ (ReflectliteType.abiMethod fun t=>do pure (.int .u8 (<-Rtype.kind t))) Tryz.func334 (by kernel_rfl) (by kernel_rfl) (by kernel_rfl) (by kernel_rfl);have h216:= @run_callFunc_extern Tryz.prog 348 _ (ReflectliteType.method ReflectliteType.elem) Tryz.func348 (by kernel_rfl) (by kernel_rfl) (by kernel_rfl) (by kernel_rfl)
 have h217:= @run_callFunc_extern Tryz.prog 349 _ (ReflectliteType.relation "Implements" ReflectliteType.implements_) Tryz.func349 (by kernel_rfl) (by kernel_rfl) (by kernel_rfl) (by kernel_rfl);have f6:=Er.valueOfP;have f7:=Er.typeP;have mK:=rt.methodKind;have mE:=rt.methodElem;have mI:=rt.methodImplements;have kP:=Er.kindP;have kT:=Er.kindT;have eP:=Er.elemP;have iT:=Er.implementsT;have htl:=World.block_lt_of_cell? _ _ ht;have hz:tb<w.heap.size:=htl;have hzE:=hE.size;have n8:=Er.isNilP ⟨w.heap.size,0,none⟩ ⟨tb,0,none⟩ ((w.alloc (.cells #[.pointer (some ⟨tb,0,none⟩)] 300)).alloc (.cells #[.pointer (some ⟨13,300,none⟩),.pointer (some ⟨w.heap.size,0,none⟩),.int .u64 150] 162)) (by simp)
 have hg2:((w.alloc (.cells #[.pointer (some ⟨tb,0,none⟩)] 300)).alloc (.cells #[.pointer (some ⟨13,300,none⟩),.pointer (some ⟨w.heap.size,0,none⟩),.int .u64 150] 162)).cell? ⟨1,0,none⟩=some (.iface 195 (.agg #[.pointer (some ⟨13,57,none⟩)])):=by
  rw[World.cell?_alloc_lt _ _ ⟨1,0,none⟩ (by simp<;>omega),World.cell?_alloc_lt _ _ ⟨1,0,none⟩ (by show 1<_;omega)];exact hE.et
 have ca:∀w1:World,Below w.heap.size w w1->w1.cell? ⟨w.heap.size,0,none⟩=some (.pointer (some ⟨tb,0,none⟩))->Calls Tryz.prog 128 #[.iface t0 x0,.iface 300 (.pointer (some ⟨tb,0,none⟩)),.agg #[.pointer (some ⟨13,300,none⟩),.pointer (some ⟨w.heap.size,0,none⟩),.int .u64 150],.iface 195 (.agg #[.pointer (some ⟨13,37,none⟩)])] w1
  (RAs n tb w1):=fun w1 hb hc=>as_faulty w.heap.size tb old d hd n _ w1 (hB.below hb) hc (by rw[hb.cell htl];exact ht) (by rw[hb.frozen htl];exact hf)
 have Ca:=Ih ca;clear ca;go_enter Tryz.func79,Tryz.ntmps79
 go_wp2_with fail
 refine(Ca.out _ (((Below.refl _ w).alloc (Nat.le_refl _) _).alloc (by simp) _) (by simp)).mono ?_;rintro e w1 ⟨rfl,hb1,hc1⟩
 go_wp2
 go_ret;exact⟨rfl,(((Below.refl tb w).alloc (Nat.le_of_lt hz) _).alloc (by simp;omega) _).trans hb1,hc1⟩
theorem Faulty.iface {w:World} {e:Int}:∀{d:Nat} {v:Value},Faulty w e d v->∃t x,v=.iface t x
 | 0,_,h=>⟨_,_,h⟩
 | _+1,_,⟨_,_,h,_⟩=>⟨_,_,h⟩
theorem code_any (d:Nat) (hd:d<=2) (n:Int) (v:Value) (w:World) (hE:EnvH w) (h:Faulty w n d v):Calls Tryz.prog 244 #[v] w fun e w'=>e=.returned (.int .i64 n)/\Below w.heap.size w w':=by
 obtain⟨t0,x0,rfl⟩:=h.iface;have cA:=Ih (As_faulty d hd n t0 x0 w.heap.size (.int .i64 0) (w.alloc (.cells #[.int .i64 0] 37)) (hE.below ((Below.refl _ w).alloc (Nat.le_refl _) _)) (h.below ((Below.refl _ w).alloc (Nat.le_refl _) _)) (by simp) (by simp));go_enter Tryz.func244,Tryz.ntmps244
 go_wp2_with fail
 refine cA.out.mono ?_;rintro e w1 ⟨rfl,hb1,hc1⟩
 go_wp2
 go_ret;exact⟨rfl,((Below.refl _ w).alloc (Nat.le_refl _) _).trans hb1⟩
end Go.Proofs.YtjhccadmmnjpeaaGreatDoor
namespace Lz
open Go
theorem numF_snoc (base:Nat):∀(l:Bs) (n:Nat) (c:UInt8),numF base n (l++[c])=match numF base n l with
  | none=>none
  | some m=>match hexV c with
    | none=>none
    | some d=>if base<=d then none else some (min (m*base+d) 1099511627776)
 | [],n,c=>by
   simp only[List.nil_append,numF];cases hexV c with
   | none=>rfl
   | some d=>by_cases h:base<=d<;>simp[h]
 | x::r,n,c=>by
   simp only[List.cons_append,numF];cases hexV x with
   | none=>rfl
   | some d=>
     by_cases h:base<=d
     ·simp[h]
     ·simp only[h,if_false];exact numF_snoc base r _ c
theorem numF_prefix_none (base:Nat) (l m:Bs) (n:Nat) (h:numF base n l=none):numF base n (l++m)=none:=by
 induction m generalizing l with
 | nil=>simpa using h
 | cons c r ih=>
   have:=numF_snoc base l n c;rw[h]at this;have h2:=ih (l++[c]) this;simpa using h2
end Lz
namespace Go.Proofs.YtjhccadmmnjpeaaGreatDoor
open Go.RowKit
theorem faulty_alloc {w:World} {e:Int} {s:ByteArray} {d:Nat} {u:Value} {t:TypeId} {fr:Nat×Nat} (hu:Faulty w e d u):Faulty (w.alloc (.cells #[.string s,u] t fr)) e (d+1) (.iface 291 (.pointer (some ⟨w.heap.size,0,none⟩))):=
 ⟨w.heap.size,u,rfl,by simp,by rw[World.cell?_alloc_mark];rfl,hu.below ((Below.refl _ w).alloc (Nat.le_refl _) _)⟩
def RNum (o:Option Nat) (w:World) (e:Ending) (w':World):Prop:=
 Below w.heap.size w w'/\match o with
  | some n=>e=.returned (.tuple #[.int .u64 n,.nilIface])/\n<=1099511627776
  | none=>∃v,e=.returned (.tuple #[.int .u64 0,v])/\Faulty w' 71 1 v
theorem rnum_fail {w wx:World} {s:ByteArray} {t:TypeId} {fr:Nat×Nat} (hb:Below w.heap.size w wx):
  RNum none w (.returned (.tuple #[.int .u64 0,.iface 291 (.pointer (some ⟨wx.heap.size,0,none⟩))])) (wx.alloc (.cells #[.string s,.iface 37 (.int .i64 71)] t fr)):=
 ⟨hb.alloc hb.size _,_,rfl,faulty_alloc rfl⟩
theorem rnum_ok {w wx:World} {n:Nat} (hb:Below w.heap.size w wx) (hn:n<=1099511627776):RNum (some n) w (.returned (.tuple #[.int .u64 n,.nilIface])) wx:=⟨hb,rfl,hn⟩
theorem wrap64 {x:Int} (h0:0<=x) (h1:x<=18446744073709551615):IntKind.u64.wrap x=x:=by
 have hb:IntKind.u64.bits=64:=rfl;have hs:IntKind.u64.signed=false:=rfl;simp only[IntKind.wrap,hb,hs]
 simp
 omega
theorem num_wrap (n B d:Nat) (hn:n<=1099511627776) (hB:B<=16) (hd:d<16):
  min (IntKind.u64.wrap (IntKind.u64.wrap ((n:Int)*(B:Int))+(d:Int))) 1099511627776=((min (n*B+d) 1099511627776:Nat):Int):=by
 have hm:n*B<=1099511627776*16:=Nat.mul_le_mul hn hB;have e:(n:Int)*(B:Int)=((n*B:Nat):Int):=by simp
 rw[e];generalize n*B=m at hm⊢;rw[wrap64 (x:=(m:Int)) (by omega) (by omega),wrap64 (by omega) (by omega)];omega
def numArgs (s:List UInt8):Nat×List UInt8:=
 if Lib.hasPrefix (Lz.low s) [48,120]then(16,48::(Lz.low s).drop 2)else if 1<s.length/\s[0]? =some 48 then(8,s.drop 1)else(10,s)
def numG (a:Nat×List UInt8):Option Nat:=if a.2=[]then none else Lz.numF a.1 0 a.2
theorem numArgs_eq (s:List UInt8):Lz.numP s=numG (numArgs s):=by
 unfold Lz.numP numArgs numG;by_cases h1:Lib.hasPrefix (Lz.low s) [48,120]=true
 ·simp[h1]
 ·by_cases h2:1<s.length/\s[0]? =some 48
  ·have:s.drop 1≠[]:=by intro h;have:=congrArg List.length h;simp at this;omega
   rw[if_neg h1,if_pos h2,if_neg h1,if_pos h2];exact(if_neg this).symm
  ·simp[h1,h2]
theorem HasPrefix_c (s p:ByteArray) (w:World):Calls Tryz.prog 106 #[.string s,.string p] w fun e w'=>e=.returned (.bool (Lib.hasPrefix s.data.toList p.data.toList))/\w=w':=by
 exact(Tryz.strings_HasPrefix s p w).mono fun _ _ ⟨h1,h2⟩=>⟨h1,h2.symm⟩
theorem number_any (s:ByteArray) (hs:s.size<=1048576) (w:World):Calls Tryz.prog 283 #[.string s] w (RNum (Lz.numP s.data.toList) w):=by
 rw[numArgs_eq];obtain⟨q1,hq1⟩:∃q,q=Lib.hasPrefix (Lz.low s.data.toList) [48,120]:=⟨_,rfl⟩;have hx0:Below w.heap.size w w:=Below.refl _ w;go_enter Tryz.func283,Tryz.ntmps283
 go_wp2_with fail
 with_reducible refine(Lower_c s (by omega) _).mono ?_
 rintro e w1 ⟨lw,rfl,hlw,hb1⟩
 go_wp2_with fail
 with_reducible refine(HasPrefix_c lw ⟨#[48,120]⟩ _).mono ?_
 rintro e w1' ⟨rfl,rfl⟩;rw[show Lib.hasPrefix lw.data.toList (ByteArray.data ⟨#[48,120]⟩).toList=q1 by rw[hq1,hlw.out]]
 obtain hq|⟨hq,h2a,h2b⟩|⟨hq,h2a⟩|⟨hq,h2a,h2b⟩:q1=true\/(q1=false/\1<s.size/\s.data.toList[0]? =some 48)\/(q1=false/\¬1<s.size)\/(q1=false/\1<s.size/\s.data.toList[0]? ≠some 48):=by
  cases q1
  ·by_cases h1:1<s.size
   ·by_cases h3:s.data.toList[0]? =some 48
    ·exact Or.inr (Or.inl ⟨rfl,h1,h3⟩)
    ·exact Or.inr (Or.inr (Or.inr ⟨rfl,h1,h3⟩))
   ·exact Or.inr (Or.inr (Or.inl ⟨rfl,h1⟩))
  ·exact Or.inl rfl
 ·have hlz:lw.size=s.size:=by rw[<-len_of_size,hlw.out];simp[Lz.low]
  have hl2:2<=lw.size:=by
   have:=hq1.symm.trans hq;rw[<-hlw.out]at this;rw[<-Lib.hasPrefix_of_take,Bool.and_eq_true,decide_eq_true_eq,len_of_size]at this;exact this.1
  have hs1:¬(9223372036854775807<1+(lw.size-2)):=by omega
  have HA:Hid (numArgs s.data.toList=(16,((⟨#[48]⟩:ByteArray)++lw.extract 2 lw.size).data.toList)):=by
   show _=_;rw[app_data,extract_tail',hlw.out];unfold numArgs;rw[if_pos (hq1.symm.trans hq)];rfl
  have huz:((⟨#[48]⟩:ByteArray)++lw.extract 2 lw.size).size<=s.size+1:=by
   have h1:((⟨#[48]⟩:ByteArray)++lw.extract 2 lw.size).data.toList.length=1+(lw.size-2):=by
    rw[app_data,extract_tail',List.length_append,List.length_drop,len_of_size];rfl
   rw[<-len_of_size];omega
  subst hq;clear hq1 hlz;obtain⟨B,hB⟩:∃B:Nat,B=16:=⟨_,rfl⟩;rw[show(16:Nat)=B from hB.symm]at HA;have hB1:1<=B/\B<=16:=by omega
  go_upto_region 4 with fail
  go_quiet (fail)
  rw[show Value.int .i64 16=Value.int .i64 (B:Int) by rw[hB];rfl];have hbx:=below_drewN hb1 nq;generalize (⟨#[48]⟩:ByteArray)++lw.extract 2 lw.size=u at HA huz⊢;generalize w1.drewN nq=wx at hbx⊢;clear hB hb1 hlw hs1 hl2;by_cases hz:u.size=0
  ·have he:=isEmpty_of_size hz
   have HN:Hid (numG (numArgs s.data.toList)=none):=by
    show _=_;rw[HA.out];have:u.data.toList=[]:=List.length_eq_zero_iff.1 (by rw[len_of_size];exact hz);unfold numG;rw[this];rfl
   first
    | (exfalso;omega)
    | (go_wp2;go_ret2;rw[HN.out];exact rnum_fail hbx)
  ·have he:=isEmpty_of_pos (s:=u) (by omega)
   have HU:Hid (numG (numArgs s.data.toList)=Lz.numF B 0 u.data.toList):=by
    show _=_;rw[HA.out];have:u.data.toList≠[]:=by intro h;exact hz (by rw[<-len_of_size,h];rfl)
    exact if_neg this
   go_wp2_with fail
   go_loopw [7,39] (fun a i wr=>∃j n:Nat,j<=u.size/\n<=1099511627776/\a=.int .u64 n/\i=.int .i64 j/\Hid (Lz.numF B 0 (u.data.toList.take j)=some n)/\Below w.heap.size w wr) (fun _ i _=>u.size-(intOf i).toNat)
   case atStart=>exact⟨0,0,Nat.zero_le _,by omega,rfl,rfl,Ih rfl,hbx⟩
   case round=>
    clear hbx;obtain⟨j,n,hj,hn,rfl,rfl,hN,hb⟩:=hrel;by_cases hlt:j<u.size
    ·have hg:=get_of_lt (s:=u) hlt;have htk:u.data.toList.take (j+1)=u.data.toList.take j++[u[j]]:=by rw[List.take_add_one,hg];rfl
     have hsn:=Lz.numF_snoc B (u.data.toList.take j) 0 u[j];rw[<-htk,hN.out]at hsn;have hpre:=fun h=>Lz.numF_prefix_none B (u.data.toList.take (j+1)) (u.data.toList.drop (j+1)) 0 h;rw[List.take_append_drop]at hpre;have cH:=fun W=>Hex_any u[j] W;unfold RHex Lz.hexN Lz.hexB at cH;have hx16:=hexN_lt u[j];unfold Lz.hexN at hx16;generalize hxv:Lz.hexV u[j]=xv at cH hsn hx16;have HSn:=Ih hsn;have HPr:=Ih hpre;clear hsn hpre htk hg hxv;cases xv with
     | none=>
       have HN2:Hid (Lz.numF B 0 u.data.toList=none):=by show _=_;exact HPr.out HSn.out
       go_wp2_with fail
       with_reducible refine(cH _).mono ?_
       rintro e w' ⟨rfl,rfl⟩
       go_wp2
       go_ret2
       rw[HU.out,HN2.out];exact rnum_fail hb
     | some d=>
       by_cases hBd:B<=d
       ·have HN2:Hid (Lz.numF B 0 u.data.toList=none):=by show _=_;exact HPr.out (HSn.out.trans (if_pos hBd))
        have hBd':(B:Int)<=(d:Int):=by omega
        go_wp2_with fail
        with_reducible refine(cH _).mono ?_
        rintro e w' ⟨rfl,rfl⟩
        go_wp2
        go_ret2
        rw[HU.out,HN2.out];exact rnum_fail hb
       ·have HS2:Hid (Lz.numF B 0 (u.data.toList.take (j+1))=some (min (n*B+d) 1099511627776)):=by show _=_;exact HSn.out.trans (if_neg hBd)
        have hBd':¬(B:Int)<=(d:Int):=by omega
        go_wp2_with fail
        with_reducible refine(cH _).mono ?_
        rintro e w' ⟨rfl,rfl⟩
        go_wp2
        go_roundw
        case rel=>exact⟨j+1,_,by omega,Nat.min_le_right _ _,congrArg _ (num_wrap n B d hn hB1.2 hx16),by go_num,HS2.out,hb⟩
        case measure=>simp[intOf];omega
    ·have hju:j=u.size:=by omega
     have HN2:Hid (Lz.numF B 0 u.data.toList=some n):=by
      show _=_;have:=hN.out;rw[hju,List.take_of_length_le (by rw[len_of_size];exact Nat.le_refl _)]at this;exact this
     go_wp2
     go_ret2
     rw[HU.out,HN2.out];exact rnum_ok hb hn
 ·have h48:((s[0].toNat:Int)==48)=true:=by
   rw[get_of_lt (by omega)]at h2b;exact(beqI s[0] 48).trans (beq_iff_eq.2 (Option.some.inj h2b))
  have HA:Hid (numArgs s.data.toList=(8,(s.extract 1 s.size).data.toList)):=by
   show _=_;rw[extract_tail'];unfold numArgs;rw[if_neg (by rw[<-hq1,hq];decide),if_pos ⟨by rw[len_of_size];exact h2a,h2b⟩]
  have huz:(s.extract 1 s.size).size<=s.size+1:=Nat.le_succ_of_le (extract_size_le' s 1 s.size);subst hq;clear h2b hq1;obtain⟨B,hB⟩:∃B:Nat,B=8:=⟨_,rfl⟩;rw[show(8:Nat)=B from hB.symm]at HA;have hB1:1<=B/\B<=16:=by omega
  go_upto_region 6 with fail
  go_quiet (fail)
  rw[show Value.int .i64 8=Value.int .i64 (B:Int) by rw[hB];rfl];have hbx:=below_drewN hb1 nq;generalize s.extract 1 s.size=u at HA huz⊢;generalize w1.drewN nq=wx at hbx⊢;clear hB h48 h2a hb1 hlw;by_cases hz:u.size=0
  ·have he:=isEmpty_of_size hz
   have HN:Hid (numG (numArgs s.data.toList)=none):=by
    show _=_;rw[HA.out];have:u.data.toList=[]:=List.length_eq_zero_iff.1 (by rw[len_of_size];exact hz);unfold numG;rw[this];rfl
   first
    | (exfalso;omega)
    | (go_wp2;go_ret2;rw[HN.out];exact rnum_fail hbx)
  ·have he:=isEmpty_of_pos (s:=u) (by omega)
   have HU:Hid (numG (numArgs s.data.toList)=Lz.numF B 0 u.data.toList):=by
    show _=_;rw[HA.out];have:u.data.toList≠[]:=by intro h;exact hz (by rw[<-len_of_size,h];rfl)
    exact if_neg this
   go_wp2_with fail
   go_loopw [7,39] (fun a i wr=>∃j n:Nat,j<=u.size/\n<=1099511627776/\a=.int .u64 n/\i=.int .i64 j/\Hid (Lz.numF B 0 (u.data.toList.take j)=some n)/\Below w.heap.size w wr) (fun _ i _=>u.size-(intOf i).toNat)
   case atStart=>exact⟨0,0,Nat.zero_le _,by omega,rfl,rfl,Ih rfl,hbx⟩
   case round=>
    clear hbx;obtain⟨j,n,hj,hn,rfl,rfl,hN,hb⟩:=hrel;by_cases hlt:j<u.size
    ·have hg:=get_of_lt (s:=u) hlt;have htk:u.data.toList.take (j+1)=u.data.toList.take j++[u[j]]:=by rw[List.take_add_one,hg];rfl
     have hsn:=Lz.numF_snoc B (u.data.toList.take j) 0 u[j];rw[<-htk,hN.out]at hsn;have hpre:=fun h=>Lz.numF_prefix_none B (u.data.toList.take (j+1)) (u.data.toList.drop (j+1)) 0 h;rw[List.take_append_drop]at hpre;have cH:=fun W=>Hex_any u[j] W;unfold RHex Lz.hexN Lz.hexB at cH;have hx16:=hexN_lt u[j];unfold Lz.hexN at hx16;generalize hxv:Lz.hexV u[j]=xv at cH hsn hx16;have HSn:=Ih hsn;have HPr:=Ih hpre;clear hsn hpre htk hg hxv;cases xv with
     | none=>
       have HN2:Hid (Lz.numF B 0 u.data.toList=none):=by show _=_;exact HPr.out HSn.out
       go_wp2_with fail
       with_reducible refine(cH _).mono ?_
       rintro e w' ⟨rfl,rfl⟩
       go_wp2
       go_ret2
       rw[HU.out,HN2.out];exact rnum_fail hb
     | some d=>
       by_cases hBd:B<=d
       ·have HN2:Hid (Lz.numF B 0 u.data.toList=none):=by show _=_;exact HPr.out (HSn.out.trans (if_pos hBd))
        have hBd':(B:Int)<=(d:Int):=by omega
        go_wp2_with fail
        with_reducible refine(cH _).mono ?_
        rintro e w' ⟨rfl,rfl⟩
        go_wp2
        go_ret2
        rw[HU.out,HN2.out];exact rnum_fail hb
       ·have HS2:Hid (Lz.numF B 0 (u.data.toList.take (j+1))=some (min (n*B+d) 1099511627776)):=by show _=_;exact HSn.out.trans (if_neg hBd)
        have hBd':¬(B:Int)<=(d:Int):=by omega
        go_wp2_with fail
        with_reducible refine(cH _).mono ?_
        rintro e w' ⟨rfl,rfl⟩
        go_wp2
        go_roundw
        case rel=>exact⟨j+1,_,by omega,Nat.min_le_right _ _,congrArg _ (num_wrap n B d hn hB1.2 hx16),by go_num,HS2.out,hb⟩
        case measure=>simp[intOf];omega
    ·have hju:j=u.size:=by omega
     have HN2:Hid (Lz.numF B 0 u.data.toList=some n):=by
      show _=_;have:=hN.out;rw[hju,List.take_of_length_le (by rw[len_of_size];exact Nat.le_refl _)]at this;exact this
     go_wp2
     go_ret2
     rw[HU.out,HN2.out];exact rnum_ok hb hn
 ·have HA:Hid (numArgs s.data.toList=(10,s.data.toList)):=by
   show _=_;unfold numArgs;rw[if_neg (by rw[<-hq1,hq];decide),if_neg (by rw[len_of_size];exact fun h=>h2a h.1)]
  have huz:s.size<=s.size+1:=Nat.le_succ _;have h2c:(s.size:Int)<=1:=by omega
  subst hq;clear hq1;obtain⟨B,hB⟩:∃B:Nat,B=10:=⟨_,rfl⟩;rw[show(10:Nat)=B from hB.symm]at HA;have hB1:1<=B/\B<=16:=by omega
  go_upto_region 7 with fail
  rw[show Value.int .i64 10=Value.int .i64 (B:Int) by rw[hB];rfl];have hbx:=hb1;generalize w1=wx at hbx⊢;clear hB h2a h2c hb1 hlw;by_cases hz:s.size=0
  ·have he:=isEmpty_of_size hz
   have HN:Hid (numG (numArgs s.data.toList)=none):=by
    show _=_;rw[HA.out];have:s.data.toList=[]:=List.length_eq_zero_iff.1 (by rw[len_of_size];exact hz);unfold numG;rw[this];rfl
   first
    | (exfalso;omega)
    | (go_wp2;go_ret2;rw[HN.out];exact rnum_fail hbx)
  ·have he:=isEmpty_of_pos (s:=s) (by omega)
   have HU:Hid (numG (numArgs s.data.toList)=Lz.numF B 0 s.data.toList):=by
    show _=_;rw[HA.out];have:s.data.toList≠[]:=by intro h;exact hz (by rw[<-len_of_size,h];rfl)
    exact if_neg this
   go_wp2_with fail
   go_loopw [7,39] (fun a i wr=>∃j n:Nat,j<=s.size/\n<=1099511627776/\a=.int .u64 n/\i=.int .i64 j/\Hid (Lz.numF B 0 (s.data.toList.take j)=some n)/\Below w.heap.size w wr) (fun _ i _=>s.size-(intOf i).toNat)
   case atStart=>exact⟨0,0,Nat.zero_le _,by omega,rfl,rfl,Ih rfl,hbx⟩
   case round=>
    clear hbx;obtain⟨j,n,hj,hn,rfl,rfl,hN,hb⟩:=hrel;by_cases hlt:j<s.size
    ·have hg:=get_of_lt (s:=s) hlt;have htk:s.data.toList.take (j+1)=s.data.toList.take j++[s[j]]:=by rw[List.take_add_one,hg];rfl
     have hsn:=Lz.numF_snoc B (s.data.toList.take j) 0 s[j];rw[<-htk,hN.out]at hsn;have hpre:=fun h=>Lz.numF_prefix_none B (s.data.toList.take (j+1)) (s.data.toList.drop (j+1)) 0 h;rw[List.take_append_drop]at hpre;have cH:=fun W=>Hex_any s[j] W;unfold RHex Lz.hexN Lz.hexB at cH;have hx16:=hexN_lt s[j];unfold Lz.hexN at hx16;generalize hxv:Lz.hexV s[j]=xv at cH hsn hx16;have HSn:=Ih hsn;have HPr:=Ih hpre;clear hsn hpre htk hg hxv;cases xv with
     | none=>
       have HN2:Hid (Lz.numF B 0 s.data.toList=none):=by show _=_;exact HPr.out HSn.out
       go_wp2_with fail
       with_reducible refine(cH _).mono ?_
       rintro e w' ⟨rfl,rfl⟩
       go_wp2
       go_ret2
       rw[HU.out,HN2.out];exact rnum_fail hb
     | some d=>
       by_cases hBd:B<=d
       ·have HN2:Hid (Lz.numF B 0 s.data.toList=none):=by show _=_;exact HPr.out (HSn.out.trans (if_pos hBd))
        have hBd':(B:Int)<=(d:Int):=by omega
        go_wp2_with fail
        with_reducible refine(cH _).mono ?_
        rintro e w' ⟨rfl,rfl⟩
        go_wp2
        go_ret2
        rw[HU.out,HN2.out];exact rnum_fail hb
       ·have HS2:Hid (Lz.numF B 0 (s.data.toList.take (j+1))=some (min (n*B+d) 1099511627776)):=by show _=_;exact HSn.out.trans (if_neg hBd)
        have hBd':¬(B:Int)<=(d:Int):=by omega
        go_wp2_with fail
        with_reducible refine(cH _).mono ?_
        rintro e w' ⟨rfl,rfl⟩
        go_wp2
        go_roundw
        case rel=>exact⟨j+1,_,by omega,Nat.min_le_right _ _,congrArg _ (num_wrap n B d hn hB1.2 hx16),by go_num,HS2.out,hb⟩
        case measure=>simp[intOf];omega
    ·have hju:j=s.size:=by omega
     have HN2:Hid (Lz.numF B 0 s.data.toList=some n):=by
      show _=_;have:=hN.out;rw[hju,List.take_of_length_le (by rw[len_of_size];exact Nat.le_refl _)]at this;exact this
     go_wp2
     go_ret2
     rw[HU.out,HN2.out];exact rnum_ok hb hn
 ·have h48:((s[0].toNat:Int)==48)=false:=by
   rw[get_of_lt (by omega)]at h2b;exact(beqI s[0] 48).trans (beq_eq_false_iff_ne.2 (fun h=>h2b (congrArg some h)))
  have HA:Hid (numArgs s.data.toList=(10,s.data.toList)):=by
   show _=_;unfold numArgs;rw[if_neg (by rw[<-hq1,hq];decide),if_neg (fun h=>h2b h.2)]
  have huz:s.size<=s.size+1:=Nat.le_succ _;subst hq;clear hq1 h2b;obtain⟨B,hB⟩:∃B:Nat,B=10:=⟨_,rfl⟩;rw[show(10:Nat)=B from hB.symm]at HA;have hB1:1<=B/\B<=16:=by omega
  go_upto_region 7 with fail
  rw[show Value.int .i64 10=Value.int .i64 (B:Int) by rw[hB];rfl];have hbx:=hb1;generalize w1=wx at hbx⊢;clear hB h48 hb1 hlw;by_cases hz:s.size=0
  ·have he:=isEmpty_of_size hz
   have HN:Hid (numG (numArgs s.data.toList)=none):=by
    show _=_;rw[HA.out];have:s.data.toList=[]:=List.length_eq_zero_iff.1 (by rw[len_of_size];exact hz);unfold numG;rw[this];rfl
   first
    | (exfalso;omega)
    | (go_wp2;go_ret2;rw[HN.out];exact rnum_fail hbx)
  ·have he:=isEmpty_of_pos (s:=s) (by omega)
   have HU:Hid (numG (numArgs s.data.toList)=Lz.numF B 0 s.data.toList):=by
    show _=_;rw[HA.out];have:s.data.toList≠[]:=by intro h;exact hz (by rw[<-len_of_size,h];rfl)
    exact if_neg this
   go_wp2_with fail
   go_loopw [7,39] (fun a i wr=>∃j n:Nat,j<=s.size/\n<=1099511627776/\a=.int .u64 n/\i=.int .i64 j/\Hid (Lz.numF B 0 (s.data.toList.take j)=some n)/\Below w.heap.size w wr) (fun _ i _=>s.size-(intOf i).toNat)
   case atStart=>exact⟨0,0,Nat.zero_le _,by omega,rfl,rfl,Ih rfl,hbx⟩
   case round=>
    clear hbx;obtain⟨j,n,hj,hn,rfl,rfl,hN,hb⟩:=hrel;by_cases hlt:j<s.size
    ·have hg:=get_of_lt (s:=s) hlt;have htk:s.data.toList.take (j+1)=s.data.toList.take j++[s[j]]:=by rw[List.take_add_one,hg];rfl
     have hsn:=Lz.numF_snoc B (s.data.toList.take j) 0 s[j];rw[<-htk,hN.out]at hsn;have hpre:=fun h=>Lz.numF_prefix_none B (s.data.toList.take (j+1)) (s.data.toList.drop (j+1)) 0 h;rw[List.take_append_drop]at hpre;have cH:=fun W=>Hex_any s[j] W;unfold RHex Lz.hexN Lz.hexB at cH;have hx16:=hexN_lt s[j];unfold Lz.hexN at hx16;generalize hxv:Lz.hexV s[j]=xv at cH hsn hx16;have HSn:=Ih hsn;have HPr:=Ih hpre;clear hsn hpre htk hg hxv;cases xv with
     | none=>
       have HN2:Hid (Lz.numF B 0 s.data.toList=none):=by show _=_;exact HPr.out HSn.out
       go_wp2_with fail
       with_reducible refine(cH _).mono ?_
       rintro e w' ⟨rfl,rfl⟩
       go_wp2
       go_ret2
       rw[HU.out,HN2.out];exact rnum_fail hb
     | some d=>
       by_cases hBd:B<=d
       ·have HN2:Hid (Lz.numF B 0 s.data.toList=none):=by show _=_;exact HPr.out (HSn.out.trans (if_pos hBd))
        have hBd':(B:Int)<=(d:Int):=by omega
        go_wp2_with fail
        with_reducible refine(cH _).mono ?_
        rintro e w' ⟨rfl,rfl⟩
        go_wp2
        go_ret2
        rw[HU.out,HN2.out];exact rnum_fail hb
       ·have HS2:Hid (Lz.numF B 0 (s.data.toList.take (j+1))=some (min (n*B+d) 1099511627776)):=by show _=_;exact HSn.out.trans (if_neg hBd)
        have hBd':¬(B:Int)<=(d:Int):=by omega
        go_wp2_with fail
        with_reducible refine(cH _).mono ?_
        rintro e w' ⟨rfl,rfl⟩
        go_wp2
        go_roundw
        case rel=>exact⟨j+1,_,by omega,Nat.min_le_right _ _,congrArg _ (num_wrap n B d hn hB1.2 hx16),by go_num,HS2.out,hb⟩
        case measure=>simp[intOf];omega
    ·have hju:j=s.size:=by omega
     have HN2:Hid (Lz.numF B 0 s.data.toList=some n):=by
      show _=_;have:=hN.out;rw[hju,List.take_of_length_le (by rw[len_of_size];exact Nat.le_refl _)]at this;exact this
     go_wp2
     go_ret2
     rw[HU.out,HN2.out];exact rnum_ok hb hn
end Go.Proofs.YtjhccadmmnjpeaaGreatDoor
