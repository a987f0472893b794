/-
  errors.As at a target of the type sources.bad: an error that is one, or joins errors the first of which is one, is found.
-/
import Derived.Test.YtfepgodjaeddgaaGreatDoorR06
import Derived.Stop.Asserts
import Derived.RowKitTokens
set_option maxHeartbeats 4000000
set_option maxRecDepth 100000
namespace Go.Proofs.YtfepgodjaeddgaaGreatDoor
open Go.RowKit Go.Extern.Stop Go.Stop Go.Extern
theorem rlm (z:Sem Value) (f:TypeId->Addr->Nat->Nat->Sem Value) (v:Value):
 ReflectliteValue.method z f #[v]=(do match <-ReflectliteValue.parts v with|none=>z|some (t,a,fl)=>f t a fl (fl%32)):=rfl
theorem rls (v x:Value):ReflectliteValue.set #[v,x]=(do
 let (some (dst,a,fl),some (src,b,_)):=(<-ReflectliteValue.parts v,<-ReflectliteValue.parts x)
  | unsupported (.noEntry "extern/(internal/reflectlite.Value).Set.zeroValue")
 if fl / ReflectliteValue.flagAddr%2==0 then unsupported (.noEntry "extern/(internal/reflectlite.Value).Set.unaddressable")
 let val <-loadVar src b
 if <-Rtype.directlyAssignable dst src then storeVar dst a val
 else if <-Rtype.implements dst src then
  if(<-Rtype.kind src)==20 then
   match val with
   | .nilIface=>unsupported (.noEntry "extern/reflectlite: a nil value of one interface type handed on as a value of another")
   | _=>storeVar dst a val
  else storeVar dst a (.iface src val)
 else panicString ("reflectlite.Set: value of type "++(<-Rtype.spelt src)++ " is not assignable to type "++(<-Rtype.spelt dst))
 pure (.tuple #[])):=rfl
theorem rt.methodKind (h:Value) (w:World):(Go.method 453 164 (.agg #[h]) "Kind").run Tryz.prog w=.ok (321,h) w:=by kernel_rfl
theorem rt.methodElem (h:Value) (w:World):(Go.method 453 164 (.agg #[h]) "Elem").run Tryz.prog w=.ok (332,.agg #[h]) w:=by kernel_rfl
theorem rt.methodImplements (h:Value) (w:World):(Go.method 453 164 (.agg #[h]) "Implements").run Tryz.prog w=.ok (333,.agg #[h]) w:=by kernel_rfl
theorem rt.methodAssignableTo (h:Value) (w:World):(Go.method 453 164 (.agg #[h]) "AssignableTo").run Tryz.prog w=.ok (330,.agg #[h]) w:=by kernel_rfl
theorem Ba.valueOfP (t:Addr) (w:World):(ReflectliteValue.unpack (.iface 124 (.pointer (some t)))).run Tryz.prog w
 =.ok (.agg #[.pointer (some ⟨11,124,none⟩),.pointer (some ⟨w.heap.size,0,none⟩),.int .u64 150]) (w.alloc (.cells #[.pointer (some t)] 124)):=by kernel_rfl
theorem Ba.typeP (a:Addr) (w:World):(ReflectliteValue.methodAny (ReflectliteValue.valueError "reflectlite.Value.Type" 0) (fun t _ _ _=>ReflectliteType.toType t) #[.agg #[.pointer (some ⟨11,124,none⟩),.pointer (some a),.int .u64 150]]).run Tryz.prog w
 =.ok (.iface 164 (.agg #[.pointer (some ⟨11,124,none⟩)])) w:=by kernel_rfl
theorem Ba.kindP (w:World):((ReflectliteType.abiMethod fun t=>(fun a:Nat=>Value.int IntKind.u8 (a:Int)) <$> Rtype.kind t) #[.pointer (some ⟨11,124,none⟩)]).run Tryz.prog w=.ok (.int .u8 22) w:=by kernel_rfl
theorem Ba.kindT (w:World):((ReflectliteType.abiMethod fun t=>(fun a:Nat=>Value.int IntKind.u8 (a:Int)) <$> Rtype.kind t) #[.pointer (some ⟨11,122,none⟩)]).run Tryz.prog w=.ok (.int .u8 24) w:=by kernel_rfl
theorem Ba.partsP (a:Addr) (w:World):(ReflectliteValue.parts (.agg #[.pointer (some ⟨11,124,none⟩),.pointer (some a),.int .u64 150])).run Tryz.prog w=.ok (some (124,a,150)) w:=by kernel_rfl
theorem Ba.isNilP (a p:Addr) (W:World) (ha:W.cell? a=some (.pointer (some p))):
  (ReflectliteValue.method (ReflectliteValue.valueError "reflectlite.Value.IsNil" 0) ReflectliteValue.isNil #[.agg #[.pointer (some ⟨11,124,none⟩),.pointer (some a),.int .u64 150]]).run Tryz.prog W=.ok (.bool false) W:=by
 rw[rlm];simp only[Sem.run_bind,Ba.partsP,Result.andThen]
 simp[ReflectliteValue.isNil,loadVar,isAgg,underlying,Tryz.underlying124,ha,Result.andThen]
theorem Ba.elemP (w:World):(ReflectliteType.method ReflectliteType.elem #[.agg #[.pointer (some ⟨11,124,none⟩)]]).run Tryz.prog w=.ok (.iface 164 (.agg #[.pointer (some ⟨11,122,none⟩)])) w:=by kernel_rfl
theorem Ba.implementsT (w:World):(ReflectliteType.relation "Implements" ReflectliteType.implements_ #[.agg #[.pointer (some ⟨11,122,none⟩)],.iface 164 (.agg #[.pointer (some ⟨11,50,none⟩)])]).run Tryz.prog w=.ok (.bool true) w:=by kernel_rfl
theorem Ba.typeOfT (v:Value) (w:World):(ReflectliteType.typeOf #[.iface 122 v]).run Tryz.prog w=.ok (.iface 164 (.agg #[.pointer (some ⟨11,122,none⟩)])) w:=by kernel_rfl
theorem Ba.assignableT (w:World):(ReflectliteType.relation "AssignableTo" ReflectliteType.assignableTo #[.agg #[.pointer (some ⟨11,122,none⟩)],.iface 164 (.agg #[.pointer (some ⟨11,122,none⟩)])]).run Tryz.prog w=.ok (.bool true) w:=by kernel_rfl
theorem Ba.valueOfT (s:ByteArray) (w:World):(ReflectliteValue.unpack (.iface 122 (.string s))).run Tryz.prog w
 =.ok (.agg #[.pointer (some ⟨11,122,none⟩),.pointer (some ⟨w.heap.size,0,none⟩),.int .u64 152]) (w.alloc (.cells #[(.string s)] 122)):=by kernel_rfl
theorem Ba.elemOfP (w:World):(Rtype.elem? 124).run Tryz.prog w=.ok (some 122) w:=by kernel_rfl
theorem Ba.mkT (p:Addr) (w:World):(ReflectliteValue.mk 122 p ReflectliteValue.flagAddr).run Tryz.prog w=.ok (.agg #[.pointer (some ⟨11,122,none⟩),.pointer (some p),.int .u64 408]) w:=by kernel_rfl
theorem Ba.elemVP (a p:Addr) (W:World) (ha:W.cell? a=some (.pointer (some p))):
  (ReflectliteValue.method (ReflectliteValue.valueError "reflectlite.Value.Elem" 0) ReflectliteValue.elem #[.agg #[.pointer (some ⟨11,124,none⟩),.pointer (some a),.int .u64 150]]).run Tryz.prog W
   =.ok (.agg #[.pointer (some ⟨11,122,none⟩),.pointer (some p),.int .u64 408]) W:=by
 rw[rlm];simp only[Sem.run_bind,Ba.partsP,Result.andThen]
 simp[ReflectliteValue.elem,loadVar,isAgg,underlying,Tryz.underlying124,ha,Result.andThen,Ba.elemOfP,Ba.mkT]
theorem Ba.partsTa (a:Addr) (w:World):(ReflectliteValue.parts (.agg #[.pointer (some ⟨11,122,none⟩),.pointer (some a),.int .u64 408])).run Tryz.prog w=.ok (some (122,a,408)) w:=by kernel_rfl
theorem Ba.partsT (a:Addr) (w:World):(ReflectliteValue.parts (.agg #[.pointer (some ⟨11,122,none⟩),.pointer (some a),.int .u64 152])).run Tryz.prog w=.ok (some (122,a,128+24)) w:=by kernel_rfl
theorem Ba.directT (w:World):(Rtype.directlyAssignable 122 122).run Tryz.prog w=.ok true w:=by kernel_rfl
theorem Ba.setT (ta b:Addr) (s:ByteArray) (old:Value) (W:World) (hb:W.cell? b=some (.string s)) (ht:W.cell? ta=some old) (hf:W.frozen? ta=false):
  (ReflectliteValue.set #[.agg #[.pointer (some ⟨11,122,none⟩),.pointer (some ta),.int .u64 408],.agg #[.pointer (some ⟨11,122,none⟩),.pointer (some b),.int .u64 152]]).run Tryz.prog W
   =.ok (.tuple #[]) (W.setCell ta (.string s)):=by
 rw[rls];simp only[Sem.run_bind,Ba.partsTa,Ba.partsT,Result.andThen]
 simp[ReflectliteValue.flagAddr,loadVar,isAgg,underlying,Tryz.underlying122,hb,Result.andThen,Ba.directT,storeVar,Value.cells,storeCells,Addr.add]
 rw[run_store Tryz.prog W ta _ _ (by rfl)]
 simp[ht,hf]
theorem as_zero (s:ByteArray) (vb tb:Nat) (old:Value) (w:World) (hv:w.cell? ⟨vb,0,none⟩=some (.pointer (some ⟨tb,0,none⟩))) (ht:w.cell? ⟨tb,0,none⟩=some old) (hf:w.frozen? ⟨tb,0,none⟩=false):
  Calls Tryz.prog 168 #[.iface 122 (.string s),.iface 124 (.pointer (some ⟨tb,0,none⟩)),.agg #[.pointer (some ⟨11,124,none⟩),.pointer (some ⟨vb,0,none⟩),.int .u64 150],.iface 164 (.agg #[.pointer (some ⟨11,122,none⟩)])] w
   fun e w'=>e=.returned (.bool true)/\Below tb w w':=by
 have h48:= @run_callFunc_extern Tryz.prog 165 _ (fun args=>ReflectliteValue.unpack (args.getD 0 (.tuple #[]))) Tryz.func165 (by kernel_rfl) (by kernel_rfl) (by kernel_rfl) (by kernel_rfl);have h95:= @run_callFunc_extern Tryz.prog 107 _ ReflectliteType.typeOf Tryz.func107 (by kernel_rfl) (by kernel_rfl) (by kernel_rfl) (by kernel_rfl);have h214:= @run_callFunc_extern Tryz.prog 330 _ (ReflectliteType.relation "AssignableTo" ReflectliteType.assignableTo) Tryz.func330 (by kernel_rfl) (by kernel_rfl) (by kernel_rfl) (by kernel_rfl);have h96:= @run_callFunc_extern Tryz.prog 213 _ (ReflectliteValue.method (ReflectliteValue.valueError "reflectlite.Value.Elem" 0) ReflectliteValue.elem) Tryz.func213 (by kernel_rfl) (by kernel_rfl) (by kernel_rfl) (by kernel_rfl);have h97:= @run_callFunc_extern Tryz.prog 214 _ ReflectliteValue.set Tryz.func214 (by kernel_rfl) (by kernel_rfl) (by kernel_rfl) (by kernel_rfl);have tO:=Ba.typeOfT;have mA:=rt.methodAssignableTo;have aT:=Ba.assignableT;have vT:=Ba.valueOfT;have hvl:=World.block_lt_of_cell? _ _ hv;have htl:=World.block_lt_of_cell? _ _ ht
 have el:=Ba.elemVP ⟨vb,0,none⟩ ⟨tb,0,none⟩ (w.alloc (.cells #[.pointer (some ⟨11,124,none⟩),.pointer (some ⟨vb,0,none⟩),.int .u64 150] 178)) (by rw[World.cell?_alloc_lt _ _ ⟨vb,0,none⟩ hvl];exact hv)
 have st:=Ba.setT ⟨tb,0,none⟩ ⟨w.heap.size+1,0,none⟩ s old ((w.alloc (.cells #[.pointer (some ⟨11,124,none⟩),.pointer (some ⟨vb,0,none⟩),.int .u64 150] 178)).alloc (.cells #[.string s] 122))
  (by rw[World.cell?_alloc_at _ _ _ _ (by simp)];rfl)
  (by rw[World.cell?_alloc_lt _ _ ⟨tb,0,none⟩ (by simp;simp at htl;omega),World.cell?_alloc_lt _ _ ⟨tb,0,none⟩ htl];exact ht)
  (by rw[World.frozen?_alloc_old _ _ ⟨tb,0,none⟩ (by simp;simp at htl;omega),World.frozen?_alloc_old _ _ ⟨tb,0,none⟩ (Nat.ne_of_lt htl)];exact hf)
 go_enter Tryz.func168,Tryz.ntmps168
 go_wp2
 refine wp_loop_rounds 1 ?_;rw[rounds_succ]
 go_wp2
 go_ret;have hz:tb<w.heap.size:=htl;exact⟨rfl,(((Below.refl tb w).setCell (p:=⟨tb,0,none⟩) (Nat.le_refl _) _).alloc (by simp;omega) _).alloc (by simp;omega) _⟩
theorem typeOfJ (v:Value) (w:World):(ReflectliteType.typeOf #[.iface 242 v]).run Tryz.prog w=.ok (.iface 164 (.agg #[.pointer (some ⟨11,242,none⟩)])) w:=by kernel_rfl
theorem assignableJ (w:World):(ReflectliteType.relation "AssignableTo" ReflectliteType.assignableTo #[.agg #[.pointer (some ⟨11,242,none⟩)],.iface 164 (.agg #[.pointer (some ⟨11,122,none⟩)])]).run Tryz.prog w=.ok (.bool false) w:=by kernel_rfl
theorem noAsJ (v:Value) (xT:TypeId) (w:World):(Instr.typeAssert (.iface 242 v) xT 207 true).run Tryz.prog w=.ok (.tuple #[.nilIface,.bool false]) w:=run_typeAssert_lacksB Tryz.underlying207 (by kernel_rfl) (by kernel_rfl) v xT w
theorem noUnJ (v:Value) (xT:TypeId) (w:World):(Instr.typeAssert (.iface 242 v) xT 169 true).run Tryz.prog w=.ok (.tuple #[.nilIface,.bool false]) w:=run_typeAssert_lacksB Tryz.underlying169 (by kernel_rfl) (by kernel_rfl) v xT w
theorem hasUnJ (v:Value) (xT:TypeId) (w:World):(Instr.typeAssert (.iface 242 v) xT 171 true).run Tryz.prog w=.ok (.tuple #[.iface 242 v,.bool true]) w:=run_typeAssert_hasB Tryz.underlying171 (by kernel_rfl) v xT w
theorem as_join (p g len cap vb tb:Nat) (t0:TypeId) (x0:Value) (w:World) (h1:1<=len) (h2:len<=2) (hp:w.cell? ⟨p,0,none⟩=some (.slice (some ⟨g,0,none⟩) len cap)) (hg:w.cell? ⟨g,0,none⟩=some (.iface t0 x0)) (htl:tb<w.heap.size)
  (ih:∀w1:World,Below w.heap.size w w1->Calls Tryz.prog 168 #[.iface t0 x0,.iface 124 (.pointer (some ⟨tb,0,none⟩)),.agg #[.pointer (some ⟨11,124,none⟩),.pointer (some ⟨vb,0,none⟩),.int .u64 150],.iface 164 (.agg #[.pointer (some ⟨11,122,none⟩)])] w1
   fun e w'=>e=.returned (.bool true)/\Below tb w1 w'):
  Calls Tryz.prog 168 #[.iface 242 (.pointer (some ⟨p,0,none⟩)),.iface 124 (.pointer (some ⟨tb,0,none⟩)),.agg #[.pointer (some ⟨11,124,none⟩),.pointer (some ⟨vb,0,none⟩),.int .u64 150],.iface 164 (.agg #[.pointer (some ⟨11,122,none⟩)])] w
   fun e w'=>e=.returned (.bool true)/\Below tb w w':=by
 have h95:= @run_callFunc_extern Tryz.prog 107 _ ReflectliteType.typeOf Tryz.func107 (by kernel_rfl) (by kernel_rfl) (by kernel_rfl) (by kernel_rfl);have h214:= @run_callFunc_extern Tryz.prog 330 _ (ReflectliteType.relation "AssignableTo" ReflectliteType.assignableTo) Tryz.func330 (by kernel_rfl) (by kernel_rfl) (by kernel_rfl) (by kernel_rfl);have tO:=typeOfJ;have mA:=rt.methodAssignableTo;have aT:=assignableJ;have a1:=noAsJ;have a2:=noUnJ;have a3:=hasUnJ;have Ih:=Ih ih;clear ih;have hgl:g<w.heap.size:=World.block_lt_of_cell? _ _ hg;have hpl:p<w.heap.size:=World.block_lt_of_cell? _ _ hp;have nu:∀w,(nilAhead 453 242 (.pointer (some ⟨p,0,none⟩)) "Unwrap").run Tryz.prog w=.ok (some false) w:=fun _=>by kernel_rfl
 have mU:∀w,(Go.method 453 242 (.pointer (some ⟨p,0,none⟩)) "Unwrap").run Tryz.prog w=.ok (355,.pointer (some ⟨p,0,none⟩)) w:=fun _=>by kernel_rfl
 have hx0:¬(len=0):=by omega
 go_enter Tryz.func168,Tryz.ntmps168
 go_wp2
 refine wp_loop_rounds 1 ?_;rw[rounds_succ]
 go_wp2
 refine wp_loop_rounds 1 ?_;rw[rounds_succ]
 go_wp2_with fail
 refine(Ih.out _ ((Below.refl _ w).alloc (Nat.le_refl _) _)).mono ?_;rintro e w1 ⟨rfl,hb1⟩
 go_wp2
 go_ret;exact⟨rfl,((Below.refl tb w).alloc (Nat.le_of_lt htl) _).trans hb1⟩
theorem Bady.below {w w':World} (hb:Below w.heap.size w w'):∀{n:Nat} {v:Value},Bady w n v->Bady w' n v
 | 0,_,h=>h
 | n+1,v,h=>by
   rcases h with h|⟨p,g,len,cap,v0,h1,h2,h3,h4,h5,h6,h7,h8⟩
   ·exact Or.inl (Bady.below hb h)
   ·exact Or.inr ⟨p,g,len,cap,v0,h1,Nat.lt_of_lt_of_le h2 hb.size,Nat.lt_of_lt_of_le h3 hb.size,by rw[hb.cell (p:=⟨p,0,none⟩) h2];exact h4,h5,h6,by rw[hb.cell (p:=⟨g,0,none⟩) h3];exact h7,Bady.below hb h8⟩
theorem Bady.iface {w:World}:∀{n:Nat} {v:Value},Bady w n v->∃t x,v=.iface t x
 | 0,_,⟨b,h⟩=>⟨_,_,h⟩
 | n+1,v,h=>by
   rcases h with h|⟨p,g,len,cap,v0,h1,_⟩
   ·exact Bady.iface h
   ·exact⟨_,_,h1⟩
theorem as_bady (vb tb:Nat) (old:Value):∀(n:Nat) (v:Value) (w:World),Bady w n v->w.cell? ⟨vb,0,none⟩=some (.pointer (some ⟨tb,0,none⟩))->w.cell? ⟨tb,0,none⟩=some old->w.frozen? ⟨tb,0,none⟩=false->
  Calls Tryz.prog 168 #[v,.iface 124 (.pointer (some ⟨tb,0,none⟩)),.agg #[.pointer (some ⟨11,124,none⟩),.pointer (some ⟨vb,0,none⟩),.int .u64 150],.iface 164 (.agg #[.pointer (some ⟨11,122,none⟩)])] w
   fun e w'=>e=.returned (.bool true)/\Below tb w w'
 | 0,v,w,⟨b,h⟩,hv,ht,hf=>by rw[h];exact as_zero b vb tb old w hv ht hf
 | n+1,v,w,h,hv,ht,hf=>by
   rcases h with h|⟨p,g,len,cap,v0,h1,h2,h3,h4,h5,h6,h7,h8⟩
   ·exact as_bady vb tb old n v w h hv ht hf
   ·rw[h1];obtain⟨t0,x0,h0⟩:=h8.iface;rw[h0]at h7 h8;have hvl:=World.block_lt_of_cell? _ _ hv;have htl:=World.block_lt_of_cell? _ _ ht;refine as_join p g len cap vb tb t0 x0 w h5 h6 h4 h7 htl fun w1 hb=>?_;exact as_bady vb tb old n _ w1 (h8.below hb) (by rw[hb.cell hvl];exact hv) (by rw[hb.cell htl];exact ht) (by rw[hb.frozen htl];exact hf)
theorem As_nil (t:Value) (w:World):Calls Tryz.prog 110 #[.nilIface,t] w fun e w'=>e=.returned (.bool false)/\w=w':=by
 go_enter Tryz.func110,Tryz.ntmps110
 go_wp2
 go_ret;exact⟨rfl,rfl⟩
theorem As_bady (n:Nat) (t0:TypeId) (x0:Value) (tb:Nat) (old:Value) (w:World) (hE:Env w) (hB:Bady w n (.iface t0 x0)) (ht:w.cell? ⟨tb,0,none⟩=some old) (hf:w.frozen? ⟨tb,0,none⟩=false):
  Calls Tryz.prog 110 #[.iface t0 x0,.iface 124 (.pointer (some ⟨tb,0,none⟩))] w fun e w'=>e=.returned (.bool true)/\Below tb w w':=by
 have h48:= @run_callFunc_extern Tryz.prog 165 _ (fun args=>ReflectliteValue.unpack (args.getD 0 (.tuple #[]))) Tryz.func165 (by kernel_rfl) (by kernel_rfl) (by kernel_rfl) (by kernel_rfl);have h49:= @run_callFunc_extern Tryz.prog 166 _ (ReflectliteValue.methodAny (ReflectliteValue.valueError "reflectlite.Value.Type" 0) (fun t _ _ _=>ReflectliteType.toType t)) Tryz.func166 (by kernel_rfl) (by kernel_rfl) (by kernel_rfl) (by kernel_rfl);have h50:= @run_callFunc_extern Tryz.prog 167 _ (ReflectliteValue.method (ReflectliteValue.valueError "reflectlite.Value.IsNil" 0) ReflectliteValue.isNil) Tryz.func167 (by kernel_rfl) (by kernel_rfl) (by kernel_rfl) (by kernel_rfl);have h203:= @run_callFunc_extern Tryz.prog 321 _ (ReflectliteType.abiMethod fun t=>do pure (.int .u8 (<-Rtype.kind t))) Tryz.func321 (by kernel_rfl) (by kernel_rfl) (by kernel_rfl) (by kernel_rfl);have h216:= @run_callFunc_extern Tryz.prog 332 _ (ReflectliteType.method ReflectliteType.elem) Tryz.func332 (by kernel_rfl) (by kernel_rfl) (by kernel_rfl) (by kernel_rfl)
 have h217:= @run_callFunc_extern Tryz.prog 333 _ (ReflectliteType.relation "Implements" ReflectliteType.implements_) Tryz.func333 (by kernel_rfl) (by kernel_rfl) (by kernel_rfl) (by kernel_rfl);have f6:=Ba.valueOfP;have f7:=Ba.typeP;have mK:=rt.methodKind;have mE:=rt.methodElem;have mI:=rt.methodImplements;have kP:=Ba.kindP;have kT:=Ba.kindT;have eP:=Ba.elemP;have iT:=Ba.implementsT;have htl:=World.block_lt_of_cell? _ _ ht;have hz:tb<w.heap.size:=htl;have hzE:=hE.size;have n8:=Ba.isNilP ⟨w.heap.size,0,none⟩ ⟨tb,0,none⟩ ((w.alloc (.cells #[.pointer (some ⟨tb,0,none⟩)] 124)).alloc (.cells #[.pointer (some ⟨11,124,none⟩),.pointer (some ⟨w.heap.size,0,none⟩),.int .u64 150] 178)) (by simp)
 have hg2:((w.alloc (.cells #[.pointer (some ⟨tb,0,none⟩)] 124)).alloc (.cells #[.pointer (some ⟨11,124,none⟩),.pointer (some ⟨w.heap.size,0,none⟩),.int .u64 150] 178)).cell? ⟨1,0,none⟩=some (.iface 164 (.agg #[.pointer (some ⟨11,50,none⟩)])):=by
  rw[World.cell?_alloc_lt _ _ ⟨1,0,none⟩ (by first |(simp;done)|(simp;omega)),World.cell?_alloc_lt _ _ ⟨1,0,none⟩ (by show 1<_;omega)];exact hE.et
 have ca:∀w1:World,Below w.heap.size w w1->w1.cell? ⟨w.heap.size,0,none⟩=some (.pointer (some ⟨tb,0,none⟩))->Calls Tryz.prog 168 #[.iface t0 x0,.iface 124 (.pointer (some ⟨tb,0,none⟩)),.agg #[.pointer (some ⟨11,124,none⟩),.pointer (some ⟨w.heap.size,0,none⟩),.int .u64 150],.iface 164 (.agg #[.pointer (some ⟨11,122,none⟩)])] w1
  fun e w'=>e=.returned (.bool true)/\Below tb w1 w':=fun w1 hb hc=>as_bady w.heap.size tb old n _ w1 (hB.below hb) hc (by rw[hb.cell htl];exact ht) (by rw[hb.frozen htl];exact hf)
 have Ca:=Ih ca;clear ca;go_enter Tryz.func110,Tryz.ntmps110
 go_wp2_with fail
 refine(Ca.out _ (((Below.refl _ w).alloc (Nat.le_refl _) _).alloc (by simp) _) (by simp)).mono ?_;rintro e w1 ⟨rfl,hb1⟩
 go_wp2
 go_ret;exact⟨rfl,(((Below.refl tb w).alloc (Nat.le_of_lt hz) _).alloc (by simp;omega) _).trans hb1⟩
end Go.Proofs.YtfepgodjaeddgaaGreatDoor
