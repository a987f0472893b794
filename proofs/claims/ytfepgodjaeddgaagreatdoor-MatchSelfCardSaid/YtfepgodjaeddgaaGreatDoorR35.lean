/-
  Package urls: an error's number (errors.Is through urls.fault).
-/
import Derived.Test.YtfepgodjaeddgaaGreatDoorR32
set_option maxHeartbeats 4000000
set_option maxRecDepth 100000
namespace Go.Proofs.YtfepgodjaeddgaaGreatDoor
open Go.RowKit Go.Extern.Stop Go.Stop Go.Extern
theorem tyE (v:Value) (w:World):(ReflectliteType.typeOf #[.iface 30 v]).run Tryz.prog w=.ok (.iface 164 (.agg #[.pointer (some ⟨11,30,none⟩)])) w:=by kernel_rfl
def cmF:Array Value->Sem Value:=ReflectliteType.method (fun t=>do Rtype.noPackHeld "Comparable" t;pure (.bool (<-typeInfo t).comparable))
theorem cmE (w:World):(cmF #[.agg #[.pointer (some ⟨11,30,none⟩)]]).run Tryz.prog w=.ok (.bool true) w:=by kernel_rfl
theorem mCm (h:Value) (w:World):(Go.method 453 164 (.agg #[h]) "Comparable").run Tryz.prog w=.ok (331,.agg #[h]) w:=by kernel_rfl
theorem noIsF (v:Value) (xT:TypeId) (w:World):(Instr.typeAssert (.iface 108 v) xT 166 true).run Tryz.prog w=.ok (.tuple #[.nilIface,.bool false]) w:=run_typeAssert_lacksB Tryz.underlying166 (by kernel_rfl) (by kernel_rfl) v xT w
theorem hasUnU (v:Value) (xT:TypeId) (w:World):(Instr.typeAssert (.iface 108 v) xT 169 true).run Tryz.prog w=.ok (.tuple #[.iface 108 v,.bool true]) w:=run_typeAssert_hasB Tryz.underlying169 (by kernel_rfl) v xT w
theorem noIsE (v:Value) (xT:TypeId) (w:World):(Instr.typeAssert (.iface 30 v) xT 166 true).run Tryz.prog w=.ok (.tuple #[.nilIface,.bool false]) w:=run_typeAssert_lacksB Tryz.underlying166 (by kernel_rfl) (by kernel_rfl) v xT w
theorem noUnE (v:Value) (xT:TypeId) (w:World):(Instr.typeAssert (.iface 30 v) xT 169 true).run Tryz.prog w=.ok (.tuple #[.nilIface,.bool false]) w:=run_typeAssert_lacksB Tryz.underlying169 (by kernel_rfl) (by kernel_rfl) v xT w
theorem noUnE2 (v:Value) (xT:TypeId) (w:World):(Instr.typeAssert (.iface 30 v) xT 171 true).run Tryz.prog w=.ok (.tuple #[.nilIface,.bool false]) w:=run_typeAssert_lacksB Tryz.underlying171 (by kernel_rfl) (by kernel_rfl) v xT w
theorem eqF (p v:Value) (m:Int) (w:World):(binOp .eql 50 (.iface 108 (.agg #[p,v])) (.iface 30 (.int .i64 m))).run Tryz.prog w=.ok (.bool false) w:=by kernel_rfl
theorem eqE (n m:Int) (w:World):(binOp .eql 50 (.iface 30 (.int .i64 n)) (.iface 30 (.int .i64 m))).run Tryz.prog w=.ok (.bool (n==m)) w:=by kernel_rfl
theorem is_any (p:ByteArray) (n m:Int) (w:World):Calls Tryz.prog 108 #[.iface 108 (.agg #[.string p,.iface 30 (.int .i64 n)]),.iface 30 (.int .i64 m),.bool true] w (RBool (decide (n=m)) w):=by
 have q1:=eqF;have q2:=eqE;have i1:=noIsF;have i2:=hasUnU;have i3:=noIsE;have i4:=noUnE;have i5:=noUnE2;have nu:∀w,(nilAhead 453 108 (.agg #[.string p,.iface 30 (.int .i64 n)]) "Unwrap").run Tryz.prog w=.ok (some false) w:=fun _=>by kernel_rfl
 have mU:∀w,(Go.method 453 108 (.agg #[.string p,.iface 30 (.int .i64 n)]) "Unwrap").run Tryz.prog w=.ok (327,.agg #[.string p,.iface 30 (.int .i64 n)]) w:=fun _=>by kernel_rfl
 by_cases h:n=m
 ·have hb:(n==m)=true:=by simp[h]
  have HD:Hid (decide (n=m)=true):=Ih (decide_eq_true h);clear h;go_enter Tryz.func108,Tryz.ntmps108
  go_wp2
  refine wp_loop_rounds 3 ?_;rw[rounds_succ]
  go_wp2
  rw[rounds_succ]
  go_wp2
  go_ret;exact⟨by rw[HD.out];rfl,by first |exact Below.refl _ _|exact(Below.refl _ _).alloc (Nat.le_refl _) _⟩
 ·have hb:(n==m)=false:=by simp[h]
  have HD:Hid (decide (n=m)=false):=Ih (decide_eq_false h);clear h;go_enter Tryz.func108,Tryz.ntmps108
  go_wp2
  refine wp_loop_rounds 3 ?_;rw[rounds_succ]
  go_wp2
  rw[rounds_succ]
  go_wp2
  go_ret;exact⟨by rw[HD.out];rfl,by first |exact Below.refl _ _|exact(Below.refl _ _).alloc (Nat.le_refl _) _⟩
theorem Is_any (p:ByteArray) (n m:Int) (w:World):Calls Tryz.prog 60 #[.iface 108 (.agg #[.string p,.iface 30 (.int .i64 n)]),.iface 30 (.int .i64 m)] w (RBool (decide (n=m)) w):=by
 have h95:= @run_callFunc_extern Tryz.prog 107 _ ReflectliteType.typeOf Tryz.func107 (by kernel_rfl) (by kernel_rfl) (by kernel_rfl) (by kernel_rfl);have hCm:= @run_callFunc_extern Tryz.prog 331 _ cmF Tryz.func331 (by kernel_rfl) (by kernel_rfl) (by kernel_rfl) (by kernel_rfl);have t1:=tyE;have t2:=cmE;have t3:=mCm;have cI:=Ih (fun W=>is_any p n m W);generalize decide (n=m)=q at cI⊢;go_enter Tryz.func60,Tryz.ntmps60
 go_wp2_with fail
 refine(cI.out _).mono ?_;rintro e w1 ⟨rfl,hb⟩
 go_wp2_with fail
 go_ret;exact⟨rfl,hb⟩
theorem eqN (v:Value) (w:World):(binOp .eql 50 .nilIface (.iface 30 v)).run Tryz.prog w=.ok (.bool false) w:=by kernel_rfl
theorem Is_nil (m:Int) (w:World):Calls Tryz.prog 60 #[.nilIface,.iface 30 (.int .i64 m)] w (RBool false w):=by
 have q1:=eqN;go_enter Tryz.func60,Tryz.ntmps60
 go_wp2
 go_ret;exact⟨rfl,Below.refl _ _⟩
def codeQ (f:Int->Bool):Int:=if f 70 then 70 else if f 71 then 71 else if f 72 then 72 else if f 81 then 81 else if f 82 then 82 else 0
theorem code_gen (v:Value) (f:Int->Bool) (w:World) (h:∀(m:Int) (W:World),Below w.heap.size w W->Calls Tryz.prog 60 #[v,.iface 30 (.int .i64 m)] W (RBool (f m) W)):
  Calls Tryz.prog 34 #[v] w (RInt (codeQ f) w):=by
 obtain⟨W,hW⟩:∃W,W=w.alloc (.cells #[.int .i64 70,.int .i64 71,.int .i64 72,.int .i64 81,.int .i64 82] 30):=⟨_,rfl⟩;have hbW:Below w.heap.size w W:=by rw[hW];exact(Below.refl _ w).alloc (Nat.le_refl _) _
 have hrow:W.heap[w.heap.size]? =some (.cells #[.int .i64 70,.int .i64 71,.int .i64 72,.int .i64 81,.int .i64 82] 30 (0,0)):=by rw[hW];exact heap_new _ _
 have hlt:=row_lt hrow;have HH:=Ih h;have HQ:Hid (codeQ f=if f 70 then 70 else if f 71 then 71 else if f 72 then 72 else if f 81 then 81 else if f 82 then 82 else 0):=Ih rfl;have HW:=Ih hW;have HR:=Ih hrow;generalize codeQ f=z at HQ⊢;clear h hW hrow;go_enter Tryz.func34,Tryz.ntmps34
 go_wp2_with (rw[<-HW.out])
 refine wp_loop_rounds 6 ?_;rw[rounds_succ];have hx0:Below W.heap.size W W:=Below.refl _ _;have c0:=rowAt ((hx0.block _ hlt).trans HR.out) 0 (.int .i64 70) rfl;have cI0:=Ih (HH.out 70 W (hbW.trans (hx0.mono hbW.size)));have hq0:f 70=f 70:=rfl;generalize hf0:f 70=q0 at cI0 HQ;clear hq0 hf0
 go_wp2_with fail
 refine cI0.out.mono ?_;rintro e w1 ⟨rfl,hb1⟩;cases q0 with
 | true=>
   have HZ:Hid (z=70):=Ih HQ.out;clear HQ
   go_wp2_with fail
   go_ret;exact⟨by rw[HZ.out];rfl,hbW.trans ((hx0.trans (hb1.mono hx0.size)).mono hbW.size)⟩
 | false=>
   go_wp2_with fail
   rw[rounds_succ];have hx1:Below W.heap.size W w1:=(hx0.trans (hb1.mono hx0.size));have c1:=rowAt ((hx1.block _ hlt).trans HR.out) 1 (.int .i64 71) rfl;have cI1:=Ih (HH.out 71 w1 (hbW.trans (hx1.mono hbW.size)));have hq1:f 71=f 71:=rfl;generalize hf1:f 71=q1 at cI1 HQ;clear hq1 hf1
   go_wp2_with fail
   refine cI1.out.mono ?_;rintro e w2 ⟨rfl,hb2⟩;cases q1 with
   | true=>
     have HZ:Hid (z=71):=Ih HQ.out;clear HQ
     go_wp2_with fail
     go_ret;exact⟨by rw[HZ.out];rfl,hbW.trans ((hx1.trans (hb2.mono hx1.size)).mono hbW.size)⟩
   | false=>
     go_wp2_with fail
     rw[rounds_succ];have hx2:Below W.heap.size W w2:=(hx1.trans (hb2.mono hx1.size));have c2:=rowAt ((hx2.block _ hlt).trans HR.out) 2 (.int .i64 72) rfl;have cI2:=Ih (HH.out 72 w2 (hbW.trans (hx2.mono hbW.size)));have hq2:f 72=f 72:=rfl;generalize hf2:f 72=q2 at cI2 HQ;clear hq2 hf2
     go_wp2_with fail
     refine cI2.out.mono ?_;rintro e w3 ⟨rfl,hb3⟩;cases q2 with
     | true=>
       have HZ:Hid (z=72):=Ih HQ.out;clear HQ
       go_wp2_with fail
       go_ret;exact⟨by rw[HZ.out];rfl,hbW.trans ((hx2.trans (hb3.mono hx2.size)).mono hbW.size)⟩
     | false=>
       go_wp2_with fail
       rw[rounds_succ];have hx3:Below W.heap.size W w3:=(hx2.trans (hb3.mono hx2.size));have c3:=rowAt ((hx3.block _ hlt).trans HR.out) 3 (.int .i64 81) rfl;have cI3:=Ih (HH.out 81 w3 (hbW.trans (hx3.mono hbW.size)));have hq3:f 81=f 81:=rfl;generalize hf3:f 81=q3 at cI3 HQ;clear hq3 hf3
       go_wp2_with fail
       refine cI3.out.mono ?_;rintro e w4 ⟨rfl,hb4⟩;cases q3 with
       | true=>
         have HZ:Hid (z=81):=Ih HQ.out;clear HQ
         go_wp2_with fail
         go_ret;exact⟨by rw[HZ.out];rfl,hbW.trans ((hx3.trans (hb4.mono hx3.size)).mono hbW.size)⟩
       | false=>
         go_wp2_with fail
         rw[rounds_succ];have hx4:Below W.heap.size W w4:=(hx3.trans (hb4.mono hx3.size));have c4:=rowAt ((hx4.block _ hlt).trans HR.out) 4 (.int .i64 82) rfl;have cI4:=Ih (HH.out 82 w4 (hbW.trans (hx4.mono hbW.size)));have hq4:f 82=f 82:=rfl;generalize hf4:f 82=q4 at cI4 HQ;clear hq4 hf4
         go_wp2_with fail
         refine cI4.out.mono ?_;rintro e w5 ⟨rfl,hb5⟩;cases q4 with
         | true=>
           have HZ:Hid (z=82):=Ih HQ.out;clear HQ
           go_wp2_with fail
           go_ret;exact⟨by rw[HZ.out];rfl,hbW.trans ((hx4.trans (hb5.mono hx4.size)).mono hbW.size)⟩
         | false=>
           go_wp2_with fail
           rw[rounds_succ];have HZ:Hid (z=0):=Ih HQ.out;clear HQ
           go_wp2_with fail
           go_ret;exact⟨by rw[HZ.out];rfl,hbW.trans ((hx4.trans (hb5.mono hx4.size)).mono hbW.size)⟩
theorem code_ok (w:World):Calls Tryz.prog 34 #[.nilIface] w (RInt 0 w):=by
 have:=code_gen .nilIface (fun _=>false) w (fun m W _=>Is_nil m W);exact this
theorem codeU_er (n:Nat) (hn:n=70\/n=71\/n=72\/n=81\/n=82) (v:Value) (h:FaultU n v) (w:World):Calls Tryz.prog 34 #[v] w (RInt n w):=by
 obtain⟨p,rfl⟩:=h;have:=code_gen _ (fun m=>decide ((n:Int)=m)) w (fun m W _=>Is_any p n m W)
 have hq:codeQ (fun m=>decide ((n:Int)=m))=(n:Int):=by
  rcases hn with rfl|rfl|rfl|rfl|rfl<;>rfl
 rw[hq]at this;exact this
end Go.Proofs.YtfepgodjaeddgaaGreatDoor
