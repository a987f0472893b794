/-
  Package match: path.
-/
import Derived.Test.YtjhccadmmnjpeaaGreatDoorT24
import Derived.Test.YtjhccadmmnjpeaaGreatDoorT11
set_option maxHeartbeats 4000000
set_option maxRecDepth 100000
namespace Go.Proofs.YtjhccadmmnjpeaaGreatDoor
open Go.RowKit
theorem bytes_beq (u s:ByteArray):(u.toList==s.toList)=(u.data.toList==s.data.toList):=by rw[Lib.toList_data,Lib.toList_data]
theorem IP_any (s:ByteArray) (hs:s.size<=900000) (w:World) (hE:EnvH w):Calls Tryz.prog 219 #[.string s] w (RBool (Lz.ipP s.data.toList) w):=by
 have cH:=ParseH_any s true hs (fun h=>by cases h) w hE
 have hip:Lz.ipP s.data.toList=match Lz.hostPr s.data.toList true with
  | .ok h=>h==s.data.toList&&(s.data.toList[0]? ==some 91||Lz.numberedP s.data.toList)
  | .er _=>false:=rfl
 have hne:=fun h=>Lz.host_again_true (s:=s.data.toList) (h:=h);have her:=fun n=>Lz.host_err_true s.data.toList n;generalize Lz.hostPr s.data.toList true=r at cH hip hne her;have CH:=Ih cH;have Hip:=Ih hip;have Hne:=Ih hne;have Her:=Ih her;clear cH hip hne her;cases r with
 | er n=>
   have hn:(((resE (.er n):Nat):Int)==0)=false:=by
    have:=Her.out n rfl
    apply beq_eq_false_iff_ne.2
    show(n:Int)≠0;omega
   have HN:Hid (Lz.ipP s.data.toList=false):=by show _=_;rw[Hip.out]
   go_enter Tryz.func219,Tryz.ntmps219
   go_wp2_with fail
   refine(CH.out).mono ?_;rintro e w1 ⟨u,rfl,hu,hb1⟩
   go_wp2
   go_ret;rw[HN.out];exact⟨rfl,hb1⟩
 | ok h=>
   by_cases hh:h=s.data.toList
   ·have hpos:0<s.size:=by
     have:=(Hne.out h rfl).2.2;rw[<-len_of_size,<-hh];exact List.length_pos_iff.2 this
    have hg:=get_of_lt hpos
    have HQ:Hid (Lz.ipP s.data.toList=(decide (s[0]=91)||Lz.numberedP s.data.toList)):=by
     show _=_;rw[Hip.out,hg];simp only[hh,beq_self_eq_true,Bool.true_and];congr 1
    have cN:=fun W hW=>numbered_any s (by omega) W hW;generalize Lz.numberedP s.data.toList=nb at cN HQ;have CN:=Ih cN;have Hh:=Ih hh;clear cN hg hh Hip;by_cases h9:s[0]=91
    ·have h9b:((s[0].toNat:Int)==91)=true:=by rw[h9];rfl
     have HN:Hid (Lz.ipP s.data.toList=true):=by show _=_;rw[HQ.out,decide_eq_true h9];rfl
     clear h9;go_enter Tryz.func219,Tryz.ntmps219
     go_wp2_with fail
     refine(CH.out).mono ?_;rintro e w1 ⟨u,rfl,hu,hb1⟩;have hus:(u.toList==s.toList)=true:=by rw[bytes_beq,hu.out,show resT (.ok h)=h from rfl,Hh.out];simp
     go_wp2
     go_ret;rw[HN.out];exact⟨rfl,hb1⟩
    ·have h9b:((s[0].toNat:Int)==91)=false:=(beqI s[0] 91).trans (beq_eq_false_iff_ne.2 h9);have HN:Hid (Lz.ipP s.data.toList=nb):=by show _=_;rw[HQ.out,decide_eq_false h9];rfl
     clear h9;go_enter Tryz.func219,Tryz.ntmps219
     go_wp2_with fail
     refine(CH.out).mono ?_;rintro e w1 ⟨u,rfl,hu,hb1⟩;have hus:(u.toList==s.toList)=true:=by rw[bytes_beq,hu.out,show resT (.ok h)=h from rfl,Hh.out];simp
     go_wp2_with fail
     refine(CN.out _ (hE.below hb1)).mono ?_;rintro e w2 ⟨rfl,hb2⟩
     go_wp2
     go_ret;rw[HN.out];exact⟨rfl,below_call hb1 hb2⟩
   ·have HN:Hid (Lz.ipP s.data.toList=false):=by
     show _=_;rw[Hip.out];have:(h==s.data.toList)=false:=beq_eq_false_iff_ne.2 hh;show(h==s.data.toList&&_)=false;rw[this,Bool.false_and]
    have Hh:=Ih hh;clear hh;go_enter Tryz.func219,Tryz.ntmps219
    go_wp2_with fail
    refine(CH.out).mono ?_;rintro e w1 ⟨u,rfl,hu,hb1⟩;have hus:(u.toList==s.toList)=false:=by rw[bytes_beq,hu.out,show resT (.ok h)=h from rfl];exact beq_eq_false_iff_ne.2 Hh.out
    go_wp2
    go_ret;rw[HN.out];exact⟨rfl,hb1⟩
end Go.Proofs.YtjhccadmmnjpeaaGreatDoor
namespace Go.Proofs.YtjhccadmmnjpeaaGreatDoor
open Go.RowKit Go.Extern.Stop Go.Stop Go.Extern
theorem tyE (v:Value) (w:World):(ReflectliteType.typeOf #[.iface 37 v]).run Tryz.prog w=.ok (.iface 195 (.agg #[.pointer (some ⟨13,37,none⟩)])) w:=by kernel_rfl
def cmF:Array Value->Sem Value:=ReflectliteType.method (fun t=>do Rtype.noPackHeld "Comparable" t;pure (.bool (<-typeInfo t).comparable))
theorem cmE (w:World):(cmF #[.agg #[.pointer (some ⟨13,37,none⟩)]]).run Tryz.prog w=.ok (.bool true) w:=by kernel_rfl
theorem mCm (h:Value) (w:World):(Go.method 478 195 (.agg #[h]) "Comparable").run Tryz.prog w=.ok (347,.agg #[h]) w:=by kernel_rfl
theorem noIsF (v:Value) (xT:TypeId) (w:World):(Instr.typeAssert (.iface 146 v) xT 197 true).run Tryz.prog w=.ok (.tuple #[.nilIface,.bool false]) w:=run_typeAssert_lacksB Tryz.underlying197 (by kernel_rfl) (by kernel_rfl) v xT w
theorem hasUnU (v:Value) (xT:TypeId) (w:World):(Instr.typeAssert (.iface 146 v) xT 200 true).run Tryz.prog w=.ok (.tuple #[.iface 146 v,.bool true]) w:=run_typeAssert_hasB Tryz.underlying200 (by kernel_rfl) v xT w
theorem noIsE (v:Value) (xT:TypeId) (w:World):(Instr.typeAssert (.iface 37 v) xT 197 true).run Tryz.prog w=.ok (.tuple #[.nilIface,.bool false]) w:=run_typeAssert_lacksB Tryz.underlying197 (by kernel_rfl) (by kernel_rfl) v xT w
theorem noUnE (v:Value) (xT:TypeId) (w:World):(Instr.typeAssert (.iface 37 v) xT 200 true).run Tryz.prog w=.ok (.tuple #[.nilIface,.bool false]) w:=run_typeAssert_lacksB Tryz.underlying200 (by kernel_rfl) (by kernel_rfl) v xT w
theorem noUnE2 (v:Value) (xT:TypeId) (w:World):(Instr.typeAssert (.iface 37 v) xT 202 true).run Tryz.prog w=.ok (.tuple #[.nilIface,.bool false]) w:=run_typeAssert_lacksB Tryz.underlying202 (by kernel_rfl) (by kernel_rfl) v xT w
theorem eqF (p v:Value) (m:Int) (w:World):(binOp .eql 57 (.iface 146 (.agg #[p,v])) (.iface 37 (.int .i64 m))).run Tryz.prog w=.ok (.bool false) w:=by kernel_rfl
theorem eqE (n m:Int) (w:World):(binOp .eql 57 (.iface 37 (.int .i64 n)) (.iface 37 (.int .i64 m))).run Tryz.prog w=.ok (.bool (n==m)) w:=by kernel_rfl
theorem is_any (p:ByteArray) (n m:Int) (w:World):Calls Tryz.prog 114 #[.iface 146 (.agg #[.string p,.iface 37 (.int .i64 n)]),.iface 37 (.int .i64 m),.bool true] w (RBool (decide (n=m)) w):=by
 have q1:=eqF;have q2:=eqE;have i1:=noIsF;have i2:=hasUnU;have i3:=noIsE;have i4:=noUnE;have i5:=noUnE2;have nu:∀w,(nilAhead 478 146 (.agg #[.string p,.iface 37 (.int .i64 n)]) "Unwrap").run Tryz.prog w=.ok (some false) w:=fun _=>by kernel_rfl
 have mU:∀w,(Go.method 478 146 (.agg #[.string p,.iface 37 (.int .i64 n)]) "Unwrap").run Tryz.prog w=.ok (341,.agg #[.string p,.iface 37 (.int .i64 n)]) w:=fun _=>by kernel_rfl
 by_cases h:n=m
 ·have hb:(n==m)=true:=by simp[h]
  have HD:Hid (decide (n=m)=true):=Ih (decide_eq_true h);clear h;go_enter Tryz.func114,Tryz.ntmps114
  go_wp2
  refine wp_loop_rounds 3 ?_;rw[rounds_succ]
  go_wp2
  rw[rounds_succ]
  go_wp2
  go_ret;exact⟨by rw[HD.out];rfl,by first |exact Below.refl _ _|exact(Below.refl _ _).alloc (Nat.le_refl _) _⟩
 ·have hb:(n==m)=false:=by simp[h]
  have HD:Hid (decide (n=m)=false):=Ih (decide_eq_false h);clear h;go_enter Tryz.func114,Tryz.ntmps114
  go_wp2
  refine wp_loop_rounds 3 ?_;rw[rounds_succ]
  go_wp2
  rw[rounds_succ]
  go_wp2
  go_ret;exact⟨by rw[HD.out];rfl,by first |exact Below.refl _ _|exact(Below.refl _ _).alloc (Nat.le_refl _) _⟩
theorem Is_any (p:ByteArray) (n m:Int) (w:World):Calls Tryz.prog 74 #[.iface 146 (.agg #[.string p,.iface 37 (.int .i64 n)]),.iface 37 (.int .i64 m)] w (RBool (decide (n=m)) w):=by
 have h95:= @run_callFunc_extern Tryz.prog 113 _ ReflectliteType.typeOf Tryz.func113 (by kernel_rfl) (by kernel_rfl) (by kernel_rfl) (by kernel_rfl);have hCm:= @run_callFunc_extern Tryz.prog 347 _ cmF Tryz.func347 (by kernel_rfl) (by kernel_rfl) (by kernel_rfl) (by kernel_rfl);have t1:=tyE;have t2:=cmE;have t3:=mCm;have cI:=Ih (fun W=>is_any p n m W);generalize decide (n=m)=q at cI⊢;go_enter Tryz.func74,Tryz.ntmps74
 go_wp2_with fail
 refine(cI.out _).mono ?_;rintro e w1 ⟨rfl,hb⟩
 go_wp2_with fail
 go_ret;exact⟨rfl,hb⟩
theorem eqN (v:Value) (w:World):(binOp .eql 57 .nilIface (.iface 37 v)).run Tryz.prog w=.ok (.bool false) w:=by kernel_rfl
theorem Is_nil (m:Int) (w:World):Calls Tryz.prog 74 #[.nilIface,.iface 37 (.int .i64 m)] w (RBool false w):=by
 have q1:=eqN;go_enter Tryz.func74,Tryz.ntmps74
 go_wp2
 go_ret;exact⟨rfl,Below.refl _ _⟩
def codeQ (f:Int->Bool):Int:=if f 70 then 70 else if f 71 then 71 else if f 72 then 72 else if f 81 then 81 else if f 82 then 82 else 0
theorem code_gen (v:Value) (f:Int->Bool) (w:World) (h:∀(m:Int) (W:World),Below w.heap.size w W->Calls Tryz.prog 74 #[v,.iface 37 (.int .i64 m)] W (RBool (f m) W)):
  Calls Tryz.prog 46 #[v] w (RInt (codeQ f) w):=by
 obtain⟨W,hW⟩:∃W,W=w.alloc (.cells #[.int .i64 70,.int .i64 71,.int .i64 72,.int .i64 81,.int .i64 82] 37):=⟨_,rfl⟩;have hbW:Below w.heap.size w W:=by rw[hW];exact(Below.refl _ w).alloc (Nat.le_refl _) _
 have hrow:W.heap[w.heap.size]? =some (.cells #[.int .i64 70,.int .i64 71,.int .i64 72,.int .i64 81,.int .i64 82] 37 (0,0)):=by rw[hW];exact heap_new _ _
 have hlt:=row_lt hrow;have HH:=Ih h;have HQ:Hid (codeQ f=if f 70 then 70 else if f 71 then 71 else if f 72 then 72 else if f 81 then 81 else if f 82 then 82 else 0):=Ih rfl;have HW:=Ih hW;have HR:=Ih hrow;generalize codeQ f=z at HQ⊢;clear h hW hrow;go_enter Tryz.func46,Tryz.ntmps46
 go_wp2_with (rw[<-HW.out])
 refine wp_loop_rounds 6 ?_;rw[rounds_succ];have hx0:Below W.heap.size W W:=Below.refl _ _;have c0:=rowAt ((hx0.block _ hlt).trans HR.out) 0 (.int .i64 70) rfl;have cI0:=Ih (HH.out 70 W (hbW.trans (hx0.mono hbW.size)));have hq0:f 70=f 70:=rfl;generalize hf0:f 70=q0 at cI0 HQ;clear hq0 hf0
 go_wp2_with fail
 refine cI0.out.mono ?_;rintro e w1 ⟨rfl,hb1⟩;cases q0 with
 | true=>
   have HZ:Hid (z=70):=Ih HQ.out;clear HQ
   go_wp2_with fail
   go_ret;exact⟨by rw[HZ.out];rfl,hbW.trans ((hx0.trans (hb1.mono hx0.size)).mono hbW.size)⟩
 | false=>
   go_wp2_with fail
   rw[rounds_succ];have hx1:Below W.heap.size W w1:=(hx0.trans (hb1.mono hx0.size));have c1:=rowAt ((hx1.block _ hlt).trans HR.out) 1 (.int .i64 71) rfl;have cI1:=Ih (HH.out 71 w1 (hbW.trans (hx1.mono hbW.size)));have hq1:f 71=f 71:=rfl;generalize hf1:f 71=q1 at cI1 HQ;clear hq1 hf1
   go_wp2_with fail
   refine cI1.out.mono ?_;rintro e w2 ⟨rfl,hb2⟩;cases q1 with
   | true=>
     have HZ:Hid (z=71):=Ih HQ.out;clear HQ
     go_wp2_with fail
     go_ret;exact⟨by rw[HZ.out];rfl,hbW.trans ((hx1.trans (hb2.mono hx1.size)).mono hbW.size)⟩
   | false=>
     go_wp2_with fail
     rw[rounds_succ];have hx2:Below W.heap.size W w2:=(hx1.trans (hb2.mono hx1.size));have c2:=rowAt ((hx2.block _ hlt).trans HR.out) 2 (.int .i64 72) rfl;have cI2:=Ih (HH.out 72 w2 (hbW.trans (hx2.mono hbW.size)));have hq2:f 72=f 72:=rfl;generalize hf2:f 72=q2 at cI2 HQ;clear hq2 hf2
     go_wp2_with fail
     refine cI2.out.mono ?_;rintro e w3 ⟨rfl,hb3⟩;cases q2 with
     | true=>
       have HZ:Hid (z=72):=Ih HQ.out;clear HQ
       go_wp2_with fail
       go_ret;exact⟨by rw[HZ.out];rfl,hbW.trans ((hx2.trans (hb3.mono hx2.size)).mono hbW.size)⟩
     | false=>
       go_wp2_with fail
       rw[rounds_succ];have hx3:Below W.heap.size W w3:=(hx2.trans (hb3.mono hx2.size));have c3:=rowAt ((hx3.block _ hlt).trans HR.out) 3 (.int .i64 81) rfl;have cI3:=Ih (HH.out 81 w3 (hbW.trans (hx3.mono hbW.size)));have hq3:f 81=f 81:=rfl;generalize hf3:f 81=q3 at cI3 HQ;clear hq3 hf3
       go_wp2_with fail
       refine cI3.out.mono ?_;rintro e w4 ⟨rfl,hb4⟩;cases q3 with
       | true=>
         have HZ:Hid (z=81):=Ih HQ.out;clear HQ
         go_wp2_with fail
         go_ret;exact⟨by rw[HZ.out];rfl,hbW.trans ((hx3.trans (hb4.mono hx3.size)).mono hbW.size)⟩
       | false=>
         go_wp2_with fail
         rw[rounds_succ];have hx4:Below W.heap.size W w4:=(hx3.trans (hb4.mono hx3.size));have c4:=rowAt ((hx4.block _ hlt).trans HR.out) 4 (.int .i64 82) rfl;have cI4:=Ih (HH.out 82 w4 (hbW.trans (hx4.mono hbW.size)));have hq4:f 82=f 82:=rfl;generalize hf4:f 82=q4 at cI4 HQ;clear hq4 hf4
         go_wp2_with fail
         refine cI4.out.mono ?_;rintro e w5 ⟨rfl,hb5⟩;cases q4 with
         | true=>
           have HZ:Hid (z=82):=Ih HQ.out;clear HQ
           go_wp2_with fail
           go_ret;exact⟨by rw[HZ.out];rfl,hbW.trans ((hx4.trans (hb5.mono hx4.size)).mono hbW.size)⟩
         | false=>
           go_wp2_with fail
           rw[rounds_succ];have HZ:Hid (z=0):=Ih HQ.out;clear HQ
           go_wp2_with fail
           go_ret;exact⟨by rw[HZ.out];rfl,hbW.trans ((hx4.trans (hb5.mono hx4.size)).mono hbW.size)⟩
theorem code_ok (w:World):Calls Tryz.prog 46 #[.nilIface] w (RInt 0 w):=by
 have:=code_gen .nilIface (fun _=>false) w (fun m W _=>Is_nil m W);exact this
theorem codeU_er (n:Nat) (hn:n=70\/n=71\/n=72\/n=81\/n=82) (v:Value) (h:FaultU n v) (w:World):Calls Tryz.prog 46 #[v] w (RInt n w):=by
 obtain⟨p,rfl⟩:=h;have:=code_gen _ (fun m=>decide ((n:Int)=m)) w (fun m W _=>Is_any p n m W)
 have hq:codeQ (fun m=>decide ((n:Int)=m))=(n:Int):=by
  rcases hn with rfl|rfl|rfl|rfl|rfl<;>rfl
 rw[hq]at this;exact this
end Go.Proofs.YtjhccadmmnjpeaaGreatDoor
namespace Go.Proofs.YtjhccadmmnjpeaaGreatDoor
open Go.RowKit
theorem decDigits_len2:∀(k n:Nat),n<10^(k+1)->(Lib.decDigits n).length<=k+1
 | 0,n,h=>by rw[Lib.decDigits,dif_pos (by simpa using h)];simp
 | k+1,n,h=>by
   rw[Lib.decDigits];split
   ·simp
   ·rw[List.length_append];have:=decDigits_len2 k (n / 10) (by rw[Nat.pow_succ]at h;omega)
    simp
    omega
theorem itoa_len2 {n:Int} (h0: -9223372036854775808<=n) (h1:n<=9223372036854775807):(Lib.itoa n).length<=21:=by
 unfold Lib.itoa;split
 ·have:=decDigits_len2 19 n.natAbs (by omega)
  simp
  omega
 ·have:=decDigits_len2 19 n.toNat (by omega);omega
def AtE (w1 W:World):Prop:=EnvH W/\Below w1.heap.size w1 W
def AtS (hst:ByteArray) (prt:Int) (B:Nat) (w W:World):Prop:=W.cell? ⟨B,4,none⟩=some (.string hst)/\W.cell? ⟨B,5,none⟩=some (.int .i64 prt)/\AtE w W
theorem at_any (v:Value) (u:Lz.UrlL) (w:World) (hv:UrlVal w v u) (hE:EnvH w) (h0: -9223372036854775808<=u.port) (h1:u.port<=9223372036854775807) (hL:u.host.length<=1000000000):Calls Tryz.prog 72 #[v] w (RStr (Lz.atU u) w):=by
 obtain⟨sch,usr,pas,hh,hst,prt,opq,a,c,xs,hq,hf,qry,frg,rfl,rfl,hx⟩:=hv.form;replace h0: -9223372036854775808<=prt:=h0;replace h1:prt<=9223372036854775807:=h1;replace hL:hst.data.toList.length<=1000000000:=hL;rw[len_of_size]at hL;obtain⟨goal,hg⟩:∃goal,goal=Lz.atU ⟨sch.data.toList,usr.data.toList,pas.data.toList,hh,hst.data.toList,prt,opq,xs.map (fun x:ByteArray=>x.data.toList),hq,hf,qry.data.toList,frg.data.toList⟩:=⟨_,rfl⟩;rw[<-hg];have hg2:goal=if prt= -1 then hst.data.toList else hst.data.toList++[58]++Lib.itoa prt:=hg;have HG:=Ih hg2;obtain⟨W,hW⟩:∃W,W=w.alloc (.cells #[.string sch,.string usr,.string pas,.bool hh,.string hst,.int .i64 prt,.bool opq,.slice a xs.length c,.bool hq,.bool hf,.string qry,.string frg] 36):=⟨_,rfl⟩;have hbW:Below w.heap.size w W:=by rw[hW];exact(Below.refl _ w).alloc (Nat.le_refl _) _
 have hR:W.heap[w.heap.size]? =some (.cells #[.string sch,.string usr,.string pas,.bool hh,.string hst,.int .i64 prt,.bool opq,.slice a xs.length c,.bool hq,.bool hf,.string qry,.string frg] 36 (0,0)):=by rw[hW];exact heap_new _ _
 have hlt:=row_lt hR;have c4:=rowAt hR 4 (.string hst) rfl;have c5:=rowAt hR 5 (.int .i64 prt) rfl;have HW:=Ih hW;have HE:=Ih (hE.below hbW);clear hW hR hv hx hg hg2 hE;by_cases hp:prt= -1
 ·have hpb:(prt== -1)=true:=by simp[hp]
  have HG2:Hid (goal=hst.data.toList):=by show _=_;rw[HG.out,if_pos hp]
  clear hp;go_enter Tryz.func72,Tryz.ntmps72
  go_wp2_with (rw[<-HW.out])
  go_ret;exact⟨hst,rfl,Ih HG2.out.symm,hbW⟩
 ·have hpb:(prt== -1)=false:=by simp[hp]
  have HG2:Hid (goal=hst.data.toList++[58]++Lib.itoa prt):=by show _=_;rw[HG.out,if_neg hp]
  clear hp;have n1:¬(9223372036854775807<hst.size+1):=by omega
  have hSd:AtS hst prt w.heap.size W W.drew:=⟨c4,c5,HE.out.below (Below.refl _ _).drew,(Below.refl _ _).drew⟩
  have cI:Hid (∀V,AtS hst prt w.heap.size W V->Calls Tryz.prog 112 #[.int .i64 prt] V fun e w'=>∃u:ByteArray,e=.returned (.string u)/\Hid (u.data.toList=Lib.itoa prt)/\u.size<=21/\AtS hst prt w.heap.size W w'):=Ih (by
   rintro V ⟨k4,k5,kE,kb⟩;refine(Itoa_h prt h0 h1 V kE).mono ?_;rintro e w' ⟨u,he,hu,hb'⟩;have hlt':=Nat.lt_of_lt_of_le hlt kb.size;exact⟨u,he,hu,by rw[<-len_of_size,hu.out];exact itoa_len2 h0 h1,by rw[hb'.cell (p:=⟨w.heap.size,4,none⟩) hlt'];exact k4,by rw[hb'.cell (p:=⟨w.heap.size,5,none⟩) hlt'];exact k5,kE.below hb',below_call kb hb'⟩)
  go_enter Tryz.func72,Tryz.ntmps72
  go_wp2_with (rw[<-HW.out])
  go_upto_region 3 with fail
  go_cut [2] (fun s wx=>∃u:ByteArray,s=.string u/\Hid (u.data.toList=goal)/\Below w.heap.size w wx)
  case first=>
   go_region_held3 (fun V=>V.cell? ⟨w.heap.size,4,none⟩=some (.string hst)/\V.cell? ⟨w.heap.size,5,none⟩=some (.int .i64 prt)/\AtE W V) (first |assumption|exact hSd) (first |(go_at_call 112;refine(cI.out _ (by assumption)).mono ?_;rintro e w2 ⟨t,rfl,ht,hs,hS2⟩;have n2:¬(9223372036854775807<hst.size+1+t.size):=(by omega)))
   go_wp2_with fail
   go_meet;exact⟨_,rfl,by show _=_;rw[HG2.out,append_data',append_data',ht.out],hbW.trans (hS2.2.2.2.mono hbW.size)⟩
  case rest=>
   obtain⟨u,rfl,hu,hb⟩:=hcut
   go_wp2_with fail
   go_ret;exact⟨_,rfl,hu,hb⟩
attribute [local go_sem ↓] Go.wp_at_zero Go.wp_at_succ
structure UOk (u:Lz.UrlL):Prop where
 nu:Lz.NU u
 wq:Lz.wq u<=100000
def slS (l:List (List UInt8)):List UInt8:=l.flatMap fun p=>47::p
theorem slS_take (l:List (List UInt8)) (j:Nat) (p:List UInt8) (h:l[j]? =some p):slS (l.take (j+1))=slS (l.take j)++47::p:=by
 have hj:=(List.getElem?_eq_some_iff.1 h);rw[List.take_succ_eq_append_getElem hj.1,hj.2];unfold slS;rw[List.flatMap_append];simp
theorem slS_take_le (l:List (List UInt8)) (j:Nat):(slS (l.take j)).length<=(slS l).length:=by
 conv=>(rhs;rw[<-List.take_append_drop j l])
 unfold slS;rw[List.flatMap_append,List.length_append];omega
theorem slS_ge:∀l:List (List UInt8),l.length<=(slS l).length
 | []=>Nat.zero_le _
 | p::r=>by
   have:=slS_ge r;show r.length+1<=((47::p)++slS r).length;rw[List.length_append,List.length_cons];omega
theorem pathT_any (v:Value) (u:Lz.UrlL) (w:World) (hv:UrlVal w v u) (hU:UOk u):Calls Tryz.prog 180 #[v] w (RStr (Lz.pathTM u) w):=by
 obtain⟨sc1,us1,pa1,hh1,hs1,pr1,op1,a1,c1,xs,hq1,hf1,qr1,fr1,rfl,hu,hx⟩:=hv.form;obtain⟨n,hn⟩:∃n,n=xs.length:=⟨_,rfl⟩;rw[<-hn];clear hv;obtain⟨l,hl⟩:∃l,l=xs.map (fun x:ByteArray=>x.data.toList):=⟨_,rfl⟩;have hup:u.path=l:=by rw[hu,hl]
 have huo:u.opq=op1:=by rw[hu]
 obtain⟨W,hW⟩:∃W,W=w.alloc (.cells #[.string sc1,.string us1,.string pa1,.bool hh1,.string hs1,.int .i64 pr1,.bool op1,.slice a1 n c1,.bool hq1,.bool hf1,.string qr1,.string fr1] 36):=⟨_,rfl⟩;have hbW:Below w.heap.size w W:=by rw[hW];exact(Below.refl _ w).alloc (Nat.le_refl _) _
 have hRU:W.heap[w.heap.size]? =some (.cells #[.string sc1,.string us1,.string pa1,.bool hh1,.string hs1,.int .i64 pr1,.bool op1,.slice a1 n c1,.bool hq1,.bool hf1,.string qr1,.string fr1] 36 (0,0)):=by rw[hW];exact heap_new _ _
 have c6:=rowAt hRU 6 (.bool op1) rfl;have c7:=rowAt hRU 7 (.slice a1 n c1) rfl;have HW:=Ih hW;have hll:l.length=xs.length:=by rw[hl,List.length_map]
 clear hu hW hRU;cases op1 with
 | true=>
   obtain⟨_,p,hp,_⟩:=hU.nu.opaqueN huo;have hx1:xs.length=1:=by rw[<-hll,<-hup,hp];rfl
   obtain⟨x,rfl⟩:∃x,xs=[x]:=List.length_eq_one_iff.1 hx1;have hn1:n=1:=hn;subst hn1;obtain⟨G,o,rfl,hG,hc⟩:=hx 0 x rfl;rw[Nat.add_zero]at hc;have hc':W.cell? ⟨G,o,none⟩=some (.string x):=by rw[hbW.cell (p:=⟨G,o,none⟩) hG];exact hc
   have HV:Hid (Lz.pathTM u=x.data.toList):=by show _=_;unfold Lz.pathTM;rw[huo,if_pos rfl,hup,hl];simp
   have cJ:Hid (Calls Tryz.prog 224 #[.slice (some ⟨G,o,none⟩) 1 c1,.string ⟨#[]⟩] W fun e w'=>e=.returned (.string x)/\w'=W):=Ih (Any.strings_Join_one Tryz.lays156 Tryz.Builder_Extra_156 G o c1 x ⟨#[]⟩ W hc');clear hx hc hc' hup huo hl hll hp hn;go_enter Tryz.func180,Tryz.ntmps180
   go_wp2_with fail
   rw[<-HW.out];refine cJ.out.mono ?_;rintro e w1 ⟨rfl,rfl⟩
   go_wp2_with fail
   go_ret;exact⟨x,rfl,Ih HV.out.symm,hbW⟩
 | false=>
   have HV:Hid (Lz.pathTM u=slS l):=by show _=_;unfold Lz.pathTM;rw[huo,if_neg (by decide),hup];rfl
   have hz:(slS l).length<=1000000:=by
    have h1:=hU.wq;have h2:(slS l).length=Lz.pl u.path:=by rw[hup];rfl
    unfold Lz.wq Lz.wt at h1;omega
   by_cases h0:xs.length=0
   ·have e0:xs=[]:=List.length_eq_zero_iff.1 h0;subst e0;have hn1:n=0:=hn;subst hn1;have hl0:Hid (l=[]):=hl;clear hx hup huo hl hll h0 hn;go_enter Tryz.func180,Tryz.ntmps180
    go_wp2_with fail
    rw[<-HW.out];refine wp_loop_rounds 1 ?_;rw[rounds_succ]
    go_wp2_with fail
    go_ret;exact⟨_,rfl,by show _=_;rw[HV.out,hl0.out];rfl,hbW⟩
   ·obtain⟨G,o,rfl,hG,h00⟩:=hx 0 (xs[0]'(by omega)) (List.getElem?_eq_getElem (by omega))
    have Hx:Hid (∀(j:Nat) (x:ByteArray),xs[j]? =some x->W.cell? ⟨G,o+j,none⟩=some (.string x)):=Ih (fun j x hj=>by
     obtain⟨G',o',e,_,hc⟩:=hx j x hj;injection e with e;injection e with e1 e2 _
     subst e1;subst e2;rw[hbW.cell (p:=⟨G,o+j,none⟩) hG];exact hc)
    have hGW:G<W.heap.size:=Nat.lt_of_lt_of_le hG hbW.size;have HL:=Ih hl;have HZ:=Ih hz;have hnb:n<=1000000:=by have:=slS_ge l;omega
    have HN:=Ih hn;rw[<-hn]at hll;have HLL:=Ih hll;clear h00 hx hup huo hl hll h0 hz hn hG;go_enter Tryz.func180,Tryz.ntmps180
    go_wp2_with fail
    rw[<-HW.out]
    go_loopw [3,14] (fun a i wr=>∃(j:Nat) (t:ByteArray),j<=n/\i=.int .i64 j/\a=.string t/\Hid (t.data.toList=slS (l.take j))/\Below W.heap.size W wr) (fun _ i _=>n-(intOf i).toNat)
    case atStart=>exact⟨0,⟨#[]⟩,Nat.zero_le _,rfl,rfl,Ih (by simp[slS]),Below.refl _ _⟩
    case round=>
     obtain⟨j,t,hj,rfl,rfl,hT,hbw⟩:=hrel;by_cases hlt:j<n
     ·have hltI:(j:Int)<(n:Int):=by omega
      have hj0:(0:Int)<=(j:Int):=by omega
      obtain⟨x,hx⟩:∃x,xs[j]? =some x:=⟨_,List.getElem?_eq_getElem (by rw[<-HN.out];exact hlt)⟩;have hc1:wr.cell? ⟨G,o+j,none⟩=some (.string x):=by rw[hbw.cell (p:=⟨G,o+j,none⟩) hGW];exact Hx.out j x hx
      have hlj:l[j]? =some x.data.toList:=by rw[HL.out,List.getElem?_map,hx];rfl
      have hst:=slS_take l j _ hlj;have hT2:Hid ((t++(⟨#[47]⟩++x)).data.toList=slS (l.take (j+1))):=by show _=_;rw[hst,append_data',append_data',hT.out];rfl
      have hsz:t.size+(1+x.size)<=1000000:=by
       have h1:=slS_take_le l (j+1);rw[hst,<-hT.out,List.length_append,List.length_cons,len_of_size,len_of_size]at h1;have:=HZ.out;omega
      have n1:¬(9223372036854775807<1+x.size):=by omega
      have n2:¬(9223372036854775807<t.size+(1+x.size)):=by omega
      clear hx hlj hst hT hsz
      go_wp2_with fail
      go_roundw
      case rel=>exact⟨j+1,_,by omega,by go_num,rfl,hT2,hbw⟩
      case measure=>simp[intOf];omega
     ·have hltI:¬(j:Int)<(n:Int):=by omega
      have HV2:Hid (t.data.toList=Lz.pathTM u):=by
       show _=_;rw[HV.out,hT.out,List.take_of_length_le (by rw[HLL.out];omega)]
      clear hT
      go_wp2_with fail
      go_ret;exact⟨t,rfl,HV2,hbW.trans (hbw.mono hbW.size)⟩
end Go.Proofs.YtjhccadmmnjpeaaGreatDoor
