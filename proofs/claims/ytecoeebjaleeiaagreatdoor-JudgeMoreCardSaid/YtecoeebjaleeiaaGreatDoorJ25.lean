/-
  Package match: path.
-/
import Derived.Test.YtecoeebjaleeiaaGreatDoorJ23
import Derived.Test.YtecoeebjaleeiaaGreatDoorJ15
set_option maxHeartbeats 4000000
set_option maxRecDepth 100000
namespace Go.Proofs.YtecoeebjaleeiaaGreatDoor
open Go.RowKit
theorem tC (u s:ByteArray):(u.toList==s.toList)=(u.data.toList==s.data.toList):=by rw[Lib.toList_data,Lib.toList_data]
theorem Vp (s:ByteArray) (hs:s.size<=900000) (w:World) (hE:dQ w):Calls Tryz.prog 228 #[.string s] w (aC (Lz.ipP s.data.toList) w):=by
 have cH:=wQ s true hs (fun h=>by cases h) w hE
 have hip:Lz.ipP s.data.toList=match Lz.aN s.data.toList true with
  | .ok h=>h==s.data.toList&&(s.data.toList[0]? ==some 91||Lz.cu s.data.toList)
  | .er _=>false:=rfl
 have ed:=fun h=>Lz.j5 (s:=s.data.toList) (h:=h);have Yy:=fun n=>Lz.lL s.data.toList n;generalize Lz.aN s.data.toList true=r at cH hip ed Yy;have CH:=Ih cH;have Hip:=Ih hip;have Tz:=Ih ed;have Her:=Ih Yy;clear cH hip ed Yy;cases r with
 | er n=>
   have hn:(((resE (.er n):Nat):Int)==0)=false:=by
    have:=Her.out n rfl
    apply beq_eq_false_iff_ne.2
    show(n:Int)≠0;omega
   have HN:Hid (Lz.ipP s.data.toList=false):=by show _=_;rw[Hip.out]
   go_enter Tryz.func228,Tryz.ntmps228
   go_wp2_with fail
   refine(CH.out).mono ?_;rintro e w1 ⟨u,rfl,hu,ar⟩
   go_wp2
   go_ret;rw[HN.out];exact⟨rfl,ar⟩
 | ok h=>
   by_cases hh:h=s.data.toList
   ·have qS:0<s.size:=by
     have:=(Tz.out h rfl).2.2;rw[<-aa,<-hh];exact List.length_pos_iff.2 this
    have hg:=aB qS
    have HQ:Hid (Lz.ipP s.data.toList=(decide (s[0]=91)||Lz.cu s.data.toList)):=by
     show _=_;rw[Hip.out,hg];simp only[hh,beq_self_eq_true,Bool.true_and];congr 1
    have cN:=fun W hW=>rA s (by omega) W hW;generalize Lz.cu s.data.toList=nb at cN HQ;have CN:=Ih cN;have Hh:=Ih hh;clear cN hg hh Hip;by_cases h9:s[0]=91
    ·have h9b:((s[0].toNat:Int)==91)=true:=by rw[h9];rfl
     have HN:Hid (Lz.ipP s.data.toList=true):=by show _=_;rw[HQ.out,decide_eq_true h9];rfl
     clear h9;go_enter Tryz.func228,Tryz.ntmps228
     go_wp2_with fail
     refine(CH.out).mono ?_;rintro e w1 ⟨u,rfl,hu,ar⟩;have uH:(u.toList==s.toList)=true:=by rw[tC,hu.out,show Ru (.ok h)=h from rfl,Hh.out];simp
     go_wp2
     go_ret;rw[HN.out];exact⟨rfl,ar⟩
    ·have h9b:((s[0].toNat:Int)==91)=false:=(Kr s[0] 91).trans (beq_eq_false_iff_ne.2 h9);have HN:Hid (Lz.ipP s.data.toList=nb):=by show _=_;rw[HQ.out,decide_eq_false h9];rfl
     clear h9;go_enter Tryz.func228,Tryz.ntmps228
     go_wp2_with fail
     refine(CH.out).mono ?_;rintro e w1 ⟨u,rfl,hu,ar⟩;have uH:(u.toList==s.toList)=true:=by rw[tC,hu.out,show Ru (.ok h)=h from rfl,Hh.out];simp
     go_wp2_with fail
     refine(CN.out _ (hE.below ar)).mono ?_;rintro e w2 ⟨rfl,az⟩
     go_wp2
     go_ret;rw[HN.out];exact⟨rfl,ac ar az⟩
   ·have HN:Hid (Lz.ipP s.data.toList=false):=by
     show _=_;rw[Hip.out];have:(h==s.data.toList)=false:=beq_eq_false_iff_ne.2 hh;show(h==s.data.toList&&_)=false;rw[this,Bool.false_and]
    have Hh:=Ih hh;clear hh;go_enter Tryz.func228,Tryz.ntmps228
    go_wp2_with fail
    refine(CH.out).mono ?_;rintro e w1 ⟨u,rfl,hu,ar⟩;have uH:(u.toList==s.toList)=false:=by rw[tC,hu.out,show Ru (.ok h)=h from rfl];exact beq_eq_false_iff_ne.2 Hh.out
    go_wp2
    go_ret;rw[HN.out];exact⟨rfl,ar⟩
end Go.Proofs.YtecoeebjaleeiaaGreatDoor
namespace Go.Proofs.YtecoeebjaleeiaaGreatDoor
open Go.RowKit Go.Extern.Stop Go.Stop Go.Extern
theorem tyE (v:Value) (w:World):(ReflectliteType.typeOf #[.iface 33 v]).run Tryz.prog w=.ok (.iface 163 (.agg #[.pointer (some ⟨15,33,none⟩)])) w:=by kernel_rfl
def cmF:Array Value->Sem Value:=ReflectliteType.method (fun t=>do Rtype.noPackHeld "Comparable" t;pure (.bool (<-typeInfo t).comparable))
theorem cmE (w:World):(cmF #[.agg #[.pointer (some ⟨15,33,none⟩)]]).run Tryz.prog w=.ok (.bool true) w:=by kernel_rfl
theorem mCm (h:Value) (w:World):(Go.method 489 163 (.agg #[h]) "Comparable").run Tryz.prog w=.ok (319,.agg #[h]) w:=by kernel_rfl
theorem Zs (v:Value) (xT:TypeId) (w:World):(Instr.typeAssert (.iface 105 v) xT 165 true).run Tryz.prog w=.ok (.tuple #[.nilIface,.bool false]) w:=run_typeAssert_lacksB Tryz.underlying165 (by kernel_rfl) (by kernel_rfl) v xT w
theorem UV (v:Value) (xT:TypeId) (w:World):(Instr.typeAssert (.iface 105 v) xT 168 true).run Tryz.prog w=.ok (.tuple #[.iface 105 v,.bool true]) w:=run_typeAssert_hasB Tryz.underlying168 (by kernel_rfl) v xT w
theorem Zr (v:Value) (xT:TypeId) (w:World):(Instr.typeAssert (.iface 33 v) xT 165 true).run Tryz.prog w=.ok (.tuple #[.nilIface,.bool false]) w:=run_typeAssert_lacksB Tryz.underlying165 (by kernel_rfl) (by kernel_rfl) v xT w
theorem Zg (v:Value) (xT:TypeId) (w:World):(Instr.typeAssert (.iface 33 v) xT 168 true).run Tryz.prog w=.ok (.tuple #[.nilIface,.bool false]) w:=run_typeAssert_lacksB Tryz.underlying168 (by kernel_rfl) (by kernel_rfl) v xT w
theorem UZ (v:Value) (xT:TypeId) (w:World):(Instr.typeAssert (.iface 33 v) xT 170 true).run Tryz.prog w=.ok (.tuple #[.nilIface,.bool false]) w:=run_typeAssert_lacksB Tryz.underlying170 (by kernel_rfl) (by kernel_rfl) v xT w
theorem eqF (p v:Value) (m:Int) (w:World):(binOp .eql 54 (.iface 105 (.agg #[p,v])) (.iface 33 (.int .i64 m))).run Tryz.prog w=.ok (.bool false) w:=by kernel_rfl
theorem eqE (n m:Int) (w:World):(binOp .eql 54 (.iface 33 (.int .i64 n)) (.iface 33 (.int .i64 m))).run Tryz.prog w=.ok (.bool (n==m)) w:=by kernel_rfl
theorem VE (p:ByteArray) (n m:Int) (w:World):Calls Tryz.prog 69 #[.iface 105 (.agg #[.string p,.iface 33 (.int .i64 n)]),.iface 33 (.int .i64 m),.bool true] w (aC (decide (n=m)) w):=by
 have q1:=eqF;have q2:=eqE;have i1:=Zs;have i2:=UV;have i3:=Zr;have i4:=Zg;have i5:=UZ;have nu:∀w,(nilAhead 489 105 (.agg #[.string p,.iface 33 (.int .i64 n)]) "Unwrap").run Tryz.prog w=.ok (some false) w:=fun _=>by kernel_rfl
 have mU:∀w,(Go.method 489 105 (.agg #[.string p,.iface 33 (.int .i64 n)]) "Unwrap").run Tryz.prog w=.ok (316,.agg #[.string p,.iface 33 (.int .i64 n)]) w:=fun _=>by kernel_rfl
 by_cases h:n=m
 ·have hb:(n==m)=true:=by simp[h]
  have HD:Hid (decide (n=m)=true):=Ih (decide_eq_true h);clear h;go_enter Tryz.func69,Tryz.ntmps69
  go_wp2
  refine wp_loop_rounds 3 ?_;rw[rounds_succ]
  go_wp2
  rw[rounds_succ]
  go_wp2
  go_ret;exact⟨by rw[HD.out];rfl,by first |exact Below.refl _ _|exact(Below.refl _ _).alloc (Nat.le_refl _) _⟩
 ·have hb:(n==m)=false:=by simp[h]
  have HD:Hid (decide (n=m)=false):=Ih (decide_eq_false h);clear h;go_enter Tryz.func69,Tryz.ntmps69
  go_wp2
  refine wp_loop_rounds 3 ?_;rw[rounds_succ]
  go_wp2
  rw[rounds_succ]
  go_wp2
  go_ret;exact⟨by rw[HD.out];rfl,by first |exact Below.refl _ _|exact(Below.refl _ _).alloc (Nat.le_refl _) _⟩
theorem Vk (p:ByteArray) (n m:Int) (w:World):Calls Tryz.prog 32 #[.iface 105 (.agg #[.string p,.iface 33 (.int .i64 n)]),.iface 33 (.int .i64 m)] w (aC (decide (n=m)) w):=by
 have h95:= @run_callFunc_extern Tryz.prog 68 _ ReflectliteType.typeOf Tryz.func68 (by kernel_rfl) (by kernel_rfl) (by kernel_rfl) (by kernel_rfl);have hCm:= @run_callFunc_extern Tryz.prog 319 _ cmF Tryz.func319 (by kernel_rfl) (by kernel_rfl) (by kernel_rfl) (by kernel_rfl);have t1:=tyE;have t2:=cmE;have t3:=mCm;have cI:=Ih (fun W=>VE p n m W);generalize decide (n=m)=q at cI⊢;go_enter Tryz.func32,Tryz.ntmps32
 go_wp2_with fail
 refine(cI.out _).mono ?_;rintro e w1 ⟨rfl,hb⟩
 go_wp2_with fail
 go_ret;exact⟨rfl,hb⟩
theorem eqN (v:Value) (w:World):(binOp .eql 54 .nilIface (.iface 33 v)).run Tryz.prog w=.ok (.bool false) w:=by kernel_rfl
theorem U1 (m:Int) (w:World):Calls Tryz.prog 32 #[.nilIface,.iface 33 (.int .i64 m)] w (aC false w):=by
 have q1:=eqN;go_enter Tryz.func32,Tryz.ntmps32
 go_wp2
 go_ret;exact⟨rfl,Below.refl _ _⟩
def ID (f:Int->Bool):Int:=if f 70 then 70 else if f 71 then 71 else if f 72 then 72 else if f 81 then 81 else if f 82 then 82 else 0
theorem CM (v:Value) (f:Int->Bool) (w:World) (h:∀(m:Int) (W:World),Below w.heap.size w W->Calls Tryz.prog 32 #[v,.iface 33 (.int .i64 m)] W (aC (f m) W)):
  Calls Tryz.prog 16 #[v] w (D3 (ID f) w):=by
 obtain⟨W,hW⟩:∃W,W=w.alloc (.cells #[.int .i64 70,.int .i64 71,.int .i64 72,.int .i64 81,.int .i64 82] 33):=⟨_,rfl⟩;have aS:Below w.heap.size w W:=by rw[hW];exact(Below.refl _ w).alloc (Nat.le_refl _) _
 have aZ:W.heap[w.heap.size]? =some (.cells #[.int .i64 70,.int .i64 71,.int .i64 72,.int .i64 81,.int .i64 82] 33 (0,0)):=by rw[hW];exact ah _ _
 have aV:=af aZ;have HH:=Ih h;have HQ:Hid (ID f=if f 70 then 70 else if f 71 then 71 else if f 72 then 72 else if f 81 then 81 else if f 82 then 82 else 0):=Ih rfl;have HW:=Ih hW;have HR:=Ih aZ;generalize ID f=z at HQ⊢;clear h hW aZ;go_enter Tryz.func16,Tryz.ntmps16
 go_wp2_with (rw[<-HW.out])
 refine wp_loop_rounds 6 ?_;rw[rounds_succ];have iB:Below W.heap.size W W:=Below.refl _ _;have c0:=rowAt ((iB.block _ aV).trans HR.out) 0 (.int .i64 70) rfl;have cI0:=Ih (HH.out 70 W (aS.trans (iB.mono aS.size)));have Cs:f 70=f 70:=rfl;generalize tL:f 70=q0 at cI0 HQ;clear Cs tL
 go_wp2_with fail
 refine cI0.out.mono ?_;rintro e w1 ⟨rfl,ar⟩;cases q0 with
 | true=>
   have HZ:Hid (z=70):=Ih HQ.out;clear HQ
   go_wp2_with fail
   go_ret;exact⟨by rw[HZ.out];rfl,aS.trans ((iB.trans (ar.mono iB.size)).mono aS.size)⟩
 | false=>
   go_wp2_with fail
   rw[rounds_succ];have iY:Below W.heap.size W w1:=(iB.trans (ar.mono iB.size));have c1:=rowAt ((iY.block _ aV).trans HR.out) 1 (.int .i64 71) rfl;have cI1:=Ih (HH.out 71 w1 (aS.trans (iY.mono aS.size)));have bO:f 71=f 71:=rfl;generalize bU:f 71=q1 at cI1 HQ;clear bO bU
   go_wp2_with fail
   refine cI1.out.mono ?_;rintro e w2 ⟨rfl,az⟩;cases q1 with
   | true=>
     have HZ:Hid (z=71):=Ih HQ.out;clear HQ
     go_wp2_with fail
     go_ret;exact⟨by rw[HZ.out];rfl,aS.trans ((iY.trans (az.mono iY.size)).mono aS.size)⟩
   | false=>
     go_wp2_with fail
     rw[rounds_succ];have pY:Below W.heap.size W w2:=(iY.trans (az.mono iY.size));have c2:=rowAt ((pY.block _ aV).trans HR.out) 2 (.int .i64 72) rfl;have cI2:=Ih (HH.out 72 w2 (aS.trans (pY.mono aS.size)));have bQ:f 72=f 72:=rfl;generalize ee:f 72=q2 at cI2 HQ;clear bQ ee
     go_wp2_with fail
     refine cI2.out.mono ?_;rintro e w3 ⟨rfl,aO⟩;cases q2 with
     | true=>
       have HZ:Hid (z=72):=Ih HQ.out;clear HQ
       go_wp2_with fail
       go_ret;exact⟨by rw[HZ.out];rfl,aS.trans ((pY.trans (aO.mono pY.size)).mono aS.size)⟩
     | false=>
       go_wp2_with fail
       rw[rounds_succ];have pL:Below W.heap.size W w3:=(pY.trans (aO.mono pY.size));have c3:=rowAt ((pL.block _ aV).trans HR.out) 3 (.int .i64 81) rfl;have cI3:=Ih (HH.out 81 w3 (aS.trans (pL.mono aS.size)));have JE:f 81=f 81:=rfl;generalize Lv:f 81=q3 at cI3 HQ;clear JE Lv
       go_wp2_with fail
       refine cI3.out.mono ?_;rintro e w4 ⟨rfl,dy⟩;cases q3 with
       | true=>
         have HZ:Hid (z=81):=Ih HQ.out;clear HQ
         go_wp2_with fail
         go_ret;exact⟨by rw[HZ.out];rfl,aS.trans ((pL.trans (dy.mono pL.size)).mono aS.size)⟩
       | false=>
         go_wp2_with fail
         rw[rounds_succ];have Ib:Below W.heap.size W w4:=(pL.trans (dy.mono pL.size));have c4:=rowAt ((Ib.block _ aV).trans HR.out) 4 (.int .i64 82) rfl;have cI4:=Ih (HH.out 82 w4 (aS.trans (Ib.mono aS.size)));have hq4:f 82=f 82:=rfl;generalize hf4:f 82=q4 at cI4 HQ;clear hq4 hf4
         go_wp2_with fail
         refine cI4.out.mono ?_;rintro e w5 ⟨rfl,aI⟩;cases q4 with
         | true=>
           have HZ:Hid (z=82):=Ih HQ.out;clear HQ
           go_wp2_with fail
           go_ret;exact⟨by rw[HZ.out];rfl,aS.trans ((Ib.trans (aI.mono Ib.size)).mono aS.size)⟩
         | false=>
           go_wp2_with fail
           rw[rounds_succ];have HZ:Hid (z=0):=Ih HQ.out;clear HQ
           go_wp2_with fail
           go_ret;exact⟨by rw[HZ.out];rfl,aS.trans ((Ib.trans (aI.mono Ib.size)).mono aS.size)⟩
theorem R2 (w:World):Calls Tryz.prog 16 #[.nilIface] w (D3 0 w):=by
 have:=CM .nilIface (fun _=>false) w (fun m W _=>U1 m W);exact this
theorem Od (n:Nat) (hn:n=70\/n=71\/n=72\/n=81\/n=82) (v:Value) (h:Gg n v) (w:World):Calls Tryz.prog 16 #[v] w (D3 n w):=by
 obtain⟨p,rfl⟩:=h;have:=CM _ (fun m=>decide ((n:Int)=m)) w (fun m W _=>Vk p n m W)
 have hq:ID (fun m=>decide ((n:Int)=m))=(n:Int):=by
  rcases hn with rfl|rfl|rfl|rfl|rfl<;>rfl
 rw[hq]at this;exact this
end Go.Proofs.YtecoeebjaleeiaaGreatDoor
namespace Go.Proofs.YtecoeebjaleeiaaGreatDoor
open Go.RowKit
theorem kU:∀(k n:Nat),n<10^(k+1)->(Lib.decDigits n).length<=k+1
 | 0,n,h=>by rw[Lib.decDigits,dif_pos (by simpa using h)];simp
 | k+1,n,h=>by
   rw[Lib.decDigits];split
   ·simp
   ·rw[List.length_append];have:=kU k (n / 10) (by rw[Nat.pow_succ]at h;omega)
    simp
    omega
theorem Ay {n:Int} (h0: -9223372036854775808<=n) (h1:n<=9223372036854775807):(Lib.itoa n).length<=21:=by
 unfold Lib.itoa;split
 ·have:=kU 19 n.natAbs (by omega)
  simp
  omega
 ·have:=kU 19 n.toNat (by omega);omega
def AtE (w1 W:World):Prop:=dQ W/\Below w1.heap.size w1 W
def AtS (hst:ByteArray) (prt:Int) (B:Nat) (w W:World):Prop:=W.cell? ⟨B,4,none⟩=some (.string hst)/\W.cell? ⟨B,5,none⟩=some (.int .i64 prt)/\AtE w W
theorem Nq (v:Value) (u:Lz.ag) (w:World) (hv:aX w v u) (hE:dQ w) (h0: -9223372036854775808<=u.port) (h1:u.port<=9223372036854775807) (hL:u.host.length<=1000000000):Calls Tryz.prog 29 #[v] w (gJ (Lz.atU u) w):=by
 obtain⟨sch,usr,pas,hh,hst,prt,opq,a,c,xs,hq,hf,qry,frg,rfl,rfl,hx⟩:=hv.form;replace h0: -9223372036854775808<=prt:=h0;replace h1:prt<=9223372036854775807:=h1;replace hL:hst.data.toList.length<=1000000000:=hL;rw[aa]at hL;obtain⟨goal,hg⟩:∃goal,goal=Lz.atU ⟨sch.data.toList,usr.data.toList,pas.data.toList,hh,hst.data.toList,prt,opq,xs.map (fun x:ByteArray=>x.data.toList),hq,hf,qry.data.toList,frg.data.toList⟩:=⟨_,rfl⟩;rw[<-hg];have zl:goal=if prt= -1 then hst.data.toList else hst.data.toList++[58]++Lib.itoa prt:=hg;have HG:=Ih zl;obtain⟨W,hW⟩:∃W,W=w.alloc (.cells #[.string sch,.string usr,.string pas,.bool hh,.string hst,.int .i64 prt,.bool opq,.slice a xs.length c,.bool hq,.bool hf,.string qry,.string frg] 32):=⟨_,rfl⟩;have aS:Below w.heap.size w W:=by rw[hW];exact(Below.refl _ w).alloc (Nat.le_refl _) _
 have hR:W.heap[w.heap.size]? =some (.cells #[.string sch,.string usr,.string pas,.bool hh,.string hst,.int .i64 prt,.bool opq,.slice a xs.length c,.bool hq,.bool hf,.string qry,.string frg] 32 (0,0)):=by rw[hW];exact ah _ _
 have aV:=af hR;have c4:=rowAt hR 4 (.string hst) rfl;have c5:=rowAt hR 5 (.int .i64 prt) rfl;have HW:=Ih hW;have HE:=Ih (hE.below aS);clear hW hR hv hx hg zl hE;by_cases hp:prt= -1
 ·have Cg:(prt== -1)=true:=by simp[hp]
  have oX:Hid (goal=hst.data.toList):=by show _=_;rw[HG.out,if_pos hp]
  clear hp;go_enter Tryz.func29,Tryz.ntmps29
  go_wp2_with (rw[<-HW.out])
  go_ret;exact⟨hst,rfl,Ih oX.out.symm,aS⟩
 ·have Cg:(prt== -1)=false:=by simp[hp]
  have oX:Hid (goal=hst.data.toList++[58]++Lib.itoa prt):=by show _=_;rw[HG.out,if_neg hp]
  clear hp;have n1:¬(9223372036854775807<hst.size+1):=by omega
  have hSd:AtS hst prt w.heap.size W W.drew:=⟨c4,c5,HE.out.below (Below.refl _ _).drew,(Below.refl _ _).drew⟩
  have cI:Hid (∀V,AtS hst prt w.heap.size W V->Calls Tryz.prog 67 #[.int .i64 prt] V fun e w'=>∃u:ByteArray,e=.returned (.string u)/\Hid (u.data.toList=Lib.itoa prt)/\u.size<=21/\AtS hst prt w.heap.size W w'):=Ih (by
   rintro V ⟨k4,k5,kE,kb⟩;refine(sy prt h0 h1 V kE).mono ?_;rintro e w' ⟨u,he,hu,Pt⟩;have EZ:=Nat.lt_of_lt_of_le aV kb.size;exact⟨u,he,hu,by rw[<-aa,hu.out];exact Ay h0 h1,by rw[Pt.cell (p:=⟨w.heap.size,4,none⟩) EZ];exact k4,by rw[Pt.cell (p:=⟨w.heap.size,5,none⟩) EZ];exact k5,kE.below Pt,ac kb Pt⟩)
  go_enter Tryz.func29,Tryz.ntmps29
  go_wp2_with (rw[<-HW.out])
  go_upto_region 3 with fail
  go_cut [2] (fun s wx=>∃u:ByteArray,s=.string u/\Hid (u.data.toList=goal)/\Below w.heap.size w wx)
  case first=>
   go_region_held3 (fun V=>V.cell? ⟨w.heap.size,4,none⟩=some (.string hst)/\V.cell? ⟨w.heap.size,5,none⟩=some (.int .i64 prt)/\AtE W V) (first |assumption|exact hSd) (first |(go_at_call 67;refine(cI.out _ (by assumption)).mono ?_;rintro e w2 ⟨t,rfl,ht,hs,XE⟩;have n2:¬(9223372036854775807<hst.size+1+t.size):=(by omega)))
   go_wp2_with fail
   go_meet;exact⟨_,rfl,by show _=_;rw[oX.out,be,be,ht.out],aS.trans (XE.2.2.2.mono aS.size)⟩
  case rest=>
   obtain⟨u,rfl,hu,hb⟩:=hcut
   go_wp2_with fail
   go_ret;exact⟨_,rfl,hu,hb⟩
attribute [local go_sem ↓] Go.wp_at_zero Go.wp_at_succ
structure UOk (u:Lz.ag):Prop where
 nu:Lz.NU u
 wq:Lz.wq u<=100000
def slS (l:List (List UInt8)):List UInt8:=l.flatMap fun p=>47::p
theorem Nt (l:List (List UInt8)) (j:Nat) (p:List UInt8) (h:l[j]? =some p):slS (l.take (j+1))=slS (l.take j)++47::p:=by
 have hj:=(List.getElem?_eq_some_iff.1 h);rw[List.take_succ_eq_append_getElem hj.1,hj.2];unfold slS;rw[List.flatMap_append];simp
theorem Dj (l:List (List UInt8)) (j:Nat):(slS (l.take j)).length<=(slS l).length:=by
 conv=>(rhs;rw[<-List.take_append_drop j l])
 unfold slS;rw[List.flatMap_append,List.length_append];omega
theorem Nm:∀l:List (List UInt8),l.length<=(slS l).length
 | []=>Nat.zero_le _
 | p::r=>by
   have:=Nm r;show r.length+1<=((47::p)++slS r).length;rw[List.length_append,List.length_cons];omega
theorem KH (v:Value) (u:Lz.ag) (w:World) (hv:aX w v u) (hU:UOk u):Calls Tryz.prog 194 #[v] w (gJ (Lz.kd u) w):=by
 obtain⟨bo,cw,ck,cv,aU,cf,cq,a1,c1,xs,bO,bU,cz,de,rfl,hu,hx⟩:=hv.form;obtain⟨n,hn⟩:∃n,n=xs.length:=⟨_,rfl⟩;rw[<-hn];clear hv;obtain⟨l,hl⟩:∃l,l=xs.map (fun x:ByteArray=>x.data.toList):=⟨_,rfl⟩;have Qe:u.path=l:=by rw[hu,hl]
 have Yg:u.opq=cq:=by rw[hu]
 obtain⟨W,hW⟩:∃W,W=w.alloc (.cells #[.string bo,.string cw,.string ck,.bool cv,.string aU,.int .i64 cf,.bool cq,.slice a1 n c1,.bool bO,.bool bU,.string cz,.string de] 32):=⟨_,rfl⟩;have aS:Below w.heap.size w W:=by rw[hW];exact(Below.refl _ w).alloc (Nat.le_refl _) _
 have sj:W.heap[w.heap.size]? =some (.cells #[.string bo,.string cw,.string ck,.bool cv,.string aU,.int .i64 cf,.bool cq,.slice a1 n c1,.bool bO,.bool bU,.string cz,.string de] 32 (0,0)):=by rw[hW];exact ah _ _
 have c6:=rowAt sj 6 (.bool cq) rfl;have c7:=rowAt sj 7 (.slice a1 n c1) rfl;have HW:=Ih hW;have mS:l.length=xs.length:=by rw[hl,List.length_map]
 clear hu hW sj;cases cq with
 | true=>
   obtain⟨_,p,hp,_⟩:=hU.nu.opaqueN Yg;have iY:xs.length=1:=by rw[<-mS,<-Qe,hp];rfl
   obtain⟨x,rfl⟩:∃x,xs=[x]:=List.length_eq_one_iff.1 iY;have yj:n=1:=hn;subst yj;obtain⟨G,o,rfl,hG,hc⟩:=hx 0 x rfl;rw[Nat.add_zero]at hc;have Ch:W.cell? ⟨G,o,none⟩=some (.string x):=by rw[aS.cell (p:=⟨G,o,none⟩) hG];exact hc
   have HV:Hid (Lz.kd u=x.data.toList):=by show _=_;unfold Lz.kd;rw[Yg,if_pos rfl,Qe,hl];simp
   have cJ:Hid (Calls Tryz.prog 232 #[.slice (some ⟨G,o,none⟩) 1 c1,.string ⟨#[]⟩] W fun e w'=>e=.returned (.string x)/\w'=W):=Ih (Any.strings_Join_one Tryz.lays156 Tryz.Builder_Extra_156 G o c1 x ⟨#[]⟩ W Ch);clear hx hc Ch Qe Yg hl mS hp hn;go_enter Tryz.func194,Tryz.ntmps194
   go_wp2_with fail
   rw[<-HW.out];refine cJ.out.mono ?_;rintro e w1 ⟨rfl,rfl⟩
   go_wp2_with fail
   go_ret;exact⟨x,rfl,Ih HV.out.symm,aS⟩
 | false=>
   have HV:Hid (Lz.kd u=slS l):=by show _=_;unfold Lz.kd;rw[Yg,if_neg (by decide),Qe];rfl
   have hz:(slS l).length<=1000000:=by
    have h1:=hU.wq;have h2:(slS l).length=Lz.pl u.path:=by rw[Qe];rfl
    unfold Lz.wq Lz.wt at h1;omega
   by_cases h0:xs.length=0
   ·have e0:xs=[]:=List.length_eq_zero_iff.1 h0;subst e0;have yj:n=0:=hn;subst yj;have yB:Hid (l=[]):=hl;clear hx Qe Yg hl mS h0 hn;go_enter Tryz.func194,Tryz.ntmps194
    go_wp2_with fail
    rw[<-HW.out];refine wp_loop_rounds 1 ?_;rw[rounds_succ]
    go_wp2_with fail
    go_ret;exact⟨_,rfl,by show _=_;rw[HV.out,yB.out];rfl,aS⟩
   ·obtain⟨G,o,rfl,hG,h00⟩:=hx 0 (xs[0]'(by omega)) (List.getElem?_eq_getElem (by omega))
    have Hx:Hid (∀(j:Nat) (x:ByteArray),xs[j]? =some x->W.cell? ⟨G,o+j,none⟩=some (.string x)):=Ih (fun j x hj=>by
     obtain⟨G',o',e,_,hc⟩:=hx j x hj;injection e with e;injection e with e1 e2 _
     subst e1;subst e2;rw[aS.cell (p:=⟨G,o+j,none⟩) hG];exact hc)
    have hGW:G<W.heap.size:=Nat.lt_of_lt_of_le hG aS.size;have HL:=Ih hl;have HZ:=Ih hz;have T9:n<=1000000:=by have:=Nm l;omega
    have HN:=Ih hn;rw[<-hn]at mS;have HLL:=Ih mS;clear h00 hx Qe Yg hl mS h0 hz hn hG;go_enter Tryz.func194,Tryz.ntmps194
    go_wp2_with fail
    rw[<-HW.out]
    go_loopw [3,14] (fun a i wr=>∃(j:Nat) (t:ByteArray),j<=n/\i=.int .i64 j/\a=.string t/\Hid (t.data.toList=slS (l.take j))/\Below W.heap.size W wr) (fun _ i _=>n-(intOf i).toNat)
    case atStart=>exact⟨0,⟨#[]⟩,Nat.zero_le _,rfl,rfl,Ih (by simp[slS]),Below.refl _ _⟩
    case round=>
     obtain⟨j,t,hj,rfl,rfl,hT,aK⟩:=hrel;by_cases aV:j<n
     ·have bW:(j:Int)<(n:Int):=by omega
      have tM:(0:Int)<=(j:Int):=by omega
      obtain⟨x,hx⟩:∃x,xs[j]? =some x:=⟨_,List.getElem?_eq_getElem (by rw[<-HN.out];exact aV)⟩;have iD:wr.cell? ⟨G,o+j,none⟩=some (.string x):=by rw[aK.cell (p:=⟨G,o+j,none⟩) hGW];exact Hx.out j x hx
      have Ix:l[j]? =some x.data.toList:=by rw[HL.out,List.getElem?_map,hx];rfl
      have hst:=Nt l j _ Ix;have AI:Hid ((t++(⟨#[47]⟩++x)).data.toList=slS (l.take (j+1))):=by show _=_;rw[hst,be,be,hT.out];rfl
      have ju:t.size+(1+x.size)<=1000000:=by
       have h1:=Dj l (j+1);rw[hst,<-hT.out,List.length_append,List.length_cons,aa,aa]at h1;have:=HZ.out;omega
      have n1:¬(9223372036854775807<1+x.size):=by omega
      have n2:¬(9223372036854775807<t.size+(1+x.size)):=by omega
      clear hx Ix hst hT ju
      go_wp2_with fail
      go_roundw
      case rel=>exact⟨j+1,_,by omega,by go_num,rfl,AI,aK⟩
      case measure=>simp[intOf];omega
     ·have bW:¬(j:Int)<(n:Int):=by omega
      have WL:Hid (t.data.toList=Lz.kd u):=by
       show _=_;rw[HV.out,hT.out,List.take_of_length_le (by rw[HLL.out];omega)]
      clear hT
      go_wp2_with fail
      go_ret;exact⟨t,rfl,WL,aS.trans (aK.mono aS.size)⟩
end Go.Proofs.YtecoeebjaleeiaaGreatDoor
