/-
  Package match: path.
-/
import Derived.Test.YtibcmemcfjhgmaaGreatDoorV27
import Derived.Test.YtibcmemcfjhgmaaGreatDoorV28
import Derived.Test.YtibcmemcfjhgmaaGreatDoorV19
set_option maxHeartbeats 4000000
set_option maxRecDepth 100000
namespace Go.Proofs.YtibcmemcfjhgmaaGreatDoor
open Go.RowKit
theorem BR (B M:Nat) (u:Lz.au) (s:ByteArray) (hs:s.size<=900000) (w:World) (hE:eU w) (hm:fQ B M w u) (hB:B<=w.heap.size) (Gu:15<=B) (hL:u.path.length<=50000000):
  Calls Tryz.prog 125 #[.pointer (some ⟨M,0,none⟩),.string s] w (Kt B M (Lz.dK u s.data.toList) w):=by
 obtain⟨sp,iB⟩:∃sp,sp=Lz.aj u.scheme:=⟨_,rfl⟩
 have wu:w.cell? ⟨M,13,none⟩=some (.string (dk sp)):=by
  obtain⟨sch,usr,pas,hh,hst,prt,opq,a,c,xs,hq,hf,qry,frg,hk,rfl,_,_⟩:=hm.form;rw[iB];exact rowAt hk.row 13 _ rfl
 have cC:=Ih (Dn M sp s (by omega) w wu);have aO:=Lz.pW sp s.data.toList;obtain⟨goal,gC⟩:∃goal,goal=Lz.dK u s.data.toList:=⟨_,rfl⟩;rw[<-gC]
 have hU:goal=(Lz.jk u (Lz.dN sp s.data.toList).1).bind fun v=>.ok (if(Lz.dN sp s.data.toList).2.2||Lz.aj v.scheme then Lz.onP v (Lz.dN sp s.data.toList).2.1 else v):=by
  rw[gC,iB];rfl
 generalize Lz.dN sp s.data.toList=cc at cC hU aO;obtain⟨al,tl,gd⟩:=cc;simp only[ac]at aO;have HU:=Ih hU;have Hm:=Ih hm;have HE:=Ih hE;clear hU hm hE wu gC;go_enter Tryz.func125,Tryz.ntmps125
 go_wp2_with fail
 refine cC.out.mono ?_;rintro e w1 ⟨ab,tb,rfl,AQ,htb,av⟩;have has:ab.size<=s.size:=by rw[<-ac,AQ.out];omega
 have hts:tb.size<=s.size:=by rw[<-ac,htb.out];omega
 have Ax:=Hm.out.below av;have TM:=HE.out.below av;have hbB:=av.mono hB;have y8:B<=w1.heap.size:=Nat.le_trans hB av.size;have cA:=Ih (JG B M u ab (by omega) w1 TM Ax y8 Gu);have hU2:goal=(Lz.jk u ab.data.toList).bind fun v=>.ok (if gd||Lz.aj v.scheme then Lz.onP v tb.data.toList else v):=by rw[HU.out,AQ.out,htb.out]
 generalize hr:Lz.jk u ab.data.toList=r at cA hU2;have Zx:=Ih hU2;have hrp:∀v,r=.ok v->v.path.length<=50000000:=fun v hv=>by rw[(Lz.Ee (hr.trans hv)).1];exact hL
 have Hrp:=Ih hrp;clear AQ htb hr hrp cC hU2 HU
 go_wp2_with fail
 refine cA.out.mono ?_;rintro e w2 ⟨v,rfl,aE,dH⟩;have mj:=hbB.trans aE;have AM:B<=w2.heap.size:=Nat.le_trans y8 aE.size;have R9:=TM.at aE Gu;cases r with
 | er n=>
   obtain⟨p,rfl⟩:=dH;clear cA
   go_wp2_with fail
   go_ret;refine⟨_,rfl,mj,?_⟩;rw[Zx.out];exact⟨p,rfl⟩
 | ok u2=>
   obtain⟨rfl,tL⟩:=dH;have AP:=Hrp.out u2 rfl;obtain⟨sch,usr,pas,hh,hst,prt,opq,a,c,xs,hq,hf,qry,frg,hk,nr,hc,aW⟩:=tL.form;have xD:u2.scheme=sch.data.toList:=by rw[nr]
   have c12:=rowAt hk.row 12 (.bool (Lz.aj sch.data.toList)) rfl;rw[<-xD]at c12;have Sr:goal=Lz.UR.ok (if gd||Lz.aj u2.scheme then Lz.onP u2 tb.data.toList else u2):=Zx.out;generalize Lz.aj u2.scheme=q at c12 Sr;have IV:=Ih Sr;have cO:=Ih (U1 B M tb u2 w2 R9 tL AM Gu (by omega));have Hm2:=Ih tL;clear nr hk aW xD cA Sr tL R9 TM Ax;cases gd with
   | true=>
     go_wp2_with fail
     refine cO.out.mono ?_;rintro e w3 ⟨rfl,bj,Dy⟩
     go_wp2_with fail
     go_ret;refine⟨_,rfl,mj.trans bj,?_⟩;rw[IV.out];exact⟨rfl,Dy⟩
   | false=>
     cases q with
     | true=>
       go_wp2_with fail
       refine cO.out.mono ?_;rintro e w3 ⟨rfl,bj,Dy⟩
       go_wp2_with fail
       go_ret;refine⟨_,rfl,mj.trans bj,?_⟩;rw[IV.out];exact⟨rfl,Dy⟩
     | false=>
       go_wp2_with fail
       go_ret;refine⟨_,rfl,mj,?_⟩;rw[IV.out];exact⟨rfl,Hm2.out⟩
def MkV.val (x:MkV):Value:=.agg #[.string x.sch,.string x.usr,.string x.pas,.bool x.hh,.string x.hst,.int .i64 x.prt,.bool x.opq,x.pv,.bool x.hq,.bool x.hf,.string x.qry,.string x.frg]
def j4 (w:World) (v:Value) (u:Lz.au):Prop:=∃x:MkV,v=x.val/\eY w x.pv (x.xs.map (fun x:ByteArray=>x.data.toList))/\Hid (x.url=u)
theorem j4.form {w:World} {v:Value} {u:Lz.au} (h:j4 w v u):∃(sch usr pas:ByteArray) (hh:Bool) (hst:ByteArray) (prt:Int) (opq:Bool) (a:Option Addr) (c:Nat) (xs:List ByteArray) (hq hf:Bool) (qry frg:ByteArray),
  v=.agg #[.string sch,.string usr,.string pas,.bool hh,.string hst,.int .i64 prt,.bool opq,.slice a xs.length c,.bool hq,.bool hf,.string qry,.string frg]/\
  u=⟨sch.data.toList,usr.data.toList,pas.data.toList,hh,hst.data.toList,prt,opq,xs.map (fun x:ByteArray=>x.data.toList),hq,hf,qry.data.toList,frg.data.toList⟩/\
  ∀(j:Nat) (x:ByteArray),xs[j]? =some x->∃G off,a=some ⟨G,off,none⟩/\G<w.heap.size/\w.cell? ⟨G,off+j,none⟩=some (.string x):=by
 obtain⟨⟨sch,usr,pas,hh,hst,prt,opq,pv,xs,hq,hf,qry,frg⟩,rfl,hp,hu⟩:=h;obtain⟨a,c,ys,hpv,gY,aW⟩:=hp;have WQ:pv=.slice a ys.length c:=hpv;subst WQ;refine⟨sch,usr,pas,hh,hst,prt,opq,a,c,ys,hq,hf,qry,frg,rfl,?_,aW⟩;rw[<-hu.out,gY];rfl
end Go.Proofs.YtibcmemcfjhgmaaGreatDoor
namespace Lz
open Go
theorem KH (sp:Bool) (l:Bs):l.dropWhile (bE sp)=l.drop (kh sp l):=by
 unfold kh
 induction l with
 | nil=>rfl
 | cons c r ih=>
   cases h:bE sp c with
   | true=>simp[h,ih]
   | false=>simp[h]
end Lz
namespace Go.Proofs.YtibcmemcfjhgmaaGreatDoor
open Go.RowKit
theorem EE (sp:Bool):∀(j:Nat) b,(dk sp).data.toList[j]? =some b->b.toNat<128:=by
 cases sp
 ·exact ascii_of_all (by decide)
 ·exact ascii_of_all (by decide)
theorem Bc (sp:Bool):(dk sp).size<4294967281:=by cases sp<;>decide
theorem By (s:ByteArray) (sp:Bool) (w:World):Calls Tryz.prog 126 #[.string s,.string (dk sp)] w (dX (s.data.toList.drop (Lz.kh sp s.data.toList)) w):=by
 refine(Any.strings_TrimLeft_laid Tryz.lays161 (by kernel_rfl) s (dk sp) w (Bc sp) (EE sp)).mono ?_;rintro e w' ⟨h1,h2⟩;refine⟨_,h1,Ih ?_,h2⟩;show Lib.trimLeftS s.data.toList (dk sp).data.toList=_;unfold Lib.trimLeftS
 have:(dk sp).data.toList.contains=Lz.bE sp:=by
  rw[<-Lz.jZ sp];cases sp<;>rfl
 rw[<-Lz.KH,this]
theorem qg:(Tryz.prog.info? 38).map (·.size)=some 12:=by kernel_rfl
theorem GQ {B M:Nat} {w:World} {u:Lz.au} (hm:fQ B M w u) (k:Nat) (hk:k<14):∃v,w.cell? ⟨M,k,none⟩=some v/\w.frozen? ⟨M,k,none⟩=false:=by
 obtain⟨x,hx,_⟩:=hm;refine⟨_,rowAt hx.row k _ (Array.getElem?_eq_getElem (by simpa using hk)),bX hx.row k⟩
theorem Tp {B M:Nat} {w:World} {u:Lz.au} (hm:fQ B M w u) {sp:Bool} (iB:sp=Lz.aj u.scheme):w.cell? ⟨M,12,none⟩=some (.bool sp)/\w.cell? ⟨M,13,none⟩=some (.string (dk sp)):=by
 obtain⟨sch,usr,pas,hh,hst,prt,opq,a,c,xs,hq,hf,qry,frg,hk,rfl,_,_⟩:=hm.form;rw[iB];exact⟨rowAt hk.row 12 _ rfl,rowAt hk.row 13 _ rfl⟩
end Go.Proofs.YtibcmemcfjhgmaaGreatDoor
namespace Go.Proofs.YtibcmemcfjhgmaaGreatDoor
open Go.RowKit Go.Extern.Stop Go.Stop Go.Extern
theorem eqN (v:Value) (w:World):(binOp .eql 74 .nilIface (.iface 39 v)).run Tryz.prog w=.ok (.bool false) w:=by kernel_rfl
theorem Uy (m:Int) (w:World):Calls Tryz.prog 78 #[.nilIface,.iface 39 (.int .i64 m)] w (a5 false w):=by
 have q1:=eqN;go_enter Tryz.func78,Tryz.ntmps78
 go_wp2
 go_ret;exact⟨rfl,Below.refl _ _⟩
def LO (f:Int->Bool):Int:=if f 70 then 70 else if f 71 then 71 else if f 72 then 72 else if f 81 then 81 else if f 82 then 82 else 0
theorem N5 (v:Value) (f:Int->Bool) (w:World) (h:∀(m:Int) (W:World),Below w.heap.size w W->Calls Tryz.prog 78 #[v,.iface 39 (.int .i64 m)] W (a5 (f m) W)):
  Calls Tryz.prog 44 #[v] w (Jp (LO f) w):=by
 obtain⟨W,hW⟩:∃W,W=w.alloc (.cells #[.int .i64 70,.int .i64 71,.int .i64 72,.int .i64 81,.int .i64 82] 39):=⟨_,rfl⟩;have ja:Below w.heap.size w W:=by rw[hW];exact(Below.refl _ w).alloc (Nat.le_refl _) _
 have bz:W.heap[w.heap.size]? =some (.cells #[.int .i64 70,.int .i64 71,.int .i64 72,.int .i64 81,.int .i64 82] 39 (0,0)):=by rw[hW];exact an _ _
 have aL:=aZ bz;have HH:=Ih h;have HQ:Hid (LO f=if f 70 then 70 else if f 71 then 71 else if f 72 then 72 else if f 81 then 81 else if f 82 then 82 else 0):=Ih rfl;have HW:=Ih hW;have HR:=Ih bz;generalize LO f=z at HQ⊢;clear h hW bz;go_enter Tryz.func44,Tryz.ntmps44
 go_wp2_with (rw[<-HW.out])
 refine wp_loop_rounds 6 ?_;rw[rounds_succ];have kN:Below W.heap.size W W:=Below.refl _ _;have c0:=rowAt ((kN.block _ aL).trans HR.out) 0 (.int .i64 70) rfl;have cI0:=Ih (HH.out 70 W (ja.trans (kN.mono ja.size)));have Gi:f 70=f 70:=rfl;generalize wL:f 70=q0 at cI0 HQ;clear Gi wL
 go_wp2_with fail
 refine cI0.out.mono ?_;rintro e w1 ⟨rfl,av⟩;cases q0 with
 | true=>
   have HZ:Hid (z=70):=Ih HQ.out;clear HQ
   go_wp2_with fail
   go_ret;exact⟨by rw[HZ.out];rfl,ja.trans ((kN.trans (av.mono kN.size)).mono ja.size)⟩
 | false=>
   go_wp2_with fail
   rw[rounds_succ];have it:Below W.heap.size W w1:=(kN.trans (av.mono kN.size));have c1:=rowAt ((it.block _ aL).trans HR.out) 1 (.int .i64 71) rfl;have cI1:=Ih (HH.out 71 w1 (ja.trans (it.mono ja.size)));have gF:f 71=f 71:=rfl;generalize jC:f 71=q1 at cI1 HQ;clear gF jC
   go_wp2_with fail
   refine cI1.out.mono ?_;rintro e w2 ⟨rfl,aE⟩;cases q1 with
   | true=>
     have HZ:Hid (z=71):=Ih HQ.out;clear HQ
     go_wp2_with fail
     go_ret;exact⟨by rw[HZ.out];rfl,ja.trans ((it.trans (aE.mono it.size)).mono ja.size)⟩
   | false=>
     go_wp2_with fail
     rw[rounds_succ];have tJ:Below W.heap.size W w2:=(it.trans (aE.mono it.size));have c2:=rowAt ((tJ.block _ aL).trans HR.out) 2 (.int .i64 72) rfl;have cI2:=Ih (HH.out 72 w2 (ja.trans (tJ.mono ja.size)));have jr:f 72=f 72:=rfl;generalize AE:f 72=q2 at cI2 HQ;clear jr AE
     go_wp2_with fail
     refine cI2.out.mono ?_;rintro e w3 ⟨rfl,bj⟩;cases q2 with
     | true=>
       have HZ:Hid (z=72):=Ih HQ.out;clear HQ
       go_wp2_with fail
       go_ret;exact⟨by rw[HZ.out];rfl,ja.trans ((tJ.trans (bj.mono tJ.size)).mono ja.size)⟩
     | false=>
       go_wp2_with fail
       rw[rounds_succ];have lq:Below W.heap.size W w3:=(tJ.trans (bj.mono tJ.size));have c3:=rowAt ((lq.block _ aL).trans HR.out) 3 (.int .i64 81) rfl;have cI3:=Ih (HH.out 81 w3 (ja.trans (lq.mono ja.size)));have OQ:f 81=f 81:=rfl;generalize Sg:f 81=q3 at cI3 HQ;clear OQ Sg
       go_wp2_with fail
       refine cI3.out.mono ?_;rintro e w4 ⟨rfl,eB⟩;cases q3 with
       | true=>
         have HZ:Hid (z=81):=Ih HQ.out;clear HQ
         go_wp2_with fail
         go_ret;exact⟨by rw[HZ.out];rfl,ja.trans ((lq.trans (eB.mono lq.size)).mono ja.size)⟩
       | false=>
         go_wp2_with fail
         rw[rounds_succ];have wH:Below W.heap.size W w4:=(lq.trans (eB.mono lq.size));have c4:=rowAt ((wH.block _ aL).trans HR.out) 4 (.int .i64 82) rfl;have cI4:=Ih (HH.out 82 w4 (ja.trans (wH.mono ja.size)));have hq4:f 82=f 82:=rfl;generalize hf4:f 82=q4 at cI4 HQ;clear hq4 hf4
         go_wp2_with fail
         refine cI4.out.mono ?_;rintro e w5 ⟨rfl,bv⟩;cases q4 with
         | true=>
           have HZ:Hid (z=82):=Ih HQ.out;clear HQ
           go_wp2_with fail
           go_ret;exact⟨by rw[HZ.out];rfl,ja.trans ((wH.trans (bv.mono wH.size)).mono ja.size)⟩
         | false=>
           go_wp2_with fail
           rw[rounds_succ];have HZ:Hid (z=0):=Ih HQ.out;clear HQ
           go_wp2_with fail
           go_ret;exact⟨by rw[HZ.out];rfl,ja.trans ((wH.trans (bv.mono wH.size)).mono ja.size)⟩
theorem RS (w:World):Calls Tryz.prog 44 #[.nilIface] w (Jp 0 w):=by
 have:=N5 .nilIface (fun _=>false) w (fun m W _=>Uy m W);exact this
end Go.Proofs.YtibcmemcfjhgmaaGreatDoor
namespace Go.Proofs.YtibcmemcfjhgmaaGreatDoor
open Go.RowKit
attribute [local go_sem ↓] Go.wp_at_zero Go.wp_at_succ
end Go.Proofs.YtibcmemcfjhgmaaGreatDoor
