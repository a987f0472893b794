/-
  lazaretlaw31.JudgeMore.
-/
import Derived.Test.YtecoeebjaleeiaaGreatDoorJ45
import Derived.Test.YtecoeebjaleeiaaGreatDoorJ49
set_option maxHeartbeats 4000000
set_option maxRecDepth 100000
namespace Go.Proofs.YtecoeebjaleeiaaGreatDoor
open Go.RowKit
attribute [local go_sem ↓] Go.wp_at_zero Go.wp_at_succ
theorem KG {w:World} {a:Option Addr} {c k:Nat} {ys:List bJ} (h:j8 w (.slice a ys.length c) ys) (hk:k<=ys.length):j8 w (.slice a k c) (ys.take k):=by
 obtain⟨a1,c1,e,hx⟩:=h;injection e with e1 e2 e3
 subst e1;subst e3;refine⟨a,c,by rw[List.length_take,Nat.min_eq_left hk],fun j x hj=>?_⟩;rw[List.getElem?_take]at hj;split at hj
 ·exact hx j x hj
 ·cases hj
theorem yK {bi:List UInt32} {aY:List UInt64} (lv:Value) (ps:List aE) (m:aE) (x:bh) (w:World) (hl:eW w lv ps) (hm:dx w m.v m.ds) (oW:Ik x.kind) (hE:mG bi aY w):Calls Tryz.prog 3 #[lv,m.val,x.val] w (aC true w):=by
 obtain⟨Wm,hWm⟩:∃U,U=w.alloc (.cells #[m.v,.bool m.rep] 25):=⟨_,rfl⟩;obtain⟨W0,Ii⟩:∃U,U=Wm.alloc (.cells x.row 27):=⟨_,rfl⟩;have hbm:Below w.heap.size w Wm:=by rw[hWm];exact(Below.refl _ w).alloc (Nat.le_refl _) _
 have hbi:Below Wm.heap.size Wm W0:=by rw[Ii];exact(Below.refl _ Wm).alloc (Nat.le_refl _) _
 have ku:Below w.heap.size w W0:=ac hbm hbi;have WJ:Wm.heap[w.heap.size]? =some (.cells #[m.v,.bool m.rep] 25 (0,0)):=by rw[hWm];exact ah _ _
 have Z1:=(hbi.block _ (af WJ)).trans WJ;obtain⟨xb,SC⟩:∃z,z=Wm.heap.size:=⟨_,rfl⟩;have aaX:xb=w.heap.size+1:=by rw[SC,hWm];simp
 have qV:W0.heap[xb]? =some (.cells x.row 27 (0,0)):=by rw[Ii,SC];exact ah _ _
 have yB:=hl.below ku;have sx:=hm.below ku;have kM:Hid (∀V,Below W0.heap.size W0 V->Calls Tryz.prog 7 #[] V (aC true V)):=Ih (fun V hV=>oA bi aY V ((hE.below ku).below hV));have cP:Hid (∀V,Below W0.heap.size W0 V->Calls Tryz.prog 8 #[.string ⟨#[104,116,116,112,115,58,47,47,97,46,98,47]⟩,.pointer none] V fun e w'=>∃(v:Value) (u:Lz.ag),e=.returned (.tuple #[v,.int .i64 0])/\Below V.heap.size V w'/\aX w' v u/\Hid (UOk u)):=Ih (fun V hV=>ns ⟨#[104,116,116,112,115,58,47,47,97,46,98,47]⟩ rfl V ((hE.below ku).below hV).a.m.u);have HE:Hid (mG bi aY W0):=Ih (hE.below ku);have HI:Hid (∀V,Below W0.heap.size W0 V->V.heap[xb]? =some (.cells x.row 27 (0,0))):=Ih (fun V hV=>(hV.block _ (af qV)).trans qV);have HM:Hid (∀V,Below W0.heap.size W0 V->V.heap[w.heap.size]? =some (.cells #[m.v,.bool m.rep] 25 (0,0))):=Ih (fun V hV=>(hV.block _ (af Z1)).trans Z1);have HL:Hid (∀V,Below W0.heap.size W0 V->eW V lv ps):=Ih (fun V hV=>yB.below hV)
 have HD:Hid (∀V,Below W0.heap.size W0 V->∀y∈ps++[m],dx V y.v y.ds):=Ih (fun V hV y hy=>by
  rcases List.mem_append.1 hy with h|h
  ·obtain⟨_,_,_,hx⟩:=yB;obtain⟨j,hj⟩:=List.getElem?_of_mem h;obtain⟨_,_,_,mR⟩:=hx j y hj;exact(mR.2.2).below hV
  ·rw[List.mem_singleton.1 h];exact sx.below hV)
 have cGa:Hid (∀y∈ps++[m],∀V,Below W0.heap.size W0 V->Calls Tryz.prog 6 #[y.val] V (aC (lR (y.ds.map aD.src)) V)):=Ih (fun y hy V hV=>uG y V (HD.out V hV y hy));obtain⟨gm,hgm⟩:∃z,z=lR (m.ds.map aD.src):=⟨_,rfl⟩;have cGm:Hid (Calls Tryz.prog 6 #[m.val] W0 (aC gm W0)):=Ih (by rw[hgm];exact cGa.out m (by simp) W0 (Below.refl _ _));have hSm:Hid (gm=false->dO (m.ds.map aD.src)):=Ih (fun h=>sL (hgm.symm.trans h));obtain⟨la,lc,rfl,iB⟩:=id yB;obtain⟨n,Fa⟩:∃n,n=ps.length:=⟨_,rfl⟩;rw[<-Fa]at HL⊢;have HN:=Ih Fa;have HX:=Ih iB;obtain⟨ma,mc,hmv,_⟩:=id sx;obtain⟨mn,hmn⟩:∃z,z=m.ds.length:=⟨_,rfl⟩;rw[<-hmn]at hmv;obtain⟨mv,LA,mr⟩:=m
 dsimp only at hmv
 subst hmv;obtain⟨xk,xn,xa,xu,xt,xc,xi⟩:=x;obtain⟨k0,k1,k2,k3,k4,k5,k6⟩:=bn qV;have z0:=rowAt Z1 0 _ rfl;have z1:=rowAt Z1 1 _ rfl;obtain⟨q,hq⟩:∃q,q=decide (6<n\/500<xu.size\/500<xt.size\/500<xc.size\/500<xi.size\/gm=true):=⟨_,rfl⟩;have Hq:=Ih hq;have HW0:Hid (W0=(w.alloc (.cells #[.slice ma mn mc,.bool mr] 25)).alloc (.cells #[.int .i64 xk,.int .i64 xn,.string xa,.string xu,.string xt,.string xc,.string xi] 27)):=Ih (by rw[Ii,hWm];rfl);have Hxb:=Ih aaX
 dsimp only[bh.val,bh.row,aE.val]at *
 clear Ii hWm hbm hbi WJ Z1 SC aaX qV hl yB hm sx iB Fa hmn hE hq hgm;go_enter Tryz.func3,Tryz.ntmps3
 go_upto_region 1 with fail
 rw[<-HW0.out,<-Hxb.out]
 go_cut [44] (fun s wx=>s=.bool q/\Below W0.heap.size W0 wx)
 case first=>
  by_cases t0:6<n
  ·have i0:(6:Int)<(n:Int):=by omega
   have HQ:Hid (q=true):=by show _=_;rw[Hq.out];exact decide_eq_true (Or.inl t0)
   clear t0
   go_wp2_with fail
   go_meet;exact⟨by rw[HQ.out],Below.refl _ _⟩
  have i0:¬(6:Int)<(n:Int):=by omega
  by_cases t1:500<xu.size
  ·have i1:(500:Int)<(xu.size:Int):=by omega
   have HQ:Hid (q=true):=by show _=_;rw[Hq.out];exact decide_eq_true (Or.inr (Or.inl t1))
   clear t0 t1
   go_wp2_with fail
   go_meet;exact⟨by rw[HQ.out],Below.refl _ _⟩
  have i1:¬(500:Int)<(xu.size:Int):=by omega
  by_cases t2:500<xt.size
  ·have i2:(500:Int)<(xt.size:Int):=by omega
   have HQ:Hid (q=true):=by show _=_;rw[Hq.out];exact decide_eq_true (Or.inr (Or.inr (Or.inl t2)))
   clear t0 t1 t2
   go_wp2_with fail
   go_meet;exact⟨by rw[HQ.out],Below.refl _ _⟩
  have i2:¬(500:Int)<(xt.size:Int):=by omega
  by_cases t3:500<xc.size
  ·have i3:(500:Int)<(xc.size:Int):=by omega
   have HQ:Hid (q=true):=by show _=_;rw[Hq.out];exact decide_eq_true (Or.inr (Or.inr (Or.inr (Or.inl t3))))
   clear t0 t1 t2 t3
   go_wp2_with fail
   go_meet;exact⟨by rw[HQ.out],Below.refl _ _⟩
  have i3:¬(500:Int)<(xc.size:Int):=by omega
  by_cases t4:500<xi.size
  ·have i4:(500:Int)<(xi.size:Int):=by omega
   have HQ:Hid (q=true):=by show _=_;rw[Hq.out];exact decide_eq_true (Or.inr (Or.inr (Or.inr (Or.inr (Or.inl t4)))))
   clear t0 t1 t2 t3 t4
   go_wp2_with fail
   go_meet;exact⟨by rw[HQ.out],Below.refl _ _⟩
  have i4:¬(500:Int)<(xi.size:Int):=by omega
  have HQ:Hid (q=gm):=by show _=_;rw[Hq.out];exact abr gm t0 t1 t2 t3 t4
  clear t0 t1 t2 t3 t4
  go_wp2_with fail
  refine cGm.out.mono ?_;rintro e w2 ⟨rfl,az⟩
  go_wp2_with fail
  go_meet;exact⟨by rw[HQ.out],az⟩
 case rest=>
 obtain⟨rfl,LU⟩:=hcut;clear k0 k1 k2 k3 k4 k5 k6 z0 z1 cGm;cases q with
 | true=>
   go_wp2_with fail
   refine(kM.out _ LU).mono ?_;rintro e w5 ⟨rfl,aI⟩
   go_wp2_with fail
   go_ret;exact⟨rfl,ac ku (ac LU aI)⟩
 | false=>
 have Um:=of_decide_eq_false Hq.out.symm;have hn6:n<=6:=by omega
 have Ur:xt.size<=1000000:=by omega
 have JI:xi.size<=100000:=by omega
 have zw:=Ih (hSm.out (by cases gm with|false=>rfl|true=>exact absurd (Or.inr (Or.inr (Or.inr (Or.inr (Or.inr rfl))))) Um));clear Um Hq hSm
 go_wp2_with fail
 go_loopw [7] (fun i wr=>∃j:Nat,j<=n/\i=.int .i64 j/\Hid (∀p∈ps.take j,dO (p.ds.map aD.src))/\Below W0.heap.size W0 wr) (fun i _=>n-(intOf i).toNat)
 case atStart=>exact⟨0,Nat.zero_le _,rfl,Ih (fun p hp=>by cases hp),LU⟩
 case round=>
 clear LU;obtain⟨j,hj,rfl,zr,aK⟩:=hrel;by_cases aV:j<n
 ·have bW:(j:Int)<(n:Int):=by omega
  have tM:(0:Int)<=(j:Int):=by omega
  obtain⟨p,hp⟩:∃p,ps[j]? =some p:=⟨_,List.getElem?_eq_getElem (by rw[<-HN.out];exact aV)⟩;obtain⟨g,off,rfl,mR⟩:=HX.out j p hp;obtain⟨c0,c1,_⟩:=mR.below aK;obtain⟨gq,Wn⟩:∃gq,gq=lR (p.ds.map aD.src):=⟨_,rfl⟩;have Pp:=cGa.out p (List.mem_append_left _ (List.mem_of_getElem? hp)) wr aK;rw[<-Wn]at Pp;have E4:Hid (gq=false->dO (p.ds.map aD.src)):=Ih (fun h=>sL (Wn.symm.trans h));have Lr:=Ih (show ps.take (j+1)=ps.take j++[p] by rw[List.take_add_one,hp];rfl);obtain⟨da,dc,Ma,_⟩:=mR.2.2;obtain⟨pv,ds,rep⟩:=p
  dsimp only at Ma c0 c1
  subst Ma
  dsimp only[aE.val]at Pp
  have Pp:=Ih Pp;clear hp mR Wn
  go_wp2_with fail
  refine Pp.out.mono ?_;rintro e w2 ⟨rfl,az⟩;have ft:=ac aK az;clear c0 c1 Pp;cases gq with
  | true=>
    clear E4
    go_wp2_with fail
    refine(kM.out _ ft).mono ?_;rintro e w3 ⟨rfl,aO⟩
    go_wp2_with fail
    go_ret;exact⟨rfl,ac ku (ac ft aO)⟩
  | false=>
    have P9:Hid (∀p∈ps.take (j+1),dO (p.ds.map aD.src)):=Ih (fun p hp=>by
     rw[Lr.out]at hp;rcases List.mem_append.1 hp with h|h
     ·exact zr.out p h
     ·rw[List.mem_singleton.1 h];exact E4.out rfl)
    clear E4 Lr zr
    go_wp2_with fail
    go_roundw
    case rel=>exact⟨j+1,by omega,by go_num,P9,ft⟩
    case measure=>simp[intOf];omega
 ·have bW:¬(j:Int)<(n:Int):=by omega
  have HA:Hid (∀p∈ps,dO (p.ds.map aD.src)):=Ih (fun p hp=>zr.out p (by rw[List.take_of_length_le (by rw[<-HN.out];omega)];exact hp));have XD:=Ih (cP.out wr aK);clear zr aV cP cGa
  go_wp2_with fail
  refine XD.out.mono ?_;rintro e w1 ⟨v1,u1,rfl,ar,jR,hO⟩;obtain⟨bo,cw,ck,cv,aU,cf,cq,a1,n1,c1,bO,bU,cz,de,rfl,_,_,_,_,_,jR⟩:=jR.letters;clear XD
  go_upto_region 9 with fail
  obtain⟨W1,nD⟩:∃W1,W1=w1.alloc (.cells #[.string bo,.string cw,.string ck,.bool cv,.string aU,.int .i64 cf,.bool cq,.slice a1 n1 c1,.bool bO,.bool bU,.string cz,.string de] 32):=⟨_,rfl⟩;rw[<-nD];have e1:Below w1.heap.size w1 W1:=by rw[nD];exact(Below.refl _ w1).alloc (Nat.le_refl _) _
  have r1:W1.heap[w1.heap.size]? =some (.cells #[.string bo,.string cw,.string ck,.bool cv,.string aU,.int .i64 cf,.bool cq,.slice a1 n1 c1,.bool bO,.bool bU,.string cz,.string de] 32 (0,0)):=by rw[nD];exact ah _ _
  have qN:=jR.below e1;have fk:Below W0.heap.size W0 W1:=ac aK (ac ar e1);have HU:Hid (∀V,Below W1.heap.size W1 V->V.heap[w1.heap.size]? =some (.cells #[.string bo,.string cw,.string ck,.bool cv,.string aU,.int .i64 cf,.bool cq,.slice a1 n1 c1,.bool bO,.bool bU,.string cz,.string de] 32 (0,0))):=Ih (fun V hV=>(hV.block _ (af r1)).trans r1);obtain⟨f,hf⟩:∃f,f=fun p:Lz.kW=>Lz.dH (Lz.gK (fC bi aY)) Lz.aG p.list (bh.src ⟨xk,xn,xa,xu,xt,xc,xi⟩) u1:=⟨_,rfl⟩
  have cA:Hid (∀(v:Value) (ys:List aE) V,Below W1.heap.size W1 V->eW V v ys->(∀p∈ys,dO (p.ds.map aD.src))->ys.length<=100->Calls Tryz.prog 9 #[v,.agg #[.int .i64 xk,.int .i64 xn,.string xa,.string xu,.string xt,.string xc,.string xi],.agg #[.string bo,.string cw,.string ck,.bool cv,.string aU,.int .i64 cf,.bool cq,.slice a1 n1 c1,.bool bO,.bool bU,.string cz,.string de],.int .i64 5] V (QI 5 ⟨xk,xn,xa,xu,xt,xc,xi⟩ (Lz.bt f 0 (ys.map aE.src)) V)):=Ih (fun v ys V hV hp hS hn=>by
   rw[hf];exact B7 bi aY v ys ⟨xk,xn,xa,xu,xt,xc,xi⟩ _ u1 5 V ((HE.out.below fk).below hV) hp hS hn oW Ur JI (qN.below hV) hO.out)
  have Sk:=Ih (cA.out (.slice la n lc) ps W1 (Below.refl _ _) (HL.out _ fk) HA.out (by rw[<-HN.out];omega))
  have pB:Hid (∀p∈ps++[(⟨.slice ma mn mc,LA,mr⟩:aE)],dO (p.ds.map aD.src)):=Ih (fun p hp=>by
   rcases List.mem_append.1 hp with h|h
   ·exact HA.out p h
   ·rw[List.mem_singleton.1 h];exact zw.out)
  have iV:=ac ku fk;obtain⟨k0,k1,k2,k3,k4,k5,k6⟩:=bn (x:=⟨xk,xn,xa,xu,xt,xc,xi⟩) (HI.out W1 fk);obtain⟨y0,y1,y2,y3,y4,y5,y6,y7,y8,y9,qU,qR⟩:=dW (HU.out W1 (Below.refl _ _))
  dsimp only at k0 k1 k2 k3 k4 k5 k6
  clear nD jR qN ar e1 r1 hf hO Ur JI oW zw
  go_wp2_with fail
  refine Sk.out.mono ?_;rintro e w3 ⟨mk,dr,mv1,B1,L2,rfl,g1,g2,g3,aO⟩;clear k0 k1 k2 k3 k4 k5 k6 y0 y1 y2 y3 y4 y5 y6 y7 y8 y9 qU qR Sk
  go_upto_region 10 with fail
  obtain⟨WR,hWR⟩:∃W3,W3=w3.alloc (.cells #[.int .i64 xk,.int .i64 xn,.string xa,.string xu,.string xt,.string xc,.string xi,.int .i64 mk,.string dr] 37):=⟨_,rfl⟩;rw[<-hWR];have e3:Below w3.heap.size w3 WR:=by rw[hWR];exact(Below.refl _ w3).alloc (Nat.le_refl _) _
  have r3:WR.heap[w3.heap.size]? =some (.cells #[.int .i64 xk,.int .i64 xn,.string xa,.string xu,.string xt,.string xc,.string xi,.int .i64 mk,.string dr] 37 (0,0)):=by rw[hWR];exact ah _ _
  have OO:Below W1.heap.size W1 WR:=ac aO e3;have Lx:=ac fk OO;have WC:=ec.at (bH g3 e3);obtain⟨sa1,VT,rfl,_⟩:=id WC;have L6:Hid (∀V,Below WR.heap.size WR V->j8 V (.slice sa1 L2.length VT) L2):=Ih (fun V hV=>WC.below hV);have HR3:Hid (∀V,Below WR.heap.size WR V->V.heap[w3.heap.size]? =some (.cells #[.int .i64 xk,.int .i64 xn,.string xa,.string xu,.string xt,.string xc,.string xi,.int .i64 mk,.string dr] 37 (0,0))):=Ih (fun V hV=>(hV.block _ (af r3)).trans r3);have HL2:Hid (∀V,Below WR.heap.size WR V->eW V (.slice la n lc) ps):=Ih (fun V hV=>HL.out V (ac Lx hV));have ZR:Hid (∀V,Below WR.heap.size WR V->V.heap[w.heap.size]? =some (.cells #[.slice ma mn mc,.bool mr] 25 (0,0))):=Ih (fun V hV=>HM.out V (ac Lx hV));have HI2:Hid (∀V,Below WR.heap.size WR V->V.heap[xb]? =some (.cells #[.int .i64 xk,.int .i64 xn,.string xa,.string xu,.string xt,.string xc,.string xi] 27 (0,0))):=Ih (fun V hV=>HI.out V (ac Lx hV))
  have EW:Hid (∀V,Below WR.heap.size WR V->V.heap[w1.heap.size]? =some (.cells #[.string bo,.string cw,.string ck,.bool cv,.string aU,.int .i64 cf,.bool cq,.slice a1 n1 c1,.bool bO,.bool bU,.string cz,.string de] 32 (0,0))):=Ih (fun V hV=>HU.out V (ac OO hV));have Yx:Hid (∀V,Below WR.heap.size WR V->∀y∈ps++[(⟨.slice ma mn mc,LA,mr⟩:aE)],dx V y.v y.ds):=Ih (fun V hV=>HD.out V (ac Lx hV));have X2:Hid (∀V,Below WR.heap.size WR V->Calls Tryz.prog 7 #[] V (aC true V)):=Ih (fun V hV=>kM.out V (ac Lx hV));have cB:Hid (∀V (v:Value),Below WR.heap.size WR V->eW V v (ps++[(⟨.slice ma mn mc,LA,mr⟩:aE)])->Calls Tryz.prog 9 #[v,.agg #[.int .i64 xk,.int .i64 xn,.string xa,.string xu,.string xt,.string xc,.string xi],.agg #[.string bo,.string cw,.string ck,.bool cv,.string aU,.int .i64 cf,.bool cq,.slice a1 n1 c1,.bool bO,.bool bU,.string cz,.string de],.int .i64 5] V (QI 5 ⟨xk,xn,xa,xu,xt,xc,xi⟩ (Lz.bt f 0 ((ps++[(⟨.slice ma mn mc,LA,mr⟩:aE)]).map aE.src)) V)):=Ih (fun V v hV hp=>cA.out v _ V (ac OO hV) hp pB.out (by rw[List.length_append,<-HN.out];simp;omega))
  have ab3:=ac iV OO;clear hWR e3 r3 aO g3 WC OO Lx HL HM HI HU HD kM cA pB HA fk iV aK
  go_cut [12,13] (fun s t wx=>∃(Ls:Nat) (nv:Value) (L7:Int) (Qi:ByteArray) (B9:Nat) (Pw:List bJ),s=.pointer (some ⟨Ls,0,none⟩)/\t=nv/\wx.heap[Ls]? =some (.cells #[.int .i64 xk,.int .i64 xn,.string xa,.string xu,.string xt,.string xc,.string xi,.int .i64 L7,.string Qi] 37 (0,0))/\Hid ((L7,Qi.data.toList)=Lz.dj (Lz.bt f 0 ((ps++[(⟨.slice ma mn mc,LA,mr⟩:aE)]).map aE.src)))/\Hid (Pw.map bJ.src=(Lz.bt f 0 ((ps++[(⟨.slice ma mn mc,LA,mr⟩:aE)]).map aE.src)).map (sF 5))/\ec wx B9 nv Pw/\Below WR.heap.size WR wx)
  case first=>
   clear g1 g2;refine wp_region_held_drew (S:=fun U=>Below WR.heap.size WR U) (by kernel_rfl) (Below.refl _ WR).drew (fun ae=>?_);generalize WR.drew=V at ae⊢;refine TkD 0 (some 70) (v:=?_) rfl rfl ?_ ?_;rotate_left 2;refine TkD 2 (some 72) (v:=?_) rfl rfl ?_ ?_;rotate_left 2;refine TkD 5 (some 75) (v:=?_) rfl rfl ?_ ?_;rotate_left 2;refine TkD 6 (some 76) (v:=?_) rfl rfl ?_ ?_;rotate_left 2;rotate_left;rotate_left;(·(intro W aM;(try dsimp only at aM);(try simp only[Act.put]);(try simp only[List.setIfInBounds_toArray]);(try simp only[List.set_cons_zero,List.set_cons_succ]);go_simp;try with_reducible rfl));rotate_left;(·(intro W aM;(try dsimp only at aM);have z0:=rowAt (ZR.out W aM) 0 _ rfl;have z1:=rowAt (ZR.out W aM) 1 _ rfl;(try simp only[Act.put]);(try simp only[List.setIfInBounds_toArray]);(try simp only[List.set_cons_zero,List.set_cons_succ]);go_simp;try with_reducible rfl))
   rotate_left;(·(intro W aM;(try dsimp only at aM);obtain⟨k0,k1,k2,k3,k4,k5,k6⟩:=bn (x:=⟨xk,xn,xa,xu,xt,xc,xi⟩) (HI2.out W aM);dsimp only at k0 k1 k2 k3 k4 k5 k6;(try simp only[Act.put]);(try simp only[List.setIfInBounds_toArray]);(try simp only[List.set_cons_zero,List.set_cons_succ]);go_simp;try with_reducible rfl));rotate_left;(·(intro W aM;(try dsimp only at aM);obtain⟨y0,y1,y2,y3,y4,y5,y6,y7,y8,y9,qU,qR⟩:=dW (EW.out W aM);(try simp only[Act.put]);(try simp only[List.setIfInBounds_toArray]);(try simp only[List.set_cons_zero,List.set_cons_succ]);go_simp;try with_reducible rfl))
   (try simp only[Act.put]);(try simp only[List.setIfInBounds_toArray]);(try simp only[List.set_cons_zero,List.set_cons_succ])
   refine wpAnyH_ready (rs:=[1,3,11]) (by decide +kernel) (by simp) ?_;refine AllReadyH.cons rfl (fun K hK=>?_) (AllReadyH.cons rfl (fun K hK=>?_) (AllReadyH.cons rfl (fun K hK=>?_) AllReadyH.nil));rw[if_pos (by rfl)];refine iO (.const (.slice none 0 0)) (.tmp 70) rfl rfl WR.heap.size la n lc ps rfl rfl (HL2.out _ ae) HN.out (by omega) ae.size ?_;intro v5 V9 au hg;have gL:Below V.heap.size V V9:=(Below.refl _ _).grown hg (Nat.le_refl _) (fun k hk=>by cases hk);have aI:=ae.grown hg ae.size (fun k hk=>by cases hk);clear ae hg gL;refine hK.out _ _ aI (fun ae=>?_);clear hK K aI;clear V;obtain⟨V,rfl⟩:∃U,U=V9:=⟨_,rfl⟩
   (try simp only[Act.put]);(try simp only[List.setIfInBounds_toArray]);(try simp only[List.set_cons_zero,List.set_cons_succ])
   rotate_left;go_simp;obtain⟨V9,iX⟩:∃U,U=V.alloc (.cells #[.slice ma mn mc,.bool mr] 25 (0,0)):=⟨_,rfl⟩;rw[<-iX];have gL:Below V.heap.size V V9:=by rw[iX];exact(Below.refl _ _).alloc (Nat.le_refl _) _
   have aI:Below WR.heap.size WR V9:=by rw[iX];exact ae.alloc ae.size _
   have yu:V9.heap[V.heap.size]? =some (.cells #[.slice ma mn mc,.bool mr] 25 (0,0)):=by rw[iX];exact ah _ _
   clear ae iX gL;refine hK.out _ _ aI (fun ae=>?_);clear hK K aI
   (try simp only[Act.put]);(try simp only[List.setIfInBounds_toArray]);(try simp only[List.set_cons_zero,List.set_cons_succ])
   obtain⟨g6,qQ⟩:∃z,z=V.heap.size:=⟨_,rfl⟩;rw[<-qQ]at yu⊢;clear qQ;clear V;obtain⟨V,rfl⟩:∃U,U=V9:=⟨_,rfl⟩;rotate_left;go_simp;obtain⟨V9,iX⟩:∃U,U=V.alloc (.cells ks 37 (0,0)):=⟨_,rfl⟩;rw[<-iX];have gL:Below V.heap.size V V9:=by rw[iX];exact(Below.refl _ _).alloc (Nat.le_refl _) _
   have aI:Below WR.heap.size WR V9:=by rw[iX];exact ae.alloc ae.size _
   have vt:WR.heap.size<=V.heap.size:=ae.size;have jd:V9.heap[V.heap.size]? =some (.cells ks 37 (0,0)):=by rw[iX];exact ah _ _
   clear ae iX gL;refine hK.out _ _ aI (fun ae=>?_);clear hK K aI
   (try simp only[Act.put]);(try simp only[List.setIfInBounds_toArray]);(try simp only[List.set_cons_zero,List.set_cons_succ])
   obtain⟨Ls,qQ⟩:∃z,z=V.heap.size:=⟨_,rfl⟩;rw[<-qQ]at jd vt⊢;clear qQ;clear V;obtain⟨V,rfl⟩:∃U,U=V9:=⟨_,rfl⟩;rotate_left
   all_goals first
    | (refine wpAnyH_ready (rs:=[3,11]) (by decide +kernel) (by simp) ?_
       refine AllReadyH.cons rfl (fun K hK=>?_) (AllReadyH.cons rfl (fun K hK=>?_) AllReadyH.nil);go_simp;obtain⟨V9,iX⟩:∃U,U=V.alloc (.cells #[.slice ma mn mc,.bool mr] 25 (0,0)):=⟨_,rfl⟩;rw[<-iX];have gL:Below V.heap.size V V9:=by rw[iX];exact(Below.refl _ _).alloc (Nat.le_refl _) _
       have aI:Below WR.heap.size WR V9:=by rw[iX];exact ae.alloc ae.size _
       replace au:=eT.below au gL;have yu:V9.heap[V.heap.size]? =some (.cells #[.slice ma mn mc,.bool mr] 25 (0,0)):=by rw[iX];exact ah _ _
       clear ae iX gL;refine hK.out _ _ aI (fun ae=>?_);clear hK K aI
       (try simp only[Act.put]);(try simp only[List.setIfInBounds_toArray]);(try simp only[List.set_cons_zero,List.set_cons_succ])
       obtain⟨g6,qQ⟩:∃z,z=V.heap.size:=⟨_,rfl⟩;rw[<-qQ]at yu⊢;clear qQ;clear V;obtain⟨V,rfl⟩:∃U,U=V9:=⟨_,rfl⟩;rotate_left;go_simp;obtain⟨V9,iX⟩:∃U,U=V.alloc (.cells ks 37 (0,0)):=⟨_,rfl⟩;rw[<-iX];have gL:Below V.heap.size V V9:=by rw[iX];exact(Below.refl _ _).alloc (Nat.le_refl _) _
       have aI:Below WR.heap.size WR V9:=by rw[iX];exact ae.alloc ae.size _
       have vt:WR.heap.size<=V.heap.size:=ae.size;replace au:=eT.below au gL;have jd:V9.heap[V.heap.size]? =some (.cells ks 37 (0,0)):=by rw[iX];exact ah _ _
       clear ae iX gL;refine hK.out _ _ aI (fun ae=>?_);clear hK K aI
       (try simp only[Act.put]);(try simp only[List.setIfInBounds_toArray]);(try simp only[List.set_cons_zero,List.set_cons_succ])
       obtain⟨Ls,qQ⟩:∃z,z=V.heap.size:=⟨_,rfl⟩;rw[<-qQ]at jd vt⊢;clear qQ;clear V;obtain⟨V,rfl⟩:∃U,U=V9:=⟨_,rfl⟩;rotate_left)
    | skip
   all_goals first
    | (refine wpAnyH_ready (rs:=[1,11]) (by decide +kernel) (by simp) ?_
       refine AllReadyH.cons rfl (fun K hK=>?_) (AllReadyH.cons rfl (fun K hK=>?_) AllReadyH.nil);rw[if_pos (by rfl)];refine iO (.const (.slice none 0 0)) (.tmp 70) rfl rfl WR.heap.size la n lc ps rfl rfl (HL2.out _ ae) HN.out (by omega) ae.size ?_;intro v5 V9 au hg;have gL:Below V.heap.size V V9:=(Below.refl _ _).grown hg (Nat.le_refl _) (fun k hk=>by cases hk);have aI:=ae.grown hg ae.size (fun k hk=>by cases hk);replace yu:=(Below.block gL _ (af yu)).trans yu;clear ae hg gL;refine hK.out _ _ aI (fun ae=>?_);clear hK K aI;clear V;obtain⟨V,rfl⟩:∃U,U=V9:=⟨_,rfl⟩
       (try simp only[Act.put]);(try simp only[List.setIfInBounds_toArray]);(try simp only[List.set_cons_zero,List.set_cons_succ])
       rotate_left;go_simp;obtain⟨V9,iX⟩:∃U,U=V.alloc (.cells ks 37 (0,0)):=⟨_,rfl⟩;rw[<-iX];have gL:Below V.heap.size V V9:=by rw[iX];exact(Below.refl _ _).alloc (Nat.le_refl _) _
       have aI:Below WR.heap.size WR V9:=by rw[iX];exact ae.alloc ae.size _
       have vt:WR.heap.size<=V.heap.size:=ae.size;replace yu:=(Below.block gL _ (af yu)).trans yu;have jd:V9.heap[V.heap.size]? =some (.cells ks 37 (0,0)):=by rw[iX];exact ah _ _
       clear ae iX gL;refine hK.out _ _ aI (fun ae=>?_);clear hK K aI
       (try simp only[Act.put]);(try simp only[List.setIfInBounds_toArray]);(try simp only[List.set_cons_zero,List.set_cons_succ])
       obtain⟨Ls,qQ⟩:∃z,z=V.heap.size:=⟨_,rfl⟩;rw[<-qQ]at jd vt⊢;clear qQ;clear V;obtain⟨V,rfl⟩:∃U,U=V9:=⟨_,rfl⟩;rotate_left)
    | skip
   all_goals first
    | (refine wpAnyH_ready (rs:=[1,3]) (by decide +kernel) (by simp) ?_
       refine AllReadyH.cons rfl (fun K hK=>?_) (AllReadyH.cons rfl (fun K hK=>?_) AllReadyH.nil);rw[if_pos (by rfl)];refine iO (.const (.slice none 0 0)) (.tmp 70) rfl rfl WR.heap.size la n lc ps rfl rfl (HL2.out _ ae) HN.out (by omega) ae.size ?_;intro v5 V9 au hg;have gL:Below V.heap.size V V9:=(Below.refl _ _).grown hg (Nat.le_refl _) (fun k hk=>by cases hk);have aI:=ae.grown hg ae.size (fun k hk=>by cases hk);replace jd:=(Below.block gL _ (af jd)).trans jd;clear ae hg gL;refine hK.out _ _ aI (fun ae=>?_);clear hK K aI;clear V;obtain⟨V,rfl⟩:∃U,U=V9:=⟨_,rfl⟩
       (try simp only[Act.put]);(try simp only[List.setIfInBounds_toArray]);(try simp only[List.set_cons_zero,List.set_cons_succ])
       rotate_left;go_simp;obtain⟨V9,iX⟩:∃U,U=V.alloc (.cells #[.slice ma mn mc,.bool mr] 25 (0,0)):=⟨_,rfl⟩;rw[<-iX];have gL:Below V.heap.size V V9:=by rw[iX];exact(Below.refl _ _).alloc (Nat.le_refl _) _
       have aI:Below WR.heap.size WR V9:=by rw[iX];exact ae.alloc ae.size _
       replace jd:=(Below.block gL _ (af jd)).trans jd;have yu:V9.heap[V.heap.size]? =some (.cells #[.slice ma mn mc,.bool mr] 25 (0,0)):=by rw[iX];exact ah _ _
       clear ae iX gL;refine hK.out _ _ aI (fun ae=>?_);clear hK K aI
       (try simp only[Act.put]);(try simp only[List.setIfInBounds_toArray]);(try simp only[List.set_cons_zero,List.set_cons_succ])
       obtain⟨g6,qQ⟩:∃z,z=V.heap.size:=⟨_,rfl⟩;rw[<-qQ]at yu⊢;clear qQ;clear V;obtain⟨V,rfl⟩:∃U,U=V9:=⟨_,rfl⟩;rotate_left)
    | skip
   all_goals first
    | (refine wpAnyH_ready (rs:=[4,11]) (by decide +kernel) (by simp) ?_
       refine AllReadyH.cons rfl (fun K hK=>?_) (AllReadyH.cons rfl (fun K hK=>?_) AllReadyH.nil);rw[if_pos (by rfl)];refine nG (.tmp 71) (.tmp 73) rfl rfl WR.heap.size v5 ps rfl au g6 1 ⟨.slice ma mn mc,LA,mr⟩ rfl yu rfl (by rw[<-HN.out];omega) ae.size ?_;intro v7 V9 E2 hg;have aI:=ae.grown hg ae.size (fun k hk=>(World.ownsRow.lt au k hk).1);clear ae hg au yu;have au:=E2;clear E2;refine hK.out _ _ aI (fun ae=>?_);clear hK K aI;clear V;obtain⟨V,rfl⟩:∃U,U=V9:=⟨_,rfl⟩
       (try simp only[Act.put]);(try simp only[List.setIfInBounds_toArray]);(try simp only[List.set_cons_zero,List.set_cons_succ])
       rotate_left;go_simp;obtain⟨V9,iX⟩:∃U,U=V.alloc (.cells ks 37 (0,0)):=⟨_,rfl⟩;rw[<-iX];have gL:Below V.heap.size V V9:=by rw[iX];exact(Below.refl _ _).alloc (Nat.le_refl _) _
       have aI:Below WR.heap.size WR V9:=by rw[iX];exact ae.alloc ae.size _
       have vt:WR.heap.size<=V.heap.size:=ae.size;replace au:=eT.below au gL;replace yu:=(Below.block gL _ (af yu)).trans yu;have jd:V9.heap[V.heap.size]? =some (.cells ks 37 (0,0)):=by rw[iX];exact ah _ _
       clear ae iX gL;refine hK.out _ _ aI (fun ae=>?_);clear hK K aI
       (try simp only[Act.put]);(try simp only[List.setIfInBounds_toArray]);(try simp only[List.set_cons_zero,List.set_cons_succ])
       obtain⟨Ls,qQ⟩:∃z,z=V.heap.size:=⟨_,rfl⟩;rw[<-qQ]at jd vt⊢;clear qQ;clear V;obtain⟨V,rfl⟩:∃U,U=V9:=⟨_,rfl⟩;rotate_left)
    | skip
   all_goals first
    | (refine wpAnyH_ready (rs:=[3]) (by decide +kernel) (by simp) ?_
       refine AllReadyH.cons rfl (fun K hK=>?_) AllReadyH.nil;go_simp;obtain⟨V9,iX⟩:∃U,U=V.alloc (.cells #[.slice ma mn mc,.bool mr] 25 (0,0)):=⟨_,rfl⟩;rw[<-iX];have gL:Below V.heap.size V V9:=by rw[iX];exact(Below.refl _ _).alloc (Nat.le_refl _) _
       have aI:Below WR.heap.size WR V9:=by rw[iX];exact ae.alloc ae.size _
       replace au:=eT.below au gL;replace jd:=(Below.block gL _ (af jd)).trans jd;have yu:V9.heap[V.heap.size]? =some (.cells #[.slice ma mn mc,.bool mr] 25 (0,0)):=by rw[iX];exact ah _ _
       clear ae iX gL;refine hK.out _ _ aI (fun ae=>?_);clear hK K aI
       (try simp only[Act.put]);(try simp only[List.setIfInBounds_toArray]);(try simp only[List.set_cons_zero,List.set_cons_succ])
       obtain⟨g6,qQ⟩:∃z,z=V.heap.size:=⟨_,rfl⟩;rw[<-qQ]at yu⊢;clear qQ;clear V;obtain⟨V,rfl⟩:∃U,U=V9:=⟨_,rfl⟩)
    | skip
   all_goals first
    | (refine wpAnyH_ready (rs:=[1]) (by decide +kernel) (by simp) ?_
       refine AllReadyH.cons rfl (fun K hK=>?_) AllReadyH.nil;rw[if_pos (by rfl)];refine iO (.const (.slice none 0 0)) (.tmp 70) rfl rfl WR.heap.size la n lc ps rfl rfl (HL2.out _ ae) HN.out (by omega) ae.size ?_;intro v5 V9 au hg;have gL:Below V.heap.size V V9:=(Below.refl _ _).grown hg (Nat.le_refl _) (fun k hk=>by cases hk);have aI:=ae.grown hg ae.size (fun k hk=>by cases hk);replace yu:=(Below.block gL _ (af yu)).trans yu;replace jd:=(Below.block gL _ (af jd)).trans jd;clear ae hg gL;refine hK.out _ _ aI (fun ae=>?_);clear hK K aI;clear V;obtain⟨V,rfl⟩:∃U,U=V9:=⟨_,rfl⟩
       (try simp only[Act.put]);(try simp only[List.setIfInBounds_toArray]);(try simp only[List.set_cons_zero,List.set_cons_succ]))
    | skip
   all_goals first
    | (refine wpAnyH_ready (rs:=[7,11]) (by decide +kernel) (by simp) ?_
       refine AllReadyH.cons rfl (fun K hK=>?_) (AllReadyH.cons rfl (fun K hK=>?_) AllReadyH.nil);go_simp
       go_at_call 9
       refine(cB.out _ v7 ae (eT.at au (fun y hy=>Yx.out _ ae y hy))).mono ?_;rintro e V9 ⟨L7,Qi,nv,B9,Pw,rfl,g1,g2,g3,pM⟩;have aI:=ac ae pM;clear ae;have hvo:=g3;clear g3 pM au;refine hK.out _ _ aI (fun ae=>?_);clear hK K aI;clear V;obtain⟨V,rfl⟩:∃U,U=V9:=⟨_,rfl⟩
       (try simp only);(try simp only[List.setIfInBounds_toArray]);(try simp only[List.set_cons_zero,List.set_cons_succ])
       focus (refine TkD 8 (some 69) (v:=?_) rfl rfl ?_ ?_;rotate_left 2;refine TkD 9 (some 78) (v:=?_) rfl rfl ?_ ?_;rotate_left 2;refine TkD 10 (some 79) (v:=?_) rfl rfl ?_ ?_;rotate_left 2;rotate_left;iterate 3 (rotate_left;(·(intro W aM;(try dsimp only at aM);(try simp only[Act.put]);(try simp only[List.setIfInBounds_toArray]);(try simp only[List.set_cons_zero,List.set_cons_succ]);go_simp;try with_reducible rfl))))
       (try simp only[Act.put]);(try simp only[List.setIfInBounds_toArray]);(try simp only[List.set_cons_zero,List.set_cons_succ])
       rotate_left;go_simp;obtain⟨V9,iX⟩:∃U,U=V.alloc (.cells ks 37 (0,0)):=⟨_,rfl⟩;rw[<-iX];have gL:Below V.heap.size V V9:=by rw[iX];exact(Below.refl _ _).alloc (Nat.le_refl _) _
       have aI:Below WR.heap.size WR V9:=by rw[iX];exact ae.alloc ae.size _
       have vt:WR.heap.size<=V.heap.size:=ae.size;replace au:=eT.below au gL;have jd:V9.heap[V.heap.size]? =some (.cells ks 37 (0,0)):=by rw[iX];exact ah _ _
       clear ae iX gL;refine hK.out _ _ aI (fun ae=>?_);clear hK K aI
       (try simp only[Act.put]);(try simp only[List.setIfInBounds_toArray]);(try simp only[List.set_cons_zero,List.set_cons_succ])
       obtain⟨Ls,qQ⟩:∃z,z=V.heap.size:=⟨_,rfl⟩;rw[<-qQ]at jd vt⊢;clear qQ;clear V;obtain⟨V,rfl⟩:∃U,U=V9:=⟨_,rfl⟩;rotate_left)
    | skip
   all_goals first
    | (refine wpAnyH_ready (rs:=[4]) (by decide +kernel) (by simp) ?_
       refine AllReadyH.cons rfl (fun K hK=>?_) AllReadyH.nil;rw[if_pos (by rfl)];refine nG (.tmp 71) (.tmp 73) rfl rfl WR.heap.size v5 ps rfl au g6 1 ⟨.slice ma mn mc,LA,mr⟩ rfl yu rfl (by rw[<-HN.out];omega) ae.size ?_;intro v7 V9 E2 hg;have aI:=ae.grown hg ae.size (fun k hk=>(World.ownsRow.lt au k hk).1);replace jd:V9.heap[Ls]? =some (.cells ks 37 (0,0)):=Ep hg au jd (by decide);clear ae hg au yu;have au:=E2;clear E2;refine hK.out _ _ aI (fun ae=>?_);clear hK K aI;clear V;obtain⟨V,rfl⟩:∃U,U=V9:=⟨_,rfl⟩
       (try simp only[Act.put]);(try simp only[List.setIfInBounds_toArray]);(try simp only[List.set_cons_zero,List.set_cons_succ]))
    | skip
   all_goals first
    | (refine wpAnyH_ready (rs:=[11]) (by decide +kernel) (by simp) ?_
       refine AllReadyH.cons rfl (fun K hK=>?_) AllReadyH.nil;go_simp;obtain⟨V9,iX⟩:∃U,U=V.alloc (.cells ks 37 (0,0)):=⟨_,rfl⟩;rw[<-iX];have gL:Below V.heap.size V V9:=by rw[iX];exact(Below.refl _ _).alloc (Nat.le_refl _) _
       have aI:Below WR.heap.size WR V9:=by rw[iX];exact ae.alloc ae.size _
       have vt:WR.heap.size<=V.heap.size:=ae.size;replace hvo:=ec.below hvo gL;have jd:V9.heap[V.heap.size]? =some (.cells ks 37 (0,0)):=by rw[iX];exact ah _ _
       clear ae iX gL;refine hK.out _ _ aI (fun ae=>?_);clear hK K aI
       (try simp only[Act.put]);(try simp only[List.setIfInBounds_toArray]);(try simp only[List.set_cons_zero,List.set_cons_succ])
       obtain⟨Ls,qQ⟩:∃z,z=V.heap.size:=⟨_,rfl⟩;rw[<-qQ]at jd vt⊢;clear qQ;clear V;obtain⟨V,rfl⟩:∃U,U=V9:=⟨_,rfl⟩)
    | skip
   all_goals first
    | (refine wpAnyH_ready (rs:=[7]) (by decide +kernel) (by simp) ?_
       refine AllReadyH.cons rfl (fun K hK=>?_) AllReadyH.nil;go_simp
       go_at_call 9
       refine(cB.out _ v7 ae (eT.at au (fun y hy=>Yx.out _ ae y hy))).mono ?_;rintro e V9 ⟨L7,Qi,nv,B9,Pw,rfl,g1,g2,g3,pM⟩;have aI:=ac ae pM;clear ae;replace jd:=(pM.block _ (af jd)).trans jd;have hvo:=g3;clear g3 pM au;refine hK.out _ _ aI (fun ae=>?_);clear hK K aI;clear V;obtain⟨V,rfl⟩:∃U,U=V9:=⟨_,rfl⟩
       (try simp only);(try simp only[List.setIfInBounds_toArray]);(try simp only[List.set_cons_zero,List.set_cons_succ])
       focus (refine TkD 8 (some 69) (v:=?_) rfl rfl ?_ ?_;rotate_left 2;refine TkD 9 (some 78) (v:=?_) rfl rfl ?_ ?_;rotate_left 2;refine TkD 10 (some 79) (v:=?_) rfl rfl ?_ ?_;rotate_left 2;rotate_left;iterate 3 (rotate_left;(·(intro W aM;(try dsimp only at aM);(try simp only[Act.put]);(try simp only[List.setIfInBounds_toArray]);(try simp only[List.set_cons_zero,List.set_cons_succ]);go_simp;try with_reducible rfl))))
       (try simp only[Act.put]);(try simp only[List.setIfInBounds_toArray]);(try simp only[List.set_cons_zero,List.set_cons_succ]))
    | skip
   all_goals (
    refine wpAnyH_ready (rs:=[12]) (by kernel_rfl) (by simp) ?_;refine AllReadyH.cons rfl (fun K hK=>?_) AllReadyH.nil;rw[if_pos (by rfl)];refine wp_store_row 37 (.tmp 12) (.tmp 78) rfl Ls #[.int .i64 xk,.int .i64 xn,.string xa,.string xu,.string xt,.string xc,.string xi,.int .i64 L7,.string Qi] rfl rfl 37 _ jd xI rfl (by simp[Value.oneCell']) ?_;have lj:=setRow_heap (hg:=jd) (cs:= #[.int .i64 xk,.int .i64 xn,.string xa,.string xu,.string xt,.string xc,.string xi,.int .i64 L7,.string Qi]);have hvn:=DE hvo jd #[.int .i64 xk,.int .i64 xn,.string xa,.string xu,.string xt,.string xc,.string xi,.int .i64 L7,.string Qi];refine hK.out _ _ (aH ae vt) (fun ae=>?_);clear hK K
    (try simp only[Act.put]);(try simp only[List.setIfInBounds_toArray]);(try simp only[List.set_cons_zero,List.set_cons_succ])
    refine TkD 13 (some 13) (v:=?_) rfl rfl ?_ ?_;rotate_left 2;rotate_left;rotate_left;(·(intro W aM;(try dsimp only at aM);(try simp only[Act.put]);(try simp only[List.setIfInBounds_toArray]);(try simp only[List.set_cons_zero,List.set_cons_succ]);go_simp;try with_reducible rfl))
    (try simp only[Act.put]);(try simp only[List.setIfInBounds_toArray]);(try simp only[List.set_cons_zero,List.set_cons_succ])
    refine wpAnyH_done (by kernel_rfl) ?_ _
    go_wp2_with fail
    go_meet;exact⟨Ls,nv,L7,Qi,B9,Pw,rfl,rfl,lj,g1,g2,hvn,ae⟩)
  case rest=>
  obtain⟨Ls,nv,L7,Qi,B9,Pw,rfl,rfl,XV,h1,h2,h3,lW⟩:=hcut;have Xp:=ec.at h3;obtain⟨sa2,gG,rfl,_⟩:=id Xp;have Cz:=HR3.out wc lW;have uL:=L6.out wc lW;obtain⟨t,ZB,ht2⟩:=Lz.JM f (ps.map aE.src) (aE.src ⟨.slice ma mn mc,LA,mr⟩);have tJ:(ps++[(⟨.slice ma mn mc,LA,mr⟩:aE)]).map aE.src=ps.map aE.src++[aE.src ⟨.slice ma mn mc,LA,mr⟩]:=by rw[List.map_append];rfl
  rw[tJ]at h1 h2;have Xl:Pw.map bJ.src=L2.map bJ.src++t.map (sF 5):=by rw[h2.out,ZB,List.map_append,<-g2.out]
  have ba:Pw.length=L2.length+t.length:=by
   have:=congrArg List.length Xl;simpa using this
  have Cj:L2.length<=6:=by
   have:=congrArg List.length g2.out;rw[List.length_map,List.length_map]at this;have h6:=Lz.tQ f (ps.map aE.src) 0;rw[List.length_map,<-HN.out]at h6;omega
  have cV:Hid (∀V,Below wc.heap.size wc V->Calls Tryz.prog 10 #[.slice sa2 L2.length gG,.slice sa1 L2.length VT] V (aC true V)):=Ih (fun V hV=>by
   have h:=kY _ _ (Pw.take L2.length) L2 V (KG (Xp.below hV) (by omega)) (uL.below hV) (by rw[List.length_take];omega);rw[show Li (Pw.take L2.length) L2=true from decide_eq_true (by rw[List.map_take,Xl,List.take_append_of_le_length (by simp),List.take_of_length_le (by simp)])]at h;exact h)
  have JC:Hid ((mk=2/\L7=2/\Qi=dr)\/(mk≠2/\(mr=true->L7≠2))):=Ih (by
   by_cases h:mk=2
   ·have e:=Lz.FG f (ps.map aE.src) (aE.src ⟨.slice ma mn mc,LA,mr⟩) (by rw[<-g1.out];exact h);rw[<-h1.out,<-g1.out]at e;obtain⟨ea,eb⟩:=Prod.mk.inj e;exact Or.inl ⟨h,ea.trans h,kR eb⟩
   ·refine Or.inr ⟨h,fun hr=>?_⟩;have e:=Lz.K9 f (ps.map aE.src) (aE.src ⟨.slice ma mn mc,LA,mr⟩) hr (by rw[<-g1.out];exact h);rw[<-h1.out]at e;exact e)
  obtain⟨N2,Qa⟩:∃z,z=Pw.length:=⟨_,rfl⟩;obtain⟨N1,hN1⟩:∃z,z=L2.length:=⟨_,rfl⟩;rw[<-Qa,<-hN1]at ba;rw[<-hN1]at cV Cj;rw[<-hN1,<-Qa];have i1:(N1:Int)<=(N2:Int):=by omega
  have i2:(N2:Int)<=(N1:Int)+1:=by omega
  have i3:N1<=gG:=by
   rcases h3.2 with⟨e,h0⟩|⟨g,cap,dB,e,_,_,hn,_⟩
   ·injection e with _ e1 e2;omega
   ·injection e with _ e1 e2;omega
  have kM2:=Ih (fun V (hV:Below wc.heap.size wc V)=>X2.out V (ac lW hV));have ab5:=ac ab3 lW;have z0:=rowAt (ZR.out wc lW) 0 _ rfl;have z1:=rowAt (ZR.out wc lW) 1 _ rfl;have a1':=rowAt Cz 7 _ rfl;have a2':=rowAt Cz 8 _ rfl;have b1':=rowAt XV 7 _ rfl;have b2':=rowAt XV 8 _ rfl;clear Cz XV uL Xp h3 h1 h2 g1 g2 ZB ht2 tJ Xl ba hN1 Qa HR3 L6 ZR HL2 HI2 EW Yx X2 cB
  go_upto_region 11 with fail
  go_cut [116] (fun s wx=>s=.bool false/\wc=wx)
  case first=>
   rcases JC.out with⟨rfl,rfl,rfl⟩|⟨h5,h6⟩
   ·clear JC;cases mr
    ·go_wp2_with fail
     go_meet;exact⟨rfl,rfl⟩
    ·go_wp2_with fail
     go_meet;exact⟨rfl,rfl⟩
   ·have m1:(mk==2)=false:=beq_eq_false_iff_ne.2 h5;clear JC h5;cases mr with
    | false=>
      clear h6
      go_wp2_with fail
      go_meet;exact⟨rfl,rfl⟩
    | true=>
      have m2:(L7==2)=false:=beq_eq_false_iff_ne.2 (h6 rfl);clear h6
      go_wp2_with fail
      go_meet;exact⟨rfl,rfl⟩
  case rest=>
  obtain⟨rfl,rfl⟩:=hcut;clear z0 z1 a1' a2' b1' b2' JC
  go_wp2_with fail
  refine(cV.out _ (Below.refl _ _)).mono ?_;rintro e w4 ⟨rfl,dy⟩
  go_wp2_with fail
  refine(kM2.out _ dy).mono ?_;rintro e w5 ⟨rfl,aI⟩
  go_wp2_with fail
  go_ret;exact⟨rfl,ac ab5 (ac dy aI)⟩
end Go.Proofs.YtecoeebjaleeiaaGreatDoor
