/-
  lazaretlaw31.JudgeEach.
-/
import Derived.Test.YtecoeebjaleeiaaGreatDoorJ45
set_option maxHeartbeats 4000000
set_option maxRecDepth 100000
namespace Go.Proofs.YtecoeebjaleeiaaGreatDoor
open Go.RowKit
attribute [local go_sem ↓] Go.wp_at_zero Go.wp_at_succ
theorem za {V':World} {B:Nat} {ov':Value} {vs:List bJ} {y:bJ} (au:V'.ownsRow B 46 4 ov' (vs.length+1) (vs.flatMap bJ.row++bJ.row y)):ec V' B ov' (vs++[y]):=by
 unfold ec;rw[List.length_append,List.flatMap_append];simpa using au
theorem RI (a b:Int) (c d e f g:ByteArray) (m:Int) (h:ByteArray) (W:World):(Op.equalIn 10000 37 (.agg #[.int .i64 a,.int .i64 b,.string c,.string d,.string e,.string f,.string g,.int .i64 m,.string h]) (.agg #[.int .i64 a,.int .i64 b,.string c,.string d,.string e,.string f,.string g,.int .i64 m,.string h])).run Tryz.prog W=.ok true W:=by
 go_simp
theorem yP {bi:List UInt32} {aY:List UInt64} (lv:Value) (ps:List aE) (x:bh) (w:World) (hl:eW w lv ps) (oW:Ik x.kind) (hE:mG bi aY w):Calls Tryz.prog 4 #[lv,x.val] w (aC true w):=by
 obtain⟨i0,hi,fI,ei,eM⟩:=info_parts I0;obtain⟨W0,Ii⟩:∃W0,W0=w.alloc (.cells x.row 27):=⟨_,rfl⟩;have ku:Below w.heap.size w W0:=by rw[Ii];exact(Below.refl _ w).alloc (Nat.le_refl _) _
 have qV:W0.heap[w.heap.size]? =some (.cells x.row 27 (0,0)):=by rw[Ii];exact ah _ _
 have yB:=hl.below ku;have kM:Hid (∀V,Below W0.heap.size W0 V->Calls Tryz.prog 7 #[] V (aC true V)):=Ih (fun V hV=>oA bi aY V ((hE.below ku).below hV));have cP:=Ih (ns ⟨#[104,116,116,112,115,58,47,47,97,46,98,47]⟩ rfl W0 (hE.below ku).a.m.u);have HE:Hid (mG bi aY W0):=Ih (hE.below ku);have HI:Hid (∀V,Below W0.heap.size W0 V->V.heap[w.heap.size]? =some (.cells x.row 27 (0,0))):=Ih (fun V hV=>(hV.block _ (af qV)).trans qV);have HL:Hid (∀V,Below W0.heap.size W0 V->eW V lv ps):=Ih (fun V hV=>yB.below hV);obtain⟨la,lc,rfl,iB⟩:=id yB;obtain⟨n,Fa⟩:∃n,n=ps.length:=⟨_,rfl⟩;rw[<-Fa]at HL⊢;have HN:=Ih Fa;have HX:=Ih iB;obtain⟨xk,xn,xa,xu,xt,xc,xi⟩:=x;obtain⟨k0,k1,k2,k3,k4,k5,k6⟩:=bn qV;obtain⟨q,hq⟩:∃q,q=decide (6<n\/500<xu.size\/500<xt.size\/500<xc.size\/500<xi.size):=⟨_,rfl⟩;have Hq:=Ih hq;have HW0:=Ih Ii
 dsimp only[bh.val,bh.row]at *
 clear Ii qV hl yB iB Fa hE hq;go_enter Tryz.func4,Tryz.ntmps4
 go_upto_region 1 with fail
 rw[<-HW0.out]
 go_cut [41] (fun s wx=>s=.bool q/\W0=wx)
 case first=>
  by_cases t0:6<n
  ·have i0:(6:Int)<(n:Int):=by omega
   have HQ:Hid (q=true):=by show _=_;rw[Hq.out];exact decide_eq_true (Or.inl t0)
   clear t0
   go_wp2_with fail
   go_meet;exact⟨by rw[HQ.out],rfl⟩
  have i0:¬(6:Int)<(n:Int):=by omega
  by_cases t1:500<xu.size
  ·have i1:(500:Int)<(xu.size:Int):=by omega
   have HQ:Hid (q=true):=by show _=_;rw[Hq.out];exact decide_eq_true (Or.inr (Or.inl t1))
   clear t0 t1
   go_wp2_with fail
   go_meet;exact⟨by rw[HQ.out],rfl⟩
  have i1:¬(500:Int)<(xu.size:Int):=by omega
  by_cases t2:500<xt.size
  ·have i2:(500:Int)<(xt.size:Int):=by omega
   have HQ:Hid (q=true):=by show _=_;rw[Hq.out];exact decide_eq_true (Or.inr (Or.inr (Or.inl t2)))
   clear t0 t1 t2
   go_wp2_with fail
   go_meet;exact⟨by rw[HQ.out],rfl⟩
  have i2:¬(500:Int)<(xt.size:Int):=by omega
  by_cases t3:500<xc.size
  ·have i3:(500:Int)<(xc.size:Int):=by omega
   have HQ:Hid (q=true):=by show _=_;rw[Hq.out];exact decide_eq_true (Or.inr (Or.inr (Or.inr (Or.inl t3))))
   clear t0 t1 t2 t3
   go_wp2_with fail
   go_meet;exact⟨by rw[HQ.out],rfl⟩
  have i3:¬(500:Int)<(xc.size:Int):=by omega
  by_cases t4:500<xi.size
  ·have i4:(500:Int)<(xi.size:Int):=by omega
   have HQ:Hid (q=true):=by show _=_;rw[Hq.out];exact decide_eq_true (Or.inr (Or.inr (Or.inr (Or.inr (t4)))))
   clear t0 t1 t2 t3 t4
   go_wp2_with fail
   go_meet;exact⟨by rw[HQ.out],rfl⟩
  have i4:¬(500:Int)<(xi.size:Int):=by omega
  have HQ:Hid (q=false):=by show _=_;rw[Hq.out];exact decide_eq_false (fun h=>by omega)
  clear t0 t1 t2 t3 t4
  go_wp2_with fail
  go_meet;exact⟨by rw[HQ.out],rfl⟩
 case rest=>
 obtain⟨rfl,rfl⟩:=hcut;clear k0 k1 k2 k3 k4 k5 k6;cases q with
 | true=>
   go_wp2_with fail
   refine(kM.out _ (Below.refl _ _)).mono ?_;rintro e w5 ⟨rfl,aI⟩
   go_wp2_with fail
   go_ret;exact⟨rfl,ac ku aI⟩
 | false=>
 have Um:=of_decide_eq_false Hq.out.symm;have hn6:n<=6:=by omega
 have Ur:xt.size<=1000000:=by omega
 have JI:xi.size<=100000:=by omega
 clear Um Hq
 go_wp2_with fail
 refine cP.out.mono ?_;rintro e w1 ⟨v1,u1,rfl,ar,jR,hO⟩;obtain⟨bo,cw,ck,cv,aU,cf,cq,a1,n1,c1,bO,bU,cz,de,rfl,_,_,_,_,_,jR⟩:=jR.letters;clear cP
 go_upto_region 4 with fail
 obtain⟨W1,nD⟩:∃W1,W1=w1.alloc (.cells #[.string bo,.string cw,.string ck,.bool cv,.string aU,.int .i64 cf,.bool cq,.slice a1 n1 c1,.bool bO,.bool bU,.string cz,.string de] 32):=⟨_,rfl⟩;rw[<-nD];have e1:Below w1.heap.size w1 W1:=by rw[nD];exact(Below.refl _ w1).alloc (Nat.le_refl _) _
 have r1:W1.heap[w1.heap.size]? =some (.cells #[.string bo,.string cw,.string ck,.bool cv,.string aU,.int .i64 cf,.bool cq,.slice a1 n1 c1,.bool bO,.bool bU,.string cz,.string de] 32 (0,0)):=by rw[nD];exact ah _ _
 have qN:=jR.below e1;have fk:=ac ar e1;have HU:Hid (∀V,Below W1.heap.size W1 V->V.heap[w1.heap.size]? =some (.cells #[.string bo,.string cw,.string ck,.bool cv,.string aU,.int .i64 cf,.bool cq,.slice a1 n1 c1,.bool bO,.bool bU,.string cz,.string de] 32 (0,0))):=Ih (fun V hV=>(hV.block _ (af r1)).trans r1);obtain⟨f,hf⟩:∃f,f=fun p:Lz.kW=>Lz.dH (Lz.gK (fC bi aY)) Lz.aG p.list (bh.src ⟨xk,xn,xa,xu,xt,xc,xi⟩) u1:=⟨_,rfl⟩
 have cF:Hid (∀p∈ps,dO (p.ds.map aD.src)->∀V,Below W1.heap.size W1 V->Calls Tryz.prog 11 #[p.val,.agg #[.int .i64 xk,.int .i64 xn,.string xa,.string xu,.string xt,.string xc,.string xi],.agg #[.string bo,.string cw,.string ck,.bool cv,.string aU,.int .i64 cf,.bool cq,.slice a1 n1 c1,.bool bO,.bool bU,.string cz,.string de]] V (BD (f p.src) V)):=Ih (fun p hp hS V hV=>by
  obtain⟨j,hj⟩:=List.getElem?_of_mem hp;obtain⟨g,off,_,mR⟩:=HX.out j p hj;rw[hf];exact sR bi aY p ⟨xk,xn,xa,xu,xt,xc,xi⟩ _ u1 V ((HE.out.below fk).below hV) ((mR.2.2.below fk).below hV) hS oW Ur JI (qN.below hV) hO.out)
 have cA:Hid ((∀p∈ps,dO (p.ds.map aD.src))->∀V,Below W1.heap.size W1 V->Calls Tryz.prog 9 #[.slice la n lc,.agg #[.int .i64 xk,.int .i64 xn,.string xa,.string xu,.string xt,.string xc,.string xi],.agg #[.string bo,.string cw,.string ck,.bool cv,.string aU,.int .i64 cf,.bool cq,.slice a1 n1 c1,.bool bO,.bool bU,.string cz,.string de],.int .i64 9] V (QI 9 ⟨xk,xn,xa,xu,xt,xc,xi⟩ (Lz.bt f 0 (ps.map aE.src)) V)):=Ih (fun hS V hV=>by
  rw[hf];exact B7 bi aY _ ps ⟨xk,xn,xa,xu,xt,xc,xi⟩ _ u1 9 V ((HE.out.below fk).below hV) (HL.out V (ac fk hV)) hS (by rw[<-HN.out];omega) oW Ur JI (qN.below hV) hO.out)
 have cG:Hid (∀p∈ps,∀V,Below W1.heap.size W1 V->Calls Tryz.prog 6 #[p.val] V (aC (lR (p.ds.map aD.src)) V)):=Ih (fun p hp V hV=>by
  obtain⟨j,hj⟩:=List.getElem?_of_mem hp;obtain⟨g,off,_,mR⟩:=HX.out j p hj;exact uG p V ((mR.2.2.below fk).below hV))
 have X2:Hid (∀V,Below W1.heap.size W1 V->Calls Tryz.prog 7 #[] V (aC true V)):=Ih (fun V hV=>kM.out V (ac fk hV));have HI1:Hid (∀V,Below W1.heap.size W1 V->V.heap[w.heap.size]? =some (.cells #[.int .i64 xk,.int .i64 xn,.string xa,.string xu,.string xt,.string xc,.string xi] 27 (0,0))):=Ih (fun V hV=>HI.out V (ac fk hV))
 have XW:Hid (∀(j:Nat) (p:aE),ps[j]? =some p->∃g off,la=some ⟨g,off,none⟩/\p.at' W1 g (off+j*2)):=Ih (fun j p hj=>by
  obtain⟨g,off,e,mR⟩:=HX.out j p hj;exact⟨g,off,e,mR.below fk⟩)
 have iV:=ac ku fk;clear kM HI HL HX HE jR qN e1 r1 ar nD fk ku hf hO Ur JI oW HW0;have HI:=HI1;have HX:=XW;clear HI1 XW;have r7:ec W1 W1.heap.size (.slice none 0 0) []:=World.ownsRow_nil W1 _ _ _
 go_wp2_with fail
 go_loopw [7,8,9,10] (fun o m d i wr=>∃(ov:Value) (j:Nat) (mk:Int) (dr:ByteArray) (vs:List bJ),ov=o/\j<=n/\m=.int .i64 mk/\d=.string dr/\i=.int .i64 j/\vs.length<=j/\Hid ((mk,dr.data.toList)=Lz.dj (Lz.bt f 0 ((ps.map aE.src).take j)))/\Hid (vs.map bJ.src=(Lz.bt f 0 ((ps.map aE.src).take j)).map (sF 9))/\Hid (∀p∈ps.take j,dO (p.ds.map aD.src))/\ec wr W1.heap.size o vs/\Below W1.heap.size W1 wr) (fun _ _ _ i _=>n-(intOf i).toNat)
 case atStart=>exact⟨_,0,1,⟨#[]⟩,[],rfl,Nat.zero_le _,rfl,rfl,rfl,Nat.le_refl _,Ih rfl,Ih rfl,Ih (fun p hp=>by cases hp),r7,Below.refl _ _⟩
 case round=>
 clear r7;obtain⟨ov,j,mk,dr,vs,rfl,hj,rfl,rfl,rfl,hvj,lp,yy,zw,au,aK⟩:=hrel;by_cases aV:j<n
 ·have bW:(j:Int)<(n:Int):=by omega
  have tM:(0:Int)<=(j:Int):=by omega
  obtain⟨p,hp⟩:∃p,ps[j]? =some p:=⟨_,List.getElem?_eq_getElem (by rw[<-HN.out];exact aV)⟩;obtain⟨g,off,rfl,mR⟩:=HX.out j p hp;have OT:Hid (∀V,Below W1.heap.size W1 V->V.cell? ⟨g,off+j*2,none⟩=some p.v/\V.cell? ⟨g,off+j*2+1,none⟩=some (.bool p.rep)):=Ih (fun V hV=>⟨(mR.below hV).1,(mR.below hV).2.1⟩);have Pp:=Ih (cG.out p (List.mem_of_getElem? hp) wr aK);have Zz:=Ih (cF.out p (List.mem_of_getElem? hp));have hst:=Al (f:=f) (l:=ps.map aE.src) (j:=j) (p:=p.src) (by rw[List.getElem?_map,hp];rfl);have gH:ps.take (j+1)=ps.take j++[p]:=by rw[List.take_add_one,hp];rfl
  obtain⟨fo,Xr⟩:∃fo,fo=f p.src:=⟨_,rfl⟩;obtain⟨gq,Wn⟩:∃gq,gq=lR (p.ds.map aD.src):=⟨_,rfl⟩;rw[<-Xr]at Zz hst;rw[<-Wn]at Pp;rw[show p.src.rep=p.rep from rfl]at hst;have Z3:gq=false->dO (p.ds.map aD.src):=fun h=>sL (Wn.symm.trans h);obtain⟨c0,c1⟩:=OT.out wr aK;obtain⟨da,dc,Ma,_⟩:=mR.2.2;obtain⟨pv,ds,rep⟩:=p
  dsimp only at Ma c0 c1 OT
  subst Ma
  dsimp only[aE.val]at Zz Pp
  have gM:=Ih hst;have E4:=Ih Z3;have Lr:=Ih gH;have ew:=Ih au;clear hp mR hst Xr Wn Z3 gH au
  go_wp2_with fail
  refine Pp.out.mono ?_;rintro e w2 ⟨rfl,az⟩;have ft:=ac aK az;clear c0 c1 Pp;cases gq with
  | true=>
    have kM2:=Ih (X2.out w2 ft);clear Zz E4 gM lp yy zw
    go_wp2_with fail
    refine kM2.out.mono ?_;rintro e w3 ⟨rfl,aO⟩
    go_wp2_with fail
    go_ret;exact⟨rfl,ac iV (ac ft aO)⟩
  | false=>
  have WX:=Ih (Zz.out (E4.out rfl))
  have P9:Hid (∀p∈ps.take (j+1),dO (p.ds.map aD.src)):=Ih (fun p hp=>by
   rw[Lr.out]at hp;rcases List.mem_append.1 hp with h|h
   ·exact zw.out p h
   ·rw[List.mem_singleton.1 h];exact E4.out rfl)
  have fM:=Ih (bH ew.out az);obtain⟨c0,c1⟩:=OT.out w2 ft;clear Zz E4 Lr zw ew az
  go_upto_region 13 with fail
  refine wp_region_held_drew (S:=fun U=>Below w2.heap.size w2 U) (by kernel_rfl) (Below.refl _ w2).drew (fun ae=>?_);generalize w2.drew=W9 at ae⊢;refine TkD 0 (some 62) (v:=?_) rfl rfl ?_ ?_;rotate_left 2;refine TkD 1 (some 63) (v:=?_) rfl rfl ?_ ?_;rotate_left 2;refine TkD 2 (some 64) (v:=?_) rfl rfl ?_ ?_;rotate_left 2;refine TkD 3 (some 65) (v:=?_) rfl rfl ?_ ?_;rotate_left 2;refine TkD 4 (some 66) (v:=?_) rfl rfl ?_ ?_;rotate_left 2;refine TkD 5 (some 67) (v:=?_) rfl rfl ?_ ?_;rotate_left 2;rotate_left
  iterate 3 (rotate_left;(·(intro W aM;(try dsimp only at aM);(try simp only[Act.put]);(try simp only[List.setIfInBounds_toArray]);(try simp only[List.set_cons_zero,List.set_cons_succ]);go_simp;try with_reducible rfl)))
  rotate_left;(·(intro W aM;(try dsimp only at aM);have q0:=(aM.cell (World.block_lt_of_cell? _ _ c0)).trans c0;have q1:=(aM.cell (World.block_lt_of_cell? _ _ c1)).trans c1;(try simp only[Act.put]);(try simp only[List.setIfInBounds_toArray]);(try simp only[List.set_cons_zero,List.set_cons_succ]);go_simp;try with_reducible rfl));rotate_left;(·(intro W aM;(try dsimp only at aM);obtain⟨k0,k1,k2,k3,k4,k5,k6⟩:=bn (x:=⟨xk,xn,xa,xu,xt,xc,xi⟩) (HI.out W (ac ft aM));dsimp only at k0 k1 k2 k3 k4 k5 k6;(try simp only[Act.put]);(try simp only[List.setIfInBounds_toArray]);(try simp only[List.set_cons_zero,List.set_cons_succ]);go_simp;try with_reducible rfl));rotate_left;(·(intro W aM;(try dsimp only at aM);obtain⟨y0,y1,y2,y3,y4,y5,y6,y7,y8,y9,qU,qR⟩:=dW (HU.out W (ac ft aM));(try simp only[Act.put]);(try simp only[List.setIfInBounds_toArray]);(try simp only[List.set_cons_zero,List.set_cons_succ]);go_simp;try with_reducible rfl))
  (try simp only[Act.put]);(try simp only[List.setIfInBounds_toArray]);(try simp only[List.set_cons_zero,List.set_cons_succ])
  refine wpAnyH_ready (rs:=[6]) (by kernel_rfl) (by simp) ?_;refine AllReadyH.cons rfl (fun K hK=>?_) AllReadyH.nil;go_simp
  go_at_call 11
  refine(WX.out W9 (ac ft ae)).mono ?_;rintro e w8 ⟨nm,rfl,qO,pM⟩;refine hK.out _ _ (ac ae pM) (fun ae=>?_);clear hK K pM
  (try simp only[Act.put]);(try simp only[List.setIfInBounds_toArray]);(try simp only[List.set_cons_zero,List.set_cons_succ])
  refine TkD 7 (some 61) (v:=?_) rfl rfl ?_ ?_;rotate_left 2;refine TkD 8 (some 69) (v:=?_) rfl rfl ?_ ?_;rotate_left 2;refine TkD 9 (some 70) (v:=?_) rfl rfl ?_ ?_;rotate_left 2;refine TkD 10 (some 11) (v:=?_) rfl rfl ?_ ?_;rotate_left 2;refine TkD 11 (some 12) (v:=?_) rfl rfl ?_ ?_;rotate_left 2;rotate_left
  iterate 5 (rotate_left;(·(intro W aM;(try dsimp only at aM);(try simp only[Act.put]);(try simp only[List.setIfInBounds_toArray]);(try simp only[List.set_cons_zero,List.set_cons_succ]);go_simp;try with_reducible rfl)))
  (try simp only[Act.put]);(try simp only[List.setIfInBounds_toArray]);(try simp only[List.set_cons_zero,List.set_cons_succ])
  refine wpAnyH_done (by kernel_rfl) ?_ _;have E9:=ac ft ae;have AP:=Ih (bH fM.out ae);clear c0 c1 WX ae fM;obtain⟨c0,c1⟩:=OT.out w8 E9;cases fo with
  | none=>
    obtain rfl:nm=⟨#[]⟩:=kR qO.out;have zv:Hid ((mk,dr.data.toList)=Lz.dj (Lz.bt f 0 ((ps.map aE.src).take (j+1)))):=Ih (by rw[gM.out,List.append_nil];exact lp.out);have pB:Hid (vs.map bJ.src=(Lz.bt f 0 ((ps.map aE.src).take (j+1))).map (sF 9)):=Ih (by rw[gM.out,List.append_nil];exact yy.out);have hb:(none:Option (List UInt8)).isSome=false:=rfl;clear gM lp yy qO
    go_wp2_with fail
    go_roundw
    case rel=>exact⟨_,j+1,mk,dr,vs,rfl,by omega,rfl,rfl,by go_num,by omega,zv,pB,P9,AP.out,E9⟩
    case measure=>simp[intOf];omega
  | some d=>
    have PR:Hid (nm.data.toList=d):=qO;have hb:(some d:Option (List UInt8)).isSome=true:=rfl;obtain⟨y,hy⟩:∃y:bJ,y=⟨9,(j:Int),nm,rep⟩:=⟨_,rfl⟩;have dV:Hid (bJ.row y=[.int .i64 9,.int .i64 j,.string nm,.bool rep]):=Ih (by rw[hy];rfl);have pB:Hid ((vs++[y]).map bJ.src=(Lz.bt f 0 ((ps.map aE.src).take (j+1))).map (sF 9)):=Ih (by rw[gM.out,List.map_append,List.map_append,yy.out,hy];simp only[List.map_cons,List.map_nil,bJ.src,sF,PR.out]);have zv:Hid (Lz.dj (Lz.bt f 0 ((ps.map aE.src).take (j+1)))=if rep=false/\mk≠2 then(2,nm.data.toList)else if rep=true/\mk=1 then(3,dr.data.toList)else(mk,dr.data.toList)):=Ih (by rw[gM.out,PR.out];show Lz.dj (_++[_])=_;rw[Lz.mV,<-lp.out];rfl);have PK:W1.heap.size<=w8.heap.size:=E9.size;clear hy gM lp yy qO
    go_wp2_with (at_builtin;refine wpList_append_own _ rfl (.tmp 75) (.tmp 84) 38 rfl W1.heap.size 46 i0 (.agg #[.int .i64 0,.int .i64 0,.string ⟨#[]⟩,.bool false]) 4 40 Tryz.underlying38 hi fI ei eM rfl (by decide) _ _ _ rfl (World.ownsRow.alloc AP.out _) ⟨w8.heap.size,0,none⟩ 1 1 (bJ.row y) rfl (by rw[dV.out];rfl) (by rw[dV.out];exact mC _ _ _) (by rw[dV.out];simp[Value.oneCell']) (by unfold maxLen;omega) (by omega) (by simp;omega) ?_)
    intro v5 w5 eL LX _;have Jw:=Ih (za eL);have In:=Below.grown1 E9 AP.out LX PK (Nat.le_refl _);have q1:=(OT.out w5 In).2;have Jy:(vs++[y]).length<=j+1:=by rw[List.length_append];simp;omega
    clear eL LX AP c0 c1;cases rep with
    | false=>
      by_cases h2:mk=2
      ·have b2:(mk != 2)=false:=by rw[h2];rfl
       have b1:(mk==1)=false:=by rw[h2];rfl
       have HM:Hid ((mk,dr.data.toList)=Lz.dj (Lz.bt f 0 ((ps.map aE.src).take (j+1)))):=Ih (by rw[zv.out,if_neg (fun h=>h.2 h2),if_neg (fun h=>by cases h.1)]);clear h2 zv
       go_wp2_with fail
       go_roundw
       case rel=>exact⟨_,j+1,mk,dr,vs++[y],rfl,by omega,rfl,rfl,by go_num,Jy,HM,pB,P9,Jw.out,In⟩
       case measure=>simp[intOf];omega
      ·have b2:(mk != 2)=true:=bne_iff_ne.2 h2;have HM:Hid ((2,nm.data.toList)=Lz.dj (Lz.bt f 0 ((ps.map aE.src).take (j+1)))):=Ih (by rw[zv.out,if_pos ⟨rfl,h2⟩]);clear h2 zv
       go_wp2_with fail
       go_roundw
       case rel=>exact⟨_,j+1,2,nm,vs++[y],rfl,by omega,rfl,rfl,by go_num,Jy,HM,pB,P9,Jw.out,In⟩
       case measure=>simp[intOf];omega
    | true=>
      by_cases h1:mk=1
      ·have b1:(mk==1)=true:=by rw[h1];rfl
       have HM:Hid ((3,dr.data.toList)=Lz.dj (Lz.bt f 0 ((ps.map aE.src).take (j+1)))):=Ih (by rw[zv.out,if_neg (fun h=>by cases h.1),if_pos ⟨rfl,h1⟩]);clear h1 zv
       go_wp2_with fail
       go_roundw
       case rel=>exact⟨_,j+1,3,dr,vs++[y],rfl,by omega,rfl,rfl,by go_num,Jy,HM,pB,P9,Jw.out,In⟩
       case measure=>simp[intOf];omega
      ·have b1:(mk==1)=false:=beq_eq_false_iff_ne.2 h1;have HM:Hid ((mk,dr.data.toList)=Lz.dj (Lz.bt f 0 ((ps.map aE.src).take (j+1)))):=Ih (by rw[zv.out,if_neg (fun h=>by cases h.1),if_neg (fun h=>h1 h.2)]);clear h1 zv
       go_wp2_with fail
       go_roundw
       case rel=>exact⟨_,j+1,mk,dr,vs++[y],rfl,by omega,rfl,rfl,by go_num,Jy,HM,pB,P9,Jw.out,In⟩
       case measure=>simp[intOf];omega
 ·have bW:¬(j:Int)<(n:Int):=by omega
  have Fx:ps.take j=ps:=List.take_of_length_le (by rw[<-HN.out];omega);have hjm:(ps.map aE.src).take j=ps.map aE.src:=List.take_of_length_le (by rw[List.length_map,<-HN.out];omega);have HM:=lp.out;have HS:=yy.out;have HA:=zw.out;rw[hjm]at HM HS;rw[Fx]at HA;have Sk:=Ih (cA.out HA wr aK);have HM:=Ih HM;have HS:=Ih HS;have ew:=Ih au;have Iw:vs.length<=6:=by omega
  obtain⟨k0,k1,k2,k3,k4,k5,k6⟩:=bn (x:=⟨xk,xn,xa,xu,xt,xc,xi⟩) (HI.out wr aK);obtain⟨y0,y1,y2,y3,y4,y5,y6,y7,y8,y9,qU,qR⟩:=dW (HU.out wr aK)
  dsimp only at k0 k1 k2 k3 k4 k5 k6
  clear lp yy zw au HA Fx hjm HX cA cF cG
  go_wp2_with fail
  refine Sk.out.mono ?_;rintro e w3 ⟨mk',dr',ov',B',vs',rfl,g1,g2,g3,aO⟩;obtain⟨e1,e2⟩:=Prod.mk.inj (g1.out.trans HM.out.symm);obtain rfl:=e1;obtain rfl:=kR e2;have Xl:vs'.map bJ.src=vs.map bJ.src:=g2.out.trans HS.out.symm
  have aav:vs'.length<=1000:=by
   have:=congrArg List.length Xl;rw[List.length_map,List.length_map]at this;omega
  have X4:=g3.at;have hvb:=(ec.at ew.out).below aO;have jc:=ac aK aO;clear k0 k1 k2 k3 k4 k5 k6 y0 y1 y2 y3 y4 y5 y6 y7 y8 y9 qU qR g1 g2 g3 HM HS ew e2 Sk
  go_upto_region 23 with fail
  obtain⟨W3,R9⟩:∃W3,W3=w3.alloc (.cells #[.int .i64 xk,.int .i64 xn,.string xa,.string xu,.string xt,.string xc,.string xi,.int .i64 mk',.string dr'] 37):=⟨_,rfl⟩;rw[<-R9];have e3:Below w3.heap.size w3 W3:=by rw[R9];exact(Below.refl _ w3).alloc (Nat.le_refl _) _
  have r3:W3.heap[w3.heap.size]? =some (.cells #[.int .i64 xk,.int .i64 xn,.string xa,.string xu,.string xt,.string xc,.string xi,.int .i64 mk',.string dr'] 37 (0,0)):=by rw[R9];exact ah _ _
  have cV:Hid (Calls Tryz.prog 10 #[ov',ov] W3 (aC true W3)):=by
   have h:=kY _ _ vs' vs W3 (X4.below e3) (hvb.below e3) aav;rw[show Li vs' vs=true from decide_eq_true Xl]at h;exact Ih h
  have acq:=ac jc e3;obtain⟨sa1,VT,rfl,_⟩:=X4;obtain⟨sa2,ade,rfl,_⟩:=hvb;have HR3:Hid (∀V,Below W3.heap.size W3 V->V.heap[w3.heap.size]? =some (.cells #[.int .i64 xk,.int .i64 xn,.string xa,.string xu,.string xt,.string xc,.string xi,.int .i64 mk',.string dr'] 37 (0,0))):=Ih (fun V hV=>(hV.block _ (af r3)).trans r3);have hEq:=RI xk xn xa xu xt xc xi mk' dr';have hgu:Tryz.prog.eqGuardType Tryz.prog.depth 37=false:=by kernel_rfl
  clear Xl R9 e3 r3 aO Iw aav
  go_wp2_with fail
  refine cV.out.mono ?_;rintro e w4 ⟨rfl,dy⟩;have zt:=ac acq dy;obtain⟨k0,k1,k2,k3,k4,k5,k6⟩:=bn (x:=⟨xk,xn,xa,xu,xt,xc,xi⟩) (HI.out w4 zt);have r4:=HR3.out w4 dy;obtain⟨m0,m1,m2,m3,m4,m5,m6,m7,m8⟩:_/\_/\_/\_/\_/\_/\_/\_/\_:=⟨rowAt r4 0 _ rfl,rowAt r4 1 _ rfl,rowAt r4 2 _ rfl,rowAt r4 3 _ rfl,rowAt r4 4 _ rfl,rowAt r4 5 _ rfl,rowAt r4 6 _ rfl,rowAt r4 7 _ rfl,rowAt r4 8 _ rfl⟩;have kM4:=Ih (X2.out w4 zt)
  dsimp only at k0 k1 k2 k3 k4 k5 k6
  clear r4 HR3 cV X2
  go_wp2_with fail
  refine kM4.out.mono ?_;rintro e w5 ⟨rfl,aI⟩
  go_wp2_with fail
  go_ret;exact⟨rfl,ac iV (ac zt aI)⟩
end Go.Proofs.YtecoeebjaleeiaaGreatDoor
