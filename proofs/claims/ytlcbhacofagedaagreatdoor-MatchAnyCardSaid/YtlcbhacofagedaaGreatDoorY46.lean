/-
  lazaretref26.self.
-/
import Derived.Test.YtlcbhacofagedaaGreatDoorY33
import Derived.Test.YtlcbhacofagedaaGreatDoorY45
set_option maxHeartbeats 8000000
set_option maxRecDepth 100000
namespace Go.Proofs.YtlcbhacofagedaaGreatDoor
open Go.RowKit
attribute [local go_sem ↓] Go.wp_at_zero Go.wp_at_succ
theorem EA (v:Value) (u:Lz.af) (v2:Value) (own:Lz.af) (w:World) (hE:jL w) (hv:bz w v u) (hU:UOk u) (gQ:bz w v2 own) (hO:UOk own):Calls Tryz.prog 44 #[v,v2] w (cn (Lz.oa u own) w):=by
 obtain⟨aS,bW,bF,bG,bn,bA,bL,a1,n1,c1,bB,bK,bX,bY,rfl,e0,e3,e4,e5,_,hv⟩:=hv.letters;obtain⟨eL,gX,gV,fV,eA,gh,gZ,a2,n2,c2,bV,fW,gW,gY,rfl,f0,f3,f4,f5,_,gQ⟩:=gQ.letters;obtain⟨R,hR⟩:∃R,R=Lz.oa u own:=⟨_,rfl⟩;rw[<-hR];obtain⟨q,hq⟩:∃q,q=(Lz.bT own != Lz.gN&&Lz.bT own==Lz.bT u):=⟨_,rfl⟩;obtain⟨al,jQ⟩:∃al,al=Lz.uq u own:=⟨_,rfl⟩;obtain⟨sf,Pt⟩:∃sf,sf=Lz.uk u own:=⟨_,rfl⟩;obtain⟨d1,xd⟩:∃d,d=Lz.dr aS.data.toList:=⟨_,rfl⟩;obtain⟨d2,It⟩:∃d,d=Lz.dr eL.data.toList:=⟨_,rfl⟩;obtain⟨g1,DP⟩:∃d,d=Lz.kv u:=⟨_,rfl⟩;obtain⟨g2,wZ⟩:∃d,d=Lz.kv own:=⟨_,rfl⟩;obtain⟨b1,aC⟩:∃b,b=(aS.toList==[104,116,116,112,115]):=⟨_,rfl⟩;obtain⟨b2,aU⟩:∃b,b=(aS.toList==[119,115,115]):=⟨_,rfl⟩;obtain⟨b3,cq⟩:∃b,b=(eL.toList==[104,116,116,112]):=⟨_,rfl⟩;obtain⟨b4,ex⟩:∃b,b=(aS.toList==[119,115]):=⟨_,rfl⟩;obtain⟨b5,dB⟩:∃b,b=(bn.toList==eA.toList):=⟨_,rfl⟩;have bl:∀(s:ByteArray) (k:List UInt8),(s.data.toList==k)=(s.toList==k):=fun s k=>by rw[Lib.toList_data]
 have HR:Hid (R=(q||(bG&&(fV&&(b5&&(al&&sf)))))):=by
  show _=_;rw[hR,hq,jQ,Pt,dB];unfold Lz.oa;rw[e3,f3,e4,f4,Lib.toList_data,Lib.toList_data]
 have HS:Hid (sf=(b1||(b2||(b3&&b4)))):=by
  show _=_;rw[Pt,aC,aU,cq,ex];unfold Lz.uk;rw[e0,f0,bl,bl,bl,bl];rfl
 have HA:Hid (al=((bA==gh)||((g1==d1)&&(g2==d2)))):=by
  show _=_;rw[jQ,DP,wZ,xd,It];unfold Lz.uq;rw[e5,f5,e0,f0]
 have HB:Hid ((aS.toList==[104,116,116,112,115])=b1/\(aS.toList==[119,115,115])=b2/\(eL.toList==[104,116,116,112])=b3/\(aS.toList==[119,115])=b4/\(bn.toList==eA.toList)=b5):=Ih ⟨aC.symm,aU.symm,cq.symm,ex.symm,dB.symm⟩;obtain⟨W,hW⟩:∃W,W=(w.alloc (.cells (C12 aS bW bF bG bn bA bL a1 n1 c1 bB bK bX bY) 26)).alloc (.cells (C12 eL gX gV fV eA gh gZ a2 n2 c2 bV fW gW gY) 26):=⟨_,rfl⟩;have bg:Below w.heap.size w W:=by rw[hW];exact((Below.refl _ w).alloc (Nat.le_refl _) _).alloc (by simp) _
 have ko:W.heap[w.heap.size]? =some (.cells (C12 aS bW bF bG bn bA bL a1 n1 c1 bB bK bX bY) 26 (0,0)):=by
  rw[hW,Below.heap_alloc _ _ _ (by simp)];exact aK _ _
 have td:W.heap[w.heap.size+1]? =some (.cells (C12 eL gX gV fV eA gh gZ a2 n2 c2 bV fW gW gY) 26 (0,0)):=by rw[hW];exact gr _ _ _
 have HW:=Ih hW;have yE:=hv.below bg;have qD:=gQ.below bg;have lY:=hE.below bg;have ZK:Hid (∀V,Below W.heap.size W V->Calls Tryz.prog 77 #[.agg (C12 aS bW bF bG bn bA bL a1 n1 c1 bB bK bX bY)] V fun e w'=>∃tp:ByteArray,e=.returned (.string tp)/\Hid (tp.data.toList=Lz.bT u)/\Below W.heap.size W w'):=Ih (fun V hV=>(pB _ u V (yE.below hV) (lY.below hV) hU.orig).mono fun e w' ⟨tp,h1,h2,h3⟩=>⟨tp,h1,h2,hV.trans (h3.mono hV.size)⟩);have cO2:Hid (∀V,Below W.heap.size W V->Calls Tryz.prog 77 #[.agg (C12 eL gX gV fV eA gh gZ a2 n2 c2 bV fW gW gY)] V fun e w'=>∃tp:ByteArray,e=.returned (.string tp)/\Hid (tp.data.toList=Lz.bT own)/\Below W.heap.size W w'):=Ih (fun V hV=>(pB _ own V (qD.below hV) (lY.below hV) hO.orig).mono fun e w' ⟨tp,h1,h2,h3⟩=>⟨tp,h1,h2,hV.trans (h3.mono hV.size)⟩);have Wo:Hid (∀V,Below W.heap.size W V->Calls Tryz.prog 48 #[.agg (C12 aS bW bF bG bn bA bL a1 n1 c1 bB bK bX bY)] V fun e w'=>e=.returned (.int .i64 g1)/\Below W.heap.size W w'):=Ih (fun V hV=>(qV _ u V (yE.below hV)).mono fun e w' ⟨h1,h2⟩=>⟨by rw[h1,DP],hV.trans (h2.mono hV.size)⟩)
 have RW:Hid (∀V,Below W.heap.size W V->Calls Tryz.prog 48 #[.agg (C12 eL gX gV fV eA gh gZ a2 n2 c2 bV fW gW gY)] V fun e w'=>e=.returned (.int .i64 g2)/\Below W.heap.size W w'):=Ih (fun V hV=>(qV _ own V (qD.below hV)).mono fun e w' ⟨h1,h2⟩=>⟨by rw[h1,wZ],hV.trans (h2.mono hV.size)⟩);have cD1:Hid (∀V,Below W.heap.size W V->Calls Tryz.prog 47 #[.string aS] V fun e w'=>e=.returned (.int .i64 d1)/\Below W.heap.size W w'):=Ih (fun V hV=>(dR aS V).mono fun e w' ⟨h1,h2⟩=>⟨by rw[h1,xd],h2▸hV⟩);have cD2:Hid (∀V,Below W.heap.size W V->Calls Tryz.prog 47 #[.string eL] V fun e w'=>e=.returned (.int .i64 d2)/\Below W.heap.size W w'):=Ih (fun V hV=>(dR eL V).mono fun e w' ⟨h1,h2⟩=>⟨by rw[h1,It],h2▸hV⟩);have hC:Hid (∀V,Below W.heap.size W V->S12 V (w.heap.size) aS bW bF bG bn bA bL a1 n1 c1 bB bK bX bY/\S12 V (w.heap.size+1) eL gX gV fV eA gh gZ a2 n2 c2 bV fW gW gY):=Ih (fun V hV=>⟨fO ((hV.block _ (aI ko)).trans ko),fO ((hV.block _ (aI td)).trans td)⟩);have qI:Below W.heap.size W W:=Below.refl _ _;have Hq:=Ih hq
 clear hR hW hq jQ Pt xd It DP wZ aC aU cq ex dB bl e0 e3 e4 e5 f0 f3 f4 f5 hv gQ yE qD lY hE ko td hU hO;go_enter Tryz.func44,Tryz.ntmps44
 go_upto_region 1 with fail
 rw[<-HW.out]
 go_cut [5] (fun s wx=>∃tp:ByteArray,s=.string tp/\Hid (tp.data.toList=Lz.bT own)/\Below W.heap.size W wx)
 case first=>
  obtain⟨⟨x0,x1,x2,x3,x4,x5,x6,x7,x8,x9,rH,rC⟩,y0,y1,y2,y3,y4,y5,y6,y7,y8,y9,wT,xb⟩:=hC.out _ qI
  go_wp2_with fail
  refine(cO2.out _ qI).mono ?_;rintro e w5 ⟨tp,rfl,wU,l4⟩
  go_wp2_with fail
  go_meet;exact⟨tp,rfl,wU,l4⟩
 case rest=>
 obtain⟨tp,rfl,wU,KH⟩:=hcut
 go_upto_region 2 with fail
 go_cut [15] (fun s wx=>s=.bool q/\Below W.heap.size W wx)
 case first=>
  obtain⟨⟨x0,x1,x2,x3,x4,x5,x6,x7,x8,x9,rH,rC⟩,y0,y1,y2,y3,y4,y5,y6,y7,y8,y9,wT,xb⟩:=hC.out _ KH;by_cases hn:tp.data.toList=[110,117,108,108]
  ·have t1:=aH hn;have HQ:Hid (q=false):=by show _=_;rw[Hq.out,<-wU.out,hn];rfl
   clear hn
   go_wp2_with fail
   go_meet;exact⟨by rw[HQ.out],KH⟩
  ·have t1:=aR hn
   have HN:Hid ((tp.data.toList != Lz.gN)=true):=by
    show(!(tp.data.toList==[110,117,108,108]))=true;rw[beq_eq_false_iff_ne.2 hn];rfl
   clear hn
   go_wp2_with fail
   refine(ZK.out _ KH).mono ?_;rintro e w5 ⟨tq,rfl,htq,l4⟩;have AA:=gw tq tp
   have HQ:Hid (q=(tq.toList==tp.toList)):=by
    show _=_;rw[Hq.out,<-wU.out,HN.out,<-htq.out,Bool.true_and,Lib.toList_data,Lib.toList_data];exact BEq.comm
   clear AA
   go_wp2_with fail
   go_meet;exact⟨by rw[HQ.out],l4⟩
 case rest=>
 obtain⟨rfl,Lh⟩:=hcut;clear KH wU;cases q with
 | true=>
   have HV:Hid (R=true):=by show _=_;rw[HR.out];rfl
   go_wp2_with fail
   go_ret;exact⟨by rw[HV.out];rfl,bg.trans (Lh.mono bg.size)⟩
 | false=>
 have ZX:Hid (R=(bG&&(fV&&(b5&&(al&&sf))))):=by show _=_;rw[HR.out,Bool.false_or]
 obtain⟨nb,xe⟩:∃nb,nb= !(bG&&(fV&&b5)):=⟨_,rfl⟩;have DQ:=Ih xe;clear HR Hq xe
 go_upto_region 4 with fail
 go_cut [30] (fun s wx=>s=.bool nb/\Below W.heap.size W wx)
 case first=>
  obtain⟨⟨x0,x1,x2,x3,x4,x5,x6,x7,x8,x9,rH,rC⟩,y0,y1,y2,y3,y4,y5,y6,y7,y8,y9,wT,xb⟩:=hC.out _ Lh;obtain⟨m1,m2,m3,m4,m5⟩:=HB.out;clear HB ZX m1 m2 m3 m4 HA HS;cases bG with
  | false=>
    go_wp2_with fail
    go_meet;exact⟨by rw[DQ.out];rfl,Lh⟩
  | true=>
  cases fV with
  | false=>
    go_wp2_with fail
    go_meet;exact⟨by rw[DQ.out];rfl,Lh⟩
  | true=>
  have m6:(bn.toList != eA.toList)= !b5:=by rw[bne,m5]
  have iF:Hid (nb= !b5):=by show _=_;rw[DQ.out];rfl
  go_wp2_with fail
  go_meet;exact⟨by rw[iF.out],Lh⟩
 case rest=>
 obtain⟨rfl,Pv⟩:=hcut;clear Lh;cases nb with
 | true=>
   have HV:Hid (R=false):=by
    show _=_;have h1:=DQ.out;have h2:=ZX.out
    revert h1 h2
    cases bG<;>cases fV<;>cases b5<;>simp
   clear ZX DQ
   go_wp2_with fail
   go_ret;exact⟨by rw[HV.out];rfl,bg.trans (Pv.mono bg.size)⟩
 | false=>
 have xc:Hid (R=(al&&sf)):=by
  show _=_;have h1:=DQ.out;have h2:=ZX.out
  revert h1 h2
  cases bG<;>cases fV<;>cases b5<;>simp
 obtain⟨na,hna⟩:∃na,na= !al:=⟨_,rfl⟩;have Py:=Ih hna;clear ZX DQ hna;have fG:Below W.heap.size W wc.drew:=Pv.drew
 go_upto_region 6 with fail
 go_cut [51] (fun s wx=>s=.bool na/\Below W.heap.size W wx)
 case first=>
  clear xc HB HS;cases h1:(bA != gh)with
  | false=>
    have HV:Hid (na=false):=by show _=_;rw[Py.out,HA.out,show(bA==gh)=true by simpa [bne]using h1];rfl
    clear HA Py;refine wp_region_held_drew (S:=fun V=>(S12 V (w.heap.size) aS bW bF bG bn bA bL a1 n1 c1 bB bK bX bY/\S12 V (w.heap.size+1) eL gX gV fV eA gh gZ a2 n2 c2 bV fW gW gY)/\Below W.heap.size W V) (by kernel_rfl) ⟨hC.out _ fG,fG⟩ (fun ar=>?_);refine TkM 0 31 ?_;refine TkM 1 32 ?_;refine TkM 2 33 ?_;refine TkM 3 34 ?_;refine TkM 4 35 ?_;refine TkM 5 36 ?_;refine TnJ 6 37 ?_;refine TnJ 7 38 ?_;refine TnJ 8 39 ?_;refine TnJ 9 40 ?_;refine TnJ 10 41 ?_;refine TnJ 11 42 ?_;refine TnJ 12 43 ?_;refine TnJ 13 44 ?_;refine TnJ 14 45 ?_;refine TnJ 15 46 ?_;refine TnJ 16 47 ?_;refine TnJ 17 48 ?_;refine TnJ 18 49 ?_;refine TnJ 19 50 ?_;refine TkM 20 51 ?_;refine wpAnyH_done (by kernel_rfl) ?_ _
    go_wp2_with fail
    go_meet;exact⟨by rw[HV.out],ar.2⟩
  | true=>
    have An:(bA==gh)=false:=by simpa [bne]using h1
    cases h2:(g1 != d1)with
    | true=>
      have HV:Hid (na=true):=by show _=_;rw[Py.out,HA.out,An,show(g1==d1)=false by simpa [bne]using h2];rfl
      clear HA Py An;refine wp_region_held_drew (S:=fun V=>(S12 V (w.heap.size) aS bW bF bG bn bA bL a1 n1 c1 bB bK bX bY/\S12 V (w.heap.size+1) eL gX gV fV eA gh gZ a2 n2 c2 bV fW gW gY)/\Below W.heap.size W V) (by kernel_rfl) ⟨hC.out _ fG,fG⟩ (fun ar=>?_);refine TkM 0 31 ?_;refine TkM 1 32 ?_;refine TkM 2 33 ?_;refine TkM 3 34 ?_;refine TkM 4 35 ?_;refine TkM 5 36 ?_;refine TkM 6 37 ?_;refine TkM 8 39 ?_;refine TkM 9 40 ?_;refine CkM 7 38 (cS Wo hC) (fun V hV=>?_);refine CkM 10 41 (cS cD1 hC) (fun V hV=>?_);refine TkM 11 42 ?_;refine TkM 12 43 ?_;refine TnJ 13 44 ?_;refine TnJ 14 45 ?_;refine TnJ 15 46 ?_;refine TnJ 16 47 ?_;refine TnJ 17 48 ?_;refine TnJ 18 49 ?_;refine TkM 19 50 ?_;refine TkM 20 51 ?_;refine wpAnyH_done (by kernel_rfl) ?_ _
      go_wp2_with fail
      go_meet;exact⟨by rw[HV.out],hV.2⟩
    | false=>
      have HV:Hid (na=(g2 != d2)):=by show _=_;rw[Py.out,HA.out,An,show(g1==d1)=true by simpa [bne]using h2];rfl
      clear HA Py An;refine wp_region_held_drew (S:=fun V=>(S12 V (w.heap.size) aS bW bF bG bn bA bL a1 n1 c1 bB bK bX bY/\S12 V (w.heap.size+1) eL gX gV fV eA gh gZ a2 n2 c2 bV fW gW gY)/\Below W.heap.size W V) (by kernel_rfl) ⟨hC.out _ fG,fG⟩ (fun ar=>?_);refine TkM 0 31 ?_;refine TkM 1 32 ?_;refine TkM 2 33 ?_;refine TkM 3 34 ?_;refine TkM 4 35 ?_;refine TkM 5 36 ?_;refine TkM 6 37 ?_;refine TkM 8 39 ?_;refine TkM 9 40 ?_;refine CkM 7 38 (cS Wo hC) (fun V hV=>?_);refine CkM 10 41 (cS cD1 hC) (fun V hV=>?_);refine TkM 11 42 ?_;refine TkM 12 43 ?_;refine TkM 13 44 ?_;refine TkM 15 46 ?_;refine TkM 16 47 ?_;refine CkM 14 45 (cS RW hC) (fun V hV=>?_);refine CkM 17 48 (cS cD2 hC) (fun V hV=>?_);refine TkM 18 49 ?_;refine TkM 19 50 ?_;refine TkM 20 51 ?_;refine wpAnyH_done (by kernel_rfl) ?_ _
      go_wp2_with fail
      go_meet;exact⟨by rw[HV.out],hV.2⟩
 case rest=>
 obtain⟨rfl,KF⟩:=hcut;clear Pv fG HA;cases na with
 | true=>
   have HV:Hid (R=false):=by
    show _=_;have h1:=Py.out;have h2:=xc.out
    revert h1 h2
    cases al<;>simp
   clear xc Py
   go_wp2_with fail
   go_ret;exact⟨by rw[HV.out];rfl,bg.trans (KF.mono bg.size)⟩
 | false=>
 have sZ:Hid (R=(b1||(b2||(b3&&b4)))):=by
  show _=_;have h1:=Py.out;have h2:=xc.out;rw[HS.out]at h2
  revert h1 h2
  cases al<;>simp
 clear xc Py HS;obtain⟨⟨x0,x1,x2,x3,x4,x5,x6,x7,x8,x9,rH,rC⟩,y0,y1,y2,y3,y4,y5,y6,y7,y8,y9,wT,xb⟩:=hC.out _ KF;obtain⟨m1,m2,m3,m4,m5⟩:=HB.out;clear HB m5;cases b1 with
 | true=>
   go_wp2_with fail
   go_ret;exact⟨by rw[sZ.out];rfl,bg.trans (KF.mono bg.size)⟩
 | false=>
 cases b2 with
 | true=>
   go_wp2_with fail
   go_ret;exact⟨by rw[sZ.out];rfl,bg.trans (KF.mono bg.size)⟩
 | false=>
 cases b4 with
 | false=>
   go_wp2_with fail
   go_ret;exact⟨by rw[sZ.out];cases b3<;>rfl,bg.trans (KF.mono bg.size)⟩
 | true=>
   go_wp2_with fail
   go_ret;exact⟨by rw[sZ.out];cases b3<;>rfl,bg.trans (KF.mono bg.size)⟩
end Go.Proofs.YtlcbhacofagedaaGreatDoor
