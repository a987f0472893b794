/-
  lazaretlaw26: holds.
-/
import Derived.Test.YtlcbhacofagedaaGreatDoorY26
import Derived.Test.YtlcbhacofagedaaGreatDoorY31
import Derived.Test.YtlcbhacofagedaaGreatDoorY32
set_option maxHeartbeats 8000000
set_option maxRecDepth 100000
namespace Go.Proofs.YtlcbhacofagedaaGreatDoor
open Go.RowKit
attribute [local go_sem ↓] Go.wp_at_zero Go.wp_at_succ
theorem yx {V:World} {r:Nat} {x0 x1 x2 x3 x4 x5 x6 x7:Value} {t:TypeId} {fr:Nat×Nat} (h:V.heap[r]? =some (.cells #[x0,x1,x2,x3,x4,x5,x6,x7] t fr)):V.cell? ⟨r,0,none⟩=some x0/\V.cell? ⟨r,1,none⟩=some x1/\V.cell? ⟨r,2,none⟩=some x2/\V.cell? ⟨r,3,none⟩=some x3/\V.cell? ⟨r,4,none⟩=some x4/\V.cell? ⟨r,5,none⟩=some x5/\V.cell? ⟨r,6,none⟩=some x6/\V.cell? ⟨r,7,none⟩=some x7:=
 ⟨rowAt h 0 x0 rfl,rowAt h 1 x1 rfl,rowAt h 2 x2 rfl,rowAt h 3 x3 rfl,rowAt h 4 x4 rfl,rowAt h 5 x5 rfl,rowAt h 6 x6 rfl,rowAt h 7 x7 rfl⟩
structure SOk (x:aq):Prop where
 scheme:x.scheme.size<=1000000
 host:x.host.size<=90000
 path:x.path.size<=1000000
theorem Fw {u:Lz.af} (h:UOk u):(Lz.ew u).length<=1000000:=by
 have h1:=h.wq;have h2:(slS u.path).length=Lz.pl u.path:=rfl;unfold Lz.wq Lz.wt at h1;unfold Lz.ew;split
 ·rename_i ho;obtain⟨_,p,hp,_⟩:=h.nu.opaqueN ho;have h3:Lz.pl u.path=p.length+1:=by rw[hp];exact Lz.zM p
  have h4:u.path.flatten=p:=by rw[hp];simp
  rw[h4];omega
 ·show(slS u.path).length<=_;omega
theorem A3 {u:Lz.af} (h:UOk u):u.host.length<=100000:=by
 have h1:=h.wq;unfold Lz.wq Lz.wt at h1;omega
theorem zD (v:Value) (u:Lz.af) (x:aq) (v2:Value) (own:Lz.af) (red:Bool) (w:World) (hE:mh w) (hv:bz w v u) (hU:UOk u) (hX:SOk x) (gQ:bz w v2 own) (hO:own.scheme.length<=1000000):Calls Tryz.prog 42 #[v,x.val,v2,.bool red] w (cn (Lz.j0 u x.src own red) w):=by
 obtain⟨aS,bW,bF,bG,bn,bA,bL,a1,n1,c1,bB,bK,bX,bY,rfl,e0,e3,e4,e5,_,hv⟩:=hv.letters;obtain⟨eL,gX,gV,fV,eA,gh,gZ,a2,n2,c2,bV,fW,gW,gY,rfl,f0,_,_,_,_,gQ⟩:=gQ.letters;obtain⟨k,t,b,sc,ho,wd,po,pa⟩:=x;obtain⟨R,hR⟩:∃R,R=Lz.j0 u (aq.src ⟨k,t,b,sc,ho,wd,po,pa⟩) own red:=⟨_,rfl⟩;rw[<-hR];obtain⟨sm,AA⟩:∃sm:ByteArray,sm=if sc.size=0 then eL else sc:=⟨_,rfl⟩
 have Z4:sm.size<=1000000000:=by
  rw[AA];split
  ·rw[<-aa,<-f0];omega
  ·have:=hX.scheme;show sc.size<=_;have h2:sc.size<=1000000:=this;omega
 obtain⟨q3,pf⟩:∃q3,q3=Lz.eo sm.data.toList aS.data.toList:=⟨_,rfl⟩;obtain⟨q4,FW⟩:∃q4,q4=Lz.rX (aq.src ⟨k,t,b,sc,ho,wd,po,pa⟩) bn.data.toList:=⟨_,rfl⟩;obtain⟨q5,XA⟩:∃q5,q5=Lz.tN (aq.src ⟨k,t,b,sc,ho,wd,po,pa⟩) u:=⟨_,rfl⟩;obtain⟨q6,hq6⟩:∃q6,q6=Lz.mj pa.data.toList (Lz.ew u):=⟨_,rfl⟩
 have HR:Hid (R=(bG&&((bn.data.toList != [])&&(q3&&(q4&&(q5&&(red||q6))))))):=by
  show _=_
  have hs:(if(aq.src ⟨k,t,b,sc,ho,wd,po,pa⟩).scheme=[]then own.scheme else(aq.src ⟨k,t,b,sc,ho,wd,po,pa⟩).scheme)=sm.data.toList:=by
   show(if sc.data.toList=[]then own.scheme else sc.data.toList)=_;rw[AA,f0];by_cases h:sc.size=0
   ·rw[if_pos h,if_pos (List.length_eq_zero_iff.1 (by rw[aa];exact h))]
   ·rw[if_neg h,if_neg (fun e=>h (by rw[<-aa,e];rfl))]
  rw[hR,pf,FW,XA,hq6];unfold Lz.j0;rw[hs,e0,e3,e4];rfl
 dsimp only[aq.val]
 obtain⟨W,hW⟩:∃W,W=((w.alloc (.cells (C12 aS bW bF bG bn bA bL a1 n1 c1 bB bK bX bY) 26)).alloc (.cells #[.int .i64 k,.string t,.int .i64 b,.string sc,.string ho,.bool wd,.int .i64 po,.string pa] 41)).alloc (.cells (C12 eL gX gV fV eA gh gZ a2 n2 c2 bV fW gW gY) 26):=⟨_,rfl⟩;have bg:Below w.heap.size w W:=by rw[hW];exact(((Below.refl _ w).alloc (Nat.le_refl _) _).alloc (by simp) _).alloc (by simp;omega) _
 have ko:W.heap[w.heap.size]? =some (.cells (C12 aS bW bF bG bn bA bL a1 n1 c1 bB bK bX bY) 26 (0,0)):=by
  rw[hW,Below.heap_alloc _ _ _ (by simp;omega),Below.heap_alloc _ _ _ (by simp)];exact aK _ _
 have sU:W.heap[w.heap.size+1]? =some (.cells #[.int .i64 k,.string t,.int .i64 b,.string sc,.string ho,.bool wd,.int .i64 po,.string pa] 41 (0,0)):=by
  rw[hW,Below.heap_alloc _ _ _ (by simp)];exact gr _ _ _
 have td:W.heap[w.heap.size+2]? =some (.cells (C12 eL gX gV fV eA gh gZ a2 n2 c2 bV fW gW gY) 26 (0,0)):=by
  rw[hW];have:=aK ((w.alloc (.cells (C12 aS bW bF bG bn bA bL a1 n1 c1 bB bK bX bY) 26)).alloc (.cells #[.int .i64 k,.string t,.int .i64 b,.string sc,.string ho,.bool wd,.int .i64 po,.string pa] 41)) (.cells (C12 eL gX gV fV eA gh gZ a2 n2 c2 bV fW gW gY) 26);simpa using this
 have s3:=rowAt sU 3 (.string sc) rfl;have o0:=rowAt td 0 (.string eL) rfl;have HW:=Ih hW;have yE:=hv.below bg;have lY:=hE.below bg;have hhs:bn.size<=100000:=by rw[<-aa,<-e4];exact A3 hU
 have cA:Hid (∀V,Below W.heap.size W V->Calls Tryz.prog 39 #[.string sm,.string aS] V fun e w'=>e=.returned (.bool q3)/\Below W.heap.size W w'):=Ih (fun V hV=>(rS sm aS V (lY.below hV) Z4).mono fun e w' ⟨h1,h2⟩=>⟨by rw[h1,pf],hV.trans (h2.mono hV.size)⟩);have cB:Hid (∀V,Below W.heap.size W V->Calls Tryz.prog 70 #[.agg #[.int .i64 k,.string t,.int .i64 b,.string sc,.string ho,.bool wd,.int .i64 po,.string pa],.string bn] V fun e w'=>e=.returned (.bool q4)/\Below W.heap.size W w'):=Ih (fun V hV=>(Eh ⟨k,t,b,sc,ho,wd,po,pa⟩ bn V (lY.below hV).u.h hX.host (by omega)).mono fun e w' ⟨h1,h2⟩=>⟨by rw[h1,FW],hV.trans (h2.mono hV.size)⟩);have cC:Hid (∀V,Below W.heap.size W V->Calls Tryz.prog 71 #[.agg #[.int .i64 k,.string t,.int .i64 b,.string sc,.string ho,.bool wd,.int .i64 po,.string pa],.agg (C12 aS bW bF bG bn bA bL a1 n1 c1 bB bK bX bY)] V fun e w'=>e=.returned (.bool q5)/\Below W.heap.size W w'):=Ih (fun V hV=>(EK ⟨k,t,b,sc,ho,wd,po,pa⟩ _ u V (yE.below hV)).mono fun e w' ⟨h1,h2⟩=>⟨by rw[h1,XA],hV.trans (h2.mono hV.size)⟩)
 have cD:Hid (∀V,Below W.heap.size W V->Calls Tryz.prog 73 #[.agg (C12 aS bW bF bG bn bA bL a1 n1 c1 bB bK bX bY)] V fun e w'=>∃tp:ByteArray,e=.returned (.string tp)/\Hid (tp.data.toList=Lz.ew u)/\Below W.heap.size W w'):=Ih (fun V hV=>(J4 _ u V (yE.below hV) hU).mono fun e w' ⟨tp,h1,h2,h3⟩=>⟨tp,h1,h2,hV.trans (h3.mono hV.size)⟩);have cE:Hid (∀V (tp:ByteArray),Hid (tp.data.toList=Lz.ew u)->Below W.heap.size W V->Calls Tryz.prog 72 #[.string pa,.string tp] V fun e w'=>e=.returned (.bool q6)/\Below W.heap.size W w'):=Ih (fun V tp wU hV=>(Jz pa tp V (lY.below hV).u.h hX.path (by rw[<-aa,wU.out];exact Fw hU)).mono fun e w' ⟨h1,h2⟩=>⟨by rw[h1,hq6,wU.out],hV.trans (h2.mono hV.size)⟩)
 have hC:Hid (∀V,Below W.heap.size W V->S12 V (w.heap.size) aS bW bF bG bn bA bL a1 n1 c1 bB bK bX bY/\(V.cell? ⟨w.heap.size+1,0,none⟩=some (.int .i64 k)/\V.cell? ⟨w.heap.size+1,1,none⟩=some (.string t)/\V.cell? ⟨w.heap.size+1,2,none⟩=some (.int .i64 b)/\V.cell? ⟨w.heap.size+1,3,none⟩=some (.string sc)/\V.cell? ⟨w.heap.size+1,4,none⟩=some (.string ho)/\V.cell? ⟨w.heap.size+1,5,none⟩=some (.bool wd)/\V.cell? ⟨w.heap.size+1,6,none⟩=some (.int .i64 po)/\V.cell? ⟨w.heap.size+1,7,none⟩=some (.string pa))):=Ih (fun V hV=>⟨fO ((hV.block _ (aI ko)).trans ko),yx ((hV.block _ (aI sU)).trans sU)⟩);have qI:Below W.heap.size W W:=Below.refl _ _;have fG:Below W.heap.size W W.drew:=(Below.refl _ _).drew;have Pq:=Ih AA;obtain⟨qz,Di⟩:∃qz,qz=sc.toList.isEmpty:=⟨_,rfl⟩
 have HZI:Hid ((qz=true->sc.size=0)/\(sc.size=0->qz=true)):=by
  constructor
  ·intro h;by_cases h0:sc.size=0
   ·exact h0
   ·rw[Di,aj (by omega)]at h;cases h
  ·intro h;rw[Di];exact ak h
 have Xr:=Ih Di;clear Di hR hW AA pf FW XA hq6 e0 e3 e4 e5 f0 hv gQ yE lY hE ko sU td hU hX hO Z4;go_enter Tryz.func42,Tryz.ntmps42
 go_upto_region 2 with fail
 rw[<-HW.out]
 go_cut [13] (fun s wx=>s=.bool qz/\W=wx)
 case first=>
  cases qz with
  | true=>
    have z1:sc.toList.isEmpty=true:=Xr.out.symm
    go_wp2_with fail
    go_meet;exact⟨rfl,rfl⟩
  | false=>
    have z1:sc.toList.isEmpty=false:=Xr.out.symm
    go_wp2_with fail
    go_meet;exact⟨rfl,rfl⟩
 case rest=>
 obtain⟨rfl,rfl⟩:=hcut
 go_upto_if 13 with fail
 go_cut [9] (fun s wx=>s=.string sm/\W=wx)
 case first=>
  cases qz with
  | true=>
    have xa:Hid (sm=eL):=by show _=_;rw[Pq.out,if_pos (HZI.out.1 rfl)]
    go_wp2_with fail
    go_meet;exact⟨by rw[xa.out],rfl⟩
  | false=>
    have xa:Hid (sm=sc):=by show _=_;rw[Pq.out,if_neg (fun h=>by have:=HZI.out.2 h;cases this)]
    go_wp2_with fail
    go_meet;exact⟨by rw[xa.out],rfl⟩
 case rest=>
  obtain⟨rfl,rfl⟩:=hcut;clear s3 o0;have hCW:=hC.out W qI;obtain⟨⟨x0,x1,x2,x3,x4,x5,x6,x7,x8,x9,rH,rC⟩,y0,y1,y2,y3,y4,y5,y6,y7⟩:=hCW;cases bG with
  | false=>
    have HV:Hid (R=false):=by show _=_;rw[HR.out];rfl
    go_wp2_with fail
    go_quiet (fail)
    go_wp2_with fail
    go_ret;exact⟨by rw[HV.out];rfl,below_drewN bg _⟩
  | true=>
    by_cases hz:bn.size=0
    ·have z1:bn.toList.isEmpty=true:=ak hz;have z2:bn.data.toList=[]:=List.length_eq_zero_iff.1 (by rw[aa];exact hz);have HV:Hid (R=false):=by show _=_;rw[HR.out,z2];rfl
     clear hz z2
     go_wp2_with fail
     go_quiet (fail)
     go_wp2_with fail
     go_ret;exact⟨by rw[HV.out];rfl,below_drewN bg _⟩
    ·have z1:bn.toList.isEmpty=false:=aj (by omega)
     have z2:(bn.data.toList != [])=true:=by
      rw[bne,beq_eq_false_iff_ne.2 (fun e=>hz (by rw[<-aa,e];rfl))];rfl
     have HV:Hid (R=(q3&&(q4&&(q5&&(red||q6))))):=by show _=_;rw[HR.out,z2,Bool.true_and,Bool.true_and]
     clear hz z2 HR x0 x1 x2 x3 x4 x5 x6 x7 x8 x9 rH rC y0 y1 y2 y3 y4 y5 y6 y7;cases q3 with
     | false=>
       go_wp2_with fail
       refine wp_region_held_drew (S:=fun V=>((V.cell? ⟨w.heap.size,0,none⟩=some (.string aS)/\V.cell? ⟨w.heap.size,1,none⟩=some (.string bW)/\V.cell? ⟨w.heap.size,2,none⟩=some (.string bF)/\V.cell? ⟨w.heap.size,3,none⟩=some (.bool true)/\V.cell? ⟨w.heap.size,4,none⟩=some (.string bn)/\V.cell? ⟨w.heap.size,5,none⟩=some (.int .i64 bA)/\V.cell? ⟨w.heap.size,6,none⟩=some (.bool bL)/\V.cell? ⟨w.heap.size,7,none⟩=some (.slice a1 n1 c1)/\V.cell? ⟨w.heap.size,8,none⟩=some (.bool bB)/\V.cell? ⟨w.heap.size,9,none⟩=some (.bool bK)/\V.cell? ⟨w.heap.size,10,none⟩=some (.string bX)/\V.cell? ⟨w.heap.size,11,none⟩=some (.string bY))/\(V.cell? ⟨w.heap.size+1,0,none⟩=some (.int .i64 k)/\V.cell? ⟨w.heap.size+1,1,none⟩=some (.string t)/\V.cell? ⟨w.heap.size+1,2,none⟩=some (.int .i64 b)/\V.cell? ⟨w.heap.size+1,3,none⟩=some (.string sc)/\V.cell? ⟨w.heap.size+1,4,none⟩=some (.string ho)/\V.cell? ⟨w.heap.size+1,5,none⟩=some (.bool wd)/\V.cell? ⟨w.heap.size+1,6,none⟩=some (.int .i64 po)/\V.cell? ⟨w.heap.size+1,7,none⟩=some (.string pa)))/\Below W.heap.size W V) (by kernel_rfl) ⟨hC.out _ fG,fG⟩ (fun ar=>?_)
       refine TkM 0 16 ?_;refine TkM 1 17 ?_;refine TkM 2 18 ?_;refine TkM 3 19 ?_;refine TkM 4 20 ?_;refine TkM 5 21 ?_;refine TkM 6 22 ?_;refine TkM 7 23 ?_;refine TkM 8 24 ?_;refine TkM 9 25 ?_;refine TkM 10 26 ?_;refine CkM 11 27 (cS cA hC) (fun V hV=>?_);refine TkM 12 28 ?_;refine TkM 13 29 ?_;refine TnJ 14 30 ?_;refine TnJ 15 31 ?_;refine TnJ 16 32 ?_;refine TnJ 17 33 ?_;refine TkM 18 34 ?_;refine TkM 19 35 ?_;refine TnJ 20 36 ?_;refine TnJ 21 37 ?_;refine TnJ 22 38 ?_;refine TkM 23 39 ?_;refine TkM 24 40 ?_;refine TnJ 25 41 ?_;refine TnJ 26 42 ?_;refine TnJ 27 43 ?_;refine TnJ 28 44 ?_;refine TnJ 29 45 ?_;refine TnJ 30 46 ?_;refine TnJ 31 47 ?_;refine TnJ 32 48 ?_;refine TkM 33 49 ?_;refine TkM 34 8 ?_;refine wpAnyH_done (by kernel_rfl) ?_ _
       go_wp2_with fail
       go_ret;exact⟨by rw[HV.out];rfl,bg.trans (hV.2.mono bg.size)⟩
     | true=>
       cases q4 with
       | false=>
         go_wp2_with fail
         refine wp_region_held_drew (S:=fun V=>((V.cell? ⟨w.heap.size,0,none⟩=some (.string aS)/\V.cell? ⟨w.heap.size,1,none⟩=some (.string bW)/\V.cell? ⟨w.heap.size,2,none⟩=some (.string bF)/\V.cell? ⟨w.heap.size,3,none⟩=some (.bool true)/\V.cell? ⟨w.heap.size,4,none⟩=some (.string bn)/\V.cell? ⟨w.heap.size,5,none⟩=some (.int .i64 bA)/\V.cell? ⟨w.heap.size,6,none⟩=some (.bool bL)/\V.cell? ⟨w.heap.size,7,none⟩=some (.slice a1 n1 c1)/\V.cell? ⟨w.heap.size,8,none⟩=some (.bool bB)/\V.cell? ⟨w.heap.size,9,none⟩=some (.bool bK)/\V.cell? ⟨w.heap.size,10,none⟩=some (.string bX)/\V.cell? ⟨w.heap.size,11,none⟩=some (.string bY))/\(V.cell? ⟨w.heap.size+1,0,none⟩=some (.int .i64 k)/\V.cell? ⟨w.heap.size+1,1,none⟩=some (.string t)/\V.cell? ⟨w.heap.size+1,2,none⟩=some (.int .i64 b)/\V.cell? ⟨w.heap.size+1,3,none⟩=some (.string sc)/\V.cell? ⟨w.heap.size+1,4,none⟩=some (.string ho)/\V.cell? ⟨w.heap.size+1,5,none⟩=some (.bool wd)/\V.cell? ⟨w.heap.size+1,6,none⟩=some (.int .i64 po)/\V.cell? ⟨w.heap.size+1,7,none⟩=some (.string pa)))/\Below W.heap.size W V) (by kernel_rfl) ⟨hC.out _ fG,fG⟩ (fun ar=>?_)
         refine TkM 0 16 ?_;refine TkM 1 17 ?_;refine TkM 2 18 ?_;refine TkM 3 19 ?_;refine TkM 4 20 ?_;refine TkM 5 21 ?_;refine TkM 6 22 ?_;refine TkM 7 23 ?_;refine TkM 8 24 ?_;refine TkM 9 25 ?_;refine TkM 10 26 ?_;refine CkM 11 27 (cS cA hC) (fun V hV=>?_);refine TkM 12 28 ?_;refine TkM 13 29 ?_;refine TkM 14 30 ?_;refine TkM 15 31 ?_;refine TkM 16 32 ?_;refine CkM 17 33 (cS cB hC) (fun V hV=>?_);refine TkM 18 34 ?_;refine TkM 19 35 ?_;refine TnJ 20 36 ?_;refine TnJ 21 37 ?_;refine TnJ 22 38 ?_;refine TkM 23 39 ?_;refine TkM 24 40 ?_;refine TnJ 25 41 ?_;refine TnJ 26 42 ?_;refine TnJ 27 43 ?_;refine TnJ 28 44 ?_;refine TnJ 29 45 ?_;refine TnJ 30 46 ?_;refine TnJ 31 47 ?_;refine TnJ 32 48 ?_;refine TkM 33 49 ?_;refine TkM 34 8 ?_;refine wpAnyH_done (by kernel_rfl) ?_ _
         go_wp2_with fail
         go_ret;exact⟨by rw[HV.out];rfl,bg.trans (hV.2.mono bg.size)⟩
       | true=>
         cases q5 with
         | false=>
           go_wp2_with fail
           refine wp_region_held_drew (S:=fun V=>((V.cell? ⟨w.heap.size,0,none⟩=some (.string aS)/\V.cell? ⟨w.heap.size,1,none⟩=some (.string bW)/\V.cell? ⟨w.heap.size,2,none⟩=some (.string bF)/\V.cell? ⟨w.heap.size,3,none⟩=some (.bool true)/\V.cell? ⟨w.heap.size,4,none⟩=some (.string bn)/\V.cell? ⟨w.heap.size,5,none⟩=some (.int .i64 bA)/\V.cell? ⟨w.heap.size,6,none⟩=some (.bool bL)/\V.cell? ⟨w.heap.size,7,none⟩=some (.slice a1 n1 c1)/\V.cell? ⟨w.heap.size,8,none⟩=some (.bool bB)/\V.cell? ⟨w.heap.size,9,none⟩=some (.bool bK)/\V.cell? ⟨w.heap.size,10,none⟩=some (.string bX)/\V.cell? ⟨w.heap.size,11,none⟩=some (.string bY))/\(V.cell? ⟨w.heap.size+1,0,none⟩=some (.int .i64 k)/\V.cell? ⟨w.heap.size+1,1,none⟩=some (.string t)/\V.cell? ⟨w.heap.size+1,2,none⟩=some (.int .i64 b)/\V.cell? ⟨w.heap.size+1,3,none⟩=some (.string sc)/\V.cell? ⟨w.heap.size+1,4,none⟩=some (.string ho)/\V.cell? ⟨w.heap.size+1,5,none⟩=some (.bool wd)/\V.cell? ⟨w.heap.size+1,6,none⟩=some (.int .i64 po)/\V.cell? ⟨w.heap.size+1,7,none⟩=some (.string pa)))/\Below W.heap.size W V) (by kernel_rfl) ⟨hC.out _ fG,fG⟩ (fun ar=>?_)
           refine TkM 0 16 ?_;refine TkM 1 17 ?_;refine TkM 2 18 ?_;refine TkM 3 19 ?_;refine TkM 4 20 ?_;refine TkM 5 21 ?_;refine TkM 6 22 ?_;refine TkM 7 23 ?_;refine TkM 8 24 ?_;refine TkM 9 25 ?_;refine TkM 10 26 ?_;refine CkM 11 27 (cS cA hC) (fun V hV=>?_);refine TkM 12 28 ?_;refine TkM 13 29 ?_;refine TkM 14 30 ?_;refine TkM 15 31 ?_;refine TkM 16 32 ?_;refine CkM 17 33 (cS cB hC) (fun V hV=>?_);refine TkM 18 34 ?_;refine TkM 19 35 ?_;refine TkM 20 36 ?_;refine TkM 21 37 ?_;refine CkM 22 38 (cS cC hC) (fun V hV=>?_);refine TkM 23 39 ?_;refine TkM 24 40 ?_;refine TnJ 25 41 ?_;refine TnJ 26 42 ?_;refine TnJ 27 43 ?_;refine TnJ 28 44 ?_;refine TnJ 29 45 ?_;refine TnJ 30 46 ?_;refine TnJ 31 47 ?_;refine TnJ 32 48 ?_;refine TkM 33 49 ?_;refine TkM 34 8 ?_;refine wpAnyH_done (by kernel_rfl) ?_ _
           go_wp2_with fail
           go_ret;exact⟨by rw[HV.out];rfl,bg.trans (hV.2.mono bg.size)⟩
         | true=>
           cases red with
           | true=>
             go_wp2_with fail
             refine wp_region_held_drew (S:=fun V=>((V.cell? ⟨w.heap.size,0,none⟩=some (.string aS)/\V.cell? ⟨w.heap.size,1,none⟩=some (.string bW)/\V.cell? ⟨w.heap.size,2,none⟩=some (.string bF)/\V.cell? ⟨w.heap.size,3,none⟩=some (.bool true)/\V.cell? ⟨w.heap.size,4,none⟩=some (.string bn)/\V.cell? ⟨w.heap.size,5,none⟩=some (.int .i64 bA)/\V.cell? ⟨w.heap.size,6,none⟩=some (.bool bL)/\V.cell? ⟨w.heap.size,7,none⟩=some (.slice a1 n1 c1)/\V.cell? ⟨w.heap.size,8,none⟩=some (.bool bB)/\V.cell? ⟨w.heap.size,9,none⟩=some (.bool bK)/\V.cell? ⟨w.heap.size,10,none⟩=some (.string bX)/\V.cell? ⟨w.heap.size,11,none⟩=some (.string bY))/\(V.cell? ⟨w.heap.size+1,0,none⟩=some (.int .i64 k)/\V.cell? ⟨w.heap.size+1,1,none⟩=some (.string t)/\V.cell? ⟨w.heap.size+1,2,none⟩=some (.int .i64 b)/\V.cell? ⟨w.heap.size+1,3,none⟩=some (.string sc)/\V.cell? ⟨w.heap.size+1,4,none⟩=some (.string ho)/\V.cell? ⟨w.heap.size+1,5,none⟩=some (.bool wd)/\V.cell? ⟨w.heap.size+1,6,none⟩=some (.int .i64 po)/\V.cell? ⟨w.heap.size+1,7,none⟩=some (.string pa)))/\Below W.heap.size W V) (by kernel_rfl) ⟨hC.out _ fG,fG⟩ (fun ar=>?_)
             refine TkM 0 16 ?_;refine TkM 1 17 ?_;refine TkM 2 18 ?_;refine TkM 3 19 ?_;refine TkM 4 20 ?_;refine TkM 5 21 ?_;refine TkM 6 22 ?_;refine TkM 7 23 ?_;refine TkM 8 24 ?_;refine TkM 9 25 ?_;refine TkM 10 26 ?_;refine CkM 11 27 (cS cA hC) (fun V hV=>?_);refine TkM 12 28 ?_;refine TkM 13 29 ?_;refine TkM 14 30 ?_;refine TkM 15 31 ?_;refine TkM 16 32 ?_;refine CkM 17 33 (cS cB hC) (fun V hV=>?_);refine TkM 18 34 ?_;refine TkM 19 35 ?_;refine TkM 20 36 ?_;refine TkM 21 37 ?_;refine CkM 22 38 (cS cC hC) (fun V hV=>?_);refine TkM 23 39 ?_;refine TkM 24 40 ?_;refine TkM 25 41 ?_;refine TkM 26 42 ?_;refine TnJ 27 43 ?_;refine TnJ 28 44 ?_;refine TnJ 29 45 ?_;refine TnJ 30 46 ?_;refine TnJ 31 47 ?_;refine TkM 32 48 ?_;refine TkM 33 49 ?_;refine TkM 34 8 ?_;refine wpAnyH_done (by kernel_rfl) ?_ _
             go_wp2_with fail
             go_ret;exact⟨by rw[HV.out];rfl,bg.trans (hV.2.mono bg.size)⟩
           | false=>
             go_wp2_with fail
             refine wp_region_held_drew (S:=fun V=>((V.cell? ⟨w.heap.size,0,none⟩=some (.string aS)/\V.cell? ⟨w.heap.size,1,none⟩=some (.string bW)/\V.cell? ⟨w.heap.size,2,none⟩=some (.string bF)/\V.cell? ⟨w.heap.size,3,none⟩=some (.bool true)/\V.cell? ⟨w.heap.size,4,none⟩=some (.string bn)/\V.cell? ⟨w.heap.size,5,none⟩=some (.int .i64 bA)/\V.cell? ⟨w.heap.size,6,none⟩=some (.bool bL)/\V.cell? ⟨w.heap.size,7,none⟩=some (.slice a1 n1 c1)/\V.cell? ⟨w.heap.size,8,none⟩=some (.bool bB)/\V.cell? ⟨w.heap.size,9,none⟩=some (.bool bK)/\V.cell? ⟨w.heap.size,10,none⟩=some (.string bX)/\V.cell? ⟨w.heap.size,11,none⟩=some (.string bY))/\(V.cell? ⟨w.heap.size+1,0,none⟩=some (.int .i64 k)/\V.cell? ⟨w.heap.size+1,1,none⟩=some (.string t)/\V.cell? ⟨w.heap.size+1,2,none⟩=some (.int .i64 b)/\V.cell? ⟨w.heap.size+1,3,none⟩=some (.string sc)/\V.cell? ⟨w.heap.size+1,4,none⟩=some (.string ho)/\V.cell? ⟨w.heap.size+1,5,none⟩=some (.bool wd)/\V.cell? ⟨w.heap.size+1,6,none⟩=some (.int .i64 po)/\V.cell? ⟨w.heap.size+1,7,none⟩=some (.string pa)))/\Below W.heap.size W V) (by kernel_rfl) ⟨hC.out _ fG,fG⟩ (fun ar=>?_)
             refine TkM 0 16 ?_;refine TkM 1 17 ?_;refine TkM 2 18 ?_;refine TkM 3 19 ?_;refine TkM 4 20 ?_;refine TkM 5 21 ?_;refine TkM 6 22 ?_;refine TkM 7 23 ?_;refine TkM 8 24 ?_;refine TkM 9 25 ?_;refine TkM 10 26 ?_;refine CkM 11 27 (cS cA hC) (fun V hV=>?_);refine TkM 12 28 ?_;refine TkM 13 29 ?_;refine TkM 14 30 ?_;refine TkM 15 31 ?_;refine TkM 16 32 ?_;refine CkM 17 33 (cS cB hC) (fun V hV=>?_);refine TkM 18 34 ?_;refine TkM 19 35 ?_;refine TkM 20 36 ?_;refine TkM 21 37 ?_;refine CkM 22 38 (cS cC hC) (fun V hV=>?_);refine TkM 23 39 ?_;refine TkM 24 40 ?_;refine TkM 25 41 ?_;refine TkM 26 42 ?_;refine TkM 27 43 ?_;refine TkM 28 44 ?_;refine TkM 29 45 ?_;refine CkT 30 46 (cSs cD hC) (fun tp V wU hV=>?_);refine CkM 31 47 (cS (Ih fun V hV=>cE.out V tp wU hV) hC) (fun V hV=>?_);refine TkM 32 48 ?_;refine TkM 33 49 ?_;refine TkM 34 8 ?_;refine wpAnyH_done (by kernel_rfl) ?_ _
             go_wp2_with fail
             go_ret;exact⟨by rw[HV.out];rfl,bg.trans (hV.2.mono bg.size)⟩
attribute [local go_sem ↓] Go.wp_at_zero Go.wp_at_succ
theorem UOk.orig {u:Lz.af} (h:UOk u):re u:=by
 have h1:=h.wq;unfold Lz.wq Lz.wt at h1;have hp:=h.nu.port;refine⟨by omega,by omega,?_,?_⟩
 ·rcases hp with h|⟨n,h,_⟩<;>omega
 ·rcases hp with h|⟨n,h,hn,_⟩<;>omega
theorem I0 (v:Value) (u:Lz.af) (v2:Value) (own:Lz.af) (w:World) (hE:jL w) (hv:bz w v u) (hU:UOk u) (gQ:bz w v2 own) (hO:UOk own):Calls Tryz.prog 38 #[v,v2] w (cn (Lz.oa u own) w):=by
 obtain⟨aS,bW,bF,bG,bn,bA,bL,a1,n1,c1,bB,bK,bX,bY,rfl,e0,e3,e4,e5,_,hv⟩:=hv.letters;obtain⟨eL,gX,gV,fV,eA,gh,gZ,a2,n2,c2,bV,fW,gW,gY,rfl,f0,f3,f4,f5,_,gQ⟩:=gQ.letters;obtain⟨R,hR⟩:∃R,R=Lz.oa u own:=⟨_,rfl⟩;rw[<-hR];obtain⟨q,hq⟩:∃q,q=(Lz.bT own != Lz.gN&&Lz.bT own==Lz.bT u):=⟨_,rfl⟩;obtain⟨al,jQ⟩:∃al,al=Lz.uq u own:=⟨_,rfl⟩;obtain⟨sf,Pt⟩:∃sf,sf=Lz.uk u own:=⟨_,rfl⟩;obtain⟨d1,xd⟩:∃d,d=Lz.dr aS.data.toList:=⟨_,rfl⟩;obtain⟨d2,It⟩:∃d,d=Lz.dr eL.data.toList:=⟨_,rfl⟩;obtain⟨g1,DP⟩:∃d,d=Lz.kv u:=⟨_,rfl⟩;obtain⟨g2,wZ⟩:∃d,d=Lz.kv own:=⟨_,rfl⟩;obtain⟨b1,aC⟩:∃b,b=(aS.toList==[104,116,116,112,115]):=⟨_,rfl⟩;obtain⟨b2,aU⟩:∃b,b=(aS.toList==[119,115,115]):=⟨_,rfl⟩;obtain⟨b3,cq⟩:∃b,b=(eL.toList==[104,116,116,112]):=⟨_,rfl⟩;obtain⟨b4,ex⟩:∃b,b=(aS.toList==[119,115]):=⟨_,rfl⟩;obtain⟨b5,dB⟩:∃b,b=(bn.toList==eA.toList):=⟨_,rfl⟩;have bl:∀(s:ByteArray) (k:List UInt8),(s.data.toList==k)=(s.toList==k):=fun s k=>by rw[Lib.toList_data]
 have HR:Hid (R=(q||(bG&&(fV&&(b5&&(al&&sf)))))):=by
  show _=_;rw[hR,hq,jQ,Pt,dB];unfold Lz.oa;rw[e3,f3,e4,f4,Lib.toList_data,Lib.toList_data]
 have HS:Hid (sf=(b1||(b2||(b3&&b4)))):=by
  show _=_;rw[Pt,aC,aU,cq,ex];unfold Lz.uk;rw[e0,f0,bl,bl,bl,bl];rfl
 have HA:Hid (al=((bA==gh)||((g1==d1)&&(g2==d2)))):=by
  show _=_;rw[jQ,DP,wZ,xd,It];unfold Lz.uq;rw[e5,f5,e0,f0]
 have HB:Hid ((aS.toList==[104,116,116,112,115])=b1/\(aS.toList==[119,115,115])=b2/\(eL.toList==[104,116,116,112])=b3/\(aS.toList==[119,115])=b4/\(bn.toList==eA.toList)=b5):=Ih ⟨aC.symm,aU.symm,cq.symm,ex.symm,dB.symm⟩;obtain⟨W,hW⟩:∃W,W=(w.alloc (.cells (C12 aS bW bF bG bn bA bL a1 n1 c1 bB bK bX bY) 26)).alloc (.cells (C12 eL gX gV fV eA gh gZ a2 n2 c2 bV fW gW gY) 26):=⟨_,rfl⟩;have bg:Below w.heap.size w W:=by rw[hW];exact((Below.refl _ w).alloc (Nat.le_refl _) _).alloc (by simp) _
 have ko:W.heap[w.heap.size]? =some (.cells (C12 aS bW bF bG bn bA bL a1 n1 c1 bB bK bX bY) 26 (0,0)):=by
  rw[hW,Below.heap_alloc _ _ _ (by simp)];exact aK _ _
 have td:W.heap[w.heap.size+1]? =some (.cells (C12 eL gX gV fV eA gh gZ a2 n2 c2 bV fW gW gY) 26 (0,0)):=by rw[hW];exact gr _ _ _
 have HW:=Ih hW;have yE:=hv.below bg;have qD:=gQ.below bg;have lY:=hE.below bg;have ZK:Hid (∀V,Below W.heap.size W V->Calls Tryz.prog 66 #[.agg (C12 aS bW bF bG bn bA bL a1 n1 c1 bB bK bX bY)] V fun e w'=>∃tp:ByteArray,e=.returned (.string tp)/\Hid (tp.data.toList=Lz.bT u)/\Below W.heap.size W w'):=Ih (fun V hV=>(ud _ u V (yE.below hV) (lY.below hV) hU.orig).mono fun e w' ⟨tp,h1,h2,h3⟩=>⟨tp,h1,h2,hV.trans (h3.mono hV.size)⟩);have cO2:Hid (∀V,Below W.heap.size W V->Calls Tryz.prog 66 #[.agg (C12 eL gX gV fV eA gh gZ a2 n2 c2 bV fW gW gY)] V fun e w'=>∃tp:ByteArray,e=.returned (.string tp)/\Hid (tp.data.toList=Lz.bT own)/\Below W.heap.size W w'):=Ih (fun V hV=>(ud _ own V (qD.below hV) (lY.below hV) hO.orig).mono fun e w' ⟨tp,h1,h2,h3⟩=>⟨tp,h1,h2,hV.trans (h3.mono hV.size)⟩);have Wo:Hid (∀V,Below W.heap.size W V->Calls Tryz.prog 67 #[.agg (C12 aS bW bF bG bn bA bL a1 n1 c1 bB bK bX bY)] V fun e w'=>e=.returned (.int .i64 g1)/\Below W.heap.size W w'):=Ih (fun V hV=>(kd _ u V (yE.below hV)).mono fun e w' ⟨h1,h2⟩=>⟨by rw[h1,DP],hV.trans (h2.mono hV.size)⟩)
 have RW:Hid (∀V,Below W.heap.size W V->Calls Tryz.prog 67 #[.agg (C12 eL gX gV fV eA gh gZ a2 n2 c2 bV fW gW gY)] V fun e w'=>e=.returned (.int .i64 g2)/\Below W.heap.size W w'):=Ih (fun V hV=>(kd _ own V (qD.below hV)).mono fun e w' ⟨h1,h2⟩=>⟨by rw[h1,wZ],hV.trans (h2.mono hV.size)⟩);have cD1:Hid (∀V,Below W.heap.size W V->Calls Tryz.prog 68 #[.string aS] V fun e w'=>e=.returned (.int .i64 d1)/\Below W.heap.size W w'):=Ih (fun V hV=>(eN aS V).mono fun e w' ⟨h1,h2⟩=>⟨by rw[h1,xd],h2▸hV⟩);have cD2:Hid (∀V,Below W.heap.size W V->Calls Tryz.prog 68 #[.string eL] V fun e w'=>e=.returned (.int .i64 d2)/\Below W.heap.size W w'):=Ih (fun V hV=>(eN eL V).mono fun e w' ⟨h1,h2⟩=>⟨by rw[h1,It],h2▸hV⟩);have hC:Hid (∀V,Below W.heap.size W V->S12 V (w.heap.size) aS bW bF bG bn bA bL a1 n1 c1 bB bK bX bY/\S12 V (w.heap.size+1) eL gX gV fV eA gh gZ a2 n2 c2 bV fW gW gY):=Ih (fun V hV=>⟨fO ((hV.block _ (aI ko)).trans ko),fO ((hV.block _ (aI td)).trans td)⟩);have qI:Below W.heap.size W W:=Below.refl _ _;have Hq:=Ih hq
 clear hR hW hq jQ Pt xd It DP wZ aC aU cq ex dB bl e0 e3 e4 e5 f0 f3 f4 f5 hv gQ yE qD lY hE ko td hU hO;go_enter Tryz.func38,Tryz.ntmps38
 go_upto_region 1 with fail
 rw[<-HW.out]
 go_cut [5] (fun s wx=>∃tp:ByteArray,s=.string tp/\Hid (tp.data.toList=Lz.bT own)/\Below W.heap.size W wx)
 case first=>
  obtain⟨⟨x0,x1,x2,x3,x4,x5,x6,x7,x8,x9,rH,rC⟩,y0,y1,y2,y3,y4,y5,y6,y7,y8,y9,wT,xb⟩:=hC.out _ qI
  go_wp2_with fail
  refine(cO2.out _ qI).mono ?_;rintro e w5 ⟨tp,rfl,wU,l4⟩
  go_wp2_with fail
  go_meet;exact⟨tp,rfl,wU,l4⟩
 case rest=>
 obtain⟨tp,rfl,wU,KH⟩:=hcut
 go_upto_region 2 with fail
 go_cut [17] (fun s wx=>s=.bool q/\Below W.heap.size W wx)
 case first=>
  obtain⟨⟨x0,x1,x2,x3,x4,x5,x6,x7,x8,x9,rH,rC⟩,y0,y1,y2,y3,y4,y5,y6,y7,y8,y9,wT,xb⟩:=hC.out _ KH;by_cases hn:tp.data.toList=[110,117,108,108]
  ·have t1:=aH hn;have HQ:Hid (q=false):=by show _=_;rw[Hq.out,<-wU.out,hn];rfl
   clear hn
   go_wp2_with fail
   go_meet;exact⟨by rw[HQ.out],KH⟩
  ·have t1:=aR hn
   have HN:Hid ((tp.data.toList != Lz.gN)=true):=by
    show(!(tp.data.toList==[110,117,108,108]))=true;rw[beq_eq_false_iff_ne.2 hn];rfl
   clear hn
   go_wp2_with fail
   refine(ZK.out _ KH).mono ?_;rintro e w5 ⟨tq,rfl,htq,l4⟩;have AA:=gw tp tq
   have HQ:Hid (q=(tp.toList==tq.toList)):=by
    show _=_;rw[Hq.out,<-wU.out,HN.out,<-htq.out,Bool.true_and,Lib.toList_data,Lib.toList_data]
   clear AA
   go_wp2_with fail
   go_meet;exact⟨by rw[HQ.out],l4⟩
 case rest=>
 obtain⟨rfl,Lh⟩:=hcut;clear KH wU;cases q with
 | true=>
   have HV:Hid (R=true):=by show _=_;rw[HR.out];rfl
   go_wp2_with fail
   go_ret;exact⟨by rw[HV.out];rfl,bg.trans (Lh.mono bg.size)⟩
 | false=>
 have HV:Hid (R=(bG&&(fV&&(b5&&(al&&sf))))):=by show _=_;rw[HR.out,Bool.false_or]
 clear HR Hq;have fG:Below W.heap.size W wc.drew:=Lh.drew
 go_upto_region 4 with fail
 go_cut [6] (fun s wx=>s=.bool al/\Below W.heap.size W wx)
 case first=>
  clear HV;cases h1:(bA==gh)with
  | true=>
    have HV:Hid (al=true):=by show _=_;rw[HA.out,h1];rfl
    clear HA;refine wp_region_held_drew (S:=fun V=>(S12 V (w.heap.size) aS bW bF bG bn bA bL a1 n1 c1 bB bK bX bY/\S12 V (w.heap.size+1) eL gX gV fV eA gh gZ a2 n2 c2 bV fW gW gY)/\Below W.heap.size W V) (by kernel_rfl) ⟨hC.out _ fG,fG⟩ (fun ar=>?_);refine TkM 0 18 ?_;refine TkM 1 19 ?_;refine TkM 2 20 ?_;refine TkM 3 21 ?_;refine TkM 4 22 ?_;refine TkM 5 23 ?_;refine TnJ 6 24 ?_;refine TnJ 7 25 ?_;refine TnJ 8 26 ?_;refine TnJ 9 27 ?_;refine TnJ 10 28 ?_;refine TnJ 11 29 ?_;refine TnJ 12 30 ?_;refine TnJ 13 31 ?_;refine TnJ 14 32 ?_;refine TnJ 15 33 ?_;refine TnJ 16 34 ?_;refine TnJ 17 35 ?_;refine TnJ 18 36 ?_;refine TnJ 19 37 ?_;refine TkM 20 38 ?_;refine TkM 21 6 ?_;refine wpAnyH_done (by kernel_rfl) ?_ _
    go_wp2_with fail
    go_meet;exact⟨by rw[HV.out],ar.2⟩
  | false=>
    cases h2:(g1==d1)with
    | false=>
      have HV:Hid (al=false):=by show _=_;rw[HA.out,h1,h2];rfl
      clear HA;refine wp_region_held_drew (S:=fun V=>(S12 V (w.heap.size) aS bW bF bG bn bA bL a1 n1 c1 bB bK bX bY/\S12 V (w.heap.size+1) eL gX gV fV eA gh gZ a2 n2 c2 bV fW gW gY)/\Below W.heap.size W V) (by kernel_rfl) ⟨hC.out _ fG,fG⟩ (fun ar=>?_);refine TkM 0 18 ?_;refine TkM 1 19 ?_;refine TkM 2 20 ?_;refine TkM 3 21 ?_;refine TkM 4 22 ?_;refine TkM 5 23 ?_;refine TkM 6 24 ?_;refine TkM 8 26 ?_;refine TkM 9 27 ?_;refine CkM 7 25 (cS Wo hC) (fun V hV=>?_);refine CkM 10 28 (cS cD1 hC) (fun V hV=>?_);refine TkM 11 29 ?_;refine TkM 12 30 ?_;refine TnJ 13 31 ?_;refine TnJ 14 32 ?_;refine TnJ 15 33 ?_;refine TnJ 16 34 ?_;refine TnJ 17 35 ?_;refine TnJ 18 36 ?_;refine TkM 19 37 ?_;refine TkM 20 38 ?_;refine TkM 21 6 ?_;refine wpAnyH_done (by kernel_rfl) ?_ _
      go_wp2_with fail
      go_meet;exact⟨by rw[HV.out],hV.2⟩
    | true=>
      have HV:Hid (al=(g2==d2)):=by show _=_;rw[HA.out,h1,h2];rfl
      clear HA;refine wp_region_held_drew (S:=fun V=>(S12 V (w.heap.size) aS bW bF bG bn bA bL a1 n1 c1 bB bK bX bY/\S12 V (w.heap.size+1) eL gX gV fV eA gh gZ a2 n2 c2 bV fW gW gY)/\Below W.heap.size W V) (by kernel_rfl) ⟨hC.out _ fG,fG⟩ (fun ar=>?_);refine TkM 0 18 ?_;refine TkM 1 19 ?_;refine TkM 2 20 ?_;refine TkM 3 21 ?_;refine TkM 4 22 ?_;refine TkM 5 23 ?_;refine TkM 6 24 ?_;refine TkM 8 26 ?_;refine TkM 9 27 ?_;refine CkM 7 25 (cS Wo hC) (fun V hV=>?_);refine CkM 10 28 (cS cD1 hC) (fun V hV=>?_);refine TkM 11 29 ?_;refine TkM 12 30 ?_;refine TkM 13 31 ?_;refine TkM 15 33 ?_;refine TkM 16 34 ?_;refine CkM 14 32 (cS RW hC) (fun V hV=>?_);refine CkM 17 35 (cS cD2 hC) (fun V hV=>?_);refine TkM 18 36 ?_;refine TkM 19 37 ?_;refine TkM 20 38 ?_;refine TkM 21 6 ?_;refine wpAnyH_done (by kernel_rfl) ?_ _
      go_wp2_with fail
      go_meet;exact⟨by rw[HV.out],hV.2⟩
 case rest=>
 obtain⟨rfl,Pv⟩:=hcut;clear Lh fG HA
 go_upto_region 5 with fail
 go_cut [7] (fun s wx=>s=.bool sf/\Below W.heap.size W wx)
 case first=>
  obtain⟨⟨x0,x1,x2,x3,x4,x5,x6,x7,x8,x9,rH,rC⟩,y0,y1,y2,y3,y4,y5,y6,y7,y8,y9,wT,xb⟩:=hC.out _ Pv;obtain⟨m1,m2,m3,m4,m5⟩:=HB.out;clear HV HB m5;cases b1 with
  | true=>
    have HV:Hid (sf=true):=by show _=_;rw[HS.out];rfl
    go_wp2_with fail
    go_meet;exact⟨by rw[HV.out],Pv⟩
  | false=>
  cases b2 with
  | true=>
    have HV:Hid (sf=true):=by show _=_;rw[HS.out];rfl
    go_wp2_with fail
    go_meet;exact⟨by rw[HV.out],Pv⟩
  | false=>
  cases b3 with
  | false=>
    have HV:Hid (sf=false):=by show _=_;rw[HS.out];rfl
    go_wp2_with fail
    go_meet;exact⟨by rw[HV.out],Pv⟩
  | true=>
    have HV:Hid (sf=b4):=by show _=_;rw[HS.out];rfl
    go_wp2_with fail
    go_meet;exact⟨by rw[HV.out],Pv⟩
 case rest=>
 obtain⟨rfl,KF⟩:=hcut;clear Pv HS;obtain⟨⟨x0,x1,x2,x3,x4,x5,x6,x7,x8,x9,rH,rC⟩,y0,y1,y2,y3,y4,y5,y6,y7,y8,y9,wT,xb⟩:=hC.out _ KF;obtain⟨m1,m2,m3,m4,m5⟩:=HB.out;clear HB hC m1 m2 m3 m4;cases bG with
 | false=>
   go_wp2_with fail
   go_ret;exact⟨by rw[HV.out];rfl,bg.trans (KF.mono bg.size)⟩
 | true=>
 cases fV with
 | false=>
   go_wp2_with fail
   go_ret;exact⟨by rw[HV.out];rfl,bg.trans (KF.mono bg.size)⟩
 | true=>
 cases b5 with
 | false=>
   go_wp2_with fail
   go_ret;exact⟨by rw[HV.out];rfl,bg.trans (KF.mono bg.size)⟩
 | true=>
 cases al with
 | false=>
   go_wp2_with fail
   go_ret;exact⟨by rw[HV.out];rfl,bg.trans (KF.mono bg.size)⟩
 | true=>
   go_wp2_with fail
   go_ret;exact⟨by rw[HV.out];rfl,bg.trans (KF.mono bg.size)⟩
attribute [local go_sem ↓] Go.wp_at_zero Go.wp_at_succ
theorem qV (v:Value) (u:Lz.af) (w:World) (hv:bz w v u):Calls Tryz.prog 48 #[v] w (wj (Lz.kv u) w):=by
 obtain⟨aS,bW,bF,bG,bn,bA,bL,a1,n1,c1,bB,bK,bX,bY,rfl,e1,_,_,e5,_,hv⟩:=hv.letters;have ek:Below w.heap.size w (w.alloc (.cells (C12 aS bW bF bG bn bA bL a1 n1 c1 bB bK bX bY) 26)):=(Below.refl _ w).alloc (Nat.le_refl _) _;by_cases h0:0<=bA
 ·have HV:Hid (Lz.kv u=bA):=by show _=_;unfold Lz.kv;rw[e5,if_pos h0]
  clear hv e1 e5;go_enter Tryz.func48,Tryz.ntmps48
  go_wp2_with fail
  go_ret;exact⟨by rw[HV.out];rfl,ek⟩
 ·have HV:Hid (Lz.kv u=Lz.dr aS.data.toList):=by show _=_;unfold Lz.kv;rw[e5,if_neg h0,e1]
  have cD:=Ih (fun W=>dR aS W);clear hv e1 e5;go_enter Tryz.func48,Tryz.ntmps48
  go_wp2_with fail
  refine(cD.out _).mono ?_;rintro e w1 ⟨rfl,rfl⟩
  go_wp2_with fail
  go_ret;exact⟨by rw[HV.out];rfl,ek⟩
def gd (o:Bool) (l:List (List UInt8)):List UInt8:=l.flatMap fun p=>if o then p else 47::p
theorem zo (o:Bool) (l:List (List UInt8)) (j:Nat) (p:List UInt8) (h:l[j]? =some p):gd o (l.take (j+1))=gd o (l.take j)++(if o then p else 47::p):=by
 have hj:=(List.getElem?_eq_some_iff.1 h);rw[List.take_succ_eq_append_getElem hj.1,hj.2];unfold gd;rw[List.flatMap_append];simp
theorem nZ (u:Lz.af):Lz.ew u=gd u.opq u.path:=by
 unfold Lz.ew gd;cases u.opq with
 | true=>simp only[if_true];rw[List.flatMap_id'.symm]<;>simp[List.flatten_eq_flatMap]
 | false=>rfl
theorem xZ (o:Bool) (l:List (List UInt8)) (j:Nat):(gd o (l.take j)).length<=(slS l).length:=by
 refine Nat.le_trans ?_ (si l j);generalize l.take j=m
 induction m with
 | nil=>exact Nat.le_refl _
 | cons p r ih=>
   show((if o then p else 47::p)++gd o r).length<=((47::p)++slS r).length;rw[List.length_append,List.length_append];cases o<;>simp<;>omega
theorem FO (v:Value) (u:Lz.af) (w:World) (hv:bz w v u) (hU:UOk u):Calls Tryz.prog 50 #[v] w (gl (Lz.ew u) w):=by
 obtain⟨aS,bW,bF,bG,bn,bA,bL,a1,c1,xs,bB,bK,bX,bY,rfl,hu,hx⟩:=hv.form;obtain⟨n,hn⟩:∃n,n=xs.length:=⟨_,rfl⟩;rw[<-hn];clear hv;obtain⟨l,hl⟩:∃l,l=xs.map (fun x:ByteArray=>x.data.toList):=⟨_,rfl⟩;have Al:u.path=l:=by rw[hu,hl]
 have R2:u.opq=bL:=by rw[hu]
 obtain⟨W,hW⟩:∃W,W=w.alloc (.cells #[.string aS,.string bW,.string bF,.bool bG,.string bn,.int .i64 bA,.bool bL,.slice a1 n c1,.bool bB,.bool bK,.string bX,.string bY] 26):=⟨_,rfl⟩;have bg:Below w.heap.size w W:=by rw[hW];exact(Below.refl _ w).alloc (Nat.le_refl _) _
 have ko:W.heap[w.heap.size]? =some (.cells #[.string aS,.string bW,.string bF,.bool bG,.string bn,.int .i64 bA,.bool bL,.slice a1 n c1,.bool bB,.bool bK,.string bX,.string bY] 26 (0,0)):=by rw[hW];exact aK _ _
 have c6:=rowAt ko 6 (.bool bL) rfl;have c7:=rowAt ko 7 (.slice a1 n c1) rfl;have HW:=Ih hW;have HV:Hid (Lz.ew u=gd bL l):=by show _=_;rw[nZ,R2,Al]
 have hz:(slS l).length<=1000000:=by
  have h1:=hU.wq;have h2:(slS l).length=Lz.pl u.path:=by rw[Al];rfl
  unfold Lz.wq Lz.wt at h1;omega
 have xe:n<=1000000:=by have:=Em l;rw[hl,List.length_map,<-hn]at this;rw[<-hl]at this;omega
 have Hx:Hid (∀(j:Nat) (x:ByteArray),xs[j]? =some x->∃G o,a1=some ⟨G,o,none⟩/\G<W.heap.size/\W.cell? ⟨G,o+j,none⟩=some (.string x)):=Ih (fun j x hj=>by
  obtain⟨G,o,e,hG,hc⟩:=hx j x hj;exact⟨G,o,e,Nat.lt_of_lt_of_le hG bg.size,by rw[bg.cell (p:=⟨G,o+j,none⟩) hG];exact hc⟩)
 have HL:=Ih hl;have HZ:=Ih hz;have HN:=Ih hn;have c6w:Hid (∀V,Below W.heap.size W V->V.cell? ⟨w.heap.size,6,none⟩=some (.bool bL)/\V.cell? ⟨w.heap.size,7,none⟩=some (.slice a1 n c1)):=Ih (fun V hV=>⟨by rw[hV.cell (p:=⟨w.heap.size,6,none⟩) (aI ko)];exact c6,by rw[hV.cell (p:=⟨w.heap.size,7,none⟩) (aI ko)];exact c7⟩);clear hx Al R2 hl hz hn hu hW ko c6 c7;go_enter Tryz.func50,Tryz.ntmps50
 go_wp2_with fail
 rw[<-HW.out]
 go_loopw [3,4] (fun a i wr=>∃(j:Nat) (t:ByteArray),j<=n/\i=.int .i64 j/\a=.string t/\Hid (t.data.toList=gd bL (l.take j))/\Below W.heap.size W wr) (fun _ i _=>n-(intOf i).toNat)
 case atStart=>exact⟨0,⟨#[]⟩,Nat.zero_le _,rfl,rfl,Ih (by simp[gd]),Below.refl _ _⟩
 case round=>
  obtain⟨j,t,hj,rfl,rfl,hT,bi⟩:=hrel;obtain⟨k6,k7⟩:=c6w.out wr bi;by_cases aN:j<n
  ·have dH:(j:Int)<(n:Int):=by omega
   have Aj:(0:Int)<=(j:Int):=by omega
   obtain⟨x,hx⟩:∃x,xs[j]? =some x:=⟨_,List.getElem?_eq_getElem (by rw[<-HN.out];exact aN)⟩;obtain⟨G,o,rfl,hGW,oY⟩:=Hx.out j x hx;have j7:wr.cell? ⟨G,o+j,none⟩=some (.string x):=by rw[bi.cell (p:=⟨G,o+j,none⟩) hGW];exact oY
   have vK:l[j]? =some x.data.toList:=by rw[HL.out,List.getElem?_map,hx];rfl
   have hst:=zo bL l j _ vK;have ow:=xZ bL l (j+1);have hzz:=HZ.out;cases bL with
   | true=>
     have kp:Hid ((t++x).data.toList=gd true (l.take (j+1))):=by show _=_;rw[hst,ai,hT.out];rfl
     rw[hst,<-hT.out,List.length_append,if_pos rfl,aa,aa]at ow;have n2:¬(9223372036854775807<t.size+x.size):=by omega
     clear hx vK hst hT ow oY
     go_wp2_with fail
     go_roundw
     case rel=>exact⟨j+1,_,by omega,by go_num,rfl,kp,bi⟩
     case measure=>simp[intOf];omega
   | false=>
     have kp:Hid ((t++⟨#[47]⟩++x).data.toList=gd false (l.take (j+1))):=by show _=_;rw[hst,ai,ai,hT.out,List.append_assoc];rfl
     rw[hst,<-hT.out,List.length_append,if_neg (by decide),List.length_cons,aa,aa]at ow;have n1:¬(9223372036854775807<t.size+1):=by omega
     have n2:¬(9223372036854775807<t.size+1+x.size):=by omega
     clear hx vK hst hT ow oY
     go_wp2_with fail
     go_roundw
     case rel=>exact⟨j+1,_,by omega,by go_num,rfl,kp,bi⟩
     case measure=>simp[intOf];omega
  ·have dH:¬(j:Int)<(n:Int):=by omega
   have sZ:Hid (t.data.toList=Lz.ew u):=by
    show _=_;rw[HV.out,hT.out,List.take_of_length_le];rw[HL.out,List.length_map,<-HN.out];omega
   clear hT
   go_wp2_with fail
   go_ret;exact⟨t,rfl,sZ,ac bg bi⟩
attribute [local go_sem ↓] Go.wp_at_zero Go.wp_at_succ
theorem yp (k:Int) (t:ByteArray) (b:Int) (sc ho:ByteArray) (wd:Bool) (po:Int) (pa:ByteArray):aq.src ⟨k,t,b,sc,ho,wd,po,pa⟩=Lz.lJ↔k=3/\t.toList=[]/\b=0/\sc.toList=[]/\ho.toList=[]/\wd=true/\po= -1/\pa.toList=[]:=by
 unfold aq.src Lz.lJ;rw[Lib.toList_data,Lib.toList_data,Lib.toList_data,Lib.toList_data]
 simp
theorem IZ (x:aq) (w:World):Calls Tryz.prog 40 #[x.val] w (cn (decide (x.src=Lz.lJ)) w):=by
 obtain⟨k,t,b,sc,ho,wd,po,pa⟩:=x;have ek:∀cs:Array Value,Below w.heap.size w (w.alloc (.cells cs 41)):=fun cs=>(Below.refl _ w).alloc (Nat.le_refl _) _
 dsimp only[aq.val]
 have HI:=Ih (yp k t b sc ho wd po pa);have Hb:=Ih ek;clear ek;go_enter Tryz.func40,Tryz.ntmps40
 go_wp2_with fail
 all_goals go_ret
 all_goals refine⟨?_,Hb.out _⟩
 all_goals first
  | (rw[decide_eq_true (HI.out.2 ⟨by assumption,by assumption,by assumption,by assumption,by assumption,by (cases wd<;>simp_all),by assumption,by assumption⟩)];rfl)
  | (rw[decide_eq_false (fun h=>by obtain⟨h1,h2,h3,h4,h5,h6,h7,h8⟩:=HI.out.1 h;first |contradiction|simp_all)];rfl)
theorem LW (v:Value) (u:Lz.af) (x:aq) (v2:Value) (own:Lz.af) (red:Bool) (w:World) (hE:mh w) (hv:bz w v u) (hU:UOk u) (hX:SOk x) (gQ:bz w v2 own) (hO:UOk own):Calls Tryz.prog 17 #[v,x.val,v2,.bool red] w (cn (Lz.jr u x.src own red) w):=by
 obtain⟨aS,bW,bF,bG,bn,bA,bL,a1,n1,c1,bB,bK,bX,bY,rfl,e0,_,_,_,_,hv⟩:=hv.letters;obtain⟨eL,gX,gV,fV,eA,gh,gZ,a2,n2,c2,bV,fW,gW,gY,rfl,f0,_,_,_,_,gQ⟩:=gQ.letters;obtain⟨k,t,b,sc,ho,wd,po,pa⟩:=x;obtain⟨R,hR⟩:∃R,R=Lz.jr u (aq.src ⟨k,t,b,sc,ho,wd,po,pa⟩) own red:=⟨_,rfl⟩;rw[<-hR]
 have Iv:R=if k=1 then(t.data.toList==Lz.uH&&Lz.oa u own)else if k=2 then Lz.eo sc.data.toList aS.data.toList else if k=3 then(if aq.src ⟨k,t,b,sc,ho,wd,po,pa⟩=Lz.lJ then Lz.yN aS.data.toList||aS.data.toList==eL.data.toList else Lz.j0 u (aq.src ⟨k,t,b,sc,ho,wd,po,pa⟩) own red)else false:=by
  rw[hR];unfold Lz.jr;rw[e0,f0];rfl
 dsimp only[aq.val]
 obtain⟨W,hW⟩:∃W,W=((w.alloc (.cells (C12 aS bW bF bG bn bA bL a1 n1 c1 bB bK bX bY) 26)).alloc (.cells #[.int .i64 k,.string t,.int .i64 b,.string sc,.string ho,.bool wd,.int .i64 po,.string pa] 41)).alloc (.cells (C12 eL gX gV fV eA gh gZ a2 n2 c2 bV fW gW gY) 26):=⟨_,rfl⟩;have bg:Below w.heap.size w W:=by rw[hW];exact(((Below.refl _ w).alloc (Nat.le_refl _) _).alloc (by simp) _).alloc (by simp;omega) _
 have ko:W.heap[w.heap.size]? =some (.cells (C12 aS bW bF bG bn bA bL a1 n1 c1 bB bK bX bY) 26 (0,0)):=by
  rw[hW,Below.heap_alloc _ _ _ (by simp;omega),Below.heap_alloc _ _ _ (by simp)];exact aK _ _
 have sU:W.heap[w.heap.size+1]? =some (.cells #[.int .i64 k,.string t,.int .i64 b,.string sc,.string ho,.bool wd,.int .i64 po,.string pa] 41 (0,0)):=by
  rw[hW,Below.heap_alloc _ _ _ (by simp)];exact gr _ _ _
 have td:W.heap[w.heap.size+1+1]? =some (.cells (C12 eL gX gV fV eA gh gZ a2 n2 c2 bV fW gW gY) 26 (0,0)):=by
  rw[hW];have:=aK ((w.alloc (.cells (C12 aS bW bF bG bn bA bL a1 n1 c1 bB bK bX bY) 26)).alloc (.cells #[.int .i64 k,.string t,.int .i64 b,.string sc,.string ho,.bool wd,.int .i64 po,.string pa] 41)) (.cells (C12 eL gX gV fV eA gh gZ a2 n2 c2 bV fW gW gY) 26);simpa using this
 have HW:=Ih hW;have yE:=hv.below bg;have qD:=gQ.below bg;have lY:=hE.below bg;obtain⟨q1,FY⟩:∃q,q=Lz.oa u own:=⟨_,rfl⟩;obtain⟨q2,wW⟩:∃q,q=Lz.eo sc.data.toList aS.data.toList:=⟨_,rfl⟩;obtain⟨q3,FU⟩:∃q,q=decide (aq.src ⟨k,t,b,sc,ho,wd,po,pa⟩=Lz.lJ):=⟨_,rfl⟩;obtain⟨q4,Wh⟩:∃q,q=Lz.yN aS.data.toList:=⟨_,rfl⟩;obtain⟨q5,Xb⟩:∃q,q=Lz.j0 u (aq.src ⟨k,t,b,sc,ho,wd,po,pa⟩) own red:=⟨_,rfl⟩;have cA:Hid (∀V,Below W.heap.size W V->Calls Tryz.prog 38 #[.agg (C12 aS bW bF bG bn bA bL a1 n1 c1 bB bK bX bY),.agg (C12 eL gX gV fV eA gh gZ a2 n2 c2 bV fW gW gY)] V fun e w'=>e=.returned (.bool q1)/\Below W.heap.size W w'):=Ih (fun V hV=>(I0 _ u _ own V (lY.below hV).u (yE.below hV) hU (qD.below hV) hO).mono fun e w' ⟨h1,h2⟩=>⟨by rw[h1,FY],hV.trans (h2.mono hV.size)⟩);have cB:Hid (∀V,Below W.heap.size W V->Calls Tryz.prog 39 #[.string sc,.string aS] V fun e w'=>e=.returned (.bool q2)/\Below W.heap.size W w'):=Ih (fun V hV=>(rS sc aS V (lY.below hV) (by have h2:sc.size<=1000000:=hX.scheme;omega)).mono fun e w' ⟨h1,h2⟩=>⟨by rw[h1,wW],hV.trans (h2.mono hV.size)⟩)
 have cC:Hid (∀V,Below W.heap.size W V->Calls Tryz.prog 40 #[.agg #[.int .i64 k,.string t,.int .i64 b,.string sc,.string ho,.bool wd,.int .i64 po,.string pa]] V fun e w'=>e=.returned (.bool q3)/\Below W.heap.size W w'):=Ih (fun V hV=>(IZ ⟨k,t,b,sc,ho,wd,po,pa⟩ V).mono fun e w' ⟨h1,h2⟩=>⟨by rw[h1,FU],hV.trans (h2.mono hV.size)⟩);have cD:Hid (∀V,Below W.heap.size W V->Calls Tryz.prog 41 #[.string aS] V fun e w'=>e=.returned (.bool q4)/\Below W.heap.size W w'):=Ih (fun V hV=>(Qw aS V).mono fun e w' ⟨h1,h2⟩=>⟨by rw[h1,Wh],h2▸hV⟩);have cE:Hid (∀V,Below W.heap.size W V->Calls Tryz.prog 42 #[.agg (C12 aS bW bF bG bn bA bL a1 n1 c1 bB bK bX bY),.agg #[.int .i64 k,.string t,.int .i64 b,.string sc,.string ho,.bool wd,.int .i64 po,.string pa],.agg (C12 eL gX gV fV eA gh gZ a2 n2 c2 bV fW gW gY),.bool red] V fun e w'=>e=.returned (.bool q5)/\Below W.heap.size W w'):=Ih (fun V hV=>(zD _ u ⟨k,t,b,sc,ho,wd,po,pa⟩ _ own red V (lY.below hV) (yE.below hV) hU hX (qD.below hV) (by have:=hO.wq;unfold Lz.wq Lz.wt at this;omega)).mono fun e w' ⟨h1,h2⟩=>⟨by rw[h1,Xb],hV.trans (h2.mono hV.size)⟩)
 have HV:Hid (R=if k=1 then(t.data.toList==Lz.uH&&q1)else if k=2 then q2 else if k=3 then(if q3=true then q4||aS.data.toList==eL.data.toList else q5)else false):=by
  show _=_;rw[Iv,FY,wW,FU,Wh,Xb];simp only[decide_eq_true_eq]
 have hC:Hid (∀V,Below W.heap.size W V->S12 V (w.heap.size) aS bW bF bG bn bA bL a1 n1 c1 bB bK bX bY/\S8 V (w.heap.size+1) k t b sc ho wd po pa/\S12 V (w.heap.size+1+1) eL gX gV fV eA gh gZ a2 n2 c2 bV fW gW gY):=Ih (fun V hV=>⟨fO ((hV.block _ (aI ko)).trans ko),yx ((hV.block _ (aI sU)).trans sU),fO ((hV.block _ (aI td)).trans td)⟩);have qI:Below W.heap.size W W:=Below.refl _ _;have AA:=Ih (gw aS eL);clear hR hW Iv FY wW FU Wh Xb e0 f0 hv gQ yE qD lY hE ko sU td hU hO hX;obtain⟨⟨x0,x1,x2,x3,x4,x5,x6,x7,x8,x9,rH,rC⟩,⟨z0,z1,z2,z3,z4,z5,z6,z7⟩,y0,y1,y2,y3,y4,y5,y6,y7,y8,y9,wT,xb⟩:=hC.out _ qI;by_cases k1:k=1
 ·have h1:(k==1)=true:=by rw[k1];rfl
  rw[if_pos k1]at HV;by_cases hs:t.data.toList=[115,101,108,102]
  ·have t1:=aH hs;have HQ:Hid (R=q1):=by show _=_;rw[HV.out,hs];rfl
   clear HV hs k1;go_enter Tryz.func17,Tryz.ntmps17
   go_wp2_with (first |(rw[<-HW.out];done)|fail)
   rw[<-HW.out];refine(cA.out _ qI).mono ?_;rintro e w5 ⟨rfl,l4⟩
   go_wp2_with fail
   go_ret;exact⟨by rw[HQ.out];rfl,bg.trans (l4.mono bg.size)⟩
  ·have t1:=aR hs;have HQ:Hid (R=false):=by show _=_;rw[HV.out,show(t.data.toList==Lz.uH)=false from beq_eq_false_iff_ne.2 hs];rfl
   clear HV hs k1;go_enter Tryz.func17,Tryz.ntmps17
   go_wp2_with fail
   rw[<-HW.out];go_ret;exact⟨by rw[HQ.out];rfl,bg⟩
 ·have h1:(k==1)=false:=beq_eq_false_iff_ne.2 k1;rw[if_neg k1]at HV;by_cases k2:k=2
  ·have h2:(k==2)=true:=by rw[k2];rfl
   rw[if_pos k2]at HV;clear k1 k2;go_enter Tryz.func17,Tryz.ntmps17
   go_wp2_with fail
   rw[<-HW.out];refine(cB.out _ qI).mono ?_;rintro e w5 ⟨rfl,l4⟩
   go_wp2_with fail
   go_ret;exact⟨by rw[HV.out];rfl,bg.trans (l4.mono bg.size)⟩
  ·have h2:(k==2)=false:=beq_eq_false_iff_ne.2 k2;rw[if_neg k2]at HV;by_cases k3:k=3
   ·have h3:(k==3)=true:=by rw[k3];rfl
    rw[if_pos k3]at HV;clear k1 k2 k3;cases q3 with
    | true=>
      rw[if_pos rfl]at HV;cases q4 with
      | true=>
        have HQ:Hid (R=true):=by show _=_;rw[HV.out];rfl
        clear HV;go_enter Tryz.func17,Tryz.ntmps17
        go_wp2_with fail
        rw[<-HW.out];refine(cC.out _ qI).mono ?_;rintro e w5 ⟨rfl,l4⟩;clear x0 x1 x2 x3 x4 x5 x6 x7 x8 x9 rH rC z0 z1 z2 z3 z4 z5 z6 z7 y0 y1 y2 y3 y4 y5 y6 y7 y8 y9 wT xb;obtain⟨⟨x0,x1,x2,x3,x4,x5,x6,x7,x8,x9,rH,rC⟩,⟨z0,z1,z2,z3,z4,z5,z6,z7⟩,y0,y1,y2,y3,y4,y5,y6,y7,y8,y9,wT,xb⟩:=hC.out _ l4
        go_wp2_with fail
        refine(cD.out _ l4).mono ?_;rintro e w6 ⟨rfl,TP⟩
        go_wp2_with fail
        go_ret;exact⟨by rw[HQ.out];rfl,bg.trans (TP.mono bg.size)⟩
      | false=>
        have HQ:Hid (R=(aS.toList==eL.toList)):=by show _=_;rw[HV.out,Lib.toList_data,Lib.toList_data];rfl
        clear HV;go_enter Tryz.func17,Tryz.ntmps17
        go_wp2_with fail
        rw[<-HW.out];refine(cC.out _ qI).mono ?_;rintro e w5 ⟨rfl,l4⟩;clear x0 x1 x2 x3 x4 x5 x6 x7 x8 x9 rH rC z0 z1 z2 z3 z4 z5 z6 z7 y0 y1 y2 y3 y4 y5 y6 y7 y8 y9 wT xb;obtain⟨⟨x0,x1,x2,x3,x4,x5,x6,x7,x8,x9,rH,rC⟩,⟨z0,z1,z2,z3,z4,z5,z6,z7⟩,y0,y1,y2,y3,y4,y5,y6,y7,y8,y9,wT,xb⟩:=hC.out _ l4
        go_wp2_with fail
        refine(cD.out _ l4).mono ?_;rintro e w6 ⟨rfl,TP⟩;clear x0 x1 x2 x3 x4 x5 x6 x7 x8 x9 rH rC z0 z1 z2 z3 z4 z5 z6 z7 y0 y1 y2 y3 y4 y5 y6 y7 y8 y9 wT xb;obtain⟨⟨x0,x1,x2,x3,x4,x5,x6,x7,x8,x9,rH,rC⟩,⟨z0,z1,z2,z3,z4,z5,z6,z7⟩,y0,y1,y2,y3,y4,y5,y6,y7,y8,y9,wT,xb⟩:=hC.out _ TP
        go_wp2_with fail
        go_ret;exact⟨by rw[HQ.out];rfl,bg.trans (TP.mono bg.size)⟩
    | false=>
      rw[if_neg (by decide)]at HV;go_enter Tryz.func17,Tryz.ntmps17
      go_wp2_with fail
      rw[<-HW.out];refine(cC.out _ qI).mono ?_;rintro e w5 ⟨rfl,l4⟩;clear x0 x1 x2 x3 x4 x5 x6 x7 x8 x9 rH rC z0 z1 z2 z3 z4 z5 z6 z7 y0 y1 y2 y3 y4 y5 y6 y7 y8 y9 wT xb;obtain⟨⟨x0,x1,x2,x3,x4,x5,x6,x7,x8,x9,rH,rC⟩,⟨z0,z1,z2,z3,z4,z5,z6,z7⟩,y0,y1,y2,y3,y4,y5,y6,y7,y8,y9,wT,xb⟩:=hC.out _ l4
      go_wp2_with fail
      refine(cE.out _ l4).mono ?_;rintro e w6 ⟨rfl,TP⟩
      go_wp2_with fail
      go_ret;exact⟨by rw[HV.out];rfl,bg.trans (TP.mono bg.size)⟩
   ·have h3:(k==3)=false:=beq_eq_false_iff_ne.2 k3;rw[if_neg k3]at HV;clear k1 k2 k3;go_enter Tryz.func17,Tryz.ntmps17
    go_wp2_with fail
    rw[<-HW.out];go_ret;exact⟨by rw[HV.out];rfl,bg⟩
attribute [local go_sem ↓] Go.wp_at_zero Go.wp_at_succ
theorem GU:(Tryz.prog.info? 41).map (fun i=>(i.zero,i.size,i.bytes))=some (some (.agg #[.int .i64 0,.string ⟨#[]⟩,.int .i64 0,.string ⟨#[]⟩,.string ⟨#[]⟩,.bool false,.int .i64 0,.string ⟨#[]⟩]),8,96):=by kernel_rfl
def aq.row (x:aq):List Value:=[.int .i64 x.kind,.string x.text,.int .i64 x.bits,.string x.scheme,.string x.host,.bool x.wild,.int .i64 x.port,.string x.path]
theorem C0 (W:World) (cs:List Value) (t:TypeId):∀(j:Nat) (u:Value),cs[j]? =some u->(W.alloc (.cells cs.toArray t)).cell? ((⟨W.heap.size,0,none⟩:Addr).add j)=some u:=by
 intro j u hj;have:=rowAt (aK W (.cells cs.toArray t)) j u (by simpa using hj);rw[fa];exact this
def ed (w:World) (B:Nat) (v:Value) (ys:List aq):Prop:=w.ownsRow B 41 8 v ys.length (ys.flatMap aq.row)
theorem ed.below {w w':World} {B:Nat} {v:Value} {ys:List aq} (h:ed w B v ys) (hb:Below w.heap.size w w'):ed w' B v ys:=dm h hb
def Ia (l:List (List UInt8)) (w:World) (e:Ending) (w':World):Prop:=∃(v:Value) (ys:List aq),e=.returned v/\Hid (ys.map aq.src=Lz.dW l)/\ed w' w.heap.size v ys/\Below w.heap.size w w'
theorem j3 {l:List UInt8} {y:Lz.Src} (h:Lz.bR l=some y):fD l=0/\jv l=y:=by constructor<;>simp[fD,jv,h]
theorem rZ {l:List UInt8} (h:Lz.bR l=none):fD l=250:=by simp[fD,h]
theorem L4 (v:Value) (l:List (List UInt8)) (w:World) (hE:Env w) (h:dy w v l) (hL:l.length<=10000) (hZ:∀x,x∈l->x.length<=1000000):Calls Tryz.prog 15 #[v] w (Ia l w):=by
 obtain⟨i0,hi,ig,fs,fk⟩:=info_parts GU;obtain⟨a,c,xs,rfl,hl,hx⟩:=h;have Lb:l.length=xs.length:=by rw[<-hl,List.length_map]
 obtain⟨n,hn⟩:∃n,n=xs.length:=⟨_,rfl⟩;rw[<-hn];rw[Lb,<-hn]at hL;have Hx:=Ih hx;have HZ:Hid (∀x,x∈xs->x.size<=1000000):=Ih (fun x hx=>by rw[<-aa];exact hZ _ (by rw[<-hl];exact List.mem_map.2 ⟨x,hx,rfl⟩));have HL:=Ih hl;have HN:=Ih hn;have h0:ed w w.heap.size (.slice none 0 0) []:=World.ownsRow_nil w _ _ _;clear hx hl hn hZ Lb;go_enter Tryz.func15,Tryz.ntmps15
 go_wp2_with fail
 go_loopw [3,10] (fun o i wr=>∃(j:Nat) (ys:List aq),j<=n/\i=.int .i64 j/\ys.length<=j/\Hid (ys.map aq.src=Lz.dW (l.take j))/\ed wr w.heap.size o ys/\Below w.heap.size w wr) (fun _ i _=>n-(intOf i).toNat)
 case atStart=>exact⟨0,[],Nat.zero_le _,rfl,Nat.le_refl _,Ih (by simp[Lz.dW]),h0,Below.refl _ _⟩
 case round=>
  clear h0;obtain⟨j,ys,hj,rfl,hyj,jl,aQ,bi⟩:=hrel;by_cases aN:j<n
  ·have dH:(j:Int)<(n:Int):=by omega
   have Aj:(0:Int)<=(j:Int):=by omega
   obtain⟨s,hs⟩:∃s,xs[j]? =some s:=⟨_,List.getElem?_eq_getElem (by rw[<-HN.out];exact aN)⟩;obtain⟨B,off,rfl,hB,hc⟩:=Hx.out j s hs;have j7:wr.cell? ⟨B,off+j,none⟩=some (.string s):=by rw[bi.cell (p:=⟨B,off+j,none⟩) hB];exact hc
   have dV:s.size<=1000000:=HZ.out s (List.mem_of_getElem? hs)
   have gE:l.take (j+1)=l.take j++[s.data.toList]:=by
    rw[List.take_add_one,<-HL.out,List.getElem?_map,hs];rfl
   have hst:Lz.dW (l.take (j+1))=Lz.dW (l.take j)++(match Lz.bR s.data.toList with|some y=>[y]|none=>[]):=by
    rw[gE];unfold Lz.dW;rw[List.filterMap_append];cases h:Lz.bR s.data.toList<;>simp[h]
   have cP:=Ih (IK s (by omega) wr (hE.below bi));have bZ:=Ih aQ;have fQ:=Ih hst;clear hs hc gE hst aQ
   go_upto_region 6 with(first |(refine cP.out.mono ?_;rintro e w1 ⟨x,rfl,d7,aC⟩;obtain⟨k,t,b,sc,ho,wd,po,pa⟩:=x;dsimp only[aq.val])|(refine bw rfl _ _ rfl w1.heap.size rfl rfl _ (aK _ _) rfl ?_))
   obtain⟨W2,tJ⟩:∃W2,W2=(w1.alloc (.cells #[.int .i64 0,.string ⟨#[]⟩,.int .i64 0,.string ⟨#[]⟩,.string ⟨#[]⟩,.bool false,.int .i64 0,.string ⟨#[]⟩] 41)).setRow w1.heap.size #[.int .i64 k,.string t,.int .i64 b,.string sc,.string ho,.bool wd,.int .i64 po,.string pa]:=⟨_,rfl⟩;rw[<-tJ];have aU:Below w1.heap.size w1 W2:=by rw[tJ];exact az ((Below.refl _ w1).alloc (Nat.le_refl _) _) (Nat.le_refl _)
   have ou:W2.heap[w1.heap.size]? =some (.cells #[.int .i64 k,.string t,.int .i64 b,.string sc,.string ho,.bool wd,.int .i64 po,.string pa] 41 (0,0)):=by rw[tJ];exact setRow_heap _ _ _ _ _ _ (aK _ _)
   have ft:=Ih ((ed.below bZ.out aC).below aU);have fw:Below w.heap.size w W2:=ac (ac bi aC) aU;have vM:=fw.size;clear tJ aU cP bi aC;cases hp:Lz.bR s.data.toList with
   | none=>
     have Tv:(fD s.data.toList==0)=false:=by rw[rZ hp];rfl
     have HS:Hid (ys.map aq.src=Lz.dW (l.take (j+1))):=by show _=_;rw[fQ.out,hp,jl.out];simp
     clear hp fQ jl
     go_wp2_with fail
     go_roundw
     case rel=>exact⟨j+1,ys,by omega,by go_num,by omega,HS,ft.out,fw⟩
     case measure=>simp[intOf];omega
   | some y=>
     have Tv:(fD s.data.toList==0)=true:=by rw[(j3 hp).1];rfl
     have HS:Hid ((ys++[(aq.mk k t b sc ho wd po pa)]).map aq.src=Lz.dW (l.take (j+1))):=by
      show _=_;rw[fQ.out,hp,List.map_append,jl.out];show _++[aq.src (aq.mk k t b sc ho wd po pa)]=_++[y];rw[d7.out,(j3 hp).2]
     have bN:ys.flatMap aq.row++aq.row (aq.mk k t b sc ho wd po pa)=(ys++[(aq.mk k t b sc ho wd po pa)]).flatMap aq.row:=by rw[List.flatMap_append];simp
     have On:=Ih bN;obtain⟨c0,c1,c2,c3,c4,c5,c6,c7⟩:=yx ou;clear hp fQ jl bN ou
     go_wp2_with (at_builtin;refine wpList_append_own _ rfl (.tmp 21) (.tmp 23) 39 rfl w.heap.size 41 i0 (.agg #[.int .i64 0,.string ⟨#[]⟩,.int .i64 0,.string ⟨#[]⟩,.string ⟨#[]⟩,.bool false,.int .i64 0,.string ⟨#[]⟩]) 8 96 Tryz.underlying39 hi ig fs fk rfl (by decide) _ _ _ rfl (World.ownsRow.alloc ft.out _) ⟨W2.heap.size,0,none⟩ 1 1 (aq.row (aq.mk k t b sc ho wd po pa)) rfl rfl (C0 W2 (aq.row (aq.mk k t b sc ho wd po pa)) _) (by simp[aq.row,Value.oneCell']) (by unfold maxLen;omega) (by omega) (by simp;omega) ?_)
     intro v' w3 aE aV _;have cq:=Below.grown1 fw ft.out aV vM (Nat.le_refl _);rw[On.out]at aE
     have eu:ed w3 w.heap.size v' (ys++[(aq.mk k t b sc ho wd po pa)]):=by
      unfold ed;rw[List.length_append];exact aE
     have ep:=Ih eu;clear aE aV eu c0 c1 c2 c3 c4 c5 c6 c7
     go_wp2
     go_roundw
     case rel=>exact⟨j+1,_,by omega,by go_num,by rw[List.length_append];simp;omega,HS,ep.out,cq⟩
     case measure=>simp[intOf];omega
  ·have dH:¬(j:Int)<(n:Int):=by omega
   have HV:Hid (ys.map aq.src=Lz.dW l):=by
    show _=_;rw[jl.out,List.take_of_length_le (by rw[<-HL.out,List.length_map,<-HN.out];omega)]
   clear jl
   go_wp2_with fail
   go_ret;exact⟨_,ys,rfl,HV,aQ,bi⟩
attribute [local go_sem ↓] Go.wp_at_zero Go.wp_at_succ
theorem FC (v:Value) (l:List (List UInt8)) (w:World) (hE:Env w) (h:dy w v l) (hL:l.length<=10000) (hZ:∀x,x∈l->x.length<=1000000):Calls Tryz.prog 19 #[v] w (Ia l w):=by
 obtain⟨i0,hi,ig,fs,fk⟩:=info_parts GU;obtain⟨a,c,xs,rfl,hl,hx⟩:=h;have Lb:l.length=xs.length:=by rw[<-hl,List.length_map]
 obtain⟨n,hn⟩:∃n,n=xs.length:=⟨_,rfl⟩;rw[<-hn];rw[Lb,<-hn]at hL;have Hx:=Ih hx;have HZ:Hid (∀x,x∈xs->x.size<=1000000):=Ih (fun x hx=>by rw[<-aa];exact hZ _ (by rw[<-hl];exact List.mem_map.2 ⟨x,hx,rfl⟩));have HL:=Ih hl;have HN:=Ih hn;have h0:ed w w.heap.size (.slice none 0 0) []:=World.ownsRow_nil w _ _ _;clear hx hl hn hZ Lb;go_enter Tryz.func19,Tryz.ntmps19
 go_wp2_with fail
 go_loopw [3,4] (fun o i wr=>∃(j:Nat) (ys:List aq),j<=n/\i=.int .i64 j/\ys.length<=j/\Hid (ys.map aq.src=Lz.dW (l.take j))/\ed wr w.heap.size o ys/\Below w.heap.size w wr) (fun _ i _=>n-(intOf i).toNat)
 case atStart=>exact⟨0,[],Nat.zero_le _,rfl,Nat.le_refl _,Ih (by simp[Lz.dW]),h0,Below.refl _ _⟩
 case round=>
  clear h0;obtain⟨j,ys,hj,rfl,hyj,jl,aQ,bi⟩:=hrel;by_cases aN:j<n
  ·have dH:(j:Int)<(n:Int):=by omega
   have Aj:(0:Int)<=(j:Int):=by omega
   obtain⟨s,hs⟩:∃s,xs[j]? =some s:=⟨_,List.getElem?_eq_getElem (by rw[<-HN.out];exact aN)⟩;obtain⟨B,off,rfl,hB,hc⟩:=Hx.out j s hs;have j7:wr.cell? ⟨B,off+j,none⟩=some (.string s):=by rw[bi.cell (p:=⟨B,off+j,none⟩) hB];exact hc
   have dV:s.size<=1000000:=HZ.out s (List.mem_of_getElem? hs)
   have gE:l.take (j+1)=l.take j++[s.data.toList]:=by
    rw[List.take_add_one,<-HL.out,List.getElem?_map,hs];rfl
   have hst:Lz.dW (l.take (j+1))=Lz.dW (l.take j)++(match Lz.bR s.data.toList with|some y=>[y]|none=>[]):=by
    rw[gE];unfold Lz.dW;rw[List.filterMap_append];cases h:Lz.bR s.data.toList<;>simp[h]
   have cP:=Ih (C6 s (by omega) wr (hE.below bi));have bZ:=Ih aQ;have fQ:=Ih hst;clear hs hc gE hst aQ
   go_wp2_with fail
   refine cP.out.mono ?_;rintro e w1 ⟨x,rfl,d7,aC⟩;obtain⟨k,t,b,sc,ho,wd,po,pa⟩:=x
   dsimp only[aq.val]
   go_upto_region 6 with(refine bw rfl _ _ rfl w1.heap.size rfl rfl _ (aK _ _) rfl ?_)
   obtain⟨W2,tJ⟩:∃W2,W2=(w1.alloc (.cells #[.int .i64 0,.string ⟨#[]⟩,.int .i64 0,.string ⟨#[]⟩,.string ⟨#[]⟩,.bool false,.int .i64 0,.string ⟨#[]⟩] 41)).setRow w1.heap.size #[.int .i64 k,.string t,.int .i64 b,.string sc,.string ho,.bool wd,.int .i64 po,.string pa]:=⟨_,rfl⟩;rw[<-tJ];have aU:Below w1.heap.size w1 W2:=by rw[tJ];exact az ((Below.refl _ w1).alloc (Nat.le_refl _) _) (Nat.le_refl _)
   have ou:W2.heap[w1.heap.size]? =some (.cells #[.int .i64 k,.string t,.int .i64 b,.string sc,.string ho,.bool wd,.int .i64 po,.string pa] 41 (0,0)):=by rw[tJ];exact setRow_heap _ _ _ _ _ _ (aK _ _)
   have ft:=Ih ((ed.below bZ.out aC).below aU);have fw:Below w.heap.size w W2:=ac (ac bi aC) aU;have vM:=fw.size;clear tJ aU cP bi aC;cases hp:Lz.bR s.data.toList with
   | none=>
     have Tv:(fD s.data.toList==0)=false:=by rw[rZ hp];rfl
     have HS:Hid (ys.map aq.src=Lz.dW (l.take (j+1))):=by show _=_;rw[fQ.out,hp,jl.out];simp
     clear hp fQ jl
     go_wp2_with fail
     go_roundw
     case rel=>exact⟨j+1,ys,by omega,by go_num,by omega,HS,ft.out,fw⟩
     case measure=>simp[intOf];omega
   | some y=>
     have Tv:(fD s.data.toList==0)=true:=by rw[(j3 hp).1];rfl
     have HS:Hid ((ys++[(aq.mk k t b sc ho wd po pa)]).map aq.src=Lz.dW (l.take (j+1))):=by
      show _=_;rw[fQ.out,hp,List.map_append,jl.out];show _++[aq.src (aq.mk k t b sc ho wd po pa)]=_++[y];rw[d7.out,(j3 hp).2]
     have bN:ys.flatMap aq.row++aq.row (aq.mk k t b sc ho wd po pa)=(ys++[(aq.mk k t b sc ho wd po pa)]).flatMap aq.row:=by rw[List.flatMap_append];simp
     have On:=Ih bN;obtain⟨c0,c1,c2,c3,c4,c5,c6,c7⟩:=yx ou;clear hp fQ jl bN ou
     go_wp2_with (at_builtin;refine wpList_append_own _ rfl (.tmp 23) (.tmp 25) 39 rfl w.heap.size 41 i0 (.agg #[.int .i64 0,.string ⟨#[]⟩,.int .i64 0,.string ⟨#[]⟩,.string ⟨#[]⟩,.bool false,.int .i64 0,.string ⟨#[]⟩]) 8 96 Tryz.underlying39 hi ig fs fk rfl (by decide) _ _ _ rfl (World.ownsRow.alloc ft.out _) ⟨W2.heap.size,0,none⟩ 1 1 (aq.row (aq.mk k t b sc ho wd po pa)) rfl rfl (C0 W2 (aq.row (aq.mk k t b sc ho wd po pa)) _) (by simp[aq.row,Value.oneCell']) (by unfold maxLen;omega) (by omega) (by simp;omega) ?_)
     intro v' w3 aE aV _;have cq:=Below.grown1 fw ft.out aV vM (Nat.le_refl _);rw[On.out]at aE
     have eu:ed w3 w.heap.size v' (ys++[(aq.mk k t b sc ho wd po pa)]):=by
      unfold ed;rw[List.length_append];exact aE
     have ep:=Ih eu;clear aE aV eu c0 c1 c2 c3 c4 c5 c6 c7
     go_wp2
     go_roundw
     case rel=>exact⟨j+1,_,by omega,by go_num,by rw[List.length_append];simp;omega,HS,ep.out,cq⟩
     case measure=>simp[intOf];omega
  ·have dH:¬(j:Int)<(n:Int):=by omega
   have HV:Hid (ys.map aq.src=Lz.dW l):=by
    show _=_;rw[jl.out,List.take_of_length_le (by rw[<-HL.out,List.length_map,<-HN.out];omega)]
   clear jl
   go_wp2_with fail
   go_ret;exact⟨_,ys,rfl,HV,aQ,bi⟩
attribute [local go_sem ↓] Go.wp_at_zero Go.wp_at_succ
theorem tG (x:aq):(aq.row x).length=8:=rfl
theorem Tf:∀(ys:List aq) (j:Nat) (x:aq) (k:Nat),ys[j]? =some x->k<8->(ys.flatMap aq.row)[j*8+k]? =(aq.row x)[k]?
 | [],j,x,k,h,_=>by simp at h
 | y::r,0,x,k,h,hk=>by
   obtain rfl:y=x:=by simpa using h
   rw[List.flatMap_cons,List.getElem?_append_left (by rw[tG];omega),Nat.zero_mul,Nat.zero_add]
 | y::r,j+1,x,k,h,hk=>by
   have h':r[j]? =some x:=by simpa using h
   rw[List.flatMap_cons,List.getElem?_append_right (by rw[tG];omega),tG,show(j+1)*8+k-8=j*8+k by omega];exact Tf r j x k h' hk
def zg (w:World) (v:Value) (ys:List aq):Prop:=
 ∃(a:Option Addr) (c:Nat),v=.slice a ys.length c/\∀(j:Nat) (x:aq),ys[j]? =some x->∃g,a=some ⟨g,0,none⟩/\g<w.heap.size/\∀(k:Nat) (u:Value),(aq.row x)[k]? =some u->w.cell? ⟨g,j*8+k,none⟩=some u
theorem ed.at {w:World} {B:Nat} {v:Value} {ys:List aq} (h:ed w B v ys):zg w v ys:=by
 obtain⟨h1,h2⟩:=h;rcases h2 with⟨rfl,hn⟩|⟨g,cap,ir,rfl,hg,hh,hc,_,iV,ht⟩
 ·have:ys=[]:=List.length_eq_zero_iff.1 hn;subst this;exact⟨none,0,rfl,fun j x hj=>by simp at hj⟩
 ·refine⟨some ⟨g,0,none⟩,cap,rfl,fun j x hj=>⟨g,rfl,aI hh,fun k u hk=>?_⟩⟩;have XI:k<8:=by rw[<-tG x];exact(List.getElem?_eq_some_iff.1 hk).1
  have jR:j<ys.length:=(List.getElem?_eq_some_iff.1 hj).1;have h3:=Tf ys j x k hj XI;rw[hk,<-ht,List.getElem?_take_of_lt (by omega)]at h3;exact rowAt hh (j*8+k) u (by rw[<-Array.getElem?_toList];exact h3)
theorem uZ (v:Value) (ys:List aq) (b0 b1 b2:Value) (p:aq->Bool) (w:World) (h:zg w v ys) (hL:ys.length<=100000)
  (hp:∀(W:World) (x:aq),x∈ys->Below w.heap.size w W->Calls Tryz.prog 16 #[x.val,b0,b1,b2] W fun e w'=>e=.returned (.bool (p x))/\Below w.heap.size w w'):
  Calls Tryz.prog 36 #[v,.func (.func 16) #[] #[b0,b1,b2]] w fun e w'=>∃r:Int,e=.returned (.int .i64 r)/\Hid (decide (0<=r)=ys.any p)/\Below w.heap.size w w':=by
 obtain⟨a,c,rfl,hx⟩:=h;have Hx:=Ih hx;have Hp:=Ih hp;obtain⟨n,hn⟩:∃n,n=ys.length:=⟨_,rfl⟩;rw[<-hn];rw[<-hn]at hL;have HN:=Ih hn;clear hx hp hn;go_enter Tryz.func36,Tryz.ntmps36
 go_wp2_with fail
 go_loopw [8] (fun i wr=>∃j:Nat,j<=n/\i=.int .i64 j/\Hid ((ys.take j).any p=false)/\Below w.heap.size w wr) (fun i _=>n-(intOf i).toNat)
 case atStart=>exact⟨0,Nat.zero_le _,rfl,Ih (by simp),Below.refl _ _⟩
 case round=>
  obtain⟨j,hj,rfl,hT,bi⟩:=hrel;by_cases aN:j<n
  ·have dH:(j:Int)<(n:Int):=by omega
   have Aj:(0:Int)<=(j:Int):=by omega
   obtain⟨x,hx⟩:∃x,ys[j]? =some x:=⟨_,List.getElem?_eq_getElem (by rw[<-HN.out];exact aN)⟩;obtain⟨g,rfl,hg,hc⟩:=Hx.out j x hx;have yB:∀(k:Nat) (u:Value),(aq.row x)[k]? =some u->wr.cell? ⟨g,j*8+k,none⟩=some u:=fun k u hk=>by rw[bi.cell (p:=⟨g,j*8+k,none⟩) hg];exact hc k u hk
   have cP:=Ih (Hp.out wr x (List.mem_of_getElem? hx) bi);have hst:(ys.take (j+1)).any p=p x:=by rw[List.take_add_one,hx,List.any_append,hT.out];simp
   have ey:p x=true->ys.any p=true:=fun h=>by rw[List.any_eq_true];exact⟨x,List.mem_of_getElem? hx,h⟩
   obtain⟨k,t,b,sc,ho,wd,po,pa⟩:=x;have c0:=yB 0 _ rfl;have c1:=yB 1 _ rfl;have c2:=yB 2 _ rfl;have c3:=yB 3 _ rfl;have c4:=yB 4 _ rfl;have c5:=yB 5 _ rfl;have c6:=yB 6 _ rfl;have c7:=yB 7 _ rfl;have fQ:=Ih hst;have fZ:=Ih ey;clear hx hc yB hst ey hT
   dsimp only at c0 c1 c2 c3 c4 c5 c6 c7
   rw[Nat.add_zero]at c0
   dsimp only[aq.val]at cP
   cases PD:p (aq.mk k t b sc ho wd po pa)with
   | true=>
     rw[PD]at cP;have HV:Hid (decide ((0:Int)<=(j:Int))=ys.any p):=by show _=_;rw[fZ.out PD];exact decide_eq_true Aj
     clear PD fQ fZ
     go_wp2_with fail
     refine cP.out.mono ?_;rintro e w5 ⟨rfl,dB⟩
     go_wp2_with fail
     go_ret;exact⟨_,rfl,HV,dB⟩
   | false=>
     rw[PD]at cP;have HS:Hid ((ys.take (j+1)).any p=false):=by show _=_;rw[fQ.out,PD]
     clear PD fQ fZ
     go_wp2_with fail
     refine cP.out.mono ?_;rintro e w5 ⟨rfl,dB⟩
     go_wp2_with fail
     go_roundw
     case rel=>exact⟨j+1,by omega,by go_num,HS,dB⟩
     case measure=>simp[intOf];omega
  ·have dH:¬(j:Int)<(n:Int):=by omega
   have HV:Hid (decide ((0:Int)<= -1)=ys.any p):=by
    show _=_;rw[<-List.take_of_length_le (l:=ys) (i:=j) (by rw[<-HN.out];omega),hT.out];rfl
   clear hT
   go_wp2_with fail
   go_ret;exact⟨-1,rfl,HV,bi⟩
theorem pQ (v:Value) (ys:List aq) (b0 b1 b2:Value) (p:aq->Bool) (w:World) (h:zg w v ys) (hL:ys.length<=100000)
  (hp:∀(W:World) (x:aq),x∈ys->Below w.heap.size w W->Calls Tryz.prog 16 #[x.val,b0,b1,b2] W fun e w'=>e=.returned (.bool (p x))/\Below w.heap.size w w'):
  Calls Tryz.prog 14 #[v,.func (.func 16) #[] #[b0,b1,b2]] w (cn (ys.any p) w):=by
 have cI:=Ih (uZ v ys b0 b1 b2 p w h hL hp);clear h hp;go_enter Tryz.func14,Tryz.ntmps14
 go_wp2_with fail
 refine cI.out.mono ?_;rintro e w5 ⟨r,rfl,hr,dB⟩
 go_wp2_with fail
 go_ret;exact⟨by rw[<-hr.out];rfl,dB⟩
theorem N7 (x:aq) (r0 r1 r2:Nat) (v:Value) (u:Lz.af) (v2:Value) (own:Lz.af) (red:Bool) (cs1 OJ:Array Value) (j7:v=.agg cs1) (qH:v2=.agg OJ) (W:World) (Tz:W.heap[r0]? =some (.cells cs1 26 (0,0))) (j9:W.heap[r1]? =some (.cells OJ 26 (0,0))) (ou:W.cell? ⟨r2,0,none⟩=some (.bool red))
  (hE:mh W) (hv:bz W v u) (hU:UOk u) (hX:SOk x) (gQ:bz W v2 own) (hO:UOk own):
  Calls Tryz.prog 16 #[x.val,.pointer (some ⟨r0,0,none⟩),.pointer (some ⟨r1,0,none⟩),.pointer (some ⟨r2,0,none⟩)] W (cn (Lz.jr u x.src own red) W):=by
 obtain⟨aS,bW,bF,bG,bn,bA,bL,a1,n1,c1,bB,bK,bX,bY,rfl,_,_,_,_,_,hv⟩:=hv.letters;obtain⟨eL,gX,gV,fV,eA,gh,gZ,a2,n2,c2,bV,fW,gW,gY,rfl,_,_,_,_,_,gQ⟩:=gQ.letters;obtain rfl:=(Value.agg.inj j7).symm;obtain rfl:=(Value.agg.inj qH).symm;obtain⟨k,t,b,sc,ho,wd,po,pa⟩:=x;obtain⟨V,hV⟩:∃V,V=W.alloc (.cells #[.int .i64 k,.string t,.int .i64 b,.string sc,.string ho,.bool wd,.int .i64 po,.string pa] 41):=⟨_,rfl⟩;have AF:Below W.heap.size W V:=by rw[hV];exact(Below.refl _ W).alloc (Nat.le_refl _) _
 have hB:V.heap[W.heap.size]? =some (.cells #[.int .i64 k,.string t,.int .i64 b,.string sc,.string ho,.bool wd,.int .i64 po,.string pa] 41 (0,0)):=by rw[hV];exact aK _ _
 have cO:=Ih (LW _ u ⟨k,t,b,sc,ho,wd,po,pa⟩ _ own red V (hE.below AF) (hv.below AF) hU hX (gQ.below AF) hO);obtain⟨x0,x1,x2,x3,x4,x5,x6,x7,x8,x9,rH,rC⟩:=fO ((AF.block _ (aI Tz)).trans Tz);obtain⟨y0,y1,y2,y3,y4,y5,y6,y7,y8,y9,wT,xb⟩:=fO ((AF.block _ (aI j9)).trans j9);obtain⟨z0,z1,z2,z3,z4,z5,z6,z7⟩:=yx hB;have qB:V.cell? ⟨r2,0,none⟩=some (.bool red):=by rw[AF.cell (p:=⟨r2,0,none⟩) (World.block_lt_of_cell? _ _ ou)];exact ou
 dsimp only[aq.val]at cO⊢
 have HV:=Ih hV;clear hV hE hv gQ hU hX hO Tz j9 ou hB j7 qH;go_enter Tryz.func16,Tryz.ntmps16
 go_upto_region 1 with fail
 rw[<-HV.out]
 go_wp2_with fail
 refine cO.out.mono ?_;rintro e w5 ⟨rfl,dB⟩
 go_wp2_with fail
 go_ret;exact⟨rfl,ac AF dB⟩
theorem AY (v:Value) (u:Lz.af) (lv:Value) (l:List (List UInt8)) (v2:Value) (own:Lz.af) (red:Bool) (w:World) (hE:mh w) (hv:bz w v u) (hU:UOk u) (gQ:bz w v2 own) (hO:UOk own) (hl:dy w lv l) (hL:l.length<=10000) (hZ:∀x,x∈l->x.length<=90000):
  Calls Tryz.prog 6 #[v,lv,v2,.bool red] w (cn (Lz.anyM u l own red) w):=by
 obtain⟨aS,bW,bF,bG,bn,bA,bL,a1,n1,c1,bB,bK,bX,bY,rfl,_,_,_,_,_,hv⟩:=hv.letters;obtain⟨eL,gX,gV,fV,eA,gh,gZ,a2,n2,c2,bV,fW,gW,gY,rfl,_,_,_,_,_,gQ⟩:=gQ.letters;obtain⟨W,hW⟩:∃W,W=((w.alloc (.cells (C12 aS bW bF bG bn bA bL a1 n1 c1 bB bK bX bY) 26)).alloc (.cells (C12 eL gX gV fV eA gh gZ a2 n2 c2 bV fW gW gY) 26)).alloc (.cells #[.bool red] 4):=⟨_,rfl⟩;have bg:Below w.heap.size w W:=by rw[hW];exact(((Below.refl _ w).alloc (Nat.le_refl _) _).alloc (by simp) _).alloc (by simp;omega) _
 have ko:W.heap[w.heap.size]? =some (.cells (C12 aS bW bF bG bn bA bL a1 n1 c1 bB bK bX bY) 26 (0,0)):=by
  rw[hW,Below.heap_alloc _ _ _ (by simp;omega),Below.heap_alloc _ _ _ (by simp)];exact aK _ _
 have td:W.heap[w.heap.size+1]? =some (.cells (C12 eL gX gV fV eA gh gZ a2 n2 c2 bV fW gW gY) 26 (0,0)):=by
  rw[hW,Below.heap_alloc _ _ _ (by simp)];exact gr _ _ _
 have hRB:W.heap[w.heap.size+1+1]? =some (.cells #[.bool red] 4 (0,0)):=by
  rw[hW];have:=aK ((w.alloc (.cells (C12 aS bW bF bG bn bA bL a1 n1 c1 bB bK bX bY) 26)).alloc (.cells (C12 eL gX gV fV eA gh gZ a2 n2 c2 bV fW gW gY) 26)) (.cells #[.bool red] 4);simpa using this
 obtain⟨R,hR⟩:∃R,R=Lz.anyM u l own red:=⟨_,rfl⟩;rw[<-hR];obtain⟨q,hq⟩:∃q,q=Lz.mq l:=⟨_,rfl⟩;have Il:∀x,x∈l->x.length<=1000000:=fun x hx=>by have:=hZ x hx;omega
 have cN:Hid (Calls Tryz.prog 13 #[lv] W (cn q W)):=Ih (by rw[hq];exact Jd lv l W (hl.below bg) (by omega) (fun x hx=>by have:=hZ x hx;omega));have cL:Hid (∀V,Below W.heap.size W V->Calls Tryz.prog 15 #[lv] V (Ia l V)):=Ih (fun V hV=>L4 lv l V ((hE.below bg).below hV).s ((hl.below bg).below hV) hL Il)
 have cC:Hid (∀V (sv:Value) (ys:List aq),Below W.heap.size W V->zg V sv ys->Hid (ys.map aq.src=Lz.dW l)->Calls Tryz.prog 14 #[sv,.func (.func 16) #[] #[.pointer (some ⟨w.heap.size,0,none⟩),.pointer (some ⟨w.heap.size+1,0,none⟩),.pointer (some ⟨w.heap.size+1+1,0,none⟩)]] V (cn ((Lz.dW l).any fun x=>Lz.jr u x own red) V)):=Ih (by
  intro V sv ys hV hs hy
  have bv:ys.length<=100000:=by
   rw[<-List.length_map (f:=aq.src),hy.out];have:=List.length_filterMap_le Lz.bR l;unfold Lz.dW;omega
  have h:=pQ sv ys (.pointer (some ⟨w.heap.size,0,none⟩)) (.pointer (some ⟨w.heap.size+1,0,none⟩)) (.pointer (some ⟨w.heap.size+1+1,0,none⟩)) (fun x=>Lz.jr u x.src own red) V hs bv (by
   intro V2 x hx hV2;have tJ:Below W.heap.size W V2:=hV.trans (hV2.mono hV.size);have oZ:Below w.heap.size w V2:=bg.trans (tJ.mono bg.size)
   have hX:SOk x:=by
    have hm:x.src∈Lz.dW l:=by rw[<-hy.out];exact List.mem_map.2 ⟨x,hx,rfl⟩
    unfold Lz.dW at hm;obtain⟨s,bn,eA⟩:=List.mem_filterMap.1 hm;have hf:=(Lz.X5 s x.src 90000 eA (hZ s bn)).1;refine⟨?_,?_,?_⟩
    ·rw[<-aa];exact Nat.le_trans hf.fscheme (by omega)
    ·rw[<-aa];exact hf.fhost
    ·rw[<-aa];exact Nat.le_trans hf.fpath (by omega)
   refine(N7 x w.heap.size (w.heap.size+1) (w.heap.size+1+1) _ u _ own red _ _ rfl rfl V2 ((tJ.block _ (aI ko)).trans ko) ((tJ.block _ (aI td)).trans td) ?_ (hE.below oZ) (hv.below oZ) hU hX (gQ.below oZ) hO).mono fun e w' ⟨h1,h2⟩=>⟨h1,hV2.trans (h2.mono hV2.size)⟩;rw[tJ.cell (p:=⟨w.heap.size+1+1,0,none⟩) (aI hRB)];exact rowAt hRB 0 (.bool red) rfl)
  have he:ys.any (fun x=>Lz.jr u x.src own red)=(Lz.dW l).any fun x=>Lz.jr u x own red:=by
   rw[<-hy.out,List.any_map];rfl
  rw[he]at h;exact h)
 have HV:Hid (R=(!q&&(Lz.dW l).any fun x=>Lz.jr u x own red)):=by show _=_;rw[hR,hq];rfl
 obtain⟨q2,wW⟩:∃q2,q2=(Lz.dW l).any fun x=>Lz.jr u x own red:=⟨_,rfl⟩;rw[<-wW]at cC HV;have HW:=Ih hW;clear hR hq wW hW ko td hRB hE hv gQ hU hO hl hZ Il;cases q with
 | true=>
   have HQ:Hid (R=false):=by show _=_;rw[HV.out];rfl
   go_enter Tryz.func6,Tryz.ntmps6
   go_upto_region 1 with fail
   rw[<-HW.out]
   go_wp2_with fail
   refine cN.out.mono ?_;rintro e w5 ⟨rfl,dB⟩
   go_wp2_with fail
   go_ret;exact⟨by rw[HQ.out];rfl,ac bg dB⟩
 | false=>
   have HQ:Hid (R=q2):=by show _=_;rw[HV.out];rfl
   go_enter Tryz.func6,Tryz.ntmps6
   go_upto_region 1 with fail
   rw[<-HW.out]
   go_wp2_with fail
   refine cN.out.mono ?_;rintro e w5 ⟨rfl,dB⟩
   go_wp2_with fail
   refine(cL.out _ dB).mono ?_;rintro e w6 ⟨sv,ys,rfl,jl,hso,kW⟩;have Gl:Below W.heap.size W w6:=ac dB kW;have hsa:=ed.at hso
   go_wp2_with fail
   refine(cC.out w6 _ ys Gl hsa jl).mono ?_;rintro e w7 ⟨rfl,vX⟩
   go_wp2_with fail
   go_ret;exact⟨by rw[HQ.out];rfl,ac (ac bg Gl) vX⟩
attribute [local go_sem ↓] Go.wp_at_zero Go.wp_at_succ
theorem vp (s:ByteArray) (w:World) (hE:jL w):Calls Tryz.prog 21 #[.string s,.pointer none] w fun e w'=>∃(v:Value) (n:Int) (u:Lz.af) (q:Bool),e=.returned (.tuple #[v,.int .i64 n])/\Below w.heap.size w w'/\bz w' v u/\(n==0)=q/\Hid ((q=true->Lz.du s.data.toList none=.ok u/\UOk u)/\(q=false->∃k,Lz.du s.data.toList none=.er k)):=by
 refine(uC s w hE).mono ?_;rintro e w' ⟨v,n,he,hb,bt⟩;obtain⟨u,h1,h2⟩:=bt.cases;rcases h2 with⟨h3,rfl⟩|⟨k,h3,rfl,rfl⟩
 ·exact⟨v,0,u,true,he,hb,h1.val,rfl,Ih ⟨fun _=>⟨h3,⟨(Lz.nC h3).1,by have:=(Lz.nC h3).2;omega⟩⟩,nofun⟩⟩
 ·have hk:(k:Int)≠0:=by have:=Lz.nE h3;omega
  exact⟨v,(k:Int),qq,false,he,hb,h1.val,beq_eq_false_iff_ne.2 hk,Ih ⟨nofun,fun _=>⟨k,h3⟩⟩⟩
def Yv (a b:Lz.UR) (v:List UInt8):Bool:=match a,b with
 | .ok own,.ok u=>Lz.anyM u [v] own false
 | _,_=>false
def RD:List UInt8:=[104,116,116,112,115,58,47,47,97,46,98,47]
theorem JF (s v:List UInt8):Lz.fU s v=Yv (Lz.du RD none) (Lz.du s none) v:=by
 unfold Lz.fU Yv RD;generalize Lz.du [104,116,116,112,115,58,47,47,97,46,98,47] none=a;generalize Lz.du s none=b;cases a<;>cases b<;>rfl
theorem D9 (w:World) (x:ByteArray):dy (w.alloc (.cells #[.string x] 9)) (.slice (some ⟨w.heap.size,0,none⟩) 1 1) [x.data.toList]:=
 ⟨some ⟨w.heap.size,0,none⟩,1,[x],rfl,rfl,fun j y hj=>⟨w.heap.size,0,rfl,by simp,by
  have Aj:j=0:=by have:=(List.getElem?_eq_some_iff.1 hj).1;simpa using this
  subst Aj;obtain rfl:x=y:=by simpa using hj
  exact rowAt (aK w (.cells #[.string x] 9)) 0 (.string x) rfl⟩⟩
theorem Jt (s v:ByteArray) (hv:v.size<=90000) (w:World) (hE:mh w):Calls Tryz.prog 8 #[.string s,.string v] w (cn (Lz.fU s.data.toList v.data.toList) w):=by
 obtain⟨R,hR⟩:∃R,R=Lz.fU s.data.toList v.data.toList:=⟨_,rfl⟩;rw[<-hR];rw[JF]at hR;obtain⟨y0,SL⟩:∃r,r=Lz.du RD none:=⟨_,rfl⟩;obtain⟨y1,Le⟩:∃r,r=Lz.du s.data.toList none:=⟨_,rfl⟩;rw[<-SL,<-Le]at hR;have HR:=Ih hR;have kA0:=vp ⟨#[104,116,116,112,115,58,47,47,97,46,98,47]⟩ w hE.u;rw[show(⟨#[104,116,116,112,115,58,47,47,97,46,98,47]⟩:ByteArray).data.toList=RD from rfl,<-SL]at kA0;have kA:=Ih kA0;have kB0:=fun V (hV:Below w.heap.size w V)=>vp s V (hE.below hV).u;rw[<-Le]at kB0;have kB:=Ih kB0;clear kA0 kB0 SL Le;have HE:=Ih hE;clear hR hE;go_enter Tryz.func8,Tryz.ntmps8
 go_wp2_with fail
 refine kA.out.mono ?_;rintro e w1 ⟨v1,m1,u1,q1,rfl,aC,o8,vG,fs⟩;obtain⟨aS,bW,bF,bG,bn,bA,bL,a1,n1,c1,bB,bK,bX,bY,rfl,_,_,_,_,_,o8⟩:=o8.letters
 go_upto_region 2 with fail
 obtain⟨W1,yy⟩:∃W1,W1=w1.alloc (.cells (C12 aS bW bF bG bn bA bL a1 n1 c1 bB bK bX bY) 26):=⟨_,rfl⟩;have e1:Below w1.heap.size w1 W1:=by rw[yy];exact(Below.refl _ w1).alloc (Nat.le_refl _) _
 have r1:W1.heap[w1.heap.size]? =some (.cells (C12 aS bW bF bG bn bA bL a1 n1 c1 bB bK bX bY) 26 (0,0)):=by rw[yy];exact aK _ _
 have OL:=o8.below e1;have KS:Below w.heap.size w W1:=ac aC e1;rw[<-yy];have R1:=Ih r1;have Zh:=Ih OL;have Zi:=Ih KS;clear yy o8 aC e1 kA r1 OL KS
 go_wp2_with fail
 refine(kB.out _ Zi.out).mono ?_;rintro e w2 ⟨v2,m2,u2,q2,rfl,aU,nK,rF,fk⟩;obtain⟨eL,gX,gV,fV,eA,gh,gZ,a2,n2,c2,bV,fW,gW,gY,rfl,_,_,_,_,_,nK⟩:=nK.letters
 go_upto_region 3 with fail
 obtain⟨W2,tJ⟩:∃W2,W2=w2.alloc (.cells (C12 eL gX gV fV eA gh gZ a2 n2 c2 bV fW gW gY) 26):=⟨_,rfl⟩;have e2:Below w2.heap.size w2 W2:=by rw[tJ];exact(Below.refl _ w2).alloc (Nat.le_refl _) _
 have r2:W2.heap[w2.heap.size]? =some (.cells (C12 eL gX gV fV eA gh gZ a2 n2 c2 bV fW gW gY) 26 (0,0)):=by rw[tJ];exact aK _ _
 have e12:Below W1.heap.size W1 W2:=ac aU e2;have Xj:W2.heap[w1.heap.size]? =some (.cells (C12 aS bW bF bG bn bA bL a1 n1 c1 bB bK bX bY) 26 (0,0)):=(e12.block _ (aI R1.out)).trans R1.out;have Dw:=Zh.out.below e12;have O1:=nK.below e2;have FV:Below w.heap.size w W2:=ac Zi.out e12;rw[<-tJ];clear tJ nK aU e2 kB e12 R1 Zh;have Zu:=Ih Dw;have F5:=Ih O1;clear Dw O1;cases q1 with
 | false=>
   obtain⟨k,hk⟩:=fs.out.2 rfl;have HV:Hid (R=false):=by show _=_;rw[HR.out,hk];rfl
   clear hk HR
   go_wp2_with fail
   go_ret;exact⟨by rw[HV.out];rfl,FV⟩
 | true=>
 cases q2 with
 | false=>
   obtain⟨k,hk⟩:=fk.out.2 rfl;have kq:=(fs.out.1 rfl).1;have HV:Hid (R=false):=by show _=_;rw[HR.out,hk,kq];rfl
   clear hk kq HR
   go_wp2_with fail
   go_ret;exact⟨by rw[HV.out];rfl,FV⟩
 | true=>
   obtain⟨kq,oW⟩:=fs.out.1 rfl;obtain⟨Sm,sB⟩:=fk.out.1 rfl;have HV:Hid (R=Lz.anyM u2 [v.data.toList] u1 false):=by show _=_;rw[HR.out,Sm,kq];rfl
   have ea:Below W2.heap.size W2 (W2.alloc (.cells #[.string v] 9)):=(Below.refl _ _).alloc (Nat.le_refl _) _
   have cA:=Ih (AY _ u2 _ [v.data.toList] _ u1 false (W2.alloc (.cells #[.string v] 9)) ((HE.out.below FV).below ea) (F5.out.below ea) sB (Zu.out.below ea) oW (D9 W2 v) (by simp) (fun x hx=>by
    obtain rfl:x=v.data.toList:=by simpa using hx
    rw[aa];exact hv))
   obtain⟨x0,x1,x2,x3,x4,x5,x6,x7,x8,x9,rH,rC⟩:=fO r2;obtain⟨y0,y1,y2,y3,y4,y5,y6,y7,y8,y9,wT,xb⟩:=fO ((ea.block _ (aI Xj)).trans Xj);clear kq Sm HR oW sB fs fk
   go_wp2_with fail
   refine cA.out.mono ?_;rintro e w7 ⟨rfl,vX⟩
   go_wp2_with fail
   go_ret;exact⟨by rw[HV.out];rfl,ac (ac FV ea) vX⟩
attribute [local go_sem ↓] Go.wp_at_zero Go.wp_at_succ
theorem fE (s v:ByteArray) (b:Bool) (h:Lz.fU s.data.toList v.data.toList=b) (hv:v.size<=90000) (w:World) (hE:mh w):Calls Tryz.prog 8 #[.string s,.string v] w (cn b w):=h▸Jt s v hv w hE
theorem sd (w:World) (hE:mh w):Calls Tryz.prog 4 #[] w (cn true w):=by
 have HE:=Ih hE;have ek:Below w.heap.size w w:=Below.refl _ _;have k0:Hid (∀V,Below w.heap.size w V->Calls Tryz.prog 8 #[.string ⟨#[104,116,116,112,115,58,47,47,97,46,98,47,120]⟩,.string ⟨#[39,115,101,108,102,39]⟩] V fun e w'=>e=.returned (.bool true)/\Below w.heap.size w w'):=Ih (fun V hV=>(fE ⟨#[104,116,116,112,115,58,47,47,97,46,98,47,120]⟩ ⟨#[39,115,101,108,102,39]⟩ true Lz.Ub (by decide) V (HE.out.below hV)).mono fun e w' ⟨h1,h2⟩=>⟨h1,ac hV h2⟩);have k1:Hid (∀V,Below w.heap.size w V->Calls Tryz.prog 8 #[.string ⟨#[104,116,116,112,58,47,47,97,46,98,47,120]⟩,.string ⟨#[39,115,101,108,102,39]⟩] V fun e w'=>e=.returned (.bool false)/\Below w.heap.size w w'):=Ih (fun V hV=>(fE ⟨#[104,116,116,112,58,47,47,97,46,98,47,120]⟩ ⟨#[39,115,101,108,102,39]⟩ false Lz.Uj (by decide) V (HE.out.below hV)).mono fun e w' ⟨h1,h2⟩=>⟨h1,ac hV h2⟩)
 have k2:Hid (∀V,Below w.heap.size w V->Calls Tryz.prog 8 #[.string ⟨#[104,116,116,112,115,58,47,47,97,46,98,58,52,52,52,47]⟩,.string ⟨#[39,115,101,108,102,39]⟩] V fun e w'=>e=.returned (.bool false)/\Below w.heap.size w w'):=Ih (fun V hV=>(fE ⟨#[104,116,116,112,115,58,47,47,97,46,98,58,52,52,52,47]⟩ ⟨#[39,115,101,108,102,39]⟩ false Lz.Vi (by decide) V (HE.out.below hV)).mono fun e w' ⟨h1,h2⟩=>⟨h1,ac hV h2⟩);have k3:Hid (∀V,Below w.heap.size w V->Calls Tryz.prog 8 #[.string ⟨#[104,116,116,112,115,58,47,47,99,46,97,46,98,47]⟩,.string ⟨#[42,46,97,46,98]⟩] V fun e w'=>e=.returned (.bool true)/\Below w.heap.size w w'):=Ih (fun V hV=>(fE ⟨#[104,116,116,112,115,58,47,47,99,46,97,46,98,47]⟩ ⟨#[42,46,97,46,98]⟩ true Lz.Uk (by decide) V (HE.out.below hV)).mono fun e w' ⟨h1,h2⟩=>⟨h1,ac hV h2⟩)
 have k4:Hid (∀V,Below w.heap.size w V->Calls Tryz.prog 8 #[.string ⟨#[104,116,116,112,115,58,47,47,97,46,98,47]⟩,.string ⟨#[42,46,97,46,98]⟩] V fun e w'=>e=.returned (.bool false)/\Below w.heap.size w w'):=Ih (fun V hV=>(fE ⟨#[104,116,116,112,115,58,47,47,97,46,98,47]⟩ ⟨#[42,46,97,46,98]⟩ false Lz.UY (by decide) V (HE.out.below hV)).mono fun e w' ⟨h1,h2⟩=>⟨h1,ac hV h2⟩);have k5:Hid (∀V,Below w.heap.size w V->Calls Tryz.prog 8 #[.string ⟨#[104,116,116,112,58,47,47,120,47]⟩,.string ⟨#[42]⟩] V fun e w'=>e=.returned (.bool true)/\Below w.heap.size w w'):=Ih (fun V hV=>(fE ⟨#[104,116,116,112,58,47,47,120,47]⟩ ⟨#[42]⟩ true Lz.T9 (by decide) V (HE.out.below hV)).mono fun e w' ⟨h1,h2⟩=>⟨h1,ac hV h2⟩);have k6:Hid (∀V,Below w.heap.size w V->Calls Tryz.prog 8 #[.string ⟨#[100,97,116,97,58,49]⟩,.string ⟨#[42]⟩] V fun e w'=>e=.returned (.bool false)/\Below w.heap.size w w'):=Ih (fun V hV=>(fE ⟨#[100,97,116,97,58,49]⟩ ⟨#[42]⟩ false Lz.UI (by decide) V (HE.out.below hV)).mono fun e w' ⟨h1,h2⟩=>⟨h1,ac hV h2⟩)
 have k7:Hid (∀V,Below w.heap.size w V->Calls Tryz.prog 8 #[.string ⟨#[104,116,116,112,115,58,47,47,120,47,112,47,113]⟩,.string ⟨#[120,47,112,47]⟩] V fun e w'=>e=.returned (.bool true)/\Below w.heap.size w w'):=Ih (fun V hV=>(fE ⟨#[104,116,116,112,115,58,47,47,120,47,112,47,113]⟩ ⟨#[120,47,112,47]⟩ true Lz.UQ (by decide) V (HE.out.below hV)).mono fun e w' ⟨h1,h2⟩=>⟨h1,ac hV h2⟩);have k8:Hid (∀V,Below w.heap.size w V->Calls Tryz.prog 8 #[.string ⟨#[104,116,116,112,115,58,47,47,120,47,112]⟩,.string ⟨#[120,47,112,47]⟩] V fun e w'=>e=.returned (.bool false)/\Below w.heap.size w w'):=Ih (fun V hV=>(fE ⟨#[104,116,116,112,115,58,47,47,120,47,112]⟩ ⟨#[120,47,112,47]⟩ false Lz.Vl (by decide) V (HE.out.below hV)).mono fun e w' ⟨h1,h2⟩=>⟨h1,ac hV h2⟩)
 have k9:Hid (∀V,Below w.heap.size w V->Calls Tryz.prog 8 #[.string ⟨#[104,116,116,112,115,58,47,47,49,50,55,46,48,46,48,46,49,47]⟩,.string ⟨#[49,50,55,46,48,46,48,46,49]⟩] V fun e w'=>e=.returned (.bool true)/\Below w.heap.size w w'):=Ih (fun V hV=>(fE ⟨#[104,116,116,112,115,58,47,47,49,50,55,46,48,46,48,46,49,47]⟩ ⟨#[49,50,55,46,48,46,48,46,49]⟩ true Lz.Vj (by decide) V (HE.out.below hV)).mono fun e w' ⟨h1,h2⟩=>⟨h1,ac hV h2⟩);have k10:Hid (∀V,Below w.heap.size w V->Calls Tryz.prog 8 #[.string ⟨#[104,116,116,112,115,58,47,47,49,50,55,46,48,46,48,46,50,47]⟩,.string ⟨#[49,50,55,46,48,46,48,46,50]⟩] V fun e w'=>e=.returned (.bool false)/\Below w.heap.size w w'):=Ih (fun V hV=>(fE ⟨#[104,116,116,112,115,58,47,47,49,50,55,46,48,46,48,46,50,47]⟩ ⟨#[49,50,55,46,48,46,48,46,50]⟩ false Lz.QR (by decide) V (HE.out.below hV)).mono fun e w' ⟨h1,h2⟩=>⟨h1,ac hV h2⟩);clear hE;go_enter Tryz.func4,Tryz.ntmps4
 go_wp2_with fail
 refine(k0.out _ ek).mono ?_;rintro e w1 ⟨rfl,aC⟩
 go_wp2_with fail
 refine(k1.out _ aC).mono ?_;rintro e w2 ⟨rfl,aU⟩
 go_wp2_with fail
 refine(k2.out _ aU).mono ?_;rintro e w3 ⟨rfl,cq⟩
 go_wp2_with fail
 refine(k3.out _ cq).mono ?_;rintro e w4 ⟨rfl,ex⟩
 go_wp2_with fail
 refine(k4.out _ ex).mono ?_;rintro e w5 ⟨rfl,dB⟩
 go_wp2_with fail
 refine(k5.out _ dB).mono ?_;rintro e w6 ⟨rfl,kW⟩
 go_wp2_with fail
 refine(k6.out _ kW).mono ?_;rintro e w7 ⟨rfl,vX⟩
 go_wp2_with fail
 refine(k7.out _ vX).mono ?_;rintro e w8 ⟨rfl,TH⟩
 go_wp2_with fail
 refine(k8.out _ TH).mono ?_;rintro e w9 ⟨rfl,Lf⟩
 go_wp2_with fail
 refine(k9.out _ Lf).mono ?_;rintro e w10 ⟨rfl,Ax⟩
 go_wp2_with fail
 refine(k10.out _ Ax).mono ?_;rintro e To ⟨rfl,F7⟩
 go_wp2_with fail
 go_ret;exact⟨rfl,F7⟩
end Go.Proofs.YtlcbhacofagedaaGreatDoor
