/-
  lazaretref26.One.
-/
import Derived.Test.YtlcbhacofagedaaGreatDoorY46
set_option maxHeartbeats 8000000
set_option maxRecDepth 100000
namespace Go.Proofs.YtlcbhacofagedaaGreatDoor
open Go.RowKit
attribute [local go_sem ↓] Go.wp_at_zero Go.wp_at_succ
theorem Cy {u:Lz.af} (h:UOk u):(Lz.ew u).length<=100000:=by
 have h1:=h.wq;have h2:(slS u.path).length=Lz.pl u.path:=rfl;unfold Lz.wq Lz.wt at h1;rw[nZ];have h3:=xZ u.opq u.path u.path.length;rw[List.take_length]at h3;omega
theorem Rr (k:Int) (t:ByteArray) (b:Int) (sc ho:ByteArray) (wd:Bool) (po:Int) (pa:ByteArray) (W:World):(Op.equalIn 10000 41 (.agg #[.int .i64 k,.string t,.int .i64 b,.string sc,.string ho,.bool wd,.int .i64 po,.string pa]) (.agg #[.int .i64 3,.string ⟨#[]⟩,.int .i64 0,.string ⟨#[]⟩,.string ⟨#[]⟩,.bool true,.int .i64 (-1),.string ⟨#[]⟩])).run Tryz.prog W=.ok (decide (aq.src ⟨k,t,b,sc,ho,wd,po,pa⟩=Lz.lJ)) W:=by
 have HI:=yp k t b sc ho wd po pa;go_simp
 (repeat' split)<;>simp_all
theorem Qr {ops:Array Oper} {rest:List Oper} {o:Oper} {a:Act} {w:World} {Q:Exit->Act->World->Prop} {k:Int} {t:ByteArray} {b:Int} {sc ho:ByteArray} {wd:Bool} {po:Int} {pa:ByteArray} {q:Bool} (hq:q=decide (aq.src ⟨k,t,b,sc,ho,wd,po,pa⟩=Lz.lJ)) (x y:Operand) (PA:o.guard=none) (hop:o.op=.binOp .eql 41 x y 41) (hx:a.eval x=(.agg #[.int .i64 k,.string t,.int .i64 b,.string sc,.string ho,.bool wd,.int .i64 po,.string pa])) (hy:a.eval y=(.agg #[.int .i64 3,.string ⟨#[]⟩,.int .i64 0,.string ⟨#[]⟩,.string ⟨#[]⟩,.bool true,.int .i64 (-1),.string ⟨#[]⟩]))
  (hk:wpList Tryz.prog ops Q rest (a.put o.dst (.bool q)) w):wpList Tryz.prog ops Q (o::rest) a w:=
 wpList_step fun K hK=>by
  rw[if_pos (by unfold Region.wanted;rw[PA])];have hgu:Tryz.prog.eqGuardType Tryz.prog.depth 41=false:=by kernel_rfl
  have h:=Rr k t b sc ho wd po pa w;rw[<-hq]at h
  have e:(execOp a.eval o).run Tryz.prog w=.ok (.value (.bool q)) w:=by
   unfold execOp;simp only[hop,hx,hy,Sem.run_bind,run_eqGuard_agg,hgu,run_eql_struct,h,Result.andThen_ok,Sem.run_pure]
  unfold Oper.wp;rw[e];exact hK _ _ hk
theorem IP (v:Value) (u:Lz.af) (x:aq) (v2:Value) (own:Lz.af) (red:Bool) (w:World) (hE:jL w) (hv:bz w v u) (hU:UOk u) (hX:SOk x) (hXp:x.path.size<=100000) (gQ:bz w v2 own) (hO:UOk own):Calls Tryz.prog 20 #[v,x.val,v2,.bool red] w (cn (Lz.jr u x.src own red) w):=by
 obtain⟨aS,bW,bF,bG,bn,bA,bL,a1,n1,c1,bB,bK,bX,bY,rfl,e0,e3,e4,e5,_,hv⟩:=hv.letters;obtain⟨eL,gX,gV,fV,eA,gh,gZ,a2,n2,c2,bV,fW,gW,gY,rfl,f0,_,_,_,_,gQ⟩:=gQ.letters;obtain⟨k,t,b,sc,ho,wd,po,pa⟩:=x;obtain⟨R,hR⟩:∃R,R=Lz.jr u (aq.src ⟨k,t,b,sc,ho,wd,po,pa⟩) own red:=⟨_,rfl⟩;rw[<-hR];obtain⟨sm,AA⟩:∃sm:ByteArray,sm=if sc.size=0 then eL else sc:=⟨_,rfl⟩;obtain⟨q1,FY⟩:∃q,q=Lz.oa u own:=⟨_,rfl⟩;obtain⟨q2,wW⟩:∃q,q=Lz.eo sc.data.toList aS.data.toList:=⟨_,rfl⟩;obtain⟨q3,FU⟩:∃q,q=decide (aq.src ⟨k,t,b,sc,ho,wd,po,pa⟩=Lz.lJ):=⟨_,rfl⟩;obtain⟨r1,oU⟩:∃q,q=Lz.eo sm.data.toList aS.data.toList:=⟨_,rfl⟩;obtain⟨r2,qB⟩:∃q,q=Lz.rX (aq.src ⟨k,t,b,sc,ho,wd,po,pa⟩) bn.data.toList:=⟨_,rfl⟩;obtain⟨r3,Ao⟩:∃q,q=Lz.tN (aq.src ⟨k,t,b,sc,ho,wd,po,pa⟩) u:=⟨_,rfl⟩;obtain⟨r4,AD⟩:∃q,q=Lz.mj pa.data.toList (Lz.ew u):=⟨_,rfl⟩;obtain⟨g1,DP⟩:∃d,d=Lz.kv u:=⟨_,rfl⟩;obtain⟨d1,xd⟩:∃d,d=Lz.dr aS.data.toList:=⟨_,rfl⟩
 have HH:Hid (Lz.j0 u (aq.src ⟨k,t,b,sc,ho,wd,po,pa⟩) own red=(bG&&((bn.data.toList != [])&&(r1&&(r2&&(r3&&(red||r4))))))):=by
  show _=_
  have hs:(if(aq.src ⟨k,t,b,sc,ho,wd,po,pa⟩).scheme=[]then own.scheme else(aq.src ⟨k,t,b,sc,ho,wd,po,pa⟩).scheme)=sm.data.toList:=by
   show(if sc.data.toList=[]then own.scheme else sc.data.toList)=_;rw[AA,f0];by_cases h:sc.size=0
   ·rw[if_pos h,if_pos (List.length_eq_zero_iff.1 (by rw[aa];exact h))]
   ·rw[if_neg h,if_neg (fun e=>h (by rw[<-aa,e];rfl))]
  rw[oU,qB,Ao,AD];unfold Lz.j0;rw[hs,e0,e3,e4];rfl
 have HP:Hid (r3=if po= -2 then true else if po= -1 then decide (bA<0)||bA==d1 else po==g1):=by
  show _=_;rw[Ao,DP,xd];unfold Lz.tN;rw[e5,e0];rfl
 have HV:Hid (R=if k=1 then(t.data.toList==Lz.uH&&q1)else if k=2 then q2 else if k=3 then(if q3=true then Lz.yN aS.data.toList||aS.data.toList==eL.data.toList else(bG&&((bn.data.toList != [])&&(r1&&(r2&&(r3&&(red||r4)))))))else false):=by
  show _=_;rw[hR,<-HH.out,FY,wW,FU];unfold Lz.jr;rw[e0,f0];simp only[decide_eq_true_eq];rfl
 dsimp only[aq.val]
 obtain⟨W,hW⟩:∃W,W=((w.alloc (.cells (C12 aS bW bF bG bn bA bL a1 n1 c1 bB bK bX bY) 26)).alloc (.cells #[.int .i64 k,.string t,.int .i64 b,.string sc,.string ho,.bool wd,.int .i64 po,.string pa] 41)).alloc (.cells (C12 eL gX gV fV eA gh gZ a2 n2 c2 bV fW gW gY) 26):=⟨_,rfl⟩;have bg:Below w.heap.size w W:=by rw[hW];exact(((Below.refl _ w).alloc (Nat.le_refl _) _).alloc (by simp) _).alloc (by simp;omega) _
 have ko:W.heap[w.heap.size]? =some (.cells (C12 aS bW bF bG bn bA bL a1 n1 c1 bB bK bX bY) 26 (0,0)):=by
  rw[hW,Below.heap_alloc _ _ _ (by simp;omega),Below.heap_alloc _ _ _ (by simp)];exact aK _ _
 have sU:W.heap[w.heap.size+1]? =some (.cells #[.int .i64 k,.string t,.int .i64 b,.string sc,.string ho,.bool wd,.int .i64 po,.string pa] 41 (0,0)):=by
  rw[hW,Below.heap_alloc _ _ _ (by simp)];exact gr _ _ _
 have td:W.heap[w.heap.size+1+1]? =some (.cells (C12 eL gX gV fV eA gh gZ a2 n2 c2 bV fW gW gY) 26 (0,0)):=by
  rw[hW];have:=aK ((w.alloc (.cells (C12 aS bW bF bG bn bA bL a1 n1 c1 bB bK bX bY) 26)).alloc (.cells #[.int .i64 k,.string t,.int .i64 b,.string sc,.string ho,.bool wd,.int .i64 po,.string pa] 41)) (.cells (C12 eL gX gV fV eA gh gZ a2 n2 c2 bV fW gW gY) 26);simpa using this
 have HW:=Ih hW;have yE:=hv.below bg;have qD:=gQ.below bg;have lY:=hE.below bg;have hhs:bn.size<=100000:=by rw[<-aa,<-e4];exact A3 hU
 have cA:Hid (∀V,Below W.heap.size W V->Calls Tryz.prog 44 #[.agg (C12 aS bW bF bG bn bA bL a1 n1 c1 bB bK bX bY),.agg (C12 eL gX gV fV eA gh gZ a2 n2 c2 bV fW gW gY)] V fun e w'=>e=.returned (.bool q1)/\Below W.heap.size W w'):=Ih (fun V hV=>(EA _ u _ own V (lY.below hV) (yE.below hV) hU (qD.below hV) hO).mono fun e w' ⟨h1,h2⟩=>⟨by rw[h1,FY],hV.trans (h2.mono hV.size)⟩);have cB:Hid (∀V (s:ByteArray) (r:Bool),r=Lz.eo s.data.toList aS.data.toList->Below W.heap.size W V->Calls Tryz.prog 45 #[.string s,.string aS] V fun e w'=>e=.returned (.bool r)/\Below W.heap.size W w'):=Ih (fun V s r hr hV=>(zP s aS V).mono fun e w' ⟨h1,h2⟩=>⟨by rw[h1,hr],hV.trans (h2.mono hV.size)⟩);have cC:Hid (∀V,Below W.heap.size W V->Calls Tryz.prog 46 #[.agg #[.int .i64 k,.string t,.int .i64 b,.string sc,.string ho,.bool wd,.int .i64 po,.string pa],.string bn] V fun e w'=>e=.returned (.bool r2)/\Below W.heap.size W w'):=Ih (fun V hV=>(EW ⟨k,t,b,sc,ho,wd,po,pa⟩ bn V (lY.below hV).h hX.host (by omega)).mono fun e w' ⟨h1,h2⟩=>⟨by rw[h1,qB],hV.trans (h2.mono hV.size)⟩)
 have cD:Hid (∀V,Below W.heap.size W V->Calls Tryz.prog 47 #[.string aS] V fun e w'=>e=.returned (.int .i64 d1)/\Below W.heap.size W w'):=Ih (fun V hV=>(dR aS V).mono fun e w' ⟨h1,h2⟩=>⟨by rw[h1,xd],h2▸hV⟩);have cE:Hid (∀V,Below W.heap.size W V->Calls Tryz.prog 48 #[.agg (C12 aS bW bF bG bn bA bL a1 n1 c1 bB bK bX bY)] V fun e w'=>e=.returned (.int .i64 g1)/\Below W.heap.size W w'):=Ih (fun V hV=>(qV _ u V (yE.below hV)).mono fun e w' ⟨h1,h2⟩=>⟨by rw[h1,DP],hV.trans (h2.mono hV.size)⟩);have cF:Hid (∀V,Below W.heap.size W V->Calls Tryz.prog 50 #[.agg (C12 aS bW bF bG bn bA bL a1 n1 c1 bB bK bX bY)] V fun e w'=>∃tp:ByteArray,e=.returned (.string tp)/\Hid (tp.data.toList=Lz.ew u)/\Below W.heap.size W w'):=Ih (fun V hV=>(FO _ u V (yE.below hV) hU).mono fun e w' ⟨tp,h1,h2,h3⟩=>⟨tp,h1,h2,hV.trans (h3.mono hV.size)⟩)
 have cG:∀tp:ByteArray,Hid (tp.data.toList=Lz.ew u)->Hid (∀V,Below W.heap.size W V->Calls Tryz.prog 49 #[.string pa,.string tp] V fun e w'=>e=.returned (.bool r4)/\Below W.heap.size W w'):=fun tp wU=>Ih (fun V hV=>(FF pa tp V hXp (by rw[<-aa,wU.out];exact Cy hU)).mono fun e w' ⟨h1,h2⟩=>⟨by rw[h1,AD,wU.out],hV.trans (h2.mono hV.size)⟩);have hC:Hid (∀V,Below W.heap.size W V->S12 V (w.heap.size) aS bW bF bG bn bA bL a1 n1 c1 bB bK bX bY/\S8 V (w.heap.size+1) k t b sc ho wd po pa):=Ih (fun V hV=>⟨fO ((hV.block _ (aI ko)).trans ko),yx ((hV.block _ (aI sU)).trans sU)⟩);have hC2:Hid (∀V,Below W.heap.size W V->S12 V (w.heap.size+1+1) eL gX gV fV eA gh gZ a2 n2 c2 bV fW gW gY):=Ih (fun V hV=>fO ((hV.block _ (aI td)).trans td));have qI:Below W.heap.size W W:=Below.refl _ _;have Pq:Hid (sm=if sc.size=0 then eL else sc):=Ih AA;have OK:=Ih FU;have KU:=Ih wW;have wY:=Ih oU;obtain⟨⟨x0,x1,x2,x3,x4,x5,x6,x7,x8,x9,rH,rC⟩,z0,z1,z2,z3,z4,z5,z6,z7⟩:=hC.out _ qI;obtain⟨y0,y1,y2,y3,y4,y5,y6,y7,y8,y9,wT,xb⟩:=hC2.out _ qI
 clear hR hW AA FY wW FU oU qB Ao AD DP xd e0 e3 e4 e5 f0 hv gQ yE qD lY hE ko sU td hU hO hX hXp HH hhs;by_cases k1:k=1
 ·have h1:(k==1)=true:=by rw[k1];rfl
  have xc:Hid (R=(t.data.toList==Lz.uH&&q1)):=by show _=_;rw[HV.out,if_pos k1]
  clear k1 HV HP OK KU wY Pq;by_cases hs:t.data.toList=[115,101,108,102]
  ·have t1:=aH hs;have HQ:Hid (R=q1):=by show _=_;rw[xc.out,hs];rfl
   clear xc hs;go_enter Tryz.func20,Tryz.ntmps20
   go_wp2_with (rw[<-HW.out])
   refine(cA.out _ qI).mono ?_;rintro e w5 ⟨rfl,l4⟩
   go_wp2_with fail
   go_ret;exact⟨by rw[HQ.out];rfl,bg.trans (l4.mono bg.size)⟩
  ·have t1:=aR hs;have HQ:Hid (R=false):=by show _=_;rw[xc.out,show(t.data.toList==Lz.uH)=false from beq_eq_false_iff_ne.2 hs];rfl
   clear xc hs;go_enter Tryz.func20,Tryz.ntmps20
   go_wp2_with fail
   rw[<-HW.out];go_ret;exact⟨by rw[HQ.out];rfl,bg⟩
 have h1:(k==1)=false:=beq_eq_false_iff_ne.2 k1;by_cases k2:k=2
 ·have h2:(k==2)=true:=by rw[k2];rfl
  have HQ:Hid (R=q2):=by show _=_;rw[HV.out,if_neg k1,if_pos k2]
  clear k1 k2 HV HP OK wY Pq;go_enter Tryz.func20,Tryz.ntmps20
  go_wp2_with fail
  rw[<-HW.out];refine(cB.out _ _ _ KU.out qI).mono ?_;rintro e w5 ⟨rfl,l4⟩
  go_wp2_with fail
  go_ret;exact⟨by rw[HQ.out];rfl,bg.trans (l4.mono bg.size)⟩
 have h2:(k==2)=false:=beq_eq_false_iff_ne.2 k2;by_cases k3:k=3
 case neg=>
  have h3:(k != 3)=true:=bne_iff_ne.2 k3;have HQ:Hid (R=false):=by show _=_;rw[HV.out,if_neg k1,if_neg k2,if_neg k3]
  clear k1 k2 k3 HV HP OK KU wY Pq;go_enter Tryz.func20,Tryz.ntmps20
  go_wp2_with fail
  rw[<-HW.out];go_ret;exact⟨by rw[HQ.out];rfl,bg⟩
 have h3:(k != 3)=false:=by rw[k3];rfl
 have xc:Hid (R=if q3=true then Lz.yN aS.data.toList||aS.data.toList==eL.data.toList else(bG&&((bn.data.toList != [])&&(r1&&(r2&&(r3&&(red||r4))))))):=by
  show _=_;rw[HV.out,if_neg k1,if_neg k2,if_pos k3]
 clear k1 k2 HV KU;clear k3;go_enter Tryz.func20,Tryz.ntmps20
 go_upto_region 7 with fail
 rw[<-HW.out]
 go_cut [35] (fun s wx=>s=.bool q3/\W=wx)
 case first=>
  clear xc HP wY Pq h1 h2 h3
  go_wp2_with (refine Qr OK.out (.tmp 33) (.tmp 34) rfl rfl rfl rfl ?_)
  go_meet;exact⟨rfl,rfl⟩
 case rest=>
 obtain⟨rfl,rfl⟩:=hcut;clear OK;cases q3 with
 | true=>
   have HQ:Hid (R=((aS.toList==[104,116,116,112])||((aS.toList==[104,116,116,112,115])||(aS.toList==eL.toList)))):=by
    show _=_;rw[xc.out,if_pos rfl,Lib.toList_data,Lib.toList_data];unfold Lz.yN;rw[Bool.or_assoc];rfl
   clear xc HP wY Pq;obtain⟨b1,aC⟩:∃b,(aS.toList==[104,116,116,112])=b:=⟨_,rfl⟩;obtain⟨b2,aU⟩:∃b,(aS.toList==[104,116,116,112,115])=b:=⟨_,rfl⟩;rw[aC,aU]at HQ;cases b1 with
   | true=>
     go_wp2_with fail
     go_ret;exact⟨by rw[HQ.out];rfl,bg⟩
   | false=>
   cases b2 with
   | true=>
     go_wp2_with fail
     go_ret;exact⟨by rw[HQ.out];rfl,bg⟩
   | false=>
     go_wp2_with fail
     go_ret;exact⟨by rw[HQ.out];rfl,bg⟩
 | false=>
 have sZ:Hid (R=(bG&&((bn.data.toList != [])&&(r1&&(r2&&(r3&&(red||r4))))))):=by show _=_;rw[xc.out,if_neg (by decide)]
 obtain⟨qz,Di⟩:∃qz,qz=sc.toList.isEmpty:=⟨_,rfl⟩
 have HZ:Hid (sm=if qz=true then eL else sc):=by
  show _=_;rw[Pq.out,Di];by_cases h:sc.size=0
  ·rw[if_pos h,if_pos (ak h)]
  ·rw[if_neg h,if_neg (by rw[aj (by omega)];decide)]
 have Xr:=Ih Di;clear xc Pq Di
 go_upto_region 10 with fail
 go_cut [54] (fun s wx=>s=.bool qz/\W=wx)
 case first=>
  clear sZ HP wY HZ;cases qz with
  | true=>
    have g1:sc.toList.isEmpty=true:=Xr.out.symm
    go_wp2_with fail
    go_meet;exact⟨rfl,rfl⟩
  | false=>
    have g1:sc.toList.isEmpty=false:=Xr.out.symm
    go_wp2_with fail
    go_meet;exact⟨rfl,rfl⟩
 case rest=>
 obtain⟨rfl,rfl⟩:=hcut;clear Xr
 go_upto_if 54 with fail
 go_cut [9] (fun s wx=>s=.string sm/\W=wx)
 case first=>
  clear sZ HP wY;cases qz with
  | true=>
    have xa:Hid (sm=eL):=by show _=_;rw[HZ.out,if_pos rfl]
    go_wp2_with fail
    go_meet;exact⟨by rw[xa.out],rfl⟩
  | false=>
    have xa:Hid (sm=sc):=by show _=_;rw[HZ.out,if_neg (by decide)]
    go_wp2_with fail
    go_meet;exact⟨by rw[xa.out],rfl⟩
 case rest=>
 obtain⟨rfl,rfl⟩:=hcut;clear HZ;obtain⟨he,hhe⟩:∃he,bn.toList.isEmpty=he:=⟨_,rfl⟩;obtain⟨nb,xe⟩:∃nb,nb= !(bG&&(!he&&(r1&&r2))):=⟨_,rfl⟩
 have ZP:Hid ((bn.data.toList != [])= !he):=by
  show _=_;rw[<-hhe,Lib.toList_data];cases bn.data.toList<;>rfl
 have DQ:=Ih xe;clear xe
 go_upto_region 12 with fail
 go_cut [78] (fun s wx=>s=.bool nb/\Below W.heap.size W wx)
 case first=>
  clear sZ HP ZP;cases bG with
  | false=>
    go_wp2_with fail
    go_meet;exact⟨by rw[DQ.out];rfl,qI⟩
  | true=>
  cases he with
  | true=>
    go_wp2_with fail
    go_meet;exact⟨by rw[DQ.out];rfl,qI⟩
  | false=>
  have cB1:=Ih (cB.out W sm r1 wY.out qI);cases r1 with
  | false=>
    go_wp2_with fail
    refine cB1.out.mono ?_;rintro e w5 ⟨rfl,l4⟩
    go_wp2_with fail
    go_meet;exact⟨by rw[DQ.out];rfl,l4⟩
  | true=>
    have iF:Hid (nb= !r2):=by show _=_;rw[DQ.out];rfl
    go_wp2_with fail
    refine cB1.out.mono ?_;rintro e w5 ⟨rfl,l4⟩;clear x0 x1 x2 x3 x4 x5 x6 x7 x8 x9 rH rC z0 z1 z2 z3 z4 z5 z6 z7 y0 y1 y2 y3 y4 y5 y6 y7 y8 y9 wT xb;obtain⟨⟨x0,x1,x2,x3,x4,x5,x6,x7,x8,x9,rH,rC⟩,z0,z1,z2,z3,z4,z5,z6,z7⟩:=hC.out _ l4
    go_wp2_with fail
    refine(cC.out _ l4).mono ?_;rintro e w6 ⟨rfl,TP⟩
    go_wp2_with fail
    go_meet;exact⟨by rw[iF.out],TP⟩
 case rest=>
 obtain⟨rfl,KH⟩:=hcut;clear x0 x1 x2 x3 x4 x5 x6 x7 x8 x9 rH rC z0 z1 z2 z3 z4 z5 z6 z7 y0 y1 y2 y3 y4 y5 y6 y7 y8 y9 wT xb hC2 cA cB cC wY hhe;cases nb with
 | true=>
   have HQ:Hid (R=false):=by
    show _=_;have h1:=DQ.out;have h2:=sZ.out;rw[ZP.out]at h2
    revert h1 h2
    cases bG<;>cases he<;>cases r1<;>cases r2<;>simp
   clear sZ DQ ZP
   go_wp2_with fail
   go_ret;exact⟨by rw[HQ.out];rfl,bg.trans (KH.mono bg.size)⟩
 | false=>
 have Sj:Hid (R=(r3&&(red||r4))):=by
  show _=_;have h1:=DQ.out;have h2:=sZ.out;rw[ZP.out]at h2
  revert h1 h2
  cases bG<;>cases he<;>cases r1<;>cases r2<;>simp
 clear sZ DQ ZP;have fG:Below W.heap.size W wc.drew:=KH.drew
 go_upto_region 14 with fail
 go_cut [10] (fun s wx=>s=.bool r3/\Below W.heap.size W wx)
 case first=>
  have Pp:=HP;clear Sj HP;by_cases p2:po= -2
  ·have i2:(po== -2)=true:=by rw[p2];rfl
   have HP:Hid (r3=true):=by show _=_;rw[Pp.out,if_pos p2]
   clear Pp p2;refine wp_region_held_drew (S:=fun V=>(S12 V (w.heap.size) aS bW bF bG bn bA bL a1 n1 c1 bB bK bX bY/\S8 V (w.heap.size+1) k t b sc ho wd po pa)/\Below W.heap.size W V) (by kernel_rfl) ⟨hC.out _ fG,fG⟩ (fun ar=>?_);refine TkM 0 79 ?_;refine TkM 1 80 ?_;refine TkM 2 81 ?_;refine TkM 3 82 ?_;refine TnJ 4 83 ?_;refine TnJ 5 84 ?_;refine TnJ 6 85 ?_;refine TnJ 7 86 ?_;refine TnJ 8 87 ?_;refine TnJ 9 88 ?_;refine TnJ 10 89 ?_;refine TnJ 11 90 ?_;refine TnJ 12 91 ?_;refine TnJ 13 92 ?_;refine TnJ 14 93 ?_;refine TnJ 15 94 ?_;refine TnJ 16 95 ?_;refine TnJ 17 96 ?_;refine TnJ 18 97 ?_;refine TnJ 19 98 ?_;refine TkM 20 99 ?_;refine TkM 21 100 ?_;refine TnJ 22 101 ?_;refine TnJ 23 102 ?_;refine TnJ 24 103 ?_;refine TnJ 25 104 ?_;refine TnJ 26 105 ?_;refine TnJ 27 106 ?_;refine TnJ 28 107 ?_;refine TnJ 29 108 ?_;refine TnJ 30 109 ?_;refine TnJ 31 110 ?_;refine TkM 32 111 ?_;refine TkM 33 10 ?_;refine wpAnyH_done (by kernel_rfl) ?_ _
   go_wp2_with fail
   go_meet;exact⟨by rw[HP.out],ar.2⟩
  have i2:(po== -2)=false:=beq_eq_false_iff_ne.2 p2;by_cases p1:po= -1
  case neg=>
   have i1:(po== -1)=false:=beq_eq_false_iff_ne.2 p1;have i3:(po != -1)=true:=bne_iff_ne.2 p1;have HP:Hid (r3=(po==g1)):=by show _=_;rw[Pp.out,if_neg p2,if_neg p1]
   clear Pp p1 p2;refine wp_region_held_drew (S:=fun V=>(S12 V (w.heap.size) aS bW bF bG bn bA bL a1 n1 c1 bB bK bX bY/\S8 V (w.heap.size+1) k t b sc ho wd po pa)/\Below W.heap.size W V) (by kernel_rfl) ⟨hC.out _ fG,fG⟩ (fun ar=>?_);refine TkM 0 79 ?_;refine TkM 1 80 ?_;refine TkM 2 81 ?_;refine TkM 3 82 ?_;refine TkM 4 83 ?_;refine TkM 5 84 ?_;refine TkM 6 85 ?_;refine TkM 7 86 ?_;refine TnJ 8 87 ?_;refine TnJ 9 88 ?_;refine TnJ 10 89 ?_;refine TnJ 11 90 ?_;refine TnJ 12 91 ?_;refine TnJ 13 92 ?_;refine TnJ 14 93 ?_;refine TnJ 15 94 ?_;refine TnJ 16 95 ?_;refine TnJ 17 96 ?_;refine TnJ 18 97 ?_;refine TkM 19 98 ?_;refine TkM 20 99 ?_;refine TkM 21 100 ?_;refine TkM 22 101 ?_;refine TkM 23 102 ?_;refine TkM 24 103 ?_;refine TkM 25 104 ?_;refine TkM 26 105 ?_;refine TkM 27 106 ?_;refine TkM 28 107 ?_;refine CkM 29 108 (cS cE hC) (fun V hV=>?_);refine TkM 30 109 ?_;refine TkM 31 110 ?_;refine TkM 32 111 ?_;refine TkM 33 10 ?_;refine wpAnyH_done (by kernel_rfl) ?_ _
   go_wp2_with fail
   go_meet;exact⟨by rw[HP.out],hV.2⟩
  have i1:(po== -1)=true:=by rw[p1];rfl
  have i3:(po != -1)=false:=by rw[p1];rfl
  by_cases hp:bA<0
  ·have HP:Hid (r3=true):=by show _=_;rw[Pp.out,if_neg p2,if_pos p1,decide_eq_true hp];rfl
   clear Pp p1 p2;refine wp_region_held_drew (S:=fun V=>(S12 V (w.heap.size) aS bW bF bG bn bA bL a1 n1 c1 bB bK bX bY/\S8 V (w.heap.size+1) k t b sc ho wd po pa)/\Below W.heap.size W V) (by kernel_rfl) ⟨hC.out _ fG,fG⟩ (fun ar=>?_);refine TkM 0 79 ?_;refine TkM 1 80 ?_;refine TkM 2 81 ?_;refine TkM 3 82 ?_;refine TkM 4 83 ?_;refine TkM 5 84 ?_;refine TkM 6 85 ?_;refine TkM 7 86 ?_;refine TkM 8 87 ?_;refine TkM 9 88 ?_;refine TkM 10 89 ?_;refine TkM 11 90 ?_;refine TnJ 12 91 ?_;refine TnJ 13 92 ?_;refine TnJ 14 93 ?_;refine TnJ 15 94 ?_;refine TnJ 16 95 ?_;refine TnJ 17 96 ?_;refine TkM 18 97 ?_;refine TkM 19 98 ?_;refine TkM 20 99 ?_;refine TkM 21 100 ?_;refine TnJ 22 101 ?_;refine TnJ 23 102 ?_;refine TnJ 24 103 ?_;refine TnJ 25 104 ?_;refine TnJ 26 105 ?_;refine TnJ 27 106 ?_;refine TnJ 28 107 ?_;refine TnJ 29 108 ?_;refine TnJ 30 109 ?_;refine TnJ 31 110 ?_;refine TkM 32 111 ?_;refine TkM 33 10 ?_;refine wpAnyH_done (by kernel_rfl) ?_ _
   go_wp2_with fail
   go_meet;exact⟨by rw[HP.out],ar.2⟩
  cases hd:(bA==d1)with
  | true=>
    have HP:Hid (r3=true):=by show _=_;rw[Pp.out,if_neg p2,if_pos p1,hd,Bool.or_true]
    clear Pp p1 p2;refine wp_region_held_drew (S:=fun V=>(S12 V (w.heap.size) aS bW bF bG bn bA bL a1 n1 c1 bB bK bX bY/\S8 V (w.heap.size+1) k t b sc ho wd po pa)/\Below W.heap.size W V) (by kernel_rfl) ⟨hC.out _ fG,fG⟩ (fun ar=>?_);refine TkM 0 79 ?_;refine TkM 1 80 ?_;refine TkM 2 81 ?_;refine TkM 3 82 ?_;refine TkM 4 83 ?_;refine TkM 5 84 ?_;refine TkM 6 85 ?_;refine TkM 7 86 ?_;refine TkM 8 87 ?_;refine TkM 9 88 ?_;refine TkM 10 89 ?_;refine TkM 11 90 ?_;refine TkM 12 91 ?_;refine TkM 13 92 ?_;refine TkM 14 93 ?_;refine TkM 15 94 ?_;refine CkM 16 95 (cS cD hC) (fun V hV=>?_);refine TkM 17 96 ?_;refine TkM 18 97 ?_;refine TkM 19 98 ?_;refine TkM 20 99 ?_;refine TkM 21 100 ?_;refine TnJ 22 101 ?_;refine TnJ 23 102 ?_;refine TnJ 24 103 ?_;refine TnJ 25 104 ?_;refine TnJ 26 105 ?_;refine TnJ 27 106 ?_;refine TnJ 28 107 ?_;refine TnJ 29 108 ?_;refine TnJ 30 109 ?_;refine TnJ 31 110 ?_;refine TkM 32 111 ?_;refine TkM 33 10 ?_;refine wpAnyH_done (by kernel_rfl) ?_ _
    go_wp2_with fail
    go_meet;exact⟨by rw[HP.out],hV.2⟩
  | false=>
    have HP:Hid (r3=false):=by show _=_;rw[Pp.out,if_neg p2,if_pos p1,hd,decide_eq_false hp];rfl
    clear Pp p1 p2;refine wp_region_held_drew (S:=fun V=>(S12 V (w.heap.size) aS bW bF bG bn bA bL a1 n1 c1 bB bK bX bY/\S8 V (w.heap.size+1) k t b sc ho wd po pa)/\Below W.heap.size W V) (by kernel_rfl) ⟨hC.out _ fG,fG⟩ (fun ar=>?_);refine TkM 0 79 ?_;refine TkM 1 80 ?_;refine TkM 2 81 ?_;refine TkM 3 82 ?_;refine TkM 4 83 ?_;refine TkM 5 84 ?_;refine TkM 6 85 ?_;refine TkM 7 86 ?_;refine TkM 8 87 ?_;refine TkM 9 88 ?_;refine TkM 10 89 ?_;refine TkM 11 90 ?_;refine TkM 12 91 ?_;refine TkM 13 92 ?_;refine TkM 14 93 ?_;refine TkM 15 94 ?_;refine CkM 16 95 (cS cD hC) (fun V hV=>?_);refine TkM 17 96 ?_;refine TkM 18 97 ?_;refine TkM 19 98 ?_;refine TkM 20 99 ?_;refine TkM 21 100 ?_;refine TkM 22 101 ?_;refine TkM 23 102 ?_;refine TkM 24 103 ?_;refine TkM 25 104 ?_;refine TnJ 26 105 ?_;refine TnJ 27 106 ?_;refine TnJ 28 107 ?_;refine TnJ 29 108 ?_;refine TnJ 30 109 ?_;refine TkM 31 110 ?_;refine TkM 32 111 ?_;refine TkM 33 10 ?_;refine wpAnyH_done (by kernel_rfl) ?_ _
    go_wp2_with fail
    go_meet;exact⟨by rw[HP.out],hV.2⟩
 case rest=>
 obtain⟨rfl,Lh⟩:=hcut;clear KH fG HP;have fG:Below W.heap.size W wc.drew:=Lh.drew;cases r3 with
 | false=>
   have HQ:Hid (R=false):=by show _=_;rw[Sj.out];rfl
   clear Sj
   go_upto_region 15 with fail
   refine wp_region_held_drew (S:=fun V=>(S12 V (w.heap.size) aS bW bF bG bn bA bL a1 n1 c1 bB bK bX bY/\S8 V (w.heap.size+1) k t b sc ho wd po pa)/\Below W.heap.size W V) (by kernel_rfl) ⟨hC.out _ fG,fG⟩ (fun ar=>?_);refine TkM 0 112 ?_;refine TkM 1 113 ?_;refine TnJ 2 114 ?_;refine TnJ 3 115 ?_;refine TnJ 4 116 ?_;refine TnJ 5 117 ?_;refine TnJ 6 118 ?_;refine TnJ 7 119 ?_;refine TnJ 8 120 ?_;refine TnJ 9 121 ?_;refine TkM 10 122 ?_;refine TkM 11 8 ?_;refine wpAnyH_done (by kernel_rfl) ?_ _
   go_wp2_with fail
   go_ret;exact⟨by rw[HQ.out];rfl,bg.trans (ar.2.mono bg.size)⟩
 | true=>
 cases red with
 | true=>
   have HQ:Hid (R=true):=by show _=_;rw[Sj.out];rfl
   clear Sj
   go_upto_region 15 with fail
   refine wp_region_held_drew (S:=fun V=>(S12 V (w.heap.size) aS bW bF bG bn bA bL a1 n1 c1 bB bK bX bY/\S8 V (w.heap.size+1) k t b sc ho wd po pa)/\Below W.heap.size W V) (by kernel_rfl) ⟨hC.out _ fG,fG⟩ (fun ar=>?_);refine TkM 0 112 ?_;refine TkM 1 113 ?_;refine TkM 2 114 ?_;refine TkM 3 115 ?_;refine TnJ 4 116 ?_;refine TnJ 5 117 ?_;refine TnJ 6 118 ?_;refine TnJ 7 119 ?_;refine TnJ 8 120 ?_;refine TkM 9 121 ?_;refine TkM 10 122 ?_;refine TkM 11 8 ?_;refine wpAnyH_done (by kernel_rfl) ?_ _
   go_wp2_with fail
   go_ret;exact⟨by rw[HQ.out];rfl,bg.trans (ar.2.mono bg.size)⟩
 | false=>
   have HQ:Hid (R=r4):=by show _=_;rw[Sj.out];rfl
   clear Sj
   go_upto_region 15 with fail
   refine wp_region_held_drew (S:=fun V=>(S12 V (w.heap.size) aS bW bF bG bn bA bL a1 n1 c1 bB bK bX bY/\S8 V (w.heap.size+1) k t b sc ho wd po pa)/\Below W.heap.size W V) (by kernel_rfl) ⟨hC.out _ fG,fG⟩ (fun ar=>?_);refine TkM 0 112 ?_;refine TkM 1 113 ?_;refine TkM 2 114 ?_;refine TkM 3 115 ?_;refine TkM 4 116 ?_;refine TkM 5 117 ?_;refine TkM 6 118 ?_;refine CkT 7 119 (cSs cF hC) (fun tp V wU hV=>?_);refine CkM 8 120 (cS (cG tp wU) hC) (fun V hV=>?_);refine TkM 9 121 ?_;refine TkM 10 122 ?_;refine TkM 11 8 ?_;refine wpAnyH_done (by kernel_rfl) ?_ _
   go_wp2_with fail
   go_ret;exact⟨by rw[HQ.out];rfl,bg.trans (hV.2.mono bg.size)⟩
end Go.Proofs.YtlcbhacofagedaaGreatDoor
