/-
  Package match: hosted.
-/
import Derived.Test.YtecoeebjaleeiaaGreatDoorJ26
import Derived.Test.YtecoeebjaleeiaaGreatDoorJ29
set_option maxHeartbeats 8000000
set_option maxRecDepth 100000
namespace Go.Proofs.YtecoeebjaleeiaaGreatDoor
open Go.RowKit
attribute [local go_sem ↓] Go.wp_at_zero Go.wp_at_succ
theorem TkH {P : Program} {md : Region.Mode} {ops : Array Oper} {Q : Exit → Act → World → Prop} {S : World → Prop} {fuel : Nat} {listed : Array Bool} {a : Act} {w : World} {oi : Oper} {v : Value} (i d : Nat) (h : wpAnyH P md ops Q S fuel (listed.setIfInBounds i true) (a.put (some d) v) w) (hi : ops[i]? = some oi := by rfl) (hd : oi.dst = some d := by rfl) (hy : ∀ w, S w → (execOp a.eval oi).run P w = .ok (.value v) w := by (intro W hSw; (try dsimp only at hSw); (try simp only [Act.put]); (try simp only [List.setIfInBounds_toArray]); (try simp only [List.set_cons_zero, List.set_cons_succ]); go_simp; try with_reducible rfl)) (hs : Region.noSelect ops = true := by kernel_rfl) (hf : Region.free md ops listed i = true := by kernel_rfl) (hr : (Region.ready md ops listed).contains i = true := by kernel_rfl) (hQ : ∀ c a w, Q (.panic c) (a.put oi.dst v) w → Q (.panic c) a w := by exact fun _ _ _ h => h) (hw : Region.wanted oi (yielded ops a.tmps) = true := by rfl) (hS : S w := by assumption) : wpAnyH P md ops Q S (fuel + 1) listed a w :=
  TkD i (some d) hi hd hy h hs hf hr hQ hw hS
theorem tW {V:World} {r:Nat} {x0 x1 x2 x3 x4 x5 x6 x7:Value} {t:TypeId} {fr:Nat×Nat} (h:V.heap[r]? =some (.cells #[x0,x1,x2,x3,x4,x5,x6,x7] t fr)):V.cell? ⟨r,0,none⟩=some x0/\V.cell? ⟨r,1,none⟩=some x1/\V.cell? ⟨r,2,none⟩=some x2/\V.cell? ⟨r,3,none⟩=some x3/\V.cell? ⟨r,4,none⟩=some x4/\V.cell? ⟨r,5,none⟩=some x5/\V.cell? ⟨r,6,none⟩=some x6/\V.cell? ⟨r,7,none⟩=some x7:=
 ⟨rowAt h 0 x0 rfl,rowAt h 1 x1 rfl,rowAt h 2 x2 rfl,rowAt h 3 x3 rfl,rowAt h 4 x4 rfl,rowAt h 5 x5 rfl,rowAt h 6 x6 rfl,rowAt h 7 x7 rfl⟩
structure SOk (x:ak):Prop where
 scheme:x.scheme.size<=1000000
 host:x.host.size<=90000
 path:x.path.size<=1000000
theorem Ge {u:Lz.ag} (h:UOk u):(Lz.kd u).length<=1000000:=by
 have h1:=h.wq;have h2:(slS u.path).length=Lz.pl u.path:=rfl;unfold Lz.wq Lz.wt at h1;unfold Lz.kd;split
 ·rename_i ho;obtain⟨_,p,hp,_⟩:=h.nu.opaqueN ho;have h3:Lz.pl u.path=p.length+1:=by rw[hp];exact Lz.tB p
  have h4:u.path.flatten=p:=by rw[hp];simp
  rw[h4];omega
 ·show(slS u.path).length<=_;omega
theorem ND {u:Lz.ag} (h:UOk u):u.host.length<=100000:=by
 have h1:=h.wq;unfold Lz.wq Lz.wt at h1;omega
theorem BY (v:Value) (u:Lz.ag) (x:ak) (v2:Value) (own:Lz.ag) (red:Bool) (w:World) (hE:rk w) (hv:aX w v u) (hU:UOk u) (hX:SOk x) (je:aX w v2 own) (hO:own.scheme.length<=1000000):Calls Tryz.prog 156 #[v,x.val,v2,.bool red] w (aC (Lz.pq u x.src own red) w):=by
 obtain⟨bo,cw,ck,cv,aU,cf,cq,a1,n1,c1,bO,bU,cz,de,rfl,e0,e3,e4,e5,_,hv⟩:=hv.letters;obtain⟨gG,jQ,jm,eA,dN,jw,jP,a2,n2,c2,bQ,ee,jN,jF,rfl,f0,_,_,_,_,je⟩:=je.letters;obtain⟨k,t,b,sc,ho,wd,po,pa⟩:=x;obtain⟨R,hR⟩:∃R,R=Lz.pq u (ak.src ⟨k,t,b,sc,ho,wd,po,pa⟩) own red:=⟨_,rfl⟩;rw[<-hR];obtain⟨sm,zw⟩:∃sm:ByteArray,sm=if sc.size=0 then gG else sc:=⟨_,rfl⟩
 have aa2:sm.size<=1000000000:=by
  rw[zw];split
  ·rw[<-aa,<-f0];omega
  ·have:=hX.scheme;show sc.size<=_;have h2:sc.size<=1000000:=this;omega
 obtain⟨q3,JE⟩:∃q3,q3=Lz.jC sm.data.toList bo.data.toList:=⟨_,rfl⟩;obtain⟨q4,hq4⟩:∃q4,q4=Lz.ES (ak.src ⟨k,t,b,sc,ho,wd,po,pa⟩) aU.data.toList:=⟨_,rfl⟩;obtain⟨q5,hq5⟩:∃q5,q5=Lz.Ec (ak.src ⟨k,t,b,sc,ho,wd,po,pa⟩) u:=⟨_,rfl⟩;obtain⟨q6,hq6⟩:∃q6,q6=Lz.wR pa.data.toList (Lz.kd u):=⟨_,rfl⟩
 have HR:Hid (R=(cv&&((aU.data.toList != [])&&(q3&&(q4&&(q5&&(red||q6))))))):=by
  show _=_
  have hs:(if(ak.src ⟨k,t,b,sc,ho,wd,po,pa⟩).scheme=[]then own.scheme else(ak.src ⟨k,t,b,sc,ho,wd,po,pa⟩).scheme)=sm.data.toList:=by
   show(if sc.data.toList=[]then own.scheme else sc.data.toList)=_;rw[zw,f0];by_cases h:sc.size=0
   ·rw[if_pos h,if_pos (List.length_eq_zero_iff.1 (by rw[aa];exact h))]
   ·rw[if_neg h,if_neg (fun e=>h (by rw[<-aa,e];rfl))]
  rw[hR,JE,hq4,hq5,hq6];unfold Lz.pq;rw[hs,e0,e3,e4];rfl
 dsimp only[ak.val]
 obtain⟨W,hW⟩:∃W,W=((w.alloc (.cells #[.string bo,.string cw,.string ck,.bool cv,.string aU,.int .i64 cf,.bool cq,.slice a1 n1 c1,.bool bO,.bool bU,.string cz,.string de] 32)).alloc (.cells #[.int .i64 k,.string t,.int .i64 b,.string sc,.string ho,.bool wd,.int .i64 po,.string pa] 174)).alloc (.cells #[.string gG,.string jQ,.string jm,.bool eA,.string dN,.int .i64 jw,.bool jP,.slice a2 n2 c2,.bool bQ,.bool ee,.string jN,.string jF] 32):=⟨_,rfl⟩;have aS:Below w.heap.size w W:=by rw[hW];exact(((Below.refl _ w).alloc (Nat.le_refl _) _).alloc (by simp) _).alloc (by simp;omega) _
 have sj:W.heap[w.heap.size]? =some (.cells #[.string bo,.string cw,.string ck,.bool cv,.string aU,.int .i64 cf,.bool cq,.slice a1 n1 c1,.bool bO,.bool bU,.string cz,.string de] 32 (0,0)):=by
  rw[hW,Below.heap_alloc _ _ _ (by simp;omega),Below.heap_alloc _ _ _ (by simp)];exact ah _ _
 have Mf:W.heap[w.heap.size+1]? =some (.cells #[.int .i64 k,.string t,.int .i64 b,.string sc,.string ho,.bool wd,.int .i64 po,.string pa] 174 (0,0)):=by
  rw[hW,Below.heap_alloc _ _ _ (by simp)];exact dm _ _ _
 have Cy:W.heap[w.heap.size+2]? =some (.cells #[.string gG,.string jQ,.string jm,.bool eA,.string dN,.int .i64 jw,.bool jP,.slice a2 n2 c2,.bool bQ,.bool ee,.string jN,.string jF] 32 (0,0)):=by
  rw[hW];have:=ah ((w.alloc (.cells #[.string bo,.string cw,.string ck,.bool cv,.string aU,.int .i64 cf,.bool cq,.slice a1 n1 c1,.bool bO,.bool bU,.string cz,.string de] 32)).alloc (.cells #[.int .i64 k,.string t,.int .i64 b,.string sc,.string ho,.bool wd,.int .i64 po,.string pa] 174)) (.cells #[.string gG,.string jQ,.string jm,.bool eA,.string dN,.int .i64 jw,.bool jP,.slice a2 n2 c2,.bool bQ,.bool ee,.string jN,.string jF] 32);simpa using this
 have s3:=rowAt Mf 3 (.string sc) rfl;have o0:=rowAt Cy 0 (.string gG) rfl;have HW:=Ih hW;have O9:=hv.below aS;have qj:=hE.below aS;have hhs:aU.size<=100000:=by rw[<-aa,<-e4];exact ND hU
 have cA:Hid (∀V,Below W.heap.size W V->Calls Tryz.prog 153 #[.string sm,.string bo] V fun e w'=>e=.returned (.bool q3)/\Below W.heap.size W w'):=Ih (fun V hV=>(uA sm bo V (qj.below hV) aa2).mono fun e w' ⟨h1,h2⟩=>⟨by rw[h1,JE],hV.trans (h2.mono hV.size)⟩);have cB:Hid (∀V,Below W.heap.size W V->Calls Tryz.prog 191 #[.agg #[.int .i64 k,.string t,.int .i64 b,.string sc,.string ho,.bool wd,.int .i64 po,.string pa],.string aU] V fun e w'=>e=.returned (.bool q4)/\Below W.heap.size W w'):=Ih (fun V hV=>(FL ⟨k,t,b,sc,ho,wd,po,pa⟩ aU V (qj.below hV).u.h hX.host (by omega)).mono fun e w' ⟨h1,h2⟩=>⟨by rw[h1,hq4],hV.trans (h2.mono hV.size)⟩);have cC:Hid (∀V,Below W.heap.size W V->Calls Tryz.prog 192 #[.agg #[.int .i64 k,.string t,.int .i64 b,.string sc,.string ho,.bool wd,.int .i64 po,.string pa],.agg #[.string bo,.string cw,.string ck,.bool cv,.string aU,.int .i64 cf,.bool cq,.slice a1 n1 c1,.bool bO,.bool bU,.string cz,.string de]] V fun e w'=>e=.returned (.bool q5)/\Below W.heap.size W w'):=Ih (fun V hV=>(Gc ⟨k,t,b,sc,ho,wd,po,pa⟩ _ u V (O9.below hV)).mono fun e w' ⟨h1,h2⟩=>⟨by rw[h1,hq5],hV.trans (h2.mono hV.size)⟩)
 have cD:Hid (∀V,Below W.heap.size W V->Calls Tryz.prog 194 #[.agg #[.string bo,.string cw,.string ck,.bool cv,.string aU,.int .i64 cf,.bool cq,.slice a1 n1 c1,.bool bO,.bool bU,.string cz,.string de]] V fun e w'=>∃tp:ByteArray,e=.returned (.string tp)/\Hid (tp.data.toList=Lz.kd u)/\Below W.heap.size W w'):=Ih (fun V hV=>(KH _ u V (O9.below hV) hU).mono fun e w' ⟨tp,h1,h2,h3⟩=>⟨tp,h1,h2,hV.trans (h3.mono hV.size)⟩);have cE:Hid (∀V (tp:ByteArray),Hid (tp.data.toList=Lz.kd u)->Below W.heap.size W V->Calls Tryz.prog 193 #[.string pa,.string tp] V fun e w'=>e=.returned (.bool q6)/\Below W.heap.size W w'):=Ih (fun V tp P3 hV=>(KL pa tp V (qj.below hV).u.h hX.path (by rw[<-aa,P3.out];exact Ge hU)).mono fun e w' ⟨h1,h2⟩=>⟨by rw[h1,hq6,P3.out],hV.trans (h2.mono hV.size)⟩)
 have hC:Hid (∀V,Below W.heap.size W V->(V.cell? ⟨w.heap.size,0,none⟩=some (.string bo)/\V.cell? ⟨w.heap.size,1,none⟩=some (.string cw)/\V.cell? ⟨w.heap.size,2,none⟩=some (.string ck)/\V.cell? ⟨w.heap.size,3,none⟩=some (.bool cv)/\V.cell? ⟨w.heap.size,4,none⟩=some (.string aU)/\V.cell? ⟨w.heap.size,5,none⟩=some (.int .i64 cf)/\V.cell? ⟨w.heap.size,6,none⟩=some (.bool cq)/\V.cell? ⟨w.heap.size,7,none⟩=some (.slice a1 n1 c1)/\V.cell? ⟨w.heap.size,8,none⟩=some (.bool bO)/\V.cell? ⟨w.heap.size,9,none⟩=some (.bool bU)/\V.cell? ⟨w.heap.size,10,none⟩=some (.string cz)/\V.cell? ⟨w.heap.size,11,none⟩=some (.string de))/\(V.cell? ⟨w.heap.size+1,0,none⟩=some (.int .i64 k)/\V.cell? ⟨w.heap.size+1,1,none⟩=some (.string t)/\V.cell? ⟨w.heap.size+1,2,none⟩=some (.int .i64 b)/\V.cell? ⟨w.heap.size+1,3,none⟩=some (.string sc)/\V.cell? ⟨w.heap.size+1,4,none⟩=some (.string ho)/\V.cell? ⟨w.heap.size+1,5,none⟩=some (.bool wd)/\V.cell? ⟨w.heap.size+1,6,none⟩=some (.int .i64 po)/\V.cell? ⟨w.heap.size+1,7,none⟩=some (.string pa))):=Ih (fun V hV=>⟨dW ((hV.block _ (af sj)).trans sj),tW ((hV.block _ (af Mf)).trans Mf)⟩);have Fu:Below W.heap.size W W:=Below.refl _ _
 have pE:Below W.heap.size W W.drew:=(Below.refl _ _).drew;have P9:=Ih zw;obtain⟨qz,Ue⟩:∃qz,qz=sc.toList.isEmpty:=⟨_,rfl⟩
 have HZI:Hid ((qz=true->sc.size=0)/\(sc.size=0->qz=true)):=by
  constructor
  ·intro h;by_cases h0:sc.size=0
   ·exact h0
   ·rw[Ue,an (by omega)]at h;cases h
  ·intro h;rw[Ue];exact aq h
 have HQZ:=Ih Ue;clear Ue hR hW zw JE hq4 hq5 hq6 e0 e3 e4 e5 f0 hv je O9 qj hE sj Mf Cy hU hX hO aa2;go_enter Tryz.func156,Tryz.ntmps156
 go_upto_region 2 with fail
 rw[<-HW.out]
 go_cut [13] (fun s wx=>s=.bool qz/\W=wx)
 case first=>
  cases qz with
  | true=>
    have z1:sc.toList.isEmpty=true:=HQZ.out.symm
    go_wp2_with fail
    go_meet;exact⟨rfl,rfl⟩
  | false=>
    have z1:sc.toList.isEmpty=false:=HQZ.out.symm
    go_wp2_with fail
    go_meet;exact⟨rfl,rfl⟩
 case rest=>
 obtain⟨rfl,rfl⟩:=hcut
 go_upto_if 13 with fail
 go_cut [9] (fun s wx=>s=.string sm/\W=wx)
 case first=>
  cases qz with
  | true=>
    have pB:Hid (sm=gG):=by show _=_;rw[P9.out,if_pos (HZI.out.1 rfl)]
    go_wp2_with fail
    go_meet;exact⟨by rw[pB.out],rfl⟩
  | false=>
    have pB:Hid (sm=sc):=by show _=_;rw[P9.out,if_neg (fun h=>by have:=HZI.out.2 h;cases this)]
    go_wp2_with fail
    go_meet;exact⟨by rw[pB.out],rfl⟩
 case rest=>
  obtain⟨rfl,rfl⟩:=hcut;clear s3 o0;have hCW:=hC.out W Fu;obtain⟨⟨x0,x1,x2,x3,x4,x5,x6,x7,x8,x9,nA,nB⟩,y0,y1,y2,y3,y4,y5,y6,y7⟩:=hCW;cases cv with
  | false=>
    have HV:Hid (R=false):=by show _=_;rw[HR.out];rfl
    go_wp2_with fail
    go_quiet (fail)
    go_wp2_with fail
    go_ret;exact⟨by rw[HV.out];rfl,below_drewN aS _⟩
  | true=>
    by_cases hz:aU.size=0
    ·have z1:aU.toList.isEmpty=true:=aq hz;have z2:aU.data.toList=[]:=List.length_eq_zero_iff.1 (by rw[aa];exact hz);have HV:Hid (R=false):=by show _=_;rw[HR.out,z2];rfl
     clear hz z2
     go_wp2_with fail
     go_quiet (fail)
     go_wp2_with fail
     go_ret;exact⟨by rw[HV.out];rfl,below_drewN aS _⟩
    ·have z1:aU.toList.isEmpty=false:=an (by omega)
     have z2:(aU.data.toList != [])=true:=by
      rw[bne,beq_eq_false_iff_ne.2 (fun e=>hz (by rw[<-aa,e];rfl))];rfl
     have HV:Hid (R=(q3&&(q4&&(q5&&(red||q6))))):=by show _=_;rw[HR.out,z2,Bool.true_and,Bool.true_and]
     clear hz z2 HR x0 x1 x2 x3 x4 x5 x6 x7 x8 x9 nA nB y0 y1 y2 y3 y4 y5 y6 y7;cases q3 with
     | false=>
       go_wp2_with fail
       refine wp_region_held_drew (S:=fun V=>((V.cell? ⟨w.heap.size,0,none⟩=some (.string bo)/\V.cell? ⟨w.heap.size,1,none⟩=some (.string cw)/\V.cell? ⟨w.heap.size,2,none⟩=some (.string ck)/\V.cell? ⟨w.heap.size,3,none⟩=some (.bool true)/\V.cell? ⟨w.heap.size,4,none⟩=some (.string aU)/\V.cell? ⟨w.heap.size,5,none⟩=some (.int .i64 cf)/\V.cell? ⟨w.heap.size,6,none⟩=some (.bool cq)/\V.cell? ⟨w.heap.size,7,none⟩=some (.slice a1 n1 c1)/\V.cell? ⟨w.heap.size,8,none⟩=some (.bool bO)/\V.cell? ⟨w.heap.size,9,none⟩=some (.bool bU)/\V.cell? ⟨w.heap.size,10,none⟩=some (.string cz)/\V.cell? ⟨w.heap.size,11,none⟩=some (.string de))/\(V.cell? ⟨w.heap.size+1,0,none⟩=some (.int .i64 k)/\V.cell? ⟨w.heap.size+1,1,none⟩=some (.string t)/\V.cell? ⟨w.heap.size+1,2,none⟩=some (.int .i64 b)/\V.cell? ⟨w.heap.size+1,3,none⟩=some (.string sc)/\V.cell? ⟨w.heap.size+1,4,none⟩=some (.string ho)/\V.cell? ⟨w.heap.size+1,5,none⟩=some (.bool wd)/\V.cell? ⟨w.heap.size+1,6,none⟩=some (.int .i64 po)/\V.cell? ⟨w.heap.size+1,7,none⟩=some (.string pa)))/\Below W.heap.size W V) (by kernel_rfl) ⟨hC.out _ pE,pE⟩ (fun ae=>?_);generalize W.drew=W0 at ae⊢;refine TkH 0 16 ?_;refine TkH 1 17 ?_;refine TkH 2 18 ?_;refine TkH 3 19 ?_;refine TkH 4 20 ?_
       (try simp only[Act.put,List.setIfInBounds_toArray,List.set_cons_zero,List.set_cons_succ])
       refine TkH 5 21 ?_;refine TkH 6 22 ?_;refine TkH 7 23 ?_
       (try simp only[Act.put,List.setIfInBounds_toArray,List.set_cons_zero,List.set_cons_succ])
       refine TkH 8 24 ?_;refine TkH 9 25 ?_;refine TkH 10 26 ?_
       (try simp only[Act.put,List.setIfInBounds_toArray,List.set_cons_zero,List.set_cons_succ])
       refine wpAnyH_ready (rs:=[11]) (by kernel_rfl) (by simp) ?_;refine AllReadyH.cons rfl (fun K hK=>?_) AllReadyH.nil;go_simp
       go_at_call 153
       refine(cA.out _ (ae.2)).mono ?_;rintro e w5 ⟨rfl,fJ⟩;clear ae;refine hK.out _ _ ⟨hC.out _ fJ,fJ⟩ (fun ae=>?_);clear hK K
       (try simp only[Act.put,List.setIfInBounds_toArray,List.set_cons_zero,List.set_cons_succ])
       refine TkH 12 28 ?_;refine TkH 13 29 ?_
       (try simp only[Act.put,List.setIfInBounds_toArray,List.set_cons_zero,List.set_cons_succ])
       refine TnD 14 (some 30) rfl rfl ?_;refine TnD 15 (some 31) rfl rfl ?_;refine TnD 16 (some 32) rfl rfl ?_;refine TnD 17 (some 33) rfl rfl ?_
       (try simp only[Act.put,List.setIfInBounds_toArray,List.set_cons_zero,List.set_cons_succ])
       refine TkH 18 34 ?_;refine TkH 19 35 ?_
       (try simp only[Act.put,List.setIfInBounds_toArray,List.set_cons_zero,List.set_cons_succ])
       refine TnD 20 (some 36) rfl rfl ?_;refine TnD 21 (some 37) rfl rfl ?_;refine TnD 22 (some 38) rfl rfl ?_
       (try simp only[Act.put,List.setIfInBounds_toArray,List.set_cons_zero,List.set_cons_succ])
       refine TkH 23 39 ?_;refine TkH 24 40 ?_
       (try simp only[Act.put,List.setIfInBounds_toArray,List.set_cons_zero,List.set_cons_succ])
       refine TnD 25 (some 41) rfl rfl ?_;refine TnD 26 (some 42) rfl rfl ?_;refine TnD 27 (some 43) rfl rfl ?_;refine TnD 28 (some 44) rfl rfl ?_;refine TnD 29 (some 45) rfl rfl ?_;refine TnD 30 (some 46) rfl rfl ?_;refine TnD 31 (some 47) rfl rfl ?_;refine TnD 32 (some 48) rfl rfl ?_
       (try simp only[Act.put,List.setIfInBounds_toArray,List.set_cons_zero,List.set_cons_succ])
       refine TkH 33 49 ?_;refine TkH 34 8 ?_
       (try simp only[Act.put,List.setIfInBounds_toArray,List.set_cons_zero,List.set_cons_succ])
       refine wpAnyH_done (by kernel_rfl) ?_ _
       go_wp2_with fail
       go_ret;exact⟨by rw[HV.out];rfl,aS.trans (ae.2.mono aS.size)⟩
     | true=>
       cases q4 with
       | false=>
         go_wp2_with fail
         refine wp_region_held_drew (S:=fun V=>((V.cell? ⟨w.heap.size,0,none⟩=some (.string bo)/\V.cell? ⟨w.heap.size,1,none⟩=some (.string cw)/\V.cell? ⟨w.heap.size,2,none⟩=some (.string ck)/\V.cell? ⟨w.heap.size,3,none⟩=some (.bool true)/\V.cell? ⟨w.heap.size,4,none⟩=some (.string aU)/\V.cell? ⟨w.heap.size,5,none⟩=some (.int .i64 cf)/\V.cell? ⟨w.heap.size,6,none⟩=some (.bool cq)/\V.cell? ⟨w.heap.size,7,none⟩=some (.slice a1 n1 c1)/\V.cell? ⟨w.heap.size,8,none⟩=some (.bool bO)/\V.cell? ⟨w.heap.size,9,none⟩=some (.bool bU)/\V.cell? ⟨w.heap.size,10,none⟩=some (.string cz)/\V.cell? ⟨w.heap.size,11,none⟩=some (.string de))/\(V.cell? ⟨w.heap.size+1,0,none⟩=some (.int .i64 k)/\V.cell? ⟨w.heap.size+1,1,none⟩=some (.string t)/\V.cell? ⟨w.heap.size+1,2,none⟩=some (.int .i64 b)/\V.cell? ⟨w.heap.size+1,3,none⟩=some (.string sc)/\V.cell? ⟨w.heap.size+1,4,none⟩=some (.string ho)/\V.cell? ⟨w.heap.size+1,5,none⟩=some (.bool wd)/\V.cell? ⟨w.heap.size+1,6,none⟩=some (.int .i64 po)/\V.cell? ⟨w.heap.size+1,7,none⟩=some (.string pa)))/\Below W.heap.size W V) (by kernel_rfl) ⟨hC.out _ pE,pE⟩ (fun ae=>?_);generalize W.drew=W0 at ae⊢;refine TkH 0 16 ?_;refine TkH 1 17 ?_;refine TkH 2 18 ?_;refine TkH 3 19 ?_;refine TkH 4 20 ?_
         (try simp only[Act.put,List.setIfInBounds_toArray,List.set_cons_zero,List.set_cons_succ])
         refine TkH 5 21 ?_;refine TkH 6 22 ?_;refine TkH 7 23 ?_
         (try simp only[Act.put,List.setIfInBounds_toArray,List.set_cons_zero,List.set_cons_succ])
         refine TkH 8 24 ?_;refine TkH 9 25 ?_;refine TkH 10 26 ?_
         (try simp only[Act.put,List.setIfInBounds_toArray,List.set_cons_zero,List.set_cons_succ])
         refine wpAnyH_ready (rs:=[11]) (by kernel_rfl) (by simp) ?_;refine AllReadyH.cons rfl (fun K hK=>?_) AllReadyH.nil;go_simp
         go_at_call 153
         refine(cA.out _ (ae.2)).mono ?_;rintro e w5 ⟨rfl,fJ⟩;clear ae;refine hK.out _ _ ⟨hC.out _ fJ,fJ⟩ (fun ae=>?_);clear hK K
         (try simp only[Act.put,List.setIfInBounds_toArray,List.set_cons_zero,List.set_cons_succ])
         refine TkH 12 28 ?_;refine TkH 13 29 ?_;refine TkH 14 30 ?_;refine TkH 15 31 ?_;refine TkH 16 32 ?_
         (try simp only[Act.put,List.setIfInBounds_toArray,List.set_cons_zero,List.set_cons_succ])
         refine wpAnyH_ready (rs:=[17]) (by kernel_rfl) (by simp) ?_;refine AllReadyH.cons rfl (fun K hK=>?_) AllReadyH.nil;go_simp
         go_at_call 191
         refine(cB.out _ (ae.2)).mono ?_;rintro e w5 ⟨rfl,fJ⟩;clear ae;refine hK.out _ _ ⟨hC.out _ fJ,fJ⟩ (fun ae=>?_);clear hK K
         (try simp only[Act.put,List.setIfInBounds_toArray,List.set_cons_zero,List.set_cons_succ])
         refine TkH 18 34 ?_;refine TkH 19 35 ?_
         (try simp only[Act.put,List.setIfInBounds_toArray,List.set_cons_zero,List.set_cons_succ])
         refine TnD 20 (some 36) rfl rfl ?_;refine TnD 21 (some 37) rfl rfl ?_;refine TnD 22 (some 38) rfl rfl ?_
         (try simp only[Act.put,List.setIfInBounds_toArray,List.set_cons_zero,List.set_cons_succ])
         refine TkH 23 39 ?_;refine TkH 24 40 ?_
         (try simp only[Act.put,List.setIfInBounds_toArray,List.set_cons_zero,List.set_cons_succ])
         refine TnD 25 (some 41) rfl rfl ?_;refine TnD 26 (some 42) rfl rfl ?_;refine TnD 27 (some 43) rfl rfl ?_;refine TnD 28 (some 44) rfl rfl ?_;refine TnD 29 (some 45) rfl rfl ?_;refine TnD 30 (some 46) rfl rfl ?_;refine TnD 31 (some 47) rfl rfl ?_;refine TnD 32 (some 48) rfl rfl ?_
         (try simp only[Act.put,List.setIfInBounds_toArray,List.set_cons_zero,List.set_cons_succ])
         refine TkH 33 49 ?_;refine TkH 34 8 ?_
         (try simp only[Act.put,List.setIfInBounds_toArray,List.set_cons_zero,List.set_cons_succ])
         refine wpAnyH_done (by kernel_rfl) ?_ _
         go_wp2_with fail
         go_ret;exact⟨by rw[HV.out];rfl,aS.trans (ae.2.mono aS.size)⟩
       | true=>
         cases q5 with
         | false=>
           go_wp2_with fail
           refine wp_region_held_drew (S:=fun V=>((V.cell? ⟨w.heap.size,0,none⟩=some (.string bo)/\V.cell? ⟨w.heap.size,1,none⟩=some (.string cw)/\V.cell? ⟨w.heap.size,2,none⟩=some (.string ck)/\V.cell? ⟨w.heap.size,3,none⟩=some (.bool true)/\V.cell? ⟨w.heap.size,4,none⟩=some (.string aU)/\V.cell? ⟨w.heap.size,5,none⟩=some (.int .i64 cf)/\V.cell? ⟨w.heap.size,6,none⟩=some (.bool cq)/\V.cell? ⟨w.heap.size,7,none⟩=some (.slice a1 n1 c1)/\V.cell? ⟨w.heap.size,8,none⟩=some (.bool bO)/\V.cell? ⟨w.heap.size,9,none⟩=some (.bool bU)/\V.cell? ⟨w.heap.size,10,none⟩=some (.string cz)/\V.cell? ⟨w.heap.size,11,none⟩=some (.string de))/\(V.cell? ⟨w.heap.size+1,0,none⟩=some (.int .i64 k)/\V.cell? ⟨w.heap.size+1,1,none⟩=some (.string t)/\V.cell? ⟨w.heap.size+1,2,none⟩=some (.int .i64 b)/\V.cell? ⟨w.heap.size+1,3,none⟩=some (.string sc)/\V.cell? ⟨w.heap.size+1,4,none⟩=some (.string ho)/\V.cell? ⟨w.heap.size+1,5,none⟩=some (.bool wd)/\V.cell? ⟨w.heap.size+1,6,none⟩=some (.int .i64 po)/\V.cell? ⟨w.heap.size+1,7,none⟩=some (.string pa)))/\Below W.heap.size W V) (by kernel_rfl) ⟨hC.out _ pE,pE⟩ (fun ae=>?_);generalize W.drew=W0 at ae⊢;refine TkH 0 16 ?_;refine TkH 1 17 ?_;refine TkH 2 18 ?_;refine TkH 3 19 ?_;refine TkH 4 20 ?_
           (try simp only[Act.put,List.setIfInBounds_toArray,List.set_cons_zero,List.set_cons_succ])
           refine TkH 5 21 ?_;refine TkH 6 22 ?_;refine TkH 7 23 ?_
           (try simp only[Act.put,List.setIfInBounds_toArray,List.set_cons_zero,List.set_cons_succ])
           refine TkH 8 24 ?_;refine TkH 9 25 ?_;refine TkH 10 26 ?_
           (try simp only[Act.put,List.setIfInBounds_toArray,List.set_cons_zero,List.set_cons_succ])
           refine wpAnyH_ready (rs:=[11]) (by kernel_rfl) (by simp) ?_;refine AllReadyH.cons rfl (fun K hK=>?_) AllReadyH.nil;go_simp
           go_at_call 153
           refine(cA.out _ (ae.2)).mono ?_;rintro e w5 ⟨rfl,fJ⟩;clear ae;refine hK.out _ _ ⟨hC.out _ fJ,fJ⟩ (fun ae=>?_);clear hK K
           (try simp only[Act.put,List.setIfInBounds_toArray,List.set_cons_zero,List.set_cons_succ])
           refine TkH 12 28 ?_;refine TkH 13 29 ?_;refine TkH 14 30 ?_;refine TkH 15 31 ?_;refine TkH 16 32 ?_
           (try simp only[Act.put,List.setIfInBounds_toArray,List.set_cons_zero,List.set_cons_succ])
           refine wpAnyH_ready (rs:=[17]) (by kernel_rfl) (by simp) ?_;refine AllReadyH.cons rfl (fun K hK=>?_) AllReadyH.nil;go_simp
           go_at_call 191
           refine(cB.out _ (ae.2)).mono ?_;rintro e w5 ⟨rfl,fJ⟩;clear ae;refine hK.out _ _ ⟨hC.out _ fJ,fJ⟩ (fun ae=>?_);clear hK K
           (try simp only[Act.put,List.setIfInBounds_toArray,List.set_cons_zero,List.set_cons_succ])
           refine TkH 18 34 ?_;refine TkH 19 35 ?_;refine TkH 20 36 ?_;refine TkH 21 37 ?_
           (try simp only[Act.put,List.setIfInBounds_toArray,List.set_cons_zero,List.set_cons_succ])
           refine wpAnyH_ready (rs:=[22]) (by kernel_rfl) (by simp) ?_;refine AllReadyH.cons rfl (fun K hK=>?_) AllReadyH.nil;go_simp
           go_at_call 192
           refine(cC.out _ (ae.2)).mono ?_;rintro e w5 ⟨rfl,fJ⟩;clear ae;refine hK.out _ _ ⟨hC.out _ fJ,fJ⟩ (fun ae=>?_);clear hK K
           (try simp only[Act.put,List.setIfInBounds_toArray,List.set_cons_zero,List.set_cons_succ])
           refine TkH 23 39 ?_;refine TkH 24 40 ?_
           (try simp only[Act.put,List.setIfInBounds_toArray,List.set_cons_zero,List.set_cons_succ])
           refine TnD 25 (some 41) rfl rfl ?_;refine TnD 26 (some 42) rfl rfl ?_;refine TnD 27 (some 43) rfl rfl ?_;refine TnD 28 (some 44) rfl rfl ?_;refine TnD 29 (some 45) rfl rfl ?_;refine TnD 30 (some 46) rfl rfl ?_;refine TnD 31 (some 47) rfl rfl ?_;refine TnD 32 (some 48) rfl rfl ?_
           (try simp only[Act.put,List.setIfInBounds_toArray,List.set_cons_zero,List.set_cons_succ])
           refine TkH 33 49 ?_;refine TkH 34 8 ?_
           (try simp only[Act.put,List.setIfInBounds_toArray,List.set_cons_zero,List.set_cons_succ])
           refine wpAnyH_done (by kernel_rfl) ?_ _
           go_wp2_with fail
           go_ret;exact⟨by rw[HV.out];rfl,aS.trans (ae.2.mono aS.size)⟩
         | true=>
           cases red with
           | true=>
             go_wp2_with fail
             refine wp_region_held_drew (S:=fun V=>((V.cell? ⟨w.heap.size,0,none⟩=some (.string bo)/\V.cell? ⟨w.heap.size,1,none⟩=some (.string cw)/\V.cell? ⟨w.heap.size,2,none⟩=some (.string ck)/\V.cell? ⟨w.heap.size,3,none⟩=some (.bool true)/\V.cell? ⟨w.heap.size,4,none⟩=some (.string aU)/\V.cell? ⟨w.heap.size,5,none⟩=some (.int .i64 cf)/\V.cell? ⟨w.heap.size,6,none⟩=some (.bool cq)/\V.cell? ⟨w.heap.size,7,none⟩=some (.slice a1 n1 c1)/\V.cell? ⟨w.heap.size,8,none⟩=some (.bool bO)/\V.cell? ⟨w.heap.size,9,none⟩=some (.bool bU)/\V.cell? ⟨w.heap.size,10,none⟩=some (.string cz)/\V.cell? ⟨w.heap.size,11,none⟩=some (.string de))/\(V.cell? ⟨w.heap.size+1,0,none⟩=some (.int .i64 k)/\V.cell? ⟨w.heap.size+1,1,none⟩=some (.string t)/\V.cell? ⟨w.heap.size+1,2,none⟩=some (.int .i64 b)/\V.cell? ⟨w.heap.size+1,3,none⟩=some (.string sc)/\V.cell? ⟨w.heap.size+1,4,none⟩=some (.string ho)/\V.cell? ⟨w.heap.size+1,5,none⟩=some (.bool wd)/\V.cell? ⟨w.heap.size+1,6,none⟩=some (.int .i64 po)/\V.cell? ⟨w.heap.size+1,7,none⟩=some (.string pa)))/\Below W.heap.size W V) (by kernel_rfl) ⟨hC.out _ pE,pE⟩ (fun ae=>?_);generalize W.drew=W0 at ae⊢;refine TkH 0 16 ?_;refine TkH 1 17 ?_;refine TkH 2 18 ?_;refine TkH 3 19 ?_;refine TkH 4 20 ?_
             (try simp only[Act.put,List.setIfInBounds_toArray,List.set_cons_zero,List.set_cons_succ])
             refine TkH 5 21 ?_;refine TkH 6 22 ?_;refine TkH 7 23 ?_
             (try simp only[Act.put,List.setIfInBounds_toArray,List.set_cons_zero,List.set_cons_succ])
             refine TkH 8 24 ?_;refine TkH 9 25 ?_;refine TkH 10 26 ?_
             (try simp only[Act.put,List.setIfInBounds_toArray,List.set_cons_zero,List.set_cons_succ])
             refine wpAnyH_ready (rs:=[11]) (by kernel_rfl) (by simp) ?_;refine AllReadyH.cons rfl (fun K hK=>?_) AllReadyH.nil;go_simp
             go_at_call 153
             refine(cA.out _ (ae.2)).mono ?_;rintro e w5 ⟨rfl,fJ⟩;clear ae;refine hK.out _ _ ⟨hC.out _ fJ,fJ⟩ (fun ae=>?_);clear hK K
             (try simp only[Act.put,List.setIfInBounds_toArray,List.set_cons_zero,List.set_cons_succ])
             refine TkH 12 28 ?_;refine TkH 13 29 ?_;refine TkH 14 30 ?_;refine TkH 15 31 ?_;refine TkH 16 32 ?_
             (try simp only[Act.put,List.setIfInBounds_toArray,List.set_cons_zero,List.set_cons_succ])
             refine wpAnyH_ready (rs:=[17]) (by kernel_rfl) (by simp) ?_;refine AllReadyH.cons rfl (fun K hK=>?_) AllReadyH.nil;go_simp
             go_at_call 191
             refine(cB.out _ (ae.2)).mono ?_;rintro e w5 ⟨rfl,fJ⟩;clear ae;refine hK.out _ _ ⟨hC.out _ fJ,fJ⟩ (fun ae=>?_);clear hK K
             (try simp only[Act.put,List.setIfInBounds_toArray,List.set_cons_zero,List.set_cons_succ])
             refine TkH 18 34 ?_;refine TkH 19 35 ?_;refine TkH 20 36 ?_;refine TkH 21 37 ?_
             (try simp only[Act.put,List.setIfInBounds_toArray,List.set_cons_zero,List.set_cons_succ])
             refine wpAnyH_ready (rs:=[22]) (by kernel_rfl) (by simp) ?_;refine AllReadyH.cons rfl (fun K hK=>?_) AllReadyH.nil;go_simp
             go_at_call 192
             refine(cC.out _ (ae.2)).mono ?_;rintro e w5 ⟨rfl,fJ⟩;clear ae;refine hK.out _ _ ⟨hC.out _ fJ,fJ⟩ (fun ae=>?_);clear hK K
             (try simp only[Act.put,List.setIfInBounds_toArray,List.set_cons_zero,List.set_cons_succ])
             refine TkH 23 39 ?_;refine TkH 24 40 ?_;refine TkH 25 41 ?_;refine TkH 26 42 ?_
             (try simp only[Act.put,List.setIfInBounds_toArray,List.set_cons_zero,List.set_cons_succ])
             refine TnD 27 (some 43) rfl rfl ?_;refine TnD 28 (some 44) rfl rfl ?_;refine TnD 29 (some 45) rfl rfl ?_;refine TnD 30 (some 46) rfl rfl ?_;refine TnD 31 (some 47) rfl rfl ?_
             (try simp only[Act.put,List.setIfInBounds_toArray,List.set_cons_zero,List.set_cons_succ])
             refine TkH 32 48 ?_;refine TkH 33 49 ?_;refine TkH 34 8 ?_
             (try simp only[Act.put,List.setIfInBounds_toArray,List.set_cons_zero,List.set_cons_succ])
             refine wpAnyH_done (by kernel_rfl) ?_ _
             go_wp2_with fail
             go_ret;exact⟨by rw[HV.out];rfl,aS.trans (ae.2.mono aS.size)⟩
           | false=>
             go_wp2_with fail
             refine wp_region_held_drew (S:=fun V=>((V.cell? ⟨w.heap.size,0,none⟩=some (.string bo)/\V.cell? ⟨w.heap.size,1,none⟩=some (.string cw)/\V.cell? ⟨w.heap.size,2,none⟩=some (.string ck)/\V.cell? ⟨w.heap.size,3,none⟩=some (.bool true)/\V.cell? ⟨w.heap.size,4,none⟩=some (.string aU)/\V.cell? ⟨w.heap.size,5,none⟩=some (.int .i64 cf)/\V.cell? ⟨w.heap.size,6,none⟩=some (.bool cq)/\V.cell? ⟨w.heap.size,7,none⟩=some (.slice a1 n1 c1)/\V.cell? ⟨w.heap.size,8,none⟩=some (.bool bO)/\V.cell? ⟨w.heap.size,9,none⟩=some (.bool bU)/\V.cell? ⟨w.heap.size,10,none⟩=some (.string cz)/\V.cell? ⟨w.heap.size,11,none⟩=some (.string de))/\(V.cell? ⟨w.heap.size+1,0,none⟩=some (.int .i64 k)/\V.cell? ⟨w.heap.size+1,1,none⟩=some (.string t)/\V.cell? ⟨w.heap.size+1,2,none⟩=some (.int .i64 b)/\V.cell? ⟨w.heap.size+1,3,none⟩=some (.string sc)/\V.cell? ⟨w.heap.size+1,4,none⟩=some (.string ho)/\V.cell? ⟨w.heap.size+1,5,none⟩=some (.bool wd)/\V.cell? ⟨w.heap.size+1,6,none⟩=some (.int .i64 po)/\V.cell? ⟨w.heap.size+1,7,none⟩=some (.string pa)))/\Below W.heap.size W V) (by kernel_rfl) ⟨hC.out _ pE,pE⟩ (fun ae=>?_);generalize W.drew=W0 at ae⊢;refine TkH 0 16 ?_;refine TkH 1 17 ?_;refine TkH 2 18 ?_;refine TkH 3 19 ?_;refine TkH 4 20 ?_
             (try simp only[Act.put,List.setIfInBounds_toArray,List.set_cons_zero,List.set_cons_succ])
             refine TkH 5 21 ?_;refine TkH 6 22 ?_;refine TkH 7 23 ?_
             (try simp only[Act.put,List.setIfInBounds_toArray,List.set_cons_zero,List.set_cons_succ])
             refine TkH 8 24 ?_;refine TkH 9 25 ?_;refine TkH 10 26 ?_
             (try simp only[Act.put,List.setIfInBounds_toArray,List.set_cons_zero,List.set_cons_succ])
             refine wpAnyH_ready (rs:=[11]) (by kernel_rfl) (by simp) ?_;refine AllReadyH.cons rfl (fun K hK=>?_) AllReadyH.nil;go_simp
             go_at_call 153
             refine(cA.out _ (ae.2)).mono ?_;rintro e w5 ⟨rfl,fJ⟩;clear ae;refine hK.out _ _ ⟨hC.out _ fJ,fJ⟩ (fun ae=>?_);clear hK K
             (try simp only[Act.put,List.setIfInBounds_toArray,List.set_cons_zero,List.set_cons_succ])
             refine TkH 12 28 ?_;refine TkH 13 29 ?_;refine TkH 14 30 ?_;refine TkH 15 31 ?_;refine TkH 16 32 ?_
             (try simp only[Act.put,List.setIfInBounds_toArray,List.set_cons_zero,List.set_cons_succ])
             refine wpAnyH_ready (rs:=[17]) (by kernel_rfl) (by simp) ?_;refine AllReadyH.cons rfl (fun K hK=>?_) AllReadyH.nil;go_simp
             go_at_call 191
             refine(cB.out _ (ae.2)).mono ?_;rintro e w5 ⟨rfl,fJ⟩;clear ae;refine hK.out _ _ ⟨hC.out _ fJ,fJ⟩ (fun ae=>?_);clear hK K
             (try simp only[Act.put,List.setIfInBounds_toArray,List.set_cons_zero,List.set_cons_succ])
             refine TkH 18 34 ?_;refine TkH 19 35 ?_;refine TkH 20 36 ?_;refine TkH 21 37 ?_
             (try simp only[Act.put,List.setIfInBounds_toArray,List.set_cons_zero,List.set_cons_succ])
             refine wpAnyH_ready (rs:=[22]) (by kernel_rfl) (by simp) ?_;refine AllReadyH.cons rfl (fun K hK=>?_) AllReadyH.nil;go_simp
             go_at_call 192
             refine(cC.out _ (ae.2)).mono ?_;rintro e w5 ⟨rfl,fJ⟩;clear ae;refine hK.out _ _ ⟨hC.out _ fJ,fJ⟩ (fun ae=>?_);clear hK K
             (try simp only[Act.put,List.setIfInBounds_toArray,List.set_cons_zero,List.set_cons_succ])
             refine TkH 23 39 ?_;refine TkH 24 40 ?_;refine TkH 25 41 ?_;refine TkH 26 42 ?_;refine TkH 27 43 ?_
             (try simp only[Act.put,List.setIfInBounds_toArray,List.set_cons_zero,List.set_cons_succ])
             refine TkH 28 44 ?_;refine TkH 29 45 ?_
             (try simp only[Act.put,List.setIfInBounds_toArray,List.set_cons_zero,List.set_cons_succ])
             refine wpAnyH_ready (rs:=[30]) (by kernel_rfl) (by simp) ?_;refine AllReadyH.cons rfl (fun K hK=>?_) AllReadyH.nil;go_simp
             go_at_call 194
             refine(cD.out _ (ae.2)).mono ?_;rintro e w5 ⟨tp,rfl,P3,fJ⟩;clear ae;refine hK.out _ _ ⟨hC.out _ fJ,fJ⟩ (fun ae=>?_);clear hK K
             (try simp only[Act.put,List.setIfInBounds_toArray,List.set_cons_zero,List.set_cons_succ])
             refine wpAnyH_ready (rs:=[31]) (by kernel_rfl) (by simp) ?_;refine AllReadyH.cons rfl (fun K hK=>?_) AllReadyH.nil;go_simp
             go_at_call 193
             refine(cE.out _ _ P3 ae.2).mono ?_;rintro e w5 ⟨rfl,fJ⟩;clear ae;refine hK.out _ _ ⟨hC.out _ fJ,fJ⟩ (fun ae=>?_);clear hK K
             (try simp only[Act.put,List.setIfInBounds_toArray,List.set_cons_zero,List.set_cons_succ])
             refine TkH 32 48 ?_;refine TkH 33 49 ?_;refine TkH 34 8 ?_
             (try simp only[Act.put,List.setIfInBounds_toArray,List.set_cons_zero,List.set_cons_succ])
             refine wpAnyH_done (by kernel_rfl) ?_ _
             go_wp2_with fail
             go_ret;exact⟨by rw[HV.out];rfl,aS.trans (ae.2.mono aS.size)⟩
end Go.Proofs.YtecoeebjaleeiaaGreatDoor
