/-
  Package match: hosted.
-/
import Derived.Test.YtjhccadmmnjpeaaGreatDoorT31
import Derived.Test.YtjhccadmmnjpeaaGreatDoorT36
set_option maxHeartbeats 8000000
set_option maxRecDepth 100000
namespace Go.Proofs.YtjhccadmmnjpeaaGreatDoor
open Go.RowKit
attribute [local go_sem ↓] Go.wp_at_zero Go.wp_at_succ
theorem row8c {V:World} {r:Nat} {x0 x1 x2 x3 x4 x5 x6 x7:Value} {t:TypeId} {fr:Nat×Nat} (h:V.heap[r]? =some (.cells #[x0,x1,x2,x3,x4,x5,x6,x7] t fr)):V.cell? ⟨r,0,none⟩=some x0/\V.cell? ⟨r,1,none⟩=some x1/\V.cell? ⟨r,2,none⟩=some x2/\V.cell? ⟨r,3,none⟩=some x3/\V.cell? ⟨r,4,none⟩=some x4/\V.cell? ⟨r,5,none⟩=some x5/\V.cell? ⟨r,6,none⟩=some x6/\V.cell? ⟨r,7,none⟩=some x7:=
 ⟨rowAt h 0 x0 rfl,rowAt h 1 x1 rfl,rowAt h 2 x2 rfl,rowAt h 3 x3 rfl,rowAt h 4 x4 rfl,rowAt h 5 x5 rfl,rowAt h 6 x6 rfl,rowAt h 7 x7 rfl⟩
structure SOk (x:SrcB):Prop where
 scheme:x.scheme.size<=1000000
 host:x.host.size<=90000
 path:x.path.size<=1000000
theorem pathTM_len {u:Lz.UrlL} (h:UOk u):(Lz.pathTM u).length<=1000000:=by
 have h1:=h.wq;have h2:(slS u.path).length=Lz.pl u.path:=rfl;unfold Lz.wq Lz.wt at h1;unfold Lz.pathTM;split
 ·rename_i ho;obtain⟨_,p,hp,_⟩:=h.nu.opaqueN ho;have h3:Lz.pl u.path=p.length+1:=by rw[hp];exact Lz.pl_one p
  have h4:u.path.flatten=p:=by rw[hp];simp
  rw[h4];omega
 ·show(slS u.path).length<=_;omega
theorem host_len {u:Lz.UrlL} (h:UOk u):u.host.length<=100000:=by
 have h1:=h.wq;unfold Lz.wq Lz.wt at h1;omega
theorem hostedMt_any (v:Value) (u:Lz.UrlL) (x:SrcB) (v2:Value) (own:Lz.UrlL) (red:Bool) (w:World) (hE:EnvM w) (hv:UrlVal w v u) (hU:UOk u) (hX:SOk x) (hv2:UrlVal w v2 own) (hO:own.scheme.length<=1000000):Calls Tryz.prog 119 #[v,x.val,v2,.bool red] w (RBool (Lz.hostedM u x.src own red) w):=by
 obtain⟨sc1,us1,pa1,hh1,hs1,pr1,op1,a1,n1,c1,hq1,hf1,qr1,fr1,rfl,e0,e3,e4,e5,_,hv⟩:=hv.letters;obtain⟨sc2,us2,pa2,hh2,hs2,pr2,op2,a2,n2,c2,hq2,hf2,qr2,fr2,rfl,f0,_,_,_,_,hv2⟩:=hv2.letters;obtain⟨k,t,b,sc,ho,wd,po,pa⟩:=x;obtain⟨R,hR⟩:∃R,R=Lz.hostedM u (SrcB.src ⟨k,t,b,sc,ho,wd,po,pa⟩) own red:=⟨_,rfl⟩;rw[<-hR];obtain⟨sm,hsm⟩:∃sm:ByteArray,sm=if sc.size=0 then sc2 else sc:=⟨_,rfl⟩
 have hsmz:sm.size<=1000000000:=by
  rw[hsm];split
  ·rw[<-len_of_size,<-f0];omega
  ·have:=hX.scheme;show sc.size<=_;have h2:sc.size<=1000000:=this;omega
 obtain⟨q3,hq3⟩:∃q3,q3=Lz.schemeM sm.data.toList sc1.data.toList:=⟨_,rfl⟩;obtain⟨q4,hq4⟩:∃q4,q4=Lz.hostM (SrcB.src ⟨k,t,b,sc,ho,wd,po,pa⟩) hs1.data.toList:=⟨_,rfl⟩;obtain⟨q5,hq5⟩:∃q5,q5=Lz.portM (SrcB.src ⟨k,t,b,sc,ho,wd,po,pa⟩) u:=⟨_,rfl⟩;obtain⟨q6,hq6⟩:∃q6,q6=Lz.pathM pa.data.toList (Lz.pathTM u):=⟨_,rfl⟩
 have HR:Hid (R=(hh1&&((hs1.data.toList != [])&&(q3&&(q4&&(q5&&(red||q6))))))):=by
  show _=_
  have hs:(if(SrcB.src ⟨k,t,b,sc,ho,wd,po,pa⟩).scheme=[]then own.scheme else(SrcB.src ⟨k,t,b,sc,ho,wd,po,pa⟩).scheme)=sm.data.toList:=by
   show(if sc.data.toList=[]then own.scheme else sc.data.toList)=_;rw[hsm,f0];by_cases h:sc.size=0
   ·rw[if_pos h,if_pos (List.length_eq_zero_iff.1 (by rw[len_of_size];exact h))]
   ·rw[if_neg h,if_neg (fun e=>h (by rw[<-len_of_size,e];rfl))]
  rw[hR,hq3,hq4,hq5,hq6];unfold Lz.hostedM;rw[hs,e0,e3,e4];rfl
 dsimp only[SrcB.val]
 obtain⟨W,hW⟩:∃W,W=((w.alloc (.cells #[.string sc1,.string us1,.string pa1,.bool hh1,.string hs1,.int .i64 pr1,.bool op1,.slice a1 n1 c1,.bool hq1,.bool hf1,.string qr1,.string fr1] 36)).alloc (.cells #[.int .i64 k,.string t,.int .i64 b,.string sc,.string ho,.bool wd,.int .i64 po,.string pa] 47)).alloc (.cells #[.string sc2,.string us2,.string pa2,.bool hh2,.string hs2,.int .i64 pr2,.bool op2,.slice a2 n2 c2,.bool hq2,.bool hf2,.string qr2,.string fr2] 36):=⟨_,rfl⟩;have hbW:Below w.heap.size w W:=by rw[hW];exact(((Below.refl _ w).alloc (Nat.le_refl _) _).alloc (by simp) _).alloc (by simp;omega) _
 have hRU:W.heap[w.heap.size]? =some (.cells #[.string sc1,.string us1,.string pa1,.bool hh1,.string hs1,.int .i64 pr1,.bool op1,.slice a1 n1 c1,.bool hq1,.bool hf1,.string qr1,.string fr1] 36 (0,0)):=by
  rw[hW,Below.heap_alloc _ _ _ (by simp;omega),Below.heap_alloc _ _ _ (by simp)];exact heap_new _ _
 have hRS:W.heap[w.heap.size+1]? =some (.cells #[.int .i64 k,.string t,.int .i64 b,.string sc,.string ho,.bool wd,.int .i64 po,.string pa] 47 (0,0)):=by
  rw[hW,Below.heap_alloc _ _ _ (by simp)];exact heap_new2 _ _ _
 have hRO:W.heap[w.heap.size+2]? =some (.cells #[.string sc2,.string us2,.string pa2,.bool hh2,.string hs2,.int .i64 pr2,.bool op2,.slice a2 n2 c2,.bool hq2,.bool hf2,.string qr2,.string fr2] 36 (0,0)):=by
  rw[hW];have:=heap_new ((w.alloc (.cells #[.string sc1,.string us1,.string pa1,.bool hh1,.string hs1,.int .i64 pr1,.bool op1,.slice a1 n1 c1,.bool hq1,.bool hf1,.string qr1,.string fr1] 36)).alloc (.cells #[.int .i64 k,.string t,.int .i64 b,.string sc,.string ho,.bool wd,.int .i64 po,.string pa] 47)) (.cells #[.string sc2,.string us2,.string pa2,.bool hh2,.string hs2,.int .i64 pr2,.bool op2,.slice a2 n2 c2,.bool hq2,.bool hf2,.string qr2,.string fr2] 36);simpa using this
 have s3:=rowAt hRS 3 (.string sc) rfl;have o0:=rowAt hRO 0 (.string sc2) rfl;have HW:=Ih hW;have hvW:=hv.below hbW;have hEW:=hE.below hbW;have hhs:hs1.size<=100000:=by rw[<-len_of_size,<-e4];exact host_len hU
 have cA:Hid (∀V,Below W.heap.size W V->Calls Tryz.prog 116 #[.string sm,.string sc1] V fun e w'=>e=.returned (.bool q3)/\Below W.heap.size W w'):=Ih (fun V hV=>(SchemeM_any sm sc1 V (hEW.below hV) hsmz).mono fun e w' ⟨h1,h2⟩=>⟨by rw[h1,hq3],hV.trans (h2.mono hV.size)⟩);have cB:Hid (∀V,Below W.heap.size W V->Calls Tryz.prog 177 #[.agg #[.int .i64 k,.string t,.int .i64 b,.string sc,.string ho,.bool wd,.int .i64 po,.string pa],.string hs1] V fun e w'=>e=.returned (.bool q4)/\Below W.heap.size W w'):=Ih (fun V hV=>(hostMt_any ⟨k,t,b,sc,ho,wd,po,pa⟩ hs1 V (hEW.below hV).u.h hX.host (by omega)).mono fun e w' ⟨h1,h2⟩=>⟨by rw[h1,hq4],hV.trans (h2.mono hV.size)⟩);have cC:Hid (∀V,Below W.heap.size W V->Calls Tryz.prog 178 #[.agg #[.int .i64 k,.string t,.int .i64 b,.string sc,.string ho,.bool wd,.int .i64 po,.string pa],.agg #[.string sc1,.string us1,.string pa1,.bool hh1,.string hs1,.int .i64 pr1,.bool op1,.slice a1 n1 c1,.bool hq1,.bool hf1,.string qr1,.string fr1]] V fun e w'=>e=.returned (.bool q5)/\Below W.heap.size W w'):=Ih (fun V hV=>(portMt_any ⟨k,t,b,sc,ho,wd,po,pa⟩ _ u V (hvW.below hV)).mono fun e w' ⟨h1,h2⟩=>⟨by rw[h1,hq5],hV.trans (h2.mono hV.size)⟩)
 have cD:Hid (∀V,Below W.heap.size W V->Calls Tryz.prog 180 #[.agg #[.string sc1,.string us1,.string pa1,.bool hh1,.string hs1,.int .i64 pr1,.bool op1,.slice a1 n1 c1,.bool hq1,.bool hf1,.string qr1,.string fr1]] V fun e w'=>∃tp:ByteArray,e=.returned (.string tp)/\Hid (tp.data.toList=Lz.pathTM u)/\Below W.heap.size W w'):=Ih (fun V hV=>(pathT_any _ u V (hvW.below hV) hU).mono fun e w' ⟨tp,h1,h2,h3⟩=>⟨tp,h1,h2,hV.trans (h3.mono hV.size)⟩);have cE:Hid (∀V (tp:ByteArray),Hid (tp.data.toList=Lz.pathTM u)->Below W.heap.size W V->Calls Tryz.prog 179 #[.string pa,.string tp] V fun e w'=>e=.returned (.bool q6)/\Below W.heap.size W w'):=Ih (fun V tp htp hV=>(PathM_any pa tp V (hEW.below hV).u.h hX.path (by rw[<-len_of_size,htp.out];exact pathTM_len hU)).mono fun e w' ⟨h1,h2⟩=>⟨by rw[h1,hq6,htp.out],hV.trans (h2.mono hV.size)⟩)
 have hC:Hid (∀V,Below W.heap.size W V->(V.cell? ⟨w.heap.size,0,none⟩=some (.string sc1)/\V.cell? ⟨w.heap.size,1,none⟩=some (.string us1)/\V.cell? ⟨w.heap.size,2,none⟩=some (.string pa1)/\V.cell? ⟨w.heap.size,3,none⟩=some (.bool hh1)/\V.cell? ⟨w.heap.size,4,none⟩=some (.string hs1)/\V.cell? ⟨w.heap.size,5,none⟩=some (.int .i64 pr1)/\V.cell? ⟨w.heap.size,6,none⟩=some (.bool op1)/\V.cell? ⟨w.heap.size,7,none⟩=some (.slice a1 n1 c1)/\V.cell? ⟨w.heap.size,8,none⟩=some (.bool hq1)/\V.cell? ⟨w.heap.size,9,none⟩=some (.bool hf1)/\V.cell? ⟨w.heap.size,10,none⟩=some (.string qr1)/\V.cell? ⟨w.heap.size,11,none⟩=some (.string fr1))/\(V.cell? ⟨w.heap.size+1,0,none⟩=some (.int .i64 k)/\V.cell? ⟨w.heap.size+1,1,none⟩=some (.string t)/\V.cell? ⟨w.heap.size+1,2,none⟩=some (.int .i64 b)/\V.cell? ⟨w.heap.size+1,3,none⟩=some (.string sc)/\V.cell? ⟨w.heap.size+1,4,none⟩=some (.string ho)/\V.cell? ⟨w.heap.size+1,5,none⟩=some (.bool wd)/\V.cell? ⟨w.heap.size+1,6,none⟩=some (.int .i64 po)/\V.cell? ⟨w.heap.size+1,7,none⟩=some (.string pa))):=Ih (fun V hV=>⟨row12 ((hV.block _ (row_lt hRU)).trans hRU),row8c ((hV.block _ (row_lt hRS)).trans hRS)⟩);have hB0:Below W.heap.size W W:=Below.refl _ _
 have hBd:Below W.heap.size W W.drew:=(Below.refl _ _).drew;have HSM:=Ih hsm;obtain⟨qz,hqz⟩:∃qz,qz=sc.toList.isEmpty:=⟨_,rfl⟩
 have HZI:Hid ((qz=true->sc.size=0)/\(sc.size=0->qz=true)):=by
  constructor
  ·intro h;by_cases h0:sc.size=0
   ·exact h0
   ·rw[hqz,isEmpty_of_pos (by omega)]at h;cases h
  ·intro h;rw[hqz];exact isEmpty_of_size h
 have HQZ:=Ih hqz;clear hqz hR hW hsm hq3 hq4 hq5 hq6 e0 e3 e4 e5 f0 hv hv2 hvW hEW hE hRU hRS hRO hU hX hO hsmz;go_enter Tryz.func119,Tryz.ntmps119
 go_upto_region 2 with fail
 rw[<-HW.out]
 go_cut [13] (fun s wx=>s=.bool qz/\W=wx)
 case first=>
  cases qz with
  | true=>
    have z1:sc.toList.isEmpty=true:=HQZ.out.symm
    go_wp2_with fail
    go_meet;exact⟨rfl,rfl⟩
  | false=>
    have z1:sc.toList.isEmpty=false:=HQZ.out.symm
    go_wp2_with fail
    go_meet;exact⟨rfl,rfl⟩
 case rest=>
 obtain⟨rfl,rfl⟩:=hcut
 go_upto_if 13 with fail
 go_cut [9] (fun s wx=>s=.string sm/\W=wx)
 case first=>
  cases qz with
  | true=>
    have HS2:Hid (sm=sc2):=by show _=_;rw[HSM.out,if_pos (HZI.out.1 rfl)]
    go_wp2_with fail
    go_meet;exact⟨by rw[HS2.out],rfl⟩
  | false=>
    have HS2:Hid (sm=sc):=by show _=_;rw[HSM.out,if_neg (fun h=>by have:=HZI.out.2 h;cases this)]
    go_wp2_with fail
    go_meet;exact⟨by rw[HS2.out],rfl⟩
 case rest=>
  obtain⟨rfl,rfl⟩:=hcut;clear s3 o0;have hCW:=hC.out W hB0;obtain⟨⟨x0,x1,x2,x3,x4,x5,x6,x7,x8,x9,x10,x11⟩,y0,y1,y2,y3,y4,y5,y6,y7⟩:=hCW;cases hh1 with
  | false=>
    have HV:Hid (R=false):=by show _=_;rw[HR.out];rfl
    go_wp2_with fail
    go_quiet (fail)
    go_wp2_with fail
    go_ret;exact⟨by rw[HV.out];rfl,below_drewN hbW _⟩
  | true=>
    by_cases hz:hs1.size=0
    ·have z1:hs1.toList.isEmpty=true:=isEmpty_of_size hz;have z2:hs1.data.toList=[]:=List.length_eq_zero_iff.1 (by rw[len_of_size];exact hz);have HV:Hid (R=false):=by show _=_;rw[HR.out,z2];rfl
     clear hz z2
     go_wp2_with fail
     go_quiet (fail)
     go_wp2_with fail
     go_ret;exact⟨by rw[HV.out];rfl,below_drewN hbW _⟩
    ·have z1:hs1.toList.isEmpty=false:=isEmpty_of_pos (by omega)
     have z2:(hs1.data.toList != [])=true:=by
      rw[bne,beq_eq_false_iff_ne.2 (fun e=>hz (by rw[<-len_of_size,e];rfl))];rfl
     have HV:Hid (R=(q3&&(q4&&(q5&&(red||q6))))):=by show _=_;rw[HR.out,z2,Bool.true_and,Bool.true_and]
     clear hz z2 HR x0 x1 x2 x3 x4 x5 x6 x7 x8 x9 x10 x11 y0 y1 y2 y3 y4 y5 y6 y7;cases q3 with
     | false=>
       go_wp2_with fail
       refine wp_region_held_drew (S:=fun V=>((V.cell? ⟨w.heap.size,0,none⟩=some (.string sc1)/\V.cell? ⟨w.heap.size,1,none⟩=some (.string us1)/\V.cell? ⟨w.heap.size,2,none⟩=some (.string pa1)/\V.cell? ⟨w.heap.size,3,none⟩=some (.bool true)/\V.cell? ⟨w.heap.size,4,none⟩=some (.string hs1)/\V.cell? ⟨w.heap.size,5,none⟩=some (.int .i64 pr1)/\V.cell? ⟨w.heap.size,6,none⟩=some (.bool op1)/\V.cell? ⟨w.heap.size,7,none⟩=some (.slice a1 n1 c1)/\V.cell? ⟨w.heap.size,8,none⟩=some (.bool hq1)/\V.cell? ⟨w.heap.size,9,none⟩=some (.bool hf1)/\V.cell? ⟨w.heap.size,10,none⟩=some (.string qr1)/\V.cell? ⟨w.heap.size,11,none⟩=some (.string fr1))/\(V.cell? ⟨w.heap.size+1,0,none⟩=some (.int .i64 k)/\V.cell? ⟨w.heap.size+1,1,none⟩=some (.string t)/\V.cell? ⟨w.heap.size+1,2,none⟩=some (.int .i64 b)/\V.cell? ⟨w.heap.size+1,3,none⟩=some (.string sc)/\V.cell? ⟨w.heap.size+1,4,none⟩=some (.string ho)/\V.cell? ⟨w.heap.size+1,5,none⟩=some (.bool wd)/\V.cell? ⟨w.heap.size+1,6,none⟩=some (.int .i64 po)/\V.cell? ⟨w.heap.size+1,7,none⟩=some (.string pa)))/\Below W.heap.size W V) (by kernel_rfl) ⟨hC.out _ hBd,hBd⟩ (fun hHeld=>?_);generalize W.drew=W0 at hHeld⊢;refine TkD 0 (some 16) (v:=?_) rfl rfl ?_ ?_;rotate_left
       ·(intro W hSw;(try dsimp only at hSw);go_simp;try with_reducible rfl)
       (try simp only[Act.put,List.setIfInBounds_toArray,List.set_cons_zero,List.set_cons_succ])
       refine TkD 1 (some 17) (v:=?_) rfl rfl ?_ ?_;rotate_left
       ·(intro W hSw;(try dsimp only at hSw);go_simp;try with_reducible rfl)
       (try simp only[Act.put,List.setIfInBounds_toArray,List.set_cons_zero,List.set_cons_succ])
       refine TkD 2 (some 18) (v:=?_) rfl rfl ?_ ?_;rotate_left
       ·(intro W hSw;(try dsimp only at hSw);go_simp;try with_reducible rfl)
       (try simp only[Act.put,List.setIfInBounds_toArray,List.set_cons_zero,List.set_cons_succ])
       refine TkD 3 (some 19) (v:=?_) rfl rfl ?_ ?_;rotate_left
       ·(intro W hSw;(try dsimp only at hSw);go_simp;try with_reducible rfl)
       (try simp only[Act.put,List.setIfInBounds_toArray,List.set_cons_zero,List.set_cons_succ])
       refine TkD 4 (some 20) (v:=?_) rfl rfl ?_ ?_;rotate_left
       ·(intro W hSw;(try dsimp only at hSw);go_simp;try with_reducible rfl)
       (try simp only[Act.put,List.setIfInBounds_toArray,List.set_cons_zero,List.set_cons_succ])
       refine TkD 5 (some 21) (v:=?_) rfl rfl ?_ ?_;rotate_left
       ·(intro W hSw;(try dsimp only at hSw);go_simp;try with_reducible rfl)
       (try simp only[Act.put,List.setIfInBounds_toArray,List.set_cons_zero,List.set_cons_succ])
       refine TkD 6 (some 22) (v:=?_) rfl rfl ?_ ?_;rotate_left
       ·(intro W hSw;(try dsimp only at hSw);go_simp;try with_reducible rfl)
       (try simp only[Act.put,List.setIfInBounds_toArray,List.set_cons_zero,List.set_cons_succ])
       refine TkD 7 (some 23) (v:=?_) rfl rfl ?_ ?_;rotate_left
       ·(intro W hSw;(try dsimp only at hSw);go_simp;try with_reducible rfl)
       (try simp only[Act.put,List.setIfInBounds_toArray,List.set_cons_zero,List.set_cons_succ])
       refine TkD 8 (some 24) (v:=?_) rfl rfl ?_ ?_;rotate_left
       ·(intro W hSw;(try dsimp only at hSw);go_simp;try with_reducible rfl)
       (try simp only[Act.put,List.setIfInBounds_toArray,List.set_cons_zero,List.set_cons_succ])
       refine TkD 9 (some 25) (v:=?_) rfl rfl ?_ ?_;rotate_left
       ·(intro W hSw;(try dsimp only at hSw);go_simp;try with_reducible rfl)
       (try simp only[Act.put,List.setIfInBounds_toArray,List.set_cons_zero,List.set_cons_succ])
       refine TkD 10 (some 26) (v:=?_) rfl rfl ?_ ?_;rotate_left
       ·(intro W hSw;(try dsimp only at hSw);go_simp;try with_reducible rfl)
       (try simp only[Act.put,List.setIfInBounds_toArray,List.set_cons_zero,List.set_cons_succ])
       refine wpAnyH_ready (rs:=[11]) (by kernel_rfl) (by simp) ?_;refine AllReadyH.cons rfl (fun K hK=>?_) AllReadyH.nil;go_simp
       go_at_call 116
       refine(cA.out _ (hHeld.2)).mono ?_;rintro e w5 ⟨rfl,hK5⟩;clear hHeld;refine hK.out _ _ ⟨hC.out _ hK5,hK5⟩ (fun hHeld=>?_);clear hK K
       (try simp only[Act.put,List.setIfInBounds_toArray,List.set_cons_zero,List.set_cons_succ])
       refine TkD 12 (some 28) (v:=?_) rfl rfl ?_ ?_;rotate_left
       ·(intro W hSw;(try dsimp only at hSw);go_simp;try with_reducible rfl)
       (try simp only[Act.put,List.setIfInBounds_toArray,List.set_cons_zero,List.set_cons_succ])
       refine TkD 13 (some 29) (v:=?_) rfl rfl ?_ ?_;rotate_left
       ·(intro W hSw;(try dsimp only at hSw);go_simp;try with_reducible rfl)
       (try simp only[Act.put,List.setIfInBounds_toArray,List.set_cons_zero,List.set_cons_succ])
       refine TnD 14 (some 30) rfl rfl ?_
       (try simp only[Act.put,List.setIfInBounds_toArray,List.set_cons_zero,List.set_cons_succ])
       refine TnD 15 (some 31) rfl rfl ?_
       (try simp only[Act.put,List.setIfInBounds_toArray,List.set_cons_zero,List.set_cons_succ])
       refine TnD 16 (some 32) rfl rfl ?_
       (try simp only[Act.put,List.setIfInBounds_toArray,List.set_cons_zero,List.set_cons_succ])
       refine TnD 17 (some 33) rfl rfl ?_
       (try simp only[Act.put,List.setIfInBounds_toArray,List.set_cons_zero,List.set_cons_succ])
       refine TkD 18 (some 34) (v:=?_) rfl rfl ?_ ?_;rotate_left
       ·(intro W hSw;(try dsimp only at hSw);go_simp;try with_reducible rfl)
       (try simp only[Act.put,List.setIfInBounds_toArray,List.set_cons_zero,List.set_cons_succ])
       refine TkD 19 (some 35) (v:=?_) rfl rfl ?_ ?_;rotate_left
       ·(intro W hSw;(try dsimp only at hSw);go_simp;try with_reducible rfl)
       (try simp only[Act.put,List.setIfInBounds_toArray,List.set_cons_zero,List.set_cons_succ])
       refine TnD 20 (some 36) rfl rfl ?_
       (try simp only[Act.put,List.setIfInBounds_toArray,List.set_cons_zero,List.set_cons_succ])
       refine TnD 21 (some 37) rfl rfl ?_
       (try simp only[Act.put,List.setIfInBounds_toArray,List.set_cons_zero,List.set_cons_succ])
       refine TnD 22 (some 38) rfl rfl ?_
       (try simp only[Act.put,List.setIfInBounds_toArray,List.set_cons_zero,List.set_cons_succ])
       refine TkD 23 (some 39) (v:=?_) rfl rfl ?_ ?_;rotate_left
       ·(intro W hSw;(try dsimp only at hSw);go_simp;try with_reducible rfl)
       (try simp only[Act.put,List.setIfInBounds_toArray,List.set_cons_zero,List.set_cons_succ])
       refine TkD 24 (some 40) (v:=?_) rfl rfl ?_ ?_;rotate_left
       ·(intro W hSw;(try dsimp only at hSw);go_simp;try with_reducible rfl)
       (try simp only[Act.put,List.setIfInBounds_toArray,List.set_cons_zero,List.set_cons_succ])
       refine TnD 25 (some 41) rfl rfl ?_
       (try simp only[Act.put,List.setIfInBounds_toArray,List.set_cons_zero,List.set_cons_succ])
       refine TnD 26 (some 42) rfl rfl ?_
       (try simp only[Act.put,List.setIfInBounds_toArray,List.set_cons_zero,List.set_cons_succ])
       refine TnD 27 (some 43) rfl rfl ?_
       (try simp only[Act.put,List.setIfInBounds_toArray,List.set_cons_zero,List.set_cons_succ])
       refine TnD 28 (some 44) rfl rfl ?_
       (try simp only[Act.put,List.setIfInBounds_toArray,List.set_cons_zero,List.set_cons_succ])
       refine TnD 29 (some 45) rfl rfl ?_
       (try simp only[Act.put,List.setIfInBounds_toArray,List.set_cons_zero,List.set_cons_succ])
       refine TnD 30 (some 46) rfl rfl ?_
       (try simp only[Act.put,List.setIfInBounds_toArray,List.set_cons_zero,List.set_cons_succ])
       refine TnD 31 (some 47) rfl rfl ?_
       (try simp only[Act.put,List.setIfInBounds_toArray,List.set_cons_zero,List.set_cons_succ])
       refine TnD 32 (some 48) rfl rfl ?_
       (try simp only[Act.put,List.setIfInBounds_toArray,List.set_cons_zero,List.set_cons_succ])
       refine TkD 33 (some 49) (v:=?_) rfl rfl ?_ ?_;rotate_left
       ·(intro W hSw;(try dsimp only at hSw);go_simp;try with_reducible rfl)
       (try simp only[Act.put,List.setIfInBounds_toArray,List.set_cons_zero,List.set_cons_succ])
       refine TkD 34 (some 8) (v:=?_) rfl rfl ?_ ?_;rotate_left
       ·(intro W hSw;(try dsimp only at hSw);go_simp;try with_reducible rfl)
       (try simp only[Act.put,List.setIfInBounds_toArray,List.set_cons_zero,List.set_cons_succ])
       refine wpAnyH_done (by kernel_rfl) ?_ _
       go_wp2_with fail
       go_ret;exact⟨by rw[HV.out];rfl,hbW.trans (hHeld.2.mono hbW.size)⟩
     | true=>
       cases q4 with
       | false=>
         go_wp2_with fail
         refine wp_region_held_drew (S:=fun V=>((V.cell? ⟨w.heap.size,0,none⟩=some (.string sc1)/\V.cell? ⟨w.heap.size,1,none⟩=some (.string us1)/\V.cell? ⟨w.heap.size,2,none⟩=some (.string pa1)/\V.cell? ⟨w.heap.size,3,none⟩=some (.bool true)/\V.cell? ⟨w.heap.size,4,none⟩=some (.string hs1)/\V.cell? ⟨w.heap.size,5,none⟩=some (.int .i64 pr1)/\V.cell? ⟨w.heap.size,6,none⟩=some (.bool op1)/\V.cell? ⟨w.heap.size,7,none⟩=some (.slice a1 n1 c1)/\V.cell? ⟨w.heap.size,8,none⟩=some (.bool hq1)/\V.cell? ⟨w.heap.size,9,none⟩=some (.bool hf1)/\V.cell? ⟨w.heap.size,10,none⟩=some (.string qr1)/\V.cell? ⟨w.heap.size,11,none⟩=some (.string fr1))/\(V.cell? ⟨w.heap.size+1,0,none⟩=some (.int .i64 k)/\V.cell? ⟨w.heap.size+1,1,none⟩=some (.string t)/\V.cell? ⟨w.heap.size+1,2,none⟩=some (.int .i64 b)/\V.cell? ⟨w.heap.size+1,3,none⟩=some (.string sc)/\V.cell? ⟨w.heap.size+1,4,none⟩=some (.string ho)/\V.cell? ⟨w.heap.size+1,5,none⟩=some (.bool wd)/\V.cell? ⟨w.heap.size+1,6,none⟩=some (.int .i64 po)/\V.cell? ⟨w.heap.size+1,7,none⟩=some (.string pa)))/\Below W.heap.size W V) (by kernel_rfl) ⟨hC.out _ hBd,hBd⟩ (fun hHeld=>?_);generalize W.drew=W0 at hHeld⊢;refine TkD 0 (some 16) (v:=?_) rfl rfl ?_ ?_;rotate_left
         ·(intro W hSw;(try dsimp only at hSw);go_simp;try with_reducible rfl)
         (try simp only[Act.put,List.setIfInBounds_toArray,List.set_cons_zero,List.set_cons_succ])
         refine TkD 1 (some 17) (v:=?_) rfl rfl ?_ ?_;rotate_left
         ·(intro W hSw;(try dsimp only at hSw);go_simp;try with_reducible rfl)
         (try simp only[Act.put,List.setIfInBounds_toArray,List.set_cons_zero,List.set_cons_succ])
         refine TkD 2 (some 18) (v:=?_) rfl rfl ?_ ?_;rotate_left
         ·(intro W hSw;(try dsimp only at hSw);go_simp;try with_reducible rfl)
         (try simp only[Act.put,List.setIfInBounds_toArray,List.set_cons_zero,List.set_cons_succ])
         refine TkD 3 (some 19) (v:=?_) rfl rfl ?_ ?_;rotate_left
         ·(intro W hSw;(try dsimp only at hSw);go_simp;try with_reducible rfl)
         (try simp only[Act.put,List.setIfInBounds_toArray,List.set_cons_zero,List.set_cons_succ])
         refine TkD 4 (some 20) (v:=?_) rfl rfl ?_ ?_;rotate_left
         ·(intro W hSw;(try dsimp only at hSw);go_simp;try with_reducible rfl)
         (try simp only[Act.put,List.setIfInBounds_toArray,List.set_cons_zero,List.set_cons_succ])
         refine TkD 5 (some 21) (v:=?_) rfl rfl ?_ ?_;rotate_left
         ·(intro W hSw;(try dsimp only at hSw);go_simp;try with_reducible rfl)
         (try simp only[Act.put,List.setIfInBounds_toArray,List.set_cons_zero,List.set_cons_succ])
         refine TkD 6 (some 22) (v:=?_) rfl rfl ?_ ?_;rotate_left
         ·(intro W hSw;(try dsimp only at hSw);go_simp;try with_reducible rfl)
         (try simp only[Act.put,List.setIfInBounds_toArray,List.set_cons_zero,List.set_cons_succ])
         refine TkD 7 (some 23) (v:=?_) rfl rfl ?_ ?_;rotate_left
         ·(intro W hSw;(try dsimp only at hSw);go_simp;try with_reducible rfl)
         (try simp only[Act.put,List.setIfInBounds_toArray,List.set_cons_zero,List.set_cons_succ])
         refine TkD 8 (some 24) (v:=?_) rfl rfl ?_ ?_;rotate_left
         ·(intro W hSw;(try dsimp only at hSw);go_simp;try with_reducible rfl)
         (try simp only[Act.put,List.setIfInBounds_toArray,List.set_cons_zero,List.set_cons_succ])
         refine TkD 9 (some 25) (v:=?_) rfl rfl ?_ ?_;rotate_left
         ·(intro W hSw;(try dsimp only at hSw);go_simp;try with_reducible rfl)
         (try simp only[Act.put,List.setIfInBounds_toArray,List.set_cons_zero,List.set_cons_succ])
         refine TkD 10 (some 26) (v:=?_) rfl rfl ?_ ?_;rotate_left
         ·(intro W hSw;(try dsimp only at hSw);go_simp;try with_reducible rfl)
         (try simp only[Act.put,List.setIfInBounds_toArray,List.set_cons_zero,List.set_cons_succ])
         refine wpAnyH_ready (rs:=[11]) (by kernel_rfl) (by simp) ?_;refine AllReadyH.cons rfl (fun K hK=>?_) AllReadyH.nil;go_simp
         go_at_call 116
         refine(cA.out _ (hHeld.2)).mono ?_;rintro e w5 ⟨rfl,hK5⟩;clear hHeld;refine hK.out _ _ ⟨hC.out _ hK5,hK5⟩ (fun hHeld=>?_);clear hK K
         (try simp only[Act.put,List.setIfInBounds_toArray,List.set_cons_zero,List.set_cons_succ])
         refine TkD 12 (some 28) (v:=?_) rfl rfl ?_ ?_;rotate_left
         ·(intro W hSw;(try dsimp only at hSw);go_simp;try with_reducible rfl)
         (try simp only[Act.put,List.setIfInBounds_toArray,List.set_cons_zero,List.set_cons_succ])
         refine TkD 13 (some 29) (v:=?_) rfl rfl ?_ ?_;rotate_left
         ·(intro W hSw;(try dsimp only at hSw);go_simp;try with_reducible rfl)
         (try simp only[Act.put,List.setIfInBounds_toArray,List.set_cons_zero,List.set_cons_succ])
         refine TkD 14 (some 30) (v:=?_) rfl rfl ?_ ?_;rotate_left
         ·(intro W hSw;(try dsimp only at hSw);go_simp;try with_reducible rfl)
         (try simp only[Act.put,List.setIfInBounds_toArray,List.set_cons_zero,List.set_cons_succ])
         refine TkD 15 (some 31) (v:=?_) rfl rfl ?_ ?_;rotate_left
         ·(intro W hSw;(try dsimp only at hSw);go_simp;try with_reducible rfl)
         (try simp only[Act.put,List.setIfInBounds_toArray,List.set_cons_zero,List.set_cons_succ])
         refine TkD 16 (some 32) (v:=?_) rfl rfl ?_ ?_;rotate_left
         ·(intro W hSw;(try dsimp only at hSw);go_simp;try with_reducible rfl)
         (try simp only[Act.put,List.setIfInBounds_toArray,List.set_cons_zero,List.set_cons_succ])
         refine wpAnyH_ready (rs:=[17]) (by kernel_rfl) (by simp) ?_;refine AllReadyH.cons rfl (fun K hK=>?_) AllReadyH.nil;go_simp
         go_at_call 177
         refine(cB.out _ (hHeld.2)).mono ?_;rintro e w5 ⟨rfl,hK5⟩;clear hHeld;refine hK.out _ _ ⟨hC.out _ hK5,hK5⟩ (fun hHeld=>?_);clear hK K
         (try simp only[Act.put,List.setIfInBounds_toArray,List.set_cons_zero,List.set_cons_succ])
         refine TkD 18 (some 34) (v:=?_) rfl rfl ?_ ?_;rotate_left
         ·(intro W hSw;(try dsimp only at hSw);go_simp;try with_reducible rfl)
         (try simp only[Act.put,List.setIfInBounds_toArray,List.set_cons_zero,List.set_cons_succ])
         refine TkD 19 (some 35) (v:=?_) rfl rfl ?_ ?_;rotate_left
         ·(intro W hSw;(try dsimp only at hSw);go_simp;try with_reducible rfl)
         (try simp only[Act.put,List.setIfInBounds_toArray,List.set_cons_zero,List.set_cons_succ])
         refine TnD 20 (some 36) rfl rfl ?_
         (try simp only[Act.put,List.setIfInBounds_toArray,List.set_cons_zero,List.set_cons_succ])
         refine TnD 21 (some 37) rfl rfl ?_
         (try simp only[Act.put,List.setIfInBounds_toArray,List.set_cons_zero,List.set_cons_succ])
         refine TnD 22 (some 38) rfl rfl ?_
         (try simp only[Act.put,List.setIfInBounds_toArray,List.set_cons_zero,List.set_cons_succ])
         refine TkD 23 (some 39) (v:=?_) rfl rfl ?_ ?_;rotate_left
         ·(intro W hSw;(try dsimp only at hSw);go_simp;try with_reducible rfl)
         (try simp only[Act.put,List.setIfInBounds_toArray,List.set_cons_zero,List.set_cons_succ])
         refine TkD 24 (some 40) (v:=?_) rfl rfl ?_ ?_;rotate_left
         ·(intro W hSw;(try dsimp only at hSw);go_simp;try with_reducible rfl)
         (try simp only[Act.put,List.setIfInBounds_toArray,List.set_cons_zero,List.set_cons_succ])
         refine TnD 25 (some 41) rfl rfl ?_
         (try simp only[Act.put,List.setIfInBounds_toArray,List.set_cons_zero,List.set_cons_succ])
         refine TnD 26 (some 42) rfl rfl ?_
         (try simp only[Act.put,List.setIfInBounds_toArray,List.set_cons_zero,List.set_cons_succ])
         refine TnD 27 (some 43) rfl rfl ?_
         (try simp only[Act.put,List.setIfInBounds_toArray,List.set_cons_zero,List.set_cons_succ])
         refine TnD 28 (some 44) rfl rfl ?_
         (try simp only[Act.put,List.setIfInBounds_toArray,List.set_cons_zero,List.set_cons_succ])
         refine TnD 29 (some 45) rfl rfl ?_
         (try simp only[Act.put,List.setIfInBounds_toArray,List.set_cons_zero,List.set_cons_succ])
         refine TnD 30 (some 46) rfl rfl ?_
         (try simp only[Act.put,List.setIfInBounds_toArray,List.set_cons_zero,List.set_cons_succ])
         refine TnD 31 (some 47) rfl rfl ?_
         (try simp only[Act.put,List.setIfInBounds_toArray,List.set_cons_zero,List.set_cons_succ])
         refine TnD 32 (some 48) rfl rfl ?_
         (try simp only[Act.put,List.setIfInBounds_toArray,List.set_cons_zero,List.set_cons_succ])
         refine TkD 33 (some 49) (v:=?_) rfl rfl ?_ ?_;rotate_left
         ·(intro W hSw;(try dsimp only at hSw);go_simp;try with_reducible rfl)
         (try simp only[Act.put,List.setIfInBounds_toArray,List.set_cons_zero,List.set_cons_succ])
         refine TkD 34 (some 8) (v:=?_) rfl rfl ?_ ?_;rotate_left
         ·(intro W hSw;(try dsimp only at hSw);go_simp;try with_reducible rfl)
         (try simp only[Act.put,List.setIfInBounds_toArray,List.set_cons_zero,List.set_cons_succ])
         refine wpAnyH_done (by kernel_rfl) ?_ _
         go_wp2_with fail
         go_ret;exact⟨by rw[HV.out];rfl,hbW.trans (hHeld.2.mono hbW.size)⟩
       | true=>
         cases q5 with
         | false=>
           go_wp2_with fail
           refine wp_region_held_drew (S:=fun V=>((V.cell? ⟨w.heap.size,0,none⟩=some (.string sc1)/\V.cell? ⟨w.heap.size,1,none⟩=some (.string us1)/\V.cell? ⟨w.heap.size,2,none⟩=some (.string pa1)/\V.cell? ⟨w.heap.size,3,none⟩=some (.bool true)/\V.cell? ⟨w.heap.size,4,none⟩=some (.string hs1)/\V.cell? ⟨w.heap.size,5,none⟩=some (.int .i64 pr1)/\V.cell? ⟨w.heap.size,6,none⟩=some (.bool op1)/\V.cell? ⟨w.heap.size,7,none⟩=some (.slice a1 n1 c1)/\V.cell? ⟨w.heap.size,8,none⟩=some (.bool hq1)/\V.cell? ⟨w.heap.size,9,none⟩=some (.bool hf1)/\V.cell? ⟨w.heap.size,10,none⟩=some (.string qr1)/\V.cell? ⟨w.heap.size,11,none⟩=some (.string fr1))/\(V.cell? ⟨w.heap.size+1,0,none⟩=some (.int .i64 k)/\V.cell? ⟨w.heap.size+1,1,none⟩=some (.string t)/\V.cell? ⟨w.heap.size+1,2,none⟩=some (.int .i64 b)/\V.cell? ⟨w.heap.size+1,3,none⟩=some (.string sc)/\V.cell? ⟨w.heap.size+1,4,none⟩=some (.string ho)/\V.cell? ⟨w.heap.size+1,5,none⟩=some (.bool wd)/\V.cell? ⟨w.heap.size+1,6,none⟩=some (.int .i64 po)/\V.cell? ⟨w.heap.size+1,7,none⟩=some (.string pa)))/\Below W.heap.size W V) (by kernel_rfl) ⟨hC.out _ hBd,hBd⟩ (fun hHeld=>?_);generalize W.drew=W0 at hHeld⊢;refine TkD 0 (some 16) (v:=?_) rfl rfl ?_ ?_;rotate_left
           ·(intro W hSw;(try dsimp only at hSw);go_simp;try with_reducible rfl)
           (try simp only[Act.put,List.setIfInBounds_toArray,List.set_cons_zero,List.set_cons_succ])
           refine TkD 1 (some 17) (v:=?_) rfl rfl ?_ ?_;rotate_left
           ·(intro W hSw;(try dsimp only at hSw);go_simp;try with_reducible rfl)
           (try simp only[Act.put,List.setIfInBounds_toArray,List.set_cons_zero,List.set_cons_succ])
           refine TkD 2 (some 18) (v:=?_) rfl rfl ?_ ?_;rotate_left
           ·(intro W hSw;(try dsimp only at hSw);go_simp;try with_reducible rfl)
           (try simp only[Act.put,List.setIfInBounds_toArray,List.set_cons_zero,List.set_cons_succ])
           refine TkD 3 (some 19) (v:=?_) rfl rfl ?_ ?_;rotate_left
           ·(intro W hSw;(try dsimp only at hSw);go_simp;try with_reducible rfl)
           (try simp only[Act.put,List.setIfInBounds_toArray,List.set_cons_zero,List.set_cons_succ])
           refine TkD 4 (some 20) (v:=?_) rfl rfl ?_ ?_;rotate_left
           ·(intro W hSw;(try dsimp only at hSw);go_simp;try with_reducible rfl)
           (try simp only[Act.put,List.setIfInBounds_toArray,List.set_cons_zero,List.set_cons_succ])
           refine TkD 5 (some 21) (v:=?_) rfl rfl ?_ ?_;rotate_left
           ·(intro W hSw;(try dsimp only at hSw);go_simp;try with_reducible rfl)
           (try simp only[Act.put,List.setIfInBounds_toArray,List.set_cons_zero,List.set_cons_succ])
           refine TkD 6 (some 22) (v:=?_) rfl rfl ?_ ?_;rotate_left
           ·(intro W hSw;(try dsimp only at hSw);go_simp;try with_reducible rfl)
           (try simp only[Act.put,List.setIfInBounds_toArray,List.set_cons_zero,List.set_cons_succ])
           refine TkD 7 (some 23) (v:=?_) rfl rfl ?_ ?_;rotate_left
           ·(intro W hSw;(try dsimp only at hSw);go_simp;try with_reducible rfl)
           (try simp only[Act.put,List.setIfInBounds_toArray,List.set_cons_zero,List.set_cons_succ])
           refine TkD 8 (some 24) (v:=?_) rfl rfl ?_ ?_;rotate_left
           ·(intro W hSw;(try dsimp only at hSw);go_simp;try with_reducible rfl)
           (try simp only[Act.put,List.setIfInBounds_toArray,List.set_cons_zero,List.set_cons_succ])
           refine TkD 9 (some 25) (v:=?_) rfl rfl ?_ ?_;rotate_left
           ·(intro W hSw;(try dsimp only at hSw);go_simp;try with_reducible rfl)
           (try simp only[Act.put,List.setIfInBounds_toArray,List.set_cons_zero,List.set_cons_succ])
           refine TkD 10 (some 26) (v:=?_) rfl rfl ?_ ?_;rotate_left
           ·(intro W hSw;(try dsimp only at hSw);go_simp;try with_reducible rfl)
           (try simp only[Act.put,List.setIfInBounds_toArray,List.set_cons_zero,List.set_cons_succ])
           refine wpAnyH_ready (rs:=[11]) (by kernel_rfl) (by simp) ?_;refine AllReadyH.cons rfl (fun K hK=>?_) AllReadyH.nil;go_simp
           go_at_call 116
           refine(cA.out _ (hHeld.2)).mono ?_;rintro e w5 ⟨rfl,hK5⟩;clear hHeld;refine hK.out _ _ ⟨hC.out _ hK5,hK5⟩ (fun hHeld=>?_);clear hK K
           (try simp only[Act.put,List.setIfInBounds_toArray,List.set_cons_zero,List.set_cons_succ])
           refine TkD 12 (some 28) (v:=?_) rfl rfl ?_ ?_;rotate_left
           ·(intro W hSw;(try dsimp only at hSw);go_simp;try with_reducible rfl)
           (try simp only[Act.put,List.setIfInBounds_toArray,List.set_cons_zero,List.set_cons_succ])
           refine TkD 13 (some 29) (v:=?_) rfl rfl ?_ ?_;rotate_left
           ·(intro W hSw;(try dsimp only at hSw);go_simp;try with_reducible rfl)
           (try simp only[Act.put,List.setIfInBounds_toArray,List.set_cons_zero,List.set_cons_succ])
           refine TkD 14 (some 30) (v:=?_) rfl rfl ?_ ?_;rotate_left
           ·(intro W hSw;(try dsimp only at hSw);go_simp;try with_reducible rfl)
           (try simp only[Act.put,List.setIfInBounds_toArray,List.set_cons_zero,List.set_cons_succ])
           refine TkD 15 (some 31) (v:=?_) rfl rfl ?_ ?_;rotate_left
           ·(intro W hSw;(try dsimp only at hSw);go_simp;try with_reducible rfl)
           (try simp only[Act.put,List.setIfInBounds_toArray,List.set_cons_zero,List.set_cons_succ])
           refine TkD 16 (some 32) (v:=?_) rfl rfl ?_ ?_;rotate_left
           ·(intro W hSw;(try dsimp only at hSw);go_simp;try with_reducible rfl)
           (try simp only[Act.put,List.setIfInBounds_toArray,List.set_cons_zero,List.set_cons_succ])
           refine wpAnyH_ready (rs:=[17]) (by kernel_rfl) (by simp) ?_;refine AllReadyH.cons rfl (fun K hK=>?_) AllReadyH.nil;go_simp
           go_at_call 177
           refine(cB.out _ (hHeld.2)).mono ?_;rintro e w5 ⟨rfl,hK5⟩;clear hHeld;refine hK.out _ _ ⟨hC.out _ hK5,hK5⟩ (fun hHeld=>?_);clear hK K
           (try simp only[Act.put,List.setIfInBounds_toArray,List.set_cons_zero,List.set_cons_succ])
           refine TkD 18 (some 34) (v:=?_) rfl rfl ?_ ?_;rotate_left
           ·(intro W hSw;(try dsimp only at hSw);go_simp;try with_reducible rfl)
           (try simp only[Act.put,List.setIfInBounds_toArray,List.set_cons_zero,List.set_cons_succ])
           refine TkD 19 (some 35) (v:=?_) rfl rfl ?_ ?_;rotate_left
           ·(intro W hSw;(try dsimp only at hSw);go_simp;try with_reducible rfl)
           (try simp only[Act.put,List.setIfInBounds_toArray,List.set_cons_zero,List.set_cons_succ])
           refine TkD 20 (some 36) (v:=?_) rfl rfl ?_ ?_;rotate_left
           ·(intro W hSw;(try dsimp only at hSw);go_simp;try with_reducible rfl)
           (try simp only[Act.put,List.setIfInBounds_toArray,List.set_cons_zero,List.set_cons_succ])
           refine TkD 21 (some 37) (v:=?_) rfl rfl ?_ ?_;rotate_left
           ·(intro W hSw;(try dsimp only at hSw);go_simp;try with_reducible rfl)
           (try simp only[Act.put,List.setIfInBounds_toArray,List.set_cons_zero,List.set_cons_succ])
           refine wpAnyH_ready (rs:=[22]) (by kernel_rfl) (by simp) ?_;refine AllReadyH.cons rfl (fun K hK=>?_) AllReadyH.nil;go_simp
           go_at_call 178
           refine(cC.out _ (hHeld.2)).mono ?_;rintro e w5 ⟨rfl,hK5⟩;clear hHeld;refine hK.out _ _ ⟨hC.out _ hK5,hK5⟩ (fun hHeld=>?_);clear hK K
           (try simp only[Act.put,List.setIfInBounds_toArray,List.set_cons_zero,List.set_cons_succ])
           refine TkD 23 (some 39) (v:=?_) rfl rfl ?_ ?_;rotate_left
           ·(intro W hSw;(try dsimp only at hSw);go_simp;try with_reducible rfl)
           (try simp only[Act.put,List.setIfInBounds_toArray,List.set_cons_zero,List.set_cons_succ])
           refine TkD 24 (some 40) (v:=?_) rfl rfl ?_ ?_;rotate_left
           ·(intro W hSw;(try dsimp only at hSw);go_simp;try with_reducible rfl)
           (try simp only[Act.put,List.setIfInBounds_toArray,List.set_cons_zero,List.set_cons_succ])
           refine TnD 25 (some 41) rfl rfl ?_
           (try simp only[Act.put,List.setIfInBounds_toArray,List.set_cons_zero,List.set_cons_succ])
           refine TnD 26 (some 42) rfl rfl ?_
           (try simp only[Act.put,List.setIfInBounds_toArray,List.set_cons_zero,List.set_cons_succ])
           refine TnD 27 (some 43) rfl rfl ?_
           (try simp only[Act.put,List.setIfInBounds_toArray,List.set_cons_zero,List.set_cons_succ])
           refine TnD 28 (some 44) rfl rfl ?_
           (try simp only[Act.put,List.setIfInBounds_toArray,List.set_cons_zero,List.set_cons_succ])
           refine TnD 29 (some 45) rfl rfl ?_
           (try simp only[Act.put,List.setIfInBounds_toArray,List.set_cons_zero,List.set_cons_succ])
           refine TnD 30 (some 46) rfl rfl ?_
           (try simp only[Act.put,List.setIfInBounds_toArray,List.set_cons_zero,List.set_cons_succ])
           refine TnD 31 (some 47) rfl rfl ?_
           (try simp only[Act.put,List.setIfInBounds_toArray,List.set_cons_zero,List.set_cons_succ])
           refine TnD 32 (some 48) rfl rfl ?_
           (try simp only[Act.put,List.setIfInBounds_toArray,List.set_cons_zero,List.set_cons_succ])
           refine TkD 33 (some 49) (v:=?_) rfl rfl ?_ ?_;rotate_left
           ·(intro W hSw;(try dsimp only at hSw);go_simp;try with_reducible rfl)
           (try simp only[Act.put,List.setIfInBounds_toArray,List.set_cons_zero,List.set_cons_succ])
           refine TkD 34 (some 8) (v:=?_) rfl rfl ?_ ?_;rotate_left
           ·(intro W hSw;(try dsimp only at hSw);go_simp;try with_reducible rfl)
           (try simp only[Act.put,List.setIfInBounds_toArray,List.set_cons_zero,List.set_cons_succ])
           refine wpAnyH_done (by kernel_rfl) ?_ _
           go_wp2_with fail
           go_ret;exact⟨by rw[HV.out];rfl,hbW.trans (hHeld.2.mono hbW.size)⟩
         | true=>
           cases red with
           | true=>
             go_wp2_with fail
             refine wp_region_held_drew (S:=fun V=>((V.cell? ⟨w.heap.size,0,none⟩=some (.string sc1)/\V.cell? ⟨w.heap.size,1,none⟩=some (.string us1)/\V.cell? ⟨w.heap.size,2,none⟩=some (.string pa1)/\V.cell? ⟨w.heap.size,3,none⟩=some (.bool true)/\V.cell? ⟨w.heap.size,4,none⟩=some (.string hs1)/\V.cell? ⟨w.heap.size,5,none⟩=some (.int .i64 pr1)/\V.cell? ⟨w.heap.size,6,none⟩=some (.bool op1)/\V.cell? ⟨w.heap.size,7,none⟩=some (.slice a1 n1 c1)/\V.cell? ⟨w.heap.size,8,none⟩=some (.bool hq1)/\V.cell? ⟨w.heap.size,9,none⟩=some (.bool hf1)/\V.cell? ⟨w.heap.size,10,none⟩=some (.string qr1)/\V.cell? ⟨w.heap.size,11,none⟩=some (.string fr1))/\(V.cell? ⟨w.heap.size+1,0,none⟩=some (.int .i64 k)/\V.cell? ⟨w.heap.size+1,1,none⟩=some (.string t)/\V.cell? ⟨w.heap.size+1,2,none⟩=some (.int .i64 b)/\V.cell? ⟨w.heap.size+1,3,none⟩=some (.string sc)/\V.cell? ⟨w.heap.size+1,4,none⟩=some (.string ho)/\V.cell? ⟨w.heap.size+1,5,none⟩=some (.bool wd)/\V.cell? ⟨w.heap.size+1,6,none⟩=some (.int .i64 po)/\V.cell? ⟨w.heap.size+1,7,none⟩=some (.string pa)))/\Below W.heap.size W V) (by kernel_rfl) ⟨hC.out _ hBd,hBd⟩ (fun hHeld=>?_);generalize W.drew=W0 at hHeld⊢;refine TkD 0 (some 16) (v:=?_) rfl rfl ?_ ?_;rotate_left
             ·(intro W hSw;(try dsimp only at hSw);go_simp;try with_reducible rfl)
             (try simp only[Act.put,List.setIfInBounds_toArray,List.set_cons_zero,List.set_cons_succ])
             refine TkD 1 (some 17) (v:=?_) rfl rfl ?_ ?_;rotate_left
             ·(intro W hSw;(try dsimp only at hSw);go_simp;try with_reducible rfl)
             (try simp only[Act.put,List.setIfInBounds_toArray,List.set_cons_zero,List.set_cons_succ])
             refine TkD 2 (some 18) (v:=?_) rfl rfl ?_ ?_;rotate_left
             ·(intro W hSw;(try dsimp only at hSw);go_simp;try with_reducible rfl)
             (try simp only[Act.put,List.setIfInBounds_toArray,List.set_cons_zero,List.set_cons_succ])
             refine TkD 3 (some 19) (v:=?_) rfl rfl ?_ ?_;rotate_left
             ·(intro W hSw;(try dsimp only at hSw);go_simp;try with_reducible rfl)
             (try simp only[Act.put,List.setIfInBounds_toArray,List.set_cons_zero,List.set_cons_succ])
             refine TkD 4 (some 20) (v:=?_) rfl rfl ?_ ?_;rotate_left
             ·(intro W hSw;(try dsimp only at hSw);go_simp;try with_reducible rfl)
             (try simp only[Act.put,List.setIfInBounds_toArray,List.set_cons_zero,List.set_cons_succ])
             refine TkD 5 (some 21) (v:=?_) rfl rfl ?_ ?_;rotate_left
             ·(intro W hSw;(try dsimp only at hSw);go_simp;try with_reducible rfl)
             (try simp only[Act.put,List.setIfInBounds_toArray,List.set_cons_zero,List.set_cons_succ])
             refine TkD 6 (some 22) (v:=?_) rfl rfl ?_ ?_;rotate_left
             ·(intro W hSw;(try dsimp only at hSw);go_simp;try with_reducible rfl)
             (try simp only[Act.put,List.setIfInBounds_toArray,List.set_cons_zero,List.set_cons_succ])
             refine TkD 7 (some 23) (v:=?_) rfl rfl ?_ ?_;rotate_left
             ·(intro W hSw;(try dsimp only at hSw);go_simp;try with_reducible rfl)
             (try simp only[Act.put,List.setIfInBounds_toArray,List.set_cons_zero,List.set_cons_succ])
             refine TkD 8 (some 24) (v:=?_) rfl rfl ?_ ?_;rotate_left
             ·(intro W hSw;(try dsimp only at hSw);go_simp;try with_reducible rfl)
             (try simp only[Act.put,List.setIfInBounds_toArray,List.set_cons_zero,List.set_cons_succ])
             refine TkD 9 (some 25) (v:=?_) rfl rfl ?_ ?_;rotate_left
             ·(intro W hSw;(try dsimp only at hSw);go_simp;try with_reducible rfl)
             (try simp only[Act.put,List.setIfInBounds_toArray,List.set_cons_zero,List.set_cons_succ])
             refine TkD 10 (some 26) (v:=?_) rfl rfl ?_ ?_;rotate_left
             ·(intro W hSw;(try dsimp only at hSw);go_simp;try with_reducible rfl)
             (try simp only[Act.put,List.setIfInBounds_toArray,List.set_cons_zero,List.set_cons_succ])
             refine wpAnyH_ready (rs:=[11]) (by kernel_rfl) (by simp) ?_;refine AllReadyH.cons rfl (fun K hK=>?_) AllReadyH.nil;go_simp
             go_at_call 116
             refine(cA.out _ (hHeld.2)).mono ?_;rintro e w5 ⟨rfl,hK5⟩;clear hHeld;refine hK.out _ _ ⟨hC.out _ hK5,hK5⟩ (fun hHeld=>?_);clear hK K
             (try simp only[Act.put,List.setIfInBounds_toArray,List.set_cons_zero,List.set_cons_succ])
             refine TkD 12 (some 28) (v:=?_) rfl rfl ?_ ?_;rotate_left
             ·(intro W hSw;(try dsimp only at hSw);go_simp;try with_reducible rfl)
             (try simp only[Act.put,List.setIfInBounds_toArray,List.set_cons_zero,List.set_cons_succ])
             refine TkD 13 (some 29) (v:=?_) rfl rfl ?_ ?_;rotate_left
             ·(intro W hSw;(try dsimp only at hSw);go_simp;try with_reducible rfl)
             (try simp only[Act.put,List.setIfInBounds_toArray,List.set_cons_zero,List.set_cons_succ])
             refine TkD 14 (some 30) (v:=?_) rfl rfl ?_ ?_;rotate_left
             ·(intro W hSw;(try dsimp only at hSw);go_simp;try with_reducible rfl)
             (try simp only[Act.put,List.setIfInBounds_toArray,List.set_cons_zero,List.set_cons_succ])
             refine TkD 15 (some 31) (v:=?_) rfl rfl ?_ ?_;rotate_left
             ·(intro W hSw;(try dsimp only at hSw);go_simp;try with_reducible rfl)
             (try simp only[Act.put,List.setIfInBounds_toArray,List.set_cons_zero,List.set_cons_succ])
             refine TkD 16 (some 32) (v:=?_) rfl rfl ?_ ?_;rotate_left
             ·(intro W hSw;(try dsimp only at hSw);go_simp;try with_reducible rfl)
             (try simp only[Act.put,List.setIfInBounds_toArray,List.set_cons_zero,List.set_cons_succ])
             refine wpAnyH_ready (rs:=[17]) (by kernel_rfl) (by simp) ?_;refine AllReadyH.cons rfl (fun K hK=>?_) AllReadyH.nil;go_simp
             go_at_call 177
             refine(cB.out _ (hHeld.2)).mono ?_;rintro e w5 ⟨rfl,hK5⟩;clear hHeld;refine hK.out _ _ ⟨hC.out _ hK5,hK5⟩ (fun hHeld=>?_);clear hK K
             (try simp only[Act.put,List.setIfInBounds_toArray,List.set_cons_zero,List.set_cons_succ])
             refine TkD 18 (some 34) (v:=?_) rfl rfl ?_ ?_;rotate_left
             ·(intro W hSw;(try dsimp only at hSw);go_simp;try with_reducible rfl)
             (try simp only[Act.put,List.setIfInBounds_toArray,List.set_cons_zero,List.set_cons_succ])
             refine TkD 19 (some 35) (v:=?_) rfl rfl ?_ ?_;rotate_left
             ·(intro W hSw;(try dsimp only at hSw);go_simp;try with_reducible rfl)
             (try simp only[Act.put,List.setIfInBounds_toArray,List.set_cons_zero,List.set_cons_succ])
             refine TkD 20 (some 36) (v:=?_) rfl rfl ?_ ?_;rotate_left
             ·(intro W hSw;(try dsimp only at hSw);go_simp;try with_reducible rfl)
             (try simp only[Act.put,List.setIfInBounds_toArray,List.set_cons_zero,List.set_cons_succ])
             refine TkD 21 (some 37) (v:=?_) rfl rfl ?_ ?_;rotate_left
             ·(intro W hSw;(try dsimp only at hSw);go_simp;try with_reducible rfl)
             (try simp only[Act.put,List.setIfInBounds_toArray,List.set_cons_zero,List.set_cons_succ])
             refine wpAnyH_ready (rs:=[22]) (by kernel_rfl) (by simp) ?_;refine AllReadyH.cons rfl (fun K hK=>?_) AllReadyH.nil;go_simp
             go_at_call 178
             refine(cC.out _ (hHeld.2)).mono ?_;rintro e w5 ⟨rfl,hK5⟩;clear hHeld;refine hK.out _ _ ⟨hC.out _ hK5,hK5⟩ (fun hHeld=>?_);clear hK K
             (try simp only[Act.put,List.setIfInBounds_toArray,List.set_cons_zero,List.set_cons_succ])
             refine TkD 23 (some 39) (v:=?_) rfl rfl ?_ ?_;rotate_left
             ·(intro W hSw;(try dsimp only at hSw);go_simp;try with_reducible rfl)
             (try simp only[Act.put,List.setIfInBounds_toArray,List.set_cons_zero,List.set_cons_succ])
             refine TkD 24 (some 40) (v:=?_) rfl rfl ?_ ?_;rotate_left
             ·(intro W hSw;(try dsimp only at hSw);go_simp;try with_reducible rfl)
             (try simp only[Act.put,List.setIfInBounds_toArray,List.set_cons_zero,List.set_cons_succ])
             refine TkD 25 (some 41) (v:=?_) rfl rfl ?_ ?_;rotate_left
             ·(intro W hSw;(try dsimp only at hSw);go_simp;try with_reducible rfl)
             (try simp only[Act.put,List.setIfInBounds_toArray,List.set_cons_zero,List.set_cons_succ])
             refine TkD 26 (some 42) (v:=?_) rfl rfl ?_ ?_;rotate_left
             ·(intro W hSw;(try dsimp only at hSw);go_simp;try with_reducible rfl)
             (try simp only[Act.put,List.setIfInBounds_toArray,List.set_cons_zero,List.set_cons_succ])
             refine TnD 27 (some 43) rfl rfl ?_
             (try simp only[Act.put,List.setIfInBounds_toArray,List.set_cons_zero,List.set_cons_succ])
             refine TnD 28 (some 44) rfl rfl ?_
             (try simp only[Act.put,List.setIfInBounds_toArray,List.set_cons_zero,List.set_cons_succ])
             refine TnD 29 (some 45) rfl rfl ?_
             (try simp only[Act.put,List.setIfInBounds_toArray,List.set_cons_zero,List.set_cons_succ])
             refine TnD 30 (some 46) rfl rfl ?_
             (try simp only[Act.put,List.setIfInBounds_toArray,List.set_cons_zero,List.set_cons_succ])
             refine TnD 31 (some 47) rfl rfl ?_
             (try simp only[Act.put,List.setIfInBounds_toArray,List.set_cons_zero,List.set_cons_succ])
             refine TkD 32 (some 48) (v:=?_) rfl rfl ?_ ?_;rotate_left
             ·(intro W hSw;(try dsimp only at hSw);go_simp;try with_reducible rfl)
             (try simp only[Act.put,List.setIfInBounds_toArray,List.set_cons_zero,List.set_cons_succ])
             refine TkD 33 (some 49) (v:=?_) rfl rfl ?_ ?_;rotate_left
             ·(intro W hSw;(try dsimp only at hSw);go_simp;try with_reducible rfl)
             (try simp only[Act.put,List.setIfInBounds_toArray,List.set_cons_zero,List.set_cons_succ])
             refine TkD 34 (some 8) (v:=?_) rfl rfl ?_ ?_;rotate_left
             ·(intro W hSw;(try dsimp only at hSw);go_simp;try with_reducible rfl)
             (try simp only[Act.put,List.setIfInBounds_toArray,List.set_cons_zero,List.set_cons_succ])
             refine wpAnyH_done (by kernel_rfl) ?_ _
             go_wp2_with fail
             go_ret;exact⟨by rw[HV.out];rfl,hbW.trans (hHeld.2.mono hbW.size)⟩
           | false=>
             go_wp2_with fail
             refine wp_region_held_drew (S:=fun V=>((V.cell? ⟨w.heap.size,0,none⟩=some (.string sc1)/\V.cell? ⟨w.heap.size,1,none⟩=some (.string us1)/\V.cell? ⟨w.heap.size,2,none⟩=some (.string pa1)/\V.cell? ⟨w.heap.size,3,none⟩=some (.bool true)/\V.cell? ⟨w.heap.size,4,none⟩=some (.string hs1)/\V.cell? ⟨w.heap.size,5,none⟩=some (.int .i64 pr1)/\V.cell? ⟨w.heap.size,6,none⟩=some (.bool op1)/\V.cell? ⟨w.heap.size,7,none⟩=some (.slice a1 n1 c1)/\V.cell? ⟨w.heap.size,8,none⟩=some (.bool hq1)/\V.cell? ⟨w.heap.size,9,none⟩=some (.bool hf1)/\V.cell? ⟨w.heap.size,10,none⟩=some (.string qr1)/\V.cell? ⟨w.heap.size,11,none⟩=some (.string fr1))/\(V.cell? ⟨w.heap.size+1,0,none⟩=some (.int .i64 k)/\V.cell? ⟨w.heap.size+1,1,none⟩=some (.string t)/\V.cell? ⟨w.heap.size+1,2,none⟩=some (.int .i64 b)/\V.cell? ⟨w.heap.size+1,3,none⟩=some (.string sc)/\V.cell? ⟨w.heap.size+1,4,none⟩=some (.string ho)/\V.cell? ⟨w.heap.size+1,5,none⟩=some (.bool wd)/\V.cell? ⟨w.heap.size+1,6,none⟩=some (.int .i64 po)/\V.cell? ⟨w.heap.size+1,7,none⟩=some (.string pa)))/\Below W.heap.size W V) (by kernel_rfl) ⟨hC.out _ hBd,hBd⟩ (fun hHeld=>?_);generalize W.drew=W0 at hHeld⊢;refine TkD 0 (some 16) (v:=?_) rfl rfl ?_ ?_;rotate_left
             ·(intro W hSw;(try dsimp only at hSw);go_simp;try with_reducible rfl)
             (try simp only[Act.put,List.setIfInBounds_toArray,List.set_cons_zero,List.set_cons_succ])
             refine TkD 1 (some 17) (v:=?_) rfl rfl ?_ ?_;rotate_left
             ·(intro W hSw;(try dsimp only at hSw);go_simp;try with_reducible rfl)
             (try simp only[Act.put,List.setIfInBounds_toArray,List.set_cons_zero,List.set_cons_succ])
             refine TkD 2 (some 18) (v:=?_) rfl rfl ?_ ?_;rotate_left
             ·(intro W hSw;(try dsimp only at hSw);go_simp;try with_reducible rfl)
             (try simp only[Act.put,List.setIfInBounds_toArray,List.set_cons_zero,List.set_cons_succ])
             refine TkD 3 (some 19) (v:=?_) rfl rfl ?_ ?_;rotate_left
             ·(intro W hSw;(try dsimp only at hSw);go_simp;try with_reducible rfl)
             (try simp only[Act.put,List.setIfInBounds_toArray,List.set_cons_zero,List.set_cons_succ])
             refine TkD 4 (some 20) (v:=?_) rfl rfl ?_ ?_;rotate_left
             ·(intro W hSw;(try dsimp only at hSw);go_simp;try with_reducible rfl)
             (try simp only[Act.put,List.setIfInBounds_toArray,List.set_cons_zero,List.set_cons_succ])
             refine TkD 5 (some 21) (v:=?_) rfl rfl ?_ ?_;rotate_left
             ·(intro W hSw;(try dsimp only at hSw);go_simp;try with_reducible rfl)
             (try simp only[Act.put,List.setIfInBounds_toArray,List.set_cons_zero,List.set_cons_succ])
             refine TkD 6 (some 22) (v:=?_) rfl rfl ?_ ?_;rotate_left
             ·(intro W hSw;(try dsimp only at hSw);go_simp;try with_reducible rfl)
             (try simp only[Act.put,List.setIfInBounds_toArray,List.set_cons_zero,List.set_cons_succ])
             refine TkD 7 (some 23) (v:=?_) rfl rfl ?_ ?_;rotate_left
             ·(intro W hSw;(try dsimp only at hSw);go_simp;try with_reducible rfl)
             (try simp only[Act.put,List.setIfInBounds_toArray,List.set_cons_zero,List.set_cons_succ])
             refine TkD 8 (some 24) (v:=?_) rfl rfl ?_ ?_;rotate_left
             ·(intro W hSw;(try dsimp only at hSw);go_simp;try with_reducible rfl)
             (try simp only[Act.put,List.setIfInBounds_toArray,List.set_cons_zero,List.set_cons_succ])
             refine TkD 9 (some 25) (v:=?_) rfl rfl ?_ ?_;rotate_left
             ·(intro W hSw;(try dsimp only at hSw);go_simp;try with_reducible rfl)
             (try simp only[Act.put,List.setIfInBounds_toArray,List.set_cons_zero,List.set_cons_succ])
             refine TkD 10 (some 26) (v:=?_) rfl rfl ?_ ?_;rotate_left
             ·(intro W hSw;(try dsimp only at hSw);go_simp;try with_reducible rfl)
             (try simp only[Act.put,List.setIfInBounds_toArray,List.set_cons_zero,List.set_cons_succ])
             refine wpAnyH_ready (rs:=[11]) (by kernel_rfl) (by simp) ?_;refine AllReadyH.cons rfl (fun K hK=>?_) AllReadyH.nil;go_simp
             go_at_call 116
             refine(cA.out _ (hHeld.2)).mono ?_;rintro e w5 ⟨rfl,hK5⟩;clear hHeld;refine hK.out _ _ ⟨hC.out _ hK5,hK5⟩ (fun hHeld=>?_);clear hK K
             (try simp only[Act.put,List.setIfInBounds_toArray,List.set_cons_zero,List.set_cons_succ])
             refine TkD 12 (some 28) (v:=?_) rfl rfl ?_ ?_;rotate_left
             ·(intro W hSw;(try dsimp only at hSw);go_simp;try with_reducible rfl)
             (try simp only[Act.put,List.setIfInBounds_toArray,List.set_cons_zero,List.set_cons_succ])
             refine TkD 13 (some 29) (v:=?_) rfl rfl ?_ ?_;rotate_left
             ·(intro W hSw;(try dsimp only at hSw);go_simp;try with_reducible rfl)
             (try simp only[Act.put,List.setIfInBounds_toArray,List.set_cons_zero,List.set_cons_succ])
             refine TkD 14 (some 30) (v:=?_) rfl rfl ?_ ?_;rotate_left
             ·(intro W hSw;(try dsimp only at hSw);go_simp;try with_reducible rfl)
             (try simp only[Act.put,List.setIfInBounds_toArray,List.set_cons_zero,List.set_cons_succ])
             refine TkD 15 (some 31) (v:=?_) rfl rfl ?_ ?_;rotate_left
             ·(intro W hSw;(try dsimp only at hSw);go_simp;try with_reducible rfl)
             (try simp only[Act.put,List.setIfInBounds_toArray,List.set_cons_zero,List.set_cons_succ])
             refine TkD 16 (some 32) (v:=?_) rfl rfl ?_ ?_;rotate_left
             ·(intro W hSw;(try dsimp only at hSw);go_simp;try with_reducible rfl)
             (try simp only[Act.put,List.setIfInBounds_toArray,List.set_cons_zero,List.set_cons_succ])
             refine wpAnyH_ready (rs:=[17]) (by kernel_rfl) (by simp) ?_;refine AllReadyH.cons rfl (fun K hK=>?_) AllReadyH.nil;go_simp
             go_at_call 177
             refine(cB.out _ (hHeld.2)).mono ?_;rintro e w5 ⟨rfl,hK5⟩;clear hHeld;refine hK.out _ _ ⟨hC.out _ hK5,hK5⟩ (fun hHeld=>?_);clear hK K
             (try simp only[Act.put,List.setIfInBounds_toArray,List.set_cons_zero,List.set_cons_succ])
             refine TkD 18 (some 34) (v:=?_) rfl rfl ?_ ?_;rotate_left
             ·(intro W hSw;(try dsimp only at hSw);go_simp;try with_reducible rfl)
             (try simp only[Act.put,List.setIfInBounds_toArray,List.set_cons_zero,List.set_cons_succ])
             refine TkD 19 (some 35) (v:=?_) rfl rfl ?_ ?_;rotate_left
             ·(intro W hSw;(try dsimp only at hSw);go_simp;try with_reducible rfl)
             (try simp only[Act.put,List.setIfInBounds_toArray,List.set_cons_zero,List.set_cons_succ])
             refine TkD 20 (some 36) (v:=?_) rfl rfl ?_ ?_;rotate_left
             ·(intro W hSw;(try dsimp only at hSw);go_simp;try with_reducible rfl)
             (try simp only[Act.put,List.setIfInBounds_toArray,List.set_cons_zero,List.set_cons_succ])
             refine TkD 21 (some 37) (v:=?_) rfl rfl ?_ ?_;rotate_left
             ·(intro W hSw;(try dsimp only at hSw);go_simp;try with_reducible rfl)
             (try simp only[Act.put,List.setIfInBounds_toArray,List.set_cons_zero,List.set_cons_succ])
             refine wpAnyH_ready (rs:=[22]) (by kernel_rfl) (by simp) ?_;refine AllReadyH.cons rfl (fun K hK=>?_) AllReadyH.nil;go_simp
             go_at_call 178
             refine(cC.out _ (hHeld.2)).mono ?_;rintro e w5 ⟨rfl,hK5⟩;clear hHeld;refine hK.out _ _ ⟨hC.out _ hK5,hK5⟩ (fun hHeld=>?_);clear hK K
             (try simp only[Act.put,List.setIfInBounds_toArray,List.set_cons_zero,List.set_cons_succ])
             refine TkD 23 (some 39) (v:=?_) rfl rfl ?_ ?_;rotate_left
             ·(intro W hSw;(try dsimp only at hSw);go_simp;try with_reducible rfl)
             (try simp only[Act.put,List.setIfInBounds_toArray,List.set_cons_zero,List.set_cons_succ])
             refine TkD 24 (some 40) (v:=?_) rfl rfl ?_ ?_;rotate_left
             ·(intro W hSw;(try dsimp only at hSw);go_simp;try with_reducible rfl)
             (try simp only[Act.put,List.setIfInBounds_toArray,List.set_cons_zero,List.set_cons_succ])
             refine TkD 25 (some 41) (v:=?_) rfl rfl ?_ ?_;rotate_left
             ·(intro W hSw;(try dsimp only at hSw);go_simp;try with_reducible rfl)
             (try simp only[Act.put,List.setIfInBounds_toArray,List.set_cons_zero,List.set_cons_succ])
             refine TkD 26 (some 42) (v:=?_) rfl rfl ?_ ?_;rotate_left
             ·(intro W hSw;(try dsimp only at hSw);go_simp;try with_reducible rfl)
             (try simp only[Act.put,List.setIfInBounds_toArray,List.set_cons_zero,List.set_cons_succ])
             refine TkD 27 (some 43) (v:=?_) rfl rfl ?_ ?_;rotate_left
             ·(intro W hSw;(try dsimp only at hSw);go_simp;try with_reducible rfl)
             (try simp only[Act.put,List.setIfInBounds_toArray,List.set_cons_zero,List.set_cons_succ])
             refine TkD 28 (some 44) (v:=?_) rfl rfl ?_ ?_;rotate_left
             ·(intro W hSw;(try dsimp only at hSw);go_simp;try with_reducible rfl)
             (try simp only[Act.put,List.setIfInBounds_toArray,List.set_cons_zero,List.set_cons_succ])
             refine TkD 29 (some 45) (v:=?_) rfl rfl ?_ ?_;rotate_left
             ·(intro W hSw;(try dsimp only at hSw);go_simp;try with_reducible rfl)
             (try simp only[Act.put,List.setIfInBounds_toArray,List.set_cons_zero,List.set_cons_succ])
             refine wpAnyH_ready (rs:=[30]) (by kernel_rfl) (by simp) ?_;refine AllReadyH.cons rfl (fun K hK=>?_) AllReadyH.nil;go_simp
             go_at_call 180
             refine(cD.out _ (hHeld.2)).mono ?_;rintro e w5 ⟨tp,rfl,htp,hK5⟩;clear hHeld;refine hK.out _ _ ⟨hC.out _ hK5,hK5⟩ (fun hHeld=>?_);clear hK K
             (try simp only[Act.put,List.setIfInBounds_toArray,List.set_cons_zero,List.set_cons_succ])
             refine wpAnyH_ready (rs:=[31]) (by kernel_rfl) (by simp) ?_;refine AllReadyH.cons rfl (fun K hK=>?_) AllReadyH.nil;go_simp
             go_at_call 179
             refine(cE.out _ _ htp hHeld.2).mono ?_;rintro e w5 ⟨rfl,hK5⟩;clear hHeld;refine hK.out _ _ ⟨hC.out _ hK5,hK5⟩ (fun hHeld=>?_);clear hK K
             (try simp only[Act.put,List.setIfInBounds_toArray,List.set_cons_zero,List.set_cons_succ])
             refine TkD 32 (some 48) (v:=?_) rfl rfl ?_ ?_;rotate_left
             ·(intro W hSw;(try dsimp only at hSw);go_simp;try with_reducible rfl)
             (try simp only[Act.put,List.setIfInBounds_toArray,List.set_cons_zero,List.set_cons_succ])
             refine TkD 33 (some 49) (v:=?_) rfl rfl ?_ ?_;rotate_left
             ·(intro W hSw;(try dsimp only at hSw);go_simp;try with_reducible rfl)
             (try simp only[Act.put,List.setIfInBounds_toArray,List.set_cons_zero,List.set_cons_succ])
             refine TkD 34 (some 8) (v:=?_) rfl rfl ?_ ?_;rotate_left
             ·(intro W hSw;(try dsimp only at hSw);go_simp;try with_reducible rfl)
             (try simp only[Act.put,List.setIfInBounds_toArray,List.set_cons_zero,List.set_cons_succ])
             refine wpAnyH_done (by kernel_rfl) ?_ _
             go_wp2_with fail
             go_ret;exact⟨by rw[HV.out];rfl,hbW.trans (hHeld.2.mono hbW.size)⟩
end Go.Proofs.YtjhccadmmnjpeaaGreatDoor
