/-
  Package allow: Integrity, Fetch.
-/
import Derived.Test.YtecoeebjaleeiaaGreatDoorJ39
import Derived.Test.YtecoeebjaleeiaaGreatDoorJ35
set_option maxHeartbeats 4000000
set_option maxRecDepth 100000
namespace Go.Proofs.YtecoeebjaleeiaaGreatDoor
open Go.RowKit
attribute [local go_sem ↓] Go.wp_at_zero Go.wp_at_succ
theorem KS (args:Array Value) (w:World):(callFunc 151 args).run Tryz.prog w=.ok (.enter 151 args) w:=enters_of Tryz.func151 (by kernel_rfl) rfl args w
theorem F7 (x y:ak) (hx:x.text.size<=1000000) (hy:y.text.size<=1000000) (r:Nat) (W:World) (bC:W.cell? ⟨r,1,none⟩=some (.string x.text)) (bB:W.cell? ⟨r,2,none⟩=some (.int .i64 x.bits)):Calls Tryz.prog 151 #[y.val,.pointer (some ⟨r,0,none⟩)] W (aC (Lz.mH x.src y.src) W):=by
 obtain⟨k,t,b,sc,ho,wd,po,pa⟩:=y;obtain⟨xk,tx,bx,xsc,xho,xwd,xpo,xpa⟩:=x
 dsimp only at bC bB hx hy
 obtain⟨V,hV⟩:∃V,V=W.alloc (.cells #[.int .i64 k,.string t,.int .i64 b,.string sc,.string ho,.bool wd,.int .i64 po,.string pa] 174):=⟨_,rfl⟩;have eE:Below W.heap.size W V:=by rw[hV];exact(Below.refl _ W).alloc (Nat.le_refl _) _
 have hB:V.heap[W.heap.size]? =some (.cells #[.int .i64 k,.string t,.int .i64 b,.string sc,.string ho,.bool wd,.int .i64 po,.string pa] 174 (0,0)):=by rw[hV];exact ah _ _
 have hl:=World.block_lt_of_cell? _ _ bC
 have HC:Hid (∀U,Below V.heap.size V U->((U.cell? ⟨W.heap.size,0,none⟩=some (.int .i64 k)/\U.cell? ⟨W.heap.size,1,none⟩=some (.string t)/\U.cell? ⟨W.heap.size,2,none⟩=some (.int .i64 b))/\(U.cell? ⟨r,1,none⟩=some (.string tx)/\U.cell? ⟨r,2,none⟩=some (.int .i64 bx)))/\Below V.heap.size V U):=Ih (fun U hU=>by
  have jU:U.heap[W.heap.size]? =some (.cells #[.int .i64 k,.string t,.int .i64 b,.string sc,.string ho,.bool wd,.int .i64 po,.string pa] 174 (0,0)):=(hU.block _ (af hB)).trans hB;refine⟨⟨⟨rowAt jU 0 _ rfl,rowAt jU 1 _ rfl,rowAt jU 2 _ rfl⟩,?_,?_⟩,hU⟩
  ·rw[hU.cell (p:=⟨r,1,none⟩) (Nat.lt_of_lt_of_le hl eE.size),eE.cell (p:=⟨r,1,none⟩) hl];exact bC
  ·rw[hU.cell (p:=⟨r,2,none⟩) (Nat.lt_of_lt_of_le hl eE.size),eE.cell (p:=⟨r,2,none⟩) hl];exact bB)
 have cP:Hid (∀U,Below V.heap.size V U->Calls Tryz.prog 116 #[.string t] U (gJ (Lz.dD t.data.toList) U)):=Ih (fun U _=>td t (by omega) U);have cS:Hid (∀U,Below V.heap.size V U->Calls Tryz.prog 116 #[.string tx] U (gJ (Lz.dD tx.data.toList) U)):=Ih (fun U _=>td tx (by omega) U)
 dsimp only[ak.val]
 obtain⟨⟨⟨z0,z1,z2⟩,z3,z4⟩,_⟩:=HC.out V (Below.refl _ _);have HV:=Ih hV;clear hV hB bC bB hx hy hl;by_cases hk:k=5
 ·by_cases pA:b=bx
  ·subst hk;subst pA;have hC:=HC;clear z0 z1 z2 z3 z4;go_enter Tryz.func151,Tryz.ntmps151
   go_upto_region 1 with fail
   rw[<-HV.out];refine wp_region_held_drew (S:=fun U=>((U.cell? ⟨W.heap.size,0,none⟩=some (.int .i64 5)/\U.cell? ⟨W.heap.size,1,none⟩=some (.string t)/\U.cell? ⟨W.heap.size,2,none⟩=some (.int .i64 b))/\(U.cell? ⟨r,1,none⟩=some (.string tx)/\U.cell? ⟨r,2,none⟩=some (.int .i64 b)))/\Below V.heap.size V U) (by kernel_rfl) (hC.out _ (Below.refl _ V).drew) (fun ae=>?_);generalize V.drew=W1 at ae⊢;apply TkG 0 4;apply TkG 1 5;apply TkG 2 6;apply TkG 3 7
   iterate 4 (rotate_right 2;(·(intro W aM;(try dsimp only at aM);(try simp only[Act.put]);(try simp only[List.setIfInBounds_toArray]);(try simp only[List.set_cons_zero,List.set_cons_succ]);go_simp;try with_reducible rfl)))
   (try simp only[Act.put]);(try simp only[List.setIfInBounds_toArray]);(try simp only[List.set_cons_zero,List.set_cons_succ])
   apply TkG 4 8;apply TkG 5 9;apply TkG 6 10;apply TkG 7 11;apply TkG 8 12
   iterate 5 (rotate_right 2;(·(intro W aM;(try dsimp only at aM);(try simp only[Act.put]);(try simp only[List.setIfInBounds_toArray]);(try simp only[List.set_cons_zero,List.set_cons_succ]);go_simp;try with_reducible rfl)))
   (try simp only[Act.put]);(try simp only[List.setIfInBounds_toArray]);(try simp only[List.set_cons_zero,List.set_cons_succ])
   apply TkG 9 13;apply TkG 10 14
   iterate 2 (rotate_right 2;(·(intro W aM;(try dsimp only at aM);(try simp only[Act.put]);(try simp only[List.setIfInBounds_toArray]);(try simp only[List.set_cons_zero,List.set_cons_succ]);go_simp;try with_reducible rfl)))
   (try simp only[Act.put]);(try simp only[List.setIfInBounds_toArray]);(try simp only[List.set_cons_zero,List.set_cons_succ])
   apply TkG 11 15;apply TkG 12 16;apply TkG 14 18;apply TkG 15 19
   iterate 4 (rotate_right 2;(·(intro W aM;(try dsimp only at aM);(try simp only[Act.put]);(try simp only[List.setIfInBounds_toArray]);(try simp only[List.set_cons_zero,List.set_cons_succ]);go_simp;try with_reducible rfl)))
   (try simp only[Act.put]);(try simp only[List.setIfInBounds_toArray]);(try simp only[List.set_cons_zero,List.set_cons_succ])
   refine wpAnyH_ready (rs:=[13]) (by kernel_rfl) (by simp) ?_;refine AllReadyH.cons rfl (fun K hK=>?_) AllReadyH.nil;go_simp
   go_at_call 116
   refine(cP.out _ ae.2).mono ?_;rintro e u1w ⟨u1,rfl,jR,aI⟩;have fX:=ae.2.trans (aI.mono ae.2.size);refine hK.out _ _ (hC.out _ fX) (fun ae=>?_);clear hK K aI fX
   (try simp only[Act.put]);(try simp only[List.setIfInBounds_toArray]);(try simp only[List.set_cons_zero,List.set_cons_succ])
   refine wpAnyH_ready (rs:=[16]) (by kernel_rfl) (by simp) ?_;refine AllReadyH.cons rfl (fun K hK=>?_) AllReadyH.nil;go_simp
   go_at_call 116
   refine(cS.out _ ae.2).mono ?_;rintro e u2w ⟨u2,rfl,qM,aI⟩;have fX:=ae.2.trans (aI.mono ae.2.size);refine hK.out _ _ (hC.out _ fX) (fun ae=>?_);clear hK K aI fX
   (try simp only[Act.put]);(try simp only[List.setIfInBounds_toArray]);(try simp only[List.set_cons_zero,List.set_cons_succ])
   apply TkG 17 21
   iterate 1 (rotate_right 2;(·(intro W aM;(try dsimp only at aM);(try simp only[Act.put]);(try simp only[List.setIfInBounds_toArray]);(try simp only[List.set_cons_zero,List.set_cons_succ]);go_simp;try with_reducible rfl)))
   (try simp only[Act.put]);(try simp only[List.setIfInBounds_toArray]);(try simp only[List.set_cons_zero,List.set_cons_succ])
   apply TkG 18 22;apply TkG 19 3
   iterate 2 (rotate_right 2;(·(intro W aM;(try dsimp only at aM);(try simp only[Act.put]);(try simp only[List.setIfInBounds_toArray]);(try simp only[List.set_cons_zero,List.set_cons_succ]);go_simp;try with_reducible rfl)))
   (try simp only[Act.put]);(try simp only[List.setIfInBounds_toArray]);(try simp only[List.set_cons_zero,List.set_cons_succ])
   refine wpAnyH_done (by kernel_rfl) ?_ _
   go_wp2_with fail
   go_ret;refine⟨?_,ac eE ae.2⟩;show Ending.returned (.bool (u1.toList==u2.toList))=.returned (.bool ((5:Int)==5&&(b==b&&Lz.dD t.data.toList==Lz.dD tx.data.toList)));rw[xC,jR.out,qM.out];simp
  ·have hd:decide (b=bx)=false:=decide_eq_false pA;have nW:(b==bx)=false:=by simpa using pA
   subst hk;go_enter Tryz.func151,Tryz.ntmps151
   go_upto_region 1 with fail
   rw[<-HV.out]
   go_quiet (fail)
   go_wp2_with fail
   go_ret;refine⟨?_,below_drewN eE _⟩;show Ending.returned (.bool false)=.returned (.bool ((5:Int)==5&&(b==bx&&_)));rw[nW];rfl
 ·have hd:decide (k=5)=false:=decide_eq_false hk;have Ig:(k==5)=false:=by simpa using hk
  go_enter Tryz.func151,Tryz.ntmps151
  go_upto_region 1 with fail
  rw[<-HV.out]
  go_quiet (fail)
  go_wp2_with fail
  go_ret;refine⟨?_,below_drewN eE _⟩;show Ending.returned (.bool false)=.returned (.bool (k==5&&_));rw[Ig];rfl
theorem QV {f:List UInt8->List (List UInt8)} {s:List UInt8} {x:Lz.Src} (h:x∈Lz.nF f s) (hf:∀w∈f s,w.length<=100000):x.text.length<=1000000:=by
 unfold Lz.nF at h;obtain⟨w,h1,h2⟩:=List.mem_filterMap.1 h;have hw:=hf w h1;unfold Lz.j7 at h2;split at h2
 ·rename_i y hy;split at h2
  ·injection h2 with h2
   subst h2
   have hl:(39::(w.takeWhile (·!= 63)++[39])).length<=100002:=by
    have:=(List.takeWhile_sublist (fun c:UInt8=>c != 63) (l:=w)).length_le
    simp;omega
   exact Nat.le_trans (Lz.VB _ _ 100002 hy hl).1.ftext (by omega)
  ·cases h2
 ·cases h2
theorem yD (v:Value) (l:List (List UInt8)) (s:ByteArray) (hs:s.size<=100000) (w:World) (hE:Env w) (h:eN w v l):Calls Tryz.prog 118 #[v,.string s] w (aC (Lz.jo Lz.aG l s.data.toList) w):=by
 have cL:=Ih (h.list hE);have cH:Hid (∀V,Below w.heap.size w V->Calls Tryz.prog 150 #[.string s] V (S3 (Lz.nF Lz.aG s.data.toList) V)):=Ih (fun V hV=>Ms s hs V (hE.below hV));have HY:=Ih (fun(ys:List ak) hy=>h.ylen (ys:=ys) hy);have HT:=Ih (fun(ys:List ak) (hy:ys.map ak.src=Lz.bF l) (x:ak) hx=>Ja h.size hy (x:=x) hx);have HF:Hid (∀x∈Lz.nF Lz.aG s.data.toList,x.text.length<=1000000):=Ih (fun x hx=>QV hx (fun w hw=>Nat.le_trans (Lz.qG _ _ hw) (by rw[aa];exact hs)))
 have XT:Hid ((Lz.nF Lz.aG s.data.toList).length<=100001):=Ih (by
  unfold Lz.nF;refine Nat.le_trans (List.length_filterMap_le _ _) (Nat.le_trans (Lz.nd _) ?_);rw[aa];omega)
 clear h hE;obtain⟨R,hR⟩:∃R,R=Lz.jo Lz.aG l s.data.toList:=⟨_,rfl⟩;rw[<-hR];unfold Lz.jo at hR;obtain⟨hd,T7⟩:∃hd,hd=Lz.nF Lz.aG s.data.toList:=⟨_,rfl⟩;rw[<-T7]at hR cH HF XT;have HR:=Ih hR;clear hR T7;go_enter Tryz.func118,Tryz.ntmps118
 go_wp2_with fail
 refine cL.out.mono ?_;rintro e w1 ⟨sv,ys,rfl,jV,Io,ar⟩;have yk:=cn.at Io
 go_wp2_with fail
 refine(cH.out w1 ar).mono ?_;rintro e w2 ⟨hv,zs,rfl,Xc,ju,az⟩;have Hsa:=Ih (yk.below az);obtain⟨a,c,rfl,hx⟩:=ju;have Hx:=Ih hx;obtain⟨n,hn⟩:∃n,n=zs.length:=⟨_,rfl⟩;rw[<-hn];have hL:n<=100001:=by rw[hn,<-List.length_map (f:=ak.src),Xc.out];exact XT.out
 have HN:=Ih hn;have pA:=ac ar az;clear hx hn Io yk cL cH ar az
 go_wp2_with fail
 go_loopw [8,15] (fun _ i wr=>∃j:Nat,j<=n/\i=.int .i64 j/\Hid ((zs.take j).all (fun x=>(Lz.bF l).any (Lz.mH x.src))=true)/\Below w2.heap.size w2 wr) (fun _ i _=>n-(intOf i).toNat)
 case atStart=>exact⟨0,Nat.zero_le _,rfl,Ih (by simp),Below.refl _ _⟩
 case round=>
  obtain⟨j,hj,rfl,hT,aK⟩:=hrel;by_cases aV:j<n
  ·have bW:(j:Int)<(n:Int):=by omega
   have tM:(0:Int)<=(j:Int):=by omega
   obtain⟨x,hx⟩:∃x,zs[j]? =some x:=⟨_,List.getElem?_eq_getElem (by rw[<-HN.out];exact aV)⟩;obtain⟨g,rfl,hg,hc⟩:=Hx.out j x hx;have mT:∀(k:Nat) (u:Value),(ak.row x)[k]? =some u->wr.cell? ⟨g,j*8+k,none⟩=some u:=fun k u hk=>by rw[aK.cell (p:=⟨g,j*8+k,none⟩) hg];exact hc k u hk
   have hst:(zs.take (j+1)).all (fun x=>(Lz.bF l).any (Lz.mH x.src))=(Lz.bF l).any (Lz.mH x.src):=by rw[List.take_add_one,hx,List.all_append,hT.out];simp
   have fq:(Lz.bF l).any (Lz.mH x.src)=false->R=false:=fun h=>by
    rw[HR.out,<-Xc.out,List.all_map]
    have:zs.all ((fun x=>(Lz.bF l).any (Lz.mH x))∘ak.src)=false:=by
     rw[List.all_eq_false];exact⟨x,List.mem_of_getElem? hx,by show ¬(Lz.bF l).any (Lz.mH x.src)=true;rw[h];simp⟩
    rw[this];rfl
   have Ur:x.text.size<=1000000:=by
    rw[<-aa];exact HF.out x.src (by rw[<-Xc.out];exact List.mem_map.2 ⟨x,List.mem_of_getElem? hx,rfl⟩)
   obtain⟨k,t,b,sc,ho,wd,po,pa⟩:=x;have c0:=mT 0 _ rfl;have c1:=mT 1 _ rfl;have c2:=mT 2 _ rfl;have c3:=mT 3 _ rfl;have c4:=mT 4 _ rfl;have c5:=mT 5 _ rfl;have c6:=mT 6 _ rfl;have c7:=mT 7 _ rfl;have gM:=Ih hst;have ll:=Ih fq;clear hx hc mT hst fq hT
   dsimp only at c0 c1 c2 c3 c4 c5 c6 c7
   rw[Nat.add_zero]at c0;obtain⟨V,hV⟩:∃V,V=wr.alloc (.cells #[.int .i64 k,.string t,.int .i64 b,.string sc,.string ho,.bool wd,.int .i64 po,.string pa] 174):=⟨_,rfl⟩;have eE:Below w2.heap.size w2 V:=by rw[hV];exact aK.alloc aK.size _
   have hB:V.heap[wr.heap.size]? =some (.cells #[.int .i64 k,.string t,.int .i64 b,.string sc,.string ho,.bool wd,.int .i64 po,.string pa] 174 (0,0)):=by rw[hV];exact ah _ _
   have cC:=Ih (fV sv ys 151 #[.pointer (some ⟨wr.heap.size,0,none⟩)] (fun y=>Lz.mH (ak.src ⟨k,t,b,sc,ho,wd,po,pa⟩) y.src) V KS (Hsa.out.below eE) (HY.out ys jV.out) (fun W2 y hy pH=>(F7 ⟨k,t,b,sc,ho,wd,po,pa⟩ y Ur (by have:=HT.out ys jV.out y hy;omega) wr.heap.size W2 (by rw[pH.cell (p:=⟨wr.heap.size,1,none⟩) (af hB)];exact rowAt hB 1 _ rfl) (by rw[pH.cell (p:=⟨wr.heap.size,2,none⟩) (af hB)];exact rowAt hB 2 _ rfl)).mono fun e w' ⟨h1,h2⟩=>⟨h1,pH.trans (h2.mono pH.size)⟩));have he:ys.any (fun y=>Lz.mH (ak.src ⟨k,t,b,sc,ho,wd,po,pa⟩) y.src)=(Lz.bF l).any (Lz.mH (ak.src ⟨k,t,b,sc,ho,wd,po,pa⟩)):=by rw[<-jV.out,List.any_map];rfl
   rw[he]at cC;have HV:=Ih hV;clear hV hB he;generalize (Lz.bF l).any (Lz.mH (ak.src ⟨k,t,b,sc,ho,wd,po,pa⟩))=q at cC gM ll
   go_upto_region 5 with fail
   rw[<-HV.out];clear c0 c1 c2 c3 c4 c5 c6 c7;cases q with
   | true=>
     have HS:=gM
     go_wp2_with fail
     refine cC.out.mono ?_;rintro e w7 ⟨rfl,kJ⟩
     go_wp2_with fail
     go_roundw
     case rel=>exact⟨j+1,by omega,by go_num,HS,ac eE kJ⟩
     case measure=>simp[intOf];omega
   | false=>
     have HQ:Hid (R=false):=Ih (ll.out rfl)
     go_wp2_with fail
     refine cC.out.mono ?_;rintro e w7 ⟨rfl,kJ⟩
     go_wp2_with fail
     go_ret;exact⟨by rw[HQ.out];rfl,ac pA (ac eE kJ)⟩
  ·have bW:¬(j:Int)<(n:Int):=by omega
   have HQ:Hid (R=decide (0<n)):=by
    show _=_;rw[List.take_of_length_le (by rw[<-HN.out];omega)]at hT;have h1:hd.all (fun x=>(Lz.bF l).any (Lz.mH x))=true:=by rw[<-Xc.out,List.all_map];exact hT.out
    rw[HR.out,h1,HN.out,<-List.length_map (f:=ak.src),Xc.out];cases hd<;>simp
   clear hT
   go_wp2_with fail
   go_ret;refine⟨?_,ac pA aK⟩;rw[HQ.out];rfl
theorem G7 (v:Value) (l:List (List UInt8)) (uv:Value) (u:Lz.ag) (ov:Value) (own:Lz.ag) (nn s:ByteArray) (hs:s.size<=100000) (w:World) (hE:rk w) (h:eN w v l) (hu:aX w uv u) (hU:UOk u) (ho:aX w ov own) (hO:UOk own):Calls Tryz.prog 77 #[v,uv,ov,.string nn,.string s] w (aC (Lz.qv Lz.aG l u own nn.data.toList s.data.toList) w):=by
 obtain⟨bo,cw,ck,cv,aU,cf,cq,a1,n1,c1,bO,bU,cz,de,rfl,_,_,_,_,_,hv⟩:=hu.letters;obtain⟨gG,jQ,jm,eA,dN,jw,jP,a2,n2,c2,bQ,ee,jN,jF,rfl,_,_,_,_,_,je⟩:=ho.letters;obtain⟨W,hW⟩:∃W,W=(w.alloc (.cells #[.string bo,.string cw,.string ck,.bool cv,.string aU,.int .i64 cf,.bool cq,.slice a1 n1 c1,.bool bO,.bool bU,.string cz,.string de] 32)).alloc (.cells #[.string gG,.string jQ,.string jm,.bool eA,.string dN,.int .i64 jw,.bool jP,.slice a2 n2 c2,.bool bQ,.bool ee,.string jN,.string jF] 32):=⟨_,rfl⟩;have aS:Below w.heap.size w W:=by rw[hW];exact((Below.refl _ w).alloc (Nat.le_refl _) _).alloc (by simp) _
 have sj:W.heap[w.heap.size]? =some (.cells #[.string bo,.string cw,.string ck,.bool cv,.string aU,.int .i64 cf,.bool cq,.slice a1 n1 c1,.bool bO,.bool bU,.string cz,.string de] 32 (0,0)):=by rw[hW,Below.heap_alloc _ _ _ (by simp)];exact ah _ _
 have Cy:W.heap[w.heap.size+1]? =some (.cells #[.string gG,.string jQ,.string jm,.bool eA,.string dN,.int .i64 jw,.bool jP,.slice a2 n2 c2,.bool bQ,.bool ee,.string jN,.string jF] 32 (0,0)):=by rw[hW];exact dm _ _ _
 have cN:Hid (Calls Tryz.prog 71 #[v] W (aC (Lz.jf l) W)):=Ih (h.below aS).none;have cZ:Hid (∀V,Below W.heap.size W V->Calls Tryz.prog 73 #[v,.string nn] V (aC (Lz.iE l nn.data.toList) V)):=Ih (fun V hV=>qq v l nn V ((hE.below aS).below hV).s ((h.below aS).below hV));have cI:Hid (∀V,Below W.heap.size W V->Calls Tryz.prog 118 #[v,.string s] V (aC (Lz.jo Lz.aG l s.data.toList) V)):=Ih (fun V hV=>yD v l s hs V ((hE.below aS).below hV).s ((h.below aS).below hV));have cL:Hid (∀V,Below W.heap.size W V->Calls Tryz.prog 75 #[v] V (Du l V)):=Ih (fun V hV=>((h.below aS).below hV).list ((hE.below aS).below hV).s);have cK:Hid (∀V sv (ys:List ak),ik V sv ys->ys.map ak.src=Lz.bF l->Calls Tryz.prog 74 #[sv,.string vL] V (aC (Lz.uX (Lz.bF l) Lz.rX) V)):=Ih (fun V sv ys hs hy=>by rw[<-hy];exact A5 sv ys vL V hs (h.ylen hy))
 have cA:Hid (∀V,Below W.heap.size W V->Calls Tryz.prog 78 #[.agg #[.string bo,.string cw,.string ck,.bool cv,.string aU,.int .i64 cf,.bool cq,.slice a1 n1 c1,.bool bO,.bool bU,.string cz,.string de],v,.agg #[.string gG,.string jQ,.string jm,.bool eA,.string dN,.int .i64 jw,.bool jP,.slice a2 n2 c2,.bool bQ,.bool ee,.string jN,.string jF],.bool false] V (aC (Lz.anyM u l own false) V)):=Ih (fun V hV=>CL _ u v l _ own false V ((hE.below aS).below hV) ((hv.below aS).below hV) hU ((je.below aS).below hV) hO ((h.below aS).below hV).at' h.len h.size);have aaO:Hid (∀V,Below W.heap.size W V->V.heap[w.heap.size]? =some (.cells #[.string bo,.string cw,.string ck,.bool cv,.string aU,.int .i64 cf,.bool cq,.slice a1 n1 c1,.bool bO,.bool bU,.string cz,.string de] 32 (0,0))/\V.heap[w.heap.size+1]? =some (.cells #[.string gG,.string jQ,.string jm,.bool eA,.string dN,.int .i64 jw,.bool jP,.slice a2 n2 c2,.bool bQ,.bool ee,.string jN,.string jF] 32 (0,0))):=Ih (fun V hV=>⟨(hV.block _ (af sj)).trans sj,(hV.block _ (af Cy)).trans Cy⟩);obtain⟨R,hR⟩:∃R,R=Lz.qv Lz.aG l u own nn.data.toList s.data.toList:=⟨_,rfl⟩
 rw[<-hR];unfold Lz.qv at hR;generalize Lz.jf l=qn at cN hR;generalize Lz.iE l nn.data.toList=qz at cZ hR;generalize Lz.jo Lz.aG l s.data.toList=qi at cI hR;generalize Lz.uX (Lz.bF l) Lz.rX=qk at cK hR;generalize Lz.anyM u l own false=qa at cA hR;have HR:=Ih hR;have HW:=Ih hW;clear hR hW sj Cy hE h hu ho hv je hU hO;go_enter Tryz.func77,Tryz.ntmps77
 go_upto_region 1 with fail
 rw[<-HW.out];cases qn with
 | true=>
   have HF:Hid (R=false):=by show _=_;rw[HR.out];rfl
   go_wp2_with fail
   refine cN.out.mono ?_;rintro e w1 ⟨rfl,ar⟩
   go_wp2_with fail
   go_ret;exact⟨by rw[HF.out];rfl,ac aS ar⟩
 | false=>
   go_wp2_with fail
   refine cN.out.mono ?_;rintro e w1 ⟨rfl,ar⟩
   go_wp2_with fail
   refine(cZ.out w1 ar).mono ?_;rintro e w2 ⟨rfl,az⟩;replace az:=ac ar az;cases qz with
   | true=>
     have HF:Hid (R=true):=by show _=_;rw[HR.out];rfl
     go_wp2_with fail
     go_ret;exact⟨by rw[HF.out];rfl,ac aS az⟩
   | false=>
     go_wp2_with fail
     refine(cI.out w2 az).mono ?_;rintro e w3 ⟨rfl,aO⟩;replace aO:=ac az aO;cases qi with
     | true=>
       have HF:Hid (R=true):=by show _=_;rw[HR.out];rfl
       go_wp2_with fail
       go_ret;exact⟨by rw[HF.out];rfl,ac aS aO⟩
     | false=>
       go_wp2_with fail
       refine(cL.out w3 aO).mono ?_;rintro e w4 ⟨sv,ys,rfl,jV,Io,dy⟩;replace dy:=ac aO dy;have yk:=cn.at Io
       go_wp2_with fail
       refine(cK.out w4 _ ys yk jV.out).mono ?_;rintro e w5 ⟨rfl,aI⟩;replace aI:=ac dy aI;cases qk with
       | true=>
         have HF:Hid (R=false):=by show _=_;rw[HR.out];rfl
         go_wp2_with fail
         go_ret;exact⟨by rw[HF.out];rfl,ac aS aI⟩
       | false=>
         have HF:Hid (R=qa):=by show _=_;rw[HR.out];rfl
         obtain⟨x0,x1,x2,x3,x4,x5,x6,x7,x8,x9,nA,nB⟩:=dW (aaO.out w5 aI).1;obtain⟨y0,y1,y2,y3,y4,y5,y6,y7,y8,y9,qU,qR⟩:=dW (aaO.out w5 aI).2
         go_wp2_with fail
         refine(cA.out w5 aI).mono ?_;rintro e w6 ⟨rfl,fX⟩
         go_wp2_with fail
         go_ret;exact⟨by rw[HF.out];rfl,ac aS (ac aI fX)⟩
end Go.Proofs.YtecoeebjaleeiaaGreatDoor
