/-
  Package allow: Hash, Inline.
-/
import Derived.Test.YtecoeebjaleeiaaGreatDoorJ36
set_option maxHeartbeats 4000000
set_option maxRecDepth 100000
namespace Go.Proofs.YtecoeebjaleeiaaGreatDoor
open Go.RowKit
attribute [local go_sem ↓] Go.wp_at_zero Go.wp_at_succ
theorem OH (args:Array Value) (w:World):(callFunc 115 args).run Tryz.prog w=.ok (.enter 115 args) w:=enters_of Tryz.func115 (by kernel_rfl) rfl args w
theorem Kn (bi:List UInt32) (aY:List UInt64) (x:ak) (hx:x.text.size<=1000000) (r:Nat) (tx:ByteArray) (ht:tx.size<=1000000) (W:World) (hE:C3 bi aY W) (hr:W.cell? ⟨r,0,none⟩=some (.string tx)):Calls Tryz.prog 115 #[x.val,.pointer (some ⟨r,0,none⟩)] W (aC (x.src.kind==5&&Lz.dD x.src.text==Lz.gK (fC bi aY) x.src.bits tx.data.toList) W):=by
 obtain⟨k,t,b,sc,ho,wd,po,pa⟩:=x;obtain⟨V,hV⟩:∃V,V=W.alloc (.cells #[.int .i64 k,.string t,.int .i64 b,.string sc,.string ho,.bool wd,.int .i64 po,.string pa] 174):=⟨_,rfl⟩;have eE:Below W.heap.size W V:=by rw[hV];exact(Below.refl _ W).alloc (Nat.le_refl _) _
 have hB:V.heap[W.heap.size]? =some (.cells #[.int .i64 k,.string t,.int .i64 b,.string sc,.string ho,.bool wd,.int .i64 po,.string pa] 174 (0,0)):=by rw[hV];exact ah _ _
 have HC:Hid (∀U,Below V.heap.size V U->((U.cell? ⟨W.heap.size,0,none⟩=some (.int .i64 k)/\U.cell? ⟨W.heap.size,1,none⟩=some (.string t)/\U.cell? ⟨W.heap.size,2,none⟩=some (.int .i64 b))/\U.cell? ⟨r,0,none⟩=some (.string tx))/\Below V.heap.size V U):=Ih (fun U hU=>by
  have jU:U.heap[W.heap.size]? =some (.cells #[.int .i64 k,.string t,.int .i64 b,.string sc,.string ho,.bool wd,.int .i64 po,.string pa] 174 (0,0)):=(hU.block _ (af hB)).trans hB;refine⟨⟨⟨rowAt jU 0 _ rfl,rowAt jU 1 _ rfl,rowAt jU 2 _ rfl⟩,?_⟩,hU⟩;have hl:=World.block_lt_of_cell? _ _ hr;rw[hU.cell (p:=⟨r,0,none⟩) (Nat.lt_of_lt_of_le hl eE.size),eE.cell (p:=⟨r,0,none⟩) hl];exact hr)
 have cP:Hid (∀U,Below V.heap.size V U->Calls Tryz.prog 116 #[.string t] U (gJ (Lz.dD t.data.toList) U)):=Ih (fun U _=>td t (by have:t.size<=1000000:=hx;omega) U);have cS:Hid (∀U,Below V.heap.size V U->Calls Tryz.prog 117 #[.int .i64 b,.string tx] U (gJ (Lz.gK (fC bi aY) b tx.data.toList) U)):=Ih (fun U hU=>N9 bi aY b tx ht U ((hE.below eE).below hU))
 dsimp only[ak.val]
 have z0:=rowAt hB 0 (.int .i64 k) rfl;have HV:=Ih hV;clear hV hB hE hr hx ht;by_cases hk:k=5
 ·subst hk;have hC:=HC;clear z0;go_enter Tryz.func115,Tryz.ntmps115
  go_upto_region 1 with fail
  rw[<-HV.out];refine wp_region_held_drew (S:=fun U=>((U.cell? ⟨W.heap.size,0,none⟩=some (.int .i64 5)/\U.cell? ⟨W.heap.size,1,none⟩=some (.string t)/\U.cell? ⟨W.heap.size,2,none⟩=some (.int .i64 b))/\U.cell? ⟨r,0,none⟩=some (.string tx))/\Below V.heap.size V U) (by kernel_rfl) (hC.out _ (Below.refl _ V).drew) (fun ae=>?_);generalize V.drew=W1 at ae⊢;apply TkG 0 4;apply TkG 1 5;apply TkG 2 6;apply TkG 3 7
  iterate 4 (rotate_right 2;(·(intro W aM;(try dsimp only at aM);(try simp only[Act.put]);(try simp only[List.setIfInBounds_toArray]);(try simp only[List.set_cons_zero,List.set_cons_succ]);go_simp;try with_reducible rfl)))
  (try simp only[Act.put]);(try simp only[List.setIfInBounds_toArray]);(try simp only[List.set_cons_zero,List.set_cons_succ])
  apply TkG 4 8;apply TkG 5 9;apply TkG 7 11;apply TkG 8 12;apply TkG 9 13
  iterate 5 (rotate_right 2;(·(intro W aM;(try dsimp only at aM);(try simp only[Act.put]);(try simp only[List.setIfInBounds_toArray]);(try simp only[List.set_cons_zero,List.set_cons_succ]);go_simp;try with_reducible rfl)))
  (try simp only[Act.put]);(try simp only[List.setIfInBounds_toArray]);(try simp only[List.set_cons_zero,List.set_cons_succ])
  refine wpAnyH_ready (rs:=[6]) (by kernel_rfl) (by simp) ?_;refine AllReadyH.cons rfl (fun K hK=>?_) AllReadyH.nil;go_simp
  go_at_call 116
  refine(cP.out _ ae.2).mono ?_;rintro e u1w ⟨u1,rfl,jR,aI⟩;have fX:=ae.2.trans (aI.mono ae.2.size);refine hK.out _ _ (hC.out _ fX) (fun ae=>?_);clear hK K aI fX
  (try simp only[Act.put]);(try simp only[List.setIfInBounds_toArray]);(try simp only[List.set_cons_zero,List.set_cons_succ])
  refine wpAnyH_ready (rs:=[10]) (by kernel_rfl) (by simp) ?_;refine AllReadyH.cons rfl (fun K hK=>?_) AllReadyH.nil;go_simp
  go_at_call 117
  refine(cS.out _ ae.2).mono ?_;rintro e u2w ⟨u2,rfl,qM,aI⟩;have fX:=ae.2.trans (aI.mono ae.2.size);refine hK.out _ _ (hC.out _ fX) (fun ae=>?_);clear hK K aI fX
  (try simp only[Act.put]);(try simp only[List.setIfInBounds_toArray]);(try simp only[List.set_cons_zero,List.set_cons_succ])
  apply TkG 11 15
  iterate 1 (rotate_right 2;(·(intro W aM;(try dsimp only at aM);(try simp only[Act.put]);(try simp only[List.setIfInBounds_toArray]);(try simp only[List.set_cons_zero,List.set_cons_succ]);go_simp;try with_reducible rfl)))
  (try simp only[Act.put]);(try simp only[List.setIfInBounds_toArray]);(try simp only[List.set_cons_zero,List.set_cons_succ])
  apply TkG 12 16;apply TkG 13 3
  iterate 2 (rotate_right 2;(·(intro W aM;(try dsimp only at aM);(try simp only[Act.put]);(try simp only[List.setIfInBounds_toArray]);(try simp only[List.set_cons_zero,List.set_cons_succ]);go_simp;try with_reducible rfl)))
  (try simp only[Act.put]);(try simp only[List.setIfInBounds_toArray]);(try simp only[List.set_cons_zero,List.set_cons_succ])
  refine wpAnyH_done (by kernel_rfl) ?_ _
  go_wp2_with fail
  go_ret;refine⟨?_,ac eE ae.2⟩;show Ending.returned (.bool (u1.toList==u2.toList))=.returned (.bool ((5:Int)==5&&Lz.dD t.data.toList==Lz.gK (fC bi aY) b tx.data.toList));rw[xC,jR.out,qM.out];rfl
 ·have hd:decide (k=5)=false:=decide_eq_false hk;have Ig:(k==5)=false:=by simpa using hk
  go_enter Tryz.func115,Tryz.ntmps115
  go_upto_region 1 with fail
  rw[<-HV.out]
  go_quiet (fail)
  go_wp2_with fail
  go_ret;refine⟨?_,below_drewN eE _⟩;show Ending.returned (.bool false)=.returned (.bool (k==5&&_));rw[Ig];rfl
theorem Ja {l:List (List UInt8)} (hZ:∀x,x∈l->x.length<=90000) {ys:List ak} (hy:ys.map ak.src=Lz.bF l) {x:ak} (hx:x∈ys):x.text.size<=90000:=by
 have hm:x.src∈Lz.bF l:=by rw[<-hy];exact List.mem_map.2 ⟨x,hx,rfl⟩
 unfold Lz.bF at hm;obtain⟨s,aU,dN⟩:=List.mem_filterMap.1 hm;rw[<-aa];exact(Lz.VB s x.src 90000 dN (hZ s aU)).1.ftext
theorem KD (bi:List UInt32) (aY:List UInt64) (v:Value) (l:List (List UInt8)) (tx:ByteArray) (ht:tx.size<=1000000) (w:World) (hE:C3 bi aY w) (h:eN w v l):Calls Tryz.prog 76 #[v,.string tx] w (aC (Lz.ud (Lz.gK (fC bi aY)) l tx.data.toList) w):=by
 obtain⟨V,hV⟩:∃V,V=w.alloc (.cells #[.string tx] 9):=⟨_,rfl⟩;have eE:Below w.heap.size w V:=by rw[hV];exact(Below.refl _ w).alloc (Nat.le_refl _) _
 have hB:V.heap[w.heap.size]? =some (.cells #[.string tx] 9 (0,0)):=by rw[hV];exact ah _ _
 have hc:=rowAt hB 0 (.string tx) rfl;have cL:=Ih ((h.below eE).list (hE.below eE).m.s);have cC:=Ih (fun(W:World) (sv:Value) (ys:List ak) (hW:Below V.heap.size V W) (hs:ik W sv ys) (hy:ys.map ak.src=Lz.bF l)=>fV sv ys 115 #[.pointer (some ⟨w.heap.size,0,none⟩)] (fun x=>x.src.kind==5&&Lz.dD x.src.text==Lz.gK (fC bi aY) x.src.bits tx.data.toList) W OH hs (h.ylen hy) (fun W2 x hx pH=>(Kn bi aY x (by have:=Ja h.size hy hx;omega) w.heap.size tx ht W2 ((hE.below eE).below (hW.trans (pH.mono hW.size))) (by rw[(hW.trans (pH.mono hW.size)).cell (p:=⟨w.heap.size,0,none⟩) (af hB)];exact hc)).mono fun e w' ⟨h1,h2⟩=>⟨h1,pH.trans (h2.mono pH.size)⟩));have HV:=Ih hV
 have HQ:Hid (∀ys:List ak,ys.map ak.src=Lz.bF l->Lz.ud (Lz.gK (fC bi aY)) l tx.data.toList=ys.any fun x=>x.src.kind==5&&Lz.dD x.src.text==Lz.gK (fC bi aY) x.src.bits tx.data.toList):=by
  show ∀ys,_;intro ys hy;unfold Lz.ud;rw[<-hy,List.any_map];rfl
 clear hV hB hE h hc;go_enter Tryz.func76,Tryz.ntmps76
 go_upto_region 1 with fail
 rw[<-HV.out]
 go_wp2_with fail
 refine cL.out.mono ?_;rintro e w6 ⟨sv,ys,rfl,jV,Io,fX⟩;have yk:=cn.at Io
 go_wp2_with fail
 refine(cC.out w6 _ ys fX yk jV.out).mono ?_;rintro e w7 ⟨rfl,kJ⟩
 go_wp2_with fail
 go_ret;exact⟨by rw[HQ.out ys jV.out];rfl,ac (ac eE fX) kJ⟩
def IX:ByteArray:=⟨#[117,110,115,97,102,101,45,104,97,115,104,101,115]⟩
theorem eN.none {w:World} {v:Value} {l:List (List UInt8)} (h:eN w v l):Calls Tryz.prog 71 #[v] w (aC (Lz.jf l) w):=zI v l w h.at' (by have:=h.len;omega) (fun x hx=>by have:=h.size x hx;omega)
theorem Em (bi:List UInt32) (aY:List UInt64) (kind:Int) (v:Value) (l:List (List UInt8)) (nn tx:ByteArray) (ht:tx.size<=1000000) (w:World) (hE:C3 bi aY w) (h:eN w v l):Calls Tryz.prog 38 #[.int .i64 kind,v,.string nn,.string tx] w (aC (Lz.gv (Lz.gK (fC bi aY)) kind l nn.data.toList tx.data.toList) w):=by
 have cN:Hid (Calls Tryz.prog 71 #[v] w (aC (Lz.jf l) w)):=Ih h.none;have cA:Hid (∀V,Below w.heap.size w V->Calls Tryz.prog 72 #[.int .i64 kind,v] V (aC (Lz.xM kind l) V)):=Ih (fun V hV=>Mj kind v l V (hE.below hV).m.s (h.below hV));have cZ:Hid (∀V,Below w.heap.size w V->Calls Tryz.prog 73 #[v,.string nn] V (aC (Lz.iE l nn.data.toList) V)):=Ih (fun V hV=>qq v l nn V (hE.below hV).m.s (h.below hV));have cL:Hid (∀V,Below w.heap.size w V->Calls Tryz.prog 75 #[v] V (Du l V)):=Ih (fun V hV=>(h.below hV).list (hE.below hV).m.s);have cK:Hid (∀V sv (ys:List ak),ik V sv ys->ys.map ak.src=Lz.bF l->Calls Tryz.prog 74 #[sv,.string IX] V (aC (Lz.uX (Lz.bF l) Lz.BO) V)):=Ih (fun V sv ys hs hy=>by rw[<-hy];exact A5 sv ys IX V hs (h.ylen hy));have cH:Hid (∀V,Below w.heap.size w V->Calls Tryz.prog 76 #[v,.string tx] V (aC (Lz.ud (Lz.gK (fC bi aY)) l tx.data.toList) V)):=Ih (fun V hV=>KD bi aY v l tx ht V (hE.below hV) (h.below hV));obtain⟨R,hR⟩:∃R,R=Lz.gv (Lz.gK (fC bi aY)) kind l nn.data.toList tx.data.toList:=⟨_,rfl⟩;rw[<-hR];unfold Lz.gv at hR;clear h hE
 generalize Lz.jf l=qn at cN hR;generalize Lz.xM kind l=qa at cA hR;generalize Lz.iE l nn.data.toList=qz at cZ hR;generalize Lz.uX (Lz.bF l) Lz.BO=qk at cK hR;generalize Lz.ud (Lz.gK (fC bi aY)) l tx.data.toList=qh at cH hR;obtain⟨e0,ZJ⟩:∃e0,e0=Lz.Ox kind:=⟨_,rfl⟩;rw[<-ZJ]at hR;have HR:=Ih hR;have HE0:Hid (e0=(kind==1||kind==4)):=Ih ZJ;clear hR ZJ;go_enter Tryz.func38,Tryz.ntmps38
 go_upto_region 1 with fail
 go_cut [9] (fun s wx=>s=.bool e0/\w=wx)
 case first=>
  by_cases h1:kind=1
  ·have HQ:Hid (e0=true):=by show _=_;rw[HE0.out,h1];rfl
   subst h1
   go_wp2_with fail
   go_meet;exact⟨by rw[HQ.out],rfl⟩
  ·go_wp2_with fail
   go_meet;exact⟨by rw[HE0.out],rfl⟩
 case rest=>
 obtain⟨rfl,rfl⟩:=hcut;by_cases zo:kind<1
 ·have HF:Hid (R=false):=by show _=_;rw[HR.out,if_pos (Or.inl zo)]
  go_wp2_with fail
  go_ret;exact⟨by rw[HF.out];rfl,Below.refl _ _⟩
 ·by_cases XS:5<kind
  ·have HF:Hid (R=false):=by show _=_;rw[HR.out,if_pos (Or.inr (Or.inl XS))]
   go_wp2_with fail
   go_ret;exact⟨by rw[HF.out];rfl,Below.refl _ _⟩
  ·cases qn with
   | true=>
     have HF:Hid (R=false):=by show _=_;rw[HR.out,if_pos (Or.inr (Or.inr rfl))]
     go_wp2_with fail
     refine cN.out.mono ?_;rintro e w1 ⟨rfl,ar⟩
     go_wp2_with fail
     go_ret;exact⟨by rw[HF.out];rfl,ar⟩
   | false=>
     have Fq:Hid (R=if(qa||(e0&&qz))=true then true else(e0||qk)&&qh):=by
      show _=_;rw[HR.out,if_neg (by rintro(h|h|h);exact zo h;exact XS h;cases h)]
     go_wp2_with fail
     refine cN.out.mono ?_;rintro e w1 ⟨rfl,ar⟩
     go_wp2_with fail
     refine(cA.out w1 ar).mono ?_;rintro e w2 ⟨rfl,az⟩;replace az:=ac ar az;cases qa with
     | true=>
       have HF:Hid (R=true):=by show _=_;rw[Fq.out];rfl
       go_wp2_with fail
       go_ret;exact⟨by rw[HF.out];rfl,az⟩
     | false=>
       cases e0 with
       | true=>
         go_wp2_with fail
         refine(cZ.out w2 az).mono ?_;rintro e w3 ⟨rfl,aO⟩;replace aO:=ac az aO;cases qz with
         | true=>
           have HF:Hid (R=true):=by show _=_;rw[Fq.out];rfl
           go_wp2_with fail
           go_ret;exact⟨by rw[HF.out];rfl,aO⟩
         | false=>
           have HF:Hid (R=qh):=by show _=_;rw[Fq.out];rfl
           go_wp2_with fail
           refine(cH.out w3 aO).mono ?_;rintro e w4 ⟨rfl,dy⟩
           go_wp2_with fail
           go_ret;exact⟨by rw[HF.out];rfl,ac aO dy⟩
       | false=>
         go_wp2_with fail
         refine(cL.out w2 az).mono ?_;rintro e w3 ⟨sv,ys,rfl,jV,Io,aO⟩;replace aO:=ac az aO;have yk:=cn.at Io
         go_wp2_with fail
         refine(cK.out w3 _ ys yk jV.out).mono ?_;rintro e w4 ⟨rfl,dy⟩;replace dy:=ac aO dy;cases qk with
         | true=>
           have HF:Hid (R=qh):=by show _=_;rw[Fq.out];rfl
           go_wp2_with fail
           refine(cH.out w4 dy).mono ?_;rintro e w5 ⟨rfl,aI⟩
           go_wp2_with fail
           go_ret;exact⟨by rw[HF.out];rfl,ac dy aI⟩
         | false=>
           have HF:Hid (R=false):=by show _=_;rw[Fq.out];rfl
           go_wp2_with fail
           go_ret;exact⟨by rw[HF.out];rfl,dy⟩
end Go.Proofs.YtecoeebjaleeiaaGreatDoor
