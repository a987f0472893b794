/-
  Package allow: Integrity, Fetch.
-/
import Derived.Test.YtibcmemcfjhgmaaGreatDoorV39
import Derived.Test.YtibcmemcfjhgmaaGreatDoorV42
set_option maxHeartbeats 4000000
set_option maxRecDepth 100000
namespace Go.Proofs.YtibcmemcfjhgmaaGreatDoor
open Go.RowKit
attribute [local go_sem ↓] Go.wp_at_zero Go.wp_at_succ
theorem I3 (args:Array Value) (w:World):(callFunc 99 args).run Tryz.prog w=.ok (.enter 99 args) w:=enters_of Tryz.func99 (by kernel_rfl) rfl args w
theorem FB (x y:ah) (hx:x.text.size<=1000000) (hy:y.text.size<=1000000) (r:Nat) (W:World) (i9:W.cell? ⟨r,1,none⟩=some (.string x.text)) (iG:W.cell? ⟨r,2,none⟩=some (.int .i64 x.bits)):Calls Tryz.prog 99 #[y.val,.pointer (some ⟨r,0,none⟩)] W (a5 (Lz.lh x.src y.src) W):=by
 obtain⟨k,t,b,sc,ho,wd,po,pa⟩:=y;obtain⟨xk,tx,bx,xsc,xho,xwd,xpo,xpa⟩:=x
 dsimp only at i9 iG hx hy
 obtain⟨V,hV⟩:∃V,V=W.alloc (.cells #[.int .i64 k,.string t,.int .i64 b,.string sc,.string ho,.bool wd,.int .i64 po,.string pa] 63):=⟨_,rfl⟩;have kc:Below W.heap.size W V:=by rw[hV];exact(Below.refl _ W).alloc (Nat.le_refl _) _
 have hB:V.heap[W.heap.size]? =some (.cells #[.int .i64 k,.string t,.int .i64 b,.string sc,.string ho,.bool wd,.int .i64 po,.string pa] 63 (0,0)):=by rw[hV];exact an _ _
 have hl:=World.block_lt_of_cell? _ _ i9
 have HC:Hid (∀U,Below V.heap.size V U->((U.cell? ⟨W.heap.size,0,none⟩=some (.int .i64 k)/\U.cell? ⟨W.heap.size,1,none⟩=some (.string t)/\U.cell? ⟨W.heap.size,2,none⟩=some (.int .i64 b))/\(U.cell? ⟨r,1,none⟩=some (.string tx)/\U.cell? ⟨r,2,none⟩=some (.int .i64 bx)))/\Below V.heap.size V U):=Ih (fun U hU=>by
  have AM:U.heap[W.heap.size]? =some (.cells #[.int .i64 k,.string t,.int .i64 b,.string sc,.string ho,.bool wd,.int .i64 po,.string pa] 63 (0,0)):=(hU.block _ (aZ hB)).trans hB;refine⟨⟨⟨rowAt AM 0 _ rfl,rowAt AM 1 _ rfl,rowAt AM 2 _ rfl⟩,?_,?_⟩,hU⟩
  ·rw[hU.cell (p:=⟨r,1,none⟩) (Nat.lt_of_lt_of_le hl kc.size),kc.cell (p:=⟨r,1,none⟩) hl];exact i9
  ·rw[hU.cell (p:=⟨r,2,none⟩) (Nat.lt_of_lt_of_le hl kc.size),kc.cell (p:=⟨r,2,none⟩) hl];exact iG)
 have cP:Hid (∀U,Below V.heap.size V U->Calls Tryz.prog 36 #[.string t] U (dX (Lz.bd t.data.toList) U)):=Ih (fun U _=>rC t (by omega) U);have cS:Hid (∀U,Below V.heap.size V U->Calls Tryz.prog 36 #[.string tx] U (dX (Lz.bd tx.data.toList) U)):=Ih (fun U _=>rC tx (by omega) U)
 dsimp only[ah.val]
 obtain⟨⟨⟨z0,z1,z2⟩,z3,z4⟩,_⟩:=HC.out V (Below.refl _ _);have HV:=Ih hV;clear hV hB i9 iG hx hy hl;by_cases hk:k=5
 ·by_cases mr:b=bx
  ·subst hk;subst mr;have hC:=HC;clear z0 z1 z2 z3 z4;go_enter Tryz.func99,Tryz.ntmps99
   go_upto_region 1 with fail
   rw[<-HV.out];refine wp_region_held_drew (S:=fun U=>((U.cell? ⟨W.heap.size,0,none⟩=some (.int .i64 5)/\U.cell? ⟨W.heap.size,1,none⟩=some (.string t)/\U.cell? ⟨W.heap.size,2,none⟩=some (.int .i64 b))/\(U.cell? ⟨r,1,none⟩=some (.string tx)/\U.cell? ⟨r,2,none⟩=some (.int .i64 b)))/\Below V.heap.size V U) (by kernel_rfl) (hC.out _ (Below.refl _ V).drew) (fun af=>?_);generalize V.drew=W1 at af⊢;apply TkG 0 4;apply TkG 1 5;apply TkG 2 6;apply TkG 3 7
   iterate 4 (rotate_right 2;(·(intro W ar;(try dsimp only at ar);(try simp only[Act.put]);(try simp only[List.setIfInBounds_toArray]);(try simp only[List.set_cons_zero,List.set_cons_succ]);go_simp;try with_reducible rfl)))
   (try simp only[Act.put]);(try simp only[List.setIfInBounds_toArray]);(try simp only[List.set_cons_zero,List.set_cons_succ])
   apply TkG 4 8;apply TkG 5 9;apply TkG 6 10;apply TkG 7 11;apply TkG 8 12
   iterate 5 (rotate_right 2;(·(intro W ar;(try dsimp only at ar);(try simp only[Act.put]);(try simp only[List.setIfInBounds_toArray]);(try simp only[List.set_cons_zero,List.set_cons_succ]);go_simp;try with_reducible rfl)))
   (try simp only[Act.put]);(try simp only[List.setIfInBounds_toArray]);(try simp only[List.set_cons_zero,List.set_cons_succ])
   apply TkG 9 13;apply TkG 10 14
   iterate 2 (rotate_right 2;(·(intro W ar;(try dsimp only at ar);(try simp only[Act.put]);(try simp only[List.setIfInBounds_toArray]);(try simp only[List.set_cons_zero,List.set_cons_succ]);go_simp;try with_reducible rfl)))
   (try simp only[Act.put]);(try simp only[List.setIfInBounds_toArray]);(try simp only[List.set_cons_zero,List.set_cons_succ])
   apply TkG 11 15;apply TkG 12 16;apply TkG 14 18;apply TkG 15 19
   iterate 4 (rotate_right 2;(·(intro W ar;(try dsimp only at ar);(try simp only[Act.put]);(try simp only[List.setIfInBounds_toArray]);(try simp only[List.set_cons_zero,List.set_cons_succ]);go_simp;try with_reducible rfl)))
   (try simp only[Act.put]);(try simp only[List.setIfInBounds_toArray]);(try simp only[List.set_cons_zero,List.set_cons_succ])
   refine wpAnyH_ready (rs:=[13]) (by kernel_rfl) (by simp) ?_;refine AllReadyH.cons rfl (fun K hK=>?_) AllReadyH.nil;go_simp
   go_at_call 36
   refine(cP.out _ af.2).mono ?_;rintro e u1w ⟨u1,rfl,tP,bv⟩;have eM:=af.2.trans (bv.mono af.2.size);refine hK.out _ _ (hC.out _ eM) (fun af=>?_);clear hK K bv eM
   (try simp only[Act.put]);(try simp only[List.setIfInBounds_toArray]);(try simp only[List.set_cons_zero,List.set_cons_succ])
   refine wpAnyH_ready (rs:=[16]) (by kernel_rfl) (by simp) ?_;refine AllReadyH.cons rfl (fun K hK=>?_) AllReadyH.nil;go_simp
   go_at_call 36
   refine(cS.out _ af.2).mono ?_;rintro e u2w ⟨u2,rfl,qG,bv⟩;have eM:=af.2.trans (bv.mono af.2.size);refine hK.out _ _ (hC.out _ eM) (fun af=>?_);clear hK K bv eM
   (try simp only[Act.put]);(try simp only[List.setIfInBounds_toArray]);(try simp only[List.set_cons_zero,List.set_cons_succ])
   apply TkG 17 21
   iterate 1 (rotate_right 2;(·(intro W ar;(try dsimp only at ar);(try simp only[Act.put]);(try simp only[List.setIfInBounds_toArray]);(try simp only[List.set_cons_zero,List.set_cons_succ]);go_simp;try with_reducible rfl)))
   (try simp only[Act.put]);(try simp only[List.setIfInBounds_toArray]);(try simp only[List.set_cons_zero,List.set_cons_succ])
   apply TkG 18 22;apply TkG 19 3
   iterate 2 (rotate_right 2;(·(intro W ar;(try dsimp only at ar);(try simp only[Act.put]);(try simp only[List.setIfInBounds_toArray]);(try simp only[List.set_cons_zero,List.set_cons_succ]);go_simp;try with_reducible rfl)))
   (try simp only[Act.put]);(try simp only[List.setIfInBounds_toArray]);(try simp only[List.set_cons_zero,List.set_cons_succ])
   refine wpAnyH_done (by kernel_rfl) ?_ _
   go_wp2_with fail
   go_ret;refine⟨?_,ae kc af.2⟩;show Ending.returned (.bool (u1.toList==u2.toList))=.returned (.bool ((5:Int)==5&&(b==b&&Lz.bd t.data.toList==Lz.bd tx.data.toList)));rw[qX,tP.out,qG.out];simp
  ·have hd:decide (b=bx)=false:=decide_eq_false mr;have xG:(b==bx)=false:=by simpa using mr
   subst hk;go_enter Tryz.func99,Tryz.ntmps99
   go_upto_region 1 with fail
   rw[<-HV.out]
   go_quiet (fail)
   go_wp2_with fail
   go_ret;refine⟨?_,below_drewN kc _⟩;show Ending.returned (.bool false)=.returned (.bool ((5:Int)==5&&(b==bx&&_)));rw[xG];rfl
 ·have hd:decide (k=5)=false:=decide_eq_false hk;have DK:(k==5)=false:=by simpa using hk
  go_enter Tryz.func99,Tryz.ntmps99
  go_upto_region 1 with fail
  rw[<-HV.out]
  go_quiet (fail)
  go_wp2_with fail
  go_ret;refine⟨?_,below_drewN kc _⟩;show Ending.returned (.bool false)=.returned (.bool (k==5&&_));rw[DK];rfl
theorem QH {f:List UInt8->List (List UInt8)} {s:List UInt8} {x:Lz.Src} (h:x∈Lz.kZ f s) (hf:∀w∈f s,w.length<=100000):x.text.length<=1000000:=by
 unfold Lz.kZ at h;obtain⟨w,h1,h2⟩:=List.mem_filterMap.1 h;have hw:=hf w h1;unfold Lz.jb at h2;split at h2
 ·rename_i y hy;split at h2
  ·injection h2 with h2
   subst h2
   have hl:(39::(w.takeWhile (·!= 63)++[39])).length<=100002:=by
    have:=(List.takeWhile_sublist (fun c:UInt8=>c != 63) (l:=w)).length_le
    simp;omega
   exact Nat.le_trans (Lz.Yn _ _ 100002 hy hl).1.ftext (by omega)
  ·cases h2
 ·cases h2
theorem xd (v:Value) (l:List (List UInt8)) (s:ByteArray) (hs:s.size<=100000) (w:World) (hE:Env w) (h:bQ w v l):Calls Tryz.prog 56 #[v,.string s] w (a5 (Lz.fD Lz.cn l s.data.toList) w):=by
 have cL:=Ih (h.list hE);have cH:Hid (∀V,Below w.heap.size w V->Calls Tryz.prog 98 #[.string s] V (S6 (Lz.kZ Lz.cn s.data.toList) V)):=Ih (fun V hV=>NZ s hs V (hE.below hV));have HY:=Ih (fun(ys:List ah) hy=>h.ylen (ys:=ys) hy);have HT:=Ih (fun(ys:List ah) (hy:ys.map ah.src=Lz.aM l) (x:ah) hx=>zT h.size hy (x:=x) hx);have HF:Hid (∀x∈Lz.kZ Lz.cn s.data.toList,x.text.length<=1000000):=Ih (fun x hx=>QH hx (fun w hw=>Nat.le_trans (Lz.vM _ _ hw) (by rw[ac];exact hs)))
 have HFL:Hid ((Lz.kZ Lz.cn s.data.toList).length<=100001):=Ih (by
  unfold Lz.kZ;refine Nat.le_trans (List.length_filterMap_le _ _) (Nat.le_trans (Lz.pH _) ?_);rw[ac];omega)
 clear h hE;obtain⟨R,hR⟩:∃R,R=Lz.fD Lz.cn l s.data.toList:=⟨_,rfl⟩;rw[<-hR];unfold Lz.fD at hR;obtain⟨hd,Tu⟩:∃hd,hd=Lz.kZ Lz.cn s.data.toList:=⟨_,rfl⟩;rw[<-Tu]at hR cH HF HFL;have HR:=Ih hR;clear hR Tu;go_enter Tryz.func56,Tryz.ntmps56
 go_wp2_with fail
 refine cL.out.mono ?_;rintro e w1 ⟨sv,ys,rfl,gY,wK,av⟩;have KM:=bo.at wK
 go_wp2_with fail
 refine(cH.out w1 av).mono ?_;rintro e w2 ⟨hv,zs,rfl,WN,fu,aE⟩;have Hsa:=Ih (KM.below aE);obtain⟨a,c,rfl,hx⟩:=fu;have Hx:=Ih hx;obtain⟨n,hn⟩:∃n,n=zs.length:=⟨_,rfl⟩;rw[<-hn];have hL:n<=100001:=by rw[hn,<-List.length_map (f:=ah.src),WN.out];exact HFL.out
 have HN:=Ih hn;have mr:=ae av aE;clear hx hn wK KM cL cH av aE
 go_wp2_with fail
 go_loopw [8,15] (fun _ i wr=>∃j:Nat,j<=n/\i=.int .i64 j/\Hid ((zs.take j).all (fun x=>(Lz.aM l).any (Lz.lh x.src))=true)/\Below w2.heap.size w2 wr) (fun _ i _=>n-(intOf i).toNat)
 case atStart=>exact⟨0,Nat.zero_le _,rfl,Ih (by simp),Below.refl _ _⟩
 case round=>
  obtain⟨j,hj,rfl,hT,aC⟩:=hrel;by_cases aL:j<n
  ·have aK:(j:Int)<(n:Int):=by omega
   have tI:(0:Int)<=(j:Int):=by omega
   obtain⟨x,hx⟩:∃x,zs[j]? =some x:=⟨_,List.getElem?_eq_getElem (by rw[<-HN.out];exact aL)⟩;obtain⟨g,rfl,hg,hc⟩:=Hx.out j x hx;have kO:∀(k:Nat) (u:Value),(ah.row x)[k]? =some u->wr.cell? ⟨g,j*8+k,none⟩=some u:=fun k u hk=>by rw[aC.cell (p:=⟨g,j*8+k,none⟩) hg];exact hc k u hk
   have hst:(zs.take (j+1)).all (fun x=>(Lz.aM l).any (Lz.lh x.src))=(Lz.aM l).any (Lz.lh x.src):=by rw[List.take_add_one,hx,List.all_append,hT.out];simp
   have dY:(Lz.aM l).any (Lz.lh x.src)=false->R=false:=fun h=>by
    rw[HR.out,<-WN.out,List.all_map]
    have:zs.all ((fun x=>(Lz.aM l).any (Lz.lh x))∘ah.src)=false:=by
     rw[List.all_eq_false];exact⟨x,List.mem_of_getElem? hx,by show ¬(Lz.aM l).any (Lz.lh x.src)=true;rw[h];simp⟩
    rw[this];rfl
   have hxt:x.text.size<=1000000:=by
    rw[<-ac];exact HF.out x.src (by rw[<-WN.out];exact List.mem_map.2 ⟨x,List.mem_of_getElem? hx,rfl⟩)
   obtain⟨k,t,b,sc,ho,wd,po,pa⟩:=x;have c0:=kO 0 _ rfl;have c1:=kO 1 _ rfl;have c2:=kO 2 _ rfl;have c3:=kO 3 _ rfl;have c4:=kO 4 _ rfl;have c5:=kO 5 _ rfl;have c6:=kO 6 _ rfl;have c7:=kO 7 _ rfl;have iA:=Ih hst;have gi:=Ih dY;clear hx hc kO hst dY hT
   dsimp only at c0 c1 c2 c3 c4 c5 c6 c7
   rw[Nat.add_zero]at c0;obtain⟨V,hV⟩:∃V,V=wr.alloc (.cells #[.int .i64 k,.string t,.int .i64 b,.string sc,.string ho,.bool wd,.int .i64 po,.string pa] 63):=⟨_,rfl⟩;have kc:Below w2.heap.size w2 V:=by rw[hV];exact aC.alloc aC.size _
   have hB:V.heap[wr.heap.size]? =some (.cells #[.int .i64 k,.string t,.int .i64 b,.string sc,.string ho,.bool wd,.int .i64 po,.string pa] 63 (0,0)):=by rw[hV];exact an _ _
   have cC:=Ih (fh sv ys 99 #[.pointer (some ⟨wr.heap.size,0,none⟩)] (fun y=>Lz.lh (ah.src ⟨k,t,b,sc,ho,wd,po,pa⟩) y.src) V I3 (Hsa.out.below kc) (HY.out ys gY.out) (fun W2 y hy lp=>(FB ⟨k,t,b,sc,ho,wd,po,pa⟩ y hxt (by have:=HT.out ys gY.out y hy;omega) wr.heap.size W2 (by rw[lp.cell (p:=⟨wr.heap.size,1,none⟩) (aZ hB)];exact rowAt hB 1 _ rfl) (by rw[lp.cell (p:=⟨wr.heap.size,2,none⟩) (aZ hB)];exact rowAt hB 2 _ rfl)).mono fun e w' ⟨h1,h2⟩=>⟨h1,lp.trans (h2.mono lp.size)⟩));have he:ys.any (fun y=>Lz.lh (ah.src ⟨k,t,b,sc,ho,wd,po,pa⟩) y.src)=(Lz.aM l).any (Lz.lh (ah.src ⟨k,t,b,sc,ho,wd,po,pa⟩)):=by rw[<-gY.out,List.any_map];rfl
   rw[he]at cC;have HV:=Ih hV;clear hV hB he;generalize (Lz.aM l).any (Lz.lh (ah.src ⟨k,t,b,sc,ho,wd,po,pa⟩))=q at cC iA gi
   go_upto_region 5 with fail
   rw[<-HV.out];clear c0 c1 c2 c3 c4 c5 c6 c7;cases q with
   | true=>
     have HS:=iA
     go_wp2_with fail
     refine cC.out.mono ?_;rintro e w7 ⟨rfl,ll⟩
     go_wp2_with fail
     go_roundw
     case rel=>exact⟨j+1,by omega,by go_num,HS,ae kc ll⟩
     case measure=>simp[intOf];omega
   | false=>
     have HQ:Hid (R=false):=Ih (gi.out rfl)
     go_wp2_with fail
     refine cC.out.mono ?_;rintro e w7 ⟨rfl,ll⟩
     go_wp2_with fail
     go_ret;exact⟨by rw[HQ.out];rfl,ae mr (ae kc ll)⟩
  ·have aK:¬(j:Int)<(n:Int):=by omega
   have HQ:Hid (R=decide (0<n)):=by
    show _=_;rw[List.take_of_length_le (by rw[<-HN.out];omega)]at hT;have h1:hd.all (fun x=>(Lz.aM l).any (Lz.lh x))=true:=by rw[<-WN.out,List.all_map];exact hT.out
    rw[HR.out,h1,HN.out,<-List.length_map (f:=ah.src),WN.out];cases hd<;>simp
   clear hT
   go_wp2_with fail
   go_ret;refine⟨?_,ae mr aC⟩;rw[HQ.out];rfl
end Go.Proofs.YtibcmemcfjhgmaaGreatDoor
