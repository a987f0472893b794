/-
  Package allow: Integrity, Fetch.
-/
import Derived.Test.YtjhccadmmnjpeaaGreatDoorT44
import Derived.Test.YtjhccadmmnjpeaaGreatDoorT45
set_option maxHeartbeats 4000000
set_option maxRecDepth 100000
namespace Go.Proofs.YtjhccadmmnjpeaaGreatDoor
open Go.RowKit
attribute [local go_sem ↓] Go.wp_at_zero Go.wp_at_succ
theorem fn_integ1 (args:Array Value) (w:World):(callFunc 42 args).run Tryz.prog w=.ok (.enter 42 args) w:=enters_of Tryz.func42 (by kernel_rfl) rfl args w
theorem integ1_any (x y:SrcB) (hx:x.text.size<=1000000) (hy:y.text.size<=1000000) (r:Nat) (W:World) (hr1:W.cell? ⟨r,1,none⟩=some (.string x.text)) (hr2:W.cell? ⟨r,2,none⟩=some (.int .i64 x.bits)):Calls Tryz.prog 42 #[y.val,.pointer (some ⟨r,0,none⟩)] W (RBool (Lz.likeH x.src y.src) W):=by
 obtain⟨k,t,b,sc,ho,wd,po,pa⟩:=y;obtain⟨xk,tx,bx,xsc,xho,xwd,xpo,xpa⟩:=x
 dsimp only at hr1 hr2 hx hy
 obtain⟨V,hV⟩:∃V,V=W.alloc (.cells #[.int .i64 k,.string t,.int .i64 b,.string sc,.string ho,.bool wd,.int .i64 po,.string pa] 47):=⟨_,rfl⟩;have hbV:Below W.heap.size W V:=by rw[hV];exact(Below.refl _ W).alloc (Nat.le_refl _) _
 have hB:V.heap[W.heap.size]? =some (.cells #[.int .i64 k,.string t,.int .i64 b,.string sc,.string ho,.bool wd,.int .i64 po,.string pa] 47 (0,0)):=by rw[hV];exact heap_new _ _
 have hl:=World.block_lt_of_cell? _ _ hr1
 have HC:Hid (∀U,Below V.heap.size V U->((U.cell? ⟨W.heap.size,0,none⟩=some (.int .i64 k)/\U.cell? ⟨W.heap.size,1,none⟩=some (.string t)/\U.cell? ⟨W.heap.size,2,none⟩=some (.int .i64 b))/\(U.cell? ⟨r,1,none⟩=some (.string tx)/\U.cell? ⟨r,2,none⟩=some (.int .i64 bx)))/\Below V.heap.size V U):=Ih (fun U hU=>by
  have hB2:U.heap[W.heap.size]? =some (.cells #[.int .i64 k,.string t,.int .i64 b,.string sc,.string ho,.bool wd,.int .i64 po,.string pa] 47 (0,0)):=(hU.block _ (row_lt hB)).trans hB;refine⟨⟨⟨rowAt hB2 0 _ rfl,rowAt hB2 1 _ rfl,rowAt hB2 2 _ rfl⟩,?_,?_⟩,hU⟩
  ·rw[hU.cell (p:=⟨r,1,none⟩) (Nat.lt_of_lt_of_le hl hbV.size),hbV.cell (p:=⟨r,1,none⟩) hl];exact hr1
  ·rw[hU.cell (p:=⟨r,2,none⟩) (Nat.lt_of_lt_of_le hl hbV.size),hbV.cell (p:=⟨r,2,none⟩) hl];exact hr2)
 have cP:Hid (∀U,Below V.heap.size V U->Calls Tryz.prog 32 #[.string t] U (RStr (Lz.usual t.data.toList) U)):=Ih (fun U _=>Plain_any t (by omega) U);have cS:Hid (∀U,Below V.heap.size V U->Calls Tryz.prog 32 #[.string tx] U (RStr (Lz.usual tx.data.toList) U)):=Ih (fun U _=>Plain_any tx (by omega) U)
 dsimp only[SrcB.val]
 obtain⟨⟨⟨z0,z1,z2⟩,z3,z4⟩,_⟩:=HC.out V (Below.refl _ _);have HV:=Ih hV;clear hV hB hr1 hr2 hx hy hl;by_cases hk:k=5
 ·by_cases hbb:b=bx
  ·subst hk;subst hbb;have hC:=HC;clear z0 z1 z2 z3 z4;go_enter Tryz.func42,Tryz.ntmps42
   go_upto_region 1 with fail
   rw[<-HV.out];refine wp_region_held_drew (S:=fun U=>((U.cell? ⟨W.heap.size,0,none⟩=some (.int .i64 5)/\U.cell? ⟨W.heap.size,1,none⟩=some (.string t)/\U.cell? ⟨W.heap.size,2,none⟩=some (.int .i64 b))/\(U.cell? ⟨r,1,none⟩=some (.string tx)/\U.cell? ⟨r,2,none⟩=some (.int .i64 b)))/\Below V.heap.size V U) (by kernel_rfl) (hC.out _ (Below.refl _ V).drew) (fun hHeld=>?_);generalize V.drew=W1 at hHeld⊢;refine TkD 0 (some 4) (v:=?_) rfl rfl ?_ ?_;rotate_left 2;refine TkD 1 (some 5) (v:=?_) rfl rfl ?_ ?_;rotate_left 2;refine TkD 2 (some 6) (v:=?_) rfl rfl ?_ ?_;rotate_left 2;refine TkD 3 (some 7) (v:=?_) rfl rfl ?_ ?_;rotate_left 2;rotate_left
   iterate 4 (rotate_left;(·(intro W hSw;(try dsimp only at hSw);(try simp only[Act.put]);(try simp only[List.setIfInBounds_toArray]);(try simp only[List.set_cons_zero,List.set_cons_succ]);go_simp;try with_reducible rfl)))
   (try simp only[Act.put]);(try simp only[List.setIfInBounds_toArray]);(try simp only[List.set_cons_zero,List.set_cons_succ])
   refine TkD 4 (some 8) (v:=?_) rfl rfl ?_ ?_;rotate_left 2;refine TkD 5 (some 9) (v:=?_) rfl rfl ?_ ?_;rotate_left 2;refine TkD 6 (some 10) (v:=?_) rfl rfl ?_ ?_;rotate_left 2;refine TkD 7 (some 11) (v:=?_) rfl rfl ?_ ?_;rotate_left 2;refine TkD 8 (some 12) (v:=?_) rfl rfl ?_ ?_;rotate_left 2;rotate_left
   iterate 5 (rotate_left;(·(intro W hSw;(try dsimp only at hSw);(try simp only[Act.put]);(try simp only[List.setIfInBounds_toArray]);(try simp only[List.set_cons_zero,List.set_cons_succ]);go_simp;try with_reducible rfl)))
   (try simp only[Act.put]);(try simp only[List.setIfInBounds_toArray]);(try simp only[List.set_cons_zero,List.set_cons_succ])
   refine TkD 9 (some 13) (v:=?_) rfl rfl ?_ ?_;rotate_left 2;refine TkD 10 (some 14) (v:=?_) rfl rfl ?_ ?_;rotate_left 2;rotate_left
   iterate 2 (rotate_left;(·(intro W hSw;(try dsimp only at hSw);(try simp only[Act.put]);(try simp only[List.setIfInBounds_toArray]);(try simp only[List.set_cons_zero,List.set_cons_succ]);go_simp;try with_reducible rfl)))
   (try simp only[Act.put]);(try simp only[List.setIfInBounds_toArray]);(try simp only[List.set_cons_zero,List.set_cons_succ])
   refine TkD 11 (some 15) (v:=?_) rfl rfl ?_ ?_;rotate_left 2;refine TkD 12 (some 16) (v:=?_) rfl rfl ?_ ?_;rotate_left 2;refine TkD 14 (some 18) (v:=?_) rfl rfl ?_ ?_;rotate_left 2;refine TkD 15 (some 19) (v:=?_) rfl rfl ?_ ?_;rotate_left 2;rotate_left
   iterate 4 (rotate_left;(·(intro W hSw;(try dsimp only at hSw);(try simp only[Act.put]);(try simp only[List.setIfInBounds_toArray]);(try simp only[List.set_cons_zero,List.set_cons_succ]);go_simp;try with_reducible rfl)))
   (try simp only[Act.put]);(try simp only[List.setIfInBounds_toArray]);(try simp only[List.set_cons_zero,List.set_cons_succ])
   refine wpAnyH_ready (rs:=[13]) (by kernel_rfl) (by simp) ?_;refine AllReadyH.cons rfl (fun K hK=>?_) AllReadyH.nil;go_simp
   go_at_call 32
   refine(cP.out _ hHeld.2).mono ?_;rintro e u1w ⟨u1,rfl,hu1,hb5⟩;have hb6:=hHeld.2.trans (hb5.mono hHeld.2.size);refine hK.out _ _ (hC.out _ hb6) (fun hHeld=>?_);clear hK K hb5 hb6
   (try simp only[Act.put]);(try simp only[List.setIfInBounds_toArray]);(try simp only[List.set_cons_zero,List.set_cons_succ])
   refine wpAnyH_ready (rs:=[16]) (by kernel_rfl) (by simp) ?_;refine AllReadyH.cons rfl (fun K hK=>?_) AllReadyH.nil;go_simp
   go_at_call 32
   refine(cS.out _ hHeld.2).mono ?_;rintro e u2w ⟨u2,rfl,hu2,hb5⟩;have hb6:=hHeld.2.trans (hb5.mono hHeld.2.size);refine hK.out _ _ (hC.out _ hb6) (fun hHeld=>?_);clear hK K hb5 hb6
   (try simp only[Act.put]);(try simp only[List.setIfInBounds_toArray]);(try simp only[List.set_cons_zero,List.set_cons_succ])
   refine TkD 17 (some 21) (v:=?_) rfl rfl ?_ ?_;rotate_left 2;rotate_left
   iterate 1 (rotate_left;(·(intro W hSw;(try dsimp only at hSw);(try simp only[Act.put]);(try simp only[List.setIfInBounds_toArray]);(try simp only[List.set_cons_zero,List.set_cons_succ]);go_simp;try with_reducible rfl)))
   (try simp only[Act.put]);(try simp only[List.setIfInBounds_toArray]);(try simp only[List.set_cons_zero,List.set_cons_succ])
   refine TkD 18 (some 22) (v:=?_) rfl rfl ?_ ?_;rotate_left 2;refine TkD 19 (some 3) (v:=?_) rfl rfl ?_ ?_;rotate_left 2;rotate_left
   iterate 2 (rotate_left;(·(intro W hSw;(try dsimp only at hSw);(try simp only[Act.put]);(try simp only[List.setIfInBounds_toArray]);(try simp only[List.set_cons_zero,List.set_cons_succ]);go_simp;try with_reducible rfl)))
   (try simp only[Act.put]);(try simp only[List.setIfInBounds_toArray]);(try simp only[List.set_cons_zero,List.set_cons_succ])
   refine wpAnyH_done (by kernel_rfl) ?_ _
   go_wp2_with fail
   go_ret;refine⟨?_,below_call hbV hHeld.2⟩;show Ending.returned (.bool (u1.toList==u2.toList))=.returned (.bool ((5:Int)==5&&(b==b&&Lz.usual t.data.toList==Lz.usual tx.data.toList)));rw[eqText,hu1.out,hu2.out];simp
  ·have hd:decide (b=bx)=false:=decide_eq_false hbb;have hbq:(b==bx)=false:=by simpa using hbb
   subst hk;go_enter Tryz.func42,Tryz.ntmps42
   go_upto_region 1 with fail
   rw[<-HV.out]
   go_quiet (fail)
   go_wp2_with fail
   go_ret;refine⟨?_,below_drewN hbV _⟩;show Ending.returned (.bool false)=.returned (.bool ((5:Int)==5&&(b==bx&&_)));rw[hbq];rfl
 ·have hd:decide (k=5)=false:=decide_eq_false hk;have hkb:(k==5)=false:=by simpa using hk
  go_enter Tryz.func42,Tryz.ntmps42
  go_upto_region 1 with fail
  rw[<-HV.out]
  go_quiet (fail)
  go_wp2_with fail
  go_ret;refine⟨?_,below_drewN hbV _⟩;show Ending.returned (.bool false)=.returned (.bool (k==5&&_));rw[hkb];rfl
theorem held_le {f:List UInt8->List (List UInt8)} {s:List UInt8} {x:Lz.Src} (h:x∈Lz.heldP f s) (hf:∀w∈f s,w.length<=100000):x.text.length<=1000000:=by
 unfold Lz.heldP at h;obtain⟨w,h1,h2⟩:=List.mem_filterMap.1 h;have hw:=hf w h1;unfold Lz.wordOf at h2;split at h2
 ·rename_i y hy;split at h2
  ·injection h2 with h2
   subst h2
   have hl:(39::(w.takeWhile (·!= 63)++[39])).length<=100002:=by
    have:=(List.takeWhile_sublist (fun c:UInt8=>c != 63) (l:=w)).length_le
    simp;omega
   exact Nat.le_trans (Lz.fits _ _ 100002 hy hl).1.ftext (by omega)
  ·cases h2
 ·cases h2
theorem Integrity_any (v:Value) (l:List (List UInt8)) (s:ByteArray) (hs:s.size<=100000) (w:World) (hE:Env w) (h:ValsAt w v l):Calls Tryz.prog 19 #[v,.string s] w (RBool (Lz.integrityP Lz.fieldsP l s.data.toList) w):=by
 have cL:=Ih (h.list hE);have cH:Hid (∀V,Below w.heap.size w V->Calls Tryz.prog 41 #[.string s] V (RHeld (Lz.heldP Lz.fieldsP s.data.toList) V)):=Ih (fun V hV=>held_any s hs V (hE.below hV));have HY:=Ih (fun(ys:List SrcB) hy=>h.ylen (ys:=ys) hy);have HT:=Ih (fun(ys:List SrcB) (hy:ys.map SrcB.src=Lz.listS l) (x:SrcB) hx=>text_le h.size hy (x:=x) hx);have HF:Hid (∀x∈Lz.heldP Lz.fieldsP s.data.toList,x.text.length<=1000000):=Ih (fun x hx=>held_le hx (fun w hw=>Nat.le_trans (Lz.fields_len _ _ hw) (by rw[len_of_size];exact hs)))
 have HFL:Hid ((Lz.heldP Lz.fieldsP s.data.toList).length<=100001):=Ih (by
  unfold Lz.heldP;refine Nat.le_trans (List.length_filterMap_le _ _) (Nat.le_trans (Lz.fields_count _) ?_);rw[len_of_size];omega)
 clear h hE;obtain⟨R,hR⟩:∃R,R=Lz.integrityP Lz.fieldsP l s.data.toList:=⟨_,rfl⟩;rw[<-hR];unfold Lz.integrityP at hR;obtain⟨hd,hhd⟩:∃hd,hd=Lz.heldP Lz.fieldsP s.data.toList:=⟨_,rfl⟩;rw[<-hhd]at hR cH HF HFL;have HR:=Ih hR;clear hR hhd;go_enter Tryz.func19,Tryz.ntmps19
 go_wp2_with fail
 refine cL.out.mono ?_;rintro e w1 ⟨sv,ys,rfl,hys,hso,hb1⟩;have hsa:=SrcsOwn.at hso
 go_wp2_with fail
 refine(cH.out w1 hb1).mono ?_;rintro e w2 ⟨hv,zs,rfl,hzs,hsz,hb2⟩;have Hsa:=Ih (hsa.below hb2);obtain⟨a,c,rfl,hx⟩:=hsz;have Hx:=Ih hx;obtain⟨n,hn⟩:∃n,n=zs.length:=⟨_,rfl⟩;rw[<-hn];have hL:n<=100001:=by rw[hn,<-List.length_map (f:=SrcB.src),hzs.out];exact HFL.out
 have HN:=Ih hn;have hbb:=below_call hb1 hb2;clear hx hn hso hsa cL cH hb1 hb2
 go_wp2_with fail
 go_loopw [8,15] (fun _ i wr=>∃j:Nat,j<=n/\i=.int .i64 j/\Hid ((zs.take j).all (fun x=>(Lz.listS l).any (Lz.likeH x.src))=true)/\Below w2.heap.size w2 wr) (fun _ i _=>n-(intOf i).toNat)
 case atStart=>exact⟨0,Nat.zero_le _,rfl,Ih (by simp),Below.refl _ _⟩
 case round=>
  obtain⟨j,hj,rfl,hT,hbw⟩:=hrel;by_cases hlt:j<n
  ·have hltI:(j:Int)<(n:Int):=by omega
   have hj0:(0:Int)<=(j:Int):=by omega
   obtain⟨x,hx⟩:∃x,zs[j]? =some x:=⟨_,List.getElem?_eq_getElem (by rw[<-HN.out];exact hlt)⟩;obtain⟨g,rfl,hg,hc⟩:=Hx.out j x hx;have hcw:∀(k:Nat) (u:Value),(SrcB.row x)[k]? =some u->wr.cell? ⟨g,j*8+k,none⟩=some u:=fun k u hk=>by rw[hbw.cell (p:=⟨g,j*8+k,none⟩) hg];exact hc k u hk
   have hst:(zs.take (j+1)).all (fun x=>(Lz.listS l).any (Lz.likeH x.src))=(Lz.listS l).any (Lz.likeH x.src):=by rw[List.take_add_one,hx,List.all_append,hT.out];simp
   have hall:(Lz.listS l).any (Lz.likeH x.src)=false->R=false:=fun h=>by
    rw[HR.out,<-hzs.out,List.all_map]
    have:zs.all ((fun x=>(Lz.listS l).any (Lz.likeH x))∘SrcB.src)=false:=by
     rw[List.all_eq_false];exact⟨x,List.mem_of_getElem? hx,by show ¬(Lz.listS l).any (Lz.likeH x.src)=true;rw[h];simp⟩
    rw[this];rfl
   have hxt:x.text.size<=1000000:=by
    rw[<-len_of_size];exact HF.out x.src (by rw[<-hzs.out];exact List.mem_map.2 ⟨x,List.mem_of_getElem? hx,rfl⟩)
   obtain⟨k,t,b,sc,ho,wd,po,pa⟩:=x;have c0:=hcw 0 _ rfl;have c1:=hcw 1 _ rfl;have c2:=hcw 2 _ rfl;have c3:=hcw 3 _ rfl;have c4:=hcw 4 _ rfl;have c5:=hcw 5 _ rfl;have c6:=hcw 6 _ rfl;have c7:=hcw 7 _ rfl;have Hst:=Ih hst;have Hall:=Ih hall;clear hx hc hcw hst hall hT
   dsimp only at c0 c1 c2 c3 c4 c5 c6 c7
   rw[Nat.add_zero]at c0;obtain⟨V,hV⟩:∃V,V=wr.alloc (.cells #[.int .i64 k,.string t,.int .i64 b,.string sc,.string ho,.bool wd,.int .i64 po,.string pa] 47):=⟨_,rfl⟩;have hbV:Below w2.heap.size w2 V:=by rw[hV];exact hbw.alloc hbw.size _
   have hB:V.heap[wr.heap.size]? =some (.cells #[.int .i64 k,.string t,.int .i64 b,.string sc,.string ho,.bool wd,.int .i64 po,.string pa] 47 (0,0)):=by rw[hV];exact heap_new _ _
   have cC:=Ih (ContainsFuncG_any sv ys 42 #[.pointer (some ⟨wr.heap.size,0,none⟩)] (fun y=>Lz.likeH (SrcB.src ⟨k,t,b,sc,ho,wd,po,pa⟩) y.src) V fn_integ1 (Hsa.out.below hbV) (HY.out ys hys.out) (fun W2 y hy hW2=>(integ1_any ⟨k,t,b,sc,ho,wd,po,pa⟩ y hxt (by have:=HT.out ys hys.out y hy;omega) wr.heap.size W2 (by rw[hW2.cell (p:=⟨wr.heap.size,1,none⟩) (row_lt hB)];exact rowAt hB 1 _ rfl) (by rw[hW2.cell (p:=⟨wr.heap.size,2,none⟩) (row_lt hB)];exact rowAt hB 2 _ rfl)).mono fun e w' ⟨h1,h2⟩=>⟨h1,hW2.trans (h2.mono hW2.size)⟩));have he:ys.any (fun y=>Lz.likeH (SrcB.src ⟨k,t,b,sc,ho,wd,po,pa⟩) y.src)=(Lz.listS l).any (Lz.likeH (SrcB.src ⟨k,t,b,sc,ho,wd,po,pa⟩)):=by rw[<-hys.out,List.any_map];rfl
   rw[he]at cC;have HV:=Ih hV;clear hV hB he;generalize (Lz.listS l).any (Lz.likeH (SrcB.src ⟨k,t,b,sc,ho,wd,po,pa⟩))=q at cC Hst Hall
   go_upto_region 5 with fail
   rw[<-HV.out];clear c0 c1 c2 c3 c4 c5 c6 c7;cases q with
   | true=>
     have HS:=Hst
     go_wp2_with fail
     refine cC.out.mono ?_;rintro e w7 ⟨rfl,hb7⟩
     go_wp2_with fail
     go_roundw
     case rel=>exact⟨j+1,by omega,by go_num,HS,below_call hbV hb7⟩
     case measure=>simp[intOf];omega
   | false=>
     have HQ:Hid (R=false):=Ih (Hall.out rfl)
     go_wp2_with fail
     refine cC.out.mono ?_;rintro e w7 ⟨rfl,hb7⟩
     go_wp2_with fail
     go_ret;exact⟨by rw[HQ.out];rfl,below_call hbb (below_call hbV hb7)⟩
  ·have hltI:¬(j:Int)<(n:Int):=by omega
   have HQ:Hid (R=decide (0<n)):=by
    show _=_;rw[List.take_of_length_le (by rw[<-HN.out];omega)]at hT;have h1:hd.all (fun x=>(Lz.listS l).any (Lz.likeH x))=true:=by rw[<-hzs.out,List.all_map];exact hT.out
    rw[HR.out,h1,HN.out,<-List.length_map (f:=SrcB.src),hzs.out];cases hd<;>simp
   clear hT
   go_wp2_with fail
   go_ret;refine⟨?_,below_call hbb hbw⟩;rw[HQ.out];rfl
theorem FetchA_any (v:Value) (l:List (List UInt8)) (uv:Value) (u:Lz.UrlL) (ov:Value) (own:Lz.UrlL) (nn s:ByteArray) (hs:s.size<=100000) (w:World) (hE:EnvM w) (h:ValsAt w v l) (hu:UrlVal w uv u) (hU:UOk u) (ho:UrlVal w ov own) (hO:UOk own):Calls Tryz.prog 21 #[v,uv,ov,.string nn,.string s] w (RBool (Lz.fetchP Lz.fieldsP l u own nn.data.toList s.data.toList) w):=by
 obtain⟨sc1,us1,pa1,hh1,hs1,pr1,op1,a1,n1,c1,hq1,hf1,qr1,fr1,rfl,_,_,_,_,_,hv⟩:=hu.letters;obtain⟨sc2,us2,pa2,hh2,hs2,pr2,op2,a2,n2,c2,hq2,hf2,qr2,fr2,rfl,_,_,_,_,_,hv2⟩:=ho.letters;obtain⟨W,hW⟩:∃W,W=(w.alloc (.cells #[.string sc1,.string us1,.string pa1,.bool hh1,.string hs1,.int .i64 pr1,.bool op1,.slice a1 n1 c1,.bool hq1,.bool hf1,.string qr1,.string fr1] 36)).alloc (.cells #[.string sc2,.string us2,.string pa2,.bool hh2,.string hs2,.int .i64 pr2,.bool op2,.slice a2 n2 c2,.bool hq2,.bool hf2,.string qr2,.string fr2] 36):=⟨_,rfl⟩;have hbW:Below w.heap.size w W:=by rw[hW];exact((Below.refl _ w).alloc (Nat.le_refl _) _).alloc (by simp) _
 have hRU:W.heap[w.heap.size]? =some (.cells #[.string sc1,.string us1,.string pa1,.bool hh1,.string hs1,.int .i64 pr1,.bool op1,.slice a1 n1 c1,.bool hq1,.bool hf1,.string qr1,.string fr1] 36 (0,0)):=by rw[hW,Below.heap_alloc _ _ _ (by simp)];exact heap_new _ _
 have hRO:W.heap[w.heap.size+1]? =some (.cells #[.string sc2,.string us2,.string pa2,.bool hh2,.string hs2,.int .i64 pr2,.bool op2,.slice a2 n2 c2,.bool hq2,.bool hf2,.string qr2,.string fr2] 36 (0,0)):=by rw[hW];exact heap_new2 _ _ _
 have cN:Hid (Calls Tryz.prog 22 #[v] W (RBool (Lz.noneM l) W)):=Ih (h.below hbW).none;have cZ:Hid (∀V,Below W.heap.size W V->Calls Tryz.prog 14 #[v,.string nn] V (RBool (Lz.nonceP l nn.data.toList) V)):=Ih (fun V hV=>NonceA_any v l nn V ((hE.below hbW).below hV).s ((h.below hbW).below hV));have cI:Hid (∀V,Below W.heap.size W V->Calls Tryz.prog 19 #[v,.string s] V (RBool (Lz.integrityP Lz.fieldsP l s.data.toList) V)):=Ih (fun V hV=>Integrity_any v l s hs V ((hE.below hbW).below hV).s ((h.below hbW).below hV));have cL:Hid (∀V,Below W.heap.size W V->Calls Tryz.prog 24 #[v] V (RList l V)):=Ih (fun V hV=>((h.below hbW).below hV).list ((hE.below hbW).below hV).s);have cK:Hid (∀V sv (ys:List SrcB),SrcsAt V sv ys->ys.map SrcB.src=Lz.listS l->Calls Tryz.prog 23 #[sv,.string strictB] V (RBool (Lz.hasK (Lz.listS l) Lz.strictS) V)):=Ih (fun V sv ys hs hy=>by rw[<-hy];exact has_any sv ys strictB V hs (h.ylen hy))
 have cA:Hid (∀V,Below W.heap.size W V->Calls Tryz.prog 47 #[.agg #[.string sc1,.string us1,.string pa1,.bool hh1,.string hs1,.int .i64 pr1,.bool op1,.slice a1 n1 c1,.bool hq1,.bool hf1,.string qr1,.string fr1],v,.agg #[.string sc2,.string us2,.string pa2,.bool hh2,.string hs2,.int .i64 pr2,.bool op2,.slice a2 n2 c2,.bool hq2,.bool hf2,.string qr2,.string fr2],.bool false] V (RBool (Lz.anyM u l own false) V)):=Ih (fun V hV=>AnyM_any _ u v l _ own false V ((hE.below hbW).below hV) ((hv.below hbW).below hV) hU ((hv2.below hbW).below hV) hO ((h.below hbW).below hV).at' h.len h.size);have HR12:Hid (∀V,Below W.heap.size W V->V.heap[w.heap.size]? =some (.cells #[.string sc1,.string us1,.string pa1,.bool hh1,.string hs1,.int .i64 pr1,.bool op1,.slice a1 n1 c1,.bool hq1,.bool hf1,.string qr1,.string fr1] 36 (0,0))/\V.heap[w.heap.size+1]? =some (.cells #[.string sc2,.string us2,.string pa2,.bool hh2,.string hs2,.int .i64 pr2,.bool op2,.slice a2 n2 c2,.bool hq2,.bool hf2,.string qr2,.string fr2] 36 (0,0))):=Ih (fun V hV=>⟨(hV.block _ (row_lt hRU)).trans hRU,(hV.block _ (row_lt hRO)).trans hRO⟩);obtain⟨R,hR⟩:∃R,R=Lz.fetchP Lz.fieldsP l u own nn.data.toList s.data.toList:=⟨_,rfl⟩
 rw[<-hR];unfold Lz.fetchP at hR;generalize Lz.noneM l=qn at cN hR;generalize Lz.nonceP l nn.data.toList=qz at cZ hR;generalize Lz.integrityP Lz.fieldsP l s.data.toList=qi at cI hR;generalize Lz.hasK (Lz.listS l) Lz.strictS=qk at cK hR;generalize Lz.anyM u l own false=qa at cA hR;have HR:=Ih hR;have HW:=Ih hW;clear hR hW hRU hRO hE h hu ho hv hv2 hU hO;go_enter Tryz.func21,Tryz.ntmps21
 go_upto_region 1 with fail
 rw[<-HW.out];cases qn with
 | true=>
   have HF:Hid (R=false):=by show _=_;rw[HR.out];rfl
   go_wp2_with fail
   refine cN.out.mono ?_;rintro e w1 ⟨rfl,hb1⟩
   go_wp2_with fail
   go_ret;exact⟨by rw[HF.out];rfl,below_call hbW hb1⟩
 | false=>
   go_wp2_with fail
   refine cN.out.mono ?_;rintro e w1 ⟨rfl,hb1⟩
   go_wp2_with fail
   refine(cZ.out w1 hb1).mono ?_;rintro e w2 ⟨rfl,hb2⟩;replace hb2:=below_call hb1 hb2;cases qz with
   | true=>
     have HF:Hid (R=true):=by show _=_;rw[HR.out];rfl
     go_wp2_with fail
     go_ret;exact⟨by rw[HF.out];rfl,below_call hbW hb2⟩
   | false=>
     go_wp2_with fail
     refine(cI.out w2 hb2).mono ?_;rintro e w3 ⟨rfl,hb3⟩;replace hb3:=below_call hb2 hb3;cases qi with
     | true=>
       have HF:Hid (R=true):=by show _=_;rw[HR.out];rfl
       go_wp2_with fail
       go_ret;exact⟨by rw[HF.out];rfl,below_call hbW hb3⟩
     | false=>
       go_wp2_with fail
       refine(cL.out w3 hb3).mono ?_;rintro e w4 ⟨sv,ys,rfl,hys,hso,hb4⟩;replace hb4:=below_call hb3 hb4;have hsa:=SrcsOwn.at hso
       go_wp2_with fail
       refine(cK.out w4 _ ys hsa hys.out).mono ?_;rintro e w5 ⟨rfl,hb5⟩;replace hb5:=below_call hb4 hb5;cases qk with
       | true=>
         have HF:Hid (R=false):=by show _=_;rw[HR.out];rfl
         go_wp2_with fail
         go_ret;exact⟨by rw[HF.out];rfl,below_call hbW hb5⟩
       | false=>
         have HF:Hid (R=qa):=by show _=_;rw[HR.out];rfl
         obtain⟨x0,x1,x2,x3,x4,x5,x6,x7,x8,x9,x10,x11⟩:=row12 (HR12.out w5 hb5).1;obtain⟨y0,y1,y2,y3,y4,y5,y6,y7,y8,y9,y10,y11⟩:=row12 (HR12.out w5 hb5).2
         go_wp2_with fail
         refine(cA.out w5 hb5).mono ?_;rintro e w6 ⟨rfl,hb6⟩
         go_wp2_with fail
         go_ret;exact⟨by rw[HF.out];rfl,below_call hbW (below_call hb5 hb6)⟩
end Go.Proofs.YtjhccadmmnjpeaaGreatDoor
