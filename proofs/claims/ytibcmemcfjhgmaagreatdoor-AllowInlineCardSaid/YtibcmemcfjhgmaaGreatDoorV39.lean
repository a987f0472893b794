/-
  Package allow: Hash, Inline.
-/
import Derived.Test.YtibcmemcfjhgmaaGreatDoorV35
import Derived.Test.YtibcmemcfjhgmaaGreatDoorV38
set_option maxHeartbeats 4000000
set_option maxRecDepth 100000
namespace Go.Proofs.YtibcmemcfjhgmaaGreatDoor
open Go.RowKit
attribute [local go_sem ↓] Go.wp_at_zero Go.wp_at_succ
def tD:ByteArray:=⟨#[115,116,114,105,99,116,45,100,121,110,97,109,105,99]⟩
def QG:ByteArray:=⟨#[117,110,115,97,102,101,45,105,110,108,105,110,101]⟩
theorem Bq (kind:Int) (v:Value) (l:List (List UInt8)) (w:World) (hE:Env w) (h:bQ w v l):Calls Tryz.prog 11 #[.int .i64 kind,v] w (a5 (Lz.kA kind l) w):=by
 have cL:=Ih (h.list hE);have HY:=Ih (fun(ys:List ah) hy=>h.ylen (ys:=ys) hy);clear h hE;go_enter Tryz.func11,Tryz.ntmps11
 go_wp2_with fail
 refine cL.out.mono ?_;rintro e w6 ⟨sv,ys,rfl,gY,wK,eM⟩;have KM:=bo.at wK;have ZP:=Ih KM;obtain⟨a,c,rfl,hx⟩:=KM;have Hx:=Ih hx;obtain⟨n,hn⟩:∃n,n=ys.length:=⟨_,rfl⟩;rw[<-hn];rw[<-hn]at ZP;have hL:n<=100000:=by rw[hn];exact HY.out ys gY.out
 have HN:=Ih hn
 have HP:Hid (Lz.kA kind l=(!(ys.any fun x=>Lz.qs kind x.src)&&Lz.lc (ys.map ah.src) Lz.i3)):=by
  show _=_;unfold Lz.kA;rw[<-gY.out,List.any_map];rfl
 clear hx hn wK HY gY
 go_wp2_with fail
 go_loopw [7,12,16,23] (fun _ i _ _ wr=>∃j:Nat,j<=n/\i=.int .i64 j/\Hid ((ys.take j).any (fun x=>Lz.qs kind x.src)=false)/\Below w6.heap.size w6 wr) (fun _ i _ _ _=>n-(intOf i).toNat)
 case atStart=>exact⟨0,Nat.zero_le _,rfl,Ih (by simp),Below.refl _ _⟩
 case round=>
  obtain⟨j,hj,rfl,hT,aC⟩:=hrel;by_cases aL:j<n
  ·have aK:(j:Int)<(n:Int):=by omega
   have tI:(0:Int)<=(j:Int):=by omega
   obtain⟨x,hx⟩:∃x,ys[j]? =some x:=⟨_,List.getElem?_eq_getElem (by rw[<-HN.out];exact aL)⟩;obtain⟨g,rfl,hg,hc⟩:=Hx.out j x hx;have kO:∀(k:Nat) (u:Value),(ah.row x)[k]? =some u->wr.cell? ⟨g,j*8+k,none⟩=some u:=fun k u hk=>by rw[aC.cell (p:=⟨g,j*8+k,none⟩) hg];exact hc k u hk
   have hst:(ys.take (j+1)).any (fun x=>Lz.qs kind x.src)=Lz.qs kind x.src:=by rw[List.take_add_one,hx,List.any_append,hT.out];simp
   have dY:Lz.qs kind x.src=true->Lz.kA kind l=false:=fun h=>by rw[HP.out,List.any_eq_true.2 ⟨x,List.mem_of_getElem? hx,h⟩];rfl
   obtain⟨k,t,b,sc,ho,wd,po,pa⟩:=x;have c0:=kO 0 _ rfl;have c1:=kO 1 _ rfl;have c2:=kO 2 _ rfl;have c3:=kO 3 _ rfl;have c4:=kO 4 _ rfl;have c5:=kO 5 _ rfl;have c6:=kO 6 _ rfl;have c7:=kO 7 _ rfl;have iA:=Ih hst;have gi:=Ih dY;clear hx hc kO hst dY hT
   dsimp only at c0 c1 c2 c3 c4 c5 c6 c7
   rw[Nat.add_zero]at c0;obtain⟨V,hV⟩:∃V,V=wr.alloc (.cells #[.int .i64 k,.string t,.int .i64 b,.string sc,.string ho,.bool wd,.int .i64 po,.string pa] 63):=⟨_,rfl⟩;have kc:Below w6.heap.size w6 V:=by rw[hV];exact aC.alloc aC.size _
   have hB:V.heap[wr.heap.size]? =some (.cells #[.int .i64 k,.string t,.int .i64 b,.string sc,.string ho,.bool wd,.int .i64 po,.string pa] 63 (0,0)):=by rw[hV];exact an _ _
   obtain⟨z0,z1,z2,z3,z4,z5,z6,z7⟩:=xU hB;have cK:=Ih (sq ⟨k,t,b,sc,ho,wd,po,pa⟩ tD V)
   dsimp only[ah.val]at cK
   obtain⟨q,hq⟩:∃q,q=Lz.kwS Lz.fW (ah.src ⟨k,t,b,sc,ho,wd,po,pa⟩):=⟨_,rfl⟩;have cK2:Hid (Calls Tryz.prog 31 #[.agg #[.int .i64 k,.string t,.int .i64 b,.string sc,.string ho,.bool wd,.int .i64 po,.string pa],.string tD] V (a5 q V)):=by rw[hq];exact cK
   have O9:Hid (Lz.qs kind (ah.src ⟨k,t,b,sc,ho,wd,po,pa⟩)=((k==4)||((k==5)||(q&&decide (kind<4))))):=by show _=_;rw[hq];rfl
   have HV:=Ih hV;clear hV hB cK hq
   go_upto_region 5 with fail
   rw[<-HV.out];clear c0 c1 c2 c3 c4 c5 c6 c7;by_cases h4:k=4
   ·have HF:Hid (Lz.kA kind l=false):=Ih (gi.out (by rw[O9.out,h4];rfl));subst h4
    go_wp2_with fail
    go_ret;exact⟨by rw[HF.out];rfl,ae eM kc⟩
   ·by_cases h5:k=5
    ·have HF:Hid (Lz.kA kind l=false):=Ih (gi.out (by rw[O9.out,h5];rfl));subst h5
     go_wp2_with fail
     go_ret;exact⟨by rw[HF.out];rfl,ae eM kc⟩
    ·have TP:(k==4)=false:=by simpa using h4
     have XO:(k==5)=false:=by simpa using h5
     have T7:Hid ((k==4)=false/\(k==5)=false):=⟨TP,XO⟩;clear TP XO;have acV:=kc.size;cases q with
     | true=>
       by_cases hk:kind<4
       ·have HF:Hid (Lz.kA kind l=false):=Ih (gi.out (by rw[O9.out,T7.out.1,T7.out.2,decide_eq_true hk];rfl))
        go_wp2_with fail
        refine cK2.out.mono ?_;rintro e w7 ⟨rfl,ll⟩
        go_wp2_with fail
        go_ret;exact⟨by rw[HF.out];rfl,ae eM (ae kc ll)⟩
       ·have HS:Hid ((ys.take (j+1)).any (fun x=>Lz.qs kind x.src)=false):=by show _=_;rw[iA.out,O9.out,T7.out.1,T7.out.2,decide_eq_false hk];rfl
        go_wp2_with fail
        refine cK2.out.mono ?_;rintro e w7 ⟨rfl,ll⟩
        go_wp2_with fail
        go_roundw
        case rel=>exact⟨j+1,by omega,by go_num,HS,ae kc ll⟩
        case measure=>simp[intOf];omega
     | false=>
       have HS:Hid ((ys.take (j+1)).any (fun x=>Lz.qs kind x.src)=false):=by show _=_;rw[iA.out,O9.out,T7.out.1,T7.out.2];rfl
       go_wp2_with fail
       refine cK2.out.mono ?_;rintro e w7 ⟨rfl,ll⟩
       go_wp2_with fail
       go_roundw
       case rel=>exact⟨j+1,by omega,by go_num,HS,ae kc ll⟩
       case measure=>simp[intOf];omega
  ·have aK:¬(j:Int)<(n:Int):=by omega
   have cH:=Ih (Aj (.slice a n c) ys QG wr (ZP.out.below aC) (by rw[<-HN.out];exact hL))
   have HR:Hid (Lz.kA kind l=Lz.lc (ys.map ah.src) Lz.i3):=by
    show _=_;rw[HP.out,<-List.take_of_length_le (l:=ys) (i:=j) (by rw[<-HN.out];omega),hT.out,List.take_of_length_le (by rw[<-HN.out];omega)];rfl
   clear hT
   go_wp2_with fail
   refine cH.out.mono ?_;rintro e w7 ⟨rfl,ll⟩
   go_wp2_with fail
   go_ret;exact⟨by rw[HR.out];rfl,ae eM (ae aC ll)⟩
def bP (aP:List UInt32) (bJ:List UInt64) (b:Int) (t:List UInt8):List UInt8:=if b=256 then Lz.iJ aP bU t else if b=384 then(Lz.eJ bJ dO t).take 48 else Lz.eJ bJ eb t
theorem jY (aP:List UInt32) (bJ:List UInt64) (b:Int) (t:List UInt8):(bP aP bJ b t).length<=64/\bP aP bJ b t≠[]:=by
 unfold bP;have Ug:(Lz.iJ aP bU t).length=32:=Lz.yj _;have WZ:=rx bJ;split
 ·exact⟨by omega,fun e=>by rw[e]at Ug;cases Ug⟩
 ·split
  ·refine⟨by rw[List.length_take,WZ];omega,fun e=>?_⟩;have:=congrArg List.length e;rw[List.length_take,WZ]at this;simp at this
  ·exact⟨by rw[WZ];omega,fun e=>by have:=WZ eb t;rw[e]at this;cases this⟩
theorem Ma (aP:List UInt32) (bJ:List UInt64) (b:Int) (t:ByteArray) (ht:t.size<=1000000) (w:World) (hE:oS aP bJ w):Calls Tryz.prog 37 #[.int .i64 b,.string t] w (dX (Lz.dm (bP aP bJ) b t.data.toList) w):=by
 have cE:=Ih (fun(u:ByteArray) (hu:u.size<=64) W=>pS u (by omega) W);have rJ:=(jY aP bJ b t.data.toList).1;by_cases h1:b=256
 ·have HD:Hid (bP aP bJ b t.data.toList=Lz.iJ aP bU t.data.toList):=by show _=_;unfold bP;rw[if_pos h1]
  have cS:=Ih (Ib aP t (by omega) w hE.d);rw[HD.out]at rJ;subst h1;clear hE;go_enter Tryz.func37,Tryz.ntmps37
  go_wp2_with fail
  refine cS.out.mono ?_;rintro e w1 ⟨rfl,av⟩;obtain⟨u,hu⟩:∃u:ByteArray,u=⟨(Lz.iJ aP bU t.data.toList).toArray⟩:=⟨_,rfl⟩;have Dt:u.data.toList=Lz.iJ aP bU t.data.toList:=by rw[hu]
  rw[<-hu];have hz:u.size<=64:=by rw[<-ac,Dt];exact rJ
  have Hul:=Ih Dt;clear hu Dt
  go_wp2_with fail
  refine(cE.out u hz _).mono ?_;rintro e w2 ⟨x,rfl,hx,aE⟩
  go_wp2_with fail
  go_ret;exact⟨x,rfl,Ih (by rw[hx.out,Hul.out];unfold Lz.dm;rw[HD.out]),ae av aE⟩
 ·by_cases h2:b=384
  ·have HD:Hid (bP aP bJ b t.data.toList=(Lz.eJ bJ dO t.data.toList).take 48):=by show _=_;unfold bP;rw[if_neg h1,if_pos h2]
   have cS:=Ih (uq bJ t (by omega) w hE.l);rw[HD.out]at rJ;subst h2;clear hE h1;go_enter Tryz.func37,Tryz.ntmps37
   go_wp2_with fail
   refine cS.out.mono ?_;rintro e w1 ⟨u,rfl,hu,av⟩;have hz:u.size<=64:=by rw[<-ac,hu.out];exact rJ
   go_wp2_with fail
   refine(cE.out u hz _).mono ?_;rintro e w2 ⟨x,rfl,hx,aE⟩
   go_wp2_with fail
   go_ret;exact⟨x,rfl,Ih (by rw[hx.out,hu.out];unfold Lz.dm;rw[HD.out]),ae av aE⟩
  ·have HD:Hid (bP aP bJ b t.data.toList=Lz.eJ bJ eb t.data.toList):=by show _=_;unfold bP;rw[if_neg h1,if_neg h2]
   have cS:=Ih (uA bJ t (by omega) w hE.l);rw[HD.out]at rJ;clear hE;go_enter Tryz.func37,Tryz.ntmps37
   go_wp2_with fail
   refine cS.out.mono ?_;rintro e w1 ⟨u,rfl,hu,av⟩;have hz:u.size<=64:=by rw[<-ac,hu.out];exact rJ
   go_wp2_with fail
   refine(cE.out u hz _).mono ?_;rintro e w2 ⟨x,rfl,hx,aE⟩
   go_wp2_with fail
   go_ret;exact⟨x,rfl,Ih (by rw[hx.out,hu.out];unfold Lz.dm;rw[HD.out]),ae av aE⟩
attribute [local go_sem ↓] Go.wp_at_zero Go.wp_at_succ
theorem Mi (args:Array Value) (w:World):(callFunc 35 args).run Tryz.prog w=.ok (.enter 35 args) w:=enters_of Tryz.func35 (by kernel_rfl) rfl args w
theorem Je (aP:List UInt32) (bJ:List UInt64) (x:ah) (hx:x.text.size<=1000000) (r:Nat) (tx:ByteArray) (ht:tx.size<=1000000) (W:World) (hE:oS aP bJ W) (hr:W.cell? ⟨r,0,none⟩=some (.string tx)):Calls Tryz.prog 35 #[x.val,.pointer (some ⟨r,0,none⟩)] W (a5 (x.src.kind==5&&Lz.bd x.src.text==Lz.dm (bP aP bJ) x.src.bits tx.data.toList) W):=by
 obtain⟨k,t,b,sc,ho,wd,po,pa⟩:=x;obtain⟨V,hV⟩:∃V,V=W.alloc (.cells #[.int .i64 k,.string t,.int .i64 b,.string sc,.string ho,.bool wd,.int .i64 po,.string pa] 63):=⟨_,rfl⟩;have kc:Below W.heap.size W V:=by rw[hV];exact(Below.refl _ W).alloc (Nat.le_refl _) _
 have hB:V.heap[W.heap.size]? =some (.cells #[.int .i64 k,.string t,.int .i64 b,.string sc,.string ho,.bool wd,.int .i64 po,.string pa] 63 (0,0)):=by rw[hV];exact an _ _
 have HC:Hid (∀U,Below V.heap.size V U->((U.cell? ⟨W.heap.size,0,none⟩=some (.int .i64 k)/\U.cell? ⟨W.heap.size,1,none⟩=some (.string t)/\U.cell? ⟨W.heap.size,2,none⟩=some (.int .i64 b))/\U.cell? ⟨r,0,none⟩=some (.string tx))/\Below V.heap.size V U):=Ih (fun U hU=>by
  have AM:U.heap[W.heap.size]? =some (.cells #[.int .i64 k,.string t,.int .i64 b,.string sc,.string ho,.bool wd,.int .i64 po,.string pa] 63 (0,0)):=(hU.block _ (aZ hB)).trans hB;refine⟨⟨⟨rowAt AM 0 _ rfl,rowAt AM 1 _ rfl,rowAt AM 2 _ rfl⟩,?_⟩,hU⟩;have hl:=World.block_lt_of_cell? _ _ hr;rw[hU.cell (p:=⟨r,0,none⟩) (Nat.lt_of_lt_of_le hl kc.size),kc.cell (p:=⟨r,0,none⟩) hl];exact hr)
 have cP:Hid (∀U,Below V.heap.size V U->Calls Tryz.prog 36 #[.string t] U (dX (Lz.bd t.data.toList) U)):=Ih (fun U _=>rC t (by have:t.size<=1000000:=hx;omega) U);have cS:Hid (∀U,Below V.heap.size V U->Calls Tryz.prog 37 #[.int .i64 b,.string tx] U (dX (Lz.dm (bP aP bJ) b tx.data.toList) U)):=Ih (fun U hU=>Ma aP bJ b tx ht U ((hE.below kc).below hU))
 dsimp only[ah.val]
 have z0:=rowAt hB 0 (.int .i64 k) rfl;have HV:=Ih hV;clear hV hB hE hr hx ht;by_cases hk:k=5
 ·subst hk;have hC:=HC;clear z0;go_enter Tryz.func35,Tryz.ntmps35
  go_upto_region 1 with fail
  rw[<-HV.out];refine wp_region_held_drew (S:=fun U=>((U.cell? ⟨W.heap.size,0,none⟩=some (.int .i64 5)/\U.cell? ⟨W.heap.size,1,none⟩=some (.string t)/\U.cell? ⟨W.heap.size,2,none⟩=some (.int .i64 b))/\U.cell? ⟨r,0,none⟩=some (.string tx))/\Below V.heap.size V U) (by kernel_rfl) (hC.out _ (Below.refl _ V).drew) (fun af=>?_);generalize V.drew=W1 at af⊢;apply TkG 0 4;apply TkG 1 5;apply TkG 2 6;apply TkG 3 7
  iterate 4 (rotate_right 2;(·(intro W ar;(try dsimp only at ar);(try simp only[Act.put]);(try simp only[List.setIfInBounds_toArray]);(try simp only[List.set_cons_zero,List.set_cons_succ]);go_simp;try with_reducible rfl)))
  (try simp only[Act.put]);(try simp only[List.setIfInBounds_toArray]);(try simp only[List.set_cons_zero,List.set_cons_succ])
  apply TkG 4 8;apply TkG 5 9;apply TkG 7 11;apply TkG 8 12;apply TkG 9 13
  iterate 5 (rotate_right 2;(·(intro W ar;(try dsimp only at ar);(try simp only[Act.put]);(try simp only[List.setIfInBounds_toArray]);(try simp only[List.set_cons_zero,List.set_cons_succ]);go_simp;try with_reducible rfl)))
  (try simp only[Act.put]);(try simp only[List.setIfInBounds_toArray]);(try simp only[List.set_cons_zero,List.set_cons_succ])
  refine wpAnyH_ready (rs:=[6]) (by kernel_rfl) (by simp) ?_;refine AllReadyH.cons rfl (fun K hK=>?_) AllReadyH.nil;go_simp
  go_at_call 36
  refine(cP.out _ af.2).mono ?_;rintro e u1w ⟨u1,rfl,tP,bv⟩;have eM:=af.2.trans (bv.mono af.2.size);refine hK.out _ _ (hC.out _ eM) (fun af=>?_);clear hK K bv eM
  (try simp only[Act.put]);(try simp only[List.setIfInBounds_toArray]);(try simp only[List.set_cons_zero,List.set_cons_succ])
  refine wpAnyH_ready (rs:=[10]) (by kernel_rfl) (by simp) ?_;refine AllReadyH.cons rfl (fun K hK=>?_) AllReadyH.nil;go_simp
  go_at_call 37
  refine(cS.out _ af.2).mono ?_;rintro e u2w ⟨u2,rfl,qG,bv⟩;have eM:=af.2.trans (bv.mono af.2.size);refine hK.out _ _ (hC.out _ eM) (fun af=>?_);clear hK K bv eM
  (try simp only[Act.put]);(try simp only[List.setIfInBounds_toArray]);(try simp only[List.set_cons_zero,List.set_cons_succ])
  apply TkG 11 15
  iterate 1 (rotate_right 2;(·(intro W ar;(try dsimp only at ar);(try simp only[Act.put]);(try simp only[List.setIfInBounds_toArray]);(try simp only[List.set_cons_zero,List.set_cons_succ]);go_simp;try with_reducible rfl)))
  (try simp only[Act.put]);(try simp only[List.setIfInBounds_toArray]);(try simp only[List.set_cons_zero,List.set_cons_succ])
  apply TkG 12 16;apply TkG 13 3
  iterate 2 (rotate_right 2;(·(intro W ar;(try dsimp only at ar);(try simp only[Act.put]);(try simp only[List.setIfInBounds_toArray]);(try simp only[List.set_cons_zero,List.set_cons_succ]);go_simp;try with_reducible rfl)))
  (try simp only[Act.put]);(try simp only[List.setIfInBounds_toArray]);(try simp only[List.set_cons_zero,List.set_cons_succ])
  refine wpAnyH_done (by kernel_rfl) ?_ _
  go_wp2_with fail
  go_ret;refine⟨?_,ae kc af.2⟩;show Ending.returned (.bool (u1.toList==u2.toList))=.returned (.bool ((5:Int)==5&&Lz.bd t.data.toList==Lz.dm (bP aP bJ) b tx.data.toList));rw[qX,tP.out,qG.out];rfl
 ·have hd:decide (k=5)=false:=decide_eq_false hk;have DK:(k==5)=false:=by simpa using hk
  go_enter Tryz.func35,Tryz.ntmps35
  go_upto_region 1 with fail
  rw[<-HV.out]
  go_quiet (fail)
  go_wp2_with fail
  go_ret;refine⟨?_,below_drewN kc _⟩;show Ending.returned (.bool false)=.returned (.bool (k==5&&_));rw[DK];rfl
theorem zT {l:List (List UInt8)} (hZ:∀x,x∈l->x.length<=90000) {ys:List ah} (hy:ys.map ah.src=Lz.aM l) {x:ah} (hx:x∈ys):x.text.size<=90000:=by
 have hm:x.src∈Lz.aM l:=by rw[<-hy];exact List.mem_map.2 ⟨x,hx,rfl⟩
 unfold Lz.aM at hm;obtain⟨s,iz,GD⟩:=List.mem_filterMap.1 hm;rw[<-ac];exact(Lz.Yn s x.src 90000 GD (hZ s iz)).1.ftext
theorem yx (aP:List UInt32) (bJ:List UInt64) (v:Value) (l:List (List UInt8)) (tx:ByteArray) (ht:tx.size<=1000000) (w:World) (hE:oS aP bJ w) (h:bQ w v l):Calls Tryz.prog 15 #[v,.string tx] w (a5 (Lz.gl (Lz.dm (bP aP bJ)) l tx.data.toList) w):=by
 obtain⟨V,hV⟩:∃V,V=w.alloc (.cells #[.string tx] 9):=⟨_,rfl⟩;have kc:Below w.heap.size w V:=by rw[hV];exact(Below.refl _ w).alloc (Nat.le_refl _) _
 have hB:V.heap[w.heap.size]? =some (.cells #[.string tx] 9 (0,0)):=by rw[hV];exact an _ _
 have hc:=rowAt hB 0 (.string tx) rfl;have cL:=Ih ((h.below kc).list (hE.below kc).m.s);have cC:=Ih (fun(W:World) (sv:Value) (ys:List ah) (hW:Below V.heap.size V W) (hs:jd W sv ys) (hy:ys.map ah.src=Lz.aM l)=>fh sv ys 35 #[.pointer (some ⟨w.heap.size,0,none⟩)] (fun x=>x.src.kind==5&&Lz.bd x.src.text==Lz.dm (bP aP bJ) x.src.bits tx.data.toList) W Mi hs (h.ylen hy) (fun W2 x hx lp=>(Je aP bJ x (by have:=zT h.size hy hx;omega) w.heap.size tx ht W2 ((hE.below kc).below (hW.trans (lp.mono hW.size))) (by rw[(hW.trans (lp.mono hW.size)).cell (p:=⟨w.heap.size,0,none⟩) (aZ hB)];exact hc)).mono fun e w' ⟨h1,h2⟩=>⟨h1,lp.trans (h2.mono lp.size)⟩));have HV:=Ih hV
 have HQ:Hid (∀ys:List ah,ys.map ah.src=Lz.aM l->Lz.gl (Lz.dm (bP aP bJ)) l tx.data.toList=ys.any fun x=>x.src.kind==5&&Lz.bd x.src.text==Lz.dm (bP aP bJ) x.src.bits tx.data.toList):=by
  show ∀ys,_;intro ys hy;unfold Lz.gl;rw[<-hy,List.any_map];rfl
 clear hV hB hE h hc;go_enter Tryz.func15,Tryz.ntmps15
 go_upto_region 1 with fail
 rw[<-HV.out]
 go_wp2_with fail
 refine cL.out.mono ?_;rintro e w6 ⟨sv,ys,rfl,gY,wK,eM⟩;have KM:=bo.at wK
 go_wp2_with fail
 refine(cC.out w6 _ ys eM KM gY.out).mono ?_;rintro e w7 ⟨rfl,ll⟩
 go_wp2_with fail
 go_ret;exact⟨by rw[HQ.out ys gY.out];rfl,ae (ae kc eM) ll⟩
def It:ByteArray:=⟨#[117,110,115,97,102,101,45,104,97,115,104,101,115]⟩
theorem bQ.none {w:World} {v:Value} {l:List (List UInt8)} (h:bQ w v l):Calls Tryz.prog 26 #[v] w (a5 (Lz.eQ l) w):=J4 v l w h.at' (by have:=h.len;omega) (fun x hx=>by have:=h.size x hx;omega)
theorem sr (aP:List UInt32) (bJ:List UInt64) (kind:Int) (v:Value) (l:List (List UInt8)) (nn tx:ByteArray) (ht:tx.size<=1000000) (w:World) (hE:oS aP bJ w) (h:bQ w v l):Calls Tryz.prog 9 #[.int .i64 kind,v,.string nn,.string tx] w (a5 (Lz.cw (Lz.dm (bP aP bJ)) kind l nn.data.toList tx.data.toList) w):=by
 have cN:Hid (Calls Tryz.prog 26 #[v] w (a5 (Lz.eQ l) w)):=Ih h.none;have cA:Hid (∀V,Below w.heap.size w V->Calls Tryz.prog 11 #[.int .i64 kind,v] V (a5 (Lz.kA kind l) V)):=Ih (fun V hV=>Bq kind v l V (hE.below hV).m.s (h.below hV));have cZ:Hid (∀V,Below w.heap.size w V->Calls Tryz.prog 13 #[v,.string nn] V (a5 (Lz.dQ l nn.data.toList) V)):=Ih (fun V hV=>oM v l nn V (hE.below hV).m.s (h.below hV));have cL:Hid (∀V,Below w.heap.size w V->Calls Tryz.prog 28 #[v] V (BJ l V)):=Ih (fun V hV=>(h.below hV).list (hE.below hV).m.s);have cK:Hid (∀V sv (ys:List ah),jd V sv ys->ys.map ah.src=Lz.aM l->Calls Tryz.prog 27 #[sv,.string It] V (a5 (Lz.lc (Lz.aM l) Lz.fX) V)):=Ih (fun V sv ys hs hy=>by rw[<-hy];exact Aj sv ys It V hs (h.ylen hy));have cH:Hid (∀V,Below w.heap.size w V->Calls Tryz.prog 15 #[v,.string tx] V (a5 (Lz.gl (Lz.dm (bP aP bJ)) l tx.data.toList) V)):=Ih (fun V hV=>yx aP bJ v l tx ht V (hE.below hV) (h.below hV));obtain⟨R,hR⟩:∃R,R=Lz.cw (Lz.dm (bP aP bJ)) kind l nn.data.toList tx.data.toList:=⟨_,rfl⟩;rw[<-hR];unfold Lz.cw at hR;clear h hE
 generalize Lz.eQ l=qn at cN hR;generalize Lz.kA kind l=qa at cA hR;generalize Lz.dQ l nn.data.toList=qz at cZ hR;generalize Lz.lc (Lz.aM l) Lz.fX=qk at cK hR;generalize Lz.gl (Lz.dm (bP aP bJ)) l tx.data.toList=qh at cH hR;obtain⟨e0,he0⟩:∃e0,e0=Lz.vU kind:=⟨_,rfl⟩;rw[<-he0]at hR;have HR:=Ih hR;have HE0:Hid (e0=(kind==1||kind==4)):=Ih he0;clear hR he0;go_enter Tryz.func9,Tryz.ntmps9
 go_upto_region 1 with fail
 go_cut [9] (fun s wx=>s=.bool e0/\w=wx)
 case first=>
  by_cases h1:kind=1
  ·have HQ:Hid (e0=true):=by show _=_;rw[HE0.out,h1];rfl
   subst h1
   go_wp2_with fail
   go_meet;exact⟨by rw[HQ.out],rfl⟩
  ·go_wp2_with fail
   go_meet;exact⟨by rw[HE0.out],rfl⟩
 case rest=>
 obtain⟨rfl,rfl⟩:=hcut;by_cases tM:kind<1
 ·have HF:Hid (R=false):=by show _=_;rw[HR.out,if_pos (Or.inl tM)]
  go_wp2_with fail
  go_ret;exact⟨by rw[HF.out];rfl,Below.refl _ _⟩
 ·by_cases T9:5<kind
  ·have HF:Hid (R=false):=by show _=_;rw[HR.out,if_pos (Or.inr (Or.inl T9))]
   go_wp2_with fail
   go_ret;exact⟨by rw[HF.out];rfl,Below.refl _ _⟩
  ·cases qn with
   | true=>
     have HF:Hid (R=false):=by show _=_;rw[HR.out,if_pos (Or.inr (Or.inr rfl))]
     go_wp2_with fail
     refine cN.out.mono ?_;rintro e w1 ⟨rfl,av⟩
     go_wp2_with fail
     go_ret;exact⟨by rw[HF.out];rfl,av⟩
   | false=>
     have wM:Hid (R=if(qa||(e0&&qz))=true then true else(e0||qk)&&qh):=by
      show _=_;rw[HR.out,if_neg (by rintro(h|h|h);exact tM h;exact T9 h;cases h)]
     go_wp2_with fail
     refine cN.out.mono ?_;rintro e w1 ⟨rfl,av⟩
     go_wp2_with fail
     refine(cA.out w1 av).mono ?_;rintro e w2 ⟨rfl,aE⟩;replace aE:=ae av aE;cases qa with
     | true=>
       have HF:Hid (R=true):=by show _=_;rw[wM.out];rfl
       go_wp2_with fail
       go_ret;exact⟨by rw[HF.out];rfl,aE⟩
     | false=>
       cases e0 with
       | true=>
         go_wp2_with fail
         refine(cZ.out w2 aE).mono ?_;rintro e w3 ⟨rfl,bj⟩;replace bj:=ae aE bj;cases qz with
         | true=>
           have HF:Hid (R=true):=by show _=_;rw[wM.out];rfl
           go_wp2_with fail
           go_ret;exact⟨by rw[HF.out];rfl,bj⟩
         | false=>
           have HF:Hid (R=qh):=by show _=_;rw[wM.out];rfl
           go_wp2_with fail
           refine(cH.out w3 bj).mono ?_;rintro e w4 ⟨rfl,eB⟩
           go_wp2_with fail
           go_ret;exact⟨by rw[HF.out];rfl,ae bj eB⟩
       | false=>
         go_wp2_with fail
         refine(cL.out w2 aE).mono ?_;rintro e w3 ⟨sv,ys,rfl,gY,wK,bj⟩;replace bj:=ae aE bj;have KM:=bo.at wK
         go_wp2_with fail
         refine(cK.out w3 _ ys KM gY.out).mono ?_;rintro e w4 ⟨rfl,eB⟩;replace eB:=ae bj eB;cases qk with
         | true=>
           have HF:Hid (R=qh):=by show _=_;rw[wM.out];rfl
           go_wp2_with fail
           refine(cH.out w4 eB).mono ?_;rintro e w5 ⟨rfl,bv⟩
           go_wp2_with fail
           go_ret;exact⟨by rw[HF.out];rfl,ae eB bv⟩
         | false=>
           have HF:Hid (R=false):=by show _=_;rw[wM.out];rfl
           go_wp2_with fail
           go_ret;exact⟨by rw[HF.out];rfl,eB⟩
end Go.Proofs.YtibcmemcfjhgmaaGreatDoor
