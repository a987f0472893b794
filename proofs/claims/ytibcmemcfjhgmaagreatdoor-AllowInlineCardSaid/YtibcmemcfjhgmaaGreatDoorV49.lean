/-
  lazaretlaw27.great, AllowInline.
-/
import Derived.Test.YtibcmemcfjhgmaaGreatDoorV46
import Derived.Test.YtibcmemcfjhgmaaGreatDoorV48
set_option maxHeartbeats 8000000
set_option maxRecDepth 100000
namespace Go.Proofs.YtibcmemcfjhgmaaGreatDoor
open Go.RowKit
attribute [local go_sem ↓] Go.wp_at_zero Go.wp_at_succ
def rF (l:List (List UInt8)):Bool:=decide (20<l.length)||l.any fun x=>decide (200<x.length)
theorem Jb {l:List (List UInt8)} (h:rF l=false):l.length<=20/\∀x∈l,x.length<=200:=by
 unfold rF at h;rw[Bool.or_eq_false_iff]at h;refine⟨by have:=of_decide_eq_false h.1;omega,fun x hx=>?_⟩;have:=List.any_eq_false.1 h.2 x hx
 simp at this;omega
theorem Dc (v:Value) (l:List (List UInt8)) (w:World) (h:eY w v l):Calls Tryz.prog 7 #[v] w fun e w'=>e=.returned (.bool (rF l))/\w=w':=by
 obtain⟨a,c,xs,rfl,hl,hx⟩:=h;have jf:l.length=xs.length:=by rw[<-hl,List.length_map]
 obtain⟨R,hR⟩:∃R,R=rF l:=⟨_,rfl⟩;rw[<-hR];unfold rF at hR;obtain⟨n,hn⟩:∃n,n=xs.length:=⟨_,rfl⟩;rw[<-hn]at jf⊢;by_cases h20:20<n
 ·have acq:(20:Int)<(n:Int):=by omega
  have HV:Hid (R=true):=by show _=_;rw[hR,decide_eq_true (show 20<l.length by omega)];rfl
  clear hR hx hn jf hl;go_enter Tryz.func7,Tryz.ntmps7
  go_wp2_with fail
  go_ret;exact⟨by rw[HV.out];rfl,rfl⟩
 ·have acq:¬(20:Int)<(n:Int):=by omega
  rw[decide_eq_false (show ¬20<l.length by omega),Bool.false_or]at hR;have HR:=Ih hR;have Hx:=Ih hx;have HL:=Ih hl;have HN:=Ih hn;have HLL:=Ih jf;clear hR hx hn jf hl;go_enter Tryz.func7,Tryz.ntmps7
  go_wp2_with fail
  go_loopw [3] (fun i wr=>∃j:Nat,j<=n/\i=.int .i64 (j:Int)/\Hid ((l.take j).any (fun x=>decide (200<x.length))=false)/\w=wr) (fun i _=>n-(intOf i).toNat)
  case atStart=>exact⟨0,Nat.zero_le _,rfl,Ih (by simp),rfl⟩
  case round=>
   obtain⟨j,hj,rfl,hT,rfl⟩:=hrel;by_cases aL:j<n
   ·have aK:(j:Int)<(n:Int):=by omega
    have tI:(0:Int)<=(j:Int):=by omega
    obtain⟨x,hx⟩:∃x,xs[j]? =some x:=⟨_,List.getElem?_eq_getElem (by rw[<-HN.out];exact aL)⟩;have hy:l[j]? =some x.data.toList:=by rw[<-HL.out,List.getElem?_map,hx];rfl
    obtain⟨g,off,rfl,hg,hc⟩:=Hx.out j x hx;have hN:=Ih (qr (p:=fun x=>decide (200<x.length)) hT.out hy);have hA:=Ih (qt (p:=fun x=>decide (200<x.length)) hy);have AR:x.data.toList.length=x.size:=ac x;clear hx hy hT;by_cases hb:200<x.size
    ·have hbI:(200:Int)<(x.size:Int):=by omega
     have HV:Hid (R=true):=by show _=_;rw[HR.out];exact hA.out (decide_eq_true (by rw[AR];exact hb))
     clear hN hA AR
     go_wp2_with fail
     go_ret;exact⟨by rw[HV.out];rfl,rfl⟩
    ·have hbI:¬(200:Int)<(x.size:Int):=by omega
     have HS:Hid ((l.take (j+1)).any (fun x=>decide (200<x.length))=false):=by show _=_;rw[hN.out];exact decide_eq_false (by rw[AR];exact hb)
     clear hN hA AR
     go_wp2_with fail
     go_roundw
     case rel=>exact⟨j+1,by omega,by go_num,HS,by first |rfl|trivial⟩
     case measure=>simp[intOf];omega
   ·have aK:¬(j:Int)<(n:Int):=by omega
    have HV:Hid (R=false):=by
     show _=_;rw[HR.out,<-List.take_of_length_le (l:=l) (i:=j) (by rw[HLL.out];omega),hT.out]
    clear hT
    go_wp2_with fail
    go_ret;exact⟨by rw[HV.out];rfl,rfl⟩
theorem tc (kind:Int) (v:Value) (l:List (List UInt8)) (s t:ByteArray) (w:World) (i1:eY w v l) (hE:oS fO bC w):Calls Tryz.prog 3 #[.int .i64 kind,v,.agg #[.string s,.string t]] w (a5 true w):=by
 obtain⟨W,hW⟩:∃W,W=w.alloc (.cells #[.string s,.string t] 23):=⟨_,rfl⟩;have ja:Below w.heap.size w W:=by rw[hW];exact(Below.refl _ w).alloc (Nat.le_refl _) _
 have hB:W.heap[w.heap.size]? =some (.cells #[.string s,.string t] 23 (0,0)):=by rw[hW];exact an _ _
 have lW:=rowAt hB 0 (.string s) rfl;have iE:=rowAt hB 1 (.string t) rfl
 have hC:Hid (∀U,Below W.heap.size W U->(U.cell? ⟨w.heap.size,0,none⟩=some (.string s)/\U.cell? ⟨w.heap.size,1,none⟩=some (.string t))/\Below W.heap.size W U):=Ih (fun U hU=>by
  have AM:=(hU.block _ (aZ hB)).trans hB;exact⟨⟨rowAt AM 0 _ rfl,rowAt AM 1 _ rfl⟩,hU⟩)
 have cG:=Ih (Dc v l W (i1.below ja));have cT:Hid (∀U,Below W.heap.size W U->Calls Tryz.prog 8 #[] U (a5 true U)):=Ih (fun U hU=>FR fO bC U ((hE.below ja).below hU));have Si:Below W.heap.size W W:=Below.refl _ _;obtain⟨gq,hgq⟩:∃q,q=rF l:=⟨_,rfl⟩;rw[<-hgq]at cG;have HGQ:=Ih hgq;have HW:=Ih hW;have HE:=Ih hE;have HI:=Ih i1;clear hW hB hgq hE i1;cases gq with
 | true=>
   go_enter Tryz.func3,Tryz.ntmps3
   go_upto_region 1 with fail
   rw[<-HW.out]
   go_wp2_with fail
   refine cG.out.mono ?_;rintro e w1 ⟨rfl,rfl⟩
   go_wp2_with fail
   refine(cT.out W Si).mono ?_;rintro e w2 ⟨rfl,aE⟩
   go_wp2_with fail
   go_ret;exact⟨rfl,ae ja aE⟩
 | false=>
   by_cases hs:300<s.size
   ·have hsI:(300:Int)<(s.size:Int):=by omega
    go_enter Tryz.func3,Tryz.ntmps3
    go_upto_region 1 with fail
    rw[<-HW.out]
    go_wp2_with fail
    refine cG.out.mono ?_;rintro e w1 ⟨rfl,rfl⟩
    go_wp2_with fail
    refine(cT.out W Si).mono ?_;rintro e w2 ⟨rfl,aE⟩
    go_wp2_with fail
    go_ret;exact⟨rfl,ae ja aE⟩
   ·have hsI:¬(300:Int)<(s.size:Int):=by omega
    by_cases ht:2000<t.size
    ·have htI:(2000:Int)<(t.size:Int):=by omega
     go_enter Tryz.func3,Tryz.ntmps3
     go_upto_region 1 with fail
     rw[<-HW.out]
     go_wp2_with fail
     refine cG.out.mono ?_;rintro e w1 ⟨rfl,rfl⟩
     go_wp2_with fail
     refine(cT.out W Si).mono ?_;rintro e w2 ⟨rfl,aE⟩
     go_wp2_with fail
     go_ret;exact⟨rfl,ae ja aE⟩
    ·have htI:¬(2000:Int)<(t.size:Int):=by omega
     obtain⟨hn,hz⟩:=Jb HGQ.out.symm;have Sw:Hid (∀U,Below W.heap.size W U->bQ U v l):=Ih (fun U hU=>⟨(HI.out.below ja).below hU,by omega,fun x hx=>by have:=hz x hx;omega⟩);have Sc:Hid (∀U,Below W.heap.size W U->oS fO bC U):=Ih (fun U hU=>(HE.out.below ja).below hU);obtain⟨r1,i9⟩:∃r,r=Lz.cw (Lz.dm (bP fO bC)) kind l s.data.toList t.data.toList:=⟨_,rfl⟩;obtain⟨r2,iG⟩:∃r,r=Lz.kA kind l:=⟨_,rfl⟩;obtain⟨r3,pB⟩:∃r,r=Lz.dQ l s.data.toList:=⟨_,rfl⟩;obtain⟨r4,AK⟩:∃r,r=Lz.gl (Lz.dm (bP fO bC)) l t.data.toList:=⟨_,rfl⟩;have cI1:Hid (∀U,Below W.heap.size W U->Calls Tryz.prog 9 #[.int .i64 kind,v,.string s,.string t] U (a5 r1 U)):=Ih (fun U hU=>by rw[i9];exact sr fO bC kind v l s t (by omega) U (Sc.out U hU) (Sw.out U hU));have cI2:Hid (∀U,Below W.heap.size W U->Calls Tryz.prog 10 #[.int .i64 kind,v,.string s,.string t] U (a5 r1 U)):=Ih (fun U hU=>by rw[i9];exact zq kind v l s t (by omega) U (Sc.out U hU).m.s (Sw.out U hU))
     have WG:Hid (∀U,Below W.heap.size W U->Calls Tryz.prog 11 #[.int .i64 kind,v] U (a5 r2 U)):=Ih (fun U hU=>by rw[iG];exact Bq kind v l U (Sc.out U hU).m.s (Sw.out U hU));have cA2:Hid (∀U,Below W.heap.size W U->Calls Tryz.prog 12 #[.int .i64 kind,v] U (a5 r2 U)):=Ih (fun U hU=>by rw[iG];exact yh kind v l U (Sc.out U hU).m.s (Sw.out U hU));have cN1:Hid (∀U,Below W.heap.size W U->Calls Tryz.prog 13 #[v,.string s] U (a5 r3 U)):=Ih (fun U hU=>by rw[pB];exact oM v l s U (Sc.out U hU).m.s (Sw.out U hU));have cN2:Hid (∀U,Below W.heap.size W U->Calls Tryz.prog 14 #[v,.string s] U (a5 r3 U)):=Ih (fun U hU=>by rw[pB];exact rV v l s U (Sc.out U hU).m.s (Sw.out U hU));have cH1:Hid (∀U,Below W.heap.size W U->Calls Tryz.prog 15 #[v,.string t] U (a5 r4 U)):=Ih (fun U hU=>by rw[AK];exact yx fO bC v l t (by omega) U (Sc.out U hU) (Sw.out U hU));have cH2:Hid (∀U,Below W.heap.size W U->Calls Tryz.prog 16 #[v,.string t] U (a5 r4 U)):=Ih (fun U hU=>by rw[AK];exact ya v l t (by omega) U (Sc.out U hU).m.s (Sw.out U hU));clear i9 iG pB AK Sw Sc HE HI HGQ hz hn
     have Xa:Below W.heap.size W W:=Below.refl _ _;go_enter Tryz.func3,Tryz.ntmps3
     go_upto_region 1 with fail
     rw[<-HW.out]
     go_wp2_with fail
     refine cG.out.mono ?_;rintro e w1 ⟨rfl,rfl⟩;obtain⟨W1,wE⟩:∃W1,W1=W:=⟨_,rfl⟩;have HW1:=Ih wE
     go_upto_region 3 with fail
     rw[<-wE];rw[<-wE]at Xa;have Xa:Below W.heap.size W W1:=by rw[HW1.out];exact Si
     clear wE lW iE;refine wp_region_held_drew (S:=fun U=>(U.cell? ⟨w.heap.size,0,none⟩=some (.string s)/\U.cell? ⟨w.heap.size,1,none⟩=some (.string t))/\Below W.heap.size W U) (by kernel_rfl) (hC.out _ Xa.drew) (fun af=>?_);generalize W1.drew=W2 at af⊢;apply TkG 0 26;apply TkG 1 27;apply TkG 2 28;apply TkG 3 29;apply TkG 4 30;apply TkG 5 31;apply TkG 7 33;apply TkG 8 34;apply TkG 9 35;apply TkG 10 36;apply TkG 11 37;apply TkG 12 38
     iterate 12 (rotate_right 2;(·(intro W ar;(try dsimp only at ar);(try simp only[Act.put]);(try simp only[List.setIfInBounds_toArray]);(try simp only[List.set_cons_zero,List.set_cons_succ]);go_simp;try with_reducible rfl)))
     (try simp only[Act.put]);(try simp only[List.setIfInBounds_toArray]);(try simp only[List.set_cons_zero,List.set_cons_succ])
     refine wpAnyH_ready (rs:=[6]) (by kernel_rfl) (by simp) ?_;refine AllReadyH.cons rfl (fun K hK=>?_) AllReadyH.nil;go_simp
     go_at_call 9
     refine(cI1.out _ af.2).mono ?_;rintro e w5 ⟨rfl,bv⟩;have eM:=af.2.trans (bv.mono af.2.size);refine hK.out _ _ (hC.out _ eM) (fun af=>?_);clear hK K bv eM
     (try simp only[Act.put]);(try simp only[List.setIfInBounds_toArray]);(try simp only[List.set_cons_zero,List.set_cons_succ])
     refine wpAnyH_ready (rs:=[13]) (by kernel_rfl) (by simp) ?_;refine AllReadyH.cons rfl (fun K hK=>?_) AllReadyH.nil;go_simp
     go_at_call 10
     refine(cI2.out _ af.2).mono ?_;rintro e w5 ⟨rfl,bv⟩;have eM:=af.2.trans (bv.mono af.2.size);refine hK.out _ _ (hC.out _ eM) (fun af=>?_);clear hK K bv eM
     (try simp only[Act.put]);(try simp only[List.setIfInBounds_toArray]);(try simp only[List.set_cons_zero,List.set_cons_succ])
     apply TkG 14 40;apply TkG 15 7
     iterate 2 (rotate_right 2;(·(intro W ar;(try dsimp only at ar);(try simp only[Act.put]);(try simp only[List.setIfInBounds_toArray]);(try simp only[List.set_cons_zero,List.set_cons_succ]);go_simp;try with_reducible rfl)))
     (try simp only[Act.put]);(try simp only[List.setIfInBounds_toArray]);(try simp only[List.set_cons_zero,List.set_cons_succ])
     refine wpAnyH_done (by kernel_rfl) ?_ _;have Gx:=af.2;clear af
     go_wp2_with fail
     refine(WG.out _ Gx).mono ?_;rintro e w3 ⟨rfl,bj⟩;have gw:=ae Gx bj
     go_wp2_with fail
     refine(cA2.out _ gw).mono ?_;rintro e W3 ⟨rfl,eB⟩;have aby:=ae gw eB
     go_upto_region 5 with fail
     refine wp_region_held_drew (S:=fun U=>(U.cell? ⟨w.heap.size,0,none⟩=some (.string s)/\U.cell? ⟨w.heap.size,1,none⟩=some (.string t))/\Below W.heap.size W U) (by kernel_rfl) (hC.out _ aby.drew) (fun af=>?_);generalize W3.drew=W4 at af⊢;apply TkG 0 48;apply TkG 1 49;apply TkG 2 50;apply TkG 4 52;apply TkG 5 53;apply TkG 6 54
     iterate 6 (rotate_right 2;(·(intro W ar;(try dsimp only at ar);(try simp only[Act.put]);(try simp only[List.setIfInBounds_toArray]);(try simp only[List.set_cons_zero,List.set_cons_succ]);go_simp;try with_reducible rfl)))
     (try simp only[Act.put]);(try simp only[List.setIfInBounds_toArray]);(try simp only[List.set_cons_zero,List.set_cons_succ])
     refine wpAnyH_ready (rs:=[3]) (by kernel_rfl) (by simp) ?_;refine AllReadyH.cons rfl (fun K hK=>?_) AllReadyH.nil;go_simp
     go_at_call 13
     refine(cN1.out _ af.2).mono ?_;rintro e w5 ⟨rfl,bv⟩;have eM:=af.2.trans (bv.mono af.2.size);refine hK.out _ _ (hC.out _ eM) (fun af=>?_);clear hK K bv eM
     (try simp only[Act.put]);(try simp only[List.setIfInBounds_toArray]);(try simp only[List.set_cons_zero,List.set_cons_succ])
     refine wpAnyH_ready (rs:=[7]) (by kernel_rfl) (by simp) ?_;refine AllReadyH.cons rfl (fun K hK=>?_) AllReadyH.nil;go_simp
     go_at_call 14
     refine(cN2.out _ af.2).mono ?_;rintro e w5 ⟨rfl,bv⟩;have eM:=af.2.trans (bv.mono af.2.size);refine hK.out _ _ (hC.out _ eM) (fun af=>?_);clear hK K bv eM
     (try simp only[Act.put]);(try simp only[List.setIfInBounds_toArray]);(try simp only[List.set_cons_zero,List.set_cons_succ])
     apply TkG 8 56;apply TkG 9 9
     iterate 2 (rotate_right 2;(·(intro W ar;(try dsimp only at ar);(try simp only[Act.put]);(try simp only[List.setIfInBounds_toArray]);(try simp only[List.set_cons_zero,List.set_cons_succ]);go_simp;try with_reducible rfl)))
     (try simp only[Act.put]);(try simp only[List.setIfInBounds_toArray]);(try simp only[List.set_cons_zero,List.set_cons_succ])
     refine wpAnyH_done (by kernel_rfl) ?_ _;have acr:=af.2;clear af
     go_upto_region 6 with fail
     refine wp_region_held_drew (S:=fun U=>(U.cell? ⟨w.heap.size,0,none⟩=some (.string s)/\U.cell? ⟨w.heap.size,1,none⟩=some (.string t))/\Below W.heap.size W U) (by kernel_rfl) (hC.out _ acr.drew) (fun af=>?_);generalize W4.drew=W5 at af⊢;apply TkG 0 57;apply TkG 1 58;apply TkG 2 59;apply TkG 4 61;apply TkG 5 62;apply TkG 6 63
     iterate 6 (rotate_right 2;(·(intro W ar;(try dsimp only at ar);(try simp only[Act.put]);(try simp only[List.setIfInBounds_toArray]);(try simp only[List.set_cons_zero,List.set_cons_succ]);go_simp;try with_reducible rfl)))
     (try simp only[Act.put]);(try simp only[List.setIfInBounds_toArray]);(try simp only[List.set_cons_zero,List.set_cons_succ])
     refine wpAnyH_ready (rs:=[3]) (by kernel_rfl) (by simp) ?_;refine AllReadyH.cons rfl (fun K hK=>?_) AllReadyH.nil;go_simp
     go_at_call 15
     refine(cH1.out _ af.2).mono ?_;rintro e w5 ⟨rfl,bv⟩;have eM:=af.2.trans (bv.mono af.2.size);refine hK.out _ _ (hC.out _ eM) (fun af=>?_);clear hK K bv eM
     (try simp only[Act.put]);(try simp only[List.setIfInBounds_toArray]);(try simp only[List.set_cons_zero,List.set_cons_succ])
     refine wpAnyH_ready (rs:=[7]) (by kernel_rfl) (by simp) ?_;refine AllReadyH.cons rfl (fun K hK=>?_) AllReadyH.nil;go_simp
     go_at_call 16
     refine(cH2.out _ af.2).mono ?_;rintro e w5 ⟨rfl,bv⟩;have eM:=af.2.trans (bv.mono af.2.size);refine hK.out _ _ (hC.out _ eM) (fun af=>?_);clear hK K bv eM
     (try simp only[Act.put]);(try simp only[List.setIfInBounds_toArray]);(try simp only[List.set_cons_zero,List.set_cons_succ])
     apply TkG 8 65;apply TkG 9 10
     iterate 2 (rotate_right 2;(·(intro W ar;(try dsimp only at ar);(try simp only[Act.put]);(try simp only[List.setIfInBounds_toArray]);(try simp only[List.set_cons_zero,List.set_cons_succ]);go_simp;try with_reducible rfl)))
     (try simp only[Act.put]);(try simp only[List.setIfInBounds_toArray]);(try simp only[List.set_cons_zero,List.set_cons_succ])
     refine wpAnyH_done (by kernel_rfl) ?_ _;have OV:=af.2;clear af
     go_wp2_with fail
     refine(cT.out _ OV).mono ?_;rintro e w9 ⟨rfl,IJ⟩
     go_wp2_with fail
     go_ret;exact⟨rfl,ae ja (ae OV IJ)⟩
end Go.Proofs.YtibcmemcfjhgmaaGreatDoor
