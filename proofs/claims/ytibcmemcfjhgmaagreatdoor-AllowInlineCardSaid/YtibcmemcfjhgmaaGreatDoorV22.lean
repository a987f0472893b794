/-
  Package longs: hash.with.
-/
import Derived.Test.YtibcmemcfjhgmaaGreatDoorV18
import Derived.Test.YtibcmemcfjhgmaaGreatDoorV14
set_option maxHeartbeats 8000000
set_option maxRecDepth 100000
namespace Go.Proofs.YtibcmemcfjhgmaaGreatDoor
open Go.RowKit
def dG (l:List UInt64):List Value:=l.map fun x=>.int .u64 (N64 x)
theorem NS (l:List UInt64):(dG l).toArray.all (·.oneCell')=true:=by
 rw[List.all_toArray,List.all_eq_true];intro v hv;unfold dG at hv;obtain⟨x,_,rfl⟩:=List.mem_map.1 hv;rfl
def u9 (aP:List UInt64) (w:World):Prop:=4<w.heap.size/\∀i,i<80->w.cell? ⟨4,i,none⟩=some (.int .u64 (N64 (aP.getD i 0)))
theorem u9.keep {aP:List UInt64} {w w':World} (h:u9 aP w) (hb:Below w.heap.size w w'):u9 aP w':=⟨Nat.lt_of_lt_of_le h.1 hb.size,fun i hi=>by rw[hb.cell h.1];exact h.2 i hi⟩
def yD:List UInt64:=[0,0,0,0,0,0,0,0]
theorem nT:(Tryz.prog.info? 133).map (·.size)=some 8:=by kernel_rfl
structure ib (H H1 H2:Nat) (h:Lz.St8 UInt64) (l:List UInt64) (w:World):Prop where
 own:w.heap[H]? =some (.cells (dG h.list).toArray 133 (0,0))
 out:w.heap[H1]? =some (.cells (dG yD).toArray 133 (0,0))
 ring:w.heap[H2]? =some (.cells (dG l).toArray 235 (0,0))
 ne:H≠H2/\H1≠H2
theorem ib.drew {H H1 H2:Nat} {h:Lz.St8 UInt64} {l:List UInt64} {w:World} (k:ib H H1 H2 h l w):ib H H1 H2 h l w.drew:=⟨k.own,k.out,k.ring,k.ne⟩
theorem Pz {H:Nat} {l:List UInt64} {T:TypeId} {w:World} (h:w.heap[H]? =some (.cells (dG l).toArray T (0,0))) (j:Nat) (hj:j<l.length):w.cell? ⟨H,j,none⟩=some (.int .u64 (N64 (l.getD j 0))):=by
 refine rowAt h j _ ?_;rw[List.getElem?_toArray];unfold dG;rw[List.getElem?_map,List.getD_eq_getElem?_getD,List.getElem?_eq_getElem hj];rfl
theorem ib.open {H H1 H2:Nat} {h:Lz.St8 UInt64} {l:List UInt64} {w:World} (k:ib H H1 H2 h l w) (j:Nat) (hj:j<l.length):w.cell? ⟨H2,j,none⟩=some (.int .u64 (N64 (l.getD j 0)))/\w.frozen? ⟨H2,j,none⟩=false:=by
 refine⟨Pz k.ring j hj,?_⟩;have:=k.ring
 simp[World.frozen?,this]
theorem ib.set {H H1 H2:Nat} {h:Lz.St8 UInt64} {l:List UInt64} {w:World} (k:ib H H1 H2 h l w) (j:Nat) (x:UInt64):ib H H1 H2 h (l.set j x) (w.setCell ⟨H2,j,none⟩ (.int .u64 (N64 x))):=by
 refine⟨?_,?_,?_,k.ne⟩
 ·rw[heap_setCell_other _ _ _ _ _ k.ne.1];exact k.own
 ·rw[heap_setCell_other _ _ _ _ _ k.ne.2];exact k.out
 ·rw[cu k.ring j];unfold dG;rw[List.setIfInBounds_toArray,List.map_set]
theorem jA {H j k:Nat} (h:j≠k):(⟨H,k,none⟩:Addr)≠⟨H,j,none⟩:=fun e=>h (by injection e with _ e;exact e.symm)
theorem CW (w:World) (h:Lz.St8 UInt64):ib w.heap.size (w.heap.size+1) (w.heap.size+1+1) h (List.replicate 16 0) (((w.alloc (.cells (dG h.list).toArray 133)).alloc (.cells (dG yD).toArray 133)).alloc (.cells (dG (List.replicate 16 0)).toArray 235)):=by
 refine⟨?_,?_,?_,by omega,by omega⟩
 ·rw[Below.heap_alloc _ _ _ (by simp;omega),Below.heap_alloc _ _ _ (by simp)];exact an _ _
 ·rw[Below.heap_alloc _ _ _ (by simp)];exact lg _ _ _
 ·have:=an ((w.alloc (.cells (dG h.list).toArray 133)).alloc (.cells (dG yD).toArray 133)) (.cells (dG (List.replicate 16 0)).toArray 235);simpa using this
theorem Kq (b:List UInt8) (i:Nat) (h:i<16):Lz.bt b (i+1)=(Lz.bt b i).set i (Lz.gG b i 8):=by
 rw[Lz.bt,if_pos h,Nat.mod_eq_of_lt h]
theorem NO (aP:List UInt64) (h:Lz.St8 UInt64) (b:ByteArray) (pF:b.size=128) (w:World) (hT:u9 aP w):Calls Tryz.prog 140 #[.agg (dG h.list).toArray,.string b] w fun e w'=>e=.returned (.agg (dG (Lz.kH aP h b.data.toList).list).toArray)/\Below w.heap.size w w':=by
 have HT:=Ih hT;have hB0:Below w.heap.size w (((w.alloc (.cells (dG h.list).toArray 133)).alloc (.cells (dG yD).toArray 133)).alloc (.cells (dG (List.replicate 16 0)).toArray 235)):=(((Below.refl _ w).alloc (Nat.le_refl _) _).alloc (by simp) _).alloc (by simp;omega) _;have hR:=CW w h;have HS:=Ih pF;clear hT pF;have cW:Hid (∀(s:ByteArray) (i:Nat) W,8<=s.size->s.size<=1073741824->s.data.toList=b.data.toList.drop (8*i)->Calls Tryz.prog 198 #[.string s] W fun e w'=>e=.returned (.int .u64 (N64 (Lz.gG b.data.toList i 8)))/\W=w'):=Ih (fun s i W h1 h2 h3=>FF s h1 h2 b.data.toList i h3 W);obtain⟨l,hl⟩:∃l,l=b.data.toList:=⟨_,rfl⟩;rw[<-hl]at cW⊢;have HL:=Ih hl;clear hl;obtain⟨L,hL⟩:∃L:List UInt64,L=List.replicate 16 0:=⟨_,rfl⟩;obtain⟨W,hW⟩:∃W,W=(((w.alloc (.cells (dG h.list).toArray 133)).alloc (.cells (dG yD).toArray 133)).alloc (.cells (dG (List.replicate 16 0)).toArray 235)):=⟨_,rfl⟩;rw[<-hW]at hR hB0;rw[<-hL]at hR;have HLL:=Ih hL;have HW:=Ih hW;clear hW hL;have AH:w.heap.size<=w.heap.size+1:=by omega
 have DG:w.heap.size<=w.heap.size+1+1:=by omega
 obtain⟨ha,hb,hc,hd,he,hf,hg,hz⟩:=h;have hB:=hB0;clear hB0;go_enter Tryz.func140,Tryz.ntmps140
 go_upto_region 2 with fail
 change Code.wp _ _ _ _ (((w.alloc (.cells (dG (Lz.St8.mk ha hb hc hd he hf hg hz).list).toArray 133)).alloc (.cells (dG yD).toArray 133)).alloc (.cells (dG (List.replicate 16 0)).toArray 235));rw[<-HW.out];clear HW;generalize w.heap.size+1+1=H2 at hR DG⊢;generalize w.heap.size+1=H1 at hR AH⊢;have hC:Hid (∀V,ib w.heap.size H1 H2 ⟨ha,hb,hc,hd,he,hf,hg,hz⟩ L V->Below w.heap.size w V->((V.cell? ⟨w.heap.size,0,none⟩=some (.int .u64 (N64 ha))/\V.cell? ⟨w.heap.size,1,none⟩=some (.int .u64 (N64 hb))/\V.cell? ⟨w.heap.size,2,none⟩=some (.int .u64 (N64 hc))/\V.cell? ⟨w.heap.size,3,none⟩=some (.int .u64 (N64 hd))/\V.cell? ⟨w.heap.size,4,none⟩=some (.int .u64 (N64 he))/\V.cell? ⟨w.heap.size,5,none⟩=some (.int .u64 (N64 hf))/\V.cell? ⟨w.heap.size,6,none⟩=some (.int .u64 (N64 hg))/\V.cell? ⟨w.heap.size,7,none⟩=some (.int .u64 (N64 hz))))/\ib w.heap.size H1 H2 ⟨ha,hb,hc,hd,he,hf,hg,hz⟩ L V/\Below w.heap.size w V):=Ih (fun V hV hb=>⟨⟨rowAt hV.own 0 _ rfl,rowAt hV.own 1 _ rfl,rowAt hV.own 2 _ rfl,rowAt hV.own 3 _ rfl,rowAt hV.own 4 _ rfl,rowAt hV.own 5 _ rfl,rowAt hV.own 6 _ rfl,rowAt hV.own 7 _ rfl⟩,hV,hb⟩)
 refine wp_region_held_drew (S:=fun V=>(V.cell? ⟨w.heap.size,0,none⟩=some (.int .u64 (N64 ha))/\V.cell? ⟨w.heap.size,1,none⟩=some (.int .u64 (N64 hb))/\V.cell? ⟨w.heap.size,2,none⟩=some (.int .u64 (N64 hc))/\V.cell? ⟨w.heap.size,3,none⟩=some (.int .u64 (N64 hd))/\V.cell? ⟨w.heap.size,4,none⟩=some (.int .u64 (N64 he))/\V.cell? ⟨w.heap.size,5,none⟩=some (.int .u64 (N64 hf))/\V.cell? ⟨w.heap.size,6,none⟩=some (.int .u64 (N64 hg))/\V.cell? ⟨w.heap.size,7,none⟩=some (.int .u64 (N64 hz)))/\ib w.heap.size H1 H2 ⟨ha,hb,hc,hd,he,hf,hg,hz⟩ L V/\Below w.heap.size w V) (by kernel_rfl) (hC.out _ hR.drew hB.drew) (fun af=>?_);generalize W.drew=W0 at af⊢;apply TkG 0 18;apply TkG 1 19;apply TkG 2 20;apply TkG 3 21;apply TkG 4 22;apply TkG 5 23;apply TkG 6 24;apply TkG 7 25;apply TkG 8 26
 apply TkG 9 27;apply TkG 10 28;apply TkG 11 29;apply TkG 12 30;apply TkG 13 31;apply TkG 14 32;apply TkG 15 33;apply TkG 16 6;apply TkG 17 7;apply TkG 18 8;apply TkG 19 9;apply TkG 20 10;apply TkG 21 11;apply TkG 22 12;apply TkG 23 13
 iterate 24 (rotate_right 2;(·(intro W ar;(try dsimp only at ar);(try simp only[Act.put]);(try simp only[List.setIfInBounds_toArray]);(try simp only[List.set_cons_zero,List.set_cons_succ]);go_simp;try with_reducible rfl)))
 (try simp only[Act.put]);(try simp only[List.setIfInBounds_toArray]);(try simp only[List.set_cons_zero,List.set_cons_succ])
 refine wpAnyH_done (by kernel_rfl) ?_ _;obtain⟨hR,hB⟩:=af.2;clear af;clear hC;have hR:ib w.heap.size H1 H2 ⟨ha,hb,hc,hd,he,hf,hg,hz⟩ (Lz.bt l 0) W0:=by rw[HLL.out]at hR;exact hR
 clear HLL
 go_wp2_with fail
 go_loopw [6,7,8,9,10,11,12,13,14,15,16,17,34] (fun va vb vc vd ve vf vg vz _ _ _ _ k wr=>∃(i:Nat) (sa sb sc sd se sf sg sz:UInt64),k=.int .i64 i/\va=.int .u64 (N64 sa)/\vb=.int .u64 (N64 sb)/\vc=.int .u64 (N64 sc)/\vd=.int .u64 (N64 sd)/\ve=.int .u64 (N64 se)/\vf=.int .u64 (N64 sf)/\vg=.int .u64 (N64 sg)/\vz=.int .u64 (N64 sz)/\i<=80/\Hid (Lz.i7 aP l ⟨ha,hb,hc,hd,he,hf,hg,hz⟩ i=⟨sa,sb,sc,sd,se,sf,sg,sz⟩)/\ib w.heap.size H1 H2 ⟨ha,hb,hc,hd,he,hf,hg,hz⟩ (Lz.bt l i) wr/\Below w.heap.size w wr) (fun _ _ _ _ _ _ _ _ _ _ _ _ k _=>80-(intOf k).toNat)
 case atStart=>exact⟨0,ha,hb,hc,hd,he,hf,hg,hz,rfl,rfl,rfl,rfl,rfl,rfl,rfl,rfl,rfl,by omega,rfl,hR,hB⟩
 case round=>
  obtain⟨i,sa,sb,sc,sd,se,sf,sg,sz,rfl,rfl,rfl,rfl,rfl,rfl,rfl,rfl,rfl,hi,HQ,hR,hB⟩:=hrel;by_cases aL:i<80
  ·have aK:(i:Int)<80:=by omega
   obtain⟨m0,wF⟩:∃m,m=i%16:=⟨_,rfl⟩;have SH:m0<16:=by omega
   have acZ:(i:Int)%16=(m0:Int):=by omega
   have b0:(0:Int)<=(m0:Int)/\(m0:Int)<16:=by omega
   have j6:(0:Int)<=(i:Int)/\(i:Int)<80:=by omega
   have XJ:=Ih wF;clear wF
   go_upto_if 40 with fail
   go_cut [15] (fun s wx=>s=.int .i64 (m0:Int)/\ib w.heap.size H1 H2 ⟨ha,hb,hc,hd,he,hf,hg,hz⟩ (Lz.bt l (i+1)) wx/\Below w.heap.size w wx)
   case first=>
    by_cases tN:i<16
    ·have DL:(i:Int)<16:=by omega
     have hmi:m0=i:=by rw[XJ.out];omega
     have HN:Hid (Lz.bt l (i+1)=(Lz.bt l i).set m0 (Lz.gG l i 8)):=by
      show _=_;rw[Kq _ _ tN,hmi]
     clear hmi;obtain⟨j,hj⟩:∃j,j=8*i:=⟨_,rfl⟩;have w8:IntKind.i64.wrap (8*(i:Int))=(j:Int):=by rw[show 8*(i:Int)=(j:Int) by omega];exact IntWalk.i64_in _ (by omega)
     have R3:(b.size:Int)=128:=by rw[HS.out];rfl
     have Uj:(0:Int)<=(j:Int)/\(j:Int)<=128:=by omega
     have KX:(b.extract j b.size).size=128-j:=by rw[ByteArray.size_extract,HS.out];omega
     have cW1:=Ih (fun W=>cW.out (b.extract j b.size) i W (by rw[KX];omega) (by rw[KX];omega) (by rw[HL.out,<-hj,HS.out];simp[ByteArray.data_extract];rw[List.take_of_length_le (by rw[List.length_drop,ac,HS.out];exact Nat.le_refl _)]));obtain⟨bH,mo⟩:=hR.open m0 (by rw[Lz.fJ];exact SH);have Oe:=hR.set m0 (Lz.gG l i 8);have hBs:=hB.setCell (p:=⟨H2,m0,none⟩) DG (.int .u64 (N64 (Lz.gG l i 8)));rw[<-HN.out]at Oe;clear hj KX
     go_wp2_with fail
     refine(cW1.out _).mono ?_;rintro e w5 ⟨rfl,rfl⟩
     go_wp2_with fail
     go_meet;exact⟨rfl,Oe,hBs⟩
    ·have DL:¬(i:Int)<16:=by omega
     obtain⟨j1,Uj⟩:∃j,j=i+1:=⟨_,rfl⟩;obtain⟨m1,Ax⟩:∃m,m=j1%16:=⟨_,rfl⟩;have w1:IntKind.i64.wrap ((i:Int)+1)=(j1:Int):=by rw[show(i:Int)+1=(j1:Int) by omega];exact IntWalk.i64_in _ (by omega)
     have r1:Int.tmod (j1:Int) 16=(m1:Int):=by rw[Int.tmod_eq_emod_of_nonneg (by omega)];omega
     have b1:(0:Int)<=(m1:Int)/\(m1:Int)<16:=by omega
     have l1:m1<(Lz.bt l i).length:=by rw[Lz.fJ];omega
     have ne1:m1≠m0:=by have:=XJ.out;omega
     obtain⟨x1,it⟩:∃x,x=(Lz.bt l i).getD m1 0:=⟨_,rfl⟩;obtain⟨j9,hj9⟩:∃j,j=i+9:=⟨_,rfl⟩;obtain⟨m9,XI⟩:∃m,m=j9%16:=⟨_,rfl⟩;have w9:IntKind.i64.wrap ((i:Int)+9)=(j9:Int):=by rw[show(i:Int)+9=(j9:Int) by omega];exact IntWalk.i64_in _ (by omega)
     have r9:Int.tmod (j9:Int) 16=(m9:Int):=by rw[Int.tmod_eq_emod_of_nonneg (by omega)];omega
     have b9:(0:Int)<=(m9:Int)/\(m9:Int)<16:=by omega
     have l9:m9<(Lz.bt l i).length:=by rw[Lz.fJ];omega
     have ne9:m9≠m0:=by have:=XJ.out;omega
     obtain⟨x9,R4⟩:∃x,x=(Lz.bt l i).getD m9 0:=⟨_,rfl⟩;obtain⟨j14,aav⟩:∃j,j=i+14:=⟨_,rfl⟩;obtain⟨R0,Sm⟩:∃m,m=j14%16:=⟨_,rfl⟩;have w14:IntKind.i64.wrap ((i:Int)+14)=(j14:Int):=by rw[show(i:Int)+14=(j14:Int) by omega];exact IntWalk.i64_in _ (by omega)
     have r14:Int.tmod (j14:Int) 16=(R0:Int):=by rw[Int.tmod_eq_emod_of_nonneg (by omega)];omega
     have b14:(0:Int)<=(R0:Int)/\(R0:Int)<16:=by omega
     have l14:R0<(Lz.bt l i).length:=by rw[Lz.fJ];omega
     have acF:R0≠m0:=by have:=XJ.out;omega
     obtain⟨SJ,VY⟩:∃x,x=(Lz.bt l i).getD R0 0:=⟨_,rfl⟩;have SH:m0<(Lz.bt l i).length:=by rw[Lz.fJ];omega
     obtain⟨x0,kN⟩:∃x,x=(Lz.bt l i).getD m0 0:=⟨_,rfl⟩
     have HN:Hid (Lz.bt l (i+1)=(Lz.bt l i).set m0 (x0+((Lz.cm x1 1 8 7 false+x9)+Lz.cm SJ 19 61 6 false))):=by
      show _=_;rw[Lz.bt,if_neg tN,<-XJ.out,<-Uj,<-hj9,<-aav,<-Ax,<-XI,<-Sm,<-kN,<-it,<-R4,<-VY]
     have hC9:Hid (∀V,ib w.heap.size H1 H2 ⟨ha,hb,hc,hd,he,hf,hg,hz⟩ (Lz.bt l i) V->(V.cell? ⟨H2,m1,none⟩=some (.int .u64 (N64 x1))/\V.cell? ⟨H2,m9,none⟩=some (.int .u64 (N64 x9))/\V.cell? ⟨H2,R0,none⟩=some (.int .u64 (N64 SJ)))):=Ih (fun V hV=>⟨by rw[it];exact(hV.open m1 l1).1,by rw[R4];exact(hV.open m9 l9).1,by rw[VY];exact(hV.open R0 l14).1⟩);have k1:Hid (∀W,Calls Tryz.prog 199 #[.int .u64 (N64 x1),.int .i64 1,.int .i64 8,.int .i64 7,.bool false] W fun e w'=>e=.returned (.int .u64 (N64 (Lz.cm x1 1 8 7 false)))/\W=w'):=Ih (fun W=>nF x1 1 8 7 (by omega) (by omega) (by omega) false W);have k14:Hid (∀W,Calls Tryz.prog 199 #[.int .u64 (N64 SJ),.int .i64 19,.int .i64 61,.int .i64 6,.bool false] W fun e w'=>e=.returned (.int .u64 (N64 (Lz.cm SJ 19 61 6 false)))/\W=w'):=Ih (fun W=>nF SJ 19 61 6 (by omega) (by omega) (by omega) false W);have fp:=kg;have Hx0:=Ih kN;clear kN Uj hj9 aav Ax XI Sm it R4 VY l1 l9 l14
     go_upto_region 9 with fail
     have nX:=hR.drew;refine wp_region_held_drew (S:=fun V=>(V.cell? ⟨H2,m1,none⟩=some (.int .u64 (N64 x1))/\V.cell? ⟨H2,m9,none⟩=some (.int .u64 (N64 x9))/\V.cell? ⟨H2,R0,none⟩=some (.int .u64 (N64 SJ)))/\Below w.heap.size w V) (by kernel_rfl) ⟨hC9.out _ hR.drew,hB.drew⟩ (fun af=>?_);generalize wr.drew=W1 at af nX⊢;obtain⟨bH,mo⟩:=nX.open m0 SH;rw[<-Hx0.out]at bH;apply TkG 0 48;apply TkG 1 49;apply TkG 3 51;apply TkG 4 52;apply TkG 5 53;apply TkG 6 54;apply TkG 7 55;apply TkG 9 57;apply TkG 10 58;apply TkG 11 59;apply TkG 12 60;apply TkG 13 61;apply TkG 15 63
     apply TkG 16 64;apply TkG 17 65;apply TkG 18 66;apply TkG 19 67
     iterate 17 (rotate_right 2;(·(intro W ar;(try dsimp only at ar);(try simp only[Act.put]);(try simp only[List.setIfInBounds_toArray]);(try simp only[List.set_cons_zero,List.set_cons_succ]);go_simp;try with_reducible rfl)))
     (try simp only[Act.put]);(try simp only[List.setIfInBounds_toArray]);(try simp only[List.set_cons_zero,List.set_cons_succ])
     refine wpAnyH_ready (rs:=[2,8]) (by kernel_rfl) (by simp) ?_;refine AllReadyH.cons rfl (fun K hK=>?_) (AllReadyH.cons rfl (fun K hK=>?_) AllReadyH.nil)
     ·go_simp;refine hK.out _ _ af (fun af=>?_);clear hK K
      (try simp only[Act.put]);(try simp only[List.setIfInBounds_toArray]);(try simp only[List.set_cons_zero,List.set_cons_succ])
      refine wpAnyH_ready (rs:=[8]) (by kernel_rfl) (by simp) ?_;refine AllReadyH.cons rfl (fun K hK=>?_) AllReadyH.nil;go_simp
      go_at_call 199
      refine(k1.out _).mono ?_;rintro e w5 ⟨rfl,rfl⟩;refine hK.out _ _ af (fun af=>?_);clear hK K
      (try simp only[Act.put]);(try simp only[List.setIfInBounds_toArray]);(try simp only[List.set_cons_zero,List.set_cons_succ])
      apply TkG 14 62
      iterate 1 (rotate_right 2;(·(intro W ar;(try dsimp only at ar);(try simp only[Act.put]);(try simp only[List.setIfInBounds_toArray]);(try simp only[List.set_cons_zero,List.set_cons_succ]);go_simp;try with_reducible rfl)))
      (try simp only[Act.put]);(try simp only[List.setIfInBounds_toArray]);(try simp only[List.set_cons_zero,List.set_cons_succ])
      refine wpAnyH_ready (rs:=[20]) (by kernel_rfl) (by simp) ?_;refine AllReadyH.cons rfl (fun K hK=>?_) AllReadyH.nil;go_simp
      go_at_call 199
      refine(k14.out _).mono ?_;rintro e w5 ⟨rfl,rfl⟩;refine hK.out _ _ af (fun af=>?_);clear hK K
      (try simp only[Act.put]);(try simp only[List.setIfInBounds_toArray]);(try simp only[List.set_cons_zero,List.set_cons_succ])
      apply TkG 21 69;apply TkG 22 70;apply TkG 23 71
      iterate 3 (rotate_right 2;(·(intro W ar;(try dsimp only at ar);(try simp only[Act.put]);(try simp only[List.setIfInBounds_toArray]);(try simp only[List.set_cons_zero,List.set_cons_succ]);go_simp;try with_reducible rfl)))
      (try simp only[Act.put]);(try simp only[List.setIfInBounds_toArray]);(try simp only[List.set_cons_zero,List.set_cons_succ])
      refine wpAnyH_ready (rs:=[24]) (by kernel_rfl) (by simp) ?_;refine AllReadyH.cons rfl (fun K hK=>?_) AllReadyH.nil;go_simp;refine hK.out _ _ ⟨⟨(World.cell?_setCell_other _ _ _ _ (jA (by assumption))).trans af.1.1,(World.cell?_setCell_other _ _ _ _ (jA (by assumption))).trans af.1.2.1,(World.cell?_setCell_other _ _ _ _ (jA (by assumption))).trans af.1.2.2⟩,af.2.setCell DG _⟩ (fun af=>?_);clear hK K
      (try simp only[Act.put]);(try simp only[List.setIfInBounds_toArray]);(try simp only[List.set_cons_zero,List.set_cons_succ])
      refine wpAnyH_done (by kernel_rfl) ?_ _;have Oe:=nX.set m0 (x0+((Lz.cm x1 1 8 7 false+x9)+Lz.cm SJ 19 61 6 false));rw[<-HN.out]at Oe;clear nX bH mo
      go_wp2_with fail
      go_meet;exact⟨rfl,Oe,af.2⟩
     ·go_simp
      go_at_call 199
      refine(k1.out _).mono ?_;rintro e w5 ⟨rfl,rfl⟩;refine hK.out _ _ af (fun af=>?_);clear hK K
      (try simp only[Act.put]);(try simp only[List.setIfInBounds_toArray]);(try simp only[List.set_cons_zero,List.set_cons_succ])
      apply TkG 14 62
      iterate 1 (rotate_right 2;(·(intro W ar;(try dsimp only at ar);(try simp only[Act.put]);(try simp only[List.setIfInBounds_toArray]);(try simp only[List.set_cons_zero,List.set_cons_succ]);go_simp;try with_reducible rfl)))
      (try simp only[Act.put]);(try simp only[List.setIfInBounds_toArray]);(try simp only[List.set_cons_zero,List.set_cons_succ])
      refine wpAnyH_ready (rs:=[2,20]) (by kernel_rfl) (by simp) ?_;refine AllReadyH.cons rfl (fun K hK=>?_) (AllReadyH.cons rfl (fun K hK=>?_) AllReadyH.nil)
      ·go_simp;refine hK.out _ _ af (fun af=>?_);clear hK K
       (try simp only[Act.put]);(try simp only[List.setIfInBounds_toArray]);(try simp only[List.set_cons_zero,List.set_cons_succ])
       refine wpAnyH_ready (rs:=[20]) (by kernel_rfl) (by simp) ?_;refine AllReadyH.cons rfl (fun K hK=>?_) AllReadyH.nil;go_simp
       go_at_call 199
       refine(k14.out _).mono ?_;rintro e w5 ⟨rfl,rfl⟩;refine hK.out _ _ af (fun af=>?_);clear hK K
       (try simp only[Act.put]);(try simp only[List.setIfInBounds_toArray]);(try simp only[List.set_cons_zero,List.set_cons_succ])
       apply TkG 21 69;apply TkG 22 70;apply TkG 23 71
       iterate 3 (rotate_right 2;(·(intro W ar;(try dsimp only at ar);(try simp only[Act.put]);(try simp only[List.setIfInBounds_toArray]);(try simp only[List.set_cons_zero,List.set_cons_succ]);go_simp;try with_reducible rfl)))
       (try simp only[Act.put]);(try simp only[List.setIfInBounds_toArray]);(try simp only[List.set_cons_zero,List.set_cons_succ])
       refine wpAnyH_ready (rs:=[24]) (by kernel_rfl) (by simp) ?_;refine AllReadyH.cons rfl (fun K hK=>?_) AllReadyH.nil;go_simp;refine hK.out _ _ ⟨⟨(World.cell?_setCell_other _ _ _ _ (jA (by assumption))).trans af.1.1,(World.cell?_setCell_other _ _ _ _ (jA (by assumption))).trans af.1.2.1,(World.cell?_setCell_other _ _ _ _ (jA (by assumption))).trans af.1.2.2⟩,af.2.setCell DG _⟩ (fun af=>?_);clear hK K
       (try simp only[Act.put]);(try simp only[List.setIfInBounds_toArray]);(try simp only[List.set_cons_zero,List.set_cons_succ])
       refine wpAnyH_done (by kernel_rfl) ?_ _;have Oe:=nX.set m0 (x0+((Lz.cm x1 1 8 7 false+x9)+Lz.cm SJ 19 61 6 false));rw[<-HN.out]at Oe;clear nX bH mo
       go_wp2_with fail
       go_meet;exact⟨rfl,Oe,af.2⟩
      ·go_simp
       go_at_call 199
       refine(k14.out _).mono ?_;rintro e w5 ⟨rfl,rfl⟩;refine hK.out _ _ af (fun af=>?_);clear hK K
       (try simp only[Act.put]);(try simp only[List.setIfInBounds_toArray]);(try simp only[List.set_cons_zero,List.set_cons_succ])
       apply TkG 21 69
       iterate 1 (rotate_right 2;(·(intro W ar;(try dsimp only at ar);(try simp only[Act.put]);(try simp only[List.setIfInBounds_toArray]);(try simp only[List.set_cons_zero,List.set_cons_succ]);go_simp;try with_reducible rfl)))
       (try simp only[Act.put]);(try simp only[List.setIfInBounds_toArray]);(try simp only[List.set_cons_zero,List.set_cons_succ])
       refine wpAnyH_ready (rs:=[2]) (by kernel_rfl) (by simp) ?_;refine AllReadyH.cons rfl (fun K hK=>?_) AllReadyH.nil;go_simp;refine hK.out _ _ af (fun af=>?_);clear hK K
       (try simp only[Act.put]);(try simp only[List.setIfInBounds_toArray]);(try simp only[List.set_cons_zero,List.set_cons_succ])
       apply TkG 22 70;apply TkG 23 71
       iterate 2 (rotate_right 2;(·(intro W ar;(try dsimp only at ar);(try simp only[Act.put]);(try simp only[List.setIfInBounds_toArray]);(try simp only[List.set_cons_zero,List.set_cons_succ]);go_simp;try with_reducible rfl)))
       (try simp only[Act.put]);(try simp only[List.setIfInBounds_toArray]);(try simp only[List.set_cons_zero,List.set_cons_succ])
       refine wpAnyH_ready (rs:=[24]) (by kernel_rfl) (by simp) ?_;refine AllReadyH.cons rfl (fun K hK=>?_) AllReadyH.nil;go_simp;refine hK.out _ _ ⟨⟨(World.cell?_setCell_other _ _ _ _ (jA (by assumption))).trans af.1.1,(World.cell?_setCell_other _ _ _ _ (jA (by assumption))).trans af.1.2.1,(World.cell?_setCell_other _ _ _ _ (jA (by assumption))).trans af.1.2.2⟩,af.2.setCell DG _⟩ (fun af=>?_);clear hK K
       (try simp only[Act.put]);(try simp only[List.setIfInBounds_toArray]);(try simp only[List.set_cons_zero,List.set_cons_succ])
       refine wpAnyH_done (by kernel_rfl) ?_ _;have Oe:=nX.set m0 (x0+((Lz.cm x1 1 8 7 false+x9)+Lz.cm SJ 19 61 6 false));rw[<-HN.out]at Oe;clear nX bH mo
       go_wp2_with fail
       go_meet;exact⟨rfl,Oe,af.2⟩
   case rest=>
    obtain⟨rfl,hR,hB⟩:=hcut;obtain⟨L1,Z8⟩:∃L,L=Lz.bt l (i+1):=⟨_,rfl⟩;rw[<-Z8]at hR;obtain⟨ki,Gq⟩:∃k,k=aP.getD i 0:=⟨_,rfl⟩;obtain⟨xi,Xt⟩:∃k,k=L1.getD m0 0:=⟨_,rfl⟩
    have HX:Hid (Lz.i7 aP l ⟨ha,hb,hc,hd,he,hf,hg,hz⟩ (i+1)=Lz.SW ⟨sa,sb,sc,sd,se,sf,sg,sz⟩ ki xi):=by
     show _=_;rw[Lz.i7,HQ.out,<-Gq,Xt,Z8,XJ.out]
    have XQ:m0<L1.length:=by rw[Z8,Lz.fJ];exact SH
    have aca:Hid (∀V,ib w.heap.size H1 H2 ⟨ha,hb,hc,hd,he,hf,hg,hz⟩ L1 V->Below w.heap.size w V->(V.cell? ⟨4,i,none⟩=some (.int .u64 (N64 ki))/\V.cell? ⟨H2,m0,none⟩=some (.int .u64 (N64 xi)))/\ib w.heap.size H1 H2 ⟨ha,hb,hc,hd,he,hf,hg,hz⟩ L1 V/\Below w.heap.size w V):=Ih (fun V hV hb=>⟨⟨by rw[Gq,hb.cell HT.out.1];exact HT.out.2 i aL,by rw[Xt];exact(hV.open m0 XQ).1⟩,hV,hb⟩);have ke:Hid (∀W,Calls Tryz.prog 199 #[.int .u64 (N64 se),.int .i64 14,.int .i64 18,.int .i64 41,.bool true] W fun e w'=>e=.returned (.int .u64 (N64 (Lz.cm se 14 18 41 true)))/\W=w'):=Ih (fun W=>nF se 14 18 41 (by omega) (by omega) (by omega) true W);have ka:Hid (∀W,Calls Tryz.prog 199 #[.int .u64 (N64 sa),.int .i64 28,.int .i64 34,.int .i64 39,.bool true] W fun e w'=>e=.returned (.int .u64 (N64 (Lz.cm sa 28 34 39 true)))/\W=w'):=Ih (fun W=>nF sa 28 34 39 (by omega) (by omega) (by omega) true W);have fp:=kg;have fa:=Kp;have fo:=PL;have fd:=abf;have HL1:=Ih Z8;clear Gq Xt XQ Z8
    go_upto_region 10 with fail
    refine wp_region_held_drew (S:=fun V=>(V.cell? ⟨4,i,none⟩=some (.int .u64 (N64 ki))/\V.cell? ⟨H2,m0,none⟩=some (.int .u64 (N64 xi)))/\ib w.heap.size H1 H2 ⟨ha,hb,hc,hd,he,hf,hg,hz⟩ L1 V/\Below w.heap.size w V) (by kernel_rfl) (aca.out _ hR.drew hB.drew) (fun af=>?_);generalize wc.drew=W2 at af⊢;apply TkG 0 72;apply TkG 1 73;apply TkG 4 76;apply TkG 5 77;apply TkG 6 78;apply TkG 7 79;apply TkG 8 80;apply TkG 9 81;apply TkG 10 82;apply TkG 12 84;apply TkG 13 85;apply TkG 14 86;apply TkG 16 88;apply TkG 17 89
    apply TkG 18 90
    iterate 15 (rotate_right 2;(·(intro W ar;(try dsimp only at ar);(try simp only[Act.put]);(try simp only[List.setIfInBounds_toArray]);(try simp only[List.set_cons_zero,List.set_cons_succ]);go_simp;try with_reducible rfl)))
    (try simp only[Act.put]);(try simp only[List.setIfInBounds_toArray]);(try simp only[List.set_cons_zero,List.set_cons_succ])
    refine wpAnyH_ready (rs:=[2]) (by kernel_rfl) (by simp) ?_;refine AllReadyH.cons rfl (fun K hK=>?_) AllReadyH.nil;go_simp
    go_at_call 199
    refine(ke.out _).mono ?_;rintro e w5 ⟨rfl,rfl⟩;refine hK.out _ _ af (fun af=>?_);clear hK K
    (try simp only[Act.put]);(try simp only[List.setIfInBounds_toArray]);(try simp only[List.set_cons_zero,List.set_cons_succ])
    apply TkG 3 75;apply TkG 11 83;apply TkG 15 87;apply TkG 19 91;apply TkG 20 16
    iterate 5 (rotate_right 2;(·(intro W ar;(try dsimp only at ar);(try simp only[Act.put]);(try simp only[List.setIfInBounds_toArray]);(try simp only[List.set_cons_zero,List.set_cons_succ]);go_simp;try with_reducible rfl)))
    (try simp only[Act.put]);(try simp only[List.setIfInBounds_toArray]);(try simp only[List.set_cons_zero,List.set_cons_succ])
    refine wpAnyH_done (by kernel_rfl) ?_ _;obtain⟨hR,hB⟩:=af.2;clear af;obtain⟨t,ht⟩:∃t,t=(((sz+Lz.cm se 14 18 41 true)+((se&&& sf)||| (sg&&& ~~~se)))+ki)+xi:=⟨_,rfl⟩;rw[<-ht];have HTE:=Ih ht;clear ht
    have HX1:Hid (Lz.i7 aP l ⟨ha,hb,hc,hd,he,hf,hg,hz⟩ (i+1)=⟨t+(Lz.cm sa 28 34 39 true+((sa&&& sb)||| (sc&&& (sa||| sb)))),sa,sb,sc,sd+t,se,sf,sg⟩):=by
     show _=_;rw[HX.out,HTE.out];rfl
    clear HX HTE
    go_wp2_with fail
    refine(ka.out _).mono ?_;rintro e w5 ⟨rfl,rfl⟩;rw[HL1.out]at hR
    go_wp2_with fail
    go_roundw
    case rel=>exact⟨i+1,_,_,_,_,_,_,_,_,by go_num,rfl,rfl,rfl,rfl,rfl,rfl,rfl,rfl,by omega,HX1,hR,hB⟩
    case measure=>simp[intOf];omega
  ·obtain rfl:i=80:=by omega
   have aK:¬(((80:Nat):Int)<80):=by omega
   obtain⟨c0,c1,c2,c3,c4,c5,c6,c7⟩:wr.cell? ⟨w.heap.size,0,none⟩=some (.int .u64 (N64 ha))/\wr.cell? ⟨w.heap.size,1,none⟩=some (.int .u64 (N64 hb))/\wr.cell? ⟨w.heap.size,2,none⟩=some (.int .u64 (N64 hc))/\wr.cell? ⟨w.heap.size,3,none⟩=some (.int .u64 (N64 hd))/\wr.cell? ⟨w.heap.size,4,none⟩=some (.int .u64 (N64 he))/\wr.cell? ⟨w.heap.size,5,none⟩=some (.int .u64 (N64 hf))/\wr.cell? ⟨w.heap.size,6,none⟩=some (.int .u64 (N64 hg))/\wr.cell? ⟨w.heap.size,7,none⟩=some (.int .u64 (N64 hz)):=⟨rowAt hR.own 0 _ rfl,rowAt hR.own 1 _ rfl,rowAt hR.own 2 _ rfl,rowAt hR.own 3 _ rfl,rowAt hR.own 4 _ rfl,rowAt hR.own 5 _ rfl,rowAt hR.own 6 _ rfl,rowAt hR.own 7 _ rfl⟩;obtain⟨d0,d1,d2,d3,d4,d5,d6,d7⟩:wr.cell? ⟨H1,0,none⟩=some (.int .u64 0)/\wr.cell? ⟨H1,1,none⟩=some (.int .u64 0)/\wr.cell? ⟨H1,2,none⟩=some (.int .u64 0)/\wr.cell? ⟨H1,3,none⟩=some (.int .u64 0)/\wr.cell? ⟨H1,4,none⟩=some (.int .u64 0)/\wr.cell? ⟨H1,5,none⟩=some (.int .u64 0)/\wr.cell? ⟨H1,6,none⟩=some (.int .u64 0)/\wr.cell? ⟨H1,7,none⟩=some (.int .u64 0):=⟨rowAt hR.out 0 _ rfl,rowAt hR.out 1 _ rfl,rowAt hR.out 2 _ rfl,rowAt hR.out 3 _ rfl,rowAt hR.out 4 _ rfl,rowAt hR.out 5 _ rfl,rowAt hR.out 6 _ rfl,rowAt hR.out 7 _ rfl⟩
   obtain⟨f0,f1,f2,f3,f4,f5,f6,f7⟩:wr.frozen? ⟨H1,0,none⟩=false/\wr.frozen? ⟨H1,1,none⟩=false/\wr.frozen? ⟨H1,2,none⟩=false/\wr.frozen? ⟨H1,3,none⟩=false/\wr.frozen? ⟨H1,4,none⟩=false/\wr.frozen? ⟨H1,5,none⟩=false/\wr.frozen? ⟨H1,6,none⟩=false/\wr.frozen? ⟨H1,7,none⟩=false:=⟨frozen_of_row _ _ _ _ _ hR.out,frozen_of_row _ _ _ _ _ hR.out,frozen_of_row _ _ _ _ _ hR.out,frozen_of_row _ _ _ _ _ hR.out,frozen_of_row _ _ _ _ _ hR.out,frozen_of_row _ _ _ _ _ hR.out,frozen_of_row _ _ _ _ _ hR.out,frozen_of_row _ _ _ _ _ hR.out⟩;have hO:=cu (cu (cu (cu (cu (cu (cu (cu (hR.out) 0 (.int .u64 (N64 (ha+sa)))) 1 (.int .u64 (N64 (hb+sb)))) 2 (.int .u64 (N64 (hc+sc)))) 3 (.int .u64 (N64 (hd+sd)))) 4 (.int .u64 (N64 (he+se)))) 5 (.int .u64 (N64 (hf+sf)))) 6 (.int .u64 (N64 (hg+sg)))) 7 (.int .u64 (N64 (hz+sz)))
   have hBO:=((((((((hB.setCell (p:=⟨H1,0,none⟩) AH (.int .u64 (N64 (ha+sa)))).setCell (p:=⟨H1,1,none⟩) AH (.int .u64 (N64 (hb+sb)))).setCell (p:=⟨H1,2,none⟩) AH (.int .u64 (N64 (hc+sc)))).setCell (p:=⟨H1,3,none⟩) AH (.int .u64 (N64 (hd+sd)))).setCell (p:=⟨H1,4,none⟩) AH (.int .u64 (N64 (he+se)))).setCell (p:=⟨H1,5,none⟩) AH (.int .u64 (N64 (hf+sf)))).setCell (p:=⟨H1,6,none⟩) AH (.int .u64 (N64 (hg+sg)))).setCell (p:=⟨H1,7,none⟩) AH (.int .u64 (N64 (hz+sz))));have fp:=kg
   go_wp2_with fail
   refine bodyPost_ret (results_cell_row (P:=Tryz.prog) (p:=4) rfl _ _ H1 133 (dG (Lz.xc (Lz.St8.mk ha hb hc hd he hf hg hz) (Lz.St8.mk sa sb sc sd se sf sg sz)).list).toArray (0,0) _ rfl (by exact hO) Tryz.underlying133 rfl (by exact nT)) rfl ?_;refine⟨?_,hBO⟩;unfold Lz.kH;rw[HQ.out]
end Go.Proofs.YtibcmemcfjhgmaaGreatDoor
