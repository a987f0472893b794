/-
  Package digest: end, first, Sum.
-/
import Derived.Test.YtibcmemcfjhgmaaGreatDoorV12
set_option maxHeartbeats 8000000
set_option maxRecDepth 100000
namespace Go.Proofs.YtibcmemcfjhgmaaGreatDoor
open Go.RowKit
def bV (l:List UInt32):List Value:=l.map fun x=>.int .u32 (N32 x)
theorem heap_setCell_other (w:World) (b k:Nat) (v:Value) (R:Nat) (h:R≠b):(w.setCell ⟨b,k,none⟩ v).heap[R]? =w.heap[R]? :=by
 unfold World.setCell;simp only[Array.getElem?_modify];rw[if_neg (fun e=>h e.symm)]
theorem nc (l:List UInt32):(bV l).length=l.length:=by unfold bV;rw[List.length_map]
def FL:List UInt32:=List.replicate 64 0
theorem vH (l:List UInt32):(bV l).toArray.all (·.oneCell')=true:=by
 rw[List.all_toArray,List.all_eq_true];intro v hv;unfold bV at hv;obtain⟨x,_,rfl⟩:=List.mem_map.1 hv;rfl
def xu (R:Nat) (w:World):Prop:=w.heap[R]? =some (.cells (bV FL).toArray 190 (0,0))
theorem F9 (w:World) (o:Obj):xu w.heap.size ((w.alloc (.cells (bV FL).toArray 190)).alloc o):=by
 unfold xu;rw[Below.heap_alloc _ _ _ (by simp)];exact an _ _
theorem xu.set {R b k:Nat} {v:Value} {w:World} (h:xu R w) (hb:R≠b):xu R (w.setCell ⟨b,k,none⟩ v):=by
 unfold xu at h⊢;rw[<-h];exact heap_setCell_other w b k v R hb
def nd (b:List UInt8) (R i:Nat) (w:World):Prop:=w.heap[R]? =some (.cells (bV (Lz.bu b i++List.replicate (64-i) 0)).toArray 190 (0,0))
theorem nd.drew {b:List UInt8} {R i:Nat} {w:World} (h:nd b R i w):nd b R i w.drew:=h
theorem nd.cell {b:List UInt8} {R i:Nat} {w:World} (h:nd b R i w) (j:Nat) (hj:j<i):w.cell? ⟨R,j,none⟩=some (.int .u32 (N32 ((Lz.bu b i).getD j 0))):=by
 unfold nd at h;refine rowAt h j _ ?_;rw[List.getElem?_toArray];unfold bV;rw[List.getElem?_map,List.getElem?_append_left (by rw[Lz.bL];exact hj),List.getD_eq_getElem?_getD,List.getElem?_eq_getElem (by rw[Lz.bL];exact hj)];rfl
theorem nd.open {b:List UInt8} {R i:Nat} {w:World} (h:nd b R i w) (hi:i<64):w.cell? ⟨R,i,none⟩=some (.int .u32 0)/\w.frozen? ⟨R,i,none⟩=false:=by
 unfold nd at h;constructor
 ·refine rowAt h i _ ?_;rw[List.getElem?_toArray];unfold bV;rw[List.getElem?_map,List.getElem?_append_right (by rw[Lz.bL];exact Nat.le_refl _),Lz.bL,List.getElem?_replicate,if_pos (by omega)];rfl
 ·simp[World.frozen?,h]
theorem nd.store {b:List UInt8} {R i:Nat} {w:World} (h:nd b R i w) (hi:i<64) (x:UInt32) (hx:Lz.bu b (i+1)=Lz.bu b i++[x]):nd b R (i+1) (w.setCell ⟨R,i,none⟩ (.int .u32 (N32 x))):=by
 unfold nd at h⊢;rw[cu h i];congr 2;rw[List.setIfInBounds_toArray];congr 1;unfold bV;rw[hx,List.append_assoc,show 64-i=(64-(i+1))+1 by omega,List.replicate_succ,List.map_append,List.map_append,List.map_cons,List.set_append_right _ _ (by rw[List.length_map,Lz.bL];exact Nat.le_refl _),List.length_map,Lz.bL,Nat.sub_self,List.set_cons_zero];rfl
theorem uj:(Tryz.prog.info? 190).map (·.size)=some 64:=by kernel_rfl
theorem aaQ (a:UInt32):IntKind.u32.wrap (N32 a*16777216)=N32 (a<<<24):=MF a 24 (by omega)
theorem aa2 (a:UInt32):IntKind.u32.wrap (N32 a*65536)=N32 (a<<<16):=MF a 16 (by omega)
theorem nl8 (a:UInt32):IntKind.u32.wrap (N32 a*256)=N32 (a<<<8):=MF a 8 (by omega)
theorem nr3 (a:UInt32):N32 a / (8:Int)=N32 (a>>>3):=sZ a 3 (by omega)
theorem aaP (a:UInt32):N32 a / (1024:Int)=N32 (a>>>10):=sZ a 10 (by omega)
theorem nbw (c:UInt8):IntKind.u32.wrap (c.toNat:Int)=N32 c.toUInt32:=w32 c.toUInt32
theorem FJ (b:ByteArray) (hb:b.size=64) (w:World):Calls Tryz.prog 138 #[.string b] w fun e w'=>e=.returned (.agg (bV (Lz.bu b.data.toList 64)).toArray)/\Below w.heap.size w w':=by
 have HB:=Ih hb;clear hb;go_enter Tryz.func138,Tryz.ntmps138
 go_wp2_with fail
 go_loopw [4,5,6,7] (fun p q r k wr=>∃i:Nat,k=.int .i64 i/\i<=64/\nd b.data.toList (w.heap.size+1) i wr/\Below w.heap.size w wr/\xu w.heap.size wr) (fun _ _ _ k _=>64-(intOf k).toNat)
 case atStart=>exact⟨0,rfl,by omega,lg _ _ _,((Below.refl _ w).alloc (Nat.le_refl _) _).alloc (by simp) _,F9 w _⟩
 case round=>
  obtain⟨i,rfl,hi,hR,aC,hZ⟩:=hrel;by_cases aL:i<64
  ·have aK:(i:Int)<64:=by omega
   have j6:(0:Int)<=(i:Int):=by omega
   by_cases tN:i<16
   ·have DL:(i:Int)<16:=by omega
    obtain⟨j0,tI⟩:∃j,j=4*i:=⟨_,rfl⟩;obtain⟨j1,Uj⟩:∃j,j=4*i+1:=⟨_,rfl⟩;obtain⟨j2,Ow⟩:∃j,j=4*i+2:=⟨_,rfl⟩;obtain⟨j3,hj3⟩:∃j,j=4*i+3:=⟨_,rfl⟩;have w0:IntKind.i64.wrap (4*(i:Int))=(j0:Int):=by rw[show 4*(i:Int)=(j0:Int) by omega];exact IntWalk.i64_in _ (by omega)
    have w1:IntKind.i64.wrap ((j0:Int)+1)=(j1:Int):=by rw[show(j0:Int)+1=(j1:Int) by omega];exact IntWalk.i64_in _ (by omega)
    have w2:IntKind.i64.wrap ((j0:Int)+2)=(j2:Int):=by rw[show(j0:Int)+2=(j2:Int) by omega];exact IntWalk.i64_in _ (by omega)
    have w3:IntKind.i64.wrap ((j0:Int)+3)=(j3:Int):=by rw[show(j0:Int)+3=(j3:Int) by omega];exact IntWalk.i64_in _ (by omega)
    have l0:j0<b.size:=by have:=HB.out;omega
    have l1:j1<b.size:=by have:=HB.out;omega
    have l2:j2<b.size:=by have:=HB.out;omega
    have l3:j3<b.size:=by have:=HB.out;omega
    obtain⟨c0,lW⟩:∃c,c=b[j0]:=⟨_,rfl⟩;obtain⟨c1,iE⟩:∃c,c=b[j1]:=⟨_,rfl⟩;obtain⟨c2,sO⟩:∃c,c=b[j2]:=⟨_,rfl⟩;obtain⟨c3,KU⟩:∃c,c=b[j3]:=⟨_,rfl⟩;have r0:(b[j0].toNat:Int)=(c0.toNat:Int):=by rw[lW]
    have r1:(b[j1].toNat:Int)=(c1.toNat:Int):=by rw[iE]
    have r2:(b[j2].toNat:Int)=(c2.toNat:Int):=by rw[sO]
    have r3:(b[j3].toNat:Int)=(c3.toNat:Int):=by rw[KU]
    have q0:(0:Int)<=(j0:Int)/\(j0:Int)<(b.size:Int):=by omega
    have q1:(0:Int)<=(j1:Int)/\(j1:Int)<(b.size:Int):=by omega
    have q2:(0:Int)<=(j2:Int)/\(j2:Int)<(b.size:Int):=by omega
    have q3:(0:Int)<=(j3:Int)/\(j3:Int)<(b.size:Int):=by omega
    have v0:=nbw c0;have v1:=nbw c1;have v2:=nbw c2;have v3:=nbw c3;have s0:=aaQ c0.toUInt32;have s1:=aa2 c1.toUInt32;have s2:=nl8 c2.toUInt32;have o1:=M9 (c0.toUInt32<<<24) (c1.toUInt32<<<16);have o2:=M9 ((c0.toUInt32<<<24)||| (c1.toUInt32<<<16)) (c2.toUInt32<<<8);have o3:=M9 (((c0.toUInt32<<<24)||| (c1.toUInt32<<<16))||| (c2.toUInt32<<<8)) c3.toUInt32
    have HX:Hid (Lz.bu b.data.toList (i+1)=Lz.bu b.data.toList i++[(((c0.toUInt32<<<24)||| (c1.toUInt32<<<16))||| (c2.toUInt32<<<8))||| c3.toUInt32]):=by
     show _=_;rw[Lz.bu,if_pos tN];unfold Lz.Zk Lz.il;rw[<-Uj,<-Ow,<-hj3,<-tI,List.getD_eq_getElem?_getD,List.getD_eq_getElem?_getD,List.getD_eq_getElem?_getD,List.getD_eq_getElem?_getD,aB l0,aB l1,aB l2,aB l3,<-lW,<-iE,<-sO,<-KU];rfl
    clear tI Uj Ow hj3 lW iE sO KU
    go_upto_region 6 with fail
    have nX:=hR.drew;have hZ0:xu w.heap.size wr.drew:=hZ;refine wp_region_held_drew (S:=fun V=>Below w.heap.size w V) (by kernel_rfl) aC.drew (fun af=>?_);generalize wr.drew=W0 at af nX hZ0⊢;apply TkG 0 12;apply TkG 1 13;apply TkG 2 14;apply TkG 3 15;apply TkG 4 16;apply TkG 5 17;apply TkG 6 18;apply TkG 7 19;apply TkG 8 20;apply TkG 9 21;apply TkG 10 22;apply TkG 11 23;apply TkG 12 24;apply TkG 13 25;apply TkG 14 26;apply TkG 15 27
    apply TkG 16 28;apply TkG 17 29;apply TkG 18 30;apply TkG 19 31;apply TkG 20 32;apply TkG 21 33;apply TkG 22 34;apply TkG 23 35;apply TkG 24 36;apply TkG 25 37;apply TkG 26 38;apply TkG 27 39;apply TkG 28 40;apply TkG 29 41;apply TkG 30 42
    iterate 31 (rotate_right 2;(·(intro W ar;(try dsimp only at ar);(try simp only[Act.put]);(try simp only[List.setIfInBounds_toArray]);(try simp only[List.set_cons_zero,List.set_cons_succ]);go_simp;try with_reducible rfl)))
    (try simp only[Act.put]);(try simp only[List.setIfInBounds_toArray]);(try simp only[List.set_cons_zero,List.set_cons_succ])
    obtain⟨bH,mo⟩:=nX.open aL;refine wpAnyH_ready (rs:=[31]) (by kernel_rfl) (by simp) ?_;refine AllReadyH.cons rfl (fun K hK=>?_) AllReadyH.nil;go_simp;refine hK.out _ _ (af.setCell (Nat.le_succ _) _) (fun af=>?_);clear hK K
    (try simp only[Act.put]);(try simp only[List.setIfInBounds_toArray]);(try simp only[List.set_cons_zero,List.set_cons_succ])
    refine wpAnyH_done (by kernel_rfl) ?_ _;have hS:=nX.store aL _ HX.out;have Z4:=hZ0.set (k:=i) (v:=.int .u32 (N32 ((((c0.toUInt32<<<24)||| (c1.toUInt32<<<16))||| (c2.toUInt32<<<8))||| c3.toUInt32))) (show w.heap.size≠w.heap.size+1 by omega);clear nX bH mo
    go_wp2_with fail
    go_roundw
    case rel=>exact⟨i+1,by go_num,by omega,hS,af,Z4⟩
    case measure=>simp[intOf];omega
   ·have DL:¬(i:Int)<16:=by omega
    obtain⟨Uc,aaK⟩:∃m,m=i-15:=⟨_,rfl⟩;obtain⟨m2,tL⟩:∃m,m=i-2:=⟨_,rfl⟩;obtain⟨y9,OX⟩:∃m,m=i-16:=⟨_,rfl⟩;obtain⟨m7,hm7⟩:∃m,m=i-7:=⟨_,rfl⟩;have w15:IntKind.i64.wrap ((i:Int)-15)=(Uc:Int):=by rw[show(i:Int)-15=(Uc:Int) by omega];exact IntWalk.i64_in _ (by omega)
    have w2:IntKind.i64.wrap ((i:Int)-2)=(m2:Int):=by rw[show(i:Int)-2=(m2:Int) by omega];exact IntWalk.i64_in _ (by omega)
    have w16:IntKind.i64.wrap ((i:Int)-16)=(y9:Int):=by rw[show(i:Int)-16=(y9:Int) by omega];exact IntWalk.i64_in _ (by omega)
    have w7:IntKind.i64.wrap ((i:Int)-7)=(m7:Int):=by rw[show(i:Int)-7=(m7:Int) by omega];exact IntWalk.i64_in _ (by omega)
    have b15:(0:Int)<=(Uc:Int)/\(Uc:Int)<64:=by omega
    have b2:(0:Int)<=(m2:Int)/\(m2:Int)<64:=by omega
    have b16:(0:Int)<=(y9:Int)/\(y9:Int)<64:=by omega
    have b7:(0:Int)<=(m7:Int)/\(m7:Int)<64:=by omega
    have l15:Uc<i:=by omega
    have l2:m2<i:=by omega
    have l16:y9<i:=by omega
    have l7:m7<i:=by omega
    obtain⟨IT,VX⟩:∃x,x=(Lz.bu b.data.toList i).getD Uc 0:=⟨_,rfl⟩;obtain⟨x2,tJ⟩:∃x,x=(Lz.bu b.data.toList i).getD m2 0:=⟨_,rfl⟩;obtain⟨nZ,jh⟩:∃x,x=(Lz.bu b.data.toList i).getD y9 0:=⟨_,rfl⟩;obtain⟨x7,OR⟩:∃x,x=(Lz.bu b.data.toList i).getD m7 0:=⟨_,rfl⟩
    have HX:Hid (Lz.bu b.data.toList (i+1)=Lz.bu b.data.toList i++[((nZ+x7)+((Lz.aH IT 7 ^^^ Lz.aH IT 18) ^^^ (IT>>>3)))+((Lz.aH x2 17 ^^^ Lz.aH x2 19) ^^^ (x2>>>10))]):=by
     show _=_;rw[Lz.bu,if_neg tN,<-aaK,<-tL,<-OX,<-hm7,<-VX,<-tJ,<-jh,<-OR];rfl
    have Hc:Hid (∀V,nd b.data.toList (w.heap.size+1) i V->((V.cell? ⟨w.heap.size+1,Uc,none⟩=some (.int .u32 (N32 IT))/\V.cell? ⟨w.heap.size+1,m2,none⟩=some (.int .u32 (N32 x2)))/\V.cell? ⟨w.heap.size+1,y9,none⟩=some (.int .u32 (N32 nZ))/\V.cell? ⟨w.heap.size+1,m7,none⟩=some (.int .u32 (N32 x7)))):=Ih (fun V hV=>⟨⟨by rw[VX];exact hV.cell _ l15,by rw[tJ];exact hV.cell _ l2⟩,by rw[jh];exact hV.cell _ l16,by rw[OR];exact hV.cell _ l7⟩);have k7:Hid (∀W,Calls Tryz.prog 139 #[.int .u32 (N32 IT),.int .i64 7] W fun e w'=>e=.returned (.int .u32 (N32 (Lz.aH IT 7)))/\W=w'):=Ih (fun W=>gA IT 7 (by omega) (by omega) W);have k18:Hid (∀W,Calls Tryz.prog 139 #[.int .u32 (N32 IT),.int .i64 18] W fun e w'=>e=.returned (.int .u32 (N32 (Lz.aH IT 18)))/\W=w'):=Ih (fun W=>gA IT 18 (by omega) (by omega) W);have k17:Hid (∀W,Calls Tryz.prog 139 #[.int .u32 (N32 x2),.int .i64 17] W fun e w'=>e=.returned (.int .u32 (N32 (Lz.aH x2 17)))/\W=w'):=Ih (fun W=>gA x2 17 (by omega) (by omega) W)
    have k19:Hid (∀W,Calls Tryz.prog 139 #[.int .u32 (N32 x2),.int .i64 19] W fun e w'=>e=.returned (.int .u32 (N32 (Lz.aH x2 19)))/\W=w'):=Ih (fun W=>gA x2 19 (by omega) (by omega) W);have n3:=nr3;have n10:=aaP;have fx:=rq;have fp:=jx;clear aaK tL OX hm7 VX tJ jh OR;obtain⟨⟨aaO,sO⟩,_⟩:=Hc.out wr.drew hR.drew
    go_upto_region 7 with fail
    refine wp_region_held_drew (S:=fun V=>((V.cell? ⟨w.heap.size+1,Uc,none⟩=some (.int .u32 (N32 IT))/\V.cell? ⟨w.heap.size+1,m2,none⟩=some (.int .u32 (N32 x2)))/\(nd b.data.toList (w.heap.size+1) i V/\xu w.heap.size V))/\Below w.heap.size w V) (by kernel_rfl) ⟨⟨⟨aaO,sO⟩,hR.drew,hZ⟩,aC.drew⟩ (fun af=>?_);generalize wr.drew=W0 at af⊢;apply TkG 0 43;apply TkG 1 44;apply TkG 2 45;apply TkG 3 46;apply TkG 4 47;apply TkG 5 48;apply TkG 6 49;apply TkG 7 50;apply TkG 8 5;apply TkG 9 6
    iterate 10 (rotate_right 2;(·(intro W ar;(try dsimp only at ar);(try simp only[Act.put]);(try simp only[List.setIfInBounds_toArray]);(try simp only[List.set_cons_zero,List.set_cons_succ]);go_simp;try with_reducible rfl)))
    (try simp only[Act.put]);(try simp only[List.setIfInBounds_toArray]);(try simp only[List.set_cons_zero,List.set_cons_succ])
    refine wpAnyH_done (by kernel_rfl) ?_ _;obtain⟨⟨_,nX,hZ0⟩,pD⟩:=af;clear aaO sO;obtain⟨_,Gk,WE⟩:=Hc.out W0.drew nX.drew
    go_upto_region 8 with fail
    have jq:=nX.drew;have Z4:xu w.heap.size W0.drew:=hZ0;refine wp_region_held_drew (S:=fun V=>(V.cell? ⟨w.heap.size+1,y9,none⟩=some (.int .u32 (N32 nZ))/\V.cell? ⟨w.heap.size+1,m7,none⟩=some (.int .u32 (N32 x7)))/\Below w.heap.size w V) (by kernel_rfl) ⟨⟨Gk,WE⟩,pD.drew⟩ (fun af=>?_);generalize W0.drew=W1 at af jq Z4⊢;apply TkG 0 51;apply TkG 1 52;apply TkG 2 53;apply TkG 3 54;apply TkG 4 55;apply TkG 5 56;apply TkG 6 57;apply TkG 7 58;apply TkG 8 59;apply TkG 9 60;apply TkG 10 61;apply TkG 12 63;apply TkG 15 66;apply TkG 16 67
    apply TkG 19 70;apply TkG 21 72;apply TkG 24 75;apply TkG 25 76
    iterate 18 (rotate_right 2;(·(intro W ar;(try dsimp only at ar);(try simp only[Act.put]);(try simp only[List.setIfInBounds_toArray]);(try simp only[List.set_cons_zero,List.set_cons_succ]);go_simp;try with_reducible rfl)))
    (try simp only[Act.put]);(try simp only[List.setIfInBounds_toArray]);(try simp only[List.set_cons_zero,List.set_cons_succ])
    refine wpAnyH_ready (rs:=[11]) (by kernel_rfl) (by simp) ?_;refine AllReadyH.cons rfl (fun K hK=>?_) AllReadyH.nil;go_simp
    go_at_call 139
    refine(k7.out _).mono ?_;rintro e w5 ⟨rfl,rfl⟩;refine hK.out _ _ af (fun af=>?_);clear hK K
    (try simp only[Act.put]);(try simp only[List.setIfInBounds_toArray]);(try simp only[List.set_cons_zero,List.set_cons_succ])
    refine wpAnyH_ready (rs:=[13]) (by kernel_rfl) (by simp) ?_;refine AllReadyH.cons rfl (fun K hK=>?_) AllReadyH.nil;go_simp
    go_at_call 139
    refine(k18.out _).mono ?_;rintro e w5 ⟨rfl,rfl⟩;refine hK.out _ _ af (fun af=>?_);clear hK K
    (try simp only[Act.put]);(try simp only[List.setIfInBounds_toArray]);(try simp only[List.set_cons_zero,List.set_cons_succ])
    apply TkG 14 65;apply TkG 17 68;apply TkG 18 69
    iterate 3 (rotate_right 2;(·(intro W ar;(try dsimp only at ar);(try simp only[Act.put]);(try simp only[List.setIfInBounds_toArray]);(try simp only[List.set_cons_zero,List.set_cons_succ]);go_simp;try with_reducible rfl)))
    (try simp only[Act.put]);(try simp only[List.setIfInBounds_toArray]);(try simp only[List.set_cons_zero,List.set_cons_succ])
    refine wpAnyH_ready (rs:=[20]) (by kernel_rfl) (by simp) ?_;refine AllReadyH.cons rfl (fun K hK=>?_) AllReadyH.nil;go_simp
    go_at_call 139
    refine(k17.out _).mono ?_;rintro e w5 ⟨rfl,rfl⟩;refine hK.out _ _ af (fun af=>?_);clear hK K
    (try simp only[Act.put]);(try simp only[List.setIfInBounds_toArray]);(try simp only[List.set_cons_zero,List.set_cons_succ])
    refine wpAnyH_ready (rs:=[22]) (by kernel_rfl) (by simp) ?_;refine AllReadyH.cons rfl (fun K hK=>?_) AllReadyH.nil;go_simp
    go_at_call 139
    refine(k19.out _).mono ?_;rintro e w5 ⟨rfl,rfl⟩;refine hK.out _ _ af (fun af=>?_);clear hK K
    (try simp only[Act.put]);(try simp only[List.setIfInBounds_toArray]);(try simp only[List.set_cons_zero,List.set_cons_succ])
    apply TkG 23 74;apply TkG 26 77;apply TkG 27 78;apply TkG 28 79
    iterate 4 (rotate_right 2;(·(intro W ar;(try dsimp only at ar);(try simp only[Act.put]);(try simp only[List.setIfInBounds_toArray]);(try simp only[List.set_cons_zero,List.set_cons_succ]);go_simp;try with_reducible rfl)))
    (try simp only[Act.put]);(try simp only[List.setIfInBounds_toArray]);(try simp only[List.set_cons_zero,List.set_cons_succ])
    obtain⟨bH,mo⟩:=jq.open aL;refine wpAnyH_ready (rs:=[29]) (by kernel_rfl) (by simp) ?_;refine AllReadyH.cons rfl (fun K hK=>?_) AllReadyH.nil;go_simp;refine hK.out _ _ ⟨⟨(World.cell?_setCell_other _ _ _ _ (by first |(simp;done)|(simp;omega))).trans af.1.1,(World.cell?_setCell_other _ _ _ _ (by first |(simp;done)|(simp;omega))).trans af.1.2⟩,af.2.setCell (Nat.le_succ _) _⟩ (fun af=>?_);clear hK K
    (try simp only[Act.put]);(try simp only[List.setIfInBounds_toArray]);(try simp only[List.set_cons_zero,List.set_cons_succ])
    refine wpAnyH_done (by kernel_rfl) ?_ _;have hS:=jq.store aL _ HX.out;have hB:=af.2;have Xq:=Z4.set (k:=i) (v:=.int .u32 (N32 (((nZ+x7)+((Lz.aH IT 7 ^^^ Lz.aH IT 18) ^^^ (IT>>>3)))+((Lz.aH x2 17 ^^^ Lz.aH x2 19) ^^^ (x2>>>10))))) (show w.heap.size≠w.heap.size+1 by omega);clear nX jq bH mo af
    go_wp2_with fail
    go_roundw
    case rel=>exact⟨i+1,by go_num,by omega,hS,hB,Xq⟩
    case measure=>simp[intOf];omega
  ·have Pb:i=64:=by omega
   subst Pb;have aK:¬(((64:Nat):Int)<64):=by omega
   have nW:wr.heap[w.heap.size+1]? =some (.cells (bV (Lz.bu b.data.toList 64)).toArray 190 (0,0)):=by
    have h:=hR;unfold nd at h
    rwa [Nat.sub_self,List.replicate_zero,List.append_nil]at h
   clear hR
   go_wp2_with (first |(refine wpList_load_row rfl 190 (.tmp 3) rfl (w.heap.size+1) rfl 190 _ (0,0) _ nW Tryz.underlying190 rfl (by rw[List.size_toArray,nc,Lz.bL];exact uj) ?_)|(refine wpList_store_row rfl 190 (.tmp 2) (.tmp 81) rfl w.heap.size _ rfl rfl 190 (bV FL).toArray hZ (by rw[List.size_toArray,nc,Lz.bL];exact uj) (by rw[List.size_toArray,List.size_toArray,nc,nc,Lz.bL];rfl) (vH _) ?_))
   refine bodyPost_ret (results_cell_row (P:=Tryz.prog) (p:=2) rfl _ _ w.heap.size 190 _ (0,0) _ rfl (setRow_heap _ _ _ _ _ _ hZ) Tryz.underlying190 rfl (by rw[List.size_toArray,nc,Lz.bL];exact uj)) rfl ?_;exact⟨rfl,aR aC (Nat.le_refl _)⟩
theorem Nh:(Tryz.prog.info? 123).map (·.size)=some 1:=by kernel_rfl
theorem JX (l:List UInt32):∀v∈bV l,v.oneCell'=true:=by
 intro v hv;unfold bV at hv;obtain⟨x,_,rfl⟩:=List.mem_map.1 hv;rfl
def V8 (R:Nat) (s:Lz.St8 UInt32) (w:World):Prop:=w.heap[R]? =some (.cells (bV s.list).toArray 127 (0,0))
theorem V8.drew {R:Nat} {s:Lz.St8 UInt32} {w:World} (h:V8 R s w):V8 R s w.drew:=h
def ED (aP:List UInt32) (w:World):Prop:=2<w.heap.size/\∀i,i<64->w.cell? ⟨2,i,none⟩=some (.int .u32 (N32 (aP.getD i 0)))
theorem iQ:(Tryz.prog.info? 127).map (·.size)=some 8:=by kernel_rfl
theorem P9 (l:List UInt32) (hl:l.length=64) (i:Nat) (hi:i<64) (w:World):(Instr.index 190 (.agg (bV l).toArray) (.int .i64 (i:Int))).run Tryz.prog w=.ok (.int .u32 (N32 (l.getD i 0))) w:=by
 unfold Instr.index;have h0:(0:Int)<=(i:Int):=by omega
 have AP:(bV l)[i]? =some (.int .u32 (N32 (l.getD i 0))):=by
  unfold bV;rw[List.getElem?_map,List.getD_eq_getElem?_getD,List.getElem?_eq_getElem (by omega)];rfl
 have hp:∀W,(part 123 (bV l).toArray i).run Tryz.prog W=.ok (.int .u32 (N32 (l.getD i 0))) W:=fun W=>by
  unfold part
  simp[run_isAgg_plain (P:=Tryz.prog) Tryz.underlying123 rfl,AP]
 simp[run_underlying Tryz.underlying190,asIntOf,h0,hp,hi]
theorem V8.open {R:Nat} {s:Lz.St8 UInt32} {w:World} (h:V8 R s w) (k:Nat) (x:UInt32) (hx:s.list[k]? =some x):w.cell? ⟨R,k,none⟩=some (.int .u32 (N32 x))/\w.frozen? ⟨R,k,none⟩=false:=by
 have hr:=rowAt h k (.int .u32 (N32 x)) (by rw[List.getElem?_toArray];unfold bV;rw[List.getElem?_map,hx];rfl);refine⟨hr,?_⟩;unfold V8 at h
 simp[World.frozen?,h]
theorem Ny (l:List UInt32) (hl:l.length=8) (i:Nat) (hi:i<8) (w:World):(Instr.index 127 (.agg (bV l).toArray) (.int .i64 (i:Int))).run Tryz.prog w=.ok (.int .u32 (N32 (l.getD i 0))) w:=by
 unfold Instr.index;have h0:(0:Int)<=(i:Int):=by omega
 have AP:(bV l)[i]? =some (.int .u32 (N32 (l.getD i 0))):=by
  unfold bV;rw[List.getElem?_map,List.getD_eq_getElem?_getD,List.getElem?_eq_getElem (by omega)];rfl
 have hp:∀W,(part 123 (bV l).toArray i).run Tryz.prog W=.ok (.int .u32 (N32 (l.getD i 0))) W:=fun W=>by
  unfold part
  simp[run_isAgg_plain (P:=Tryz.prog) Tryz.underlying123 rfl,AP]
 simp[run_underlying Tryz.underlying127,asIntOf,h0,hp,hi]
def Kg (h s:Lz.St8 UInt32) (i:Nat):List UInt32:=(List.range 8).map fun j=>if j<i then h.list.getD j 0+s.list.getD j 0 else h.list.getD j 0
theorem Qg (h s:Lz.St8 UInt32) (i:Nat) (hi:i<8):(Kg h s i)[i]? =some (h.list.getD i 0):=by
 obtain rfl|rfl|rfl|rfl|rfl|rfl|rfl|rfl:i=0\/i=1\/i=2\/i=3\/i=4\/i=5\/i=6\/i=7:=by omega
 all_goals rfl
theorem Lt (h s:Lz.St8 UInt32) (i:Nat) (hi:i<8):(Kg h s i).set i (h.list.getD i 0+s.list.getD i 0)=Kg h s (i+1):=by
 obtain rfl|rfl|rfl|rfl|rfl|rfl|rfl|rfl:i=0\/i=1\/i=2\/i=3\/i=4\/i=5\/i=6\/i=7:=by omega
 all_goals rfl
theorem JD (h s:Lz.St8 UInt32):Kg h s 0=h.list:=rfl
theorem NQ (h s:Lz.St8 UInt32):Kg h s 8=(Lz.xc h s).list:=rfl
def ra (hp:Nat) (h s:Lz.St8 UInt32) (i:Nat) (w:World):Prop:=w.heap[hp]? =some (.cells (bV (Kg h s i)).toArray 127 (0,0))
theorem ra.drew {hp:Nat} {h s:Lz.St8 UInt32} {i:Nat} {w:World} (k:ra hp h s i w):ra hp h s i w.drew:=k
theorem ra.open {hp:Nat} {h s:Lz.St8 UInt32} {i:Nat} {w:World} (k:ra hp h s i w) (hi:i<8) {x:UInt32} (hx:h.list.getD i 0=x):w.cell? ⟨hp,i,none⟩=some (.int .u32 (N32 x))/\w.frozen? ⟨hp,i,none⟩=false:=by
 unfold ra at k;have hr:=rowAt k i (.int .u32 (N32 x)) (by rw[List.getElem?_toArray];unfold bV;rw[List.getElem?_map,Qg _ _ _ hi,hx];rfl);exact⟨hr,by simp[World.frozen?,k]⟩
theorem ra.store {hp:Nat} {h s:Lz.St8 UInt32} {i:Nat} {w:World} (k:ra hp h s i w) (hi:i<8) {x y:UInt32} (hx:h.list.getD i 0=x) (hy:s.list.getD i 0=y):ra hp h s (i+1) (w.setCell ⟨hp,i,none⟩ (.int .u32 (N32 (x+y)))):=by
 unfold ra at k⊢;rw[cu k i,<-Lt h s i hi,hx,hy];unfold bV;rw[List.setIfInBounds_toArray,List.map_set]
theorem C3 {R:Nat} {sa sb sc sd se sf sg sz:UInt32} {w:World} (h:V8 R ⟨sa,sb,sc,sd,se,sf,sg,sz⟩ w) (j:Nat) (v:Value) (hj:(bV [sa,sb,sc,sd,se,sf,sg])[j]? =some v):w.cell? ((⟨R,0,none⟩:Addr).add j)=some v:=by
 have aL:j<(bV [sa,sb,sc,sd,se,sf,sg]).length:=(List.getElem?_eq_some_iff.1 hj).1;have e:(⟨R,0,none⟩:Addr).add j=⟨R,j,none⟩:=by simp[Addr.add,eq_comm]
 rw[e];refine rowAt h j v ?_;rw[List.getElem?_toArray];show(bV [sa,sb,sc,sd,se,sf,sg]++bV [sz])[j]? =some v;rw[List.getElem?_append_left aL];exact hj
theorem Nr (aP:List UInt32) (hp B:Nat) (h:Lz.St8 UInt32) (b:ByteArray) (hb:b.size=64) (w:World) (bz:V8 hp h w) (hB:B<=hp) (hT:ED aP w):Calls Tryz.prog 95 #[.pointer (some ⟨hp,0,none⟩),.string b] w fun e w'=>e=.returned (.tuple #[])/\Below B w w'/\V8 hp (Lz.fA aP h b.data.toList) w':=by
 have cS:=Ih (fun W=>FJ b hb W);have Dz:=Ih bz;have HT:=Ih hT;have oj:=aZ bz;clear bz hT;go_enter Tryz.func95,Tryz.ntmps95
 go_wp2_with (first |(refine wpList_load_row rfl 127 (.tmp 14) rfl hp rfl 127 _ (0,0) _ Dz.out Tryz.underlying127 rfl iQ ?_)|(refine wpList_store_row rfl 127 (.tmp 4) (.tmp 15) rfl w.heap.size _ rfl rfl 127 (bV [0,0,0,0,0,0,0,0]).toArray (an _ _) iQ rfl (vH _) ?_))
 have Ox:V8 w.heap.size h ((w.alloc (.cells (bV [0,0,0,0,0,0,0,0]).toArray 127)).setRow w.heap.size (bV h.list).toArray):=setRow_heap _ _ _ _ _ _ (an _ _);have y8:Below w.heap.size w ((w.alloc (.cells (bV [0,0,0,0,0,0,0,0]).toArray 127)).setRow w.heap.size (bV h.list).toArray):=aR ((Below.refl _ w).alloc (Nat.le_refl _) _) (Nat.le_refl _);change Calls _ _ _ ((w.alloc (.cells (bV [0,0,0,0,0,0,0,0]).toArray 127)).setRow w.heap.size (bV h.list).toArray) _;generalize ((w.alloc (.cells (bV [0,0,0,0,0,0,0,0]).toArray 127)).setRow w.heap.size (bV h.list).toArray)=W1 at Ox y8⊢;refine(cS.out W1).mono ?_;rintro e w5 ⟨rfl,bv⟩;have TB:V8 w.heap.size h w5:=by unfold V8;rw[bv.block _ (aZ Ox)];exact Ox
 have hB5:Below w.heap.size w w5:=y8.trans (bv.mono y8.size);clear Ox y8 bv;have xx:=Ih (fun(i:Nat) (hi:i<64) W=>P9 (Lz.bu b.data.toList 64) (Lz.bL _ _) i hi W);obtain⟨L,hL⟩:∃L,L=Lz.bu b.data.toList 64:=⟨_,rfl⟩;rw[<-hL]at xx⊢;obtain⟨A,hA⟩:∃A,A=(bV L).toArray:=⟨_,rfl⟩;rw[<-hA]at xx⊢;clear hA cS
 go_wp2_with fail
 go_loopw [5,6,7,8,9,10,18] (fun _ _ _ _ _ _ k wr=>∃i:Nat,k=.int .i64 i/\i<=64/\V8 w.heap.size (Lz.eT aP b.data.toList h i) wr/\Below w.heap.size w wr) (fun _ _ _ _ _ _ k _=>64-(intOf k).toNat)
 case atStart=>exact⟨0,rfl,by omega,TB,hB5⟩
 case round=>
  obtain⟨i,rfl,hi,h8,aC⟩:=hrel;by_cases aL:i<64
  ·have aK:(i:Int)<64:=by omega
   have j6:(0:Int)<=(i:Int)/\(i:Int)<64:=by omega
   have wy:=xx.out i aL;obtain⟨s,hs⟩:∃s,s=Lz.eT aP b.data.toList h i:=⟨_,rfl⟩;obtain⟨ki,Gq⟩:∃k,k=aP.getD i 0:=⟨_,rfl⟩;obtain⟨xi,Xt⟩:∃k,k=L.getD i 0:=⟨_,rfl⟩
   have HX:Hid (Lz.eT aP b.data.toList h (i+1)=Lz.SS s ki xi):=by
    show _=_;rw[Lz.eT,<-hs,<-hL,<-Gq,<-Xt]
   rw[<-hs]at h8;rw[<-Xt]at wy;have mf:=(HT.out.2 i aL);rw[<-Gq]at mf;have wG:=HT.out.1;clear hs Gq Xt;obtain⟨sa,sb,sc,sd,se,sf,sg,sz⟩:=s;have hC:Hid (∀V,V8 w.heap.size ⟨sa,sb,sc,sd,se,sf,sg,sz⟩ V->Below w.heap.size w V->((V.cell? ⟨w.heap.size,0,none⟩=some (.int .u32 (N32 sa))/\V.cell? ⟨w.heap.size,1,none⟩=some (.int .u32 (N32 sb))/\V.cell? ⟨w.heap.size,2,none⟩=some (.int .u32 (N32 sc))/\V.cell? ⟨w.heap.size,3,none⟩=some (.int .u32 (N32 sd))/\V.cell? ⟨w.heap.size,4,none⟩=some (.int .u32 (N32 se))/\V.cell? ⟨w.heap.size,5,none⟩=some (.int .u32 (N32 sf))/\V.cell? ⟨w.heap.size,6,none⟩=some (.int .u32 (N32 sg))/\V.cell? ⟨w.heap.size,7,none⟩=some (.int .u32 (N32 sz)))/\V.cell? ⟨2,i,none⟩=some (.int .u32 (N32 ki)))/\V8 w.heap.size ⟨sa,sb,sc,sd,se,sf,sg,sz⟩ V/\Below w.heap.size w V):=Ih (fun V hV hb=>⟨⟨⟨rowAt hV 0 _ rfl,rowAt hV 1 _ rfl,rowAt hV 2 _ rfl,rowAt hV 3 _ rfl,rowAt hV 4 _ rfl,rowAt hV 5 _ rfl,rowAt hV 6 _ rfl,rowAt hV 7 _ rfl⟩,by rw[hb.cell wG];exact mf⟩,hV,hb⟩);have k6:Hid (∀W,Calls Tryz.prog 139 #[.int .u32 (N32 se),.int .i64 6] W fun e w'=>e=.returned (.int .u32 (N32 (Lz.aH se 6)))/\W=w'):=Ih (fun W=>gA se 6 (by omega) (by omega) W)
   have k11:Hid (∀W,Calls Tryz.prog 139 #[.int .u32 (N32 se),.int .i64 11] W fun e w'=>e=.returned (.int .u32 (N32 (Lz.aH se 11)))/\W=w'):=Ih (fun W=>gA se 11 (by omega) (by omega) W);have k25:Hid (∀W,Calls Tryz.prog 139 #[.int .u32 (N32 se),.int .i64 25] W fun e w'=>e=.returned (.int .u32 (N32 (Lz.aH se 25)))/\W=w'):=Ih (fun W=>gA se 25 (by omega) (by omega) W);have k2:Hid (∀W,Calls Tryz.prog 139 #[.int .u32 (N32 sa),.int .i64 2] W fun e w'=>e=.returned (.int .u32 (N32 (Lz.aH sa 2)))/\W=w'):=Ih (fun W=>gA sa 2 (by omega) (by omega) W);have k13:Hid (∀W,Calls Tryz.prog 139 #[.int .u32 (N32 sa),.int .i64 13] W fun e w'=>e=.returned (.int .u32 (N32 (Lz.aH sa 13)))/\W=w'):=Ih (fun W=>gA sa 13 (by omega) (by omega) W);have k22:Hid (∀W,Calls Tryz.prog 139 #[.int .u32 (N32 sa),.int .i64 22] W fun e w'=>e=.returned (.int .u32 (N32 (Lz.aH sa 22)))/\W=w'):=Ih (fun W=>gA sa 22 (by omega) (by omega) W);have fx:=rq;have fp:=jx;have fa:=KA;have fn:∀a,bits .xor .u32 (if IntKind.u32.signed=true then -1 else IntKind.u32.max) (N32 a)=N32 (~~~a):=Vl;clear mf wG hi
   go_upto_region 4 with fail
   refine wp_region_held_drew (S:=fun V=>((V.cell? ⟨w.heap.size,0,none⟩=some (.int .u32 (N32 sa))/\V.cell? ⟨w.heap.size,1,none⟩=some (.int .u32 (N32 sb))/\V.cell? ⟨w.heap.size,2,none⟩=some (.int .u32 (N32 sc))/\V.cell? ⟨w.heap.size,3,none⟩=some (.int .u32 (N32 sd))/\V.cell? ⟨w.heap.size,4,none⟩=some (.int .u32 (N32 se))/\V.cell? ⟨w.heap.size,5,none⟩=some (.int .u32 (N32 sf))/\V.cell? ⟨w.heap.size,6,none⟩=some (.int .u32 (N32 sg))/\V.cell? ⟨w.heap.size,7,none⟩=some (.int .u32 (N32 sz)))/\V.cell? ⟨2,i,none⟩=some (.int .u32 (N32 ki)))/\V8 w.heap.size ⟨sa,sb,sc,sd,se,sf,sg,sz⟩ V/\Below w.heap.size w V) (by kernel_rfl) (hC.out _ h8.drew aC.drew) (fun af=>?_);generalize wr.drew=W4 at af⊢;apply TkG 0 22;apply TkG 1 23;apply TkG 2 24;apply TkG 3 25;apply TkG 4 7;apply TkG 5 8
   iterate 6 (rotate_right 2;(·(intro W ar;(try dsimp only at ar);(try simp only[Act.put]);(try simp only[List.setIfInBounds_toArray]);(try simp only[List.set_cons_zero,List.set_cons_succ]);go_simp;try with_reducible rfl)))
   (try simp only[Act.put]);(try simp only[List.setIfInBounds_toArray]);(try simp only[List.set_cons_zero,List.set_cons_succ])
   refine wpAnyH_done (by kernel_rfl) ?_ _;obtain⟨h8,aC⟩:=af.2;clear af
   go_upto_region 5 with fail
   refine wp_region_held_drew (S:=fun V=>((V.cell? ⟨w.heap.size,0,none⟩=some (.int .u32 (N32 sa))/\V.cell? ⟨w.heap.size,1,none⟩=some (.int .u32 (N32 sb))/\V.cell? ⟨w.heap.size,2,none⟩=some (.int .u32 (N32 sc))/\V.cell? ⟨w.heap.size,3,none⟩=some (.int .u32 (N32 sd))/\V.cell? ⟨w.heap.size,4,none⟩=some (.int .u32 (N32 se))/\V.cell? ⟨w.heap.size,5,none⟩=some (.int .u32 (N32 sf))/\V.cell? ⟨w.heap.size,6,none⟩=some (.int .u32 (N32 sg))/\V.cell? ⟨w.heap.size,7,none⟩=some (.int .u32 (N32 sz)))/\V.cell? ⟨2,i,none⟩=some (.int .u32 (N32 ki)))/\V8 w.heap.size ⟨sa,sb,sc,sd,se,sf,sg,sz⟩ V/\Below w.heap.size w V) (by kernel_rfl) (hC.out _ h8.drew aC.drew) (fun af=>?_);generalize W4.drew=W5 at af⊢;apply TkG 0 26;apply TkG 1 27;apply TkG 2 28;apply TkG 4 30;apply TkG 7 33;apply TkG 11 37;apply TkG 12 38;apply TkG 13 39
   apply TkG 14 40;apply TkG 15 41;apply TkG 16 42;apply TkG 17 43;apply TkG 18 44;apply TkG 19 45;apply TkG 20 46;apply TkG 22 48;apply TkG 23 49;apply TkG 24 50;apply TkG 26 52
   iterate 19 (rotate_right 2;(·(intro W ar;(try dsimp only at ar);(try simp only[Act.put]);(try simp only[List.setIfInBounds_toArray]);(try simp only[List.set_cons_zero,List.set_cons_succ]);go_simp;try with_reducible rfl)))
   (try simp only[Act.put]);(try simp only[List.setIfInBounds_toArray]);(try simp only[List.set_cons_zero,List.set_cons_succ])
   refine wpAnyH_ready (rs:=[3]) (by kernel_rfl) (by simp) ?_;refine AllReadyH.cons rfl (fun K hK=>?_) AllReadyH.nil;go_simp
   go_at_call 139
   refine(k6.out _).mono ?_;rintro e w5 ⟨rfl,rfl⟩;refine hK.out _ _ af (fun af=>?_);clear hK K
   (try simp only[Act.put]);(try simp only[List.setIfInBounds_toArray]);(try simp only[List.set_cons_zero,List.set_cons_succ])
   refine wpAnyH_ready (rs:=[5]) (by kernel_rfl) (by simp) ?_;refine AllReadyH.cons rfl (fun K hK=>?_) AllReadyH.nil;go_simp
   go_at_call 139
   refine(k11.out _).mono ?_;rintro e w5 ⟨rfl,rfl⟩;refine hK.out _ _ af (fun af=>?_);clear hK K
   (try simp only[Act.put]);(try simp only[List.setIfInBounds_toArray]);(try simp only[List.set_cons_zero,List.set_cons_succ])
   apply TkG 6 32
   iterate 1 (rotate_right 2;(·(intro W ar;(try dsimp only at ar);(try simp only[Act.put]);(try simp only[List.setIfInBounds_toArray]);(try simp only[List.set_cons_zero,List.set_cons_succ]);go_simp;try with_reducible rfl)))
   (try simp only[Act.put]);(try simp only[List.setIfInBounds_toArray]);(try simp only[List.set_cons_zero,List.set_cons_succ])
   refine wpAnyH_ready (rs:=[8]) (by kernel_rfl) (by simp) ?_;refine AllReadyH.cons rfl (fun K hK=>?_) AllReadyH.nil;go_simp
   go_at_call 139
   refine(k25.out _).mono ?_;rintro e w5 ⟨rfl,rfl⟩;refine hK.out _ _ af (fun af=>?_);clear hK K
   (try simp only[Act.put]);(try simp only[List.setIfInBounds_toArray]);(try simp only[List.set_cons_zero,List.set_cons_succ])
   apply TkG 9 35;apply TkG 10 36;apply TkG 21 47;apply TkG 25 51;apply TkG 27 53;apply TkG 28 9
   iterate 6 (rotate_right 2;(·(intro W ar;(try dsimp only at ar);(try simp only[Act.put]);(try simp only[List.setIfInBounds_toArray]);(try simp only[List.set_cons_zero,List.set_cons_succ]);go_simp;try with_reducible rfl)))
   (try simp only[Act.put]);(try simp only[List.setIfInBounds_toArray]);(try simp only[List.set_cons_zero,List.set_cons_succ])
   refine wpAnyH_done (by kernel_rfl) ?_ _;obtain⟨h8,aC⟩:=af.2;clear af
   go_upto_region 6 with fail
   refine wp_region_held_drew (S:=fun V=>((V.cell? ⟨w.heap.size,0,none⟩=some (.int .u32 (N32 sa))/\V.cell? ⟨w.heap.size,1,none⟩=some (.int .u32 (N32 sb))/\V.cell? ⟨w.heap.size,2,none⟩=some (.int .u32 (N32 sc))/\V.cell? ⟨w.heap.size,3,none⟩=some (.int .u32 (N32 sd))/\V.cell? ⟨w.heap.size,4,none⟩=some (.int .u32 (N32 se))/\V.cell? ⟨w.heap.size,5,none⟩=some (.int .u32 (N32 sf))/\V.cell? ⟨w.heap.size,6,none⟩=some (.int .u32 (N32 sg))/\V.cell? ⟨w.heap.size,7,none⟩=some (.int .u32 (N32 sz)))/\V.cell? ⟨2,i,none⟩=some (.int .u32 (N32 ki)))/\V8 w.heap.size ⟨sa,sb,sc,sd,se,sf,sg,sz⟩ V/\Below w.heap.size w V) (by kernel_rfl) (hC.out _ h8.drew aC.drew) (fun af=>?_);generalize W5.drew=W6 at af⊢;apply TkG 0 54;apply TkG 2 56;apply TkG 5 59;apply TkG 8 62;apply TkG 9 63;apply TkG 10 64;apply TkG 11 65;apply TkG 12 66
   apply TkG 13 67;apply TkG 14 68;apply TkG 15 69;apply TkG 16 70;apply TkG 17 71;apply TkG 18 72;apply TkG 19 73;apply TkG 20 74;apply TkG 21 75;apply TkG 22 76
   iterate 18 (rotate_right 2;(·(intro W ar;(try dsimp only at ar);(try simp only[Act.put]);(try simp only[List.setIfInBounds_toArray]);(try simp only[List.set_cons_zero,List.set_cons_succ]);go_simp;try with_reducible rfl)))
   (try simp only[Act.put]);(try simp only[List.setIfInBounds_toArray]);(try simp only[List.set_cons_zero,List.set_cons_succ])
   refine wpAnyH_ready (rs:=[1]) (by kernel_rfl) (by simp) ?_;refine AllReadyH.cons rfl (fun K hK=>?_) AllReadyH.nil;go_simp
   go_at_call 139
   refine(k2.out _).mono ?_;rintro e w5 ⟨rfl,rfl⟩;refine hK.out _ _ af (fun af=>?_);clear hK K
   (try simp only[Act.put]);(try simp only[List.setIfInBounds_toArray]);(try simp only[List.set_cons_zero,List.set_cons_succ])
   refine wpAnyH_ready (rs:=[3]) (by kernel_rfl) (by simp) ?_;refine AllReadyH.cons rfl (fun K hK=>?_) AllReadyH.nil;go_simp
   go_at_call 139
   refine(k13.out _).mono ?_;rintro e w5 ⟨rfl,rfl⟩;refine hK.out _ _ af (fun af=>?_);clear hK K
   (try simp only[Act.put]);(try simp only[List.setIfInBounds_toArray]);(try simp only[List.set_cons_zero,List.set_cons_succ])
   apply TkG 4 58
   iterate 1 (rotate_right 2;(·(intro W ar;(try dsimp only at ar);(try simp only[Act.put]);(try simp only[List.setIfInBounds_toArray]);(try simp only[List.set_cons_zero,List.set_cons_succ]);go_simp;try with_reducible rfl)))
   (try simp only[Act.put]);(try simp only[List.setIfInBounds_toArray]);(try simp only[List.set_cons_zero,List.set_cons_succ])
   refine wpAnyH_ready (rs:=[6]) (by kernel_rfl) (by simp) ?_;refine AllReadyH.cons rfl (fun K hK=>?_) AllReadyH.nil;go_simp
   go_at_call 139
   refine(k22.out _).mono ?_;rintro e w5 ⟨rfl,rfl⟩;refine hK.out _ _ af (fun af=>?_);clear hK K
   (try simp only[Act.put]);(try simp only[List.setIfInBounds_toArray]);(try simp only[List.set_cons_zero,List.set_cons_succ])
   apply TkG 7 61;apply TkG 23 77;apply TkG 24 10
   iterate 3 (rotate_right 2;(·(intro W ar;(try dsimp only at ar);(try simp only[Act.put]);(try simp only[List.setIfInBounds_toArray]);(try simp only[List.set_cons_zero,List.set_cons_succ]);go_simp;try with_reducible rfl)))
   (try simp only[Act.put]);(try simp only[List.setIfInBounds_toArray]);(try simp only[List.set_cons_zero,List.set_cons_succ])
   refine wpAnyH_done (by kernel_rfl) ?_ _;obtain⟨h8,aC⟩:=af.2;clear af
   go_upto_region 7 with fail
   have nX:=h8.drew;refine wp_region_held_drew (S:=fun V=>Below w.heap.size w V) (by kernel_rfl) aC.drew (fun af=>?_);generalize W6.drew=W7 at af nX⊢;apply TkG 0 78;apply TkG 1 79
   iterate 2 (rotate_right 2;(·(intro W ar;(try dsimp only at ar);(try simp only[Act.put]);(try simp only[List.setIfInBounds_toArray]);(try simp only[List.set_cons_zero,List.set_cons_succ]);go_simp;try with_reducible rfl)))
   (try simp only[Act.put]);(try simp only[List.setIfInBounds_toArray]);(try simp only[List.set_cons_zero,List.set_cons_succ])
   refine wpAnyH_ready (rs:=[2]) (by kernel_rfl) (by simp) ?_;refine AllReadyH.cons rfl (fun K hK=>?_) AllReadyH.nil;refine step_copy_splice rfl (.tmp 78) (.tmp 79) 162 162 rfl 123 Tryz.underlying162 Nh (some ⟨w.heap.size,1,none⟩) (some ⟨w.heap.size,0,none⟩) 7 7 7 8 rfl rfl w.heap.size 1 (bV [sa,sb,sc,sd,se,sf,sg,sz]) 127 nX (bV [sa,sb,sc,sd,se,sf,sg]) rfl (fun _=>⟨rfl,_,rfl,C3 nX⟩) (Nat.le_refl _) (JX _) w.heap.size w af (Nat.le_refl _) ?_;intro w7 hg7 ll;refine hK.out _ _ ll (fun af=>?_);clear hK K
   (try simp only[Act.put]);(try simp only[List.setIfInBounds_toArray]);(try simp only[List.set_cons_zero,List.set_cons_succ])
   have h8:V8 w.heap.size ⟨sa,sa,sb,sc,sd,se,sf,sg⟩ w7:=hg7.out;clear hg7 ll nX;refine wpAnyH_done (by kernel_rfl) ?_ _;obtain⟨c4,f4⟩:=h8.open 4 sd rfl;obtain⟨t,ht⟩:∃t,t=(((sz+((Lz.aH se 6 ^^^ Lz.aH se 11) ^^^ Lz.aH se 25))+((se&&& sf) ^^^ ((~~~se)&&& sg)))+ki)+xi:=⟨_,rfl⟩;obtain⟨y,hy⟩:∃y,y=((Lz.aH sa 2 ^^^ Lz.aH sa 13) ^^^ Lz.aH sa 22)+(((sa&&& sb) ^^^ (sa&&& sc)) ^^^ (sb&&& sc)):=⟨_,rfl⟩;rw[<-ht,<-hy]
   have HX1:Hid (Lz.eT aP b.data.toList h (i+1)=⟨t+y,sa,sb,sc,sd+t,se,sf,sg⟩):=by
    show _=_;rw[HX.out,ht,hy];rfl
   clear ht hy HX k6 k11 k25 k2 k13 k22
   go_upto_region 9 with fail
   have h9:V8 w.heap.size ⟨sa,sa,sb,sc,sd+t,se,sf,sg⟩ (w7.setCell ⟨w.heap.size,4,none⟩ (.int .u32 (N32 (sd+t)))):=cu h8 4 _;have b9:Below w.heap.size w (w7.setCell ⟨w.heap.size,4,none⟩ (.int .u32 (N32 (sd+t)))):=af.setCell (Nat.le_refl _) _;generalize w7.setCell ⟨w.heap.size,4,none⟩ (.int .u32 (N32 (sd+t)))=w9 at h9 b9⊢;clear c4 f4 af h8;obtain⟨c0,f0⟩:=h9.open 0 sa rfl
   go_wp2_with fail
   have Ts:V8 w.heap.size ⟨t+y,sa,sb,sc,sd+t,se,sf,sg⟩ (w9.setCell ⟨w.heap.size,0,none⟩ (.int .u32 (N32 (t+y)))):=cu h9 0 _;have Lr:Below w.heap.size w (w9.setCell ⟨w.heap.size,0,none⟩ (.int .u32 (N32 (t+y)))):=b9.setCell (Nat.le_refl _) _
   go_roundw
   case rel=>exact⟨i+1,by go_num,by omega,by rw[HX1.out];exact Ts,Lr⟩
   case measure=>simp[intOf];omega
  ·have Pb:i=64:=by omega
   subst Pb;have aK:¬(((64:Nat):Int)<64):=by omega
   go_wp2_with (first |(refine wpList_load_row rfl 127 (.tmp 4) rfl w.heap.size rfl 127 _ (0,0) _ h8 Tryz.underlying127 rfl iQ ?_))
   have hV2:ra hp h (Lz.eT aP b.data.toList h 64) 0 wr:=by
    unfold ra;rw[JD,aC.block _ oj];exact Dz.out
   have aE:Below B w wr:=aC.mono (by omega);clear h8 aC;obtain⟨s,hs⟩:∃s,s=Lz.eT aP b.data.toList h 64:=⟨_,rfl⟩;have HE:Hid (Lz.fA aP h b.data.toList=Lz.xc h s):=by show _=_;rw[hs];rfl
   rw[<-hs]at hV2⊢;clear hs;have sQ:=Ih (fun(i:Nat) (hi:i<8) W=>Ny s.list rfl i hi W);obtain⟨A8,TL⟩:∃A,A=(bV s.list).toArray:=⟨_,rfl⟩;rw[<-TL]at sQ⊢;clear TL
   go_loopw [11,12,92] (fun _ _ k wr=>∃i:Nat,k=.int .i64 i/\i<=8/\ra hp h s i wr/\Below B w wr) (fun _ _ k _=>8-(intOf k).toNat)
   case atStart=>exact⟨0,rfl,by omega,hV2,aE⟩
   case round=>
    obtain⟨i,rfl,hi,hA,aC⟩:=hrel;by_cases aL:i<8
    ·have aK:(i:Int)<8:=by omega
     have j6:(0:Int)<=(i:Int)/\(i:Int)<8:=by omega
     have wy:=sQ.out i aL;obtain⟨x,hx⟩:∃x,h.list.getD i 0=x:=⟨_,rfl⟩;obtain⟨y,hy⟩:∃y,s.list.getD i 0=y:=⟨_,rfl⟩;rw[hy]at wy;have fp:=jx;have Hx:=Ih hx;have Hy:=Ih hy;clear hy
     go_upto_region 14 with fail
     have GC:=hA.drew;refine wp_region_held_drew (S:=fun V=>Below B w V) (by kernel_rfl) aC.drew (fun af=>?_);generalize wr.drew=W1 at af GC⊢;obtain⟨bH,mo⟩:=GC.open aL hx;apply TkG 0 96;apply TkG 1 97;apply TkG 2 98;apply TkG 3 99;apply TkG 5 101;apply TkG 7 103
     iterate 6 (rotate_right 2;(·(intro W ar;(try dsimp only at ar);(try simp only[Act.put]);(try simp only[List.setIfInBounds_toArray]);(try simp only[List.set_cons_zero,List.set_cons_succ]);go_simp;try with_reducible rfl)))
     (try simp only[Act.put]);(try simp only[List.setIfInBounds_toArray]);(try simp only[List.set_cons_zero,List.set_cons_succ])
     refine wpAnyH_ready (rs:=[4]) (by kernel_rfl) (by simp) ?_;refine AllReadyH.cons rfl (fun K hK=>?_) AllReadyH.nil;go_simp;refine hK.out _ _ af (fun af=>?_);clear hK K
     (try simp only[Act.put]);(try simp only[List.setIfInBounds_toArray]);(try simp only[List.set_cons_zero,List.set_cons_succ])
     apply TkG 6 102;apply TkG 8 104
     iterate 2 (rotate_right 2;(·(intro W ar;(try dsimp only at ar);(try simp only[Act.put]);(try simp only[List.setIfInBounds_toArray]);(try simp only[List.set_cons_zero,List.set_cons_succ]);go_simp;try with_reducible rfl)))
     (try simp only[Act.put]);(try simp only[List.setIfInBounds_toArray]);(try simp only[List.set_cons_zero,List.set_cons_succ])
     refine wpAnyH_ready (rs:=[9]) (by kernel_rfl) (by simp) ?_;refine AllReadyH.cons rfl (fun K hK=>?_) AllReadyH.nil;go_simp;refine hK.out _ _ (af.setCell hB _) (fun af=>?_);clear hK K
     (try simp only[Act.put]);(try simp only[List.setIfInBounds_toArray]);(try simp only[List.set_cons_zero,List.set_cons_succ])
     refine wpAnyH_done (by kernel_rfl) ?_ _;have hS:=GC.store aL Hx.out Hy.out;clear GC bH mo
     go_wp2_with fail
     go_roundw
     case rel=>exact⟨i+1,by go_num,by omega,hS,af⟩
     case measure=>simp[intOf];omega
    ·have So:i=8:=by omega
     subst So;have aK:¬(((8:Nat):Int)<8):=by omega
     go_wp2_with fail
     go_end0
     refine⟨rfl,aC,?_⟩;unfold V8;rw[HE.out,<-NQ];exact hA
def mL (n i:Nat):List UInt8:=(List.range i).map fun i=>UInt8.ofNat (n*8 / 2^(56-8*i))
theorem xW (n i:Nat):mL n (i+1)=mL n i++[UInt8.ofNat (n*8 / 2^(56-8*i))]:=by
 unfold mL;rw[List.range_succ,List.map_append];rfl
theorem Yz (m:Nat) (hm:m<=1048576) (w:World):(Instr.makeSlice 93 (.int .i64 (m:Int)) (.int .i64 (m:Int))).run Tryz.prog w=.ok (.slice (some ⟨w.heap.size,0,none⟩) m m) (w.alloc (.cells (Array.replicate m (.int .u8 0)) 5)):=by
 obtain⟨i0,hi,eZ,d9,eo⟩:=info_parts Tryz.infoU8;have h:=run_makeSlice (P:=Tryz.prog) w 93 5 i0 (.int .u8 0) Tryz.underlying93 hi eZ .i64 .i64 (m:Int) (m:Int) (by omega) (Int.le_refl _) (by rw[d9];simp;omega) (by rw[eo];omega) (by omega);have e:madeCells #[Value.int .u8 0] m=Array.replicate m (Value.int .u8 0):=by rw[<-Array.toList_inj,toList_madeCells_one,Array.toList_replicate]
 rw[d9,Int.toNat_natCast,Nat.mul_one]at h;rw[<-e];exact h
theorem RR (n:Nat) (hn:n<140737488355328) (w:World):Calls Tryz.prog 96 #[.int .i64 (n:Int)] w fun e w'=>e=.returned (.string ⟨(Lz.lH n).toArray⟩)/\Below w.heap.size w w':=by
 obtain⟨i0,j6,eZ,d9,eo⟩:=info_parts Tryz.infoU8;obtain⟨m,hm⟩:∃m,m=64-(n+8)%64:=⟨_,rfl⟩;have Ax:1<=m:=by omega
 have tL:m<=64:=by omega
 have nY:=Yz m (by omega);have f1:IntKind.i64.wrap ((n:Int)+8)=(n:Int)+8:=IntWalk.i64_in _ (by omega);have f2:64-((n:Int)+8)%64=(m:Int):=by omega
 have HL:Hid (Lz.lH n=(128::List.replicate (m-1) 0)++mL n 8):=by
  show _=_;unfold Lz.lH Lz.wX mL;rw[show m-1=63-(n+8)%64 by omega]
 clear hm
 have lW:(w.alloc (.cells (Array.replicate m (.int .u8 0)) 5)).cell? ⟨w.heap.size,0,none⟩=some (.int .u8 0):=by
  refine rowAt (an _ _) 0 _ ?_;rw[Array.getElem?_replicate,if_pos (by omega)]
 have wL:(w.alloc (.cells (Array.replicate m (.int .u8 0)) 5)).frozen? ⟨w.heap.size,0,none⟩=false:=by
  have h:=an w (.cells (Array.replicate m (.int .u8 0)) 5);exact frozen_of_row _ _ _ _ _ h
 go_enter Tryz.func96,Tryz.ntmps96
 go_wp2_with fail
 have nv:(w.alloc (.cells ((Array.replicate m (.int .u8 0)).setIfInBounds 0 (.int .u8 128)) 5)).ownsRow w.heap.size 5 1 (.slice (some ⟨w.heap.size,0,none⟩) m m) (m+0) (u8s ((128::List.replicate (m-1) 0)++mL n 0)):=by
  have h:=World.ownsRow_lit (base:=w.heap.size) (e:=5) (size:=1) w ((Array.replicate m (.int .u8 0)).setIfInBounds 0 (.int .u8 128)) m (Nat.le_refl _) (by unfold maxLen;omega) (by simp)
  have e:((Array.replicate m (Value.int .u8 0)).setIfInBounds 0 (.int .u8 128)).toList=u8s ((128::List.replicate (m-1) 0)++mL n 0):=by
   rw[Array.toList_setIfInBounds,Array.toList_replicate];obtain⟨k,rfl⟩:∃k,m=k+1:=⟨m-1,by omega⟩;rw[List.replicate_succ,List.set_cons_zero,Nat.add_sub_cancel]
   simp[u8s,mL]
  rwa [e]at h
 have pD:Below w.heap.size w (w.alloc (.cells ((Array.replicate m (.int .u8 0)).setIfInBounds 0 (.int .u8 128)) 5)):=(Below.refl _ w).alloc (Nat.le_refl _) _;generalize w.alloc (.cells ((Array.replicate m (.int .u8 0)).setIfInBounds 0 (.int .u8 128)) 5)=W1 at nv pD⊢;clear lW wL nY f1 f2;obtain⟨pre,ix⟩:∃p:List UInt8,p=128::List.replicate (m-1) 0:=⟨_,rfl⟩;rw[<-ix]at HL nv;clear ix
 go_loopw [3,4,12] (fun v _ k wr=>∃i:Nat,k=.int .i64 i/\i<=8/\wr.ownsRow w.heap.size 5 1 v (m+i) (u8s (pre++mL n i))/\Below w.heap.size w wr) (fun _ _ k _=>8-(intOf k).toNat)
 case atStart=>exact⟨0,rfl,by omega,nv,pD⟩
 case round=>
  obtain⟨i,rfl,hi,ai,hb⟩:=hrel;have bi:=Ih ai;have fu:=hb.size;clear ai;by_cases aL:i<8
  ·have iA:Hid (u8s (pre++mL n i)++[.int .u8 ((n:Int)*8 / 2^(56-8*i)%256)]=u8s (pre++mL n (i+1))):=by
    show _=_;rw[xW,<-List.append_assoc,<-vE,UInt8.toNat_ofNat'];congr 3
   go_wp2_with (at_builtin;refine wpList_append_own _ rfl (.tmp 15) (.tmp 24) 93 rfl w.heap.size 5 i0 (.int .u8 0) 1 1 Tryz.underlying93 j6 eZ d9 eo rfl (by decide) _ _ _ rfl (bi.out.alloc _) ⟨wr.heap.size,0,none⟩ 1 1 [.int .u8 ((n:Int)*8 / 2^(56-8*i)%256)] rfl rfl (aJ _ _ _) (by simp[Value.oneCell']) (by unfold maxLen;omega) (by omega) (by simp;omega) ?_)
   intro v' w1 aS bp _;have av:=Below.grown1 hb bi.out bp fu (Nat.le_refl _);rw[iA.out]at aS;have ir:=Ih aS;clear aS bp iA hb
   go_wp2
   go_roundw
   case rel=>exact⟨i+1,by go_num,by omega,ir.out,av⟩
   case measure=>simp[intOf];omega
  ·obtain rfl:i=8:=by omega
   have kL:=kW bi.out;rw[<-HL.out]at kL;clear bi
   go_wp2
   go_ret;exact⟨rfl,hb⟩
def bU:Lz.St8 UInt32:=⟨0x6a09e667,0xbb67ae85,0x3c6ef372,0xa54ff53a,0x510e527f,0x9b05688c,0x1f83d9ab,0x5be0cd19⟩
theorem JI:(#[.int .u32 1779033703,.int .u32 3144134277,.int .u32 1013904242,.int .u32 2773480762,.int .u32 1359893119,.int .u32 2600822924,.int .u32 528734635,.int .u32 1541459225]:Array Value)=(bV bU.list).toArray:=by kernel_rfl
theorem Kf (w:World):Calls Tryz.prog 94 #[] w fun e w'=>e=.returned (.agg (bV bU.list).toArray)/\Below w.heap.size w w':=by
 go_enter Tryz.func94,Tryz.ntmps94
 go_wp2_with fail
 rw[JI];refine bodyPost_ret (results_cell_row (P:=Tryz.prog) (p:=0) rfl _ _ w.heap.size 127 _ (0,0) _ rfl (an _ _) Tryz.underlying127 rfl (by exact iQ)) rfl ?_;exact⟨rfl,(Below.refl _ w).alloc (Nat.le_refl _) _⟩
theorem kr {α:Type} (f:α->List UInt8->α) (size:Nat):∀(n:Nat) (h:α) (l:List UInt8),Lz.bh f size (n+1) h l=f (Lz.bh f size n h l) ((l.drop (size*n)).take size)
 | 0,h,l=>rfl
 | n+1,h,l=>by
   rw[Lz.bh,kr f size n,Lz.bh,List.drop_drop,Nat.mul_succ,Nat.add_comm size]
theorem V8.keep {R:Nat} {h:Lz.St8 UInt32} {w w':World} (k:V8 R h w) (hb:Below w.heap.size w w'):V8 R h w':=by
 have hl:=aZ k;unfold V8 at k⊢;rw[hb.block _ hl];exact k
theorem kv {s:ByteArray} (h:s.size=0):s.toList.isEmpty=true:=by
 rw[Lib.toList_data,List.isEmpty_iff,<-List.length_eq_zero_iff,ac,h]
theorem lE {s:ByteArray} (h:0<s.size):s.toList.isEmpty=false:=by
 rw[Lib.toList_data];cases hl:s.data.toList with
 | nil=>rw[<-ac,hl]at h;simp at h
 | cons _ _=>rfl
theorem p9 (w:World) (l:List Value) (T:TypeId) (j:Nat) (u:Value) (h:l[j]? =some u):(w.alloc (.cells l.toArray T)).cell? ((⟨w.heap.size,0,none⟩:Addr).add j)=some u:=by
 rw[bD,World.cell?_alloc_mark];simpa using h
theorem QB (y:UInt32):N32 y%256=(y.toUInt8.toNat:Int):=by unfold N32;rw[UInt32.toNat_toUInt8];omega
theorem abm (x:UInt32):([.int .u8 (N32 x / 16777216%256),.int .u8 (N32 x / 65536%256),.int .u8 (N32 x / 256%256),.int .u8 (N32 x%256)]:List Value)=u8s (Lz.ik x):=by
 rw[show(16777216:Int)=2^24 by decide,show(65536:Int)=2^16 by decide,sZ x 24 (by omega),sZ x 16 (by omega)];rw[show N32 x / 256=N32 x / 2^8 by rfl,sZ x 8 (by omega),QB,QB,QB,QB];rfl
theorem ED.keep {aP:List UInt32} {w w':World} (h:ED aP w) (hb:Below w.heap.size w w'):ED aP w':=⟨Nat.lt_of_lt_of_le h.1 hb.size,fun i hi=>by rw[hb.cell h.1];exact h.2 i hi⟩
theorem Ib (aP:List UInt32) (s:ByteArray) (hs:s.size<=1073741824) (w:World) (hT:ED aP w):Calls Tryz.prog 53 #[.string s] w fun e w'=>e=.returned (.string ⟨(Lz.iJ aP bU s.data.toList).toArray⟩)/\Below w.heap.size w w':=by
 obtain⟨i0,j6,eZ,d9,eo⟩:=info_parts Tryz.infoU8;have cT:=Ih (fun hp B h b hb W bz hB hT=>Nr aP hp B h b hb W bz hB hT);have HT:=Ih hT;clear hT;go_enter Tryz.func53,Tryz.ntmps53
 go_wp2_with fail
 refine(Kf _).mono ?_;rintro e w1 ⟨rfl,av⟩;have iz:=av.size
 go_wp2_with (first |(refine wpList_store_row rfl 127 (.tmp 3) (.tmp 10) rfl w1.heap.size _ rfl rfl 127 (bV [0,0,0,0,0,0,0,0]).toArray (an _ _) iQ rfl (vH _) ?_))
 have Ox:V8 w1.heap.size bU ((w1.alloc (.cells (bV [0,0,0,0,0,0,0,0]).toArray 127)).setRow w1.heap.size (bV bU.list).toArray):=setRow_heap _ _ _ _ _ _ (an _ _);have y8:Below w.heap.size w ((w1.alloc (.cells (bV [0,0,0,0,0,0,0,0]).toArray 127)).setRow w1.heap.size (bV bU.list).toArray):=aR (av.alloc iz _) iz;change Code.wp _ _ _ _ ((w1.alloc (.cells (bV [0,0,0,0,0,0,0,0]).toArray 127)).setRow w1.heap.size (bV bU.list).toArray);generalize ((w1.alloc (.cells (bV [0,0,0,0,0,0,0,0]).toArray 127)).setRow w1.heap.size (bV bU.list).toArray)=W2 at Ox y8⊢;generalize w1.heap.size=R at Ox iz⊢;clear av;obtain⟨q,hq⟩:∃q,q=s.size / 64:=⟨_,rfl⟩;have hqI:(s.size:Int) / 64*64=((64*q:Nat):Int):=by omega
 have aaj:(s.size:Int) / 64=(q:Int):=by omega
 obtain⟨KZ,wJ⟩:∃a,a=64*q:=⟨_,rfl⟩;rw[hqI,aaj,<-wJ];have Hq:=Ih hq;have R6:=Ih wJ;clear hq hqI aaj
 go_loopw [5] (fun a wr=>∃i:Nat,a=.int .i64 ((64*i:Nat):Int)/\i<=q/\V8 R (Lz.bh (Lz.fA aP) 64 i bU s.data.toList) wr/\Below w.heap.size w wr) (fun a _=>KZ-(intOf a).toNat)
 case atStart=>exact⟨0,rfl,by omega,Ox,y8⟩
 case round=>
  obtain⟨i,rfl,hi,hV,hb⟩:=hrel;obtain⟨a1,Gg⟩:∃a,a=64*i:=⟨_,rfl⟩;rw[<-Gg];by_cases aL:i<q
  ·have h1:(a1:Int)<(KZ:Int):=by omega
   have h2:(a1:Int)+64<=s.size:=by have:=Hq.out;omega
   have Ha1:=Ih Gg;clear Gg wJ
   go_wp2_with fail
   have mf:=HT.out.keep hb;have hz:(s.extract a1 (a1+64)).size=64:=by rw[ByteArray.size_extract];omega
   refine(cT.out R w.heap.size _ _ hz wr hV iz mf).mono ?_;rintro e w3 ⟨rfl,bj,Wb⟩
   have DT:Hid (V8 R (Lz.bh (Lz.fA aP) 64 (i+1) bU s.data.toList) w3):=by
    show V8 _ _ _;rw[kr,<-Ha1.out];rw[show(s.extract a1 (a1+64)).data.toList=(s.data.toList.drop a1).take 64 by simp[ByteArray.data_extract,List.take_drop]]at Wb;exact Wb
   have eB:=hb.trans bj;clear Wb hV hb bj mf hz
   go_wp2_with fail
   go_roundw
   case rel=>exact⟨i+1,by rw[Ha1.out];go_num,by omega,DT.out,eB⟩
   case measure=>simp[intOf];omega
  ·obtain rfl:i=q:=by omega
   have ti:a1=KZ:=by omega
   subst ti;clear Gg wJ;have h1:¬((a1:Int)<(a1:Int)):=by omega
   have h2:(a1:Int)<=s.size:=by have:=Hq.out;have:=R6.out;omega
   have cE:=Ih (fun W=>RR s.size (by omega) W);obtain⟨pb,xB⟩:∃pb:ByteArray,pb=⟨(Lz.lH s.size).toArray⟩:=⟨_,rfl⟩;have lk:pb.size=72-(s.size+8)%64:=by rw[xB];show(Lz.lH s.size).toArray.size=_;rw[List.size_toArray,Lz.BH]
   have abT:¬9223372036854775807<s.size-a1+pb.size:=by omega
   have Hps:=Ih lk;rw[<-xB]at cE;have Hpb:=Ih xB;clear lk xB
   go_upto_region 7 with fail
   have nX:V8 R _ wr.drew:=hV.drew;refine wp_region_held_drew (S:=fun V=>Below w.heap.size w V) (by kernel_rfl) hb.drew (fun af=>?_);generalize wr.drew=W4 at af nX⊢;apply TkG 0 26;apply TkG 1 27;apply TkG 2 28;apply TkG 3 29;apply TkG 4 30
   iterate 5 (rotate_right 2;(·(intro W ar;(try dsimp only at ar);(try simp only[Act.put]);(try simp only[List.setIfInBounds_toArray]);(try simp only[List.set_cons_zero,List.set_cons_succ]);go_simp;try with_reducible rfl)))
   (try simp only[Act.put]);(try simp only[List.setIfInBounds_toArray]);(try simp only[List.set_cons_zero,List.set_cons_succ])
   refine wpAnyH_ready (rs:=[5]) (by kernel_rfl) (by simp) ?_;refine AllReadyH.cons rfl (fun K hK=>?_) AllReadyH.nil;go_simp
   go_at_call 96
   refine(cE.out W4).mono ?_;rintro e w5 ⟨rfl,bv⟩;have TB:=nX.keep bv;have hB5:=af.trans (bv.mono af.size);refine hK.out _ _ hB5 (fun af=>?_);clear hK K bv nX hB5
   (try simp only[Act.put]);(try simp only[List.setIfInBounds_toArray]);(try simp only[List.set_cons_zero,List.set_cons_succ])
   apply TkG 6 32;apply TkG 7 6
   iterate 2 (rotate_right 2;(·(intro W ar;(try dsimp only at ar);(try simp only[Act.put]);(try simp only[List.setIfInBounds_toArray]);(try simp only[List.set_cons_zero,List.set_cons_succ]);go_simp;try with_reducible rfl)))
   (try simp only[Act.put]);(try simp only[List.setIfInBounds_toArray]);(try simp only[List.set_cons_zero,List.set_cons_succ])
   refine wpAnyH_done (by kernel_rfl) ?_ _
   go_wp2_with fail
   obtain⟨H,hH⟩:∃H,H=Lz.bh (Lz.fA aP) 64 i bU s.data.toList:=⟨_,rfl⟩;rw[<-hH]at TB;have HH:=Ih hH;clear hH;obtain⟨r0,pA⟩:∃r0,r0=s.extract a1 s.size++pb:=⟨_,rfl⟩
   have hk:r0.size%64=0:=by
    have:=Hps.out;have:=R6.out;have:=Hq.out;rw[pA,ByteArray.size_append,ByteArray.size_extract];omega
   have cf:r0.size<=1073742000:=by
    have:=Hps.out;rw[pA,ByteArray.size_append,ByteArray.size_extract];omega
   rw[<-pA];have Hr0:=Ih pA;clear pA;obtain⟨k,AI⟩:∃k,r0.size=64*k:=⟨r0.size / 64,by omega⟩;have Hk0:=Ih AI;clear hk AI hb hV
   go_loopw [6] (fun v wr=>∃(j:Nat) (r:ByteArray),v=.string r/\j<=k/\Hid (r.data.toList=r0.data.toList.drop (64*j))/\V8 R (Lz.bh (Lz.fA aP) 64 j H r0.data.toList) wr/\Below w.heap.size w wr) (fun v _=>match v with| .string r=>r.size|_=>0)
   case atStart=>exact⟨0,r0,rfl,by omega,rfl,TB,af⟩
   case round=>
    obtain⟨j,r,rfl,hj,Hr,hV,hb⟩:=hrel
    have hrs:r.size=64*(k-j):=by
     have h1:r.data.toList.length=(r0.data.toList.drop (64*j)).length:=by rw[Hr.out]
     have h2:=Hk0.out;rw[List.length_drop,ac,ac]at h1;omega
    by_cases aL:j<k
    ·have du:r.toList.isEmpty=false:=lE (by omega);have WZ:(64:Int)<=r.size:=by omega
     have Hrs:=Ih hrs;clear hrs
     go_wp2_with fail
     have mf:=HT.out.keep hb;have hz:(r.extract 0 64).size=64:=by rw[ByteArray.size_extract];omega
     refine(cT.out R w.heap.size _ _ hz wr hV iz mf).mono ?_;rintro e w3 ⟨rfl,bj,Wb⟩
     have DT:Hid (V8 R (Lz.bh (Lz.fA aP) 64 (j+1) H r0.data.toList) w3):=by
      show V8 _ _ _;rw[kr,<-Hr.out];rw[show(r.extract 0 64).data.toList=r.data.toList.take 64 by simp[ByteArray.data_extract]]at Wb;exact Wb
     have eB:=hb.trans bj
     have Lj:Hid ((r.extract 64 r.size).data.toList=r0.data.toList.drop (64*(j+1))):=by
      show _=_;rw[show(r.extract 64 r.size).data.toList=r.data.toList.drop 64 by simp[ByteArray.data_extract,List.take_drop];rw[List.take_of_length_le (by rw[ac];omega)],Hr.out,List.drop_drop,Nat.mul_succ]
     clear Wb hV hb bj mf hz
     go_wp2_with fail
     go_roundw
     case rel=>exact⟨j+1,_,rfl,by omega,Lj,DT.out,eB⟩
     case measure=>simp[ByteArray.size_extract];omega
    ·obtain rfl:j=k:=by omega
     have du:r.toList.isEmpty=true:=kv (by omega)
     go_wp2_with (first |(refine wpList_load_row rfl 127 (.tmp 3) rfl R rfl 127 _ (0,0) _ hV Tryz.underlying127 rfl iQ ?_))
     obtain⟨F,hF⟩:∃F,F=Lz.bh (Lz.fA aP) 64 j H r0.data.toList:=⟨_,rfl⟩;rw[<-hF];have HF:=Ih hF;clear hF hV;have sQ:=Ih (fun(i:Nat) (hi:i<8) W=>Ny F.list rfl i hi W);obtain⟨A8,TL⟩:∃A,A=(bV F.list).toArray:=⟨_,rfl⟩;rw[<-TL]at sQ⊢;clear TL
     go_loopw [7,9,41] (fun v _ k wr=>∃i:Nat,k=.int .i64 i/\i<=8/\wr.ownsRow w.heap.size 5 1 v (4*i) (u8s ((F.list.take i).flatMap Lz.ik))/\Below w.heap.size w wr) (fun _ _ k _=>8-(intOf k).toNat)
     case atStart=>exact⟨0,rfl,by omega,World.ownsRow_nil _ _ _ _,hb⟩
     case round=>
      obtain⟨i8,rfl,So,ai,hb⟩:=hrel;have bi:=Ih ai;have fu:=hb.size;clear ai;by_cases aL:i8<8
      ·have aK:(i8:Int)<8:=by omega
       have abX:(0:Int)<=(i8:Int)/\(i8:Int)<8:=by omega
       have wy:=sQ.out i8 aL;obtain⟨x,hx⟩:∃x,F.list.getD i8 0=x:=⟨_,rfl⟩;rw[hx]at wy;have Hx:=Ih hx;clear hx
       have iA:Hid (u8s ((F.list.take i8).flatMap Lz.ik)++[.int .u8 (N32 x / 16777216%256),.int .u8 (N32 x / 65536%256),.int .u8 (N32 x / 256%256),.int .u8 (N32 x%256)]=u8s ((F.list.take (i8+1)).flatMap Lz.ik)):=by
        show _=_;have h8:i8<F.list.length:=aL;rw[abm,zj,List.take_succ_eq_append_getElem h8,List.flatMap_append,<-Hx.out,List.getD_eq_getElem?_getD,List.getElem?_eq_getElem h8]
        simp
       go_wp2_with (at_builtin;refine wpList_append_own _ rfl (.tmp 44) (.tmp 56) 93 rfl w.heap.size 5 i0 (.int .u8 0) 1 1 Tryz.underlying93 j6 eZ d9 eo rfl (by decide) _ _ _ rfl (bi.out.alloc _) ⟨wr.heap.size,0,none⟩ 4 4 [.int .u8 (N32 x / 16777216%256),.int .u8 (N32 x / 65536%256),.int .u8 (N32 x / 256%256),.int .u8 (N32 x%256)] rfl rfl (p9 wr [.int .u8 (N32 x / 16777216%256),.int .u8 (N32 x / 65536%256),.int .u8 (N32 x / 256%256),.int .u8 (N32 x%256)] _) (by simp[Value.oneCell']) (by unfold maxLen;omega) (by omega) (by simp;omega) ?_)
       intro v' w9 aS bp _;have IJ:=Below.grown1 hb bi.out bp fu (Nat.le_refl _);rw[iA.out]at aS;have ir:=Ih aS;clear aS bp iA hb
       go_wp2
       go_roundw
       case rel=>exact⟨i8+1,by go_num,by omega,by rw[Nat.mul_succ];exact ir.out,IJ⟩
       case measure=>simp[intOf];omega
      ·obtain rfl:i8=8:=by omega
       have kL:=kW bi.out;clear bi
       go_wp2
       go_ret
       have ZB:r0.data.toList=s.data.toList.drop (s.size / 64*64)++Lz.lH s.size:=by
        have e1:s.size / 64*64=a1:=by rw[R6.out,<-Hq.out];omega
        rw[Hr0.out,Hpb.out,e1]
        simp[ByteArray.data_extract,ByteArray.data_append]
        rw[List.take_of_length_le (by rw[List.length_drop,ac];exact Nat.le_refl _)]
       have mq:(s.data.toList.drop (s.size / 64*64)++Lz.lH s.size).length / 64=j:=by
        rw[<-ZB,ac,Hk0.out];omega
       have e:(F.list.take 8).flatMap Lz.ik=Lz.iJ aP bU s.data.toList:=by
        unfold Lz.iJ Lz.xN;rw[ac,mq,<-Hq.out,<-HH.out,Hq.out,<-ZB,<-HF.out];rfl
       rw[e];exact⟨rfl,hb⟩
end Go.Proofs.YtibcmemcfjhgmaaGreatDoor
