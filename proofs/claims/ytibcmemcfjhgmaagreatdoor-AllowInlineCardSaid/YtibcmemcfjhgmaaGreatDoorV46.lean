/-
  lazaretlaw27: lets (the chapter's values).
-/
import Derived.Test.YtibcmemcfjhgmaaGreatDoorV44
import Derived.Test.YtibcmemcfjhgmaaGreatDoorV45
set_option maxHeartbeats 8000000
set_option maxRecDepth 100000
namespace Go.Proofs.YtibcmemcfjhgmaaGreatDoor
open Go.RowKit
attribute [local go_sem ↓] Go.wp_at_zero Go.wp_at_succ
def AY:List UInt8:=[104,116,116,112,115,58,47,47,120,47]
def aa3:Lz.UR->Bool
 | .ok u=>Lz.aj u.scheme
 | .er _=>false
theorem U2:∃y,Lz.pn AY none=.ok y/\Lz.aj y.scheme=true:=by
 have h:aa3 (Lz.pn AY none)=true:=by decide +kernel
 cases h2:Lz.pn AY none with
 | ok y=>rw[h2]at h;exact⟨y,rfl,h⟩
 | er k=>rw[h2]at h;cases h
theorem zB:Lz.aI (Lib.cut (Lib.cut (Lz.bB AY) [35]).1 [63]).1=(Lz.nk,[47,47,120,47],true):=by decide +kernel
theorem mF (w:World) (xs:List ByteArray) (hn:xs.length<=10000) (hz:∀x∈xs,x.size<=90000):bQ (w.alloc (.cells (xs.map Value.string).toArray 9)) (.slice (some ⟨w.heap.size,0,none⟩) xs.length xs.length) (xs.map (fun x:ByteArray=>x.data.toList)):=by
 refine⟨⟨some ⟨w.heap.size,0,none⟩,xs.length,xs,rfl,rfl,fun j y hj=>⟨w.heap.size,0,rfl,by simp,?_⟩⟩,by rw[List.length_map];exact hn,fun x hx=>?_⟩
 ·rw[Nat.zero_add];exact rowAt (an w _) j (.string y) (by rw[List.getElem?_toArray,List.getElem?_map,hj];rfl)
 ·obtain⟨s,hs,rfl⟩:=List.mem_map.1 hx;rw[ac];exact hz s hs
theorem Nc {w:World} {B:Nat} {v:Value} {xs:List ByteArray} (h:w.ownsRow B 9 1 v xs.length (xs.map Value.string)) (hn:xs.length<=10000) (hz:∀x∈xs,x.size<=90000):bQ w v (xs.map (fun x:ByteArray=>x.data.toList)):=by
 obtain⟨a,c,hv,_,aW⟩:=bG.form (.inl h);refine⟨⟨a,c,xs,hv,rfl,aW⟩,by rw[List.length_map];exact hn,fun x hx=>?_⟩;obtain⟨s,hs,rfl⟩:=List.mem_map.1 hx;rw[ac];exact hz s hs
def jz:ByteArray:=⟨#[39,117,110,115,97,102,101,45,105,110,108,105,110,101,39]⟩
def ng:ByteArray:=⟨#[39,110,111,110,99,101,45,97,39]⟩
def ky:ByteArray:=⟨#[39,115,116,114,105,99,116,45,100,121,110,97,109,105,99,39]⟩
def H6:ByteArray:=⟨#[39,117,110,115,97,102,101,45,104,97,115,104,101,115,39]⟩
def vL:ByteArray:=⟨#[104,116,116,112,115,58]⟩
def uL:ByteArray:=⟨#[97,108,101,114,116,40,49,41]⟩
theorem Jh (aP:List UInt32) (bJ:List UInt64) (k:Nat) (t:List UInt8):(Lz.fC (bP aP bJ) k t).length<=1000:=by
 unfold Lz.fC Lz.dm;have h1:=Lz.qQ (bP aP bJ (Lz.im k) t);have h2:=(jY aP bJ (Lz.im k) t).1
 have h3:(Lz.i2 k).length=7:=by
  match k with
  | 0=>rfl
  | 1=>rfl
  | n+2=>rfl
 simp only[List.length_cons,List.length_append,List.length_nil,h3];omega
theorem FR (aP:List UInt32) (bJ:List UInt64) (w:World) (hE:oS aP bJ w):Calls Tryz.prog 8 #[] w (a5 true w):=by
 obtain⟨i0,hi,eZ,d9,eo⟩:=info_parts nK;obtain⟨W1,wE⟩:∃W,W=w.alloc (.cells #[.string jz] 9):=⟨_,rfl⟩;obtain⟨W2,lp⟩:∃W,W=W1.alloc (.cells #[.string jz,.string ng] 9):=⟨_,rfl⟩;obtain⟨W3,Pv⟩:∃W,W=W2.alloc (.cells #[.string jz,.string ky] 9):=⟨_,rfl⟩;have av:Below w.heap.size w W1:=by rw[wE];exact(Below.refl _ w).alloc (Nat.le_refl _) _
 have aE:Below W1.heap.size W1 W2:=by rw[lp];exact(Below.refl _ W1).alloc (Nat.le_refl _) _
 have bj:Below W2.heap.size W2 W3:=by rw[Pv];exact(Below.refl _ W2).alloc (Nat.le_refl _) _
 have OZ:bQ W1 (.slice (some ⟨w.heap.size,0,none⟩) 1 1) [Lz.hJ]:=by rw[wE];exact mF w [jz] (by simp) (by intro x hx;simp at hx;rw[hx];decide)
 have pE:bQ W2 (.slice (some ⟨W1.heap.size,0,none⟩) 2 2) [Lz.hJ,Lz.iP]:=by rw[lp];exact mF W1 [jz,ng] (by simp) (by intro x hx;simp at hx;rcases hx with rfl|rfl<;>decide)
 have IN:bQ W3 (.slice (some ⟨W2.heap.size,0,none⟩) 2 2) [Lz.hJ,Lz.gE]:=by rw[Pv];exact mF W2 [jz,ky] (by simp) (by intro x hx;simp at hx;rcases hx with rfl|rfl<;>decide)
 have gw:Below w.heap.size w W3:=ae (ae av aE) bj;have HV1:=Ih ((OZ.below aE).below bj);have e1:W1.heap.size=w.heap.size+1:=by rw[wE];simp
 have e2:W2.heap.size=w.heap.size+1+1:=by rw[lp];simp[e1]
 have y5:Hid (bQ W3 (.slice (some ⟨w.heap.size+1,0,none⟩) 2 2) [Lz.hJ,Lz.iP]):=Ih (by rw[<-e1];exact pE.below bj);have DT:Hid (bQ W3 (.slice (some ⟨w.heap.size+1+1,0,none⟩) 2 2) [Lz.hJ,Lz.gE]):=Ih (by rw[<-e2];exact IN);have cH:Hid (Calls Tryz.prog 24 #[.string uL,.int .u8 0] W3 (dX (Lz.fC (bP aP bJ) 0 Lz.eK) W3)):=Ih (Fr aP bJ uL (by decide) 0 (by omega) W3 (hE.below gw));have HE:=Ih (fun V (hV:Below W3.heap.size W3 V)=>(hE.below gw).below hV);have HW:=Ih (And.intro wE (And.intro lp Pv));clear e1 e2 wE lp Pv av aE bj OZ pE IN hE;go_enter Tryz.func8,Tryz.ntmps8
 go_wp2_with fail
 change Calls _ _ _ (((w.alloc (.cells #[.string jz] 9)).alloc (.cells #[.string jz,.string ng] 9)).alloc (.cells #[.string jz,.string ky] 9)) _;rw[<-HW.out.1,<-HW.out.2.1,<-HW.out.2.2];refine cH.out.mono ?_;rintro e w4 ⟨x,rfl,hx,eB⟩;have Py:x.size<=1000:=by rw[<-ac,hx.out];exact Jh _ _ _ _
 obtain⟨W5,Ph⟩:∃W,W=w4.alloc (.cells #[.string x] 9):=⟨_,rfl⟩;have bv:Below w4.heap.size w4 W5:=by rw[Ph];exact(Below.refl _ w4).alloc (Nat.le_refl _) _
 have ZY:bQ W5 (.slice (some ⟨w4.heap.size,0,none⟩) 1 1) [Lz.fC (bP aP bJ) 0 Lz.eK]:=by
  rw[Ph,<-hx.out];exact mF w4 [x] (by simp) (by intro y hy;simp at hy;rw[hy];omega)
 have hc5:∀(j:Nat) (u:Value),([x].map Value.string)[j]? =some u->W5.cell? ((⟨w4.heap.size,0,none⟩:Addr).add j)=some u:=fun j u hu=>by rw[Ph];exact aJ w4 (.string x) 9 j u hu
 have OV:Below W3.heap.size W3 W5:=ae eB bv;have HW5:=Ih Ph;clear Ph cH
 go_upto_region 5 with fail
 rw[<-HW5.out]
 go_wp2_with (at_builtin;refine wpList_append_own _ rfl (.const (.slice none 0 0)) (.tmp 15) 22 rfl W5.heap.size 9 i0 (.string ⟨#[]⟩) 1 16 Tryz.underlying22 hi eZ d9 eo rfl (by decide) _ 0 [] rfl (World.ownsRow_nil _ _ _ _) ⟨w4.heap.size,0,none⟩ 1 1 ([x].map Value.string) rfl rfl hc5 (by simp[Value.oneCell']) (by unfold maxLen;omega) (by omega) (Nat.le_refl _) ?_)
 intro v6 w6 ny hg6 _;have eM:Below W5.heap.size W5 w6:=(Below.refl _ W5).grown hg6 (Nat.le_refl _) (fun k hk=>by simp[Value.ownBlock]at hk);have OI:=Ih ny;have aad:=eM.size;clear ny hg6 hc5
 go_wp2_with (at_builtin;refine wpList_append_own _ rfl (.tmp 16) (.tmp 17) 22 rfl W5.heap.size 9 i0 (.string ⟨#[]⟩) 1 16 Tryz.underlying22 hi eZ d9 eo rfl (by decide) _ _ _ rfl (OI.out.alloc _) ⟨w6.heap.size,0,none⟩ 1 1 [.string H6] rfl rfl (aJ _ _ _) (by simp[Value.oneCell']) (by unfold maxLen;omega) (by omega) (by simp;omega) ?_)
 intro v7 w7 TH hg7 _;have ll:Below W5.heap.size W5 w7:=Below.grown1 eM OI.out hg7 aad (Nat.le_refl _)
 have hv7:bQ w7 v7 [Lz.fC (bP aP bJ) 0 Lz.eK,Lz.nL]:=by
  rw[<-hx.out];exact Nc (xs:=[x,H6]) TH (by simp) (by intro y hy;simp at hy;rcases hy with rfl|rfl;omega;decide)
 have HV7:=Ih hv7;have HV5:=Ih (ZY.below ll);have KW:Below W3.heap.size W3 w7:=ae OV ll;clear TH hg7 hv7 ZY OI eM ll OV eB bv;obtain⟨y,hy,gY⟩:=U2;have cU:=Ih (Fh ⟨AY.toArray⟩ y (by decide) w7 (HE.out w7 KW).m.u hy gY (by show(Lz.aI (Lib.cut (Lib.cut (Lz.bB AY) [35]).1 [63]).1).2.2=true;rw[zB]) (by show(Lz.aI (Lib.cut (Lib.cut (Lz.bB AY) [35]).1 [63]).1).1≠Lz.cJ;rw[zB];decide) (by show Lz.aj (Lz.aI (Lib.cut (Lib.cut (Lz.bB AY) [35]).1 [63]).1).1=true;rw[zB];rfl));clear hy
 go_wp2_with fail
 refine cU.out.mono ?_;rintro e w8 ⟨uv,rfl,OJ,T8⟩;have IM:=T8.val;obtain⟨jK,px,kd,oK,iz,oJ,oL,a1,n1,c1,gF,jC,pC,py,rfl,_,_,_,_,_,IM⟩:=IM.letters;clear T8 cU
 go_upto_region 7 with fail
 obtain⟨W9,hW9⟩:∃W,W=w8.alloc (.cells #[.string jK,.string px,.string kd,.bool oK,.string iz,.int .i64 oJ,.bool oL,.slice a1 n1 c1,.bool gF,.bool jC,.string pC,.string py] 38):=⟨_,rfl⟩;rw[<-hW9];have IJ:Below w8.heap.size w8 W9:=by rw[hW9];exact(Below.refl _ w8).alloc (Nat.le_refl _) _
 have hr9:W9.heap[w8.heap.size]? =some (.cells #[.string jK,.string px,.string kd,.bool oK,.string iz,.int .i64 oJ,.bool oL,.slice a1 n1 c1,.bool gF,.bool jC,.string pC,.string py] 38 (0,0)):=by rw[hW9];exact an _ _
 have ZS:=IM.below IJ;have Gw:Below w7.heap.size w7 W9:=ae OJ IJ;have HE9:=Ih (fun V (hV:Below W9.heap.size W9 V)=>HE.out V (ae KW (ae Gw hV)));have ab5:Below w.heap.size w W9:=ae (ae gw KW) Gw;have Wo:Hid (∀V,Below W9.heap.size W9 V->V.heap[w8.heap.size]? =some (.cells #[.string jK,.string px,.string kd,.bool oK,.string iz,.int .i64 oJ,.bool oL,.slice a1 n1 c1,.bool gF,.bool jC,.string pC,.string py] 38 (0,0))):=Ih (fun V hV=>(hV.block _ (aZ hr9)).trans hr9);have it:=(HV1.out.below KW).below Gw;have tJ:=(y5.out.below KW).below Gw;have lq:=(DT.out.below KW).below Gw;have O3:=HV5.out.below Gw;have OR:=HV7.out.below Gw;have hd:∀b t,bP aP bJ b t≠[]:=fun b t=>(jY aP bJ b t).2;have kI:=fun(kind:Int) (v:Value) (l:List (List UInt8)) (nn tx:ByteArray) (b:Bool) (ht:tx.size<=1000000) (hl:bQ W9 v l) (hb:Lz.cw (Lz.dm (bP aP bJ)) kind l nn.data.toList tx.data.toList=b) (V:World) (hV:Below W9.heap.size W9 V)=>hb▸sr aP bJ kind v l nn tx ht V (HE9.out V hV) (hl.below hV)
 have kU:=Ih (fun(kind:Int) (h1:1<=kind) (h5:kind<=5)=>kI kind _ _ ⟨#[]⟩ ⟨#[120]⟩ true (by decide) it (Lz.Cm _ kind h1 h5));have k0:=Ih (kI 1 _ _ ⟨#[97]⟩ ⟨#[120]⟩ true (by decide) tJ (Lz.YS _));have k1:=Ih (kI 1 _ _ ⟨#[98]⟩ ⟨#[120]⟩ false (by decide) tJ (Lz.Y9 _));have k2:=Ih (kI 2 _ _ ⟨#[97]⟩ ⟨#[120]⟩ false (by decide) tJ (Lz.Yy _));have k3:=Ih (kI 1 _ _ ⟨#[]⟩ ⟨#[120]⟩ false (by decide) lq (Lz.YF _));have k4:=Ih (kI 4 _ _ ⟨#[]⟩ ⟨#[120]⟩ true (by decide) lq (Lz.Ze _));have k5:=Ih (kI 1 _ _ ⟨#[]⟩ uL true (by decide) O3 (Lz.X8 hd));have k6:=Ih (kI 2 _ _ ⟨#[]⟩ uL false (by decide) O3 (Lz.Zq hd));have k7:=Ih (kI 2 _ _ ⟨#[]⟩ uL true (by decide) OR (Lz.YX hd))
 have kF:Hid (∀V,Below W9.heap.size W9 V->∀V2,Below (V.alloc (.cells #[.string ky,.string ng,.string vL] 9)).heap.size (V.alloc (.cells #[.string ky,.string ng,.string vL] 9)) V2->(Calls Tryz.prog 25 #[.slice (some ⟨V.heap.size,0,none⟩) 3 3,.agg #[.string jK,.string px,.string kd,.bool oK,.string iz,.int .i64 oJ,.bool oL,.slice a1 n1 c1,.bool gF,.bool jC,.string pC,.string py],.agg #[.string jK,.string px,.string kd,.bool oK,.string iz,.int .i64 oJ,.bool oL,.slice a1 n1 c1,.bool gF,.bool jC,.string pC,.string py],.string ⟨#[97]⟩,.string ⟨#[]⟩] V2 (a5 true V2)/\Calls Tryz.prog 25 #[.slice (some ⟨V.heap.size,0,none⟩) 3 3,.agg #[.string jK,.string px,.string kd,.bool oK,.string iz,.int .i64 oJ,.bool oL,.slice a1 n1 c1,.bool gF,.bool jC,.string pC,.string py],.agg #[.string jK,.string px,.string kd,.bool oK,.string iz,.int .i64 oJ,.bool oL,.slice a1 n1 c1,.bool gF,.bool jC,.string pC,.string py],.string ⟨#[]⟩,.string ⟨#[]⟩] V2 (a5 false V2))):=Ih (fun V hV V2 hV2=>by
  have hvd:=(mF V [ky,ng,vL] (by simp) (by intro x hx;simp at hx;rcases hx with rfl|rfl|rfl<;>decide)).below hV2;have La:Below W9.heap.size W9 V2:=ae (ae hV ((Below.refl _ V).alloc (Nat.le_refl _) _)) hV2;have h1:=vD (.slice (some ⟨V.heap.size,0,none⟩) 3 3) _ (.agg #[.string jK,.string px,.string kd,.bool oK,.string iz,.int .i64 oJ,.bool oL,.slice a1 n1 c1,.bool gF,.bool jC,.string pC,.string py]) y (.agg #[.string jK,.string px,.string kd,.bool oK,.string iz,.int .i64 oJ,.bool oL,.slice a1 n1 c1,.bool gF,.bool jC,.string pC,.string py]) y ⟨#[97]⟩ ⟨#[]⟩ (by decide) V2 (HE9.out V2 La).m.s hvd (ZS.below La) (ZS.below La) (Or.inl (by decide +kernel))
  have h2:=vD (.slice (some ⟨V.heap.size,0,none⟩) 3 3) _ (.agg #[.string jK,.string px,.string kd,.bool oK,.string iz,.int .i64 oJ,.bool oL,.slice a1 n1 c1,.bool gF,.bool jC,.string pC,.string py]) y (.agg #[.string jK,.string px,.string kd,.bool oK,.string iz,.int .i64 oJ,.bool oL,.slice a1 n1 c1,.bool gF,.bool jC,.string pC,.string py]) y ⟨#[]⟩ ⟨#[]⟩ (by decide) V2 (HE9.out V2 La).m.s hvd (ZS.below La) (ZS.below La) (Or.inr (by decide +kernel));exact⟨Lz.X3 Lz.cn y▸h1,Lz.Y2 Lz.cn Lz.E8 y▸h2⟩)
 clear hW9 hr9 ZS IM it tJ lq O3 OR kI hd OJ IJ HV1 y5 DT HV5 HV7 HE HE9
 go_wp2_with fail
 go_loopw [8] (fun k wr=>∃i:Nat,k=.int .i64 (i:Int)/\1<=i/\i<=6/\Below W9.heap.size W9 wr) (fun k _=>6-(intOf k).toNat)
 case atStart=>exact⟨1,rfl,by omega,by omega,Below.refl _ _⟩
 case round=>
  obtain⟨i,rfl,Lo,hi6,gX⟩:=hrel;by_cases aL:i<6
  ·have aK:(i:Int)<=5:=by omega
   have cK:=Ih (kU.out (i:Int) (by omega) (by omega) wr gX)
   go_wp2_with fail
   refine cK.out.mono ?_;rintro e v0 ⟨rfl,kz⟩
   go_wp2_with fail
   go_roundw
   case rel=>exact⟨i+1,by go_num,by omega,by omega,ae gX kz⟩
   case measure=>simp[intOf];omega
  ·have aK:¬(i:Int)<=5:=by omega
   obtain⟨V,hV⟩:∃V,V=wr.alloc (.cells #[.string ky,.string ng,.string vL] 9):=⟨_,rfl⟩;have kG:=Ih (kF.out wr gX);rw[<-hV]at kG;have kc:Below W9.heap.size W9 V:=by rw[hV];exact gX.alloc gX.size _
   have HV:=Ih hV;clear hV gX kF kU
   go_upto_region 13 with fail
   change Code.wp _ _ _ _ (wr.alloc (.cells #[.string ky,.string ng,.string vL] 9));rw[<-HV.out];clear HV;have gX:=kc;have mu:Below V.heap.size V V:=Below.refl _ _;clear kc
   go_wp2_with fail
   refine(k0.out _ gX).mono ?_;rintro e v10 ⟨rfl,kz⟩;replace gX:=ae gX kz;replace mu:=ae mu kz;clear kz
   go_wp2_with fail
   refine(k1.out _ gX).mono ?_;rintro e v11 ⟨rfl,kz⟩;replace gX:=ae gX kz;replace mu:=ae mu kz;clear kz
   go_wp2_with fail
   refine(k2.out _ gX).mono ?_;rintro e v12 ⟨rfl,kz⟩;replace gX:=ae gX kz;replace mu:=ae mu kz;clear kz
   go_wp2_with fail
   refine(k3.out _ gX).mono ?_;rintro e v13 ⟨rfl,kz⟩;replace gX:=ae gX kz;replace mu:=ae mu kz;clear kz
   go_wp2_with fail
   refine(k4.out _ gX).mono ?_;rintro e v14 ⟨rfl,kz⟩;replace gX:=ae gX kz;replace mu:=ae mu kz;clear kz
   go_wp2_with fail
   refine(k5.out _ gX).mono ?_;rintro e v15 ⟨rfl,kz⟩;replace gX:=ae gX kz;replace mu:=ae mu kz;clear kz
   go_wp2_with fail
   refine(k6.out _ gX).mono ?_;rintro e v16 ⟨rfl,kz⟩;replace gX:=ae gX kz;replace mu:=ae mu kz;clear kz
   go_wp2_with fail
   refine(k7.out _ gX).mono ?_;rintro e v17 ⟨rfl,kz⟩;replace gX:=ae gX kz;replace mu:=ae mu kz;clear kz;obtain⟨x0,x1,x2,x3,x4,x5,x6,x7,x8,x9,XH,Xy⟩:=S4 (Wo.out _ gX)
   go_wp2_with fail
   clear x0 x1 x2 x3 x4 x5 x6 x7 x8 x9 XH Xy;refine(kG.out _ mu).1.mono ?_;rintro e v21 ⟨rfl,kz⟩;replace gX:=ae gX kz;replace mu:=ae mu kz;clear kz;obtain⟨x0,x1,x2,x3,x4,x5,x6,x7,x8,x9,XH,Xy⟩:=S4 (Wo.out _ gX)
   go_wp2_with fail
   clear x0 x1 x2 x3 x4 x5 x6 x7 x8 x9 XH Xy;refine(kG.out _ mu).2.mono ?_;rintro e v22 ⟨rfl,kz⟩;replace gX:=ae gX kz;replace mu:=ae mu kz;clear kz
   go_wp2_with fail
   go_ret;exact⟨rfl,ae ab5 gX⟩
end Go.Proofs.YtibcmemcfjhgmaaGreatDoor
