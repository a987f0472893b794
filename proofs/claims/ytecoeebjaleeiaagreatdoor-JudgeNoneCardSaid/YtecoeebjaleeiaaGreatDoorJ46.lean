/-
  Numbers of eight bits that came in.
-/
import Derived.Test.YtecoeebjaleeiaaGreatDoorJ45
set_option maxHeartbeats 4000000
set_option maxRecDepth 100000
namespace Go.Proofs.YtecoeebjaleeiaaGreatDoor
open Go.RowKit
attribute [local go_sem ↓] Go.wp_at_zero Go.wp_at_succ
theorem Gk:dO Lz.rQ:=by
 refine⟨by decide,?_⟩;intro d hd;rcases List.mem_cons.1 hd with rfl|hd
 ·exact⟨by decide,by decide,fun x hx=>by obtain rfl:=List.mem_singleton.1 hx;decide⟩
 rcases List.mem_cons.1 hd with rfl|hd
 ·exact⟨by decide,by decide,fun x hx=>by obtain rfl:=List.mem_singleton.1 hx;decide⟩
 ·obtain rfl:=List.mem_singleton.1 hd;exact⟨by decide,by decide,fun x hx=>by cases hx⟩
theorem EM:dO Lz.nz:=by
 refine⟨by decide,?_⟩;intro d hd;obtain rfl:=List.mem_singleton.1 hd;exact⟨by decide,by decide,fun x hx=>by obtain rfl:=List.mem_singleton.1 hx;decide⟩
theorem yC {bi:List UInt32} {aY:List UInt64} (k:Nat) (nn tx:ByteArray) (w:World) (hk:k<256) (hE:mG bi aY w):Calls Tryz.prog 5 #[.int .u8 (k:Int),.string nn,.string tx] w (aC true w):=by
 have kM:Hid (∀V,Below w.heap.size w V->Calls Tryz.prog 7 #[] V (aC true V)):=Ih (fun V hV=>oA bi aY V (hE.below hV));have cP:=Ih (ns ⟨#[104,116,116,112,115,58,47,47,97,46,98,47]⟩ rfl w hE.a.m.u);have HE:=Ih hE;obtain⟨q,hq⟩:∃q,q=decide (300<nn.size\/300<tx.size):=⟨_,rfl⟩;have Hq:=Ih hq;have yx:(0:Int)<=(k:Int):=by omega
 obtain⟨kk,hkk⟩:∃kk:Int,kk=1+(k:Int)%16:=⟨_,rfl⟩;have h1:1<=kk:=by omega
 have h2:kk<=16:=by omega
 have Hkk:=Ih hkk;have hik:Ik kk:=⟨by omega,by omega⟩;clear hkk;clear hE hq;go_enter Tryz.func5,Tryz.ntmps5
 go_upto_region 1 with fail
 go_cut [25] (fun s wx=>s=.bool q/\w=wx)
 case first=>
  by_cases h0:300<nn.size
  ·have i0:(300:Int)<(nn.size:Int):=by omega
   have HQ:Hid (q=true):=by show _=_;rw[Hq.out];exact decide_eq_true (Or.inl h0)
   clear h0
   go_wp2_with fail
   go_meet;exact⟨by rw[HQ.out],rfl⟩
  have i0:¬(300:Int)<(nn.size:Int):=by omega
  by_cases h1:300<tx.size
  ·have i1:(300:Int)<(tx.size:Int):=by omega
   have HQ:Hid (q=true):=by show _=_;rw[Hq.out];exact decide_eq_true (Or.inr h1)
   clear h0 h1
   go_wp2_with fail
   go_meet;exact⟨by rw[HQ.out],rfl⟩
  have i1:¬(300:Int)<(tx.size:Int):=by omega
  have HQ:Hid (q=false):=by show _=_;rw[Hq.out];exact decide_eq_false (fun h=>by omega)
  clear h0 h1
  go_wp2_with fail
  go_meet;exact⟨by rw[HQ.out],rfl⟩
 case rest=>
 obtain⟨rfl,rfl⟩:=hcut;cases q with
 | true=>
   go_wp2_with fail
   refine(kM.out _ (Below.refl _ _)).mono ?_;rintro e w5 ⟨rfl,aI⟩
   go_wp2_with fail
   go_ret;exact⟨rfl,aI⟩
 | false=>
 have Um:=of_decide_eq_false Hq.out.symm;have htx:tx.size<=1000000:=by omega
 clear Um Hq
 go_wp2_with fail
 refine cP.out.mono ?_;rintro e w1 ⟨v1,u1,rfl,ar,jR,hO⟩;obtain⟨bo,cw,ck,cv,aU,cf,cq,a1,n1,c1,bO,bU,cz,de,rfl,_,_,_,_,_,jR⟩:=jR.letters;clear cP
 go_upto_region 4 with fail
 obtain⟨W1,nD⟩:∃W1,W1=w1.alloc (.cells #[.string bo,.string cw,.string ck,.bool cv,.string aU,.int .i64 cf,.bool cq,.slice a1 n1 c1,.bool bO,.bool bU,.string cz,.string de] 32):=⟨_,rfl⟩;rw[<-nD];have e1:Below w1.heap.size w1 W1:=by rw[nD];exact(Below.refl _ w1).alloc (Nat.le_refl _) _
 have r1:W1.heap[w1.heap.size]? =some (.cells #[.string bo,.string cw,.string ck,.bool cv,.string aU,.int .i64 cf,.bool cq,.slice a1 n1 c1,.bool bO,.bool bU,.string cz,.string de] 32 (0,0)):=by rw[nD];exact ah _ _
 have qN:=jR.below e1;have iV:Below w.heap.size w W1:=ac ar e1;clear nD jR ar e1
 go_upto_region 5 with fail
 rw[<-Hkk.out];obtain⟨W2,pH⟩:∃W2,W2=W1.alloc (.cells #[.int .i64 kk,.int .i64 0,.string ⟨#[]⟩,.string ⟨#[104,116,116,112,115,58,47,47,97,46,98,47,120]⟩,.string tx,.string nn,.string ⟨#[]⟩] 27):=⟨_,rfl⟩;rw[<-pH];have e2:Below W1.heap.size W1 W2:=by rw[pH];exact(Below.refl _ W1).alloc (Nat.le_refl _) _
 have r2:W2.heap[W1.heap.size]? =some (.cells #[.int .i64 kk,.int .i64 0,.string ⟨#[]⟩,.string ⟨#[104,116,116,112,115,58,47,47,97,46,98,47,120]⟩,.string tx,.string nn,.string ⟨#[]⟩] 27 (0,0)):=by rw[pH];exact ah _ _
 have qM:=qN.below e2;have r1':=(e2.block _ (af r1)).trans r1;have zp:Below w.heap.size w W2:=ac iV e2;have HR:Hid (∀V,Below W2.heap.size W2 V->V.heap[w1.heap.size]? =some (.cells #[.string bo,.string cw,.string ck,.bool cv,.string aU,.int .i64 cf,.bool cq,.slice a1 n1 c1,.bool bO,.bool bU,.string cz,.string de] 32 (0,0))/\V.heap[W1.heap.size]? =some (.cells #[.int .i64 kk,.int .i64 0,.string ⟨#[]⟩,.string ⟨#[104,116,116,112,115,58,47,47,97,46,98,47,120]⟩,.string tx,.string nn,.string ⟨#[]⟩] 27 (0,0))):=Ih (fun V hV=>⟨(hV.block _ (af r1')).trans r1',(hV.block _ (af r2)).trans r2⟩)
 have HF:Hid (∀V,Below W2.heap.size W2 V->∀(p:aE),dx V p.v p.ds->dO (p.ds.map aD.src)->Calls Tryz.prog 11 #[p.val,.agg #[.int .i64 kk,.int .i64 0,.string ⟨#[]⟩,.string ⟨#[104,116,116,112,115,58,47,47,97,46,98,47,120]⟩,.string tx,.string nn,.string ⟨#[]⟩],.agg #[.string bo,.string cw,.string ck,.bool cv,.string aU,.int .i64 cf,.bool cq,.slice a1 n1 c1,.bool bO,.bool bU,.string cz,.string de]] V (BD (Lz.dH (Lz.gK (fC bi aY)) Lz.aG (p.ds.map aD.src) ⟨kk,0,[],Lz.My,tx.data.toList,nn.data.toList,[]⟩ u1) V)):=Ih (fun V hV p hp hS=>sR bi aY p ⟨kk,0,⟨#[]⟩,⟨#[104,116,116,112,115,58,47,47,97,46,98,47,120]⟩,tx,nn,⟨#[]⟩⟩ _ u1 V ((HE.out.below zp).below hV) hp hS hik htx (by show(⟨#[]⟩:ByteArray).size<=100000;decide) (qM.below hV) hO.out);have VM:=Ih (B2 ⟨Lz.Ta.toArray⟩ (by decide) Lz.rQ Lz.M5 W2 (HE.out.below zp).a.m.s);clear pH e2 r2 qM r1' r1 qN iV Hkk
 go_wp2_with fail
 refine VM.out.mono ?_;rintro e w3 ⟨PW,PT,Pr,X1,rfl,LO,Jz,aO⟩;clear VM
 go_upto_region 6 with fail
 obtain⟨W3,R9⟩:∃W3,W3=w3.alloc (.cells #[.slice PW PT Pr,.bool false] 25):=⟨_,rfl⟩;rw[<-R9];have e3:Below w3.heap.size w3 W3:=by rw[R9];exact(Below.refl _ w3).alloc (Nat.le_refl _) _
 have r3:W3.heap[w3.heap.size]? =some (.cells #[.slice PW PT Pr,.bool false] 25 (0,0)):=by rw[R9];exact ah _ _
 have Pc:=Jz.below e3;have tI:=ac aO e3;have Wj:=Ih (B2 ⟨Lz.NG.toArray⟩ (by decide) Lz.nz Lz.Kt W3 (HE.out.below (ac zp tI)).a.m.s);clear R9 e3 aO Jz
 go_wp2_with fail
 refine Wj.out.mono ?_;rintro e w4 ⟨Mg,Mb,L8,YA,rfl,LS,PJ,dy⟩;clear Wj
 go_upto_region 7 with fail
 obtain⟨W4,Sw⟩:∃W4,W4=w4.alloc (.cells #[.slice Mg Mb L8,.bool false] 25):=⟨_,rfl⟩;rw[<-Sw];have e4:Below w4.heap.size w4 W4:=by rw[Sw];exact(Below.refl _ w4).alloc (Nat.le_refl _) _
 have r4:W4.heap[w4.heap.size]? =some (.cells #[.slice Mg Mb L8,.bool false] 25 (0,0)):=by rw[Sw];exact ah _ _
 have LL:=ac dy e4;have aag:=Pc.below LL;have aan:=PJ.below e4;have r34:=(LL.block _ (af r3)).trans r3;have zq:=ac tI LL
 have k1:Hid (Calls Tryz.prog 11 #[.agg #[.slice PW PT Pr,.bool false],.agg #[.int .i64 kk,.int .i64 0,.string ⟨#[]⟩,.string ⟨#[104,116,116,112,115,58,47,47,97,46,98,47,120]⟩,.string tx,.string nn,.string ⟨#[]⟩],.agg #[.string bo,.string cw,.string ck,.bool cv,.string aU,.int .i64 cf,.bool cq,.slice a1 n1 c1,.bool bO,.bool bU,.string cz,.string de]] W4 fun e w'=>∃s,e=.returned (.tuple #[.string s,.bool true])/\Below W4.heap.size W4 w'):=by
  have h:=HF.out W4 zq ⟨.slice PW PT Pr,X1,false⟩ aag (by rw[show(aE.mk (.slice PW PT Pr) X1 false).ds.map aD.src=Lz.rQ from LO.out];exact Gk);rw[show(aE.mk (.slice PW PT Pr) X1 false).ds.map aD.src=Lz.rQ from LO.out]at h;refine Ih (h.mono ?_);rintro e w' ⟨s,he,_,hb⟩;rw[Lz.Gx _ _ _ _ h1 h2]at he;exact⟨s,he,hb⟩
 have k2:Hid (∀V,Below W4.heap.size W4 V->Calls Tryz.prog 11 #[.agg #[.slice none 0 0,.bool false],.agg #[.int .i64 kk,.int .i64 0,.string ⟨#[]⟩,.string ⟨#[104,116,116,112,115,58,47,47,97,46,98,47,120]⟩,.string tx,.string nn,.string ⟨#[]⟩],.agg #[.string bo,.string cw,.string ck,.bool cv,.string aU,.int .i64 cf,.bool cq,.slice a1 n1 c1,.bool bO,.bool bU,.string cz,.string de]] V fun e w'=>∃s,e=.returned (.tuple #[.string s,.bool false])/\Below V.heap.size V w'):=Ih (fun V hV=>by
  have h:=HF.out V (ac zq hV) ⟨.slice none 0 0,[],false⟩ ⟨none,0,rfl,fun j d hj=>by simp at hj⟩ ⟨by decide,fun d hd=>by cases hd⟩;rw[show(aE.mk (.slice none 0 0) [] false).ds.map aD.src=[]from rfl,Lz.Dx]at h;refine h.mono ?_;rintro e w' ⟨s,he,_,hb⟩;exact⟨s,he,hb⟩)
 have k3:Hid (∀V,Below W4.heap.size W4 V->Calls Tryz.prog 11 #[.agg #[.slice Mg Mb L8,.bool false],.agg #[.int .i64 kk,.int .i64 0,.string ⟨#[]⟩,.string ⟨#[104,116,116,112,115,58,47,47,97,46,98,47,120]⟩,.string tx,.string nn,.string ⟨#[]⟩],.agg #[.string bo,.string cw,.string ck,.bool cv,.string aU,.int .i64 cf,.bool cq,.slice a1 n1 c1,.bool bO,.bool bU,.string cz,.string de]] V fun e w'=>∃s,e=.returned (.tuple #[.string s,.bool (kk==4)])/\Hid (kk=4->s=⟨Lz.jq.toArray⟩)/\Below V.heap.size V w'):=Ih (fun V hV=>by
  have h:=HF.out V (ac zq hV) ⟨.slice Mg Mb L8,YA,false⟩ (aan.below hV) (by rw[show(aE.mk (.slice Mg Mb L8) YA false).ds.map aD.src=Lz.nz from LS.out];exact EM);rw[show(aE.mk (.slice Mg Mb L8) YA false).ds.map aD.src=Lz.nz from LS.out,Lz.D6 _ _ _ _ h1 h2]at h;refine h.mono ?_;rintro e w' ⟨s,he,hs,hb⟩;refine⟨s,?_,Ih (fun h4=>?_),hb⟩
  ·rw[he];by_cases h4:kk=4
   ·rw[if_pos h4,h4];rfl
   ·rw[if_neg h4,beq_eq_false_iff_ne.2 h4];rfl
  ·have:=hs.out;rw[if_pos h4]at this;exact kR this)
 have zm:Hid (∀V,Below W4.heap.size W4 V->V.heap[w1.heap.size]? =some (.cells #[.string bo,.string cw,.string ck,.bool cv,.string aU,.int .i64 cf,.bool cq,.slice a1 n1 c1,.bool bO,.bool bU,.string cz,.string de] 32 (0,0))/\V.heap[W1.heap.size]? =some (.cells #[.int .i64 kk,.int .i64 0,.string ⟨#[]⟩,.string ⟨#[104,116,116,112,115,58,47,47,97,46,98,47,120]⟩,.string tx,.string nn,.string ⟨#[]⟩] 27 (0,0))/\V.heap[w4.heap.size]? =some (.cells #[.slice Mg Mb L8,.bool false] 25 (0,0))):=Ih (fun V hV=>⟨(HR.out V (ac zq hV)).1,(HR.out V (ac zq hV)).2,(hV.block _ (af r4)).trans r4⟩);have Cl:=ac zp zq;clear Sw e4 dy Pc PJ aag aan LL zq tI HF HR r3 r4 LO LS zp hO;have hit:=(zm.out W4 (Below.refl _ _)).2.1;obtain⟨i0,i1,i2,i3,i4,i5,i6⟩:=bn (x:=⟨kk,0,⟨#[]⟩,⟨#[104,116,116,112,115,58,47,47,97,46,98,47,120]⟩,tx,nn,⟨#[]⟩⟩) hit;obtain⟨x0,x1,x2,x3,x4,x5,x6,x7,x8,x9,nA,nB⟩:=dW (zm.out W4 (Below.refl _ _)).1;have p0:=rowAt r34 0 _ rfl;have p1:=rowAt r34 1 _ rfl
 dsimp only at i0 i1 i2 i3 i4 i5 i6
 clear hit r34
 go_wp2_with fail
 refine k1.out.mono ?_;rintro e w5 ⟨s5,rfl,aI⟩;clear i0 i1 i2 i3 i4 i5 i6 x0 x1 x2 x3 x4 x5 x6 x7 x8 x9 nA nB p0 p1 k1;obtain⟨i0,i1,i2,i3,i4,i5,i6⟩:=bn (x:=⟨kk,0,⟨#[]⟩,⟨#[104,116,116,112,115,58,47,47,97,46,98,47,120]⟩,tx,nn,⟨#[]⟩⟩) (zm.out w5 aI).2.1;obtain⟨x0,x1,x2,x3,x4,x5,x6,x7,x8,x9,nA,nB⟩:=dW (zm.out w5 aI).1
 dsimp only at i0 i1 i2 i3 i4 i5 i6
 go_wp2_with fail
 refine(k2.out w5 aI).mono ?_;rintro e w6 ⟨s6,rfl,fX⟩;replace fX:=ac aI fX;clear i0 i1 i2 i3 i4 i5 i6 x0 x1 x2 x3 x4 x5 x6 x7 x8 x9 nA nB k2 aI;obtain⟨i0,i1,i2,i3,i4,i5,i6⟩:=bn (x:=⟨kk,0,⟨#[]⟩,⟨#[104,116,116,112,115,58,47,47,97,46,98,47,120]⟩,tx,nn,⟨#[]⟩⟩) (zm.out w6 fX).2.1;obtain⟨x0,x1,x2,x3,x4,x5,x6,x7,x8,x9,nA,nB⟩:=dW (zm.out w6 fX).1;have p0:=rowAt (zm.out w6 fX).2.2 0 _ rfl;have p1:=rowAt (zm.out w6 fX).2.2 1 _ rfl
 dsimp only at i0 i1 i2 i3 i4 i5 i6
 go_wp2_with fail
 refine(k3.out w6 fX).mono ?_;rintro e w7 ⟨s7,rfl,hs7,kJ⟩;replace kJ:=ac fX kJ;clear i0 i1 i2 i3 i4 i5 i6 x0 x1 x2 x3 x4 x5 x6 x7 x8 x9 nA nB k3 p0 p1 fX;have i0:=rowAt (zm.out w7 kJ).2.1 0 _ rfl;have kM7:=Ih (kM.out w7 (ac Cl kJ));have hbF:=ac Cl kJ;cases dy:(kk==4)with
 | true=>
   obtain rfl:=hs7.out (by simpa using dy);have Hq4:=Ih dy;clear hs7 kM
   go_wp2_with fail
   refine kM7.out.mono ?_;rintro e w8 ⟨rfl,pM⟩
   go_wp2_with fail
   go_ret;exact⟨rfl,ac hbF pM⟩
 | false=>
   clear hs7 kM
   go_wp2_with fail
   refine kM7.out.mono ?_;rintro e w8 ⟨rfl,pM⟩
   go_wp2_with fail
   go_ret;exact⟨rfl,ac hbF pM⟩
theorem FC {k:IntKind} {n:Int} (h:(Lit.int k n).wf=true) (hm:k.min=0):∃m:Nat,n=(m:Int)/\(m:Int)<=k.max:=by
 simp only[Lit.wf,Bool.and_eq_true,decide_eq_true_eq]at h;rw[hm]at h;exact⟨n.toNat,by omega,by omega⟩
theorem C7 {n:Int} (h:(Lit.int .u8 n).wf=true):∃m:Nat,n=(m:Int)/\m<256:=by
 obtain⟨m,rfl,h1⟩:=FC h (by decide);rw[show IntKind.u8.max=255 by decide]at h1;exact⟨m,rfl,by omega⟩
end Go.Proofs.YtecoeebjaleeiaaGreatDoor
