/-
  lazaretlaw26.MatchAny.
-/
import Derived.Test.YtlcbhacofagedaaGreatDoorY48
set_option maxHeartbeats 8000000
set_option maxRecDepth 100000
namespace Go.Proofs.YtlcbhacofagedaaGreatDoor
open Go.RowKit
attribute [local go_sem ↓] Go.wp_at_zero Go.wp_at_succ
theorem pi (s:ByteArray) (w:World) (hE:jL w):Calls Tryz.prog 5 #[.string s,.pointer none] w fun e w'=>∃(v:Value) (n:Int) (u:Lz.af) (q:Bool),e=.returned (.tuple #[v,.int .i64 n])/\Below w.heap.size w w'/\bz w' v u/\(n==0)=q/\(q=true->UOk u):=by
 refine(px s w hE).mono ?_;rintro e w' ⟨v,n,he,hb,bt⟩;obtain⟨u,h1,h2⟩:=bt.cases;rcases h2 with⟨h3,rfl⟩|⟨k,h3,rfl,rfl⟩
 ·exact⟨v,0,u,true,he,hb,h1.val,rfl,fun _=>⟨(Lz.nC h3).1,by have:=(Lz.nC h3).2;omega⟩⟩
 ·have hk:(k:Int)≠0:=by have:=Lz.nE h3;omega
  exact⟨v,(k:Int),qq,false,he,hb,h1.val,beq_eq_false_iff_ne.2 hk,nofun⟩
theorem SV {m:Int} {q:Bool} (h:(m==0)=q):(m != 0)= !q:=by rw[bne,h]
theorem yU (s0 s1:ByteArray) (lv:Value) (l:List (List UInt8)) (red:Bool) (w:World) (hl:dy w lv l) (hE:mh w):Calls Tryz.prog 3 #[.agg #[.string s0,.string s1],lv,.bool red] w (cn true w):=by
 have Tr:=hl;obtain⟨la,lc,xs,rfl,rfl,hx⟩:=hl;obtain⟨n,hn⟩:∃n,n=xs.length:=⟨_,rfl⟩;rw[<-hn]at Tr⊢;have HN:=Ih hn;obtain⟨B0,qI⟩:∃B0,B0=w.alloc (.cells #[.string s0,.string s1] 22):=⟨_,rfl⟩;have KX:Below w.heap.size w B0:=by rw[qI];exact(Below.refl _ w).alloc (Nat.le_refl _) _
 have K5:B0.heap[w.heap.size]? =some (.cells #[.string s0,.string s1] 22 (0,0)):=by rw[qI];exact aK _ _
 have g0:B0.cell? ⟨w.heap.size,0,none⟩=some (.string s0):=rowAt K5 0 _ rfl;have g1:B0.cell? ⟨w.heap.size,1,none⟩=some (.string s1):=rowAt K5 1 _ rfl;have wQ:=aI K5;have HBX:=Ih qI;have HP:Hid (∀V,Below B0.heap.size B0 V->dy V (.slice la n lc) (xs.map (fun x:ByteArray=>x.data.toList))):=Ih (fun V hV=>(Tr.below KX).below hV);have WC:Hid (∀V,Below B0.heap.size B0 V->V.cell? ⟨w.heap.size,0,none⟩=some (.string s0)/\V.cell? ⟨w.heap.size,1,none⟩=some (.string s1)):=Ih (fun V hV=>⟨by rw[hV.cell (p:=⟨w.heap.size,0,none⟩) wQ];exact g0,by rw[hV.cell (p:=⟨w.heap.size,1,none⟩) wQ];exact g1⟩)
 have HX:Hid (∀(j:Nat) (x:ByteArray),xs[j]? =some x->∃B off,la=some ⟨B,off,none⟩/\B<B0.heap.size/\B0.cell? ⟨B,off+j,none⟩=some (.string x)):=Ih (fun j x hj=>by
  obtain⟨B,off,e,hB,hc⟩:=hx j x hj;exact⟨B,off,e,Nat.lt_of_lt_of_le hB KX.size,by rw[KX.cell (p:=⟨B,off+j,none⟩) hB];exact hc⟩)
 obtain⟨q,hq⟩:∃q,q=decide (300<s0.size\/300<s1.size\/20<n):=⟨_,rfl⟩;have Hq:=Ih hq;have kH:Hid (∀V,Below B0.heap.size B0 V->Calls Tryz.prog 4 #[] V fun e w'=>e=.returned (.bool true)/\Below w.heap.size w w'):=Ih (fun V hV=>(sd V ((hE.below KX).below hV)).mono fun e w' ⟨h1,h2⟩=>⟨h1,ac (ac KX hV) h2⟩);have ZC:=fun V (hV:Below B0.heap.size B0 V)=>pi s0 V ((hE.below KX).below hV).u;have aae:=fun V (hV:Below B0.heap.size B0 V)=>pi s1 V ((hE.below KX).below hV).u;have kP0:=Ih ZC;have kP1:=Ih aae;clear ZC aae;have HE:=Ih (hE.below KX);clear hq hn hx Tr hE qI;go_enter Tryz.func3,Tryz.ntmps3
 go_upto_region 1 with fail
 rw[<-HBX.out]
 go_cut [26] (fun s wx=>s=.bool q/\B0=wx)
 case first=>
  by_cases h0:300<s0.size
  ·have i0:(300:Int)<(s0.size:Int):=by omega
   have HQ:Hid (q=true):=by show _=_;rw[Hq.out];exact decide_eq_true (Or.inl h0)
   clear h0
   go_wp2_with fail
   go_meet;exact⟨by rw[HQ.out],rfl⟩
  have i0:¬(300:Int)<(s0.size:Int):=by omega
  by_cases h1:300<s1.size
  ·have i1:(300:Int)<(s1.size:Int):=by omega
   have HQ:Hid (q=true):=by show _=_;rw[Hq.out];exact decide_eq_true (Or.inr (Or.inl h1))
   clear h0 h1
   go_wp2_with fail
   go_meet;exact⟨by rw[HQ.out],rfl⟩
  have i1:¬(300:Int)<(s1.size:Int):=by omega
  by_cases h2:20<n
  ·have i2:(20:Int)<(n:Int):=by omega
   have HQ:Hid (q=true):=by show _=_;rw[Hq.out];exact decide_eq_true (Or.inr (Or.inr h2))
   clear h0 h1 h2
   go_wp2_with fail
   go_meet;exact⟨by rw[HQ.out],rfl⟩
  have i2:¬(20:Int)<(n:Int):=by omega
  have HQ:Hid (q=false):=by show _=_;rw[Hq.out];exact decide_eq_false (fun h=>by omega)
  clear h0 h1 h2
  go_wp2_with fail
  go_meet;exact⟨by rw[HQ.out],rfl⟩
 case rest=>
 obtain⟨rfl,rfl⟩:=hcut;cases q with
 | true=>
   go_wp2_with fail
   refine(kH.out _ (Below.refl _ _)).mono ?_;rintro e w5 ⟨rfl,dB⟩
   go_wp2_with fail
   go_ret;exact⟨rfl,dB⟩
 | false=>
 have hqf:=of_decide_eq_false Hq.out.symm;have acd:n<=20:=by omega
 clear hqf Hq
 go_wp2_with fail
 go_loopw [7] (fun i wr=>∃j:Nat,i=.int .i64 j/\j<=n/\Hid (∀x∈xs.take j,x.size<=200)/\Below B0.heap.size B0 wr) (fun i _=>n-(intOf i).toNat)
 case atStart=>exact⟨0,rfl,Nat.zero_le _,Ih (fun x hx=>by cases hx),Below.refl _ _⟩
 case round=>
 obtain⟨j,rfl,hj,hT,bi⟩:=hrel;by_cases aN:j<n
 ·have dH:(j:Int)<(n:Int):=by omega
  have Aj:(0:Int)<=(j:Int):=by omega
  obtain⟨x,hx⟩:∃x,xs[j]? =some x:=⟨_,List.getElem?_eq_getElem (by rw[<-HN.out];exact aN)⟩;obtain⟨B,off,rfl,hB,hc⟩:=HX.out j x hx;have hcr:wr.cell? ⟨B,off+j,none⟩=some (.string x):=by rw[bi.cell (p:=⟨B,off+j,none⟩) hB];exact hc
  by_cases hz:200<x.size
  ·have Ik:(200:Int)<(x.size:Int):=by omega
   clear hx hz hc
   go_wp2_with fail
   refine(kH.out _ bi).mono ?_;rintro e w5 ⟨rfl,dB⟩
   go_wp2_with fail
   go_ret;exact⟨rfl,dB⟩
  ·have Ik:¬(200:Int)<(x.size:Int):=by omega
   have HT:Hid (∀y∈xs.take (j+1),y.size<=200):=Ih (fun y hy=>by
    rw[List.take_add_one,hx]at hy;rcases List.mem_append.1 hy with h|h
    ·exact hT.out y h
    ·rw[List.mem_singleton.1 h];omega)
   clear hx hz hc
   go_wp2_with fail
   go_roundw
   case rel=>exact⟨j+1,by go_num,by omega,HT,bi⟩
   case measure=>simp[intOf];omega
 ·have dH:¬(j:Int)<(n:Int):=by omega
  have HZ:Hid (∀y∈xs,y.size<=200):=by
   show ∀y∈xs,y.size<=200;have:=hT.out
   rwa [List.take_of_length_le (by have:=HN.out;omega)]at this
  obtain⟨cr0,cr1⟩:=WC.out wr bi;clear hT
  go_wp2_with fail
  refine(kP0.out _ bi).mono ?_;rintro e w1 ⟨v1,m1,u1,q1,rfl,aC,o8,vG,fs⟩;obtain⟨aS,bW,bF,bG,bn,bA,bL,a1,n1,c1,bB,bK,bX,bY,rfl,_,_,_,_,_,o8⟩:=o8.letters
  go_upto_region 9 with fail
  obtain⟨W1,yy⟩:∃W1,W1=w1.alloc (.cells (C12 aS bW bF bG bn bA bL a1 n1 c1 bB bK bX bY) 26):=⟨_,rfl⟩;have e1:Below w1.heap.size w1 W1:=by rw[yy];exact(Below.refl _ w1).alloc (Nat.le_refl _) _
  have r1:W1.heap[w1.heap.size]? =some (.cells (C12 aS bW bF bG bn bA bL a1 n1 c1 bB bK bX bY) 26 (0,0)):=by rw[yy];exact aK _ _
  have OL:=o8.below e1;have KS:Below B0.heap.size B0 W1:=ac (ac bi aC) e1;rw[<-yy];obtain⟨cs0,cs1⟩:=WC.out W1 KS;have R1:=Ih r1;have Zh:=Ih OL;clear yy o8 aC e1 r1 OL cr0 cr1
  go_wp2_with fail
  refine(kP1.out _ KS).mono ?_;rintro e w2 ⟨v2,m2,u2,q2,rfl,aU,nK,rF,fk⟩;obtain⟨eL,gX,gV,fV,eA,gh,gZ,a2,n2,c2,bV,fW,gW,gY,rfl,_,_,_,_,_,nK⟩:=nK.letters
  go_upto_region 10 with fail
  obtain⟨W2,tJ⟩:∃W2,W2=w2.alloc (.cells (C12 eL gX gV fV eA gh gZ a2 n2 c2 bV fW gW gY) 26):=⟨_,rfl⟩;have e2:Below w2.heap.size w2 W2:=by rw[tJ];exact(Below.refl _ w2).alloc (Nat.le_refl _) _
  have r2:W2.heap[w2.heap.size]? =some (.cells (C12 eL gX gV fV eA gh gZ a2 n2 c2 bV fW gW gY) 26 (0,0)):=by rw[tJ];exact aK _ _
  have e12:Below W1.heap.size W1 W2:=ac aU e2;have Xj:W2.heap[w1.heap.size]? =some (.cells (C12 aS bW bF bG bn bA bL a1 n1 c1 bB bK bX bY) 26 (0,0)):=(e12.block _ (aI R1.out)).trans R1.out;have Dw:=Zh.out.below e12;have O1:=nK.below e2;have FV:Below B0.heap.size B0 W2:=ac KS e12;rw[<-tJ];have Za:Below w.heap.size w W2:=ac KX FV;have mq1:=SV vG;have mq2:=SV rF;clear tJ nK aU e2 e12 R1 Zh vG rF cs0 cs1;have Zu:=Ih Dw;have F5:=Ih O1;have HWW:=Ih Za;have TM:=Ih FV;clear Dw O1 Za;cases q1 with
  | false=>
    have abx:(m1 != 0)=true:=mq1;clear mq1
    go_wp2_with fail
    refine(kH.out _ TM.out).mono ?_;rintro e w5 ⟨rfl,dB⟩
    go_wp2_with fail
    go_ret;exact⟨rfl,dB⟩
  | true=>
  have abx:(m1 != 0)=false:=mq1;clear mq1;cases q2 with
  | false=>
    have aa4:(m2 != 0)=true:=mq2;clear mq2
    go_wp2_with fail
    refine(kH.out _ TM.out).mono ?_;rintro e w5 ⟨rfl,dB⟩
    go_wp2_with fail
    go_ret;exact⟨rfl,dB⟩
  | true=>
    have aa4:(m2 != 0)=false:=mq2;clear mq2;have oW:=fs rfl;have sB:=fk rfl
    have HZL:Hid (∀y∈xs.map (fun x:ByteArray=>x.data.toList),y.length<=300):=Ih (fun y hy=>by
     obtain⟨z,hz,rfl⟩:=List.mem_map.1 hy;have:=HZ.out z hz;rw[aa];omega)
    obtain⟨L,hL⟩:∃L,L=xs.map (fun x:ByteArray=>x.data.toList):=⟨_,rfl⟩;have hLn:L.length=n:=by rw[hL,List.length_map,HN.out]
    obtain⟨b1,aC⟩:∃b,b=Lz.anyM u1 L u2 red:=⟨_,rfl⟩
    have kA:Hid (∀V,Below W2.heap.size W2 V->Calls Tryz.prog 6 #[.agg (C12 aS bW bF bG bn bA bL a1 n1 c1 bB bK bX bY),.slice la n lc,.agg (C12 eL gX gV fV eA gh gZ a2 n2 c2 bV fW gW gY),.bool red] V fun e w'=>e=.returned (.bool b1)/\Below W2.heap.size W2 w'):=Ih (fun V hV=>by
     rw[aC];refine(AY _ u1 _ L _ u2 red V ((HE.out.below TM.out).below hV) (Zu.out.below hV) oW (F5.out.below hV) sB (by rw[hL];exact HP.out V (ac TM.out hV)) (by omega) (fun y hy=>by have:=HZL.out y (by rw[<-hL];exact hy);omega)).mono ?_;exact fun e w' ⟨h1,h2⟩=>⟨h1,ac hV h2⟩)
    have kB:Hid (∀V,Below W2.heap.size W2 V->Calls Tryz.prog 7 #[.agg (C12 aS bW bF bG bn bA bL a1 n1 c1 bB bK bX bY),.slice la n lc,.agg (C12 eL gX gV fV eA gh gZ a2 n2 c2 bV fW gW gY),.bool red] V fun e w'=>e=.returned (.bool b1)/\Below W2.heap.size W2 w'):=Ih (fun V hV=>by
     rw[aC];refine(IR _ u1 _ L _ u2 red V ((HE.out.below TM.out).below hV) (Zu.out.below hV) oW (F5.out.below hV) sB (by rw[hL];exact HP.out V (ac TM.out hV)) (by omega) (by rw[hL];exact HZL.out)).mono ?_;exact fun e w' ⟨h1,h2⟩=>⟨h1,ac hV h2⟩)
    have hC:Hid (∀V,Below W2.heap.size W2 V->S12 V (w1.heap.size) aS bW bF bG bn bA bL a1 n1 c1 bB bK bX bY/\S12 V (w2.heap.size) eL gX gV fV eA gh gZ a2 n2 c2 bV fW gW gY):=Ih (fun V hV=>⟨fO ((hV.block _ (aI Xj)).trans Xj),fO ((hV.block _ (aI r2)).trans r2)⟩);have kH2:Hid (∀V,Below W2.heap.size W2 V->Calls Tryz.prog 4 #[] V fun e w'=>e=.returned (.bool true)/\Below W2.heap.size W2 w'):=Ih (fun V hV=>(sd V ((HE.out.below TM.out).below hV)).mono fun e w' ⟨h1,h2⟩=>⟨h1,ac hV h2⟩);have fG:Below W2.heap.size W2 W2.drew:=(Below.refl _ _).drew;clear aC hL hLn HP kH fs fk oW sB HZL HZ Zu F5 Xj r2 kP0 kP1 HX WC HBX wQ K5 g0 g1 HE TM;cases b1 with
    | true=>
      go_upto_region 12 with fail
      refine wp_region_held_drew (S:=fun V=>(S12 V (w1.heap.size) aS bW bF bG bn bA bL a1 n1 c1 bB bK bX bY/\S12 V (w2.heap.size) eL gX gV fV eA gh gZ a2 n2 c2 bV fW gW gY)/\Below W2.heap.size W2 V) (by kernel_rfl) ⟨hC.out _ fG,fG⟩ (fun ar=>?_);refine TkM 0 60 ?_;refine TkM 1 61 ?_;refine TkM 2 62 ?_;refine TkM 3 63 ?_;refine TkM 5 65 ?_;refine TkM 6 66 ?_;refine TkM 7 67 ?_;refine TkM 8 68 ?_;refine CkM 4 64 (cS kA hC) (fun V hV=>?_);refine CkM 9 69 (cS kB hC) (fun V hV=>?_);refine TkM 10 70 ?_;refine TkM 11 71 ?_;refine CkM 12 72 (cS kH2 hC) (fun V hV=>?_);refine TkM 13 73 ?_;refine TkM 14 6 ?_;refine wpAnyH_done (by kernel_rfl) ?_ _
      go_wp2_with fail
      go_ret;exact⟨rfl,ac HWW.out hV.2⟩
    | false=>
      go_upto_region 12 with fail
      refine wp_region_held_drew (S:=fun V=>(S12 V (w1.heap.size) aS bW bF bG bn bA bL a1 n1 c1 bB bK bX bY/\S12 V (w2.heap.size) eL gX gV fV eA gh gZ a2 n2 c2 bV fW gW gY)/\Below W2.heap.size W2 V) (by kernel_rfl) ⟨hC.out _ fG,fG⟩ (fun ar=>?_);refine TkM 0 60 ?_;refine TkM 1 61 ?_;refine TkM 2 62 ?_;refine TkM 3 63 ?_;refine TkM 5 65 ?_;refine TkM 6 66 ?_;refine TkM 7 67 ?_;refine TkM 8 68 ?_;refine CkM 4 64 (cS kA hC) (fun V hV=>?_);refine CkM 9 69 (cS kB hC) (fun V hV=>?_);refine TkM 10 70 ?_;refine TkM 11 71 ?_;refine CkM 12 72 (cS kH2 hC) (fun V hV=>?_);refine TkM 13 73 ?_;refine TkM 14 6 ?_;refine wpAnyH_done (by kernel_rfl) ?_ _
      go_wp2_with fail
      go_ret;exact⟨rfl,ac HWW.out hV.2⟩
end Go.Proofs.YtlcbhacofagedaaGreatDoor
