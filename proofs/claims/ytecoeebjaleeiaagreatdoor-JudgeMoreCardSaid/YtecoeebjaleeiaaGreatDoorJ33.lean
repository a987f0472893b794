/-
  Package match: every, One.
-/
import Derived.Test.YtecoeebjaleeiaaGreatDoorJ30
import Derived.Test.YtecoeebjaleeiaaGreatDoorJ32
set_option maxHeartbeats 8000000
set_option maxRecDepth 100000
namespace Go.Proofs.YtecoeebjaleeiaaGreatDoor
open Go.RowKit
attribute [local go_sem ↓] Go.wp_at_zero Go.wp_at_succ
theorem Kf (k:Int) (t:ByteArray) (b:Int) (sc ho:ByteArray) (wd:Bool) (po:Int) (pa:ByteArray):ak.src ⟨k,t,b,sc,ho,wd,po,pa⟩=Lz.sV↔k=3/\t.toList=[]/\b=0/\sc.toList=[]/\ho.toList=[]/\wd=true/\po= -1/\pa.toList=[]:=by
 unfold ak.src Lz.sV;rw[Lib.toList_data,Lib.toList_data,Lib.toList_data,Lib.toList_data]
 simp
theorem JK (x:ak) (w:World):Calls Tryz.prog 154 #[x.val] w (aC (decide (x.src=Lz.sV)) w):=by
 obtain⟨k,t,b,sc,ho,wd,po,pa⟩:=x;have ku:∀cs:Array Value,Below w.heap.size w (w.alloc (.cells cs 174)):=fun cs=>(Below.refl _ w).alloc (Nat.le_refl _) _
 dsimp only[ak.val]
 have HI:=Ih (Kf k t b sc ho wd po pa);have Hb:=Ih ku;clear ku;go_enter Tryz.func154,Tryz.ntmps154
 go_wp2_with fail
 all_goals go_ret
 all_goals refine⟨?_,Hb.out _⟩
 all_goals first
  | (rw[decide_eq_true (HI.out.2 ⟨by assumption,by assumption,by assumption,by assumption,by assumption,by (cases wd<;>simp_all),by assumption,by assumption⟩)];rfl)
  | (rw[decide_eq_false (fun h=>by obtain⟨h1,h2,h3,h4,h5,h6,h7,h8⟩:=HI.out.1 h;first |contradiction|simp_all)];rfl)
theorem M2 (v:Value) (u:Lz.ag) (x:ak) (v2:Value) (own:Lz.ag) (red:Bool) (w:World) (hE:rk w) (hv:aX w v u) (hU:UOk u) (hX:SOk x) (je:aX w v2 own) (hO:UOk own):Calls Tryz.prog 120 #[v,x.val,v2,.bool red] w (aC (Lz.xA u x.src own red) w):=by
 obtain⟨bo,cw,ck,cv,aU,cf,cq,a1,n1,c1,bO,bU,cz,de,rfl,e0,_,_,_,_,hv⟩:=hv.letters;obtain⟨gG,jQ,jm,eA,dN,jw,jP,a2,n2,c2,bQ,ee,jN,jF,rfl,f0,_,_,_,_,je⟩:=je.letters;obtain⟨k,t,b,sc,ho,wd,po,pa⟩:=x;obtain⟨R,hR⟩:∃R,R=Lz.xA u (ak.src ⟨k,t,b,sc,ho,wd,po,pa⟩) own red:=⟨_,rfl⟩;rw[<-hR]
 have JA:R=if k=1 then(t.data.toList==Lz.Dp&&Lz.As u own)else if k=2 then Lz.jC sc.data.toList bo.data.toList else if k=3 then(if ak.src ⟨k,t,b,sc,ho,wd,po,pa⟩=Lz.sV then Lz.KT bo.data.toList||bo.data.toList==gG.data.toList else Lz.pq u (ak.src ⟨k,t,b,sc,ho,wd,po,pa⟩) own red)else false:=by
  rw[hR];unfold Lz.xA;rw[e0,f0];rfl
 dsimp only[ak.val]
 obtain⟨W,hW⟩:∃W,W=((w.alloc (.cells #[.string bo,.string cw,.string ck,.bool cv,.string aU,.int .i64 cf,.bool cq,.slice a1 n1 c1,.bool bO,.bool bU,.string cz,.string de] 32)).alloc (.cells #[.int .i64 k,.string t,.int .i64 b,.string sc,.string ho,.bool wd,.int .i64 po,.string pa] 174)).alloc (.cells #[.string gG,.string jQ,.string jm,.bool eA,.string dN,.int .i64 jw,.bool jP,.slice a2 n2 c2,.bool bQ,.bool ee,.string jN,.string jF] 32):=⟨_,rfl⟩;have aS:Below w.heap.size w W:=by rw[hW];exact(((Below.refl _ w).alloc (Nat.le_refl _) _).alloc (by simp) _).alloc (by simp;omega) _
 have sj:W.heap[w.heap.size]? =some (.cells #[.string bo,.string cw,.string ck,.bool cv,.string aU,.int .i64 cf,.bool cq,.slice a1 n1 c1,.bool bO,.bool bU,.string cz,.string de] 32 (0,0)):=by
  rw[hW,Below.heap_alloc _ _ _ (by simp;omega),Below.heap_alloc _ _ _ (by simp)];exact ah _ _
 have Mf:W.heap[w.heap.size+1]? =some (.cells #[.int .i64 k,.string t,.int .i64 b,.string sc,.string ho,.bool wd,.int .i64 po,.string pa] 174 (0,0)):=by
  rw[hW,Below.heap_alloc _ _ _ (by simp)];exact dm _ _ _
 have Cy:W.heap[w.heap.size+1+1]? =some (.cells #[.string gG,.string jQ,.string jm,.bool eA,.string dN,.int .i64 jw,.bool jP,.slice a2 n2 c2,.bool bQ,.bool ee,.string jN,.string jF] 32 (0,0)):=by
  rw[hW];have:=ah ((w.alloc (.cells #[.string bo,.string cw,.string ck,.bool cv,.string aU,.int .i64 cf,.bool cq,.slice a1 n1 c1,.bool bO,.bool bU,.string cz,.string de] 32)).alloc (.cells #[.int .i64 k,.string t,.int .i64 b,.string sc,.string ho,.bool wd,.int .i64 po,.string pa] 174)) (.cells #[.string gG,.string jQ,.string jm,.bool eA,.string dN,.int .i64 jw,.bool jP,.slice a2 n2 c2,.bool bQ,.bool ee,.string jN,.string jF] 32);simpa using this
 have HW:=Ih hW;have O9:=hv.below aS;have Ir:=je.below aS;have qj:=hE.below aS;obtain⟨q1,Wt⟩:∃q,q=Lz.As u own:=⟨_,rfl⟩;obtain⟨q2,Lq⟩:∃q,q=Lz.jC sc.data.toList bo.data.toList:=⟨_,rfl⟩;obtain⟨q3,V3⟩:∃q,q=decide (ak.src ⟨k,t,b,sc,ho,wd,po,pa⟩=Lz.sV):=⟨_,rfl⟩;obtain⟨q4,We⟩:∃q,q=Lz.KT bo.data.toList:=⟨_,rfl⟩;obtain⟨q5,VQ⟩:∃q,q=Lz.pq u (ak.src ⟨k,t,b,sc,ho,wd,po,pa⟩) own red:=⟨_,rfl⟩;have cA:Hid (∀V,Below W.heap.size W V->Calls Tryz.prog 152 #[.agg #[.string bo,.string cw,.string ck,.bool cv,.string aU,.int .i64 cf,.bool cq,.slice a1 n1 c1,.bool bO,.bool bU,.string cz,.string de],.agg #[.string gG,.string jQ,.string jm,.bool eA,.string dN,.int .i64 jw,.bool jP,.slice a2 n2 c2,.bool bQ,.bool ee,.string jN,.string jF]] V fun e w'=>e=.returned (.bool q1)/\Below W.heap.size W w'):=Ih (fun V hV=>(KP _ u _ own V (qj.below hV).u (O9.below hV) hU (Ir.below hV) hO).mono fun e w' ⟨h1,h2⟩=>⟨by rw[h1,Wt],hV.trans (h2.mono hV.size)⟩)
 have cB:Hid (∀V,Below W.heap.size W V->Calls Tryz.prog 153 #[.string sc,.string bo] V fun e w'=>e=.returned (.bool q2)/\Below W.heap.size W w'):=Ih (fun V hV=>(uA sc bo V (qj.below hV) (by have h2:sc.size<=1000000:=hX.scheme;omega)).mono fun e w' ⟨h1,h2⟩=>⟨by rw[h1,Lq],hV.trans (h2.mono hV.size)⟩);have cC:Hid (∀V,Below W.heap.size W V->Calls Tryz.prog 154 #[.agg #[.int .i64 k,.string t,.int .i64 b,.string sc,.string ho,.bool wd,.int .i64 po,.string pa]] V fun e w'=>e=.returned (.bool q3)/\Below W.heap.size W w'):=Ih (fun V hV=>(JK ⟨k,t,b,sc,ho,wd,po,pa⟩ V).mono fun e w' ⟨h1,h2⟩=>⟨by rw[h1,V3],hV.trans (h2.mono hV.size)⟩);have cD:Hid (∀V,Below W.heap.size W V->Calls Tryz.prog 155 #[.string bo] V fun e w'=>e=.returned (.bool q4)/\Below W.heap.size W w'):=Ih (fun V hV=>(Rg bo V).mono fun e w' ⟨h1,h2⟩=>⟨by rw[h1,We],h2▸hV⟩)
 have cE:Hid (∀V,Below W.heap.size W V->Calls Tryz.prog 156 #[.agg #[.string bo,.string cw,.string ck,.bool cv,.string aU,.int .i64 cf,.bool cq,.slice a1 n1 c1,.bool bO,.bool bU,.string cz,.string de],.agg #[.int .i64 k,.string t,.int .i64 b,.string sc,.string ho,.bool wd,.int .i64 po,.string pa],.agg #[.string gG,.string jQ,.string jm,.bool eA,.string dN,.int .i64 jw,.bool jP,.slice a2 n2 c2,.bool bQ,.bool ee,.string jN,.string jF],.bool red] V fun e w'=>e=.returned (.bool q5)/\Below W.heap.size W w'):=Ih (fun V hV=>(BY _ u ⟨k,t,b,sc,ho,wd,po,pa⟩ _ own red V (qj.below hV) (O9.below hV) hU hX (Ir.below hV) (by have:=hO.wq;unfold Lz.wq Lz.wt at this;omega)).mono fun e w' ⟨h1,h2⟩=>⟨by rw[h1,VQ],hV.trans (h2.mono hV.size)⟩)
 have HV:Hid (R=if k=1 then(t.data.toList==Lz.Dp&&q1)else if k=2 then q2 else if k=3 then(if q3=true then q4||bo.data.toList==gG.data.toList else q5)else false):=by
  show _=_;rw[JA,Wt,Lq,V3,We,VQ];simp only[decide_eq_true_eq]
 have hC:Hid (∀V,Below W.heap.size W V->(V.cell? ⟨w.heap.size,0,none⟩=some (.string bo)/\V.cell? ⟨w.heap.size,1,none⟩=some (.string cw)/\V.cell? ⟨w.heap.size,2,none⟩=some (.string ck)/\V.cell? ⟨w.heap.size,3,none⟩=some (.bool cv)/\V.cell? ⟨w.heap.size,4,none⟩=some (.string aU)/\V.cell? ⟨w.heap.size,5,none⟩=some (.int .i64 cf)/\V.cell? ⟨w.heap.size,6,none⟩=some (.bool cq)/\V.cell? ⟨w.heap.size,7,none⟩=some (.slice a1 n1 c1)/\V.cell? ⟨w.heap.size,8,none⟩=some (.bool bO)/\V.cell? ⟨w.heap.size,9,none⟩=some (.bool bU)/\V.cell? ⟨w.heap.size,10,none⟩=some (.string cz)/\V.cell? ⟨w.heap.size,11,none⟩=some (.string de))/\(V.cell? ⟨w.heap.size+1,0,none⟩=some (.int .i64 k)/\V.cell? ⟨w.heap.size+1,1,none⟩=some (.string t)/\V.cell? ⟨w.heap.size+1,2,none⟩=some (.int .i64 b)/\V.cell? ⟨w.heap.size+1,3,none⟩=some (.string sc)/\V.cell? ⟨w.heap.size+1,4,none⟩=some (.string ho)/\V.cell? ⟨w.heap.size+1,5,none⟩=some (.bool wd)/\V.cell? ⟨w.heap.size+1,6,none⟩=some (.int .i64 po)/\V.cell? ⟨w.heap.size+1,7,none⟩=some (.string pa))/\(V.cell? ⟨w.heap.size+1+1,0,none⟩=some (.string gG)/\V.cell? ⟨w.heap.size+1+1,1,none⟩=some (.string jQ)/\V.cell? ⟨w.heap.size+1+1,2,none⟩=some (.string jm)/\V.cell? ⟨w.heap.size+1+1,3,none⟩=some (.bool eA)/\V.cell? ⟨w.heap.size+1+1,4,none⟩=some (.string dN)/\V.cell? ⟨w.heap.size+1+1,5,none⟩=some (.int .i64 jw)/\V.cell? ⟨w.heap.size+1+1,6,none⟩=some (.bool jP)/\V.cell? ⟨w.heap.size+1+1,7,none⟩=some (.slice a2 n2 c2)/\V.cell? ⟨w.heap.size+1+1,8,none⟩=some (.bool bQ)/\V.cell? ⟨w.heap.size+1+1,9,none⟩=some (.bool ee)/\V.cell? ⟨w.heap.size+1+1,10,none⟩=some (.string jN)/\V.cell? ⟨w.heap.size+1+1,11,none⟩=some (.string jF))):=Ih (fun V hV=>⟨dW ((hV.block _ (af sj)).trans sj),tW ((hV.block _ (af Mf)).trans Mf),dW ((hV.block _ (af Cy)).trans Cy)⟩)
 have Fu:Below W.heap.size W W:=Below.refl _ _;have zw:=Ih (iy bo gG);clear hR hW JA Wt Lq V3 We VQ e0 f0 hv je O9 Ir qj hE sj Mf Cy hU hO hX;obtain⟨⟨x0,x1,x2,x3,x4,x5,x6,x7,x8,x9,nA,nB⟩,⟨z0,z1,z2,z3,z4,z5,z6,z7⟩,y0,y1,y2,y3,y4,y5,y6,y7,y8,y9,qU,qR⟩:=hC.out _ Fu;by_cases k1:k=1
 ·have h1:(k==1)=true:=by rw[k1];rfl
  rw[if_pos k1]at HV;by_cases hs:t.data.toList=[115,101,108,102]
  ·have t1:=bg hs;have HQ:Hid (R=q1):=by show _=_;rw[HV.out,hs];rfl
   clear HV hs k1;go_enter Tryz.func120,Tryz.ntmps120
   go_wp2_with (first |(rw[<-HW.out];done)|fail)
   rw[<-HW.out];refine(cA.out _ Fu).mono ?_;rintro e w5 ⟨rfl,fJ⟩
   go_wp2_with fail
   go_ret;exact⟨by rw[HQ.out];rfl,aS.trans (fJ.mono aS.size)⟩
  ·have t1:=bN hs;have HQ:Hid (R=false):=by show _=_;rw[HV.out,show(t.data.toList==Lz.Dp)=false from beq_eq_false_iff_ne.2 hs];rfl
   clear HV hs k1;go_enter Tryz.func120,Tryz.ntmps120
   go_wp2_with fail
   rw[<-HW.out];go_ret;exact⟨by rw[HQ.out];rfl,aS⟩
 ·have h1:(k==1)=false:=beq_eq_false_iff_ne.2 k1;rw[if_neg k1]at HV;by_cases k2:k=2
  ·have h2:(k==2)=true:=by rw[k2];rfl
   rw[if_pos k2]at HV;clear k1 k2;go_enter Tryz.func120,Tryz.ntmps120
   go_wp2_with fail
   rw[<-HW.out];refine(cB.out _ Fu).mono ?_;rintro e w5 ⟨rfl,fJ⟩
   go_wp2_with fail
   go_ret;exact⟨by rw[HV.out];rfl,aS.trans (fJ.mono aS.size)⟩
  ·have h2:(k==2)=false:=beq_eq_false_iff_ne.2 k2;rw[if_neg k2]at HV;by_cases k3:k=3
   ·have h3:(k==3)=true:=by rw[k3];rfl
    rw[if_pos k3]at HV;clear k1 k2 k3;cases q3 with
    | true=>
      rw[if_pos rfl]at HV;cases q4 with
      | true=>
        have HQ:Hid (R=true):=by show _=_;rw[HV.out];rfl
        clear HV;go_enter Tryz.func120,Tryz.ntmps120
        go_wp2_with fail
        rw[<-HW.out];refine(cC.out _ Fu).mono ?_;rintro e w5 ⟨rfl,fJ⟩;clear x0 x1 x2 x3 x4 x5 x6 x7 x8 x9 nA nB z0 z1 z2 z3 z4 z5 z6 z7 y0 y1 y2 y3 y4 y5 y6 y7 y8 y9 qU qR;obtain⟨⟨x0,x1,x2,x3,x4,x5,x6,x7,x8,x9,nA,nB⟩,⟨z0,z1,z2,z3,z4,z5,z6,z7⟩,y0,y1,y2,y3,y4,y5,y6,y7,y8,y9,qU,qR⟩:=hC.out _ fJ
        go_wp2_with fail
        refine(cD.out _ fJ).mono ?_;rintro e w6 ⟨rfl,Yj⟩
        go_wp2_with fail
        go_ret;exact⟨by rw[HQ.out];rfl,aS.trans (Yj.mono aS.size)⟩
      | false=>
        have HQ:Hid (R=(bo.toList==gG.toList)):=by show _=_;rw[HV.out,Lib.toList_data,Lib.toList_data];rfl
        clear HV;go_enter Tryz.func120,Tryz.ntmps120
        go_wp2_with fail
        rw[<-HW.out];refine(cC.out _ Fu).mono ?_;rintro e w5 ⟨rfl,fJ⟩;clear x0 x1 x2 x3 x4 x5 x6 x7 x8 x9 nA nB z0 z1 z2 z3 z4 z5 z6 z7 y0 y1 y2 y3 y4 y5 y6 y7 y8 y9 qU qR;obtain⟨⟨x0,x1,x2,x3,x4,x5,x6,x7,x8,x9,nA,nB⟩,⟨z0,z1,z2,z3,z4,z5,z6,z7⟩,y0,y1,y2,y3,y4,y5,y6,y7,y8,y9,qU,qR⟩:=hC.out _ fJ
        go_wp2_with fail
        refine(cD.out _ fJ).mono ?_;rintro e w6 ⟨rfl,Yj⟩;clear x0 x1 x2 x3 x4 x5 x6 x7 x8 x9 nA nB z0 z1 z2 z3 z4 z5 z6 z7 y0 y1 y2 y3 y4 y5 y6 y7 y8 y9 qU qR;obtain⟨⟨x0,x1,x2,x3,x4,x5,x6,x7,x8,x9,nA,nB⟩,⟨z0,z1,z2,z3,z4,z5,z6,z7⟩,y0,y1,y2,y3,y4,y5,y6,y7,y8,y9,qU,qR⟩:=hC.out _ Yj
        go_wp2_with fail
        go_ret;exact⟨by rw[HQ.out];rfl,aS.trans (Yj.mono aS.size)⟩
    | false=>
      rw[if_neg (by decide)]at HV;go_enter Tryz.func120,Tryz.ntmps120
      go_wp2_with fail
      rw[<-HW.out];refine(cC.out _ Fu).mono ?_;rintro e w5 ⟨rfl,fJ⟩;clear x0 x1 x2 x3 x4 x5 x6 x7 x8 x9 nA nB z0 z1 z2 z3 z4 z5 z6 z7 y0 y1 y2 y3 y4 y5 y6 y7 y8 y9 qU qR;obtain⟨⟨x0,x1,x2,x3,x4,x5,x6,x7,x8,x9,nA,nB⟩,⟨z0,z1,z2,z3,z4,z5,z6,z7⟩,y0,y1,y2,y3,y4,y5,y6,y7,y8,y9,qU,qR⟩:=hC.out _ fJ
      go_wp2_with fail
      refine(cE.out _ fJ).mono ?_;rintro e w6 ⟨rfl,Yj⟩
      go_wp2_with fail
      go_ret;exact⟨by rw[HV.out];rfl,aS.trans (Yj.mono aS.size)⟩
   ·have h3:(k==3)=false:=beq_eq_false_iff_ne.2 k3;rw[if_neg k3]at HV;clear k1 k2 k3;go_enter Tryz.func120,Tryz.ntmps120
    go_wp2_with fail
    rw[<-HW.out];go_ret;exact⟨by rw[HV.out];rfl,aS⟩
end Go.Proofs.YtecoeebjaleeiaaGreatDoor
