/-
  Package match: every, One.
-/
import Derived.Test.YtjhccadmmnjpeaaGreatDoorT37
import Derived.Test.YtjhccadmmnjpeaaGreatDoorT39
set_option maxHeartbeats 8000000
set_option maxRecDepth 100000
namespace Go.Proofs.YtjhccadmmnjpeaaGreatDoor
open Go.RowKit
attribute [local go_sem ↓] Go.wp_at_zero Go.wp_at_succ
theorem src_every (k:Int) (t:ByteArray) (b:Int) (sc ho:ByteArray) (wd:Bool) (po:Int) (pa:ByteArray):SrcB.src ⟨k,t,b,sc,ho,wd,po,pa⟩=Lz.everyS↔k=3/\t.toList=[]/\b=0/\sc.toList=[]/\ho.toList=[]/\wd=true/\po= -1/\pa.toList=[]:=by
 unfold SrcB.src Lz.everyS;rw[Lib.toList_data,Lib.toList_data,Lib.toList_data,Lib.toList_data]
 simp
theorem every_any (x:SrcB) (w:World):Calls Tryz.prog 117 #[x.val] w (RBool (decide (x.src=Lz.everyS)) w):=by
 obtain⟨k,t,b,sc,ho,wd,po,pa⟩:=x;have hb0:∀cs:Array Value,Below w.heap.size w (w.alloc (.cells cs 47)):=fun cs=>(Below.refl _ w).alloc (Nat.le_refl _) _
 dsimp only[SrcB.val]
 have HI:=Ih (src_every k t b sc ho wd po pa);have Hb:=Ih hb0;clear hb0;go_enter Tryz.func117,Tryz.ntmps117
 go_wp2_with fail
 all_goals go_ret
 all_goals refine⟨?_,Hb.out _⟩
 all_goals first
  | (rw[decide_eq_true (HI.out.2 ⟨by assumption,by assumption,by assumption,by assumption,by assumption,by (cases wd<;>simp_all),by assumption,by assumption⟩)];rfl)
  | (rw[decide_eq_false (fun h=>by obtain⟨h1,h2,h3,h4,h5,h6,h7,h8⟩:=HI.out.1 h;first |contradiction|simp_all)];rfl)
theorem OneM_any (v:Value) (u:Lz.UrlL) (x:SrcB) (v2:Value) (own:Lz.UrlL) (red:Bool) (w:World) (hE:EnvM w) (hv:UrlVal w v u) (hU:UOk u) (hX:SOk x) (hv2:UrlVal w v2 own) (hO:UOk own):Calls Tryz.prog 76 #[v,x.val,v2,.bool red] w (RBool (Lz.oneM u x.src own red) w):=by
 obtain⟨sc1,us1,pa1,hh1,hs1,pr1,op1,a1,n1,c1,hq1,hf1,qr1,fr1,rfl,e0,_,_,_,_,hv⟩:=hv.letters;obtain⟨sc2,us2,pa2,hh2,hs2,pr2,op2,a2,n2,c2,hq2,hf2,qr2,fr2,rfl,f0,_,_,_,_,hv2⟩:=hv2.letters;obtain⟨k,t,b,sc,ho,wd,po,pa⟩:=x;obtain⟨R,hR⟩:∃R,R=Lz.oneM u (SrcB.src ⟨k,t,b,sc,ho,wd,po,pa⟩) own red:=⟨_,rfl⟩;rw[<-hR]
 have hvR:R=if k=1 then(t.data.toList==Lz.selfS&&Lz.selfM u own)else if k=2 then Lz.schemeM sc.data.toList sc1.data.toList else if k=3 then(if SrcB.src ⟨k,t,b,sc,ho,wd,po,pa⟩=Lz.everyS then Lz.webP sc1.data.toList||sc1.data.toList==sc2.data.toList else Lz.hostedM u (SrcB.src ⟨k,t,b,sc,ho,wd,po,pa⟩) own red)else false:=by
  rw[hR];unfold Lz.oneM;rw[e0,f0];rfl
 dsimp only[SrcB.val]
 obtain⟨W,hW⟩:∃W,W=((w.alloc (.cells #[.string sc1,.string us1,.string pa1,.bool hh1,.string hs1,.int .i64 pr1,.bool op1,.slice a1 n1 c1,.bool hq1,.bool hf1,.string qr1,.string fr1] 36)).alloc (.cells #[.int .i64 k,.string t,.int .i64 b,.string sc,.string ho,.bool wd,.int .i64 po,.string pa] 47)).alloc (.cells #[.string sc2,.string us2,.string pa2,.bool hh2,.string hs2,.int .i64 pr2,.bool op2,.slice a2 n2 c2,.bool hq2,.bool hf2,.string qr2,.string fr2] 36):=⟨_,rfl⟩;have hbW:Below w.heap.size w W:=by rw[hW];exact(((Below.refl _ w).alloc (Nat.le_refl _) _).alloc (by simp) _).alloc (by simp;omega) _
 have hRU:W.heap[w.heap.size]? =some (.cells #[.string sc1,.string us1,.string pa1,.bool hh1,.string hs1,.int .i64 pr1,.bool op1,.slice a1 n1 c1,.bool hq1,.bool hf1,.string qr1,.string fr1] 36 (0,0)):=by
  rw[hW,Below.heap_alloc _ _ _ (by simp;omega),Below.heap_alloc _ _ _ (by simp)];exact heap_new _ _
 have hRS:W.heap[w.heap.size+1]? =some (.cells #[.int .i64 k,.string t,.int .i64 b,.string sc,.string ho,.bool wd,.int .i64 po,.string pa] 47 (0,0)):=by
  rw[hW,Below.heap_alloc _ _ _ (by simp)];exact heap_new2 _ _ _
 have hRO:W.heap[w.heap.size+1+1]? =some (.cells #[.string sc2,.string us2,.string pa2,.bool hh2,.string hs2,.int .i64 pr2,.bool op2,.slice a2 n2 c2,.bool hq2,.bool hf2,.string qr2,.string fr2] 36 (0,0)):=by
  rw[hW];have:=heap_new ((w.alloc (.cells #[.string sc1,.string us1,.string pa1,.bool hh1,.string hs1,.int .i64 pr1,.bool op1,.slice a1 n1 c1,.bool hq1,.bool hf1,.string qr1,.string fr1] 36)).alloc (.cells #[.int .i64 k,.string t,.int .i64 b,.string sc,.string ho,.bool wd,.int .i64 po,.string pa] 47)) (.cells #[.string sc2,.string us2,.string pa2,.bool hh2,.string hs2,.int .i64 pr2,.bool op2,.slice a2 n2 c2,.bool hq2,.bool hf2,.string qr2,.string fr2] 36);simpa using this
 have HW:=Ih hW;have hvW:=hv.below hbW;have hv2W:=hv2.below hbW;have hEW:=hE.below hbW;obtain⟨q1,hq1'⟩:∃q,q=Lz.selfM u own:=⟨_,rfl⟩;obtain⟨q2,hq2'⟩:∃q,q=Lz.schemeM sc.data.toList sc1.data.toList:=⟨_,rfl⟩;obtain⟨q3,hq3'⟩:∃q,q=decide (SrcB.src ⟨k,t,b,sc,ho,wd,po,pa⟩=Lz.everyS):=⟨_,rfl⟩;obtain⟨q4,hq4'⟩:∃q,q=Lz.webP sc1.data.toList:=⟨_,rfl⟩;obtain⟨q5,hq5'⟩:∃q,q=Lz.hostedM u (SrcB.src ⟨k,t,b,sc,ho,wd,po,pa⟩) own red:=⟨_,rfl⟩;have cA:Hid (∀V,Below W.heap.size W V->Calls Tryz.prog 115 #[.agg #[.string sc1,.string us1,.string pa1,.bool hh1,.string hs1,.int .i64 pr1,.bool op1,.slice a1 n1 c1,.bool hq1,.bool hf1,.string qr1,.string fr1],.agg #[.string sc2,.string us2,.string pa2,.bool hh2,.string hs2,.int .i64 pr2,.bool op2,.slice a2 n2 c2,.bool hq2,.bool hf2,.string qr2,.string fr2]] V fun e w'=>e=.returned (.bool q1)/\Below W.heap.size W w'):=Ih (fun V hV=>(selfM_any _ u _ own V (hEW.below hV).u (hvW.below hV) hU (hv2W.below hV) hO).mono fun e w' ⟨h1,h2⟩=>⟨by rw[h1,hq1'],hV.trans (h2.mono hV.size)⟩)
 have cB:Hid (∀V,Below W.heap.size W V->Calls Tryz.prog 116 #[.string sc,.string sc1] V fun e w'=>e=.returned (.bool q2)/\Below W.heap.size W w'):=Ih (fun V hV=>(SchemeM_any sc sc1 V (hEW.below hV) (by have h2:sc.size<=1000000:=hX.scheme;omega)).mono fun e w' ⟨h1,h2⟩=>⟨by rw[h1,hq2'],hV.trans (h2.mono hV.size)⟩);have cC:Hid (∀V,Below W.heap.size W V->Calls Tryz.prog 117 #[.agg #[.int .i64 k,.string t,.int .i64 b,.string sc,.string ho,.bool wd,.int .i64 po,.string pa]] V fun e w'=>e=.returned (.bool q3)/\Below W.heap.size W w'):=Ih (fun V hV=>(every_any ⟨k,t,b,sc,ho,wd,po,pa⟩ V).mono fun e w' ⟨h1,h2⟩=>⟨by rw[h1,hq3'],hV.trans (h2.mono hV.size)⟩);have cD:Hid (∀V,Below W.heap.size W V->Calls Tryz.prog 118 #[.string sc1] V fun e w'=>e=.returned (.bool q4)/\Below W.heap.size W w'):=Ih (fun V hV=>(web_any sc1 V).mono fun e w' ⟨h1,h2⟩=>⟨by rw[h1,hq4'],h2▸hV⟩)
 have cE:Hid (∀V,Below W.heap.size W V->Calls Tryz.prog 119 #[.agg #[.string sc1,.string us1,.string pa1,.bool hh1,.string hs1,.int .i64 pr1,.bool op1,.slice a1 n1 c1,.bool hq1,.bool hf1,.string qr1,.string fr1],.agg #[.int .i64 k,.string t,.int .i64 b,.string sc,.string ho,.bool wd,.int .i64 po,.string pa],.agg #[.string sc2,.string us2,.string pa2,.bool hh2,.string hs2,.int .i64 pr2,.bool op2,.slice a2 n2 c2,.bool hq2,.bool hf2,.string qr2,.string fr2],.bool red] V fun e w'=>e=.returned (.bool q5)/\Below W.heap.size W w'):=Ih (fun V hV=>(hostedMt_any _ u ⟨k,t,b,sc,ho,wd,po,pa⟩ _ own red V (hEW.below hV) (hvW.below hV) hU hX (hv2W.below hV) (by have:=hO.wq;unfold Lz.wq Lz.wt at this;omega)).mono fun e w' ⟨h1,h2⟩=>⟨by rw[h1,hq5'],hV.trans (h2.mono hV.size)⟩)
 have HV:Hid (R=if k=1 then(t.data.toList==Lz.selfS&&q1)else if k=2 then q2 else if k=3 then(if q3=true then q4||sc1.data.toList==sc2.data.toList else q5)else false):=by
  show _=_;rw[hvR,hq1',hq2',hq3',hq4',hq5'];simp only[decide_eq_true_eq]
 have hC:Hid (∀V,Below W.heap.size W V->(V.cell? ⟨w.heap.size,0,none⟩=some (.string sc1)/\V.cell? ⟨w.heap.size,1,none⟩=some (.string us1)/\V.cell? ⟨w.heap.size,2,none⟩=some (.string pa1)/\V.cell? ⟨w.heap.size,3,none⟩=some (.bool hh1)/\V.cell? ⟨w.heap.size,4,none⟩=some (.string hs1)/\V.cell? ⟨w.heap.size,5,none⟩=some (.int .i64 pr1)/\V.cell? ⟨w.heap.size,6,none⟩=some (.bool op1)/\V.cell? ⟨w.heap.size,7,none⟩=some (.slice a1 n1 c1)/\V.cell? ⟨w.heap.size,8,none⟩=some (.bool hq1)/\V.cell? ⟨w.heap.size,9,none⟩=some (.bool hf1)/\V.cell? ⟨w.heap.size,10,none⟩=some (.string qr1)/\V.cell? ⟨w.heap.size,11,none⟩=some (.string fr1))/\(V.cell? ⟨w.heap.size+1,0,none⟩=some (.int .i64 k)/\V.cell? ⟨w.heap.size+1,1,none⟩=some (.string t)/\V.cell? ⟨w.heap.size+1,2,none⟩=some (.int .i64 b)/\V.cell? ⟨w.heap.size+1,3,none⟩=some (.string sc)/\V.cell? ⟨w.heap.size+1,4,none⟩=some (.string ho)/\V.cell? ⟨w.heap.size+1,5,none⟩=some (.bool wd)/\V.cell? ⟨w.heap.size+1,6,none⟩=some (.int .i64 po)/\V.cell? ⟨w.heap.size+1,7,none⟩=some (.string pa))/\(V.cell? ⟨w.heap.size+1+1,0,none⟩=some (.string sc2)/\V.cell? ⟨w.heap.size+1+1,1,none⟩=some (.string us2)/\V.cell? ⟨w.heap.size+1+1,2,none⟩=some (.string pa2)/\V.cell? ⟨w.heap.size+1+1,3,none⟩=some (.bool hh2)/\V.cell? ⟨w.heap.size+1+1,4,none⟩=some (.string hs2)/\V.cell? ⟨w.heap.size+1+1,5,none⟩=some (.int .i64 pr2)/\V.cell? ⟨w.heap.size+1+1,6,none⟩=some (.bool op2)/\V.cell? ⟨w.heap.size+1+1,7,none⟩=some (.slice a2 n2 c2)/\V.cell? ⟨w.heap.size+1+1,8,none⟩=some (.bool hq2)/\V.cell? ⟨w.heap.size+1+1,9,none⟩=some (.bool hf2)/\V.cell? ⟨w.heap.size+1+1,10,none⟩=some (.string qr2)/\V.cell? ⟨w.heap.size+1+1,11,none⟩=some (.string fr2))):=Ih (fun V hV=>⟨row12 ((hV.block _ (row_lt hRU)).trans hRU),row8c ((hV.block _ (row_lt hRS)).trans hRS),row12 ((hV.block _ (row_lt hRO)).trans hRO)⟩)
 have hB0:Below W.heap.size W W:=Below.refl _ _;have hsm:=Ih (same_text sc1 sc2);clear hR hW hvR hq1' hq2' hq3' hq4' hq5' e0 f0 hv hv2 hvW hv2W hEW hE hRU hRS hRO hU hO hX;obtain⟨⟨x0,x1,x2,x3,x4,x5,x6,x7,x8,x9,x10,x11⟩,⟨z0,z1,z2,z3,z4,z5,z6,z7⟩,y0,y1,y2,y3,y4,y5,y6,y7,y8,y9,y10,y11⟩:=hC.out _ hB0;by_cases k1:k=1
 ·have h1:(k==1)=true:=by rw[k1];rfl
  rw[if_pos k1]at HV;by_cases hs:t.data.toList=[115,101,108,102]
  ·have t1:=text_yes hs;have HQ:Hid (R=q1):=by show _=_;rw[HV.out,hs];rfl
   clear HV hs k1;go_enter Tryz.func76,Tryz.ntmps76
   go_wp2_with (first |(rw[<-HW.out];done)|fail)
   rw[<-HW.out];refine(cA.out _ hB0).mono ?_;rintro e w5 ⟨rfl,hK5⟩
   go_wp2_with fail
   go_ret;exact⟨by rw[HQ.out];rfl,hbW.trans (hK5.mono hbW.size)⟩
  ·have t1:=text_no hs;have HQ:Hid (R=false):=by show _=_;rw[HV.out,show(t.data.toList==Lz.selfS)=false from beq_eq_false_iff_ne.2 hs];rfl
   clear HV hs k1;go_enter Tryz.func76,Tryz.ntmps76
   go_wp2_with fail
   rw[<-HW.out];go_ret;exact⟨by rw[HQ.out];rfl,hbW⟩
 ·have h1:(k==1)=false:=beq_eq_false_iff_ne.2 k1;rw[if_neg k1]at HV;by_cases k2:k=2
  ·have h2:(k==2)=true:=by rw[k2];rfl
   rw[if_pos k2]at HV;clear k1 k2;go_enter Tryz.func76,Tryz.ntmps76
   go_wp2_with fail
   rw[<-HW.out];refine(cB.out _ hB0).mono ?_;rintro e w5 ⟨rfl,hK5⟩
   go_wp2_with fail
   go_ret;exact⟨by rw[HV.out];rfl,hbW.trans (hK5.mono hbW.size)⟩
  ·have h2:(k==2)=false:=beq_eq_false_iff_ne.2 k2;rw[if_neg k2]at HV;by_cases k3:k=3
   ·have h3:(k==3)=true:=by rw[k3];rfl
    rw[if_pos k3]at HV;clear k1 k2 k3;cases q3 with
    | true=>
      rw[if_pos rfl]at HV;cases q4 with
      | true=>
        have HQ:Hid (R=true):=by show _=_;rw[HV.out];rfl
        clear HV;go_enter Tryz.func76,Tryz.ntmps76
        go_wp2_with fail
        rw[<-HW.out];refine(cC.out _ hB0).mono ?_;rintro e w5 ⟨rfl,hK5⟩;clear x0 x1 x2 x3 x4 x5 x6 x7 x8 x9 x10 x11 z0 z1 z2 z3 z4 z5 z6 z7 y0 y1 y2 y3 y4 y5 y6 y7 y8 y9 y10 y11;obtain⟨⟨x0,x1,x2,x3,x4,x5,x6,x7,x8,x9,x10,x11⟩,⟨z0,z1,z2,z3,z4,z5,z6,z7⟩,y0,y1,y2,y3,y4,y5,y6,y7,y8,y9,y10,y11⟩:=hC.out _ hK5
        go_wp2_with fail
        refine(cD.out _ hK5).mono ?_;rintro e w6 ⟨rfl,hK6⟩
        go_wp2_with fail
        go_ret;exact⟨by rw[HQ.out];rfl,hbW.trans (hK6.mono hbW.size)⟩
      | false=>
        have HQ:Hid (R=(sc1.toList==sc2.toList)):=by show _=_;rw[HV.out,Lib.toList_data,Lib.toList_data];rfl
        clear HV;go_enter Tryz.func76,Tryz.ntmps76
        go_wp2_with fail
        rw[<-HW.out];refine(cC.out _ hB0).mono ?_;rintro e w5 ⟨rfl,hK5⟩;clear x0 x1 x2 x3 x4 x5 x6 x7 x8 x9 x10 x11 z0 z1 z2 z3 z4 z5 z6 z7 y0 y1 y2 y3 y4 y5 y6 y7 y8 y9 y10 y11;obtain⟨⟨x0,x1,x2,x3,x4,x5,x6,x7,x8,x9,x10,x11⟩,⟨z0,z1,z2,z3,z4,z5,z6,z7⟩,y0,y1,y2,y3,y4,y5,y6,y7,y8,y9,y10,y11⟩:=hC.out _ hK5
        go_wp2_with fail
        refine(cD.out _ hK5).mono ?_;rintro e w6 ⟨rfl,hK6⟩;clear x0 x1 x2 x3 x4 x5 x6 x7 x8 x9 x10 x11 z0 z1 z2 z3 z4 z5 z6 z7 y0 y1 y2 y3 y4 y5 y6 y7 y8 y9 y10 y11;obtain⟨⟨x0,x1,x2,x3,x4,x5,x6,x7,x8,x9,x10,x11⟩,⟨z0,z1,z2,z3,z4,z5,z6,z7⟩,y0,y1,y2,y3,y4,y5,y6,y7,y8,y9,y10,y11⟩:=hC.out _ hK6
        go_wp2_with fail
        go_ret;exact⟨by rw[HQ.out];rfl,hbW.trans (hK6.mono hbW.size)⟩
    | false=>
      rw[if_neg (by decide)]at HV;go_enter Tryz.func76,Tryz.ntmps76
      go_wp2_with fail
      rw[<-HW.out];refine(cC.out _ hB0).mono ?_;rintro e w5 ⟨rfl,hK5⟩;clear x0 x1 x2 x3 x4 x5 x6 x7 x8 x9 x10 x11 z0 z1 z2 z3 z4 z5 z6 z7 y0 y1 y2 y3 y4 y5 y6 y7 y8 y9 y10 y11;obtain⟨⟨x0,x1,x2,x3,x4,x5,x6,x7,x8,x9,x10,x11⟩,⟨z0,z1,z2,z3,z4,z5,z6,z7⟩,y0,y1,y2,y3,y4,y5,y6,y7,y8,y9,y10,y11⟩:=hC.out _ hK5
      go_wp2_with fail
      refine(cE.out _ hK5).mono ?_;rintro e w6 ⟨rfl,hK6⟩
      go_wp2_with fail
      go_ret;exact⟨by rw[HV.out];rfl,hbW.trans (hK6.mono hbW.size)⟩
   ·have h3:(k==3)=false:=beq_eq_false_iff_ne.2 k3;rw[if_neg k3]at HV;clear k1 k2 k3;go_enter Tryz.func76,Tryz.ntmps76
    go_wp2_with fail
    rw[<-HW.out];go_ret;exact⟨by rw[HV.out];rfl,hbW⟩
end Go.Proofs.YtjhccadmmnjpeaaGreatDoor
