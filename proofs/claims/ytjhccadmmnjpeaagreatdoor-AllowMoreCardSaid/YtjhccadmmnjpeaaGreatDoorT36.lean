/-
  Package match: effective, port.
-/
import Derived.Test.YtjhccadmmnjpeaaGreatDoorT35
set_option maxHeartbeats 4000000
set_option maxRecDepth 100000
namespace Go.Proofs.YtjhccadmmnjpeaaGreatDoor
open Go.RowKit
attribute [local go_sem ↓] Go.wp_at_zero Go.wp_at_succ
theorem UrlVal.letters {w:World} {v:Value} {u:Lz.UrlL} (h:UrlVal w v u):∃(sc1 us1 pa1:ByteArray) (hh1:Bool) (hs1:ByteArray) (pr1:Int) (op1:Bool) (a1:Option Addr) (n1 c1:Nat) (hq1 hf1:Bool) (qr1 fr1:ByteArray),
  v=.agg #[.string sc1,.string us1,.string pa1,.bool hh1,.string hs1,.int .i64 pr1,.bool op1,.slice a1 n1 c1,.bool hq1,.bool hf1,.string qr1,.string fr1]/\u.scheme=sc1.data.toList/\u.hasHost=hh1/\u.host=hs1.data.toList/\u.port=pr1/\u.opq=op1/\UrlVal w (.agg #[.string sc1,.string us1,.string pa1,.bool hh1,.string hs1,.int .i64 pr1,.bool op1,.slice a1 n1 c1,.bool hq1,.bool hf1,.string qr1,.string fr1]) u:=by
 obtain⟨sc1,us1,pa1,hh1,hs1,pr1,op1,a1,c1,xs,hq1,hf1,qr1,fr1,rfl,e,hx⟩:=h.form;exact⟨sc1,us1,pa1,hh1,hs1,pr1,op1,a1,xs.length,c1,hq1,hf1,qr1,fr1,rfl,by rw[e],by rw[e],by rw[e],by rw[e],by rw[e],h⟩
theorem effective_any (v:Value) (u:Lz.UrlL) (w:World) (hv:UrlVal w v u):Calls Tryz.prog 174 #[v] w (RInt (Lz.effP u) w):=by
 obtain⟨sc1,us1,pa1,hh1,hs1,pr1,op1,a1,n1,c1,hq1,hf1,qr1,fr1,rfl,e1,_,_,e5,_,hv⟩:=hv.letters;have hb0:Below w.heap.size w (w.alloc (.cells #[.string sc1,.string us1,.string pa1,.bool hh1,.string hs1,.int .i64 pr1,.bool op1,.slice a1 n1 c1,.bool hq1,.bool hf1,.string qr1,.string fr1] 36)):=(Below.refl _ w).alloc (Nat.le_refl _) _;by_cases h0:0<=pr1
 ·have HV:Hid (Lz.effP u=pr1):=by show _=_;unfold Lz.effP;rw[e5,if_pos h0]
  clear hv e1 e5;go_enter Tryz.func174,Tryz.ntmps174
  go_wp2_with fail
  go_ret;exact⟨by rw[HV.out];rfl,hb0⟩
 ·have HV:Hid (Lz.effP u=Lz.defP sc1.data.toList):=by show _=_;unfold Lz.effP;rw[e5,if_neg h0,e1]
  have cD:=Ih (fun W=>Default_any sc1 W);clear hv e1 e5;go_enter Tryz.func174,Tryz.ntmps174
  go_wp2_with fail
  refine(cD.out _).mono ?_;rintro e w1 ⟨rfl,rfl⟩
  go_wp2_with fail
  go_ret;exact⟨by rw[HV.out];rfl,hb0⟩
theorem portMt_any (x:SrcB) (v:Value) (u:Lz.UrlL) (w:World) (hv:UrlVal w v u):Calls Tryz.prog 178 #[x.val,v] w (RBool (Lz.portM x.src u) w):=by
 obtain⟨sc1,us1,pa1,hh1,hs1,pr1,op1,a1,n1,c1,hq1,hf1,qr1,fr1,rfl,e1,_,_,e5,_,hv⟩:=hv.letters;obtain⟨k,t,b,sc,ho,wd,po,pa⟩:=x;obtain⟨R,hR⟩:∃R,R=Lz.portM (SrcB.src ⟨k,t,b,sc,ho,wd,po,pa⟩) u:=⟨_,rfl⟩;rw[<-hR]
 have hvR:R=if po= -2 then true else if po= -1 then decide (pr1<0)||pr1==Lz.defP sc1.data.toList else po==Lz.effP u:=by
  rw[hR];unfold Lz.portM SrcB.src;rw[e5,e1]
 dsimp only[SrcB.val]
 obtain⟨W,hW⟩:∃W,W=(w.alloc (.cells #[.int .i64 k,.string t,.int .i64 b,.string sc,.string ho,.bool wd,.int .i64 po,.string pa] 47)).alloc (.cells #[.string sc1,.string us1,.string pa1,.bool hh1,.string hs1,.int .i64 pr1,.bool op1,.slice a1 n1 c1,.bool hq1,.bool hf1,.string qr1,.string fr1] 36):=⟨_,rfl⟩;have hbW:Below w.heap.size w W:=by rw[hW];exact((Below.refl _ w).alloc (Nat.le_refl _) _).alloc (by simp) _
 have hRS:W.heap[w.heap.size]? =some (.cells #[.int .i64 k,.string t,.int .i64 b,.string sc,.string ho,.bool wd,.int .i64 po,.string pa] 47 (0,0)):=by
  rw[hW,Below.heap_alloc _ _ _ (by simp)];exact heap_new _ _
 have hRU:W.heap[w.heap.size+1]? =some (.cells #[.string sc1,.string us1,.string pa1,.bool hh1,.string hs1,.int .i64 pr1,.bool op1,.slice a1 n1 c1,.bool hq1,.bool hf1,.string qr1,.string fr1] 36 (0,0)):=by
  rw[hW];have:=heap_new (w.alloc (.cells #[.int .i64 k,.string t,.int .i64 b,.string sc,.string ho,.bool wd,.int .i64 po,.string pa] 47)) (.cells #[.string sc1,.string us1,.string pa1,.bool hh1,.string hs1,.int .i64 pr1,.bool op1,.slice a1 n1 c1,.bool hq1,.bool hf1,.string qr1,.string fr1] 36);simpa using this
 have c6:=rowAt hRS 6 (.int .i64 po) rfl;have HW:=Ih hW;clear hR hW;by_cases p2:po= -2
 ·have hB2:(po== -2)=true:=by rw[p2];rfl
  have HV:Hid (R=true):=by show _=_;rw[hvR,if_pos p2]
  clear hvR p2 hv e1 e5;go_enter Tryz.func178,Tryz.ntmps178
  go_wp2_with fail
  rw[<-HW.out];go_ret;exact⟨by rw[HV.out];rfl,hbW⟩
 ·have hB2:(po== -2)=false:=beq_eq_false_iff_ne.2 p2;rw[if_neg p2]at hvR;by_cases p1:po= -1
  ·have hB1:(po== -1)=true:=by rw[p1];rfl
   rw[if_pos p1]at hvR;have c5:=rowAt hRU 5 (.int .i64 pr1) rfl;have c0:=rowAt hRU 0 (.string sc1) rfl;by_cases hp:pr1<0
   ·have hd:decide (pr1<0)=true:=decide_eq_true hp;have HV:Hid (R=true):=by show _=_;rw[hvR,hd];rfl
    clear hvR p2 p1 hv e1 e5 hp;go_enter Tryz.func178,Tryz.ntmps178
    go_wp2_with fail
    rw[<-HW.out]
    go_quiet (fail)
    go_wp2_with fail
    go_ret;exact⟨by rw[HV.out];rfl,below_drewN hbW _⟩
   ·have hd:decide (pr1<0)=false:=decide_eq_false hp;obtain⟨d,hdd⟩:∃d,d=Lz.defP sc1.data.toList:=⟨_,rfl⟩;have HV:Hid (R=(pr1==d)):=by show _=_;rw[hvR,hd,hdd];rfl
    have cD:Hid (∀W,Calls Tryz.prog 175 #[.string sc1] W fun e w'=>e=.returned (.int .i64 d)/\w'=W):=Ih (fun W=>(Default_any sc1 W).mono fun e w' ⟨h1,h2⟩=>⟨by rw[h1,hdd],h2.symm⟩);clear hvR p2 p1 hv e1 e5 hp hdd;go_enter Tryz.func178,Tryz.ntmps178
    go_wp2_with fail
    rw[<-HW.out]
    go_quiet ((go_at_call 175;exact Calls.quiet_of_same (cD.out _)))
    go_wp2_with fail
    go_ret;exact⟨by rw[HV.out];rfl,below_drewN hbW _⟩
  ·have hB1:(po== -1)=false:=beq_eq_false_iff_ne.2 p1;rw[if_neg p1]at hvR;obtain⟨f,hf⟩:∃f,f=Lz.effP u:=⟨_,rfl⟩;have HV:Hid (R=(po==f)):=by show _=_;rw[hvR,hf]
   have cE:Hid (∀V,Below W.heap.size W V->Calls Tryz.prog 174 #[.agg #[.string sc1,.string us1,.string pa1,.bool hh1,.string hs1,.int .i64 pr1,.bool op1,.slice a1 n1 c1,.bool hq1,.bool hf1,.string qr1,.string fr1]] V fun e w'=>e=.returned (.int .i64 f)/\Below W.heap.size W w'):=Ih (fun V hV=>(effective_any _ u V (hv.below (hbW.trans (hV.mono hbW.size)))).mono fun e w' ⟨h1,h2⟩=>⟨by rw[h1,hf],hV.trans (h2.mono hV.size)⟩)
   have hC:Hid (∀V,Below W.heap.size W V->V.cell? ⟨w.heap.size,6,none⟩=some (.int .i64 po)/\(V.cell? ⟨w.heap.size+1,0,none⟩=some (.string sc1)/\V.cell? ⟨w.heap.size+1,1,none⟩=some (.string us1)/\V.cell? ⟨w.heap.size+1,2,none⟩=some (.string pa1)/\V.cell? ⟨w.heap.size+1,3,none⟩=some (.bool hh1)/\V.cell? ⟨w.heap.size+1,4,none⟩=some (.string hs1)/\V.cell? ⟨w.heap.size+1,5,none⟩=some (.int .i64 pr1)/\V.cell? ⟨w.heap.size+1,6,none⟩=some (.bool op1)/\V.cell? ⟨w.heap.size+1,7,none⟩=some (.slice a1 n1 c1)/\V.cell? ⟨w.heap.size+1,8,none⟩=some (.bool hq1)/\V.cell? ⟨w.heap.size+1,9,none⟩=some (.bool hf1)/\V.cell? ⟨w.heap.size+1,10,none⟩=some (.string qr1)/\V.cell? ⟨w.heap.size+1,11,none⟩=some (.string fr1))):=Ih (fun V hV=>⟨by rw[hV.cell (p:=⟨w.heap.size,6,none⟩) (row_lt hRS)];exact c6,row12 ((hV.block _ (row_lt hRU)).trans hRU)⟩);have hB0:Below W.heap.size W W:=Below.refl _ _;have hBd:Below W.heap.size W W.drew:=(Below.refl _ _).drew;clear hvR p2 p1 hv e1 e5 hf hRU hRS;go_enter Tryz.func178,Tryz.ntmps178
   go_wp2_with fail
   rw[<-HW.out]
   go_region_held3 (fun V=>(V.cell? ⟨w.heap.size,6,none⟩=some (.int .i64 po)/\(V.cell? ⟨w.heap.size+1,0,none⟩=some (.string sc1)/\V.cell? ⟨w.heap.size+1,1,none⟩=some (.string us1)/\V.cell? ⟨w.heap.size+1,2,none⟩=some (.string pa1)/\V.cell? ⟨w.heap.size+1,3,none⟩=some (.bool hh1)/\V.cell? ⟨w.heap.size+1,4,none⟩=some (.string hs1)/\V.cell? ⟨w.heap.size+1,5,none⟩=some (.int .i64 pr1)/\V.cell? ⟨w.heap.size+1,6,none⟩=some (.bool op1)/\V.cell? ⟨w.heap.size+1,7,none⟩=some (.slice a1 n1 c1)/\V.cell? ⟨w.heap.size+1,8,none⟩=some (.bool hq1)/\V.cell? ⟨w.heap.size+1,9,none⟩=some (.bool hf1)/\V.cell? ⟨w.heap.size+1,10,none⟩=some (.string qr1)/\V.cell? ⟨w.heap.size+1,11,none⟩=some (.string fr1)))/\Below W.heap.size W V) (first |exact⟨hC.out _ (by assumption),by assumption⟩) (first |(go_at_call 174;refine(cE.out _ (by assumption)).mono ?_;rintro e w5 ⟨rfl,hK5⟩))
   go_wp2_with fail
   go_ret;exact⟨by rw[HV.out];rfl,hbW.trans (hK5.mono hbW.size)⟩
end Go.Proofs.YtjhccadmmnjpeaaGreatDoor
