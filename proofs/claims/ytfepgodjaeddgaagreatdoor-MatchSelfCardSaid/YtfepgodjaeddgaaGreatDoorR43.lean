/-
  Package match: self.
-/
import Derived.Test.YtfepgodjaeddgaaGreatDoorR42
import Derived.Test.YtfepgodjaeddgaaGreatDoorR40
set_option maxHeartbeats 8000000
set_option maxRecDepth 100000
namespace Go.Proofs.YtfepgodjaeddgaaGreatDoor
open Go.RowKit
attribute [local go_sem ↓] Go.wp_at_zero Go.wp_at_succ
theorem UOk.orig {u:Lz.UrlL} (h:UOk u):OrigOk u:=by
 have h1:=h.wq;unfold Lz.wq Lz.wt at h1;have hp:=h.nu.port;refine⟨by omega,by omega,?_,?_⟩
 ·rcases hp with h|⟨n,h,_⟩<;>omega
 ·rcases hp with h|⟨n,h,hn,_⟩<;>omega
theorem selfM_any (v:Value) (u:Lz.UrlL) (v2:Value) (own:Lz.UrlL) (w:World) (hE:EnvU w) (hv:UrlVal w v u) (hU:UOk u) (hv2:UrlVal w v2 own) (hO:UOk own):Calls Tryz.prog 63 #[v,v2] w (RBool (Lz.selfM u own) w):=by
 obtain⟨sc1,us1,pa1,hh1,hs1,pr1,op1,a1,n1,c1,hq1,hf1,qr1,fr1,rfl,e0,e3,e4,e5,_,hv⟩:=hv.letters;obtain⟨sc2,us2,pa2,hh2,hs2,pr2,op2,a2,n2,c2,hq2,hf2,qr2,fr2,rfl,f0,f3,f4,f5,_,hv2⟩:=hv2.letters;obtain⟨R,hR⟩:∃R,R=Lz.selfM u own:=⟨_,rfl⟩;rw[<-hR];obtain⟨q,hq⟩:∃q,q=(Lz.originU own != Lz.nullS&&Lz.originU own==Lz.originU u):=⟨_,rfl⟩;obtain⟨al,hal⟩:∃al,al=Lz.alikeM u own:=⟨_,rfl⟩;obtain⟨sf,hsf⟩:∃sf,sf=Lz.saferM u own:=⟨_,rfl⟩;obtain⟨d1,hd1⟩:∃d,d=Lz.defP sc1.data.toList:=⟨_,rfl⟩;obtain⟨d2,hd2⟩:∃d,d=Lz.defP sc2.data.toList:=⟨_,rfl⟩;obtain⟨g1,hg1⟩:∃d,d=Lz.effP u:=⟨_,rfl⟩;obtain⟨g2,hg2⟩:∃d,d=Lz.effP own:=⟨_,rfl⟩;obtain⟨b1,hb1⟩:∃b,b=(sc1.toList==[104,116,116,112,115]):=⟨_,rfl⟩;obtain⟨b2,hb2⟩:∃b,b=(sc1.toList==[119,115,115]):=⟨_,rfl⟩;obtain⟨b3,hb3⟩:∃b,b=(sc2.toList==[104,116,116,112]):=⟨_,rfl⟩;obtain⟨b4,hb4⟩:∃b,b=(sc1.toList==[119,115]):=⟨_,rfl⟩;obtain⟨b5,hb5⟩:∃b,b=(hs1.toList==hs2.toList):=⟨_,rfl⟩;have bl:∀(s:ByteArray) (k:List UInt8),(s.data.toList==k)=(s.toList==k):=fun s k=>by rw[Lib.toList_data]
 have HR:Hid (R=(q||(hh1&&(hh2&&(b5&&(al&&sf)))))):=by
  show _=_;rw[hR,hq,hal,hsf,hb5];unfold Lz.selfM;rw[e3,f3,e4,f4,Lib.toList_data,Lib.toList_data]
 have HS:Hid (sf=(b1||(b2||(b3&&b4)))):=by
  show _=_;rw[hsf,hb1,hb2,hb3,hb4];unfold Lz.saferM;rw[e0,f0,bl,bl,bl,bl];rfl
 have HA:Hid (al=((pr1==pr2)||((g1==d1)&&(g2==d2)))):=by
  show _=_;rw[hal,hg1,hg2,hd1,hd2];unfold Lz.alikeM;rw[e5,f5,e0,f0]
 have HB:Hid ((sc1.toList==[104,116,116,112,115])=b1/\(sc1.toList==[119,115,115])=b2/\(sc2.toList==[104,116,116,112])=b3/\(sc1.toList==[119,115])=b4/\(hs1.toList==hs2.toList)=b5):=Ih ⟨hb1.symm,hb2.symm,hb3.symm,hb4.symm,hb5.symm⟩;obtain⟨W,hW⟩:∃W,W=(w.alloc (.cells #[.string sc1,.string us1,.string pa1,.bool hh1,.string hs1,.int .i64 pr1,.bool op1,.slice a1 n1 c1,.bool hq1,.bool hf1,.string qr1,.string fr1] 29)).alloc (.cells #[.string sc2,.string us2,.string pa2,.bool hh2,.string hs2,.int .i64 pr2,.bool op2,.slice a2 n2 c2,.bool hq2,.bool hf2,.string qr2,.string fr2] 29):=⟨_,rfl⟩;have hbW:Below w.heap.size w W:=by rw[hW];exact((Below.refl _ w).alloc (Nat.le_refl _) _).alloc (by simp) _
 have hRU:W.heap[w.heap.size]? =some (.cells #[.string sc1,.string us1,.string pa1,.bool hh1,.string hs1,.int .i64 pr1,.bool op1,.slice a1 n1 c1,.bool hq1,.bool hf1,.string qr1,.string fr1] 29 (0,0)):=by
  rw[hW,Below.heap_alloc _ _ _ (by simp)];exact heap_new _ _
 have hRO:W.heap[w.heap.size+1]? =some (.cells #[.string sc2,.string us2,.string pa2,.bool hh2,.string hs2,.int .i64 pr2,.bool op2,.slice a2 n2 c2,.bool hq2,.bool hf2,.string qr2,.string fr2] 29 (0,0)):=by rw[hW];exact heap_new2 _ _ _
 have HW:=Ih hW;have hvW:=hv.below hbW;have hv2W:=hv2.below hbW;have hEW:=hE.below hbW;have cO1:Hid (∀V,Below W.heap.size W V->Calls Tryz.prog 111 #[.agg #[.string sc1,.string us1,.string pa1,.bool hh1,.string hs1,.int .i64 pr1,.bool op1,.slice a1 n1 c1,.bool hq1,.bool hf1,.string qr1,.string fr1]] V fun e w'=>∃tp:ByteArray,e=.returned (.string tp)/\Hid (tp.data.toList=Lz.originU u)/\Below W.heap.size W w'):=Ih (fun V hV=>(Origin_any _ u V (hvW.below hV) (hEW.below hV) hU.orig).mono fun e w' ⟨tp,h1,h2,h3⟩=>⟨tp,h1,h2,hV.trans (h3.mono hV.size)⟩);have cO2:Hid (∀V,Below W.heap.size W V->Calls Tryz.prog 111 #[.agg #[.string sc2,.string us2,.string pa2,.bool hh2,.string hs2,.int .i64 pr2,.bool op2,.slice a2 n2 c2,.bool hq2,.bool hf2,.string qr2,.string fr2]] V fun e w'=>∃tp:ByteArray,e=.returned (.string tp)/\Hid (tp.data.toList=Lz.originU own)/\Below W.heap.size W w'):=Ih (fun V hV=>(Origin_any _ own V (hv2W.below hV) (hEW.below hV) hO.orig).mono fun e w' ⟨tp,h1,h2,h3⟩=>⟨tp,h1,h2,hV.trans (h3.mono hV.size)⟩)
 have cE1:Hid (∀V,Below W.heap.size W V->Calls Tryz.prog 112 #[.agg #[.string sc1,.string us1,.string pa1,.bool hh1,.string hs1,.int .i64 pr1,.bool op1,.slice a1 n1 c1,.bool hq1,.bool hf1,.string qr1,.string fr1]] V fun e w'=>e=.returned (.int .i64 g1)/\Below W.heap.size W w'):=Ih (fun V hV=>(effective_any _ u V (hvW.below hV)).mono fun e w' ⟨h1,h2⟩=>⟨by rw[h1,hg1],hV.trans (h2.mono hV.size)⟩);have cE2:Hid (∀V,Below W.heap.size W V->Calls Tryz.prog 112 #[.agg #[.string sc2,.string us2,.string pa2,.bool hh2,.string hs2,.int .i64 pr2,.bool op2,.slice a2 n2 c2,.bool hq2,.bool hf2,.string qr2,.string fr2]] V fun e w'=>e=.returned (.int .i64 g2)/\Below W.heap.size W w'):=Ih (fun V hV=>(effective_any _ own V (hv2W.below hV)).mono fun e w' ⟨h1,h2⟩=>⟨by rw[h1,hg2],hV.trans (h2.mono hV.size)⟩);have cD1:Hid (∀V,Below W.heap.size W V->Calls Tryz.prog 113 #[.string sc1] V fun e w'=>e=.returned (.int .i64 d1)/\Below W.heap.size W w'):=Ih (fun V hV=>(Default_any sc1 V).mono fun e w' ⟨h1,h2⟩=>⟨by rw[h1,hd1],h2▸hV⟩)
 have cD2:Hid (∀V,Below W.heap.size W V->Calls Tryz.prog 113 #[.string sc2] V fun e w'=>e=.returned (.int .i64 d2)/\Below W.heap.size W w'):=Ih (fun V hV=>(Default_any sc2 V).mono fun e w' ⟨h1,h2⟩=>⟨by rw[h1,hd2],h2▸hV⟩)
 have hC:Hid (∀V,Below W.heap.size W V->(V.cell? ⟨w.heap.size,0,none⟩=some (.string sc1)/\V.cell? ⟨w.heap.size,1,none⟩=some (.string us1)/\V.cell? ⟨w.heap.size,2,none⟩=some (.string pa1)/\V.cell? ⟨w.heap.size,3,none⟩=some (.bool hh1)/\V.cell? ⟨w.heap.size,4,none⟩=some (.string hs1)/\V.cell? ⟨w.heap.size,5,none⟩=some (.int .i64 pr1)/\V.cell? ⟨w.heap.size,6,none⟩=some (.bool op1)/\V.cell? ⟨w.heap.size,7,none⟩=some (.slice a1 n1 c1)/\V.cell? ⟨w.heap.size,8,none⟩=some (.bool hq1)/\V.cell? ⟨w.heap.size,9,none⟩=some (.bool hf1)/\V.cell? ⟨w.heap.size,10,none⟩=some (.string qr1)/\V.cell? ⟨w.heap.size,11,none⟩=some (.string fr1))/\(V.cell? ⟨w.heap.size+1,0,none⟩=some (.string sc2)/\V.cell? ⟨w.heap.size+1,1,none⟩=some (.string us2)/\V.cell? ⟨w.heap.size+1,2,none⟩=some (.string pa2)/\V.cell? ⟨w.heap.size+1,3,none⟩=some (.bool hh2)/\V.cell? ⟨w.heap.size+1,4,none⟩=some (.string hs2)/\V.cell? ⟨w.heap.size+1,5,none⟩=some (.int .i64 pr2)/\V.cell? ⟨w.heap.size+1,6,none⟩=some (.bool op2)/\V.cell? ⟨w.heap.size+1,7,none⟩=some (.slice a2 n2 c2)/\V.cell? ⟨w.heap.size+1,8,none⟩=some (.bool hq2)/\V.cell? ⟨w.heap.size+1,9,none⟩=some (.bool hf2)/\V.cell? ⟨w.heap.size+1,10,none⟩=some (.string qr2)/\V.cell? ⟨w.heap.size+1,11,none⟩=some (.string fr2))):=Ih (fun V hV=>⟨row12 ((hV.block _ (row_lt hRU)).trans hRU),row12 ((hV.block _ (row_lt hRO)).trans hRO)⟩)
 have hB0:Below W.heap.size W W:=Below.refl _ _;have Hq:=Ih hq;clear hR hW hq hal hsf hd1 hd2 hg1 hg2 hb1 hb2 hb3 hb4 hb5 bl e0 e3 e4 e5 f0 f3 f4 f5 hv hv2 hvW hv2W hEW hE hRU hRO hU hO;go_enter Tryz.func63,Tryz.ntmps63
 go_upto_region 1 with fail
 rw[<-HW.out]
 go_cut [5] (fun s wx=>∃tp:ByteArray,s=.string tp/\Hid (tp.data.toList=Lz.originU own)/\Below W.heap.size W wx)
 case first=>
  obtain⟨⟨x0,x1,x2,x3,x4,x5,x6,x7,x8,x9,x10,x11⟩,y0,y1,y2,y3,y4,y5,y6,y7,y8,y9,y10,y11⟩:=hC.out _ hB0
  go_wp2_with fail
  refine(cO2.out _ hB0).mono ?_;rintro e w5 ⟨tp,rfl,htp,hK5⟩
  go_wp2_with fail
  go_meet;exact⟨tp,rfl,htp,hK5⟩
 case rest=>
 obtain⟨tp,rfl,htp,hKc⟩:=hcut
 go_upto_region 2 with fail
 go_cut [17] (fun s wx=>s=.bool q/\Below W.heap.size W wx)
 case first=>
  obtain⟨⟨x0,x1,x2,x3,x4,x5,x6,x7,x8,x9,x10,x11⟩,y0,y1,y2,y3,y4,y5,y6,y7,y8,y9,y10,y11⟩:=hC.out _ hKc;by_cases hn:tp.data.toList=[110,117,108,108]
  ·have t1:=text_yes hn;have HQ:Hid (q=false):=by show _=_;rw[Hq.out,<-htp.out,hn];rfl
   clear hn
   go_wp2_with fail
   go_meet;exact⟨by rw[HQ.out],hKc⟩
  ·have t1:=text_no hn
   have HN:Hid ((tp.data.toList != Lz.nullS)=true):=by
    show(!(tp.data.toList==[110,117,108,108]))=true;rw[beq_eq_false_iff_ne.2 hn];rfl
   clear hn
   go_wp2_with fail
   refine(cO1.out _ hKc).mono ?_;rintro e w5 ⟨tq,rfl,htq,hK5⟩;have hsm:=same_text tp tq
   have HQ:Hid (q=(tp.toList==tq.toList)):=by
    show _=_;rw[Hq.out,<-htp.out,HN.out,<-htq.out,Bool.true_and,Lib.toList_data,Lib.toList_data]
   clear hsm
   go_wp2_with fail
   go_meet;exact⟨by rw[HQ.out],hK5⟩
 case rest=>
 obtain⟨rfl,hKd⟩:=hcut;clear hKc htp;cases q with
 | true=>
   have HV:Hid (R=true):=by show _=_;rw[HR.out];rfl
   go_wp2_with fail
   go_ret;exact⟨by rw[HV.out];rfl,hbW.trans (hKd.mono hbW.size)⟩
 | false=>
 have HV:Hid (R=(hh1&&(hh2&&(b5&&(al&&sf))))):=by show _=_;rw[HR.out,Bool.false_or]
 clear HR Hq;have hBd:Below W.heap.size W wc.drew:=hKd.drew
 go_upto_region 4 with fail
 go_cut [6] (fun s wx=>s=.bool al/\Below W.heap.size W wx)
 case first=>
  clear HV;cases h1:(pr1==pr2)with
  | true=>
    have HV:Hid (al=true):=by show _=_;rw[HA.out,h1];rfl
    clear HA
    refine wp_region_held_drew (S:=fun V=>((V.cell? ⟨w.heap.size,0,none⟩=some (.string sc1)/\V.cell? ⟨w.heap.size,1,none⟩=some (.string us1)/\V.cell? ⟨w.heap.size,2,none⟩=some (.string pa1)/\V.cell? ⟨w.heap.size,3,none⟩=some (.bool hh1)/\V.cell? ⟨w.heap.size,4,none⟩=some (.string hs1)/\V.cell? ⟨w.heap.size,5,none⟩=some (.int .i64 pr1)/\V.cell? ⟨w.heap.size,6,none⟩=some (.bool op1)/\V.cell? ⟨w.heap.size,7,none⟩=some (.slice a1 n1 c1)/\V.cell? ⟨w.heap.size,8,none⟩=some (.bool hq1)/\V.cell? ⟨w.heap.size,9,none⟩=some (.bool hf1)/\V.cell? ⟨w.heap.size,10,none⟩=some (.string qr1)/\V.cell? ⟨w.heap.size,11,none⟩=some (.string fr1))/\(V.cell? ⟨w.heap.size+1,0,none⟩=some (.string sc2)/\V.cell? ⟨w.heap.size+1,1,none⟩=some (.string us2)/\V.cell? ⟨w.heap.size+1,2,none⟩=some (.string pa2)/\V.cell? ⟨w.heap.size+1,3,none⟩=some (.bool hh2)/\V.cell? ⟨w.heap.size+1,4,none⟩=some (.string hs2)/\V.cell? ⟨w.heap.size+1,5,none⟩=some (.int .i64 pr2)/\V.cell? ⟨w.heap.size+1,6,none⟩=some (.bool op2)/\V.cell? ⟨w.heap.size+1,7,none⟩=some (.slice a2 n2 c2)/\V.cell? ⟨w.heap.size+1,8,none⟩=some (.bool hq2)/\V.cell? ⟨w.heap.size+1,9,none⟩=some (.bool hf2)/\V.cell? ⟨w.heap.size+1,10,none⟩=some (.string qr2)/\V.cell? ⟨w.heap.size+1,11,none⟩=some (.string fr2)))/\Below W.heap.size W V) (by kernel_rfl) ⟨hC.out _ hBd,hBd⟩ (fun hHeld=>?_)
    generalize wc.drew=W0 at hHeld⊢;refine TkD 0 (some 18) (v:=?_) rfl rfl ?_ ?_;rotate_left
    ·(intro W hSw;(try dsimp only at hSw);go_simp;try with_reducible rfl)
    (try simp only[Act.put,List.setIfInBounds_toArray,List.set_cons_zero,List.set_cons_succ])
    refine TkD 1 (some 19) (v:=?_) rfl rfl ?_ ?_;rotate_left
    ·(intro W hSw;(try dsimp only at hSw);go_simp;try with_reducible rfl)
    (try simp only[Act.put,List.setIfInBounds_toArray,List.set_cons_zero,List.set_cons_succ])
    refine TkD 2 (some 20) (v:=?_) rfl rfl ?_ ?_;rotate_left
    ·(intro W hSw;(try dsimp only at hSw);go_simp;try with_reducible rfl)
    (try simp only[Act.put,List.setIfInBounds_toArray,List.set_cons_zero,List.set_cons_succ])
    refine TkD 3 (some 21) (v:=?_) rfl rfl ?_ ?_;rotate_left
    ·(intro W hSw;(try dsimp only at hSw);go_simp;try with_reducible rfl)
    (try simp only[Act.put,List.setIfInBounds_toArray,List.set_cons_zero,List.set_cons_succ])
    refine TkD 4 (some 22) (v:=?_) rfl rfl ?_ ?_;rotate_left
    ·(intro W hSw;(try dsimp only at hSw);go_simp;try with_reducible rfl)
    (try simp only[Act.put,List.setIfInBounds_toArray,List.set_cons_zero,List.set_cons_succ])
    refine TkD 5 (some 23) (v:=?_) rfl rfl ?_ ?_;rotate_left
    ·(intro W hSw;(try dsimp only at hSw);go_simp;try with_reducible rfl)
    (try simp only[Act.put,List.setIfInBounds_toArray,List.set_cons_zero,List.set_cons_succ])
    refine TnD 6 (some 24) rfl rfl ?_
    (try simp only[Act.put,List.setIfInBounds_toArray,List.set_cons_zero,List.set_cons_succ])
    refine TnD 7 (some 25) rfl rfl ?_
    (try simp only[Act.put,List.setIfInBounds_toArray,List.set_cons_zero,List.set_cons_succ])
    refine TnD 8 (some 26) rfl rfl ?_
    (try simp only[Act.put,List.setIfInBounds_toArray,List.set_cons_zero,List.set_cons_succ])
    refine TnD 9 (some 27) rfl rfl ?_
    (try simp only[Act.put,List.setIfInBounds_toArray,List.set_cons_zero,List.set_cons_succ])
    refine TnD 10 (some 28) rfl rfl ?_
    (try simp only[Act.put,List.setIfInBounds_toArray,List.set_cons_zero,List.set_cons_succ])
    refine TnD 11 (some 29) rfl rfl ?_
    (try simp only[Act.put,List.setIfInBounds_toArray,List.set_cons_zero,List.set_cons_succ])
    refine TnD 12 (some 30) rfl rfl ?_
    (try simp only[Act.put,List.setIfInBounds_toArray,List.set_cons_zero,List.set_cons_succ])
    refine TnD 13 (some 31) rfl rfl ?_
    (try simp only[Act.put,List.setIfInBounds_toArray,List.set_cons_zero,List.set_cons_succ])
    refine TnD 14 (some 32) rfl rfl ?_
    (try simp only[Act.put,List.setIfInBounds_toArray,List.set_cons_zero,List.set_cons_succ])
    refine TnD 15 (some 33) rfl rfl ?_
    (try simp only[Act.put,List.setIfInBounds_toArray,List.set_cons_zero,List.set_cons_succ])
    refine TnD 16 (some 34) rfl rfl ?_
    (try simp only[Act.put,List.setIfInBounds_toArray,List.set_cons_zero,List.set_cons_succ])
    refine TnD 17 (some 35) rfl rfl ?_
    (try simp only[Act.put,List.setIfInBounds_toArray,List.set_cons_zero,List.set_cons_succ])
    refine TnD 18 (some 36) rfl rfl ?_
    (try simp only[Act.put,List.setIfInBounds_toArray,List.set_cons_zero,List.set_cons_succ])
    refine TnD 19 (some 37) rfl rfl ?_
    (try simp only[Act.put,List.setIfInBounds_toArray,List.set_cons_zero,List.set_cons_succ])
    refine TkD 20 (some 38) (v:=?_) rfl rfl ?_ ?_;rotate_left
    ·(intro W hSw;(try dsimp only at hSw);go_simp;try with_reducible rfl)
    (try simp only[Act.put,List.setIfInBounds_toArray,List.set_cons_zero,List.set_cons_succ])
    refine TkD 21 (some 6) (v:=?_) rfl rfl ?_ ?_;rotate_left
    ·(intro W hSw;(try dsimp only at hSw);go_simp;try with_reducible rfl)
    (try simp only[Act.put,List.setIfInBounds_toArray,List.set_cons_zero,List.set_cons_succ])
    refine wpAnyH_done (by kernel_rfl) ?_ _
    go_wp2_with fail
    go_meet;exact⟨by rw[HV.out],hHeld.2⟩
  | false=>
    cases h2:(g1==d1)with
    | false=>
      have HV:Hid (al=false):=by show _=_;rw[HA.out,h1,h2];rfl
      clear HA
      refine wp_region_held_drew (S:=fun V=>((V.cell? ⟨w.heap.size,0,none⟩=some (.string sc1)/\V.cell? ⟨w.heap.size,1,none⟩=some (.string us1)/\V.cell? ⟨w.heap.size,2,none⟩=some (.string pa1)/\V.cell? ⟨w.heap.size,3,none⟩=some (.bool hh1)/\V.cell? ⟨w.heap.size,4,none⟩=some (.string hs1)/\V.cell? ⟨w.heap.size,5,none⟩=some (.int .i64 pr1)/\V.cell? ⟨w.heap.size,6,none⟩=some (.bool op1)/\V.cell? ⟨w.heap.size,7,none⟩=some (.slice a1 n1 c1)/\V.cell? ⟨w.heap.size,8,none⟩=some (.bool hq1)/\V.cell? ⟨w.heap.size,9,none⟩=some (.bool hf1)/\V.cell? ⟨w.heap.size,10,none⟩=some (.string qr1)/\V.cell? ⟨w.heap.size,11,none⟩=some (.string fr1))/\(V.cell? ⟨w.heap.size+1,0,none⟩=some (.string sc2)/\V.cell? ⟨w.heap.size+1,1,none⟩=some (.string us2)/\V.cell? ⟨w.heap.size+1,2,none⟩=some (.string pa2)/\V.cell? ⟨w.heap.size+1,3,none⟩=some (.bool hh2)/\V.cell? ⟨w.heap.size+1,4,none⟩=some (.string hs2)/\V.cell? ⟨w.heap.size+1,5,none⟩=some (.int .i64 pr2)/\V.cell? ⟨w.heap.size+1,6,none⟩=some (.bool op2)/\V.cell? ⟨w.heap.size+1,7,none⟩=some (.slice a2 n2 c2)/\V.cell? ⟨w.heap.size+1,8,none⟩=some (.bool hq2)/\V.cell? ⟨w.heap.size+1,9,none⟩=some (.bool hf2)/\V.cell? ⟨w.heap.size+1,10,none⟩=some (.string qr2)/\V.cell? ⟨w.heap.size+1,11,none⟩=some (.string fr2)))/\Below W.heap.size W V) (by kernel_rfl) ⟨hC.out _ hBd,hBd⟩ (fun hHeld=>?_)
      generalize wc.drew=W0 at hHeld⊢;refine TkD 0 (some 18) (v:=?_) rfl rfl ?_ ?_;rotate_left
      ·(intro W hSw;(try dsimp only at hSw);go_simp;try with_reducible rfl)
      (try simp only[Act.put,List.setIfInBounds_toArray,List.set_cons_zero,List.set_cons_succ])
      refine TkD 1 (some 19) (v:=?_) rfl rfl ?_ ?_;rotate_left
      ·(intro W hSw;(try dsimp only at hSw);go_simp;try with_reducible rfl)
      (try simp only[Act.put,List.setIfInBounds_toArray,List.set_cons_zero,List.set_cons_succ])
      refine TkD 2 (some 20) (v:=?_) rfl rfl ?_ ?_;rotate_left
      ·(intro W hSw;(try dsimp only at hSw);go_simp;try with_reducible rfl)
      (try simp only[Act.put,List.setIfInBounds_toArray,List.set_cons_zero,List.set_cons_succ])
      refine TkD 3 (some 21) (v:=?_) rfl rfl ?_ ?_;rotate_left
      ·(intro W hSw;(try dsimp only at hSw);go_simp;try with_reducible rfl)
      (try simp only[Act.put,List.setIfInBounds_toArray,List.set_cons_zero,List.set_cons_succ])
      refine TkD 4 (some 22) (v:=?_) rfl rfl ?_ ?_;rotate_left
      ·(intro W hSw;(try dsimp only at hSw);go_simp;try with_reducible rfl)
      (try simp only[Act.put,List.setIfInBounds_toArray,List.set_cons_zero,List.set_cons_succ])
      refine TkD 5 (some 23) (v:=?_) rfl rfl ?_ ?_;rotate_left
      ·(intro W hSw;(try dsimp only at hSw);go_simp;try with_reducible rfl)
      (try simp only[Act.put,List.setIfInBounds_toArray,List.set_cons_zero,List.set_cons_succ])
      refine TkD 6 (some 24) (v:=?_) rfl rfl ?_ ?_;rotate_left
      ·(intro W hSw;(try dsimp only at hSw);go_simp;try with_reducible rfl)
      (try simp only[Act.put,List.setIfInBounds_toArray,List.set_cons_zero,List.set_cons_succ])
      refine TkD 8 (some 26) (v:=?_) rfl rfl ?_ ?_;rotate_left
      ·(intro W hSw;(try dsimp only at hSw);go_simp;try with_reducible rfl)
      (try simp only[Act.put,List.setIfInBounds_toArray,List.set_cons_zero,List.set_cons_succ])
      refine TkD 9 (some 27) (v:=?_) rfl rfl ?_ ?_;rotate_left
      ·(intro W hSw;(try dsimp only at hSw);go_simp;try with_reducible rfl)
      (try simp only[Act.put,List.setIfInBounds_toArray,List.set_cons_zero,List.set_cons_succ])
      refine wpAnyH_ready (rs:=[7]) (by kernel_rfl) (by simp) ?_;refine AllReadyH.cons rfl (fun K hK=>?_) AllReadyH.nil;go_simp
      go_at_call 112
      refine(cE1.out _ (hHeld.2)).mono ?_;rintro e w5 ⟨rfl,hK5⟩;clear hHeld;refine hK.out _ _ ⟨hC.out _ hK5,hK5⟩ (fun hHeld=>?_);clear hK K
      (try simp only[Act.put,List.setIfInBounds_toArray,List.set_cons_zero,List.set_cons_succ])
      refine wpAnyH_ready (rs:=[10]) (by kernel_rfl) (by simp) ?_;refine AllReadyH.cons rfl (fun K hK=>?_) AllReadyH.nil;go_simp
      go_at_call 113
      refine(cD1.out _ (hHeld.2)).mono ?_;rintro e w5 ⟨rfl,hK5⟩;clear hHeld;refine hK.out _ _ ⟨hC.out _ hK5,hK5⟩ (fun hHeld=>?_);clear hK K
      (try simp only[Act.put,List.setIfInBounds_toArray,List.set_cons_zero,List.set_cons_succ])
      refine TkD 11 (some 29) (v:=?_) rfl rfl ?_ ?_;rotate_left
      ·(intro W hSw;(try dsimp only at hSw);go_simp;try with_reducible rfl)
      (try simp only[Act.put,List.setIfInBounds_toArray,List.set_cons_zero,List.set_cons_succ])
      refine TkD 12 (some 30) (v:=?_) rfl rfl ?_ ?_;rotate_left
      ·(intro W hSw;(try dsimp only at hSw);go_simp;try with_reducible rfl)
      (try simp only[Act.put,List.setIfInBounds_toArray,List.set_cons_zero,List.set_cons_succ])
      refine TnD 13 (some 31) rfl rfl ?_
      (try simp only[Act.put,List.setIfInBounds_toArray,List.set_cons_zero,List.set_cons_succ])
      refine TnD 14 (some 32) rfl rfl ?_
      (try simp only[Act.put,List.setIfInBounds_toArray,List.set_cons_zero,List.set_cons_succ])
      refine TnD 15 (some 33) rfl rfl ?_
      (try simp only[Act.put,List.setIfInBounds_toArray,List.set_cons_zero,List.set_cons_succ])
      refine TnD 16 (some 34) rfl rfl ?_
      (try simp only[Act.put,List.setIfInBounds_toArray,List.set_cons_zero,List.set_cons_succ])
      refine TnD 17 (some 35) rfl rfl ?_
      (try simp only[Act.put,List.setIfInBounds_toArray,List.set_cons_zero,List.set_cons_succ])
      refine TnD 18 (some 36) rfl rfl ?_
      (try simp only[Act.put,List.setIfInBounds_toArray,List.set_cons_zero,List.set_cons_succ])
      refine TkD 19 (some 37) (v:=?_) rfl rfl ?_ ?_;rotate_left
      ·(intro W hSw;(try dsimp only at hSw);go_simp;try with_reducible rfl)
      (try simp only[Act.put,List.setIfInBounds_toArray,List.set_cons_zero,List.set_cons_succ])
      refine TkD 20 (some 38) (v:=?_) rfl rfl ?_ ?_;rotate_left
      ·(intro W hSw;(try dsimp only at hSw);go_simp;try with_reducible rfl)
      (try simp only[Act.put,List.setIfInBounds_toArray,List.set_cons_zero,List.set_cons_succ])
      refine TkD 21 (some 6) (v:=?_) rfl rfl ?_ ?_;rotate_left
      ·(intro W hSw;(try dsimp only at hSw);go_simp;try with_reducible rfl)
      (try simp only[Act.put,List.setIfInBounds_toArray,List.set_cons_zero,List.set_cons_succ])
      refine wpAnyH_done (by kernel_rfl) ?_ _
      go_wp2_with fail
      go_meet;exact⟨by rw[HV.out],hHeld.2⟩
    | true=>
      have HV:Hid (al=(g2==d2)):=by show _=_;rw[HA.out,h1,h2];rfl
      clear HA
      refine wp_region_held_drew (S:=fun V=>((V.cell? ⟨w.heap.size,0,none⟩=some (.string sc1)/\V.cell? ⟨w.heap.size,1,none⟩=some (.string us1)/\V.cell? ⟨w.heap.size,2,none⟩=some (.string pa1)/\V.cell? ⟨w.heap.size,3,none⟩=some (.bool hh1)/\V.cell? ⟨w.heap.size,4,none⟩=some (.string hs1)/\V.cell? ⟨w.heap.size,5,none⟩=some (.int .i64 pr1)/\V.cell? ⟨w.heap.size,6,none⟩=some (.bool op1)/\V.cell? ⟨w.heap.size,7,none⟩=some (.slice a1 n1 c1)/\V.cell? ⟨w.heap.size,8,none⟩=some (.bool hq1)/\V.cell? ⟨w.heap.size,9,none⟩=some (.bool hf1)/\V.cell? ⟨w.heap.size,10,none⟩=some (.string qr1)/\V.cell? ⟨w.heap.size,11,none⟩=some (.string fr1))/\(V.cell? ⟨w.heap.size+1,0,none⟩=some (.string sc2)/\V.cell? ⟨w.heap.size+1,1,none⟩=some (.string us2)/\V.cell? ⟨w.heap.size+1,2,none⟩=some (.string pa2)/\V.cell? ⟨w.heap.size+1,3,none⟩=some (.bool hh2)/\V.cell? ⟨w.heap.size+1,4,none⟩=some (.string hs2)/\V.cell? ⟨w.heap.size+1,5,none⟩=some (.int .i64 pr2)/\V.cell? ⟨w.heap.size+1,6,none⟩=some (.bool op2)/\V.cell? ⟨w.heap.size+1,7,none⟩=some (.slice a2 n2 c2)/\V.cell? ⟨w.heap.size+1,8,none⟩=some (.bool hq2)/\V.cell? ⟨w.heap.size+1,9,none⟩=some (.bool hf2)/\V.cell? ⟨w.heap.size+1,10,none⟩=some (.string qr2)/\V.cell? ⟨w.heap.size+1,11,none⟩=some (.string fr2)))/\Below W.heap.size W V) (by kernel_rfl) ⟨hC.out _ hBd,hBd⟩ (fun hHeld=>?_)
      generalize wc.drew=W0 at hHeld⊢;refine TkD 0 (some 18) (v:=?_) rfl rfl ?_ ?_;rotate_left
      ·(intro W hSw;(try dsimp only at hSw);go_simp;try with_reducible rfl)
      (try simp only[Act.put,List.setIfInBounds_toArray,List.set_cons_zero,List.set_cons_succ])
      refine TkD 1 (some 19) (v:=?_) rfl rfl ?_ ?_;rotate_left
      ·(intro W hSw;(try dsimp only at hSw);go_simp;try with_reducible rfl)
      (try simp only[Act.put,List.setIfInBounds_toArray,List.set_cons_zero,List.set_cons_succ])
      refine TkD 2 (some 20) (v:=?_) rfl rfl ?_ ?_;rotate_left
      ·(intro W hSw;(try dsimp only at hSw);go_simp;try with_reducible rfl)
      (try simp only[Act.put,List.setIfInBounds_toArray,List.set_cons_zero,List.set_cons_succ])
      refine TkD 3 (some 21) (v:=?_) rfl rfl ?_ ?_;rotate_left
      ·(intro W hSw;(try dsimp only at hSw);go_simp;try with_reducible rfl)
      (try simp only[Act.put,List.setIfInBounds_toArray,List.set_cons_zero,List.set_cons_succ])
      refine TkD 4 (some 22) (v:=?_) rfl rfl ?_ ?_;rotate_left
      ·(intro W hSw;(try dsimp only at hSw);go_simp;try with_reducible rfl)
      (try simp only[Act.put,List.setIfInBounds_toArray,List.set_cons_zero,List.set_cons_succ])
      refine TkD 5 (some 23) (v:=?_) rfl rfl ?_ ?_;rotate_left
      ·(intro W hSw;(try dsimp only at hSw);go_simp;try with_reducible rfl)
      (try simp only[Act.put,List.setIfInBounds_toArray,List.set_cons_zero,List.set_cons_succ])
      refine TkD 6 (some 24) (v:=?_) rfl rfl ?_ ?_;rotate_left
      ·(intro W hSw;(try dsimp only at hSw);go_simp;try with_reducible rfl)
      (try simp only[Act.put,List.setIfInBounds_toArray,List.set_cons_zero,List.set_cons_succ])
      refine TkD 8 (some 26) (v:=?_) rfl rfl ?_ ?_;rotate_left
      ·(intro W hSw;(try dsimp only at hSw);go_simp;try with_reducible rfl)
      (try simp only[Act.put,List.setIfInBounds_toArray,List.set_cons_zero,List.set_cons_succ])
      refine TkD 9 (some 27) (v:=?_) rfl rfl ?_ ?_;rotate_left
      ·(intro W hSw;(try dsimp only at hSw);go_simp;try with_reducible rfl)
      (try simp only[Act.put,List.setIfInBounds_toArray,List.set_cons_zero,List.set_cons_succ])
      refine wpAnyH_ready (rs:=[7]) (by kernel_rfl) (by simp) ?_;refine AllReadyH.cons rfl (fun K hK=>?_) AllReadyH.nil;go_simp
      go_at_call 112
      refine(cE1.out _ (hHeld.2)).mono ?_;rintro e w5 ⟨rfl,hK5⟩;clear hHeld;refine hK.out _ _ ⟨hC.out _ hK5,hK5⟩ (fun hHeld=>?_);clear hK K
      (try simp only[Act.put,List.setIfInBounds_toArray,List.set_cons_zero,List.set_cons_succ])
      refine wpAnyH_ready (rs:=[10]) (by kernel_rfl) (by simp) ?_;refine AllReadyH.cons rfl (fun K hK=>?_) AllReadyH.nil;go_simp
      go_at_call 113
      refine(cD1.out _ (hHeld.2)).mono ?_;rintro e w5 ⟨rfl,hK5⟩;clear hHeld;refine hK.out _ _ ⟨hC.out _ hK5,hK5⟩ (fun hHeld=>?_);clear hK K
      (try simp only[Act.put,List.setIfInBounds_toArray,List.set_cons_zero,List.set_cons_succ])
      refine TkD 11 (some 29) (v:=?_) rfl rfl ?_ ?_;rotate_left
      ·(intro W hSw;(try dsimp only at hSw);go_simp;try with_reducible rfl)
      (try simp only[Act.put,List.setIfInBounds_toArray,List.set_cons_zero,List.set_cons_succ])
      refine TkD 12 (some 30) (v:=?_) rfl rfl ?_ ?_;rotate_left
      ·(intro W hSw;(try dsimp only at hSw);go_simp;try with_reducible rfl)
      (try simp only[Act.put,List.setIfInBounds_toArray,List.set_cons_zero,List.set_cons_succ])
      refine TkD 13 (some 31) (v:=?_) rfl rfl ?_ ?_;rotate_left
      ·(intro W hSw;(try dsimp only at hSw);go_simp;try with_reducible rfl)
      (try simp only[Act.put,List.setIfInBounds_toArray,List.set_cons_zero,List.set_cons_succ])
      refine TkD 15 (some 33) (v:=?_) rfl rfl ?_ ?_;rotate_left
      ·(intro W hSw;(try dsimp only at hSw);go_simp;try with_reducible rfl)
      (try simp only[Act.put,List.setIfInBounds_toArray,List.set_cons_zero,List.set_cons_succ])
      refine TkD 16 (some 34) (v:=?_) rfl rfl ?_ ?_;rotate_left
      ·(intro W hSw;(try dsimp only at hSw);go_simp;try with_reducible rfl)
      (try simp only[Act.put,List.setIfInBounds_toArray,List.set_cons_zero,List.set_cons_succ])
      refine wpAnyH_ready (rs:=[14]) (by kernel_rfl) (by simp) ?_;refine AllReadyH.cons rfl (fun K hK=>?_) AllReadyH.nil;go_simp
      go_at_call 112
      refine(cE2.out _ (hHeld.2)).mono ?_;rintro e w5 ⟨rfl,hK5⟩;clear hHeld;refine hK.out _ _ ⟨hC.out _ hK5,hK5⟩ (fun hHeld=>?_);clear hK K
      (try simp only[Act.put,List.setIfInBounds_toArray,List.set_cons_zero,List.set_cons_succ])
      refine wpAnyH_ready (rs:=[17]) (by kernel_rfl) (by simp) ?_;refine AllReadyH.cons rfl (fun K hK=>?_) AllReadyH.nil;go_simp
      go_at_call 113
      refine(cD2.out _ (hHeld.2)).mono ?_;rintro e w5 ⟨rfl,hK5⟩;clear hHeld;refine hK.out _ _ ⟨hC.out _ hK5,hK5⟩ (fun hHeld=>?_);clear hK K
      (try simp only[Act.put,List.setIfInBounds_toArray,List.set_cons_zero,List.set_cons_succ])
      refine TkD 18 (some 36) (v:=?_) rfl rfl ?_ ?_;rotate_left
      ·(intro W hSw;(try dsimp only at hSw);go_simp;try with_reducible rfl)
      (try simp only[Act.put,List.setIfInBounds_toArray,List.set_cons_zero,List.set_cons_succ])
      refine TkD 19 (some 37) (v:=?_) rfl rfl ?_ ?_;rotate_left
      ·(intro W hSw;(try dsimp only at hSw);go_simp;try with_reducible rfl)
      (try simp only[Act.put,List.setIfInBounds_toArray,List.set_cons_zero,List.set_cons_succ])
      refine TkD 20 (some 38) (v:=?_) rfl rfl ?_ ?_;rotate_left
      ·(intro W hSw;(try dsimp only at hSw);go_simp;try with_reducible rfl)
      (try simp only[Act.put,List.setIfInBounds_toArray,List.set_cons_zero,List.set_cons_succ])
      refine TkD 21 (some 6) (v:=?_) rfl rfl ?_ ?_;rotate_left
      ·(intro W hSw;(try dsimp only at hSw);go_simp;try with_reducible rfl)
      (try simp only[Act.put,List.setIfInBounds_toArray,List.set_cons_zero,List.set_cons_succ])
      refine wpAnyH_done (by kernel_rfl) ?_ _
      go_wp2_with fail
      go_meet;exact⟨by rw[HV.out],hHeld.2⟩
 case rest=>
 obtain⟨rfl,hKe⟩:=hcut;clear hKd hBd HA
 go_upto_region 5 with fail
 go_cut [7] (fun s wx=>s=.bool sf/\Below W.heap.size W wx)
 case first=>
  obtain⟨⟨x0,x1,x2,x3,x4,x5,x6,x7,x8,x9,x10,x11⟩,y0,y1,y2,y3,y4,y5,y6,y7,y8,y9,y10,y11⟩:=hC.out _ hKe;obtain⟨m1,m2,m3,m4,m5⟩:=HB.out;clear HV HB m5;cases b1 with
  | true=>
    have HV:Hid (sf=true):=by show _=_;rw[HS.out];rfl
    go_wp2_with fail
    go_meet;exact⟨by rw[HV.out],hKe⟩
  | false=>
  cases b2 with
  | true=>
    have HV:Hid (sf=true):=by show _=_;rw[HS.out];rfl
    go_wp2_with fail
    go_meet;exact⟨by rw[HV.out],hKe⟩
  | false=>
  cases b3 with
  | false=>
    have HV:Hid (sf=false):=by show _=_;rw[HS.out];rfl
    go_wp2_with fail
    go_meet;exact⟨by rw[HV.out],hKe⟩
  | true=>
    have HV:Hid (sf=b4):=by show _=_;rw[HS.out];rfl
    go_wp2_with fail
    go_meet;exact⟨by rw[HV.out],hKe⟩
 case rest=>
 obtain⟨rfl,hKf⟩:=hcut;clear hKe HS;obtain⟨⟨x0,x1,x2,x3,x4,x5,x6,x7,x8,x9,x10,x11⟩,y0,y1,y2,y3,y4,y5,y6,y7,y8,y9,y10,y11⟩:=hC.out _ hKf;obtain⟨m1,m2,m3,m4,m5⟩:=HB.out;clear HB hC m1 m2 m3 m4;cases hh1 with
 | false=>
   go_wp2_with fail
   go_ret;exact⟨by rw[HV.out];rfl,hbW.trans (hKf.mono hbW.size)⟩
 | true=>
 cases hh2 with
 | false=>
   go_wp2_with fail
   go_ret;exact⟨by rw[HV.out];rfl,hbW.trans (hKf.mono hbW.size)⟩
 | true=>
 cases b5 with
 | false=>
   go_wp2_with fail
   go_ret;exact⟨by rw[HV.out];rfl,hbW.trans (hKf.mono hbW.size)⟩
 | true=>
 cases al with
 | false=>
   go_wp2_with fail
   go_ret;exact⟨by rw[HV.out];rfl,hbW.trans (hKf.mono hbW.size)⟩
 | true=>
   go_wp2_with fail
   go_ret;exact⟨by rw[HV.out];rfl,hbW.trans (hKf.mono hbW.size)⟩
end Go.Proofs.YtfepgodjaeddgaaGreatDoor
