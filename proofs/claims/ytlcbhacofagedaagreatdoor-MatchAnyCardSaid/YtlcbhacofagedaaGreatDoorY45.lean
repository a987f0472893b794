/-
  lazaretref08.Origin.
-/
import Derived.Test.YtlcbhacofagedaaGreatDoorY32
import Derived.Test.YtlcbhacofagedaaGreatDoorY44
set_option maxHeartbeats 4000000
set_option maxRecDepth 100000
namespace Go.Proofs.YtlcbhacofagedaaGreatDoor
open Go.RowKit
theorem UP (s:List UInt8): -1<=Lz.dr s:=by
 unfold Lz.dr
 repeat' split
 all_goals decide
theorem zi (v:Value) (u:Lz.af) (w:World) (hv:bz w v u) (hE:jL w) (hO:re u) (hd:Lz.dr u.scheme≠ -1):Calls Tryz.prog 77 #[v] w (gl (u.scheme++[58,47,47]++Lz.atU u) w):=by
 obtain⟨goal,hg⟩:∃goal,goal=u.scheme++[58,47,47]++Lz.atU u:=⟨_,rfl⟩;rw[<-hg];have HG:=Ih hg;obtain⟨sch,usr,pas,hh,hst,prt,opq,a,c,xs,hq,hf,qry,frg,rfl,hu,hx⟩:=hv.form;obtain⟨C,hC⟩:∃C:Array Value,C= #[.string sch,.string usr,.string pas,.bool hh,.string hst,.int .i64 prt,.bool opq,.slice a xs.length c,.bool hq,.bool hf,.string qry,.string frg]:=⟨_,rfl⟩;have St:u.scheme=sch.data.toList:=by rw[hu]
 have bn:sch.size<=1000000000:=by rw[<-aa,<-St];exact hO.scheme
 obtain⟨W,hW⟩:∃W,W=w.alloc (.cells #[.string sch,.string usr,.string pas,.bool hh,.string hst,.int .i64 prt,.bool opq,.slice a xs.length c,.bool hq,.bool hf,.string qry,.string frg] 26):=⟨_,rfl⟩;have bg:Below w.heap.size w W:=by rw[hW];exact(Below.refl _ w).alloc (Nat.le_refl _) _
 have hR:W.heap[w.heap.size]? =some (.cells #[.string sch,.string usr,.string pas,.bool hh,.string hst,.int .i64 prt,.bool opq,.slice a xs.length c,.bool hq,.bool hf,.string qry,.string frg] 26 (0,0)):=by rw[hW];exact aK _ _
 have hP:PO w.heap.size #[.string sch,.string usr,.string pas,.bool hh,.string hst,.int .i64 prt,.bool opq,.slice a xs.length c,.bool hq,.bool hf,.string qry,.string frg] u w W:=⟨hR,bg,hE.below bg,hv.below bg⟩;have RJ:=hP.drew
 have cA:Hid (∀V,PO w.heap.size #[.string sch,.string usr,.string pas,.bool hh,.string hst,.int .i64 prt,.bool opq,.slice a xs.length c,.bool hq,.bool hf,.string qry,.string frg] u w V->Calls Tryz.prog 34 #[.agg #[.string sch,.string usr,.string pas,.bool hh,.string hst,.int .i64 prt,.bool opq,.slice a xs.length c,.bool hq,.bool hf,.string qry,.string frg]] V fun e w'=>∃t:ByteArray,e=.returned (.string t)/\Hid (t.data.toList=Lz.atU u)/\t.size<=1000000100/\PO w.heap.size #[.string sch,.string usr,.string pas,.bool hh,.string hst,.int .i64 prt,.bool opq,.slice a xs.length c,.bool hq,.bool hf,.string qry,.string frg] u w w'):=Ih (by
  intro V hV;refine(Cp _ u V hV.val hV.env.h hO.p0 hO.p1 hO.host).mono ?_;rintro e w' ⟨t,he,ht,Gg⟩;refine⟨t,he,ht,?_,hV.call Gg⟩;rw[<-aa,ht.out];unfold Lz.atU;split
  ·have:=hO.host;omega
  ·have h1:=kF hO.p0 hO.p1;have h2:=hO.host;simp only[List.length_append,List.length_singleton];omega)
 have c0:=rowAt hR 0 (.string sch) rfl;obtain⟨d,kR⟩:∃d,d=Lz.dr sch.data.toList:=⟨_,rfl⟩
 have WP:(0:Int)<=d:=by
  have:=UP sch.data.toList;rw[<-kR]at this;have h2:d≠ -1:=by rw[kR,<-St];exact hd
  omega
 have cD:Hid (Calls Tryz.prog 47 #[.string sch] W fun e w'=>e=.returned (.int .i64 d)/\W=w'):=Ih (by rw[kR];exact dR sch W);have n1:¬(9223372036854775807<sch.size+3):=by omega
 have kQ:Hid (goal=sch.data.toList++[58,47,47]++Lz.atU u):=Ih (by rw[HG.out,St]);have HW:=Ih hW;have HP:=Ih hP;clear hC hW hR hv hx hg hE hu St hO hd kR HG hP;go_enter Tryz.func77,Tryz.ntmps77
 go_wp2_with (rw[<-HW.out])
 refine cD.out.mono ?_;rintro e w1 ⟨rfl,rfl⟩
 go_upto_region 2 with fail
 go_cut [2] (fun s wx=>∃t:ByteArray,s=.string t/\Hid (t.data.toList=goal)/\Below w.heap.size w wx)
 case first=>
  have hPw:=HP.out
  go_region_held3 (fun V=>(V.cell? ⟨w.heap.size,0,none⟩=some (.string sch)/\V.cell? ⟨w.heap.size,1,none⟩=some (.string usr)/\V.cell? ⟨w.heap.size,2,none⟩=some (.string pas)/\V.cell? ⟨w.heap.size,3,none⟩=some (.bool hh)/\V.cell? ⟨w.heap.size,4,none⟩=some (.string hst)/\V.cell? ⟨w.heap.size,5,none⟩=some (.int .i64 prt)/\V.cell? ⟨w.heap.size,6,none⟩=some (.bool opq)/\V.cell? ⟨w.heap.size,7,none⟩=some (.slice a xs.length c)/\V.cell? ⟨w.heap.size,8,none⟩=some (.bool hq)/\V.cell? ⟨w.heap.size,9,none⟩=some (.bool hf)/\V.cell? ⟨w.heap.size,10,none⟩=some (.string qry)/\V.cell? ⟨w.heap.size,11,none⟩=some (.string frg))/\PO w.heap.size #[.string sch,.string usr,.string pas,.bool hh,.string hst,.int .i64 prt,.bool opq,.slice a xs.length c,.bool hq,.bool hf,.string qry,.string frg] u w V) (first |exact⟨fO (PO.row (by assumption)),by assumption⟩) (first |(go_at_call 34;refine(cA.out _ (by assumption)).mono ?_;rintro e w4 ⟨t,rfl,ht,Xx,Sa⟩;have n2:¬(9223372036854775807<sch.size+3+t.size):=(by omega)))
  go_wp2_with fail
  go_meet;exact⟨_,rfl,by show _=_;rw[kQ.out,ai,ai,ht.out],Sa.below⟩
 case rest=>
  obtain⟨t,rfl,ht,hb⟩:=hcut
  go_wp2_with fail
  go_ret;exact⟨t,rfl,ht,hb⟩
theorem pB (v:Value) (u:Lz.af) (w:World) (hv:bz w v u) (hE:jL w) (hO:re u):Calls Tryz.prog 77 #[v] w (gl (Lz.bT u) w):=by
 by_cases hd:Lz.dr u.scheme= -1
 case neg=>
  rw[show Lz.bT u=u.scheme++[58,47,47]++Lz.atU u by unfold Lz.bT;rw[if_pos hd]];exact zi v u w hv hE hO hd
 obtain⟨goal,hg⟩:∃goal,goal=Lz.bT u:=⟨_,rfl⟩;rw[<-hg];have jK:=fun h=>hg.trans (pM hd h);have jI:=fun h=>hg.trans (pG hd h);obtain⟨sch,usr,pas,hh,hst,prt,opq,a,c,xs,hq,hf,qry,frg,rfl,rfl,hx⟩:=hv.form;obtain⟨W,hW⟩:∃W,W=w.alloc (.cells #[.string sch,.string usr,.string pas,.bool hh,.string hst,.int .i64 prt,.bool opq,.slice a xs.length c,.bool hq,.bool hf,.string qry,.string frg] 26):=⟨_,rfl⟩;have bg:Below w.heap.size w W:=by rw[hW];exact(Below.refl _ w).alloc (Nat.le_refl _) _
 have hR:W.heap[w.heap.size]? =some (.cells #[.string sch,.string usr,.string pas,.bool hh,.string hst,.int .i64 prt,.bool opq,.slice a xs.length c,.bool hq,.bool hf,.string qry,.string frg] 26 (0,0)):=by rw[hW];exact aK _ _
 have c0:=rowAt hR 0 (.string sch) rfl;have c6:=rowAt hR 6 (.bool opq) rfl;have c7:=rowAt hR 7 (.slice a xs.length c) rfl;obtain⟨d,kR⟩:∃d,d=Lz.dr sch.data.toList:=⟨_,rfl⟩
 have WP:¬((0:Int)<=d):=by
  have h2:d= -1:=by rw[kR];exact hd
  omega
 have cD:Hid (Calls Tryz.prog 47 #[.string sch] W fun e w'=>e=.returned (.int .i64 d)/\W=w'):=Ih (by rw[kR];exact dR sch W);have HW:=Ih hW;by_cases hs:sch.data.toList=Lz.Bg
 case neg=>
  have e0:=aR (k:=[98,108,111,98]) hs;have HG:Hid (goal=gN):=Ih (jK (fun h=>hs h.1));clear hW hR hv hx hg hE hO hd kR jK jI hs;go_enter Tryz.func77,Tryz.ntmps77
  go_wp2_with (rw[<-HW.out])
  refine cD.out.mono ?_;rintro e w1 ⟨rfl,rfl⟩
  go_wp2_with fail
  go_ret;exact⟨_,rfl,Ih HG.out.symm,bg⟩
 have e0:=aH (k:=[98,108,111,98]) hs;cases opq with
 | false=>
   have HG:Hid (goal=gN):=Ih (jK (fun h=>by cases h.2.1));clear hW hR hv hx hg hE hO hd kR jK jI hs;go_enter Tryz.func77,Tryz.ntmps77
   go_wp2_with (rw[<-HW.out])
   refine cD.out.mono ?_;rintro e w1 ⟨rfl,rfl⟩
   go_wp2_with fail
   go_ret;exact⟨_,rfl,Ih HG.out.symm,bg⟩
 | true=>
   cases xs with
   | nil=>
     have HG:Hid (goal=gN):=Ih (jK (fun h=>h.2.2 rfl));simp only[List.length_nil]at c7 HW;clear hW hR hv hx hg hE hO hd kR jK jI hs;go_enter Tryz.func77,Tryz.ntmps77
     go_wp2_with (rw[<-HW.out])
     refine cD.out.mono ?_;rintro e w1 ⟨rfl,rfl⟩
     go_wp2_with fail
     go_ret;exact⟨_,rfl,Ih HG.out.symm,bg⟩
   | cons x0 xr=>
     have jI:=jI ⟨hs,rfl,by simp⟩;obtain⟨G,o,ha,hG,np⟩:=hx 0 x0 rfl;subst ha;have j7:W.cell? ⟨G,o+0,none⟩=some (.string x0):=by rw[bg.cell (p:=⟨G,o+0,none⟩) hG];exact np
     have qH:W.cell? ⟨G,o,none⟩=some (.string x0):=j7;obtain⟨n,hn⟩:∃n,n=xr.length+1:=⟨_,rfl⟩;simp only[List.length_cons]at c7 HW;rw[<-hn]at c7 HW;have bv:(0:Int)<(n:Int):=by omega
     have sX:0<n:=by omega
     obtain⟨R,SO⟩:∃R,R=Lz.du x0.data.toList none:=⟨_,rfl⟩;have HB:Hid (goal=uO R):=Ih (by rw[SO];exact jI);have KY:=Ih SO;have cP:Hid (Calls Tryz.prog 5 #[.string x0,.pointer none] W (pD R W)):=Ih (by rw[SO];exact px x0 W (hE.below bg));have HE:=Ih (hE.below bg);have abI:(n==0)=false:=by simp;omega
     have HN:=Ih hn;clear hW hR hv hx hg hE hO hd kR jK jI hs np hn SO;go_enter Tryz.func77,Tryz.ntmps77
     go_wp2_with (rw[<-HN.out,<-HW.out])
     refine cD.out.mono ?_;rintro e w1 ⟨rfl,rfl⟩
     go_wp2_with fail
     refine cP.out.mono ?_;rintro e w2 ⟨v2,k,rfl,aU,bt⟩;obtain⟨x,O6,hk⟩:=bt.cases;have ga:=bg.trans (aU.mono bg.size);obtain⟨aS,bW,bF,bG,bn,bA,bL,a1,n1,c1,bB,bK,bX,bY,rfl⟩:=O6.form;have Pb:=(HE.out.below aU).below ((Below.refl w2.heap.size w2).alloc (Nat.le_refl _) (.cells #[.string aS,.string bW,.string bF,.bool bG,.string bn,.int .i64 bA,.bool bL,.slice a1 n1 c1,.bool bB,.bool bK,.string bX,.string bY] 26));have AF:=ga.alloc ga.size (.cells #[.string aS,.string bW,.string bF,.bool bG,.string bn,.int .i64 bA,.bool bL,.slice a1 n1 c1,.bool bB,.bool bK,.string bX,.string bY] 26);have Gc:(w2.alloc (.cells #[.string aS,.string bW,.string bF,.bool bG,.string bn,.int .i64 bA,.bool bL,.slice a1 n1 c1,.bool bB,.bool bK,.string bX,.string bY] 26)).heap[w2.heap.size]? =some (.cells #[.string aS,.string bW,.string bF,.bool bG,.string bn,.int .i64 bA,.bool bL,.slice a1 n1 c1,.bool bB,.bool bK,.string bX,.string bY] 26 (0,0)):=aK _ _
     have K0:=O6.below ((Below.refl w2.heap.size w2).alloc (Nat.le_refl _) (.cells #[.string aS,.string bW,.string bF,.bool bG,.string bn,.int .i64 bA,.bool bL,.slice a1 n1 c1,.bool bB,.bool bK,.string bX,.string bY] 26));clear bt O6 HE cP cD aU
     go_upto_region 5 with fail
     generalize w2.alloc (.cells #[.string aS,.string bW,.string bF,.bool bG,.string bn,.int .i64 bA,.bool bL,.slice a1 n1 c1,.bool bB,.bool bK,.string bX,.string bY] 26)=V at Pb AF Gc K0⊢;generalize w2.heap.size=r2 at Gc⊢;have k0:=rowAt Gc 0 (.string aS) rfl;rcases hk with⟨hR,iN⟩|⟨m,hR,_,iN⟩
     case inr=>
      have hm:=Lz.nE (KY.out.symm.trans hR);have HG:Hid (goal=gN):=Ih (by rw[HB.out,hR];rfl);have Sy:(k==0)=false:=by rw[iN];simp;omega
      clear hR iN hm HB KY
      go_wp2_with fail
      go_ret;exact⟨_,rfl,Ih HG.out.symm,AF⟩
     case inl=>
      have Sy:(k==0)=true:=by rw[iN];rfl
      have d7:x.scheme=aS.data.toList:=by
       obtain⟨_,_,_,_,_,_,_,_,_,_,_,_,_,_,h1,h2,_⟩:=K0.val.form;rw[h2];simp only[Value.agg.injEq,Array.mk.injEq,List.cons.injEq,Value.string.injEq]at h1;rw[h1.1]
      have DN:=p5 (KY.out.symm.trans hR);by_cases h1:aS.data.toList=Lz.iy\/aS.data.toList=Lz.iK
      ·have HG:Hid (goal=x.scheme++[58,47,47]++Lz.atU x):=Ih (by rw[HB.out,hR,uO,if_pos (by rw[d7];exact h1)]);have Lp:PO r2 #[.string aS,.string bW,.string bF,.bool bG,.string bn,.int .i64 bA,.bool bL,.slice a1 n1 c1,.bool bB,.bool bK,.string bX,.string bY] x w V:=⟨Gc,AF,Pb,K0.val⟩;have RJ:=Lp.drew;have HP:=Ih Lp;have n1':aS.size<=1000000000:=by rw[<-aa,<-d7];exact DN.scheme
       have n0:¬(9223372036854775807<aS.size+3):=by omega
       have kQ:Hid (goal=aS.data.toList++[58,47,47]++Lz.atU x):=Ih (by rw[HG.out,d7])
       have cA:Hid (∀V,PO r2 #[.string aS,.string bW,.string bF,.bool bG,.string bn,.int .i64 bA,.bool bL,.slice a1 n1 c1,.bool bB,.bool bK,.string bX,.string bY] x w V->Calls Tryz.prog 34 #[.agg #[.string aS,.string bW,.string bF,.bool bG,.string bn,.int .i64 bA,.bool bL,.slice a1 n1 c1,.bool bB,.bool bK,.string bX,.string bY]] V fun e w'=>∃t:ByteArray,e=.returned (.string t)/\Hid (t.data.toList=Lz.atU x)/\t.size<=1000000100/\PO r2 #[.string aS,.string bW,.string bF,.bool bG,.string bn,.int .i64 bA,.bool bL,.slice a1 n1 c1,.bool bB,.bool bK,.string bX,.string bY] x w w'):=Ih (by
        intro V hV;refine(Cp _ x V hV.val hV.env.h DN.p0 DN.p1 DN.host).mono ?_;rintro e w' ⟨t,he,ht,Gg⟩;refine⟨t,he,ht,?_,hV.call Gg⟩;rw[<-aa,ht.out];unfold Lz.atU;split
        ·have:=DN.host;omega
        ·have h1:=kF DN.p0 DN.p1;have h2:=DN.host;simp only[List.length_append,List.length_singleton];omega)
       clear Lp;by_cases h2:aS.data.toList=Lz.iy
       ·have q1:=aH (k:=[104,116,116,112]) h2;clear h1 h2 d7 DN hR iN HB KY HG K0 Pb Gc
        go_upto_region 6 with fail
        go_cut [2] (fun s wx=>∃t:ByteArray,s=.string t/\Hid (t.data.toList=goal)/\Below w.heap.size w wx)
        case first=>
         have hPw:=HP.out
         go_region_held3 (fun V=>(V.cell? ⟨r2,0,none⟩=some (.string aS)/\V.cell? ⟨r2,1,none⟩=some (.string bW)/\V.cell? ⟨r2,2,none⟩=some (.string bF)/\V.cell? ⟨r2,3,none⟩=some (.bool bG)/\V.cell? ⟨r2,4,none⟩=some (.string bn)/\V.cell? ⟨r2,5,none⟩=some (.int .i64 bA)/\V.cell? ⟨r2,6,none⟩=some (.bool bL)/\V.cell? ⟨r2,7,none⟩=some (.slice a1 n1 c1)/\V.cell? ⟨r2,8,none⟩=some (.bool bB)/\V.cell? ⟨r2,9,none⟩=some (.bool bK)/\V.cell? ⟨r2,10,none⟩=some (.string bX)/\V.cell? ⟨r2,11,none⟩=some (.string bY))/\PO r2 #[.string aS,.string bW,.string bF,.bool bG,.string bn,.int .i64 bA,.bool bL,.slice a1 n1 c1,.bool bB,.bool bK,.string bX,.string bY] x w V) (first |exact⟨fO (PO.row (by assumption)),by assumption⟩) (first |(go_at_call 34;refine(cA.out _ (by assumption)).mono ?_;rintro e w4 ⟨t,rfl,ht,Xx,Sa⟩;have n2:¬(9223372036854775807<aS.size+3+t.size):=(by omega)))
         go_wp2_with fail
         go_meet;exact⟨_,rfl,by show _=_;rw[kQ.out,ai,ai,ht.out],Sa.below⟩
        case rest=>
         obtain⟨t,rfl,ht,hb⟩:=hcut
         go_wp2_with fail
         go_ret;exact⟨t,rfl,ht,hb⟩
       ·have q1:=aR (k:=[104,116,116,112]) h2;have q2:=aH (k:=[104,116,116,112,115]) (h1.resolve_left h2);clear h1 h2 d7 DN hR iN HB KY HG K0 Pb Gc
        go_upto_region 6 with fail
        go_cut [2] (fun s wx=>∃t:ByteArray,s=.string t/\Hid (t.data.toList=goal)/\Below w.heap.size w wx)
        case first=>
         have hPw:=HP.out
         go_region_held3 (fun V=>(V.cell? ⟨r2,0,none⟩=some (.string aS)/\V.cell? ⟨r2,1,none⟩=some (.string bW)/\V.cell? ⟨r2,2,none⟩=some (.string bF)/\V.cell? ⟨r2,3,none⟩=some (.bool bG)/\V.cell? ⟨r2,4,none⟩=some (.string bn)/\V.cell? ⟨r2,5,none⟩=some (.int .i64 bA)/\V.cell? ⟨r2,6,none⟩=some (.bool bL)/\V.cell? ⟨r2,7,none⟩=some (.slice a1 n1 c1)/\V.cell? ⟨r2,8,none⟩=some (.bool bB)/\V.cell? ⟨r2,9,none⟩=some (.bool bK)/\V.cell? ⟨r2,10,none⟩=some (.string bX)/\V.cell? ⟨r2,11,none⟩=some (.string bY))/\PO r2 #[.string aS,.string bW,.string bF,.bool bG,.string bn,.int .i64 bA,.bool bL,.slice a1 n1 c1,.bool bB,.bool bK,.string bX,.string bY] x w V) (first |exact⟨fO (PO.row (by assumption)),by assumption⟩) (first |(go_at_call 34;refine(cA.out _ (by assumption)).mono ?_;rintro e w4 ⟨t,rfl,ht,Xx,Sa⟩;have n2:¬(9223372036854775807<aS.size+3+t.size):=(by omega)))
         go_wp2_with fail
         go_meet;exact⟨_,rfl,by show _=_;rw[kQ.out,ai,ai,ht.out],Sa.below⟩
        case rest=>
         obtain⟨t,rfl,ht,hb⟩:=hcut
         go_wp2_with fail
         go_ret;exact⟨t,rfl,ht,hb⟩
      ·have HG:Hid (goal=gN):=Ih (by rw[HB.out,hR,uO,if_neg (by rw[d7];exact h1)]);have q1:=aR (k:=[104,116,116,112]) (fun h=>h1 (Or.inl h));have q2:=aR (k:=[104,116,116,112,115]) (fun h=>h1 (Or.inr h));clear h1 d7 DN hR iN HB KY K0 Pb Gc
       go_wp2_with fail
       go_ret;exact⟨_,rfl,Ih HG.out.symm,AF⟩
end Go.Proofs.YtlcbhacofagedaaGreatDoor
