/-
  lazaretref08.run: file slash.
-/
import Derived.Test.YtlcbhacofagedaaGreatDoorY28
import Derived.Test.YtlcbhacofagedaaGreatDoorY22
import Derived.Test.YtlcbhacofagedaaGreatDoorY30
set_option maxHeartbeats 16000000
set_option maxRecDepth 100000
namespace Go.Proofs.YtlcbhacofagedaaGreatDoor
open Go.RowKit
structure re (u:Lz.af):Prop where
 scheme:u.scheme.length<=1000000000
 host:u.host.length<=1000000000
 p0: -9223372036854775808<=u.port
 p1:u.port<=9223372036854775807
theorem p5 {s:List UInt8} {u:Lz.af} (e:Lz.du s none=.ok u):re u:=by
 have h:=(Lz.nC e).2;have h1:u.scheme.length<=Lz.wq u:=by unfold Lz.wq Lz.wt;omega
 have h2:u.host.length<=Lz.wq u:=by unfold Lz.wq Lz.wt;omega
 refine⟨by omega,by omega,?_,?_⟩<;>rcases(Lz.nC e).1.port with h3|⟨n,h3,hn⟩<;>omega
structure PO (r:Nat) (C:Array Value) (u:Lz.af) (W0 V:World):Prop where
 row:V.heap[r]? =some (.cells C 26 (0,0))
 below:Below W0.heap.size W0 V
 env:jL V
 val:bz V (.agg C) u
theorem PO.call {r:Nat} {C:Array Value} {u:Lz.af} {W0 V V':World} (h:PO r C u W0 V) (hb:Below V.heap.size V V'):PO r C u W0 V':=
 ⟨(hb.block _ (aI h.row)).trans h.row,ac h.below hb,h.env.below hb,h.val.below hb⟩
theorem PO.drew {r:Nat} {C:Array Value} {u:Lz.af} {W0 V:World} (h:PO r C u W0 V):PO r C u W0 V.drew:=h.call (Below.refl _ _).drew
theorem tP (v:Value) (u:Lz.af) (w:World) (hv:bz w v u) (hE:jL w) (hO:re u) (hd:Lz.dr u.scheme≠ -1):Calls Tryz.prog 66 #[v] w (gl (u.scheme++[58,47,47]++Lz.atU u) w):=by
 obtain⟨goal,hg⟩:∃goal,goal=u.scheme++[58,47,47]++Lz.atU u:=⟨_,rfl⟩;rw[<-hg];have HG:=Ih hg;obtain⟨sch,usr,pas,hh,hst,prt,opq,a,c,xs,hq,hf,qry,frg,rfl,hu,hx⟩:=hv.form;obtain⟨C,hC⟩:∃C:Array Value,C= #[.string sch,.string usr,.string pas,.bool hh,.string hst,.int .i64 prt,.bool opq,.slice a xs.length c,.bool hq,.bool hf,.string qry,.string frg]:=⟨_,rfl⟩;have St:u.scheme=sch.data.toList:=by rw[hu]
 have bn:sch.size<=1000000000:=by rw[<-aa,<-St];exact hO.scheme
 obtain⟨W,hW⟩:∃W,W=w.alloc (.cells #[.string sch,.string usr,.string pas,.bool hh,.string hst,.int .i64 prt,.bool opq,.slice a xs.length c,.bool hq,.bool hf,.string qry,.string frg] 26):=⟨_,rfl⟩;have bg:Below w.heap.size w W:=by rw[hW];exact(Below.refl _ w).alloc (Nat.le_refl _) _
 have hR:W.heap[w.heap.size]? =some (.cells #[.string sch,.string usr,.string pas,.bool hh,.string hst,.int .i64 prt,.bool opq,.slice a xs.length c,.bool hq,.bool hf,.string qry,.string frg] 26 (0,0)):=by rw[hW];exact aK _ _
 have hP:PO w.heap.size #[.string sch,.string usr,.string pas,.bool hh,.string hst,.int .i64 prt,.bool opq,.slice a xs.length c,.bool hq,.bool hf,.string qry,.string frg] u w W:=⟨hR,bg,hE.below bg,hv.below bg⟩;have RJ:=hP.drew
 have cA:Hid (∀V,PO w.heap.size #[.string sch,.string usr,.string pas,.bool hh,.string hst,.int .i64 prt,.bool opq,.slice a xs.length c,.bool hq,.bool hf,.string qry,.string frg] u w V->Calls Tryz.prog 85 #[.agg #[.string sch,.string usr,.string pas,.bool hh,.string hst,.int .i64 prt,.bool opq,.slice a xs.length c,.bool hq,.bool hf,.string qry,.string frg]] V fun e w'=>∃t:ByteArray,e=.returned (.string t)/\Hid (t.data.toList=Lz.atU u)/\t.size<=1000000100/\PO w.heap.size #[.string sch,.string usr,.string pas,.bool hh,.string hst,.int .i64 prt,.bool opq,.slice a xs.length c,.bool hq,.bool hf,.string qry,.string frg] u w w'):=Ih (by
  intro V hV;refine(Um _ u V hV.val hV.env.h hO.p0 hO.p1 hO.host).mono ?_;rintro e w' ⟨t,he,ht,Gg⟩;refine⟨t,he,ht,?_,hV.call Gg⟩;rw[<-aa,ht.out];unfold Lz.atU;split
  ·have:=hO.host;omega
  ·have h1:=kF hO.p0 hO.p1;have h2:=hO.host;simp only[List.length_append,List.length_singleton];omega)
 have c0:=rowAt hR 0 (.string sch) rfl;obtain⟨d,kR⟩:∃d,d=Lz.dr sch.data.toList:=⟨_,rfl⟩;have Lu:(d== -1)=false:=by rw[kR,<-St];exact beq_eq_false_iff_ne.2 hd
 have abw:(d != -1)=true:=by rw[bne,Lu];rfl
 have cD:Hid (Calls Tryz.prog 68 #[.string sch] W fun e w'=>e=.returned (.int .i64 d)/\W=w'):=Ih (by rw[kR];exact eN sch W);have n1:¬(9223372036854775807<sch.size+3):=by omega
 have kQ:Hid (goal=sch.data.toList++[58,47,47]++Lz.atU u):=Ih (by rw[HG.out,St]);have HW:=Ih hW;have HP:=Ih hP;clear hC hW hR hv hx hg hE hu St hO hd kR HG hP;go_enter Tryz.func66,Tryz.ntmps66
 go_wp2_with (rw[<-HW.out])
 refine cD.out.mono ?_;rintro e w1 ⟨rfl,rfl⟩
 go_upto_region 2 with fail
 go_cut [2] (fun s wx=>∃t:ByteArray,s=.string t/\Hid (t.data.toList=goal)/\Below w.heap.size w wx)
 case first=>
  have hPw:=HP.out
  go_region_held3 (fun V=>(V.cell? ⟨w.heap.size,0,none⟩=some (.string sch)/\V.cell? ⟨w.heap.size,1,none⟩=some (.string usr)/\V.cell? ⟨w.heap.size,2,none⟩=some (.string pas)/\V.cell? ⟨w.heap.size,3,none⟩=some (.bool hh)/\V.cell? ⟨w.heap.size,4,none⟩=some (.string hst)/\V.cell? ⟨w.heap.size,5,none⟩=some (.int .i64 prt)/\V.cell? ⟨w.heap.size,6,none⟩=some (.bool opq)/\V.cell? ⟨w.heap.size,7,none⟩=some (.slice a xs.length c)/\V.cell? ⟨w.heap.size,8,none⟩=some (.bool hq)/\V.cell? ⟨w.heap.size,9,none⟩=some (.bool hf)/\V.cell? ⟨w.heap.size,10,none⟩=some (.string qry)/\V.cell? ⟨w.heap.size,11,none⟩=some (.string frg))/\PO w.heap.size #[.string sch,.string usr,.string pas,.bool hh,.string hst,.int .i64 prt,.bool opq,.slice a xs.length c,.bool hq,.bool hf,.string qry,.string frg] u w V) (first |exact⟨fO (PO.row (by assumption)),by assumption⟩) (first |(go_at_call 85;refine(cA.out _ (by assumption)).mono ?_;rintro e w4 ⟨t,rfl,ht,Xx,Sa⟩;have n2:¬(9223372036854775807<sch.size+3+t.size):=(by omega)))
  go_wp2_with fail
  go_meet;exact⟨_,rfl,by show _=_;rw[kQ.out,ai,ai,ht.out],Sa.below⟩
 case rest=>
  obtain⟨t,rfl,ht,hb⟩:=hcut
  go_wp2_with fail
  go_ret;exact⟨t,rfl,ht,hb⟩
theorem mG.cases {r:Lz.UR} {w:World} {v:Value} {n:Int} (h:mG r w v n):∃u,dP w v u/\((r=.ok u/\n=0)\/∃k:Nat,r=.er k/\u=qq/\n=(k:Int)):=by
 cases r with
 | ok u=>exact⟨u,h.2,Or.inl ⟨rfl,h.1⟩⟩
 | er k=>exact⟨qq,h.2,Or.inr ⟨k,rfl,rfl,h.1⟩⟩
def gN:List UInt8:=[110,117,108,108]
theorem pM {u:Lz.af} (hd:Lz.dr u.scheme= -1) (h:¬(u.scheme=Lz.Bg/\u.opq=true/\u.path≠[])):Lz.bT u=gN:=by
 unfold Lz.bT;rw[if_neg (by simp[hd]),if_neg h];rfl
theorem N0 {s:List UInt8} (h:s=Lz.iy\/s=Lz.iK):Lz.dr s≠ -1:=by rcases h with rfl|rfl<;>decide
def uO:Lz.UR->List UInt8
 | .ok x=>if x.scheme=Lz.iy\/x.scheme=Lz.iK then x.scheme++[58,47,47]++Lz.atU x else gN
 | .er _=>gN
theorem pG {u:Lz.af} (hd:Lz.dr u.scheme= -1) (h:u.scheme=Lz.Bg/\u.opq=true/\u.path≠[]):Lz.bT u=uO (Lz.du (u.path.headD []) none):=by
 unfold Lz.bT;rw[if_neg (by simp[hd]),if_pos h];cases Lz.du (u.path.headD []) none<;>rfl
theorem ud (v:Value) (u:Lz.af) (w:World) (hv:bz w v u) (hE:jL w) (hO:re u):Calls Tryz.prog 66 #[v] w (gl (Lz.bT u) w):=by
 by_cases hd:Lz.dr u.scheme= -1
 case neg=>
  rw[show Lz.bT u=u.scheme++[58,47,47]++Lz.atU u by unfold Lz.bT;rw[if_pos hd]];exact tP v u w hv hE hO hd
 obtain⟨goal,hg⟩:∃goal,goal=Lz.bT u:=⟨_,rfl⟩;rw[<-hg];have jK:=fun h=>hg.trans (pM hd h);have jI:=fun h=>hg.trans (pG hd h);obtain⟨sch,usr,pas,hh,hst,prt,opq,a,c,xs,hq,hf,qry,frg,rfl,rfl,hx⟩:=hv.form;obtain⟨W,hW⟩:∃W,W=w.alloc (.cells #[.string sch,.string usr,.string pas,.bool hh,.string hst,.int .i64 prt,.bool opq,.slice a xs.length c,.bool hq,.bool hf,.string qry,.string frg] 26):=⟨_,rfl⟩;have bg:Below w.heap.size w W:=by rw[hW];exact(Below.refl _ w).alloc (Nat.le_refl _) _
 have hR:W.heap[w.heap.size]? =some (.cells #[.string sch,.string usr,.string pas,.bool hh,.string hst,.int .i64 prt,.bool opq,.slice a xs.length c,.bool hq,.bool hf,.string qry,.string frg] 26 (0,0)):=by rw[hW];exact aK _ _
 have c0:=rowAt hR 0 (.string sch) rfl;have c6:=rowAt hR 6 (.bool opq) rfl;have c7:=rowAt hR 7 (.slice a xs.length c) rfl;obtain⟨d,kR⟩:∃d,d=Lz.dr sch.data.toList:=⟨_,rfl⟩;have Lu:(d== -1)=true:=by rw[kR];simpa using hd
 have abw:(d != -1)=false:=by rw[bne,Lu];rfl
 have cD:Hid (Calls Tryz.prog 68 #[.string sch] W fun e w'=>e=.returned (.int .i64 d)/\W=w'):=Ih (by rw[kR];exact eN sch W);have HW:=Ih hW;by_cases hs:sch.data.toList=Lz.Bg
 case neg=>
  have e0:=aR (k:=[98,108,111,98]) hs;have HG:Hid (goal=gN):=Ih (jK (fun h=>hs h.1));clear hW hR hv hx hg hE hO hd kR jK jI hs;go_enter Tryz.func66,Tryz.ntmps66
  go_wp2_with (rw[<-HW.out])
  refine cD.out.mono ?_;rintro e w1 ⟨rfl,rfl⟩
  go_wp2_with fail
  go_ret;exact⟨_,rfl,Ih HG.out.symm,bg⟩
 have e0:=aH (k:=[98,108,111,98]) hs;cases opq with
 | false=>
   have HG:Hid (goal=gN):=Ih (jK (fun h=>by cases h.2.1));clear hW hR hv hx hg hE hO hd kR jK jI hs;go_enter Tryz.func66,Tryz.ntmps66
   go_wp2_with (rw[<-HW.out])
   refine cD.out.mono ?_;rintro e w1 ⟨rfl,rfl⟩
   go_wp2_with fail
   go_ret;exact⟨_,rfl,Ih HG.out.symm,bg⟩
 | true=>
   cases xs with
   | nil=>
     have HG:Hid (goal=gN):=Ih (jK (fun h=>h.2.2 rfl));simp only[List.length_nil]at c7 HW;clear hW hR hv hx hg hE hO hd kR jK jI hs;go_enter Tryz.func66,Tryz.ntmps66
     go_wp2_with (rw[<-HW.out])
     refine cD.out.mono ?_;rintro e w1 ⟨rfl,rfl⟩
     go_wp2_with fail
     go_ret;exact⟨_,rfl,Ih HG.out.symm,bg⟩
   | cons x0 xr=>
     have jI:=jI ⟨hs,rfl,by simp⟩;obtain⟨G,o,ha,hG,np⟩:=hx 0 x0 rfl;subst ha;have j7:W.cell? ⟨G,o+0,none⟩=some (.string x0):=by rw[bg.cell (p:=⟨G,o+0,none⟩) hG];exact np
     have qH:W.cell? ⟨G,o,none⟩=some (.string x0):=j7;obtain⟨n,hn⟩:∃n,n=xr.length+1:=⟨_,rfl⟩;simp only[List.length_cons]at c7 HW;rw[<-hn]at c7 HW;have bv:(0:Int)<(n:Int):=by omega
     have sX:0<n:=by omega
     obtain⟨R,SO⟩:∃R,R=Lz.du x0.data.toList none:=⟨_,rfl⟩;have HB:Hid (goal=uO R):=Ih (by rw[SO];exact jI);have KY:=Ih SO;have cP:Hid (Calls Tryz.prog 21 #[.string x0,.pointer none] W (pD R W)):=Ih (by rw[SO];exact uC x0 W (hE.below bg));have HE:=Ih (hE.below bg);have abI:(n==0)=false:=by simp;omega
     have HN:=Ih hn;clear hW hR hv hx hg hE hO hd kR jK jI hs np hn SO;go_enter Tryz.func66,Tryz.ntmps66
     go_wp2_with (rw[<-HN.out,<-HW.out])
     refine cD.out.mono ?_;rintro e w1 ⟨rfl,rfl⟩
     go_wp2_with fail
     refine cP.out.mono ?_;rintro e w2 ⟨v2,k,rfl,aU,bt⟩;obtain⟨x,O6,hk⟩:=bt.cases;have ga:=bg.trans (aU.mono bg.size);obtain⟨aS,bW,bF,bG,bn,bA,bL,a1,n1,c1,bB,bK,bX,bY,rfl⟩:=O6.form;have Pb:=(HE.out.below aU).below ((Below.refl w2.heap.size w2).alloc (Nat.le_refl _) (.cells #[.string aS,.string bW,.string bF,.bool bG,.string bn,.int .i64 bA,.bool bL,.slice a1 n1 c1,.bool bB,.bool bK,.string bX,.string bY] 26));have AF:=ga.alloc ga.size (.cells #[.string aS,.string bW,.string bF,.bool bG,.string bn,.int .i64 bA,.bool bL,.slice a1 n1 c1,.bool bB,.bool bK,.string bX,.string bY] 26);have Gc:(w2.alloc (.cells #[.string aS,.string bW,.string bF,.bool bG,.string bn,.int .i64 bA,.bool bL,.slice a1 n1 c1,.bool bB,.bool bK,.string bX,.string bY] 26)).heap[w2.heap.size]? =some (.cells #[.string aS,.string bW,.string bF,.bool bG,.string bn,.int .i64 bA,.bool bL,.slice a1 n1 c1,.bool bB,.bool bK,.string bX,.string bY] 26 (0,0)):=aK _ _
     have K0:=O6.below ((Below.refl w2.heap.size w2).alloc (Nat.le_refl _) (.cells #[.string aS,.string bW,.string bF,.bool bG,.string bn,.int .i64 bA,.bool bL,.slice a1 n1 c1,.bool bB,.bool bK,.string bX,.string bY] 26));clear bt O6 HE cP cD aU
     go_upto_region 5 with fail
     generalize w2.alloc (.cells #[.string aS,.string bW,.string bF,.bool bG,.string bn,.int .i64 bA,.bool bL,.slice a1 n1 c1,.bool bB,.bool bK,.string bX,.string bY] 26)=V at Pb AF Gc K0⊢;generalize w2.heap.size=r2 at Gc⊢;have k0:=rowAt Gc 0 (.string aS) rfl;rcases hk with⟨hR,iN⟩|⟨m,hR,_,iN⟩
     case inr=>
      have hm:=Lz.nE (KY.out.symm.trans hR);have HG:Hid (goal=gN):=Ih (by rw[HB.out,hR];rfl);have Sy:(k==0)=false:=by rw[iN];simp;omega
      clear hR iN hm HB KY
      go_wp2_with fail
      go_ret;exact⟨_,rfl,Ih HG.out.symm,AF⟩
     case inl=>
      have Sy:(k==0)=true:=by rw[iN];rfl
      have d7:x.scheme=aS.data.toList:=by
       obtain⟨_,_,_,_,_,_,_,_,_,_,_,_,_,_,h1,h2,_⟩:=K0.val.form;rw[h2];simp only[Value.agg.injEq,Array.mk.injEq,List.cons.injEq,Value.string.injEq]at h1;rw[h1.1]
      have DN:=p5 (KY.out.symm.trans hR);by_cases h1:aS.data.toList=Lz.iy\/aS.data.toList=Lz.iK
      ·have HG:Hid (goal=x.scheme++[58,47,47]++Lz.atU x):=Ih (by rw[HB.out,hR,uO,if_pos (by rw[d7];exact h1)]);have cO:=Ih (tP _ x V K0.val Pb DN (by rw[d7];exact N0 h1));rw[<-HG.out]at cO;have HRV:=Ih Gc;by_cases h2:aS.data.toList=Lz.iy
       ·have q1:=aH (k:=[104,116,116,112]) h2;clear h1 h2 d7 DN hR iN HB KY HG K0 Pb Gc
        go_wp2_with (first |(refine wpList_load_row rfl 26 (.tmp 3) rfl r2 rfl 26 _ (0,0) _ HRV.out Tryz.underlying26 rfl bd ?_))
        refine cO.out.mono ?_;rintro e w5 ⟨t,rfl,ht,dB⟩
        go_wp2_with fail
        go_ret;exact⟨_,rfl,ht,ac AF dB⟩
       ·have q1:=aR (k:=[104,116,116,112]) h2;have q2:=aH (k:=[104,116,116,112,115]) (h1.resolve_left h2);clear h1 h2 d7 DN hR iN HB KY HG K0 Pb Gc
        go_wp2_with (first |(refine wpList_load_row rfl 26 (.tmp 3) rfl r2 rfl 26 _ (0,0) _ HRV.out Tryz.underlying26 rfl bd ?_))
        refine cO.out.mono ?_;rintro e w5 ⟨t,rfl,ht,dB⟩
        go_wp2_with fail
        go_ret;exact⟨_,rfl,ht,ac AF dB⟩
      ·have HG:Hid (goal=gN):=Ih (by rw[HB.out,hR,uO,if_neg (by rw[d7];exact h1)]);have q1:=aR (k:=[104,116,116,112]) (fun h=>h1 (Or.inl h));have q2:=aR (k:=[104,116,116,112,115]) (fun h=>h1 (Or.inr h));clear h1 d7 DN hR iN HB KY K0 Pb Gc
       go_wp2_with fail
       go_ret;exact⟨_,rfl,Ih HG.out.symm,AF⟩
attribute [local go_sem ↓] Go.wp_at_zero Go.wp_at_succ
theorem bz.letters {w:World} {v:Value} {u:Lz.af} (h:bz w v u):∃(aS bW bF:ByteArray) (bG:Bool) (bn:ByteArray) (bA:Int) (bL:Bool) (a1:Option Addr) (n1 c1:Nat) (bB bK:Bool) (bX bY:ByteArray),
  v=.agg (C12 aS bW bF bG bn bA bL a1 n1 c1 bB bK bX bY)/\u.scheme=aS.data.toList/\u.hasHost=bG/\u.host=bn.data.toList/\u.port=bA/\u.opq=bL/\bz w (.agg (C12 aS bW bF bG bn bA bL a1 n1 c1 bB bK bX bY)) u:=by
 obtain⟨aS,bW,bF,bG,bn,bA,bL,a1,c1,xs,bB,bK,bX,bY,rfl,e,hx⟩:=h.form;exact⟨aS,bW,bF,bG,bn,bA,bL,a1,xs.length,c1,bB,bK,bX,bY,rfl,by rw[e],by rw[e],by rw[e],by rw[e],by rw[e],h⟩
theorem kd (v:Value) (u:Lz.af) (w:World) (hv:bz w v u):Calls Tryz.prog 67 #[v] w (wj (Lz.kv u) w):=by
 obtain⟨aS,bW,bF,bG,bn,bA,bL,a1,n1,c1,bB,bK,bX,bY,rfl,e1,_,_,e5,_,hv⟩:=hv.letters;have ek:Below w.heap.size w (w.alloc (.cells (C12 aS bW bF bG bn bA bL a1 n1 c1 bB bK bX bY) 26)):=(Below.refl _ w).alloc (Nat.le_refl _) _;by_cases h0:0<=bA
 ·have HV:Hid (Lz.kv u=bA):=by show _=_;unfold Lz.kv;rw[e5,if_pos h0]
  clear hv e1 e5;go_enter Tryz.func67,Tryz.ntmps67
  go_wp2_with fail
  go_ret;exact⟨by rw[HV.out];rfl,ek⟩
 ·have HV:Hid (Lz.kv u=Lz.dr aS.data.toList):=by show _=_;unfold Lz.kv;rw[e5,if_neg h0,e1]
  have cD:=Ih (fun W=>eN aS W);clear hv e1 e5;go_enter Tryz.func67,Tryz.ntmps67
  go_wp2_with fail
  refine(cD.out _).mono ?_;rintro e w1 ⟨rfl,rfl⟩
  go_wp2_with fail
  go_ret;exact⟨by rw[HV.out];rfl,ek⟩
theorem EK (x:aq) (v:Value) (u:Lz.af) (w:World) (hv:bz w v u):Calls Tryz.prog 71 #[x.val,v] w (cn (Lz.tN x.src u) w):=by
 obtain⟨aS,bW,bF,bG,bn,bA,bL,a1,n1,c1,bB,bK,bX,bY,rfl,e1,_,_,e5,_,hv⟩:=hv.letters;obtain⟨k,t,b,sc,ho,wd,po,pa⟩:=x;obtain⟨R,hR⟩:∃R,R=Lz.tN (aq.src ⟨k,t,b,sc,ho,wd,po,pa⟩) u:=⟨_,rfl⟩;rw[<-hR]
 have Iv:R=if po= -2 then true else if po= -1 then decide (bA<0)||bA==Lz.dr aS.data.toList else po==Lz.kv u:=by
  rw[hR];unfold Lz.tN aq.src;rw[e5,e1]
 dsimp only[aq.val]
 obtain⟨W,hW⟩:∃W,W=(w.alloc (.cells #[.int .i64 k,.string t,.int .i64 b,.string sc,.string ho,.bool wd,.int .i64 po,.string pa] 41)).alloc (.cells (C12 aS bW bF bG bn bA bL a1 n1 c1 bB bK bX bY) 26):=⟨_,rfl⟩;have bg:Below w.heap.size w W:=by rw[hW];exact((Below.refl _ w).alloc (Nat.le_refl _) _).alloc (by simp) _
 have sU:W.heap[w.heap.size]? =some (.cells #[.int .i64 k,.string t,.int .i64 b,.string sc,.string ho,.bool wd,.int .i64 po,.string pa] 41 (0,0)):=by
  rw[hW,Below.heap_alloc _ _ _ (by simp)];exact aK _ _
 have ko:W.heap[w.heap.size+1]? =some (.cells (C12 aS bW bF bG bn bA bL a1 n1 c1 bB bK bX bY) 26 (0,0)):=by
  rw[hW];have:=aK (w.alloc (.cells #[.int .i64 k,.string t,.int .i64 b,.string sc,.string ho,.bool wd,.int .i64 po,.string pa] 41)) (.cells (C12 aS bW bF bG bn bA bL a1 n1 c1 bB bK bX bY) 26);simpa using this
 have c6:=rowAt sU 6 (.int .i64 po) rfl;have HW:=Ih hW;clear hR hW;by_cases p2:po= -2
 ·have DA:(po== -2)=true:=by rw[p2];rfl
  have HV:Hid (R=true):=by show _=_;rw[Iv,if_pos p2]
  clear Iv p2 hv e1 e5;go_enter Tryz.func71,Tryz.ntmps71
  go_wp2_with fail
  rw[<-HW.out];go_ret;exact⟨by rw[HV.out];rfl,bg⟩
 ·have DA:(po== -2)=false:=beq_eq_false_iff_ne.2 p2;rw[if_neg p2]at Iv;by_cases p1:po= -1
  ·have DL:(po== -1)=true:=by rw[p1];rfl
   rw[if_pos p1]at Iv;have c5:=rowAt ko 5 (.int .i64 bA) rfl;have c0:=rowAt ko 0 (.string aS) rfl;by_cases hp:bA<0
   ·have hd:decide (bA<0)=true:=decide_eq_true hp;have HV:Hid (R=true):=by show _=_;rw[Iv,hd];rfl
    clear Iv p2 p1 hv e1 e5 hp;go_enter Tryz.func71,Tryz.ntmps71
    go_wp2_with fail
    rw[<-HW.out]
    go_quiet (fail)
    go_wp2_with fail
    go_ret;exact⟨by rw[HV.out];rfl,below_drewN bg _⟩
   ·have hd:decide (bA<0)=false:=decide_eq_false hp;obtain⟨d,kR⟩:∃d,d=Lz.dr aS.data.toList:=⟨_,rfl⟩;have HV:Hid (R=(bA==d)):=by show _=_;rw[Iv,hd,kR];rfl
    have cD:Hid (∀W,Calls Tryz.prog 68 #[.string aS] W fun e w'=>e=.returned (.int .i64 d)/\w'=W):=Ih (fun W=>(eN aS W).mono fun e w' ⟨h1,h2⟩=>⟨by rw[h1,kR],h2.symm⟩);clear Iv p2 p1 hv e1 e5 hp kR;go_enter Tryz.func71,Tryz.ntmps71
    go_wp2_with fail
    rw[<-HW.out]
    go_quiet ((go_at_call 68;exact Calls.quiet_of_same (cD.out _)))
    go_wp2_with fail
    go_ret;exact⟨by rw[HV.out];rfl,below_drewN bg _⟩
  ·have DL:(po== -1)=false:=beq_eq_false_iff_ne.2 p1;rw[if_neg p1]at Iv;obtain⟨f,hf⟩:∃f,f=Lz.kv u:=⟨_,rfl⟩;have HV:Hid (R=(po==f)):=by show _=_;rw[Iv,hf]
   have cE:Hid (∀V,Below W.heap.size W V->Calls Tryz.prog 67 #[.agg (C12 aS bW bF bG bn bA bL a1 n1 c1 bB bK bX bY)] V fun e w'=>e=.returned (.int .i64 f)/\Below W.heap.size W w'):=Ih (fun V hV=>(kd _ u V (hv.below (bg.trans (hV.mono bg.size)))).mono fun e w' ⟨h1,h2⟩=>⟨by rw[h1,hf],hV.trans (h2.mono hV.size)⟩);have hC:Hid (∀V,Below W.heap.size W V->V.cell? ⟨w.heap.size,6,none⟩=some (.int .i64 po)/\(V.cell? ⟨w.heap.size+1,0,none⟩=some (.string aS)/\V.cell? ⟨w.heap.size+1,1,none⟩=some (.string bW)/\V.cell? ⟨w.heap.size+1,2,none⟩=some (.string bF)/\V.cell? ⟨w.heap.size+1,3,none⟩=some (.bool bG)/\V.cell? ⟨w.heap.size+1,4,none⟩=some (.string bn)/\V.cell? ⟨w.heap.size+1,5,none⟩=some (.int .i64 bA)/\V.cell? ⟨w.heap.size+1,6,none⟩=some (.bool bL)/\V.cell? ⟨w.heap.size+1,7,none⟩=some (.slice a1 n1 c1)/\V.cell? ⟨w.heap.size+1,8,none⟩=some (.bool bB)/\V.cell? ⟨w.heap.size+1,9,none⟩=some (.bool bK)/\V.cell? ⟨w.heap.size+1,10,none⟩=some (.string bX)/\V.cell? ⟨w.heap.size+1,11,none⟩=some (.string bY))):=Ih (fun V hV=>⟨by rw[hV.cell (p:=⟨w.heap.size,6,none⟩) (aI sU)];exact c6,fO ((hV.block _ (aI ko)).trans ko)⟩)
   have qI:Below W.heap.size W W:=Below.refl _ _;have fG:Below W.heap.size W W.drew:=(Below.refl _ _).drew;clear Iv p2 p1 hv e1 e5 hf ko sU;go_enter Tryz.func71,Tryz.ntmps71
   go_wp2_with fail
   rw[<-HW.out]
   go_region_held3 (fun V=>(V.cell? ⟨w.heap.size,6,none⟩=some (.int .i64 po)/\(V.cell? ⟨w.heap.size+1,0,none⟩=some (.string aS)/\V.cell? ⟨w.heap.size+1,1,none⟩=some (.string bW)/\V.cell? ⟨w.heap.size+1,2,none⟩=some (.string bF)/\V.cell? ⟨w.heap.size+1,3,none⟩=some (.bool bG)/\V.cell? ⟨w.heap.size+1,4,none⟩=some (.string bn)/\V.cell? ⟨w.heap.size+1,5,none⟩=some (.int .i64 bA)/\V.cell? ⟨w.heap.size+1,6,none⟩=some (.bool bL)/\V.cell? ⟨w.heap.size+1,7,none⟩=some (.slice a1 n1 c1)/\V.cell? ⟨w.heap.size+1,8,none⟩=some (.bool bB)/\V.cell? ⟨w.heap.size+1,9,none⟩=some (.bool bK)/\V.cell? ⟨w.heap.size+1,10,none⟩=some (.string bX)/\V.cell? ⟨w.heap.size+1,11,none⟩=some (.string bY)))/\Below W.heap.size W V) (first |exact⟨hC.out _ (by assumption),by assumption⟩) (first |(go_at_call 67;refine(cE.out _ (by assumption)).mono ?_;rintro e w5 ⟨rfl,l4⟩))
   go_wp2_with fail
   go_ret;exact⟨by rw[HV.out];rfl,bg.trans (l4.mono bg.size)⟩
attribute [local go_sem ↓] Go.wp_at_zero Go.wp_at_succ
theorem Rs:kc 2 .none:=by
 (intro X x buf a p n i e c nx sp sl ov f w hX hU hO hI d5 hR;subst d5;have ff:=hI.1;have dV:=hX.size;rw[aa]at ff;have wm:IntKind.i64.wrap ((i:Int)-1)=(i:Int)-1:=IntWalk.i64_in _ (by omega);have wp:IntKind.i64.wrap ((i:Int)+1)=(i:Int)+1:=IntWalk.i64_in _ (by omega);have HI:=Ih hI;have HR:=Ih hR;clear hI hR;unfold FR;conv=>(arg 2;whnf))
 clear hO;have lM:=Ih hU.non;have lN:=Ih hU.res;have HG:Hid (X.goal=.er 82):=Ih (Lz.JS HI.out)
 go_wp2_with (first |(refine wpList_load_row rfl 26 (.tmp 7) rfl X.N rfl 26 bC (0,0) _ lM.out Tryz.underlying26 rfl bd ?_)|(refine wpList_store_row rfl 26 (.tmp 4) (.tmp 169) rfl X.B bC rfl rfl 26 bC lN.out bd rfl (by simp[Value.oneCell']) ?_))
 exact⟨82,_,_,_,_,_,HG.out,rfl,rfl,az hU.below (Nat.le_refl _),setRow_heap _ _ _ _ _ _ lN.out⟩
attribute [local go_sem ↓] Go.wp_at_zero Go.wp_at_succ
theorem Nb {b:ByteArray} (h:b.data.toList=Lz.fileS):b=⟨#[102,105,108,101]⟩:=by
 cases b;simp only at h;congr 1;exact Array.toList_inj.1 h
theorem Rt:kc 12 .file:=by
 (intro X x buf a p n i e c nx sp sl ov f w hX hU hO hI d5 hR;subst d5;have ff:=hI.1;have dV:=hX.size;rw[aa]at ff;have wm:IntKind.i64.wrap ((i:Int)-1)=(i:Int)-1:=IntWalk.i64_in _ (by omega);have wp:IntKind.i64.wrap ((i:Int)+1)=(i:Int)+1:=IntWalk.i64_in _ (by omega);have HI:=Ih hI;have HR:=Ih hR;clear hI hR;unfold FR;conv=>(arg 2;whnf))
 clear hO;have Wy:x.sch=⟨#[102,105,108,101]⟩:=Nb HI.out.2.2.2.1;have k0:=hU.cell 0 (.string x.sch) rfl;have z0:=hU.fz 0;have k3:=hU.cell 3 (.bool x.hh) rfl;have z3:=hU.fz 3;have U3:=(hU.setF hX 0 (.string ⟨#[102,105,108,101]⟩) {x with sch:=⟨#[102,105,108,101]⟩} rfl rfl rfl).setF hX 3 (.bool true) {x with hh:=true} (by show _=MkV.cells {x with hh:=true};rw[<-Wy];rfl) rfl rfl;have HSC:=Ih Wy;clear Wy;by_cases lK:c=47
 ·have SA:((c.toNat:Int)==47)=true:=ij lK;have HN:Hid (Lz.aB none X.s.data.toList X.goal .file i .fileS ⟨buf.data.toList,a,p,n,MkV.url {x with hh:=true}⟩ (i:Int)):=Ih (Lz.pA HI.out HR.out (by rw[lK];rfl));have U3:=Ih U3;clear lK
  go_wp2_with fail
  exact⟨.fileS,_,_,_,_,_,{x with hh:=true},_,_,_,_,_,_,_,rfl,rfl,U3.out,aM (by nofun),(by nofun),HN.out⟩
 ·have SA:((c.toNat:Int)==47)=false:=gi lK;by_cases DF:c=92
  ·have b92:((c.toNat:Int)==92)=true:=ij DF;have HN:Hid (Lz.aB none X.s.data.toList X.goal .file i .fileS ⟨buf.data.toList,a,p,n,MkV.url {x with hh:=true}⟩ (i:Int)):=Ih (Lz.pA HI.out HR.out (by rw[DF];rfl));have U3:=Ih U3;clear lK DF
   go_wp2_with fail
   exact⟨.fileS,_,_,_,_,_,{x with hh:=true},_,_,_,_,_,_,_,rfl,rfl,U3.out,aM (by nofun),(by nofun),HN.out⟩
  ·have b92:((c.toNat:Int)==92)=false:=gi DF;have HC:Hid (Lz.aG true c=false):=Ih (by unfold Lz.aG;rw[beq_eq_false_iff_ne.2 lK,beq_eq_false_iff_ne.2 DF];rfl);clear lK DF;have HN:Hid (Lz.aB none X.s.data.toList X.goal .file i .path ⟨buf.data.toList,a,p,n,MkV.url {x with hh:=true}⟩ ((i:Int)-1)):=Ih (Lz.IE HI.out HR.out HC.out rfl);have U3:=Ih U3
   go_wp2_with fail
   exact⟨.path,_,_,_,_,_,{x with hh:=true},_,_,_,_,_,_,_,rfl,rfl,U3.out,aM (by nofun),(by nofun),HN.out⟩
theorem MV:kc 13 .fileS:=by
 (intro X x buf a p n i e c nx sp sl ov f w hX hU hO hI d5 hR;subst d5;have ff:=hI.1;have dV:=hX.size;rw[aa]at ff;have wm:IntKind.i64.wrap ((i:Int)-1)=(i:Int)-1:=IntWalk.i64_in _ (by omega);have wp:IntKind.i64.wrap ((i:Int)+1)=(i:Int)+1:=IntWalk.i64_in _ (by omega);have HI:=Ih hI;have HR:=Ih hR;clear hI hR;unfold FR;conv=>(arg 2;whnf))
 clear hO;cases sl with
 | true=>
   go_wp2_with fail
   exact⟨.fileH,_,_,_,_,_,x,_,_,_,_,_,_,_,rfl,rfl,hU,aM (by nofun),(by nofun),Lz.Ff HI.out HR.out rfl⟩
 | false=>
   have HN:Hid (Lz.aB none X.s.data.toList X.goal .fileS i .path ⟨buf.data.toList,a,p,n,x.url⟩ ((i:Int)-1)):=Ih (Lz.JI HI.out HR.out rfl)
   go_wp2_with fail
   exact⟨.path,_,_,_,_,_,x,_,_,_,_,_,_,_,rfl,rfl,hU,aM (by nofun),(by nofun),HN.out⟩
end Go.Proofs.YtlcbhacofagedaaGreatDoor
