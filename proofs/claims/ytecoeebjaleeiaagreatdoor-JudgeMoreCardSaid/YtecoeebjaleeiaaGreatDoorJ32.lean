/-
  Package match: self.
-/
import Derived.Test.YtecoeebjaleeiaaGreatDoorJ29
import Derived.Test.YtecoeebjaleeiaaGreatDoorJ16
set_option maxHeartbeats 8000000
set_option maxRecDepth 100000
namespace Go.Proofs.YtecoeebjaleeiaaGreatDoor
open Go.RowKit
theorem TkI {P : Program} {md : Region.Mode} {ops : Array Oper} {Q : Exit → Act → World → Prop} {S : World → Prop} {fuel : Nat} {listed : Array Bool} {a : Act} {w : World} {oi : Oper} {v : Value} (i d : Nat) (h : wpAnyH P md ops Q S fuel (listed.setIfInBounds i true) (a.put (some d) v) w) (hi : ops[i]? = some oi := by rfl) (hd : oi.dst = some d := by rfl) (hy : ∀ w, S w → (execOp a.eval oi).run P w = .ok (.value v) w := by (intro W hSw; (try dsimp only at hSw); (try simp only [Act.put]); (try simp only [List.setIfInBounds_toArray]); (try simp only [List.set_cons_zero, List.set_cons_succ]); go_simp; try with_reducible rfl)) (hs : Region.noSelect ops = true := by kernel_rfl) (hf : Region.free md ops listed i = true := by kernel_rfl) (hr : (Region.ready md ops listed).contains i = true := by kernel_rfl) (hQ : ∀ c a w, Q (.panic c) (a.put oi.dst v) w → Q (.panic c) a w := by exact fun _ _ _ h => h) (hw : Region.wanted oi (yielded ops a.tmps) = true := by rfl) (hS : S w := by assumption) : wpAnyH P md ops Q S (fuel + 1) listed a w :=
  TkD i (some d) hi hd hy h hs hf hr hQ hw hS
theorem Lf {u:Lz.ag} (hN:Lz.NU u) (hw:Lz.wq u<=100000):Gn u:=by
 have h1:u.host.length<=Lz.wq u:=by unfold Lz.wq Lz.wt;omega
 have h2:=Lz.Bb u;have h3:=Lz.J6 (u:=u) hN.port;have hp:=hN.port;refine⟨by omega,by omega,?_,?_,by omega⟩
 ·rcases hp with h|⟨n,h,_⟩<;>omega
 ·rcases hp with h|⟨n,h,hn,_⟩<;>omega
theorem AY {s:List UInt8} {b:Option Lz.ag} {u:Lz.ag} (e:Lz.dg s b=.ok u) (hb:∀x,b=some x->∃t,Lz.dg t none=.ok x):Gn u:=
 Lf (Lz.qA e) (by have:=Lz.Dz e hb;omega)
structure Bo (u:Lz.ag):Prop where
 scheme:u.scheme.length<=1000000000
 host:u.host.length<=1000000000
 p0: -9223372036854775808<=u.port
 p1:u.port<=9223372036854775807
theorem BK {s:List UInt8} {b:Option Lz.ag} {u:Lz.ag} (e:Lz.dg s b=.ok u) (hb:∀x,b=some x->∃t,Lz.dg t none=.ok x):Bo u:=by
 have h:=AY e hb;have h2:=Lz.Dz e hb;refine⟨?_,h.host,h.p0,h.p1⟩;have h1:u.scheme.length<=Lz.wq u:=by unfold Lz.wq Lz.wt;omega
 omega
structure PO (r:Nat) (C:Array Value) (u:Lz.ag) (W0 V:World):Prop where
 row:V.heap[r]? =some (.cells C 32 (0,0))
 below:Below W0.heap.size W0 V
 env:ot V
 val:aX V (.agg C) u
theorem PO.call {r:Nat} {C:Array Value} {u:Lz.ag} {W0 V V':World} (h:PO r C u W0 V) (hb:Below V.heap.size V V'):PO r C u W0 V':=
 ⟨(hb.block _ (af h.row)).trans h.row,ac h.below hb,h.env.below hb,h.val.below hb⟩
theorem PO.drew {r:Nat} {C:Array Value} {u:Lz.ag} {W0 V:World} (h:PO r C u W0 V):PO r C u W0 V.drew:=h.call (Below.refl _ _).drew
theorem xm (v:Value) (u:Lz.ag) (w:World) (hv:aX w v u) (hE:ot w) (hO:Bo u) (hd:Lz.gI u.scheme≠ -1):Calls Tryz.prog 188 #[v] w (gJ (u.scheme++[58,47,47]++Lz.atU u) w):=by
 obtain⟨goal,hg⟩:∃goal,goal=u.scheme++[58,47,47]++Lz.atU u:=⟨_,rfl⟩;rw[<-hg];have HG:=Ih hg;obtain⟨sch,usr,pas,hh,hst,prt,opq,a,c,xs,hq,hf,qry,frg,rfl,hu,hx⟩:=hv.form;obtain⟨C,hC⟩:∃C:Array Value,C= #[.string sch,.string usr,.string pas,.bool hh,.string hst,.int .i64 prt,.bool opq,.slice a xs.length c,.bool hq,.bool hf,.string qry,.string frg]:=⟨_,rfl⟩;have hss:u.scheme=sch.data.toList:=by rw[hu]
 have aU:sch.size<=1000000000:=by rw[<-aa,<-hss];exact hO.scheme
 obtain⟨W,hW⟩:∃W,W=w.alloc (.cells #[.string sch,.string usr,.string pas,.bool hh,.string hst,.int .i64 prt,.bool opq,.slice a xs.length c,.bool hq,.bool hf,.string qry,.string frg] 32):=⟨_,rfl⟩;have aS:Below w.heap.size w W:=by rw[hW];exact(Below.refl _ w).alloc (Nat.le_refl _) _
 have hR:W.heap[w.heap.size]? =some (.cells #[.string sch,.string usr,.string pas,.bool hh,.string hst,.int .i64 prt,.bool opq,.slice a xs.length c,.bool hq,.bool hf,.string qry,.string frg] 32 (0,0)):=by rw[hW];exact ah _ _
 have hP:PO w.heap.size #[.string sch,.string usr,.string pas,.bool hh,.string hst,.int .i64 prt,.bool opq,.slice a xs.length c,.bool hq,.bool hf,.string qry,.string frg] u w W:=⟨hR,aS,hE.below aS,hv.below aS⟩;have Tq:=hP.drew
 have cA:Hid (∀V,PO w.heap.size #[.string sch,.string usr,.string pas,.bool hh,.string hst,.int .i64 prt,.bool opq,.slice a xs.length c,.bool hq,.bool hf,.string qry,.string frg] u w V->Calls Tryz.prog 29 #[.agg #[.string sch,.string usr,.string pas,.bool hh,.string hst,.int .i64 prt,.bool opq,.slice a xs.length c,.bool hq,.bool hf,.string qry,.string frg]] V fun e w'=>∃t:ByteArray,e=.returned (.string t)/\Hid (t.data.toList=Lz.atU u)/\t.size<=1000000100/\PO w.heap.size #[.string sch,.string usr,.string pas,.bool hh,.string hst,.int .i64 prt,.bool opq,.slice a xs.length c,.bool hq,.bool hf,.string qry,.string frg] u w w'):=Ih (by
  intro V hV;refine(Nq _ u V hV.val hV.env.h hO.p0 hO.p1 hO.host).mono ?_;rintro e w' ⟨t,he,ht,Pt⟩;refine⟨t,he,ht,?_,hV.call Pt⟩;rw[<-aa,ht.out];unfold Lz.atU;split
  ·have:=hO.host;omega
  ·have h1:=Ay hO.p0 hO.p1;have h2:=hO.host;simp only[List.length_append,List.length_singleton];omega)
 have c0:=rowAt hR 0 (.string sch) rfl;obtain⟨d,vm⟩:∃d,d=Lz.gI sch.data.toList:=⟨_,rfl⟩;have Qd:(d== -1)=false:=by rw[vm,<-hss];exact beq_eq_false_iff_ne.2 hd
 have abA:(d != -1)=true:=by rw[bne,Qd];rfl
 have cD:Hid (Calls Tryz.prog 133 #[.string sch] W fun e w'=>e=.returned (.int .i64 d)/\W=w'):=Ih (by rw[vm];exact fu sch W);have n1:¬(9223372036854775807<sch.size+3):=by omega
 have oX:Hid (goal=sch.data.toList++[58,47,47]++Lz.atU u):=Ih (by rw[HG.out,hss]);have HW:=Ih hW;have HP:=Ih hP;clear hC hW hR hv hx hg hE hu hss hO hd vm HG hP;go_enter Tryz.func188,Tryz.ntmps188
 go_wp2_with (rw[<-HW.out])
 refine cD.out.mono ?_;rintro e w1 ⟨rfl,rfl⟩
 go_upto_region 2 with fail
 go_cut [2] (fun s wx=>∃t:ByteArray,s=.string t/\Hid (t.data.toList=goal)/\Below w.heap.size w wx)
 case first=>
  have hPw:=HP.out
  go_region_held3 (fun V=>(V.cell? ⟨w.heap.size,0,none⟩=some (.string sch)/\V.cell? ⟨w.heap.size,1,none⟩=some (.string usr)/\V.cell? ⟨w.heap.size,2,none⟩=some (.string pas)/\V.cell? ⟨w.heap.size,3,none⟩=some (.bool hh)/\V.cell? ⟨w.heap.size,4,none⟩=some (.string hst)/\V.cell? ⟨w.heap.size,5,none⟩=some (.int .i64 prt)/\V.cell? ⟨w.heap.size,6,none⟩=some (.bool opq)/\V.cell? ⟨w.heap.size,7,none⟩=some (.slice a xs.length c)/\V.cell? ⟨w.heap.size,8,none⟩=some (.bool hq)/\V.cell? ⟨w.heap.size,9,none⟩=some (.bool hf)/\V.cell? ⟨w.heap.size,10,none⟩=some (.string qry)/\V.cell? ⟨w.heap.size,11,none⟩=some (.string frg))/\PO w.heap.size #[.string sch,.string usr,.string pas,.bool hh,.string hst,.int .i64 prt,.bool opq,.slice a xs.length c,.bool hq,.bool hf,.string qry,.string frg] u w V) (first |exact⟨dW (PO.row (by assumption)),by assumption⟩) (first |(go_at_call 29;refine(cA.out _ (by assumption)).mono ?_;rintro e w4 ⟨t,rfl,ht,hts,WM⟩;have n2:¬(9223372036854775807<sch.size+3+t.size):=(by omega)))
  go_wp2_with fail
  go_meet;exact⟨_,rfl,by show _=_;rw[oX.out,be,be,ht.out],WM.below⟩
 case rest=>
  obtain⟨t,rfl,ht,hb⟩:=hcut
  go_wp2_with fail
  go_ret;exact⟨t,rfl,ht,hb⟩
theorem ra.cases {r:Lz.UR} {w:World} {v:Value} {n:Int} (h:ra r w v n):∃u,ff w v u/\((r=.ok u/\n=0)\/∃k:Nat,r=.er k/\u=tV/\n=(k:Int)):=by
 cases r with
 | ok u=>exact⟨u,h.2,Or.inl ⟨rfl,h.1⟩⟩
 | er k=>exact⟨tV,h.2,Or.inr ⟨k,rfl,rfl,h.1⟩⟩
def nI:List UInt8:=[110,117,108,108]
theorem A9 {u:Lz.ag} (hd:Lz.gI u.scheme= -1) (h:¬(u.scheme=Lz.I2/\u.opq=true/\u.path≠[])):Lz.eF u=nI:=by
 unfold Lz.eF;rw[if_neg (by simp[hd]),if_neg h];rfl
theorem M0 {s:List UInt8} (h:s=Lz.nK\/s=Lz.lQ):Lz.gI s≠ -1:=by rcases h with rfl|rfl<;>decide
def IP:Lz.UR->List UInt8
 | .ok x=>if x.scheme=Lz.nK\/x.scheme=Lz.lQ then x.scheme++[58,47,47]++Lz.atU x else nI
 | .er _=>nI
theorem Bc {u:Lz.ag} (hd:Lz.gI u.scheme= -1) (h:u.scheme=Lz.I2/\u.opq=true/\u.path≠[]):Lz.eF u=IP (Lz.dg (u.path.headD []) none):=by
 unfold Lz.eF;rw[if_neg (by simp[hd]),if_pos h];cases Lz.dg (u.path.headD []) none<;>rfl
theorem vP (v:Value) (u:Lz.ag) (w:World) (hv:aX w v u) (hE:ot w) (hO:Bo u):Calls Tryz.prog 188 #[v] w (gJ (Lz.eF u) w):=by
 by_cases hd:Lz.gI u.scheme= -1
 case neg=>
  rw[show Lz.eF u=u.scheme++[58,47,47]++Lz.atU u by unfold Lz.eF;rw[if_pos hd]];exact xm v u w hv hE hO hd
 obtain⟨goal,hg⟩:∃goal,goal=Lz.eF u:=⟨_,rfl⟩;rw[<-hg];have ym:=fun h=>hg.trans (A9 hd h);have xY:=fun h=>hg.trans (Bc hd h);obtain⟨sch,usr,pas,hh,hst,prt,opq,a,c,xs,hq,hf,qry,frg,rfl,rfl,hx⟩:=hv.form;obtain⟨W,hW⟩:∃W,W=w.alloc (.cells #[.string sch,.string usr,.string pas,.bool hh,.string hst,.int .i64 prt,.bool opq,.slice a xs.length c,.bool hq,.bool hf,.string qry,.string frg] 32):=⟨_,rfl⟩;have aS:Below w.heap.size w W:=by rw[hW];exact(Below.refl _ w).alloc (Nat.le_refl _) _
 have hR:W.heap[w.heap.size]? =some (.cells #[.string sch,.string usr,.string pas,.bool hh,.string hst,.int .i64 prt,.bool opq,.slice a xs.length c,.bool hq,.bool hf,.string qry,.string frg] 32 (0,0)):=by rw[hW];exact ah _ _
 have c0:=rowAt hR 0 (.string sch) rfl;have c6:=rowAt hR 6 (.bool opq) rfl;have c7:=rowAt hR 7 (.slice a xs.length c) rfl;obtain⟨d,vm⟩:∃d,d=Lz.gI sch.data.toList:=⟨_,rfl⟩;have Qd:(d== -1)=true:=by rw[vm];simpa using hd
 have abA:(d != -1)=false:=by rw[bne,Qd];rfl
 have cD:Hid (Calls Tryz.prog 133 #[.string sch] W fun e w'=>e=.returned (.int .i64 d)/\W=w'):=Ih (by rw[vm];exact fu sch W);have HW:=Ih hW;by_cases hs:sch.data.toList=Lz.I2
 case neg=>
  have e0:=bN (k:=[98,108,111,98]) hs;have HG:Hid (goal=nI):=Ih (ym (fun h=>hs h.1));clear hW hR hv hx hg hE hO hd vm ym xY hs;go_enter Tryz.func188,Tryz.ntmps188
  go_wp2_with (rw[<-HW.out])
  refine cD.out.mono ?_;rintro e w1 ⟨rfl,rfl⟩
  go_wp2_with fail
  go_ret;exact⟨_,rfl,Ih HG.out.symm,aS⟩
 have e0:=bg (k:=[98,108,111,98]) hs;cases opq with
 | false=>
   have HG:Hid (goal=nI):=Ih (ym (fun h=>by cases h.2.1));clear hW hR hv hx hg hE hO hd vm ym xY hs;go_enter Tryz.func188,Tryz.ntmps188
   go_wp2_with (rw[<-HW.out])
   refine cD.out.mono ?_;rintro e w1 ⟨rfl,rfl⟩
   go_wp2_with fail
   go_ret;exact⟨_,rfl,Ih HG.out.symm,aS⟩
 | true=>
   cases xs with
   | nil=>
     have HG:Hid (goal=nI):=Ih (ym (fun h=>h.2.2 rfl));simp only[List.length_nil]at c7 HW;clear hW hR hv hx hg hE hO hd vm ym xY hs;go_enter Tryz.func188,Tryz.ntmps188
     go_wp2_with (rw[<-HW.out])
     refine cD.out.mono ?_;rintro e w1 ⟨rfl,rfl⟩
     go_wp2_with fail
     go_ret;exact⟨_,rfl,Ih HG.out.symm,aS⟩
   | cons x0 xr=>
     have xY:=xY ⟨hs,rfl,by simp⟩;obtain⟨G,o,ha,hG,qP⟩:=hx 0 x0 rfl;subst ha;have iD:W.cell? ⟨G,o+0,none⟩=some (.string x0):=by rw[aS.cell (p:=⟨G,o+0,none⟩) hG];exact qP
     have su:W.cell? ⟨G,o,none⟩=some (.string x0):=iD;obtain⟨n,hn⟩:∃n,n=xr.length+1:=⟨_,rfl⟩;simp only[List.length_cons]at c7 HW;rw[<-hn]at c7 HW;have ba:(0:Int)<(n:Int):=by omega
     have yd:0<n:=by omega
     obtain⟨R,hRR⟩:∃R,R=Lz.dg x0.data.toList none:=⟨_,rfl⟩;have HB:Hid (goal=IP R):=Ih (by rw[hRR];exact xY);have Yz:=Ih hRR;have cP:Hid (Calls Tryz.prog 8 #[.string x0,.pointer none] W (IH R W)):=Ih (by rw[hRR];exact wJ none (.pointer none) x0 W (hE.below aS) rfl (fun y h=>by cases h));have HE:=Ih (hE.below aS);have acW:(n==0)=false:=by simp;omega
     have HN:=Ih hn;clear hW hR hv hx hg hE hO hd vm ym xY hs qP hn hRR;go_enter Tryz.func188,Tryz.ntmps188
     go_wp2_with (rw[<-HN.out,<-HW.out])
     refine cD.out.mono ?_;rintro e w1 ⟨rfl,rfl⟩
     go_wp2_with fail
     refine cP.out.mono ?_;rintro e w2 ⟨v2,k,rfl,az,bA⟩;obtain⟨x,WD,hk⟩:=bA.cases;have bI:=aS.trans (az.mono aS.size);obtain⟨bo,cw,ck,cv,aU,cf,cq,a1,n1,c1,bO,bU,cz,de,rfl⟩:=WD.form;have So:=(HE.out.below az).below ((Below.refl w2.heap.size w2).alloc (Nat.le_refl _) (.cells #[.string bo,.string cw,.string ck,.bool cv,.string aU,.int .i64 cf,.bool cq,.slice a1 n1 c1,.bool bO,.bool bU,.string cz,.string de] 32));have eE:=bI.alloc bI.size (.cells #[.string bo,.string cw,.string ck,.bool cv,.string aU,.int .i64 cf,.bool cq,.slice a1 n1 c1,.bool bO,.bool bU,.string cz,.string de] 32);have WK:(w2.alloc (.cells #[.string bo,.string cw,.string ck,.bool cv,.string aU,.int .i64 cf,.bool cq,.slice a1 n1 c1,.bool bO,.bool bU,.string cz,.string de] 32)).heap[w2.heap.size]? =some (.cells #[.string bo,.string cw,.string ck,.bool cv,.string aU,.int .i64 cf,.bool cq,.slice a1 n1 c1,.bool bO,.bool bU,.string cz,.string de] 32 (0,0)):=ah _ _
     have Yn:=WD.below ((Below.refl w2.heap.size w2).alloc (Nat.le_refl _) (.cells #[.string bo,.string cw,.string ck,.bool cv,.string aU,.int .i64 cf,.bool cq,.slice a1 n1 c1,.bool bO,.bool bU,.string cz,.string de] 32));clear bA WD HE cP cD az
     go_upto_region 5 with fail
     generalize w2.alloc (.cells #[.string bo,.string cw,.string ck,.bool cv,.string aU,.int .i64 cf,.bool cq,.slice a1 n1 c1,.bool bO,.bool bU,.string cz,.string de] 32)=V at So eE WK Yn⊢;generalize w2.heap.size=r2 at WK⊢;have k0:=rowAt WK 0 (.string bo) rfl;rcases hk with⟨hR,yx⟩|⟨m,hR,_,yx⟩
     case inr=>
      have hm:=Lz.zB (Yz.out.symm.trans hR);have HG:Hid (goal=nI):=Ih (by rw[HB.out,hR];rfl);have Ig:(k==0)=false:=by rw[yx];simp;omega
      clear hR yx hm HB Yz
      go_wp2_with fail
      go_ret;exact⟨_,rfl,Ih HG.out.symm,eE⟩
     case inl=>
      have Ig:(k==0)=true:=by rw[yx];rfl
      have gW:x.scheme=bo.data.toList:=by
       obtain⟨_,_,_,_,_,_,_,_,_,_,_,_,_,_,h1,h2,_⟩:=Yn.val.form;rw[h2];simp only[Value.agg.injEq,Array.mk.injEq,List.cons.injEq,Value.string.injEq]at h1;rw[h1.1]
      have hOx:=BK (Yz.out.symm.trans hR) (fun y h=>by cases h);by_cases h1:bo.data.toList=Lz.nK\/bo.data.toList=Lz.lQ
      ·have HG:Hid (goal=x.scheme++[58,47,47]++Lz.atU x):=Ih (by rw[HB.out,hR,IP,if_pos (by rw[gW];exact h1)]);have cO:=Ih (xm _ x V Yn.val So hOx (by rw[gW];exact M0 h1));rw[<-HG.out]at cO;have HRV:=Ih WK;by_cases h2:bo.data.toList=Lz.nK
       ·have q1:=bg (k:=[104,116,116,112]) h2;clear h1 h2 gW hOx hR yx HB Yz HG Yn So WK
        go_wp2_with (first |(refine wpList_load_row rfl 32 (.tmp 3) rfl r2 rfl 32 _ (0,0) _ HRV.out Tryz.underlying32 rfl bY ?_))
        refine cO.out.mono ?_;rintro e w5 ⟨t,rfl,ht,aI⟩
        go_wp2_with fail
        go_ret;exact⟨_,rfl,ht,ac eE aI⟩
       ·have q1:=bN (k:=[104,116,116,112]) h2;have q2:=bg (k:=[104,116,116,112,115]) (h1.resolve_left h2);clear h1 h2 gW hOx hR yx HB Yz HG Yn So WK
        go_wp2_with (first |(refine wpList_load_row rfl 32 (.tmp 3) rfl r2 rfl 32 _ (0,0) _ HRV.out Tryz.underlying32 rfl bY ?_))
        refine cO.out.mono ?_;rintro e w5 ⟨t,rfl,ht,aI⟩
        go_wp2_with fail
        go_ret;exact⟨_,rfl,ht,ac eE aI⟩
      ·have HG:Hid (goal=nI):=Ih (by rw[HB.out,hR,IP,if_neg (by rw[gW];exact h1)]);have q1:=bN (k:=[104,116,116,112]) (fun h=>h1 (Or.inl h));have q2:=bN (k:=[104,116,116,112,115]) (fun h=>h1 (Or.inr h));clear h1 gW hOx hR yx HB Yz Yn So WK
       go_wp2_with fail
       go_ret;exact⟨_,rfl,Ih HG.out.symm,eE⟩
attribute [local go_sem ↓] Go.wp_at_zero Go.wp_at_succ
theorem UOk.orig {u:Lz.ag} (h:UOk u):Bo u:=by
 have h1:=h.wq;unfold Lz.wq Lz.wt at h1;have hp:=h.nu.port;refine⟨by omega,by omega,?_,?_⟩
 ·rcases hp with h|⟨n,h,_⟩<;>omega
 ·rcases hp with h|⟨n,h,hn,_⟩<;>omega
theorem KP (v:Value) (u:Lz.ag) (v2:Value) (own:Lz.ag) (w:World) (hE:ot w) (hv:aX w v u) (hU:UOk u) (je:aX w v2 own) (hO:UOk own):Calls Tryz.prog 152 #[v,v2] w (aC (Lz.As u own) w):=by
 obtain⟨bo,cw,ck,cv,aU,cf,cq,a1,n1,c1,bO,bU,cz,de,rfl,e0,e3,e4,e5,_,hv⟩:=hv.letters;obtain⟨gG,jQ,jm,eA,dN,jw,jP,a2,n2,c2,bQ,ee,jN,jF,rfl,f0,f3,f4,f5,_,je⟩:=je.letters;obtain⟨R,hR⟩:∃R,R=Lz.As u own:=⟨_,rfl⟩;rw[<-hR];obtain⟨q,hq⟩:∃q,q=(Lz.eF own != Lz.nI&&Lz.eF own==Lz.eF u):=⟨_,rfl⟩;obtain⟨al,jd⟩:∃al,al=Lz.H7 u own:=⟨_,rfl⟩;obtain⟨sf,XZ⟩:∃sf,sf=Lz.F8 u own:=⟨_,rfl⟩;obtain⟨d1,Jz⟩:∃d,d=Lz.gI bo.data.toList:=⟨_,rfl⟩;obtain⟨d2,PJ⟩:∃d,d=Lz.gI gG.data.toList:=⟨_,rfl⟩;obtain⟨g1,pF⟩:∃d,d=Lz.uS u:=⟨_,rfl⟩;obtain⟨g2,zl⟩:∃d,d=Lz.uS own:=⟨_,rfl⟩;obtain⟨b1,ar⟩:∃b,b=(bo.toList==[104,116,116,112,115]):=⟨_,rfl⟩;obtain⟨b2,az⟩:∃b,b=(bo.toList==[119,115,115]):=⟨_,rfl⟩;obtain⟨b3,aO⟩:∃b,b=(gG.toList==[104,116,116,112]):=⟨_,rfl⟩;obtain⟨b4,dy⟩:∃b,b=(bo.toList==[119,115]):=⟨_,rfl⟩;obtain⟨b5,aI⟩:∃b,b=(aU.toList==dN.toList):=⟨_,rfl⟩;have bl:∀(s:ByteArray) (k:List UInt8),(s.data.toList==k)=(s.toList==k):=fun s k=>by rw[Lib.toList_data]
 have HR:Hid (R=(q||(cv&&(eA&&(b5&&(al&&sf)))))):=by
  show _=_;rw[hR,hq,jd,XZ,aI];unfold Lz.As;rw[e3,f3,e4,f4,Lib.toList_data,Lib.toList_data]
 have HS:Hid (sf=(b1||(b2||(b3&&b4)))):=by
  show _=_;rw[XZ,ar,az,aO,dy];unfold Lz.F8;rw[e0,f0,bl,bl,bl,bl];rfl
 have HA:Hid (al=((cf==jw)||((g1==d1)&&(g2==d2)))):=by
  show _=_;rw[jd,pF,zl,Jz,PJ];unfold Lz.H7;rw[e5,f5,e0,f0]
 have HB:Hid ((bo.toList==[104,116,116,112,115])=b1/\(bo.toList==[119,115,115])=b2/\(gG.toList==[104,116,116,112])=b3/\(bo.toList==[119,115])=b4/\(aU.toList==dN.toList)=b5):=Ih ⟨ar.symm,az.symm,aO.symm,dy.symm,aI.symm⟩;obtain⟨W,hW⟩:∃W,W=(w.alloc (.cells #[.string bo,.string cw,.string ck,.bool cv,.string aU,.int .i64 cf,.bool cq,.slice a1 n1 c1,.bool bO,.bool bU,.string cz,.string de] 32)).alloc (.cells #[.string gG,.string jQ,.string jm,.bool eA,.string dN,.int .i64 jw,.bool jP,.slice a2 n2 c2,.bool bQ,.bool ee,.string jN,.string jF] 32):=⟨_,rfl⟩;have aS:Below w.heap.size w W:=by rw[hW];exact((Below.refl _ w).alloc (Nat.le_refl _) _).alloc (by simp) _
 have sj:W.heap[w.heap.size]? =some (.cells #[.string bo,.string cw,.string ck,.bool cv,.string aU,.int .i64 cf,.bool cq,.slice a1 n1 c1,.bool bO,.bool bU,.string cz,.string de] 32 (0,0)):=by
  rw[hW,Below.heap_alloc _ _ _ (by simp)];exact ah _ _
 have Cy:W.heap[w.heap.size+1]? =some (.cells #[.string gG,.string jQ,.string jm,.bool eA,.string dN,.int .i64 jw,.bool jP,.slice a2 n2 c2,.bool bQ,.bool ee,.string jN,.string jF] 32 (0,0)):=by rw[hW];exact dm _ _ _
 have HW:=Ih hW;have O9:=hv.below aS;have Ir:=je.below aS;have qj:=hE.below aS;have VM:Hid (∀V,Below W.heap.size W V->Calls Tryz.prog 188 #[.agg #[.string bo,.string cw,.string ck,.bool cv,.string aU,.int .i64 cf,.bool cq,.slice a1 n1 c1,.bool bO,.bool bU,.string cz,.string de]] V fun e w'=>∃tp:ByteArray,e=.returned (.string tp)/\Hid (tp.data.toList=Lz.eF u)/\Below W.heap.size W w'):=Ih (fun V hV=>(vP _ u V (O9.below hV) (qj.below hV) hU.orig).mono fun e w' ⟨tp,h1,h2,h3⟩=>⟨tp,h1,h2,hV.trans (h3.mono hV.size)⟩);have Wj:Hid (∀V,Below W.heap.size W V->Calls Tryz.prog 188 #[.agg #[.string gG,.string jQ,.string jm,.bool eA,.string dN,.int .i64 jw,.bool jP,.slice a2 n2 c2,.bool bQ,.bool ee,.string jN,.string jF]] V fun e w'=>∃tp:ByteArray,e=.returned (.string tp)/\Hid (tp.data.toList=Lz.eF own)/\Below W.heap.size W w'):=Ih (fun V hV=>(vP _ own V (Ir.below hV) (qj.below hV) hO.orig).mono fun e w' ⟨tp,h1,h2,h3⟩=>⟨tp,h1,h2,hV.trans (h3.mono hV.size)⟩)
 have LH:Hid (∀V,Below W.heap.size W V->Calls Tryz.prog 189 #[.agg #[.string bo,.string cw,.string ck,.bool cv,.string aU,.int .i64 cf,.bool cq,.slice a1 n1 c1,.bool bO,.bool bU,.string cz,.string de]] V fun e w'=>e=.returned (.int .i64 g1)/\Below W.heap.size W w'):=Ih (fun V hV=>(lM _ u V (O9.below hV)).mono fun e w' ⟨h1,h2⟩=>⟨by rw[h1,pF],hV.trans (h2.mono hV.size)⟩);have Wo:Hid (∀V,Below W.heap.size W V->Calls Tryz.prog 189 #[.agg #[.string gG,.string jQ,.string jm,.bool eA,.string dN,.int .i64 jw,.bool jP,.slice a2 n2 c2,.bool bQ,.bool ee,.string jN,.string jF]] V fun e w'=>e=.returned (.int .i64 g2)/\Below W.heap.size W w'):=Ih (fun V hV=>(lM _ own V (Ir.below hV)).mono fun e w' ⟨h1,h2⟩=>⟨by rw[h1,zl],hV.trans (h2.mono hV.size)⟩);have cD1:Hid (∀V,Below W.heap.size W V->Calls Tryz.prog 133 #[.string bo] V fun e w'=>e=.returned (.int .i64 d1)/\Below W.heap.size W w'):=Ih (fun V hV=>(fu bo V).mono fun e w' ⟨h1,h2⟩=>⟨by rw[h1,Jz],h2▸hV⟩)
 have cD2:Hid (∀V,Below W.heap.size W V->Calls Tryz.prog 133 #[.string gG] V fun e w'=>e=.returned (.int .i64 d2)/\Below W.heap.size W w'):=Ih (fun V hV=>(fu gG V).mono fun e w' ⟨h1,h2⟩=>⟨by rw[h1,PJ],h2▸hV⟩)
 have hC:Hid (∀V,Below W.heap.size W V->(V.cell? ⟨w.heap.size,0,none⟩=some (.string bo)/\V.cell? ⟨w.heap.size,1,none⟩=some (.string cw)/\V.cell? ⟨w.heap.size,2,none⟩=some (.string ck)/\V.cell? ⟨w.heap.size,3,none⟩=some (.bool cv)/\V.cell? ⟨w.heap.size,4,none⟩=some (.string aU)/\V.cell? ⟨w.heap.size,5,none⟩=some (.int .i64 cf)/\V.cell? ⟨w.heap.size,6,none⟩=some (.bool cq)/\V.cell? ⟨w.heap.size,7,none⟩=some (.slice a1 n1 c1)/\V.cell? ⟨w.heap.size,8,none⟩=some (.bool bO)/\V.cell? ⟨w.heap.size,9,none⟩=some (.bool bU)/\V.cell? ⟨w.heap.size,10,none⟩=some (.string cz)/\V.cell? ⟨w.heap.size,11,none⟩=some (.string de))/\(V.cell? ⟨w.heap.size+1,0,none⟩=some (.string gG)/\V.cell? ⟨w.heap.size+1,1,none⟩=some (.string jQ)/\V.cell? ⟨w.heap.size+1,2,none⟩=some (.string jm)/\V.cell? ⟨w.heap.size+1,3,none⟩=some (.bool eA)/\V.cell? ⟨w.heap.size+1,4,none⟩=some (.string dN)/\V.cell? ⟨w.heap.size+1,5,none⟩=some (.int .i64 jw)/\V.cell? ⟨w.heap.size+1,6,none⟩=some (.bool jP)/\V.cell? ⟨w.heap.size+1,7,none⟩=some (.slice a2 n2 c2)/\V.cell? ⟨w.heap.size+1,8,none⟩=some (.bool bQ)/\V.cell? ⟨w.heap.size+1,9,none⟩=some (.bool ee)/\V.cell? ⟨w.heap.size+1,10,none⟩=some (.string jN)/\V.cell? ⟨w.heap.size+1,11,none⟩=some (.string jF))):=Ih (fun V hV=>⟨dW ((hV.block _ (af sj)).trans sj),dW ((hV.block _ (af Cy)).trans Cy)⟩)
 have Fu:Below W.heap.size W W:=Below.refl _ _;have Hq:=Ih hq;clear hR hW hq jd XZ Jz PJ pF zl ar az aO dy aI bl e0 e3 e4 e5 f0 f3 f4 f5 hv je O9 Ir qj hE sj Cy hU hO;go_enter Tryz.func152,Tryz.ntmps152
 go_upto_region 1 with fail
 rw[<-HW.out]
 go_cut [5] (fun s wx=>∃tp:ByteArray,s=.string tp/\Hid (tp.data.toList=Lz.eF own)/\Below W.heap.size W wx)
 case first=>
  obtain⟨⟨x0,x1,x2,x3,x4,x5,x6,x7,x8,x9,nA,nB⟩,y0,y1,y2,y3,y4,y5,y6,y7,y8,y9,qU,qR⟩:=hC.out _ Fu
  go_wp2_with fail
  refine(Wj.out _ Fu).mono ?_;rintro e w5 ⟨tp,rfl,P3,fJ⟩
  go_wp2_with fail
  go_meet;exact⟨tp,rfl,P3,fJ⟩
 case rest=>
 obtain⟨tp,rfl,P3,hKc⟩:=hcut
 go_upto_region 2 with fail
 go_cut [17] (fun s wx=>s=.bool q/\Below W.heap.size W wx)
 case first=>
  obtain⟨⟨x0,x1,x2,x3,x4,x5,x6,x7,x8,x9,nA,nB⟩,y0,y1,y2,y3,y4,y5,y6,y7,y8,y9,qU,qR⟩:=hC.out _ hKc;by_cases hn:tp.data.toList=[110,117,108,108]
  ·have t1:=bg hn;have HQ:Hid (q=false):=by show _=_;rw[Hq.out,<-P3.out,hn];rfl
   clear hn
   go_wp2_with fail
   go_meet;exact⟨by rw[HQ.out],hKc⟩
  ·have t1:=bN hn
   have HN:Hid ((tp.data.toList != Lz.nI)=true):=by
    show(!(tp.data.toList==[110,117,108,108]))=true;rw[beq_eq_false_iff_ne.2 hn];rfl
   clear hn
   go_wp2_with fail
   refine(VM.out _ hKc).mono ?_;rintro e w5 ⟨tq,rfl,htq,fJ⟩;have zw:=iy tp tq
   have HQ:Hid (q=(tp.toList==tq.toList)):=by
    show _=_;rw[Hq.out,<-P3.out,HN.out,<-htq.out,Bool.true_and,Lib.toList_data,Lib.toList_data]
   clear zw
   go_wp2_with fail
   go_meet;exact⟨by rw[HQ.out],fJ⟩
 case rest=>
 obtain⟨rfl,hKd⟩:=hcut;clear hKc P3;cases q with
 | true=>
   have HV:Hid (R=true):=by show _=_;rw[HR.out];rfl
   go_wp2_with fail
   go_ret;exact⟨by rw[HV.out];rfl,aS.trans (hKd.mono aS.size)⟩
 | false=>
 have HV:Hid (R=(cv&&(eA&&(b5&&(al&&sf))))):=by show _=_;rw[HR.out,Bool.false_or]
 clear HR Hq;have pE:Below W.heap.size W wc.drew:=hKd.drew
 go_upto_region 4 with fail
 go_cut [6] (fun s wx=>s=.bool al/\Below W.heap.size W wx)
 case first=>
  clear HV;cases h1:(cf==jw)with
  | true=>
    have HV:Hid (al=true):=by show _=_;rw[HA.out,h1];rfl
    clear HA
    refine wp_region_held_drew (S:=fun V=>((V.cell? ⟨w.heap.size,0,none⟩=some (.string bo)/\V.cell? ⟨w.heap.size,1,none⟩=some (.string cw)/\V.cell? ⟨w.heap.size,2,none⟩=some (.string ck)/\V.cell? ⟨w.heap.size,3,none⟩=some (.bool cv)/\V.cell? ⟨w.heap.size,4,none⟩=some (.string aU)/\V.cell? ⟨w.heap.size,5,none⟩=some (.int .i64 cf)/\V.cell? ⟨w.heap.size,6,none⟩=some (.bool cq)/\V.cell? ⟨w.heap.size,7,none⟩=some (.slice a1 n1 c1)/\V.cell? ⟨w.heap.size,8,none⟩=some (.bool bO)/\V.cell? ⟨w.heap.size,9,none⟩=some (.bool bU)/\V.cell? ⟨w.heap.size,10,none⟩=some (.string cz)/\V.cell? ⟨w.heap.size,11,none⟩=some (.string de))/\(V.cell? ⟨w.heap.size+1,0,none⟩=some (.string gG)/\V.cell? ⟨w.heap.size+1,1,none⟩=some (.string jQ)/\V.cell? ⟨w.heap.size+1,2,none⟩=some (.string jm)/\V.cell? ⟨w.heap.size+1,3,none⟩=some (.bool eA)/\V.cell? ⟨w.heap.size+1,4,none⟩=some (.string dN)/\V.cell? ⟨w.heap.size+1,5,none⟩=some (.int .i64 jw)/\V.cell? ⟨w.heap.size+1,6,none⟩=some (.bool jP)/\V.cell? ⟨w.heap.size+1,7,none⟩=some (.slice a2 n2 c2)/\V.cell? ⟨w.heap.size+1,8,none⟩=some (.bool bQ)/\V.cell? ⟨w.heap.size+1,9,none⟩=some (.bool ee)/\V.cell? ⟨w.heap.size+1,10,none⟩=some (.string jN)/\V.cell? ⟨w.heap.size+1,11,none⟩=some (.string jF)))/\Below W.heap.size W V) (by kernel_rfl) ⟨hC.out _ pE,pE⟩ (fun ae=>?_)
    generalize wc.drew=W0 at ae⊢;refine TkI 0 18 ?_;refine TkI 1 19 ?_;refine TkI 2 20 ?_;refine TkI 3 21 ?_;refine TkI 4 22 ?_
    (try simp only[Act.put,List.setIfInBounds_toArray,List.set_cons_zero,List.set_cons_succ])
    refine TkI 5 23 ?_
    (try simp only[Act.put,List.setIfInBounds_toArray,List.set_cons_zero,List.set_cons_succ])
    refine TnD 6 (some 24) rfl rfl ?_;refine TnD 7 (some 25) rfl rfl ?_;refine TnD 8 (some 26) rfl rfl ?_;refine TnD 9 (some 27) rfl rfl ?_;refine TnD 10 (some 28) rfl rfl ?_;refine TnD 11 (some 29) rfl rfl ?_;refine TnD 12 (some 30) rfl rfl ?_;refine TnD 13 (some 31) rfl rfl ?_
    (try simp only[Act.put,List.setIfInBounds_toArray,List.set_cons_zero,List.set_cons_succ])
    refine TnD 14 (some 32) rfl rfl ?_;refine TnD 15 (some 33) rfl rfl ?_;refine TnD 16 (some 34) rfl rfl ?_;refine TnD 17 (some 35) rfl rfl ?_;refine TnD 18 (some 36) rfl rfl ?_;refine TnD 19 (some 37) rfl rfl ?_
    (try simp only[Act.put,List.setIfInBounds_toArray,List.set_cons_zero,List.set_cons_succ])
    refine TkI 20 38 ?_;refine TkI 21 6 ?_
    (try simp only[Act.put,List.setIfInBounds_toArray,List.set_cons_zero,List.set_cons_succ])
    refine wpAnyH_done (by kernel_rfl) ?_ _
    go_wp2_with fail
    go_meet;exact⟨by rw[HV.out],ae.2⟩
  | false=>
    cases h2:(g1==d1)with
    | false=>
      have HV:Hid (al=false):=by show _=_;rw[HA.out,h1,h2];rfl
      clear HA
      refine wp_region_held_drew (S:=fun V=>((V.cell? ⟨w.heap.size,0,none⟩=some (.string bo)/\V.cell? ⟨w.heap.size,1,none⟩=some (.string cw)/\V.cell? ⟨w.heap.size,2,none⟩=some (.string ck)/\V.cell? ⟨w.heap.size,3,none⟩=some (.bool cv)/\V.cell? ⟨w.heap.size,4,none⟩=some (.string aU)/\V.cell? ⟨w.heap.size,5,none⟩=some (.int .i64 cf)/\V.cell? ⟨w.heap.size,6,none⟩=some (.bool cq)/\V.cell? ⟨w.heap.size,7,none⟩=some (.slice a1 n1 c1)/\V.cell? ⟨w.heap.size,8,none⟩=some (.bool bO)/\V.cell? ⟨w.heap.size,9,none⟩=some (.bool bU)/\V.cell? ⟨w.heap.size,10,none⟩=some (.string cz)/\V.cell? ⟨w.heap.size,11,none⟩=some (.string de))/\(V.cell? ⟨w.heap.size+1,0,none⟩=some (.string gG)/\V.cell? ⟨w.heap.size+1,1,none⟩=some (.string jQ)/\V.cell? ⟨w.heap.size+1,2,none⟩=some (.string jm)/\V.cell? ⟨w.heap.size+1,3,none⟩=some (.bool eA)/\V.cell? ⟨w.heap.size+1,4,none⟩=some (.string dN)/\V.cell? ⟨w.heap.size+1,5,none⟩=some (.int .i64 jw)/\V.cell? ⟨w.heap.size+1,6,none⟩=some (.bool jP)/\V.cell? ⟨w.heap.size+1,7,none⟩=some (.slice a2 n2 c2)/\V.cell? ⟨w.heap.size+1,8,none⟩=some (.bool bQ)/\V.cell? ⟨w.heap.size+1,9,none⟩=some (.bool ee)/\V.cell? ⟨w.heap.size+1,10,none⟩=some (.string jN)/\V.cell? ⟨w.heap.size+1,11,none⟩=some (.string jF)))/\Below W.heap.size W V) (by kernel_rfl) ⟨hC.out _ pE,pE⟩ (fun ae=>?_)
      generalize wc.drew=W0 at ae⊢;refine TkI 0 18 ?_;refine TkI 1 19 ?_;refine TkI 2 20 ?_;refine TkI 3 21 ?_;refine TkI 4 22 ?_
      (try simp only[Act.put,List.setIfInBounds_toArray,List.set_cons_zero,List.set_cons_succ])
      refine TkI 5 23 ?_;refine TkI 6 24 ?_;refine TkI 8 26 ?_
      (try simp only[Act.put,List.setIfInBounds_toArray,List.set_cons_zero,List.set_cons_succ])
      refine TkD 9 (some 27) (v:=?_) rfl rfl ?_ ?_;rotate_left
      ·(intro W aM;(try dsimp only at aM);go_simp;try with_reducible rfl)
      (try simp only[Act.put,List.setIfInBounds_toArray,List.set_cons_zero,List.set_cons_succ])
      refine wpAnyH_ready (rs:=[7]) (by kernel_rfl) (by simp) ?_;refine AllReadyH.cons rfl (fun K hK=>?_) AllReadyH.nil;go_simp
      go_at_call 189
      refine(LH.out _ (ae.2)).mono ?_;rintro e w5 ⟨rfl,fJ⟩;clear ae;refine hK.out _ _ ⟨hC.out _ fJ,fJ⟩ (fun ae=>?_);clear hK K
      (try simp only[Act.put,List.setIfInBounds_toArray,List.set_cons_zero,List.set_cons_succ])
      refine wpAnyH_ready (rs:=[10]) (by kernel_rfl) (by simp) ?_;refine AllReadyH.cons rfl (fun K hK=>?_) AllReadyH.nil;go_simp
      go_at_call 133
      refine(cD1.out _ (ae.2)).mono ?_;rintro e w5 ⟨rfl,fJ⟩;clear ae;refine hK.out _ _ ⟨hC.out _ fJ,fJ⟩ (fun ae=>?_);clear hK K
      (try simp only[Act.put,List.setIfInBounds_toArray,List.set_cons_zero,List.set_cons_succ])
      refine TkI 11 29 ?_;refine TkI 12 30 ?_
      (try simp only[Act.put,List.setIfInBounds_toArray,List.set_cons_zero,List.set_cons_succ])
      refine TnD 13 (some 31) rfl rfl ?_;refine TnD 14 (some 32) rfl rfl ?_;refine TnD 15 (some 33) rfl rfl ?_;refine TnD 16 (some 34) rfl rfl ?_;refine TnD 17 (some 35) rfl rfl ?_;refine TnD 18 (some 36) rfl rfl ?_
      (try simp only[Act.put,List.setIfInBounds_toArray,List.set_cons_zero,List.set_cons_succ])
      refine TkI 19 37 ?_;refine TkI 20 38 ?_;refine TkI 21 6 ?_
      (try simp only[Act.put,List.setIfInBounds_toArray,List.set_cons_zero,List.set_cons_succ])
      refine wpAnyH_done (by kernel_rfl) ?_ _
      go_wp2_with fail
      go_meet;exact⟨by rw[HV.out],ae.2⟩
    | true=>
      have HV:Hid (al=(g2==d2)):=by show _=_;rw[HA.out,h1,h2];rfl
      clear HA
      refine wp_region_held_drew (S:=fun V=>((V.cell? ⟨w.heap.size,0,none⟩=some (.string bo)/\V.cell? ⟨w.heap.size,1,none⟩=some (.string cw)/\V.cell? ⟨w.heap.size,2,none⟩=some (.string ck)/\V.cell? ⟨w.heap.size,3,none⟩=some (.bool cv)/\V.cell? ⟨w.heap.size,4,none⟩=some (.string aU)/\V.cell? ⟨w.heap.size,5,none⟩=some (.int .i64 cf)/\V.cell? ⟨w.heap.size,6,none⟩=some (.bool cq)/\V.cell? ⟨w.heap.size,7,none⟩=some (.slice a1 n1 c1)/\V.cell? ⟨w.heap.size,8,none⟩=some (.bool bO)/\V.cell? ⟨w.heap.size,9,none⟩=some (.bool bU)/\V.cell? ⟨w.heap.size,10,none⟩=some (.string cz)/\V.cell? ⟨w.heap.size,11,none⟩=some (.string de))/\(V.cell? ⟨w.heap.size+1,0,none⟩=some (.string gG)/\V.cell? ⟨w.heap.size+1,1,none⟩=some (.string jQ)/\V.cell? ⟨w.heap.size+1,2,none⟩=some (.string jm)/\V.cell? ⟨w.heap.size+1,3,none⟩=some (.bool eA)/\V.cell? ⟨w.heap.size+1,4,none⟩=some (.string dN)/\V.cell? ⟨w.heap.size+1,5,none⟩=some (.int .i64 jw)/\V.cell? ⟨w.heap.size+1,6,none⟩=some (.bool jP)/\V.cell? ⟨w.heap.size+1,7,none⟩=some (.slice a2 n2 c2)/\V.cell? ⟨w.heap.size+1,8,none⟩=some (.bool bQ)/\V.cell? ⟨w.heap.size+1,9,none⟩=some (.bool ee)/\V.cell? ⟨w.heap.size+1,10,none⟩=some (.string jN)/\V.cell? ⟨w.heap.size+1,11,none⟩=some (.string jF)))/\Below W.heap.size W V) (by kernel_rfl) ⟨hC.out _ pE,pE⟩ (fun ae=>?_)
      generalize wc.drew=W0 at ae⊢;refine TkI 0 18 ?_;refine TkI 1 19 ?_;refine TkI 2 20 ?_;refine TkI 3 21 ?_;refine TkI 4 22 ?_
      (try simp only[Act.put,List.setIfInBounds_toArray,List.set_cons_zero,List.set_cons_succ])
      refine TkI 5 23 ?_;refine TkI 6 24 ?_;refine TkI 8 26 ?_
      (try simp only[Act.put,List.setIfInBounds_toArray,List.set_cons_zero,List.set_cons_succ])
      refine TkD 9 (some 27) (v:=?_) rfl rfl ?_ ?_;rotate_left
      ·(intro W aM;(try dsimp only at aM);go_simp;try with_reducible rfl)
      (try simp only[Act.put,List.setIfInBounds_toArray,List.set_cons_zero,List.set_cons_succ])
      refine wpAnyH_ready (rs:=[7]) (by kernel_rfl) (by simp) ?_;refine AllReadyH.cons rfl (fun K hK=>?_) AllReadyH.nil;go_simp
      go_at_call 189
      refine(LH.out _ (ae.2)).mono ?_;rintro e w5 ⟨rfl,fJ⟩;clear ae;refine hK.out _ _ ⟨hC.out _ fJ,fJ⟩ (fun ae=>?_);clear hK K
      (try simp only[Act.put,List.setIfInBounds_toArray,List.set_cons_zero,List.set_cons_succ])
      refine wpAnyH_ready (rs:=[10]) (by kernel_rfl) (by simp) ?_;refine AllReadyH.cons rfl (fun K hK=>?_) AllReadyH.nil;go_simp
      go_at_call 133
      refine(cD1.out _ (ae.2)).mono ?_;rintro e w5 ⟨rfl,fJ⟩;clear ae;refine hK.out _ _ ⟨hC.out _ fJ,fJ⟩ (fun ae=>?_);clear hK K
      (try simp only[Act.put,List.setIfInBounds_toArray,List.set_cons_zero,List.set_cons_succ])
      refine TkI 11 29 ?_;refine TkI 12 30 ?_;refine TkI 13 31 ?_;refine TkI 15 33 ?_;refine TkI 16 34 ?_
      (try simp only[Act.put,List.setIfInBounds_toArray,List.set_cons_zero,List.set_cons_succ])
      refine wpAnyH_ready (rs:=[14]) (by kernel_rfl) (by simp) ?_;refine AllReadyH.cons rfl (fun K hK=>?_) AllReadyH.nil;go_simp
      go_at_call 189
      refine(Wo.out _ (ae.2)).mono ?_;rintro e w5 ⟨rfl,fJ⟩;clear ae;refine hK.out _ _ ⟨hC.out _ fJ,fJ⟩ (fun ae=>?_);clear hK K
      (try simp only[Act.put,List.setIfInBounds_toArray,List.set_cons_zero,List.set_cons_succ])
      refine wpAnyH_ready (rs:=[17]) (by kernel_rfl) (by simp) ?_;refine AllReadyH.cons rfl (fun K hK=>?_) AllReadyH.nil;go_simp
      go_at_call 133
      refine(cD2.out _ (ae.2)).mono ?_;rintro e w5 ⟨rfl,fJ⟩;clear ae;refine hK.out _ _ ⟨hC.out _ fJ,fJ⟩ (fun ae=>?_);clear hK K
      (try simp only[Act.put,List.setIfInBounds_toArray,List.set_cons_zero,List.set_cons_succ])
      refine TkI 18 36 ?_;refine TkI 19 37 ?_;refine TkI 20 38 ?_;refine TkI 21 6 ?_
      (try simp only[Act.put,List.setIfInBounds_toArray,List.set_cons_zero,List.set_cons_succ])
      refine wpAnyH_done (by kernel_rfl) ?_ _
      go_wp2_with fail
      go_meet;exact⟨by rw[HV.out],ae.2⟩
 case rest=>
 obtain⟨rfl,Yw⟩:=hcut;clear hKd pE HA
 go_upto_region 5 with fail
 go_cut [7] (fun s wx=>s=.bool sf/\Below W.heap.size W wx)
 case first=>
  obtain⟨⟨x0,x1,x2,x3,x4,x5,x6,x7,x8,x9,nA,nB⟩,y0,y1,y2,y3,y4,y5,y6,y7,y8,y9,qU,qR⟩:=hC.out _ Yw;obtain⟨m1,m2,m3,m4,m5⟩:=HB.out;clear HV HB m5;cases b1 with
  | true=>
    have HV:Hid (sf=true):=by show _=_;rw[HS.out];rfl
    go_wp2_with fail
    go_meet;exact⟨by rw[HV.out],Yw⟩
  | false=>
  cases b2 with
  | true=>
    have HV:Hid (sf=true):=by show _=_;rw[HS.out];rfl
    go_wp2_with fail
    go_meet;exact⟨by rw[HV.out],Yw⟩
  | false=>
  cases b3 with
  | false=>
    have HV:Hid (sf=false):=by show _=_;rw[HS.out];rfl
    go_wp2_with fail
    go_meet;exact⟨by rw[HV.out],Yw⟩
  | true=>
    have HV:Hid (sf=b4):=by show _=_;rw[HS.out];rfl
    go_wp2_with fail
    go_meet;exact⟨by rw[HV.out],Yw⟩
 case rest=>
 obtain⟨rfl,X8⟩:=hcut;clear Yw HS;obtain⟨⟨x0,x1,x2,x3,x4,x5,x6,x7,x8,x9,nA,nB⟩,y0,y1,y2,y3,y4,y5,y6,y7,y8,y9,qU,qR⟩:=hC.out _ X8;obtain⟨m1,m2,m3,m4,m5⟩:=HB.out;clear HB hC m1 m2 m3 m4;cases cv with
 | false=>
   go_wp2_with fail
   go_ret;exact⟨by rw[HV.out];rfl,aS.trans (X8.mono aS.size)⟩
 | true=>
 cases eA with
 | false=>
   go_wp2_with fail
   go_ret;exact⟨by rw[HV.out];rfl,aS.trans (X8.mono aS.size)⟩
 | true=>
 cases b5 with
 | false=>
   go_wp2_with fail
   go_ret;exact⟨by rw[HV.out];rfl,aS.trans (X8.mono aS.size)⟩
 | true=>
 cases al with
 | false=>
   go_wp2_with fail
   go_ret;exact⟨by rw[HV.out];rfl,aS.trans (X8.mono aS.size)⟩
 | true=>
   go_wp2_with fail
   go_ret;exact⟨by rw[HV.out];rfl,aS.trans (X8.mono aS.size)⟩
end Go.Proofs.YtecoeebjaleeiaaGreatDoor
