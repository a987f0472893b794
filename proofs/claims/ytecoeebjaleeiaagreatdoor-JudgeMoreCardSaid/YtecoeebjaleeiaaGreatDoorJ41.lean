/-
  judge.fetched. Conditions: a slice of values as the world holds it, and texts that are not great.
-/
import Derived.Test.YtecoeebjaleeiaaGreatDoorJ40
import Derived.Test.YtecoeebjaleeiaaGreatDoorJ37
set_option maxHeartbeats 4000000
set_option maxRecDepth 100000
namespace Go.Proofs.YtecoeebjaleeiaaGreatDoor
open Go.RowKit
attribute [local go_sem ↓] Go.wp_at_zero Go.wp_at_succ
theorem tN (s:ByteArray) (w:World) (hE:ot w):Calls Tryz.prog 8 #[.string s,.pointer none] w fun e w'=>∃(v:Value) (n:Int) (u:Lz.ag) (q:Bool),e=.returned (.tuple #[v,.int .i64 n])/\Below w.heap.size w w'/\aX w' v u/\(n != 0)= !q/\Hid ((q=true->Lz.dg s.data.toList none=.ok u/\UOk u)/\(q=false->∃k,Lz.dg s.data.toList none=.er k)):=by
 refine(wJ none (.pointer none) s w hE rfl (fun y h=>by cases h)).mono ?_;rintro e w' ⟨v,n,he,hb,bA⟩;obtain⟨u,h1,h2⟩:=bA.cases;rcases h2 with⟨h3,rfl⟩|⟨k,h3,rfl,rfl⟩
 ·exact⟨v,0,u,true,he,hb,h1.val,rfl,Ih ⟨fun _=>⟨h3,⟨Lz.qA h3,by have:=Lz.tn h3;omega⟩⟩,nofun⟩⟩
 ·have hk:(k:Int)≠0:=by have:=Lz.zB h3;omega
  exact⟨v,(k:Int),tV,false,he,hb,h1.val,by rw[bne,beq_eq_false_iff_ne.2 hk],Ih ⟨nofun,fun _=>⟨k,h3⟩⟩⟩
def bh.row (x:bh):Array Value:= #[.int .i64 x.kind,.int .i64 x.node,.string x.attr,.string x.url,.string x.text,.string x.nonce,.string x.integ]
theorem bn {w:World} {B:Nat} {x:bh} (h:w.heap[B]? =some (.cells x.row 27 (0,0))):w.cell? ⟨B,0,none⟩=some (.int .i64 x.kind)/\w.cell? ⟨B,1,none⟩=some (.int .i64 x.node)/\w.cell? ⟨B,2,none⟩=some (.string x.attr)/\w.cell? ⟨B,3,none⟩=some (.string x.url)/\w.cell? ⟨B,4,none⟩=some (.string x.text)/\w.cell? ⟨B,5,none⟩=some (.string x.nonce)/\w.cell? ⟨B,6,none⟩=some (.string x.integ):=
 ⟨rowAt h 0 _ rfl,rowAt h 1 _ rfl,rowAt h 2 _ rfl,rowAt h 3 _ rfl,rowAt h 4 _ rfl,rowAt h 5 _ rfl,rowAt h 6 _ rfl⟩
structure wg (V:World) (B:Nat) (d:Array Value) (t:TypeId) (x:bh) (C:Array Value):Prop where
 d:V.heap[B]? =some (.cells d t (0,0))
 x:V.heap[B+1]? =some (.cells x.row 27 (0,0))
 u:V.heap[B+2]? =some (.cells C 32 (0,0))
theorem wg.below {V W:World} {B:Nat} {d:Array Value} {t:TypeId} {x:bh} {C:Array Value} (h:wg V B d t x C) (hb:Below V.heap.size V W):wg W B d t x C:=
 ⟨(hb.block _ (af h.d)).trans h.d,(hb.block _ (af h.x)).trans h.x,(hb.block _ (af h.u)).trans h.u⟩
theorem tz (w:World) (d:Array Value) (t:TypeId) (x:bh) (C:Array Value):wg (((w.alloc (.cells d t)).alloc (.cells x.row 27)).alloc (.cells C 32)) w.heap.size d t x C/\Below w.heap.size w (((w.alloc (.cells d t)).alloc (.cells x.row 27)).alloc (.cells C 32)):=by
 have h1:=ah w (.cells d t);have h2:=dm w (.cells d t) (.cells x.row 27);refine⟨⟨?_,?_,?_⟩,(((Below.refl _ w).alloc (Nat.le_refl _) _).alloc (by simp) _).alloc (by simp;omega) _⟩
 ·rw[Below.heap_alloc _ _ _ (by simp;omega),Below.heap_alloc _ _ _ (by simp)];exact h1
 ·rw[Below.heap_alloc _ _ _ (by simp)];exact h2
 ·have:=dm (w.alloc (.cells d t)) (.cells x.row 27) (.cells C 32)
  rwa [show(w.alloc (.cells d t)).heap.size=w.heap.size+1 by simp]at this
theorem C0 (d:aD) (x:bh) (ov:Value) (own:Lz.ag) (w:World) (hE:rk w) (h:eN w d.v d.vals) (hs:x.integ.size<=100000) (ho:aX w ov own) (hO:UOk own):Calls Tryz.prog 39 #[d.val,x.val,ov] w (aC (Lz.me Lz.aG d.vals x.src own) w):=by
 obtain⟨gG,jQ,jm,eA,dN,jw,jP,a2,n2,c2,bQ,ee,jN,jF,rfl,_,_,_,_,_,je⟩:=ho.letters;obtain⟨hJ,aS⟩:=tz w #[.string d.name,d.v] 51 x #[.string gG,.string jQ,.string jm,.bool eA,.string dN,.int .i64 jw,.bool jP,.slice a2 n2 c2,.bool bQ,.bool ee,.string jN,.string jF];obtain⟨W,hW⟩:∃W,W=((w.alloc (.cells #[.string d.name,d.v] 51)).alloc (.cells x.row 27)).alloc (.cells #[.string gG,.string jQ,.string jm,.bool eA,.string dN,.int .i64 jw,.bool jP,.slice a2 n2 c2,.bool bQ,.bool ee,.string jN,.string jF] 32):=⟨_,rfl⟩;rw[<-hW]at hJ aS;have HV:Hid (∀V,Below W.heap.size W V->rk V/\eN V d.v d.vals/\aX V (.agg #[.string gG,.string jQ,.string jm,.bool eA,.string dN,.int .i64 jw,.bool jP,.slice a2 n2 c2,.bool bQ,.bool ee,.string jN,.string jF]) own/\wg V w.heap.size #[.string d.name,d.v] 51 x #[.string gG,.string jQ,.string jm,.bool eA,.string dN,.int .i64 jw,.bool jP,.slice a2 n2 c2,.bool bQ,.bool ee,.string jN,.string jF]):=Ih (fun V hV=>⟨(hE.below aS).below hV,(h.below aS).below hV,(je.below aS).below hV,hJ.below hV⟩);have cP:=Ih (tN x.url W (hE.below aS).u)
 obtain⟨R,hR⟩:∃R,R=Lz.me Lz.aG d.vals x.src own:=⟨_,rfl⟩;rw[<-hR];unfold Lz.me at hR;have HR:=Ih hR;have HW:=Ih hW;have q3:=(bn hJ.x).2.2.2.1;obtain⟨da,dc,ys,Lp,yB,iB⟩:=h.at';obtain⟨dn,dv,dl⟩:=d;obtain⟨xk,xn,xa,xu,xt,xc,xi⟩:=x
 dsimp only at Lp
 subst Lp
 dsimp only[aD.val,bh.val,bh.row]at *
 clear hR hW hE h ho je hJ yB iB;go_enter Tryz.func39,Tryz.ntmps39
 go_upto_region 1 with fail
 rw[<-HW.out]
 go_wp2_with fail
 refine cP.out.mono ?_;rintro e w1 ⟨v1,m1,u1,q1,rfl,ar,jR,jT,ei⟩;obtain⟨bo,cw,ck,cv,aU,cf,cq,a1,n1,c1,bO,bU,cz,de,rfl,_,_,_,_,_,jR⟩:=jR.letters
 go_upto_region 2 with fail
 obtain⟨W1,nD⟩:∃W1,W1=w1.alloc (.cells #[.string bo,.string cw,.string ck,.bool cv,.string aU,.int .i64 cf,.bool cq,.slice a1 n1 c1,.bool bO,.bool bU,.string cz,.string de] 32):=⟨_,rfl⟩;rw[<-nD];have e1:Below w1.heap.size w1 W1:=by rw[nD];exact(Below.refl _ w1).alloc (Nat.le_refl _) _
 have r1:W1.heap[w1.heap.size]? =some (.cells #[.string bo,.string cw,.string ck,.bool cv,.string aU,.int .i64 cf,.bool cq,.slice a1 n1 c1,.bool bO,.bool bU,.string cz,.string de] 32 (0,0)):=by rw[nD];exact ah _ _
 have qN:=jR.below e1;have iV:Below W.heap.size W W1:=ac ar e1;clear nD jR ar e1 cP q3;cases q1 with
 | false=>
   have mq:(m1 != 0)=true:=jT;obtain⟨k,hk⟩:=ei.out.2 rfl;have HF:Hid (R=false):=by show _=_;rw[HR.out];dsimp only[bh.src];rw[hk]
   clear ei hk jT
   go_wp2_with fail
   go_ret;exact⟨by rw[HF.out];rfl,ac aS iV⟩
 | true=>
   have mq:(m1 != 0)=false:=jT;obtain⟨hk,LR⟩:=ei.out.1 rfl;obtain⟨qX,Cj,LV,Sy⟩:=HV.out W1 iV;obtain⟨k0,k1,k2,k3,k4,k5,k6⟩:=bn Sy.x;have Tp:=rowAt Sy.d 0 _ rfl;have TY:=rowAt Sy.d 1 _ rfl
   dsimp only[bh.row]at k0 k1 k2 k3 k4 k5 k6 Tp TY
   obtain⟨x0,x1,x2,x3,x4,x5,x6,x7,x8,x9,nA,nB⟩:=dW r1;obtain⟨y0,y1,y2,y3,y4,y5,y6,y7,y8,y9,qU,qR⟩:=dW Sy.u;have L6:Hid (∀V,Below W1.heap.size W1 V->rk V/\eN V (.slice da ys.length dc) dl/\aX V (.agg #[.string bo,.string cw,.string ck,.bool cv,.string aU,.int .i64 cf,.bool cq,.slice a1 n1 c1,.bool bO,.bool bU,.string cz,.string de]) u1/\aX V (.agg #[.string gG,.string jQ,.string jm,.bool eA,.string dN,.int .i64 jw,.bool jP,.slice a2 n2 c2,.bool bQ,.bool ee,.string jN,.string jF]) own/\wg V w.heap.size #[.string dn,.slice da ys.length dc] 51 ⟨xk,xn,xa,xu,xt,xc,xi⟩ #[.string gG,.string jQ,.string jm,.bool eA,.string dN,.int .i64 jw,.bool jP,.slice a2 n2 c2,.bool bQ,.bool ee,.string jN,.string jF]/\V.heap[w1.heap.size]? =some (.cells #[.string bo,.string cw,.string ck,.bool cv,.string aU,.int .i64 cf,.bool cq,.slice a1 n1 c1,.bool bO,.bool bU,.string cz,.string de] 32 (0,0))):=Ih (fun V hV=>⟨qX.below hV,Cj.below hV,qN.below hV,LV.below hV,Sy.below hV,(hV.block _ (af r1)).trans r1⟩)
   have Fq:Hid (R=if xk=1 then Lz.qv Lz.aG dl u1 own xc.data.toList xi.data.toList else if(xk==5&&(!Lz.jf dl&&Lz.iE dl xc.data.toList))=true then true else Lz.anyM u1 dl own false):=by show _=_;rw[HR.out];dsimp only[bh.src];rw[hk];rfl
   clear ei hk jT HR qX Cj qN LV Sy r1;by_cases h1:xk=1
   ·have b1:(xk==1)=true:=by rw[h1];rfl
    obtain⟨z,hz⟩:∃z,z=Lz.qv Lz.aG dl u1 own xc.data.toList xi.data.toList:=⟨_,rfl⟩;have HF:Hid (R=z):=by show _=_;rw[Fq.out,if_pos h1,hz]
    have cF:Hid (Calls Tryz.prog 77 #[.slice da ys.length dc,.agg #[.string bo,.string cw,.string ck,.bool cv,.string aU,.int .i64 cf,.bool cq,.slice a1 n1 c1,.bool bO,.bool bU,.string cz,.string de],.agg #[.string gG,.string jQ,.string jm,.bool eA,.string dN,.int .i64 jw,.bool jP,.slice a2 n2 c2,.bool bQ,.bool ee,.string jN,.string jF],.string xc,.string xi] W1 (aC z W1)):=by
     obtain⟨e1,e2,e3,e4,_⟩:=L6.out W1 (Below.refl _ _);rw[hz];exact Ih (G7 _ dl _ u1 _ own xc xi hs W1 e1 e2 e3 LR e4 hO)
    clear h1 hz Fq L6 HV
    go_wp2_with fail
    refine cF.out.mono ?_;rintro e w2 ⟨rfl,az⟩
    go_wp2_with fail
    go_ret;exact⟨by rw[HF.out];rfl,ac aS (ac iV az)⟩
   ·have b1:(xk==1)=false:=beq_eq_false_iff_ne.2 h1;obtain⟨qn,hn⟩:∃q,q=Lz.jf dl:=⟨_,rfl⟩;obtain⟨qz,hz⟩:∃q,q=Lz.iE dl xc.data.toList:=⟨_,rfl⟩;obtain⟨qa,ha⟩:∃q,q=Lz.anyM u1 dl own false:=⟨_,rfl⟩;obtain⟨z5,hz5⟩:∃q,q=(xk==5&&(!qn&&qz)):=⟨_,rfl⟩;have HF:Hid (R=if z5=true then true else qa):=by show _=_;rw[Fq.out,if_neg h1,<-hn,<-hz,<-ha,<-hz5]
    have cN:Hid (Calls Tryz.prog 71 #[.slice da ys.length dc] W1 (aC qn W1)):=by
     obtain⟨e1,e2,e3,e4,_⟩:=L6.out W1 (Below.refl _ _);rw[hn];exact Ih e2.none
    have cZ:Hid (∀V,Below W1.heap.size W1 V->Calls Tryz.prog 73 #[.slice da ys.length dc,.string xc] V (aC qz V)):=Ih (fun V hV=>by
     obtain⟨e1,e2,e3,e4,_⟩:=L6.out V hV;rw[hz];exact qq _ dl xc V e1.s e2)
    have cA:Hid (∀V,Below W1.heap.size W1 V->Calls Tryz.prog 78 #[.agg #[.string bo,.string cw,.string ck,.bool cv,.string aU,.int .i64 cf,.bool cq,.slice a1 n1 c1,.bool bO,.bool bU,.string cz,.string de],.slice da ys.length dc,.agg #[.string gG,.string jQ,.string jm,.bool eA,.string dN,.int .i64 jw,.bool jP,.slice a2 n2 c2,.bool bQ,.bool ee,.string jN,.string jF],.bool false] V (aC qa V)):=Ih (fun V hV=>by
     obtain⟨e1,e2,e3,e4,_⟩:=L6.out V hV;rw[ha];exact CL _ u1 _ dl _ own false V e1 e3 LR e4 hO e2.at' e2.len e2.size)
    have HZ5:=Ih hz5
    have HM:Hid (∀V,Below W1.heap.size W1 V->V.heap[w.heap.size]? =some (.cells #[.string dn,.slice da ys.length dc] 51 (0,0))/\V.heap[w.heap.size+1]? =some (.cells (bh.row ⟨xk,xn,xa,xu,xt,xc,xi⟩) 27 (0,0))/\V.heap[w.heap.size+2]? =some (.cells #[.string gG,.string jQ,.string jm,.bool eA,.string dN,.int .i64 jw,.bool jP,.slice a2 n2 c2,.bool bQ,.bool ee,.string jN,.string jF] 32 (0,0))/\V.heap[w1.heap.size]? =some (.cells #[.string bo,.string cw,.string ck,.bool cv,.string aU,.int .i64 cf,.bool cq,.slice a1 n1 c1,.bool bO,.bool bU,.string cz,.string de] 32 (0,0))):=Ih (fun V hV=>by
     obtain⟨_,_,_,_,⟨j1,j2,j3⟩,j4⟩:=L6.out V hV;exact⟨j1,j2,j3,j4⟩)
    clear h1 hn hz ha hz5 Fq L6 HV LR hO hs
    go_upto_region 6 with fail
    go_cut [31] (fun s wx=>s=.bool z5/\Below W1.heap.size W1 wx)
    case first=>
     cases aI:(xk==5)with
     | false=>
       rw[aI]at HZ5
       go_wp2_with fail
       go_meet;exact⟨by rw[HZ5.out];rfl,Below.refl _ _⟩
     | true=>
       rw[aI]at HZ5;cases qn with
       | true=>
         go_wp2_with fail
         refine cN.out.mono ?_;rintro e w2 ⟨rfl,az⟩
         go_wp2_with fail
         go_meet;exact⟨by rw[HZ5.out];rfl,az⟩
       | false=>
         go_wp2_with fail
         refine cN.out.mono ?_;rintro e w2 ⟨rfl,az⟩;obtain⟨j1,j2,_,_⟩:=HM.out w2 az;have p1:=rowAt j1 1 _ rfl;have p5:=(bn j2).2.2.2.2.2.1
         dsimp only at p5
         clear k0 k1 k2 k3 k4 k5 k6 Tp TY j1 j2 x0 x1 x2 x3 x4 x5 x6 x7 x8 x9 nA nB y0 y1 y2 y3 y4 y5 y6 y7 y8 y9 qU qR
         go_wp2_with fail
         refine(cZ.out w2 az).mono ?_;rintro e w3 ⟨rfl,aO⟩
         go_wp2_with fail
         go_meet;exact⟨by rw[HZ5.out];rfl,ac az aO⟩
    case rest=>
    obtain⟨rfl,az⟩:=hcut;cases z5 with
    | true=>
      go_wp2_with fail
      go_ret;exact⟨by rw[HF.out];rfl,ac aS (ac iV az)⟩
    | false=>
      obtain⟨j1,j2,j3,j4⟩:=HM.out wc az;clear k0 k1 k2 k3 k4 k5 k6 Tp TY x0 x1 x2 x3 x4 x5 x6 x7 x8 x9 nA nB y0 y1 y2 y3 y4 y5 y6 y7 y8 y9 qU qR;have p1:=rowAt j1 1 _ rfl;obtain⟨x0,x1,x2,x3,x4,x5,x6,x7,x8,x9,nA,nB⟩:=dW j4;obtain⟨y0,y1,y2,y3,y4,y5,y6,y7,y8,y9,qU,qR⟩:=dW j3;clear j1 j2 j3 j4
      go_wp2_with fail
      refine(cA.out wc az).mono ?_;rintro e w3 ⟨rfl,aO⟩
      go_wp2_with fail
      go_ret;exact⟨by rw[HF.out];rfl,ac aS (ac iV (ac az aO))⟩
end Go.Proofs.YtecoeebjaleeiaaGreatDoor
