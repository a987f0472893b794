/-
  Package match: effective, port.
-/
import Derived.Test.YtecoeebjaleeiaaGreatDoorJ27
import Derived.Test.YtecoeebjaleeiaaGreatDoorJ28
set_option maxHeartbeats 8000000
set_option maxRecDepth 100000
namespace Go.Proofs.YtecoeebjaleeiaaGreatDoor
open Go.RowKit
attribute [local go_sem ↓] Go.wp_at_zero Go.wp_at_succ
abbrev pQ:Array Value:= #[.string ⟨#[]⟩,.string ⟨#[]⟩,.string ⟨#[]⟩,.bool false,.string ⟨#[]⟩,.int .i64 0,.bool false,.slice none 0 0,.bool false,.bool false,.string ⟨#[]⟩,.string ⟨#[]⟩]
theorem xV (w:World):ff w (.agg pQ) tV:=⟨0,⟨⟨#[]⟩,⟨#[]⟩,⟨#[]⟩,false,⟨#[]⟩,0,false,.slice none 0 0,[],false,false,⟨#[]⟩,⟨#[]⟩⟩,rfl,aL.nil _ _,Ih rfl⟩
def ra (r:Lz.UR) (w:World) (v:Value) (n:Int):Prop:=match r with
 | .ok u=>n=0/\ff w v u
 | .er k=>n=(k:Int)/\ff w v tV
def IH (r:Lz.UR) (w:World) (e:Ending) (w':World):Prop:=∃v n,e=.returned (.tuple #[v,.int .i64 n])/\Below w.heap.size w w'/\ra r w' v n
structure Gn (y:Lz.ag):Prop where
 host:y.host.length<=1000000000
 path:y.path.length<=1000000000
 p0: -9223372036854775808<=y.port
 p1:y.port<=9223372036854775807
 text:(Lz.nY y).length<=800000
structure P8 (r4 r8:Nat) (C8:Array Value) (u:Lz.ag) (W0 V:World):Prop where
 row8:V.heap[r8]? =some (.cells C8 32 (0,0))
 row4:∃C4,V.heap[r4]? =some (.cells C4 32 (0,0))/\C4.size=12
 below:Below r4 W0 V
 own:ff V (.agg C8) u
theorem P8.call {r4 r8:Nat} {C8:Array Value} {u:Lz.ag} {W0 V V':World} (h:P8 r4 r8 C8 u W0 V) (hb:Below V.heap.size V V'):P8 r4 r8 C8 u W0 V':=by
 obtain⟨C4,h4,h12⟩:=h.row4;exact⟨(hb.block _ (af h.row8)).trans h.row8,⟨C4,(hb.block _ (af h4)).trans h4,h12⟩,h.below.trans (hb.mono (Nat.le_of_lt (af h4))),h.own.below hb⟩
theorem P8.drew {r4 r8:Nat} {C8:Array Value} {u:Lz.ag} {W0 V:World} (h:P8 r4 r8 C8 u W0 V):P8 r4 r8 C8 u W0 V.drew:=h.call (Below.refl _ _).drew
theorem P8.store {r4 r8:Nat} {C8:Array Value} {u:Lz.ag} {W0 V:World} {o:Oper} {a:Act} {K:Act->World->Prop} {Q:Exit->Act->World->Prop} (h:P8 r4 r8 C8 u W0 V) (ed:r4≠r8) (h12:C8.size=12) (h1:C8.all (·.oneCell')=true) (x y:Operand) (ho:o.op=.store 32 x y) (hx:a.eval x=.pointer (some ⟨r4,0,none⟩)) (hy:a.eval y=.agg C8)
  (hK:P8 r4 r8 C8 u W0 (V.setRow r4 C8)/\(V.setRow r4 C8).heap[r4]? =some (.cells C8 32 (0,0))->K (a.put o.dst undef) (V.setRow r4 C8)):o.wp Tryz.prog a V K Q:=by
 obtain⟨C4,h4,hs⟩:=h.row4;have aZ:=setRow_heap V r4 C4 C8 32 (0,0) h4;exact wp_store_row 32 x y ho r4 C8 hx hy 32 C4 h4 (by rw[h12];exact bY) (by rw[hs,h12]) h1 (hK ⟨⟨by rw[setRow_other _ _ _ _ (by omega)];exact h.row8,⟨C8,aZ,h12⟩,aH h.below (Nat.le_refl _),h.own.setRow h4 C8⟩,aZ⟩)
theorem yL {o:Oper} {ev:Operand->Value} {w:World} (x:Operand) (ho:o.op=.load 32 x)
  (g:Nat) (hx:ev x=.pointer (some ⟨g,0,none⟩)) (cs:Array Value) (fr:Nat×Nat) (hg:w.heap[g]? =some (.cells cs 32 fr)) (hs:cs.size=12):(execOp ev o).run Tryz.prog w=.ok (.value (.agg cs)) w:=by
 unfold execOp;simp only[ho,hx,Instr.loadAt,Instr.sureAddr,Sem.run_bind,Sem.run_pure,Result.andThen_ok,run_loadVar_row w g 32 32 cs fr _ hg Tryz.underlying32 rfl (by rw[hs];exact bY)]
theorem ff.form {w:World} {v:Value} {u:Lz.ag} (h:ff w v u):∃(sch usr pas:ByteArray) (hh:Bool) (hst:ByteArray) (prt:Int) (opq:Bool) (a:Option Addr) (n c:Nat) (hq hf:Bool) (qry frg:ByteArray),
  v=.agg #[.string sch,.string usr,.string pas,.bool hh,.string hst,.int .i64 prt,.bool opq,.slice a n c,.bool hq,.bool hf,.string qry,.string frg]:=by
 obtain⟨sch,usr,pas,hh,hst,prt,opq,a,c,xs,hq,hf,qry,frg,h1,_⟩:=h.val.form;exact⟨sch,usr,pas,hh,hst,prt,opq,a,xs.length,c,hq,hf,qry,frg,h1⟩
structure P5 (r6 p:Nat) (C6 Cp:Array Value) (fr:Nat×Nat) (x y:Lz.ag) (W0 V:World):Prop where
 row6:V.heap[r6]? =some (.cells C6 32 (0,0))
 rowp:V.heap[p]? =some (.cells Cp 32 fr)
 below:Below W0.heap.size W0 V
 val6:aX V (.agg C6) x
 valp:aX V (.agg Cp) y
theorem P5.call {r6 p:Nat} {C6 Cp:Array Value} {fr:Nat×Nat} {x y:Lz.ag} {W0 V V':World} (h:P5 r6 p C6 Cp fr x y W0 V) (hb:Below V.heap.size V V'):P5 r6 p C6 Cp fr x y W0 V':=
 ⟨(hb.block _ (af h.row6)).trans h.row6,(hb.block _ (af h.rowp)).trans h.rowp,ac h.below hb,h.val6.below hb,h.valp.below hb⟩
theorem P5.drew {r6 p:Nat} {C6 Cp:Array Value} {fr:Nat×Nat} {x y:Lz.ag} {W0 V:World} (h:P5 r6 p C6 Cp fr x y W0 V):P5 r6 p C6 Cp fr x y W0 V.drew:=h.call (Below.refl _ _).drew
theorem dW {V:World} {r:Nat} {x0 x1 x2 x3 x4 x5 x6 x7 x8 x9 nA nB:Value} {t:TypeId} {fr:Nat×Nat} (h:V.heap[r]? =some (.cells #[x0,x1,x2,x3,x4,x5,x6,x7,x8,x9,nA,nB] t fr)):V.cell? ⟨r,0,none⟩=some (x0)/\V.cell? ⟨r,1,none⟩=some (x1)/\V.cell? ⟨r,2,none⟩=some (x2)/\V.cell? ⟨r,3,none⟩=some (x3)/\V.cell? ⟨r,4,none⟩=some (x4)/\V.cell? ⟨r,5,none⟩=some (x5)/\V.cell? ⟨r,6,none⟩=some (x6)/\V.cell? ⟨r,7,none⟩=some (x7)/\V.cell? ⟨r,8,none⟩=some (x8)/\V.cell? ⟨r,9,none⟩=some (x9)/\V.cell? ⟨r,10,none⟩=some (nA)/\V.cell? ⟨r,11,none⟩=some (nB):=
 ⟨rowAt h 0 _ rfl,rowAt h 1 _ rfl,rowAt h 2 _ rfl,rowAt h 3 _ rfl,rowAt h 4 _ rfl,rowAt h 5 _ rfl,rowAt h 6 _ rfl,rowAt h 7 _ rfl,rowAt h 8 _ rfl,rowAt h 9 _ rfl,rowAt h 10 _ rfl,rowAt h 11 _ rfl⟩
theorem FB {s:List UInt8} (h:s.length<=4000):Lz.dg s none=Lz.gE s none:=by
 unfold Lz.dg;rw[if_neg (by omega)]
theorem qw {s:List UInt8} (h:s.length<=4000) (y:Lz.ag):Lz.dg s (some y)=if Lz.gE (Lz.nY y) none=.ok y then Lz.gE s (some y)else .er 2:=by
 unfold Lz.dg;rw[if_neg (by omega)]
theorem wJ (b:Option Lz.ag) (bv:Value) (s:ByteArray) (w:World) (hE:ot w) (JF:iJ w.heap.size w bv b) (hB:∀y,b=some y->Gn y):Calls Tryz.prog 8 #[.string s,bv] w (IH (Lz.dg s.data.toList b) w):=by
 obtain⟨W,hW⟩:∃W,W=w.alloc (.cells pQ 32):=⟨_,rfl⟩;have aS:Below w.heap.size w W:=by rw[hW];exact(Below.refl _ w).alloc (Nat.le_refl _) _
 have hR:W.heap[w.heap.size]? =some (.cells pQ 32 (0,0)):=by rw[hW];exact ah _ _
 have qj:=hE.below aS;have aV:=af hR;have Fk:iJ W.heap.size W bv b:=(JF.at aS).mono (by omega);obtain⟨goal,hg⟩:∃goal,goal=Lz.dg s.data.toList b:=⟨_,rfl⟩;rw[<-hg];have HG:=Ih hg;have HW:=Ih hW;have HR:=Ih hR;clear hg hW hR hE;by_cases ba:4000<s.size
 ·have aaj:(4000:Int)<(s.size:Int):=by omega
  have oX:Hid (goal=.er 3):=by
   show _=_;rw[HG.out];unfold Lz.dg;rw[if_pos (by rw[aa];exact ba)]
  clear ba;go_enter Tryz.func8,Tryz.ntmps8
  go_wp2_with (first |rw[<-HW.out]|(refine wpList_store_row rfl 32 (.tmp 4) (.tmp 13) rfl w.heap.size pQ rfl rfl 32 _ HR.out bY rfl (by simp[Value.oneCell']) ?_))
  refine bodyPost_ret (aW (P:=Tryz.prog) (u:=5) rfl _ _ w.heap.size 32 _ (0,0) _ rfl (setRow_heap _ _ _ _ _ _ HR.out) Tryz.underlying32 rfl bY) rfl ?_;refine⟨_,_,rfl,aH aS (Nat.le_refl _),?_⟩;rw[oX.out];exact⟨rfl,xV _⟩
 ·have aaj:¬(4000:Int)<(s.size:Int):=by omega
  have ju:s.size<=4000:=by omega
  have zr:s.data.toList.length<=4000:=by rw[aa];exact ju
  clear ba;go_enter Tryz.func8,Tryz.ntmps8
  go_upto_region 3 with(rw[<-HW.out])
  go_cut [15] (fun s wx=>s=.bool b.isSome/\W=wx)
  case first=>
   cases b with
   | none=>
     obtain rfl:bv=.pointer none:=Fk
     go_wp2_with fail
     go_meet;exact⟨rfl,rfl⟩
   | some y=>
     obtain⟨p,fr,sch,usr,pas,hh,hst,prt,opq,a,c,xs,hq,hf,qry,frg,rfl,_⟩:=Fk
     go_wp2_with fail
     go_meet;exact⟨rfl,rfl⟩
  case rest=>
  obtain⟨rfl,rfl⟩:=hcut
  go_upto_if 15 with fail
  go_cut [] (fun wx=>Below W.heap.size W wx/\Hid (goal=Lz.gE s.data.toList b)/\Hid (∀y,b=some y->Lz.gE (Lz.nY y) none=.ok y))
  case first=>
   cases b with
   | none=>
     obtain rfl:bv=.pointer none:=Fk;have zn:Hid (goal=Lz.gE s.data.toList none):=Ih (HG.out.trans (FB zr));clear HG
     go_wp2_with fail
     go_meet;exact⟨Below.refl _ _,zn,Ih (fun y hy=>by cases hy)⟩
   | some y=>
     obtain⟨yh,yp,y0,y1,yt⟩:=hB y rfl;obtain⟨p,fr,sch,usr,pas,hh,hst,prt,opq,a,c,xs,hq,hf,qry,frg,rfl,hp,aZ,hu,hx⟩:=Fk
     have hyv:aX W (.agg #[.string sch,.string usr,.string pas,.bool hh,.string hst,.int .i64 prt,.bool opq,.slice a xs.length c,.bool hq,.bool hf,.string qry,.string frg]) y:=
      ⟨⟨sch,usr,pas,hh,hst,prt,opq,.slice a xs.length c,xs,hq,hf,qry,frg⟩,rfl,⟨a,c,xs,rfl,rfl,hx⟩,Ih hu.symm⟩
     have cT:=Ih (M7 _ y W hyv qj.h y0 y1 yh (by omega) yp);have dV:=Ih aZ;have Hyv:=Ih hyv;clear aZ hu hx hyv JF
     go_wp2_with (refine wpList_load_row rfl 32 (.tmp 18) rfl p rfl 32 _ fr _ dV.out Tryz.underlying32 rfl bY ?_)
     refine cT.out.mono ?_;rintro e w1 ⟨t,rfl,ht,ar⟩;have L5:t.size<=800000:=by rw[<-aa,ht.out];exact yt
     have cR:=Ih (DK none (.pointer none) t L5 w1 (qj.below ar) rfl (fun y hy=>by cases hy));rw[ht.out]at cR;obtain⟨rT,hrT⟩:∃rT,rT=Lz.gE (Lz.nY y) none:=⟨_,rfl⟩;rw[<-hrT]at cR;have Yv:=Ih hrT;clear hrT cT
     go_wp2_with fail
     refine cR.out.mono ?_;rintro e w2 ⟨v1,v2,rfl,az,bA⟩;have bI:=ac ar az;clear cR;cases rT with
     | er n=>
       obtain⟨ee,uL⟩:=bA;obtain⟨pb,rfl⟩:=ee;obtain⟨bo,cw,ck,cv,aU,cf,cq,a1,n1,c1,bO,bU,cz,de,rfl⟩:=uL.form
       have Xt:Hid (goal=.er 2):=by
        show _=_;rw[HG.out,qw zr,<-Yv.out,if_neg (by simp)]
       have eE:Below w.heap.size w (w2.alloc (.cells #[.string bo,.string cw,.string ck,.bool cv,.string aU,.int .i64 cf,.bool cq,.slice a1 n1 c1,.bool bO,.bool bU,.string cz,.string de] 32)):=(aS.trans (bI.mono aS.size)).alloc (Nat.le_trans aS.size bI.size) _
       have hRV:(w2.alloc (.cells #[.string bo,.string cw,.string ck,.bool cv,.string aU,.int .i64 cf,.bool cq,.slice a1 n1 c1,.bool bO,.bool bU,.string cz,.string de] 32)).heap[w.heap.size]? =some (.cells pQ 32 (0,0)):=by
        rw[Below.heap_alloc _ _ _ (Nat.lt_of_lt_of_le aV bI.size)];exact(bI.block _ aV).trans HR.out
       clear HG Yv uL
       go_upto_region 5 with fail
       generalize w2.alloc (.cells #[.string bo,.string cw,.string ck,.bool cv,.string aU,.int .i64 cf,.bool cq,.slice a1 n1 c1,.bool bO,.bool bU,.string cz,.string de] 32)=V at eE hRV⊢
       go_quiet (fail)
       have nW:Below w.heap.size w (V.drewN nq):=below_drewN eE nq;have Yl:(V.drewN nq).heap[w.heap.size]? =some (.cells pQ 32 (0,0)):=hRV;generalize V.drewN nq=V2 at nW Yl⊢
       go_wp2_with (refine wpList_store_row rfl 32 (.tmp 4) (.tmp 34) rfl w.heap.size pQ rfl rfl 32 _ Yl bY rfl (by simp[Value.oneCell']) ?_)
       refine bodyPost_ret (aW (P:=Tryz.prog) (u:=5) rfl _ _ w.heap.size 32 _ (0,0) _ rfl (setRow_heap _ _ _ _ _ _ Yl) Tryz.underlying32 rfl bY) rfl ?_;refine⟨_,_,rfl,aH nW (Nat.le_refl _),?_⟩;rw[Xt.out];exact⟨rfl,xV _⟩
     | ok x=>
       obtain⟨rfl,uL⟩:=bA;obtain⟨bo,cw,ck,cv,aU,cf,cq,a1,n1,c1,bO,bU,cz,de,rfl⟩:=uL.form
       have o7:x.path.length<=1000000000:=by
        have h1:=Lz.pu Yv.out.symm (fun _ h=>by cases h);have h2:=Lz.Bb x;have h3:Lz.bq none=0:=rfl;omega
       have hP:P5 w2.heap.size p #[.string bo,.string cw,.string ck,.bool cv,.string aU,.int .i64 cf,.bool cq,.slice a1 n1 c1,.bool bO,.bool bU,.string cz,.string de] #[.string sch,.string usr,.string pas,.bool hh,.string hst,.int .i64 prt,.bool opq,.slice a xs.length c,.bool hq,.bool hf,.string qry,.string frg] fr x y w2 (w2.alloc (.cells #[.string bo,.string cw,.string ck,.bool cv,.string aU,.int .i64 cf,.bool cq,.slice a1 n1 c1,.bool bO,.bool bU,.string cz,.string de] 32)):=by
        have hrp:w2.heap[p]? =some (.cells #[.string sch,.string usr,.string pas,.bool hh,.string hst,.int .i64 prt,.bool opq,.slice a xs.length c,.bool hq,.bool hf,.string qry,.string frg] 32 fr):=(bI.block _ hp).trans dV.out;have AK:Below w2.heap.size w2 (w2.alloc (.cells #[.string bo,.string cw,.string ck,.bool cv,.string aU,.int .i64 cf,.bool cq,.slice a1 n1 c1,.bool bO,.bool bU,.string cz,.string de] 32)):=(Below.refl _ _).alloc (Nat.le_refl _) _;exact⟨ah _ _,(AK.block _ (af hrp)).trans hrp,AK,uL.val.below AK,(Hyv.out.below bI).below AK⟩
       obtain⟨q,Cs⟩:∃q,q=decide (x=y):=⟨_,rfl⟩;have HQ:=Ih Cs;have cS:Hid (∀r6 V,P5 r6 p #[.string bo,.string cw,.string ck,.bool cv,.string aU,.int .i64 cf,.bool cq,.slice a1 n1 c1,.bool bO,.bool bU,.string cz,.string de] #[.string sch,.string usr,.string pas,.bool hh,.string hst,.int .i64 prt,.bool opq,.slice a xs.length c,.bool hq,.bool hf,.string qry,.string frg] fr x y w2 V->Calls Tryz.prog 15 #[.agg #[.string bo,.string cw,.string ck,.bool cv,.string aU,.int .i64 cf,.bool cq,.slice a1 n1 c1,.bool bO,.bool bU,.string cz,.string de],.agg #[.string sch,.string usr,.string pas,.bool hh,.string hst,.int .i64 prt,.bool opq,.slice a xs.length c,.bool hq,.bool hf,.string qry,.string frg]] V fun e w'=>e=.returned (.bool q)/\P5 r6 p #[.string bo,.string cw,.string ck,.bool cv,.string aU,.int .i64 cf,.bool cq,.slice a1 n1 c1,.bool bO,.bool bU,.string cz,.string de] #[.string sch,.string usr,.string pas,.bool hh,.string hst,.int .i64 prt,.bool opq,.slice a xs.length c,.bool hq,.bool hf,.string qry,.string frg] fr x y w2 w'):=Ih (fun r6 V hV=>(Mn _ _ x y V hV.val6 hV.valp o7).mono fun e w' ⟨h1,h2⟩=>⟨by rw[h1,Cs],hV.call h2⟩)
       clear Cs uL
       go_upto_region 5 with fail
       generalize w2.alloc (.cells #[.string bo,.string cw,.string ck,.bool cv,.string aU,.int .i64 cf,.bool cq,.slice a1 n1 c1,.bool bO,.bool bU,.string cz,.string de] 32)=V at hP⊢;generalize hr6:w2.heap.size=r6 at hP⊢;have Tq:=hP.drew;have cS6:=Ih (cS.out r6);have HP:=Ih hP;clear hr6 cS hP
       go_cut [33] (fun s wx=>s=.bool (!q)/\P5 r6 p #[.string bo,.string cw,.string ck,.bool cv,.string aU,.int .i64 cf,.bool cq,.slice a1 n1 c1,.bool bO,.bool bU,.string cz,.string de] #[.string sch,.string usr,.string pas,.bool hh,.string hst,.int .i64 prt,.bool opq,.slice a xs.length c,.bool hq,.bool hf,.string qry,.string frg] fr x y w2 wx)
       case first=>
        go_region_held3 (fun V=>(V.cell? ⟨r6,0,none⟩=some (.string bo)/\V.cell? ⟨r6,1,none⟩=some (.string cw)/\V.cell? ⟨r6,2,none⟩=some (.string ck)/\V.cell? ⟨r6,3,none⟩=some (.bool cv)/\V.cell? ⟨r6,4,none⟩=some (.string aU)/\V.cell? ⟨r6,5,none⟩=some (.int .i64 cf)/\V.cell? ⟨r6,6,none⟩=some (.bool cq)/\V.cell? ⟨r6,7,none⟩=some (.slice a1 n1 c1)/\V.cell? ⟨r6,8,none⟩=some (.bool bO)/\V.cell? ⟨r6,9,none⟩=some (.bool bU)/\V.cell? ⟨r6,10,none⟩=some (.string cz)/\V.cell? ⟨r6,11,none⟩=some (.string de))/\(V.cell? ⟨p,0,none⟩=some (.string sch)/\V.cell? ⟨p,1,none⟩=some (.string usr)/\V.cell? ⟨p,2,none⟩=some (.string pas)/\V.cell? ⟨p,3,none⟩=some (.bool hh)/\V.cell? ⟨p,4,none⟩=some (.string hst)/\V.cell? ⟨p,5,none⟩=some (.int .i64 prt)/\V.cell? ⟨p,6,none⟩=some (.bool opq)/\V.cell? ⟨p,7,none⟩=some (.slice a xs.length c)/\V.cell? ⟨p,8,none⟩=some (.bool hq)/\V.cell? ⟨p,9,none⟩=some (.bool hf)/\V.cell? ⟨p,10,none⟩=some (.string qry)/\V.cell? ⟨p,11,none⟩=some (.string frg))/\P5 r6 p #[.string bo,.string cw,.string ck,.bool cv,.string aU,.int .i64 cf,.bool cq,.slice a1 n1 c1,.bool bO,.bool bU,.string cz,.string de] #[.string sch,.string usr,.string pas,.bool hh,.string hst,.int .i64 prt,.bool opq,.slice a xs.length c,.bool hq,.bool hf,.string qry,.string frg] fr x y w2 V) (first |exact⟨dW (P5.row6 (by assumption)),dW (P5.rowp (by assumption)),by assumption⟩) (first |(go_at_call 15;refine(cS6.out _ (by assumption)).mono ?_;rintro e w4 ⟨rfl,WM⟩))
        go_wp2_with fail
        go_meet;exact⟨rfl,by assumption⟩
       case rest=>
       obtain⟨rfl,WM⟩:=hcut;cases q with
       | true=>
         have hxy:x=y:=of_decide_eq_true HQ.out.symm
         have zn:Hid (goal=Lz.gE s.data.toList (some y)):=by
          show _=_;rw[HG.out,qw zr,<-Yv.out,if_pos (by rw[hxy])]
         have HF:Hid (∀y',some y=some y'->Lz.gE (Lz.nY y') none=.ok y'):=Ih (fun y' e=>by injection e with e;subst e;rw[<-Yv.out,hxy]);have dy:=ac bI WM.below;clear HQ HG hxy
         go_wp2_with fail
         go_meet;exact⟨dy,zn,HF⟩
       | false=>
         have Xt:Hid (goal=.er 2):=by
          show _=_;rw[HG.out,qw zr,<-Yv.out,if_neg (fun e=>by injection e with e;exact of_decide_eq_false HQ.out.symm e)]
         have dy:=ac bI WM.below;have nW:Below w.heap.size w wc:=aS.trans (dy.mono aS.size);have Yl:wc.heap[w.heap.size]? =some (.cells pQ 32 (0,0)):=(dy.block _ aV).trans HR.out;clear HQ HG
         go_wp2_with (refine wpList_store_row rfl 32 (.tmp 4) (.tmp 34) rfl w.heap.size pQ rfl rfl 32 _ Yl bY rfl (by simp[Value.oneCell']) ?_)
         refine bodyPost_ret (aW (P:=Tryz.prog) (u:=5) rfl _ _ w.heap.size 32 _ (0,0) _ rfl (setRow_heap _ _ _ _ _ _ Yl) Tryz.underlying32 rfl bY) rfl ?_;refine⟨_,_,rfl,aH nW (Nat.le_refl _),?_⟩;rw[Xt.out];exact⟨rfl,xV _⟩
  case rest=>
   obtain⟨LU,zn,HF⟩:=hcut
   have hN:∀y,b=some y->Lz.NU y/\Lz.wq y<=20000000:=fun y hy=>by
    have h1:=HF.out y hy;have h2:=(hB y hy).text;have h3:=Lz.pu h1 (fun _ h=>by cases h);have h4:Lz.bq none=0:=rfl;exact⟨Lz.nr h1 (fun _ h=>by cases h),by omega⟩
   have cR:=Ih (DK b bv s (by omega) wc (qj.below LU) ((Fk.at LU).mono LU.size) hN);rw[<-zn.out]at cR;have acj:Hid (∀n,goal=.er n->n=70\/n=71\/n=72\/n=81\/n=82):=Ih (fun n hn=>Lz.sX (zn.out.symm.trans hn));clear HG zn HF hN hB JF Fk
   go_wp2_with fail
   refine cR.out.mono ?_;rintro e w2 ⟨v1,v2,rfl,az,bA⟩;have bI:=ac LU az;clear cR
   obtain⟨u,n,hn,uL⟩:∃(u:Lz.ag) (n:Int),(ra goal w2 v1 n/\(∀V,Calls Tryz.prog 16 #[v2] V (D3 n V))/\((∃u',goal=.ok u'/\u=u'/\n=0)\/∃k,goal=.er k/\u=tV/\n=(k:Int)))/\ff w2 v1 u:=by
    cases goal with
    | ok u'=>
      obtain⟨rfl,h1⟩:=bA;exact⟨u',0,⟨⟨rfl,h1⟩,R2,Or.inl ⟨u',rfl,rfl,rfl⟩⟩,h1⟩
    | er k=>
      obtain⟨h0,h1⟩:=bA;exact⟨tV,k,⟨⟨rfl,h1⟩,Od k (acj.out k rfl) v2 h0,Or.inr ⟨k,rfl,rfl,rfl⟩⟩,h1⟩
   obtain⟨_,TI,hgo⟩:=hn;obtain⟨bo,cw,ck,cv,aU,cf,cq,a1,n1,c1,bO,bU,cz,de,rfl⟩:=uL.form
   have hP:P8 w.heap.size w2.heap.size #[.string bo,.string cw,.string ck,.bool cv,.string aU,.int .i64 cf,.bool cq,.slice a1 n1 c1,.bool bO,.bool bU,.string cz,.string de] u w (w2.alloc (.cells #[.string bo,.string cw,.string ck,.bool cv,.string aU,.int .i64 cf,.bool cq,.slice a1 n1 c1,.bool bO,.bool bU,.string cz,.string de] 32)):=by
    have Co:w2.heap[w.heap.size]? =some (.cells pQ 32 (0,0)):=(bI.block _ aV).trans HR.out;have AK:Below w2.heap.size w2 (w2.alloc (.cells #[.string bo,.string cw,.string ck,.bool cv,.string aU,.int .i64 cf,.bool cq,.slice a1 n1 c1,.bool bO,.bool bU,.string cz,.string de] 32)):=(Below.refl _ _).alloc (Nat.le_refl _) _;have aK:Below w.heap.size w w2:=aS.trans (bI.mono aS.size);exact⟨ah _ _,⟨_,(AK.block _ (af Co)).trans Co,rfl⟩,aK.trans (AK.mono aK.size),uL.below AK⟩
   have ed:w.heap.size≠w2.heap.size:=by have:=bI.size;omega
   have TO:=Ih TI;have Hgo:=Ih hgo;clear TI hgo uL bA
   go_upto_region 8 with fail
   generalize w2.alloc (.cells #[.string bo,.string cw,.string ck,.bool cv,.string aU,.int .i64 cf,.bool cq,.slice a1 n1 c1,.bool bO,.bool bU,.string cz,.string de] 32)=V at hP⊢;generalize hr8:w2.heap.size=r8 at hP ed⊢;have Tq:=hP.drew;have cC:Hid (∀V,P8 w.heap.size r8 #[.string bo,.string cw,.string ck,.bool cv,.string aU,.int .i64 cf,.bool cq,.slice a1 n1 c1,.bool bO,.bool bU,.string cz,.string de] u w V->Calls Tryz.prog 16 #[v2] V fun e w'=>e=.returned (.int .i64 n)/\P8 w.heap.size r8 #[.string bo,.string cw,.string ck,.bool cv,.string aU,.int .i64 cf,.bool cq,.slice a1 n1 c1,.bool bO,.bool bU,.string cz,.string de] u w w'):=Ih (fun V hV=>(TO.out V).mono fun e w' ⟨h1,h2⟩=>⟨h1,hV.call h2⟩);have HP:=Ih hP;have LJ:(#[.string bo,.string cw,.string ck,.bool cv,.string aU,.int .i64 cf,.bool cq,.slice a1 n1 c1,.bool bO,.bool bU,.string cz,.string de]:Array Value).all (·.oneCell')=true:=by simp[Value.oneCell']
   clear hr8 TO hP;refine wp_region_held_drew (S:=P8 w.heap.size r8 #[.string bo,.string cw,.string ck,.bool cv,.string aU,.int .i64 cf,.bool cq,.slice a1 n1 c1,.bool bO,.bool bU,.string cz,.string de] u w) (by kernel_rfl) Tq (fun ae=>?_);refine wpAnyH_take (i:=0) (oi:=({dst:=some 41,op:=Op.load 32 (Operand.tmp 8),type:=32,pos:= "urls.go:378",after:= #[],guard:=none}:Oper)) (v:=.agg #[.string bo,.string cw,.string ck,.bool cv,.string aU,.int .i64 cf,.bool cq,.slice a1 n1 c1,.bool bO,.bool bU,.string cz,.string de]) rfl (by kernel_rfl) (by kernel_rfl) (by kernel_rfl) (fun _ _ _ h=>h) (Or.inl ⟨by rfl,?_⟩) (by assumption) ?_
   ·exact fun W hW=>yL (.tmp 8) rfl r8 rfl _ (0,0) (P8.row8 hW) rfl
   (try simp only[Act.put,List.setIfInBounds_toArray,List.set_cons_zero,List.set_cons_succ])
   refine wpAnyH_take (i:=1) (oi:=({dst:=some 42,op:=Op.move (Operand.tmp 9),type:=54,pos:= "urls.go:378",after:= #[],guard:=none}:Oper)) (v:=v2) rfl (by kernel_rfl) (by kernel_rfl) (by kernel_rfl) (fun _ _ _ h=>h) (Or.inl ⟨by rfl,?_⟩) (by assumption) ?_
   ·intro W aM;go_simp
    try with_reducible rfl
   (try simp only[Act.put,List.setIfInBounds_toArray,List.set_cons_zero,List.set_cons_succ])
   refine wpAnyH_ready (rs:=[2]) (by kernel_rfl) (by simp) ?_;refine AllReadyH.cons rfl (fun K hK=>?_) AllReadyH.nil;go_simp
   go_at_call 16
   refine(cC.out _ (by assumption)).mono ?_;rintro e w4 ⟨rfl,WM⟩;refine hK.out _ _ WM (fun ae=>?_);clear hK K
   (try simp only[Act.put,List.setIfInBounds_toArray,List.set_cons_zero,List.set_cons_succ])
   refine wpAnyH_ready (rs:=[3]) (by kernel_rfl) (by simp) ?_;refine AllReadyH.cons rfl (fun K hK=>?_) AllReadyH.nil;rw[if_pos (by rfl)];refine P8.store (r4:=w.heap.size) (r8:=r8) (C8:= #[.string bo,.string cw,.string ck,.bool cv,.string aU,.int .i64 cf,.bool cq,.slice a1 n1 c1,.bool bO,.bool bU,.string cz,.string de]) (u:=u) (W0:=w) ?h0 ed rfl LJ (.tmp 4) (.tmp 41) rfl rfl rfl ?h1
   case h0=>assumption
   rintro⟨hP9,hr9⟩;refine hK.out _ _ hP9 (fun ae=>?_);clear hK K
   (try simp only[Act.put,List.setIfInBounds_toArray])
   refine wpAnyH_take (i:=4) (oi:=({dst:=some 5,op:=Op.assign (Operand.tmp 43),type:=33,pos:= "urls.go:378",after:= #[{on:=2,ground:=Ground.data},{on:=3,ground:=Ground.chain},{on:=0,ground:=Ground.phase},{on:=1,ground:=Ground.phase},{on:=2,ground:=Ground.phase},{on:=3,ground:=Ground.phase}],guard:=none}:Oper)) (v:=.int .i64 n) rfl (by kernel_rfl) (by kernel_rfl) (by kernel_rfl) (fun _ _ _ h=>h) (Or.inl ⟨by rfl,?_⟩) (by assumption) ?_
   ·intro W aM;go_simp
    try with_reducible rfl
   (try simp only[Act.put])
   refine wpAnyH_done (by kernel_rfl) ?_ _
   go_wp2_with fail
   refine bodyPost_ret (aW (P:=Tryz.prog) (u:=5) rfl _ _ w.heap.size 32 _ (0,0) _ rfl hr9 Tryz.underlying32 rfl bY) rfl ?_;refine⟨_,_,rfl,hP9.below,?_⟩;rcases Hgo.out with⟨u',h1,rfl,rfl⟩|⟨k,h1,rfl,rfl⟩
   ·rw[h1];exact⟨rfl,hP9.own⟩
   ·rw[h1];exact⟨rfl,hP9.own⟩
attribute [local go_sem ↓] Go.wp_at_zero Go.wp_at_succ
theorem aX.letters {w:World} {v:Value} {u:Lz.ag} (h:aX w v u):∃(bo cw ck:ByteArray) (cv:Bool) (aU:ByteArray) (cf:Int) (cq:Bool) (a1:Option Addr) (n1 c1:Nat) (bO bU:Bool) (cz de:ByteArray),
  v=.agg #[.string bo,.string cw,.string ck,.bool cv,.string aU,.int .i64 cf,.bool cq,.slice a1 n1 c1,.bool bO,.bool bU,.string cz,.string de]/\u.scheme=bo.data.toList/\u.hasHost=cv/\u.host=aU.data.toList/\u.port=cf/\u.opq=cq/\aX w (.agg #[.string bo,.string cw,.string ck,.bool cv,.string aU,.int .i64 cf,.bool cq,.slice a1 n1 c1,.bool bO,.bool bU,.string cz,.string de]) u:=by
 obtain⟨bo,cw,ck,cv,aU,cf,cq,a1,c1,xs,bO,bU,cz,de,rfl,e,hx⟩:=h.form;exact⟨bo,cw,ck,cv,aU,cf,cq,a1,xs.length,c1,bO,bU,cz,de,rfl,by rw[e],by rw[e],by rw[e],by rw[e],by rw[e],h⟩
theorem lM (v:Value) (u:Lz.ag) (w:World) (hv:aX w v u):Calls Tryz.prog 189 #[v] w (D3 (Lz.uS u) w):=by
 obtain⟨bo,cw,ck,cv,aU,cf,cq,a1,n1,c1,bO,bU,cz,de,rfl,e1,_,_,e5,_,hv⟩:=hv.letters;have ku:Below w.heap.size w (w.alloc (.cells #[.string bo,.string cw,.string ck,.bool cv,.string aU,.int .i64 cf,.bool cq,.slice a1 n1 c1,.bool bO,.bool bU,.string cz,.string de] 32)):=(Below.refl _ w).alloc (Nat.le_refl _) _;by_cases h0:0<=cf
 ·have HV:Hid (Lz.uS u=cf):=by show _=_;unfold Lz.uS;rw[e5,if_pos h0]
  clear hv e1 e5;go_enter Tryz.func189,Tryz.ntmps189
  go_wp2_with fail
  go_ret;exact⟨by rw[HV.out];rfl,ku⟩
 ·have HV:Hid (Lz.uS u=Lz.gI bo.data.toList):=by show _=_;unfold Lz.uS;rw[e5,if_neg h0,e1]
  have cD:=Ih (fun W=>fu bo W);clear hv e1 e5;go_enter Tryz.func189,Tryz.ntmps189
  go_wp2_with fail
  refine(cD.out _).mono ?_;rintro e w1 ⟨rfl,rfl⟩
  go_wp2_with fail
  go_ret;exact⟨by rw[HV.out];rfl,ku⟩
theorem Gc (x:ak) (v:Value) (u:Lz.ag) (w:World) (hv:aX w v u):Calls Tryz.prog 192 #[x.val,v] w (aC (Lz.Ec x.src u) w):=by
 obtain⟨bo,cw,ck,cv,aU,cf,cq,a1,n1,c1,bO,bU,cz,de,rfl,e1,_,_,e5,_,hv⟩:=hv.letters;obtain⟨k,t,b,sc,ho,wd,po,pa⟩:=x;obtain⟨R,hR⟩:∃R,R=Lz.Ec (ak.src ⟨k,t,b,sc,ho,wd,po,pa⟩) u:=⟨_,rfl⟩;rw[<-hR]
 have JA:R=if po= -2 then true else if po= -1 then decide (cf<0)||cf==Lz.gI bo.data.toList else po==Lz.uS u:=by
  rw[hR];unfold Lz.Ec ak.src;rw[e5,e1]
 dsimp only[ak.val]
 obtain⟨W,hW⟩:∃W,W=(w.alloc (.cells #[.int .i64 k,.string t,.int .i64 b,.string sc,.string ho,.bool wd,.int .i64 po,.string pa] 174)).alloc (.cells #[.string bo,.string cw,.string ck,.bool cv,.string aU,.int .i64 cf,.bool cq,.slice a1 n1 c1,.bool bO,.bool bU,.string cz,.string de] 32):=⟨_,rfl⟩;have aS:Below w.heap.size w W:=by rw[hW];exact((Below.refl _ w).alloc (Nat.le_refl _) _).alloc (by simp) _
 have Mf:W.heap[w.heap.size]? =some (.cells #[.int .i64 k,.string t,.int .i64 b,.string sc,.string ho,.bool wd,.int .i64 po,.string pa] 174 (0,0)):=by
  rw[hW,Below.heap_alloc _ _ _ (by simp)];exact ah _ _
 have sj:W.heap[w.heap.size+1]? =some (.cells #[.string bo,.string cw,.string ck,.bool cv,.string aU,.int .i64 cf,.bool cq,.slice a1 n1 c1,.bool bO,.bool bU,.string cz,.string de] 32 (0,0)):=by
  rw[hW];have:=ah (w.alloc (.cells #[.int .i64 k,.string t,.int .i64 b,.string sc,.string ho,.bool wd,.int .i64 po,.string pa] 174)) (.cells #[.string bo,.string cw,.string ck,.bool cv,.string aU,.int .i64 cf,.bool cq,.slice a1 n1 c1,.bool bO,.bool bU,.string cz,.string de] 32);simpa using this
 have c6:=rowAt Mf 6 (.int .i64 po) rfl;have HW:=Ih hW;clear hR hW;by_cases p2:po= -2
 ·have jU:(po== -2)=true:=by rw[p2];rfl
  have HV:Hid (R=true):=by show _=_;rw[JA,if_pos p2]
  clear JA p2 hv e1 e5;go_enter Tryz.func192,Tryz.ntmps192
  go_wp2_with fail
  rw[<-HW.out];go_ret;exact⟨by rw[HV.out];rfl,aS⟩
 ·have jU:(po== -2)=false:=beq_eq_false_iff_ne.2 p2;rw[if_neg p2]at JA;by_cases p1:po= -1
  ·have nQ:(po== -1)=true:=by rw[p1];rfl
   rw[if_pos p1]at JA;have c5:=rowAt sj 5 (.int .i64 cf) rfl;have c0:=rowAt sj 0 (.string bo) rfl;by_cases hp:cf<0
   ·have hd:decide (cf<0)=true:=decide_eq_true hp;have HV:Hid (R=true):=by show _=_;rw[JA,hd];rfl
    clear JA p2 p1 hv e1 e5 hp;go_enter Tryz.func192,Tryz.ntmps192
    go_wp2_with fail
    rw[<-HW.out]
    go_quiet (fail)
    go_wp2_with fail
    go_ret;exact⟨by rw[HV.out];rfl,below_drewN aS _⟩
   ·have hd:decide (cf<0)=false:=decide_eq_false hp;obtain⟨d,vm⟩:∃d,d=Lz.gI bo.data.toList:=⟨_,rfl⟩;have HV:Hid (R=(cf==d)):=by show _=_;rw[JA,hd,vm];rfl
    have cD:Hid (∀W,Calls Tryz.prog 133 #[.string bo] W fun e w'=>e=.returned (.int .i64 d)/\w'=W):=Ih (fun W=>(fu bo W).mono fun e w' ⟨h1,h2⟩=>⟨by rw[h1,vm],h2.symm⟩);clear JA p2 p1 hv e1 e5 hp vm;go_enter Tryz.func192,Tryz.ntmps192
    go_wp2_with fail
    rw[<-HW.out]
    go_quiet ((go_at_call 133;exact Calls.quiet_of_same (cD.out _)))
    go_wp2_with fail
    go_ret;exact⟨by rw[HV.out];rfl,below_drewN aS _⟩
  ·have nQ:(po== -1)=false:=beq_eq_false_iff_ne.2 p1;rw[if_neg p1]at JA;obtain⟨f,hf⟩:∃f,f=Lz.uS u:=⟨_,rfl⟩;have HV:Hid (R=(po==f)):=by show _=_;rw[JA,hf]
   have cE:Hid (∀V,Below W.heap.size W V->Calls Tryz.prog 189 #[.agg #[.string bo,.string cw,.string ck,.bool cv,.string aU,.int .i64 cf,.bool cq,.slice a1 n1 c1,.bool bO,.bool bU,.string cz,.string de]] V fun e w'=>e=.returned (.int .i64 f)/\Below W.heap.size W w'):=Ih (fun V hV=>(lM _ u V (hv.below (aS.trans (hV.mono aS.size)))).mono fun e w' ⟨h1,h2⟩=>⟨by rw[h1,hf],hV.trans (h2.mono hV.size)⟩)
   have hC:Hid (∀V,Below W.heap.size W V->V.cell? ⟨w.heap.size,6,none⟩=some (.int .i64 po)/\(V.cell? ⟨w.heap.size+1,0,none⟩=some (.string bo)/\V.cell? ⟨w.heap.size+1,1,none⟩=some (.string cw)/\V.cell? ⟨w.heap.size+1,2,none⟩=some (.string ck)/\V.cell? ⟨w.heap.size+1,3,none⟩=some (.bool cv)/\V.cell? ⟨w.heap.size+1,4,none⟩=some (.string aU)/\V.cell? ⟨w.heap.size+1,5,none⟩=some (.int .i64 cf)/\V.cell? ⟨w.heap.size+1,6,none⟩=some (.bool cq)/\V.cell? ⟨w.heap.size+1,7,none⟩=some (.slice a1 n1 c1)/\V.cell? ⟨w.heap.size+1,8,none⟩=some (.bool bO)/\V.cell? ⟨w.heap.size+1,9,none⟩=some (.bool bU)/\V.cell? ⟨w.heap.size+1,10,none⟩=some (.string cz)/\V.cell? ⟨w.heap.size+1,11,none⟩=some (.string de))):=Ih (fun V hV=>⟨by rw[hV.cell (p:=⟨w.heap.size,6,none⟩) (af Mf)];exact c6,dW ((hV.block _ (af sj)).trans sj)⟩);have Fu:Below W.heap.size W W:=Below.refl _ _;have pE:Below W.heap.size W W.drew:=(Below.refl _ _).drew;clear JA p2 p1 hv e1 e5 hf sj Mf;go_enter Tryz.func192,Tryz.ntmps192
   go_wp2_with fail
   rw[<-HW.out]
   go_region_held3 (fun V=>(V.cell? ⟨w.heap.size,6,none⟩=some (.int .i64 po)/\(V.cell? ⟨w.heap.size+1,0,none⟩=some (.string bo)/\V.cell? ⟨w.heap.size+1,1,none⟩=some (.string cw)/\V.cell? ⟨w.heap.size+1,2,none⟩=some (.string ck)/\V.cell? ⟨w.heap.size+1,3,none⟩=some (.bool cv)/\V.cell? ⟨w.heap.size+1,4,none⟩=some (.string aU)/\V.cell? ⟨w.heap.size+1,5,none⟩=some (.int .i64 cf)/\V.cell? ⟨w.heap.size+1,6,none⟩=some (.bool cq)/\V.cell? ⟨w.heap.size+1,7,none⟩=some (.slice a1 n1 c1)/\V.cell? ⟨w.heap.size+1,8,none⟩=some (.bool bO)/\V.cell? ⟨w.heap.size+1,9,none⟩=some (.bool bU)/\V.cell? ⟨w.heap.size+1,10,none⟩=some (.string cz)/\V.cell? ⟨w.heap.size+1,11,none⟩=some (.string de)))/\Below W.heap.size W V) (first |exact⟨hC.out _ (by assumption),by assumption⟩) (first |(go_at_call 189;refine(cE.out _ (by assumption)).mono ?_;rintro e w5 ⟨rfl,fJ⟩))
   go_wp2_with fail
   go_ret;exact⟨by rw[HV.out];rfl,aS.trans (fJ.mono aS.size)⟩
end Go.Proofs.YtecoeebjaleeiaaGreatDoor
