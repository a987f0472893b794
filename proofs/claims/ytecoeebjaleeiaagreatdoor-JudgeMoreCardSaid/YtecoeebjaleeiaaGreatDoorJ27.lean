/-
  Package urls: Text.
-/
import Derived.Test.YtecoeebjaleeiaaGreatDoorJ24
import Derived.Test.YtecoeebjaleeiaaGreatDoorJ25
set_option maxHeartbeats 8000000
set_option maxRecDepth 100000
namespace Go.Proofs.YtecoeebjaleeiaaGreatDoor
open Go.RowKit
theorem iJ.mono {B B':Nat} {w:World} {bv:Value} {b:Option Lz.ag} (h:iJ B w bv b) (hB:B<=B'):iJ B' w bv b:=by
 cases b with
 | none=>exact h
 | some u=>
   obtain⟨p,fr,sch,usr,pas,hh,hst,prt,opq,a,c,xs,hq,hf,qry,frg,h1,h2,h3,h4,h5⟩:=h;refine⟨p,fr,sch,usr,pas,hh,hst,prt,opq,a,c,xs,hq,hf,qry,frg,h1,by omega,h3,h4,fun j x hj=>?_⟩;obtain⟨G,off,e1,e2,e3⟩:=h5 j x hj;exact⟨G,off,e1,by omega,e3⟩
theorem aX.below {w w':World} {v:Value} {u:Lz.ag} (h:aX w v u) (hb:Below w.heap.size w w'):aX w' v u:=by
 obtain⟨x,h1,h2,h3⟩:=h;exact⟨x,h1,h2.below hb,h3⟩
def ff (w:World) (v:Value) (u:Lz.ag):Prop:=∃(B:Nat) (x:MkV),v=x.val/\aL w B x.pv x.xs/\Hid (x.url=u)
theorem ff.val {w:World} {v:Value} {u:Lz.ag} (h:ff w v u):aX w v u:=by
 obtain⟨B,x,h1,h2,h3⟩:=h;obtain⟨a,c,e,_,hc⟩:=h2.form;exact⟨x,h1,⟨a,c,x.xs,e,rfl,hc⟩,h3⟩
theorem ff.below {w w':World} {v:Value} {u:Lz.ag} (h:ff w v u) (hb:Below w.heap.size w w'):ff w' v u:=by
 obtain⟨B,x,h1,h2,h3⟩:=h;exact⟨B,x,h1,h2.below hb,h3⟩
def tV:Lz.ag:={port:=0}
def Ut (r:Lz.UR) (w:World) (v1 v2:Value):Prop:=match r with
 | .ok u=>v2=.nilIface/\ff w v1 u
 | .er n=>Gg n v2/\ff w v1 tV
def YJ (r:Lz.UR) (w:World) (e:Ending) (w':World):Prop:=∃v1 v2,e=.returned (.tuple #[v1,v2])/\Below w.heap.size w w'/\Ut r w' v1 v2
theorem fG (w:World) (g:Nat) (cs:Array Value):w.grownBy (w.setRow g cs) (some g):=
 ⟨rfl,rfl,rfl,by simp[World.setRow],fun k _ hk=>setRow_other _ _ _ _ (fun e=>hk (by rw[e]))⟩
theorem ff.setRow {w:World} {v:Value} {u:Lz.ag} (h:ff w v u) {r:Nat} {cs:Array Value} {fr:Nat×Nat} (hr:w.heap[r]? =some (.cells cs 32 fr)) (cs':Array Value):ff (w.setRow r cs') v u:=by
 obtain⟨B,x,h1,h2,h3⟩:=h;exact⟨B,x,h1,h2.kept (fG w r cs') (fun k hk=>by injection hk with hk;subst hk;exact⟨_,_,_,hr,by decide⟩),h3⟩
theorem Nx (s:List UInt8) (b:Option Lz.ag):Lz.gE s b=(Lz.iH {query:=(Lib.cut (Lib.cut (Lz.bK s) [35]).1 [63]).2.1,hasQuery:=(Lib.cut (Lib.cut (Lz.bK s) [35]).1 [63]).2.2,fragment:=(Lib.cut (Lz.bK s) [35]).2.1,hasFragment:=(Lib.cut (Lz.bK s) [35]).2.2} (Lib.cut (Lib.cut (Lz.bK s) [35]).1 [63]).1 b).bind Lz.Gy:=rfl
theorem Di {B M:Nat} {w w1:World} {u:Lz.ag} (hm:dS B M w1 u) (hb:Below B w w1) (h:ByteArray):
  Below B w (w1.setCell ⟨M,10,none⟩ (.string h))/\dS B M (w1.setCell ⟨M,10,none⟩ (.string h)) {u with query:=h.data.toList}:=by
 obtain⟨sch,usr,pas,hh,hst,prt,opq,a,c,ys,hq,hf,qry,frg,hk,rfl,hc,aA⟩:=hm.form;exact⟨hb.setCell (p:=⟨M,10,none⟩) hk.le _,_,dG hk 10 (.string h) ⟨sch,usr,pas,hh,hst,prt,opq,.slice a ys.length c,ys,hq,hf,h,frg⟩ (Lz.ai sch.data.toList) (bp (Lz.ai sch.data.toList)) (by simp) (fun _ h=>h),Ih rfl⟩
theorem IE {B M:Nat} {w w1:World} {u:Lz.ag} (hm:dS B M w1 u) (hb:Below B w w1) (h:ByteArray):
  Below B w (w1.setCell ⟨M,11,none⟩ (.string h))/\dS B M (w1.setCell ⟨M,11,none⟩ (.string h)) {u with fragment:=h.data.toList}:=by
 obtain⟨sch,usr,pas,hh,hst,prt,opq,a,c,ys,hq,hf,qry,frg,hk,rfl,hc,aA⟩:=hm.form;exact⟨hb.setCell (p:=⟨M,11,none⟩) hk.le _,_,dG hk 11 (.string h) ⟨sch,usr,pas,hh,hst,prt,opq,.slice a ys.length c,ys,hq,hf,qry,h⟩ (Lz.ai sch.data.toList) (bp (Lz.ai sch.data.toList)) (by simp) (fun _ h=>h),Ih rfl⟩
theorem OK {B M:Nat} {w:World} {u:Lz.ag} (hm:dS B M w u):∃q f:ByteArray,w.cell? ⟨M,10,none⟩=some (.string q)/\q.data.toList=u.query/\w.cell? ⟨M,11,none⟩=some (.string f)/\f.data.toList=u.fragment:=by
 obtain⟨sch,usr,pas,hh,hst,prt,opq,a,c,ys,hq,hf,qry,frg,hk,rfl,hc,aA⟩:=hm.form;exact⟨qry,frg,rowAt hk.row 10 _ rfl,rfl,rowAt hk.row 11 _ rfl,rfl⟩
theorem DK (b:Option Lz.ag) (bv:Value) (s:ByteArray) (hs:s.size<=800000) (w:World) (hE:ot w) (JF:iJ w.heap.size w bv b) (hN:∀y,b=some y->Lz.NU y/\Lz.wq y<=20000000):
  Calls Tryz.prog 13 #[.string s,bv] w (YJ (Lz.gE s.data.toList b) w):=by
 obtain⟨goal,dY⟩:∃goal,goal=Lz.gE s.data.toList b:=⟨_,rfl⟩;rw[<-dY];rw[Nx]at dY;have vp:=Lz.sN s.data.toList;have PM:=fun v hv=>Lz.GZ (s:=s.data.toList) (b:=b) (v:=v) hv (fun y hy=>(hN y hy).1)
 have nW:Lz.bq b<=20000000:=by
  cases b with
  | none=>exact Nat.zero_le _
  | some y=>exact(hN y rfl).2
 have bU:=Lz.kG 35 (Lz.bK s.data.toList);have bO:=Lz.kG 63 (Lib.cut (Lz.bK s.data.toList) [35]).1;obtain⟨W,hW⟩:∃W,W=(w.alloc (.cells #[.string ⟨#[]⟩,.string ⟨#[]⟩,.string ⟨#[]⟩,.bool false,.string ⟨#[]⟩,.int .i64 0,.bool false,.slice none 0 0,.bool false,.bool false,.string ⟨#[]⟩,.string ⟨#[]⟩] 32)).alloc (.cells #[.string ⟨#[]⟩,.string ⟨#[]⟩,.string ⟨#[]⟩,.bool false,.string ⟨#[]⟩,.int .i64 (-1),.bool false,.slice none 0 0,.bool false,.bool false,.string ⟨#[]⟩,.string ⟨#[]⟩,.bool false,.string ⟨#[]⟩] 69):=⟨_,rfl⟩;have aS:Below w.heap.size w W:=by rw[hW];exact((Below.refl _ w).alloc (Nat.le_refl _) _).alloc (by simp) _
 have hR:W.heap[w.heap.size]? =some (.cells #[.string ⟨#[]⟩,.string ⟨#[]⟩,.string ⟨#[]⟩,.bool false,.string ⟨#[]⟩,.int .i64 0,.bool false,.slice none 0 0,.bool false,.bool false,.string ⟨#[]⟩,.string ⟨#[]⟩] 32 (0,0)):=by
  rw[hW,Below.heap_alloc _ _ _ (by simp)];show(w.heap.push _)[w.heap.size]? =_;simp
 obtain⟨M,hM⟩:∃M,M=w.heap.size+1:=⟨_,rfl⟩
 have PU:W.heap[M]? =some (.cells #[.string ⟨#[]⟩,.string ⟨#[]⟩,.string ⟨#[]⟩,.bool false,.string ⟨#[]⟩,.int .i64 (-1),.bool false,.slice none 0 0,.bool false,.bool false,.string ⟨#[]⟩,.string ⟨#[]⟩,.bool false,.string ⟨#[]⟩] 69 (0,0)):=by
  rw[hW,hM];exact dm w _ _
 obtain⟨B,pE⟩:∃B,B=w.heap.size+1:=⟨_,rfl⟩;have sx:nT B M W ⟨⟨#[]⟩,⟨#[]⟩,⟨#[]⟩,false,⟨#[]⟩,-1,false,.slice none 0 0,[],false,false,⟨#[]⟩,⟨#[]⟩⟩ false ⟨#[]⟩:=⟨PU,aL.nil _ _,by omega⟩;have hwB:w.heap.size<B:=by omega
 have yA:B<=W.heap.size:=by have:=af PU;omega
 have qj:=hE.below aS;have kg:15<=B:=by have:=hE.h.size;omega
 have Fk:iJ B W bv b:=(JF.at aS).mono (by omega);have cC:=Ih (Lg s (by omega) W qj);have HW:=Ih hW;have HM:Hid (M=w.heap.size+1):=Ih hM;have HR:=Ih hR;have lm:=Ih dY;have Px:=Ih PM;have HE:=Ih hE;have Hf1:=Ih bU;have Hq1:=Ih bO;clear hW hR dY PM hE PU bU bO JF hM pE;go_enter Tryz.func13,Tryz.ntmps13
 go_wp2_with (rw[<-HW.out])
 rw[<-HM.out];refine cC.out.mono ?_;rintro e w1 ⟨u1,rfl,jR,ar⟩;have ada:u1.size<=s.size:=by rw[<-aa,jR.out];rw[aa]at vp;exact vp
 have cF:=Ih (EV u1 ⟨#[35]⟩ (by omega) w1 (qj.below ar).h);rw[show Lib.cut u1.data.toList (⟨#[35]⟩:ByteArray).data.toList=Lib.cut (Lz.bK s.data.toList) [35] by rw[jR.out]]at cF;obtain⟨hf,hhf⟩:∃hf,hf=(Lib.cut (Lz.bK s.data.toList) [35]).2.2:=⟨_,rfl⟩;rw[<-hhf]at cF;have Hhf:=Ih hhf;clear hhf
 go_wp2_with fail
 refine cF.out.mono ?_;rintro e w2 ⟨a1,f1,rfl,Cu,bU,az⟩;have fW:=ac ar az;have jy:=(sx.below ar).below az;have acL:a1.size<=s.size:=by rw[<-aa,Cu.out];have:=Hf1.out;rw[aa]at vp;omega
 have c11:=rowAt jy.row 11 (.string ⟨#[]⟩) rfl;have z11:=bE jy.row 11;have m3:=dG jy 11 (.string f1) ⟨⟨#[]⟩,⟨#[]⟩,⟨#[]⟩,false,⟨#[]⟩,-1,false,.slice none 0 0,[],false,false,⟨#[]⟩,f1⟩ false ⟨#[]⟩ (by simp) (fun _ h=>h);have c9:=rowAt m3.row 9 (.bool false) rfl;have z9:=bE m3.row 9;have m4:=dG m3 9 (.bool hf) ⟨⟨#[]⟩,⟨#[]⟩,⟨#[]⟩,false,⟨#[]⟩,-1,false,.slice none 0 0,[],false,hf,⟨#[]⟩,f1⟩ false ⟨#[]⟩ (by simp) (fun _ h=>h);have pI:=sx.le;have zq:Below B w2 ((w2.setCell ⟨M,11,none⟩ (.string f1)).setCell ⟨M,9,none⟩ (.bool hf)):=((Below.refl B w2).setCell (p:=⟨M,11,none⟩) pI _).setCell (p:=⟨M,9,none⟩) pI _;generalize hw4:(w2.setCell ⟨M,11,none⟩ (.string f1)).setCell ⟨M,9,none⟩ (.bool hf)=w4 at m4 zq;have vu:Below B W w4:=(fW.mono yA).trans zq;have hE4:dQ w4:=qj.h.at vu kg;have cQ:=Ih (EV a1 ⟨#[63]⟩ (by omega) w4 hE4);rw[show Lib.cut a1.data.toList (⟨#[63]⟩:ByteArray).data.toList=Lib.cut (Lib.cut (Lz.bK s.data.toList) [35]).1 [63] by rw[Cu.out]]at cQ;obtain⟨hq,hhq⟩:∃hq,hq=(Lib.cut (Lib.cut (Lz.bK s.data.toList) [35]).1 [63]).2.2:=⟨_,rfl⟩;rw[<-hhq]at cQ;have Hhq:=Ih hhq;have Hm4:=Ih m4;clear hhq m3 m4 jy sx cC cF
 go_wp2_with fail
 refine cQ.out.mono ?_;rintro e w5 ⟨a2,q2,rfl,yw,bQ,aI⟩;have acJ:a2.size<=s.size:=by rw[<-aa,yw.out];have:=Hq1.out;have:=Hf1.out;rw[aa]at vp;omega
 have so:=Hm4.out.below aI;have SR:Below B W w5:=vu.trans (aI.mono (Nat.le_trans yA vu.size));have c10:=rowAt so.row 10 (.string ⟨#[]⟩) rfl;have z10:=bE so.row 10;have m6:=dG so 10 (.string q2) ⟨⟨#[]⟩,⟨#[]⟩,⟨#[]⟩,false,⟨#[]⟩,-1,false,.slice none 0 0,[],false,hf,q2,f1⟩ false ⟨#[]⟩ (by simp) (fun _ h=>h);have c8:=rowAt m6.row 8 (.bool false) rfl;have z8:=bE m6.row 8;have m7:=dG m6 8 (.bool hq) ⟨⟨#[]⟩,⟨#[]⟩,⟨#[]⟩,false,⟨#[]⟩,-1,false,.slice none 0 0,[],hq,hf,q2,f1⟩ false ⟨#[]⟩ (by simp) (fun _ h=>h);have ZV:Below B w5 ((w5.setCell ⟨M,10,none⟩ (.string q2)).setCell ⟨M,8,none⟩ (.bool hq)):=((Below.refl B w5).setCell (p:=⟨M,10,none⟩) pI _).setCell (p:=⟨M,8,none⟩) pI _;generalize hw7:(w5.setCell ⟨M,10,none⟩ (.string q2)).setCell ⟨M,8,none⟩ (.bool hq)=w7 at m7 ZV;have SQ:Below B W w7:=SR.trans ZV;have hB7:B<=w7.heap.size:=Nat.le_trans yA SQ.size;have hE7:dQ w7:=qj.h.at SQ kg
 have HG:Hid (goal=(Lz.iH ⟨[],[],[],false,[],-1,false,[],hq,hf,q2.data.toList,f1.data.toList⟩ a2.data.toList b).bind Lz.Gy):=by
  show _=_;rw[lm.out,<-Hhq.out,<-Hhf.out,<-yw.out,<-bQ.out,<-bU.out]
 have HP:Hid (∀v,Lz.iH ⟨[],[],[],false,[],-1,false,[],hq,hf,q2.data.toList,f1.data.toList⟩ a2.data.toList b=.ok v->v.query.length<=s.data.toList.length+Lz.bq b/\v.fragment.length<=s.data.toList.length):=by
  intro v hv;refine Px.out v ?_;rw[<-Hhq.out,<-Hhf.out,<-yw.out,<-bQ.out,<-bU.out];exact hv
 have cM:=Ih (KX B M _ _ rfl b bv a2 (by omega) w7 hE7 m7 hB7 kg (Fk.at SQ) (fun y hy=>by have h1:=(hN y hy).2;have:=Lz.Bb y;omega) (by show 0<=_;omega));clear m6 m7 so lm Px Hhq Hhf yw bQ bU Cu jR cQ Hm4
 go_wp2_with fail
 refine cM.out.mono ?_;rintro e w8 ⟨v,rfl,pM,bA⟩;have Pe:Below B W w8:=SQ.trans pM;have hB8:B<=w8.heap.size:=Nat.le_trans yA Pe.size;have HRm:Hid (SU B M (Lz.iH ⟨[],[],[],false,[],-1,false,[],hq,hf,q2.data.toList,f1.data.toList⟩ a2.data.toList b) w8 v):=Ih bA;clear bA cM;generalize Lz.iH ⟨[],[],[],false,[],-1,false,[],hq,hf,q2.data.toList,f1.data.toList⟩ a2.data.toList b=rm at HRm HG HP;have hR8:w8.heap[w.heap.size]? =_:=(Pe.block _ hwB).trans HR.out;cases rm with
 | er n=>
   obtain⟨pp,rfl⟩:=HRm.out;have oX:Hid (goal=.er n):=Ih HG.out;clear HG HP HRm
   go_wp2_with (refine wpList_store_row rfl 32 (.tmp 4) (.tmp 47) rfl w.heap.size #[.string ⟨#[]⟩,.string ⟨#[]⟩,.string ⟨#[]⟩,.bool false,.string ⟨#[]⟩,.int .i64 0,.bool false,.slice none 0 0,.bool false,.bool false,.string ⟨#[]⟩,.string ⟨#[]⟩] rfl rfl 32 _ hR8 bY rfl (by simp[Value.oneCell']) ?_)
   refine bodyPost_ret (aW (P:=Tryz.prog) (u:=5) rfl _ _ w.heap.size 32 _ (0,0) _ rfl (setRow_heap _ _ _ _ _ _ hR8) Tryz.underlying32 rfl bY) rfl ?_;refine⟨_,_,rfl,aH (aS.trans (Pe.mono (by omega))) (Nat.le_refl _),?_⟩;rw[oX.out];exact⟨⟨pp,rfl⟩,0,⟨⟨#[]⟩,⟨#[]⟩,⟨#[]⟩,false,⟨#[]⟩,0,false,.slice none 0 0,[],false,false,⟨#[]⟩,⟨#[]⟩⟩,rfl,aL.nil _ _,Ih rfl⟩
 | ok u2=>
   obtain⟨rfl,hm8⟩:=HRm.out;obtain⟨hql,hfl⟩:=HP.out u2 rfl;rw[aa]at hql hfl;obtain⟨qb,fb,e10,WS,e11,hfb⟩:=OK hm8;have hqs:qb.size<=30000000:=by rw[<-aa,WS];omega
   have hqd:Hid (qb.data.toList=u2.query):=Ih WS;have oX:Hid (goal=(Lz.UR.ok u2).bind Lz.Gy):=Ih HG.out;obtain⟨sp,gT⟩:∃sp,sp=Lz.ai u2.scheme:=⟨_,rfl⟩;obtain⟨h12,sw⟩:=Nc hm8 gT;have Hsp:=Ih gT;clear HG HP HRm WS hfb e11 gT;cases sp with
   | true=>
     have zn:Hid (goal=.ok {u2 with query:=Lz.aj (Lz.cm 3) u2.query,fragment:=Lz.aj (Lz.cm 1) u2.fragment}):=by
      show _=_;rw[oX.out];show Lz.Gy u2=_;unfold Lz.Gy;rw[<-Hsp.out];rfl
     have cE:=Ih (fB 3 (by decide) qb (by omega) w8)
     go_wp2_with fail
     refine cE.out.mono ?_;rintro e w9 ⟨qe,rfl,Cc,Fm⟩;have Qk:=hm8.below Fm;have VO:Below B W w9:=Pe.trans (Fm.mono hB8);obtain⟨v10,e10,z10⟩:=gY Qk 10 (by decide);obtain⟨Im,Ce⟩:=Di Qk VO qe;have O7:Below B w9 (w9.setCell ⟨M,10,none⟩ (.string qe)):=(Below.refl B w9).setCell (p:=⟨M,10,none⟩) pI _;obtain⟨q3,f3,V5,_,e11,Lv⟩:=OK Ce;clear V5;generalize hw10:w9.setCell ⟨M,10,none⟩ (.string qe)=Sf at Im Ce O7 e11;have abP:f3.size<=s.size:=by rw[<-aa f3,Lv];exact hfl
     have Wo:=Ih (fB 1 (by decide) f3 (by omega) Sf);have HF3:Hid (f3.data.toList=u2.fragment):=Ih Lv;clear Lv
     go_wp2_with fail
     refine Wo.out.mono ?_;rintro e Ly ⟨fe,rfl,Uj,Pz⟩;have Il:=Ce.below Pz;have PG:Below B W Ly:=Im.trans (Pz.mono (Nat.le_trans yA Im.size));obtain⟨v11,d11,z11⟩:=gY Il 11 (by decide);obtain⟨fW,Cn⟩:=IE Il PG fe;have Se:(Ly.setCell ⟨M,11,none⟩ (.string fe)).heap[w.heap.size]? =_:=(fW.block _ hwB).trans HR.out
     have sk:({({u2 with query:=qe.data.toList}:Lz.ag)with fragment:=fe.data.toList}:Lz.ag)={u2 with query:=Lz.aj (Lz.cm 3) u2.query,fragment:=Lz.aj (Lz.cm 1) u2.fragment}:=by
      rw[Cc.out,Uj.out,hqd.out,HF3.out];rfl
     rw[sk]at Cn;generalize hw12:Ly.setCell ⟨M,11,none⟩ (.string fe)=VG at fW Cn Se;obtain⟨sch,usr,pas,hh,hst,prt,opq,a,c,xs,Iz,E6,qry,frg,hk,lq,hc,aA⟩:=Cn.form;have k0:=rowAt hk.row 0 (.string sch) rfl;have k1:=rowAt hk.row 1 (.string usr) rfl;have k2:=rowAt hk.row 2 (.string pas) rfl;have k3:=rowAt hk.row 3 (.bool hh) rfl;have k4:=rowAt hk.row 4 (.string hst) rfl;have k5:=rowAt hk.row 5 (.int .i64 prt) rfl;have k6:=rowAt hk.row 6 (.bool opq) rfl;have k7:=rowAt hk.row 7 (.slice a xs.length c) rfl;have k8:=rowAt hk.row 8 (.bool Iz) rfl;have k9:=rowAt hk.row 9 (.bool E6) rfl;have k10:=rowAt hk.row 10 (.string qry) rfl;have k11:=rowAt hk.row 11 (.string frg) rfl;have bf:=hk.own.kept (fG VG w.heap.size #[.string sch,.string usr,.string pas,.bool hh,.string hst,.int .i64 prt,.bool opq,.slice a xs.length c,.bool Iz,.bool E6,.string qry,.string frg]) (fun k hk=>by injection hk with hk;subst hk;exact⟨_,_,_,Se,by decide⟩)
     have Xq:Hid (ff (VG.setRow w.heap.size #[.string sch,.string usr,.string pas,.bool hh,.string hst,.int .i64 prt,.bool opq,.slice a xs.length c,.bool Iz,.bool E6,.string qry,.string frg]) (.agg #[.string sch,.string usr,.string pas,.bool hh,.string hst,.int .i64 prt,.bool opq,.slice a xs.length c,.bool Iz,.bool E6,.string qry,.string frg]) {u2 with query:=Lz.aj (Lz.cm 3) u2.query,fragment:=Lz.aj (Lz.cm 1) u2.fragment}):=by
      exact⟨_,⟨sch,usr,pas,hh,hst,prt,opq,.slice a xs.length c,xs,Iz,E6,qry,frg⟩,rfl,bf,Ih lq.symm⟩
     clear bf;clear lq aA hk Cn Il Ce Qk sk
     go_wp2_with (refine wpList_store_row rfl 32 (.tmp 4) (.tmp 77) rfl w.heap.size #[.string sch,.string usr,.string pas,.bool hh,.string hst,.int .i64 prt,.bool opq,.slice a xs.length c,.bool Iz,.bool E6,.string qry,.string frg] rfl rfl 32 _ Se bY rfl (by simp[Value.oneCell']) ?_)
     refine bodyPost_ret (aW (P:=Tryz.prog) (u:=5) rfl _ _ w.heap.size 32 _ (0,0) _ rfl (setRow_heap _ _ _ _ _ _ Se) Tryz.underlying32 rfl bY) rfl ?_;refine⟨_,_,rfl,aH (aS.trans (fW.mono (by omega))) (Nat.le_refl _),?_⟩;rw[zn.out];exact⟨rfl,Xq.out⟩
   | false=>
     have zn:Hid (goal=.ok {u2 with query:=Lz.aj (Lz.cm 2) u2.query,fragment:=Lz.aj (Lz.cm 1) u2.fragment}):=by
      show _=_;rw[oX.out];show Lz.Gy u2=_;unfold Lz.Gy;rw[<-Hsp.out];rfl
     have cE:=Ih (fB 2 (by decide) qb (by omega) w8)
     go_wp2_with fail
     refine cE.out.mono ?_;rintro e w9 ⟨qe,rfl,Cc,Fm⟩;have Qk:=hm8.below Fm;have VO:Below B W w9:=Pe.trans (Fm.mono hB8);obtain⟨v10,e10,z10⟩:=gY Qk 10 (by decide);obtain⟨Im,Ce⟩:=Di Qk VO qe;have O7:Below B w9 (w9.setCell ⟨M,10,none⟩ (.string qe)):=(Below.refl B w9).setCell (p:=⟨M,10,none⟩) pI _;obtain⟨q3,f3,V5,_,e11,Lv⟩:=OK Ce;clear V5;generalize hw10:w9.setCell ⟨M,10,none⟩ (.string qe)=Sf at Im Ce O7 e11;have abP:f3.size<=s.size:=by rw[<-aa f3,Lv];exact hfl
     have Wo:=Ih (fB 1 (by decide) f3 (by omega) Sf);have HF3:Hid (f3.data.toList=u2.fragment):=Ih Lv;clear Lv
     go_wp2_with fail
     refine Wo.out.mono ?_;rintro e Ly ⟨fe,rfl,Uj,Pz⟩;have Il:=Ce.below Pz;have PG:Below B W Ly:=Im.trans (Pz.mono (Nat.le_trans yA Im.size));obtain⟨v11,d11,z11⟩:=gY Il 11 (by decide);obtain⟨fW,Cn⟩:=IE Il PG fe;have Se:(Ly.setCell ⟨M,11,none⟩ (.string fe)).heap[w.heap.size]? =_:=(fW.block _ hwB).trans HR.out
     have sk:({({u2 with query:=qe.data.toList}:Lz.ag)with fragment:=fe.data.toList}:Lz.ag)={u2 with query:=Lz.aj (Lz.cm 2) u2.query,fragment:=Lz.aj (Lz.cm 1) u2.fragment}:=by
      rw[Cc.out,Uj.out,hqd.out,HF3.out];rfl
     rw[sk]at Cn;generalize hw12:Ly.setCell ⟨M,11,none⟩ (.string fe)=VG at fW Cn Se;obtain⟨sch,usr,pas,hh,hst,prt,opq,a,c,xs,Iz,E6,qry,frg,hk,lq,hc,aA⟩:=Cn.form;have k0:=rowAt hk.row 0 (.string sch) rfl;have k1:=rowAt hk.row 1 (.string usr) rfl;have k2:=rowAt hk.row 2 (.string pas) rfl;have k3:=rowAt hk.row 3 (.bool hh) rfl;have k4:=rowAt hk.row 4 (.string hst) rfl;have k5:=rowAt hk.row 5 (.int .i64 prt) rfl;have k6:=rowAt hk.row 6 (.bool opq) rfl;have k7:=rowAt hk.row 7 (.slice a xs.length c) rfl;have k8:=rowAt hk.row 8 (.bool Iz) rfl;have k9:=rowAt hk.row 9 (.bool E6) rfl;have k10:=rowAt hk.row 10 (.string qry) rfl;have k11:=rowAt hk.row 11 (.string frg) rfl;have bf:=hk.own.kept (fG VG w.heap.size #[.string sch,.string usr,.string pas,.bool hh,.string hst,.int .i64 prt,.bool opq,.slice a xs.length c,.bool Iz,.bool E6,.string qry,.string frg]) (fun k hk=>by injection hk with hk;subst hk;exact⟨_,_,_,Se,by decide⟩)
     have Xq:Hid (ff (VG.setRow w.heap.size #[.string sch,.string usr,.string pas,.bool hh,.string hst,.int .i64 prt,.bool opq,.slice a xs.length c,.bool Iz,.bool E6,.string qry,.string frg]) (.agg #[.string sch,.string usr,.string pas,.bool hh,.string hst,.int .i64 prt,.bool opq,.slice a xs.length c,.bool Iz,.bool E6,.string qry,.string frg]) {u2 with query:=Lz.aj (Lz.cm 2) u2.query,fragment:=Lz.aj (Lz.cm 1) u2.fragment}):=by
      exact⟨_,⟨sch,usr,pas,hh,hst,prt,opq,.slice a xs.length c,xs,Iz,E6,qry,frg⟩,rfl,bf,Ih lq.symm⟩
     clear bf;clear lq aA hk Cn Il Ce Qk sk
     go_wp2_with (refine wpList_store_row rfl 32 (.tmp 4) (.tmp 77) rfl w.heap.size #[.string sch,.string usr,.string pas,.bool hh,.string hst,.int .i64 prt,.bool opq,.slice a xs.length c,.bool Iz,.bool E6,.string qry,.string frg] rfl rfl 32 _ Se bY rfl (by simp[Value.oneCell']) ?_)
     refine bodyPost_ret (aW (P:=Tryz.prog) (u:=5) rfl _ _ w.heap.size 32 _ (0,0) _ rfl (setRow_heap _ _ _ _ _ _ Se) Tryz.underlying32 rfl bY) rfl ?_;refine⟨_,_,rfl,aH (aS.trans (fW.mono (by omega))) (Nat.le_refl _),?_⟩;rw[zn.out];exact⟨rfl,Xq.out⟩
theorem uV {T e:TypeId} {B b:Nat} {bs:List Value} {w w':World} (h:Lib.IsBuilder T e B b bs w) (hb:Below w.heap.size w w'):Lib.IsBuilder T e B b bs w':=by
 have go:∀p,Lib.BuilderAt T e B b p bs w->Lib.BuilderAt T e B b p bs w':=by
  intro p hp;have aV:=hp.lt;obtain⟨h1,v,hk,au,ed⟩:=hp;exact⟨h1,v,(hb.block _ aV).trans hk,au.kept (uf hb) (by cases v.ownBlock<;>simp),ed⟩
 rcases h with h|h
 ·exact Or.inl (go _ h)
 ·exact Or.inr (go _ h)
structure TB (b:Nat) (W0:World) (l:List UInt8) (W:World):Prop where
 made:Lib.IsBuilder 77 5 b b (Lib.byteCells l) W
 below:Below b W0 W
theorem TB.write {b:Nat} {W0 W:World} {l:List UInt8} (h:TB b W0 l W) (hb:b<=W0.heap.size) (s:ByteArray) (hl:l.length+s.size<=100000000000):
  Calls Tryz.prog 28 #[.pointer (some ⟨b,0,none⟩),.string s] W fun e w'=>e=.returned (.tuple #[.int .i64 s.size,.nilIface])/\TB b W0 (l++s.data.toList) w':=by
 refine(nL b b (Lib.byteCells l) s W h.made (by simp[Lib.byteCells];omega) (Nat.le_trans hb h.below.size)).mono ?_;rintro e w' ⟨rfl,hm,aK⟩;exact⟨rfl,by rw[l8];exact hm,h.below.trans aK⟩
theorem TB.call {b:Nat} {W0 W W':World} {l:List UInt8} (h:TB b W0 l W) (hb:b<=W0.heap.size) (aK:Below W.heap.size W W'):TB b W0 l W':=
 ⟨uV h.made aK,h.below.trans (aK.mono (Nat.le_trans hb h.below.size))⟩
theorem TB.str {b:Nat} {W0 W:World} {l:List UInt8} (h:TB b W0 l W) (hb:b<=W0.heap.size):
  Calls Tryz.prog 30 #[.pointer (some ⟨b,0,none⟩)] W fun e w'=>e=.returned (.string ⟨l.toArray⟩)/\Below b W0 w':=by
 refine(Tryz.Builder_String_any b b l W h.made (Nat.le_trans hb h.below.size)).mono ?_;rintro e w' ⟨rfl,aK⟩;exact⟨rfl,h.below.trans aK⟩
theorem mD (c:UInt8):(⟨#[c]⟩:ByteArray).size=1:=rfl
theorem DO (c d:UInt8):(⟨#[c,d]⟩:ByteArray).size=2:=rfl
theorem By (s:ByteArray):s.toList.isEmpty=decide (s.data.toList=[]):=by
 by_cases h:s.data.toList=[]
 ·rw[decide_eq_true h];exact aq (by rw[<-aa,h];rfl)
 ·rw[decide_eq_false h];exact an (by rw[<-aa];exact List.length_pos_iff.2 h)
def FU (u:Lz.ag):List UInt8:=(if u.hasHost then[47,47]++u.user++(if u.pass=[]then[]else[58]++u.pass)++(if u.user=[]/\u.pass=[]then[]else[64])++Lz.atU u
 else if u.opq=false/\1<u.path.length/\u.path.head? =some []then[47,46]else[])
def dZ (opq:Bool) (l:List (List UInt8)):List UInt8:=if opq then l.headD []else l.flatMap fun p=>47::p
theorem GY (u:Lz.ag):Lz.nY u=u.scheme++[58]++FU u++dZ u.opq u.path++(if u.hasQuery then 63::u.query else[])++(if u.hasFragment then 35::u.fragment else[]):=rfl
theorem JY (opq:Bool) (l:List (List UInt8)) (i:Nat):(dZ opq (l.take i)).length<=(dZ opq l).length:=by
 unfold dZ;cases opq with
 | true=>
   cases l with
   | nil=>simp
   | cons a r=>cases i<;>simp
 | false=>
   simp only[Bool.false_eq_true,if_false]
   conv=>rhs;rw[<-List.take_append_drop i l,List.flatMap_append]
   simp
theorem Es {l:List (List UInt8)} {i:Nat} (h:i<l.length):dZ false (l.take (i+1))=dZ false (l.take i)++[47]++l[i]:=by
 unfold dZ;simp only[Bool.false_eq_true,if_false];rw[List.take_succ_eq_append_getElem h,List.flatMap_append]
 simp
theorem Dc {l:List (List UInt8)} (h:0<l.length):dZ true (l.take 1)=l[0]:=by
 cases l with
 | nil=>simp at h
 | cons a r=>rfl
theorem Dh {l:List (List UInt8)} {i:Nat} (h:0<i):dZ true (l.take (i+1))=dZ true (l.take i):=by
 cases l with
 | nil=>simp
 | cons a r=>
   obtain⟨j,rfl⟩:∃j,i=j+1:=⟨i-1,by omega⟩;rfl
theorem M7 (v:Value) (u:Lz.ag) (w:World) (hv:aX w v u) (hE:dQ w) (yz: -9223372036854775808<=u.port) (Ul:u.port<=9223372036854775807) (hH:u.host.length<=1000000000) (hT:(Lz.nY u).length<=1000000000) (hN:u.path.length<=1000000000):Calls Tryz.prog 14 #[v] w (gJ (Lz.nY u) w):=by
 have hv0:=hv;obtain⟨sch,usr,pas,hh,hst,prt,opq,a,c,xs,hq,hf,qry,frg,rfl,hu,hx⟩:=hv.form;rw[GY]at hT⊢;have hA:=Ih (fun(V:World) (hb:Below w.heap.size w V)=>Nq _ u V (hv0.below hb) (hE.below hb) yz Ul hH);obtain⟨AT,hAT⟩:∃AT,Lz.atU u=AT:=⟨_,rfl⟩;rw[hAT]at hA;obtain⟨PH,hPH⟩:∃PH,PH=FU u:=⟨_,rfl⟩;have LI:PH=(if hh then[47,47]++usr.data.toList++(if pas.data.toList=[]then[]else[58]++pas.data.toList)++(if usr.data.toList=[]/\pas.data.toList=[]then[]else[64])++AT else if opq=false/\1<xs.length/\xs.head?.map (fun x:ByteArray=>x.data.toList)=some []then[47,46]else[]):=by rw[hPH,<-hAT,hu];simp[FU,List.head?_map]
 have hPP:dZ u.opq u.path=dZ opq (xs.map fun x:ByteArray=>x.data.toList):=by rw[hu]
 rw[<-hPH,hPP]at hT⊢;have e1:u.scheme=sch.data.toList:=by rw[hu]
 have e2:u.hasQuery=hq:=by rw[hu]
 have e3:u.query=qry.data.toList:=by rw[hu]
 have e4:u.hasFragment=hf:=by rw[hu]
 have e5:u.fragment=frg.data.toList:=by rw[hu]
 have e6:u.path.length=xs.length:=by rw[hu];simp
 rw[e1,e2,e3,e4,e5]at hT⊢;rw[e6]at hN;obtain⟨PP,Xd⟩:∃PP,PP=dZ opq (xs.map fun x:ByteArray=>x.data.toList):=⟨_,rfl⟩;rw[<-Xd]at hT⊢;obtain⟨goal,hg⟩:∃goal,goal=sch.data.toList++[58]++PH++PP++(if hq then 63::qry.data.toList else[])++(if hf then 35::frg.data.toList else[]):=⟨_,rfl⟩;rw[<-hg]at hT⊢;have HG:=Ih hg;have HPP:=Ih Xd;have HPH:=Ih LI
 have ZD:sch.size+1+PH.length+PP.length+(if hq then 1+qry.size else 0)+(if hf then 1+frg.size else 0)<=1000000000:=by
  rw[hg]at hT;simp only[List.length_append,List.length_cons,List.length_nil]at hT;rw[aa]at hT;have h1:(if hq then 63::qry.data.toList else[]).length=(if hq then 1+qry.size else 0):=by split<;>simp<;>first |rfl|omega
  have h2:(if hf then 35::frg.data.toList else[]).length=(if hf then 1+frg.size else 0):=by split<;>simp<;>first |rfl|omega
  omega
 have qP:sch.size+1<=1000000000:=by omega
 have hcH:sch.size+1+PH.length<=1000000000:=by omega
 have hcP:sch.size+1+PH.length+PP.length<=1000000000:=by omega
 have aaQ:=Ih ZD;clear hAT;obtain⟨W,hW⟩:∃W,W=(w.alloc (.cells #[.string sch,.string usr,.string pas,.bool hh,.string hst,.int .i64 prt,.bool opq,.slice a xs.length c,.bool hq,.bool hf,.string qry,.string frg] 32)).alloc (.cells #[.pointer none,.slice none 0 0] 77):=⟨_,rfl⟩;obtain⟨b,hbd⟩:∃b,b=w.heap.size+1:=⟨_,rfl⟩;have aS:Below w.heap.size w W:=by rw[hW];exact((Below.refl _ w).alloc (Nat.le_refl _) _).alloc (by simp) _
 have hR:W.heap[w.heap.size]? =some (.cells #[.string sch,.string usr,.string pas,.bool hh,.string hst,.int .i64 prt,.bool opq,.slice a xs.length c,.bool hq,.bool hf,.string qry,.string frg] 32 (0,0)):=by rw[hW,Below.heap_alloc _ _ _ (by simp)];exact ah _ _
 have yo:b<=W.heap.size:=by rw[hW,hbd];simp
 have hGb:w.heap.size<b:=by omega
 have T0:TB b W [] W:=⟨by
  have:=Lib.fresh_isBuilder 77 5 (w.alloc (.cells #[.string sch,.string usr,.string pas,.bool hh,.string hst,.int .i64 prt,.bool opq,.slice a xs.length c,.bool hq,.bool hf,.string qry,.string frg] 32));rw[hW,hbd];simpa [Lib.byteCells]using this,Below.refl _ _⟩
 have aZ:∀V,Below b W V->V.heap[w.heap.size]? =some (.cells #[.string sch,.string usr,.string pas,.bool hh,.string hst,.int .i64 prt,.bool opq,.slice a xs.length c,.bool hq,.bool hf,.string qry,.string frg] 32 (0,0)):=fun V hb=>(hb.block _ hGb).trans hR;have aau:∀V,Below b W V->Below w.heap.size w V:=fun V hb=>aS.trans (hb.mono (by omega));have HW:=Ih hW;have dV:=Ih aZ;have HX:Hid (∀(j:Nat) (x:ByteArray),xs[j]? =some x->∃G o,a=some ⟨G,o,none⟩/\G<w.heap.size/\w.cell? ⟨G,o+j,none⟩=some (.string x)):=Ih hx;have HBd:=Ih hbd;have Sc:=Ih aau;obtain⟨eP,hEP⟩:∃e,pas.toList.isEmpty=e:=⟨_,rfl⟩;obtain⟨eU,hEU⟩:∃e,usr.toList.isEmpty=e:=⟨_,rfl⟩;have HEP:Hid (eP=decide (pas.data.toList=[])):=by show _=_;rw[<-hEP];exact By pas
 have HEU:Hid (eU=decide (usr.data.toList=[])):=by show _=_;rw[<-hEU];exact By usr
 have p0:=rowAt hR 0 (.string sch) rfl;have n0:¬(9223372036854775807<sch.size+1):=by omega
 have c0:=Ih (T0.write yo (sch++⟨#[58]⟩) (by simp[mD];omega));clear hW hR hbd aZ aau hx hv hv0 hu hPH LI hPP e1 e2 e3 e4 e5 e6 Xd hg ZD hT T0 hE yz Ul hH;go_enter Tryz.func14,Tryz.ntmps14
 go_upto_block 0 with(first |rw[<-HW.out]|(rw[<-HBd.out];refine c0.out.mono ?_;rintro e w1 ⟨rfl,T1⟩))
 rw[List.nil_append,be]at T1;have T1h:=Ih T1;have bC:=dV.out w1 T1.below;clear T1 p0 c0
 go_cut [] (fun wx=>TB b W (sch.data.toList++[58]++PH) wx)
 case first=>
  cases hh with
  | true=>
    have LI:PH=[47,47]++usr.data.toList++(if eP then[]else[58]++pas.data.toList)++(if eU&&eP then[]else[64])++AT:=by
     rw[HPH.out,HEP.out,HEU.out]
     simp
    have hlH:PH.length=2+usr.size+(if eP then 0 else 1+pas.size)+(if eU&&eP then 0 else 1)+AT.length:=by
     rw[LI];simp only[List.length_append,aa,List.length_cons,List.length_nil];have h1:(if eP=true then([]:List UInt8)else[58]++pas.data.toList).length=(if eP=true then 0 else 1+pas.size):=by split<;>simp<;>omega
     have h2:(if(eU&&eP)=true then([]:List UInt8)else[64]).length=(if(eU&&eP)=true then 0 else 1):=by split<;>simp
     omega
    have OP:=Ih LI;have uH:2+usr.size<=PH.length:=by omega
    have n2:¬(9223372036854775807<2+usr.size):=by omega
    have c2:=Ih (T1h.out.write yo (⟨#[47,47]⟩++usr) (by simp[DO];omega));have Xo:=Ih hlH;have p3:=rowAt bC 3 (.bool true) rfl;have p1:=rowAt bC 1 (.string usr) rfl;clear HPH n0 LI hlH bC;obtain⟨e7,he7⟩:∃e7,e7=(eU&&eP):=⟨_,rfl⟩;have XL:=Ih he7;clear he7
    go_wp2_with fail
    refine c2.out.mono ?_;rintro e w2 ⟨rfl,T2⟩;rw[be]at T2;have bB:=dV.out w2 T2.below;have q2:=rowAt bB 2 (.string pas) rfl;have Uf:=Ih T2;clear T2 c2 p1 p3 bB
    go_upto_if 19 with fail
    go_cut [] (fun wx=>TB b W (sch.data.toList++[58]++([47,47]++usr.data.toList)++(if eP then[]else[58]++pas.data.toList)) wx)
    case first=>
     cases eP with
     | true=>
       go_wp2_with fail
       go_meet;simpa using Uf.out
     | false=>
       have hlp:2+usr.size+(1+pas.size)<=PH.length:=by have:=Xo.out;simp at this;omega
       have n3:¬(9223372036854775807<1+pas.size):=by omega
       have c3:=Ih (Uf.out.write yo (⟨#[58]⟩++pas) (by simp[mD];omega))
       go_wp2_with fail
       refine c3.out.mono ?_;rintro e w3 ⟨rfl,T3⟩;rw[be]at T3
       go_wp2_with fail
       go_meet;simpa using T3
    case rest=>
    have SE:=Ih hcut;have oZ:=dV.out wc hcut.below;clear hcut Uf q2;have k1:=rowAt oZ 1 (.string usr) rfl;have k2:=rowAt oZ 2 (.string pas) rfl
    go_upto_region 7 with fail
    go_cut [31] (fun s wx=>s=.bool (!e7)/\wc=wx)
    case first=>
     cases eU with
     | true=>
       cases eP with
       | true=>
         have HE:Hid (e7=true):=Ih XL.out
         go_wp2_with fail
         go_meet;exact⟨by rw[HE.out];rfl,rfl⟩
       | false=>
         have HE:Hid (e7=false):=Ih XL.out
         go_wp2_with fail
         go_meet;exact⟨by rw[HE.out];rfl,rfl⟩
     | false=>
       have HE:Hid (e7=false):=Ih XL.out
       go_wp2_with fail
       go_meet;exact⟨by rw[HE.out];rfl,rfl⟩
    case rest=>
    obtain⟨rfl,rfl⟩:=hcut;clear k1 k2;have hl7:2+usr.size+(if eP=true then 0 else 1+pas.size)+(if e7=true then 0 else 1)+AT.length=PH.length:=by rw[XL.out];exact Xo.out.symm
    have hl3:(sch.data.toList++[58]++([47,47]++usr.data.toList)++(if eP then[]else[58]++pas.data.toList)).length+1+(if e7=true then 0 else 1)+AT.length<=2000000000:=by
     simp only[List.length_append,aa,List.length_cons,List.length_nil];have h1:(if eP=true then([]:List UInt8)else[58]++pas.data.toList).length=(if eP=true then 0 else 1+pas.size):=by split<;>simp<;>omega
     omega
    have aar:Hid (sch.data.toList++[58]++PH=sch.data.toList++[58]++([47,47]++usr.data.toList)++(if eP then[]else[58]++pas.data.toList)++(if e7 then[]else[64])++AT):=by
     show _=_;rw[OP.out,XL.out];simp only[List.append_assoc]
    generalize hL3:sch.data.toList++[58]++([47,47]++usr.data.toList)++(if eP then[]else[58]++pas.data.toList)=L3 at SE hl3 aar;clear hL3 hl7 Xo OP XL
    go_upto_if 31 with fail
    go_cut [] (fun wx=>TB b W (L3++(if e7 then[]else[64])) wx)
    case first=>
     cases e7 with
     | true=>
       go_wp2_with fail
       go_meet;simpa using SE.out
     | false=>
       have c4:=Ih (SE.out.write yo ⟨#[64]⟩ (by simp[mD];omega))
       go_wp2_with fail
       refine c4.out.mono ?_;rintro e w4 ⟨rfl,T4⟩
       go_wp2_with fail
       go_meet;simpa using T4
    case rest=>
    have XO:=Ih hcut;have TZ:=Ih (dV.out wc hcut.below);have cA:=Ih (hA.out wc (Sc.out wc hcut.below));clear hcut SE oZ
    go_wp2_with (refine wpList_load_row rfl 32 (.tmp 1) rfl w.heap.size rfl 32 _ (0,0) _ TZ.out Tryz.underlying32 rfl bY ?_)
    refine cA.out.mono ?_;rintro e w5 ⟨t,rfl,ht,aI⟩;have hts:t.size=AT.length:=by rw[<-aa,ht.out]
    have T5:=XO.out.call yo aI
    have c5:=Ih (T5.write yo t (by
     have h2:(if e7=true then([]:List UInt8)else[64]).length=(if e7=true then 0 else 1):=by split<;>simp
     rw[List.length_append];omega))
    clear T5
    go_wp2_with fail
    refine c5.out.mono ?_;rintro e w6 ⟨rfl,T6⟩
    go_wp2_with fail
    go_meet;rw[aar.out,<-ht.out];exact T6
  | false=>
    have p3:=rowAt bC 3 (.bool false) rfl;obtain⟨IC,Xf⟩:∃IC,IC=decide (opq=false/\1<xs.length/\xs.head?.map (fun x:ByteArray=>x.data.toList)=some []):=⟨_,rfl⟩;have HQ:=Ih Xf
    have OP:Hid (PH=if IC then[47,46]else[]):=by
     show _=_;rw[HPH.out,Xf]
     simp
    clear Xf HPH;have p6:=rowAt bC 6 (.bool opq) rfl;have p7:=rowAt bC 7 (.slice a xs.length c) rfl
    go_upto_region 10 with fail
    go_cut [36] (fun s wx=>s=.bool IC/\w1=wx)
    case first=>
     cases opq with
     | true=>
       have Ia:Hid (IC=false):=by show _=_;rw[HQ.out];simp
       go_wp2_with fail
       go_meet;exact⟨by rw[Ia.out],rfl⟩
     | false=>
       by_cases h1:1<xs.length
       ·have h1I:(1:Int)<(xs.length:Int):=by omega
        have h0I:(0:Int)<(xs.length:Int):=by omega
        obtain⟨x0,iB⟩:∃x0,xs[0]? =some x0:=⟨_,List.getElem?_eq_getElem (by omega)⟩;obtain⟨G1,o1,Cu,VJ,iD⟩:=HX.out 0 x0 iB;have d1:w1.cell? ⟨G1,o1,none⟩=some (.string x0):=by rw[(Sc.out w1 T1h.out.below).cell (p:=⟨G1,o1,none⟩) VJ];exact iD
        rw[Cu]at p7;obtain⟨e0,ZJ⟩:∃e,x0.toList.isEmpty=e:=⟨_,rfl⟩
        have Ia:Hid (IC=e0):=by
         show _=_;rw[HQ.out,<-ZJ,By,List.head?_eq_getElem?,iB]
         simp[h1]
        clear Cu iB iD h1 HQ bC;cases e0 with
        | true=>
          go_wp2_with fail
          go_meet;exact⟨by rw[Ia.out],rfl⟩
        | false=>
          go_wp2_with fail
          go_meet;exact⟨by rw[Ia.out],rfl⟩
       ·have h1I:¬(1:Int)<(xs.length:Int):=by omega
        have Ia:Hid (IC=false):=by show _=_;rw[HQ.out];simp[h1]
        clear h1 HQ bC
        go_wp2_with fail
        go_meet;exact⟨by rw[Ia.out],rfl⟩
    case rest=>
    obtain⟨rfl,rfl⟩:=hcut;cases IC with
    | true=>
      have c2:=Ih (T1h.out.write yo ⟨#[47,46]⟩ (by simp[DO];omega))
      go_wp2_with fail
      refine c2.out.mono ?_;rintro e w2 ⟨rfl,T2⟩
      go_wp2_with fail
      go_meet;rw[OP.out];exact T2
    | false=>
      go_wp2_with fail
      go_meet;rw[OP.out];simpa using T1h.out
 case rest=>
 have Uf:=Ih hcut;have bB:=dV.out wc hcut.below;have p7:=rowAt bB 7 (.slice a xs.length c) rfl;have hlL:(sch.data.toList++[58]++PH).length=sch.size+1+PH.length:=by rw[List.length_append,List.length_append,aa];rfl
 generalize hLL:sch.data.toList++[58]++PH=L at Uf hlL HG;clear hcut T1h bC hLL bB
 go_upto_block 1 with fail
 go_cut [] (fun wx=>TB b W (L++PP) wx)
 case first=>
  by_cases h0:xs.length=0
  ·have h0I:¬(0:Int)<(xs.length:Int):=by omega
   have HP2:Hid (PP=[]):=by
    show _=_;rw[HPP.out,List.length_eq_zero_iff.1 h0];cases opq<;>rfl
   clear h0
   go_wp2_with fail
   refine wp_loop_rounds 1 ?_;rw[rounds_succ]
   go_wp2_with fail
   go_meet;rw[HP2.out,List.append_nil];exact Uf.out
  ·obtain⟨G1,o1,rfl,VJ,iD⟩:=HX.out 0 xs[0] (List.getElem?_eq_getElem (by omega));clear iD
   have HX2:Hid (∀(j:Nat) (x:ByteArray),xs[j]? =some x->w.cell? ⟨G1,o1+j,none⟩=some (.string x)):=Ih (fun j x hj=>by
    obtain⟨G,o,e,_,hc⟩:=HX.out j x hj;injection e with e;injection e with e1 e2 _
    subst e1;subst e2;exact hc)
   clear h0;have HCP:=Ih hcP
   go_wp2_with fail
   go_loopw [57] (fun k wr=>∃i:Nat,k=.int .i64 i/\i<=xs.length/\TB b W (L++dZ opq ((xs.map fun x:ByteArray=>x.data.toList).take i)) wr) (fun k _=>xs.length-(intOf k).toNat)
   case atStart=>exact⟨0,rfl,Nat.zero_le _,by rw[List.take_zero];cases opq<;>simpa [dZ]using Uf.out⟩
   case round=>
    obtain⟨i,rfl,hi,TL⟩:=hrel;have Ff:=dV.out wr TL.below;have p6o:=rowAt Ff 6 (.bool opq) rfl;have hww:=Sc.out wr TL.below;have TLh:=Ih TL;clear TL Ff;by_cases aV:i<xs.length
    ·have bW:(i:Int)<(xs.length:Int):=by omega
     have o9:(0:Int)<=(i:Int):=by omega
     obtain⟨x,hx⟩:∃x,x=xs[i]:=⟨_,rfl⟩;have O4:xs[i]? =some x:=by rw[List.getElem?_eq_getElem aV,hx]
     have iD:=HX2.out i x O4;have d1:wr.cell? ⟨G1,o1+i,none⟩=some (.string x):=by rw[hww.cell (p:=⟨G1,o1+i,none⟩) VJ];exact iD
     have Qj:(xs.map fun x:ByteArray=>x.data.toList)[i]'(by simpa using aV)=x.data.toList:=by simp[hx]
     have Yt:(dZ opq ((xs.map fun x:ByteArray=>x.data.toList).take (i+1))).length<=PP.length:=by rw[HPP.out];exact JY _ _ _
     obtain⟨o2,LV⟩:∃o,o=opq:=⟨_,rfl⟩;have HO:=Ih LV;have p6:wr.cell? ⟨w.heap.size,6,none⟩=some (.bool o2):=by rw[LV];exact p6o
     clear LV p6o O4 iD hx;cases o2 with
     | false=>
       have hst:dZ opq ((xs.map fun x:ByteArray=>x.data.toList).take (i+1))=dZ opq ((xs.map fun x:ByteArray=>x.data.toList).take i)++[47]++x.data.toList:=by rw[<-HO.out,Es (by simpa using aV),Qj]
       have O6:(L++dZ opq ((xs.map fun x:ByteArray=>x.data.toList).take i)).length+1+x.size<=2000000000:=by
        rw[hst]at Yt;simp only[List.length_append,List.length_cons,List.length_nil,aa]at Yt⊢;rw[hlL];omega
       have Ph:=Ih hst;have c3:=Ih (TLh.out.write yo ⟨#[47]⟩ (by rw[mD];omega));generalize dZ opq ((xs.map fun x:ByteArray=>x.data.toList).take i)=Pi at *;clear hst Yt Qj
       go_wp2_with fail
       refine c3.out.mono ?_;rintro e w3 ⟨rfl,T3⟩;have oZ:=dV.out w3 T3.below;have k6:w3.cell? ⟨w.heap.size,6,none⟩=some (.bool false):=by rw[HO.out];exact rowAt oZ 6 _ rfl
       have c4:=Ih (T3.write yo x (by rw[List.length_append];simp only[List.length_cons,List.length_nil];omega));clear oZ c3 T3
       go_wp2_with fail
       refine c4.out.mono ?_;rintro e w4 ⟨rfl,T4⟩
       go_wp2_with fail
       go_roundw
       case rel=>exact⟨i+1,by go_num,by omega,by rw[Ph.out];simpa using T4⟩
       case measure=>simp[intOf];omega
     | true=>
       by_cases hz:i=0
       ·have hzI:((i:Int)==0)=true:=by simp[hz]
        have hst:dZ opq ((xs.map fun x:ByteArray=>x.data.toList).take (i+1))=x.data.toList:=by
         rw[<-HO.out,<-Qj];have:=Dc (l:=xs.map fun x:ByteArray=>x.data.toList) (by simp;omega);simpa [hz]using this
        have aaT:dZ opq ((xs.map fun x:ByteArray=>x.data.toList).take i)=[]:=by rw[<-HO.out,hz];rfl
        rw[aaT,List.append_nil]at TLh
        have O6:L.length+x.size<=2000000000:=by
         rw[hst,aa]at Yt;rw[hlL];omega
        have Ph:=Ih hst;have c3:=Ih (TLh.out.write yo x (by omega));clear hst aaT Yt hz Qj
        go_wp2_with fail
        refine c3.out.mono ?_;rintro e w3 ⟨rfl,T3⟩
        go_wp2_with fail
        go_roundw
        case rel=>exact⟨i+1,by go_num,by omega,by rw[Ph.out];exact T3⟩
        case measure=>simp[intOf];omega
       ·have hzI:((i:Int)==0)=false:=by simp;omega
        have hst:dZ opq ((xs.map fun x:ByteArray=>x.data.toList).take (i+1))=dZ opq ((xs.map fun x:ByteArray=>x.data.toList).take i):=by rw[<-HO.out];exact Dh (by omega)
        have Ph:=Ih hst;clear hst Yt hz Qj
        go_wp2_with fail
        go_roundw
        case rel=>exact⟨i+1,by go_num,by omega,by rw[Ph.out];exact TLh.out⟩
        case measure=>simp[intOf];omega
    ·have bW:¬(i:Int)<(xs.length:Int):=by omega
     clear p6o
     go_wp2_with fail
     go_meet;have hT:=TLh.out;rw[List.take_of_length_le (by simp;omega),<-HPP.out]at hT;exact hT
 case rest=>
 have SE:=Ih hcut;have oZ:=dV.out wc hcut.below;have hlP:(L++PP).length=sch.size+1+PH.length+PP.length:=by rw[List.length_append,hlL]
 generalize hLP:L++PP=LP at SE hlP HG;clear hcut Uf p7 hLP;have p8:=rowAt oZ 8 (.bool hq) rfl;have Uo:=rowAt oZ 10 (.string qry) rfl
 go_upto_if 77 with fail
 go_cut [] (fun wx=>TB b W (LP++(if hq then 63::qry.data.toList else[])) wx)
 case first=>
  cases hq with
  | true=>
    have bO:sch.size+1+PH.length+PP.length+(1+qry.size)<=1000000000:=by have:=aaQ.out;simp only[if_true]at this;omega
    have n5:¬(9223372036854775807<1+qry.size):=by omega
    have c5:=Ih (SE.out.write yo (⟨#[63]⟩++qry) (by simp[mD];omega))
    go_wp2_with fail
    refine c5.out.mono ?_;rintro e w5 ⟨rfl,T5⟩;rw[be]at T5
    go_wp2_with fail
    go_meet;simpa using T5
  | false=>
    go_wp2_with fail
    go_meet;simpa using SE.out
 case rest=>
 have XO:=Ih hcut;have Co:=dV.out wc hcut.below;clear hcut SE p8 Uo oZ
 have hlQ:(LP++(if hq then 63::qry.data.toList else[])).length+(if hf then 1+frg.size else 0)<=1000000000:=by
  rw[List.length_append,hlP];have h1:(if hq then 63::qry.data.toList else[]).length=(if hq then 1+qry.size else 0):=by split<;>simp<;>omega
  have:=aaQ.out;omega
 generalize hLQ:LP++(if hq then 63::qry.data.toList else[])=LQ at XO hlQ HG;clear hLQ;have p9:=rowAt Co 9 (.bool hf) rfl;have Ub:=rowAt Co 11 (.string frg) rfl
 go_upto_if 83 with fail
 go_cut [] (fun wx=>TB b W goal wx)
 case first=>
  cases hf with
  | true=>
    have bU:LQ.length+(1+frg.size)<=1000000000:=by simpa using hlQ
    have n6:¬(9223372036854775807<1+frg.size):=by omega
    have c6:=Ih (XO.out.write yo (⟨#[35]⟩++frg) (by simp[mD];omega))
    go_wp2_with fail
    refine c6.out.mono ?_;rintro e w6 ⟨rfl,T6⟩;rw[be]at T6
    go_wp2_with fail
    go_meet;rw[HG.out];simpa using T6
  | false=>
    go_wp2_with fail
    go_meet;rw[HG.out];simpa using XO.out
 case rest=>
 have T5h:=Ih hcut;have cZ:=Ih (hcut.str yo);clear hcut XO p9 Ub Co
 go_wp2_with fail
 refine cZ.out.mono ?_;rintro e w7 ⟨rfl,kJ⟩
 go_wp2_with fail
 go_ret;exact⟨_,rfl,Ih rfl,Sc.out w7 kJ⟩
end Go.Proofs.YtecoeebjaleeiaaGreatDoor
