/-
  Package urls: files, walked.
-/
import Derived.Test.YtecoeebjaleeiaaGreatDoorJ21
import Derived.Test.YtecoeebjaleeiaaGreatDoorJ22
set_option maxHeartbeats 4000000
set_option maxRecDepth 100000
namespace Go.Proofs.YtecoeebjaleeiaaGreatDoor
open Go.RowKit
theorem lr (B M:Nat) (u:Lz.ag) (s:ByteArray) (hs:s.size<=900000) (w:World) (hE:dQ w) (hm:dS B M w u) (hB:B<=w.heap.size) (kg:15<=B) (hL:u.path.length<=50000000):
  Calls Tryz.prog 60 #[.pointer (some ⟨M,0,none⟩),.string s] w (Ei B M (Lz.bT u s.data.toList) w):=by
 obtain⟨sp,gT⟩:∃sp,sp=Lz.ai u.scheme:=⟨_,rfl⟩
 have sw:w.cell? ⟨M,13,none⟩=some (.string (bp sp)):=by
  obtain⟨sch,usr,pas,hh,hst,prt,opq,a,c,xs,hq,hf,qry,frg,hk,rfl,_,_⟩:=hm.form;rw[gT];exact rowAt hk.row 13 _ rfl
 have cC:=Ih (wH M sp s (by omega) w sw);have ba:=Lz.oz sp s.data.toList;obtain⟨goal,dY⟩:∃goal,goal=Lz.bT u s.data.toList:=⟨_,rfl⟩;rw[<-dY]
 have hU:goal=(Lz.jj u (Lz.dI sp s.data.toList).1).bind fun v=>.ok (if(Lz.dI sp s.data.toList).2.2||Lz.ai v.scheme then Lz.onP v (Lz.dI sp s.data.toList).2.1 else v):=by
  rw[dY,gT];rfl
 generalize Lz.dI sp s.data.toList=cc at cC hU ba;obtain⟨al,tl,gu⟩:=cc;simp only[aa]at ba;have HU:=Ih hU;have Hm:=Ih hm;have HE:=Ih hE;clear hU hm hE sw dY;go_enter Tryz.func60,Tryz.ntmps60
 go_wp2_with fail
 refine cC.out.mono ?_;rintro e w1 ⟨ab,tb,rfl,hab,Ck,ar⟩;have has:ab.size<=s.size:=by rw[<-aa,hab.out];omega
 have hts:tb.size<=s.size:=by rw[<-aa,Ck.out];omega
 have jT:=Hm.out.below ar;have qX:=HE.out.below ar;have CE:=ar.mono hB;have nQ:B<=w1.heap.size:=Nat.le_trans hB ar.size;have cA:=Ih (KO B M u ab (by omega) w1 qX jT nQ kg);have PZ:goal=(Lz.jj u ab.data.toList).bind fun v=>.ok (if gu||Lz.ai v.scheme then Lz.onP v tb.data.toList else v):=by rw[HU.out,hab.out,Ck.out]
 generalize hr:Lz.jj u ab.data.toList=r at cA PZ;have EW:=Ih PZ;have hrp:∀v,r=.ok v->v.path.length<=50000000:=fun v hv=>by rw[(Lz.GM (hr.trans hv)).1];exact hL
 have Hrp:=Ih hrp;clear hab Ck hr hrp cC PZ HU
 go_wp2_with fail
 refine cA.out.mono ?_;rintro e w2 ⟨v,rfl,az,bA⟩;have bI:=CE.trans az;have jU:B<=w2.heap.size:=Nat.le_trans nQ az.size;have mP:=qX.at az kg;cases r with
 | er n=>
   obtain⟨p,rfl⟩:=bA;clear cA
   go_wp2_with fail
   go_ret;refine⟨_,rfl,bI,?_⟩;rw[EW.out];exact⟨p,rfl⟩
 | ok u2=>
   obtain⟨rfl,jy⟩:=bA;have vv:=Hrp.out u2 rfl;obtain⟨sch,usr,pas,hh,hst,prt,opq,a,c,xs,hq,hf,qry,frg,hk,lq,hc,aA⟩:=jy.form;have uH:u2.scheme=sch.data.toList:=by rw[lq]
   have c12:=rowAt hk.row 12 (.bool (Lz.ai sch.data.toList)) rfl;rw[<-uH]at c12;have LK:goal=Lz.UR.ok (if gu||Lz.ai u2.scheme then Lz.onP u2 tb.data.toList else u2):=EW.out;generalize Lz.ai u2.scheme=q at c12 LK;have oX:=Ih LK;have cO:=Ih (jY B M tb u2 w2 mP jy jU kg (by omega));have Hm2:=Ih jy;clear lq hk aA uH cA LK jy mP qX jT;cases gu with
   | true=>
     go_wp2_with fail
     refine cO.out.mono ?_;rintro e w3 ⟨rfl,aO,lh⟩
     go_wp2_with fail
     go_ret;refine⟨_,rfl,bI.trans aO,?_⟩;rw[oX.out];exact⟨rfl,lh⟩
   | false=>
     cases q with
     | true=>
       go_wp2_with fail
       refine cO.out.mono ?_;rintro e w3 ⟨rfl,aO,lh⟩
       go_wp2_with fail
       go_ret;refine⟨_,rfl,bI.trans aO,?_⟩;rw[oX.out];exact⟨rfl,lh⟩
     | false=>
       go_wp2_with fail
       go_ret;refine⟨_,rfl,bI,?_⟩;rw[oX.out];exact⟨rfl,Hm2.out⟩
def MkV.val (x:MkV):Value:=.agg #[.string x.sch,.string x.usr,.string x.pas,.bool x.hh,.string x.hst,.int .i64 x.prt,.bool x.opq,x.pv,.bool x.hq,.bool x.hf,.string x.qry,.string x.frg]
def aX (w:World) (v:Value) (u:Lz.ag):Prop:=∃x:MkV,v=x.val/\bd w x.pv (x.xs.map (fun x:ByteArray=>x.data.toList))/\Hid (x.url=u)
theorem aX.form {w:World} {v:Value} {u:Lz.ag} (h:aX w v u):∃(sch usr pas:ByteArray) (hh:Bool) (hst:ByteArray) (prt:Int) (opq:Bool) (a:Option Addr) (c:Nat) (xs:List ByteArray) (hq hf:Bool) (qry frg:ByteArray),
  v=.agg #[.string sch,.string usr,.string pas,.bool hh,.string hst,.int .i64 prt,.bool opq,.slice a xs.length c,.bool hq,.bool hf,.string qry,.string frg]/\
  u=⟨sch.data.toList,usr.data.toList,pas.data.toList,hh,hst.data.toList,prt,opq,xs.map (fun x:ByteArray=>x.data.toList),hq,hf,qry.data.toList,frg.data.toList⟩/\
  ∀(j:Nat) (x:ByteArray),xs[j]? =some x->∃G off,a=some ⟨G,off,none⟩/\G<w.heap.size/\w.cell? ⟨G,off+j,none⟩=some (.string x):=by
 obtain⟨⟨sch,usr,pas,hh,hst,prt,opq,pv,xs,hq,hf,qry,frg⟩,rfl,hp,hu⟩:=h;obtain⟨a,c,ys,Ma,jV,aA⟩:=hp;have Wv:pv=.slice a ys.length c:=Ma;subst Wv;refine⟨sch,usr,pas,hh,hst,prt,opq,a,c,ys,hq,hf,qry,frg,rfl,?_,aA⟩;rw[<-hu.out,jV];rfl
def lu (B:Nat) (w:World) (v:Value) (u:Lz.ag):Prop:=∀w',Below B w w'->aX w' v u
theorem lu.now {B:Nat} {w:World} {v:Value} {u:Lz.ag} (h:lu B w v u):aX w v u:=h w (Below.refl _ _)
theorem lu.at {B:Nat} {w w':World} {v:Value} {u:Lz.ag} (h:lu B w v u) (hb:Below B w w'):lu B w' v u:=fun w2 h2=>h w2 (hb.trans h2)
def Tn (B M:Nat) (u:Lz.ag) (w:World) (e:Ending) (w':World):Prop:=RMk B M u w e w'/\∀k,k<w.heap.size->k≠M->w'.heap[k]? =w.heap[k]?
theorem Ob (B M:Nat) (u b:Lz.ag) (v:Value) (w:World) (hm:dS B M w u) (hB:B<=w.heap.size) (hv:aX w v b):
  Calls Tryz.prog 99 #[.pointer (some ⟨M,0,none⟩),v] w (Tn B M (Lz.jh u b) w):=by
 obtain⟨sch,usr,pas,hh,hst,prt,opq,a,c,xs,hq,hf,qry,frg,hk,rfl,hc,aA⟩:=hm.form;obtain⟨jO,gn,gC,eA,fh,gS,jx,a2,c2,iC,bQ,ee,gB,jM,rfl,rfl,pz⟩:=hv.form;go_enter Tryz.func99,Tryz.ntmps99;have hMl:M<w.heap.size:=af hk.row;have hMn:¬M=w.heap.size:=by omega
 have ac2:¬w.heap.size=M:=by omega
 have c1:=rowAt hk.row 1 (.string usr) rfl;have c2:=rowAt hk.row 2 (.string pas) rfl;have c3:=rowAt hk.row 3 (.bool hh) rfl;have c4:=rowAt hk.row 4 (.string hst) rfl;have c5:=rowAt hk.row 5 (.int .i64 prt) rfl;have f1:=bE hk.row 1;have f2:=bE hk.row 2;have f3:=bE hk.row 3;have f4:=bE hk.row 4;have f5:=bE hk.row 5;have m1:=dG hk 1 (.string gn) ⟨sch,gn,pas,hh,hst,prt,opq,.slice a xs.length c,xs,hq,hf,qry,frg⟩ (Lz.ai sch.data.toList) (bp (Lz.ai sch.data.toList)) (by simp) (fun _ h=>h);have m2:=dG m1 2 (.string gC) ⟨sch,gn,gC,hh,hst,prt,opq,.slice a xs.length c,xs,hq,hf,qry,frg⟩ (Lz.ai sch.data.toList) (bp (Lz.ai sch.data.toList)) (by simp) (fun _ h=>h);have m3:=dG m2 3 (.bool eA) ⟨sch,gn,gC,eA,hst,prt,opq,.slice a xs.length c,xs,hq,hf,qry,frg⟩ (Lz.ai sch.data.toList) (bp (Lz.ai sch.data.toList)) (by simp) (fun _ h=>h);have m4:=dG m3 4 (.string fh) ⟨sch,gn,gC,eA,fh,prt,opq,.slice a xs.length c,xs,hq,hf,qry,frg⟩ (Lz.ai sch.data.toList) (bp (Lz.ai sch.data.toList)) (by simp) (fun _ h=>h)
 have m5:=dG m4 5 (.int .i64 gS) ⟨sch,gn,gC,eA,fh,gS,opq,.slice a xs.length c,xs,hq,hf,qry,frg⟩ (Lz.ai sch.data.toList) (bp (Lz.ai sch.data.toList)) (by simp) (fun _ h=>h);have pA:Below B w (((((w.setCell ⟨M,1,none⟩ (.string gn)).setCell ⟨M,2,none⟩ (.string gC)).setCell ⟨M,3,none⟩ (.bool eA)).setCell ⟨M,4,none⟩ (.string fh)).setCell ⟨M,5,none⟩ (.int .i64 gS)):=(((((Below.refl B w).setCell (p:=⟨M,1,none⟩) hk.le _).setCell (p:=⟨M,2,none⟩) hk.le _).setCell (p:=⟨M,3,none⟩) hk.le _).setCell (p:=⟨M,4,none⟩) hk.le _).setCell (p:=⟨M,5,none⟩) hk.le _;have ju:(((((w.setCell ⟨M,1,none⟩ (.string gn)).setCell ⟨M,2,none⟩ (.string gC)).setCell ⟨M,3,none⟩ (.bool eA)).setCell ⟨M,4,none⟩ (.string fh)).setCell ⟨M,5,none⟩ (.int .i64 gS)).heap.size=w.heap.size:=by simp
 have HE:Hid (∀wx:World,Below w.heap.size (((((w.setCell ⟨M,1,none⟩ (.string gn)).setCell ⟨M,2,none⟩ (.string gC)).setCell ⟨M,3,none⟩ (.bool eA)).setCell ⟨M,4,none⟩ (.string fh)).setCell ⟨M,5,none⟩ (.int .i64 gS)) wx->
   Tn B M (Lz.jh ⟨sch.data.toList,usr.data.toList,pas.data.toList,hh,hst.data.toList,prt,opq,xs.map (fun x:ByteArray=>x.data.toList),hq,hf,qry.data.toList,frg.data.toList⟩ ⟨jO.data.toList,gn.data.toList,gC.data.toList,eA,fh.data.toList,gS,jx,iC.map (fun x:ByteArray=>x.data.toList),bQ,ee,gB.data.toList,jM.data.toList⟩) w (.returned (.tuple #[])) wx):=by
  intro wx hb;refine⟨⟨rfl,pA.trans (hb.mono hB),_,m5.below (by rw[ju];exact hb),Ih rfl⟩,fun k Po hkM=>?_⟩;rw[hb.block k Po,dE hkM,dE hkM,dE hkM,dE hkM,dE hkM]
 clear m1 m2 m3 m4 m5 pA ju hk hm hv aA pz
 go_wp2_with fail
 go_region
 all_goals
  go_end0
  exact HE.out _ ((Below.refl _ _).alloc (by simp) _).drew
def UN (B:Nat) (l:List (List UInt8)) (w:World) (e:Ending) (w':World):Prop:=
 ∃(a:Option Addr) (n c:Nat) (xs:List ByteArray),e=.returned (.slice a n c)/\xs.map (fun x:ByteArray=>x.data.toList)=l/\aL w' B (.slice a n c) xs/\Below w.heap.size w w'
theorem zQ (B:Nat) (v:Value) (l:List (List UInt8)) (w:World) (h:bd w v l) (hB:B<=w.heap.size) (hL:l.length<=1000000000):Calls Tryz.prog 70 #[v] w (UN B l w):=by
 obtain⟨i0,hi,fI,ei,eM⟩:=info_parts fS;obtain⟨a,c,xs,rfl,rfl,hx⟩:=h;have o7:xs.length<=1000000000:=by simpa using hL
 cases a with
 | none=>
   have gW:xs=[]:=by
    cases xs with
    | nil=>rfl
    | cons x r=>obtain⟨G,off,h,_⟩:=hx 0 x rfl;cases h
   subst gW;have qT:=fun W:World=>Lib.run_eql_slice_nil (P:=Tryz.prog) W 30 9 none 0 c 0 0 Tryz.underlying30;clear hx;go_enter Tryz.func70,Tryz.ntmps70
   go_wp2_with fail
   go_ret;exact⟨none,0,0,[],rfl,rfl,aL.nil _ _,Below.refl _ _⟩
 | some p=>
   have uN:∀(j:Nat) (u:Value),(xs.map Value.string)[j]? =some u->w.cell? (p.add j)=some u:=by
    intro j u hj;rw[List.getElem?_map,Option.map_eq_some_iff]at hj;obtain⟨x,hj,rfl⟩:=hj;obtain⟨G,off,hp,_,hc⟩:=hx j x hj;obtain rfl:p=⟨G,off,none⟩:=Option.some.inj hp;rw[show(⟨G,off,none⟩:Addr).add j=⟨G,off+j,none⟩ by simp[Addr.add]];exact hc
   have aV:∀(j:Nat) (u:Value),(xs.map Value.string)[j]? =some u->(p.add j).block<w.heap.size:=fun j u hj=>World.block_lt_of_cell? _ _ (uN j u hj)
   have pZ:Hid (∀(j:Nat) (u:Value),(xs.map Value.string)[j]? =some u->(w.alloc (.cells #[] 9)).cell? (p.add j)=some u):=Ih (fun j u hj=>by
    rw[World.cell?_alloc_lt _ _ _ (aV j u hj)];exact uN j u hj)
   have r7:=World.ownsRow_made (base:=B) (e:=9) (size:=1) w #[] 0 hB (Nat.zero_le _) rfl;have aa4:=Ih r7;have qT:=fun W:World=>Lib.run_eql_slice_nil (P:=Tryz.prog) W 30 9 (some p) xs.length c 0 0 Tryz.underlying30;clear uN aV hx r7;go_enter Tryz.func70,Tryz.ntmps70
   go_wp2_with (at_builtin;refine wpList_append_own _ rfl (.tmp 5) (.tmp 6) 30 rfl B 9 i0 (.string ⟨#[]⟩) 1 16 Tryz.underlying30 hi fI ei eM rfl (by decide) _ 0 [] rfl aa4.out p xs.length c (xs.map Value.string) rfl (by simp) pZ.out (by simp[Value.oneCell']) (by unfold maxLen;omega) (by omega) (by simp;omega) ?_)
   intro v' w' au hg _;have hb:Below w.heap.size w w':=((Below.refl _ w).alloc (Nat.le_refl _) _).grown hg (by simp) (fun k hk=>by simp[Value.ownBlock]at hk;omega)
   try rw[Nat.zero_add,List.nil_append]at au
   have hP:aL w' B v' xs:=.inl au;obtain⟨a',c',rfl,_,_⟩:=hP.form;have HP:=Ih hP;clear au hg hP
   go_wp2_with fail
   go_ret;exact⟨a',_,c',xs,rfl,rfl,HP.out,hb⟩
theorem Bx {B M:Nat} {w w1:World} {u:Lz.ag} {v:Value} {xs:List ByteArray} (hm:dS B M w1 u) (hb:Below B w w1) (au:aL w1 B v xs):
  Below B w (w1.setCell ⟨M,7,none⟩ v)/\dS B M (w1.setCell ⟨M,7,none⟩ v) {u with path:=xs.map (fun x:ByteArray=>x.data.toList)}:=by
 obtain⟨sch,usr,pas,hh,hst,prt,opq,a,c,ys,hq,hf,qry,frg,hk,rfl,hc,aA⟩:=hm.form;refine⟨hb.setCell (p:=⟨M,7,none⟩) hk.le _,⟨sch,usr,pas,hh,hst,prt,opq,v,xs,hq,hf,qry,frg⟩,⟨g9 hk.row 7 v (by simp),au.setCell hk.row rY 7 v,hk.le⟩,Ih rfl⟩
theorem sG (B M:Nat) (u b:Lz.ag) (v:Value) (r:ByteArray) (w:World) (hE:dQ w) (hm:dS B M w u) (hB:B<=w.heap.size) (kg:15<=B) (hv:aX w v b) (hL:b.path.length+r.size<=100000000):
  Calls Tryz.prog 56 #[.pointer (some ⟨M,0,none⟩),v,.string r] w (RMk B M (Lz.ek u b r.data.toList) w):=by
 obtain⟨goal,dY⟩:∃goal,goal=Lz.ek u b r.data.toList:=⟨_,rfl⟩;rw[<-dY];obtain⟨jO,gn,gC,eA,fh,gS,jx,a2,c2,iC,bQ,ee,gB,jM,rfl,lW,pz⟩:=hv.form;obtain⟨W,hW⟩:∃W,W=w.alloc (.cells #[.string jO,.string gn,.string gC,.bool eA,.string fh,.int .i64 gS,.bool jx,.slice a2 iC.length c2,.bool bQ,.bool ee,.string gB,.string jM] 32):=⟨_,rfl⟩;have aS:Below w.heap.size w W:=by rw[hW];exact(Below.refl _ w).alloc (Nat.le_refl _) _
 have yA:B<=W.heap.size:=Nat.le_trans hB aS.size
 have hR:W.heap[w.heap.size]? =some (.cells #[.string jO,.string gn,.string gC,.bool eA,.string fh,.int .i64 gS,.bool jx,.slice a2 iC.length c2,.bool bQ,.bool ee,.string gB,.string jM] 32 (0,0)):=by
  rw[hW];show(w.heap.push _)[w.heap.size]? =_;simp
 have Sl:w.heap.size<W.heap.size:=af hR
 have hp:bd W (.slice a2 iC.length c2) b.path:=by
  have h1:bd w (.slice a2 iC.length c2) b.path:=⟨a2,c2,iC,rfl,by rw[lW],pz⟩;exact h1.below aS
 have cC:=Ih (zQ B _ _ W hp yA (by omega));have XX:=hm.below aS;have qj:=hE.below aS;have d7:=rowAt hR 7 (.slice a2 iC.length c2) rfl;have HR:=Ih hR;have lm:=Ih dY;have Hbx:=Ih lW;clear dY lW hm hE hp pz hv hR;go_enter Tryz.func56,Tryz.ntmps56
 go_wp2_with (rw[<-hW])
 refine cC.out.mono ?_;rintro e w1 ⟨a1,n1,c1,mQ,rfl,abz,dA,ar⟩;have fk:Below B w w1:=(aS.mono hB).trans (ar.mono yA);have jT:=XX.below ar;obtain⟨az,jy⟩:=Bx jT fk dA;rw[abz]at jy;have mP:dQ (w1.setCell ⟨M,7,none⟩ (.slice a1 n1 c1)):=(qj.below ar).at ((Below.refl B w1).setCell (p:=⟨M,7,none⟩) (by obtain⟨x,hx,_⟩:=jT;exact hx.le) _) kg;have jU:B<=(w1.setCell ⟨M,7,none⟩ (.slice a1 n1 c1)).heap.size:=Nat.le_trans hB az.size;obtain⟨sch,usr,pas,hh,hst,prt,opq,a,c,xs,hq,hf,qry,frg,hk,lq,hc,aA⟩:=jT.form;have acO:M<w1.heap.size:=af hk.row;have c7:=rowAt hk.row 7 (.slice a xs.length c) rfl;have f7:=bE hk.row 7
 have nO:(w1.setCell ⟨M,7,none⟩ (.slice a1 n1 c1)).heap[w.heap.size]? =some (.cells #[.string jO,.string gn,.string gC,.bool eA,.string fh,.int .i64 gS,.bool jx,.slice a2 iC.length c2,.bool bQ,.bool ee,.string gB,.string jM] 32 (0,0)):=by
  have h1:w1.heap[w.heap.size]? =_:=(ar.block _ Sl).trans HR.out;rw[dE (fun e=>?_),h1];have h2:=hk.row;have e':w.heap.size=M:=e;rw[<-e',h1]at h2;injection h2 with h2
  injection h2 with h3 _ _
  have:=congrArg Array.size h3
  simp at this
 clear lq aA hk;clear jT XX qj cC d7 ar dA;generalize hWx:w1.setCell ⟨M,7,none⟩ (.slice a1 n1 c1)=wx at az jy mP jU nO;by_cases hr:r.data.toList=[]
 ·have g0:=bg hr;have Fv:r.toList.isEmpty=true:=aq (by rw[<-aa,hr];rfl);obtain⟨sch,usr,pas,hh,hst,prt,opq,a,c,xs,hq,hf,qry,frg,hk,lq,hc,aA⟩:=jy.form;have c8:=rowAt hk.row 8 (.bool hq) rfl;have f8:=bE hk.row 8;have c10:=rowAt hk.row 10 (.string qry) rfl;have f10:=bE hk.row 10;have hqu:u.hasQuery=hq:=congrArg (fun z:Lz.ag=>z.hasQuery) lq
  have hM2:¬M=w.heap.size:=fun e=>by
   have h2:=hk.row;rw[e,nO]at h2;injection h2 with h2
   injection h2 with h3 _ _
   have:=congrArg Array.size h3
   simp at this
  have hM3:¬w.heap.size=M:=fun e=>hM2 e.symm;have r10:=rowAt nO 10 (.string gB) rfl;have r8:=rowAt nO 8 (.bool bQ) rfl;cases hq with
  | true=>
    have HG:Hid (goal={u with path:=b.path}):=by
     show _=_;rw[lm.out];unfold Lz.ek;rw[if_neg (fun h=>h hr),hqu];rfl
    have HF:Hid (RMk B M goal w (.returned (.tuple #[])) wx):=⟨rfl,az,by rw[HG.out];exact jy⟩;clear hr lq hk aA jy
    go_wp2_with fail
    go_end0
    exact HF.out
  | false=>
    have HG:Hid (goal={u with path:=b.path,query:=b.query,hasQuery:=b.hasQuery}):=by
     show _=_;rw[lm.out];unfold Lz.ek;rw[if_neg (fun h=>h hr),hqu];rfl
    have m1:=dG hk 10 (.string gB) ⟨sch,usr,pas,hh,hst,prt,opq,.slice a xs.length c,xs,false,hf,gB,frg⟩ (Lz.ai sch.data.toList) (bp (Lz.ai sch.data.toList)) (by simp) (fun _ h=>h);have m2:=dG m1 8 (.bool bQ) ⟨sch,usr,pas,hh,hst,prt,opq,.slice a xs.length c,xs,bQ,hf,gB,frg⟩ (Lz.ai sch.data.toList) (bp (Lz.ai sch.data.toList)) (by simp) (fun _ h=>h);have pA:=((Below.refl B wx).setCell (p:=⟨M,10,none⟩) hk.le (.string gB)).setCell (p:=⟨M,8,none⟩) hk.le (.bool bQ)
    have HF:Hid (∀wy,Below (wx.setCell ⟨M,10,none⟩ (.string gB)).heap.size ((wx.setCell ⟨M,10,none⟩ (.string gB)).setCell ⟨M,8,none⟩ (.bool bQ)) wy->RMk B M goal w (.returned (.tuple #[])) wy):=Ih (fun wy Qc=>by
     refine⟨rfl,(az.trans pA).trans (Qc.mono (by simpa using jU)),_,m2.below (by simpa using Qc),Ih ?_⟩;rw[HG.out,Hbx.out,show u={u with path:=u.path} from rfl];have h1:({u with path:=b.path}:Lz.ag)=_:=lq;have h2:=congrArg (fun z:Lz.ag=>({z with query:=gB.data.toList,hasQuery:=bQ}:Lz.ag)) h1;rw[Hbx.out]at h2;exact h2.symm)
    clear hr lq hk aA jy m1 m2 pA
    go_wp2_with fail
    go_region
    all_goals
     go_end0
     exact HF.out _ (by first |exact Below.refl _ _|exact(Below.refl _ _).drew)
 ·have g0:=bN hr;have Fv:r.toList.isEmpty=false:=an (by rw[<-aa];exact List.length_pos_iff.2 hr)
  have HG:Hid (goal=Lz.onP {u with path:=Lz.bu u.scheme b.path} r.data.toList):=by
   show _=_;rw[lm.out];unfold Lz.ek;rw[if_pos hr]
  have cS:=Ih (ug B M _ wx jy (by show b.path.length<=_;omega));clear hr
  go_wp2_with fail
  refine cS.out.mono ?_;rintro e w3 ⟨rfl,aO,lh⟩;have ko:=az.trans aO;have zr:=xN u.scheme b.path;have cO:=Ih (jY B M r _ w3 (mP.at aO kg) lh (Nat.le_trans jU aO.size) kg (by show(Lz.bu u.scheme b.path).length+_<=_;omega))
  go_wp2_with fail
  refine cO.out.mono ?_;rintro e w4 ⟨rfl,dy,E7⟩
  go_wp2_with fail
  go_end0
  refine⟨rfl,ko.trans dy,?_⟩;rw[HG.out];exact E7
end Go.Proofs.YtecoeebjaleeiaaGreatDoor
namespace Lz
open Go
theorem J2 (sp:Bool) (l:Bs):l.dropWhile (bz sp)=l.drop (fg sp l):=by
 unfold fg
 induction l with
 | nil=>rfl
 | cons c r ih=>
   cases h:bz sp c with
   | true=>simp[h,ih]
   | false=>simp[h]
theorem Jl (sp:Bool) (l:Bs):fg sp l<=l.length:=by
 unfold fg
 induction l with
 | nil=>simp
 | cons c r ih=>
   cases h:bz sp c with
   | true=>simp[h,ih]
   | false=>simp[h]
end Lz
namespace Go.Proofs.YtecoeebjaleeiaaGreatDoor
open Go.RowKit
theorem Gf (sp:Bool):∀(j:Nat) b,(bp sp).data.toList[j]? =some b->b.toNat<128:=by
 cases sp
 ·exact ascii_of_all (by decide)
 ·exact ascii_of_all (by decide)
theorem Ea (sp:Bool):(bp sp).size<4294967281:=by cases sp<;>decide
theorem oE (s:ByteArray) (sp:Bool) (w:World):Calls Tryz.prog 61 #[.string s,.string (bp sp)] w (gJ (s.data.toList.drop (Lz.fg sp s.data.toList)) w):=by
 refine(Any.strings_TrimLeft_laid Tryz.lays161 (by kernel_rfl) s (bp sp) w (Ea sp) (Gf sp)).mono ?_;rintro e w' ⟨h1,h2⟩;refine⟨_,h1,Ih ?_,h2⟩;show Lib.trimLeftS s.data.toList (bp sp).data.toList=_;unfold Lib.trimLeftS
 have:(bp sp).data.toList.contains=Lz.bz sp:=by
  rw[<-Lz.lf sp];cases sp<;>rfl
 rw[<-Lz.J2,this]
theorem fE (s:ByteArray) (k:Nat):(s.extract k s.size).data.toList=s.data.toList.drop k:=bR s k
theorem bY:(Tryz.prog.info? 32).map (·.size)=some 12:=by kernel_rfl
theorem Mk (u b:Lz.ag) (r:List UInt8) (sp:Bool) (gT:Lz.ai u.scheme=sp):Lz.mj u b r=if 1<Lz.fg sp r then Lz.bT u (if sp then r.drop (Lz.fg sp r)else r.drop 2)else if Lz.fg sp r=1 then .ok (Lz.onP (Lz.jh u b) (r.drop 1))else .ok (Lz.ek (Lz.jh u b) b r):=by
 unfold Lz.mj;rw[gT]
theorem Dl (B M:Nat) (u b:Lz.ag) (v:Value) (r:ByteArray) (hr:r.size<=900000) (w:World) (hE:dQ w) (hm:dS B M w u) (hB:B<=w.heap.size) (kg:15<=B) (hv:lu B w v b) (hL:b.path.length<=40000000) (ZT:u.path.length<=40000000):
  Calls Tryz.prog 58 #[.pointer (some ⟨M,0,none⟩),v,.string r] w (Ei B M (Lz.mj u b r.data.toList) w):=by
 obtain⟨jO,gn,gC,eA,fh,gS,jx,a2,c2,iC,bQ,ee,gB,jM,hvv,lW,pz⟩:=hv.now.form;obtain⟨W,hW⟩:∃W,W=w.alloc (.cells #[.string jO,.string gn,.string gC,.bool eA,.string fh,.int .i64 gS,.bool jx,.slice a2 iC.length c2,.bool bQ,.bool ee,.string gB,.string jM] 32):=⟨_,rfl⟩;have aS:Below w.heap.size w W:=by rw[hW];exact(Below.refl _ w).alloc (Nat.le_refl _) _
 have yA:B<=W.heap.size:=Nat.le_trans hB aS.size
 have hR:W.heap[w.heap.size]? =some (.cells #[.string jO,.string gn,.string gC,.bool eA,.string fh,.int .i64 gS,.bool jx,.slice a2 iC.length c2,.bool bQ,.bool ee,.string gB,.string jM] 32 (0,0)):=by
  rw[hW];show(w.heap.push _)[w.heap.size]? =_;simp
 have Sl:w.heap.size<W.heap.size:=af hR;have XX:=hm.below aS;have qj:=hE.below aS;have hMl:M<w.heap.size:=by obtain⟨x,hx,_⟩:=hm;exact af hx.row
 obtain⟨sp,gT⟩:∃sp,sp=Lz.ai u.scheme:=⟨_,rfl⟩;obtain⟨n,hn⟩:∃n,n=Lz.fg sp r.data.toList:=⟨_,rfl⟩;have hU:=Mk u b r.data.toList sp gT.symm;rw[<-hn]at hU;obtain⟨goal,dY⟩:∃goal,goal=Lz.mj u b r.data.toList:=⟨_,rfl⟩;rw[<-dY]at hU⊢
 have h12:W.cell? ⟨M,12,none⟩=some (.bool sp)/\W.cell? ⟨M,13,none⟩=some (.string (bp sp)):=by
  obtain⟨sch,usr,pas,hh,hst,prt,opq,a,c,xs,hq,hf,qry,frg,hk,rfl,_,_⟩:=XX.form;rw[gT];exact⟨rowAt hk.row 12 _ rfl,rowAt hk.row 13 _ rfl⟩
 obtain⟨h12,sw⟩:=h12;have cT:=Ih (oE r sp W);rw[<-hn]at cT;have hnl:n<=r.size:=by rw[hn,<-aa];exact Lz.Jl _ _
 have HV:=Ih hv;have HU:=Ih hU;have HR:=Ih hR;have HM:=Ih XX;have HW:Hid (W=w.alloc (.cells #[.string jO,.string gn,.string gC,.bool eA,.string fh,.int .i64 gS,.bool jx,.slice a2 iC.length c2,.bool bQ,.bool ee,.string gB,.string jM] 32)):=Ih hW;have Hvv:=Ih hvv.symm;subst hvv;clear hv hU hR XX hm hE pz dY hn gT lW hW;go_enter Tryz.func58,Tryz.ntmps58
 go_wp2_with (rw[<-HW.out])
 refine cT.out.mono ?_;rintro e w1 ⟨tb,rfl,Ck,ar⟩;have L5:tb.size=r.size-n:=by rw[<-aa,Ck.out,List.length_drop,aa]
 have Sh:(r.size:Int)-(tb.size:Int)=(n:Int):=by omega
 have aaw:IntKind.i64.wrap (n:Int)=(n:Int):=IntWalk.i64_in _ (by omega);have Ls:w1.cell? ⟨M,12,none⟩=some (.bool sp):=by rw[ar.cell (p:=⟨M,12,none⟩) (show M<_ by omega)];exact h12
 have lk:w1.heap[w.heap.size]? =_:=(ar.block _ Sl).trans HR.out;have jT:=HM.out.below ar;have qX:=qj.below ar;have nQ:B<=w1.heap.size:=Nat.le_trans yA ar.size;have fk:Below B w w1:=(aS.mono hB).trans (ar.mono yA);have uL:=HV.out.at fk;have acw:w.heap.size<w1.heap.size:=af lk;clear Ck L5 cT h12 sw;rcases Nat.lt_or_ge 1 n with yj|yj
 ·have VR:(1:Int)<(n:Int):=by omega
  have yd:(0:Int)<=(n:Int):=by omega
  have WP:(n:Int)<=(r.size:Int):=by omega
  have X3:(2:Int)<=(r.size:Int):=by omega
  cases sp with
  | true=>
    have HG:Hid (goal=Lz.bT u (r.extract n r.size).data.toList):=by show _=_;rw[HU.out,if_pos yj,if_pos rfl,fE]
    have cH:=Ih (lr B M u (r.extract n r.size) (by have:=aP r n r.size;omega) w1 qX jT nQ kg (by omega))
    go_wp2_with fail
    refine cH.out.mono ?_;rintro e w2 ⟨v2,rfl,az,bA⟩
    go_wp2_with fail
    go_ret;refine⟨_,rfl,fk.trans az,?_⟩;rw[HG.out];exact bA
  | false=>
    have HG:Hid (goal=Lz.bT u (r.extract 2 r.size).data.toList):=by show _=_;rw[HU.out,if_pos yj,if_neg (by simp),fE]
    have cH:=Ih (lr B M u (r.extract 2 r.size) (by have:=aP r 2 r.size;omega) w1 qX jT nQ kg (by omega))
    go_wp2_with fail
    refine cH.out.mono ?_;rintro e w2 ⟨v2,rfl,az,bA⟩
    go_wp2_with fail
    go_ret;refine⟨_,rfl,fk.trans az,?_⟩;rw[HG.out];exact bA
 ·have VR:¬((1:Int)<(n:Int)):=by omega
  have cR:=Ob B M u b _ w1 jT nQ (uL.now);have CR:=Ih cR;clear cR;by_cases pZ:n=1
  ·have T9:((n:Int)==1)=true:=by rw[pZ];rfl
   have h1I:(1:Int)<=(r.size:Int):=by omega
   have HG:Hid (goal=.ok (Lz.onP (Lz.jh u b) (r.extract 1 r.size).data.toList)):=by show _=_;rw[HU.out,if_neg (by omega),if_pos pZ,fE]
   clear pZ;have X9:=lk
   go_wp2_with (refine wpList_load_row rfl 32 (.tmp 4) rfl w.heap.size rfl 32 _ (0,0) _ X9 Tryz.underlying32 rfl bY ?_)
   refine CR.out.mono ?_;rintro e w2 ⟨⟨rfl,az,jy⟩,_⟩;have bI:=fk.trans az;have cO:=Ih (jY B M (r.extract 1 r.size) _ w2 (qX.at az kg) jy (Nat.le_trans nQ az.size) kg (by show u.path.length+_<=_;have:=aP r 1 r.size;omega))
   go_wp2_with fail
   refine cO.out.mono ?_;rintro e w3 ⟨rfl,aO,lh⟩
   go_wp2_with fail
   go_ret;refine⟨_,rfl,bI.trans aO,?_⟩;rw[HG.out];exact⟨rfl,lh⟩
  ·have T9:((n:Int)==1)=false:=by rw[beq_eq_false_iff_ne];omega
   have HG:Hid (goal=.ok (Lz.ek (Lz.jh u b) b r.data.toList)):=by show _=_;rw[HU.out,if_neg (by omega),if_neg pZ]
   clear pZ;have X9:=lk
   go_wp2_with (refine wpList_load_row rfl 32 (.tmp 4) rfl w.heap.size rfl 32 _ (0,0) _ X9 Tryz.underlying32 rfl bY ?_)
   refine CR.out.mono ?_;rintro e w2 ⟨⟨rfl,az,jy⟩,Tv⟩;have nO:=(Tv w.heap.size acw (by omega)).trans lk;have bI:=fk.trans az;have cP:=Ih (sG B M _ b _ r w2 (qX.at az kg) jy (Nat.le_trans nQ az.size) kg (uL.at az).now (by omega));clear Tv X9 lk;have X9:=nO
   go_wp2_with (refine wpList_load_row rfl 32 (.tmp 4) rfl w.heap.size rfl 32 _ (0,0) _ X9 Tryz.underlying32 rfl bY ?_)
   refine cP.out.mono ?_;rintro e w3 ⟨rfl,aO,lh⟩
   go_wp2_with fail
   go_ret;refine⟨_,rfl,bI.trans aO,?_⟩;rw[HG.out];exact⟨rfl,lh⟩
def iJ (B:Nat) (w:World) (bv:Value):Option Lz.ag->Prop
 | none=>bv=.pointer none
 | some u=>∃(p:Nat) (fr:Nat×Nat) (sch usr pas:ByteArray) (hh:Bool) (hst:ByteArray) (prt:Int) (opq:Bool) (a:Option Addr) (c:Nat) (xs:List ByteArray) (hq hf:Bool) (qry frg:ByteArray),bv=.pointer (some ⟨p,0,none⟩)/\p<B/\
  w.heap[p]? =some (.cells #[.string sch,.string usr,.string pas,.bool hh,.string hst,.int .i64 prt,.bool opq,.slice a xs.length c,.bool hq,.bool hf,.string qry,.string frg] 32 fr)/\
  u=⟨sch.data.toList,usr.data.toList,pas.data.toList,hh,hst.data.toList,prt,opq,xs.map (fun x:ByteArray=>x.data.toList),hq,hf,qry.data.toList,frg.data.toList⟩/\
  ∀(j:Nat) (x:ByteArray),xs[j]? =some x->∃G off,a=some ⟨G,off,none⟩/\G<B/\w.cell? ⟨G,off+j,none⟩=some (.string x)
theorem iJ.at {B:Nat} {w w':World} {bv:Value} {b:Option Lz.ag} (h:iJ B w bv b) (hb:Below B w w'):iJ B w' bv b:=by
 cases b with
 | none=>exact h
 | some u=>
   obtain⟨p,fr,sch,usr,pas,hh,hst,prt,opq,a,c,xs,hq,hf,qry,frg,h1,h2,h3,h4,h5⟩:=h;refine⟨p,fr,sch,usr,pas,hh,hst,prt,opq,a,c,xs,hq,hf,qry,frg,h1,h2,by rw[hb.block p h2];exact h3,h4,fun j x hj=>?_⟩;obtain⟨G,off,e1,e2,e3⟩:=h5 j x hj;exact⟨G,off,e1,e2,by rw[hb.cell (p:=⟨G,off+j,none⟩) e2];exact e3⟩
theorem sA {B:Nat} {w:World} {sch usr pas:ByteArray} {hh:Bool} {hst:ByteArray} {prt:Int} {opq:Bool} {a:Option Addr} {c:Nat} {xs:List ByteArray} {hq hf:Bool} {qry frg:ByteArray} (hB:B<=w.heap.size)
  (h:∀(j:Nat) (x:ByteArray),xs[j]? =some x->∃G off,a=some ⟨G,off,none⟩/\G<B/\w.cell? ⟨G,off+j,none⟩=some (.string x)):
  lu B w (.agg #[.string sch,.string usr,.string pas,.bool hh,.string hst,.int .i64 prt,.bool opq,.slice a xs.length c,.bool hq,.bool hf,.string qry,.string frg]) ⟨sch.data.toList,usr.data.toList,pas.data.toList,hh,hst.data.toList,prt,opq,xs.map (fun x:ByteArray=>x.data.toList),hq,hf,qry.data.toList,frg.data.toList⟩:=by
 intro w' hb;refine⟨⟨sch,usr,pas,hh,hst,prt,opq,.slice a xs.length c,xs,hq,hf,qry,frg⟩,rfl,⟨a,c,xs,rfl,rfl,fun j x hj=>?_⟩,Ih rfl⟩;obtain⟨G,off,e1,e2,e3⟩:=h j x hj;exact⟨G,off,e1,Nat.lt_of_lt_of_le e2 (Nat.le_trans hB hb.size),by rw[hb.cell (p:=⟨G,off+j,none⟩) e2];exact e3⟩
theorem gY {B M:Nat} {w:World} {u:Lz.ag} (hm:dS B M w u) (k:Nat) (hk:k<14):∃v,w.cell? ⟨M,k,none⟩=some v/\w.frozen? ⟨M,k,none⟩=false:=by
 obtain⟨x,hx,_⟩:=hm;refine⟨_,rowAt hx.row k _ (Array.getElem?_eq_getElem (by simpa using hk)),bE hx.row k⟩
theorem A4 {B M:Nat} {w w1:World} {u:Lz.ag} (hm:dS B M w1 u) (hb:Below B w w1) (h:ByteArray):
  Below B w (w1.setCell ⟨M,4,none⟩ (.string h))/\dS B M (w1.setCell ⟨M,4,none⟩ (.string h)) {u with host:=h.data.toList}:=by
 obtain⟨sch,usr,pas,hh,hst,prt,opq,a,c,ys,hq,hf,qry,frg,hk,rfl,hc,aA⟩:=hm.form;exact⟨hb.setCell (p:=⟨M,4,none⟩) hk.le _,_,dG hk 4 (.string h) ⟨sch,usr,pas,hh,h,prt,opq,.slice a ys.length c,ys,hq,hf,qry,frg⟩ (Lz.ai sch.data.toList) (bp (Lz.ai sch.data.toList)) (by simp) (fun _ h=>h),Ih rfl⟩
theorem Za {B M:Nat} {w w1:World} {u:Lz.ag} (hm:dS B M w1 u) (hb:Below B w w1) (q:Bool):
  Below B w (w1.setCell ⟨M,3,none⟩ (.bool q))/\dS B M (w1.setCell ⟨M,3,none⟩ (.bool q)) {u with hasHost:=q}:=by
 obtain⟨sch,usr,pas,hh,hst,prt,opq,a,c,ys,hq,hf,qry,frg,hk,rfl,hc,aA⟩:=hm.form;exact⟨hb.setCell (p:=⟨M,3,none⟩) hk.le _,_,dG hk 3 (.bool q) ⟨sch,usr,pas,q,hst,prt,opq,.slice a ys.length c,ys,hq,hf,qry,frg⟩ (Lz.ai sch.data.toList) (bp (Lz.ai sch.data.toList)) (by simp) (fun _ h=>h),Ih rfl⟩
theorem UL {B M:Nat} {w:World} {u:Lz.ag} (hm:dS B M w u):∃hst:ByteArray,w.cell? ⟨M,4,none⟩=some (.string hst)/\hst.data.toList=u.host:=by
 obtain⟨sch,usr,pas,hh,hst,prt,opq,a,c,ys,hq,hf,qry,frg,hk,rfl,hc,aA⟩:=hm.form;exact⟨hst,rowAt hk.row 4 _ rfl,rfl⟩
theorem Nc {B M:Nat} {w:World} {u:Lz.ag} (hm:dS B M w u) {sp:Bool} (gT:sp=Lz.ai u.scheme):w.cell? ⟨M,12,none⟩=some (.bool sp)/\w.cell? ⟨M,13,none⟩=some (.string (bp sp)):=by
 obtain⟨sch,usr,pas,hh,hst,prt,opq,a,c,xs,hq,hf,qry,frg,hk,rfl,_,_⟩:=hm.form;rw[gT];exact⟨rowAt hk.row 12 _ rfl,rowAt hk.row 13 _ rfl⟩
theorem Ej (w:World) (B:Nat) (x:ByteArray):aL (w.alloc (.cells #[.string x] 9)) B (.slice (some ⟨w.heap.size,0,none⟩) 1 1) [x]:=
 .inr ⟨⟨w.heap.size,0,none⟩,rfl,rfl,fun j u hj=>bD w (.string x) 9 j u hj,fun _=>⟨#[.string x],(0,0),by show(w.heap.push _)[w.heap.size]? =_;simp⟩⟩
theorem FT (u:Lz.ag) (b:Option Lz.ag) (r:List UInt8) (h:1<Lz.fg true r):Lz.em u b r=
  (if Lz.bL (Lz.dI true (r.drop 2)).1 then .ok (Lz.onP {u with hasHost:=true} (r.drop 2))
  else(if(Lz.dI true (r.drop 2)).1=[]then Lz.UR.ok {u with hasHost:=true} else Lz.eI {u with hasHost:=true} (Lz.dI true (r.drop 2)).1).bind fun u=>.ok (Lz.onP (if u.host=Lz.iI then{u with host:=[]} else u) (Lz.dI true (r.drop 2)).2.1)):=by
 unfold Lz.em;simp only;rw[if_pos h]
theorem GA (u:Lz.ag) (b:Option Lz.ag) (r:List UInt8) (h:Lz.fg true r=1):Lz.em u b r=
  .ok (Lz.onP (match b with
   | some x=>if x.scheme=Lz.bM then(if Lz.gz (r.drop 1)=false/\Lz.iS x.path=true then{u with hasHost:=true,host:=x.host,path:=x.path.take 1} else{u with hasHost:=true,host:=x.host})else{u with hasHost:=true}
   | none=>{u with hasHost:=true}) (r.drop 1)):=by
 unfold Lz.em;simp only;rw[if_neg (by omega),if_pos h];cases b<;>rfl
theorem Eu (u:Lz.ag) (b:Option Lz.ag) (r:List UInt8) (h:Lz.fg true r=0):Lz.em u b r=match b with
  | some x=>if x.scheme=Lz.bM then(if Lz.gz r then .ok (Lz.onP {u with hasHost:=true,host:=x.host} r)else .ok (Lz.ek {u with hasHost:=true,host:=x.host} x r))else .ok (Lz.onP {u with hasHost:=true} r)
  | none=>.ok (Lz.onP {u with hasHost:=true} r):=by
 unfold Lz.em;simp only;rw[if_neg (by omega),if_neg (by omega)];cases b<;>rfl
def ofQ:Option Lz.ag->Bool
 | some x=>decide (x.scheme=Lz.bM)
 | none=>false
theorem xO (B M:Nat) (u:Lz.ag) (b:Option Lz.ag) (bv:Value) (r:ByteArray) (hr:r.size<=900000) (w:World) (hE:dQ w) (hm:dS B M w u) (hB:B<=w.heap.size) (kg:15<=B) (JF:iJ B w bv b) (hL:∀x,b=some x->x.path.length<=40000000) (ZT:u.path.length<=40000000) (hs:u.scheme=Lz.bM):
  Calls Tryz.prog 57 #[.pointer (some ⟨M,0,none⟩),bv,.string r] w (Ei B M (Lz.em u b r.data.toList) w):=by
 obtain⟨goal,dY⟩:∃goal,goal=Lz.em u b r.data.toList:=⟨_,rfl⟩;rw[<-dY];have lm:=Ih dY;obtain⟨v3,c3,f3⟩:=gY hm 3 (by decide);obtain⟨ar,jT⟩:=Za hm (Below.refl B w) true;have nQ:B<=(w.setCell ⟨M,3,none⟩ (.bool true)).heap.size:=Nat.le_trans hB ar.size;have qX:=hE.at ar kg;have aaN:=JF.at ar;obtain⟨W1,nD⟩:∃W1,W1=w.setCell ⟨M,3,none⟩ (.bool true):=⟨_,rfl⟩;rw[<-nD]at ar jT nQ qX aaN;have aU:({u with hasHost:=true}:Lz.ag).scheme=Lz.bM:=hs;obtain⟨u1,jR⟩:∃u1,u1=({u with hasHost:=true}:Lz.ag):=⟨_,rfl⟩;rw[<-jR]at jT aU;have TK:=Ih jR;obtain⟨h12,sw⟩:=Nc jT (sp:=true) (by rw[aU];rfl);obtain⟨n,hn⟩:∃n,n=Lz.fg true r.data.toList:=⟨_,rfl⟩;have cT:=Ih (oE r true W1);rw[<-hn]at cT;have Hn:=Ih hn;have hnl:n<=r.size:=by rw[hn,<-aa];exact Lz.Jl _ _
 have TP:u1.path.length<=40000000:=by rw[jR];exact ZT
 have hMl:M<W1.heap.size:=by obtain⟨x,hx,_⟩:=jT;exact af hx.row
 have HW1:Hid (W1=w.setCell ⟨M,3,none⟩ (.bool true)):=Ih nD;obtain⟨q,hq⟩:∃q,q=ofQ b:=⟨_,rfl⟩;have Hq:=Ih hq;have HE0:=Ih hE;have Hbv:=Ih aaN;clear dY hm hE JF hn jR hs ZT hq nD;go_enter Tryz.func57,Tryz.ntmps57
 go_upto_region 2 with fail
 rw[<-HW1.out]
 go_cut [7] (fun s7 wx=>s7=.bool q/\W1=wx)
 case first=>
  cases b with
  | none=>
    have Tr:bv=.pointer none:=Hbv.out;subst Tr;have Um:q=false:=Hq.out;subst Um
    go_wp2_with fail
    go_meet;exact⟨rfl,rfl⟩
  | some x=>
    obtain⟨p,fr,sch,usr,pas,hh,hst,prt,opq,a,c,xs,bQ,hf,qry,frg,rfl,Pa,aZ,hx,aA⟩:=Hbv.out;have d0:=rowAt aZ 0 (.string sch) rfl;have hqd:Hid (q=decide (sch.data.toList=Lz.bM)):=by show _=_;rw[Hq.out];show decide (x.scheme=_)=_;rw[hx]
    clear hx aA;by_cases tL:sch.data.toList=Lz.bM
    ·have g0:=bg (k:=[102,105,108,101]) tL;have XK:q=true:=by rw[hqd.out];exact decide_eq_true tL
     subst XK
     go_wp2_with fail
     go_meet;exact⟨rfl,rfl⟩
    ·have g0:=bN (k:=[102,105,108,101]) tL;have XK:q=false:=by rw[hqd.out];exact decide_eq_false tL
     subst XK
     go_wp2_with fail
     go_meet;exact⟨rfl,rfl⟩
 case rest=>
  obtain⟨rfl,rfl⟩:=hcut
  go_wp2_with fail
  refine cT.out.mono ?_;rintro e w1 ⟨tb,rfl,Ck,az⟩;have L5:tb.size=r.size-n:=by rw[<-aa,Ck.out,List.length_drop,aa]
  have Sh:(r.size:Int)-(tb.size:Int)=(n:Int):=by omega
  have aaw:IntKind.i64.wrap (n:Int)=(n:Int):=IntWalk.i64_in _ (by omega);have jy:=jT.below az;have mP:=qX.below az;have bI:Below B w w1:=ar.trans (az.mono nQ);have jU:B<=w1.heap.size:=Nat.le_trans nQ az.size;have g13:w1.cell? ⟨M,13,none⟩=some (.string (bp true)):=by rw[az.cell (p:=⟨M,13,none⟩) hMl];exact sw
  have PQ:=Ih (Hbv.out.at (az.mono nQ));clear Ck L5 cT h12 sw jT qX HW1 Hbv c3 f3 hMl;rcases Nat.lt_or_ge 1 n with yj|yj
  ·have VR:(1:Int)<(n:Int):=by omega
   have X3:(2:Int)<=(r.size:Int):=by omega
   have pY:=aP r 2 r.size;have hU:=FT u b r.data.toList (by rw[<-Hn.out];exact yj);rw[<-lm.out,<-TK.out,<-fE]at hU;have cC:=wH M true (r.extract 2 r.size) (by omega) w1 g13;have vp:=Lz.oz true (r.extract 2 r.size).data.toList;generalize hct:Lz.dI true (r.extract 2 r.size).data.toList=cc at cC hU vp;obtain⟨hl,tl,gu⟩:=cc;simp only[aa]at vp;have CC:=Ih cC;have HU:=Ih hU;clear cC hU hct
   go_wp2_with fail
   refine CC.out.mono ?_;rintro e w2 ⟨hb,PD,rfl,TA,Ck,aO⟩;have hhs:hb.size<=r.size:=by rw[<-aa,TA.out];omega
   have hts:PD.size<=r.size:=by rw[<-aa,Ck.out];omega
   have PZ:goal=(if Lz.bL hb.data.toList then .ok (Lz.onP u1 (r.extract 2 r.size).data.toList)
     else(if hb.data.toList=[]then Lz.UR.ok u1 else Lz.eI u1 hb.data.toList).bind fun u=>.ok (Lz.onP (if u.host=Lz.iI then{u with host:=[]} else u) PD.data.toList)):=by
    rw[HU.out,TA.out,Ck.out]
   have cD:=pk hb w2;generalize Lz.bL hb.data.toList=dq at cD PZ;have CD:=Ih cD;have EW:=Ih PZ;have lh:=jy.below aO;have LD:=mP.below aO;have ko:Below B w w2:=bI.trans (aO.mono jU);have sq:B<=w2.heap.size:=Nat.le_trans jU aO.size;clear PZ cD CC HU TA Ck jy mP;cases dq with
   | true=>
     have HG:Hid (goal=.ok (Lz.onP u1 (r.extract 2 r.size).data.toList)):=by show _=_;rw[EW.out,if_pos rfl]
     have cO:=Ih (jY B M (r.extract 2 r.size) u1 w2 LD lh sq kg (by omega))
     go_wp2_with fail
     refine(CD.out).mono ?_;rintro e w3 ⟨rfl,rfl⟩
     go_wp2_with fail
     refine cO.out.mono ?_;rintro e w3 ⟨rfl,dy,E7⟩
     go_wp2_with fail
     go_ret;refine⟨_,rfl,ko.trans dy,?_⟩;rw[HG.out];exact⟨rfl,E7⟩
   | false=>
     have TX:Hid (goal=(if hb.data.toList=[]then Lz.UR.ok u1 else Lz.eI u1 hb.data.toList).bind fun u=>.ok (Lz.onP (if u.host=Lz.iI then{u with host:=[]} else u) PD.data.toList)):=by show _=_;rw[EW.out,if_neg (by simp)]
     clear EW
     go_wp2_with fail
     refine(CD.out).mono ?_;rintro e w3 ⟨rfl,rfl⟩;obtain⟨ne,ed⟩:∃ne,ne= !decide (hb.data.toList=[]):=⟨_,rfl⟩;have Tz:=Ih ed;clear ed
     go_upto_region 12 with fail
     go_cut [66] (fun s66 wx=>s66=.bool ne/\w2=wx)
     case first=>
      by_cases he:hb.data.toList=[]
      ·have g0:=bg he;have Fv:hb.toList.isEmpty=true:=aq (by rw[<-aa,he];rfl);have hnf:ne=false:=by rw[Tz.out,decide_eq_true he];rfl
       subst hnf;clear he
       go_wp2_with fail
       go_meet;exact⟨rfl,rfl⟩
      ·have g0:=bN he;have Fv:hb.toList.isEmpty=false:=an (by rw[<-aa];exact List.length_pos_iff.2 he);have hnf:ne=true:=by rw[Tz.out,decide_eq_false he];rfl
       subst hnf;clear he
       go_wp2_with fail
       go_meet;exact⟨rfl,rfl⟩
     case rest=>
      obtain⟨rfl,rfl⟩:=hcut
      go_upto_if 66 with fail
      go_cut [] (fun wx=>Below B w wx/\∃u2,dS B M wx u2/\u2.path.length<=40000000/\Hid (goal=.ok (Lz.onP (if u2.host=Lz.iI then{u2 with host:=[]} else u2) PD.data.toList)))
      case first=>
       cases ne with
       | false=>
         have he:hb.data.toList=[]:=by have:=Tz.out;simpa using this
         have HG:Hid (goal=.ok (Lz.onP (if u1.host=Lz.iI then{u1 with host:=[]} else u1) PD.data.toList)):=by show _=_;rw[TX.out,if_pos he];rfl
         clear he
         go_wp2_with fail
         go_meet;exact⟨ko,u1,lh,TP,HG⟩
       | true=>
         have he:¬hb.data.toList=[]:=by have:=Tz.out;simpa using this
         have HG:Hid (goal=(Lz.eI u1 hb.data.toList).bind fun u=>.ok (Lz.onP (if u.host=Lz.iI then{u with host:=[]} else u) PD.data.toList)):=by show _=_;rw[TX.out,if_neg he]
         have cH:=Ih (AH B M u1 hb (by omega) w2 LD lh sq);clear he TX
         go_wp2_with fail
         refine cH.out.mono ?_;rintro e w4 ⟨v,rfl,dy,bA⟩;have vu:=ko.trans dy;generalize Ff:Lz.eI u1 hb.data.toList=rr at bA HG;cases rr with
         | er m=>
           obtain⟨pp,rfl⟩:=bA;clear Ff
           go_wp2_with fail
           go_ret;refine⟨_,rfl,vu,?_⟩;rw[HG.out];exact⟨pp,rfl⟩
         | ok u2=>
           obtain⟨rfl,E7⟩:=bA;have AM:u2.path.length<=40000000:=by rw[(Lz.qo Ff).1];exact TP
           have oX:Hid (goal=.ok (Lz.onP (if u2.host=Lz.iI then{u2 with host:=[]} else u2) PD.data.toList)):=Ih HG.out;clear Ff
           go_wp2_with fail
           go_meet;exact⟨vu,u2,E7,AM,oX⟩
      case rest=>
       clear ko lh LD sq;obtain⟨ko,u2,lh,AM,HG⟩:=hcut;have sq:B<=wc.heap.size:=Nat.le_trans hB ko.size;have LD:dQ wc:=HE0.out.at ko kg;obtain⟨hst,c4,Sg⟩:=UL lh;obtain⟨v4,c4',f4⟩:=gY lh 4 (by decide);clear c4';by_cases Yd:hst.data.toList=Lz.iI
       ·have g0:=bg (k:=[108,111,99,97,108,104,111,115,116]) Yd;have oX:Hid (goal=.ok (Lz.onP {u2 with host:=(⟨#[]⟩:ByteArray).data.toList} PD.data.toList)):=by show _=_;rw[HG.out,if_pos (by rw[<-Sg];exact Yd)]
        obtain⟨dy,E7⟩:=A4 lh ko ⟨#[]⟩;have LL:Below B wc (wc.setCell ⟨M,4,none⟩ (.string ⟨#[]⟩)):=(Below.refl B wc).setCell (p:=⟨M,4,none⟩) (by obtain⟨x,hx,_⟩:=lh;exact hx.le) _;have cO:=Ih (jY B M PD _ (wc.setCell ⟨M,4,none⟩ (.string ⟨#[]⟩)) (LD.at LL kg) E7 (Nat.le_trans hB dy.size) kg (by show u2.path.length+_<=_;omega));clear Yd Sg
        go_wp2_with fail
        refine cO.out.mono ?_;rintro e w5 ⟨rfl,aI,so⟩
        go_wp2_with fail
        go_ret;refine⟨_,rfl,dy.trans aI,?_⟩;rw[oX.out];exact⟨rfl,so⟩
       ·have g0:=bN (k:=[108,111,99,97,108,104,111,115,116]) Yd;have oX:Hid (goal=.ok (Lz.onP u2 PD.data.toList)):=by show _=_;rw[HG.out,if_neg (by rw[<-Sg];exact Yd)]
        have cO:=Ih (jY B M PD _ wc LD lh sq kg (by omega));clear Yd Sg
        go_wp2_with fail
        refine cO.out.mono ?_;rintro e w5 ⟨rfl,aI,so⟩
        go_wp2_with fail
        go_ret;refine⟨_,rfl,ko.trans aI,?_⟩;rw[oX.out];exact⟨rfl,so⟩
  ·have VR:¬((1:Int)<(n:Int)):=by omega
   by_cases pZ:n=1
   ·have T9:((n:Int)==1)=true:=by rw[pZ];rfl
    have h1I:(1:Int)<=(r.size:Int):=by omega
    have iY:=aP r 1 r.size;have hU:=GA u b r.data.toList (by rw[<-Hn.out];exact pZ);rw[<-lm.out,<-fE]at hU;cases q with
    | false=>
      have HG:Hid (goal=.ok (Lz.onP u1 (r.extract 1 r.size).data.toList)):=by
       show _=_;rw[hU];congr 2;cases b with
       | none=>exact TK.out.symm
       | some x=>simp only;rw[if_neg (of_decide_eq_false Hq.out.symm)];exact TK.out.symm
      have cO:=Ih (jY B M (r.extract 1 r.size) u1 w1 mP jy jU kg (by omega));clear pZ hU
      go_wp2_with fail
      refine cO.out.mono ?_;rintro e w5 ⟨rfl,aI,so⟩
      go_wp2_with fail
      go_ret;refine⟨_,rfl,bI.trans aI,?_⟩;rw[HG.out];exact⟨rfl,so⟩
    | true=>
      cases b with
      | none=>cases Hq.out
      | some x=>
        have gW:x.scheme=Lz.bM:=of_decide_eq_true Hq.out.symm;simp only at hU;rw[if_pos gW]at hU;obtain⟨p,fr,sch,usr,pas,hh,hst,prt,opq,a,c,xs,bQ,hf,qry,frg,rfl,Pa,aZ,hx,aA⟩:=PQ.out;have d4:=rowAt aZ 4 (.string hst) rfl;have hxh:x.host=hst.data.toList:=by rw[hx]
        have hxp:x.path=xs.map (fun x:ByteArray=>x.data.toList):=by rw[hx]
        obtain⟨v4,c4,f4⟩:=gY jy 4 (by decide);obtain⟨aO,lh⟩:=A4 jy bI hst;have tI:Below B w1 (w1.setCell ⟨M,4,none⟩ (.string hst)):=(Below.refl B w1).setCell (p:=⟨M,4,none⟩) (by obtain⟨x,hx,_⟩:=jy;exact hx.le) _;have sq:B<=(w1.setCell ⟨M,4,none⟩ (.string hst)).heap.size:=Nat.le_trans hB aO.size;have LD:=mP.at tI kg;have d7:(w1.setCell ⟨M,4,none⟩ (.string hst)).cell? ⟨p,7,none⟩=some (.slice a xs.length c):=by rw[tI.cell (p:=⟨p,7,none⟩) Pa];exact rowAt aZ 7 _ rfl
        have vM:∀(j:Nat) (y:ByteArray),xs[j]? =some y->∃G off,a=some ⟨G,off,none⟩/\G<B/\(w1.setCell ⟨M,4,none⟩ (.string hst)).cell? ⟨G,off+j,none⟩=some (.string y):=by
         intro j y hj;obtain⟨G,off,e1,e2,e3⟩:=aA j y hj;exact⟨G,off,e1,e2,by rw[tI.cell (p:=⟨G,off+j,none⟩) e2];exact e3⟩
        have Yo:bd (w1.setCell ⟨M,4,none⟩ (.string hst)) (.slice a xs.length c) (xs.map (fun x:ByteArray=>x.data.toList)):=⟨a,c,xs,rfl,rfl,fun j y hj=>by
         obtain⟨G,off,e1,e2,e3⟩:=vM j y hj;exact⟨G,off,e1,Nat.lt_of_lt_of_le e2 sq,e3⟩⟩
        have cR:=xe _ _ _ Yo;have cV:=wS (r.extract 1 r.size) (w1.setCell ⟨M,4,none⟩ (.string hst));rw[hxp,hxh]at hU;have hU1:({u with hasHost:=true,host:=hst.data.toList}:Lz.ag)={u1 with host:=hst.data.toList}:=by rw[TK.out]
        have PZ:({u with hasHost:=true,host:=hst.data.toList,path:=(xs.map (fun x:ByteArray=>x.data.toList)).take 1}:Lz.ag)={u1 with host:=hst.data.toList,path:=(xs.map (fun x:ByteArray=>x.data.toList)).take 1}:=by rw[TK.out]
        rw[hU1,PZ]at hU;generalize hw3:w1.setCell ⟨M,4,none⟩ (.string hst)=w3 at aO lh tI sq LD d7 vM Yo cR cV;have VM:=Ih (jY B M (r.extract 1 r.size) _ w3 LD lh sq kg (by show u1.path.length+_<=_;omega));generalize hrt:Lz.iS (xs.map (fun x:ByteArray=>x.data.toList))=rt at cR hU;generalize Lz.gz (r.extract 1 r.size).data.toList=dv at cV hU;have CV:=Ih cV;have CR:=Ih cR;have HU:=Ih hU;have HC:=Ih vM;clear cV cR hU hU1 PZ vM Yo aA hx gW hxh hxp pZ aZ;cases dv with
        | true=>
          have HG:Hid (goal=.ok (Lz.onP {u1 with host:=hst.data.toList} (r.extract 1 r.size).data.toList)):=by show _=_;rw[HU.out,if_neg (by simp)]
          have cO:=VM;clear hrt
          go_wp2_with fail
          refine CV.out.mono ?_;rintro e w4 ⟨rfl,rfl⟩
          go_wp2_with fail
          refine cO.out.mono ?_;rintro e w5 ⟨rfl,aI,so⟩
          go_wp2_with fail
          go_ret;refine⟨_,rfl,aO.trans aI,?_⟩;rw[HG.out];exact⟨rfl,so⟩
        | false=>
          cases rt with
          | false=>
            have HG:Hid (goal=.ok (Lz.onP {u1 with host:=hst.data.toList} (r.extract 1 r.size).data.toList)):=by show _=_;rw[HU.out,if_neg (by simp)]
            have cO:=VM;clear hrt
            go_wp2_with fail
            refine CV.out.mono ?_;rintro e w4 ⟨rfl,rfl⟩
            go_wp2_with fail
            refine CR.out.mono ?_;rintro e w4 ⟨rfl,rfl⟩
            go_wp2_with fail
            refine cO.out.mono ?_;rintro e w5 ⟨rfl,aI,so⟩
            go_wp2_with fail
            go_ret;refine⟨_,rfl,aO.trans aI,?_⟩;rw[HG.out];exact⟨rfl,so⟩
          | true=>
            cases xs with
            | nil=>cases hrt
            | cons x0 xr=>
              obtain⟨G,off,rfl,hGB,qP⟩:=HC.out 0 x0 rfl;rw[Nat.add_zero]at qP;have yB:(0:Int)<((x0::xr).length:Int):=by rw[List.length_cons];omega
              have Cj:(0:Int)<(xr.length:Int)+1:=by omega
              have HG:Hid (goal=.ok (Lz.onP {u1 with host:=hst.data.toList,path:=[x0].map (fun x:ByteArray=>x.data.toList)} (r.extract 1 r.size).data.toList)):=by show _=_;rw[HU.out,if_pos ⟨rfl,rfl⟩];rfl
              have AK:Below w3.heap.size w3 (w3.alloc (.cells #[.string x0] 9)):=(Below.refl _ _).alloc (Nat.le_refl _) _;obtain⟨aI,so⟩:=Bx (lh.below AK) (aO.trans (AK.mono sq)) (Ej w3 B x0);obtain⟨v7,c7,f7⟩:=gY (lh.below AK) 7 (by decide);have hE5:dQ ((w3.alloc (.cells #[.string x0] 9)).setCell ⟨M,7,none⟩ (.slice (some ⟨w3.heap.size,0,none⟩) 1 1)):=HE0.out.at aI kg;have cO:=Ih (jY B M (r.extract 1 r.size) _ _ hE5 so (Nat.le_trans hB aI.size) kg (by show 1+_<=_;omega));clear hrt hE5 so
              go_wp2_with fail
              refine CV.out.mono ?_;rintro e w4 ⟨rfl,rfl⟩
              go_wp2_with fail
              refine CR.out.mono ?_;rintro e w4 ⟨rfl,rfl⟩
              go_wp2_with fail
              refine cO.out.mono ?_;rintro e w5 ⟨rfl,fX,Fb⟩
              go_wp2_with fail
              go_ret;refine⟨_,rfl,aI.trans fX,?_⟩;rw[HG.out];exact⟨rfl,Fb⟩
   ·have T9:((n:Int)==1)=false:=by rw[beq_eq_false_iff_ne];omega
    have hU:=Eu u b r.data.toList (by rw[<-Hn.out];omega);rw[<-lm.out]at hU;cases q with
    | false=>
      have HG:Hid (goal=.ok (Lz.onP u1 r.data.toList)):=by
       show _=_;rw[hU];cases b with
       | none=>rw[TK.out]
       | some x=>simp only;rw[if_neg (of_decide_eq_false Hq.out.symm),TK.out]
      have cO:=Ih (jY B M r u1 w1 mP jy jU kg (by omega));clear pZ hU
      go_wp2_with fail
      refine cO.out.mono ?_;rintro e w5 ⟨rfl,aI,so⟩
      go_wp2_with fail
      go_ret;refine⟨_,rfl,bI.trans aI,?_⟩;rw[HG.out];exact⟨rfl,so⟩
    | true=>
      cases b with
      | none=>cases Hq.out
      | some x=>
        have gW:x.scheme=Lz.bM:=of_decide_eq_true Hq.out.symm;simp only at hU;rw[if_pos gW]at hU;have hxL:=hL x rfl;obtain⟨p,fr,sch,usr,pas,hh,hst,prt,opq,a,c,xs,bQ,hf,qry,frg,rfl,Pa,aZ,hx,aA⟩:=PQ.out;have d4:=rowAt aZ 4 (.string hst) rfl;have hxh:x.host=hst.data.toList:=by rw[hx]
        obtain⟨v4,c4,f4⟩:=gY jy 4 (by decide);obtain⟨aO,lh⟩:=A4 jy bI hst;have tI:Below B w1 (w1.setCell ⟨M,4,none⟩ (.string hst)):=(Below.refl B w1).setCell (p:=⟨M,4,none⟩) (by obtain⟨x,hx,_⟩:=jy;exact hx.le) _;have sq:B<=(w1.setCell ⟨M,4,none⟩ (.string hst)).heap.size:=Nat.le_trans hB aO.size;have LD:=mP.at tI kg;have hK:=(sA (sch:=sch) (usr:=usr) (pas:=pas) (hh:=hh) (hst:=hst) (prt:=prt) (opq:=opq) (c:=c) (hq:=bQ) (hf:=hf) (qry:=qry) (frg:=frg) jU aA).at tI;rw[<-hx]at hK;have Jv:(w1.setCell ⟨M,4,none⟩ (.string hst)).heap[p]? =_:=(tI.block p Pa).trans aZ;have cV:=wS r w1;rw[hxh]at hU;have hU1:({u with hasHost:=true,host:=hst.data.toList}:Lz.ag)={u1 with host:=hst.data.toList}:=by rw[TK.out]
        rw[hU1]at hU;generalize hw3:w1.setCell ⟨M,4,none⟩ (.string hst)=w3 at aO lh tI sq LD hK Jv;have cO:=Ih (jY B M r _ w3 LD lh sq kg (by show u1.path.length+_<=_;omega));have cP:=Ih (sG B M _ x _ r w3 LD lh sq kg hK.now (by omega));generalize Lz.gz r.data.toList=dv at cV hU;have CV:=Ih cV;have HU:=Ih hU;clear cV hU hU1 aA hx gW hxh pZ aZ;cases dv with
        | true=>
          have HG:Hid (goal=.ok (Lz.onP {u1 with host:=hst.data.toList} r.data.toList)):=by show _=_;rw[HU.out,if_pos rfl]
          go_wp2_with fail
          refine CV.out.mono ?_;rintro e w4 ⟨rfl,rfl⟩
          go_wp2_with fail
          refine cO.out.mono ?_;rintro e w5 ⟨rfl,aI,so⟩
          go_wp2_with fail
          go_ret;refine⟨_,rfl,aO.trans aI,?_⟩;rw[HG.out];exact⟨rfl,so⟩
        | false=>
          have HG:Hid (goal=.ok (Lz.ek {u1 with host:=hst.data.toList} x r.data.toList)):=by show _=_;rw[HU.out,if_neg (by simp)]
          go_wp2_with fail
          refine CV.out.mono ?_;rintro e w4 ⟨rfl,rfl⟩
          go_wp2_with (refine wpList_load_row rfl 32 (.tmp 131) rfl p rfl 32 _ fr _ Jv Tryz.underlying32 rfl bY ?_)
          refine cP.out.mono ?_;rintro e w5 ⟨rfl,aI,so⟩
          go_wp2_with fail
          go_ret;refine⟨_,rfl,aO.trans aI,?_⟩;rw[HG.out];exact⟨rfl,so⟩
end Go.Proofs.YtecoeebjaleeiaaGreatDoor
