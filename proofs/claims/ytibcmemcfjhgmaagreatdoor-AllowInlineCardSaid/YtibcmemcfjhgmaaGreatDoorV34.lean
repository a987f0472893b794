/-
  An array of two texts that came in.
-/
import Derived.Test.YtibcmemcfjhgmaaGreatDoorV26
import Derived.Test.YtibcmemcfjhgmaaGreatDoorV33
set_option maxHeartbeats 8000000
set_option maxRecDepth 100000
namespace Go.Proofs.YtibcmemcfjhgmaaGreatDoor
open Go.ChangeShapes Go.WideShapes Go.ChangeAt Go.RowKit
theorem gKw:Tryz.prog.globalNamed "lazaret/sources.keywords"=some 6:=by kernel_rfl
theorem gBt:Tryz.prog.globalNamed "lazaret/match.better"=some 5:=by kernel_rfl
theorem E4 {W:World} (h:Lib.VarReads Tryz.prog W "lazaret/sources.keywords" Rows.laid_lazaret_sources_keywords):
  ∃b o c,W.cell? ⟨6,0,none⟩=some (.slice (some ⟨b,o,none⟩) 8 c)/\b<W.heap.size/\∀j,j<8->W.cell? ⟨b,o+j,none⟩=some (.string ((Lz.a6.map (fun l=>(⟨l.toArray⟩:ByteArray))).getD j ByteArray.empty)):=by
 obtain⟨g',t',cs,fuel,p,V1,Sp,tn,hd⟩:=h;obtain rfl:=Option.some.inj (gKw.symm.trans V1);obtain rfl:=Option.some.inj ((show(Tryz.prog.globals[6]?).map (·.type)=some 22 by kernel_rfl).symm.trans Sp);have bH:=World.var?_cell gKw tn 0;obtain⟨a,cap,iF,_,dY⟩:=open_row (Tryz.underlying22) (by kernel_rfl) hd;obtain⟨b,o,sp⟩:=a
 have lW:cs[0]? =some (.slice (some ⟨b,o,sp⟩) 8 cap):=by
  rw[<-Array.getElem?_toList,iF];rfl
 have aaf:∀j,j<8->∃s:ByteArray,W.cell? ((⟨b,o,sp⟩:Addr).add j)=some (.string s)/\s.data.toList=Lz.a6.getD j []:=by
  intro j hj
  obtain⟨v,n,q,hv,ht⟩:=dY j (.lit (.string (Lz.a6.getD j []))) (by
   match j,hj with
   | 0,_=>rfl
   | 1,_=>rfl
   | 2,_=>rfl
   | 3,_=>rfl
   | 4,_=>rfl
   | 5,_=>rfl
   | 6,_=>rfl
   | 7,_=>rfl)
  obtain⟨s,hs,hx,_⟩:=DataW.trod_string (Tryz.underlying9) ht;obtain rfl:v=.string s:=by simpa using hs
  refine⟨s,hv,?_⟩;simp only[Prod.mk.injEq,DataW.lit.injEq,Lit.string.injEq]at hx;exact hx.1.symm
 obtain⟨s0,hs0,_⟩:=aaf 0 (by omega);have hs0:W.cell? ⟨b,o,sp⟩=some (.string s0):=by simpa [Addr.add]using hs0
 obtain rfl:=yp hs0;refine⟨b,o,cap,?_,?_,?_⟩
 ·rw[bH];exact lW
 ·unfold World.cell? at hs0;rcases Nat.lt_or_ge b W.heap.size with h'|h'
  ·exact h'
  ·simp[Array.getElem?_eq_none h']at hs0
 ·intro j hj;obtain⟨s,hs,he⟩:=aaf j hj;rw[show(⟨b,o+j,none⟩:Addr)=(⟨b,o,none⟩:Addr).add j by simp[Addr.add],hs];have:s=⟨(Lz.a6.getD j []).toArray⟩:=by rw[<-he]
  rw[this]
  match j,hj with
  | 0,_=>rfl
  | 1,_=>rfl
  | 2,_=>rfl
  | 3,_=>rfl
  | 4,_=>rfl
  | 5,_=>rfl
  | 6,_=>rfl
  | 7,_=>rfl
open Go.WideElems in
theorem Ak {W:World} {n:Nat} {v:Value} {ls:List (List UInt8)} {q:List MemPlace} (h:elemAt (fun _=>()) Tryz.prog W 0 (fun _=>true) false n 22 v=some (.slice (ls.map fun l=>.lit (.string l)) [],q)):eY W v ls:=by
 unfold elemAt at h;split at h
 ·rename_i hf;obtain⟨a,cap,iF,_,dY⟩:=open_row (Tryz.underlying22) (by kernel_rfl) h;rw[List.length_map]at iF
  have hv:v=.slice (some a) ls.length cap:=by
   cases v<;>first
    | (simp[Value.cells]at iF;done)
    | (simp only[Value.cells]at iF;simpa using iF)
    | (exfalso;revert hf;simp[Value.formed,Tryz.underlying22];done)
  obtain⟨b,o,sp⟩:=a;refine⟨some ⟨b,o,sp⟩,cap,ls.map (fun l=>(⟨l.toArray⟩:ByteArray)),by rw[List.length_map];exact hv,by rw[List.map_map];exact(List.map_congr_left (fun x _=>rfl)).trans (List.map_id ls),fun j x hj=>?_⟩;rw[List.getElem?_map]at hj;obtain⟨l,hl,rfl⟩:=Option.map_eq_some_iff.1 hj;have h0l:0<ls.length:=Nat.lt_of_le_of_lt (Nat.zero_le j) (List.getElem?_eq_some_iff.1 hl).1;obtain⟨u0,m0,r0,hu0,_⟩:=dY 0 (.lit (.string ls[0])) (by rw[List.getElem?_map,List.getElem?_eq_getElem h0l];rfl);have ack:W.cell? ⟨b,o,sp⟩=some u0:=by simpa [Addr.add]using hu0
  obtain rfl:=yp ack;obtain⟨u,m,r,hu,ht⟩:=dY j (.lit (.string l)) (by rw[List.getElem?_map,hl];rfl);obtain⟨s,hs,hx,_⟩:=DataW.trod_string (Tryz.underlying9) ht;obtain rfl:u=.string s:=by simpa using hs
  have GD:s.data.toList=l:=by
   simp only[Prod.mk.injEq,DataW.lit.injEq,Lit.string.injEq]at hx;exact hx.1.symm
  have qG:W.cell? ⟨b,o+j,none⟩=some (.string s):=by
   rw[<-hu,show(⟨b,o+j,none⟩:Addr)=(⟨b,o,none⟩:Addr).add j by simp[Addr.add]]
  refine⟨b,o,rfl,World.block_lt_of_cell? _ _ qG,?_⟩;rw[qG,<-GD]
 ·cases h
def Bb:List UInt8:=[104,116,116,112]
def wsL:List UInt8:=[119,115]
def Nb:List UInt8:=[119,115,115]
theorem yt (l:List UInt8) (zd:DataW Unit):(Rows.laid_lazaret_match_better (H:=Unit)).atKey (.string l) zd=if l=Bb\/l=wsL\/l=Nb then .slice ((Lz.lN l).map fun x=>.lit (.string x)) []else zd:=by
 by_cases h1:l=Bb
 ·subst h1;rfl
 ·by_cases h2:l=wsL
  ·subst h2;rfl
  ·by_cases h3:l=Nb
   ·subst h3;rfl
   ·rw[if_neg (by simp[h1,h2,h3])];have e1:(Bb==l)=false:=beq_eq_false_iff_ne.2 (Ne.symm h1);have e2:(wsL==l)=false:=beq_eq_false_iff_ne.2 (Ne.symm h2);have e3:(Nb==l)=false:=beq_eq_false_iff_ne.2 (Ne.symm h3);unfold Bb at e1;unfold wsL at e2;unfold Nb at e3;unfold Rows.laid_lazaret_match_better DataW.atKey;simp only[List.find?_cons,Lit.sameKey,e1,e2,e3,List.find?_nil]
theorem Jf {l:List UInt8} (h1:l≠Bb) (h2:l≠wsL) (h3:l≠Nb):Lz.lN l=[]:=by
 unfold Lz.lN;rw[if_neg (show ¬l=Lz.vr from h1),if_neg (show ¬l=Lz.wsS from h2),if_neg (show ¬l=Lz.Mb from h3)]
open Go.WideElems Go.WideMaps in
theorem tU {W:World} (h:Lib.VarReads Tryz.prog W "lazaret/match.better" Rows.laid_lazaret_match_better):mS W:=by
 obtain⟨g',t',cs,fuel,p,V1,Sp,tn,hd⟩:=h;obtain rfl:=Option.some.inj (gBt.symm.trans V1);obtain rfl:=Option.some.inj ((show(Tryz.prog.globals[5]?).map (·.type)=some 240 by kernel_rfl).symm.trans Sp);have bH:=World.var?_cell gBt tn 0;rcases WideElems.open_map Tryz.underlying240 hd with⟨_,hx⟩|⟨bm,es,clock,n,_,iF,hb,_,F,hx⟩
 ·cases (congrArg Prod.fst hx)
 ·have lW:cs[0]? =some (.map (some bm)):=by rw[<-Array.getElem?_toList,iF];rfl
  refine⟨bm,es,clock,by rw[bH];exact lW,(Array.getElem?_eq_some_iff.1 hb).1,hb,fun p W' hp hW'=>?_⟩;have acp:keyOf Tryz.prog 9 (.string p)=some (.string p.data.toList):=keyOf_string_mk Tryz.underlying9 (by unfold maxLen;omega);have hm:=congrArg Prod.fst hx
  dsimp only at hm
  rcases WideElems.fit_lookup (string_law Tryz.underlying9) Tryz.underlying240 (z:=.slice none 0 0) (w:=W') (by kernel_rfl) hW' F acp with⟨K9,wJ⟩|⟨v,y,K9,hR,wJ,_⟩
  ·refine⟨_,K9,?_⟩
   have hn:Lz.lN p.data.toList=[]:=by
    have h1:=wJ (.lit (.bool true));rw[<-hm,yt]at h1;split at h1
    ·cases h1
    ·rename_i nx;exact Jf (fun e=>nx (.inl e)) (fun e=>nx (.inr (.inl e))) (fun e=>nx (.inr (.inr e)))
   rw[hn];exact⟨none,0,[],rfl,rfl,fun j x hj=>by simp at hj⟩
  ·refine⟨v,K9,?_⟩
   have hy:y.1=.slice ((Lz.lN p.data.toList).map fun x=>.lit (.string x)) []:=by
    have h1:=wJ (.lit (.bool true));have h2:=wJ .nil;rw[<-hm,yt]at h1 h2;split at h1
    ·exact h1.symm
    ·rename_i nx;rw[if_neg nx]at h2;rw[<-h1]at h2;cases h2
   obtain⟨y1,y2⟩:=y
   dsimp only at hy
   subst hy;exact Ak hR
theorem QS {W:World} (hH:eU W) (hU:wg W) {l:List (String×DataW Unit)} (h:laidMetH Tryz.prog l W) (m5:("lazaret/sources.keywords",Rows.laid_lazaret_sources_keywords)∈l) (m6:("lazaret/match.better",Rows.laid_lazaret_match_better)∈l):M5 W:=
 ⟨⟨hH.ml,hH.pow,hH.syn,hH.rng,hH.et,E4 (ef h m5 rfl),hH.size⟩,hU,tU (ef h m6 rfl)⟩
end Go.Proofs.YtibcmemcfjhgmaaGreatDoor
namespace Go.Proofs.YtibcmemcfjhgmaaGreatDoor
open Go.RowKit
theorem Jc (B M:Nat) (x:MkV) (u:Lz.au) (hx:x.url=u) (s:ByteArray) (hs:s.size<=800000) (w:World) (hE:eU w) (hm:mQ B M w x false ⟨#[]⟩) (hB:B<=w.heap.size) (Gu:15<=B) (hL2:u.path.length<=30000000) (lV:(Lz.aI s.data.toList).2.2=true) (hf:(Lz.aI s.data.toList).1≠Lz.cJ) (iB:Lz.aj (Lz.aI s.data.toList).1=true):
  Calls Tryz.prog 72 #[.pointer (some ⟨M,0,none⟩),.string s,.pointer none] w (Kt B M (Lz.jL u s.data.toList none) w):=by
 obtain⟨goal,gC⟩:∃goal,goal=Lz.jL u s.data.toList none:=⟨_,rfl⟩;rw[<-gC];have cS:=zR s (by omega) w hE;have Z7:(Lz.aI s.data.toList).2.2=true->(Lz.aI s.data.toList).1.length+1+(Lz.aI s.data.toList).2.1.length=s.size:=fun h=>by rw[Lz.sw h,ac]
 obtain⟨al,wD⟩:∃al,al=(Lz.aI s.data.toList).1:=⟨_,rfl⟩;obtain⟨rl,OS⟩:∃rl,rl=(Lz.aI s.data.toList).2.1:=⟨_,rfl⟩;have hU:=Mr u s.data.toList none (a:=al) (r:=rl) (by rw[wD,OS,<-lV]);rw[<-gC]at hU;have aO:=Z7 lV;rw[<-wD,<-OS,lV]at cS;rw[<-wD]at hf iB;have Hf:=Ih hf;have Hsp:=Ih iB;rw[<-wD,<-OS]at aO;have CS:=Ih cS;have HU:=Ih hU;have HE:=Ih hE;have HM:=Ih hm;clear gC cS Z7 lV wD OS hU hE hm hf iB;go_enter Tryz.func72,Tryz.ntmps72
 go_wp2_with fail
 refine CS.out.mono ?_;rintro e w1 ⟨a,r,rfl,ha,hr,av⟩;have har:a.size+1+r.size=s.size:=by rw[<-ac a,<-ac r,ha.out,hr.out];exact aO
 have Zx:Hid (goal=okU {u with scheme:=a.data.toList} a.data.toList r.data.toList none):=by
  show _=_;rw[HU.out,ha.out,hr.out]
 have cA:=Ih (Uz B M x false ⟨#[]⟩ a w1 (HM.out.below av));have AE:¬a.data.toList=Lz.cJ:=by rw[ha.out];exact Hf.out
 have Xp:Hid (true=Lz.aj a.data.toList):=Ih (by rw[ha.out,Hsp.out]);clear ha hr aO HU CS Hf Hsp
 go_wp2_with fail
 refine cA.out.mono ?_;rintro e w2 ⟨rfl,aE,tL⟩;have mj:Below B w w2:=(av.mono hB).trans aE;have AM:B<=w2.heap.size:=Nat.le_trans hB mj.size;have R9:=HE.out.at mj Gu;obtain⟨u2,qG⟩:∃u2,u2=({u with scheme:=a.data.toList}:Lz.au):=⟨_,rfl⟩;have hmi:fQ B M w2 u2:=⟨{x with sch:=a},tL,Ih (by rw[qG,<-hx];rfl)⟩
 have HU3:Hid (goal=okU u2 a.data.toList r.data.toList none):=by
  show _=_;rw[Zx.out,qG]
 have GD:u2.scheme=a.data.toList:=by rw[qG]
 have Ay:u2.path.length<=30000000:=by rw[qG];exact hL2
 clear Zx tL hx qG HE HM cA;have g0:=fU (k:=[102,105,108,101]) AE;obtain⟨h12,wu⟩:=Tp hmi (sp:=true) (by rw[GD];exact Xp.out)
 have HG:Hid (goal=Lz.dK u2 (r.data.toList.drop (Lz.kh true r.data.toList))):=by
  show _=_;rw[HU3.out,okU,if_neg AE,<-Xp.out];rfl
 clear HU3 AE Xp;have lq:(r.data.toList.drop (Lz.kh true r.data.toList)).length<=r.size:=by rw[List.length_drop,ac];omega
 have cT:=Ih (By r true w2)
 have cH:Hid (∀(W:World) (t:ByteArray),Below w2.heap.size w2 W->Hid (t.data.toList=r.data.toList.drop (Lz.kh true r.data.toList))->Calls Tryz.prog 125 #[.pointer (some ⟨M,0,none⟩),.string t] W (Kt B M (Lz.dK u2 (r.data.toList.drop (Lz.kh true r.data.toList))) W)):=Ih (fun W t hW ht=>by
  rw[<-ht.out];have hts:t.size<=r.size:=by rw[<-ac t,ht.out];exact lq
  exact BR B M u2 t (by omega) W (R9.below hW) (hmi.below hW) (Nat.le_trans AM hW.size) Gu (by omega))
 go_wp2_with fail
 refine cT.out.mono ?_;rintro e w4 ⟨tb,rfl,htb,eB⟩;have OT:=mj.trans (eB.mono AM);have cH2:=Ih (cH.out w4 tb eB htb)
 go_wp2_with fail
 refine cH2.out.mono ?_;rintro e w3 ⟨v,rfl,bj,dH⟩
 go_wp2_with fail
 go_ret;refine⟨_,rfl,OT.trans bj,?_⟩;rw[HG.out];exact dH
theorem KB (s:ByteArray) (y:Lz.au) (hs:s.size<=800000) (w:World) (hE:wg w) (hy:Lz.pO s.data.toList none=.ok y) (gY:Lz.aj y.scheme=true) (lV:(Lz.aI (Lib.cut (Lib.cut (Lz.bB s.data.toList) [35]).1 [63]).1).2.2=true) (hf:(Lz.aI (Lib.cut (Lib.cut (Lz.bB s.data.toList) [35]).1 [63]).1).1≠Lz.cJ) (iB:Lz.aj (Lz.aI (Lib.cut (Lib.cut (Lz.bB s.data.toList) [35]).1 [63]).1).1=true):
  Calls Tryz.prog 41 #[.string s,.pointer none] w (YY (Lz.pO s.data.toList none) w):=by
 obtain⟨goal,gC⟩:∃goal,goal=Lz.pO s.data.toList none:=⟨_,rfl⟩;rw[<-gC];have OK:=gC;rw[LD]at gC;have wB:=Lz.xO s.data.toList;have Oo:=fun v hv=>Lz.F0 (s:=s.data.toList) (b:=none) (v:=v) hv (fun y hy=>by cases hy);have xG:Lz.bq none<=20000000:=Nat.zero_le _;have HY:Hid (goal=.ok y):=Ih (OK.trans hy);have Hx1:=Ih lV;have Hx2:=Ih hf;have Hx3:=Ih iB;clear lV hf iB OK hy;have jC:=Lz.lz 35 (Lz.bB s.data.toList);have gF:=Lz.lz 63 (Lib.cut (Lz.bB s.data.toList) [35]).1;obtain⟨W,hW⟩:∃W,W=(w.alloc (.cells #[.string ⟨#[]⟩,.string ⟨#[]⟩,.string ⟨#[]⟩,.bool false,.string ⟨#[]⟩,.int .i64 0,.bool false,.slice none 0 0,.bool false,.bool false,.string ⟨#[]⟩,.string ⟨#[]⟩] 38)).alloc (.cells #[.string ⟨#[]⟩,.string ⟨#[]⟩,.string ⟨#[]⟩,.bool false,.string ⟨#[]⟩,.int .i64 (-1),.bool false,.slice none 0 0,.bool false,.bool false,.string ⟨#[]⟩,.string ⟨#[]⟩,.bool false,.string ⟨#[]⟩] 96):=⟨_,rfl⟩;have ja:Below w.heap.size w W:=by rw[hW];exact((Below.refl _ w).alloc (Nat.le_refl _) _).alloc (by simp) _
 have hR:W.heap[w.heap.size]? =some (.cells #[.string ⟨#[]⟩,.string ⟨#[]⟩,.string ⟨#[]⟩,.bool false,.string ⟨#[]⟩,.int .i64 0,.bool false,.slice none 0 0,.bool false,.bool false,.string ⟨#[]⟩,.string ⟨#[]⟩] 38 (0,0)):=by
  rw[hW,Below.heap_alloc _ _ _ (by simp)];show(w.heap.push _)[w.heap.size]? =_;simp
 obtain⟨M,hM⟩:∃M,M=w.heap.size+1:=⟨_,rfl⟩
 have OM:W.heap[M]? =some (.cells #[.string ⟨#[]⟩,.string ⟨#[]⟩,.string ⟨#[]⟩,.bool false,.string ⟨#[]⟩,.int .i64 (-1),.bool false,.slice none 0 0,.bool false,.bool false,.string ⟨#[]⟩,.string ⟨#[]⟩,.bool false,.string ⟨#[]⟩] 96 (0,0)):=by
  rw[hW,hM];exact lg w _ _
 obtain⟨B,KP⟩:∃B,B=w.heap.size+1:=⟨_,rfl⟩;have wF:mQ B M W ⟨⟨#[]⟩,⟨#[]⟩,⟨#[]⟩,false,⟨#[]⟩,-1,false,.slice none 0 0,[],false,false,⟨#[]⟩,⟨#[]⟩⟩ false ⟨#[]⟩:=⟨OM,bG.nil _ _,by omega⟩;have hwB:w.heap.size<B:=by omega
 have Gt:B<=W.heap.size:=by have:=aZ OM;omega
 have XS:=hE.below ja;have Gu:15<=B:=by have:=hE.h.size;omega
 have cC:=Ih (Jv s (by omega) W XS);have HW:=Ih hW;have HM:Hid (M=w.heap.size+1):=Ih hM;have HR:=Ih hR;have wn:=Ih gC;have OO:=Ih Oo;have HE:=Ih hE;have Hf1:=Ih jC;have Hq1:=Ih gF;clear hW hR gC Oo hE OM jC gF hM KP;go_enter Tryz.func41,Tryz.ntmps41
 go_wp2_with (rw[<-HW.out])
 rw[<-HM.out];refine cC.out.mono ?_;rintro e w1 ⟨u1,rfl,tP,av⟩;have ac3:u1.size<=s.size:=by rw[<-ac,tP.out];rw[ac]at wB;exact wB
 have cF:=Ih (CK u1 ⟨#[35]⟩ (by omega) w1 (XS.below av).h);rw[show Lib.cut u1.data.toList (⟨#[35]⟩:ByteArray).data.toList=Lib.cut (Lz.bB s.data.toList) [35] by rw[tP.out]]at cF;obtain⟨hf,hhf⟩:∃hf,hf=(Lib.cut (Lz.bB s.data.toList) [35]).2.2:=⟨_,rfl⟩;rw[<-hhf]at cF;have Hhf:=Ih hhf;clear hhf
 go_wp2_with fail
 refine cF.out.mono ?_;rintro e w2 ⟨a1,f1,rfl,Gg,jC,aE⟩;have nC:=ae av aE;have tL:=(wF.below av).below aE;have ac8:a1.size<=s.size:=by rw[<-ac,Gg.out];have:=Hf1.out;rw[ac]at wB;omega
 have c11:=rowAt tL.row 11 (.string ⟨#[]⟩) rfl;have z11:=bX tL.row 11;have m3:=gv tL 11 (.string f1) ⟨⟨#[]⟩,⟨#[]⟩,⟨#[]⟩,false,⟨#[]⟩,-1,false,.slice none 0 0,[],false,false,⟨#[]⟩,f1⟩ false ⟨#[]⟩ (by simp) (fun _ h=>h);have c9:=rowAt m3.row 9 (.bool false) rfl;have z9:=bX m3.row 9;have m4:=gv m3 9 (.bool hf) ⟨⟨#[]⟩,⟨#[]⟩,⟨#[]⟩,false,⟨#[]⟩,-1,false,.slice none 0 0,[],false,hf,⟨#[]⟩,f1⟩ false ⟨#[]⟩ (by simp) (fun _ h=>h);have oh:=wF.le;have ZV:Below B w2 ((w2.setCell ⟨M,11,none⟩ (.string f1)).setCell ⟨M,9,none⟩ (.bool hf)):=((Below.refl B w2).setCell (p:=⟨M,11,none⟩) oh _).setCell (p:=⟨M,9,none⟩) oh _;generalize hw4:(w2.setCell ⟨M,11,none⟩ (.string f1)).setCell ⟨M,9,none⟩ (.bool hf)=w4 at m4 ZV;have OT:Below B W w4:=(nC.mono Gt).trans ZV;have hE4:eU w4:=XS.h.at OT Gu;have cQ:=Ih (CK a1 ⟨#[63]⟩ (by omega) w4 hE4);rw[show Lib.cut a1.data.toList (⟨#[63]⟩:ByteArray).data.toList=Lib.cut (Lib.cut (Lz.bB s.data.toList) [35]).1 [63] by rw[Gg.out]]at cQ;obtain⟨hq,hhq⟩:∃hq,hq=(Lib.cut (Lib.cut (Lz.bB s.data.toList) [35]).1 [63]).2.2:=⟨_,rfl⟩;rw[<-hhq]at cQ;have Hhq:=Ih hhq;have Hm4:=Ih m4;clear hhq m3 m4 tL wF cC cF
 go_wp2_with fail
 refine cQ.out.mono ?_;rintro e w5 ⟨a2,q2,rfl,ti,jr,bv⟩;have acE:a2.size<=s.size:=by rw[<-ac,ti.out];have:=Hq1.out;have:=Hf1.out;rw[ac]at wB;omega
 have hm5:=Hm4.out.below bv;have ab4:Below B W w5:=OT.trans (bv.mono (Nat.le_trans Gt OT.size));have c10:=rowAt hm5.row 10 (.string ⟨#[]⟩) rfl;have z10:=bX hm5.row 10;have m6:=gv hm5 10 (.string q2) ⟨⟨#[]⟩,⟨#[]⟩,⟨#[]⟩,false,⟨#[]⟩,-1,false,.slice none 0 0,[],false,hf,q2,f1⟩ false ⟨#[]⟩ (by simp) (fun _ h=>h);have c8:=rowAt m6.row 8 (.bool false) rfl;have z8:=bX m6.row 8;have m7:=gv m6 8 (.bool hq) ⟨⟨#[]⟩,⟨#[]⟩,⟨#[]⟩,false,⟨#[]⟩,-1,false,.slice none 0 0,[],hq,hf,q2,f1⟩ false ⟨#[]⟩ (by simp) (fun _ h=>h);have aat:Below B w5 ((w5.setCell ⟨M,10,none⟩ (.string q2)).setCell ⟨M,8,none⟩ (.bool hq)):=((Below.refl B w5).setCell (p:=⟨M,10,none⟩) oh _).setCell (p:=⟨M,8,none⟩) oh _;generalize hw7:(w5.setCell ⟨M,10,none⟩ (.string q2)).setCell ⟨M,8,none⟩ (.bool hq)=w7 at m7 aat;have WK:Below B W w7:=ab4.trans aat;have hB7:B<=w7.heap.size:=Nat.le_trans Gt WK.size;have hE7:eU w7:=XS.h.at WK Gu
 have HG:Hid (goal=(Lz.jL ⟨[],[],[],false,[],-1,false,[],hq,hf,q2.data.toList,f1.data.toList⟩ a2.data.toList none).bind Lz.Fi):=by
  show _=_;rw[wn.out,<-Hhq.out,<-Hhf.out,<-ti.out,<-jr.out,<-jC.out]
 have HP:Hid (∀v,Lz.jL ⟨[],[],[],false,[],-1,false,[],hq,hf,q2.data.toList,f1.data.toList⟩ a2.data.toList none=.ok v->v.query.length<=s.data.toList.length+Lz.bq none/\v.fragment.length<=s.data.toList.length):=by
  intro v hv;refine OO.out v ?_;rw[<-Hhq.out,<-Hhf.out,<-ti.out,<-jr.out,<-jC.out];exact hv
 have cM:=Ih (Jc B M _ _ rfl a2 (by omega) w7 hE7 m7 hB7 Gu (by show 0<=_;omega) (by rw[ti.out];exact Hx1.out) (by rw[ti.out];exact Hx2.out) (by rw[ti.out];exact Hx3.out));clear m6 m7 hm5 wn OO Hhq Hhf ti jr jC Gg tP cQ Hm4
 go_wp2_with fail
 refine cM.out.mono ?_;rintro e w8 ⟨v,rfl,OJ,dH⟩;have Ww:Below B W w8:=WK.trans OJ;have hB8:B<=w8.heap.size:=Nat.le_trans Gt Ww.size;have HRm:Hid (SM B M (Lz.jL ⟨[],[],[],false,[],-1,false,[],hq,hf,q2.data.toList,f1.data.toList⟩ a2.data.toList none) w8 v):=Ih dH;clear dH cM;generalize Lz.jL ⟨[],[],[],false,[],-1,false,[],hq,hf,q2.data.toList,f1.data.toList⟩ a2.data.toList none=rm at HRm HG HP;have hR8:w8.heap[w.heap.size]? =_:=(Ww.block _ hwB).trans HR.out;cases rm with
 | er n=>have e:=HG.out;rw[HY.out]at e;cases e
 | ok u2=>
   obtain⟨rfl,hm8⟩:=HRm.out;obtain⟨hql,hfl⟩:=HP.out u2 rfl;rw[ac]at hql hfl;obtain⟨qb,fb,e10,WA,e11,hfb⟩:=SY hm8;have Wy:qb.size<=30000000:=by rw[<-ac,WA];omega
   have hqd:Hid (qb.data.toList=u2.query):=Ih WA;have IV:Hid (goal=(Lz.UR.ok u2).bind Lz.Fi):=Ih HG.out
   have xD:u2.scheme=y.scheme:=by
    have e:=IV.out;rw[HY.out]at e;have e2:Lz.Fi u2=.ok y:=e.symm;unfold Lz.Fi at e2;split at e2<;>(injection e2 with e2;rw[<-e2])
   have Hsp:Hid (true=Lz.aj u2.scheme):=Ih (by rw[xD,gY]);obtain⟨h12,wu⟩:=Tp hm8 (sp:=true) Hsp.out;clear HG HP HRm WA hfb e11 xD
   have OA:Hid (goal=.ok {u2 with query:=Lz.aq (Lz.dw 3) u2.query,fragment:=Lz.aq (Lz.dw 1) u2.fragment}):=by
    show _=_;rw[IV.out];show Lz.Fi u2=_;unfold Lz.Fi;rw[<-Hsp.out];rfl
   have cE:=Ih (iM 3 (by decide) qb (by omega) w8)
   go_wp2_with fail
   refine cE.out.mono ?_;rintro e w9 ⟨qe,rfl,wC,IJ⟩;have XI:=hm8.below IJ;have acj:Below B W w9:=Ww.trans (IJ.mono hB8);obtain⟨v10,e10,z10⟩:=GQ XI 10 (by decide);obtain⟨Wm,SA⟩:=NX XI acj qe;have aah:Below B w9 (w9.setCell ⟨M,10,none⟩ (.string qe)):=(Below.refl B w9).setCell (p:=⟨M,10,none⟩) oh _;obtain⟨q3,f3,abG,_,e11,Sg⟩:=SY SA;clear abG;generalize hw10:w9.setCell ⟨M,10,none⟩ (.string qe)=Wa at Wm SA aah e11;have acX:f3.size<=s.size:=by rw[<-ac f3,Sg];exact hfl
   have cE2:=Ih (iM 1 (by decide) f3 (by omega) Wa);have HF3:Hid (f3.data.toList=u2.fragment):=Ih Sg;clear Sg
   go_wp2_with fail
   refine cE2.out.mono ?_;rintro e Sa ⟨fe,rfl,hfe,aaL⟩;have WP:=SA.below aaL;have aar:Below B W Sa:=Wm.trans (aaL.mono (Nat.le_trans Gt Wm.size));obtain⟨v11,d11,z11⟩:=GQ WP 11 (by decide);obtain⟨nC,SG⟩:=Rq WP aar fe;have hRx:(Sa.setCell ⟨M,11,none⟩ (.string fe)).heap[w.heap.size]? =_:=(nC.block _ hwB).trans HR.out
   have wz:({({u2 with query:=qe.data.toList}:Lz.au)with fragment:=fe.data.toList}:Lz.au)={u2 with query:=Lz.aq (Lz.dw 3) u2.query,fragment:=Lz.aq (Lz.dw 1) u2.fragment}:=by
    rw[wC.out,hfe.out,hqd.out,HF3.out];rfl
   rw[wz]at SG;generalize hw12:Sa.setCell ⟨M,11,none⟩ (.string fe)=w12 at nC SG hRx;obtain⟨sch,usr,pas,hh,hst,prt,opq,a,c,xs,Ub,Pk,qry,frg,hk,nr,hc,aW⟩:=SG.form;have k0:=rowAt hk.row 0 (.string sch) rfl;have k1:=rowAt hk.row 1 (.string usr) rfl;have k2:=rowAt hk.row 2 (.string pas) rfl;have k3:=rowAt hk.row 3 (.bool hh) rfl;have k4:=rowAt hk.row 4 (.string hst) rfl;have k5:=rowAt hk.row 5 (.int .i64 prt) rfl;have k6:=rowAt hk.row 6 (.bool opq) rfl;have k7:=rowAt hk.row 7 (.slice a xs.length c) rfl;have k8:=rowAt hk.row 8 (.bool Ub) rfl;have k9:=rowAt hk.row 9 (.bool Pk) rfl;have k10:=rowAt hk.row 10 (.string qry) rfl;have k11:=rowAt hk.row 11 (.string frg) rfl;have aS:=hk.own.kept (qo w12 w.heap.size #[.string sch,.string usr,.string pas,.bool hh,.string hst,.int .i64 prt,.bool opq,.slice a xs.length c,.bool Ub,.bool Pk,.string qry,.string frg]) (fun k hk=>by injection hk with hk;subst hk;exact⟨_,_,_,hRx,by decide⟩)
   have abE:Hid (gH (w12.setRow w.heap.size #[.string sch,.string usr,.string pas,.bool hh,.string hst,.int .i64 prt,.bool opq,.slice a xs.length c,.bool Ub,.bool Pk,.string qry,.string frg]) (.agg #[.string sch,.string usr,.string pas,.bool hh,.string hst,.int .i64 prt,.bool opq,.slice a xs.length c,.bool Ub,.bool Pk,.string qry,.string frg]) {u2 with query:=Lz.aq (Lz.dw 3) u2.query,fragment:=Lz.aq (Lz.dw 1) u2.fragment}):=by
    exact⟨_,⟨sch,usr,pas,hh,hst,prt,opq,.slice a xs.length c,xs,Ub,Pk,qry,frg⟩,rfl,aS,Ih nr.symm⟩
   clear aS;clear nr aW hk SG WP SA XI wz
   go_wp2_with (refine wpList_store_row rfl 38 (.tmp 4) (.tmp 77) rfl w.heap.size #[.string sch,.string usr,.string pas,.bool hh,.string hst,.int .i64 prt,.bool opq,.slice a xs.length c,.bool Ub,.bool Pk,.string qry,.string frg] rfl rfl 38 _ hRx qg rfl (by simp[Value.oneCell']) ?_)
   refine bodyPost_ret (ee (P:=Tryz.prog) (u:=5) rfl _ _ w.heap.size 38 _ (0,0) _ rfl (setRow_heap _ _ _ _ _ _ hRx) Tryz.underlying38 rfl qg) rfl ?_;refine⟨_,_,rfl,aR (ja.trans (nC.mono (by omega))) (Nat.le_refl _),?_⟩;rw[OA.out];exact⟨rfl,abE.out⟩
attribute [local go_sem ↓] Go.wp_at_zero Go.wp_at_succ
theorem Fh (s:ByteArray) (y:Lz.au) (fu:s.size<=4000) (w:World) (hE:wg w) (hy:Lz.pn s.data.toList none=.ok y) (gY:Lz.aj y.scheme=true) (lV:(Lz.aI (Lib.cut (Lib.cut (Lz.bB s.data.toList) [35]).1 [63]).1).2.2=true) (hf:(Lz.aI (Lib.cut (Lib.cut (Lz.bB s.data.toList) [35]).1 [63]).1).1≠Lz.cJ) (iB:Lz.aj (Lz.aI (Lib.cut (Lib.cut (Lz.bB s.data.toList) [35]).1 [63]).1).1=true):Calls Tryz.prog 19 #[.string s,.pointer none] w fun e w'=>∃v:Value,e=.returned (.tuple #[v,.int .i64 0])/\Below w.heap.size w w'/\gH w' v y:=by
 have K8:s.data.toList.length<=4000:=by rw[ac];exact fu
 have acD:¬(4000:Int)<(s.size:Int):=by omega
 have Pp:Lz.pO s.data.toList none=.ok y:=(FV K8).symm.trans hy;obtain⟨W,hW⟩:∃W,W=w.alloc (.cells Oa 38):=⟨_,rfl⟩;have ja:Below w.heap.size w W:=by rw[hW];exact(Below.refl _ w).alloc (Nat.le_refl _) _
 have hR:W.heap[w.heap.size]? =some (.cells Oa 38 (0,0)):=by rw[hW];exact an _ _
 have XS:=hE.below ja;have aL:=aZ hR;have HW:=Ih hW;have HR:=Ih hR;have cR:=Ih (KB s y (by omega) W XS Pp gY lV hf iB);rw[Pp]at cR;clear hW hR hE hy Pp gY lV hf iB K8 fu;go_enter Tryz.func19,Tryz.ntmps19
 go_upto_region 3 with(rw[<-HW.out])
 go_wp2_with fail
 refine cR.out.mono ?_;rintro e w2 ⟨v1,v2,rfl,mj,rfl,OZ⟩;clear cR;obtain⟨u,n,rfl,rfl⟩:∃(u:Lz.au) (n:Int),u=y/\n=0:=⟨y,0,rfl,rfl⟩;have TK:∀V,Calls Tryz.prog 44 #[.nilIface] V (Jp 0 V):=RS;obtain⟨jK,px,kd,oK,iz,oJ,oL,a1,n1,c1,gF,jC,pC,py,rfl⟩:=OZ.form
 have hP:P8 w.heap.size w2.heap.size #[.string jK,.string px,.string kd,.bool oK,.string iz,.int .i64 oJ,.bool oL,.slice a1 n1 c1,.bool gF,.bool jC,.string pC,.string py] u w (w2.alloc (.cells #[.string jK,.string px,.string kd,.bool oK,.string iz,.int .i64 oJ,.bool oL,.slice a1 n1 c1,.bool gF,.bool jC,.string pC,.string py] 38)):=by
  have AK:w2.heap[w.heap.size]? =some (.cells Oa 38 (0,0)):=(mj.block _ aL).trans HR.out;have hba:Below w2.heap.size w2 (w2.alloc (.cells #[.string jK,.string px,.string kd,.bool oK,.string iz,.int .i64 oJ,.bool oL,.slice a1 n1 c1,.bool gF,.bool jC,.string pC,.string py] 38)):=(Below.refl _ _).alloc (Nat.le_refl _) _;have aC:Below w.heap.size w w2:=ja.trans (mj.mono ja.size);exact⟨an _ _,⟨_,(hba.block _ (aZ AK)).trans AK,rfl⟩,aC.trans (hba.mono aC.size),OZ.below hba⟩
 have du:w.heap.size≠w2.heap.size:=by have:=mj.size;omega
 have TU:=Ih TK;clear TK OZ
 go_upto_region 8 with fail
 generalize w2.alloc (.cells #[.string jK,.string px,.string kd,.bool oK,.string iz,.int .i64 oJ,.bool oL,.slice a1 n1 c1,.bool gF,.bool jC,.string pC,.string py] 38)=V at hP⊢;generalize hr8:w2.heap.size=r8 at hP du⊢;have XG:=hP.drew;have cC:Hid (∀V,P8 w.heap.size r8 #[.string jK,.string px,.string kd,.bool oK,.string iz,.int .i64 oJ,.bool oL,.slice a1 n1 c1,.bool gF,.bool jC,.string pC,.string py] u w V->Calls Tryz.prog 44 #[.nilIface] V fun e w'=>e=.returned (.int .i64 0)/\P8 w.heap.size r8 #[.string jK,.string px,.string kd,.bool oK,.string iz,.int .i64 oJ,.bool oL,.slice a1 n1 c1,.bool gF,.bool jC,.string pC,.string py] u w w'):=Ih (fun V hV=>(TU.out V).mono fun e w' ⟨h1,h2⟩=>⟨h1,hV.call h2⟩);have HP:=Ih hP;have KV:(#[.string jK,.string px,.string kd,.bool oK,.string iz,.int .i64 oJ,.bool oL,.slice a1 n1 c1,.bool gF,.bool jC,.string pC,.string py]:Array Value).all (·.oneCell')=true:=by simp[Value.oneCell']
 clear hr8 TU hP;refine wp_region_held_drew (S:=P8 w.heap.size r8 #[.string jK,.string px,.string kd,.bool oK,.string iz,.int .i64 oJ,.bool oL,.slice a1 n1 c1,.bool gF,.bool jC,.string pC,.string py] u w) (by kernel_rfl) XG (fun af=>?_);refine wpAnyH_take (i:=0) (oi:=({dst:=some 41,op:=Op.load 38 (Operand.tmp 8),type:=38,pos:= "urls.go:378",after:= #[],guard:=none}:Oper)) (v:=.agg #[.string jK,.string px,.string kd,.bool oK,.string iz,.int .i64 oJ,.bool oL,.slice a1 n1 c1,.bool gF,.bool jC,.string pC,.string py]) rfl (by kernel_rfl) (by kernel_rfl) (by kernel_rfl) (fun _ _ _ h=>h) (Or.inl ⟨by rfl,?_⟩) (by assumption) ?_
 ·exact fun W hW=>wV (.tmp 8) rfl r8 rfl _ (0,0) (P8.row8 hW) rfl
 (try simp only[Act.put,List.setIfInBounds_toArray,List.set_cons_zero,List.set_cons_succ])
 refine wpAnyH_take (i:=1) (oi:=({dst:=some 42,op:=Op.move (Operand.tmp 9),type:=74,pos:= "urls.go:378",after:= #[],guard:=none}:Oper)) (v:=.nilIface) rfl (by kernel_rfl) (by kernel_rfl) (by kernel_rfl) (fun _ _ _ h=>h) (Or.inl ⟨by rfl,?_⟩) (by assumption) ?_
 ·intro W ar;go_simp
  try with_reducible rfl
 (try simp only[Act.put,List.setIfInBounds_toArray,List.set_cons_zero,List.set_cons_succ])
 refine wpAnyH_ready (rs:=[2]) (by kernel_rfl) (by simp) ?_;refine AllReadyH.cons rfl (fun K hK=>?_) AllReadyH.nil;go_simp
 go_at_call 44
 refine(cC.out _ (by assumption)).mono ?_;rintro e w4 ⟨rfl,hP4⟩;refine hK.out _ _ hP4 (fun af=>?_);clear hK K
 (try simp only[Act.put,List.setIfInBounds_toArray,List.set_cons_zero,List.set_cons_succ])
 refine wpAnyH_ready (rs:=[3]) (by kernel_rfl) (by simp) ?_;refine AllReadyH.cons rfl (fun K hK=>?_) AllReadyH.nil;rw[if_pos (by rfl)];refine P8.store (r4:=w.heap.size) (r8:=r8) (C8:= #[.string jK,.string px,.string kd,.bool oK,.string iz,.int .i64 oJ,.bool oL,.slice a1 n1 c1,.bool gF,.bool jC,.string pC,.string py]) (u:=u) (W0:=w) ?h0 du rfl KV (.tmp 4) (.tmp 41) rfl rfl rfl ?h1
 case h0=>assumption
 rintro⟨hP9,hr9⟩;refine hK.out _ _ hP9 (fun af=>?_);clear hK K
 (try simp only[Act.put,List.setIfInBounds_toArray])
 refine wpAnyH_take (i:=4) (oi:=({dst:=some 5,op:=Op.assign (Operand.tmp 43),type:=39,pos:= "urls.go:378",after:= #[{on:=2,ground:=Ground.data},{on:=3,ground:=Ground.chain},{on:=0,ground:=Ground.phase},{on:=1,ground:=Ground.phase},{on:=2,ground:=Ground.phase},{on:=3,ground:=Ground.phase}],guard:=none}:Oper)) (v:=.int .i64 0) rfl (by kernel_rfl) (by kernel_rfl) (by kernel_rfl) (fun _ _ _ h=>h) (Or.inl ⟨by rfl,?_⟩) (by assumption) ?_
 ·intro W ar;go_simp
  try with_reducible rfl
 (try simp only[Act.put])
 refine wpAnyH_done (by kernel_rfl) ?_ _
 go_wp2_with fail
 refine bodyPost_ret (ee (P:=Tryz.prog) (u:=5) rfl _ _ w.heap.size 38 _ (0,0) _ rfl hr9 Tryz.underlying38 rfl qg) rfl ?_;exact⟨_,rfl,hP9.below,hP9.own⟩
end Go.Proofs.YtibcmemcfjhgmaaGreatDoor
namespace Go.Proofs.YtibcmemcfjhgmaaGreatDoor
open Go.ChangeShapes Go.WideShapes Go.ChangeAt Go.RowKit
def E6:List UInt32:=[1116352408,1899447441,3049323471,3921009573,961987163,1508970993,2453635748,2870763221,3624381080,310598401,607225278,1426881987,1925078388,2162078206,2614888103,3248222580,3835390401,4022224774,264347078,604807628,770255983,1249150122,1555081692,1996064986,2554220882,2821834349,2952996808,3210313671,3336571891,3584528711,113926993,338241895,666307205,773529912,1294757372,1396182291,1695183700,1986661051,2177026350,2456956037,2730485921,2820302411,3259730800,3345764771,3516065817,3600352804,4094571909,275423344,430227734,506948616,659060556,883997877,958139571,1322822218,1537002063,1747873779,1955562222,2024104815,2227730452,2361852424,2428436474,2756734187,3204031479,3329325298]
def vk:List UInt64:=[4794697086780616226,8158064640168781261,13096744586834688815,16840607885511220156,4131703408338449720,6480981068601479193,10538285296894168987,12329834152419229976,15566598209576043074,1334009975649890238,2608012711638119052,6128411473006802146,8268148722764581231,9286055187155687089,11230858885718282805,13951009754708518548,16472876342353939154,17275323862435702243,1135362057144423861,2597628984639134821,3308224258029322869,5365058923640841347,6679025012923562964,8573033837759648693,10970295158949994411,12119686244451234320,12683024718118986047,13788192230050041572,14330467153632333762,15395433587784984357,489312712824947311,1452737877330783856,2861767655752347644,3322285676063803686,5560940570517711597,5996557281743188959,7280758554555802590,8532644243296465576,9350256976987008742,10552545826968843579,11727347734174303076,12113106623233404929,14000437183269869457,14369950271660146224,15101387698204529176,15463397548674623760,17586052441742319658,1182934255886127544,1847814050463011016,2177327727835720531,2830643537854262169,3796741975233480872,4115178125766777443,5681478168544905931,6601373596472566643,7507060721942968483,8399075790359081724,8693463985226723168,9568029438360202098,10144078919501101548,10430055236837252648,11840083180663258601,13761210420658862357,14299343276471374635,14566680578165727644,15097957966210449927,16922976911328602910,17689382322260857208,500013540394364858,748580250866718886,1242879168328830382,1977374033974150939,2944078676154940804,3659926193048069267,4368137639120453308,4836135668995329356,5532061633213252278,6448918945643986474,6902733635092675308,7801388544844847127]
theorem Tg:Tryz.prog.globalNamed "lazaret/digest.table"=some 2:=by kernel_rfl
theorem S7:Tryz.prog.globalNamed "lazaret/longs.roots"=some 4:=by kernel_rfl
theorem Qd {W:World} (h:Lib.VarReads Tryz.prog W "lazaret/digest.table" Rows.laid_lazaret_digest_table):ED E6 W:=by
 have e:(Rows.laid_lazaret_digest_table:DataW Unit)=Lib.tabData .u32 (E6.map N32):=by kernel_rfl
 rw[e]at h;have hv:Lib.TabIs Tryz.prog W "lazaret/digest.table" .u32 (E6.map N32):=jv Tg (t:=190) (by kernel_rfl) (Tryz.underlying190) (Tryz.underlying123) (by kernel_rfl) (by kernel_rfl) h
 have hc:∀i,i<64->W.cell? ⟨2,i,none⟩=some (.int .u32 (N32 (E6.getD i 0))):=fun i hi=>by
  rw[World.var?_cell Tg hv i];have hl:i<E6.length:=hi;simp only[List.getElem?_toArray,List.getElem?_map,List.getElem?_eq_getElem hl,Option.map_some,List.getD_eq_getElem?_getD,Option.getD_some]
 exact⟨World.block_lt_of_cell? _ _ (hc 0 (by omega)),hc⟩
theorem Qq {W:World} (h:Lib.VarReads Tryz.prog W "lazaret/longs.roots" Rows.laid_lazaret_longs_roots):u9 vk W:=by
 have e:(Rows.laid_lazaret_longs_roots:DataW Unit)=Lib.tabData .u64 (vk.map N64):=by kernel_rfl
 rw[e]at h;have hv:Lib.TabIs Tryz.prog W "lazaret/longs.roots" .u64 (vk.map N64):=jv S7 (t:=238) (by kernel_rfl) (Tryz.underlying238) (Tryz.underlying131) (by kernel_rfl) (by kernel_rfl) h
 have hc:∀i,i<80->W.cell? ⟨4,i,none⟩=some (.int .u64 (N64 (vk.getD i 0))):=fun i hi=>by
  rw[World.var?_cell S7 hv i];have hl:i<vk.length:=hi;simp only[List.getElem?_toArray,List.getElem?_map,List.getElem?_eq_getElem hl,Option.map_some,List.getD_eq_getElem?_getD,Option.getD_some]
 exact⟨World.block_lt_of_cell? _ _ (hc 0 (by omega)),hc⟩
theorem Df:Tryz.prog.cellsOf 9=1:=by kernel_rfl
section
variable {H:Type} {enc:TypeId×Value->H} {W:World} {base:Nat} {sp:Nat->Bool} {hd:Bool} {v:Value} {fuel:Nat} {x:Option (DataW H×List MemPlace)}
theorem Dk (h:DataW.trod enc Tryz.prog W base sp hd fuel 9 [v]=x) (hx:x.isSome=true):∃s:ByteArray,v=.string s:=by
 obtain⟨y,rfl⟩:=Option.isSome_iff_exists.1 hx;obtain⟨s,h1,_⟩:=DataW.trod_string Tryz.underlying9 h;exact⟨s,List.singleton_inj.1 h1⟩
end
section
variable {H:Type} {enc:TypeId×Value->H} {W:World} {base:Nat} {sp:Nat->Bool} {hd:Bool} {v:Value} {d:DataW H} {ps:List MemPlace} {r:Reach} {b0:Nat}
theorem zg (ss:List ByteArray) {s:ByteArray} (h:s∈ss):s.data.toList.length∈DataW.weightsAll Tryz.prog 9 (strs (H:=H) ss):=by
 induction ss with
 | nil=>cases h
 | cons a t ih=>
   show _∈DataW.weights Tryz.prog 9 (.lit (.string a.data.toList))++DataW.weightsAll Tryz.prog 9 (strs t);rcases List.mem_cons.1 h with rfl|h
   ·exact List.mem_append_left _ (by simp[DataW.weights])
   ·exact List.mem_append_right _ (ih h)
theorem QC (hv:Value.okWide Tryz.prog W r b0 22 v) (h:DataW.Trod enc Tryz.prog W base sp hd 22 v d ps):∃l,eY W v l/\∀B,(∀x∈d.weights Tryz.prog 22,x<=B)->∀y∈l,y.length<=B:=by
 obtain⟨a0,abS,aak,rfl⟩:=okWide_slice Tryz.underlying22 hv;obtain⟨fuel,hf⟩:=h;have AE:DataW.trod enc Tryz.prog W base sp hd fuel 22 [.slice a0 abS aak]=some (d,ps):=hf;rcases open_strings Tryz.underlying22 Tryz.underlying9 Df AE with⟨h0,hx⟩|⟨a,len,cap,ss,iF,_,hl,hm,hz,hx,bH,_⟩
 ·have h0:=List.singleton_inj.1 h0;rw[h0];exact⟨[],⟨none,0,[],rfl,rfl,fun j x hj=>by simp at hj⟩,fun _ _ y hy=>by cases hy⟩
 ·have h0:=List.singleton_inj.1 iF;rw[h0];have aO:len<=ss.length:=by rw[hz];split<;>omega
  refine⟨_,⟨some a,cap,ss.take len,by rw[List.length_take,Nat.min_eq_left aO],rfl,fun j x hj=>?_⟩,?_⟩
  ·have hj':j<len:=by
    have:=(List.getElem?_eq_some_iff.1 hj).1;rw[List.length_take]at this;omega
   have Ow:ss[j]? =some x:=by
    rw[List.getElem?_take,if_pos hj']at hj;exact hj
   have hc:=bH j (by omega);rw[List.getD_eq_getElem?_getD,Ow]at hc;change W.cell? (a.add j)=some (.string x)at hc;obtain⟨B,off,Oy⟩:=a
   have ZC:Oy=none:=by
    have h1:=bH 0 (by omega);simpa [Addr.add]using World.cell?_spot h1
   subst ZC;rw[Go.WideShapes.add_plain]at hc;exact⟨B,off,rfl,World.block_lt_of_cell? _ _ hc,hc⟩
  ·intro B hB y hy;obtain⟨s,hs,rfl⟩:=List.mem_map.1 hy;refine hB _ ?_;rw[(Prod.mk.inj hx).1];simp only[DataW.weights,Tryz.underlying22];exact List.mem_cons_of_mem _ (List.mem_append_left _ (zg _ hs))
end
section
variable {H:Type} {enc:TypeId×Value->H} {W:World} {base:Nat} {sp:Nat->Bool} {hd:Bool} {v:Value} {d:DataW H} {ps:List MemPlace} {r:Reach} {b0:Nat}
theorem QY (hv:Value.okWide Tryz.prog W r b0 23 v) (h:DataW.Trod enc Tryz.prog W base sp hd 23 v d ps):∃s0 s1:ByteArray,v=.agg #[.string s0,.string s1]:=by
 simp only[Value.okWide,Tryz.underlying23]at hv;obtain⟨⟨cs⟩,rfl,fu,_⟩:=hv;have h2:Tryz.prog.cellsOf 23=2:=by kernel_rfl
 rw[h2]at fu
 match cs,fu with
 | [a,b],_=>
   obtain⟨fuel,hf⟩:=h;cases fuel with
   | zero=>simp[DataW.trod]at hf
   | succ m=>
     rw[DataW.trod_step]at hf;unfold DataW.trodStep at hf;simp only[Tryz.underlying23,Value.cells,h2,Df]at hf
     simp[List.range,List.range.loop,Option.bind_eq_some_iff]at hf
     obtain⟨_,_,ha,_,⟨_,_,hb,_⟩,_⟩:=hf;obtain⟨s0,rfl⟩:=Dk ha rfl;obtain⟨s1,rfl⟩:=Dk hb rfl;exact⟨s0,s1,rfl⟩
end
end Go.Proofs.YtibcmemcfjhgmaaGreatDoor
