/-
  lazaretref26.Path.
-/
import Derived.Test.YtlcbhacofagedaaGreatDoorY24
import Derived.Test.YtlcbhacofagedaaGreatDoorY22
import Derived.Test.YtlcbhacofagedaaGreatDoorY25
set_option maxHeartbeats 8000000
set_option maxRecDepth 100000
namespace Go.Proofs.YtlcbhacofagedaaGreatDoor
open Go.RowKit
def mo (w:World):Prop:=
 ∃bm es clock,w.cell? ⟨0,0,none⟩=some (.map (some bm))/\bm<w.heap.size/\w.heap[bm]? =some (.map es clock)/\
  ∀(p:ByteArray) (W:World),p.size<=1000000000->W.heap[bm]? =some (.map es clock)->∃v,(Instr.lookup 76 (.map (some bm)) (.string p) false).run Tryz.prog W=.ok v W/\dy w v (Lz.iw p.data.toList)
theorem mo.below {w w':World} (h:mo w) (hb:Below w.heap.size w w') (hz:11<=w.heap.size):mo w':=by
 obtain⟨bm,es,clock,h1,h2,h3,h4⟩:=h;refine⟨bm,es,clock,?_,Nat.lt_of_lt_of_le h2 hb.size,by rw[hb.block _ h2];exact h3,fun p W hp hW=>?_⟩
 ·rw[hb.cell (p:=⟨0,0,none⟩) (Nat.lt_of_lt_of_le (by decide) hz)];exact h1
 ·obtain⟨v,hr,hv⟩:=h4 p W hp hW;exact⟨v,hr,hv.below hb⟩
structure mh (w:World):Prop where
 s:Env w
 u:jL w
 mp:mo w
theorem mh.below {w w':World} (h:mh w) (hb:Below w.heap.size w w'):mh w':=⟨h.s.below hb,h.u.below hb,h.mp.below hb h.s.size⟩
theorem DX {x u:ByteArray} (e:x.data.toList=u.data.toList):x=u:=ByteArray.ext (Array.toList_inj.1 e)
theorem vh (xs:List ByteArray) (u:ByteArray):Lib.containsS xs u=(xs.map (fun x:ByteArray=>x.data.toList)).contains u.data.toList:=by
 rw[Bool.eq_iff_iff,Lib.containsS_iff];simp only[List.contains_iff_mem,List.mem_map];constructor
 ·intro h;exact⟨u,h,rfl⟩
 ·rintro⟨x,hx,e⟩;exact DX e▸hx
theorem wv (v:Value) (l:List (List UInt8)) (u:ByteArray) (w:World) (h:dy w v l) (hl:l.length<=1000000):Calls Tryz.prog 69 #[v,.string u] w (cn (l.contains u.data.toList) w):=by
 obtain⟨a,c,xs,rfl,rfl,hx⟩:=h;cases xs with
 | nil=>exact(Tryz.slices_Contains_string_empty a c u w).mono fun e w' ⟨h1,h2⟩=>⟨h1,h2▸Below.refl _ _⟩
 | cons x r=>
   obtain⟨B,off,rfl,hB,hc⟩:=hx 0 x rfl;rw[List.length_map]at hl;refine(Tryz.slices_Contains_string B off (x::r).length c (x::r) u w (Nat.le_refl _) (by omega) (fun j hj=>?_)).mono fun e w' ⟨h1,h2⟩=>⟨?_,h2▸Below.refl _ _⟩
   ·obtain⟨B',abL,e1,_,e3⟩:=hx j ((x::r)[j]'hj) (List.getElem?_eq_getElem hj);injection e1 with e1;injection e1 with e1 e2 _
    subst e1;subst e2;rw[e3,List.getD_eq_getElem?_getD,List.getElem?_eq_getElem hj];rfl
   ·rw[h1,List.take_of_length_le (Nat.le_refl _),vh]
theorem rS (p u:ByteArray) (w:World) (hE:mh w) (hp:p.size<=1000000000):Calls Tryz.prog 39 #[.string p,.string u] w (cn (Lz.eo p.data.toList u.data.toList) w):=by
 obtain⟨bm,es,clock,hg,hbm,F4,OH⟩:=hE.mp;obtain⟨v,Gn,hv⟩:=OH p w hp F4;have cC:=wv v _ u w hv (by unfold Lz.iw;split;decide;split;decide;split<;>decide);by_cases he:p.data.toList=u.data.toList
 ·have hB:(p.toList==u.toList)=true:=(gw p u).trans (decide_eq_true he);have HV:Hid (Lz.eo p.data.toList u.data.toList=true):=by show _=_;unfold Lz.eo;rw[he];simp
  clear he hv OH cC;go_enter Tryz.func39,Tryz.ntmps39
  go_wp2_with fail
  go_ret;exact⟨by rw[HV.out];rfl,Below.refl _ _⟩
 ·have hB:(p.toList==u.toList)=false:=(gw p u).trans (decide_eq_false he);obtain⟨q,hq⟩:∃q,q=(Lz.iw p.data.toList).contains u.data.toList:=⟨_,rfl⟩;rw[<-hq]at cC;have HV:Hid (Lz.eo p.data.toList u.data.toList=q):=by show _=_;unfold Lz.eo;rw[hq,beq_eq_false_iff_ne.2 he];simp
  have CC:=Ih cC;clear he hv OH cC hq;go_enter Tryz.func39,Tryz.ntmps39
  go_wp2_with fail
  refine CC.out.mono ?_;rintro e w1 ⟨rfl,aC⟩
  go_wp2_with fail
  go_ret;exact⟨by rw[HV.out];rfl,aC⟩
theorem Qw (s:ByteArray) (w:World):Calls Tryz.prog 41 #[.string s] w fun e w'=>e=.returned (.bool (Lz.yN s.data.toList))/\w=w':=by
 by_cases h0:s.data.toList=[104,116,116,112]
 ·have g0:=aH h0;have HV:Hid (Lz.yN s.data.toList=true):=by show _=_;rw[h0];rfl
  clear h0;go_enter Tryz.func41,Tryz.ntmps41
  go_wp2_with fail
  go_ret;rw[HV.out];exact⟨rfl,rfl⟩
 ·have g0:=aR h0;obtain⟨q,hq⟩:∃q,q=(s.toList==[104,116,116,112,115]):=⟨_,rfl⟩
  have HV:Hid (Lz.yN s.data.toList=(s.toList==[104,116,116,112,115])):=by
   show _=_;rw[lB];show(_==_||_==_)=_;rw[show(s.data.toList==Lz.iy)=false from beq_eq_false_iff_ne.2 h0,Bool.false_or];by_cases h1:s.data.toList=[104,116,116,112,115]
   ·rw[decide_eq_true h1,h1];rfl
   ·rw[decide_eq_false h1];exact beq_eq_false_iff_ne.2 h1
  clear h0;go_enter Tryz.func41,Tryz.ntmps41
  go_wp2_with fail
  go_ret;exact⟨by rw[HV.out];first |rfl|simp,rfl⟩
end Go.Proofs.YtlcbhacofagedaaGreatDoor
namespace Go.Proofs.YtlcbhacofagedaaGreatDoor
open Go.ChangeShapes Go.WideShapes Go.ChangeAt Go.RowKit
theorem gKw:Tryz.prog.globalNamed "lazaret/sources.keywords"=some 2:=by kernel_rfl
theorem gBt:Tryz.prog.globalNamed "lazaret/match.better"=some 0:=by kernel_rfl
theorem EJ {W:World} (h:Lib.VarReads Tryz.prog W "lazaret/sources.keywords" Rows.laid_lazaret_sources_keywords):
  ∃b o c,W.cell? ⟨2,0,none⟩=some (.slice (some ⟨b,o,none⟩) 8 c)/\b<W.heap.size/\∀j,j<8->W.cell? ⟨b,o+j,none⟩=some (.string ((Lz.bq.map (fun l=>(⟨l.toArray⟩:ByteArray))).getD j ByteArray.empty)):=by
 obtain⟨g',t',cs,fuel,p,VJ,Sl,tf,hd⟩:=h;obtain rfl:=Option.some.inj (gKw.symm.trans VJ);obtain rfl:=Option.some.inj ((show(Tryz.prog.globals[2]?).map (·.type)=some 23 by kernel_rfl).symm.trans Sl);have dF:=World.var?_cell gKw tf 0;obtain⟨a,cap,iV,_,ey⟩:=open_row (Tryz.underlying23) (by kernel_rfl) hd;obtain⟨b,o,sp⟩:=a
 have np:cs[0]? =some (.slice (some ⟨b,o,sp⟩) 8 cap):=by
  rw[<-Array.getElem?_toList,iV];rfl
 have aaf:∀j,j<8->∃s:ByteArray,W.cell? ((⟨b,o,sp⟩:Addr).add j)=some (.string s)/\s.data.toList=Lz.bq.getD j []:=by
  intro j hj
  obtain⟨v,n,q,hv,ht⟩:=ey j (.lit (.string (Lz.bq.getD j []))) (by
   match j,hj with
   | 0,_=>rfl
   | 1,_=>rfl
   | 2,_=>rfl
   | 3,_=>rfl
   | 4,_=>rfl
   | 5,_=>rfl
   | 6,_=>rfl
   | 7,_=>rfl)
  obtain⟨s,hs,hx,_⟩:=DataW.trod_string (Tryz.underlying9) ht;obtain rfl:v=.string s:=by simpa using hs
  refine⟨s,hv,?_⟩;simp only[Prod.mk.injEq,DataW.lit.injEq,Lit.string.injEq]at hx;exact hx.1.symm
 obtain⟨s0,tK,_⟩:=aaf 0 (by omega);have tK:W.cell? ⟨b,o,sp⟩=some (.string s0):=by simpa [Addr.add]using tK
 obtain rfl:=yh tK;refine⟨b,o,cap,?_,?_,?_⟩
 ·rw[dF];exact np
 ·unfold World.cell? at tK;rcases Nat.lt_or_ge b W.heap.size with h'|h'
  ·exact h'
  ·simp[Array.getElem?_eq_none h']at tK
 ·intro j hj;obtain⟨s,hs,he⟩:=aaf j hj;rw[show(⟨b,o+j,none⟩:Addr)=(⟨b,o,none⟩:Addr).add j by simp[Addr.add],hs];have:s=⟨(Lz.bq.getD j []).toArray⟩:=by rw[<-he]
  rw[this]
  match j,hj with
  | 0,_=>rfl
  | 1,_=>rfl
  | 2,_=>rfl
  | 3,_=>rfl
  | 4,_=>rfl
  | 5,_=>rfl
  | 6,_=>rfl
  | 7,_=>rfl
open Go.WideElems in
theorem zE {W:World} {n:Nat} {v:Value} {ls:List (List UInt8)} {q:List MemPlace} (h:elemAt (fun _=>()) Tryz.prog W 0 (fun _=>true) false n 23 v=some (.slice (ls.map fun l=>.lit (.string l)) [],q)):dy W v ls:=by
 unfold elemAt at h;split at h
 ·rename_i hf;obtain⟨a,cap,iV,_,ey⟩:=open_row (Tryz.underlying23) (by kernel_rfl) h;rw[List.length_map]at iV
  have hv:v=.slice (some a) ls.length cap:=by
   cases v<;>first
    | (simp[Value.cells]at iV;done)
    | (simp only[Value.cells]at iV;simpa using iV)
    | (exfalso;revert hf;simp[Value.formed,Tryz.underlying23];done)
  obtain⟨b,o,sp⟩:=a;refine⟨some ⟨b,o,sp⟩,cap,ls.map (fun l=>(⟨l.toArray⟩:ByteArray)),by rw[List.length_map];exact hv,by rw[List.map_map];exact(List.map_congr_left (fun x _=>rfl)).trans (List.map_id ls),fun j x hj=>?_⟩;rw[List.getElem?_map]at hj;obtain⟨l,hl,rfl⟩:=Option.map_eq_some_iff.1 hj;have h0l:0<ls.length:=Nat.lt_of_le_of_lt (Nat.zero_le j) (List.getElem?_eq_some_iff.1 hl).1;obtain⟨u0,m0,r0,hu0,_⟩:=ey 0 (.lit (.string ls[0])) (by rw[List.getElem?_map,List.getElem?_eq_getElem h0l];rfl);have abY:W.cell? ⟨b,o,sp⟩=some u0:=by simpa [Addr.add]using hu0
  obtain rfl:=yh abY;obtain⟨u,m,r,hu,ht⟩:=ey j (.lit (.string l)) (by rw[List.getElem?_map,hl];rfl);obtain⟨s,hs,hx,_⟩:=DataW.trod_string (Tryz.underlying9) ht;obtain rfl:u=.string s:=by simpa using hs
  have eA:s.data.toList=l:=by
   simp only[Prod.mk.injEq,DataW.lit.injEq,Lit.string.injEq]at hx;exact hx.1.symm
  have nK:W.cell? ⟨b,o+j,none⟩=some (.string s):=by
   rw[<-hu,show(⟨b,o+j,none⟩:Addr)=(⟨b,o,none⟩:Addr).add j by simp[Addr.add]]
  refine⟨b,o,rfl,World.block_lt_of_cell? _ _ nK,?_⟩;rw[nK,<-eA]
 ·cases h
def A4:List UInt8:=[104,116,116,112]
def wsL:List UInt8:=[119,115]
def Mr:List UInt8:=[119,115,115]
theorem yc (l:List UInt8) (zd:DataW Unit):(Rows.laid_lazaret_match_better (H:=Unit)).atKey (.string l) zd=if l=A4\/l=wsL\/l=Mr then .slice ((Lz.iw l).map fun x=>.lit (.string x)) []else zd:=by
 by_cases h1:l=A4
 ·subst h1;rfl
 ·by_cases h2:l=wsL
  ·subst h2;rfl
  ·by_cases h3:l=Mr
   ·subst h3;rfl
   ·rw[if_neg (by simp[h1,h2,h3])];have e1:(A4==l)=false:=beq_eq_false_iff_ne.2 (Ne.symm h1);have e2:(wsL==l)=false:=beq_eq_false_iff_ne.2 (Ne.symm h2);have e3:(Mr==l)=false:=beq_eq_false_iff_ne.2 (Ne.symm h3);unfold A4 at e1;unfold wsL at e2;unfold Mr at e3;unfold Rows.laid_lazaret_match_better DataW.atKey;simp only[List.find?_cons,Lit.sameKey,e1,e2,e3,List.find?_nil]
theorem JJ {l:List UInt8} (h1:l≠A4) (h2:l≠wsL) (h3:l≠Mr):Lz.iw l=[]:=by
 unfold Lz.iw;rw[if_neg (show ¬l=Lz.iy from h1),if_neg (show ¬l=Lz.wsS from h2),if_neg (show ¬l=Lz.Bz from h3)]
open Go.WideElems Go.WideMaps in
theorem ug {W:World} (h:Lib.VarReads Tryz.prog W "lazaret/match.better" Rows.laid_lazaret_match_better):mo W:=by
 obtain⟨g',t',cs,fuel,p,VJ,Sl,tf,hd⟩:=h;obtain rfl:=Option.some.inj (gBt.symm.trans VJ);obtain rfl:=Option.some.inj ((show(Tryz.prog.globals[0]?).map (·.type)=some 76 by kernel_rfl).symm.trans Sl);have dF:=World.var?_cell gBt tf 0;rcases WideElems.open_map Tryz.underlying76 hd with⟨_,hx⟩|⟨bm,es,clock,n,_,iV,hb,_,F,hx⟩
 ·cases (congrArg Prod.fst hx)
 ·have np:cs[0]? =some (.map (some bm)):=by rw[<-Array.getElem?_toList,iV];rfl
  refine⟨bm,es,clock,by rw[dF];exact np,(Array.getElem?_eq_some_iff.1 hb).1,hb,fun p W' hp hW'=>?_⟩;have abi:keyOf Tryz.prog 9 (.string p)=some (.string p.data.toList):=keyOf_string_mk Tryz.underlying9 (by unfold maxLen;omega);have hm:=congrArg Prod.fst hx
  dsimp only at hm
  rcases WideElems.fit_lookup (string_law Tryz.underlying9) Tryz.underlying76 (z:=.slice none 0 0) (w:=W') (by kernel_rfl) hW' F abi with⟨Gn,KN⟩|⟨v,y,Gn,hR,KN,_⟩
  ·refine⟨_,Gn,?_⟩
   have hn:Lz.iw p.data.toList=[]:=by
    have h1:=KN (.lit (.bool true));rw[<-hm,yc]at h1;split at h1
    ·cases h1
    ·rename_i ic;exact JJ (fun e=>ic (.inl e)) (fun e=>ic (.inr (.inl e))) (fun e=>ic (.inr (.inr e)))
   rw[hn];exact⟨none,0,[],rfl,rfl,fun j x hj=>by simp at hj⟩
  ·refine⟨v,Gn,?_⟩
   have hy:y.1=.slice ((Lz.iw p.data.toList).map fun x=>.lit (.string x)) []:=by
    have h1:=KN (.lit (.bool true));have h2:=KN .nil;rw[<-hm,yc]at h1 h2;split at h1
    ·exact h1.symm
    ·rename_i ic;rw[if_neg ic]at h2;rw[<-h1]at h2;cases h2
   obtain⟨y1,y2⟩:=y
   dsimp only at hy
   subst hy;exact zE hR
theorem Qt {W:World} (hH:de W) (hU:jL W) {l:List (String×DataW Unit)} (h:laidMetH Tryz.prog l W) (m5:("lazaret/sources.keywords",Rows.laid_lazaret_sources_keywords)∈l) (m6:("lazaret/match.better",Rows.laid_lazaret_match_better)∈l):mh W:=
 ⟨⟨hH.ml,hH.pow,hH.syn,hH.rng,hH.et,EJ (fB h m5 rfl),hH.size⟩,hU,ug (fB h m6 rfl)⟩
theorem aau:ownKnob Tryz.prog.godebug=none:=by kernel_rfl
theorem BX {W:World} (h:laidMetH Tryz.prog Rows.matchAnyRow.laid W) (Az:W.ShapedOpen Tryz.prog):jL W:=
 zW h Az (.tail _ (.tail _ (.head _))) (.tail _ (.tail _ (.tail _ (.tail _ (.head _))))) (.tail _ (.tail _ (.tail _ (.tail _ (.tail _ (.head _)))))) (.tail _ (.tail _ (.tail _ (.tail _ (.tail _ (.tail _ (.head _))))))) (.tail _ (.head _)) (.tail _ (.tail _ (.tail _ (.tail _ (.tail _ (.tail _ (.tail _ (.tail _ (.tail _ (.head _)))))))))) (.tail _ (.tail _ (.tail _ (.head _))))
theorem NX {W:World} (h:laidMetH Tryz.prog Rows.matchAnyRow.laid W) (Az:W.ShapedOpen Tryz.prog):mh W:=
 Qt (BX h Az).h (BX h Az) h (.tail _ (.tail _ (.tail _ (.tail _ (.tail _ (.tail _ (.tail _ (.head _)))))))) (.tail _ (.tail _ (.tail _ (.tail _ (.tail _ (.tail _ (.tail _ (.tail _ (.head _)))))))))
def wE:DataW Unit->Array Value
 | .agg l=>(l.filterMap fun| .lit (.int k z)=>some (Value.int k z)|_=>none).toArray
 | _=> #[]
noncomputable def zj (os:Os):World:=
 {World.doorLaid Tryz.prog 100 os with heap:=(World.doorLaid Tryz.prog 100 os).heap.modify 5 fun
  | .cells _ t frozen=>.cells (wE Rows.laid_unicode_utf8_first) t frozen
  | o=>o}
theorem aaU (os:Os) (args:Array Value):laidMetH Tryz.prog Rows.matchAnyRow.laid ((zj os).forCall (fun _ _=>0) ⟨#[],args,[]⟩).memory:=
 laidMetH_of_parts3 (fuel:=8) (laidMet_of_run' 8 (by kernel_rfl) (by kernel_rfl)) (by kernel_rfl) (by kernel_rfl)
theorem aaY {a b:Bool} (h1:a=true) (h2:b=true):(a&&b)=true:=by rw[h1,h2];rfl
theorem aax:Tryz.prog.mayEnter=true:=by kernel_rfl
theorem Yj:(Rows.matchAnyRow.lifted==Tryz.prog.liftsFinal)=true:=by kernel_rfl
theorem XU:(Tryz.prog.make==some Rows.matchAnyRow.make)=true:=by kernel_rfl
theorem YH:mapsRowed Tryz.prog=true:=by kernel_rfl
theorem YU:(Rows.matchAnyRow.plainKeys==Tryz.prog.plainKeys)=true:=by kernel_rfl
theorem UM:Tryz.prog.stopsHeard=true:=by kernel_rfl
end Go.Proofs.YtlcbhacofagedaaGreatDoor
namespace Go.Proofs.YtlcbhacofagedaaGreatDoor
open Go.RowKit
attribute [local go_sem ↓] Go.wp_at_zero Go.wp_at_succ
theorem Eh (x:aq) (name:ByteArray) (w:World) (hE:de w) (hs:x.host.size<=90000) (hn:name.size<=1000000000):Calls Tryz.prog 70 #[x.val,.string name] w (cn (Lz.rX x.src name.data.toList) w):=by
 obtain⟨k,t,b,sc,ho,wd,po,pa⟩:=x;have hs':ho.size<=90000:=hs;clear hs;have ek:Below w.heap.size w (w.alloc (.cells #[.int .i64 k,.string t,.int .i64 b,.string sc,.string ho,.bool wd,.int .i64 po,.string pa] 41)):=(Below.refl _ w).alloc (Nat.le_refl _) _;obtain⟨R,hR⟩:∃R,R=Lz.rX (aq.src ⟨k,t,b,sc,ho,wd,po,pa⟩) name.data.toList:=⟨_,rfl⟩;rw[<-hR]
 have hv:R=if wd=true then(ho.data.toList==[]||Lib.hasSuffix name.data.toList (46::ho.data.toList))else if(ho.data.toList != Lz.yk&&Lz.ipP ho.data.toList)=true then false else ho.data.toList==name.data.toList:=by
  rw[hR];unfold Lz.rX aq.src;rfl
 dsimp only[aq.val]
 clear hR;cases wd with
 | true=>
   rw[if_pos rfl]at hv;by_cases h0:ho.size=0
   ·have e1:ho.toList.isEmpty=true:=ak h0;have e2:(ho.toList==[])=true:=by rw[lB];exact decide_eq_true (List.length_eq_zero_iff.1 (by rw[aa];exact h0))
    have HV:Hid (R=true):=by
     show _=_;rw[hv,List.length_eq_zero_iff.1 (by rw[aa];exact h0:ho.data.toList.length=0)];rfl
    clear hv h0;go_enter Tryz.func70,Tryz.ntmps70
    go_wp2_with fail
    go_ret;exact⟨by rw[HV.out];rfl,ek⟩
   ·have e1:ho.toList.isEmpty=false:=aj (by omega);have e3:¬ho.data.toList=[]:=fun h=>h0 (by rw[<-aa,h];rfl);have e2:(ho.toList==[])=false:=by rw[lB];exact decide_eq_false e3
    obtain⟨q,hq⟩:∃q,q=Lib.hasSuffix name.data.toList (46::ho.data.toList):=⟨_,rfl⟩;have HV:Hid (R=q):=by show _=_;rw[hv,<-hq,beq_eq_false_iff_ne.2 e3];rfl
    obtain⟨d,hd⟩:∃d:ByteArray,d=⟨#[46]⟩++ho:=⟨_,rfl⟩;have kR:d.data.toList=46::ho.data.toList:=by rw[hd,ai];rfl
    have cS0:∀W,Calls Tryz.prog 106 #[.string name,.string d] W fun e w'=>e=.returned (.bool q)/\W=w':=fun W=>
     (Tryz.strings_HasSuffix name d W (by omega)).mono fun e w' ⟨h1,h2⟩=>⟨by rw[h1,kR,<-hq],h2.symm⟩
    subst hd;have cS:=Ih cS0;have n1:¬(9223372036854775807<1+ho.size):=by omega
    clear hv h0 e3 hq cS0 kR;go_enter Tryz.func70,Tryz.ntmps70
    go_wp2_with fail
    refine(cS.out _).mono ?_;rintro e w1 ⟨rfl,rfl⟩
    go_wp2_with fail
    go_ret;exact⟨by rw[HV.out];rfl,ek⟩
 | false=>
   rw[if_neg (by decide)]at hv;have DB:=hE.below ek;have AA:=gw ho name;by_cases hl:ho.data.toList=Lz.yk
   ·have g0:(ho.toList==[49,50,55,46,48,46,48,46,49])=true:=aH hl
    have HV:Hid (R=(ho.toList==name.toList)):=by
     show _=_;rw[hv,hl,AA,if_neg (by simp),<-hl,Bool.eq_iff_iff];simp
    clear hv hl AA;go_enter Tryz.func70,Tryz.ntmps70
    go_wp2_with fail
    go_ret;exact⟨by rw[HV.out];rfl,ek⟩
   ·have g0:(ho.toList==[49,50,55,46,48,46,48,46,49])=false:=aR hl;obtain⟨q,hq⟩:∃q,q=Lz.ipP ho.data.toList:=⟨_,rfl⟩;have cI:Hid (Calls Tryz.prog 107 #[.string ho] (w.alloc (.cells #[.int .i64 k,.string t,.int .i64 b,.string sc,.string ho,.bool false,.int .i64 po,.string pa] 41)) (cn q (w.alloc (.cells #[.int .i64 k,.string t,.int .i64 b,.string sc,.string ho,.bool false,.int .i64 po,.string pa] 41)))):=Ih (hq▸Uo ho (by omega) _ DB)
    have HV:Hid (R=if q=true then false else(ho.toList==name.toList)):=by
     show _=_;rw[hv,AA,bne,beq_eq_false_iff_ne.2 hl,<-hq];cases q
     ·rw[if_neg (by simp),if_neg (by simp),Bool.eq_iff_iff];simp
     ·rfl
    clear hv hl AA hq DB;cases q with
    | true=>
      go_enter Tryz.func70,Tryz.ntmps70
      go_wp2_with fail
      refine cI.out.mono ?_;rintro e w1 ⟨rfl,aC⟩
      go_wp2_with fail
      go_ret;exact⟨by rw[HV.out];rfl,ac ek aC⟩
    | false=>
      have dF:∀w1,Below (w.alloc (.cells #[.int .i64 k,.string t,.int .i64 b,.string sc,.string ho,.bool false,.int .i64 po,.string pa] 41)).heap.size (w.alloc (.cells #[.int .i64 k,.string t,.int .i64 b,.string sc,.string ho,.bool false,.int .i64 po,.string pa] 41)) w1->w1.cell? ⟨w.heap.size,4,none⟩=some (.string ho):=fun w1 aC=>rowAt (xI aC) 4 (.string ho) rfl;have Hc:=Ih dF;clear dF;go_enter Tryz.func70,Tryz.ntmps70
      go_wp2_with fail
      refine cI.out.mono ?_;rintro e w1 ⟨rfl,aC⟩;have c4:=Hc.out w1 aC
      go_wp2_with fail
      go_ret;exact⟨by rw[HV.out];rfl,ac ek aC⟩
attribute [local go_sem ↓] Go.wp_at_zero Go.wp_at_succ
theorem J3 (x y:ByteArray) (hx:x.size<=1000000000) (hy:y.size<=1000000000) (w:World):Calls Tryz.prog 110 #[.string x,.string y] w (cn (decide (Lz.an x.data.toList=Lz.an y.data.toList)) w):=by
 have cX:=Ih (fun W=>oG x (by omega) W);have cY:=Ih (fun W=>oG y (by omega) W);go_enter Tryz.func110,Tryz.ntmps110
 go_wp2_with fail
 refine(cX.out _).mono ?_;rintro e w1 ⟨u1,rfl,o8,aC⟩
 go_wp2_with fail
 refine(cY.out _).mono ?_;rintro e w2 ⟨u2,rfl,nK,aU⟩
 go_wp2_with fail
 go_ret;exact⟨by rw[<-o8.out,<-nK.out,<-gw];rfl,ac aC aU⟩
theorem oj (v1 v2:Value) (l1 l2:List (List UInt8)) (w:World) (h1:dy w v1 l1) (h2:dy w v2 l2) (hL:l1.length<=1000000000) (Zz:∀x,x∈l1->x.length<=1000000000) (Il:∀x,x∈l2->x.length<=1000000000):Calls Tryz.prog 109 #[v1,v2,.func (.func 110) #[] #[]] w (cn (decide (l1.map Lz.an=l2.map Lz.an)) w):=by
 obtain⟨a1,c1,At,rfl,rfl,fF⟩:=h1;obtain⟨a2,c2,Gs,rfl,rfl,sS⟩:=h2;obtain⟨q,hq⟩:∃q,q=decide ((At.map (fun x:ByteArray=>x.data.toList)).map Lz.an=(Gs.map (fun x:ByteArray=>x.data.toList)).map Lz.an):=⟨_,rfl⟩;rw[<-hq];have Hq:=Ih hq;rw[List.length_map]at hL;have Xz:=Ih Zz;have Xd:=Ih Il;clear hq Zz Il;by_cases hl:At.length=Gs.length
 ·have hlI:((At.length:Int) != (Gs.length:Int))=false:=by rw[hl];simp
  by_cases h0:At.length=0
  ·have e1:At=[]:=List.length_eq_zero_iff.1 h0;have e2:Gs=[]:=List.length_eq_zero_iff.1 (by omega);subst e1;subst e2;have HQ:Hid (q=true):=by show _=_;rw[Hq.out];rfl
   clear hl fF sS h0;go_enter Tryz.func109,Tryz.ntmps109
   go_wp2_with fail
   refine wp_loop_rounds 1 ?_;rw[rounds_succ]
   go_wp2_with fail
   go_ret;exact⟨by rw[HQ.out];rfl,Below.refl _ _⟩
  have Hl:=Ih hl;obtain⟨G1,o1,rfl,ib,Xk⟩:=fF 0 At[0] (List.getElem?_eq_getElem (by omega));obtain⟨G2,o2,rfl,KO,Ir⟩:=sS 0 Gs[0] (List.getElem?_eq_getElem (by omega));clear Xk Ir
  have WW:Hid (∀(j:Nat) (x:ByteArray),At[j]? =some x->w.cell? ⟨G1,o1+j,none⟩=some (.string x)):=Ih (fun j x hj=>by
   obtain⟨G,o,e,_,hc⟩:=fF j x hj;injection e with e;injection e with e1 e2 _
   subst e1;subst e2;exact hc)
  have WT:Hid (∀(j:Nat) (x:ByteArray),Gs[j]? =some x->w.cell? ⟨G2,o2+j,none⟩=some (.string x)):=Ih (fun j x hj=>by
   obtain⟨G,o,e,_,hc⟩:=sS j x hj;injection e with e;injection e with e1 e2 _
   subst e1;subst e2;exact hc)
  clear hl fF sS;go_enter Tryz.func109,Tryz.ntmps109
  go_wp2_with fail
  go_loopw [17] (fun k wr=>∃i:Nat,k=.int .i64 i/\i<=At.length/\Hid (((At.map (fun x:ByteArray=>x.data.toList)).map Lz.an).take i=((Gs.map (fun x:ByteArray=>x.data.toList)).map Lz.an).take i)/\Below w.heap.size w wr) (fun k _=>At.length-(intOf k).toNat)
  case atStart=>exact⟨0,rfl,Nat.zero_le _,Ih (by simp),Below.refl _ _⟩
  case round=>
   obtain⟨i,rfl,hi,hT,bi⟩:=hrel;by_cases aN:i<At.length
   ·have dH:(i:Int)<(At.length:Int):=by omega
    have tc:i<Gs.length:=by rw[<-Hl.out];exact aN
    have ZI:(i:Int)<(Gs.length:Int):=by omega
    have nP:(0:Int)<=(i:Int):=by omega
    obtain⟨x,hx⟩:∃x,x=At[i]:=⟨_,rfl⟩;obtain⟨y,hy⟩:∃y,y=Gs[i]:=⟨_,rfl⟩;have Se:At[i]? =some x:=by rw[List.getElem?_eq_getElem aN,hx]
    have RY:Gs[i]? =some y:=by rw[List.getElem?_eq_getElem tc,hy]
    have j7:=WW.out i x Se;have qH:=WT.out i y RY;have d1:wr.cell? ⟨G1,o1+i,none⟩=some (.string x):=by rw[bi.cell (p:=⟨G1,o1+i,none⟩) ib];exact j7
    have d2:wr.cell? ⟨G2,o2+i,none⟩=some (.string y):=by rw[bi.cell (p:=⟨G2,o2+i,none⟩) KO];exact qH
    have cw:((At.map (fun x:ByteArray=>x.data.toList)).map Lz.an).take (i+1)=((At.map (fun x:ByteArray=>x.data.toList)).map Lz.an).take i++[Lz.an x.data.toList]/\((Gs.map (fun x:ByteArray=>x.data.toList)).map Lz.an).take (i+1)=((Gs.map (fun x:ByteArray=>x.data.toList)).map Lz.an).take i++[Lz.an y.data.toList]:=by
     constructor
     ·rw[List.take_succ_eq_append_getElem (by simpa using aN)];simp[hx]
     ·rw[List.take_succ_eq_append_getElem (by simpa using tc)];simp[hy]
    have o7:x.size<=1000000000:=by rw[<-aa];exact Xz.out _ (List.mem_map.2 ⟨x,List.mem_of_getElem? Se,rfl⟩)
    have Iw:y.size<=1000000000:=by rw[<-aa];exact Xd.out _ (List.mem_map.2 ⟨y,List.mem_of_getElem? RY,rfl⟩)
    have cP:=Ih (J3 x y o7 Iw wr);by_cases he:Lz.an x.data.toList=Lz.an y.data.toList
    ·rw[decide_eq_true he]at cP;have kp:Hid (((At.map (fun x:ByteArray=>x.data.toList)).map Lz.an).take (i+1)=((Gs.map (fun x:ByteArray=>x.data.toList)).map Lz.an).take (i+1)):=by show _=_;rw[cw.1,cw.2,hT.out,he]
     clear hx hy Se RY j7 qH he cw hT
     go_wp2_with fail
     refine cP.out.mono ?_;rintro e w5 ⟨rfl,dB⟩;have pd:=ac bi dB
     go_wp2_with fail
     go_roundw
     case rel=>exact⟨i+1,by go_num,by omega,kp,pd⟩
     case measure=>simp[intOf];omega
    ·rw[decide_eq_false he]at cP
     have HQ:Hid (q=false):=by
      show _=_;rw[Hq.out];refine decide_eq_false fun e=>he ?_;have h1:=congrArg (List.take (i+1)) e;rw[cw.1,cw.2,hT.out]at h1;simpa using List.append_cancel_left h1
     clear hx hy Se RY j7 qH he cw hT
     go_wp2_with fail
     refine cP.out.mono ?_;rintro e w5 ⟨rfl,dB⟩;have pd:=ac bi dB
     go_wp2_with fail
     go_ret;exact⟨by rw[HQ.out];rfl,pd⟩
   ·have dH:¬(i:Int)<(At.length:Int):=by omega
    have HQ:Hid (q=true):=by
     show _=_;rw[Hq.out];refine decide_eq_true ?_;have h1:=hT.out;rw[List.take_of_length_le (by simp;omega),List.take_of_length_le (by have:=Hl.out;simp;omega)]at h1;exact h1
    clear hT
    go_wp2_with fail
    go_ret;exact⟨by rw[HQ.out];rfl,bi⟩
 ·have hlI:((At.length:Int) != (Gs.length:Int))=true:=by simp;omega
  have HQ:Hid (q=false):=by
   show _=_;rw[Hq.out];refine decide_eq_false fun e=>hl ?_;have:=congrArg List.length e;simpa using this
  clear hl fF sS;go_enter Tryz.func109,Tryz.ntmps109
  go_wp2_with fail
  go_ret;exact⟨by rw[HQ.out];rfl,Below.refl _ _⟩
theorem uj {w:World} {B:Nat} {xs:List ByteArray} {fr:Nat×Nat} (h:w.heap[B]? =some (.cells (xs.map Value.string).toArray 9 fr)) (n c:Nat) (hn:n<=xs.length):dy w (.slice (some ⟨B,0,none⟩) n c) ((xs.map (fun x:ByteArray=>x.data.toList)).take n):=by
 refine⟨some ⟨B,0,none⟩,c,xs.take n,by rw[List.length_take,Nat.min_eq_left hn],by rw[List.map_take],fun j x hj=>⟨B,0,rfl,aI h,?_⟩⟩
 have Ir:xs[j]? =some x:=by
  rw[List.getElem?_take]at hj;split at hj
  ·exact hj
  ·cases hj
 have:=rowAt h j (.string x) (by simp[Ir]);rw[Nat.zero_add];exact this
theorem Jz (p u:ByteArray) (w:World) (hE:de w) (hp:p.size<=1000000) (hu:u.size<=1000000):Calls Tryz.prog 72 #[.string p,.string u] w (cn (Lz.mj p.data.toList u.data.toList) w):=by
 obtain⟨R,hR⟩:∃R,R=Lz.mj p.data.toList u.data.toList:=⟨_,rfl⟩;rw[<-hR];obtain⟨q,hq⟩:∃q,q=decide (p.data.toList=[]\/(p.data.toList=[47]/\u.data.toList=[])):=⟨_,rfl⟩;obtain⟨q2,bV⟩:∃q2,q2=Lib.hasSuffix p.data.toList [47]:=⟨_,rfl⟩;have xc:Hid (q=true->R=true):=Ih (fun h=>by rw[hR];unfold Lz.mj;rw[if_pos (of_decide_eq_true (hq▸h))])
 have sZ:Hid (q=false->q2=true->(Lz.ag 47 p.data.toList).length<=(Lz.ag 47 u.data.toList).length->R=decide ((Lz.ag 47 p.data.toList).dropLast.map Lz.an=((Lz.ag 47 u.data.toList).take ((Lz.ag 47 p.data.toList).length-1)).map Lz.an)):=Ih (fun h h2 h3=>by
  rw[hR];unfold Lz.mj;rw[if_neg (of_decide_eq_false (hq▸h)),if_pos ⟨bV▸h2,h3⟩,Bool.eq_iff_iff];simp)
 have Sj:Hid (q=false->¬(q2=true/\(Lz.ag 47 p.data.toList).length<=(Lz.ag 47 u.data.toList).length)->R=decide ((Lz.ag 47 p.data.toList).map Lz.an=(Lz.ag 47 u.data.toList).map Lz.an)):=Ih (fun h h2=>by
  rw[hR];unfold Lz.mj;rw[if_neg (of_decide_eq_false (hq▸h)),if_neg (bV▸h2),Bool.eq_iff_iff];simp)
 have cS:=Ih (pn p 47 (by omega) w hE);have cT:=Ih (fun W hW=>pn u 47 (by omega) W hW)
 have cF:Hid (∀W,Calls Tryz.prog 106 #[.string p,.string ⟨#[47]⟩] W fun e w'=>e=.returned (.bool q2)/\W=w'):=Ih (fun W=>
  (Tryz.strings_HasSuffix p ⟨#[47]⟩ W (by omega)).mono fun e w' ⟨h1,h2⟩=>⟨by rw[h1,bV],h2.symm⟩)
 have HE:=Ih hE;have Hq:=Ih hq;clear hR hq bV hE;go_enter Tryz.func72,Tryz.ntmps72
 go_upto_region 1 with fail
 go_cut [16] (fun s wx=>s=.bool q/\w=wx)
 case first=>
  by_cases h0:p.size=0
  ·have e1:p.toList.isEmpty=true:=ak h0;have HQ:Hid (q=true):=by show _=_;rw[Hq.out];exact decide_eq_true (Or.inl (List.length_eq_zero_iff.1 (by rw[aa];exact h0)))
   clear h0
   go_wp2_with fail
   go_meet;exact⟨by rw[HQ.out],rfl⟩
  ·have e1:p.toList.isEmpty=false:=aj (by omega);have e0:¬p.data.toList=[]:=fun h=>h0 (by rw[<-aa,h];rfl);by_cases h1:p.data.toList=[47]
   ·have g1:=aH h1;by_cases h2:u.size=0
    ·have e2:u.toList.isEmpty=true:=ak h2;have HQ:Hid (q=true):=by show _=_;rw[Hq.out];exact decide_eq_true (Or.inr ⟨h1,List.length_eq_zero_iff.1 (by rw[aa];exact h2)⟩)
     clear h0 h1 h2 e0
     go_wp2_with fail
     go_meet;exact⟨by rw[HQ.out],rfl⟩
    ·have e2:u.toList.isEmpty=false:=aj (by omega);have HQ:Hid (q=false):=by show _=_;rw[Hq.out];exact decide_eq_false (fun h=>h.elim e0 (fun h=>h2 (by rw[<-aa,h.2];rfl)))
     clear h0 h1 h2 e0
     go_wp2_with fail
     go_meet;exact⟨by rw[HQ.out],rfl⟩
   ·have g1:=aR h1;have HQ:Hid (q=false):=by show _=_;rw[Hq.out];exact decide_eq_false (fun h=>h.elim e0 (fun h=>h1 h.1))
    clear h0 h1 e0
    go_wp2_with fail
    go_meet;exact⟨by rw[HQ.out],rfl⟩
 case rest=>
  obtain⟨rfl,rfl⟩:=hcut;cases q with
  | true=>
    go_wp2_with fail
    go_ret;exact⟨by rw[xc.out (by simp)];rfl,Below.refl _ _⟩
  | false=>
    go_wp2_with fail
    refine cS.out.mono ?_;rintro e w1 ⟨xs,rfl,d7,iW⟩;have aC:Below w.heap.size w w1:=by rw[iW.out];exact(Below.refl _ w).alloc (Nat.le_refl _) _
    have oU:w1.heap[w.heap.size]? =some (.cells (xs.map Value.string).toArray 9 (0,0)):=by rw[iW.out];exact aK _ _
    have DB:=HE.out.below aC;clear iW
    go_wp2_with fail
    refine(cT.out _ DB).mono ?_;rintro e w2 ⟨ys,rfl,jl,oZ⟩;have aU:Below w1.heap.size w1 w2:=by rw[oZ.out];exact(Below.refl _ w1).alloc (Nat.le_refl _) _
    have qB:w2.heap[w1.heap.size]? =some (.cells (ys.map Value.string).toArray 9 (0,0)):=by rw[oZ.out];exact aK _ _
    have Ao:w2.heap[w.heap.size]? =some (.cells (xs.map Value.string).toArray 9 (0,0)):=(aU.block _ (aI oU)).trans oU;have bi:Below w.heap.size w w2:=ac aC aU;have vR:xs.length=(Lz.ag 47 p.data.toList).length:=by rw[<-d7.out,List.length_map]
    have Pg:ys.length=(Lz.ag 47 u.data.toList).length:=by rw[<-jl.out,List.length_map]
    have ZO:xs.length<=1000001:=by
     have:=Lz.dz 47 p.data.toList;rw[vR];rw[aa]at this;omega
    have fF:1<=xs.length:=by
     have:=Lz.kx 47 p.data.toList;rw[vR];cases h:Lz.ag 47 p.data.toList with
     | nil=>exact absurd h this
     | cons _ _=>simp
    have Zz:∀x,x∈Lz.ag 47 p.data.toList->x.length<=1000000000:=fun x hx=>by
     rw[<-d7.out]at hx;obtain⟨y,hy,rfl⟩:=List.mem_map.1 hx;have:=dL d7.out hy;rw[aa];omega
    have Il:∀x,x∈Lz.ag 47 u.data.toList->x.length<=1000000000:=fun x hx=>by
     rw[<-jl.out]at hx;obtain⟨y,hy,rfl⟩:=List.mem_map.1 hx;have:=dL jl.out hy;rw[aa];omega
    have PX:Hid (∀n c,n<=xs.length->dy w2 (.slice (some ⟨w.heap.size,0,none⟩) n c) ((Lz.ag 47 p.data.toList).take n)):=Ih (fun n c hn=>by rw[<-d7.out];exact uj Ao n c hn);have PY:Hid (∀n c,n<=ys.length->dy w2 (.slice (some ⟨w1.heap.size,0,none⟩) n c) ((Lz.ag 47 u.data.toList).take n)):=Ih (fun n c hn=>by rw[<-jl.out];exact uj qB n c hn);have Xz:=Ih Zz;have Xd:=Ih Il;have HXL:=Ih vR;have HYL:=Ih Pg;obtain⟨n,hn⟩:∃n,n=xs.length:=⟨_,rfl⟩;obtain⟨m,hm⟩:∃m,m=ys.length:=⟨_,rfl⟩;rw[<-hn]at ZO fF;have HN:=Ih hn;have HM:=Ih hm;clear oZ oU qB Ao d7 jl aC aU vR Pg Zz Il cS;rw[<-hn,<-hm];clear hn hm;obtain⟨q3,pf⟩:∃q3,q3=(q2&&decide (n<=m)):=⟨_,rfl⟩;have OK:=Ih pf;clear pf
    go_upto_region 4 with fail
    go_cut [29] (fun s wx=>s=.bool q3/\w2=wx)
    case first=>
     cases q2 with
     | false=>
       have HQ:Hid (q3=false):=by show _=_;rw[OK.out];rfl
       go_wp2_with fail
       refine(cF.out _).mono ?_;rintro e w5 ⟨rfl,rfl⟩
       go_wp2_with fail
       go_meet;exact⟨by rw[HQ.out],rfl⟩
     | true=>
       by_cases vV:n<=m
       ·have HQ:Hid (q3=true):=by show _=_;rw[OK.out,decide_eq_true vV];rfl
        have hI:(n:Int)<=(m:Int):=by omega
        go_wp2_with fail
        refine(cF.out _).mono ?_;rintro e w5 ⟨rfl,rfl⟩
        go_wp2_with fail
        go_meet;exact⟨by rw[HQ.out],rfl⟩
       ·have HQ:Hid (q3=false):=by show _=_;rw[OK.out,decide_eq_false vV];rfl
        have hI:¬(n:Int)<=(m:Int):=by omega
        go_wp2_with fail
        refine(cF.out _).mono ?_;rintro e w5 ⟨rfl,rfl⟩
        go_wp2_with fail
        go_meet;exact⟨by rw[HQ.out],rfl⟩
    case rest=>
     obtain⟨rfl,rfl⟩:=hcut;cases q3 with
     | true=>
       have h3:=OK.out;have bV:q2=true:=by cases q2;simp at h3;rfl
       have vV:n<=m:=by rw[bV]at h3;simpa using h3.symm
       obtain⟨k,hk⟩:∃k,k=n-1:=⟨_,rfl⟩;have kq:(n:Int)-1=(k:Int):=by omega
       have iN:(0:Int)<=(k:Int):=by omega
       have Sm:(k:Int)<=(n:Int):=by omega
       have Xh:(k:Int)<=(m:Int):=by omega
       have HV:Hid (R=decide (((Lz.ag 47 p.data.toList).take k).map Lz.an=((Lz.ag 47 u.data.toList).take k).map Lz.an)):=by
        show _=_;have:=sZ.out (by simp) bV (by rw[<-HXL.out,<-HYL.out,<-HN.out,<-HM.out];exact vV);rw[List.dropLast_eq_take,<-HXL.out,<-HN.out,<-hk]at this;exact this
       have cE:=Ih (oj _ _ _ _ w2 (PX.out k n (by have:=HN.out;omega)) (PY.out k m (by have:=HM.out;omega)) (by rw[List.length_take];omega) (fun x hx=>Xz.out x (List.mem_of_mem_take hx)) (fun x hx=>Xd.out x (List.mem_of_mem_take hx)));clear h3 bV vV hk
       go_wp2_with fail
       refine cE.out.mono ?_;rintro e w5 ⟨rfl,dB⟩
       go_wp2_with fail
       go_ret;exact⟨by rw[HV.out,List.map_take,List.map_take];rfl,ac bi dB⟩
     | false=>
       have HV:Hid (R=decide ((Lz.ag 47 p.data.toList).map Lz.an=(Lz.ag 47 u.data.toList).map Lz.an)):=Ih (Sj.out (by simp) (fun h=>by
        have h3:=OK.out;rw[h.1,decide_eq_true (by have:=h.2;rw[<-HXL.out,<-HYL.out,<-HN.out,<-HM.out]at this;exact this)]at h3;cases h3))
       have eX:=PX.out n n (by have:=HN.out;omega);have eY:=PY.out m m (by have:=HM.out;omega);rw[List.take_of_length_le (by rw[HN.out,HXL.out];exact Nat.le_refl _)]at eX;rw[List.take_of_length_le (by rw[HM.out,HYL.out];exact Nat.le_refl _)]at eY;have cE:=Ih (oj _ _ _ _ w2 eX eY (by rw[<-HXL.out,<-HN.out];omega) Xz.out Xd.out);clear eX eY
       go_wp2_with fail
       refine cE.out.mono ?_;rintro e w5 ⟨rfl,dB⟩
       go_wp2_with fail
       go_ret;exact⟨by rw[HV.out];rfl,ac bi dB⟩
attribute [local go_sem ↓] Go.wp_at_zero Go.wp_at_succ
theorem BB {w:World} {B:Nat} {v:Value} {xs:List ByteArray} (h:w.ownsRow B 9 1 v xs.length (xs.map Value.string)):dy w v (xs.map (fun x:ByteArray=>x.data.toList)):=by
 obtain⟨a,c,e,_,hc⟩:=aX.form (Or.inl h);exact⟨a,c,xs,e,rfl,hc⟩
theorem FF (p u:ByteArray) (w:World) (hp:p.size<=100000) (hu:u.size<=100000):Calls Tryz.prog 49 #[.string p,.string u] w (cn (Lz.mj p.data.toList u.data.toList) w):=by
 obtain⟨R,hR⟩:∃R,R=Lz.BT p.data.toList u.data.toList:=⟨_,rfl⟩;rw[<-Lz.NE,<-hR];obtain⟨q,hq⟩:∃q,q=decide (p.data.toList=[]\/(p.data.toList=[47]/\u.data.toList=[])):=⟨_,rfl⟩;have xc:Hid (q=true->R=true):=Ih (fun h=>by rw[hR];unfold Lz.BT;rw[if_pos (of_decide_eq_true (hq▸h))])
 have sZ:Hid (q=false->R=(if(Lz.ag 47 u.data.toList).length<(Lz.ag 47 p.data.toList).length then false else if p.data.toList.getLast? =some 47 then Lz.l0 ((Lz.ag 47 p.data.toList).length-1) (Lz.ag 47 p.data.toList) (Lz.ag 47 u.data.toList)else if(Lz.ag 47 p.data.toList).length≠(Lz.ag 47 u.data.toList).length then false else Lz.l0 (Lz.ag 47 u.data.toList).length (Lz.ag 47 p.data.toList) (Lz.ag 47 u.data.toList))):=Ih (fun h=>by
  rw[hR];unfold Lz.BT;rw[if_neg (of_decide_eq_false (hq▸h))])
 have HQP:Hid (q=false->1<=p.size):=Ih (fun h=>by
  have:=of_decide_eq_false (hq▸h);have h2:¬p.size=0:=fun h0=>this (Or.inl (List.length_eq_zero_iff.1 (by rw[aa];exact h0)));omega)
 have cS:=Ih (rP p (by omega) w);have cT:=Ih (fun W=>rP u (by omega) W);have Hq:=Ih hq;clear hR hq;go_enter Tryz.func49,Tryz.ntmps49
 go_upto_region 1 with fail
 go_cut [18] (fun s wx=>s=.bool q/\w=wx)
 case first=>
  by_cases h0:p.size=0
  ·have e1:p.toList.isEmpty=true:=ak h0;have HQ:Hid (q=true):=by show _=_;rw[Hq.out];exact decide_eq_true (Or.inl (List.length_eq_zero_iff.1 (by rw[aa];exact h0)))
   clear h0
   go_wp2_with fail
   go_meet;exact⟨by rw[HQ.out],rfl⟩
  ·have e1:p.toList.isEmpty=false:=aj (by omega);have e0:¬p.data.toList=[]:=fun h=>h0 (by rw[<-aa,h];rfl);by_cases h1:p.data.toList=[47]
   ·have g1:=aH h1;by_cases h2:u.size=0
    ·have e2:u.toList.isEmpty=true:=ak h2;have HQ:Hid (q=true):=by show _=_;rw[Hq.out];exact decide_eq_true (Or.inr ⟨h1,List.length_eq_zero_iff.1 (by rw[aa];exact h2)⟩)
     clear h0 h1 h2 e0
     go_wp2_with fail
     go_meet;exact⟨by rw[HQ.out],rfl⟩
    ·have e2:u.toList.isEmpty=false:=aj (by omega);have HQ:Hid (q=false):=by show _=_;rw[Hq.out];exact decide_eq_false (fun h=>h.elim e0 (fun h=>h2 (by rw[<-aa,h.2];rfl)))
     clear h0 h1 h2 e0
     go_wp2_with fail
     go_meet;exact⟨by rw[HQ.out],rfl⟩
   ·have g1:=aR h1;have HQ:Hid (q=false):=by show _=_;rw[Hq.out];exact decide_eq_false (fun h=>h.elim e0 (fun h=>h1 h.1))
    clear h0 h1 e0
    go_wp2_with fail
    go_meet;exact⟨by rw[HQ.out],rfl⟩
 case rest=>
  obtain⟨rfl,rfl⟩:=hcut;cases q with
  | true=>
    go_wp2_with fail
    go_ret;exact⟨by rw[xc.out (by simp)];rfl,Below.refl _ _⟩
  | false=>
    go_wp2_with fail
    refine cS.out.mono ?_;rintro e w1 ⟨v1,xs,rfl,d7,oW,aC⟩
    go_wp2_with fail
    refine(cT.out _).mono ?_;rintro e w2 ⟨v2,ys,rfl,jl,sB,aU⟩;have bi:Below w.heap.size w w2:=ac aC aU;have P1:=(BB oW).below aU;have P2:=BB sB;have n1:1<=(Lz.ag 47 p.data.toList).length:=List.length_pos_iff.2 (Lz.kx 47 _);have n2:1<=(Lz.ag 47 u.data.toList).length:=List.length_pos_iff.2 (Lz.kx 47 _);have n3:=Lz.dz 47 p.data.toList;have n4:=Lz.dz 47 u.data.toList;rw[d7.out]at P1;rw[jl.out]at P2;obtain⟨L1,TK⟩:∃L1,L1=Lz.ag 47 p.data.toList:=⟨_,rfl⟩;obtain⟨L2,Po⟩:∃L2,L2=Lz.ag 47 u.data.toList:=⟨_,rfl⟩
    have Xz:Hid (∀x∈L1,x.length<=100000):=Ih (fun x hx=>by
     rw[TK,<-d7.out]at hx;obtain⟨y,hy,rfl⟩:=List.mem_map.1 hx;have:=dL d7.out hy;rw[aa];omega)
    have Xd:Hid (∀x∈L2,x.length<=100000):=Ih (fun x hx=>by
     rw[Po,<-jl.out]at hx;obtain⟨y,hy,rfl⟩:=List.mem_map.1 hx;have:=dL jl.out hy;rw[aa];omega)
    rw[aa,<-TK]at n3;rw[aa,<-Po]at n4;rw[<-TK]at n1 P1;rw[<-Po]at n2 P2;have HR:=Ih (sZ.out (by simp));rw[<-TK,<-Po]at HR;have XH:=HQP.out (by simp);clear d7 jl oW sB aC aU xc sZ HQP cS cT Hq TK Po;obtain⟨a1,c1,zs,rfl,rfl,j7⟩:=P1;obtain⟨a2,c2,ts,rfl,rfl,qH⟩:=P2;rw[List.length_map]at n1 n2 n3 n4;obtain⟨G1,o1,rfl,ib,Xk⟩:=j7 0 zs[0] (List.getElem?_eq_getElem (by omega));obtain⟨G2,o2,rfl,KO,Ir⟩:=qH 0 ts[0] (List.getElem?_eq_getElem (by omega));clear Xk Ir
    have WW:Hid (∀(j:Nat) (x:ByteArray),zs[j]? =some x->w2.cell? ⟨G1,o1+j,none⟩=some (.string x)):=Ih (fun j x hj=>by
     obtain⟨G,o,e,_,hc⟩:=j7 j x hj;injection e with e;injection e with e1 e2 _
     subst e1;subst e2;exact hc)
    have WT:Hid (∀(j:Nat) (x:ByteArray),ts[j]? =some x->w2.cell? ⟨G2,o2+j,none⟩=some (.string x)):=Ih (fun j x hj=>by
     obtain⟨G,o,e,_,hc⟩:=qH j x hj;injection e with e;injection e with e1 e2 _
     subst e1;subst e2;exact hc)
    clear j7 qH;obtain⟨n,hn⟩:∃n,n=zs.length:=⟨_,rfl⟩;obtain⟨m,hm⟩:∃m,m=ts.length:=⟨_,rfl⟩;rw[<-hn]at n1 n3;rw[<-hm]at n2 n4;have HN:=Ih hn;have HM:=Ih hm;rw[<-hn,<-hm];rw[List.length_map,List.length_map,<-hn,<-hm]at HR;clear hn hm;by_cases vV:m<n
    ·have hI:(m:Int)<(n:Int):=by omega
     have HV:Hid (R=false):=by show _=_;rw[HR.out,if_pos vV]
     clear vV
     go_wp2_with fail
     go_ret;exact⟨by rw[HV.out];rfl,bi⟩
    have hI:¬(m:Int)<(n:Int):=by omega
    obtain⟨c,hc⟩:∃c,c=p[p.size-1]:=⟨_,rfl⟩;obtain⟨z,hz⟩:∃z,z=(c==47):=⟨_,rfl⟩;have fu:p.data.toList.getLast? =some c:=by rw[List.getLast?_eq_getElem?,aa,aw (by omega),hc]
    have e47:((c.toNat:Int)==47)=z:=(jO c 47).trans hz.symm;obtain⟨d,hd⟩:∃d,d=p.size-1:=⟨_,rfl⟩;have hdw:IntKind.i64.wrap ((p.size:Int)-1)=(d:Int):=by rw[show(p.size:Int)-1=(d:Int) by omega];exact IntWalk.i64_in _ (by omega)
    have WP:(0:Int)<=(d:Int):=by omega
    have xd:(d:Int)<(p.size:Int):=by omega
    have Ou:d<p.size:=by omega
    have yI:((p[d]'Ou).toNat:Int)=(c.toNat:Int):=by rw[hc];simp only[hd]
    obtain⟨k1,kq⟩:∃k1,k1=n-1:=⟨_,rfl⟩;have hkw:IntKind.i64.wrap ((n:Int)-1)=(k1:Int):=by rw[show(n:Int)-1=(k1:Int) by omega];exact IntWalk.i64_in _ (by omega)
    have HA:Hid (z=true->R=Lz.l0 k1 (zs.map (fun x:ByteArray=>x.data.toList)) (ts.map (fun x:ByteArray=>x.data.toList))):=Ih (fun h=>by
     have:c=47:=by rw[h]at hz;exact beq_iff_eq.1 hz.symm
     rw[HR.out,if_neg vV,if_pos (by rw[fu,this]),kq])
    have HB:Hid (z=false->n≠m->R=false):=Ih (fun h h2=>by
     have:¬c=47:=by rw[h]at hz;exact beq_eq_false_iff_ne.1 hz.symm
     rw[HR.out,if_neg vV,if_neg (by rw[fu];exact fun e=>this (Option.some.inj e)),if_pos h2])
    have HC:Hid (z=false->n=m->R=Lz.l0 m (zs.map (fun x:ByteArray=>x.data.toList)) (ts.map (fun x:ByteArray=>x.data.toList))):=Ih (fun h h2=>by
     have:¬c=47:=by rw[h]at hz;exact beq_eq_false_iff_ne.1 hz.symm
     rw[HR.out,if_neg vV,if_neg (by rw[fu];exact fun e=>this (Option.some.inj e)),if_neg (by rw[h2];exact fun e=>e rfl)])
    have HK1:=Ih kq;clear fu hz hc hd HR kq
    go_upto_if 35 with fail
    go_cut [7] (fun s wx=>∃k:Nat,s=.int .i64 k/\k<=n/\k<=m/\Hid (R=Lz.l0 k (zs.map (fun x:ByteArray=>x.data.toList)) (ts.map (fun x:ByteArray=>x.data.toList)))/\w2=wx)
    case first=>
     cases z with
     | true=>
       have HV:=Ih (HA.out rfl)
       go_wp2_with fail
       go_meet;exact⟨k1,rfl,by have:=HK1.out;omega,by have:=HK1.out;omega,HV.out,rfl⟩
     | false=>
       by_cases dG:n=m
       ·have WF:((n:Int) != (m:Int))=false:=by rw[dG];simp
        have HV:=Ih (HC.out rfl dG);have Lg:=Ih dG;clear dG
        go_wp2_with fail
        go_meet;exact⟨m,rfl,by have:=Lg.out;omega,Nat.le_refl _,HV.out,rfl⟩
       ·have WF:((n:Int) != (m:Int))=true:=by simp;omega
        have HV:=Ih (HB.out rfl dG);clear dG
        go_wp2_with fail
        go_ret;exact⟨by rw[HV.out];rfl,bi⟩
    case rest=>
     obtain⟨k,rfl,VW,hkm,HV,rfl⟩:=hcut;clear HA HB HC HK1
     go_wp2_with fail
     go_loopw [8] (fun i wr=>∃j:Nat,i=.int .i64 j/\j<=k/\Hid (Lz.l0 j (zs.map (fun x:ByteArray=>x.data.toList)) (ts.map (fun x:ByteArray=>x.data.toList))=true)/\Below w2.heap.size w2 wr) (fun i _=>k-(intOf i).toNat)
     case atStart=>exact⟨0,rfl,Nat.zero_le _,Ih rfl,Below.refl _ _⟩
     case round=>
      obtain⟨j,rfl,hj,hT,SC⟩:=hrel;by_cases aN:j<k
      ·have dH:(j:Int)<(k:Int):=by omega
       have Aj:(0:Int)<=(j:Int):=by omega
       have sC:(j:Int)<(n:Int):=by omega
       have hjm:(j:Int)<(m:Int):=by omega
       have fs:j<zs.length:=by have:=HN.out;omega
       have fk:j<ts.length:=by have:=HM.out;omega
       obtain⟨x,hx⟩:∃x,x=zs[j]:=⟨_,rfl⟩;obtain⟨y,hy⟩:∃y,y=ts[j]:=⟨_,rfl⟩;have Se:zs[j]? =some x:=by rw[List.getElem?_eq_getElem fs,hx]
       have RY:ts[j]? =some y:=by rw[List.getElem?_eq_getElem fk,hy]
       have j7:=WW.out j x Se;have qH:=WT.out j y RY
       have hC:Hid (∀V,Below wr.heap.size wr V->V.cell? ⟨G1,o1+j,none⟩=some (.string x)/\V.cell? ⟨G2,o2+j,none⟩=some (.string y)):=Ih (fun V hV=>by
        have h:=ac SC hV;exact⟨by rw[h.cell (p:=⟨G1,o1+j,none⟩) ib];exact j7,by rw[h.cell (p:=⟨G2,o2+j,none⟩) KO];exact qH⟩)
       have o7:x.size<=100000:=by rw[<-aa];exact Xz.out _ (List.mem_map.2 ⟨x,List.mem_of_getElem? Se,rfl⟩)
       have Iw:y.size<=100000:=by rw[<-aa];exact Xd.out _ (List.mem_map.2 ⟨y,List.mem_of_getElem? RY,rfl⟩)
       have kX:Hid (∀V,Below wr.heap.size wr V->Calls Tryz.prog 58 #[.string x] V fun e w'=>∃t:ByteArray,e=.returned (.string t)/\Hid (t.data.toList=Lz.an x.data.toList)/\Below wr.heap.size wr w'):=Ih (fun V hV=>(ly x (by omega) V).mono fun e w' ⟨t,h1,h2,h3⟩=>⟨t,h1,h2,ac hV h3⟩);have kY:Hid (∀V,Below wr.heap.size wr V->Calls Tryz.prog 58 #[.string y] V fun e w'=>∃t:ByteArray,e=.returned (.string t)/\Hid (t.data.toList=Lz.an y.data.toList)/\Below wr.heap.size wr w'):=Ih (fun V hV=>(ly y (by omega) V).mono fun e w' ⟨t,h1,h2,h3⟩=>⟨t,h1,h2,ac hV h3⟩);have HS:=Ih (Lz.Jr (a:=zs.map (fun x:ByteArray=>x.data.toList)) (b:=ts.map (fun x:ByteArray=>x.data.toList)) (x:=x.data.toList) (y:=y.data.toList) (by rw[List.getElem?_map,Se];rfl) (by rw[List.getElem?_map,RY];rfl));have hjw:IntKind.i64.wrap ((j:Int)+1)=(j:Int)+1:=IntWalk.i64_in _ (by omega);clear hx hy Se RY j7 qH fs fk
       go_upto_region 14 with fail
       refine wp_region_held_drew (S:=fun V=>(V.cell? ⟨G1,o1+j,none⟩=some (.string x)/\V.cell? ⟨G2,o2+j,none⟩=some (.string y))/\Below wr.heap.size wr V) (by kernel_rfl) ⟨hC.out _ (Below.refl _ _).drew,(Below.refl _ _).drew⟩ (fun ar=>?_);generalize wr.drew=W0 at ar⊢;apply TkG 0 49;apply TkG 1 50;apply TkG 2 51;apply TkG 3 52;apply TkG 5 54;apply TkG 6 55;apply TkG 7 56;apply TkG 8 57
       iterate 8 (rotate_right 2;(·(intro W yC;(try dsimp only at yC);(try simp only[Act.put]);(try simp only[List.setIfInBounds_toArray]);(try simp only[List.set_cons_zero,List.set_cons_succ]);go_simp;try with_reducible rfl)))
       (try simp only[Act.put,List.setIfInBounds_toArray,List.set_cons_zero,List.set_cons_succ])
       refine wpAnyH_ready (rs:=[4]) (by kernel_rfl) (by simp) ?_;refine AllReadyH.cons rfl (fun K hK=>?_) AllReadyH.nil;go_simp
       go_at_call 58
       refine(kX.out _ ar.2).mono ?_;rintro e w5 ⟨u1,rfl,o8,l4⟩;clear ar;refine hK.out _ _ ⟨hC.out _ l4,l4⟩ (fun ar=>?_);clear hK K
       (try simp only[Act.put,List.setIfInBounds_toArray,List.set_cons_zero,List.set_cons_succ])
       refine wpAnyH_ready (rs:=[9]) (by kernel_rfl) (by simp) ?_;refine AllReadyH.cons rfl (fun K hK=>?_) AllReadyH.nil;go_simp
       go_at_call 58
       refine(kY.out _ ar.2).mono ?_;rintro e w5 ⟨u2,rfl,nK,l4⟩;clear ar;refine hK.out _ _ ⟨hC.out _ l4,l4⟩ (fun ar=>?_);clear hK K
       (try simp only[Act.put,List.setIfInBounds_toArray,List.set_cons_zero,List.set_cons_succ])
       refine TkD 10 (some 59) (v:=?_) rfl rfl ?_ ?_;rotate_left
       ·(intro W yC;(try dsimp only at yC);go_simp;try with_reducible rfl)
       (try simp only[Act.put,List.setIfInBounds_toArray,List.set_cons_zero,List.set_cons_succ])
       refine wpAnyH_done (by kernel_rfl) ?_ _;generalize XA:(u1.toList==u2.toList)=q5;have hQ5:Hid (q5=decide (Lz.an x.data.toList=Lz.an y.data.toList)):=by show _=_;rw[<-XA,<-o8.out,<-nK.out,<-gw]
       have pd:Below w2.heap.size w2 w5:=ac SC ar.2;clear XA ar o8 nK hC kX kY;cases q5 with
       | true=>
         have kp:Hid (Lz.l0 (j+1) (zs.map (fun x:ByteArray=>x.data.toList)) (ts.map (fun x:ByteArray=>x.data.toList))=true):=by show _=_;rw[HS.out,hT.out,<-hQ5.out];rfl
         clear hQ5 HS hT
         go_wp2_with fail
         go_roundw
         case rel=>exact⟨j+1,by go_num,by omega,kp,pd⟩
         case measure=>simp[intOf];omega
       | false=>
         have HF:Hid (R=false):=by
          show _=_;rw[HV.out];cases h:Lz.l0 k (zs.map (fun x:ByteArray=>x.data.toList)) (ts.map (fun x:ByteArray=>x.data.toList))with
          | false=>rfl
          | true=>
            have h2:=Lz.PN h (show j+1<=k by omega);rw[HS.out,hT.out,<-hQ5.out]at h2;cases h2
         clear hQ5 HS hT
         go_wp2_with fail
         go_ret;exact⟨by rw[HF.out];rfl,ac bi pd⟩
      ·have dH:¬(j:Int)<(k:Int):=by omega
       have Dt:j=k:=by omega
       have HF:Hid (R=true):=by show _=_;rw[HV.out,<-Dt,hT.out]
       clear Dt hT
       go_wp2_with fail
       go_ret;exact⟨by rw[HF.out];rfl,ac bi SC⟩
end Go.Proofs.YtlcbhacofagedaaGreatDoor
