/-
  From what a row hands over to what the walks ask: a slice of strings, a URL.
-/
import Derived.Test.YtfepgodjaeddgaaGreatDoorR40
import Derived.Test.YtfepgodjaeddgaaGreatDoorRows
import Derived.LaidMore
import Derived.LaidSub
import Derived.PinnedBridge
set_option maxHeartbeats 8000000
set_option maxRecDepth 100000
namespace Go.Proofs.YtfepgodjaeddgaaGreatDoor
open Go.ChangeShapes Go.WideShapes Go.ChangeAt Go.RowKit
theorem laid_reads {l:List (String×DataW Unit)} {W:World} (h:laidMetH Tryz.prog l W) {n:String} {d:DataW Unit} (hm:(n,d)∈l) (hn:d.handleName?.isNone=true):Lib.VarReads Tryz.prog W n d:=
 Lib.laidMet.reads (laidMetH_iff.1 h).1 (List.mem_filter.2 ⟨hm,hn⟩)
theorem tab_of_reads {W:World} {name:String} {k:IntKind} {zs:List Int} {g:Nat} {t e:TypeId} {n:Nat}
  (hg:Tryz.prog.globalNamed name=some g) (hty:(Tryz.prog.globals[g]?).map (·.type)=some t) (ht:Tryz.prog.underlying t=some (.array n e)) (he:Tryz.prog.underlying e=some (.int k)) (hce:Tryz.prog.cellsOf e=1) (hct:Tryz.prog.cellsOf t=n)
  (h:Lib.VarReads Tryz.prog W name (Lib.tabData k zs)):Lib.TabIs Tryz.prog W name k zs:=by
 obtain⟨g',t',cs,fuel,p,hg',ht',hvar,hd⟩:=h;obtain rfl:=Option.some.inj (hg.symm.trans hg');obtain rfl:=Option.some.inj (hty.symm.trans ht');unfold Lib.TabIs;rw[hvar,<-Lib.cells_of_tab ht he hce hct hd]
theorem iface_of_reads {W:World} {name:String} {nm:String} {d:DataW Unit} {g:Nat} {t:TypeId} {ms:Array (String×TypeId)}
  (hg:Tryz.prog.globalNamed name=some g) (hty:(Tryz.prog.globals[g]?).map (·.type)=some t) (ht:Tryz.prog.underlying t=some (.interface ms))
  (h:Lib.VarReads Tryz.prog W name (.iface nm d)):∃te pe,W.cell? ⟨g,0,none⟩=some (.iface te pe):=by
 obtain⟨g',t',cs,fuel,p,hg',ht',hvar,hd⟩:=h;obtain rfl:=Option.some.inj (hg.symm.trans hg');obtain rfl:=Option.some.inj (hty.symm.trans ht');have hcell:=World.var?_cell hg hvar 0;cases fuel with
 | zero=>simp[DataW.trod]at hd
 | succ n=>
   unfold DataW.trod at hd;rw[ht]at hd;obtain⟨cs⟩:=cs
   match cs,hd,hcell with
   | [.iface u v],_,hcell=>exact⟨u,v,by simpa using hcell⟩
   | [.nilIface],hd,_=>simp at hd
   | [],hd,_=>simp at hd
   | _::_::_,hd,_=>simp at hd
theorem gSyn:Tryz.prog.globalNamed "strconv.ErrSyntax"=some 9:=by kernel_rfl
theorem gRng:Tryz.prog.globalNamed "strconv.ErrRange"=some 10:=by kernel_rfl
theorem gEt:Tryz.prog.globalNamed "errors.errorType"=some 1:=by kernel_rfl
theorem gEtRt:(Tryz.prog.cutTypes.find? (·.1== "internal/reflectlite.rtype")).map (·.2)=some 164:=by kernel_rfl
theorem gEtRow:((List.range Tryz.prog.types.size).filter fun t=>Tryz.prog.rowNamed t [101,114,114,111,114])=[50]:=by kernel_rfl
theorem et_of_laid {l:List (String×DataW Unit)} {W:World} (h:laidMetH Tryz.prog l W) (hm:("errors.errorType",Rows.laid_errors_errorType)∈l):
  W.cell? ⟨1,0,none⟩=some (.iface 164 (.agg #[.pointer (some ⟨11,50,none⟩)])):=by
 obtain⟨name,u,ty,e1,e2,e3,e4,e5⟩:=(laidMetH_iff.1 h).2 _ (List.mem_filter.2 ⟨hm,rfl⟩);have en:name=[101,114,114,111,114]:=(Option.some.inj e1).symm;subst en;obtain rfl:=Option.some.inj (gEtRt.symm.trans e2);have hm:ty∈(List.range Tryz.prog.types.size).filter fun t=>Tryz.prog.rowNamed t [101,114,114,111,114]:=List.mem_filter.2 ⟨List.mem_range.2 e3,e4⟩;rw[gEtRow]at hm;obtain rfl:=List.mem_singleton.1 hm;have hh:typeHandle Tryz.prog 50=.pointer (some ⟨11,50,none⟩):=by kernel_rfl
 rw[hh]at e5;simpa using World.var?_cell gEt e5 0
theorem spot_none {w:World} {b o:Nat} {sp:Option Nat} {v:Value} (h:w.cell? ⟨b,o,sp⟩=some v):sp=none:=by
 cases sp with
 | none=>rfl
 | some x=>
   unfold World.cell? at h;split at h<;>simp at h
def dbTab:List Int:=[0,1,56,2,57,49,28,3,61,58,42,50,38,29,17,4,62,47,59,36,45,43,51,22,53,39,33,30,24,18,12,5,63,55,48,27,60,41,37,16,46,35,44,21,52,32,23,11,54,26,40,15,34,20,31,10,25,14,19,9,13,8,7,6]
theorem gDb:Tryz.prog.globalNamed "math/bits.deBruijn64tab"=some 8:=by kernel_rfl
theorem envH_of_laid {l:List (String×DataW Unit)} {W:World} (h:laidMetH Tryz.prog l W) (hsh:W.ShapedOpen Tryz.prog)
  (m1:("internal/strconv.uint64pow10",Rows.laid_internal_strconv_uint64pow10)∈l) (m2:("errors.errorType",Rows.laid_errors_errorType)∈l)
  (m3:("strconv.ErrRange",Rows.laid_strconv_ErrRange)∈l) (m4:("strconv.ErrSyntax",Rows.laid_strconv_ErrSyntax)∈l) (m5:("math/bits.deBruijn64tab",Rows.laid_math_bits_deBruijn64tab)∈l):EnvH W:=by
 have hdb:Lib.TabIs Tryz.prog W "math/bits.deBruijn64tab" .u8 dbTab:=tab_of_reads gDb (t:=306) (by kernel_rfl) (Tryz.underlying306) (Tryz.underlying5) (by kernel_rfl) (by kernel_rfl) (laid_reads h m5 rfl);have hcell:=fun o=>World.var?_cell gDb hdb o
 exact{
  ml:=cell_of_shapedOpen_int (zero:= #[.int .i64 0]) (t:=3) hsh (of_decide_eq_true (by kernel_rfl)) (by kernel_rfl) rfl (by kernel_rfl) (by kernel_rfl) (Tryz.underlying3)
  pow:=tab_of_reads gPow (t:=271) (by kernel_rfl) (Tryz.underlying271) (Tryz.underlying237) (by kernel_rfl) (by kernel_rfl) (laid_reads h m1 rfl)
  syn:=iface_of_reads gSyn (t:=50) (by kernel_rfl) (Tryz.underlying50) (laid_reads h m4 rfl)
  rng:=iface_of_reads gRng (t:=50) (by kernel_rfl) (Tryz.underlying50) (laid_reads h m3 rfl)
  et:=et_of_laid h m2
  db8:=(hcell 7).trans (by rfl)
  db16:=(hcell 15).trans (by rfl)
  size:=by
   have hs:(((begin Tryz.prog (fun _ _=>0) default).world.heap[11-1]?).bind Obj.row?).isSome=true:=by kernel_rfl
   obtain⟨⟨zero,t⟩,h0⟩:=Option.isSome_iff_exists.1 hs;obtain⟨cs,hc,_⟩:=hsh.1 (11-1) zero t (of_decide_eq_true (by kernel_rfl)) h0;have:=(Array.getElem?_eq_some_iff.1 hc).1;omega}
theorem gFirst:Tryz.prog.globalNamed "unicode/utf8.first"=some 4:=by kernel_rfl
theorem gAcc:Tryz.prog.globalNamed "unicode/utf8.acceptRanges"=some 5:=by kernel_rfl
theorem utf8_of_reads {w:World} (h3:Lib.VarReads Tryz.prog w "unicode/utf8.first" Lib.firstData) (h4:Lib.VarReads Tryz.prog w "unicode/utf8.acceptRanges" Lib.acceptData):Lib.Utf8Tabs 4 5 w:=by
 have c5:Tryz.prog.cellsOf 5=1:=by kernel_rfl
 have c119:Tryz.prog.cellsOf 212=256:=by kernel_rfl
 have c138:Tryz.prog.cellsOf 214=2:=by kernel_rfl
 have y3:(Tryz.prog.globals[4]?).map (·.type)=some 212:=by kernel_rfl
 have y4:(Tryz.prog.globals[5]?).map (·.type)=some 215:=by kernel_rfl
 refine⟨fun c hc=>?_,fun i hi=>?_⟩
 ·obtain⟨g,t,cs,fuel,p,hg,hty,hvar,hd⟩:=h3;obtain rfl:=Option.some.inj (gFirst.symm.trans hg);obtain rfl:=Option.some.inj (y3.symm.trans hty);have hcs:=Lib.cells_of_tab (Tryz.underlying212) (Tryz.underlying5) c5 c119 hd;have:=World.var?_cell hg hvar c;rw[this,<-Array.getElem?_toList,hcs]
  simp[Lib.firstTab,hc]
 ·obtain⟨g,t,cs,fuel,p,hg,hty,hvar,hd⟩:=h4;obtain rfl:=Option.some.inj (gAcc.symm.trans hg);obtain rfl:=Option.some.inj (y4.symm.trans hty);obtain⟨fuel',d,q,hdi,he⟩:=Lib.array_elem (Tryz.underlying215) hd i hi;simp only[List.getElem?_map,List.getElem?_range hi,Option.map_some,Option.some.injEq]at hdi;subst hdi;rw[c138]at he
  have hcs:=Lib.ints_of_struct (Tryz.underlying214) (fun j f hj=>by
   match j,hj with
   | 0,hj=>simp at hj;subst hj;exact⟨Tryz.underlying5,rfl,c5⟩
   | 1,hj=>simp at hj;subst hj;exact⟨Tryz.underlying5,rfl,c5⟩
   | j+2,hj=>simp at hj) (by rw[c138];rfl) he
  have e0:=congrArg (·[0]?) hcs;have e1:=congrArg (·[1]?) hcs;simp only[List.getElem?_take,List.getElem?_drop]at e0 e1;constructor
  ·rw[World.var?_cell hg hvar (2*i),<-Array.getElem?_toList];simpa [Nat.mul_comm]using e0
  ·rw[World.var?_cell hg hvar (2*i+1),<-Array.getElem?_toList];simpa [Nat.mul_comm]using e1
theorem envU_of_laid {l:List (String×DataW Unit)} {W:World} (h:laidMetH Tryz.prog l W) (hsh:W.ShapedOpen Tryz.prog)
  (m1:("internal/strconv.uint64pow10",Rows.laid_internal_strconv_uint64pow10)∈l) (m2:("errors.errorType",Rows.laid_errors_errorType)∈l)
  (m3:("strconv.ErrRange",Rows.laid_strconv_ErrRange)∈l) (m4:("strconv.ErrSyntax",Rows.laid_strconv_ErrSyntax)∈l) (m5:("math/bits.deBruijn64tab",Rows.laid_math_bits_deBruijn64tab)∈l)
  (m6:("unicode/utf8.first",Rows.laid_unicode_utf8_first)∈l) (m7:("unicode/utf8.acceptRanges",Rows.laid_unicode_utf8_acceptRanges)∈l):EnvU W:=
 ⟨envH_of_laid h hsh m1 m2 m3 m4 m5,utf8_of_reads (by
  have:=laid_reads h m6 (by kernel_rfl);rw[show Rows.laid_unicode_utf8_first=Lib.firstData from Pinned.utf8First_eq]at this;exact this) (by
  have:=laid_reads h m7 (by kernel_rfl);rw[show(Rows.laid_unicode_utf8_acceptRanges:DataW Unit)=Lib.acceptData by kernel_rfl]at this;exact this)⟩
theorem gKw:Tryz.prog.globalNamed "lazaret/sources.keywords"=some 3:=by kernel_rfl
theorem gBt:Tryz.prog.globalNamed "lazaret/match.better"=some 0:=by kernel_rfl
theorem kw_of_laid {W:World} (h:Lib.VarReads Tryz.prog W "lazaret/sources.keywords" Rows.laid_lazaret_sources_keywords):
  ∃b o c,W.cell? ⟨3,0,none⟩=some (.slice (some ⟨b,o,none⟩) 8 c)/\b<W.heap.size/\∀j,j<8->W.cell? ⟨b,o+j,none⟩=some (.string ((Lz.keywords.map (fun l=>(⟨l.toArray⟩:ByteArray))).getD j ByteArray.empty)):=by
 obtain⟨g',t',cs,fuel,p,hg',ht',hvar,hd⟩:=h;obtain rfl:=Option.some.inj (gKw.symm.trans hg');obtain rfl:=Option.some.inj ((show(Tryz.prog.globals[3]?).map (·.type)=some 22 by kernel_rfl).symm.trans ht');have hcell:=World.var?_cell gKw hvar 0;obtain⟨a,cap,hcs,_,hall⟩:=open_row (Tryz.underlying22) (by kernel_rfl) hd;obtain⟨b,o,sp⟩:=a
 have hc0:cs[0]? =some (.slice (some ⟨b,o,sp⟩) 8 cap):=by
  rw[<-Array.getElem?_toList,hcs];rfl
 have hstr:∀j,j<8->∃s:ByteArray,W.cell? ((⟨b,o,sp⟩:Addr).add j)=some (.string s)/\s.data.toList=Lz.keywords.getD j []:=by
  intro j hj
  obtain⟨v,n,q,hv,ht⟩:=hall j (.lit (.string (Lz.keywords.getD j []))) (by
   match j,hj with
   | 0,_=>rfl
   | 1,_=>rfl
   | 2,_=>rfl
   | 3,_=>rfl
   | 4,_=>rfl
   | 5,_=>rfl
   | 6,_=>rfl
   | 7,_=>rfl)
  obtain⟨s,hs,hx,_⟩:=DataW.trod_string (Tryz.underlying9) ht;obtain rfl:v=.string s:=by simpa using hs
  refine⟨s,hv,?_⟩;simp only[Prod.mk.injEq,DataW.lit.injEq,Lit.string.injEq]at hx;exact hx.1.symm
 obtain⟨s0,hs0,_⟩:=hstr 0 (by omega);have hs0:W.cell? ⟨b,o,sp⟩=some (.string s0):=by simpa [Addr.add]using hs0
 obtain rfl:=spot_none hs0;refine⟨b,o,cap,?_,?_,?_⟩
 ·rw[hcell];exact hc0
 ·unfold World.cell? at hs0;rcases Nat.lt_or_ge b W.heap.size with h'|h'
  ·exact h'
  ·simp[Array.getElem?_eq_none h']at hs0
 ·intro j hj;obtain⟨s,hs,he⟩:=hstr j hj;rw[show(⟨b,o+j,none⟩:Addr)=(⟨b,o,none⟩:Addr).add j by simp[Addr.add],hs];have:s=⟨(Lz.keywords.getD j []).toArray⟩:=by rw[<-he]
  rw[this]
  match j,hj with
  | 0,_=>rfl
  | 1,_=>rfl
  | 2,_=>rfl
  | 3,_=>rfl
  | 4,_=>rfl
  | 5,_=>rfl
  | 6,_=>rfl
  | 7,_=>rfl
open Go.WideElems in
theorem path_of_elem {W:World} {n:Nat} {v:Value} {ls:List (List UInt8)} {q:List MemPlace} (h:elemAt (fun _=>()) Tryz.prog W 0 (fun _=>true) false n 22 v=some (.slice (ls.map fun l=>.lit (.string l)) [],q)):PathAt W v ls:=by
 unfold elemAt at h;split at h
 ·rename_i hf;obtain⟨a,cap,hcs,_,hall⟩:=open_row (Tryz.underlying22) (by kernel_rfl) h;rw[List.length_map]at hcs
  have hv:v=.slice (some a) ls.length cap:=by
   cases v<;>first
    | (simp[Value.cells]at hcs;done)
    | (simp only[Value.cells]at hcs;simpa using hcs)
    | (exfalso;revert hf;simp[Value.formed,Tryz.underlying22];done)
  obtain⟨b,o,sp⟩:=a;refine⟨some ⟨b,o,sp⟩,cap,ls.map (fun l=>(⟨l.toArray⟩:ByteArray)),by rw[List.length_map];exact hv,by rw[List.map_map];exact(List.map_congr_left (fun x _=>rfl)).trans (List.map_id ls),fun j x hj=>?_⟩;rw[List.getElem?_map]at hj;obtain⟨l,hl,rfl⟩:=Option.map_eq_some_iff.1 hj;have h0l:0<ls.length:=Nat.lt_of_le_of_lt (Nat.zero_le j) (List.getElem?_eq_some_iff.1 hl).1;obtain⟨u0,m0,r0,hu0,_⟩:=hall 0 (.lit (.string ls[0])) (by rw[List.getElem?_map,List.getElem?_eq_getElem h0l];rfl);have hu00:W.cell? ⟨b,o,sp⟩=some u0:=by simpa [Addr.add]using hu0
  obtain rfl:=spot_none hu00;obtain⟨u,m,r,hu,ht⟩:=hall j (.lit (.string l)) (by rw[List.getElem?_map,hl];rfl);obtain⟨s,hs,hx,_⟩:=DataW.trod_string (Tryz.underlying9) ht;obtain rfl:u=.string s:=by simpa using hs
  have hs2:s.data.toList=l:=by
   simp only[Prod.mk.injEq,DataW.lit.injEq,Lit.string.injEq]at hx;exact hx.1.symm
  have hu2:W.cell? ⟨b,o+j,none⟩=some (.string s):=by
   rw[<-hu,show(⟨b,o+j,none⟩:Addr)=(⟨b,o,none⟩:Addr).add j by simp[Addr.add]]
  refine⟨b,o,rfl,World.block_lt_of_cell? _ _ hu2,?_⟩;rw[hu2,<-hs2]
 ·cases h
def httpL:List UInt8:=[104,116,116,112]
def wsL:List UInt8:=[119,115]
def wssL:List UInt8:=[119,115,115]
theorem at_better (l:List UInt8) (zd:DataW Unit):(Rows.laid_lazaret_match_better (H:=Unit)).atKey (.string l) zd=if l=httpL\/l=wsL\/l=wssL then .slice ((Lz.betterP l).map fun x=>.lit (.string x)) []else zd:=by
 by_cases h1:l=httpL
 ·subst h1;rfl
 ·by_cases h2:l=wsL
  ·subst h2;rfl
  ·by_cases h3:l=wssL
   ·subst h3;rfl
   ·rw[if_neg (by simp[h1,h2,h3])];have e1:(httpL==l)=false:=beq_eq_false_iff_ne.2 (Ne.symm h1);have e2:(wsL==l)=false:=beq_eq_false_iff_ne.2 (Ne.symm h2);have e3:(wssL==l)=false:=beq_eq_false_iff_ne.2 (Ne.symm h3);unfold httpL at e1;unfold wsL at e2;unfold wssL at e3;unfold Rows.laid_lazaret_match_better DataW.atKey;simp only[List.find?_cons,Lit.sameKey,e1,e2,e3,List.find?_nil]
theorem better_no {l:List UInt8} (h1:l≠httpL) (h2:l≠wsL) (h3:l≠wssL):Lz.betterP l=[]:=by
 unfold Lz.betterP;rw[if_neg (show ¬l=Lz.httpS from h1),if_neg (show ¬l=Lz.wsS from h2),if_neg (show ¬l=Lz.wssS from h3)]
open Go.WideElems Go.WideMaps in
theorem better_of_laid {W:World} (h:Lib.VarReads Tryz.prog W "lazaret/match.better" Rows.laid_lazaret_match_better):BetterAt W:=by
 obtain⟨g',t',cs,fuel,p,hg',ht',hvar,hd⟩:=h;obtain rfl:=Option.some.inj (gBt.symm.trans hg');obtain rfl:=Option.some.inj ((show(Tryz.prog.globals[0]?).map (·.type)=some 43 by kernel_rfl).symm.trans ht');have hcell:=World.var?_cell gBt hvar 0;rcases WideElems.open_map Tryz.underlying43 hd with⟨_,hx⟩|⟨bm,es,clock,n,_,hcs,hb,_,F,hx⟩
 ·cases (congrArg Prod.fst hx)
 ·have hc0:cs[0]? =some (.map (some bm)):=by rw[<-Array.getElem?_toList,hcs];rfl
  refine⟨bm,es,clock,by rw[hcell];exact hc0,(Array.getElem?_eq_some_iff.1 hb).1,hb,fun p W' hp hW'=>?_⟩;have hkey:keyOf Tryz.prog 9 (.string p)=some (.string p.data.toList):=keyOf_string_mk Tryz.underlying9 (by unfold maxLen;omega);have hm:=congrArg Prod.fst hx
  dsimp only at hm
  rcases WideElems.fit_lookup (string_law Tryz.underlying9) Tryz.underlying43 (z:=.slice none 0 0) (w:=W') (by kernel_rfl) hW' F hkey with⟨hrun,hat⟩|⟨v,y,hrun,hR,hat,_⟩
  ·refine⟨_,hrun,?_⟩
   have hn:Lz.betterP p.data.toList=[]:=by
    have h1:=hat (.lit (.bool true));rw[<-hm,at_better]at h1;split at h1
    ·cases h1
    ·rename_i hno;exact better_no (fun e=>hno (.inl e)) (fun e=>hno (.inr (.inl e))) (fun e=>hno (.inr (.inr e)))
   rw[hn];exact⟨none,0,[],rfl,rfl,fun j x hj=>by simp at hj⟩
  ·refine⟨v,hrun,?_⟩
   have hy:y.1=.slice ((Lz.betterP p.data.toList).map fun x=>.lit (.string x)) []:=by
    have h1:=hat (.lit (.bool true));have h2:=hat .nil;rw[<-hm,at_better]at h1 h2;split at h1
    ·exact h1.symm
    ·rename_i hno;rw[if_neg hno]at h2;rw[<-h1]at h2;cases h2
   obtain⟨y1,y2⟩:=y
   dsimp only at hy
   subst hy;exact path_of_elem hR
theorem envM_of {W:World} (hH:EnvH W) (hU:EnvU W) {l:List (String×DataW Unit)} (h:laidMetH Tryz.prog l W) (m5:("lazaret/sources.keywords",Rows.laid_lazaret_sources_keywords)∈l) (m6:("lazaret/match.better",Rows.laid_lazaret_match_better)∈l):EnvM W:=
 ⟨⟨hH.ml,hH.pow,hH.syn,hH.rng,hH.et,kw_of_laid (laid_reads h m5 rfl),hH.size⟩,hU,better_of_laid (laid_reads h m6 rfl)⟩
theorem ownU:ownKnob Tryz.prog.godebug=none:=by kernel_rfl
theorem envU_row {W:World} (h:laidMetH Tryz.prog Rows.matchTextsRow.laid W) (hsh:W.ShapedOpen Tryz.prog):EnvU W:=
 envU_of_laid h hsh (.tail _ (.tail _ (.head _))) (.tail _ (.tail _ (.tail _ (.tail _ (.head _))))) (.tail _ (.tail _ (.tail _ (.tail _ (.tail _ (.head _)))))) (.tail _ (.tail _ (.tail _ (.tail _ (.tail _ (.tail _ (.head _))))))) (.tail _ (.head _)) (.tail _ (.tail _ (.tail _ (.tail _ (.tail _ (.tail _ (.tail _ (.tail _ (.tail _ (.head _)))))))))) (.tail _ (.tail _ (.tail _ (.head _))))
theorem envM_row {W:World} (h:laidMetH Tryz.prog Rows.matchTextsRow.laid W) (hsh:W.ShapedOpen Tryz.prog):EnvM W:=
 envM_of (envU_row h hsh).h (envU_row h hsh) h (.tail _ (.tail _ (.tail _ (.tail _ (.tail _ (.tail _ (.tail _ (.head _)))))))) (.tail _ (.tail _ (.tail _ (.tail _ (.tail _ (.tail _ (.tail _ (.tail _ (.head _)))))))))
def cellsOfPinned:DataW Unit->Array Value
 | .agg l=>(l.filterMap fun| .lit (.int k z)=>some (Value.int k z)|_=>none).toArray
 | _=> #[]
noncomputable def startU (os:Os):World:=
 {World.doorLaid Tryz.prog 100 os with heap:=(World.doorLaid Tryz.prog 100 os).heap.modify 4 fun
  | .cells _ t frozen=>.cells (cellsOfPinned Rows.laid_unicode_utf8_first) t frozen
  | o=>o}
theorem metU (os:Os) (args:Array Value):laidMetH Tryz.prog Rows.matchTextsRow.laid ((startU os).forCall (fun _ _=>0) ⟨#[],args,[]⟩).memory:=
 laidMetH_of_parts3 (fuel:=8) (laidMet_of_run' 8 (by kernel_rfl) (by kernel_rfl)) (by kernel_rfl) (by kernel_rfl)
theorem andI {a b:Bool} (h1:a=true) (h2:b=true):(a&&b)=true:=by rw[h1,h2];rfl
theorem mayU:Tryz.prog.mayEnter=true:=by kernel_rfl
theorem liftU:(Rows.matchTextsRow.lifted==Tryz.prog.liftsFinal)=true:=by kernel_rfl
theorem makeU:(Tryz.prog.make==some Rows.matchTextsRow.make)=true:=by kernel_rfl
theorem mapsU:mapsRowed Tryz.prog=true:=by kernel_rfl
theorem keysU:(Rows.matchTextsRow.plainKeys==Tryz.prog.plainKeys)=true:=by kernel_rfl
theorem heardU:Tryz.prog.stopsHeard=true:=by kernel_rfl
end Go.Proofs.YtfepgodjaeddgaaGreatDoor
namespace Lz
open Go
def hexDigs:Bs:=[48,49,50,51,52,53,54,55,56,57,97,98,99,100,101,102]
def hexHit (k:Nat) (c:UInt8):Bool:=hexDigs.getD k 0==c||(65<=c&&c<=90&&hexDigs.getD k 0==c+32)
theorem hexV_find:∀c:UInt8,hexV c=(List.range 16).find? fun k=>hexHit k c:=byte_all (by decide +kernel)
theorem hexV_at {c:UInt8} {k:Nat} (hk:k<16) (h:hexHit k c=true) (hno:∀i,i<k->hexHit i c=false):hexV c=some k:=by
 rw[hexV_find,List.find?_eq_some_iff_getElem];refine⟨h,k,by simpa using hk,by simp,fun j hj=>?_⟩
 simp[hno j hj]
theorem hexV_no {c:UInt8} (hno:∀i,i<16->hexHit i c=false):hexV c=none:=by
 rw[hexV_find,List.find?_eq_none];intro i hi;have:=hno i (by simpa using hi)
 simp[this]
end Lz
namespace Go.Proofs.YtfepgodjaeddgaaGreatDoor
open Go.RowKit
def RHex02 (o:Option Nat) (w:World) (e:Ending) (w':World):Prop:=e=.returned (.tuple #[.int .i64 ((o.getD 0:Nat):Int),.bool o.isSome])/\w=w'
theorem digAt:∀k:Fin 16,(⟨#[48,49,50,51,52,53,54,55,56,57,97,98,99,100,101,102]⟩:ByteArray)[k.val]'(show k.val<16 from k.isLt)=Lz.hexDigs.getD k.val 0:=by decide +kernel
theorem digAtN (k:Nat) (h:k<16) {h':k<(⟨#[48,49,50,51,52,53,54,55,56,57,97,98,99,100,101,102]⟩:ByteArray).size}:(⟨#[48,49,50,51,52,53,54,55,56,57,97,98,99,100,101,102]⟩:ByteArray)[k]'h'=Lz.hexDigs.getD k 0:=digAt ⟨k,h⟩
theorem Hex02_any (c:UInt8) (w:World):Calls Tryz.prog 51 #[.int .u8 (c.toNat:Int)] w (RHex02 (Lz.hexV c) w):=by
 have hcb:=byte_lt c;go_enter Tryz.func51,Tryz.ntmps51
 go_wp2_with fail
 go_loopw [5] (fun i wr=>∃k:Nat,i=.int .i64 k/\k<=16/\Hid (∀j,j<k->Lz.hexHit j c=false)/\w=wr) (fun i _=>16-(intOf i).toNat)
 case atStart=>exact⟨0,rfl,by omega,Ih (fun j hj=>absurd hj (by omega)),rfl⟩
 case round=>
  obtain⟨k,rfl,hk,hno,rfl⟩:=hrel;by_cases hlt:k<16
  ·have hltI:(k:Int)<16:=by omega
   have hk0:(0:Int)<=(k:Int):=by omega
   obtain⟨e,he⟩:∃e,e=Lz.hexDigs.getD k 0:=⟨_,rfl⟩;have hdg:∀h',((⟨#[48,49,50,51,52,53,54,55,56,57,97,98,99,100,101,102]⟩:ByteArray)[k]'h')=e:=fun h'=>by rw[he];exact digAtN k hlt
   obtain⟨q,hq⟩:∃q,q=Lz.hexHit k c:=⟨_,rfl⟩;have Hq:=Ih (show q=(e==c||(65<=c&&c<=90&&e==c+32)) by rw[hq,he];rfl);have Hq2:=Ih hq;have h1:=beqI e c;clear he hq
   go_upto_region 5 with fail
   go_cut [32] (fun s wx=>s=.bool q/\w=wx)
   case first=>
    by_cases hb1:e=c
    ·have hb1I:((e.toNat:Int)==(c.toNat:Int))=true:=h1.trans (by simp[hb1]);have HQ:Hid (q=true):=by show _=_;rw[Hq.out,hb1];simp
     clear hb1 h1
     go_wp2_with fail
     go_meet;exact⟨by rw[HQ.out],rfl⟩
    ·have hb1I:((e.toNat:Int)==(c.toNat:Int))=false:=h1.trans (by simpa using hb1);have hb1B:(e==c)=false:=by simpa using hb1
     clear hb1 h1;by_cases h65:65<=(c.toNat:Int)
     ·have d65:decide ((65:UInt8)<=c)=true:=by rw[decide_eq_true_eq,UInt8.le_iff_toNat_le];show 65<=_;omega
      have e65:=decide_eq_true h65;by_cases h90:(c.toNat:Int)<=90
      ·have d90:decide (c<=(90:UInt8))=true:=by rw[decide_eq_true_eq,UInt8.le_iff_toNat_le];show _<=90;omega
       have e90:=decide_eq_true h90;have hcn:(c+32).toNat=c.toNat+32:=by rw[UInt8.toNat_add];show(c.toNat+32)%256=_;omega
       have hw:IntKind.u8.wrap ((c.toNat:Int)+32)=((c+32:UInt8).toNat:Int):=by rw[hcn,IntWalk.u8_in _ (by omega)];omega
       have hw2:(c.toNat:Int)+32=((c+32:UInt8).toNat:Int):=by rw[hcn];omega
       obtain⟨c2,hc2⟩:∃c2,c2=c+32:=⟨_,rfl⟩;rw[<-hc2]at hw hw2;have h2:=beqI e c2;have hcb2:=byte_lt c2;have HQ:Hid (q=(e==c2)):=by show _=_;rw[Hq.out,hb1B,d65,d90,<-hc2];simp
       clear hc2 hcn;cases hx:(e==c2)
       ·rw[hx]at h2;have HQ2:Hid (q=false):=by show _=_;rw[HQ.out,hx]
        clear hx
        go_wp2_with fail
        go_meet;exact⟨by rw[HQ2.out],rfl⟩
       ·rw[hx]at h2;have HQ2:Hid (q=true):=by show _=_;rw[HQ.out,hx]
        clear hx
        go_wp2_with fail
        go_meet;exact⟨by rw[HQ2.out],rfl⟩
      ·have e90:=decide_eq_false h90
       have HQ:Hid (q=false):=by
        show _=_;rw[Hq.out,hb1B,show decide (c<=(90:UInt8))=false by rw[decide_eq_false_iff_not,UInt8.le_iff_toNat_le];show ¬_<=90;omega];simp
       go_wp2_with fail
       go_meet;exact⟨by rw[HQ.out],rfl⟩
     ·have e65:=decide_eq_false h65
      have HQ:Hid (q=false):=by
       show _=_;rw[Hq.out,hb1B,show decide ((65:UInt8)<=c)=false by rw[decide_eq_false_iff_not,UInt8.le_iff_toNat_le];show ¬65<=_;omega];simp
      go_wp2_with fail
      go_meet;exact⟨by rw[HQ.out],rfl⟩
   case rest=>
   obtain⟨rfl,rfl⟩:=hcut;cases q
   ·go_wp2_with fail
    go_roundw
    case rel=>
     refine⟨k+1,by go_num,by omega,?_,trivial⟩;show ∀j,j<k+1->_;intro j hj;rcases Nat.lt_or_ge j k with h|h
     ·exact hno.out j h
     ·rw[show j=k by omega];exact Hq2.out.symm
    case measure=>simp[intOf];omega
   ·have HV:Hid (Lz.hexV c=some k):=Ih (Lz.hexV_at hlt Hq2.out.symm hno.out)
    go_wp2_with fail
    go_ret2
    rw[HV.out];exact⟨rfl,rfl⟩
  ·have hltI:¬(k:Int)<16:=by omega
   have HV:Hid (Lz.hexV c=none):=Ih (Lz.hexV_no (fun i hi=>hno.out i (by omega)))
   go_wp2_with fail
   go_ret2
   rw[HV.out];exact⟨rfl,rfl⟩
attribute [local go_sem ↓] Go.wp_at_zero Go.wp_at_succ
attribute [local go_sem ↓] Go.wp_at_zero Go.wp_at_succ
end Go.Proofs.YtfepgodjaeddgaaGreatDoor
namespace Lz
open Go
theorem splitC_ht (k:UInt8) (l:Bs):∃h t,splitC k l=h::t:=by
 cases l with
 | nil=>exact⟨[],[],rfl⟩
 | cons b r=>
   simp only[splitC];split
   ·exact⟨_,_,rfl⟩
   ·split
    ·exact⟨_,_,rfl⟩
    ·exact⟨_,_,rfl⟩
theorem splitC_snoc (k c:UInt8):∀p:Bs,splitC k (p++[c])=if c==k then splitC k p++[[]]else(splitC k p).dropLast++[(splitC k p).getLastD []++[c]]
 | []=>by
   show splitC k [c]=_;simp only[splitC];split<;>rfl
 | b::l=>by
   have ih:=splitC_snoc k c l;obtain⟨h,t,e⟩:=splitC_ht k l;rw[e]at ih;show splitC k (b::(l++[c]))=_;by_cases hb:(b==k)=true
   ·rw[splitC,if_pos hb,ih,splitC,if_pos hb,e];split
    ·rfl
    ·cases t<;>rfl
   ·rw[splitC,if_neg hb,ih,splitC,if_neg hb,e];by_cases hc:(c==k)=true
    ·rw[if_pos hc,if_pos hc];rfl
    ·rw[if_neg hc,if_neg hc];cases t<;>rfl
theorem set_last {xs:List ByteArray} {m:Nat} {y z:ByteArray} {c:UInt8} (hm:xs.length=m+1) (hy:xs[m]? =some y) (hz:z.data.toList=y.data.toList++[c]):
  (xs.set m z).map (·.data.toList)=(xs.map (·.data.toList)).dropLast++[(xs.map (·.data.toList)).getLastD []++[c]]:=by
 rcases List.eq_nil_or_concat xs with rfl|⟨r,x,rfl⟩
 ·simp at hm
 ·rw[List.concat_eq_append]at hm hy⊢;have hr:m=r.length:=by simp at hm;omega
  subst hr;have hx:x=y:=by simpa using hy
  subst hx
  simp[hz]
end Lz
namespace Go.Proofs.YtfepgodjaeddgaaGreatDoor
open Go.RowKit
attribute [local go_sem ↓] Go.wp_at_zero Go.wp_at_succ
theorem extract_oneM {s:ByteArray} {j:Nat} (h:j<s.size):(s.extract j (j+1)).data.toList=[s[j]]:=by
 have hg:=get_of_lt h;have hl:j<s.data.toList.length:=h;rw[Lib.extract_data,show j+1-j=1 by omega,List.drop_eq_getElem_cons hl];rw[List.getElem?_eq_getElem hl]at hg;rw[Option.some.inj hg];rfl
def RCut (l:List (List UInt8)) (w:World) (e:Ending) (w':World):Prop:=
 ∃(v:Value) (xs:List ByteArray),e=.returned v/\Hid (xs.map (·.data.toList)=l)/\w'.ownsRow w.heap.size 9 1 v xs.length (xs.map Value.string)/\Below w.heap.size w w'
attribute [local go_sem ↓] Go.wp_at_zero Go.wp_at_succ
attribute [local go_sem ↓] Go.wp_at_zero Go.wp_at_succ
theorem Parts26_any (s:ByteArray) (hs:s.size<=1000000) (w:World):Calls Tryz.prog 27 #[.string s] w (RCut (Lz.splitC 47 s.data.toList) w):=by
 obtain⟨i0,hi,hz0,hz1,hz2⟩:=info_parts infoStr
 have h0:(w.alloc (.cells #[.string ⟨#[]⟩] 9)).ownsRow w.heap.size 9 1 (.slice (some ⟨w.heap.size,0,none⟩) 1 1) 1 (([⟨#[]⟩]:List ByteArray).map Value.string):=
  World.ownsRow_lit w #[.string ⟨#[]⟩] 1 (Nat.le_refl _) (by unfold maxLen;omega) rfl
 have hb0:Below w.heap.size w (w.alloc (.cells #[.string ⟨#[]⟩] 9)):=(Below.refl _ w).alloc (Nat.le_refl _) _;have H0:=Ih h0;have HB0:=Ih hb0;clear h0 hb0;go_enter Tryz.func27,Tryz.ntmps27
 go_wp2_with fail
 go_loopw [3,4] (fun v i wr=>∃(j:Nat) (xs:List ByteArray),j<=s.size/\i=.int .i64 j/\Hid (xs.map (·.data.toList)=Lz.splitC 47 (s.data.toList.take j))/\wr.ownsRow w.heap.size 9 1 v xs.length (xs.map Value.string)/\xs.length<=j+1/\(∀x∈xs,x.size<=j)/\Below w.heap.size w wr) (fun _ i _=>s.size-(intOf i).toNat)
 case atStart=>exact⟨0,[⟨#[]⟩],Nat.zero_le _,rfl,Ih rfl,H0.out,Nat.le_refl _,by intro x hx;rw[List.mem_singleton.1 hx];exact Nat.le_refl _,HB0.out⟩
 case round=>
  obtain⟨j,xs,hj,rfl,hxs,hown,hxl,hxz,hb⟩:=hrel;by_cases hlt:j<s.size
  ·have hltI:(j:Int)<(s.size:Int):=by omega
   have hj0:(0:Int)<=(j:Int):=by omega
   obtain⟨c,hc⟩:∃c,c=s[j]:=⟨_,rfl⟩;have hcI:(s[j].toNat:Int)=(c.toNat:Int):=by rw[hc]
   have hst:=Lz.splitC_snoc 47 c (s.data.toList.take j);have htk:s.data.toList.take (j+1)=s.data.toList.take j++[c]:=by rw[List.take_add_one,get_of_lt hlt,<-hc];rfl
   rw[<-htk,<-hxs.out]at hst;have Hst:=Ih hst;have hck:((c.toNat:Int)==47)=(c==47):=beqI c 47;have Hown:=Ih hown;have Hxz:=Ih hxz;have hsz:=hb.size;have Hc:=Ih hc;clear hc htk hst hown hxz;cases hq:(c==47)
   ·rw[hq]at hck;have HN:=Ih hq;clear hq
    have HN2:Hid (Lz.splitC 47 (s.data.toList.take (j+1))=(xs.map (·.data.toList)).dropLast++[(xs.map (·.data.toList)).getLastD []++[c]]):=by
     show _=_;rw[Hst.out,HN.out,if_neg (by decide)]
    obtain⟨m,hm⟩:∃m,xs.length=m+1:=by
     obtain⟨h',t,e⟩:=Lz.splitC_ht 47 (s.data.toList.take j);have h:=congrArg List.length hxs.out;rw[e,List.length_map,List.length_cons]at h;exact⟨_,h⟩
    obtain⟨y,hy⟩:∃y,xs[m]? =some y:=⟨_,List.getElem?_eq_getElem (by omega)⟩;have hyz:=Hxz.out y (List.mem_of_getElem? hy)
    obtain⟨g,cap,rfl⟩:∃g cap,u3=.slice (some ⟨g,0,none⟩) xs.length cap:=by
     rcases Hown.out.2 with⟨_,h0⟩|⟨g,cap,cur,h,_⟩
     ·omega
     ·exact⟨g,cap,h⟩
    have hcell:wr.cell? ⟨g,m,none⟩=some (.string y):=by
     rw[Hown.out.cellAt m (by omega),List.getElem?_map,hy];rfl
    have hcD:wr.drew.cell? ⟨g,m,none⟩=some (.string y):=hcell;have hfr:wr.drew.frozen? ⟨g,m,none⟩=false:=Hown.out.frozenAt m;have hset:=(Hown.out.drew.stored m (.string (y++s.extract j (j+1)))).1;rw[<-List.map_set]at hset;have hgl:=(Hown.out.lt g rfl).1;have hzs:(y++s.extract j (j+1)).size<=j+1:=by rw[<-len_of_size,append_data',extract_oneM hlt];simp;omega
    have hxset:Hid ((xs.set m (y++s.extract j (j+1))).map (·.data.toList)=Lz.splitC 47 (s.data.toList.take (j+1))):=by
     show _=_;rw[HN2.out];exact Lz.set_last hm hy (by rw[append_data',extract_oneM hlt,<-Hc.out])
    have Hset:=Ih hset;have hw1:IntKind.i64.wrap ((xs.length:Int)-1)=(m:Int):=by rw[show(xs.length:Int)-1=(m:Int) by omega];exact IntWalk.i64_in _ (by omega)
    have hm0:(0:Int)<=(m:Int):=by omega
    have hmn:(m:Int)<(xs.length:Int):=by omega
    have hno:¬(9223372036854775807<y.size+(min (j+1) s.size-j)):=by omega
    have hw2:IntKind.i64.wrap ((j:Int)+1)=(j:Int)+1:=IntWalk.i64_in _ (by omega);have hj1:(j:Int)+1<=(s.size:Int):=by omega
    have hj2:(j:Int)<=(j:Int)+1:=by omega
    have hj3:(0:Int)<=(j:Int)+1:=by omega
    have Hm:=Ih hm;have Hy:=Ih hy;clear hset HN2 hm hy hxs hcell
    go_upto_region 7 with fail
    go_still_tail 17,(by kernel_rfl)
    change wpList _ _ _ _ _ wr.drew;have hbD:=hb.drew;generalize wr.drew=w2 at hcD hfr Hset hbD⊢;generalize y++s.extract j (j+1)=z at hxset Hset hzs⊢
    go_wp2_with fail
    go_roundw
    case rel=>
     refine⟨j+1,xs.set m z,by omega,by go_num,hxset.out,?_,by simp;omega,?_,hbD.setCell hgl _⟩
     ·have:=Hset.out
      rwa [List.length_set]
     ·intro x hx;rcases List.mem_or_eq_of_mem_set hx with h|h
      ·exact Nat.le_succ_of_le (Hxz.out x h)
      ·rw[h];exact hzs
    case measure=>simp[intOf];omega
   ·rw[hq]at hck
    have HN:Hid (Lz.splitC 47 (s.data.toList.take (j+1))=(xs++[(⟨#[]⟩:ByteArray)]).map (fun x:ByteArray=>x.data.toList)):=by
     show _=_;rw[Hst.out,hq,if_pos rfl,List.map_append];rfl
    clear hq;have hst2:xs.map Value.string++[Value.string ⟨#[]⟩]=(xs++[(⟨#[]⟩:ByteArray)]).map Value.string:=by simp
    have Hst2:=Ih hst2;clear hst2
    go_wp2_with (at_builtin;refine wpList_append_own _ rfl (.tmp 16) (.tmp 17) 22 rfl w.heap.size 9 i0 (.string ⟨#[]⟩) 1 16 Tryz.underlying22 hi hz0 hz1 hz2 rfl (by decide) _ _ _ rfl (Hown.out.alloc _) ⟨wr.heap.size,0,none⟩ 1 1 [.string ⟨#[]⟩] rfl rfl (cell_one _ _ _) (by simp[Value.oneCell']) (by unfold maxLen;omega) (by omega) (by simp;omega) ?_)
    intro v' w3 hown' hgrow _;have hb3:=Below.grown1 hb Hown.out hgrow hsz (Nat.le_refl _);rw[Hst2.out]at hown';have Hown3:=Ih hown';clear hown' hgrow
    go_wp2
    go_roundw
    case rel=>
     refine⟨j+1,xs++[⟨#[]⟩],by omega,by go_num,by show _=_;rw[HN.out],?_,?_,?_,hb3⟩
     ·have:=Hown3.out
      rwa [show(xs++[(⟨#[]⟩:ByteArray)]).length=xs.length+1 by simp]
     ·simp;omega
     ·intro x hx;rcases List.mem_append.1 hx with h|h
      ·exact Nat.le_succ_of_le (Hxz.out x h)
      ·rw[List.mem_singleton.1 h];exact Nat.zero_le _
    case measure=>simp[intOf];omega
  ·have hjl:j=s.size:=by omega
   have hltI:¬(j:Int)<(s.size:Int):=by omega
   have HX:Hid (xs.map (·.data.toList)=Lz.splitC 47 s.data.toList):=by
    show _=_;rw[hxs.out,List.take_of_length_le (by rw[len_of_size];omega)]
   have Hown:=Ih hown;clear hown hjl hlt hxs
   go_wp2_with fail
   go_ret;exact⟨_,xs,rfl,HX,Hown.out,hb⟩
end Go.Proofs.YtfepgodjaeddgaaGreatDoor
namespace Lz
open Go
def pairP:Option Nat->Option Nat->Option UInt8
 | some x,some y=>some (UInt8.ofNat (16*x+y))
 | _,_=>none
theorem triple_at {l:Bs} {a b:UInt8} (h0:l[0]? =some 37) (h1:l[1]? =some a) (h2:l[2]? =some b):tripleP l=pairP (hexV a) (hexV b):=by
 match l,h0,h1,h2 with
 | c::d::e::r,h0,h1,h2=>
   obtain rfl:=Option.some.inj h0;obtain rfl:=Option.some.inj h1;obtain rfl:=Option.some.inj h2;simp only[tripleP];cases hexV d<;>cases hexV e<;>rfl
end Lz
namespace Go.Proofs.YtfepgodjaeddgaaGreatDoor
open Go.RowKit
theorem Decode06_any (s:ByteArray) (hs:s.size<=1000000000) (w:World):Calls Tryz.prog 28 #[.string s] w (RStr (Lz.decodeP s.data.toList) w):=by
 obtain⟨i0,hi,hz0,hz1,hz2⟩:=info_parts Tryz.infoU8;obtain⟨goal,hg⟩:∃goal,goal=Lz.decodeP s.data.toList:=⟨_,rfl⟩;have HG:=Ih hg;rw[<-hg];go_enter Tryz.func28,Tryz.ntmps28
 go_wp2_with fail
 go_loopw [3,4] (fun v i wr=>∃(acc:List UInt8) (k:Nat),k<=s.size/\i=.int .i64 k/\acc.length<=k/\Hid (goal=acc++Lz.decodeP (s.data.toList.drop k))/\wr.ownsRow w.heap.size 5 1 v acc.length (u8s acc)/\Below w.heap.size w wr) (fun _ i _=>s.size-(intOf i).toNat)
 case atStart=>exact⟨[],0,Nat.zero_le _,rfl,Nat.le_refl _,Ih (by rw[HG.out];rfl),World.ownsRow_nil _ _ _ _,Below.refl _ _⟩
 case round=>
  obtain⟨acc,k,hk,rfl,hacc,hG,hown,hb⟩:=hrel;have Hown:=Ih hown;have hsz:=hb.size;by_cases hlt:k<s.size
  ·have hltI:(k:Int)<(s.size:Int):=by omega
   have hk0:(0:Int)<=(k:Int):=by omega
   obtain⟨c,hc⟩:∃c,c=s[k]:=⟨_,rfl⟩;have hcI:(s[k].toNat:Int)=(c.toNat:Int):=by rw[hc]
   have hcb:=byte_lt c;have hc0:(s.data.toList.drop k)[0]? =some c:=by rw[List.getElem?_drop,Nat.add_zero,get_of_lt hlt,hc]
   have Hst:Hid (u8s acc++[.int .u8 (c.toNat:Int)]=u8s (acc++[c])):=Ih (by rw[u8s_snoc]);have b37:((c.toNat:Int)==37)=(c==37):=beqU c 37;by_cases h37:c=37
   ·have q37:((c.toNat:Int)==37)=true:=by rw[b37,h37];rfl
    clear b37;by_cases h2:k+2<s.size
    ·have h2I:(k:Int)+2<(s.size:Int):=by omega
     have h1I:(k:Int)+1<(s.size:Int):=by omega
     have h10:(0:Int)<=(k:Int)+1:=by omega
     have h20:(0:Int)<=(k:Int)+2:=by omega
     have hk1:k+1<s.size:=by omega
     obtain⟨a,ha⟩:∃a,a=s[k+1]:=⟨_,rfl⟩;obtain⟨b,hbb⟩:∃b,b=s[k+2]:=⟨_,rfl⟩;have haI:(s[k+1].toNat:Int)=(a.toNat:Int):=by rw[ha]
     have hbI:(s[k+2].toNat:Int)=(b.toNat:Int):=by rw[hbb]
     have hT0:Lz.tripleP (s.data.toList.drop k)=Lz.pairP (Lz.hexV a) (Lz.hexV b):=Lz.triple_at (by rw[hc0,h37]) (by rw[List.getElem?_drop,get_of_lt hk1,ha]) (by rw[List.getElem?_drop,get_of_lt h2,hbb]);clear ha hbb;have cA:=Hex02_any a;have cB:=Hex02_any b;have hxa:=Lz.hexV_lt16 a;have hxb:=Lz.hexV_lt16 b;generalize Lz.hexV a=x at cA hT0 hxa;generalize Lz.hexV b=y at cB hT0 hxb;cases x with
     | none=>
       have hT:Lz.tripleP (s.data.toList.drop k)=none:=hT0;obtain⟨n2,hn2⟩:∃n,n=((y.getD 0:Nat):Int):=⟨_,rfl⟩;obtain⟨t2,ht2⟩:∃t,t=y.isSome:=⟨_,rfl⟩;have CA:Hid (∀W,Calls Tryz.prog 51 #[.int .u8 (a.toNat:Int)] W fun e w'=>e=.returned (.tuple #[.int .i64 0,.bool false])/\W=w'):=Ih cA;have CB:Hid (∀W,Calls Tryz.prog 51 #[.int .u8 (b.toNat:Int)] W fun e w'=>e=.returned (.tuple #[.int .i64 n2,.bool t2])/\W=w'):=Ih (by rw[hn2,ht2];exact cB);clear cA cB hT0 hxa hxb hn2 ht2 h37
       go_wp2_with fail
       refine(CA.out _).mono ?_;rintro _ w1 ⟨rfl,rfl⟩
       go_wp2_with fail
       refine(CB.out _).mono ?_;rintro _ w1 ⟨rfl,rfl⟩;have HN:Hid (goal=acc++[c]++Lz.decodeP (s.data.toList.drop (k+1))):=Ih (by rw[hG.out,Lz.decode_none hc0 hT,List.drop_drop];simp);clear hT hc0 hc hG HG hg hown
       go_wp2_with (at_builtin;refine wpList_append_own _ rfl (.tmp 56) (.tmp 60) 35 rfl w.heap.size 5 i0 (.int .u8 0) 1 1 Tryz.underlying35 hi hz0 hz1 hz2 rfl (by decide) _ _ _ rfl (Hown.out.alloc _) ⟨wr.heap.size,0,none⟩ 1 1 [.int .u8 (c.toNat:Int)] rfl rfl (cell_one _ _ _) (by simp[Value.oneCell']) (by unfold maxLen;omega) (by omega) (by simp;omega) ?_)
       intro v' w1 hown' hgrow _;have hb1:=Below.grown1 hb Hown.out hgrow hsz (Nat.le_refl _);rw[Hst.out]at hown';have Hown1:=Ih hown';clear hown' hgrow Hst hb
       go_wp2_with fail
       go_roundw
       case rel=>exact⟨acc++[c],k+1,by omega,by go_num,by simp;omega,HN,by rw[List.length_append];exact Hown1.out,hb1⟩
       case measure=>simp[intOf];omega
     | some x=>
       cases y with
       | none=>
         have hT:Lz.tripleP (s.data.toList.drop k)=none:=hT0;have CA:Hid (∀W,Calls Tryz.prog 51 #[.int .u8 (a.toNat:Int)] W fun e w'=>e=.returned (.tuple #[.int .i64 (x:Int),.bool true])/\W=w'):=Ih cA;have CB:Hid (∀W,Calls Tryz.prog 51 #[.int .u8 (b.toNat:Int)] W fun e w'=>e=.returned (.tuple #[.int .i64 0,.bool false])/\W=w'):=Ih cB;clear cA cB hT0 hxa hxb h37
         go_wp2_with fail
         refine(CA.out _).mono ?_;rintro _ w1 ⟨rfl,rfl⟩
         go_wp2_with fail
         refine(CB.out _).mono ?_;rintro _ w1 ⟨rfl,rfl⟩;have HN:Hid (goal=acc++[c]++Lz.decodeP (s.data.toList.drop (k+1))):=Ih (by rw[hG.out,Lz.decode_none hc0 hT,List.drop_drop];simp);clear hT hc0 hc hG HG hg hown
         go_wp2_with (at_builtin;refine wpList_append_own _ rfl (.tmp 56) (.tmp 60) 35 rfl w.heap.size 5 i0 (.int .u8 0) 1 1 Tryz.underlying35 hi hz0 hz1 hz2 rfl (by decide) _ _ _ rfl (Hown.out.alloc _) ⟨wr.heap.size,0,none⟩ 1 1 [.int .u8 (c.toNat:Int)] rfl rfl (cell_one _ _ _) (by simp[Value.oneCell']) (by unfold maxLen;omega) (by omega) (by simp;omega) ?_)
         intro v' w1 hown' hgrow _;have hb1:=Below.grown1 hb Hown.out hgrow hsz (Nat.le_refl _);rw[Hst.out]at hown';have Hown1:=Ih hown';clear hown' hgrow Hst hb
         go_wp2_with fail
         go_roundw
         case rel=>exact⟨acc++[c],k+1,by omega,by go_num,by simp;omega,HN,by rw[List.length_append];exact Hown1.out,hb1⟩
         case measure=>simp[intOf];omega
       | some y=>
         have hT:Lz.tripleP (s.data.toList.drop k)=some (UInt8.ofNat (16*x+y)):=hT0;have hx16:=hxa x rfl;have hy16:=hxb y rfl;have CA:Hid (∀W,Calls Tryz.prog 51 #[.int .u8 (a.toNat:Int)] W fun e w'=>e=.returned (.tuple #[.int .i64 (x:Int),.bool true])/\W=w'):=Ih cA;have CB:Hid (∀W,Calls Tryz.prog 51 #[.int .u8 (b.toNat:Int)] W fun e w'=>e=.returned (.tuple #[.int .i64 (y:Int),.bool true])/\W=w'):=Ih cB;obtain⟨d,hd⟩:∃d,d=UInt8.ofNat (16*x+y):=⟨_,rfl⟩;have hdn:d.toNat=16*x+y:=by rw[hd];show(16*x+y)%256=_;omega
         rw[<-hd]at hT;have hwr:IntKind.u8.wrap (16*(x:Int)+(y:Int))=(d.toNat:Int):=by rw[IntWalk.u8_in _ (by omega)];omega
         have HN:Hid (goal=acc++[d]++Lz.decodeP (s.data.toList.drop (k+3))):=Ih (by rw[hG.out,(Lz.decode_some hT).1,List.drop_drop];simp);have Hst:Hid (u8s acc++[.int .u8 (d.toNat:Int)]=u8s (acc++[d])):=Ih (by rw[u8s_snoc]);clear cA cB hT0 hxa hxb hT hc0 hc hG HG hg hown hd hdn h37
         go_wp2_with fail
         refine(CA.out _).mono ?_;rintro _ w1 ⟨rfl,rfl⟩
         go_wp2_with fail
         refine(CB.out _).mono ?_;rintro _ w1 ⟨rfl,rfl⟩
         go_wp2_with (at_builtin;refine wpList_append_own _ rfl (.tmp 46) (.tmp 52) 35 rfl w.heap.size 5 i0 (.int .u8 0) 1 1 Tryz.underlying35 hi hz0 hz1 hz2 rfl (by decide) _ _ _ rfl (Hown.out.alloc _) ⟨wr.heap.size,0,none⟩ 1 1 [.int .u8 (d.toNat:Int)] rfl rfl (cell_one _ _ _) (by simp[Value.oneCell']) (by unfold maxLen;omega) (by omega) (by simp;omega) ?_)
         intro v' w1 hown' hgrow _;have hb1:=Below.grown1 hb Hown.out hgrow hsz (Nat.le_refl _);rw[Hst.out]at hown';have Hown1:=Ih hown';clear hown' hgrow Hst hb
         go_wp2_with fail
         go_roundw
         case rel=>exact⟨acc++[d],k+3,by omega,by go_num,by simp;omega,HN,by rw[List.length_append];exact Hown1.out,hb1⟩
         case measure=>simp[intOf];omega
    ·have h2I:¬(k:Int)+2<(s.size:Int):=by omega
     have hT:Lz.tripleP (s.data.toList.drop k)=none:=triple_short (by rw[List.length_drop,len_of_size];omega);clear h37;have HN:Hid (goal=acc++[c]++Lz.decodeP (s.data.toList.drop (k+1))):=Ih (by rw[hG.out,Lz.decode_none hc0 hT,List.drop_drop];simp);clear hT hc0 hc hG HG hg hown
     go_wp2_with (at_builtin;refine wpList_append_own _ rfl (.tmp 56) (.tmp 60) 35 rfl w.heap.size 5 i0 (.int .u8 0) 1 1 Tryz.underlying35 hi hz0 hz1 hz2 rfl (by decide) _ _ _ rfl (Hown.out.alloc _) ⟨wr.heap.size,0,none⟩ 1 1 [.int .u8 (c.toNat:Int)] rfl rfl (cell_one _ _ _) (by simp[Value.oneCell']) (by unfold maxLen;omega) (by omega) (by simp;omega) ?_)
     intro v' w1 hown' hgrow _;have hb1:=Below.grown1 hb Hown.out hgrow hsz (Nat.le_refl _);rw[Hst.out]at hown';have Hown1:=Ih hown';clear hown' hgrow Hst hb
     go_wp2_with fail
     go_roundw
     case rel=>exact⟨acc++[c],k+1,by omega,by go_num,by simp;omega,HN,by rw[List.length_append];exact Hown1.out,hb1⟩
     case measure=>simp[intOf];omega
   ·have q37:((c.toNat:Int)==37)=false:=by rw[b37];exact beq_eq_false_iff_ne.2 h37
    have hT:Lz.tripleP (s.data.toList.drop k)=none:=triple_other hc0 (beq_eq_false_iff_ne.2 h37);clear b37 h37;have HN:Hid (goal=acc++[c]++Lz.decodeP (s.data.toList.drop (k+1))):=Ih (by rw[hG.out,Lz.decode_none hc0 hT,List.drop_drop];simp);clear hT hc0 hc hG HG hg hown
    go_wp2_with (at_builtin;refine wpList_append_own _ rfl (.tmp 56) (.tmp 60) 35 rfl w.heap.size 5 i0 (.int .u8 0) 1 1 Tryz.underlying35 hi hz0 hz1 hz2 rfl (by decide) _ _ _ rfl (Hown.out.alloc _) ⟨wr.heap.size,0,none⟩ 1 1 [.int .u8 (c.toNat:Int)] rfl rfl (cell_one _ _ _) (by simp[Value.oneCell']) (by unfold maxLen;omega) (by omega) (by simp;omega) ?_)
    intro v' w1 hown' hgrow _;have hb1:=Below.grown1 hb Hown.out hgrow hsz (Nat.le_refl _);rw[Hst.out]at hown';have Hown1:=Ih hown';clear hown' hgrow Hst hb
    go_wp2_with fail
    go_roundw
    case rel=>exact⟨acc++[c],k+1,by omega,by go_num,by simp;omega,HN,by rw[List.length_append];exact Hown1.out,hb1⟩
    case measure=>simp[intOf];omega
  ·have hltI:¬(k:Int)<(s.size:Int):=by omega
   have hcv:=conv_own hown;have HN:Hid (acc=goal):=Ih (by rw[hG.out,List.drop_eq_nil_of_le (by rw[len_of_size];omega),show Lz.decodeP []=[] by unfold Lz.decodeP;rfl,List.append_nil]);clear hown Hown hG HG hg
   go_wp2_with fail
   go_ret;exact⟨_,rfl,by rw[<-HN.out];rfl,hb⟩
attribute [local go_sem ↓] Go.wp_at_zero Go.wp_at_succ
theorem cut_path {w:World} {B:Nat} {v:Value} {xs:List ByteArray} (h:w.ownsRow B 9 1 v xs.length (xs.map Value.string)):PathAt w v (xs.map (fun x:ByteArray=>x.data.toList)):=by
 obtain⟨a,c,e,_,hc⟩:=PathOwn.form (Or.inl h);exact⟨a,c,xs,e,rfl,hc⟩
theorem Path26_any (p u:ByteArray) (w:World) (hp:p.size<=100000) (hu:u.size<=100000):Calls Tryz.prog 12 #[.string p,.string u] w (RBool (Lz.pathM p.data.toList u.data.toList) w):=by
 obtain⟨R,hR⟩:∃R,R=Lz.pathR p.data.toList u.data.toList:=⟨_,rfl⟩;rw[<-Lz.pathR_eq,<-hR];obtain⟨q,hq⟩:∃q,q=decide (p.data.toList=[]\/(p.data.toList=[47]/\u.data.toList=[])):=⟨_,rfl⟩;have HV1:Hid (q=true->R=true):=Ih (fun h=>by rw[hR];unfold Lz.pathR;rw[if_pos (of_decide_eq_true (hq▸h))])
 have HV2:Hid (q=false->R=(if(Lz.splitC 47 u.data.toList).length<(Lz.splitC 47 p.data.toList).length then false else if p.data.toList.getLast? =some 47 then Lz.eqTo ((Lz.splitC 47 p.data.toList).length-1) (Lz.splitC 47 p.data.toList) (Lz.splitC 47 u.data.toList)else if(Lz.splitC 47 p.data.toList).length≠(Lz.splitC 47 u.data.toList).length then false else Lz.eqTo (Lz.splitC 47 u.data.toList).length (Lz.splitC 47 p.data.toList) (Lz.splitC 47 u.data.toList))):=Ih (fun h=>by
  rw[hR];unfold Lz.pathR;rw[if_neg (of_decide_eq_false (hq▸h))])
 have HQP:Hid (q=false->1<=p.size):=Ih (fun h=>by
  have:=of_decide_eq_false (hq▸h);have h2:¬p.size=0:=fun h0=>this (Or.inl (List.length_eq_zero_iff.1 (by rw[len_of_size];exact h0)));omega)
 have cS:=Ih (Parts26_any p (by omega) w);have cT:=Ih (fun W=>Parts26_any u (by omega) W);have Hq:=Ih hq;clear hR hq;go_enter Tryz.func12,Tryz.ntmps12
 go_upto_region 1 with fail
 go_cut [18] (fun s wx=>s=.bool q/\w=wx)
 case first=>
  by_cases h0:p.size=0
  ·have e1:p.toList.isEmpty=true:=isEmpty_of_size h0;have HQ:Hid (q=true):=by show _=_;rw[Hq.out];exact decide_eq_true (Or.inl (List.length_eq_zero_iff.1 (by rw[len_of_size];exact h0)))
   clear h0
   go_wp2_with fail
   go_meet;exact⟨by rw[HQ.out],rfl⟩
  ·have e1:p.toList.isEmpty=false:=isEmpty_of_pos (by omega);have e0:¬p.data.toList=[]:=fun h=>h0 (by rw[<-len_of_size,h];rfl);by_cases h1:p.data.toList=[47]
   ·have g1:=text_yes h1;by_cases h2:u.size=0
    ·have e2:u.toList.isEmpty=true:=isEmpty_of_size h2;have HQ:Hid (q=true):=by show _=_;rw[Hq.out];exact decide_eq_true (Or.inr ⟨h1,List.length_eq_zero_iff.1 (by rw[len_of_size];exact h2)⟩)
     clear h0 h1 h2 e0
     go_wp2_with fail
     go_meet;exact⟨by rw[HQ.out],rfl⟩
    ·have e2:u.toList.isEmpty=false:=isEmpty_of_pos (by omega);have HQ:Hid (q=false):=by show _=_;rw[Hq.out];exact decide_eq_false (fun h=>h.elim e0 (fun h=>h2 (by rw[<-len_of_size,h.2];rfl)))
     clear h0 h1 h2 e0
     go_wp2_with fail
     go_meet;exact⟨by rw[HQ.out],rfl⟩
   ·have g1:=text_no h1;have HQ:Hid (q=false):=by show _=_;rw[Hq.out];exact decide_eq_false (fun h=>h.elim e0 (fun h=>h1 h.1))
    clear h0 h1 e0
    go_wp2_with fail
    go_meet;exact⟨by rw[HQ.out],rfl⟩
 case rest=>
  obtain⟨rfl,rfl⟩:=hcut;cases q with
  | true=>
    go_wp2_with fail
    go_ret;exact⟨by rw[HV1.out (by simp)];rfl,Below.refl _ _⟩
  | false=>
    go_wp2_with fail
    refine cS.out.mono ?_;rintro e w1 ⟨v1,xs,rfl,hxs,ho1,hb1⟩
    go_wp2_with fail
    refine(cT.out _).mono ?_;rintro e w2 ⟨v2,ys,rfl,hys,ho2,hb2⟩;have hbw:Below w.heap.size w w2:=below_call hb1 hb2;have P1:=(cut_path ho1).below hb2;have P2:=cut_path ho2;have n1:1<=(Lz.splitC 47 p.data.toList).length:=List.length_pos_iff.2 (Lz.splitC_ne 47 _);have n2:1<=(Lz.splitC 47 u.data.toList).length:=List.length_pos_iff.2 (Lz.splitC_ne 47 _);have n3:=Lz.splitC_len 47 p.data.toList;have n4:=Lz.splitC_len 47 u.data.toList;rw[hxs.out]at P1;rw[hys.out]at P2;obtain⟨L1,hL1⟩:∃L1,L1=Lz.splitC 47 p.data.toList:=⟨_,rfl⟩;obtain⟨L2,hL2⟩:∃L2,L2=Lz.splitC 47 u.data.toList:=⟨_,rfl⟩
    have HZ1:Hid (∀x∈L1,x.length<=100000):=Ih (fun x hx=>by
     rw[hL1,<-hxs.out]at hx;obtain⟨y,hy,rfl⟩:=List.mem_map.1 hx;have:=piece_size hxs.out hy;rw[len_of_size];omega)
    have HZ2:Hid (∀x∈L2,x.length<=100000):=Ih (fun x hx=>by
     rw[hL2,<-hys.out]at hx;obtain⟨y,hy,rfl⟩:=List.mem_map.1 hx;have:=piece_size hys.out hy;rw[len_of_size];omega)
    rw[len_of_size,<-hL1]at n3;rw[len_of_size,<-hL2]at n4;rw[<-hL1]at n1 P1;rw[<-hL2]at n2 P2;have HR:=Ih (HV2.out (by simp));rw[<-hL1,<-hL2]at HR;have hp1:=HQP.out (by simp);clear hxs hys ho1 ho2 hb1 hb2 HV1 HV2 HQP cS cT Hq hL1 hL2;obtain⟨a1,c1,zs,rfl,rfl,hc1⟩:=P1;obtain⟨a2,c2,ts,rfl,rfl,hc2⟩:=P2;rw[List.length_map]at n1 n2 n3 n4;obtain⟨G1,o1,rfl,hG1,hj1⟩:=hc1 0 zs[0] (List.getElem?_eq_getElem (by omega));obtain⟨G2,o2,rfl,hG2,hj2⟩:=hc2 0 ts[0] (List.getElem?_eq_getElem (by omega));clear hj1 hj2
    have Hx1:Hid (∀(j:Nat) (x:ByteArray),zs[j]? =some x->w2.cell? ⟨G1,o1+j,none⟩=some (.string x)):=Ih (fun j x hj=>by
     obtain⟨G,o,e,_,hc⟩:=hc1 j x hj;injection e with e;injection e with e1 e2 _
     subst e1;subst e2;exact hc)
    have Hx2:Hid (∀(j:Nat) (x:ByteArray),ts[j]? =some x->w2.cell? ⟨G2,o2+j,none⟩=some (.string x)):=Ih (fun j x hj=>by
     obtain⟨G,o,e,_,hc⟩:=hc2 j x hj;injection e with e;injection e with e1 e2 _
     subst e1;subst e2;exact hc)
    clear hc1 hc2;obtain⟨n,hn⟩:∃n,n=zs.length:=⟨_,rfl⟩;obtain⟨m,hm⟩:∃m,m=ts.length:=⟨_,rfl⟩;rw[<-hn]at n1 n3;rw[<-hm]at n2 n4;have HN:=Ih hn;have HM:=Ih hm;rw[<-hn,<-hm];rw[List.length_map,List.length_map,<-hn,<-hm]at HR;clear hn hm;by_cases hnm:m<n
    ·have hI:(m:Int)<(n:Int):=by omega
     have HV:Hid (R=false):=by show _=_;rw[HR.out,if_pos hnm]
     clear hnm
     go_wp2_with fail
     go_ret;exact⟨by rw[HV.out];rfl,hbw⟩
    have hI:¬(m:Int)<(n:Int):=by omega
    obtain⟨c,hc⟩:∃c,c=p[p.size-1]:=⟨_,rfl⟩;obtain⟨z,hz⟩:∃z,z=(c==47):=⟨_,rfl⟩;have hlast:p.data.toList.getLast? =some c:=by rw[List.getLast?_eq_getElem?,len_of_size,get_of_lt (by omega),hc]
    have e47:((c.toNat:Int)==47)=z:=(beqI c 47).trans hz.symm;obtain⟨d,hd⟩:∃d,d=p.size-1:=⟨_,rfl⟩;have hdw:IntKind.i64.wrap ((p.size:Int)-1)=(d:Int):=by rw[show(p.size:Int)-1=(d:Int) by omega];exact IntWalk.i64_in _ (by omega)
    have hd0:(0:Int)<=(d:Int):=by omega
    have hd1:(d:Int)<(p.size:Int):=by omega
    have hdl:d<p.size:=by omega
    have hcI:((p[d]'hdl).toNat:Int)=(c.toNat:Int):=by rw[hc];simp only[hd]
    obtain⟨k1,hk1⟩:∃k1,k1=n-1:=⟨_,rfl⟩;have hkw:IntKind.i64.wrap ((n:Int)-1)=(k1:Int):=by rw[show(n:Int)-1=(k1:Int) by omega];exact IntWalk.i64_in _ (by omega)
    have HA:Hid (z=true->R=Lz.eqTo k1 (zs.map (fun x:ByteArray=>x.data.toList)) (ts.map (fun x:ByteArray=>x.data.toList))):=Ih (fun h=>by
     have:c=47:=by rw[h]at hz;exact beq_iff_eq.1 hz.symm
     rw[HR.out,if_neg hnm,if_pos (by rw[hlast,this]),hk1])
    have HB:Hid (z=false->n≠m->R=false):=Ih (fun h h2=>by
     have:¬c=47:=by rw[h]at hz;exact beq_eq_false_iff_ne.1 hz.symm
     rw[HR.out,if_neg hnm,if_neg (by rw[hlast];exact fun e=>this (Option.some.inj e)),if_pos h2])
    have HC:Hid (z=false->n=m->R=Lz.eqTo m (zs.map (fun x:ByteArray=>x.data.toList)) (ts.map (fun x:ByteArray=>x.data.toList))):=Ih (fun h h2=>by
     have:¬c=47:=by rw[h]at hz;exact beq_eq_false_iff_ne.1 hz.symm
     rw[HR.out,if_neg hnm,if_neg (by rw[hlast];exact fun e=>this (Option.some.inj e)),if_neg (by rw[h2];exact fun e=>e rfl)])
    have HK1:=Ih hk1;clear hlast hz hc hd HR hk1
    go_upto_if 35 with fail
    go_cut [7] (fun s wx=>∃k:Nat,s=.int .i64 k/\k<=n/\k<=m/\Hid (R=Lz.eqTo k (zs.map (fun x:ByteArray=>x.data.toList)) (ts.map (fun x:ByteArray=>x.data.toList)))/\w2=wx)
    case first=>
     cases z with
     | true=>
       have HV:=Ih (HA.out rfl)
       go_wp2_with fail
       go_meet;exact⟨k1,rfl,by have:=HK1.out;omega,by have:=HK1.out;omega,HV.out,rfl⟩
     | false=>
       by_cases hne:n=m
       ·have hnI:((n:Int) != (m:Int))=false:=by rw[hne];simp
        have HV:=Ih (HC.out rfl hne);have Hne:=Ih hne;clear hne
        go_wp2_with fail
        go_meet;exact⟨m,rfl,by have:=Hne.out;omega,Nat.le_refl _,HV.out,rfl⟩
       ·have hnI:((n:Int) != (m:Int))=true:=by simp;omega
        have HV:=Ih (HB.out rfl hne);clear hne
        go_wp2_with fail
        go_ret;exact⟨by rw[HV.out];rfl,hbw⟩
    case rest=>
     obtain⟨k,rfl,hkn,hkm,HV,rfl⟩:=hcut;clear HA HB HC HK1
     go_wp2_with fail
     go_loopw [8] (fun i wr=>∃j:Nat,i=.int .i64 j/\j<=k/\Hid (Lz.eqTo j (zs.map (fun x:ByteArray=>x.data.toList)) (ts.map (fun x:ByteArray=>x.data.toList))=true)/\Below w2.heap.size w2 wr) (fun i _=>k-(intOf i).toNat)
     case atStart=>exact⟨0,rfl,Nat.zero_le _,Ih rfl,Below.refl _ _⟩
     case round=>
      obtain⟨j,rfl,hj,hT,hbr⟩:=hrel;by_cases hlt:j<k
      ·have hltI:(j:Int)<(k:Int):=by omega
       have hj0:(0:Int)<=(j:Int):=by omega
       have hjn:(j:Int)<(n:Int):=by omega
       have hjm:(j:Int)<(m:Int):=by omega
       have hz1:j<zs.length:=by have:=HN.out;omega
       have hz2:j<ts.length:=by have:=HM.out;omega
       obtain⟨x,hx⟩:∃x,x=zs[j]:=⟨_,rfl⟩;obtain⟨y,hy⟩:∃y,y=ts[j]:=⟨_,rfl⟩;have hxg:zs[j]? =some x:=by rw[List.getElem?_eq_getElem hz1,hx]
       have hyg:ts[j]? =some y:=by rw[List.getElem?_eq_getElem hz2,hy]
       have hc1:=Hx1.out j x hxg;have hc2:=Hx2.out j y hyg
       have hC:Hid (∀V,Below wr.heap.size wr V->V.cell? ⟨G1,o1+j,none⟩=some (.string x)/\V.cell? ⟨G2,o2+j,none⟩=some (.string y)):=Ih (fun V hV=>by
        have h:=below_call hbr hV;exact⟨by rw[h.cell (p:=⟨G1,o1+j,none⟩) hG1];exact hc1,by rw[h.cell (p:=⟨G2,o2+j,none⟩) hG2];exact hc2⟩)
       have hxz:x.size<=100000:=by rw[<-len_of_size];exact HZ1.out _ (List.mem_map.2 ⟨x,List.mem_of_getElem? hxg,rfl⟩)
       have hyz:y.size<=100000:=by rw[<-len_of_size];exact HZ2.out _ (List.mem_map.2 ⟨y,List.mem_of_getElem? hyg,rfl⟩)
       have kX:Hid (∀V,Below wr.heap.size wr V->Calls Tryz.prog 28 #[.string x] V fun e w'=>∃t:ByteArray,e=.returned (.string t)/\Hid (t.data.toList=Lz.decodeP x.data.toList)/\Below wr.heap.size wr w'):=Ih (fun V hV=>(Decode06_any x (by omega) V).mono fun e w' ⟨t,h1,h2,h3⟩=>⟨t,h1,h2,below_call hV h3⟩);have kY:Hid (∀V,Below wr.heap.size wr V->Calls Tryz.prog 28 #[.string y] V fun e w'=>∃t:ByteArray,e=.returned (.string t)/\Hid (t.data.toList=Lz.decodeP y.data.toList)/\Below wr.heap.size wr w'):=Ih (fun V hV=>(Decode06_any y (by omega) V).mono fun e w' ⟨t,h1,h2,h3⟩=>⟨t,h1,h2,below_call hV h3⟩);have HS:=Ih (Lz.eqTo_step (a:=zs.map (fun x:ByteArray=>x.data.toList)) (b:=ts.map (fun x:ByteArray=>x.data.toList)) (x:=x.data.toList) (y:=y.data.toList) (by rw[List.getElem?_map,hxg];rfl) (by rw[List.getElem?_map,hyg];rfl));have hjw:IntKind.i64.wrap ((j:Int)+1)=(j:Int)+1:=IntWalk.i64_in _ (by omega);clear hx hy hxg hyg hc1 hc2 hz1 hz2
       go_upto_region 14 with fail
       refine wp_region_held_drew (S:=fun V=>(V.cell? ⟨G1,o1+j,none⟩=some (.string x)/\V.cell? ⟨G2,o2+j,none⟩=some (.string y))/\Below wr.heap.size wr V) (by kernel_rfl) ⟨hC.out _ (Below.refl _ _).drew,(Below.refl _ _).drew⟩ (fun hHeld=>?_);generalize wr.drew=W0 at hHeld⊢;refine TkD 0 (some 49) (v:=?_) rfl rfl ?_ ?_;rotate_left
       ·(intro W hSw;(try dsimp only at hSw);go_simp;try with_reducible rfl)
       (try simp only[Act.put,List.setIfInBounds_toArray,List.set_cons_zero,List.set_cons_succ])
       refine TkD 1 (some 50) (v:=?_) rfl rfl ?_ ?_;rotate_left
       ·(intro W hSw;(try dsimp only at hSw);go_simp;try with_reducible rfl)
       (try simp only[Act.put,List.setIfInBounds_toArray,List.set_cons_zero,List.set_cons_succ])
       refine TkD 2 (some 51) (v:=?_) rfl rfl ?_ ?_;rotate_left
       ·(intro W hSw;(try dsimp only at hSw);go_simp;try with_reducible rfl)
       (try simp only[Act.put,List.setIfInBounds_toArray,List.set_cons_zero,List.set_cons_succ])
       refine TkD 3 (some 52) (v:=?_) rfl rfl ?_ ?_;rotate_left
       ·(intro W hSw;(try dsimp only at hSw);go_simp;try with_reducible rfl)
       (try simp only[Act.put,List.setIfInBounds_toArray,List.set_cons_zero,List.set_cons_succ])
       refine TkD 5 (some 54) (v:=?_) rfl rfl ?_ ?_;rotate_left
       ·(intro W hSw;(try dsimp only at hSw);go_simp;try with_reducible rfl)
       (try simp only[Act.put,List.setIfInBounds_toArray,List.set_cons_zero,List.set_cons_succ])
       refine TkD 6 (some 55) (v:=?_) rfl rfl ?_ ?_;rotate_left
       ·(intro W hSw;(try dsimp only at hSw);go_simp;try with_reducible rfl)
       (try simp only[Act.put,List.setIfInBounds_toArray,List.set_cons_zero,List.set_cons_succ])
       refine TkD 7 (some 56) (v:=?_) rfl rfl ?_ ?_;rotate_left
       ·(intro W hSw;(try dsimp only at hSw);go_simp;try with_reducible rfl)
       (try simp only[Act.put,List.setIfInBounds_toArray,List.set_cons_zero,List.set_cons_succ])
       refine TkD 8 (some 57) (v:=?_) rfl rfl ?_ ?_;rotate_left
       ·(intro W hSw;(try dsimp only at hSw);go_simp;try with_reducible rfl)
       (try simp only[Act.put,List.setIfInBounds_toArray,List.set_cons_zero,List.set_cons_succ])
       refine wpAnyH_ready (rs:=[4]) (by kernel_rfl) (by simp) ?_;refine AllReadyH.cons rfl (fun K hK=>?_) AllReadyH.nil;go_simp
       go_at_call 28
       refine(kX.out _ hHeld.2).mono ?_;rintro e w5 ⟨u1,rfl,hu1,hK5⟩;clear hHeld;refine hK.out _ _ ⟨hC.out _ hK5,hK5⟩ (fun hHeld=>?_);clear hK K
       (try simp only[Act.put,List.setIfInBounds_toArray,List.set_cons_zero,List.set_cons_succ])
       refine wpAnyH_ready (rs:=[9]) (by kernel_rfl) (by simp) ?_;refine AllReadyH.cons rfl (fun K hK=>?_) AllReadyH.nil;go_simp
       go_at_call 28
       refine(kY.out _ hHeld.2).mono ?_;rintro e w5 ⟨u2,rfl,hu2,hK5⟩;clear hHeld;refine hK.out _ _ ⟨hC.out _ hK5,hK5⟩ (fun hHeld=>?_);clear hK K
       (try simp only[Act.put,List.setIfInBounds_toArray,List.set_cons_zero,List.set_cons_succ])
       refine TkD 10 (some 59) (v:=?_) rfl rfl ?_ ?_;rotate_left
       ·(intro W hSw;(try dsimp only at hSw);go_simp;try with_reducible rfl)
       (try simp only[Act.put,List.setIfInBounds_toArray,List.set_cons_zero,List.set_cons_succ])
       refine wpAnyH_done (by kernel_rfl) ?_ _;generalize hq5:(u1.toList==u2.toList)=q5;have hQ5:Hid (q5=decide (Lz.decodeP x.data.toList=Lz.decodeP y.data.toList)):=by show _=_;rw[<-hq5,<-hu1.out,<-hu2.out,<-same_text]
       have hbq:Below w2.heap.size w2 w5:=below_call hbr hHeld.2;clear hq5 hHeld hu1 hu2 hC kX kY;cases q5 with
       | true=>
         have hT2:Hid (Lz.eqTo (j+1) (zs.map (fun x:ByteArray=>x.data.toList)) (ts.map (fun x:ByteArray=>x.data.toList))=true):=by show _=_;rw[HS.out,hT.out,<-hQ5.out];rfl
         clear hQ5 HS hT
         go_wp2_with fail
         go_roundw
         case rel=>exact⟨j+1,by go_num,by omega,hT2,hbq⟩
         case measure=>simp[intOf];omega
       | false=>
         have HF:Hid (R=false):=by
          show _=_;rw[HV.out];cases h:Lz.eqTo k (zs.map (fun x:ByteArray=>x.data.toList)) (ts.map (fun x:ByteArray=>x.data.toList))with
          | false=>rfl
          | true=>
            have h2:=Lz.eqTo_le h (show j+1<=k by omega);rw[HS.out,hT.out,<-hQ5.out]at h2;cases h2
         clear hQ5 HS hT
         go_wp2_with fail
         go_ret;exact⟨by rw[HF.out];rfl,below_call hbw hbq⟩
      ·have hltI:¬(j:Int)<(k:Int):=by omega
       have hjk:j=k:=by omega
       have HF:Hid (R=true):=by show _=_;rw[HV.out,<-hjk,hT.out]
       clear hjk hT
       go_wp2_with fail
       go_ret;exact⟨by rw[HF.out];rfl,below_call hbw hbr⟩
end Go.Proofs.YtfepgodjaeddgaaGreatDoor
namespace Go.Proofs.YtfepgodjaeddgaaGreatDoor
open Go.ChangeShapes Go.WideShapes Go.ChangeAt Go.RowKit
theorem cellsStr:Tryz.prog.cellsOf 9=1:=by kernel_rfl
section
variable {H:Type} {enc:TypeId×Value->H} {W:World} {base:Nat} {sp:Nat->Bool} {hd:Bool} {v:Value} {fuel:Nat} {x:Option (DataW H×List MemPlace)}
theorem cell_str (h:DataW.trod enc Tryz.prog W base sp hd fuel 9 [v]=x) (hx:x.isSome=true):∃s:ByteArray,v=.string s:=by
 obtain⟨y,rfl⟩:=Option.isSome_iff_exists.1 hx;obtain⟨s,h1,_⟩:=DataW.trod_string Tryz.underlying9 h;exact⟨s,List.singleton_inj.1 h1⟩
end
end Go.Proofs.YtfepgodjaeddgaaGreatDoor
