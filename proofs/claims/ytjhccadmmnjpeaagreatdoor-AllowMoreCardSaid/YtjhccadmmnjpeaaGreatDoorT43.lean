/-
  From what the rows of lazaretlaw27 hand over to what the walks ask: slices of strings with their sizes.
-/
import Derived.Test.YtjhccadmmnjpeaaGreatDoorT42
import Derived.Test.YtjhccadmmnjpeaaGreatDoorRows
import Derived.LaidMore
import Derived.LaidSub
import Derived.PinnedBridge
set_option maxRecDepth 100000
namespace Go.Proofs.YtjhccadmmnjpeaaGreatDoor
open Go.ChangeShapes Go.WideShapes Go.ChangeAt Go.RowKit
theorem laid_reads {l:List (String×DataW Unit)} {W:World} (h:laidMetH Tryz.prog l W) {n:String} {d:DataW Unit} (hm:(n,d)∈l) (hn:d.handleName?.isNone=true):Lib.VarReads Tryz.prog W n d:=
 Lib.laidMet.reads (laidMetH_iff.1 h).1 (List.mem_filter.2 ⟨hm,hn⟩)
theorem tab_of_reads {W:World} {name:String} {k:IntKind} {zs:List Int} {g:Nat} {t e:TypeId} {n:Nat}
  (hg:Tryz.prog.globalNamed name=some g) (hty:(Tryz.prog.globals[g]?).map (·.type)=some t) (ht:Tryz.prog.underlying t=some (.array n e)) (he:Tryz.prog.underlying e=some (.int k)) (hce:Tryz.prog.cellsOf e=1) (hct:Tryz.prog.cellsOf t=n)
  (h:Lib.VarReads Tryz.prog W name (Lib.tabData k zs)):Lib.TabIs Tryz.prog W name k zs:=by
 obtain⟨g',t',cs,fuel,p,hg',ht',hvar,hd⟩:=h;obtain rfl:=Option.some.inj (hg.symm.trans hg');obtain rfl:=Option.some.inj (hty.symm.trans ht');unfold Lib.TabIs;rw[hvar,<-Lib.cells_of_tab ht he hce hct hd]
theorem iface_of_reads {W:World} {name:String} {nm:String} {d:DataW Unit} {g:Nat} {t:TypeId} {ms:Array (String×TypeId)}
  (hg:Tryz.prog.globalNamed name=some g) (hty:(Tryz.prog.globals[g]?).map (·.type)=some t) (ht:Tryz.prog.underlying t=some (.interface ms))
  (h:Lib.VarReads Tryz.prog W name (.iface nm d)):∃te pe,W.cell? ⟨g,0,none⟩=some (.iface te pe):=by
 obtain⟨g',t',cs,fuel,p,hg',ht',hvar,hd⟩:=h;obtain rfl:=Option.some.inj (hg.symm.trans hg');obtain rfl:=Option.some.inj (hty.symm.trans ht');have hcell:=World.var?_cell hg hvar 0;cases fuel with
 | zero=>simp[DataW.trod]at hd
 | succ n=>
   unfold DataW.trod at hd;rw[ht]at hd;obtain⟨cs⟩:=cs
   match cs,hd,hcell with
   | [.iface u v],_,hcell=>exact⟨u,v,by simpa using hcell⟩
   | [.nilIface],hd,_=>simp at hd
   | [],hd,_=>simp at hd
   | _::_::_,hd,_=>simp at hd
theorem gSyn:Tryz.prog.globalNamed "strconv.ErrSyntax"=some 9:=by kernel_rfl
theorem gRng:Tryz.prog.globalNamed "strconv.ErrRange"=some 10:=by kernel_rfl
theorem gEt:Tryz.prog.globalNamed "errors.errorType"=some 1:=by kernel_rfl
theorem gEtRt:(Tryz.prog.cutTypes.find? (·.1== "internal/reflectlite.rtype")).map (·.2)=some 195:=by kernel_rfl
theorem gEtRow:((List.range Tryz.prog.types.size).filter fun t=>Tryz.prog.rowNamed t [101,114,114,111,114])=[57]:=by kernel_rfl
theorem et_of_laid {l:List (String×DataW Unit)} {W:World} (h:laidMetH Tryz.prog l W) (hm:("errors.errorType",Rows.laid_errors_errorType)∈l):
  W.cell? ⟨1,0,none⟩=some (.iface 195 (.agg #[.pointer (some ⟨13,57,none⟩)])):=by
 obtain⟨name,u,ty,e1,e2,e3,e4,e5⟩:=(laidMetH_iff.1 h).2 _ (List.mem_filter.2 ⟨hm,rfl⟩);have en:name=[101,114,114,111,114]:=(Option.some.inj e1).symm;subst en;obtain rfl:=Option.some.inj (gEtRt.symm.trans e2);have hm:ty∈(List.range Tryz.prog.types.size).filter fun t=>Tryz.prog.rowNamed t [101,114,114,111,114]:=List.mem_filter.2 ⟨List.mem_range.2 e3,e4⟩;rw[gEtRow]at hm;obtain rfl:=List.mem_singleton.1 hm;have hh:typeHandle Tryz.prog 57=.pointer (some ⟨13,57,none⟩):=by kernel_rfl
 rw[hh]at e5;simpa using World.var?_cell gEt e5 0
theorem spot_none {w:World} {b o:Nat} {sp:Option Nat} {v:Value} (h:w.cell? ⟨b,o,sp⟩=some v):sp=none:=by
 cases sp with
 | none=>rfl
 | some x=>
   unfold World.cell? at h;split at h<;>simp at h
def dbTab:List Int:=[0,1,56,2,57,49,28,3,61,58,42,50,38,29,17,4,62,47,59,36,45,43,51,22,53,39,33,30,24,18,12,5,63,55,48,27,60,41,37,16,46,35,44,21,52,32,23,11,54,26,40,15,34,20,31,10,25,14,19,9,13,8,7,6]
theorem gDb:Tryz.prog.globalNamed "math/bits.deBruijn64tab"=some 12:=by kernel_rfl
theorem envH_of_laid {l:List (String×DataW Unit)} {W:World} (h:laidMetH Tryz.prog l W) (hsh:W.ShapedOpen Tryz.prog)
  (m1:("internal/strconv.uint64pow10",Rows.laid_internal_strconv_uint64pow10)∈l) (m2:("errors.errorType",Rows.laid_errors_errorType)∈l)
  (m3:("strconv.ErrRange",Rows.laid_strconv_ErrRange)∈l) (m4:("strconv.ErrSyntax",Rows.laid_strconv_ErrSyntax)∈l) (m5:("math/bits.deBruijn64tab",Rows.laid_math_bits_deBruijn64tab)∈l):EnvH W:=by
 have hdb:Lib.TabIs Tryz.prog W "math/bits.deBruijn64tab" .u8 dbTab:=tab_of_reads gDb (t:=334) (by kernel_rfl) (Tryz.underlying334) (Tryz.underlying5) (by kernel_rfl) (by kernel_rfl) (laid_reads h m5 rfl);have hcell:=fun o=>World.var?_cell gDb hdb o
 exact{
  ml:=cell_of_shapedOpen_int (zero:= #[.int .i64 0]) (t:=3) hsh (of_decide_eq_true (by kernel_rfl)) (by kernel_rfl) rfl (by kernel_rfl) (by kernel_rfl) (Tryz.underlying3)
  pow:=tab_of_reads gPow (t:=302) (by kernel_rfl) (Tryz.underlying302) (Tryz.underlying83) (by kernel_rfl) (by kernel_rfl) (laid_reads h m1 rfl)
  syn:=iface_of_reads gSyn (t:=57) (by kernel_rfl) (Tryz.underlying57) (laid_reads h m4 rfl)
  rng:=iface_of_reads gRng (t:=57) (by kernel_rfl) (Tryz.underlying57) (laid_reads h m3 rfl)
  et:=et_of_laid h m2
  db8:=(hcell 7).trans (by rfl)
  db16:=(hcell 15).trans (by rfl)
  size:=by
   have hs:(((begin Tryz.prog (fun _ _=>0) default).world.heap[13-1]?).bind Obj.row?).isSome=true:=by kernel_rfl
   obtain⟨⟨zero,t⟩,h0⟩:=Option.isSome_iff_exists.1 hs;obtain⟨cs,hc,_⟩:=hsh.1 (13-1) zero t (of_decide_eq_true (by kernel_rfl)) h0;have:=(Array.getElem?_eq_some_iff.1 hc).1;omega}
theorem gFirst:Tryz.prog.globalNamed "unicode/utf8.first"=some 6:=by kernel_rfl
theorem gAcc:Tryz.prog.globalNamed "unicode/utf8.acceptRanges"=some 7:=by kernel_rfl
theorem utf8_of_reads {w:World} (h3:Lib.VarReads Tryz.prog w "unicode/utf8.first" Lib.firstData) (h4:Lib.VarReads Tryz.prog w "unicode/utf8.acceptRanges" Lib.acceptData):Lib.Utf8Tabs 6 7 w:=by
 have c5:Tryz.prog.cellsOf 5=1:=by kernel_rfl
 have c119:Tryz.prog.cellsOf 226=256:=by kernel_rfl
 have c138:Tryz.prog.cellsOf 289=2:=by kernel_rfl
 have y3:(Tryz.prog.globals[6]?).map (·.type)=some 226:=by kernel_rfl
 have y4:(Tryz.prog.globals[7]?).map (·.type)=some 290:=by kernel_rfl
 refine⟨fun c hc=>?_,fun i hi=>?_⟩
 ·obtain⟨g,t,cs,fuel,p,hg,hty,hvar,hd⟩:=h3;obtain rfl:=Option.some.inj (gFirst.symm.trans hg);obtain rfl:=Option.some.inj (y3.symm.trans hty);have hcs:=Lib.cells_of_tab (Tryz.underlying226) (Tryz.underlying5) c5 c119 hd;have:=World.var?_cell hg hvar c;rw[this,<-Array.getElem?_toList,hcs]
  simp[Lib.firstTab,hc]
 ·obtain⟨g,t,cs,fuel,p,hg,hty,hvar,hd⟩:=h4;obtain rfl:=Option.some.inj (gAcc.symm.trans hg);obtain rfl:=Option.some.inj (y4.symm.trans hty);obtain⟨fuel',d,q,hdi,he⟩:=Lib.array_elem (Tryz.underlying290) hd i hi;simp only[List.getElem?_map,List.getElem?_range hi,Option.map_some,Option.some.injEq]at hdi;subst hdi;rw[c138]at he
  have hcs:=Lib.ints_of_struct (Tryz.underlying289) (fun j f hj=>by
   match j,hj with
   | 0,hj=>simp at hj;subst hj;exact⟨Tryz.underlying5,rfl,c5⟩
   | 1,hj=>simp at hj;subst hj;exact⟨Tryz.underlying5,rfl,c5⟩
   | j+2,hj=>simp at hj) (by rw[c138];rfl) he
  have e0:=congrArg (·[0]?) hcs;have e1:=congrArg (·[1]?) hcs;simp only[List.getElem?_take,List.getElem?_drop]at e0 e1;constructor
  ·rw[World.var?_cell hg hvar (2*i),<-Array.getElem?_toList];simpa [Nat.mul_comm]using e0
  ·rw[World.var?_cell hg hvar (2*i+1),<-Array.getElem?_toList];simpa [Nat.mul_comm]using e1
theorem envU_of_laid {l:List (String×DataW Unit)} {W:World} (h:laidMetH Tryz.prog l W) (hsh:W.ShapedOpen Tryz.prog)
  (m1:("internal/strconv.uint64pow10",Rows.laid_internal_strconv_uint64pow10)∈l) (m2:("errors.errorType",Rows.laid_errors_errorType)∈l)
  (m3:("strconv.ErrRange",Rows.laid_strconv_ErrRange)∈l) (m4:("strconv.ErrSyntax",Rows.laid_strconv_ErrSyntax)∈l) (m5:("math/bits.deBruijn64tab",Rows.laid_math_bits_deBruijn64tab)∈l)
  (m6:("unicode/utf8.first",Rows.laid_unicode_utf8_first)∈l) (m7:("unicode/utf8.acceptRanges",Rows.laid_unicode_utf8_acceptRanges)∈l):EnvU W:=
 ⟨envH_of_laid h hsh m1 m2 m3 m4 m5,utf8_of_reads (by
  have:=laid_reads h m6 (by kernel_rfl);rw[show Rows.laid_unicode_utf8_first=Lib.firstData from Pinned.utf8First_eq]at this;exact this) (by
  have:=laid_reads h m7 (by kernel_rfl);rw[show(Rows.laid_unicode_utf8_acceptRanges:DataW Unit)=Lib.acceptData by kernel_rfl]at this;exact this)⟩
theorem gKw:Tryz.prog.globalNamed "lazaret/sources.keywords"=some 4:=by kernel_rfl
theorem gBt:Tryz.prog.globalNamed "lazaret/match.better"=some 3:=by kernel_rfl
theorem kw_of_laid {W:World} (h:Lib.VarReads Tryz.prog W "lazaret/sources.keywords" Rows.laid_lazaret_sources_keywords):
  ∃b o c,W.cell? ⟨4,0,none⟩=some (.slice (some ⟨b,o,none⟩) 8 c)/\b<W.heap.size/\∀j,j<8->W.cell? ⟨b,o+j,none⟩=some (.string ((Lz.keywords.map (fun l=>(⟨l.toArray⟩:ByteArray))).getD j ByteArray.empty)):=by
 obtain⟨g',t',cs,fuel,p,hg',ht',hvar,hd⟩:=h;obtain rfl:=Option.some.inj (gKw.symm.trans hg');obtain rfl:=Option.some.inj ((show(Tryz.prog.globals[4]?).map (·.type)=some 22 by kernel_rfl).symm.trans ht');have hcell:=World.var?_cell gKw hvar 0;obtain⟨a,cap,hcs,_,hall⟩:=open_row (Tryz.underlying22) (by kernel_rfl) hd;obtain⟨b,o,sp⟩:=a
 have hc0:cs[0]? =some (.slice (some ⟨b,o,sp⟩) 8 cap):=by
  rw[<-Array.getElem?_toList,hcs];rfl
 have hstr:∀j,j<8->∃s:ByteArray,W.cell? ((⟨b,o,sp⟩:Addr).add j)=some (.string s)/\s.data.toList=Lz.keywords.getD j []:=by
  intro j hj
  obtain⟨v,n,q,hv,ht⟩:=hall j (.lit (.string (Lz.keywords.getD j []))) (by
   match j,hj with
   | 0,_=>rfl
   | 1,_=>rfl
   | 2,_=>rfl
   | 3,_=>rfl
   | 4,_=>rfl
   | 5,_=>rfl
   | 6,_=>rfl
   | 7,_=>rfl)
  obtain⟨s,hs,hx,_⟩:=DataW.trod_string (Tryz.underlying9) ht;obtain rfl:v=.string s:=by simpa using hs
  refine⟨s,hv,?_⟩;simp only[Prod.mk.injEq,DataW.lit.injEq,Lit.string.injEq]at hx;exact hx.1.symm
 obtain⟨s0,hs0,_⟩:=hstr 0 (by omega);have hs0:W.cell? ⟨b,o,sp⟩=some (.string s0):=by simpa [Addr.add]using hs0
 obtain rfl:=spot_none hs0;refine⟨b,o,cap,?_,?_,?_⟩
 ·rw[hcell];exact hc0
 ·unfold World.cell? at hs0;rcases Nat.lt_or_ge b W.heap.size with h'|h'
  ·exact h'
  ·simp[Array.getElem?_eq_none h']at hs0
 ·intro j hj;obtain⟨s,hs,he⟩:=hstr j hj;rw[show(⟨b,o+j,none⟩:Addr)=(⟨b,o,none⟩:Addr).add j by simp[Addr.add],hs];have:s=⟨(Lz.keywords.getD j []).toArray⟩:=by rw[<-he]
  rw[this]
  match j,hj with
  | 0,_=>rfl
  | 1,_=>rfl
  | 2,_=>rfl
  | 3,_=>rfl
  | 4,_=>rfl
  | 5,_=>rfl
  | 6,_=>rfl
  | 7,_=>rfl
open Go.WideElems in
theorem path_of_elem {W:World} {n:Nat} {v:Value} {ls:List (List UInt8)} {q:List MemPlace} (h:elemAt (fun _=>()) Tryz.prog W 0 (fun _=>true) false n 22 v=some (.slice (ls.map fun l=>.lit (.string l)) [],q)):PathAt W v ls:=by
 unfold elemAt at h;split at h
 ·rename_i hf;obtain⟨a,cap,hcs,_,hall⟩:=open_row (Tryz.underlying22) (by kernel_rfl) h;rw[List.length_map]at hcs
  have hv:v=.slice (some a) ls.length cap:=by
   cases v<;>first
    | (simp[Value.cells]at hcs;done)
    | (simp only[Value.cells]at hcs;simpa using hcs)
    | (exfalso;revert hf;simp[Value.formed,Tryz.underlying22];done)
  obtain⟨b,o,sp⟩:=a;refine⟨some ⟨b,o,sp⟩,cap,ls.map (fun l=>(⟨l.toArray⟩:ByteArray)),by rw[List.length_map];exact hv,by rw[List.map_map];exact(List.map_congr_left (fun x _=>rfl)).trans (List.map_id ls),fun j x hj=>?_⟩;rw[List.getElem?_map]at hj;obtain⟨l,hl,rfl⟩:=Option.map_eq_some_iff.1 hj;have h0l:0<ls.length:=Nat.lt_of_le_of_lt (Nat.zero_le j) (List.getElem?_eq_some_iff.1 hl).1;obtain⟨u0,m0,r0,hu0,_⟩:=hall 0 (.lit (.string ls[0])) (by rw[List.getElem?_map,List.getElem?_eq_getElem h0l];rfl);have hu00:W.cell? ⟨b,o,sp⟩=some u0:=by simpa [Addr.add]using hu0
  obtain rfl:=spot_none hu00;obtain⟨u,m,r,hu,ht⟩:=hall j (.lit (.string l)) (by rw[List.getElem?_map,hl];rfl);obtain⟨s,hs,hx,_⟩:=DataW.trod_string (Tryz.underlying9) ht;obtain rfl:u=.string s:=by simpa using hs
  have hs2:s.data.toList=l:=by
   simp only[Prod.mk.injEq,DataW.lit.injEq,Lit.string.injEq]at hx;exact hx.1.symm
  have hu2:W.cell? ⟨b,o+j,none⟩=some (.string s):=by
   rw[<-hu,show(⟨b,o+j,none⟩:Addr)=(⟨b,o,none⟩:Addr).add j by simp[Addr.add]]
  refine⟨b,o,rfl,World.block_lt_of_cell? _ _ hu2,?_⟩;rw[hu2,<-hs2]
 ·cases h
def httpL:List UInt8:=[104,116,116,112]
def wsL:List UInt8:=[119,115]
def wssL:List UInt8:=[119,115,115]
theorem at_better (l:List UInt8) (zd:DataW Unit):(Rows.laid_lazaret_match_better (H:=Unit)).atKey (.string l) zd=if l=httpL\/l=wsL\/l=wssL then .slice ((Lz.betterP l).map fun x=>.lit (.string x)) []else zd:=by
 by_cases h1:l=httpL
 ·subst h1;rfl
 ·by_cases h2:l=wsL
  ·subst h2;rfl
  ·by_cases h3:l=wssL
   ·subst h3;rfl
   ·rw[if_neg (by simp[h1,h2,h3])];have e1:(httpL==l)=false:=beq_eq_false_iff_ne.2 (Ne.symm h1);have e2:(wsL==l)=false:=beq_eq_false_iff_ne.2 (Ne.symm h2);have e3:(wssL==l)=false:=beq_eq_false_iff_ne.2 (Ne.symm h3);unfold httpL at e1;unfold wsL at e2;unfold wssL at e3;unfold Rows.laid_lazaret_match_better DataW.atKey;simp only[List.find?_cons,Lit.sameKey,e1,e2,e3,List.find?_nil]
theorem better_no {l:List UInt8} (h1:l≠httpL) (h2:l≠wsL) (h3:l≠wssL):Lz.betterP l=[]:=by
 unfold Lz.betterP;rw[if_neg (show ¬l=Lz.httpS from h1),if_neg (show ¬l=Lz.wsS from h2),if_neg (show ¬l=Lz.wssS from h3)]
open Go.WideElems Go.WideMaps in
theorem better_of_laid {W:World} (h:Lib.VarReads Tryz.prog W "lazaret/match.better" Rows.laid_lazaret_match_better):BetterAt W:=by
 obtain⟨g',t',cs,fuel,p,hg',ht',hvar,hd⟩:=h;obtain rfl:=Option.some.inj (gBt.symm.trans hg');obtain rfl:=Option.some.inj ((show(Tryz.prog.globals[3]?).map (·.type)=some 206 by kernel_rfl).symm.trans ht');have hcell:=World.var?_cell gBt hvar 0;rcases WideElems.open_map Tryz.underlying206 hd with⟨_,hx⟩|⟨bm,es,clock,n,_,hcs,hb,_,F,hx⟩
 ·cases (congrArg Prod.fst hx)
 ·have hc0:cs[0]? =some (.map (some bm)):=by rw[<-Array.getElem?_toList,hcs];rfl
  refine⟨bm,es,clock,by rw[hcell];exact hc0,(Array.getElem?_eq_some_iff.1 hb).1,hb,fun p W' hp hW'=>?_⟩;have hkey:keyOf Tryz.prog 9 (.string p)=some (.string p.data.toList):=keyOf_string_mk Tryz.underlying9 (by unfold maxLen;omega);have hm:=congrArg Prod.fst hx
  dsimp only at hm
  rcases WideElems.fit_lookup (string_law Tryz.underlying9) Tryz.underlying206 (z:=.slice none 0 0) (w:=W') (by kernel_rfl) hW' F hkey with⟨hrun,hat⟩|⟨v,y,hrun,hR,hat,_⟩
  ·refine⟨_,hrun,?_⟩
   have hn:Lz.betterP p.data.toList=[]:=by
    have h1:=hat (.lit (.bool true));rw[<-hm,at_better]at h1;split at h1
    ·cases h1
    ·rename_i hno;exact better_no (fun e=>hno (.inl e)) (fun e=>hno (.inr (.inl e))) (fun e=>hno (.inr (.inr e)))
   rw[hn];exact⟨none,0,[],rfl,rfl,fun j x hj=>by simp at hj⟩
  ·refine⟨v,hrun,?_⟩
   have hy:y.1=.slice ((Lz.betterP p.data.toList).map fun x=>.lit (.string x)) []:=by
    have h1:=hat (.lit (.bool true));have h2:=hat .nil;rw[<-hm,at_better]at h1 h2;split at h1
    ·exact h1.symm
    ·rename_i hno;rw[if_neg hno]at h2;rw[<-h1]at h2;cases h2
   obtain⟨y1,y2⟩:=y
   dsimp only at hy
   subst hy;exact path_of_elem hR
theorem envM_of {W:World} (hH:EnvH W) (hU:EnvU W) {l:List (String×DataW Unit)} (h:laidMetH Tryz.prog l W) (m5:("lazaret/sources.keywords",Rows.laid_lazaret_sources_keywords)∈l) (m6:("lazaret/match.better",Rows.laid_lazaret_match_better)∈l):EnvM W:=
 ⟨⟨hH.ml,hH.pow,hH.syn,hH.rng,hH.et,kw_of_laid (laid_reads h m5 rfl),hH.size⟩,hU,better_of_laid (laid_reads h m6 rfl)⟩
end Go.Proofs.YtjhccadmmnjpeaaGreatDoor
namespace Go.Proofs.YtjhccadmmnjpeaaGreatDoor
open Go.RowKit
theorem hash27_any (tab:List UInt32) (tab2:List UInt64) (t:ByteArray) (ht:t.size<=1000000) (k:Nat) (hk:k<256) (w:World) (hE:EnvA tab tab2 w):Calls Tryz.prog 18 #[.string t,.int .u8 (k:Int)] w (RStr (Lz.hashV (digA tab tab2) (k%3) t.data.toList) w):=by
 have cE:=Ih (fun(u:ByteArray) (hu:u.size<=64) W=>Encode64_any u (by omega) W);have hel:∀l:List UInt8,l.length<=64->(Lz.enc64 l).length<=300:=fun l hl=>by have:=Lz.enc64_len l;omega
 have Hel:=Ih hel;obtain⟨m,hm⟩:∃m,m=k%3:=⟨_,rfl⟩;have fm:Int.tmod (k:Int) 3=(m:Int):=by rw[Int.tmod_eq_emod_of_nonneg (by omega)];omega
 have hm3:m=0\/m=1\/m=2:=by omega
 rw[<-hm];clear hm hel;rcases hm3 with rfl|rfl|rfl
 ·have hdl:=(digA_len tab tab2 256 t.data.toList).1;have HD:Hid (digA tab tab2 256 t.data.toList=Lz.sum32 tab first32 t.data.toList):=Ih (by unfold digA;rw[if_pos rfl]);have cS:=Ih (Sum_any tab t (by omega) w hE.d);rw[HD.out]at hdl;clear hE;go_enter Tryz.func18,Tryz.ntmps18
  go_wp2_with fail
  refine cS.out.mono ?_;rintro e w1 ⟨rfl,hb1⟩;obtain⟨u,hu⟩:∃u:ByteArray,u=⟨(Lz.sum32 tab first32 t.data.toList).toArray⟩:=⟨_,rfl⟩;have hul:u.data.toList=Lz.sum32 tab first32 t.data.toList:=by rw[hu]
  rw[<-hu];have hz:u.size<=64:=by rw[<-len_of_size,hul];exact hdl
  have Hul:=Ih hul;clear hu hul
  go_wp2_with fail
  refine(cE.out u hz _).mono ?_;rintro e w2 ⟨x,rfl,hx,hb2⟩;have hxz:x.size<=300:=by rw[<-len_of_size,hx.out];exact Hel.out _ (by rw[len_of_size];exact hz)
  have hs1:¬(9223372036854775807<8+x.size):=by omega
  have hs2:¬(9223372036854775807<8+x.size+1):=by omega
  go_wp2_with fail
  go_ret;exact⟨_,rfl,Ih (by simp only[ByteArray.data_append,Array.toList_append,hx.out,Hul.out];unfold Lz.hashV Lz.sumD;rw[show Lz.shaBits 0=256 from rfl,HD.out];rfl),below_call hb1 hb2⟩
 ·have hdl:=(digA_len tab tab2 384 t.data.toList).1;have HD:Hid (digA tab tab2 384 t.data.toList=(Lz.sum64 tab2 first384 t.data.toList).take 48):=Ih (by unfold digA;rw[if_neg (by decide),if_pos rfl]);have cS:=Ih (Sum384_any tab2 t (by omega) w hE.l);rw[HD.out]at hdl;clear hE;go_enter Tryz.func18,Tryz.ntmps18
  go_wp2_with fail
  refine cS.out.mono ?_;rintro e w1 ⟨u,rfl,hul,hb1⟩;have hz:u.size<=64:=by rw[<-len_of_size,hul.out];exact hdl
  go_wp2_with fail
  refine(cE.out u hz _).mono ?_;rintro e w2 ⟨x,rfl,hx,hb2⟩;have hxz:x.size<=300:=by rw[<-len_of_size,hx.out];exact Hel.out _ (by rw[len_of_size];exact hz)
  have hs1:¬(9223372036854775807<8+x.size):=by omega
  have hs2:¬(9223372036854775807<8+x.size+1):=by omega
  go_wp2_with fail
  go_ret;exact⟨_,rfl,Ih (by simp only[ByteArray.data_append,Array.toList_append,hx.out,hul.out];unfold Lz.hashV Lz.sumD;rw[show Lz.shaBits 1=384 from rfl,HD.out];rfl),below_call hb1 hb2⟩
 ·have hdl:=(digA_len tab tab2 512 t.data.toList).1;have HD:Hid (digA tab tab2 512 t.data.toList=Lz.sum64 tab2 first512 t.data.toList):=Ih (by unfold digA;rw[if_neg (by decide),if_neg (by decide)]);have cS:=Ih (Sum512_any tab2 t (by omega) w hE.l);rw[HD.out]at hdl;clear hE;go_enter Tryz.func18,Tryz.ntmps18
  go_wp2_with fail
  refine cS.out.mono ?_;rintro e w1 ⟨u,rfl,hul,hb1⟩;have hz:u.size<=64:=by rw[<-len_of_size,hul.out];exact hdl
  go_wp2_with fail
  refine(cE.out u hz _).mono ?_;rintro e w2 ⟨x,rfl,hx,hb2⟩;have hxz:x.size<=300:=by rw[<-len_of_size,hx.out];exact Hel.out _ (by rw[len_of_size];exact hz)
  have hs1:¬(9223372036854775807<8+x.size):=by omega
  have hs2:¬(9223372036854775807<8+x.size+1):=by omega
  go_wp2_with fail
  go_ret;exact⟨_,rfl,Ih (by simp only[ByteArray.data_append,Array.toList_append,hx.out,hul.out];unfold Lz.hashV Lz.sumD;rw[show Lz.shaBits 2=512 from rfl,HD.out];rfl),below_call hb1 hb2⟩
end Go.Proofs.YtjhccadmmnjpeaaGreatDoor
namespace Go.Proofs.YtjhccadmmnjpeaaGreatDoor
open Go.ChangeShapes Go.WideShapes Go.ChangeAt Go.RowKit
def tabA:List UInt32:=[1116352408,1899447441,3049323471,3921009573,961987163,1508970993,2453635748,2870763221,3624381080,310598401,607225278,1426881987,1925078388,2162078206,2614888103,3248222580,3835390401,4022224774,264347078,604807628,770255983,1249150122,1555081692,1996064986,2554220882,2821834349,2952996808,3210313671,3336571891,3584528711,113926993,338241895,666307205,773529912,1294757372,1396182291,1695183700,1986661051,2177026350,2456956037,2730485921,2820302411,3259730800,3345764771,3516065817,3600352804,4094571909,275423344,430227734,506948616,659060556,883997877,958139571,1322822218,1537002063,1747873779,1955562222,2024104815,2227730452,2361852424,2428436474,2756734187,3204031479,3329325298]
def tab2A:List UInt64:=[4794697086780616226,8158064640168781261,13096744586834688815,16840607885511220156,4131703408338449720,6480981068601479193,10538285296894168987,12329834152419229976,15566598209576043074,1334009975649890238,2608012711638119052,6128411473006802146,8268148722764581231,9286055187155687089,11230858885718282805,13951009754708518548,16472876342353939154,17275323862435702243,1135362057144423861,2597628984639134821,3308224258029322869,5365058923640841347,6679025012923562964,8573033837759648693,10970295158949994411,12119686244451234320,12683024718118986047,13788192230050041572,14330467153632333762,15395433587784984357,489312712824947311,1452737877330783856,2861767655752347644,3322285676063803686,5560940570517711597,5996557281743188959,7280758554555802590,8532644243296465576,9350256976987008742,10552545826968843579,11727347734174303076,12113106623233404929,14000437183269869457,14369950271660146224,15101387698204529176,15463397548674623760,17586052441742319658,1182934255886127544,1847814050463011016,2177327727835720531,2830643537854262169,3796741975233480872,4115178125766777443,5681478168544905931,6601373596472566643,7507060721942968483,8399075790359081724,8693463985226723168,9568029438360202098,10144078919501101548,10430055236837252648,11840083180663258601,13761210420658862357,14299343276471374635,14566680578165727644,15097957966210449927,16922976911328602910,17689382322260857208,500013540394364858,748580250866718886,1242879168328830382,1977374033974150939,2944078676154940804,3659926193048069267,4368137639120453308,4836135668995329356,5532061633213252278,6448918945643986474,6902733635092675308,7801388544844847127]
theorem gTabD:Tryz.prog.globalNamed "lazaret/digest.table"=some 0:=by kernel_rfl
theorem gTabL:Tryz.prog.globalNamed "lazaret/longs.roots"=some 2:=by kernel_rfl
theorem tabD_of {W:World} (h:Lib.VarReads Tryz.prog W "lazaret/digest.table" Rows.laid_lazaret_digest_table):TabD tabA W:=by
 have e:(Rows.laid_lazaret_digest_table:DataW Unit)=Lib.tabData .u32 (tabA.map N32):=by kernel_rfl
 rw[e]at h;have hv:Lib.TabIs Tryz.prog W "lazaret/digest.table" .u32 (tabA.map N32):=tab_of_reads gTabD (t:=137) (by kernel_rfl) (Tryz.underlying137) (Tryz.underlying73) (by kernel_rfl) (by kernel_rfl) h
 have hc:∀i,i<64->W.cell? ⟨0,i,none⟩=some (.int .u32 (N32 (tabA.getD i 0))):=fun i hi=>by
  rw[World.var?_cell gTabD hv i];have hl:i<tabA.length:=hi;simp only[List.getElem?_toArray,List.getElem?_map,List.getElem?_eq_getElem hl,Option.map_some,List.getD_eq_getElem?_getD,Option.getD_some]
 exact⟨World.block_lt_of_cell? _ _ (hc 0 (by omega)),hc⟩
theorem tabL_of {W:World} (h:Lib.VarReads Tryz.prog W "lazaret/longs.roots" Rows.laid_lazaret_longs_roots):TabL tab2A W:=by
 have e:(Rows.laid_lazaret_longs_roots:DataW Unit)=Lib.tabData .u64 (tab2A.map N64):=by kernel_rfl
 rw[e]at h;have hv:Lib.TabIs Tryz.prog W "lazaret/longs.roots" .u64 (tab2A.map N64):=tab_of_reads gTabL (t:=182) (by kernel_rfl) (Tryz.underlying182) (Tryz.underlying83) (by kernel_rfl) (by kernel_rfl) h
 have hc:∀i,i<80->W.cell? ⟨2,i,none⟩=some (.int .u64 (N64 (tab2A.getD i 0))):=fun i hi=>by
  rw[World.var?_cell gTabL hv i];have hl:i<tab2A.length:=hi;simp only[List.getElem?_toArray,List.getElem?_map,List.getElem?_eq_getElem hl,Option.map_some,List.getD_eq_getElem?_getD,Option.getD_some]
 exact⟨World.block_lt_of_cell? _ _ (hc 0 (by omega)),hc⟩
theorem ownU:ownKnob Tryz.prog.godebug=none:=by kernel_rfl
theorem envU_row {W:World} (h:laidMetH Tryz.prog Rows.allowInlineRow.laid W) (hsh:W.ShapedOpen Tryz.prog):EnvU W:=
 envU_of_laid h hsh (.tail _ (.tail _ (.head _))) (.tail _ (.tail _ (.tail _ (.tail _ (.tail _ (.tail _ (.head _))))))) (.tail _ (.tail _ (.tail _ (.tail _ (.tail _ (.tail _ (.tail _ (.head _)))))))) (.tail _ (.tail _ (.tail _ (.tail _ (.tail _ (.tail _ (.tail _ (.tail _ (.head _))))))))) (.tail _ (.head _)) (.tail _ (.tail _ (.tail _ (.tail _ (.tail _ (.tail _ (.tail _ (.tail _ (.tail _ (.tail _ (.tail _ (.head _)))))))))))) (.tail _ (.tail _ (.tail _ (.tail _ (.tail _ (.head _))))))
theorem envA_row {W:World} (h:laidMetH Tryz.prog Rows.allowInlineRow.laid W) (hsh:W.ShapedOpen Tryz.prog):EnvA tabA tab2A W:=
 ⟨envM_of (envU_row h hsh).h (envU_row h hsh) h (.tail _ (.tail _ (.tail _ (.tail _ (.tail _ (.tail _ (.tail _ (.tail _ (.tail _ (.head _)))))))))) (.tail _ (.tail _ (.tail _ (.tail _ (.tail _ (.tail _ (.tail _ (.tail _ (.tail _ (.tail _ (.head _))))))))))),tabD_of (laid_reads h (.tail _ (.tail _ (.tail _ (.head _)))) rfl),tabL_of (laid_reads h (.tail _ (.tail _ (.tail _ (.tail _ (.head _))))) rfl)⟩
def cellsOfPinned:DataW Unit->Array Value
 | .agg l=>(l.filterMap fun| .lit (.int k z)=>some (Value.int k z)|_=>none).toArray
 | _=> #[]
noncomputable def startU (os:Os):World:=
 {World.doorLaid Tryz.prog 130 os with heap:=(World.doorLaid Tryz.prog 130 os).heap.modify 6 fun
  | .cells _ t frozen=>.cells (cellsOfPinned Rows.laid_unicode_utf8_first) t frozen
  | o=>o}
theorem metU (os:Os) (args:Array Value):laidMetH Tryz.prog Rows.allowInlineRow.laid ((startU os).forCall (fun _ _=>0) ⟨#[],args,[]⟩).memory:=
 laidMetH_of_parts3 (fuel:=8) (laidMet_of_run3 8 (by kernel_rfl) (by kernel_rfl) (by kernel_rfl)) (by kernel_rfl) (by kernel_rfl)
theorem andI {a b:Bool} (h1:a=true) (h2:b=true):(a&&b)=true:=by rw[h1,h2];rfl
theorem mayU:Tryz.prog.mayEnter=true:=by kernel_rfl
theorem liftU:(Rows.allowInlineRow.lifted==Tryz.prog.liftsFinal)=true:=by kernel_rfl
theorem makeU:(Tryz.prog.make==some Rows.allowInlineRow.make)=true:=by kernel_rfl
theorem mapsU:mapsRowed Tryz.prog=true:=by kernel_rfl
theorem keysU:(Rows.allowInlineRow.plainKeys==Tryz.prog.plainKeys)=true:=by kernel_rfl
theorem heardU:Tryz.prog.stopsHeard=true:=by kernel_rfl
theorem cellsStr:Tryz.prog.cellsOf 9=1:=by kernel_rfl
section
variable {H:Type} {enc:TypeId×Value->H} {W:World} {base:Nat} {sp:Nat->Bool} {hd:Bool} {v:Value} {fuel:Nat} {x:Option (DataW H×List MemPlace)}
end
section
variable {H:Type} {enc:TypeId×Value->H} {W:World} {base:Nat} {sp:Nat->Bool} {hd:Bool} {v:Value} {d:DataW H} {ps:List MemPlace} {r:Reach} {b0:Nat}
theorem weights_strs (ss:List ByteArray) {s:ByteArray} (h:s∈ss):s.data.toList.length∈DataW.weightsAll Tryz.prog 9 (strs (H:=H) ss):=by
 induction ss with
 | nil=>cases h
 | cons a t ih=>
   show _∈DataW.weights Tryz.prog 9 (.lit (.string a.data.toList))++DataW.weightsAll Tryz.prog 9 (strs t);rcases List.mem_cons.1 h with rfl|h
   ·exact List.mem_append_left _ (by simp[DataW.weights])
   ·exact List.mem_append_right _ (ih h)
theorem path_of (hv:Value.okWide Tryz.prog W r b0 22 v) (h:DataW.Trod enc Tryz.prog W base sp hd 22 v d ps):∃l,PathAt W v l/\∀B,(∀x∈d.weights Tryz.prog 22,x<=B)->∀y∈l,y.length<=B:=by
 obtain⟨a0,len0,cap0,rfl⟩:=okWide_slice Tryz.underlying22 hv;obtain⟨fuel,hf⟩:=h;have hf2:DataW.trod enc Tryz.prog W base sp hd fuel 22 [.slice a0 len0 cap0]=some (d,ps):=hf;rcases open_strings Tryz.underlying22 Tryz.underlying9 cellsStr hf2 with⟨h0,hx⟩|⟨a,len,cap,ss,hcs,_,hl,hm,hz,hx,hcell,_⟩
 ·have h0:=List.singleton_inj.1 h0;rw[h0];exact⟨[],⟨none,0,[],rfl,rfl,fun j x hj=>by simp at hj⟩,fun _ _ y hy=>by cases hy⟩
 ·have h0:=List.singleton_inj.1 hcs;rw[h0];have hlen:len<=ss.length:=by rw[hz];split<;>omega
  refine⟨_,⟨some a,cap,ss.take len,by rw[List.length_take,Nat.min_eq_left hlen],rfl,fun j x hj=>?_⟩,?_⟩
  ·have hj':j<len:=by
    have:=(List.getElem?_eq_some_iff.1 hj).1;rw[List.length_take]at this;omega
   have hj2:ss[j]? =some x:=by
    rw[List.getElem?_take,if_pos hj']at hj;exact hj
   have hc:=hcell j (by omega);rw[List.getD_eq_getElem?_getD,hj2]at hc;change W.cell? (a.add j)=some (.string x)at hc;obtain⟨B,off,spot⟩:=a
   have hspot:spot=none:=by
    have h1:=hcell 0 (by omega);simpa [Addr.add]using World.cell?_spot h1
   subst hspot;rw[Go.WideShapes.add_plain]at hc;exact⟨B,off,rfl,World.block_lt_of_cell? _ _ hc,hc⟩
  ·intro B hB y hy;obtain⟨s,hs,rfl⟩:=List.mem_map.1 hy;refine hB _ ?_;rw[(Prod.mk.inj hx).1];simp only[DataW.weights,Tryz.underlying22];exact List.mem_cons_of_mem _ (List.mem_append_left _ (weights_strs _ hs))
end
end Go.Proofs.YtjhccadmmnjpeaaGreatDoor
