/-
  From what a row hands over to what the walks ask: a slice of strings, a URL.
-/
import Derived.Test.YtecoeebjaleeiaaGreatDoorJ35
import Derived.Test.YtecoeebjaleeiaaGreatDoorJ37
import Derived.Test.YtecoeebjaleeiaaGreatDoorRows
import Derived.LaidMore
import Derived.LaidSub
import Derived.PinnedBridge
set_option maxHeartbeats 8000000
set_option maxRecDepth 100000
namespace Go.Proofs.YtecoeebjaleeiaaGreatDoor
open Go.ChangeShapes Go.WideShapes Go.ChangeAt Go.RowKit
theorem dR {l:List (String×DataW Unit)} {W:World} (h:laidMetH Tryz.prog l W) {n:String} {d:DataW Unit} (hm:(n,d)∈l) (hn:d.handleName?.isNone=true):Lib.VarReads Tryz.prog W n d:=
 Lib.laidMet.reads (laidMetH_iff.1 h).1 (List.mem_filter.2 ⟨hm,hn⟩)
theorem kH {W:World} {name:String} {k:IntKind} {zs:List Int} {g:Nat} {t e:TypeId} {n:Nat}
  (hg:Tryz.prog.globalNamed name=some g) (LZ:(Tryz.prog.globals[g]?).map (·.type)=some t) (ht:Tryz.prog.underlying t=some (.array n e)) (he:Tryz.prog.underlying e=some (.int k)) (hce:Tryz.prog.cellsOf e=1) (hct:Tryz.prog.cellsOf t=n)
  (h:Lib.VarReads Tryz.prog W name (Lib.tabData k zs)):Lib.TabIs Tryz.prog W name k zs:=by
 obtain⟨g',t',cs,fuel,p,OZ,PI,pK,hd⟩:=h;obtain rfl:=Option.some.inj (hg.symm.trans OZ);obtain rfl:=Option.some.inj (LZ.symm.trans PI);unfold Lib.TabIs;rw[pK,<-Lib.cells_of_tab ht he hce hct hd]
theorem oD {W:World} {name:String} {nm:String} {d:DataW Unit} {g:Nat} {t:TypeId} {ms:Array (String×TypeId)}
  (hg:Tryz.prog.globalNamed name=some g) (LZ:(Tryz.prog.globals[g]?).map (·.type)=some t) (ht:Tryz.prog.underlying t=some (.interface ms))
  (h:Lib.VarReads Tryz.prog W name (.iface nm d)):∃te pe,W.cell? ⟨g,0,none⟩=some (.iface te pe):=by
 obtain⟨g',t',cs,fuel,p,OZ,PI,pK,hd⟩:=h;obtain rfl:=Option.some.inj (hg.symm.trans OZ);obtain rfl:=Option.some.inj (LZ.symm.trans PI);have bc:=World.var?_cell hg pK 0;cases fuel with
 | zero=>simp[DataW.trod]at hd
 | succ n=>
   unfold DataW.trod at hd;rw[ht]at hd;obtain⟨cs⟩:=cs
   match cs,hd,bc with
   | [.iface u v],_,bc=>exact⟨u,v,by simpa using bc⟩
   | [.nilIface],hd,_=>simp at hd
   | [],hd,_=>simp at hd
   | _::_::_,hd,_=>simp at hd
theorem abf:Tryz.prog.globalNamed "strconv.ErrSyntax"=some 13:=by kernel_rfl
theorem abu:Tryz.prog.globalNamed "strconv.ErrRange"=some 14:=by kernel_rfl
theorem gEt:Tryz.prog.globalNamed "errors.errorType"=some 3:=by kernel_rfl
theorem Y3:(Tryz.prog.cutTypes.find? (·.1== "internal/reflectlite.rtype")).map (·.2)=some 163:=by kernel_rfl
theorem U9:((List.range Tryz.prog.types.size).filter fun t=>Tryz.prog.rowNamed t [101,114,114,111,114])=[54]:=by kernel_rfl
theorem GP {l:List (String×DataW Unit)} {W:World} (h:laidMetH Tryz.prog l W) (hm:("errors.errorType",Rows.laid_errors_errorType)∈l):
  W.cell? ⟨3,0,none⟩=some (.iface 163 (.agg #[.pointer (some ⟨15,54,none⟩)])):=by
 obtain⟨name,u,ty,e1,e2,e3,e4,e5⟩:=(laidMetH_iff.1 h).2 _ (List.mem_filter.2 ⟨hm,rfl⟩);have en:name=[101,114,114,111,114]:=(Option.some.inj e1).symm;subst en;obtain rfl:=Option.some.inj (Y3.symm.trans e2);have hm:ty∈(List.range Tryz.prog.types.size).filter fun t=>Tryz.prog.rowNamed t [101,114,114,111,114]:=List.mem_filter.2 ⟨List.mem_range.2 e3,e4⟩;rw[U9]at hm;obtain rfl:=List.mem_singleton.1 hm;have hh:typeHandle Tryz.prog 54=.pointer (some ⟨15,54,none⟩):=by kernel_rfl
 rw[hh]at e5;simpa using World.var?_cell gEt e5 0
theorem AG {w:World} {b o:Nat} {sp:Option Nat} {v:Value} (h:w.cell? ⟨b,o,sp⟩=some v):sp=none:=by
 cases sp with
 | none=>rfl
 | some x=>
   unfold World.cell? at h;split at h<;>simp at h
def YY:List Int:=[0,1,56,2,57,49,28,3,61,58,42,50,38,29,17,4,62,47,59,36,45,43,51,22,53,39,33,30,24,18,12,5,63,55,48,27,60,41,37,16,46,35,44,21,52,32,23,11,54,26,40,15,34,20,31,10,25,14,19,9,13,8,7,6]
theorem gDb:Tryz.prog.globalNamed "math/bits.deBruijn64tab"=some 12:=by kernel_rfl
theorem Bz {l:List (String×DataW Unit)} {W:World} (h:laidMetH Tryz.prog l W) (qW:W.ShapedOpen Tryz.prog)
  (m1:("internal/strconv.uint64pow10",Rows.laid_internal_strconv_uint64pow10)∈l) (m2:("errors.errorType",Rows.laid_errors_errorType)∈l)
  (m3:("strconv.ErrRange",Rows.laid_strconv_ErrRange)∈l) (m4:("strconv.ErrSyntax",Rows.laid_strconv_ErrSyntax)∈l) (m5:("math/bits.deBruijn64tab",Rows.laid_math_bits_deBruijn64tab)∈l):dQ W:=by
 have Qd:Lib.TabIs Tryz.prog W "math/bits.deBruijn64tab" .u8 YY:=kH gDb (t:=334) (by kernel_rfl) (Tryz.underlying334) (Tryz.underlying5) (by kernel_rfl) (by kernel_rfl) (dR h m5 rfl);have bc:=fun o=>World.var?_cell gDb Qd o
 exact{
  ml:=cell_of_shapedOpen_int (zero:= #[.int .i64 0]) (t:=3) qW (of_decide_eq_true (by kernel_rfl)) (by kernel_rfl) rfl (by kernel_rfl) (by kernel_rfl) (Tryz.underlying3)
  pow:=kH RC (t:=274) (by kernel_rfl) (Tryz.underlying274) (Tryz.underlying222) (by kernel_rfl) (by kernel_rfl) (dR h m1 rfl)
  syn:=oD abf (t:=54) (by kernel_rfl) (Tryz.underlying54) (dR h m4 rfl)
  rng:=oD abu (t:=54) (by kernel_rfl) (Tryz.underlying54) (dR h m3 rfl)
  et:=GP h m2
  db8:=(bc 7).trans (by rfl)
  db16:=(bc 15).trans (by rfl)
  size:=by
   have hs:(((begin Tryz.prog (fun _ _=>0) default).world.heap[15-1]?).bind Obj.row?).isSome=true:=by kernel_rfl
   obtain⟨⟨zero,t⟩,h0⟩:=Option.isSome_iff_exists.1 hs;obtain⟨cs,hc,_⟩:=qW.1 (15-1) zero t (of_decide_eq_true (by kernel_rfl)) h0;have:=(Array.getElem?_eq_some_iff.1 hc).1;omega}
theorem UP:Tryz.prog.globalNamed "unicode/utf8.first"=some 5:=by kernel_rfl
theorem aa8:Tryz.prog.globalNamed "unicode/utf8.acceptRanges"=some 6:=by kernel_rfl
theorem yQ {w:World} (h3:Lib.VarReads Tryz.prog w "unicode/utf8.first" Lib.firstData) (h4:Lib.VarReads Tryz.prog w "unicode/utf8.acceptRanges" Lib.acceptData):Lib.Utf8Tabs 5 6 w:=by
 have c5:Tryz.prog.cellsOf 5=1:=by kernel_rfl
 have c119:Tryz.prog.cellsOf 210=256:=by kernel_rfl
 have c138:Tryz.prog.cellsOf 247=2:=by kernel_rfl
 have y3:(Tryz.prog.globals[5]?).map (·.type)=some 210:=by kernel_rfl
 have y4:(Tryz.prog.globals[6]?).map (·.type)=some 248:=by kernel_rfl
 refine⟨fun c hc=>?_,fun i hi=>?_⟩
 ·obtain⟨g,t,cs,fuel,p,hg,LZ,pK,hd⟩:=h3;obtain rfl:=Option.some.inj (UP.symm.trans hg);obtain rfl:=Option.some.inj (y3.symm.trans LZ);have iZ:=Lib.cells_of_tab (Tryz.underlying210) (Tryz.underlying5) c5 c119 hd;have:=World.var?_cell hg pK c;rw[this,<-Array.getElem?_toList,iZ]
  simp[Lib.firstTab,hc]
 ·obtain⟨g,t,cs,fuel,p,hg,LZ,pK,hd⟩:=h4;obtain rfl:=Option.some.inj (aa8.symm.trans hg);obtain rfl:=Option.some.inj (y4.symm.trans LZ);obtain⟨acC,d,q,hdi,he⟩:=Lib.array_elem (Tryz.underlying248) hd i hi;simp only[List.getElem?_map,List.getElem?_range hi,Option.map_some,Option.some.injEq]at hdi;subst hdi;rw[c138]at he
  have iZ:=Lib.ints_of_struct (Tryz.underlying247) (fun j f hj=>by
   match j,hj with
   | 0,hj=>simp at hj;subst hj;exact⟨Tryz.underlying5,rfl,c5⟩
   | 1,hj=>simp at hj;subst hj;exact⟨Tryz.underlying5,rfl,c5⟩
   | j+2,hj=>simp at hj) (by rw[c138];rfl) he
  have e0:=congrArg (·[0]?) iZ;have e1:=congrArg (·[1]?) iZ;simp only[List.getElem?_take,List.getElem?_drop]at e0 e1;constructor
  ·rw[World.var?_cell hg pK (2*i),<-Array.getElem?_toList];simpa [Nat.mul_comm]using e0
  ·rw[World.var?_cell hg pK (2*i+1),<-Array.getElem?_toList];simpa [Nat.mul_comm]using e1
theorem Bt {l:List (String×DataW Unit)} {W:World} (h:laidMetH Tryz.prog l W) (qW:W.ShapedOpen Tryz.prog)
  (m1:("internal/strconv.uint64pow10",Rows.laid_internal_strconv_uint64pow10)∈l) (m2:("errors.errorType",Rows.laid_errors_errorType)∈l)
  (m3:("strconv.ErrRange",Rows.laid_strconv_ErrRange)∈l) (m4:("strconv.ErrSyntax",Rows.laid_strconv_ErrSyntax)∈l) (m5:("math/bits.deBruijn64tab",Rows.laid_math_bits_deBruijn64tab)∈l)
  (m6:("unicode/utf8.first",Rows.laid_unicode_utf8_first)∈l) (m7:("unicode/utf8.acceptRanges",Rows.laid_unicode_utf8_acceptRanges)∈l):ot W:=
 ⟨Bz h qW m1 m2 m3 m4 m5,yQ (by
  have:=dR h m6 (by kernel_rfl);rw[show Rows.laid_unicode_utf8_first=Lib.firstData from Pinned.utf8First_eq]at this;exact this) (by
  have:=dR h m7 (by kernel_rfl);rw[show(Rows.laid_unicode_utf8_acceptRanges:DataW Unit)=Lib.acceptData by kernel_rfl]at this;exact this)⟩
theorem gKw:Tryz.prog.globalNamed "lazaret/sources.keywords"=some 8:=by kernel_rfl
theorem gBt:Tryz.prog.globalNamed "lazaret/match.better"=some 4:=by kernel_rfl
theorem GG {W:World} (h:Lib.VarReads Tryz.prog W "lazaret/sources.keywords" Rows.laid_lazaret_sources_keywords):
  ∃b o c,W.cell? ⟨8,0,none⟩=some (.slice (some ⟨b,o,none⟩) 8 c)/\b<W.heap.size/\∀j,j<8->W.cell? ⟨b,o+j,none⟩=some (.string ((Lz.dX.map (fun l=>(⟨l.toArray⟩:ByteArray))).getD j ByteArray.empty)):=by
 obtain⟨g',t',cs,fuel,p,OZ,PI,pK,hd⟩:=h;obtain rfl:=Option.some.inj (gKw.symm.trans OZ);obtain rfl:=Option.some.inj ((show(Tryz.prog.globals[8]?).map (·.type)=some 30 by kernel_rfl).symm.trans PI);have bc:=World.var?_cell gKw pK 0;obtain⟨a,cap,iZ,_,fq⟩:=open_row (Tryz.underlying30) (by kernel_rfl) hd;obtain⟨b,o,sp⟩:=a
 have qP:cs[0]? =some (.slice (some ⟨b,o,sp⟩) 8 cap):=by
  rw[<-Array.getElem?_toList,iZ];rfl
 have ZH:∀j,j<8->∃s:ByteArray,W.cell? ((⟨b,o,sp⟩:Addr).add j)=some (.string s)/\s.data.toList=Lz.dX.getD j []:=by
  intro j hj
  obtain⟨v,n,q,hv,ht⟩:=fq j (.lit (.string (Lz.dX.getD j []))) (by
   match j,hj with
   | 0,_=>rfl
   | 1,_=>rfl
   | 2,_=>rfl
   | 3,_=>rfl
   | 4,_=>rfl
   | 5,_=>rfl
   | 6,_=>rfl
   | 7,_=>rfl)
  obtain⟨s,hs,hx,_⟩:=DataW.trod_string (Tryz.underlying9) ht;obtain rfl:v=.string s:=by simpa using hs
  refine⟨s,hv,?_⟩;simp only[Prod.mk.injEq,DataW.lit.injEq,Lit.string.injEq]at hx;exact hx.1.symm
 obtain⟨s0,Z8,_⟩:=ZH 0 (by omega);have Z8:W.cell? ⟨b,o,sp⟩=some (.string s0):=by simpa [Addr.add]using Z8
 obtain rfl:=AG Z8;refine⟨b,o,cap,?_,?_,?_⟩
 ·rw[bc];exact qP
 ·unfold World.cell? at Z8;rcases Nat.lt_or_ge b W.heap.size with h'|h'
  ·exact h'
  ·simp[Array.getElem?_eq_none h']at Z8
 ·intro j hj;obtain⟨s,hs,he⟩:=ZH j hj;rw[show(⟨b,o+j,none⟩:Addr)=(⟨b,o,none⟩:Addr).add j by simp[Addr.add],hs];have:s=⟨(Lz.dX.getD j []).toArray⟩:=by rw[<-he]
  rw[this]
  match j,hj with
  | 0,_=>rfl
  | 1,_=>rfl
  | 2,_=>rfl
  | 3,_=>rfl
  | 4,_=>rfl
  | 5,_=>rfl
  | 6,_=>rfl
  | 7,_=>rfl
open Go.WideElems in
theorem BP {W:World} {n:Nat} {v:Value} {ls:List (List UInt8)} {q:List MemPlace} (h:elemAt (fun _=>()) Tryz.prog W 0 (fun _=>true) false n 30 v=some (.slice (ls.map fun l=>.lit (.string l)) [],q)):bd W v ls:=by
 unfold elemAt at h;split at h
 ·rename_i hf;obtain⟨a,cap,iZ,_,fq⟩:=open_row (Tryz.underlying30) (by kernel_rfl) h;rw[List.length_map]at iZ
  have hv:v=.slice (some a) ls.length cap:=by
   cases v<;>first
    | (simp[Value.cells]at iZ;done)
    | (simp only[Value.cells]at iZ;simpa using iZ)
    | (exfalso;revert hf;simp[Value.formed,Tryz.underlying30];done)
  obtain⟨b,o,sp⟩:=a;refine⟨some ⟨b,o,sp⟩,cap,ls.map (fun l=>(⟨l.toArray⟩:ByteArray)),by rw[List.length_map];exact hv,by rw[List.map_map];exact(List.map_congr_left (fun x _=>rfl)).trans (List.map_id ls),fun j x hj=>?_⟩;rw[List.getElem?_map]at hj;obtain⟨l,hl,rfl⟩:=Option.map_eq_some_iff.1 hj;have h0l:0<ls.length:=Nat.lt_of_le_of_lt (Nat.zero_le j) (List.getElem?_eq_some_iff.1 hl).1;obtain⟨u0,m0,r0,hu0,_⟩:=fq 0 (.lit (.string ls[0])) (by rw[List.getElem?_map,List.getElem?_eq_getElem h0l];rfl);have aby:W.cell? ⟨b,o,sp⟩=some u0:=by simpa [Addr.add]using hu0
  obtain rfl:=AG aby;obtain⟨u,m,r,hu,ht⟩:=fq j (.lit (.string l)) (by rw[List.getElem?_map,hl];rfl);obtain⟨s,hs,hx,_⟩:=DataW.trod_string (Tryz.underlying9) ht;obtain rfl:u=.string s:=by simpa using hs
  have dN:s.data.toList=l:=by
   simp only[Prod.mk.injEq,DataW.lit.injEq,Lit.string.injEq]at hx;exact hx.1.symm
  have qM:W.cell? ⟨b,o+j,none⟩=some (.string s):=by
   rw[<-hu,show(⟨b,o+j,none⟩:Addr)=(⟨b,o,none⟩:Addr).add j by simp[Addr.add]]
  refine⟨b,o,rfl,World.block_lt_of_cell? _ _ qM,?_⟩;rw[qM,<-dN]
 ·cases h
def DW:List UInt8:=[104,116,116,112]
def wsL:List UInt8:=[119,115]
def Ml:List UInt8:=[119,115,115]
theorem Am (l:List UInt8) (zd:DataW Unit):(Rows.laid_lazaret_match_better (H:=Unit)).atKey (.string l) zd=if l=DW\/l=wsL\/l=Ml then .slice ((Lz.kI l).map fun x=>.lit (.string x)) []else zd:=by
 by_cases h1:l=DW
 ·subst h1;rfl
 ·by_cases h2:l=wsL
  ·subst h2;rfl
  ·by_cases h3:l=Ml
   ·subst h3;rfl
   ·rw[if_neg (by simp[h1,h2,h3])];have e1:(DW==l)=false:=beq_eq_false_iff_ne.2 (Ne.symm h1);have e2:(wsL==l)=false:=beq_eq_false_iff_ne.2 (Ne.symm h2);have e3:(Ml==l)=false:=beq_eq_false_iff_ne.2 (Ne.symm h3);unfold DW at e1;unfold wsL at e2;unfold Ml at e3;unfold Rows.laid_lazaret_match_better DataW.atKey;simp only[List.find?_cons,Lit.sameKey,e1,e2,e3,List.find?_nil]
theorem Kh {l:List UInt8} (h1:l≠DW) (h2:l≠wsL) (h3:l≠Ml):Lz.kI l=[]:=by
 unfold Lz.kI;rw[if_neg (show ¬l=Lz.nK from h1),if_neg (show ¬l=Lz.wsS from h2),if_neg (show ¬l=Lz.Mq from h3)]
open Go.WideElems Go.WideMaps in
theorem xz {W:World} (h:Lib.VarReads Tryz.prog W "lazaret/match.better" Rows.laid_lazaret_match_better):ow W:=by
 obtain⟨g',t',cs,fuel,p,OZ,PI,pK,hd⟩:=h;obtain rfl:=Option.some.inj (gBt.symm.trans OZ);obtain rfl:=Option.some.inj ((show(Tryz.prog.globals[4]?).map (·.type)=some 244 by kernel_rfl).symm.trans PI);have bc:=World.var?_cell gBt pK 0;rcases WideElems.open_map Tryz.underlying244 hd with⟨_,hx⟩|⟨bm,es,clock,n,_,iZ,hb,_,F,hx⟩
 ·cases (congrArg Prod.fst hx)
 ·have qP:cs[0]? =some (.map (some bm)):=by rw[<-Array.getElem?_toList,iZ];rfl
  refine⟨bm,es,clock,by rw[bc];exact qP,(Array.getElem?_eq_some_iff.1 hb).1,hb,fun p W' hp Mc=>?_⟩;have Wd:keyOf Tryz.prog 9 (.string p)=some (.string p.data.toList):=keyOf_string_mk Tryz.underlying9 (by unfold maxLen;omega);have hm:=congrArg Prod.fst hx
  dsimp only at hm
  rcases WideElems.fit_lookup (string_law Tryz.underlying9) Tryz.underlying244 (z:=.slice none 0 0) (w:=W') (by kernel_rfl) Mc F Wd with⟨oT,mR⟩|⟨v,y,oT,hR,mR,_⟩
  ·refine⟨_,oT,?_⟩
   have hn:Lz.kI p.data.toList=[]:=by
    have h1:=mR (.lit (.bool true));rw[<-hm,Am]at h1;split at h1
    ·cases h1
    ·rename_i AL;exact Kh (fun e=>AL (.inl e)) (fun e=>AL (.inr (.inl e))) (fun e=>AL (.inr (.inr e)))
   rw[hn];exact⟨none,0,[],rfl,rfl,fun j x hj=>by simp at hj⟩
  ·refine⟨v,oT,?_⟩
   have hy:y.1=.slice ((Lz.kI p.data.toList).map fun x=>.lit (.string x)) []:=by
    have h1:=mR (.lit (.bool true));have h2:=mR .nil;rw[<-hm,Am]at h1 h2;split at h1
    ·exact h1.symm
    ·rename_i AL;rw[if_neg AL]at h2;rw[<-h1]at h2;cases h2
   obtain⟨y1,y2⟩:=y
   dsimp only at hy
   subst hy;exact BP hR
theorem Ra {W:World} (hH:dQ W) (hU:ot W) {l:List (String×DataW Unit)} (h:laidMetH Tryz.prog l W) (m5:("lazaret/sources.keywords",Rows.laid_lazaret_sources_keywords)∈l) (m6:("lazaret/match.better",Rows.laid_lazaret_match_better)∈l):rk W:=
 ⟨⟨hH.ml,hH.pow,hH.syn,hH.rng,hH.et,GG (dR h m5 rfl),hH.size⟩,hU,xz (dR h m6 rfl)⟩
def vk:List UInt32:=[1116352408,1899447441,3049323471,3921009573,961987163,1508970993,2453635748,2870763221,3624381080,310598401,607225278,1426881987,1925078388,2162078206,2614888103,3248222580,3835390401,4022224774,264347078,604807628,770255983,1249150122,1555081692,1996064986,2554220882,2821834349,2952996808,3210313671,3336571891,3584528711,113926993,338241895,666307205,773529912,1294757372,1396182291,1695183700,1986661051,2177026350,2456956037,2730485921,2820302411,3259730800,3345764771,3516065817,3600352804,4094571909,275423344,430227734,506948616,659060556,883997877,958139571,1322822218,1537002063,1747873779,1955562222,2024104815,2227730452,2361852424,2428436474,2756734187,3204031479,3329325298]
def nN:List UInt64:=[4794697086780616226,8158064640168781261,13096744586834688815,16840607885511220156,4131703408338449720,6480981068601479193,10538285296894168987,12329834152419229976,15566598209576043074,1334009975649890238,2608012711638119052,6128411473006802146,8268148722764581231,9286055187155687089,11230858885718282805,13951009754708518548,16472876342353939154,17275323862435702243,1135362057144423861,2597628984639134821,3308224258029322869,5365058923640841347,6679025012923562964,8573033837759648693,10970295158949994411,12119686244451234320,12683024718118986047,13788192230050041572,14330467153632333762,15395433587784984357,489312712824947311,1452737877330783856,2861767655752347644,3322285676063803686,5560940570517711597,5996557281743188959,7280758554555802590,8532644243296465576,9350256976987008742,10552545826968843579,11727347734174303076,12113106623233404929,14000437183269869457,14369950271660146224,15101387698204529176,15463397548674623760,17586052441742319658,1182934255886127544,1847814050463011016,2177327727835720531,2830643537854262169,3796741975233480872,4115178125766777443,5681478168544905931,6601373596472566643,7507060721942968483,8399075790359081724,8693463985226723168,9568029438360202098,10144078919501101548,10430055236837252648,11840083180663258601,13761210420658862357,14299343276471374635,14566680578165727644,15097957966210449927,16922976911328602910,17689382322260857208,500013540394364858,748580250866718886,1242879168328830382,1977374033974150939,2944078676154940804,3659926193048069267,4368137639120453308,4836135668995329356,5532061633213252278,6448918945643986474,6902733635092675308,7801388544844847127]
theorem S9:Tryz.prog.globalNamed "lazaret/digest.table"=some 9:=by kernel_rfl
theorem Tl:Tryz.prog.globalNamed "lazaret/longs.roots"=some 10:=by kernel_rfl
theorem RH {W:World} (h:Lib.VarReads Tryz.prog W "lazaret/digest.table" Rows.laid_lazaret_digest_table):G9 vk W:=by
 have e:(Rows.laid_lazaret_digest_table:DataW Unit)=Lib.tabData .u32 (vk.map N32):=by kernel_rfl
 rw[e]at h;have hv:Lib.TabIs Tryz.prog W "lazaret/digest.table" .u32 (vk.map N32):=kH S9 (t:=288) (by kernel_rfl) (Tryz.underlying288) (Tryz.underlying135) (by kernel_rfl) (by kernel_rfl) h
 have hc:∀i,i<64->W.cell? ⟨9,i,none⟩=some (.int .u32 (N32 (vk.getD i 0))):=fun i hi=>by
  rw[World.var?_cell S9 hv i];have hl:i<vk.length:=hi;simp only[List.getElem?_toArray,List.getElem?_map,List.getElem?_eq_getElem hl,Option.map_some,List.getD_eq_getElem?_getD,Option.getD_some]
 exact⟨World.block_lt_of_cell? _ _ (hc 0 (by omega)),hc⟩
theorem QQ {W:World} (h:Lib.VarReads Tryz.prog W "lazaret/longs.roots" Rows.laid_lazaret_longs_roots):xj nN W:=by
 have e:(Rows.laid_lazaret_longs_roots:DataW Unit)=Lib.tabData .u64 (nN.map N64):=by kernel_rfl
 rw[e]at h;have hv:Lib.TabIs Tryz.prog W "lazaret/longs.roots" .u64 (nN.map N64):=kH Tl (t:=320) (by kernel_rfl) (Tryz.underlying320) (Tryz.underlying222) (by kernel_rfl) (by kernel_rfl) h
 have hc:∀i,i<80->W.cell? ⟨10,i,none⟩=some (.int .u64 (N64 (nN.getD i 0))):=fun i hi=>by
  rw[World.var?_cell Tl hv i];have hl:i<nN.length:=hi;simp only[List.getElem?_toArray,List.getElem?_map,List.getElem?_eq_getElem hl,Option.map_some,List.getD_eq_getElem?_getD,Option.getD_some]
 exact⟨World.block_lt_of_cell? _ _ (hc 0 (by omega)),hc⟩
end Go.Proofs.YtecoeebjaleeiaaGreatDoor
namespace Go.Proofs.YtecoeebjaleeiaaGreatDoor
open Go.RowKit
attribute [local go_sem ↓] Go.wp_at_zero Go.wp_at_succ
theorem Rb:(Tryz.prog.info? 51).map (fun i=>(i.zero,i.size,i.bytes))=some (some (.agg #[.string ⟨#[]⟩,.slice none 0 0]),2,40):=by kernel_rfl
def aD.row (d:aD):List Value:=[.string d.name,d.v]
def fU (w:World) (B:Nat) (v:Value) (ds:List aD):Prop:=w.ownsRow B 51 2 v ds.length (ds.flatMap aD.row)
theorem fU.below {w w':World} {B:Nat} {v:Value} {ds:List aD} (h:fU w B v ds) (hb:Below w.heap.size w w'):fU w' B v ds:=bH h hb
theorem RQ (ds:List aD):∀(j:Nat) (d:aD),ds[j]? =some d->(ds.flatMap aD.row)[j*2]? =some (.string d.name)/\(ds.flatMap aD.row)[j*2+1]? =some d.v:=by
 induction ds with
 | nil=>intro j d h;simp at h
 | cons x r ih=>
   intro j d h;cases j with
   | zero=>obtain rfl:x=d:=by simpa using h
           exact⟨rfl,rfl⟩
   | succ j=>
     have:=ih j d (by simpa using h);rw[show(j+1)*2=j*2+1+1 by omega];exact this
theorem fU.at {w:World} {B:Nat} {v:Value} {ds:List aD} (h:fU w B v ds) (hp:∀d∈ds,bd w d.v d.vals):dx w v ds:=by
 rcases h.2 with⟨rfl,h0⟩|⟨g,cap,dB,rfl,hgb,hg,hn,gL,iZ,gH⟩
 ·have:ds=[]:=List.eq_nil_of_length_eq_zero h0;subst this;exact⟨none,0,rfl,fun j d hd=>by simp at hd⟩
 ·refine⟨some ⟨g,0,none⟩,cap,rfl,fun j d hj=>⟨g,0,rfl,?_⟩⟩;obtain⟨r0,r1⟩:=RQ ds j d hj;have e0:=World.ownsRow.cells h (g:=g) rfl _ _ r0;have e1:=World.ownsRow.cells h (g:=g) rfl _ _ r1;rw[bV]at e0 e1;rw[Nat.zero_add];exact⟨e0,e1,hp d (List.mem_of_getElem? hj)⟩
def ld (w:World) (v:Value) (l:List (List UInt8)):Prop:=bd w v l/\∀G off n c,v=.slice (some ⟨G,off,none⟩) n c->∃cs fr,w.heap[G]? =some (.cells cs 9 fr)
theorem ld.below {w w':World} {v:Value} {l:List (List UInt8)} (h:ld w v l) (hb:Below w.heap.size w w'):ld w' v l:=⟨h.1.below hb,fun G off n c e=>by
 obtain⟨cs,fr,hg⟩:=h.2 G off n c e;exact⟨cs,fr,(hb.block _ (af hg)).trans hg⟩⟩
theorem ld.kept {w w':World} {v:Value} {l:List (List UInt8)} {row:Option Nat} (h:ld w v l) (hg:w.grownBy w' row) (hr:∀k,row=some k->∃cs t fr,w.heap[k]? =some (.cells cs t fr)/\t≠9):ld w' v l:=by
 have hk:∀G off n c,v=.slice (some ⟨G,off,none⟩) n c->w'.heap[G]? =w.heap[G]? :=fun G off n c e=>by
  obtain⟨cs,fr,h1⟩:=h.2 G off n c e;refine hg.block G (af h1) (fun h2=>?_);obtain⟨LY,t2,jF,h3,h4⟩:=hr G h2.symm;rw[h1]at h3;injection h3 with h3
  injection h3 with _ h5 _
  exact h4 h5.symm
 refine⟨?_,fun G off n c e=>by rw[hk G off n c e];exact h.2 G off n c e⟩;obtain⟨a,c,xs,rfl,h1,h2⟩:=h.1;refine⟨a,c,xs,rfl,h1,fun j x hj=>?_⟩;obtain⟨G,off,rfl,hG,hc⟩:=h2 j x hj;refine⟨G,off,rfl,Nat.lt_of_lt_of_le hG hg.size,?_⟩;rw[World.cell?_of_block (a:=⟨G,off+j,none⟩) (hk G off _ _ rfl)];exact hc
theorem fU.row {w:World} {B:Nat} {v:Value} {ds:List aD} (h:fU w B v ds):∀k,v.ownBlock=some k->∃cs t fr,w.heap[k]? =some (.cells cs t fr)/\t≠9:=by
 intro k hk;rcases h.2 with⟨rfl,_⟩|⟨g,cap,dB,rfl,_,hg,_⟩
 ·cases hk
 ·cases hk;exact⟨_,_,_,hg,by decide⟩
def abb (l:List Lz.il) (w:World) (e:Ending) (w':World):Prop:=∃(v:Value) (B:Nat) (ds:List aD),e=.returned v/\Hid (ds.map aD.src=l)/\fU w' B v ds/\Hid (∀d∈ds,ld w' d.v d.vals)/\Below w.heap.size w w'
theorem Rj (s:ByteArray) (hs:s.size<=90000) (w:World) (hE:Env w):Calls Tryz.prog 12 #[.string s] w (abb (Lz.BM s.data.toList) w):=by
 obtain⟨i0,hi,fI,ei,eM⟩:=info_parts Rb;have cS:=Ih (Jo s 59 (by omega) w hE);obtain⟨l,hl⟩:∃l,l=Lz.av 59 s.data.toList:=⟨_,rfl⟩;have ba:=Lz.fY 59 s.data.toList;have hpc:Hid (∀(xs:List ByteArray),xs.map (fun x:ByteArray=>x.data.toList)=l->∀x∈xs,x.size<=s.size):=Ih (fun xs hx x hm=>ip (hx.trans hl) hm);have HO:Hid (Lz.BM s.data.toList=l.foldl Lz.gX []):=Ih (by unfold Lz.BM;rw[hl]);rw[<-hl]at cS ba;rw[aa]at ba;have HL:=Ih ba;clear hl ba hE;go_enter Tryz.func12,Tryz.ntmps12
 go_wp2_with fail
 refine cS.out.mono ?_;rintro e w1 ⟨xs,rfl,gW,km⟩;obtain⟨n,hn⟩:∃n,n=xs.length:=⟨_,rfl⟩;have O6:l.length=n:=by rw[<-gW.out,List.length_map,hn]
 have ar:Below w.heap.size w w1:=by rw[km.out];exact(Below.refl _ w).alloc (Nat.le_refl _) _
 have HC:Hid (∀j x,xs[j]? =some x->w1.cell? ⟨w.heap.size,j,none⟩=some (.string x)):=Ih (fun j x hj=>by
  rw[km.out];exact rowAt (ah w _) j (.string x) (by rw[List.getElem?_toArray,List.getElem?_map,hj];rfl))
 have hn9:n<=90001:=by have:=HL.out;omega
 rw[<-hn];have HN:=Ih hn;have HLN:=Ih O6;have h0:fU w1 w1.heap.size (.slice none 0 0) []:=World.ownsRow_nil w1 _ _ _;clear hn O6 km cS HL
 go_wp2_with fail
 go_loopw [3,11] (fun o i wr=>∃(j:Nat) (ds:List aD),j<=n/\i=.int .i64 j/\ds.length<=j/\Hid (ds.map aD.src=(l.take j).foldl Lz.gX [])/\fU wr w1.heap.size o ds/\Hid (∀d∈ds,ld wr d.v d.vals)/\Below w1.heap.size w1 wr) (fun _ i _=>n-(intOf i).toNat)
 case atStart=>exact⟨0,[],Nat.zero_le _,rfl,Nat.le_refl _,Ih rfl,h0,Ih (by simp),Below.refl _ _⟩
 case round=>
  clear h0;obtain⟨j,ds,hj,rfl,hdj,SM,au,hpt,aK⟩:=hrel;by_cases aV:j<n
  ·have bW:(j:Int)<(n:Int):=by omega
   have tM:(0:Int)<=(j:Int):=by omega
   obtain⟨x,hx⟩:∃x,xs[j]? =some x:=⟨_,List.getElem?_eq_getElem (by rw[<-HN.out];exact aV)⟩
   have iD:wr.cell? ⟨w.heap.size,j,none⟩=some (.string x):=by
    have:=HC.out j x hx;exact(aK.cell (World.block_lt_of_cell? _ _ this)).trans this
   have T8:=hpc.out xs gW.out x (List.mem_of_getElem? hx)
   have gH:l.take (j+1)=l.take j++[x.data.toList]:=by
    rw[List.take_add_one,<-gW.out,List.getElem?_map,hx];rfl
   have hst:(l.take (j+1)).foldl Lz.gX []=Lz.gX (ds.map aD.src) x.data.toList:=by rw[gH,List.foldl_append,SM.out];rfl
   have cF:=Ih (tP x (by omega) wr);have XT:Hid (∀y∈Lz.aG x.data.toList,y.length<=x.size):=Ih (fun y hy=>by rw[<-aa];exact Lz.qG _ y hy);have Sb:Hid ((Lz.aG x.data.toList).length<=x.size+1):=Ih (by rw[<-aa];exact Lz.nd _);have gM:=Ih hst;clear hx gH hst SM
   go_wp2_with fail
   refine cF.out.mono ?_;rintro e w2 ⟨v2,rfl,AM,iW,mM,az⟩;obtain⟨a,c,ws,rfl,Ym,OQ⟩:=AM;have ZK:=iW _ _ _ rfl;have Fq:=Ih (mM);clear iW mM;have ft:=ac aK az;have fM:=Ih (au.below az);have WE:Hid (∀d∈ds,ld w2 d.v d.vals):=Ih (fun d hd=>(hpt.out d hd).below az);have ye:=ft.size;clear au hpt az cF;cases ws with
   | nil=>
     have HS:Hid (ds.map aD.src=(l.take (j+1)).foldl Lz.gX []):=Ih (by rw[gM.out];unfold Lz.gX;rw[<-Ym];rfl);clear Ym OQ gM XT Sb
     go_wp2_with fail
     go_roundw
     case rel=>exact⟨j+1,ds,by omega,by go_num,by omega,HS,fM.out,WE,ft⟩
     case measure=>simp[intOf];omega
   | cons x0 wt=>
     have Uj:Lz.aG x.data.toList=x0.data.toList::wt.map (fun x:ByteArray=>x.data.toList):=by rw[<-Ym];rfl
     have iB:x0.size<=x.size:=by rw[<-aa];exact XT.out _ (by rw[Uj];exact List.mem_cons_self)
     have Sl:wt.length<=x.size:=by have:=Sb.out;rw[Uj,List.length_cons,List.length_map]at this;omega
     obtain⟨G,off,rfl,hG,qP⟩:=OQ 0 x0 rfl;rw[Nat.add_zero]at qP;have HWC:=Ih OQ;have cL:=Ih (kv x0 (by omega) w2);have hwn:¬((wt.length:Int)+1=0):=by omega
     have ba:(x0::wt).length=wt.length+1:=rfl;rw[ba]at ZK⊢;have HFE:=Ih Uj;clear Ym OQ Uj XT Sb
     go_wp2_with fail
     refine cL.out.mono ?_;rintro e w3 ⟨nm,rfl,qO,aO⟩;have fi:=Ih (fM.out.below aO);have Sx:Hid (∀d∈ds,ld w3 d.v d.vals):=Ih (fun d hd=>(WE.out d hd).below aO);have cN:=Ih (ww _ ds nm w3 (fU.at fi.out (fun d hd=>(Sx.out d hd).1)) (by omega));have jc:=ac ft aO
     have Ph:Hid ((l.take (j+1)).foldl Lz.gX []=if(ds.any fun y=>y.src.name==nm.data.toList)=true then ds.map aD.src else ds.map aD.src++[⟨nm.data.toList,wt.map (fun x:ByteArray=>x.data.toList)⟩]):=Ih (by
      rw[gM.out];unfold Lz.gX;rw[HFE.out];simp only[List.any_map,qO.out];rfl)
     clear gM HFE cL fM WE
     go_wp2_with fail
     refine cN.out.mono ?_;rintro e w4 ⟨r,rfl,hr,dy⟩;have Wh:=hr.out.any;have zt:=ac jc dy;have gr:=Ih (fi.out.below dy);have aaL:Hid (∀d∈ds,ld w4 d.v d.vals):=Ih (fun d hd=>(Sx.out d hd).below dy);rw[<-Wh]at Ph;by_cases h0r:0<=r
     ·have qV:¬r<0:=by omega
      have HS:Hid (ds.map aD.src=(l.take (j+1)).foldl Lz.gX []):=Ih (by rw[Ph.out,decide_eq_true h0r,if_pos rfl]);clear hr Wh Ph h0r fi Sx cN
      go_wp2_with fail
      go_roundw
      case rel=>exact⟨j+1,ds,by omega,by go_num,by omega,HS,gr.out,aaL,zt⟩
      case measure=>simp[intOf];omega
     ·have qV:r<0:=by omega
      have HS:Hid ((l.take (j+1)).foldl Lz.gX []=ds.map aD.src++[⟨nm.data.toList,wt.map (fun x:ByteArray=>x.data.toList)⟩]):=Ih (by rw[Ph.out,decide_eq_false h0r,if_neg (by decide)]);clear hr Wh Ph h0r fi Sx cN;have b24:=ac aO dy;obtain⟨tv,htv⟩:∃tv:Value,tv=if c=1 then .slice (some ⟨G,off,none⟩) wt.length 0 else .slice (some ⟨G,off+1,none⟩) wt.length (c-1):=⟨_,rfl⟩;obtain⟨d,hd⟩:∃d:aD,d=⟨nm,tv,wt.map (fun x:ByteArray=>x.data.toList)⟩:=⟨_,rfl⟩
      have aa0:bd w4 d.v d.vals:=by
       rw[hd];show bd w4 tv _;rw[htv];split
       ·refine⟨some ⟨G,off,none⟩,0,wt,rfl,rfl,fun i y hi=>?_⟩;have:=(List.getElem?_eq_some_iff.1 hi).1;omega
       ·refine⟨some ⟨G,off+1,none⟩,c-1,wt,rfl,rfl,fun i y hi=>⟨G,off+1,rfl,Nat.lt_of_lt_of_le hG b24.size,?_⟩⟩;obtain⟨G',acg,e1,e2,e3⟩:=HWC.out (i+1) y hi;injection e1 with e1
        injection e1 with e1 e1'
        subst e1 e1';rw[show off+1+i=off+(i+1) by omega];exact(b24.cell (p:=⟨G,off+(i+1),none⟩) e2).trans e3
      have hdp:ld w4 d.v d.vals:=⟨aa0,fun G1 o1 n1 c1 e=>by
       obtain⟨cs,fr,hg⟩:=Fq.out G off _ _ rfl
       have eG:G1=G:=by
        rw[hd]at e;have e:tv=_:=e;rw[htv]at e;split at e<;>cases e<;>rfl
       rw[eG];exact⟨cs,fr,(b24.block _ (af hg)).trans hg⟩⟩
      have aZ:(c=1/\aD.row d=[.string nm,.slice (some ⟨G,off,none⟩) wt.length 0])\/(¬c=1/\aD.row d=[.string nm,.slice (some ⟨G,off+1,none⟩) wt.length (c-1)]):=by
       rw[hd,htv];by_cases h:c=1
       ·rw[if_pos h];exact .inl ⟨h,rfl⟩
       ·rw[if_neg h];exact .inr ⟨h,rfl⟩
      have ab1:=zt.size;have Hdp:=Ih hdp;have acu:Hid (d.src=⟨nm.data.toList,wt.map (fun x:ByteArray=>x.data.toList)⟩):=Ih (by rw[hd];rfl);clear hd htv hdp aa0 b24 aO dy HWC ZK;rcases aZ with⟨iD,aZ⟩|⟨iD,aZ⟩
      all_goals
       have dV:=Ih aZ;clear aZ
       go_wp2_with (at_builtin;refine wpList_append_own _ rfl (.tmp 28) (.tmp 33) 23 rfl w1.heap.size 51 i0 (.agg #[.string ⟨#[]⟩,.slice none 0 0]) 2 40 Tryz.underlying23 hi fI ei eM rfl (by decide) _ _ _ rfl (World.ownsRow.alloc gr.out _) ⟨w4.heap.size,0,none⟩ 1 1 (aD.row d) rfl (by rw[dV.out];rfl) (by rw[dV.out];exact mC _ _ _) (by rw[dV.out];simp[Value.oneCell']) (by unfold maxLen;omega) (by omega) (by simp;omega) ?_)
       intro v5 w5 eL LX _;have aI:=Below.grown1 zt gr.out LX ab1 (Nat.le_refl _)
       have ZM:fU w5 w1.heap.size v5 (ds++[d]):=by
        unfold fU;rw[List.length_append,List.flatMap_append];simpa using eL
       have V0:∀(u:Value) (m:List (List UInt8)),ld w4 u m->ld w5 u m:=fun u m hu=>(hu.below ((Below.refl _ w4).alloc (Nat.le_refl _) _)).kept LX (fun k hk=>fU.row (gr.out.below ((Below.refl _ w4).alloc (Nat.le_refl _) _)) k hk);have HO5:=Ih ZM
       have ab2:Hid (∀y∈ds++[d],ld w5 y.v y.vals):=Ih (fun y hy=>by
        rcases List.mem_append.1 hy with h|h
        ·exact V0 _ _ (aaL.out y h)
        ·rw[List.mem_singleton.1 h];exact V0 _ _ Hdp.out)
       have pB:Hid ((ds++[d]).map aD.src=(l.take (j+1)).foldl Lz.gX []):=Ih (by rw[HS.out,List.map_append];simp only[List.map_cons,List.map_nil,acu.out]);clear eL LX ZM V0
       go_wp2_with fail
       go_roundw
       case rel=>exact⟨j+1,ds++[d],by omega,by go_num,by rw[List.length_append];simp;omega,pB,HO5.out,ab2,aI⟩
       case measure=>simp[intOf];omega
  ·have bW:¬(j:Int)<(n:Int):=by omega
   have HV:Hid (ds.map aD.src=Lz.BM s.data.toList):=by
    show _=_;rw[SM.out,HO.out,List.take_of_length_le (by rw[HLN.out];omega)]
   clear SM
   go_wp2_with fail
   go_ret;exact⟨_,_,ds,rfl,HV,au,hpt,ac ar aK⟩
attribute [local go_sem ↓] Go.wp_at_zero Go.wp_at_succ
theorem Aq {α:Type} {ys:List α} {p:α->Bool} {j:Nat} {x:α} (h:(ys.take j).any p=false) (hx:ys[j]? =some x):(ys.take (j+1)).any p=p x:=by
 rw[List.take_add_one,hx,List.any_append,h];simp
theorem zT {α:Type} {ys:List α} {p:α->Bool} {j:Nat} {x:α} (hx:ys[j]? =some x) (h:p x=true):ys.any p=true:=List.any_eq_true.2 ⟨x,List.mem_of_getElem? hx,h⟩
def mX (d:Lz.il):Bool:=(decide (200<d.name.length)||decide (20<d.vals.length))||d.vals.any fun x=>decide (200<x.length)
def lR (l:List Lz.il):Bool:=decide (20<l.length)||l.any mX
theorem sL {l:List Lz.il} (h:lR l=false):dO l:=by
 unfold lR at h;rw[Bool.or_eq_false_iff]at h;refine⟨by have:=of_decide_eq_false h.1;omega,fun d hd=>?_⟩;have:=List.any_eq_false.1 h.2 d hd;unfold mX at this;simp only[Bool.or_eq_true,decide_eq_true_eq,List.any_eq_true,not_or,not_exists,not_and]at this;obtain⟨⟨h1,h2⟩,h3⟩:=this;exact⟨by omega,by omega,fun x hx=>by have:=h3 x hx;omega⟩
theorem uG (p:aE) (w:World) (h:dx w p.v p.ds):Calls Tryz.prog 6 #[p.val] w (aC (lR (p.ds.map aD.src)) w):=by
 obtain⟨pv,ys,rep⟩:=p
 dsimp only at h
 obtain⟨V,hV⟩:∃V,V=w.alloc (.cells #[pv,.bool rep] 25):=⟨_,rfl⟩;have eE:Below w.heap.size w V:=by rw[hV];exact(Below.refl _ w).alloc (Nat.le_refl _) _
 have hB:V.heap[w.heap.size]? =some (.cells #[pv,.bool rep] 25 (0,0)):=by rw[hV];exact ah _ _
 have hd:=h.below eE;obtain⟨a,c,rfl,hx⟩:=hd;have c0:=rowAt hB 0 _ rfl;have c1:=rowAt hB 1 _ rfl;have Hx:=Ih hx;obtain⟨R,hR⟩:∃R,R=lR (ys.map aD.src):=⟨_,rfl⟩;rw[<-hR];unfold lR at hR;rw[List.length_map]at hR;obtain⟨n,hn⟩:∃n,n=ys.length:=⟨_,rfl⟩;rw[<-hn]at hR c0 hV;have HV:=Ih hV;have HN:=Ih hn;clear hV hB h hx hn
 dsimp only[aE.val]
 rw[<-HN.out];by_cases h20:20<n
 ·have abQ:(20:Int)<(n:Int):=by omega
  have HW:Hid (R=true):=by show _=_;rw[hR,decide_eq_true h20];rfl
  clear hR;go_enter Tryz.func6,Tryz.ntmps6
  go_upto_region 1 with fail
  rw[<-HV.out]
  go_wp2_with fail
  go_ret;exact⟨by rw[HW.out];rfl,eE⟩
 ·have abQ:¬(20:Int)<(n:Int):=by omega
  rw[decide_eq_false h20,Bool.false_or]at hR;have HR:=Ih hR;clear hR;go_enter Tryz.func6,Tryz.ntmps6
  go_upto_region 1 with fail
  rw[<-HV.out]
  go_wp2_with fail
  go_loopw [3] (fun i wr=>∃j:Nat,j<=n/\i=.int .i64 (j:Int)/\Hid (((ys.map aD.src).take j).any mX=false)/\V=wr) (fun i _=>n-(intOf i).toNat)
  case atStart=>exact⟨0,Nat.zero_le _,rfl,Ih (by simp),rfl⟩
  case round=>
   obtain⟨j,hj,rfl,hT,rfl⟩:=hrel;by_cases aV:j<n
   ·have bW:(j:Int)<(n:Int):=by omega
    have tM:(0:Int)<=(j:Int):=by omega
    obtain⟨d,hdj⟩:∃d,ys[j]? =some d:=⟨_,List.getElem?_eq_getElem (by rw[<-HN.out];exact aV)⟩;have hy:(ys.map aD.src)[j]? =some d.src:=by rw[List.getElem?_map,hdj];rfl
    obtain⟨g,off,rfl,mR⟩:=Hx.out j d hdj;have hN:=Ih (Aq (p:=mX) hT.out hy);have hA:=Ih (zT (p:=mX) hy);obtain⟨nm,dv,l⟩:=d;obtain⟨d0,d1,a2,c2,ws,Lp,Sl,OQ⟩:=mR
    dsimp only at d0 d1 Lp Sl
    subst Lp;have sr:aD.src (aD.mk nm (.slice a2 ws.length c2) l)=⟨nm.data.toList,l⟩:=rfl;rw[sr]at hN hA;have hlm:l.length=ws.length:=by rw[<-Sl,List.length_map]
    have hnl:nm.data.toList.length=nm.size:=aa nm;obtain⟨m,hm⟩:∃m,m=ws.length:=⟨_,rfl⟩
    have HG:Hid (mX ⟨nm.data.toList,l⟩=((decide (200<nm.size)||decide (20<m))||l.any fun x=>decide (200<x.length))):=by
     show _=_;unfold mX
     dsimp only
     rw[hnl,hlm,hm]
    rw[<-hm]at d1;have HM:=Ih hm;have HWC:=Ih OQ;have HWL:=Ih Sl;have HLM:=Ih hlm;clear hdj hy hT hm OQ Sl hlm hnl sr;by_cases hb:200<nm.size
    ·have hbI:(200:Int)<(nm.size:Int):=by omega
     have HW:Hid (R=true):=by show _=_;rw[HR.out];exact hA.out (by rw[HG.out,decide_eq_true hb];rfl)
     clear hN hA HG
     go_wp2_with fail
     go_ret;exact⟨by rw[HW.out];rfl,eE⟩
    ·have hbI:¬(200:Int)<(nm.size:Int):=by omega
     by_cases aaW:20<m
     ·have hmI:(20:Int)<(m:Int):=by omega
      have HW:Hid (R=true):=by show _=_;rw[HR.out];exact hA.out (by rw[HG.out,decide_eq_true aaW,Bool.or_true,Bool.true_or])
      clear hN hA HG
      go_wp2_with fail
      go_ret;exact⟨by rw[HW.out];rfl,eE⟩
     ·have hmI:¬(20:Int)<(m:Int):=by omega
      have oX:Hid (mX ⟨nm.data.toList,l⟩=l.any fun x=>decide (200<x.length)):=by
       show _=_;rw[HG.out,decide_eq_false hb,decide_eq_false aaW];rfl
      clear HG
      go_wp2_with fail
      go_loopw [4] (fun i wr=>∃k:Nat,k<=m/\i=.int .i64 (k:Int)/\Hid ((l.take k).any (fun x=>decide (200<x.length))=false)/\V=wr) (fun i _=>m-(intOf i).toNat)
      case atStart=>exact⟨0,Nat.zero_le _,rfl,Ih (by simp),rfl⟩
      case round=>
       obtain⟨k,hk,rfl,hT,rfl⟩:=hrel;by_cases oY:k<m
       ·have aa1:(k:Int)<(m:Int):=by omega
        have yx:(0:Int)<=(k:Int):=by omega
        obtain⟨x,hxk⟩:∃x,ws[k]? =some x:=⟨_,List.getElem?_eq_getElem (by rw[<-HM.out];exact oY)⟩;have P1:l[k]? =some x.data.toList:=by rw[<-HWL.out,List.getElem?_map,hxk];rfl
        obtain⟨g2,o2,rfl,zl,su⟩:=HWC.out k x hxk;have Qa:=Ih (Aq (p:=fun x=>decide (200<x.length)) hT.out P1);have hA2:=Ih (zT (p:=fun x=>decide (200<x.length)) P1);have Cq:x.data.toList.length=x.size:=aa x;clear hxk P1 hT;by_cases az:200<x.size
        ·have abN:(200:Int)<(x.size:Int):=by omega
         have HW:Hid (R=true):=by show _=_;rw[HR.out];exact hA.out (by rw[oX.out];exact hA2.out (decide_eq_true (by rw[Cq];exact az)))
         clear hN hA Qa hA2 Cq oX
         go_wp2_with fail
         go_ret;exact⟨by rw[HW.out];rfl,eE⟩
        ·have abN:¬(200:Int)<(x.size:Int):=by omega
         have HS:Hid ((l.take (k+1)).any (fun x=>decide (200<x.length))=false):=by show _=_;rw[Qa.out];exact decide_eq_false (by rw[Cq];exact az)
         clear Qa hA2 Cq
         go_wp2_with fail
         go_roundw
         case rel=>exact⟨k+1,by omega,by go_num,HS,by first |rfl|trivial⟩
         case measure=>simp[intOf];omega
       ·have aa1:¬(k:Int)<(m:Int):=by omega
        have HS:Hid (((ys.map aD.src).take (j+1)).any mX=false):=by
         show _=_;rw[hN.out,oX.out,<-List.take_of_length_le (l:=l) (i:=k) (by rw[HLM.out,<-HM.out];omega),hT.out]
        clear hT hN hA oX
        go_wp2_with fail
        go_roundw
        case rel=>exact⟨j+1,by omega,by go_num,HS,by first |rfl|trivial⟩
        case measure=>simp[intOf];omega
   ·have bW:¬(j:Int)<(n:Int):=by omega
    have HW:Hid (R=false):=by
     show _=_;rw[HR.out,<-List.take_of_length_le (l:=ys.map aD.src) (i:=j) (by rw[List.length_map,<-HN.out];omega),hT.out]
    clear hT
    go_wp2_with fail
    go_ret;exact⟨by rw[HW.out];rfl,eE⟩
end Go.Proofs.YtecoeebjaleeiaaGreatDoor
namespace Go.Proofs.YtecoeebjaleeiaaGreatDoor
open Go.ChangeShapes Go.WideShapes Go.ChangeAt Go.RowKit
theorem kV:Tryz.prog.cellsOf 9=1:=by kernel_rfl
theorem Q9:Tryz.prog.cellsOf 4=1:=by kernel_rfl
theorem cellsIn:Tryz.prog.cellsOf 3=1:=by kernel_rfl
theorem Qr:Tryz.prog.cellsOf 30=1:=by kernel_rfl
section
variable {H:Type} {enc:TypeId×Value->H} {W:World} {base:Nat} {sp:Nat->Bool} {hd:Bool} {v:Value} {fuel:Nat} {x:Option (DataW H×List MemPlace)}
theorem mg (h:DataW.trod enc Tryz.prog W base sp hd fuel 9 [v]=x) (hx:x.isSome=true):∃s:ByteArray,v=.string s:=by
 obtain⟨y,rfl⟩:=Option.isSome_iff_exists.1 hx;obtain⟨s,h1,_⟩:=DataW.trod_string Tryz.underlying9 h;exact⟨s,List.singleton_inj.1 h1⟩
theorem K0 (h:DataW.trod enc Tryz.prog W base sp hd fuel 4 [v]=x) (hx:x.isSome=true):∃b:Bool,v=.bool b:=by
 obtain⟨y,rfl⟩:=Option.isSome_iff_exists.1 hx;obtain⟨b,h1,_⟩:=DataW.trod_bool Tryz.underlying4 h;exact⟨b,List.singleton_inj.1 h1⟩
theorem EO (h:DataW.trod enc Tryz.prog W base sp hd fuel 3 [v]=x) (hx:x.isSome=true):∃n:Int,v=.int .i64 n/\ -9223372036854775808<=n/\n<=9223372036854775807:=by
 obtain⟨y,rfl⟩:=Option.isSome_iff_exists.1 hx;obtain⟨n,h1,_,hw⟩:=DataW.trod_int Tryz.underlying3 h;simp only[Lit.wf,Bool.and_eq_true,decide_eq_true_eq]at hw;rw[show IntKind.i64.min= -9223372036854775808 by decide,show IntKind.i64.max=9223372036854775807 by decide]at hw;exact⟨n,List.singleton_inj.1 h1,hw.1,hw.2⟩
theorem K2 (h:DataW.trod enc Tryz.prog W base sp hd fuel 30 [v]=x) (hx:x.isSome=true):∃l,bd W v l:=by
 obtain⟨y,rfl⟩:=Option.isSome_iff_exists.1 hx;rcases open_strings Tryz.underlying30 Tryz.underlying9 kV h with⟨h0,_⟩|⟨a,len,cap,ss,iZ,_,hl,hm,hz,_,bc,_⟩
 ·obtain rfl:=List.singleton_inj.1 h0;exact⟨[],none,0,[],rfl,rfl,fun j x hj=>by simp at hj⟩
 ·obtain rfl:=List.singleton_inj.1 iZ;have ba:len<=ss.length:=by rw[hz];split<;>omega
  refine⟨_,some a,cap,ss.take len,by rw[List.length_take,Nat.min_eq_left ba],rfl,fun j x hj=>?_⟩
  have hj':j<len:=by
   have:=(List.getElem?_eq_some_iff.1 hj).1;rw[List.length_take]at this;omega
  have Ic:ss[j]? =some x:=by
   rw[List.getElem?_take,if_pos hj']at hj;exact hj
  have hc:=bc j (by omega);rw[List.getD_eq_getElem?_getD,Ic]at hc;change W.cell? (a.add j)=some (.string x)at hc;obtain⟨B,off,Ip⟩:=a
  have aaY:Ip=none:=by
   have h1:=bc 0 (by omega);simpa [Addr.add]using World.cell?_spot h1
  subst aaY;rw[Go.WideShapes.add_plain]at hc;exact⟨B,off,rfl,World.block_lt_of_cell? _ _ hc,hc⟩
theorem iQ {f:Field} {cs:List Value} {t:TypeId} {y:Option (DataW H×List MemPlace)} (h:DataW.trod enc Tryz.prog W base sp hd fuel f.type ((cs.drop f.offset).take (Tryz.prog.cellsOf f.type))=y) (ht:f.type=t) (hc:Tryz.prog.cellsOf t=1) {c:Value} {r:List Value} (hd':cs.drop f.offset=c::r):DataW.trod enc Tryz.prog W base sp hd fuel t [c]=y:=by
 subst ht;rw[hc,hd']at h;exact h
end
end Go.Proofs.YtecoeebjaleeiaaGreatDoor
