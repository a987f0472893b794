/-
  lazaretref26: Scheme, None.
-/
import Derived.Test.YtibcmemcfjhgmaaGreatDoorV21
import Derived.Test.YtibcmemcfjhgmaaGreatDoorV25
import Derived.Test.YtibcmemcfjhgmaaGreatDoorV15
import Derived.Test.YtibcmemcfjhgmaaGreatDoorRows
import Derived.ProofKit
import Derived.OpenShut
import Derived.Deep.DeepWitnessRowRef
import Derived.LaidMore
import Derived.LaidSub
import Derived.PinnedBridge
set_option maxHeartbeats 4000000
set_option maxRecDepth 100000
namespace Go.Proofs.YtibcmemcfjhgmaaGreatDoor
open Go.ChangeShapes Go.WideShapes Go.ChangeAt Go.RowKit
theorem ef {l:List (String×DataW Unit)} {W:World} (h:laidMetH Tryz.prog l W) {n:String} {d:DataW Unit} (hm:(n,d)∈l) (hn:d.handleName?.isNone=true):Lib.VarReads Tryz.prog W n d:=
 Lib.laidMet.reads (laidMetH_iff.1 h).1 (List.mem_filter.2 ⟨hm,hn⟩)
theorem jv {W:World} {name:String} {k:IntKind} {zs:List Int} {g:Nat} {t e:TypeId} {n:Nat}
  (hg:Tryz.prog.globalNamed name=some g) (Oj:(Tryz.prog.globals[g]?).map (·.type)=some t) (ht:Tryz.prog.underlying t=some (.array n e)) (he:Tryz.prog.underlying e=some (.int k)) (hce:Tryz.prog.cellsOf e=1) (hct:Tryz.prog.cellsOf t=n)
  (h:Lib.VarReads Tryz.prog W name (Lib.tabData k zs)):Lib.TabIs Tryz.prog W name k zs:=by
 obtain⟨g',t',cs,fuel,p,V1,Sp,tn,hd⟩:=h;obtain rfl:=Option.some.inj (hg.symm.trans V1);obtain rfl:=Option.some.inj (Oj.symm.trans Sp);unfold Lib.TabIs;rw[tn,<-Lib.cells_of_tab ht he hce hct hd]
theorem mP {W:World} {name:String} {nm:String} {d:DataW Unit} {g:Nat} {t:TypeId} {ms:Array (String×TypeId)}
  (hg:Tryz.prog.globalNamed name=some g) (Oj:(Tryz.prog.globals[g]?).map (·.type)=some t) (ht:Tryz.prog.underlying t=some (.interface ms))
  (h:Lib.VarReads Tryz.prog W name (.iface nm d)):∃te pe,W.cell? ⟨g,0,none⟩=some (.iface te pe):=by
 obtain⟨g',t',cs,fuel,p,V1,Sp,tn,hd⟩:=h;obtain rfl:=Option.some.inj (hg.symm.trans V1);obtain rfl:=Option.some.inj (Oj.symm.trans Sp);have bH:=World.var?_cell hg tn 0;cases fuel with
 | zero=>simp[DataW.trod]at hd
 | succ n=>
   unfold DataW.trod at hd;rw[ht]at hd;obtain⟨cs⟩:=cs
   match cs,hd,bH with
   | [.iface u v],_,bH=>exact⟨u,v,by simpa using bH⟩
   | [.nilIface],hd,_=>simp at hd
   | [],hd,_=>simp at hd
   | _::_::_,hd,_=>simp at hd
theorem aaR:Tryz.prog.globalNamed "strconv.ErrSyntax"=some 11:=by kernel_rfl
theorem aa0:Tryz.prog.globalNamed "strconv.ErrRange"=some 12:=by kernel_rfl
theorem gEt:Tryz.prog.globalNamed "errors.errorType"=some 3:=by kernel_rfl
theorem Za:(Tryz.prog.cutTypes.find? (·.1== "internal/reflectlite.rtype")).map (·.2)=some 223:=by kernel_rfl
theorem UL:((List.range Tryz.prog.types.size).filter fun t=>Tryz.prog.rowNamed t [101,114,114,111,114])=[74]:=by kernel_rfl
theorem Fj {l:List (String×DataW Unit)} {W:World} (h:laidMetH Tryz.prog l W) (hm:("errors.errorType",Rows.laid_errors_errorType)∈l):
  W.cell? ⟨3,0,none⟩=some (.iface 223 (.agg #[.pointer (some ⟨15,74,none⟩)])):=by
 obtain⟨name,u,ty,e1,e2,e3,e4,e5⟩:=(laidMetH_iff.1 h).2 _ (List.mem_filter.2 ⟨hm,rfl⟩);have en:name=[101,114,114,111,114]:=(Option.some.inj e1).symm;subst en;obtain rfl:=Option.some.inj (Za.symm.trans e2);have hm:ty∈(List.range Tryz.prog.types.size).filter fun t=>Tryz.prog.rowNamed t [101,114,114,111,114]:=List.mem_filter.2 ⟨List.mem_range.2 e3,e4⟩;rw[UL]at hm;obtain rfl:=List.mem_singleton.1 hm;have hh:typeHandle Tryz.prog 74=.pointer (some ⟨15,74,none⟩):=by kernel_rfl
 rw[hh]at e5;simpa using World.var?_cell gEt e5 0
theorem yp {w:World} {b o:Nat} {sp:Option Nat} {v:Value} (h:w.cell? ⟨b,o,sp⟩=some v):sp=none:=by
 cases sp with
 | none=>rfl
 | some x=>
   unfold World.cell? at h;split at h<;>simp at h
def YL:List Int:=[0,1,56,2,57,49,28,3,61,58,42,50,38,29,17,4,62,47,59,36,45,43,51,22,53,39,33,30,24,18,12,5,63,55,48,27,60,41,37,16,46,35,44,21,52,32,23,11,54,26,40,15,34,20,31,10,25,14,19,9,13,8,7,6]
theorem gDb:Tryz.prog.globalNamed "math/bits.deBruijn64tab"=some 14:=by kernel_rfl
theorem Ar {l:List (String×DataW Unit)} {W:World} (h:laidMetH Tryz.prog l W) (tK:W.ShapedOpen Tryz.prog)
  (m1:("internal/strconv.uint64pow10",Rows.laid_internal_strconv_uint64pow10)∈l) (m2:("errors.errorType",Rows.laid_errors_errorType)∈l)
  (m3:("strconv.ErrRange",Rows.laid_strconv_ErrRange)∈l) (m4:("strconv.ErrSyntax",Rows.laid_strconv_ErrSyntax)∈l) (m5:("math/bits.deBruijn64tab",Rows.laid_math_bits_deBruijn64tab)∈l):eU W:=by
 have X1:Lib.TabIs Tryz.prog W "math/bits.deBruijn64tab" .u8 YL:=jv gDb (t:=363) (by kernel_rfl) (Tryz.underlying363) (Tryz.underlying5) (by kernel_rfl) (by kernel_rfl) (ef h m5 rfl);have bH:=fun o=>World.var?_cell gDb X1 o
 exact{
  ml:=cell_of_shapedOpen_int (zero:= #[.int .i64 0]) (t:=3) tK (of_decide_eq_true (by kernel_rfl)) (by kernel_rfl) rfl (by kernel_rfl) (by kernel_rfl) (Tryz.underlying3)
  pow:=jv PF (t:=332) (by kernel_rfl) (Tryz.underlying332) (Tryz.underlying131) (by kernel_rfl) (by kernel_rfl) (ef h m1 rfl)
  syn:=mP aaR (t:=74) (by kernel_rfl) (Tryz.underlying74) (ef h m4 rfl)
  rng:=mP aa0 (t:=74) (by kernel_rfl) (Tryz.underlying74) (ef h m3 rfl)
  et:=Fj h m2
  db8:=(bH 7).trans (by rfl)
  db16:=(bH 15).trans (by rfl)
  size:=by
   have hs:(((begin Tryz.prog (fun _ _=>0) default).world.heap[15-1]?).bind Obj.row?).isSome=true:=by kernel_rfl
   obtain⟨⟨zero,t⟩,h0⟩:=Option.isSome_iff_exists.1 hs;obtain⟨cs,hc,_⟩:=tK.1 (15-1) zero t (of_decide_eq_true (by kernel_rfl)) h0;have:=(Array.getElem?_eq_some_iff.1 hc).1;omega}
theorem UZ:Tryz.prog.globalNamed "unicode/utf8.first"=some 8:=by kernel_rfl
theorem aa7:Tryz.prog.globalNamed "unicode/utf8.acceptRanges"=some 9:=by kernel_rfl
theorem xw {w:World} (h3:Lib.VarReads Tryz.prog w "unicode/utf8.first" Lib.firstData) (h4:Lib.VarReads Tryz.prog w "unicode/utf8.acceptRanges" Lib.acceptData):Lib.Utf8Tabs 8 9 w:=by
 have c5:Tryz.prog.cellsOf 5=1:=by kernel_rfl
 have c119:Tryz.prog.cellsOf 260=256:=by kernel_rfl
 have c138:Tryz.prog.cellsOf 307=2:=by kernel_rfl
 have y3:(Tryz.prog.globals[8]?).map (·.type)=some 260:=by kernel_rfl
 have y4:(Tryz.prog.globals[9]?).map (·.type)=some 308:=by kernel_rfl
 refine⟨fun c hc=>?_,fun i hi=>?_⟩
 ·obtain⟨g,t,cs,fuel,p,hg,Oj,tn,hd⟩:=h3;obtain rfl:=Option.some.inj (UZ.symm.trans hg);obtain rfl:=Option.some.inj (y3.symm.trans Oj);have iF:=Lib.cells_of_tab (Tryz.underlying260) (Tryz.underlying5) c5 c119 hd;have:=World.var?_cell hg tn c;rw[this,<-Array.getElem?_toList,iF]
  simp[Lib.firstTab,hc]
 ·obtain⟨g,t,cs,fuel,p,hg,Oj,tn,hd⟩:=h4;obtain rfl:=Option.some.inj (aa7.symm.trans hg);obtain rfl:=Option.some.inj (y4.symm.trans Oj);obtain⟨acv,d,q,hdi,he⟩:=Lib.array_elem (Tryz.underlying308) hd i hi;simp only[List.getElem?_map,List.getElem?_range hi,Option.map_some,Option.some.injEq]at hdi;subst hdi;rw[c138]at he
  have iF:=Lib.ints_of_struct (Tryz.underlying307) (fun j f hj=>by
   match j,hj with
   | 0,hj=>simp at hj;subst hj;exact⟨Tryz.underlying5,rfl,c5⟩
   | 1,hj=>simp at hj;subst hj;exact⟨Tryz.underlying5,rfl,c5⟩
   | j+2,hj=>simp at hj) (by rw[c138];rfl) he
  have e0:=congrArg (·[0]?) iF;have e1:=congrArg (·[1]?) iF;simp only[List.getElem?_take,List.getElem?_drop]at e0 e1;constructor
  ·rw[World.var?_cell hg tn (2*i),<-Array.getElem?_toList];simpa [Nat.mul_comm]using e0
  ·rw[World.var?_cell hg tn (2*i+1),<-Array.getElem?_toList];simpa [Nat.mul_comm]using e1
theorem zk {l:List (String×DataW Unit)} {W:World} (h:laidMetH Tryz.prog l W) (tK:W.ShapedOpen Tryz.prog)
  (m1:("internal/strconv.uint64pow10",Rows.laid_internal_strconv_uint64pow10)∈l) (m2:("errors.errorType",Rows.laid_errors_errorType)∈l)
  (m3:("strconv.ErrRange",Rows.laid_strconv_ErrRange)∈l) (m4:("strconv.ErrSyntax",Rows.laid_strconv_ErrSyntax)∈l) (m5:("math/bits.deBruijn64tab",Rows.laid_math_bits_deBruijn64tab)∈l)
  (m6:("unicode/utf8.first",Rows.laid_unicode_utf8_first)∈l) (m7:("unicode/utf8.acceptRanges",Rows.laid_unicode_utf8_acceptRanges)∈l):wg W:=
 ⟨Ar h tK m1 m2 m3 m4 m5,xw (by
  have:=ef h m6 (by kernel_rfl);rw[show Rows.laid_unicode_utf8_first=Lib.firstData from Pinned.utf8First_eq]at this;exact this) (by
  have:=ef h m7 (by kernel_rfl);rw[show(Rows.laid_unicode_utf8_acceptRanges:DataW Unit)=Lib.acceptData by kernel_rfl]at this;exact this)⟩
end Go.Proofs.YtibcmemcfjhgmaaGreatDoor
namespace Lz
open Go
theorem Mc {vs:List Bs} (h:((aM vs).any fun x=>x.kind==5)=false) (s1 s2:Int->Bs->Bs) (t1 t2:Bs):gl s1 vs t1=gl s2 vs t2:=by
 have:∀s t,gl s vs t=false:=fun s t=>by
  unfold gl;rw[List.any_eq_false]at h⊢;intro x hx;have:=h x hx;simp only[Bool.not_eq_true]at this;rw[this];simp
 rw[this,this]
theorem iO {vs:List Bs} (h:((aM vs).any fun x=>x.kind==5)=false) (s1 s2:Int->Bs->Bs) (kind:Int) (n t1 t2:Bs):cw s1 kind vs n t1=cw s2 kind vs n t2:=by
 unfold cw;rw[Mc h s1 s2 t1 t2]
def xI (_:Int) (_:Bs):Bs:=[]
def iP:Bs:=[39,110,111,110,99,101,45,97,39]
def ni:Bs:=[104,116,116,112,115,58]
def eK:Bs:=[97,108,101,114,116,40,49,41]
section
variable (sum:Int->Bs->Bs)
theorem Cm (kind:Int) (h1:1<=kind) (h5:kind<=5):cw sum kind [hJ] [] [120]=true:=by
 rw[iO (by decide +kernel) sum xI kind [] [120] []];obtain rfl|rfl|rfl|rfl|rfl:kind=1\/kind=2\/kind=3\/kind=4\/kind=5:=by omega
 all_goals decide +kernel
theorem YS:cw sum 1 [hJ,iP] [97] [120]=true:=by rw[iO (by decide +kernel) sum xI 1 [97] [120] []];decide +kernel
theorem Y9:cw sum 1 [hJ,iP] [98] [120]=false:=by rw[iO (by decide +kernel) sum xI 1 [98] [120] []];decide +kernel
theorem Yy:cw sum 2 [hJ,iP] [97] [120]=false:=by rw[iO (by decide +kernel) sum xI 2 [97] [120] []];decide +kernel
theorem YF:cw sum 1 [hJ,gE] [] [120]=false:=by rw[iO (by decide +kernel) sum xI 1 [] [120] []];decide +kernel
theorem Ze:cw sum 4 [hJ,gE] [] [120]=true:=by rw[iO (by decide +kernel) sum xI 4 [] [120] []];decide +kernel
end
section
variable {kM:Int->Bs->Bs}
theorem X8 (hd:∀b t,kM b t≠[]):cw (dm kM) 1 [fC kM 0 eK] [] eK=true:=by rw[sE hd 0 eK 1 (by omega) (by omega)];rfl
theorem Zq (hd:∀b t,kM b t≠[]):cw (dm kM) 2 [fC kM 0 eK] [] eK=false:=by rw[sE hd 0 eK 2 (by omega) (by omega)];rfl
theorem YX (hd:∀b t,kM b t≠[]):cw (dm kM) 2 [fC kM 0 eK,nL] [] eK=true:=by
 have hl:aM [fC kM 0 eK,nL]=[ig (dm kM 256 eK) 256,EC fX]:=by
  have h:=nO hd 0 eK;rw[oN]at h⊢;rw[oN,zG]
  have h2:(a8 (fC kM 0 eK)).toList=[ig (dm kM 256 eK) 256]:=by
   have e:aM []=[]:=rfl;rw[e,List.append_nil]at h;exact h
  rw[h2];rfl
 unfold cw;rw[if_neg (by rw[Nz];simp),vp (x:=ig (dm kM 256 eK) 256) (by rw[hl];simp) (by simp[qs,ig])]
 have h1:gl (dm kM) [fC kM 0 eK,nL] eK=true:=by
  unfold gl;rw[hl]
  simp[ig,dm,yG]
 have h2:lc (aM [fC kM 0 eK,nL]) fX=true:=by rw[hl];simp[lc,kwS,EC]
 rw[h1,h2]
 simp[dQ]
end
theorem X3 (jj:Bs->List Bs) (u:au):oR jj [gE,iP,ni] u u [97] []=true:=by
 unfold oR;have h1:eQ [gE,iP,ni]=false:=by decide +kernel
 have h2:dQ [gE,iP,ni] [97]=true:=by decide +kernel
 rw[h1,h2]
 simp
theorem Y2 (jj:Bs->List Bs) (hf:jj []=[]) (u:au):oR jj [gE,iP,ni] u u [] []=false:=by
 unfold oR;have h1:eQ [gE,iP,ni]=false:=by decide +kernel
 have h2:dQ [gE,iP,ni] []=false:=by decide +kernel
 have h3:lc (aM [gE,iP,ni]) fW=true:=by decide +kernel
 have h4:fD jj [gE,iP,ni] []=false:=by unfold fD kZ;rw[hf];rfl
 rw[h1,h2,h3,h4]
 simp
end Lz
namespace Go.Proofs.YtibcmemcfjhgmaaGreatDoor
open Go.RowKit
attribute [local go_sem ↓] Go.wp_at_zero Go.wp_at_succ
structure Bh (H0 H1 H2 B:Nat):Prop where
 h01:H0≠H1
 h02:H0≠H2
 h12:H1≠H2
 l0:H0<B
 l1:H1<B
 l2:H2<B
structure gj (H0 H1 H2 B:Nat) (s:ByteArray) (f:Nat) (D:List ByteArray) (v u:Value) (W:World):Prop where
 s:W.heap[H0]? =some (.cells #[.string s] 9 (0,0))
 o:W.heap[H1]? =some (.cells #[v] 22 (0,0))
 f:W.heap[H2]? =some (.cells #[.int .i64 (f:Int)] 3 (0,0))
 own:W.ownsRow B 9 1 u D.length (D.map Value.string)
section
variable {H0 H1 H2 B f:Nat} {s:ByteArray} {D:List ByteArray} {v u:Value} {W:World}
theorem gj.below (h:gj H0 H1 H2 B s f D v u W) {W':World} (hb:Below W.heap.size W W'):gj H0 H1 H2 B s f D v u W':=
 ⟨(hb.block _ (aZ h.s)).trans h.s,(hb.block _ (aZ h.o)).trans h.o,(hb.block _ (aZ h.f)).trans h.f,dh h.own hb⟩
theorem gj.alloc (h:gj H0 H1 H2 B s f D v u W) (o:Obj):gj H0 H1 H2 B s f D v u (W.alloc o):=h.below ((Below.refl _ W).alloc (Nat.le_refl _) _)
theorem gj.grown (h:gj H0 H1 H2 B s f D v u W) {W':World} {p:ByteArray} {u2:Value} (hg:W.grownBy W' u.ownBlock) (hn:Bh H0 H1 H2 B) (ho:W'.ownsRow B 9 1 u2 (D.length+1) (D.map Value.string++[.string p])):gj H0 H1 H2 B s f (D++[p]) v u2 W':=by
 have hk:∀k,k<B->k<W.heap.size->W'.heap[k]? =W.heap[k]? :=fun k hk hl=>hg.block k hl (fun e=>by have:=(h.own.lt k e.symm).1;omega);exact⟨(hk _ hn.l0 (aZ h.s)).trans h.s,(hk _ hn.l1 (aZ h.o)).trans h.o,(hk _ hn.l2 (aZ h.f)).trans h.f,by rw[List.length_append,List.map_append];exact ho⟩
theorem rS {B k j n:Nat} {u x:Value} {xs:List Value} {e:TypeId} {W:World} (h:W.ownsRow B e 1 u n xs) (hk:k<B):(W.setCell ⟨k,j,none⟩ x).ownsRow B e 1 u n xs:=
 h.kept (df W ⟨k,j,none⟩ x) (.inr (fun e=>by have:=(h.lt k e).1;omega))
theorem gj.put (h:gj H0 H1 H2 B s f D v u W) (x:Value) (hn:Bh H0 H1 H2 B):gj H0 H1 H2 B s f D x u (W.setCell ⟨H1,0,none⟩ x):=
 ⟨(heap_setCell_other _ _ _ _ _ hn.h01).trans h.s,cu h.o 0 x,(heap_setCell_other _ _ _ _ _ hn.h12.symm).trans h.f,rS h.own hn.l1⟩
theorem gj.move (h:gj H0 H1 H2 B s f D v u W) (k:Nat) (hn:Bh H0 H1 H2 B):gj H0 H1 H2 B s k D v u (W.setCell ⟨H2,0,none⟩ (.int .i64 (k:Int))):=
 ⟨(heap_setCell_other _ _ _ _ _ hn.h02).trans h.s,(heap_setCell_other _ _ _ _ _ hn.h12).trans h.o,cu h.f 0 _,rS h.own hn.l2⟩
end
theorem H9 (H H0 H1 H2 B:Nat) (s:ByteArray) (f:Nat) (D:List ByteArray) (v:Value) (AD:Nat) (du:Bh H0 H1 H2 B) (xC:H<=H1) (rI:H<=H2) (ZD:H<=B) (hto:AD<=s.size) (hs:s.size<=1000000000) (hD:D.length<=1000000000) (W:World) (ji:gj H0 H1 H2 B s f D v v W) (hBU:B<=W.heap.size):
  Calls Tryz.prog 88 #[.int .i64 (AD:Int),.pointer (some ⟨H2,0,none⟩),.pointer (some ⟨H1,0,none⟩),.pointer (some ⟨H0,0,none⟩)] W fun e w'=>e=.returned (.tuple #[])/\Below H W w'/\∃v',gj H0 H1 H2 B s (AD+1) (if f<AD then D++[s.extract f AD]else D) v' v' w':=by
 obtain⟨i0,hi,eZ,d9,eo⟩:=info_parts nK;have Tq:H<=W.heap.size:=Nat.le_trans ZD hBU;have wL:=rowAt ji.f 0 (.int .i64 (f:Int)) rfl;obtain⟨D2,hD2⟩:∃D2,D2=if f<AD then D++[s.extract f AD]else D:=⟨_,rfl⟩;rw[<-hD2];have HD2:=Ih hD2;clear hD2;obtain⟨U0,hU0⟩:∃U,U=W:=⟨_,rfl⟩;have hS:Hid (∀{D':List ByteArray} {v' u':Value} (U:World),gj H0 H1 H2 B s f D' v' u' U->Below H U0 U->(U.cell? ⟨H0,0,none⟩=some (.string s)/\U.cell? ⟨H2,0,none⟩=some (.int .i64 (f:Int)))/\Below H U0 U):=Ih (fun U h hb=>⟨⟨rowAt h.s 0 _ rfl,rowAt h.f 0 _ rfl⟩,hb⟩);have hS2:Hid (∀{D':List ByteArray} {v' u':Value} (U:World),gj H0 H1 H2 B s f D' v' u' U->(U.cell? ⟨H0,0,none⟩=some (.string s)/\U.cell? ⟨H2,0,none⟩=some (.int .i64 (f:Int)))):=Ih (fun U h=>⟨rowAt h.s 0 _ rfl,rowAt h.f 0 _ rfl⟩);by_cases aL:f<AD
 ·have aK:(f:Int)<(AD:Int):=by omega
  have b1:(0:Int)<=(f:Int):=by omega
  have b2:(AD:Int)<=(s.size:Int):=by omega
  have b3:(f:Int)<=(AD:Int):=by omega
  obtain⟨p,hp⟩:∃p,s.extract f AD=p:=⟨_,rfl⟩;have HD:Hid (D2=D++[p]):=by show _=_;rw[HD2.out,if_pos aL,hp]
  have pD:Below H U0 W.drew:=by rw[hU0];exact(Below.refl _ _).drew
  have Tq:H<=U0.heap.size:=by rw[hU0];exact Tq
  have hBU:B<=U0.heap.size:=by rw[hU0];exact hBU
  have HU0:=Ih hU0;clear hU0;have ZN:gj H0 H1 H2 B s f D v v W.drew:=ji.below (Below.refl _ _).drew;go_enter Tryz.func88,Tryz.ntmps88
  go_upto_region 1 with fail
  replace ji:=ZN;refine wp_region_held_drew (S:=fun U=>(U.cell? ⟨H0,0,none⟩=some (.string s)/\U.cell? ⟨H2,0,none⟩=some (.int .i64 (f:Int)))/\Below H U0 U) (by kernel_rfl) (hS.out _ ji pD) (fun af=>?_);generalize W.drew=W7 at af ji⊢;apply TkG 1 9;apply TkG 2 10;apply TkG 3 11;apply TkG 4 12
  iterate 4 (rotate_right 2;(·(intro W ar;(try dsimp only at ar);(try simp only[Act.put]);(try simp only[List.setIfInBounds_toArray]);(try simp only[List.set_cons_zero,List.set_cons_succ]);go_simp;try with_reducible rfl)))
  (try simp only[Act.put]);(try simp only[List.setIfInBounds_toArray]);(try simp only[List.set_cons_zero,List.set_cons_succ])
  have nA:=af;refine wpAnyH_ready (rs:=[0,5]) (by kernel_rfl) (by simp) ?_;refine AllReadyH.cons rfl (fun K hK=>?_) (AllReadyH.cons rfl (fun K hK=>?_) AllReadyH.nil)
  ·have kL:=rowAt ji.o 0 v rfl;go_simp;refine hK.out _ _ af (fun af=>?_);clear hK K kL
   (try simp only[Act.put]);(try simp only[List.setIfInBounds_toArray]);(try simp only[List.set_cons_zero,List.set_cons_succ])
   have nA:=af;refine wpAnyH_ready (rs:=[5]) (by kernel_rfl) (by simp) ?_;refine AllReadyH.cons rfl (fun K hK=>?_) AllReadyH.nil;go_simp;refine hK.out _ _ (hS.out _ (ji.alloc (.cells #[.string p] 9)) (af.2.alloc (Nat.le_trans Tq af.2.size) _)) (fun af=>?_);clear hK K;have wo:=aJ W7 (.string p) 9;replace ji:=ji.alloc (.cells #[.string p] 9);have Gt:B<=(W7.alloc (.cells #[.string p] 9)).heap.size:=Nat.le_trans (Nat.le_trans hBU nA.2.size) (by simp);generalize W7.heap.size=G0 at wo⊢;generalize W7.alloc (.cells #[.string p] 9)=W8 at af ji wo Gt⊢
   (try simp only[Act.put]);(try simp only[List.setIfInBounds_toArray]);(try simp only[List.set_cons_zero,List.set_cons_succ])
   have nA:=af;refine wpAnyH_ready (rs:=[6]) (by kernel_rfl) (by simp) ?_;refine AllReadyH.cons rfl (fun K hK=>?_) AllReadyH.nil;rw[if_pos (by rfl)];refine wp_append_own W8 (.tmp 8) (.tmp 13) 22 rfl B 9 i0 (.string ⟨#[]⟩) 1 16 Tryz.underlying22 hi eZ d9 eo rfl (by decide) v D.length (D.map Value.string) rfl ji.own ⟨G0,0,none⟩ 1 1 [.string p] rfl rfl (fun j u hu=>wo j u hu) (by simp[Value.oneCell']) (by unfold maxLen;omega) (by omega) Gt ?_;intro v2 W9 de O2 _
   obtain⟨g2,c2,rfl⟩:∃g2 c2,v2=.slice (some ⟨g2,0,none⟩) (D.length+1) c2:=by
    rcases de.2 with⟨_,h⟩|⟨g2,c2,_,h,_⟩
    ·omega
    ·exact⟨g2,c2,h⟩
   have gD:=ji.grown O2 du de;have hB9:Below H U0 W9:=af.2.grown O2 (Nat.le_trans Tq af.2.size) (fun k hk=>Nat.le_trans ZD (ji.own.lt k hk).1);refine hK.out _ _ ⟨hS2.out _ gD,hB9⟩ (fun af=>?_);clear hK K wo de O2 ji
   (try simp only[Act.put]);(try simp only[List.setIfInBounds_toArray]);(try simp only[List.set_cons_zero,List.set_cons_succ])
   have nA:=af;refine wpAnyH_ready (rs:=[7]) (by kernel_rfl) (by simp) ?_;refine AllReadyH.cons rfl (fun K hK=>?_) AllReadyH.nil;have iE:=rowAt gD.o 0 v rfl;have jC:=frozen_of_row _ _ 0 _ _ gD.o;go_simp;refine hK.out _ _ ⟨hS2.out _ (gD.put _ du),af.2.setCell xC _⟩ (fun af=>?_);clear hK K iE jC;replace gD:=gD.put (.slice (some ⟨g2,0,none⟩) (D.length+1) c2) du;generalize W9.setCell ⟨H1,0,none⟩ (.slice (some ⟨g2,0,none⟩) (D.length+1) c2)=W10 at af gD⊢
   (try simp only[Act.put]);(try simp only[List.setIfInBounds_toArray]);(try simp only[List.set_cons_zero,List.set_cons_succ])
   refine wpAnyH_done (by kernel_rfl) ?_ _;have sO:=rowAt gD.f 0 (.int .i64 (f:Int)) rfl;have AE:=frozen_of_row _ _ 0 _ _ gD.f;have Dx:=gD.move (AD+1) du;have Ld:=af.2.setCell (p:=⟨H2,0,none⟩) rI (.int .i64 ((AD+1:Nat):Int))
   go_wp2_with fail
   go_end0
   exact⟨rfl,HU0.out▸Ld,_,by rw[HD.out];exact Dx⟩
  ·go_simp;refine hK.out _ _ (hS.out _ (ji.alloc (.cells #[.string p] 9)) (af.2.alloc (Nat.le_trans Tq af.2.size) _)) (fun af=>?_);clear hK K;have wo:=aJ W7 (.string p) 9;replace ji:=ji.alloc (.cells #[.string p] 9);have Gt:B<=(W7.alloc (.cells #[.string p] 9)).heap.size:=Nat.le_trans (Nat.le_trans hBU nA.2.size) (by simp);generalize W7.heap.size=G0 at wo⊢;generalize W7.alloc (.cells #[.string p] 9)=W8 at af ji wo Gt⊢
   (try simp only[Act.put]);(try simp only[List.setIfInBounds_toArray]);(try simp only[List.set_cons_zero,List.set_cons_succ])
   have nA:=af;refine wpAnyH_ready (rs:=[0]) (by kernel_rfl) (by simp) ?_;refine AllReadyH.cons rfl (fun K hK=>?_) AllReadyH.nil;have kL:=rowAt ji.o 0 v rfl;go_simp;refine hK.out _ _ af (fun af=>?_);clear hK K kL
   (try simp only[Act.put]);(try simp only[List.setIfInBounds_toArray]);(try simp only[List.set_cons_zero,List.set_cons_succ])
   have nA:=af;refine wpAnyH_ready (rs:=[6]) (by kernel_rfl) (by simp) ?_;refine AllReadyH.cons rfl (fun K hK=>?_) AllReadyH.nil;rw[if_pos (by rfl)];refine wp_append_own W8 (.tmp 8) (.tmp 13) 22 rfl B 9 i0 (.string ⟨#[]⟩) 1 16 Tryz.underlying22 hi eZ d9 eo rfl (by decide) v D.length (D.map Value.string) rfl ji.own ⟨G0,0,none⟩ 1 1 [.string p] rfl rfl (fun j u hu=>wo j u hu) (by simp[Value.oneCell']) (by unfold maxLen;omega) (by omega) Gt ?_;intro v2 W9 de O2 _
   obtain⟨g2,c2,rfl⟩:∃g2 c2,v2=.slice (some ⟨g2,0,none⟩) (D.length+1) c2:=by
    rcases de.2 with⟨_,h⟩|⟨g2,c2,_,h,_⟩
    ·omega
    ·exact⟨g2,c2,h⟩
   have gD:=ji.grown O2 du de;have hB9:Below H U0 W9:=af.2.grown O2 (Nat.le_trans Tq af.2.size) (fun k hk=>Nat.le_trans ZD (ji.own.lt k hk).1);refine hK.out _ _ ⟨hS2.out _ gD,hB9⟩ (fun af=>?_);clear hK K wo de O2 ji
   (try simp only[Act.put]);(try simp only[List.setIfInBounds_toArray]);(try simp only[List.set_cons_zero,List.set_cons_succ])
   have nA:=af;refine wpAnyH_ready (rs:=[7]) (by kernel_rfl) (by simp) ?_;refine AllReadyH.cons rfl (fun K hK=>?_) AllReadyH.nil;have iE:=rowAt gD.o 0 v rfl;have jC:=frozen_of_row _ _ 0 _ _ gD.o;go_simp;refine hK.out _ _ ⟨hS2.out _ (gD.put _ du),af.2.setCell xC _⟩ (fun af=>?_);clear hK K iE jC;replace gD:=gD.put (.slice (some ⟨g2,0,none⟩) (D.length+1) c2) du;generalize W9.setCell ⟨H1,0,none⟩ (.slice (some ⟨g2,0,none⟩) (D.length+1) c2)=W10 at af gD⊢
   (try simp only[Act.put]);(try simp only[List.setIfInBounds_toArray]);(try simp only[List.set_cons_zero,List.set_cons_succ])
   refine wpAnyH_done (by kernel_rfl) ?_ _;have sO:=rowAt gD.f 0 (.int .i64 (f:Int)) rfl;have AE:=frozen_of_row _ _ 0 _ _ gD.f;have Dx:=gD.move (AD+1) du;have Ld:=af.2.setCell (p:=⟨H2,0,none⟩) rI (.int .i64 ((AD+1:Nat):Int))
   go_wp2_with fail
   go_end0
   exact⟨rfl,HU0.out▸Ld,_,by rw[HD.out];exact Dx⟩
 ·have aK:¬(f:Int)<(AD:Int):=by omega
  have HD:Hid (D2=D):=by show _=_;rw[HD2.out,if_neg aL]
  have AE:=frozen_of_row _ _ 0 _ _ ji.f;have Dx:=ji.move (AD+1) du;have Ld:=(Below.refl H W).setCell (p:=⟨H2,0,none⟩) rI (.int .i64 ((AD+1:Nat):Int));go_enter Tryz.func88,Tryz.ntmps88
  go_wp2_with fail
  go_end0
  exact⟨rfl,Ld,v,by rw[HD.out];exact Dx⟩
theorem Zm:∀c:UInt8,decide (0<=Lib.indexByte [9,10,12,13,32] c)=Lz.qj c:=Lz.aA (by decide +kernel)
theorem I2 (c:UInt8) (w:World):Calls Tryz.prog 89 #[.int .u8 (c.toNat:Int)] w fun e w'=>e=.returned (.bool (Lz.qj c))/\w=w':=by
 have cI:=Ih (kj ⟨#[9,10,12,13,32]⟩ c w);have HS:=Ih (Zm c);go_enter Tryz.func89,Tryz.ntmps89
 go_wp2_with fail
 refine cI.out.mono ?_;rintro e w1 ⟨rfl,rfl⟩
 go_wp2_with fail
 go_ret;exact⟨by rw[<-HS.out];rfl,rfl⟩
def sA (l:List UInt8) (i f:Nat) (D:List ByteArray):Prop:=f<=i/\D.length<=i/\∃Ds,Lz.ud (l.take i) Ds ((l.take i).drop f)/\D.map (fun x:ByteArray=>x.data.toList)=Ds.filter fun w=> !w.isEmpty
theorem N1 {s:ByteArray} {l:List UInt8} (hl:l=s.data.toList) (f i:Nat):(s.extract f i).data.toList=(l.take i).drop f:=by
 rw[hl]
 simp[ByteArray.data_extract,List.drop_take]
theorem PX {l:List UInt8} {i f:Nat} (hi:i<=l.length):((l.take i).drop f).length=i-f:=by rw[List.length_drop,List.length_take];omega
theorem J0 {l:List UInt8} {i f:Nat} (hi:i<=l.length):((l.take i).drop f).isEmpty= !decide (f<i):=by
 have:=PX (f:=f) hi;by_cases h:f<i
 ·rw[decide_eq_true h];cases hc:(l.take i).drop f with
  | nil=>rw[hc]at this;simp at this;omega
  | cons _ _=>rfl
 ·rw[decide_eq_false h,List.length_eq_zero_iff.1 (show((l.take i).drop f).length=0 by omega)];rfl
theorem yR {s:ByteArray} {l:List UInt8} (hl:l=s.data.toList) {i f:Nat} (hi:i<=l.length) {D:List ByteArray} {Ds:List (List UInt8)} (h:D.map (fun x:ByteArray=>x.data.toList)=Ds.filter fun w=> !w.isEmpty):(if f<i then D++[s.extract f i]else D).map (fun x:ByteArray=>x.data.toList)=(Ds++[(l.take i).drop f]).filter fun w=> !w.isEmpty:=by
 rw[List.filter_append,List.filter_cons,J0 hi,List.filter_nil,<-h];by_cases hf:f<i
 ·rw[if_pos hf,decide_eq_true hf,List.map_append,List.map_cons,List.map_nil,N1 hl];rfl
 ·rw[if_neg hf,decide_eq_false hf];simp
theorem yl {l:List UInt8} {i:Nat} {c:UInt8} (hc:l[i]? =some c):l.take (i+1)=l.take i++[c]:=by rw[List.take_add_one,hc];rfl
theorem I6 {s:ByteArray} {l:List UInt8} (hl:l=s.data.toList) {i f:Nat} {D:List ByteArray} {c:UInt8} (h:sA l i f D) (hc:l[i]? =some c) (iB:Lz.qj c=true):sA l (i+1) (i+1) (if f<i then D++[s.extract f i]else D):=by
 obtain⟨h1,h2,Ds,KR,DM⟩:=h;have hi:i<l.length:=(List.getElem?_eq_some_iff.1 hc).1;refine⟨Nat.le_refl _,?_,Ds++[(l.take i).drop f],?_,yR hl (by omega) DM⟩
 ·split
  ·simp;omega
  ·omega
 ·have e:(l.take (i+1)).drop (i+1)=[]:=List.drop_eq_nil_iff.2 (by rw[List.length_take];omega);rw[e,yl hc];exact Lz.J3 KR iB
theorem No {l:List UInt8} {i f:Nat} {D:List ByteArray} {c:UInt8} (h:sA l i f D) (hc:l[i]? =some c) (iB:Lz.qj c=false):sA l (i+1) f D:=by
 obtain⟨h1,h2,Ds,KR,DM⟩:=h;have hi:i<l.length:=(List.getElem?_eq_some_iff.1 hc).1;refine⟨by omega,by omega,Ds,?_,DM⟩;rw[yl hc,List.drop_append_of_le_length (by rw[List.length_take];omega)];exact Lz.M7 KR iB
theorem QF {s:ByteArray} {l:List UInt8} (hl:l=s.data.toList) {f:Nat} {D:List ByteArray} (h:sA l s.size f D):(if f<s.size then D++[s.extract f s.size]else D).map (fun x:ByteArray=>x.data.toList)=Lz.cn l:=by
 obtain⟨h1,h2,Ds,KR,DM⟩:=h;have jf:l.length=s.size:=by rw[hl];exact ac s
 rw[yR hl (by omega) DM];rw[List.take_of_length_le (by omega)]at KR⊢;rw[Lz.Qx KR,List.filter_append];cases (l.drop f)<;>rfl
def Vh (l:List (List UInt8)) (w:World) (e:Ending) (w':World):Prop:=∃v,e=.returned v/\eY w' v l/\Below w.heap.size w w'
theorem F4 (s:ByteArray) (hs:s.size<=1000000) (w:World):Calls Tryz.prog 49 #[.string s] w (Vh (Lz.cn s.data.toList) w):=by
 obtain⟨l,hl⟩:∃l,l=s.data.toList:=⟨_,rfl⟩;have jf:l.length=s.size:=by rw[hl];exact ac s
 rw[<-hl];have HL:=Ih hl;have Uh:=Ih jf;clear hl jf;obtain⟨W,hW⟩:∃W,W=((w.alloc (.cells #[.string s] 9)).alloc (.cells #[.slice none 0 0] 22)).alloc (.cells #[.int .i64 0] 3):=⟨_,rfl⟩;have ja:Below w.heap.size w W:=by rw[hW];exact(((Below.refl _ w).alloc (Nat.le_refl _) _).alloc (by simp) _).alloc (by simp;omega) _
 have pA:W.heap[w.heap.size]? =some (.cells #[.string s] 9 (0,0)):=by
  rw[hW,Below.heap_alloc _ _ _ (by simp;omega),Below.heap_alloc _ _ _ (by simp)];exact an _ _
 have i9:W.heap[w.heap.size+1]? =some (.cells #[.slice none 0 0] 22 (0,0)):=by
  rw[hW,Below.heap_alloc _ _ _ (by simp)];exact lg _ _ _
 have iG:W.heap[w.heap.size+1+1]? =some (.cells #[.int .i64 0] 3 (0,0)):=by
  rw[hW];have:=an ((w.alloc (.cells #[.string s] 9)).alloc (.cells #[.slice none 0 0] 22)) (.cells #[.int .i64 0] 3);simpa using this
 have Gt:w.heap.size+1+1+1<=W.heap.size:=aZ iG;have HW:=Ih hW;clear hW;go_enter Tryz.func49,Tryz.ntmps49
 go_upto_region 4 with fail
 rw[<-HW.out];obtain⟨H0,TT⟩:∃H,H=w.heap.size:=⟨_,rfl⟩;obtain⟨H1,xC⟩:∃H,H=w.heap.size+1:=⟨_,rfl⟩;obtain⟨H2,rI⟩:∃H,H=w.heap.size+1+1:=⟨_,rfl⟩;obtain⟨B,hB⟩:∃H,H=w.heap.size+1+1+1:=⟨_,rfl⟩;rw[<-rI,<-xC,<-TT];rw[<-hB]at Gt;rw[<-rI]at iG;rw[<-xC]at i9;rw[<-TT]at pA;have du:Bh H0 H1 H2 B:=⟨by omega,by omega,by omega,by omega,by omega,by omega⟩;have Ty:gj H0 H1 H2 B s 0 [] (.slice none 0 0) (.slice none 0 0) W:=⟨pA,i9,iG,World.ownsRow_nil _ _ _ _⟩;have oh:w.heap.size<=H1/\w.heap.size<=H2/\w.heap.size<=B:=by omega
 clear HW pA i9 iG TT xC rI hB;have lW:=rowAt Ty.s 0 (.string s) rfl
 go_wp2_with fail
 clear lW
 go_loopw [6,10] (fun _ k wr=>∃(i f:Nat) (D:List ByteArray) (v:Value),k=.int .i64 i/\i<=s.size/\gj H0 H1 H2 B s f D v v wr/\Hid (sA l i f D)/\Below w.heap.size w wr/\B<=wr.heap.size) (fun _ k _=>s.size-(intOf k).toNat)
 case atStart=>exact⟨0,0,[],_,rfl,by omega,Ty,⟨Nat.le_refl _,Nat.le_refl _,[],by rw[List.take_zero];exact Lz.KL,rfl⟩,ja,Gt⟩
 case round=>
  obtain⟨i,f,D,v,rfl,hi,hC,hF,hb,TE⟩:=hrel;clear Ty ja Gt;have hDl:D.length<=1000000000:=by have:=hF.out.2.1;omega
  have lW:=rowAt hC.s 0 (.string s) rfl;by_cases aL:i<s.size
  ·have aK:(i:Int)<(s.size:Int):=by omega
   have j6:(0:Int)<=(i:Int):=by omega
   obtain⟨c,hc⟩:∃c,c=s[i]:=⟨_,rfl⟩;have WU:(s[i].toNat:Int)=(c.toNat:Int):=by rw[hc]
   have oH:l[i]? =some c:=by rw[HL.out,aB aL,hc]
   have cS:=Ih (I2 c wr);clear hc;cases iB:Lz.qj c with
   | true=>
     rw[iB]at cS;have HN:Hid (sA l (i+1) (i+1) (if f<i then D++[s.extract f i]else D)):=I6 HL.out hF.out oH iB;have cC:=Ih (H9 w.heap.size H0 H1 H2 B s f D v i du oh.1 oh.2.1 oh.2.2 hi (by omega) hDl wr hC TE);clear oH iB hC hF hDl
     go_wp2_with fail
     refine cS.out.mono ?_;rintro e w1 ⟨rfl,rfl⟩
     go_wp2_with fail
     refine cC.out.mono ?_;rintro e w2 ⟨rfl,aE,v2,hC2⟩;have abJ:=Nat.le_trans TE aE.size;have bj:=hb.trans aE
     go_wp2_with fail
     go_roundw
     case rel=>exact⟨i+1,i+1,_,v2,by go_num,by omega,hC2,HN,bj,abJ⟩
     case measure=>simp[intOf];omega
   | false=>
     rw[iB]at cS;have HN:Hid (sA l (i+1) f D):=No hF.out oH iB;clear oH iB hF hDl
     go_wp2_with fail
     refine cS.out.mono ?_;rintro e w1 ⟨rfl,rfl⟩
     go_wp2_with fail
     go_roundw
     case rel=>exact⟨i+1,f,D,v,by go_num,by omega,hC,HN,hb,TE⟩
     case measure=>simp[intOf];omega
  ·obtain rfl:i=s.size:=by omega
   have aK:¬((s.size:Int)<(s.size:Int)):=by omega
   have HE:Hid ((if f<s.size then D++[s.extract f s.size]else D).map (fun x:ByteArray=>x.data.toList)=Lz.cn l):=QF HL.out hF.out;have cC:=Ih (H9 w.heap.size H0 H1 H2 B s f D v s.size du oh.1 oh.2.1 oh.2.2 (Nat.le_refl _) (by omega) hDl wr hC TE);clear hC hF hDl
   go_wp2_with fail
   refine cC.out.mono ?_;rintro e w2 ⟨rfl,aE,v2,hC2⟩;have kL:=rowAt hC2.o 0 v2 rfl
   go_wp2_with fail
   go_ret;obtain⟨a,c,hv,_,aW⟩:=bG.form (.inl hC2.own);exact⟨v2,rfl,⟨a,c,_,hv,HE.out,aW⟩,hb.trans aE⟩
end Go.Proofs.YtibcmemcfjhgmaaGreatDoor
namespace Go.Proofs.YtibcmemcfjhgmaaGreatDoor
open Go.ChangeShapes Go.WideShapes Go.ChangeAt Go.RowKit
theorem IG:laidOutB Tryz.prog=true:=by kernel_rfl
theorem PG:Tryz.prog.cellsOf 5=1:=by kernel_rfl
theorem oB {H:Type} {enc:TypeId×Value->H} {W W':World} (hb:Below W.heap.size W W'):∀{ts:List TypeId} {vs:List Value} {ds:List (DataW H)} {ps:List MemPlace},
  (∀t∈ts,Tryz.prog.readableRec t=true/\t<Tryz.prog.types.size)->DataW.TrodAll enc Tryz.prog W 0 (fun _=>true) true ts vs ds ps->(∀x∈ps,x.block<W.heap.size)->
  DataW.TrodAll enc Tryz.prog W' 0 (fun b=>decide (b<W.heap.size)) true ts vs ds ps
 | [],[],[],_,_,h,_=>h
 | t::ts,v::vs,d::ds,ps,ht,⟨p,q,h1,h2,e⟩,aL=>
   ⟨p,q,Below.trod IG (ht t (by simp)).1 (ht t (by simp)).2 h1 hb (fun x hx=>aL x (by rw[e];exact List.mem_append_left _ hx)),
    oB hb (fun t' h'=>ht t' (by simp[h'])) h2 (fun x hx=>aL x (by rw[e];exact List.mem_append_right _ hx)),e⟩
 | [],_::_,_,_,_,h,_=>by simp[DataW.TrodAll]at h
 | [],[],_::_,_,_,h,_=>by simp[DataW.TrodAll]at h
 | _::_,[],_,_,_,h,_=>by simp[DataW.TrodAll]at h
 | _::_,_::_,[],_,_,h,_=>by simp[DataW.TrodAll]at h
theorem FW {n:Int} (h:(Lit.int .u8 n).wf=true):0<=n/\n<=255:=by
 simp only[Lit.wf,Bool.and_eq_true,decide_eq_true_eq]at h;have h0:IntKind.u8.min=0:=by decide
 have h1:IntKind.u8.max=255:=by decide
 rw[h0,h1]at h;exact h
theorem NJ {H:Type} {enc:TypeId×Value->H} {W:World} {base:Nat} {sp:Nat->Bool} {hd:Bool} {v:Value} {x:DataW H×List MemPlace} {fuel:Nat}
  (hf:DataW.trod enc Tryz.prog W base sp hd fuel 93 [v]=some x):∃l,SlB W v l:=by
 rcases open_ints Tryz.underlying93 Tryz.underlying5 PG hf with⟨iF,hx⟩|⟨a,len',Wt,zs,iF,_,hl,hm,hz,hx,bH,hwz⟩
 ·obtain rfl:=List.singleton_inj.1 iF;exact⟨[],none,0,rfl,by simp,fun j b hj=>by simp at hj⟩
 ·obtain rfl:=List.singleton_inj.1 iF;have hzl:len'<=zs.length:=by rw[hz];split<;>omega
  have hm':Wt<=9223372036854775807:=hm;have aO:((zs.take len').map (fun z=>UInt8.ofNat z.toNat)).length=len':=by simp;omega
  refine⟨(zs.take len').map (fun z=>UInt8.ofNat z.toNat),some a,Wt,by rw[aO],by rw[aO];omega,fun j b hj=>?_⟩
  have mq:j<len':=by
   have:=(List.getElem?_eq_some_iff.1 hj).1;rw[aO]at this;exact this
  obtain⟨B,off,rfl,hc⟩:=ints_at bH (by omega);have h1:=hc j (by omega);refine⟨B,off,rfl,World.block_lt_of_cell? _ _ h1,?_⟩;rw[h1]
  have hzj:zs[j]? =some (zs.getD j 0):=by
   rw[List.getD_eq_getElem?_getD,List.getElem?_eq_getElem (by omega)];rfl
  have hb:b=UInt8.ofNat (zs.getD j 0).toNat:=by
   rw[List.getElem?_map,List.getElem?_take,if_pos mq,hzj]at hj;exact(Option.some.inj hj).symm
  obtain⟨w0,w1⟩:=FW (hwz _ (List.mem_of_getElem? hzj));rw[hb,UInt8.toNat_ofNat'];congr 2;omega
theorem aa5 {H:Type} {enc:TypeId×Value->H} {W:World} {base:Nat} {sp:Nat->Bool} {hd:Bool} {v:Value} {d:DataW H} {ps:List MemPlace} {r:Reach} {b0:Nat}
  (hv:Value.okWide Tryz.prog W r b0 93 v) (h:DataW.Trod enc Tryz.prog W base sp hd 93 v d ps):∃l,SlB W v l:=by
 obtain⟨a0,len,cap,rfl⟩:=okWide_slice Tryz.underlying93 hv;obtain⟨fuel,hf⟩:=h;exact NJ hf
end Go.Proofs.YtibcmemcfjhgmaaGreatDoor
namespace Go.Proofs.YtibcmemcfjhgmaaGreatDoor
open Go.RowKit
attribute [local go_sem ↓] Go.wp_at_zero Go.wp_at_succ
theorem Rk (s:ByteArray) (k:List UInt8):(s.toList==k)=(s.data.toList==k):=by rw[Lib.toList_data]
theorem F5 (v:Value) (l:List (List UInt8)) (w:World) (h:eY w v l) (hZ:∀x,x∈l->x.length<=140737488355328):Calls Tryz.prog 29 #[v] w (a5 (Lz.eQ l) w):=by
 obtain⟨a,c,xs,rfl,rfl,hx⟩:=h
 match xs,hx,hZ with
 | [],_,_=>
   have HV:Hid (Lz.eQ (([]:List ByteArray).map fun x:ByteArray=>x.data.toList)=true):=rfl;go_enter Tryz.func29,Tryz.ntmps29
   go_wp2_with fail
   go_ret;exact⟨by rw[HV.out];rfl,Below.refl _ _⟩
 | [x],hx,hZ=>
   obtain⟨B,off,rfl,hB,hc⟩:=hx 0 x rfl;rw[Nat.add_zero]at hc;have Py:x.size<=140737488355328:=by rw[<-ac];exact hZ _ (by simp)
   have cS:=Ih (jI x (by omega) w)
   have HV:Hid (∀t:ByteArray,t.data.toList=Lz.low x.data.toList->Lz.eQ ([x].map fun x:ByteArray=>x.data.toList)=(t.toList==[39,110,111,110,101,39])):=Ih (fun t ht=>by
    rw[Rk,ht];show(false||(true&&(Lz.low x.data.toList==Lz.xQ)))=_;rw[Bool.false_or,Bool.true_and];rfl)
   clear hx hZ;go_enter Tryz.func29,Tryz.ntmps29
   go_wp2_with fail
   refine cS.out.mono ?_;rintro e w5 ⟨t,rfl,ht,bv⟩;have HQ:=Ih (HV.out t ht.out)
   go_wp2_with fail
   go_ret;exact⟨by rw[HQ.out];rfl,bv⟩
 | x::y::r,hx,_=>
   have HV:Hid (Lz.eQ ((x::y::r).map fun x:ByteArray=>x.data.toList)=false):=rfl;obtain⟨n,hn⟩:∃n,n=(x::y::r).length:=⟨_,rfl⟩;have y6:2<=n:=by rw[hn,List.length_cons,List.length_cons];omega
   have e0:((n:Int)==0)=false:=beq_eq_false_iff_ne.2 (by omega);have e1:((n:Int)==1)=false:=beq_eq_false_iff_ne.2 (by omega);rw[<-hn];clear hx hn;go_enter Tryz.func29,Tryz.ntmps29
   go_wp2_with fail
   go_ret;exact⟨by rw[HV.out];rfl,Below.refl _ _⟩
end Go.Proofs.YtibcmemcfjhgmaaGreatDoor
