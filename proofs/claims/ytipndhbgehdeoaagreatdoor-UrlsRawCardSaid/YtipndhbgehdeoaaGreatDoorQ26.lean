/-
  From what a row hands over to what the walks ask: a slice of strings, a URL.
-/
import Derived.Test.YtipndhbgehdeoaaGreatDoorQ21
import Derived.Test.YtipndhbgehdeoaaGreatDoorQ25
import Derived.Test.YtipndhbgehdeoaaGreatDoorRows
import Derived.ProofKit
import Derived.OpenShut
import Derived.Deep.DeepWitnessRowRef
import Derived.LaidMore
import Derived.LaidSub
import Derived.PinnedBridge
import Derived.Laws.AppendOwnNone
set_option maxHeartbeats 2000000
set_option maxRecDepth 100000
namespace Go.Proofs.YtipndhbgehdeoaaGreatDoor
open Go.ChangeShapes Go.WideShapes Go.ChangeAt Go.RowKit
theorem laid_reads {l:List (String×DataW Unit)} {W:World} (h:laidMetH Tryz.prog l W) {n:String} {d:DataW Unit} (hm:(n,d)∈l) (hn:d.handleName?.isNone=true):Lib.VarReads Tryz.prog W n d:=
 Lib.laidMet.reads (laidMetH_iff.1 h).1 (List.mem_filter.2 ⟨hm,hn⟩)
theorem tab_of_reads {W:World} {name:String} {k:IntKind} {zs:List Int} {g:Nat} {t e:TypeId} {n:Nat}
  (hg:Tryz.prog.globalNamed name=some g) (hty:(Tryz.prog.globals[g]?).map (·.type)=some t) (ht:Tryz.prog.underlying t=some (.array n e)) (he:Tryz.prog.underlying e=some (.int k)) (hce:Tryz.prog.cellsOf e=1) (hct:Tryz.prog.cellsOf t=n)
  (h:Lib.VarReads Tryz.prog W name (Lib.tabData k zs)):Lib.TabIs Tryz.prog W name k zs:=by
 obtain⟨g',t',cs,fuel,p,hg',ht',hvar,hd⟩:=h;obtain rfl:=Option.some.inj (hg.symm.trans hg');obtain rfl:=Option.some.inj (hty.symm.trans ht');unfold Lib.TabIs;rw[hvar,<-Lib.cells_of_tab ht he hce hct hd]
theorem iface_of_reads {W:World} {name:String} {nm:String} {d:DataW Unit} {g:Nat} {t:TypeId} {ms:Array (String×TypeId)}
  (hg:Tryz.prog.globalNamed name=some g) (hty:(Tryz.prog.globals[g]?).map (·.type)=some t) (ht:Tryz.prog.underlying t=some (.interface ms))
  (h:Lib.VarReads Tryz.prog W name (.iface nm d)):∃te pe,W.cell? ⟨g,0,none⟩=some (.iface te pe):=by
 obtain⟨g',t',cs,fuel,p,hg',ht',hvar,hd⟩:=h;obtain rfl:=Option.some.inj (hg.symm.trans hg');obtain rfl:=Option.some.inj (hty.symm.trans ht');have hcell:=World.var?_cell hg hvar 0;cases fuel with
 | zero=>simp[DataW.trod]at hd
 | succ n=>
   unfold DataW.trod at hd;rw[ht]at hd;obtain⟨cs⟩:=cs
   match cs,hd,hcell with
   | [.iface u v],_,hcell=>exact⟨u,v,by simpa using hcell⟩
   | [.nilIface],hd,_=>simp at hd
   | [],hd,_=>simp at hd
   | _::_::_,hd,_=>simp at hd
theorem gSyn:Tryz.prog.globalNamed "strconv.ErrSyntax"=some 7:=by kernel_rfl
theorem gRng:Tryz.prog.globalNamed "strconv.ErrRange"=some 8:=by kernel_rfl
theorem gEt:Tryz.prog.globalNamed "errors.errorType"=some 4:=by kernel_rfl
theorem gEtRt:(Tryz.prog.cutTypes.find? (·.1== "internal/reflectlite.rtype")).map (·.2)=some 123:=by kernel_rfl
theorem gEtRow:((List.range Tryz.prog.types.size).filter fun t=>Tryz.prog.rowNamed t [101,114,114,111,114])=[38]:=by kernel_rfl
theorem et_of_laid {l:List (String×DataW Unit)} {W:World} (h:laidMetH Tryz.prog l W) (hm:("errors.errorType",Rows.laid_errors_errorType)∈l):
  W.cell? ⟨4,0,none⟩=some (.iface 123 (.agg #[.pointer (some ⟨9,38,none⟩)])):=by
 obtain⟨name,u,ty,e1,e2,e3,e4,e5⟩:=(laidMetH_iff.1 h).2 _ (List.mem_filter.2 ⟨hm,rfl⟩);have en:name=[101,114,114,111,114]:=(Option.some.inj e1).symm;subst en;obtain rfl:=Option.some.inj (gEtRt.symm.trans e2);have hm:ty∈(List.range Tryz.prog.types.size).filter fun t=>Tryz.prog.rowNamed t [101,114,114,111,114]:=List.mem_filter.2 ⟨List.mem_range.2 e3,e4⟩;rw[gEtRow]at hm;obtain rfl:=List.mem_singleton.1 hm;have hh:typeHandle Tryz.prog 38=.pointer (some ⟨9,38,none⟩):=by kernel_rfl
 rw[hh]at e5;simpa using World.var?_cell gEt e5 0
theorem spot_none {w:World} {b o:Nat} {sp:Option Nat} {v:Value} (h:w.cell? ⟨b,o,sp⟩=some v):sp=none:=by
 cases sp with
 | none=>rfl
 | some x=>
   unfold World.cell? at h;split at h<;>simp at h
def dbTab:List Int:=[0,1,56,2,57,49,28,3,61,58,42,50,38,29,17,4,62,47,59,36,45,43,51,22,53,39,33,30,24,18,12,5,63,55,48,27,60,41,37,16,46,35,44,21,52,32,23,11,54,26,40,15,34,20,31,10,25,14,19,9,13,8,7,6]
theorem gDb:Tryz.prog.globalNamed "math/bits.deBruijn64tab"=some 6:=by kernel_rfl
theorem envH_of_laid {l:List (String×DataW Unit)} {W:World} (h:laidMetH Tryz.prog l W) (hsh:W.ShapedOpen Tryz.prog)
  (m1:("internal/strconv.uint64pow10",Rows.laid_internal_strconv_uint64pow10)∈l) (m2:("errors.errorType",Rows.laid_errors_errorType)∈l)
  (m3:("strconv.ErrRange",Rows.laid_strconv_ErrRange)∈l) (m4:("strconv.ErrSyntax",Rows.laid_strconv_ErrSyntax)∈l) (m5:("math/bits.deBruijn64tab",Rows.laid_math_bits_deBruijn64tab)∈l):EnvH W:=by
 have hdb:Lib.TabIs Tryz.prog W "math/bits.deBruijn64tab" .u8 dbTab:=tab_of_reads gDb (t:=239) (by kernel_rfl) (Tryz.underlying239) (Tryz.underlying5) (by kernel_rfl) (by kernel_rfl) (laid_reads h m5 rfl);have hcell:=fun o=>World.var?_cell gDb hdb o
 exact{
  ml:=cell_of_shapedOpen_int (zero:= #[.int .i64 0]) (t:=3) hsh (of_decide_eq_true (by kernel_rfl)) (by kernel_rfl) rfl (by kernel_rfl) (by kernel_rfl) (Tryz.underlying3)
  pow:=tab_of_reads gPow (t:=180) (by kernel_rfl) (Tryz.underlying180) (Tryz.underlying153) (by kernel_rfl) (by kernel_rfl) (laid_reads h m1 rfl)
  syn:=iface_of_reads gSyn (t:=38) (by kernel_rfl) (Tryz.underlying38) (laid_reads h m4 rfl)
  rng:=iface_of_reads gRng (t:=38) (by kernel_rfl) (Tryz.underlying38) (laid_reads h m3 rfl)
  et:=et_of_laid h m2
  db8:=(hcell 7).trans (by rfl)
  db16:=(hcell 15).trans (by rfl)
  size:=by
   have hs:(((begin Tryz.prog (fun _ _=>0) default).world.heap[9-1]?).bind Obj.row?).isSome=true:=by kernel_rfl
   obtain⟨⟨zero,t⟩,h0⟩:=Option.isSome_iff_exists.1 hs;obtain⟨cs,hc,_⟩:=hsh.1 (9-1) zero t (of_decide_eq_true (by kernel_rfl)) h0;have:=(Array.getElem?_eq_some_iff.1 hc).1;omega}
theorem gFirst:Tryz.prog.globalNamed "unicode/utf8.first"=some 2:=by kernel_rfl
theorem gAcc:Tryz.prog.globalNamed "unicode/utf8.acceptRanges"=some 3:=by kernel_rfl
theorem utf8_of_reads {w:World} (h3:Lib.VarReads Tryz.prog w "unicode/utf8.first" Lib.firstData) (h4:Lib.VarReads Tryz.prog w "unicode/utf8.acceptRanges" Lib.acceptData):Lib.Utf8Tabs 2 3 w:=by
 have c5:Tryz.prog.cellsOf 5=1:=by kernel_rfl
 have c119:Tryz.prog.cellsOf 168=256:=by kernel_rfl
 have c138:Tryz.prog.cellsOf 184=2:=by kernel_rfl
 have y3:(Tryz.prog.globals[2]?).map (·.type)=some 168:=by kernel_rfl
 have y4:(Tryz.prog.globals[3]?).map (·.type)=some 185:=by kernel_rfl
 refine⟨fun c hc=>?_,fun i hi=>?_⟩
 ·obtain⟨g,t,cs,fuel,p,hg,hty,hvar,hd⟩:=h3;obtain rfl:=Option.some.inj (gFirst.symm.trans hg);obtain rfl:=Option.some.inj (y3.symm.trans hty);have hcs:=Lib.cells_of_tab (Tryz.underlying168) (Tryz.underlying5) c5 c119 hd;have:=World.var?_cell hg hvar c;rw[this,<-Array.getElem?_toList,hcs]
  simp[Lib.firstTab,hc]
 ·obtain⟨g,t,cs,fuel,p,hg,hty,hvar,hd⟩:=h4;obtain rfl:=Option.some.inj (gAcc.symm.trans hg);obtain rfl:=Option.some.inj (y4.symm.trans hty);obtain⟨fuel',d,q,hdi,he⟩:=Lib.array_elem (Tryz.underlying185) hd i hi;simp only[List.getElem?_map,List.getElem?_range hi,Option.map_some,Option.some.injEq]at hdi;subst hdi;rw[c138]at he
  have hcs:=Lib.ints_of_struct (Tryz.underlying184) (fun j f hj=>by
   match j,hj with
   | 0,hj=>simp at hj;subst hj;exact⟨Tryz.underlying5,rfl,c5⟩
   | 1,hj=>simp at hj;subst hj;exact⟨Tryz.underlying5,rfl,c5⟩
   | j+2,hj=>simp at hj) (by rw[c138];rfl) he
  have e0:=congrArg (·[0]?) hcs;have e1:=congrArg (·[1]?) hcs;simp only[List.getElem?_take,List.getElem?_drop]at e0 e1;constructor
  ·rw[World.var?_cell hg hvar (2*i),<-Array.getElem?_toList];simpa [Nat.mul_comm]using e0
  ·rw[World.var?_cell hg hvar (2*i+1),<-Array.getElem?_toList];simpa [Nat.mul_comm]using e1
theorem envU_of_laid {l:List (String×DataW Unit)} {W:World} (h:laidMetH Tryz.prog l W) (hsh:W.ShapedOpen Tryz.prog)
  (m1:("internal/strconv.uint64pow10",Rows.laid_internal_strconv_uint64pow10)∈l) (m2:("errors.errorType",Rows.laid_errors_errorType)∈l)
  (m3:("strconv.ErrRange",Rows.laid_strconv_ErrRange)∈l) (m4:("strconv.ErrSyntax",Rows.laid_strconv_ErrSyntax)∈l) (m5:("math/bits.deBruijn64tab",Rows.laid_math_bits_deBruijn64tab)∈l)
  (m6:("unicode/utf8.first",Rows.laid_unicode_utf8_first)∈l) (m7:("unicode/utf8.acceptRanges",Rows.laid_unicode_utf8_acceptRanges)∈l):EnvU W:=
 ⟨envH_of_laid h hsh m1 m2 m3 m4 m5,utf8_of_reads (by
  have:=laid_reads h m6 (by kernel_rfl);rw[show Rows.laid_unicode_utf8_first=Lib.firstData from Pinned.utf8First_eq]at this;exact this) (by
  have:=laid_reads h m7 (by kernel_rfl);rw[show(Rows.laid_unicode_utf8_acceptRanges:DataW Unit)=Lib.acceptData by kernel_rfl]at this;exact this)⟩
theorem laidOut:laidOutB Tryz.prog=true:=by kernel_rfl
theorem cellsU8:Tryz.prog.cellsOf 5=1:=by kernel_rfl
theorem trodAll_below {H:Type} {enc:TypeId×Value->H} {W W':World} (hb:Below W.heap.size W W'):∀{ts:List TypeId} {vs:List Value} {ds:List (DataW H)} {ps:List MemPlace},
  (∀t∈ts,Tryz.prog.readableRec t=true/\t<Tryz.prog.types.size)->DataW.TrodAll enc Tryz.prog W 0 (fun _=>true) true ts vs ds ps->(∀x∈ps,x.block<W.heap.size)->
  DataW.TrodAll enc Tryz.prog W' 0 (fun b=>decide (b<W.heap.size)) true ts vs ds ps
 | [],[],[],_,_,h,_=>h
 | t::ts,v::vs,d::ds,ps,ht,⟨p,q,h1,h2,e⟩,hlt=>
   ⟨p,q,Below.trod laidOut (ht t (by simp)).1 (ht t (by simp)).2 h1 hb (fun x hx=>hlt x (by rw[e];exact List.mem_append_left _ hx)),
    trodAll_below hb (fun t' h'=>ht t' (by simp[h'])) h2 (fun x hx=>hlt x (by rw[e];exact List.mem_append_right _ hx)),e⟩
 | [],_::_,_,_,_,h,_=>by simp[DataW.TrodAll]at h
 | [],[],_::_,_,_,h,_=>by simp[DataW.TrodAll]at h
 | _::_,[],_,_,_,h,_=>by simp[DataW.TrodAll]at h
 | _::_,_::_,[],_,_,h,_=>by simp[DataW.TrodAll]at h
theorem byte_of_wf {n:Int} (h:(Lit.int .u8 n).wf=true):0<=n/\n<=255:=by
 simp only[Lit.wf,Bool.and_eq_true,decide_eq_true_eq]at h;have h0:IntKind.u8.min=0:=by decide
 have h1:IntKind.u8.max=255:=by decide
 rw[h0,h1]at h;exact h
theorem slB_cell {H:Type} {enc:TypeId×Value->H} {W:World} {base:Nat} {sp:Nat->Bool} {hd:Bool} {v:Value} {x:DataW H×List MemPlace} {fuel:Nat}
  (hf:DataW.trod enc Tryz.prog W base sp hd fuel 44 [v]=some x):∃l,SlB W v l:=by
 rcases open_ints Tryz.underlying44 Tryz.underlying5 cellsU8 hf with⟨hcs,hx⟩|⟨a,len',cap',zs,hcs,_,hl,hm,hz,hx,hcell,hwz⟩
 ·obtain rfl:=List.singleton_inj.1 hcs;exact⟨[],none,0,rfl,by simp,fun j b hj=>by simp at hj⟩
 ·obtain rfl:=List.singleton_inj.1 hcs;have hzl:len'<=zs.length:=by rw[hz];split<;>omega
  have hm':cap'<=9223372036854775807:=hm;have hlen:((zs.take len').map (fun z=>UInt8.ofNat z.toNat)).length=len':=by simp;omega
  refine⟨(zs.take len').map (fun z=>UInt8.ofNat z.toNat),some a,cap',by rw[hlen],by rw[hlen];omega,fun j b hj=>?_⟩
  have hjl:j<len':=by
   have:=(List.getElem?_eq_some_iff.1 hj).1;rw[hlen]at this;exact this
  obtain⟨B,off,rfl,hc⟩:=ints_at hcell (by omega);have h1:=hc j (by omega);refine⟨B,off,rfl,World.block_lt_of_cell? _ _ h1,?_⟩;rw[h1]
  have hzj:zs[j]? =some (zs.getD j 0):=by
   rw[List.getD_eq_getElem?_getD,List.getElem?_eq_getElem (by omega)];rfl
  have hb:b=UInt8.ofNat (zs.getD j 0).toNat:=by
   rw[List.getElem?_map,List.getElem?_take,if_pos hjl,hzj]at hj;exact(Option.some.inj hj).symm
  obtain⟨w0,w1⟩:=byte_of_wf (hwz _ (List.mem_of_getElem? hzj));rw[hb,UInt8.toNat_ofNat'];congr 2;omega
theorem slB_of {H:Type} {enc:TypeId×Value->H} {W:World} {base:Nat} {sp:Nat->Bool} {hd:Bool} {v:Value} {d:DataW H} {ps:List MemPlace} {r:Reach} {b0:Nat}
  (hv:Value.okWide Tryz.prog W r b0 44 v) (h:DataW.Trod enc Tryz.prog W base sp hd 44 v d ps):∃l,SlB W v l:=by
 obtain⟨a0,len,cap,rfl⟩:=okWide_slice Tryz.underlying44 hv;obtain⟨fuel,hf⟩:=h;exact slB_cell hf
theorem ownU:ownKnob Tryz.prog.godebug=none:=by kernel_rfl
theorem envU_row {W:World} (h:laidMetH Tryz.prog Rows.urlsTellRow.laid W) (hsh:W.ShapedOpen Tryz.prog):EnvU W:=
 envU_of_laid h hsh (.tail _ (.tail _ (.head _))) (.tail _ (.tail _ (.tail _ (.tail _ (.head _))))) (.tail _ (.tail _ (.tail _ (.tail _ (.tail _ (.head _))))))
  (.tail _ (.tail _ (.tail _ (.tail _ (.tail _ (.tail _ (.head _))))))) (.tail _ (.head _))
  (.tail _ (.tail _ (.tail _ (.tail _ (.tail _ (.tail _ (.tail _ (.head _)))))))) (.tail _ (.tail _ (.tail _ (.head _))))
def cellsOfPinned:DataW Unit->Array Value
 | .agg l=>(l.filterMap fun| .lit (.int k z)=>some (Value.int k z)|_=>none).toArray
 | _=> #[]
noncomputable def startU (os:Os):World:=
 {World.doorLaid Tryz.prog 84 os with heap:=(World.doorLaid Tryz.prog 84 os).heap.modify 2 fun
  | .cells _ t frozen=>.cells (cellsOfPinned Rows.laid_unicode_utf8_first) t frozen
  | o=>o}
theorem metU (os:Os) (args:Array Value):laidMetH Tryz.prog Rows.urlsTellRow.laid ((startU os).forCall (fun _ _=>0) ⟨#[],args,[]⟩).memory:=
 laidMetH_of_parts3 (fuel:=8) (laidMet_of_run' 8 (by kernel_rfl) (by kernel_rfl)) (by kernel_rfl) (by kernel_rfl)
theorem andI {a b:Bool} (h1:a=true) (h2:b=true):(a&&b)=true:=by rw[h1,h2];rfl
theorem mayU:Tryz.prog.mayEnter=true:=by kernel_rfl
theorem liftU:(Rows.urlsTellRow.lifted==Tryz.prog.liftsFinal)=true:=by kernel_rfl
theorem makeU:(Tryz.prog.make==some Rows.urlsTellRow.make)=true:=by kernel_rfl
theorem mapsU:mapsRowed Tryz.prog=true:=by kernel_rfl
theorem keysU:(Rows.urlsTellRow.plainKeys==Tryz.prog.plainKeys)=true:=by kernel_rfl
theorem heardU:Tryz.prog.stopsHeard=true:=by kernel_rfl
end Go.Proofs.YtipndhbgehdeoaaGreatDoor
namespace Go.Proofs.YtipndhbgehdeoaaGreatDoor
open Go.RowKit
theorem all_at {s:ByteArray} (h:s.data.toList.all Lz.isDigit=true) {i:Nat} (hi:i<s.size):Lz.isDigit s[i]=true:=
 List.all_eq_true.1 h _ (by
  have:s[i]=s.data.toList[i]'(by rw[len_of_size];exact hi):=rfl;rw[this];exact List.getElem_mem _)
def portF (s:List UInt8) (d:Int) (n:Nat):Int:=if 65535<n then -2 else if s=[]\/(n:Int)=d then -1 else(n:Int)
theorem port08_any (s sc:ByteArray) (hs:s.size<=1000000000) (hdig:s.data.toList.all Lz.isDigit=true) (w:World):
  Calls Tryz.prog 40 #[.string s,.string sc] w fun e w'=>e=.returned (.int .i64 (Lz.portI sc.data.toList s.data.toList))/\w=w':=by
 have HD:=Ih (fun(i:Nat) (hi:i<s.size)=>digit_ge _ (all_at hdig hi));obtain⟨o,ho⟩:∃o,o=Lz.capN 0 s.data.toList:=⟨_,rfl⟩;obtain⟨goal,hgl⟩:∃goal,goal=Lz.portI sc.data.toList s.data.toList:=⟨_,rfl⟩;have cD:=Ih (fun W=>Default08_any sc W);have HU:Hid (goal=portF s.data.toList (Lz.defP sc.data.toList) o):=Ih (by rw[hgl,ho];rfl);rw[<-hgl];obtain⟨d,hd⟩:∃d,d=Lz.defP sc.data.toList:=⟨_,rfl⟩;rw[<-hd]at cD HU;have Ho:=Ih ho;clear ho hgl hd hdig;go_enter Tryz.func40,Tryz.ntmps40
 go_wp2_with fail
 go_loopw [5,6] (fun n j wr=>∃a i:Nat,n=.int .i64 a/\j=.int .i64 i/\i<=s.size/\a<=100000/\Hid (o=Lz.capN a (s.data.toList.drop i))/\w=wr) (fun _ j _=>s.size-(intOf j).toNat)
 case atStart=>exact⟨0,0,rfl,rfl,Nat.zero_le _,by omega,Ih (by rw[Ho.out,List.drop_zero]),rfl⟩
 case round=>
  obtain⟨a,i,rfl,rfl,hi,ha,hO,rfl⟩:=hrel;by_cases hlt:i<s.size
  ·have hltI:(i:Int)<(s.size:Int):=by omega
   have hi0:(0:Int)<=(i:Int):=by omega
   obtain⟨c,hc⟩:∃c,c=s[i]:=⟨_,rfl⟩;have hcI:(s[i].toNat:Int)=(c.toNat:Int):=by rw[hc]
   obtain⟨hc1,hc2⟩:=HD.out i hlt;rw[<-hc]at hc1 hc2;obtain⟨x,hx⟩:∃x,x=c.toNat-48:=⟨_,rfl⟩;have hxc:(c.toNat:Int)-48=(x:Int):=by omega
   have hx9:x<=9:=by omega
   have hst2:Hid (o=Lz.capN (min (10*a+x) 100000) (s.data.toList.drop (i+1))):=by
    show _=_;rw[hO.out,List.drop_eq_getElem_cons (show i<s.data.toList.length from hlt),hx,hc];rfl
   have hxw:IntKind.u8.wrap (x:Int)=(x:Int):=IntWalk.u8_in _ (by omega);have hxw2:IntKind.i64.wrap (x:Int)=(x:Int):=IntWalk.i64_in _ (by omega);clear hO hc hx hc1 hc2;rcases Nat.lt_or_ge (10*a+x) 100000 with hmn|hmn
   ·have hmI:10*(a:Int)+(x:Int)<100000:=by omega
    have hmI2:10*(a:Int)+(x:Int)<=100000:=by omega
    have HN:Hid (o=Lz.capN (10*a+x) (s.data.toList.drop (i+1))):=by show _=_;rw[hst2.out,Nat.min_eq_left (by omega)]
    go_wp2_with fail
    go_roundw
    case rel=>exact⟨10*a+x,i+1,by go_num,by go_num,by omega,by omega,HN,trivial⟩
    case measure=>simp[intOf];omega
   ·have hmI:¬(10*(a:Int)+(x:Int)<100000):=by omega
    have hmI2:(100000:Int)<=10*(a:Int)+(x:Int):=by omega
    have HN:Hid (o=Lz.capN 100000 (s.data.toList.drop (i+1))):=by show _=_;rw[hst2.out,Nat.min_eq_right (by omega)]
    go_wp2_with fail
    go_roundw
    case rel=>exact⟨100000,i+1,by go_num,by go_num,by omega,by omega,HN,trivial⟩
    case measure=>simp[intOf];omega
  ·have hltI:¬(i:Int)<(s.size:Int):=by omega
   have HN:Hid (o=a):=by
    show _=_;rw[hO.out,List.drop_eq_nil_of_le (show s.data.toList.length<=i by rw[len_of_size];omega)];rfl
   clear hO;by_cases ha2:65535<a
   ·have haI:(65535:Int)<(a:Int):=by omega
    have HR:Hid (goal= -2):=by show _=_;rw[HU.out,HN.out,portF,if_pos ha2]
    go_wp2_with fail
    go_ret;rw[HR.out];exact⟨rfl,rfl⟩
   ·have haI:¬(65535:Int)<(a:Int):=by omega
    by_cases he:s.data.toList=[]
    ·have g0:=text_yes he;have hem:s.toList.isEmpty=true:=isEmpty_of_size (by rw[<-len_of_size,he];rfl);have HR:Hid (goal= -1):=by show _=_;rw[HU.out,HN.out,portF,if_neg ha2,if_pos (Or.inl he)]
     clear he
     go_wp2_with fail
     go_ret;rw[HR.out];exact⟨rfl,rfl⟩
    ·have g0:=text_no he;have hem:s.toList.isEmpty=false:=isEmpty_of_pos (by rw[<-len_of_size];exact List.length_pos_iff.2 he);by_cases hd:(a:Int)=d
     ·have hdb:((a:Int)==d)=true:=by simp[hd]
      have HR:Hid (goal= -1):=by show _=_;rw[HU.out,HN.out,portF,if_neg ha2,if_pos (Or.inr hd)]
      clear he hd
      go_wp2_with fail
      refine(cD.out _).mono ?_;rintro e w1 ⟨rfl,rfl⟩
      go_wp2_with fail
      go_ret;rw[HR.out];exact⟨rfl,rfl⟩
     ·have hdb:((a:Int)==d)=false:=by simp[hd]
      have HR:Hid (goal=a):=by show _=_;rw[HU.out,HN.out,portF,if_neg ha2,if_neg (fun h=>h.elim he hd)]
      clear he hd
      go_wp2_with fail
      refine(cD.out _).mono ?_;rintro e w1 ⟨rfl,rfl⟩
      go_wp2_with fail
      go_ret;rw[HR.out];exact⟨rfl,rfl⟩
theorem short_keep {s:List UInt8} {l:List (List UInt8)} (h:s=Lz.fileS/\l.length=1/\Lz.rootedP l=true):Lz.shortP s l=l:=by unfold Lz.shortP;rw[if_pos h]
theorem short_copy (p:Addr) (k:Nat) (xs:List ByteArray) (hn:xs.length=k+1) (w:World)
  (hcells:∀(j:Nat) (x:ByteArray),xs[j]? =some x->w.cell? (p.add j)=some (.string x)):
  (xs.dropLast.map Value.string).length=k/\∀(j:Nat) (u:Value),(xs.dropLast.map Value.string)[j]? =some u->w.cell? (p.add j)=some u:=by
 refine⟨by simp[hn],fun j u hj=>?_⟩;rw[List.getElem?_map,Option.map_eq_some_iff]at hj;obtain⟨x,hx,rfl⟩:=hj;have hjl:=(List.getElem?_eq_some_iff.1 hx).1;rw[List.length_dropLast]at hjl;exact hcells j x (by rw[<-List.getElem?_take_of_lt (show j<xs.length-1 from hjl),<-List.dropLast_eq_take,hx])
theorem shorten08_any (B:Nat) (sc:ByteArray) (v:Value) (xs:List ByteArray) (w:World) (h:PathOwn w B v xs) (hB:B<=w.heap.size) (hL:xs.length<=1000000000):
  Calls Tryz.prog 37 #[.string sc,v] w (RClone B (Lz.shortP sc.data.toList (xs.map (fun x:ByteArray=>x.data.toList))) w):=by
 obtain⟨i0,hi,hz0,hz1,hz2⟩:=info_parts infoTxt;obtain⟨a,c,rfl,hc,hcells⟩:=h.form;have h0:=Ih h;obtain⟨goal,hg⟩:∃goal,goal=Lz.shortP sc.data.toList (xs.map (fun x:ByteArray=>x.data.toList)):=⟨_,rfl⟩;have HG:=Ih hg;rw[<-hg];clear h hg;obtain⟨n,hn⟩:∃n,n=xs.length:=⟨_,rfl⟩;cases n with
 | zero=>
   obtain rfl:xs=[]:=List.length_eq_zero_iff.1 hn.symm;have HR:Hid (RClone B goal w (.returned (.slice a 0 c)) w):=⟨a,0,c,[],rfl,by rw[HG.out,List.map_nil,shortP_nil],h0.out,Below.refl _ _⟩;clear hcells hn;go_enter Tryz.func37,Tryz.ntmps37
   go_wp2_with fail
   go_ret;exact HR.out
 | succ k=>
   obtain⟨x0,hxe⟩:∃x0,xs[0]? =some x0:=⟨_,List.getElem?_eq_getElem (by omega)⟩;obtain⟨G,off,rfl,hGl,hx0⟩:=hcells 0 x0 hxe
   have hcl:∀(j:Nat) (x:ByteArray),xs[j]? =some x->w.cell? ((⟨G,off,none⟩:Addr).add j)=some (.string x):=fun j x hj=>by
    obtain⟨G',off',e,_,hc'⟩:=hcells j x hj;injection e with e;injection e with e1 e2
    subst e1;subst e2;rw[show(⟨G,off,none⟩:Addr).add j=⟨G,off+j,none⟩ by simp[Addr.add]];exact hc'
   obtain⟨hnl,hnc⟩:=short_copy ⟨G,off,none⟩ k xs hn.symm w hcl;have Hnl:=Ih hnl;have Hnc:=Ih hnc;have hkI:((k+1:Nat):Int)-1=(k:Int):=by omega
   have hkI2:(k:Int)+1-1=(k:Int):=by omega
   have hkb:k<=1000000000:=by omega
   have hkc:k<=c:=by omega
   have hk0:(((k+1:Nat):Int)==0)=false:=by rw[beq_eq_false_iff_ne];omega
   have hk00:((k:Int)+1==0)=false:=by rw[beq_eq_false_iff_ne];omega
   have HK:Hid (sc.data.toList=Lz.fileS/\k=0/\(Lz.driveP x0.data.toList&&x0.data.toList[1]? ==some 58)=true->RClone B goal w (.returned (.slice (some ⟨G,off,none⟩) (k+1) c)) w):=by
    intro⟨h1,h2,h3⟩;subst h2
    match xs,hn,h3,hxe,h0 with
    | [x],_,h3,hxe,h0=>
      obtain rfl:=Option.some.inj hxe;exact⟨_,_,_,[x],rfl,by rw[HG.out];exact(short_keep (l:=[x.data.toList]) ⟨h1,rfl,h3⟩).symm,h0.out,Below.refl _ _⟩
   have HD:Hid (¬(sc.data.toList=Lz.fileS/\k=0/\(Lz.driveP x0.data.toList&&x0.data.toList[1]? ==some 58)=true)->goal=xs.dropLast.map (fun x:ByteArray=>x.data.toList)):=by
    intro hno;rw[HG.out,shortP_drop,map_dropLast];intro⟨h1,h2,h3⟩;refine hno ⟨h1,by simpa [<-hn]using h2,?_⟩
    match xs,hn,h2,h3,hxe with
    | [x],_,_,h3,hxe=>obtain rfl:=Option.some.inj hxe;exact h3
   have cR:=root08_any x0 w;rw[<-hn]at hc;rw[<-hn];obtain⟨dq,hdq⟩:∃dq,dq=(Lz.driveP x0.data.toList&&x0.data.toList[1]? ==some 58):=⟨_,rfl⟩;rw[<-hdq]at cR HK HD;clear hdq;have CR:=Ih cR;have hx00:w.cell? ⟨G,off,none⟩=some (.string x0):=by rw[<-hx0];rfl
   clear cR hcells hcl hnl hnc HG hn hx0 hxe h0;obtain⟨ys,hys⟩:∃ys,ys=xs.dropLast:=⟨_,rfl⟩;rw[<-hys]at HD Hnl Hnc;clear hys
   have HZ:Hid (k=0->goal=ys.map (fun x:ByteArray=>x.data.toList)->RClone B goal w (.returned (.slice none 0 0)) w):=by
    intro e hg;have hz:ys=[]:=List.eq_nil_of_length_eq_zero (by have:=Hnl.out;rw[List.length_map]at this;omega);exact⟨none,0,0,[],rfl,by rw[hg,hz],PathOwn.nil _ _,Below.refl _ _⟩
   by_cases hf0:sc.data.toList=Lz.fileS
   ·have g0:=text_yes (k:=[102,105,108,101]) hf0;by_cases hk1:k=0
    ·have k1:((k:Int)+1==1)=true:=by rw[hk1];rfl
     cases dq with
     | true=>
       have HE:=Ih (HK.out ⟨hf0,hk1,rfl⟩);clear HD HK hf0 hk1 hL;go_enter Tryz.func37,Tryz.ntmps37
       go_wp2_with fail
       refine CR.out.mono ?_;rintro e w1 ⟨rfl,rfl⟩
       go_wp2_with fail
       go_ret;exact HE.out
     | false=>
       have HE:=Ih (HD.out (fun h=>absurd h.2.2 (by simp)));clear HD HK hf0 hL;go_enter Tryz.func37,Tryz.ntmps37
       go_wp2_with fail
       refine CR.out.mono ?_;rintro e w1 ⟨rfl,rfl⟩
       go_wp2_with fail
       go_ret;exact HZ.out hk1 HE.out
    ·have k1:((k:Int)+1==1)=false:=by rw[beq_eq_false_iff_ne];omega
     have HE:=Ih (HD.out (fun h=>hk1 h.2.1));clear HD HK hf0 hL HZ hk1;go_enter Tryz.func37,Tryz.ntmps37
     go_wp2_with (at_builtin;refine wpList_append_own _ rfl (.const (.slice none 0 0)) (.tmp 28) 23 rfl B 9 i0 (.string ⟨#[]⟩) 1 16 Tryz.underlying23 hi hz0 hz1 hz2 rfl (by decide) _ 0 [] rfl (World.ownsRow_nil _ B _ _) ⟨G,off,none⟩ k c (ys.map Value.string) rfl (by rw[Nat.mul_one];exact Hnl.out) Hnc.out (by simp[Value.oneCell']) (by unfold maxLen;omega) (by omega) hB ?_)
     intro v' w' hown hg _;have hb:Below w.heap.size w w':=(Below.refl _ w).grown hg (Nat.le_refl _) (fun k hk=>by simp[Value.ownBlock]at hk)
     try rw[Nat.zero_add,List.nil_append]at hown
     have hP:PathOwn w' B v' ys:=.inl (by rw[show ys.length=k by have:=Hnl.out;rwa [List.length_map]at this];exact hown);obtain⟨a',c',rfl,_,_⟩:=hP.form;have HP:=Ih hP;clear hown hg hP
     go_wp2_with fail
     go_ret;exact⟨a',_,c',ys,rfl,HE.out.symm,HP.out,hb⟩
   ·have g0:=text_no (k:=[102,105,108,101]) hf0;have HE:=Ih (HD.out (fun h=>hf0 h.1));by_cases hk1:k=0
    ·have k1:((k:Int)+1==1)=true:=by rw[hk1];rfl
     clear HD HK hf0 hL;go_enter Tryz.func37,Tryz.ntmps37
     go_wp2_with fail
     go_ret;exact HZ.out hk1 HE.out
    ·clear HD HK hf0 hL HZ hk1;go_enter Tryz.func37,Tryz.ntmps37
     go_wp2_with (at_builtin;refine wpList_append_own _ rfl (.const (.slice none 0 0)) (.tmp 28) 23 rfl B 9 i0 (.string ⟨#[]⟩) 1 16 Tryz.underlying23 hi hz0 hz1 hz2 rfl (by decide) _ 0 [] rfl (World.ownsRow_nil _ B _ _) ⟨G,off,none⟩ k c (ys.map Value.string) rfl (by rw[Nat.mul_one];exact Hnl.out) Hnc.out (by simp[Value.oneCell']) (by unfold maxLen;omega) (by omega) hB ?_)
     intro v' w' hown hg _;have hb:Below w.heap.size w w':=(Below.refl _ w).grown hg (Nat.le_refl _) (fun k hk=>by simp[Value.ownBlock]at hk)
     try rw[Nat.zero_add,List.nil_append]at hown
     have hP:PathOwn w' B v' ys:=.inl (by rw[show ys.length=k by have:=Hnl.out;rwa [List.length_map]at this];exact hown);obtain⟨a',c',rfl,_,_⟩:=hP.form;have HP:=Ih hP;clear hown hg hP
     go_wp2_with fail
     go_ret;exact⟨a',_,c',ys,rfl,HE.out.symm,HP.out,hb⟩
end Go.Proofs.YtipndhbgehdeoaaGreatDoor
namespace Lz
open Go
def frR (a:List Nat) (i:Nat) (fr:Int) (mn:Nat):Prop:=fr=(if(runF a i).1=(runF a i).2 then -1 else((runF a i).1:Int))/\mn=max ((runF a i).2-(runF a i).1) 1
theorem frR_zero (a:List Nat):frR a 0 (-1) 1:=⟨by simp[runF],by simp[runF]⟩
theorem frR_hit {a:List Nat} {i mn k:Nat} {fr:Int} (h:frR a i fr mn) (hk:zerosP (a.drop i)=k) (hl:mn<k):frR a (i+1) i k:=by
 obtain⟨_,h2⟩:=h
 have e:runF a (i+1)=(i,i+k):=by
  rw[runF,hk,<-h2,if_pos hl]
 unfold frR;rw[e];constructor
 ·rw[if_neg (by simp;omega)]
 ·simp only;omega
theorem frR_miss {a:List Nat} {i mn k:Nat} {fr:Int} (h:frR a i fr mn) (hk:zerosP (a.drop i)=k) (hl:¬mn<k):frR a (i+1) fr mn:=by
 have e:runF a (i+1)=runF a i:=by
  rw[runF,hk,<-h.2,if_neg hl]
 unfold frR;rw[e];exact h
def sixOk (neg:Bool) (o1 o2:Option (List Nat)):Bool:=o1.isSome&&o2.isSome&&(if neg then(o1.getD []).length==8 else decide ((o1.getD []).length+(o2.getD []).length<=7))
theorem sixR_ok {s:Bs} {o1 o2:Option (List Nat)} {neg:Bool} (h1:rowSR (Lib.cut s [58,58]).1 neg=o1) (h2:rowSR (Lib.cut s [58,58]).2.1 true=o2) (hn:(!(Lib.cut s [58,58]).2.2)=neg):
  sixR s=(if sixOk neg o1 o2 then some (o1.getD []++List.replicate (8-(o1.getD []).length-(o2.getD []).length) 0++o2.getD [])else none)/\(neg=true->o2=some []):=by
 have hno:= @cut_no s;subst hn;unfold sixR;rw[h1,h2];generalize Lib.cut s [58,58]=c at hno h1 h2;obtain⟨f,b,q⟩:=c;simp only at hno h1 h2⊢;cases q
 ·obtain⟨rfl,rfl⟩:=hno rfl;have h0:o2=some []:=by rw[<-h2];rfl
  subst h0;refine⟨?_,fun _=>rfl⟩;cases o1 with
  | none=>rfl
  | some x=>
    by_cases h8:x.length=8
    ·simp[sixOk,h8]
    ·simp[sixOk,h8]
 ·refine⟨?_,fun h=>by cases h⟩;cases o1 with
  | none=>rfl
  | some x=>
    cases o2 with
    | none=>rfl
    | some y=>
      by_cases h7:7<x.length+y.length
      ·have h7':¬(x.length+y.length<=7):=by omega
       simp[sixOk,h7,h7']
      ·have h7':x.length+y.length<=7:=by omega
       simp[sixOk,h7,h7']
end Lz
namespace Go.Proofs.YtipndhbgehdeoaaGreatDoor
open Go.RowKit
attribute [local go_sem ↓] Go.wp_at_zero Go.wp_at_succ
theorem FormatIntI_16 (n:Nat) (hn:n<=1099511627776) (w:World) (h:w.cell? ⟨6,15,none⟩=some (.int .u8 4)):Calls Tryz.prog 108 #[.int .i64 n,.int .i64 16] w (RStr (Lz.baseD 16 n) w):=by
 have cF:=Ih (fmtBits_16 n hn w h);have hw:IntKind.u64.wrap (n:Int)=(n:Int):=IntWalk.u64_in _ (by omega);have hn0:(0:Int)<=(n:Int):=by omega
 have hn1:¬(n:Int)<0:=by omega
 go_enter Tryz.func108,Tryz.ntmps108
 go_wp2_with fail
 refine(cF.out).mono ?_;rintro e w1 ⟨u,v,rfl,hu,hb⟩
 go_wp2
 go_ret;exact⟨u,rfl,hu,hb⟩
theorem FormatInt_16 (n:Nat) (hn:n<=1099511627776) (w:World) (h:w.cell? ⟨6,15,none⟩=some (.int .u8 4)):Calls Tryz.prog 103 #[.int .i64 n,.int .i64 16] w (RStr (Lz.hexD n) w):=by
 have cF:=Ih (FormatIntI_16 n hn w h);go_enter Tryz.func103,Tryz.ntmps103
 go_wp2_with fail
 refine(cF.out).mono ?_;rintro e w1 ⟨u,rfl,hu,hb⟩
 go_wp2
 go_ret;exact⟨u,rfl,Ih (by rw[hu.out,Lz.baseD_hex]),hb⟩
theorem own_slice {w:World} {base:Nat} {e:TypeId} {size n:Nat} {v:Value} {xs:List Value} (h:w.ownsRow base e size v n xs):∃a c,v=.slice a n c:=by
 rcases h.2 with⟨rfl,rfl⟩|⟨g,cap,cur,rfl,_⟩
 ·exact⟨_,_,rfl⟩
 ·exact⟨_,_,rfl⟩
theorem own_ints {w:World} {base:Nat} {v:Value} {n:Nat} {l:List Nat} (h:w.ownsRow base 3 1 v n (intn l)) (hn:1<=n):
  ∃g cap,v=.slice (some ⟨g,0,none⟩) n cap/\g<w.heap.size/\∀(j m:Nat),l[j]? =some m->w.cell? ⟨g,j,none⟩=some (.int .i64 (m:Int)):=by
 have hl:l.length=n:=by have:=h.1;simpa [intn]using this
 rcases h.2 with⟨rfl,h0⟩|⟨g,cap,cur,rfl,hbg,hg,hnc,hcm,hcs,htk⟩
 ·omega
 ·refine⟨g,cap,rfl,(Array.getElem?_eq_some_iff.1 hg).1,fun j m hj=>?_⟩;have h2:(intn l)[j]? =some (.int .i64 (m:Int)):=by simp[intn,hj]
  rw[<-htk,List.getElem?_take]at h2;split at h2
  ·simp only[World.cell?,hg];simpa using h2
  ·cases h2
def lenV:Value->Nat
 | .slice _ n _=>n
 | _=>0
def fillZ (x:List Nat) (m:Nat):List Nat:=x++List.replicate (m-x.length) 0
theorem fillZ_self (x:List Nat):fillZ x x.length=x:=by simp[fillZ]
theorem fillZ_next {x:List Nat} {m:Nat} (h:x.length<=m):fillZ x m++[0]=fillZ x (m+1):=by
 unfold fillZ;rw[show m+1-x.length=(m-x.length)+1 by omega,List.replicate_succ',List.append_assoc]
theorem fillZ_len {x:List Nat} {m:Nat} (h:x.length<=m):(fillZ x m).length=m:=by simp[fillZ];omega
def RSix7 (o:Option (List Nat)) (w:World) (e:Ending) (w':World):Prop:=
 Below w.heap.size w w'/\match o with
  | some a=>∃u:ByteArray,e=.returned (.tuple #[.string u,.int .i64 0])/\Hid (u.data.toList=Lz.textP a)
  | none=>e=.returned (.tuple #[.string ⟨#[]⟩,.int .i64 72])
theorem six07_any (s:ByteArray) (hs:s.size<=90000) (w:World) (hE:EnvH w):Calls Tryz.prog 67 #[.string s] w (RSix7 (Lz.sixR s.data.toList) w):=by
 obtain⟨i0,hi,hz0,hz1,hz2⟩:=info_parts infoI64;have hws:IntKind.i64.wrap ((s.size:Int)-2)=(s.size:Int)-2:=IntWalk.i64_in _ (by omega);go_enter Tryz.func67,Tryz.ntmps67
 go_wp2_with fail
 go_loopw [4,5] (fun a i wr=>∃(at0 z:Int),a=.int .i64 at0/\i=.int .i64 z/\ -2<=z/\z<=(s.size:Int)-2/\ -1<=at0/\at0<=90000/\Hid (at0=Lz.atF s.data.toList (z+1).toNat)/\w=wr) (fun _ i _=>(intOf i+1).toNat)
 case atStart=>exact⟨-1,(s.size:Int)-2,rfl,rfl,by omega,by omega,by omega,by omega,by show _=_;rw[Lz.atF_end (by rw[len_of_size];omega)],rfl⟩
 case round=>
  obtain⟨at0,z,rfl,rfl,hz1',hz2',ha1,ha2,hat,rfl⟩:=hrel;by_cases hz:0<=z
  ·obtain⟨j,rfl⟩:∃j:Nat,z=j:=⟨z.toNat,by omega⟩;have hj:j+1<s.size:=by omega
   have hj0:j<s.size:=by omega
   have hjI:(j:Int)<(s.size:Int):=by omega
   have hjI1:(j:Int)+1<(s.size:Int):=by omega
   have hj1:(0:Int)<=(j:Int)+1:=by omega
   have hw1:IntKind.i64.wrap ((j:Int)+1)=(j:Int)+1:=IntWalk.i64_in _ (by omega);have hw2:IntKind.i64.wrap ((j:Int)-1)=(j:Int)-1:=IntWalk.i64_in _ (by omega)
   have hst:Hid (Lz.atF s.data.toList j=if(s[j]==58&&s[j+1]==58)=true then(j:Int)else at0):=by
    show _=_;rw[Lz.atF_step (show j+1<s.data.toList.length from hj),hat.out];rfl
   obtain⟨c,hc⟩:∃c,c=s[j]:=⟨_,rfl⟩;obtain⟨d,hd⟩:∃d,d=s[j+1]:=⟨_,rfl⟩;have hcI:(s[j].toNat:Int)=(c.toNat:Int):=by rw[hc]
   have hdI:(s[j+1].toNat:Int)=(d.toNat:Int):=by rw[hd]
   rw[<-hc,<-hd]at hst;have hb1:((c.toNat:Int)==58)=(c==58):=beqI c 58;have hb2:((d.toNat:Int)==58)=(d==58):=beqI d 58;clear hc hd hat;cases h1:(c==58)
   ·rw[h1]at hb1;have hst2:Hid (at0=Lz.atF s.data.toList j):=by show _=_;rw[hst.out,h1];rfl
    clear h1 hst hb2
    go_wp2_with fail
    go_roundw
    case rel=>exact⟨at0,(j:Int)-1,rfl,rfl,by omega,by omega,ha1,ha2,by show _=_;rw[hst2.out,show((j:Int)-1+1).toNat=j by omega],trivial⟩
    case measure=>simp[intOf]
   ·rw[h1]at hb1;cases h2:(d==58)
    ·rw[h2]at hb2;have hst2:Hid (at0=Lz.atF s.data.toList j):=by show _=_;rw[hst.out,h1,h2];rfl
     clear h1 h2 hst
     go_wp2_with fail
     go_roundw
     case rel=>exact⟨at0,(j:Int)-1,rfl,rfl,by omega,by omega,ha1,ha2,by show _=_;rw[hst2.out,show((j:Int)-1+1).toNat=j by omega],trivial⟩
     case measure=>simp[intOf]
    ·rw[h2]at hb2;have hst2:Hid ((j:Int)=Lz.atF s.data.toList j):=by show _=_;rw[hst.out,h1,h2];rfl
     clear h1 h2 hst
     go_wp2_with fail
     go_roundw
     case rel=>exact⟨j,(j:Int)-1,rfl,rfl,by omega,by omega,by omega,by omega,by show _=_;rw[show((j:Int)-1+1).toNat=j by omega];exact hst2.out,trivial⟩
     case measure=>simp[intOf]
  ·have hat0:Hid (at0=Lz.atF s.data.toList 0):=by show _=_;rw[hat.out,show(z+1).toNat=0 by omega]
   have Hz1:=Ih hz1';have Hz2:=Ih hz2';clear hat hz1' hz2'
   go_upto_if 39 with fail
   go_cut [6,7] (fun f b wx=>∃fb bb:ByteArray,f=.string fb/\b=.string bb/\fb.size<=90000/\bb.size<=90000/\Hid (fb.data.toList=(Lib.cut s.data.toList [58,58]).1)/\Hid (bb.data.toList=(Lib.cut s.data.toList [58,58]).2.1)/\Hid ((!(Lib.cut s.data.toList [58,58]).2.2)=decide (at0<0))/\Below w.heap.size w wx)
   case first=>
    rcases Lz.cut_at2 s.data.toList with⟨h0,hcut⟩|⟨p,h0,hp,hcut⟩
    ·have hneg:¬(0:Int)<=at0:=by rw[hat0.out,h0];decide
     have hneg2:Hid (at0<0):=by show _<_;omega
     have Hcut:=Ih hcut;clear h0 hcut
     go_wp2_with fail
     go_meet;exact⟨s,⟨#[]⟩,rfl,rfl,hs,Nat.zero_le _,by show _=_;rw[Hcut.out],by show _=_;(rw[Hcut.out])<;>rfl,by show _=_;(rw[Hcut.out,decide_eq_true hneg2.out])<;>rfl,Below.refl _ w⟩
    ·obtain rfl:at0=(p:Int):=by rw[hat0.out,h0]
     have hp2:p+2<=s.size:=by rw[<-len_of_size];exact hp
     have hneg:(0:Int)<=(p:Int):=by omega
     have hpw:IntKind.i64.wrap ((p:Int)+2)=(p:Int)+2:=IntWalk.i64_in _ (by omega);have hp3:(p:Int)<=(s.size:Int):=by omega
     have hp4:(p:Int)+2<=(s.size:Int):=by omega
     have hp5:(0:Int)<=(p:Int)+2:=by omega
     have Hcut:=Ih hcut;clear h0 hcut hp
     go_wp2_with fail
     go_quiet (fail)
     go_wp2_with fail
     go_meet;exact⟨_,_,rfl,rfl,by rw[<-len_of_size,Lib.extract_data,List.length_take];omega,by rw[<-len_of_size,Lib.extract_data,List.length_take];omega,by show _=_;rw[Hcut.out,Lib.extract_data,List.drop_zero,Nat.sub_zero],by show _=_;rw[Hcut.out,Lib.extract_data,List.take_of_length_le (by rw[List.length_drop,len_of_size];exact Nat.le_refl _)],by show _=_;(rw[Hcut.out,decide_eq_false (by omega)])<;>rfl,by first |exact⟨rfl,rfl,rfl,Nat.le_refl _,fun _ _=>rfl⟩|exact Below.refl _ w⟩
   case rest=>
   obtain⟨fb,bb,rfl,rfl,hfz,hbz,hfb,hbb,hng,hbc⟩:=hcut;have hbcz:=hbc.size;have c1:=Ih (pieces07_any fb (decide (at0<0)) (by omega) wc (hE.below hbc));obtain⟨o1,ho1⟩:∃o,o=Lz.rowSR fb.data.toList (decide (at0<0)):=⟨_,rfl⟩;obtain⟨o2,ho2⟩:∃o,o=Lz.rowSR bb.data.toList true:=⟨_,rfl⟩;rw[<-ho1]at c1;have hok:=Lz.sixR_ok (s:=s.data.toList) (o1:=o1) (o2:=o2) (neg:=decide (at0<0)) (by rw[<-hfb.out,ho1]) (by rw[<-hbb.out,ho2]) hng.out
   have hx1:∀n∈o1.getD [],n<=1099511627776:=by
    cases e:o1 with
    | none=>simp
    | some x=>exact(Lz.rowSR_ok (ho1.symm.trans e)).2
   have hx2:∀n∈o2.getD [],n<=1099511627776:=by
    cases e:o2 with
    | none=>simp
    | some x=>exact(Lz.rowSR_ok (ho2.symm.trans e)).2
   have hl1:(o1.getD []).length<=100000:=by
    cases e:o1 with
    | none=>simp
    | some x=>have:=(Lz.rowSR_ok (ho1.symm.trans e)).1;rw[len_of_size]at this;simp only[Option.getD_some];omega
   have hl2:(o2.getD []).length<=100000:=by
    cases e:o2 with
    | none=>simp
    | some x=>have:=(Lz.rowSR_ok (ho2.symm.trans e)).1;rw[len_of_size]at this;simp only[Option.getD_some];omega
   have Hok:=Ih hok;have Hx1:=Ih hx1;have Hx2:=Ih hx2;have Ho2:=Ih ho2;clear hok hx1 hx2 hfb hbb hng ho1 ho2 hat0
   go_wp2_with fail
   refine c1.out.mono ?_;rintro e w1 ⟨v1,rfl,hown1,hb1⟩;have hbw1:=below_call hbc hb1;have c2:=pieces07_any bb true (by omega) w1 (hE.below hbw1);rw[<-Ho2.out]at c2;have C2:=Ih c2;obtain⟨a1,p1,rfl⟩:=own_slice hown1;have Hown1:=Ih hown1;clear c2 c1 hown1
   go_wp2_with fail
   refine C2.out.mono ?_;rintro e w2 ⟨v2,rfl,hown2,hb2⟩;obtain⟨a2,p2,rfl⟩:=own_slice hown2
   have hap:∀g,(Value.slice a1 (o1.getD []).length p1).ownBlock=some g->(Value.slice a2 (o2.getD []).length p2).ownBlock≠some g:=fun g h h2=>by
    have h3:=(Hown1.out.lt g h).2;have h4:=(hown2.lt g h2).1;omega
   have Hap:=Ih hap;have Hown1':=Ih (own_below Hown1.out hb2);have Hown2:=Ih hown2;have hbw2:=below_call hbw1 hb2;clear hown2 C2 Hown1 hap;obtain⟨q,hq⟩:∃q,q= !Lz.sixOk (decide (at0<0)) o1 o2:=⟨_,rfl⟩;have Hq:=Ih hq;clear hq
   go_upto_region 12 with fail
   go_cut [85] (fun c wx=>c=.bool q/\w2=wx)
   case first=>
    have hlt0:∀b:Bool,decide (at0<0)=b->(b=true->at0<0)/\(b=false->¬at0<0/\0<=at0):=by
     intro b hb;subst hb;refine⟨fun h=>of_decide_eq_true h,fun h=>?_⟩;have:=of_decide_eq_false h;exact⟨this,by omega⟩
    cases o1 with
    | none=>
      have HQ:Hid (q=true):=by show _=_;rw[Hq.out];rfl
      clear hlt0
      go_wp2_with fail
      go_meet;exact⟨by rw[HQ.out],rfl⟩
    | some x=>
      cases o2 with
      | none=>
        have HQ:Hid (q=true):=by show _=_;rw[Hq.out];rfl
        clear hlt0
        go_wp2_with fail
        go_meet;exact⟨by rw[HQ.out],rfl⟩
      | some y=>
        have hxl:x.length<=100000:=hl1;have hyl:y.length<=100000:=hl2;have hw8:IntKind.i64.wrap ((x.length:Int)+(y.length:Int))=(x.length:Int)+(y.length:Int):=IntWalk.i64_in _ (by omega);by_cases hneg:at0<0
        ·have hneg2:¬0<=at0:=by omega
         by_cases h8:x.length=8
         ·have h8I:((x.length:Int) != 8)=false:=by simp;omega
          have hy0:y.length=0:=by
           have:=Hok.out.2 (decide_eq_true hneg);rw[Option.some.inj this];rfl
          have h7:(7:Int)<(x.length:Int)+(y.length:Int):=by omega
          have HQ:Hid (q=false):=by show _=_;rw[Hq.out];simp[Lz.sixOk,hneg,h8]
          have Hy0:=Ih hy0;have H8:=Ih h8;clear hlt0 h8 hy0
          go_wp2_with fail
          go_meet;exact⟨by rw[HQ.out],rfl⟩
         ·have h8I:((x.length:Int) != 8)=true:=by simp;omega
          have HQ:Hid (q=true):=by show _=_;rw[Hq.out];simp[Lz.sixOk,hneg,h8]
          clear hlt0
          go_wp2_with fail
          go_meet;exact⟨by rw[HQ.out],rfl⟩
        ·have hneg2:0<=at0:=by omega
         by_cases h7:7<x.length+y.length
         ·have h7I:(7:Int)<(x.length:Int)+(y.length:Int):=by omega
          have HQ:Hid (q=true):=by show _=_;rw[Hq.out];simp[Lz.sixOk,hneg];omega
          clear hlt0
          go_wp2_with fail
          go_meet;exact⟨by rw[HQ.out],rfl⟩
         ·have h7I:¬(7:Int)<(x.length:Int)+(y.length:Int):=by omega
          have HQ:Hid (q=false):=by show _=_;rw[Hq.out];simp[Lz.sixOk,hneg];omega
          clear hlt0
          go_wp2_with fail
          go_meet;exact⟨by rw[HQ.out],rfl⟩
   case rest=>
   obtain⟨rfl,rfl⟩:=hcut;cases q
   ·obtain⟨x,hx⟩:∃x,x=o1.getD []:=⟨_,rfl⟩;obtain⟨y,hy⟩:∃y,y=o2.getD []:=⟨_,rfl⟩
    have hokT:Lz.sixOk (decide (at0<0)) o1 o2=true:=by
     have:=Hq.out;cases h:Lz.sixOk (decide (at0<0)) o1 o2
     ·rw[h]at this;cases this
     ·rfl
    have hsum:x.length+y.length<=8:=by
     have h:=hokT;unfold Lz.sixOk at h;rw[<-hx,<-hy]at h;cases hb:decide (at0<0)
     ·rw[hb]at h;simp only[Bool.and_eq_true,if_neg (show ¬(false=true) by decide),decide_eq_true_eq]at h;omega
     ·have h2:=Hok.out.2 hb;rw[hb]at h;rw[h2]at hy;simp only[Bool.and_eq_true,if_pos,beq_iff_eq]at h;rw[hy];simp;omega
    have HS:Hid (Lz.sixR s.data.toList=some (x++List.replicate (8-x.length-y.length) 0++y)):=by
     show _=_;rw[Hok.out.1,if_pos hokT,hx,hy]
    have hown1:=Hown1'.out;have hown2:=Hown2.out;rw[<-hx]at hown1 Hx1 hl1;rw[<-hy]at hown2 Hx2 hl2;have hap:=Hap.out;rw[show(o1.getD []).length=x.length by rw[hx],show(o2.getD []).length=y.length by rw[hy]]at hap⊢;have hbz1:=hbw1.size;have hbz2:=hbw2.size;have h1c:w1.heap.size<=w2.heap.size:=hb2.size;have Hx:=Ih hx;have Hy:=Ih hy;have Hs1:=Ih hown1;have Hs2:=Ih hown2;have Hsa:=Ih hap;clear hx hy hokT hown1 hown2 Hok Hq Hap Hown1' Hown2 hap hl1 hl2 Ho2
    go_wp2_with fail
    go_loopw [8] (fun v wr=>∃(m:Nat) (a:Option Addr) (c:Nat),v=.slice a m c/\x.length<=m/\m+y.length<=8/\Hid (wr.ownsRow wc.heap.size 3 1 (.slice a m c) m (intn (fillZ x m)))/\Hid (wr.ownsRow w1.heap.size 3 1 (.slice a2 y.length p2) y.length (intn y))/\Hid (∀g,(Value.slice a m c).ownBlock=some g->(Value.slice a2 y.length p2).ownBlock≠some g)/\w1.heap.size<=wr.heap.size/\Below wc.heap.size wc wr) (fun v _=>8-lenV v)
    case atStart=>exact⟨x.length,a1,p1,rfl,Nat.le_refl _,hsum,Ih (by rw[fillZ_self];exact Hs1.out),Hs2,Hsa,h1c,below_call hb1 hb2⟩
    case round=>
     clear Hs1 Hs2 Hsa;obtain⟨m,a,c,rfl,hm1,hm2,ho,ho2,hsa,hz1c,hb⟩:=hrel;have hsz:=hb.size;have hmw:IntKind.i64.wrap ((m:Int)+(y.length:Int))=(m:Int)+(y.length:Int):=IntWalk.i64_in _ (by omega);by_cases hl:m+y.length<8
     ·have hlI:(m:Int)+(y.length:Int)<8:=by omega
      go_wp2_with (at_builtin;refine wpList_append_own_at _ rfl (.tmp 92) (.tmp 93) 133 rfl wc.heap.size 3 i0 (.int .i64 0) 1 8 Tryz.underlying133 hi hz0 hz1 hz2 rfl (by decide) _ _ _ rfl (ho.out.alloc _) ⟨wr.heap.size,0,none⟩ 1 1 [.int .i64 0] rfl rfl (cell_one _ _ _) (by simp[Value.oneCell']) (by unfold maxLen;omega) (by omega) (by simp;omega) ?_)
      intro v' w4 hown' hgrow _ hat;have hb4:Below wc.heap.size wc w4:=Below.grown1 hb ho.out hgrow hsz (Nat.le_refl _);obtain⟨a',c',rfl⟩:=own_slice hown'
      have ho4:Hid (w4.ownsRow w1.heap.size 3 1 (.slice a2 y.length p2) y.length (intn y)):=by
       refine(ho2.out.alloc _).kept hgrow ?_;cases he:(Value.slice a2 y.length p2).ownBlock with
       | none=>exact Or.inl rfl
       | some g=>exact Or.inr (fun h=>hsa.out g h.symm he)
      have hsa4:Hid (∀g,(Value.slice a' (m+1) c').ownBlock=some g->(Value.slice a2 y.length p2).ownBlock≠some g):=by
       intro g hg hg2;rcases hat with h|h
       ·exact hsa.out g (h.symm.trans hg) hg2
       ·have h5:=(ho2.out.lt g hg2).2;rw[hg]at h;have h6:g=wr.heap.size+1:=by have:=Option.some.inj h;simpa using this
        omega
      have hz4:w1.heap.size<=w4.heap.size:=by
       have:=hgrow.size
       simp at this
       omega
      have hown4:Hid (w4.ownsRow wc.heap.size 3 1 (.slice a' (m+1) c') (m+1) (intn (fillZ x (m+1)))):=by
       show _;rw[<-fillZ_next hm1,<-intn_snoc];exact hown'
      clear hown' hgrow hat
      go_wp2
      go_roundw
      case rel=>exact⟨m+1,a',c',rfl,by omega,by omega,hown4,ho4,hsa4,hz4,hb4⟩
      case measure=>simp[lenV];omega
     ·have hlI:¬(m:Int)+(y.length:Int)<8:=by omega
      have hm8:m+y.length=8:=by omega
      obtain⟨A,hA⟩:∃A,A=fillZ x m++y:=⟨_,rfl⟩;have hAl:A.length=8:=by rw[hA,List.length_append,fillZ_len hm1];exact hm8
      have HS2:Hid (Lz.sixR s.data.toList=some A):=by
       show _=_;rw[HS.out,hA];unfold fillZ;rw[show m-x.length=8-x.length-y.length by omega]
      have hAb:Hid (∀n∈A,n<=1099511627776):=by
       show ∀n∈A,n<=1099511627776;intro n hn;rw[hA]at hn;unfold fillZ at hn;rcases List.mem_append.1 hn with h|h
       ·rcases List.mem_append.1 h with h|h
        ·exact Hx1.out n h
        ·rw[(List.mem_replicate.1 h).2];omega
       ·exact Hx2.out n h
      have hyb:=Hx2;have HA:=Ih hA;clear HS hA Hx Hy Hx1
      go_upto_region 16 with fail
      go_cut [8] (fun v wx=>wx.ownsRow w.heap.size 3 1 v 8 (intn A)/\Below w.heap.size w wx)
      case first=>
       cases a2 with
       | none=>
         have hy0:y=[]:=by
          rcases ho2.out.2 with⟨_,h⟩|⟨g,cap,cur,h,_⟩
          ·exact List.length_eq_zero_iff.1 h
          ·cases h
         have hp0:p2=0:=by
          rcases ho2.out.2 with⟨h,_⟩|⟨g,cap,cur,h,_⟩
          ·injection h
          ·cases h
         subst hy0;subst hp0
         have hfin:wr.ownsRow wc.heap.size 3 1 (.slice a m c) 8 (intn A):=by
          have:=ho.out;rw[HA.out,List.append_nil]
          simp at hm8
          rw[<-hm8];exact this
         have Hfin:=Ih hfin;clear hfin
         go_wp2_with (at_builtin;refine wpList_append_own_none rfl (.tmp 95) (.tmp 96) 133 rfl wc.heap.size 3 i0 1 Tryz.underlying133 hi _ _ _ rfl ho.out rfl ?_)
         go_wp2
         go_meet;exact⟨own_weaken Hfin.out hbcz,below_call hbc hb⟩
       | some ad=>
         obtain⟨g2,rfl⟩:∃g,ad=⟨g,0,none⟩:=by
          rcases ho2.out.2 with⟨h,_⟩|⟨g,cap,cur,h,_⟩
          ·cases h
          ·injection h with h1;exact⟨g,Option.some.inj h1⟩
         have hcells:∀j u,(intn y)[j]? =some u->wr.cell? ((⟨g2,0,none⟩:Addr).add j)=some u:=by
          intro j u hj;rw[addr_add];have hjl:j<y.length:=by have:=(List.getElem?_eq_some_iff.1 hj).1;simpa [intn]using this
          rw[ho2.out.cellAt j (by omega)];exact hj
         have Hc:=Ih hcells;clear hcells
         go_wp2_with (at_builtin;refine wpList_append_own _ rfl (.tmp 95) (.tmp 96) 133 rfl wc.heap.size 3 i0 (.int .i64 0) 1 8 Tryz.underlying133 hi hz0 hz1 hz2 rfl (by decide) _ _ _ rfl ho.out ⟨g2,0,none⟩ y.length p2 (intn y) rfl (by simp[intn]) Hc.out (by simp[intn,Value.oneCell']) (by unfold maxLen;omega) (by omega) hsz ?_)
         intro v' w4 hown' hgrow _;have hb4:Below wc.heap.size wc w4:=hb.grown hgrow hsz (fun k hk=>(ho.out.lt k hk).1)
         have hown4:Hid (w4.ownsRow wc.heap.size 3 1 v' 8 (intn A)):=by
          show _;have h:=hown';rw[show intn (fillZ x m)++intn y=intn A by rw[HA.out];simp[intn]]at h;exact h
         clear hown' hgrow
         go_wp2
         go_meet;exact⟨own_weaken hown4.out hbcz,below_call hbc hb4⟩
      case rest=>
      obtain⟨hown,hbw⟩:=hcut;obtain⟨g,cap,rfl,hgl,hcells⟩:=own_ints hown (by decide);have Hc:=Ih hcells;have hE4:=hE.below hbw;have hAlen:=Ih hAl;clear hown hcells hAl HA
      go_wp2_with fail
      go_loopw [12,13,14] (fun f mm i wr=>∃(fr:Int) (mn k:Nat),f=.int .i64 fr/\mm=.int .i64 mn/\i=.int .i64 k/\k<=8/\mn<=100/\Hid (Lz.frR A k fr mn)/\wc=wr) (fun _ _ i _=>8-(intOf i).toNat)
      case atStart=>exact⟨-1,1,0,rfl,rfl,rfl,by omega,by omega,Ih (Lz.frR_zero A),rfl⟩
      case round=>
       obtain⟨fr,mn,k,rfl,rfl,rfl,hk,hmn,hfr,rfl⟩:=hrel;by_cases hk8:k<8
       ·have hkI:(k:Int)<8:=by omega
        go_wp2_with fail
        go_loopw [15] (fun kk wr=>∃m:Nat,kk=.int .i64 m/\k+m<=8/\Hid (m<=Lz.zerosP (A.drop k))/\wc=wr) (fun kk _=>8-(intOf kk).toNat)
        case atStart=>exact⟨0,rfl,by omega,Ih (Nat.zero_le _),rfl⟩
        case round=>
         obtain⟨m,rfl,hm,hmz,rfl⟩:=hrel;have hw1:IntKind.i64.wrap ((k:Int)+(m:Int))=(k:Int)+(m:Int):=IntWalk.i64_in _ (by omega);by_cases hlt:k+m<8
         ·obtain⟨n,hn⟩:∃n,A[k+m]? =some n:=⟨_,List.getElem?_eq_getElem (by rw[hAlen.out];exact hlt)⟩;have hc:=Hc.out (k+m) n hn;have hkm1:(k:Int)+(m:Int)<8:=by omega
          have hkm0:(0:Int)<=(k:Int)+(m:Int):=by omega
          by_cases h0:n=0
          ·subst h0;have hmz2:=Ih (Lz.zeros_lt hmz.out hn);clear hn hmz
           go_wp2_with fail
           go_roundw
           case rel=>exact⟨m+1,by go_num,by omega,hmz2,trivial⟩
           case measure=>simp[intOf];omega
          ·have hn0:((n:Int)==0)=false:=by simp;omega
           have HZ:=Lz.zeros_end hmz.out hn h0;by_cases hmn2:mn<m
           ·have hmI:(mn:Int)<(m:Int):=by omega
            have hfr2:=Ih (Lz.frR_hit hfr.out HZ hmn2);clear hn HZ hfr hmz
            go_wp2_with fail
            go_roundw
            case rel=>exact⟨k,m,k+1,rfl,rfl,by go_num,by omega,by omega,hfr2,trivial⟩
            case measure=>simp[intOf];omega
           ·have hmI:¬(mn:Int)<(m:Int):=by omega
            have hfr2:=Ih (Lz.frR_miss hfr.out HZ hmn2);clear hn HZ hfr hmz
            go_wp2_with fail
            go_roundw
            case rel=>exact⟨fr,mn,k+1,rfl,rfl,by go_num,by omega,by omega,hfr2,trivial⟩
            case measure=>simp[intOf];omega
         ·have hkm1:¬(k:Int)+(m:Int)<8:=by omega
          have HZ:=Lz.zeros_past hmz.out (by rw[hAlen.out];omega);by_cases hmn2:mn<m
          ·have hmI:(mn:Int)<(m:Int):=by omega
           have hfr2:=Ih (Lz.frR_hit hfr.out HZ hmn2);clear HZ hfr hmz
           go_wp2_with fail
           go_roundw
           case rel=>exact⟨k,m,k+1,rfl,rfl,by go_num,by omega,by omega,hfr2,trivial⟩
           case measure=>simp[intOf];omega
          ·have hmI:¬(mn:Int)<(m:Int):=by omega
           have hfr2:=Ih (Lz.frR_miss hfr.out HZ hmn2);clear HZ hfr hmz
           go_wp2_with fail
           go_roundw
           case rel=>exact⟨fr,mn,k+1,rfl,rfl,by go_num,by omega,by omega,hfr2,trivial⟩
           case measure=>simp[intOf];omega
       ·have hkI:¬(k:Int)<8:=by omega
        obtain⟨p,q,hpq⟩:∃p q,Lz.runF A A.length=(p,q):=⟨_,_,rfl⟩;have hrok:=Lz.runF_ok A A.length (Nat.le_refl _);have hout:=Lz.outAt_all A;have hfr8:=hfr.out;rw[show k=A.length by rw[hAlen.out];omega]at hfr8;unfold Lz.frR at hfr8;rw[hpq]at hrok hout hfr8;simp only at hrok hout hfr8;rw[hAlen.out]at hrok hout;have Hout:=Ih hout;have Hrok:=Ih hrok;have Hfr:=Ih hfr8;clear hout hrok hfr8 hpq hfr
        go_wp2_with fail
        go_loopw [16,17] (fun o i wr=>∃(u:ByteArray) (k:Nat),o=.string u/\i=.int .i64 k/\k<=8/\u.size<=20*k/\Hid (u.data.toList=Lz.outAt A p q k)/\Hid (p=q\/k<=p\/(p<q/\q<=k))/\Below wc.heap.size wc wr) (fun _ i _=>8-(intOf i).toNat)
        case atStart=>exact⟨⟨#[]⟩,0,rfl,rfl,by omega,Nat.le_refl _,by show _=_;(rw[Lz.outAt_zero])<;>rfl,Ih (by omega),Below.refl _ _⟩
        case round=>
         clear hkI hk;obtain⟨u,j,rfl,rfl,hj,huz,hu,hjp,hb⟩:=hrel;have hbw4:=below_call hbw hb;by_cases hj8:j<8
         ·have hjI:(j:Int)<8:=by omega
          by_cases hhit:p≠q/\j=p
          ·have hfe:((j:Int)==fr)=true:=by rw[Hfr.out.1,if_neg hhit.1,hhit.2];simp
           have hpq:p+2<=q/\q<=8:=by have:=Hrok.out;omega
           have hmnq:mn=q-p:=by rw[Hfr.out.2];omega
           have hw1:IntKind.i64.wrap ((j:Int)+(mn:Int))=(j:Int)+(mn:Int):=IntWalk.i64_in _ (by omega);have hw2:IntKind.i64.wrap ((j:Int)+(mn:Int)-1)=(j:Int)+(mn:Int)-1:=IntWalk.i64_in _ (by omega);have hno:¬(9223372036854775807<u.size+2):=by omega
           have hu2:Hid (u.data.toList++[58,58]=Lz.outAt A p q q):=by
            show _=_;rw[Lz.outAt_skip (by omega),hu.out,hhit.2]
           have hq2:(q:Int)=(j:Int)+(mn:Int)-1+1:=by omega
           have hqz:u.size+2<=20*q:=by omega
           have hjq:j<q:=by omega
           have Hq2:=Ih hq2;have Hpq:=Ih hpq;clear hhit hmnq hq2 hpq
           go_wp2_with fail
           go_roundw
           case rel=>
            refine⟨u++⟨#[58,58]⟩,q,rfl,?_,Hpq.out.2,by rw[ByteArray.size_append];exact hqz,by show _=_;rw[append_data'];exact hu2.out,Ih (by have:=Hpq.out;omega),hb⟩;have:=Hq2.out
            go_num
           case measure=>have hq2:=Hq2.out;simp[intOf]<;>omega
          ·have hfe:((j:Int)==fr)=false:=by
            rw[Hfr.out.1];by_cases hpq:p=q
            ·rw[if_pos hpq,beq_eq_false_iff_ne];omega
            ·rw[if_neg hpq,beq_eq_false_iff_ne];intro h;exact hhit ⟨hpq,by omega⟩
           have hst:p=q\/j<p\/(p<q/\q<=j):=by have:=hjp.out;omega
           have hos:=Lz.outAt_step (a:=A) (p:=p) (q:=q) (i:=j) (by rw[hAlen.out];exact hj8) hst;obtain⟨n,hn⟩:∃n,A[j]? =some n:=⟨_,List.getElem?_eq_getElem (by rw[hAlen.out];exact hj8)⟩;have hnb:=hAb.out n (List.mem_of_getElem? hn);have hc:wr.cell? ⟨g,j,none⟩=some (.int .i64 (n:Int)):=by rw[hb.cell (p:=⟨g,j,none⟩) hgl];exact Hc.out j n hn
           rw[show A.getD j 0=n by rw[List.getD_eq_getElem?_getD,hn];rfl,<-hu.out]at hos;obtain⟨b,hbq⟩:∃b,b=Lz.colQ u.data.toList:=⟨_,rfl⟩;rw[<-hbq]at hos;have cF:=Ih (FormatInt_16 n hnb wr (hE4.below hb).db16);have Hos:=Ih hos;have Hst:=Ih hst;have Hbq:=Ih hbq;clear hos hst hn hjp hhit hu hbq
           go_upto_region 33 with fail
           go_cut [144] (fun c wx=>c=.bool b/\wr=wx)
           case first=>
            by_cases hz:u.size=0
            ·have he:=isEmpty_of_size hz
             have HB:Hid (b=false):=by
              show _=_;rw[Hbq.out];have:u.data.toList=[]:=List.length_eq_zero_iff.1 hz;unfold Lz.colQ;rw[this];rfl
             have Hz:=Ih hz;clear hz
             go_wp2_with fail
             go_meet;exact⟨by rw[HB.out],rfl⟩
            ·have he:=isEmpty_of_pos (s:=u) (by omega);obtain⟨n1,hn1⟩:∃n1,n1=u.size-1:=⟨_,rfl⟩;have hn1l:n1<u.size:=by omega
             have hwn:IntKind.i64.wrap ((u.size:Int)-1)=(n1:Int):=by rw[show(u.size:Int)-1=(n1:Int) by omega];exact IntWalk.i64_in _ (by omega)
             have hn1a:(0:Int)<=(n1:Int):=by omega
             have hn1b:(n1:Int)<(u.size:Int):=by omega
             obtain⟨d,hd⟩:∃d,d=u[n1]:=⟨_,rfl⟩;have hdI:(u[n1].toNat:Int)=(d.toNat:Int):=by rw[hd]
             have hgl2:u.data.toList.getLast? =some d:=by
              rw[List.getLast?_eq_getElem?,len_of_size,<-hn1,get_of_lt hn1l,hd]
             have hB:b= !(d==58):=by
              rw[Hbq.out];unfold Lz.colQ
              have he2:u.data.toList.isEmpty=false:=by
               cases e:u.data.toList with
               | nil=>rw[e]at hgl2;cases hgl2
               | cons _ _=>rfl
              rw[he2,hgl2];rfl
             have hne:((d.toNat:Int) != 58)=b:=by
              rw[hB];show(!((d.toNat:Int)==58))=_;rw[show((d.toNat:Int)==58)=(d==58)from beqI d 58]
             have Hn1:=Ih hn1;clear hB hgl2 hd hn1 hz
             go_wp2_with fail
             go_meet;exact⟨by first |rfl|rw[hne],rfl⟩
           case rest=>
           obtain⟨rfl,rfl⟩:=hcut;clear Hbq
           go_upto_if 144 with fail
           go_cut [16] (fun o wx=>∃u2:ByteArray,o=.string u2/\u2.size<=u.size+1/\Hid (u2.data.toList=u.data.toList++(if b then[58]else[]))/\wr=wx)
           case first=>
            cases b
            ·go_wp2_with fail
             go_meet;exact⟨u,rfl,by omega,by show _=_;simp,rfl⟩
            ·have hno:¬(9223372036854775807<u.size+1):=by omega
             go_wp2_with fail
             go_meet;exact⟨u++⟨#[58]⟩,rfl,by rw[ByteArray.size_append];exact Nat.le_refl _,by show _=_;rw[append_data'];rfl,rfl⟩
           case rest=>
           obtain⟨u2,rfl,hu2z,hu2,rfl⟩:=hcut
           go_wp2_with fail
           refine cF.out.mono ?_;rintro e w5 ⟨t,rfl,ht,hb5⟩;have htz:t.size<=11:=by rw[<-len_of_size,ht.out];exact Lz.hexD_len 10 n (by omega)
           have hno:¬(9223372036854775807<u2.size+t.size):=by omega
           have hb6:=below_call hb hb5
           go_wp2_with fail
           go_roundw
           case rel=>
            refine⟨u2++t,j+1,rfl,by go_num,by omega,by rw[ByteArray.size_append];omega,?_,Ih (by have:=Hst.out;omega),hb6⟩;show _=_;rw[Hos.out,append_data',hu2.out,ht.out]
           case measure=>simp[intOf];omega
         ·have hjI:¬(j:Int)<8:=by omega
          have HU:Hid (u.data.toList=Lz.textP A):=by
           show _=_;rw[hu.out,show j=8 by omega,Hout.out]
          go_wp2_with fail
          go_ret2
          rw[HS2.out];exact⟨hbw4,u,rfl,HU⟩
   ·have HN:Hid (Lz.sixR s.data.toList=none):=by
     show _=_;rw[Hok.out.1,if_neg];intro h;have:=Hq.out;rw[h]at this;cases this
    go_wp2_with fail
    go_ret2
    rw[HN.out];exact⟨hbw2,rfl⟩
end Go.Proofs.YtipndhbgehdeoaaGreatDoor
namespace Lz
open Go
def parO (s:Bs):Option Bs:=if s.length<2\/s.getLast? ≠some 93 then none else(sixR ((s.drop 1).dropLast)).map fun a=>[91]++textP a++[93]
end Lz
namespace Go.Proofs.YtipndhbgehdeoaaGreatDoor
open Go.RowKit
attribute [local go_sem ↓] Go.wp_at_zero Go.wp_at_succ
def RPar7 (o:Option (List UInt8)) (w:World) (e:Ending) (w':World):Prop:=
 Below w.heap.size w w'/\match o with
  | some t=>∃u:ByteArray,e=.returned (.tuple #[.string u,.int .i64 0])/\Hid (u.data.toList=t)
  | none=>e=.returned (.tuple #[.string ⟨#[]⟩,.int .i64 72])
theorem Parse07_open (s:ByteArray) (sp:Bool) (hs:s.size<=90000) (h0:s.data.toList[0]? =some 91) (w:World) (hE:EnvH w):Calls Tryz.prog 39 #[.string s,.bool sp] w (RPar7 (Lz.parO s.data.toList) w):=by
 have hpos:0<s.size:=by
  have:=(List.getElem?_eq_some_iff.1 h0).1;exact this
 have hposI:(0:Int)<(s.size:Int):=by omega
 have hs0:s[0]=91:=by
  have:=get_of_lt hpos;rw[h0]at this;exact(Option.some.inj this).symm
 have hb0:((s[0].toNat:Int)==91)=true:=by rw[hs0];rfl
 have H0:=Ih h0;have Hs0:=Ih hs0;clear h0 hs0;have hbr:=Below.refl w.heap.size w;by_cases h2:s.size<2
 ·have h2I:(s.size:Int)<2:=by omega
  have HN:Hid (Lz.parO s.data.toList=none):=by
   show _=_;unfold Lz.parO;rw[if_pos (Or.inl (by rw[len_of_size];exact h2))]
  go_enter Tryz.func39,Tryz.ntmps39
  go_wp2_with fail
  go_ret2
  rw[HN.out];exact⟨hbr,rfl⟩
 ·have h2I:¬(s.size:Int)<2:=by omega
  obtain⟨n1,hn1⟩:∃n1,n1=s.size-1:=⟨_,rfl⟩;have hn1l:n1<s.size:=by omega
  have hwn:IntKind.i64.wrap ((s.size:Int)-1)=(n1:Int):=by rw[show(s.size:Int)-1=(n1:Int) by omega];exact IntWalk.i64_in _ (by omega)
  have hn1a:(0:Int)<=(n1:Int):=by omega
  have hn1b:(n1:Int)<(s.size:Int):=by omega
  have hn1c:(1:Int)<=(n1:Int):=by omega
  have hn1d:(n1:Int)<=(s.size:Int):=by omega
  obtain⟨d,hd⟩:∃d,d=s[n1]:=⟨_,rfl⟩;have hdI:(s[n1].toNat:Int)=(d.toNat:Int):=by rw[hd]
  have hgl2:s.data.toList.getLast? =some d:=by
   rw[List.getLast?_eq_getElem?,len_of_size,<-hn1,get_of_lt hn1l,hd]
  have hex:(s.extract 1 n1).data.toList=(s.data.toList.drop 1).dropLast:=by
   rw[Lib.extract_data,List.dropLast_eq_take,List.length_drop,len_of_size,hn1]
  have Hgl:=Ih hgl2;have Hex:=Ih hex;have Hn1:=Ih hn1;clear hd hgl2 hex hn1;have hd93:((d.toNat:Int)==93)=(d==93):=beqI d 93;cases hq:(d==93)
  ·have hdn:((d.toNat:Int) != 93)=true:=by
    show(!((d.toNat:Int)==93))=_;rw[hd93,hq];rfl
   have HN:Hid (Lz.parO s.data.toList=none):=by
    show _=_;unfold Lz.parO;rw[if_pos (Or.inr (by rw[Hgl.out];intro h;have:=Option.some.inj h;rw[this]at hq;cases hq))]
   clear hd93 hq;go_enter Tryz.func39,Tryz.ntmps39
   go_wp2_with fail
   go_ret2
   rw[HN.out];exact⟨hbr,rfl⟩
  ·have hdn:((d.toNat:Int) != 93)=false:=by
    show(!((d.toNat:Int)==93))=_;rw[hd93,hq];rfl
   have HN:Hid (Lz.parO s.data.toList=(Lz.sixR (s.extract 1 n1).data.toList).map fun a=>[91]++Lz.textP a++[93]):=by
    show _=_;unfold Lz.parO;rw[if_neg,Hex.out];rw[Hgl.out,len_of_size];rintro(h|h)
    ·exact h2 h
    ·exact h (by rw[eq_of_beq hq])
   have cS:=six07_any (s.extract 1 n1) (by rw[<-len_of_size,Lib.extract_data,List.length_take,List.length_drop,len_of_size];omega) w hE
   have hlen:∀a,Lz.sixR (s.extract 1 n1).data.toList=some a->(Lz.textP a).length<=1000:=by
    intro a ha;rw[Lz.sixR_eq]at ha;obtain⟨h8,hl⟩:=Lz.six_ok ha;have:=text_len a h8 hl;omega
   generalize Lz.sixR (s.extract 1 n1).data.toList=o at cS HN hlen;have CS:=Ih cS;have Hlen:=Ih hlen;clear cS hlen hd93 hq;go_enter Tryz.func39,Tryz.ntmps39
   go_wp2_with fail
   refine CS.out.mono ?_;rintro e w1 ⟨hb,hres⟩;cases o with
   | none=>
     obtain rfl:=hres
     go_wp2_with fail
     go_ret2
     rw[HN.out];exact⟨hb,rfl⟩
   | some a=>
     obtain⟨u,rfl,hu⟩:=hres;have huz:u.size<=1000:=by rw[<-len_of_size,hu.out];exact Hlen.out a rfl
     have hno1:¬(9223372036854775807<1+u.size):=by omega
     have hno2:¬(9223372036854775807<1+u.size+1):=by omega
     go_wp2_with fail
     go_ret2
     rw[HN.out];refine⟨hb,_,rfl,?_⟩;show _=_
     (rw[append_data',append_data',hu.out])<;>rfl
end Go.Proofs.YtipndhbgehdeoaaGreatDoor
namespace Lz
open Go
def pairP:Option Nat->Option Nat->Option UInt8
 | some x,some y=>some (UInt8.ofNat (16*x+y))
 | _,_=>none
theorem triple_at {l:Bs} {a b:UInt8} (h0:l[0]? =some 37) (h1:l[1]? =some a) (h2:l[2]? =some b):tripleP l=pairP (hexV a) (hexV b):=by
 match l,h0,h1,h2 with
 | c::d::e::r,h0,h1,h2=>
   obtain rfl:=Option.some.inj h0;obtain rfl:=Option.some.inj h1;obtain rfl:=Option.some.inj h2;simp only[tripleP];cases hexV d<;>cases hexV e<;>rfl
end Lz
namespace Go.Proofs.YtipndhbgehdeoaaGreatDoor
open Go.RowKit
theorem Decode06_any (s:ByteArray) (hs:s.size<=1000000000) (w:World):Calls Tryz.prog 69 #[.string s] w (RStr (Lz.decodeP s.data.toList) w):=by
 obtain⟨i0,hi,hz0,hz1,hz2⟩:=info_parts Tryz.infoU8;obtain⟨goal,hg⟩:∃goal,goal=Lz.decodeP s.data.toList:=⟨_,rfl⟩;have HG:=Ih hg;rw[<-hg];go_enter Tryz.func69,Tryz.ntmps69
 go_wp2_with fail
 go_loopw [3,4] (fun v i wr=>∃(acc:List UInt8) (k:Nat),k<=s.size/\i=.int .i64 k/\acc.length<=k/\Hid (goal=acc++Lz.decodeP (s.data.toList.drop k))/\wr.ownsRow w.heap.size 5 1 v acc.length (u8s acc)/\Below w.heap.size w wr) (fun _ i _=>s.size-(intOf i).toNat)
 case atStart=>exact⟨[],0,Nat.zero_le _,rfl,Nat.le_refl _,Ih (by rw[HG.out];rfl),World.ownsRow_nil _ _ _ _,Below.refl _ _⟩
 case round=>
  obtain⟨acc,k,hk,rfl,hacc,hG,hown,hb⟩:=hrel;have Hown:=Ih hown;have hsz:=hb.size;by_cases hlt:k<s.size
  ·have hltI:(k:Int)<(s.size:Int):=by omega
   have hk0:(0:Int)<=(k:Int):=by omega
   obtain⟨c,hc⟩:∃c,c=s[k]:=⟨_,rfl⟩;have hcI:(s[k].toNat:Int)=(c.toNat:Int):=by rw[hc]
   have hcb:=byte_lt c;have hc0:(s.data.toList.drop k)[0]? =some c:=by rw[List.getElem?_drop,Nat.add_zero,get_of_lt hlt,hc]
   have Hst:Hid (u8s acc++[.int .u8 (c.toNat:Int)]=u8s (acc++[c])):=Ih (by rw[u8s_snoc]);have b37:((c.toNat:Int)==37)=(c==37):=beqU c 37;by_cases h37:c=37
   ·have q37:((c.toNat:Int)==37)=true:=by rw[b37,h37];rfl
    clear b37;by_cases h2:k+2<s.size
    ·have h2I:(k:Int)+2<(s.size:Int):=by omega
     have h1I:(k:Int)+1<(s.size:Int):=by omega
     have h10:(0:Int)<=(k:Int)+1:=by omega
     have h20:(0:Int)<=(k:Int)+2:=by omega
     have hk1:k+1<s.size:=by omega
     obtain⟨a,ha⟩:∃a,a=s[k+1]:=⟨_,rfl⟩;obtain⟨b,hbb⟩:∃b,b=s[k+2]:=⟨_,rfl⟩;have haI:(s[k+1].toNat:Int)=(a.toNat:Int):=by rw[ha]
     have hbI:(s[k+2].toNat:Int)=(b.toNat:Int):=by rw[hbb]
     have hT0:Lz.tripleP (s.data.toList.drop k)=Lz.pairP (Lz.hexV a) (Lz.hexV b):=Lz.triple_at (by rw[hc0,h37]) (by rw[List.getElem?_drop,get_of_lt hk1,ha]) (by rw[List.getElem?_drop,get_of_lt h2,hbb]);clear ha hbb;have cA:=Hex02_any a;have cB:=Hex02_any b;have hxa:=Lz.hexV_lt16 a;have hxb:=Lz.hexV_lt16 b;generalize Lz.hexV a=x at cA hT0 hxa;generalize Lz.hexV b=y at cB hT0 hxb;cases x with
     | none=>
       have hT:Lz.tripleP (s.data.toList.drop k)=none:=hT0;obtain⟨n2,hn2⟩:∃n,n=((y.getD 0:Nat):Int):=⟨_,rfl⟩;obtain⟨t2,ht2⟩:∃t,t=y.isSome:=⟨_,rfl⟩;have CA:Hid (∀W,Calls Tryz.prog 104 #[.int .u8 (a.toNat:Int)] W fun e w'=>e=.returned (.tuple #[.int .i64 0,.bool false])/\W=w'):=Ih cA;have CB:Hid (∀W,Calls Tryz.prog 104 #[.int .u8 (b.toNat:Int)] W fun e w'=>e=.returned (.tuple #[.int .i64 n2,.bool t2])/\W=w'):=Ih (by rw[hn2,ht2];exact cB);clear cA cB hT0 hxa hxb hn2 ht2 h37
       go_wp2_with fail
       refine(CA.out _).mono ?_;rintro _ w1 ⟨rfl,rfl⟩
       go_wp2_with fail
       refine(CB.out _).mono ?_;rintro _ w1 ⟨rfl,rfl⟩;have HN:Hid (goal=acc++[c]++Lz.decodeP (s.data.toList.drop (k+1))):=Ih (by rw[hG.out,Lz.decode_none hc0 hT,List.drop_drop];simp);clear hT hc0 hc hG HG hg hown
       go_wp2_with (at_builtin;refine wpList_append_own _ rfl (.tmp 56) (.tmp 60) 44 rfl w.heap.size 5 i0 (.int .u8 0) 1 1 Tryz.underlying44 hi hz0 hz1 hz2 rfl (by decide) _ _ _ rfl (Hown.out.alloc _) ⟨wr.heap.size,0,none⟩ 1 1 [.int .u8 (c.toNat:Int)] rfl rfl (cell_one _ _ _) (by simp[Value.oneCell']) (by unfold maxLen;omega) (by omega) (by simp;omega) ?_)
       intro v' w1 hown' hgrow _;have hb1:=Below.grown1 hb Hown.out hgrow hsz (Nat.le_refl _);rw[Hst.out]at hown';have Hown1:=Ih hown';clear hown' hgrow Hst hb
       go_wp2_with fail
       go_roundw
       case rel=>exact⟨acc++[c],k+1,by omega,by go_num,by simp;omega,HN,by rw[List.length_append];exact Hown1.out,hb1⟩
       case measure=>simp[intOf];omega
     | some x=>
       cases y with
       | none=>
         have hT:Lz.tripleP (s.data.toList.drop k)=none:=hT0;have CA:Hid (∀W,Calls Tryz.prog 104 #[.int .u8 (a.toNat:Int)] W fun e w'=>e=.returned (.tuple #[.int .i64 (x:Int),.bool true])/\W=w'):=Ih cA;have CB:Hid (∀W,Calls Tryz.prog 104 #[.int .u8 (b.toNat:Int)] W fun e w'=>e=.returned (.tuple #[.int .i64 0,.bool false])/\W=w'):=Ih cB;clear cA cB hT0 hxa hxb h37
         go_wp2_with fail
         refine(CA.out _).mono ?_;rintro _ w1 ⟨rfl,rfl⟩
         go_wp2_with fail
         refine(CB.out _).mono ?_;rintro _ w1 ⟨rfl,rfl⟩;have HN:Hid (goal=acc++[c]++Lz.decodeP (s.data.toList.drop (k+1))):=Ih (by rw[hG.out,Lz.decode_none hc0 hT,List.drop_drop];simp);clear hT hc0 hc hG HG hg hown
         go_wp2_with (at_builtin;refine wpList_append_own _ rfl (.tmp 56) (.tmp 60) 44 rfl w.heap.size 5 i0 (.int .u8 0) 1 1 Tryz.underlying44 hi hz0 hz1 hz2 rfl (by decide) _ _ _ rfl (Hown.out.alloc _) ⟨wr.heap.size,0,none⟩ 1 1 [.int .u8 (c.toNat:Int)] rfl rfl (cell_one _ _ _) (by simp[Value.oneCell']) (by unfold maxLen;omega) (by omega) (by simp;omega) ?_)
         intro v' w1 hown' hgrow _;have hb1:=Below.grown1 hb Hown.out hgrow hsz (Nat.le_refl _);rw[Hst.out]at hown';have Hown1:=Ih hown';clear hown' hgrow Hst hb
         go_wp2_with fail
         go_roundw
         case rel=>exact⟨acc++[c],k+1,by omega,by go_num,by simp;omega,HN,by rw[List.length_append];exact Hown1.out,hb1⟩
         case measure=>simp[intOf];omega
       | some y=>
         have hT:Lz.tripleP (s.data.toList.drop k)=some (UInt8.ofNat (16*x+y)):=hT0;have hx16:=hxa x rfl;have hy16:=hxb y rfl;have CA:Hid (∀W,Calls Tryz.prog 104 #[.int .u8 (a.toNat:Int)] W fun e w'=>e=.returned (.tuple #[.int .i64 (x:Int),.bool true])/\W=w'):=Ih cA;have CB:Hid (∀W,Calls Tryz.prog 104 #[.int .u8 (b.toNat:Int)] W fun e w'=>e=.returned (.tuple #[.int .i64 (y:Int),.bool true])/\W=w'):=Ih cB;obtain⟨d,hd⟩:∃d,d=UInt8.ofNat (16*x+y):=⟨_,rfl⟩;have hdn:d.toNat=16*x+y:=by rw[hd];show(16*x+y)%256=_;omega
         rw[<-hd]at hT;have hwr:IntKind.u8.wrap (16*(x:Int)+(y:Int))=(d.toNat:Int):=by rw[IntWalk.u8_in _ (by omega)];omega
         have HN:Hid (goal=acc++[d]++Lz.decodeP (s.data.toList.drop (k+3))):=Ih (by rw[hG.out,(Lz.decode_some hT).1,List.drop_drop];simp);have Hst:Hid (u8s acc++[.int .u8 (d.toNat:Int)]=u8s (acc++[d])):=Ih (by rw[u8s_snoc]);clear cA cB hT0 hxa hxb hT hc0 hc hG HG hg hown hd hdn h37
         go_wp2_with fail
         refine(CA.out _).mono ?_;rintro _ w1 ⟨rfl,rfl⟩
         go_wp2_with fail
         refine(CB.out _).mono ?_;rintro _ w1 ⟨rfl,rfl⟩
         go_wp2_with (at_builtin;refine wpList_append_own _ rfl (.tmp 46) (.tmp 52) 44 rfl w.heap.size 5 i0 (.int .u8 0) 1 1 Tryz.underlying44 hi hz0 hz1 hz2 rfl (by decide) _ _ _ rfl (Hown.out.alloc _) ⟨wr.heap.size,0,none⟩ 1 1 [.int .u8 (d.toNat:Int)] rfl rfl (cell_one _ _ _) (by simp[Value.oneCell']) (by unfold maxLen;omega) (by omega) (by simp;omega) ?_)
         intro v' w1 hown' hgrow _;have hb1:=Below.grown1 hb Hown.out hgrow hsz (Nat.le_refl _);rw[Hst.out]at hown';have Hown1:=Ih hown';clear hown' hgrow Hst hb
         go_wp2_with fail
         go_roundw
         case rel=>exact⟨acc++[d],k+3,by omega,by go_num,by simp;omega,HN,by rw[List.length_append];exact Hown1.out,hb1⟩
         case measure=>simp[intOf];omega
    ·have h2I:¬(k:Int)+2<(s.size:Int):=by omega
     have hT:Lz.tripleP (s.data.toList.drop k)=none:=triple_short (by rw[List.length_drop,len_of_size];omega);clear h37;have HN:Hid (goal=acc++[c]++Lz.decodeP (s.data.toList.drop (k+1))):=Ih (by rw[hG.out,Lz.decode_none hc0 hT,List.drop_drop];simp);clear hT hc0 hc hG HG hg hown
     go_wp2_with (at_builtin;refine wpList_append_own _ rfl (.tmp 56) (.tmp 60) 44 rfl w.heap.size 5 i0 (.int .u8 0) 1 1 Tryz.underlying44 hi hz0 hz1 hz2 rfl (by decide) _ _ _ rfl (Hown.out.alloc _) ⟨wr.heap.size,0,none⟩ 1 1 [.int .u8 (c.toNat:Int)] rfl rfl (cell_one _ _ _) (by simp[Value.oneCell']) (by unfold maxLen;omega) (by omega) (by simp;omega) ?_)
     intro v' w1 hown' hgrow _;have hb1:=Below.grown1 hb Hown.out hgrow hsz (Nat.le_refl _);rw[Hst.out]at hown';have Hown1:=Ih hown';clear hown' hgrow Hst hb
     go_wp2_with fail
     go_roundw
     case rel=>exact⟨acc++[c],k+1,by omega,by go_num,by simp;omega,HN,by rw[List.length_append];exact Hown1.out,hb1⟩
     case measure=>simp[intOf];omega
   ·have q37:((c.toNat:Int)==37)=false:=by rw[b37];exact beq_eq_false_iff_ne.2 h37
    have hT:Lz.tripleP (s.data.toList.drop k)=none:=triple_other hc0 (beq_eq_false_iff_ne.2 h37);clear b37 h37;have HN:Hid (goal=acc++[c]++Lz.decodeP (s.data.toList.drop (k+1))):=Ih (by rw[hG.out,Lz.decode_none hc0 hT,List.drop_drop];simp);clear hT hc0 hc hG HG hg hown
    go_wp2_with (at_builtin;refine wpList_append_own _ rfl (.tmp 56) (.tmp 60) 44 rfl w.heap.size 5 i0 (.int .u8 0) 1 1 Tryz.underlying44 hi hz0 hz1 hz2 rfl (by decide) _ _ _ rfl (Hown.out.alloc _) ⟨wr.heap.size,0,none⟩ 1 1 [.int .u8 (c.toNat:Int)] rfl rfl (cell_one _ _ _) (by simp[Value.oneCell']) (by unfold maxLen;omega) (by omega) (by simp;omega) ?_)
    intro v' w1 hown' hgrow _;have hb1:=Below.grown1 hb Hown.out hgrow hsz (Nat.le_refl _);rw[Hst.out]at hown';have Hown1:=Ih hown';clear hown' hgrow Hst hb
    go_wp2_with fail
    go_roundw
    case rel=>exact⟨acc++[c],k+1,by omega,by go_num,by simp;omega,HN,by rw[List.length_append];exact Hown1.out,hb1⟩
    case measure=>simp[intOf];omega
  ·have hltI:¬(k:Int)<(s.size:Int):=by omega
   have hcv:=conv_own hown;have HN:Hid (acc=goal):=Ih (by rw[hG.out,List.drop_eq_nil_of_le (by rw[len_of_size];omega),show Lz.decodeP []=[] by unfold Lz.decodeP;rfl,List.append_nil]);clear hown Hown hG HG hg
   go_wp2_with fail
   go_ret;exact⟨_,rfl,by rw[<-HN.out];rfl,hb⟩
end Go.Proofs.YtipndhbgehdeoaaGreatDoor
namespace Go.Proofs.YtipndhbgehdeoaaGreatDoor
open Go.ChangeShapes Go.WideShapes Go.ChangeAt Go.RowKit
theorem cellsStr:Tryz.prog.cellsOf 9=1:=by kernel_rfl
theorem cellsBl:Tryz.prog.cellsOf 4=1:=by kernel_rfl
theorem cellsIn:Tryz.prog.cellsOf 3=1:=by kernel_rfl
theorem cellsSl:Tryz.prog.cellsOf 23=1:=by kernel_rfl
section
variable {H:Type} {enc:TypeId×Value->H} {W:World} {base:Nat} {sp:Nat->Bool} {hd:Bool} {v:Value} {fuel:Nat} {x:Option (DataW H×List MemPlace)}
theorem cell_str (h:DataW.trod enc Tryz.prog W base sp hd fuel 9 [v]=x) (hx:x.isSome=true):∃s:ByteArray,v=.string s:=by
 obtain⟨y,rfl⟩:=Option.isSome_iff_exists.1 hx;obtain⟨s,h1,_⟩:=DataW.trod_string Tryz.underlying9 h;exact⟨s,List.singleton_inj.1 h1⟩
theorem cell_bool (h:DataW.trod enc Tryz.prog W base sp hd fuel 4 [v]=x) (hx:x.isSome=true):∃b:Bool,v=.bool b:=by
 obtain⟨y,rfl⟩:=Option.isSome_iff_exists.1 hx;obtain⟨b,h1,_⟩:=DataW.trod_bool Tryz.underlying4 h;exact⟨b,List.singleton_inj.1 h1⟩
theorem cell_int (h:DataW.trod enc Tryz.prog W base sp hd fuel 3 [v]=x) (hx:x.isSome=true):∃n:Int,v=.int .i64 n/\ -9223372036854775808<=n/\n<=9223372036854775807:=by
 obtain⟨y,rfl⟩:=Option.isSome_iff_exists.1 hx;obtain⟨n,h1,_,hw⟩:=DataW.trod_int Tryz.underlying3 h;simp only[Lit.wf,Bool.and_eq_true,decide_eq_true_eq]at hw;rw[show IntKind.i64.min= -9223372036854775808 by decide,show IntKind.i64.max=9223372036854775807 by decide]at hw;exact⟨n,List.singleton_inj.1 h1,hw.1,hw.2⟩
theorem cell_path (h:DataW.trod enc Tryz.prog W base sp hd fuel 23 [v]=x) (hx:x.isSome=true):∃l,PathAt W v l:=by
 obtain⟨y,rfl⟩:=Option.isSome_iff_exists.1 hx;rcases open_strings Tryz.underlying23 Tryz.underlying9 cellsStr h with⟨h0,_⟩|⟨a,len,cap,ss,hcs,_,hl,hm,hz,_,hcell,_⟩
 ·obtain rfl:=List.singleton_inj.1 h0;exact⟨[],none,0,[],rfl,rfl,fun j x hj=>by simp at hj⟩
 ·obtain rfl:=List.singleton_inj.1 hcs;have hlen:len<=ss.length:=by rw[hz];split<;>omega
  refine⟨_,some a,cap,ss.take len,by rw[List.length_take,Nat.min_eq_left hlen],rfl,fun j x hj=>?_⟩
  have hj':j<len:=by
   have:=(List.getElem?_eq_some_iff.1 hj).1;rw[List.length_take]at this;omega
  have hj2:ss[j]? =some x:=by
   rw[List.getElem?_take,if_pos hj']at hj;exact hj
  have hc:=hcell j (by omega);rw[List.getD_eq_getElem?_getD,hj2]at hc;change W.cell? (a.add j)=some (.string x)at hc;obtain⟨B,off,spot⟩:=a
  have hspot:spot=none:=by
   have h1:=hcell 0 (by omega);simpa [Addr.add]using World.cell?_spot h1
  subst hspot;rw[Go.WideShapes.add_plain]at hc;exact⟨B,off,rfl,World.block_lt_of_cell? _ _ hc,hc⟩
theorem cell_at {f:Field} {cs:List Value} {t:TypeId} {y:Option (DataW H×List MemPlace)} (h:DataW.trod enc Tryz.prog W base sp hd fuel f.type ((cs.drop f.offset).take (Tryz.prog.cellsOf f.type))=y) (ht:f.type=t) (hc:Tryz.prog.cellsOf t=1) {c:Value} {r:List Value} (hd':cs.drop f.offset=c::r):DataW.trod enc Tryz.prog W base sp hd fuel t [c]=y:=by
 subst ht;rw[hc,hd']at h;exact h
end
theorem url_of {H:Type} {enc:TypeId×Value->H} {W:World} {base:Nat} {sp:Nat->Bool} {hd:Bool} {v:Value} {d:DataW H} {ps:List MemPlace} {r:Reach} {b0:Nat}
  (hv:Value.okWide Tryz.prog W r b0 25 v) (h:DataW.Trod enc Tryz.prog W base sp hd 25 v d ps):∃u:Lz.UrlL,UrlVal W v u/\ -9223372036854775808<=u.port/\u.port<=9223372036854775807:=by
 simp only[Value.okWide,Tryz.underlying25]at hv;obtain⟨⟨cs⟩,rfl,hsz,_⟩:=hv;have hc:Tryz.prog.cellsOf 25=12:=by kernel_rfl
 rw[hc]at hsz;obtain⟨fuel,hf⟩:=h;obtain⟨xs,n,_,_,_,hlen,hx⟩:=DataW.trod_struct Tryz.underlying25 hf
 have hsome:∀i,i<12->xs[i]?.isSome=true:=fun i hi=>by
  rw[List.getElem?_eq_getElem (by rw[hlen];exact hi)];rfl
 clear hf
 match cs,hsz with
 | [a,b,c,e,f,g,i,j,k,l,m,o],_=>
   have h0:=cell_at (hx 0 _ rfl) rfl cellsStr rfl;have h1:=cell_at (hx 1 _ rfl) rfl cellsStr rfl;have h2:=cell_at (hx 2 _ rfl) rfl cellsStr rfl;have h3:=cell_at (hx 3 _ rfl) rfl cellsBl rfl;have h4:=cell_at (hx 4 _ rfl) rfl cellsStr rfl;have h5:=cell_at (hx 5 _ rfl) rfl cellsIn rfl;have h6:=cell_at (hx 6 _ rfl) rfl cellsBl rfl;have h7:=cell_at (hx 7 _ rfl) rfl cellsSl rfl;have h8:=cell_at (hx 8 _ rfl) rfl cellsBl rfl;have h9:=cell_at (hx 9 _ rfl) rfl cellsBl rfl;have h10:=cell_at (hx 10 _ rfl) rfl cellsStr rfl;have h11:=cell_at (hx 11 _ rfl) rfl cellsStr rfl;obtain⟨sch,rfl⟩:=cell_str h0 (hsome 0 (by omega));obtain⟨usr,rfl⟩:=cell_str h1 (hsome 1 (by omega));obtain⟨pas,rfl⟩:=cell_str h2 (hsome 2 (by omega));obtain⟨hh,rfl⟩:=cell_bool h3 (hsome 3 (by omega));obtain⟨hst,rfl⟩:=cell_str h4 (hsome 4 (by omega));obtain⟨prt,rfl,p0,p1⟩:=cell_int h5 (hsome 5 (by omega));obtain⟨opq,rfl⟩:=cell_bool h6 (hsome 6 (by omega));obtain⟨pth,hp⟩:=cell_path h7 (hsome 7 (by omega));obtain⟨hq,rfl⟩:=cell_bool h8 (hsome 8 (by omega));obtain⟨hfr,rfl⟩:=cell_bool h9 (hsome 9 (by omega));obtain⟨qry,rfl⟩:=cell_str h10 (hsome 10 (by omega));obtain⟨frg,rfl⟩:=cell_str h11 (hsome 11 (by omega));have hp':=hp
   obtain⟨a7,c7,xs7,rfl,rfl,_⟩:=hp';exact⟨_,⟨⟨sch,usr,pas,hh,hst,prt,opq,_,xs7,hq,hfr,qry,frg⟩,rfl,hp,rfl⟩,p0,p1⟩
end Go.Proofs.YtipndhbgehdeoaaGreatDoor
