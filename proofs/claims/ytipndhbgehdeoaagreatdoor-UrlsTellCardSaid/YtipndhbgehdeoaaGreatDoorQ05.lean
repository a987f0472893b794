/-
  Plain laws on lists of bytes: what the packages percent and hosts compute, with no program in sight. No condition.
-/
import Derived.Test.YtipndhbgehdeoaaGreatDoorQ01
import Derived.Test.YtipndhbgehdeoaaGreatDoorQ02
import Derived.Shelf.Strings.OnBuilder
import Derived.Shelf.Strings.Trim
import Derived.Shelf.Strings.BuilderK
import Derived.Shelf.Utf8.RuneCount
import Derived.Shelf.Strconv.Itoa4
import Derived.Shelf.Strconv.ToError
import Derived.Shelf.Strconv.ParseUint10Any
import Derived.Shelf.Strconv.ToErrorRange
import Derived.Shelf.Pu.ErrVarParseUint
import Derived.Shelf.Strings.Shaped
import Derived.Shelf.GgClosure.StringsRunes
import Derived.Shelf.Strings.Prefix
import Derived.Shelf.Strings.SplitShaped
import Derived.Shelf.Strings.IndexAnyAll
import Derived.Shelf.Strings.Explode
import Derived.Shelf.Strings.FuncGrows
import Derived.Shelf.Slices.Clone
import Derived.Shelf.SlicesE.Clone
import Derived.Test.YtipndhbgehdeoaaGreatDoorProg
import Derived.Deep.DeepCutAuto
import Derived.Stop.Asserts
import Derived.RowKitTokens
set_option maxHeartbeats 2000000
set_option maxRecDepth 100000
namespace Go.Proofs.YtipndhbgehdeoaaGreatDoor
open Go.RowKit
theorem sizeBuilder:(Tryz.prog.info? 46).map (·.size)=some 2:=by kernel_rfl
theorem liesBuilder:liesAt Tryz.prog Tryz.prog.depth 46 (2 / Tryz.prog.cellsOf 46) 0 46 1=true:=by kernel_rfl
theorem infoByte:(Tryz.prog.info? 5).map (fun i=>(i.zero,i.size,i.bytes))=some (some (.int .u8 0),1,1):=by kernel_rfl
theorem copyCheck_used (b:Nat) (w:World) (h0:w.cell? ⟨b,0,none⟩=some (.pointer (some ⟨b,0,none⟩))):
  Calls Tryz.prog 45 #[.pointer (some ⟨b,0,none⟩)] w fun e w'=>e=.returned (.tuple #[])/\w'=w:=by
 obtain⟨j,hj,_⟩:=Option.map_eq_some_iff.1 sizeBuilder;go_enter Tryz.func45,Tryz.ntmps45
 go_wp2
 rw[Lib.run_neq_ptr_same w _ Tryz.underlying43 hj]
 go_wp2
 go_end0
 exact⟨rfl,rfl⟩
theorem copyCheck_fresh (b:Nat) (w:World) (h0:w.cell? ⟨b,0,none⟩=some (.pointer none)) (hsh:w.shape? b=some (46,2)) (hfz:w.frozen? ⟨b,0,none⟩=false):
  Calls Tryz.prog 45 #[.pointer (some ⟨b,0,none⟩)] w fun e w'=>e=.returned (.tuple #[])/\w'=w.setCell ⟨b,0,none⟩ (.pointer (some ⟨b,0,none⟩)):=by
 obtain⟨j,hj,hjs⟩:=Option.map_eq_some_iff.1 sizeBuilder;go_enter Tryz.func45,Tryz.ntmps45
 go_wp2
 rw[Lib.run_to_unsafe w ⟨b,0,none⟩ Tryz.underlying43 Tryz.underlying91 hj (by rw[hjs];decide) hsh (Nat.zero_lt_succ 1)];simp only[Result.andThen];rw[Oper.upon_value]
 go_wp2
 rw[run_callFunc_extern Tryz.func73 (by kernel_rfl) (by kernel_rfl) (by kernel_rfl) (e:=Extern.AbiNoEscape.same) (by kernel_rfl)];rw[Lib.run_noEscape];simp only[Result.andThen];rw[Oper.upon_value]
 go_wp2
 rw[Lib.run_from_unsafe w ⟨b,0,none⟩ Tryz.underlying91 Tryz.underlying43 hj hsh liesBuilder];simp only[Result.andThen];rw[Oper.upon_value]
 go_wp2
 go_end0
 exact⟨rfl,rfl⟩
theorem copyCheck_any (B b:Nat) (bs:List Value) (w:World) (h:Lib.IsBuilder 46 5 B b bs w):
  Calls Tryz.prog 45 #[.pointer (some ⟨b,0,none⟩)] w fun e w'=>e=.returned (.tuple #[])/\(Lib.BuilderAt 46 5 B b (.pointer (some ⟨b,0,none⟩)) bs w'/\Below B w w'):=by
 rcases h with h|h
 ·refine(copyCheck_fresh b w h.cell0 h.shape h.frozen0).mono ?_;rintro e w' ⟨rfl,rfl⟩;exact⟨rfl,h.used _,(Below.refl B w).setCell (p:=⟨b,0,none⟩) h.1 _⟩
 ·refine(copyCheck_used b w h.cell0).mono ?_;rintro e w' ⟨rfl,rfl⟩;exact⟨rfl,h,Below.refl B _⟩
def RBuilt (B b:Nat) (bs:List Value) (v:Value) (w:World) (e:Ending) (w':World):Prop:=
 e=.returned v/\Lib.IsBuilder 46 5 B b bs w'/\Below B w w'
theorem WriteByte_any (B b:Nat) (bs:List Value) (c:Int) (w:World) (h:Lib.IsBuilder 46 5 B b bs w) (hlen:bs.length+1<=140737488355328) (hBw:B<=w.heap.size):
  Calls Tryz.prog 63 #[.pointer (some ⟨b,0,none⟩),.int .u8 c] w (RBuilt B b (bs++[.int .u8 c]) .nilIface w):=by
 obtain⟨i0,hi,hz0,hz1,hz2⟩:=info_parts infoByte;go_enter Tryz.func63,Tryz.ntmps63
 go_wp2_with (go_at_call 45;refine(copyCheck_any B b bs _ h).mono ?_)
 rintro e w1 ⟨rfl,h1,hb1⟩;obtain⟨hB,v,hbk,hown,hne⟩:=h1;have c0:w1.cell? ⟨b,0,none⟩=some (.pointer (some ⟨b,0,none⟩)):=by rw[Lib.cell_of_heap hbk];rfl
 have c1:w1.cell? ⟨b,1,none⟩=some v:=by rw[Lib.cell_of_heap hbk];rfl
 go_wp2_with (at_builtin;refine wpList_append_own _ rfl _ _ 44 rfl B 5 i0 (.int .u8 0) 1 1 Tryz.underlying44 hi hz0 hz1 hz2 rfl (by decide) _ _ _ rfl (hown.alloc _) ⟨w1.heap.size,0,none⟩ 1 1 [.int .u8 c] rfl rfl ?c1 ?c2 ?c3 ?c4 ?c5 ?_)
 case c1=>
  intro j u hj
  match j,hj with
  | 0,hj=>simp at hj;subst hj;simp[Addr.add]
 case c2=>intro u hu;simp at hu;subst hu;rfl
 case c3=>unfold maxLen;omega
 case c4=>omega
 case c5=>have:=hb1.size;simp;omega
 intro v' w2 hown' hgrow _
 have hlt:b<w1.heap.size:=by
  rcases Nat.lt_or_ge b w1.heap.size with h'|h'
  ·exact h'
  ·simp[Array.getElem?_eq_none h']at hbk
 have hb2:w2.heap[b]? =some (.cells #[.pointer (some ⟨b,0,none⟩),v] 46 (0,0)):=by
  rw[hgrow.block b (by simp;omega) (fun e=>hne e.symm),Lib.alloc_old w1 _ b hlt];exact hbk
 have d0:w2.cell? ⟨b,0,none⟩=some (.pointer (some ⟨b,0,none⟩)):=by rw[Lib.cell_of_heap hb2];rfl
 have d1:w2.cell? ⟨b,1,none⟩=some v:=by rw[Lib.cell_of_heap hb2];rfl
 have f1:w2.frozen? ⟨b,1,none⟩=false:=Lib.frozen_of_heap hb2 1
 obtain⟨g,cap,rfl⟩:∃g cap,v'=.slice (some ⟨g,0,none⟩) (bs.length+1) cap:=by
  rcases hown'.2 with⟨_,h0⟩|⟨g,cap,cur,hv,_⟩
  ·omega
  ·exact⟨g,cap,hv⟩
 go_wp2
 go_ret;refine⟨rfl,Or.inr ?_,?_⟩
 ·exact Lib.BuilderAt.put (T:=46) (e:=5) hB hb2 (bs':=bs++[.int .u8 c]) (by simpa using hown') (by decide)
 ·exact((hb1.alloc (by have:=hb1.size;omega) _).grown hgrow (by have:=hb1.size;simp;omega) (fun k hk=>(hown.lt k hk).1)).setCell (p:=⟨b,1,none⟩) hB _
theorem WriteString_any (B b:Nat) (bs:List Value) (s:ByteArray) (w:World) (h:Lib.IsBuilder 46 5 B b bs w) (hlen:bs.length+s.size<=140737488355328) (hBw:B<=w.heap.size):
  Calls Tryz.prog 22 #[.pointer (some ⟨b,0,none⟩),.string s] w (RBuilt B b (bs++Lib.strCells s) (.tuple #[.int .i64 s.size,.nilIface]) w):=by
 obtain⟨i0,hi,hz0,hz1,hz2⟩:=info_parts infoByte;go_enter Tryz.func22,Tryz.ntmps22
 go_wp2_with (go_at_call 45;refine(copyCheck_any B b bs _ h).mono ?_)
 rintro e w1 ⟨rfl,h1,hb1⟩;obtain⟨hB,v,hbk,hown,hne⟩:=h1;have c0:w1.cell? ⟨b,0,none⟩=some (.pointer (some ⟨b,0,none⟩)):=by rw[Lib.cell_of_heap hbk];rfl
 have c1:w1.cell? ⟨b,1,none⟩=some v:=by rw[Lib.cell_of_heap hbk];rfl
 go_wp2_with (at_builtin;refine Lib.wpList_append_own_string _ rfl _ _ 44 9 rfl B 5 i0 Tryz.underlying44 Tryz.underlying9 hi hz0 hz1 hz2 _ _ _ rfl hown s rfl ?c3 ?c4 ?c5 ?_)
 case c3=>unfold maxLen;omega
 case c4=>omega
 case c5=>have:=hb1.size;omega
 intro v' w2 hown' hgrow _
 have hlt:b<w1.heap.size:=by
  rcases Nat.lt_or_ge b w1.heap.size with h'|h'
  ·exact h'
  ·simp[Array.getElem?_eq_none h']at hbk
 have hb2:w2.heap[b]? =some (.cells #[.pointer (some ⟨b,0,none⟩),v] 46 (0,0)):=by
  rw[hgrow.block b hlt (fun e=>hne e.symm)];exact hbk
 have d0:w2.cell? ⟨b,0,none⟩=some (.pointer (some ⟨b,0,none⟩)):=by rw[Lib.cell_of_heap hb2];rfl
 have d1:w2.cell? ⟨b,1,none⟩=some v:=by rw[Lib.cell_of_heap hb2];rfl
 have f1:w2.frozen? ⟨b,1,none⟩=false:=Lib.frozen_of_heap hb2 1
 obtain⟨ao,n',cap,rfl⟩:∃ao n' cap,v'=.slice ao n' cap:=by
  rcases hown'.2 with⟨hv,_⟩|⟨g,cap,cur,hv,_⟩
  ·exact⟨_,_,_,hv⟩
  ·exact⟨_,_,_,hv⟩
 go_wp2
 go_ret2
 refine⟨rfl,Or.inr ?_,?_⟩
 ·exact Lib.BuilderAt.put (T:=46) (e:=5) hB hb2 (bs':=bs++Lib.strCells s) (by simpa [Lib.strCells_length]using hown') (by decide)
 ·exact(hb1.grown hgrow (by have:=hb1.size;omega) (fun k hk=>(hown.lt k hk).1)).setCell (p:=⟨b,1,none⟩) hB _
end Go.Proofs.YtipndhbgehdeoaaGreatDoor
namespace Lz
open Go
def hexV (c:UInt8):Option Nat:=if isDigit c then some (c.toNat-48)else if 97<=(c||| 32).toNat/\(c||| 32).toNat<=102 then some ((c||| 32).toNat-87)else none
def numF (base:Nat):Nat->Bs->Option Nat
 | n,[]=>some n
 | n,c::r=>match hexV c with
   | none=>none
   | some d=>if base<=d then none else numF base (min (n*base+d) 1099511627776) r
def numP (s:Bs):Option Nat:=
 if Lib.hasPrefix (low s) [48,120]then numF 16 0 (48::(low s).drop 2)
 else if 1<s.length/\s[0]? =some 48 then numF 8 0 (s.drop 1)
 else if s=[]then none else numF 10 0 s
def labelsP (s:Bs):List Bs:=if 1<(splitC 46 s).length/\(splitC 46 s).getLast? =some []then(splitC 46 s).dropLast else splitC 46 s
def numberedP (s:Bs):Bool:=(allB isDigit ((labelsP s).getLastD []))||(numP ((labelsP s).getLastD [])).isSome
def fourB (n:Nat):List Bs->Option (List Nat)
 | []=>some []
 | s::r=>match numP s with
   | none=>none
   | some v=>
     let many:=if r=[]then 5-n else 1
     if 0<v / 256^many then none else(fourB n r).map fun t=>((List.range many).reverse.map fun k=>v / 256^k%256)++t
def joinP (sep:Bs):List Bs->Bs
 | []=>[]
 | [x]=>x
 | x::y::r=>x++sep++joinP sep (y::r)
def dottedP (b:List Nat):Bs:=joinP [46] (b.map fun x=>Lib.decDigits x)
def fourP (l:List Bs):Option Bs:=if 4<l.length then none else(fourB l.length l).map dottedP
def byteP (x:Bs):Option Nat:=match Lib.parseUintB 8 x with
 | .ok n=>if Lib.decDigits n=x then some n else none
 | _=>none
def bytesP (x:Bs):Option (List Nat):=match (splitC 46 x).mapM byteP with
 | some l=>if l.length=4 then some l else none
 | none=>none
def pieceP (x:Bs):Option Nat:=if x=[]\/4<x.length then none else x.foldlM (fun n c=>(hexV c).map (n*16+·)) 0
def rowP (last:Bool):List Bs->Option (List Nat)
 | []=>some []
 | x::r=>if last&&r.isEmpty&&x.contains 46 then(bytesP x).map fun b=>[b.getD 0 0*256+b.getD 1 0,b.getD 2 0*256+b.getD 3 0]
   else match pieceP x with
    | none=>none
    | some n=>(rowP last r).map (n::·)
def rowS (s:Bs) (last:Bool):Option (List Nat):=if s=[]then some []else rowP last (splitC 58 s)
def sixP (s:Bs):Option (List Nat):=
 let c:=Lib.cut s [58,58]
 if(!c.2.2&&s.isEmpty)||Lib.hasPrefix c.2.1 [58]then none
 else match rowS c.1 (!c.2.2),rowS c.2.1 true with
  | some x,some y=>if c.2.2 then(if 8<=x.length+y.length then none else some (x++List.replicate (8-x.length-y.length) 0++y))else(if x.length+y.length=8 then some (x++y)else none)
  | _,_=>none
def zerosP (l:List Nat):Nat:=(l.takeWhile (·==0)).length
def runP:Nat->List Nat->Nat×Nat->Nat×Nat
 | _,[],f=>f
 | i,x::r,f=>runP (i+1) r (if max (f.2-f.1) 1<zerosP (x::r)then(i,i+zerosP (x::r))else f)
def hexD (n:Nat):Bs:=(if h:n<16 then[]else hexD (n / 16))++[if n%16<10 then UInt8.ofNat (48+n%16)else UInt8.ofNat (87+n%16)]
def toldP (l:List Nat):Bs:=joinP [58] (l.map hexD)
def textP (a:List Nat):Bs:=if(runP 0 a (0,0)).1=(runP 0 a (0,0)).2 then toldP a else toldP (a.take (runP 0 a (0,0)).1)++[58,58]++toldP (a.drop (runP 0 a (0,0)).2)
def tripleP:Bs->Option UInt8
 | 37::a::b::_=>match hexV a,hexV b with
   | some x,some y=>some (UInt8.ofNat (16*x+y))
   | _,_=>none
 | _=>none
def decodeP:Bs->Bs
 | []=>[]
 | c::r=>match tripleP (c::r)with
   | some b=>b::decodeP (r.drop 2)
   | none=>c::decodeP r
 termination_by l=>l.length
 decreasing_by all_goals simp;try omega
def digitU (n:Nat):UInt8:=if n<10 then UInt8.ofNat (48+n)else UInt8.ofNat (55+n)
def encodeP (of:Bs) (s:Bs):Bs:=s.flatMap fun c=>if c<32||126<c||of.contains c then[37,digitU (c.toNat / 16),digitU (c.toNat%16)]else[c]
def banned:Bs:=[0,9,10,13,32,35,47,58,60,62,63,64,91,92,93,94,124]
def oddB (c:UInt8):Bool:=c<=32||127<=c||c==37||banned.contains c
inductive Res where
 | ok (t:Bs)
 | er (n:Nat)
 deriving DecidableEq,Repr
def ofO (n:Nat):Option Bs->Res
 | some t=>.ok t
 | none=>.er n
def domainP (s:Bs):Res:=
 let d:=low (decodeP s)
 if d=[]\/d.any oddB=true then .er 70 else if numberedP d then ofO 71 (fourP (labelsP d))else .ok d
def hostPr (s:Bs) (special:Bool):Res:=
 if s[0]? =some 91 then(if s.length<2\/s.getLast? ≠some 93 then .er 72 else ofO 72 ((sixP ((s.drop 1).dropLast)).map fun a=>[91]++textP a++[93]))
 else if special then domainP s
 else if s.any banned.contains then .er 70 else .ok (encodeP [] s)
end Lz
