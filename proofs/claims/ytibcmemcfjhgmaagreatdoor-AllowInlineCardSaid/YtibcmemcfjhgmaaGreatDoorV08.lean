/-
  Plain laws: numbers as digits to the base 65536, the lowest first: what lazaretref04 reckons (times, above, Root, Primes) is what numbers are. No condition.
-/
import Derived.Test.YtibcmemcfjhgmaaGreatDoorV01
import Derived.Test.YtibcmemcfjhgmaaGreatDoorV02
import Derived.Shelf.Strings.OnBuilder
import Derived.Shelf.Small.Wraps
import Derived.Shelf.Strings.BuilderK
import Derived.Shelf.Strconv.Itoa3
import Derived.Shelf.Strconv.ErrVarAll
import Derived.Shelf.Pu.ErrVarParseUint
import Derived.Shelf.Strings.Shaped
import Derived.Shelf.GgClosure.StringsRunes
import Derived.Shelf.Strings.SplitShaped
import Derived.Shelf.Strings.FuncGrows
import Derived.Shelf.Slices.Turned
import Derived.Test.YtibcmemcfjhgmaaGreatDoorProg
import Derived.Deep.DeepCutAuto
import Derived.Stop.Asserts
import Derived.RowKitTokens
import Derived.StillTailTactics
import Derived.Shelf.Strings.SlTrimAscii
set_option maxHeartbeats 2000000
set_option maxRecDepth 100000
namespace Go.Proofs
open Go.Shelf
def Tryz.lays156_ren:Go.Shelf.Ren:=⟨fun|156=>250|165=>278|166=>74|169=>76|240=>130|241=>307|276=>192|277=>327|n=>n,fun|31=>22|9=>9|3=>3|4=>4|0=>0|20=>20|72=>103|76=>104|70=>101|37=>93|75=>74|127=>180|164=>194|5=>5|80=>106|n=>n,fun|n=>n⟩
theorem Tryz.lays156:Go.Proofs.Lays.n156 Tryz.prog Tryz.lays156_ren:=by repeat' first |kernel_rfl|(intro w;rfl)|(intro w;kernel_rfl)|decide|constructor
theorem Tryz.Builder_Extra_156:Builder.Extra Tryz.prog Tryz.lays156_ren:=by repeat' first |kernel_rfl|(intro w;rfl)|(intro w;kernel_rfl)|decide|constructor
open Go.RowKit in
theorem Tryz.strings_Join (bk o c:Nat) (xs:List ByteArray) (sep:ByteArray) (w:World) (aW:∀(j:Nat) x,xs[j]? =some x->w.cell? ⟨bk,o+j,none⟩=some (.string x)) (gX:bk<w.heap.size) (hN:xs.length<=140737488355328) (jD:xs.length<=c) (aO:(Lib.join (xs.map (·.data.toList)) sep.data.toList).length<=140737488355328):
 Calls Tryz.prog 250 #[.slice (some ⟨bk,o,none⟩) xs.length c,.string sep] w fun e w'=>e=.returned (.string ⟨(Lib.join (xs.map (·.data.toList)) sep.data.toList).toArray⟩)/\Below w.heap.size w w':=Any.strings_Join Tryz.lays156 Tryz.Builder_Extra_156 bk o c xs sep w aW gX hN jD aO
def Tryz.lays160_ren:Go.Shelf.Ren:=⟨fun|160=>304|232=>279|231=>186|227=>187|234=>280|233=>188|236=>281|235=>189|228=>238|271=>265|151=>175|197=>195|120=>293|152=>232|260=>242|137=>129|119=>266|224=>228|225=>227|217=>191|266=>240|n=>n,fun|9=>9|4=>4|3=>3|5=>5|117=>216|116=>215|0=>0|124=>219|21=>21|105=>233|46=>124|119=>260|139=>308|138=>307|n=>n,fun|3=>8|4=>9|n=>n⟩
theorem Tryz.lays160:Go.Proofs.Lays.n160 Tryz.prog Tryz.lays160_ren:=by repeat' first |kernel_rfl|(intro w;rfl)|(intro w;kernel_rfl)|decide|constructor
def Tryz.laysPu14_ren:Go.Shelf.Ren:=⟨fun|14=>337|16=>328|17=>283|19=>335|20=>336|21=>309|22=>310|23=>311|24=>312|25=>329|27=>131|26=>330|28=>193|29=>241|30=>272|31=>273|32=>274|33=>275|35=>299|34=>298|36=>300|37=>301|38=>302|39=>325|40=>326|n=>n,fun|9=>9|3=>3|22=>131|24=>74|25=>335|4=>4|34=>338|5=>5|36=>124|37=>93|0=>0|39=>341|21=>21|44=>357|47=>180|50=>366|48=>364|2=>2|52=>301|55=>304|59=>332|60=>123|20=>20|61=>333|65=>362|66=>363|67=>106|n=>n,fun|0=>11|1=>12|2=>10|3=>13|4=>14|n=>n⟩
theorem Tryz.laysPu14:Go.Proofs.LaysPu.n14 Tryz.prog Tryz.laysPu14_ren:=by repeat' first |kernel_rfl|(intro w;rfl)|(intro w;kernel_rfl)|decide|constructor
open Go.RowKit in
theorem Tryz.strconv_ParseUint_10_at8_ok (s:ByteArray) (WR:s.size<=9223372036854775806) (u:Nat) (h:Lib.parseUintB 8 s.data.toList=.ok u) (w:World):
 Calls Tryz.prog 337 #[.string s,.int .i64 10,.int .i64 8] w fun e w'=>e=.returned (.tuple #[.int .u64 u,.nilIface])/\(w'=w\/w'=Lib.bytesWorld w 5 s):=Any.strconv_ParseUint_10_at8_ok Tryz.laysPu14 s WR u h w
open Go.RowKit in
theorem Tryz.strconv_ParseUint_10_at8_syntax (s:ByteArray) (Gj:s.size<=281474976710656) (h:Lib.parseUintB 8 s.data.toList=Lib.parseUintB 8 []) (ev:Value) (w:World) (hv:w.cell? ⟨11,0,none⟩=some ev) (WH:ev=.nilIface\/∃te pe,ev=.iface te pe):
 Calls Tryz.prog 337 #[.string s,.int .i64 10,.int .i64 8] w fun e w'=>∃N,e=.returned (.tuple #[.int .u64 0,.iface 341 (.pointer (some ⟨N,0,none⟩))])/\w.heap.size<=N/\w'.heap[N]? =some (.cells #[.string ⟨#[80,97,114,115,101,85,105,110,116]⟩,.string s,ev] 357 (0,0))/\Below w.heap.size w w':=Any.strconv_ParseUint_10_at8_syntax Tryz.laysPu14 s Gj h ev w hv WH
open Go.RowKit in
theorem Tryz.strconv_ParseUint_10_at8_range (s:ByteArray) (Gj:s.size<=281474976710656) (h:Lib.parseUintB 8 s.data.toList=.range) (ev:Value) (w:World) (hv:w.cell? ⟨12,0,none⟩=some ev) (WH:ev=.nilIface\/∃te pe,ev=.iface te pe):
 Calls Tryz.prog 337 #[.string s,.int .i64 10,.int .i64 8] w fun e w'=>∃N,e=.returned (.tuple #[.int .u64 255,.iface 341 (.pointer (some ⟨N,0,none⟩))])/\w.heap.size<=N/\w'.heap[N]? =some (.cells #[.string ⟨#[80,97,114,115,101,85,105,110,116]⟩,.string s,ev] 357 (0,0))/\Below w.heap.size w w':=Any.strconv_ParseUint_10_at8_range Tryz.laysPu14 s Gj h ev w hv WH
def Tryz.lays144_ren:Go.Shelf.Ren:=⟨fun|144=>331|143=>137|219=>168|217=>191|225=>227|224=>228|267=>229|266=>240|314=>264|n=>n,fun|9=>9|4=>4|3=>3|5=>5|46=>124|146=>295|51=>123|n=>n,fun|1=>7|n=>n⟩
theorem Tryz.lays144:Go.Proofs.Lays.n144 Tryz.prog Tryz.lays144_ren:=by repeat' first |kernel_rfl|(intro w;rfl)|(intro w;kernel_rfl)|decide|constructor
open Go.RowKit Go.Lib in
theorem Tryz.strings_Contains (s sub:ByteArray) (m:Int) (w:World) (hs:s.size<4294967281) (hm:w.cell? ⟨7,0,none⟩=some (.int .i64 m)):
 Calls Tryz.prog 331 #[.string s,.string sub] w fun e w'=>e=.returned (.bool (Lib.contains s.data.toList sub.data.toList))/\w'=w:=Any.strings_Contains Tryz.lays144 s sub m w hs hm
end Go.Proofs
namespace Go.Proofs.YtibcmemcfjhgmaaGreatDoor
open Go.RowKit
theorem rY:(Tryz.prog.info? 103).map (·.size)=some 2:=by kernel_rfl
theorem Bz:liesAt Tryz.prog Tryz.prog.depth 103 (2 / Tryz.prog.cellsOf 103) 0 103 1=true:=by kernel_rfl
theorem pR:(Tryz.prog.info? 5).map (fun i=>(i.zero,i.size,i.bytes))=some (some (.int .u8 0),1,1):=by kernel_rfl
theorem vF (b:Nat) (w:World) (h0:w.cell? ⟨b,0,none⟩=some (.pointer (some ⟨b,0,none⟩))):
  Calls Tryz.prog 130 #[.pointer (some ⟨b,0,none⟩)] w fun e w'=>e=.returned (.tuple #[])/\w'=w:=by
 obtain⟨j,hj,_⟩:=Option.map_eq_some_iff.1 rY;go_enter Tryz.func130,Tryz.ntmps130
 go_wp2
 rw[Lib.run_neq_ptr_same w _ Tryz.underlying101 hj]
 go_wp2
 go_end0
 exact⟨rfl,rfl⟩
theorem td (b:Nat) (w:World) (h0:w.cell? ⟨b,0,none⟩=some (.pointer none)) (tK:w.shape? b=some (103,2)) (DR:w.frozen? ⟨b,0,none⟩=false):
  Calls Tryz.prog 130 #[.pointer (some ⟨b,0,none⟩)] w fun e w'=>e=.returned (.tuple #[])/\w'=w.setCell ⟨b,0,none⟩ (.pointer (some ⟨b,0,none⟩)):=by
 obtain⟨j,hj,V7⟩:=Option.map_eq_some_iff.1 rY;go_enter Tryz.func130,Tryz.ntmps130
 go_wp2
 rw[Lib.run_to_unsafe w ⟨b,0,none⟩ Tryz.underlying101 Tryz.underlying194 hj (by rw[V7];decide) tK (Nat.zero_lt_succ 1)];simp only[Result.andThen];rw[Oper.upon_value]
 go_wp2
 rw[run_callFunc_extern Tryz.func192 (by kernel_rfl) (by kernel_rfl) (by kernel_rfl) (e:=Extern.AbiNoEscape.same) (by kernel_rfl)];rw[Lib.run_noEscape];simp only[Result.andThen];rw[Oper.upon_value]
 go_wp2
 rw[Lib.run_from_unsafe w ⟨b,0,none⟩ Tryz.underlying194 Tryz.underlying101 hj tK Bz];simp only[Result.andThen];rw[Oper.upon_value]
 go_wp2
 go_end0
 exact⟨rfl,rfl⟩
theorem oG (B b:Nat) (bs:List Value) (w:World) (h:Lib.IsBuilder 103 5 B b bs w):
  Calls Tryz.prog 130 #[.pointer (some ⟨b,0,none⟩)] w fun e w'=>e=.returned (.tuple #[])/\(Lib.BuilderAt 103 5 B b (.pointer (some ⟨b,0,none⟩)) bs w'/\Below B w w'):=by
 rcases h with h|h
 ·refine(td b w h.cell0 h.shape h.frozen0).mono ?_;rintro e w' ⟨rfl,rfl⟩;exact⟨rfl,h.used _,(Below.refl B w).setCell (p:=⟨b,0,none⟩) h.1 _⟩
 ·refine(vF b w h.cell0).mono ?_;rintro e w' ⟨rfl,rfl⟩;exact⟨rfl,h,Below.refl B _⟩
def LK (B b:Nat) (bs:List Value) (v:Value) (w:World) (e:Ending) (w':World):Prop:=
 e=.returned v/\Lib.IsBuilder 103 5 B b bs w'/\Below B w w'
theorem gB (B b:Nat) (bs:List Value) (c:Int) (w:World) (h:Lib.IsBuilder 103 5 B b bs w) (aO:bs.length+1<=140737488355328) (TE:B<=w.heap.size):
  Calls Tryz.prog 93 #[.pointer (some ⟨b,0,none⟩),.int .u8 c] w (LK B b (bs++[.int .u8 c]) .nilIface w):=by
 obtain⟨i0,hi,eZ,d9,eo⟩:=info_parts pR;go_enter Tryz.func93,Tryz.ntmps93
 go_wp2_with (go_at_call 130;refine(oG B b bs _ h).mono ?_)
 rintro e w1 ⟨rfl,h1,av⟩;obtain⟨hB,v,gX,ai,du⟩:=h1;have c0:w1.cell? ⟨b,0,none⟩=some (.pointer (some ⟨b,0,none⟩)):=by rw[Lib.cell_of_heap gX];rfl
 have c1:w1.cell? ⟨b,1,none⟩=some v:=by rw[Lib.cell_of_heap gX];rfl
 go_wp2_with (at_builtin;refine wpList_append_own _ rfl _ _ 93 rfl B 5 i0 (.int .u8 0) 1 1 Tryz.underlying93 hi eZ d9 eo rfl (by decide) _ _ _ rfl (ai.alloc _) ⟨w1.heap.size,0,none⟩ 1 1 [.int .u8 c] rfl rfl ?c1 ?c2 ?c3 ?c4 ?c5 ?_)
 case c1=>
  intro j u hj
  match j,hj with
  | 0,hj=>simp at hj;subst hj;simp[Addr.add]
 case c2=>intro u hu;simp at hu;subst hu;rfl
 case c3=>unfold maxLen;omega
 case c4=>omega
 case c5=>have:=av.size;simp;omega
 intro v' w2 aS bp _
 have aL:b<w1.heap.size:=by
  rcases Nat.lt_or_ge b w1.heap.size with h'|h'
  ·exact h'
  ·simp[Array.getElem?_eq_none h']at gX
 have aE:w2.heap[b]? =some (.cells #[.pointer (some ⟨b,0,none⟩),v] 103 (0,0)):=by
  rw[bp.block b (by simp;omega) (fun e=>du e.symm),Lib.alloc_old w1 _ b aL];exact gX
 have d0:w2.cell? ⟨b,0,none⟩=some (.pointer (some ⟨b,0,none⟩)):=by rw[Lib.cell_of_heap aE];rfl
 have d1:w2.cell? ⟨b,1,none⟩=some v:=by rw[Lib.cell_of_heap aE];rfl
 have f1:w2.frozen? ⟨b,1,none⟩=false:=Lib.frozen_of_heap aE 1
 obtain⟨g,cap,rfl⟩:∃g cap,v'=.slice (some ⟨g,0,none⟩) (bs.length+1) cap:=by
  rcases aS.2 with⟨_,h0⟩|⟨g,cap,dx,hv,_⟩
  ·omega
  ·exact⟨g,cap,hv⟩
 go_wp2
 go_ret;refine⟨rfl,Or.inr ?_,?_⟩
 ·exact Lib.BuilderAt.put (T:=103) (e:=5) hB aE (bs':=bs++[.int .u8 c]) (by simpa using aS) (by decide)
 ·exact((av.alloc (by have:=av.size;omega) _).grown bp (by have:=av.size;simp;omega) (fun k hk=>(ai.lt k hk).1)).setCell (p:=⟨b,1,none⟩) hB _
theorem tf (B b:Nat) (bs:List Value) (s:ByteArray) (w:World) (h:Lib.IsBuilder 103 5 B b bs w) (aO:bs.length+s.size<=140737488355328) (TE:B<=w.heap.size):
  Calls Tryz.prog 74 #[.pointer (some ⟨b,0,none⟩),.string s] w (LK B b (bs++Lib.strCells s) (.tuple #[.int .i64 s.size,.nilIface]) w):=by
 obtain⟨i0,hi,eZ,d9,eo⟩:=info_parts pR;go_enter Tryz.func74,Tryz.ntmps74
 go_wp2_with (go_at_call 130;refine(oG B b bs _ h).mono ?_)
 rintro e w1 ⟨rfl,h1,av⟩;obtain⟨hB,v,gX,ai,du⟩:=h1;have c0:w1.cell? ⟨b,0,none⟩=some (.pointer (some ⟨b,0,none⟩)):=by rw[Lib.cell_of_heap gX];rfl
 have c1:w1.cell? ⟨b,1,none⟩=some v:=by rw[Lib.cell_of_heap gX];rfl
 go_wp2_with (at_builtin;refine Lib.wpList_append_own_string _ rfl _ _ 93 9 rfl B 5 i0 Tryz.underlying93 Tryz.underlying9 hi eZ d9 eo _ _ _ rfl ai s rfl ?c3 ?c4 ?c5 ?_)
 case c3=>unfold maxLen;omega
 case c4=>omega
 case c5=>have:=av.size;omega
 intro v' w2 aS bp _
 have aL:b<w1.heap.size:=by
  rcases Nat.lt_or_ge b w1.heap.size with h'|h'
  ·exact h'
  ·simp[Array.getElem?_eq_none h']at gX
 have aE:w2.heap[b]? =some (.cells #[.pointer (some ⟨b,0,none⟩),v] 103 (0,0)):=by
  rw[bp.block b aL (fun e=>du e.symm)];exact gX
 have d0:w2.cell? ⟨b,0,none⟩=some (.pointer (some ⟨b,0,none⟩)):=by rw[Lib.cell_of_heap aE];rfl
 have d1:w2.cell? ⟨b,1,none⟩=some v:=by rw[Lib.cell_of_heap aE];rfl
 have f1:w2.frozen? ⟨b,1,none⟩=false:=Lib.frozen_of_heap aE 1
 obtain⟨ao,n',cap,rfl⟩:∃ao n' cap,v'=.slice ao n' cap:=by
  rcases aS.2 with⟨hv,_⟩|⟨g,cap,dx,hv,_⟩
  ·exact⟨_,_,_,hv⟩
  ·exact⟨_,_,_,hv⟩
 go_wp2
 go_ret2
 refine⟨rfl,Or.inr ?_,?_⟩
 ·exact Lib.BuilderAt.put (T:=103) (e:=5) hB aE (bs':=bs++Lib.strCells s) (by simpa [Lib.strCells_length]using aS) (by decide)
 ·exact(av.grown bp (by have:=av.size;omega) (fun k hk=>(ai.lt k hk).1)).setCell (p:=⟨b,1,none⟩) hB _
end Go.Proofs.YtibcmemcfjhgmaaGreatDoor
namespace Lz
open Go
def iC (c:UInt8):Option Nat:=if aQ c then some (c.toNat-48)else if 97<=(c||| 32).toNat/\(c||| 32).toNat<=102 then some ((c||| 32).toNat-87)else none
def fB (base:Nat):Nat->Bs->Option Nat
 | n,[]=>some n
 | n,c::r=>match iC c with
   | none=>none
   | some d=>if base<=d then none else fB base (min (n*base+d) 1099511627776) r
def qY (s:Bs):Option Nat:=
 if Lib.hasPrefix (low s) [48,120]then fB 16 0 (48::(low s).drop 2)
 else if 1<s.length/\s[0]? =some 48 then fB 8 0 (s.drop 1)
 else if s=[]then none else fB 10 0 s
def dn (s:Bs):List Bs:=if 1<(aD 46 s).length/\(aD 46 s).getLast? =some []then(aD 46 s).dropLast else aD 46 s
def dy (s:Bs):Bool:=(dj aQ ((dn s).getLastD []))||(qY ((dn s).getLastD [])).isSome
def eO (n:Nat):List Bs->Option (List Nat)
 | []=>some []
 | s::r=>match qY s with
   | none=>none
   | some v=>
     let many:=if r=[]then 5-n else 1
     if 0<v / 256^many then none else(eO n r).map fun t=>((List.range many).reverse.map fun k=>v / 256^k%256)++t
def fE (sep:Bs):List Bs->Bs
 | []=>[]
 | [x]=>x
 | x::y::r=>x++sep++fE sep (y::r)
def eR (b:List Nat):Bs:=fE [46] (b.map fun x=>Lib.decDigits x)
def fK (l:List Bs):Option Bs:=if 4<l.length then none else(eO l.length l).map eR
def kx (x:Bs):Option Nat:=match Lib.parseUintB 8 x with
 | .ok n=>if Lib.decDigits n=x then some n else none
 | _=>none
def gJ (x:Bs):Option (List Nat):=match (aD 46 x).mapM kx with
 | some l=>if l.length=4 then some l else none
 | none=>none
def gM (x:Bs):Option Nat:=if x=[]\/4<x.length then none else x.foldlM (fun n c=>(iC c).map (n*16+·)) 0
def je (last:Bool):List Bs->Option (List Nat)
 | []=>some []
 | x::r=>if last&&r.isEmpty&&x.contains 46 then(gJ x).map fun b=>[b.getD 0 0*256+b.getD 1 0,b.getD 2 0*256+b.getD 3 0]
   else match gM x with
    | none=>none
    | some n=>(je last r).map (n::·)
def gL (s:Bs) (last:Bool):Option (List Nat):=if s=[]then some []else je last (aD 58 s)
def jw (s:Bs):Option (List Nat):=
 let c:=Lib.cut s [58,58]
 if(!c.2.2&&s.isEmpty)||Lib.hasPrefix c.2.1 [58]then none
 else match gL c.1 (!c.2.2),gL c.2.1 true with
  | some x,some y=>if c.2.2 then(if 8<=x.length+y.length then none else some (x++List.replicate (8-x.length-y.length) 0++y))else(if x.length+y.length=8 then some (x++y)else none)
  | _,_=>none
def dS (l:List Nat):Nat:=(l.takeWhile (·==0)).length
def gV:Nat->List Nat->Nat×Nat->Nat×Nat
 | _,[],f=>f
 | i,x::r,f=>gV (i+1) r (if max (f.2-f.1) 1<dS (x::r)then(i,i+dS (x::r))else f)
def gW (n:Nat):Bs:=(if h:n<16 then[]else gW (n / 16))++[if n%16<10 then UInt8.ofNat (48+n%16)else UInt8.ofNat (87+n%16)]
def bW (l:List Nat):Bs:=fE [58] (l.map gW)
def eN (a:List Nat):Bs:=if(gV 0 a (0,0)).1=(gV 0 a (0,0)).2 then bW a else bW (a.take (gV 0 a (0,0)).1)++[58,58]++bW (a.drop (gV 0 a (0,0)).2)
def dJ:Bs->Option UInt8
 | 37::a::b::_=>match iC a,iC b with
   | some x,some y=>some (UInt8.ofNat (16*x+y))
   | _,_=>none
 | _=>none
def a7:Bs->Bs
 | []=>[]
 | c::r=>match dJ (c::r)with
   | some b=>b::a7 (r.drop 2)
   | none=>c::a7 r
 termination_by l=>l.length
 decreasing_by all_goals simp;try omega
def dC (n:Nat):UInt8:=if n<10 then UInt8.ofNat (48+n)else UInt8.ofNat (55+n)
def aq (of:Bs) (s:Bs):Bs:=s.flatMap fun c=>if c<32||126<c||of.contains c then[37,dC (c.toNat / 16),dC (c.toNat%16)]else[c]
def ei:Bs:=[0,9,10,13,32,35,47,58,60,62,63,64,91,92,93,94,124]
def pQ (c:UInt8):Bool:=c<=32||127<=c||c==37||ei.contains c
inductive Res where
 | ok (t:Bs)
 | er (n:Nat)
 deriving DecidableEq,Repr
def ofO (n:Nat):Option Bs->Res
 | some t=>.ok t
 | none=>.er n
def eE (s:Bs):Res:=
 let d:=low (a7 s)
 if d=[]\/d.any pQ=true then .er 70 else if dy d then ofO 71 (fK (dn d))else .ok d
def aX (s:Bs) (special:Bool):Res:=
 if s[0]? =some 91 then(if s.length<2\/s.getLast? ≠some 93 then .er 72 else ofO 72 ((jw ((s.drop 1).dropLast)).map fun a=>[91]++eN a++[93]))
 else if special then eE s
 else if s.any ei.contains then .er 70 else .ok (aq [] s)
theorem KI (c:UInt8):low1 (low1 c)=low1 c:=by revert c;exact aA (by decide +kernel)
theorem FM (c:UInt8):bn (low1 c)=bn c:=by revert c;exact aA (by decide +kernel)
theorem KJ (c:UInt8):fI (low1 c)=fI c:=by revert c;exact aA (by decide +kernel)
theorem zV (c:UInt8):eG (low1 c)=eG c:=by revert c;exact aA (by decide +kernel)
theorem MC (c:UInt8):(low1 c==46)=(c==46):=by revert c;exact aA (by decide +kernel)
theorem tF (l:Bs):low (low l)=low l:=by
 unfold low;rw[List.map_map];exact List.map_congr_left fun c _=>KI c
theorem EY (a b:Bs):low (a++b)=low a++low b:=by unfold low;exact List.map_append
theorem pJ (l:Bs):(low l).length=l.length:=by unfold low;simp
theorem Cl (l:Bs):(low l).isEmpty=l.isEmpty:=by cases l<;>rfl
theorem B6 {p:UInt8->Bool} (h:∀c,p (low1 c)=p c) (l:Bs):dj p (low l)=dj p l:=by
 unfold dj;rw[Cl];congr 1;unfold low;rw[List.all_map];congr 1
 funext c
 exact h c
theorem A9 (l:Bs):bK (low l)=bK l:=by
 unfold bK;rw[B6 zV];cases l with
 | nil=>rfl
 | cons c r=>show(bn (low1 c)&&_)=_;rw[FM]
theorem ur:∀l:Bs,aD 46 (low l)=(aD 46 l).map low
 | []=>rfl
 | c::l=>by
   have ih:=ur l;show aD 46 (low1 c::low l)=_;rw[aD,aD,MC,ih];by_cases h:c=46
   ·rw[if_pos (by simpa using h),if_pos (by simpa using h)];rfl
   ·rw[if_neg (by simpa using h),if_neg (by simpa using h)];cases aD 46 l<;>rfl
theorem EB (l:Bs):eF (low l)=eF l:=by
 unfold eF;rw[jS,jS,ur,List.all_map];congr 1
 funext x
 exact B6 KJ x
theorem C9 (m:Bs):ia (39::(m++[39]))=true:=by
 unfold ia;rw[show(39::(m++[39]):Bs)=(39::m)++[39]from rfl,List.getLast?_append]
 simp
theorem D8 (m:Bs):((39::(m++[39]):Bs).drop 1).dropLast=m:=by simp
theorem FO (m:Bs):a8 (39::(m++[39]))=bS m:=by
 unfold a8;rw[C9,if_pos rfl,D8]
theorem Qn:∀k∈a6,k.take 2≠[115,104]:=by decide +kernel
theorem uK (p l:Bs):Lib.hasPrefix (p++l) p=true:=by
 unfold Lib.hasPrefix;exact List.isPrefixOf_iff_prefix.2 ⟨l,rfl⟩
theorem nI (b:Int):js b=115::104::97::(Lib.itoa b++[45]):=rfl
theorem CE (b:Int) (x:Bs):a6.contains (js b++x)=false:=by
 rw[Bool.eq_false_iff];intro h;have:=Qn _ (List.contains_iff_mem.1 h);exact this rfl
theorem GV:Lib.itoa 256=[50,53,54]:=by simp[Lib.itoa,Lib.decDigits]
theorem GL:Lib.itoa 384=[51,56,52]:=by simp[Lib.itoa,Lib.decDigits]
theorem Ij:Lib.itoa 512=[53,49,50]:=by simp[Lib.itoa,Lib.decDigits]
theorem D6:js 256=[115,104,97,50,53,54,45]:=by rw[nI,GV];rfl
theorem Ec:js 384=[115,104,97,51,56,52,45]:=by rw[nI,GL];rfl
theorem EQ:js 512=[115,104,97,53,49,50,45]:=by rw[nI,Ij];rfl
theorem lL {l:Bs} {y:Src} (h:bS l=some y):(low l∈a6/\y=EC (low l))\/(∃v,y=zN v/\dF v=true/\v.length<=l.length)\/(∃v b,y=ig v b/\(b=256\/b=384\/b=512)/\dF v=true/\v.length<=l.length):=by
 unfold bS at h;by_cases h1:a6.contains (low l)=true
 ·rw[if_pos h1]at h;exact Or.inl ⟨List.contains_iff_mem.1 h1,(Option.some.inj h).symm⟩
 ·rw[if_neg h1]at h;by_cases h2:(Lib.hasPrefix (low l) lO&&dF (l.drop 6))=true
  ·rw[if_pos h2]at h;rw[Bool.and_eq_true]at h2;exact Or.inr (Or.inl ⟨_,(Option.some.inj h).symm,h2.2,by simp⟩)
  ·rw[if_neg h2]at h
   have key:∀b,eH l b=some y->(∃v,y=ig v b/\dF v=true/\v.length<=l.length):=by
    intro b hb;unfold eH at hb;by_cases h3:(Lib.hasPrefix (low l) (js b)&&dF (l.drop (js b).length))=true
    ·rw[if_pos h3]at hb;rw[Bool.and_eq_true]at h3;exact⟨_,(Option.some.inj hb).symm,h3.2,by simp⟩
    ·rw[if_neg h3]at hb;cases hb
   rcases Option.or_eq_some_iff.1 h with h|⟨_,h⟩
   ·obtain⟨v,a,c,d⟩:=key _ h;exact Or.inr (Or.inr ⟨v,256,a,Or.inl rfl,c,d⟩)
   ·rcases Option.or_eq_some_iff.1 h with h|⟨_,h⟩
    ·obtain⟨v,a,c,d⟩:=key _ h;exact Or.inr (Or.inr ⟨v,384,a,Or.inr (Or.inl rfl),c,d⟩)
    ·obtain⟨v,a,c,d⟩:=key _ h;exact Or.inr (Or.inr ⟨v,512,a,Or.inr (Or.inr rfl),c,d⟩)
theorem rf (n:Nat):∀c∈Lib.decDigits n,aQ c=true:=by
 induction n using Nat.strongRecOn with
 | _ n ih=>
   intro c hc;rw[Lib.decDigits]at hc;have key:∀d,d<10->aQ (UInt8.ofNat (48+d))=true:=by decide
   split at hc
   ·rename_i h;rw[List.mem_singleton.1 hc];exact key n h
   ·rcases List.mem_append.1 hc with hc|hc
    ·exact ih (n / 10) (by omega) c hc
    ·rw[List.mem_singleton.1 hc];exact key (n%10) (by omega)
theorem FZ (n:Nat):Lib.decDigits n≠[]:=by
 rw[Lib.decDigits];split<;>simp
theorem nP {c:UInt8} (h:aQ c=true):48<=c.toNat/\c.toNat<=57:=by
 revert h;revert c
 exact fun{c}=>aA (p:=fun c=>aQ c=true->48<=c.toNat/\c.toNat<=57) (by decide +kernel) c
theorem rj (j8:Nat) (d:Nat) (hd:d<10):∀(l:Bs) (u:Nat),Lib.parseUint10 j8 l=.ok u->u<1844674407370955161->Lib.parseUint10 j8 (l++[UInt8.ofNat (48+d)])=.ok (u*10+d)
 | [],u,h,hu=>by
   simp only[Lib.parseUint10]at h;injection h with h
   subst h
   have e:(UInt8.ofNat (48+d)).toNat=48+d:=by
    rw[UInt8.toNat_ofNat'];omega
   simp only[List.nil_append,Lib.parseUint10,e];rw[if_pos ⟨by omega,by omega⟩,if_neg (by omega),if_neg (by omega)];congr 1;omega
 | c::r,u,h,hu=>by
   simp only[Lib.parseUint10]at h;simp only[List.cons_append,Lib.parseUint10];split at h
   ·rename_i h1;rw[if_pos h1];split at h
    ·cases h
    ·rename_i h2;rw[if_neg h2];split at h
     ·cases h
     ·rename_i h3;rw[if_neg h3];exact rj _ d hd r u h hu
   ·cases h
theorem JK (n:Nat) (hn:n<1000000):Lib.parseUint10 0 (Lib.decDigits n)=.ok n:=by
 induction n using Nat.strongRecOn with
 | _ n ih=>
   rw[Lib.decDigits];split
   ·rename_i h;have:=rj 0 n h [] 0 rfl (by omega);simpa using this
   ·rename_i h;have:=rj 0 (n%10) (by omega) _ _ (ih (n / 10) (by omega) (by omega)) (by omega);rw[this];congr 1;omega
theorem kQ {n:Int} (h0:0<=n) (h1:n<=65535):Lib.atoiAll (Lib.itoa n)=.ok n/\dj aQ (Lib.itoa n)=true/\(Lib.itoa n).length<=21:=by
 have e:Lib.itoa n=Lib.decDigits n.toNat:=by unfold Lib.itoa;rw[if_neg (by omega)]
 rw[e];have hd:=rf n.toNat;have hp:=JK n.toNat (by omega);have du:=FZ n.toNat;refine⟨?_,?_,?_⟩
 ·cases hl:Lib.decDigits n.toNat with
  | nil=>exact absurd hl du
  | cons c r=>
    rw[hl]at hp hd;obtain⟨a,b⟩:=nP (hd c (by simp))
    have hm:Lib.parseMag (c::r)=.ok n.toNat:=by
     unfold Lib.parseMag;rw[if_neg (by simp),hp]
    unfold Lib.atoiAll
    dsimp only
    rw[if_neg (by omega),hm]
    dsimp only
    rw[if_neg (by omega),if_neg (by omega),if_neg (by omega)];congr 1;omega
 ·unfold dj;rw[List.all_eq_true.2 hd];cases hl:Lib.decDigits n.toNat with
  | nil=>exact absurd hl du
  | cons c r=>rfl
 ·have:∀(k m:Nat),m<10^(k+1)->(Lib.decDigits m).length<=k+1:=by
   intro k
   induction k with
   | zero=>intro m h;rw[Lib.decDigits,dif_pos (by simpa using h)];simp
   | succ k ih=>
     intro m h;rw[Lib.decDigits];split
     ·simp
     ·rw[List.length_append];have:=ih (m / 10) (by rw[Nat.pow_succ]at h;omega)
      simp
      omega
  have:=this 4 n.toNat (by omega);omega
theorem JY {c:UInt8} (h:aQ c=true):c≠58/\c≠47/\c≠39/\c≠42:=by
 revert h;revert c
 exact fun{c}=>aA (p:=fun c=>aQ c=true->c≠58/\c≠47/\c≠39/\c≠42) (by decide +kernel) c
theorem gN {p:UInt8->Bool} {l:Bs} (h:dj p l=true):(∀c∈l,p c=true)/\l≠[]:=by
 unfold dj at h;rw[Bool.and_eq_true,List.all_eq_true]at h;refine⟨h.1,?_⟩;rintro rfl;exact absurd h.2 (by simp)
theorem mb {c b:UInt8} {l r:Bs} (h:b≠c):Lib.index (b::l) (c::r)=if Lib.index l (c::r)== -1 then -1 else Lib.index l (c::r)+1:=by
 rw[Lib.index]
 have:((c::r:Bs).isPrefixOf (b::l))=false:=by
  have:(c==b)=false:=by simpa using fun e=>h e.symm
  simp[List.isPrefixOf,this]
 rw[this];rfl
theorem F8 (s b:Bs) (hs:s≠[]):Lib.index (s++b) s=0:=by
 cases s with
 | nil=>exact absurd rfl hs
 | cons c r=>
   rw[List.cons_append,Lib.index];have:((c::r:Bs).isPrefixOf (c::(r++b)))=true:=List.isPrefixOf_iff_prefix.2 ⟨b,rfl⟩;rw[this];rfl
theorem v9 (l s:Bs) (h:Lib.index l s= -1):Lib.cut l s=(l,[],false):=by
 unfold Lib.cut;rw[h];rfl
theorem kS (c:UInt8):∀(a:Bs),c∉a->Lib.indexByte a c= -1
 | [],_=>rfl
 | x::a,h=>by
   have hx:(x==c)=false:=by simpa using fun e=>h (by simp[e])
   have ih:=kS c a (fun e=>h (by simp[e]));rw[Lib.indexByte,hx,ih];rfl
theorem FN {l s:Bs} (h:Lib.index l s= -1) (k:Nat):Lib.index (l.drop k) s= -1:=by
 rcases Lib.index_spec l s with⟨_,h2⟩|⟨i,h2,_⟩
 ·rcases Lib.index_spec (l.drop k) s with⟨h3,_⟩|⟨i,h3,h4,h5,_⟩
  ·exact h3
  ·exfalso
   rw[List.length_drop]at h4;by_cases hk:k<=l.length
   ·have h6:=h2 (k+i) (by omega);unfold Lib.occAt at h5 h6;rw[List.drop_drop]at h5;rw[h5]at h6;cases h6
   ·have h6:=h2 l.length (Nat.le_refl _);unfold Lib.occAt at h5 h6;rw[List.drop_eq_nil_of_le (by rw[List.length_drop];omega)]at h5;rw[List.drop_eq_nil_of_le (Nat.le_refl _)]at h6;rw[h5]at h6;cases h6
 ·omega
def Iz (wild:Bool) (host:Bs):Bs:=if wild then(if host=[]then[42]else[42,46]++host)else host
def xV (port:Int):Bs:=if port= -2 then[58,42]else if 0<=port then 58::Lib.itoa port else[]
theorem sk {l:Bs} {w:Bool} {h:Bs} (e:nj l=some (w,h)):(w=true/\h=[])\/(eF h=true/\low h=h/\h.length<=l.length):=by
 unfold nj at e;split at e
 ·left;have:=Option.some.inj e;exact⟨(Prod.mk.inj this).1.symm,(Prod.mk.inj this).2.symm⟩
 ·split at e
  ·rename_i hn;right;have:=Option.some.inj e;obtain⟨_,h2⟩:=Prod.mk.inj this;rw[<-h2];refine⟨by rw[EB];exact hn,tF _,?_⟩;rw[pJ];unfold Lib.trimPrefix;split
   ·simp
   ·exact Nat.le_refl _
  ·cases e
theorem B0 {l:Bs} {n:Int} (e:eA l=some n):n= -2\/(0<=n/\n<=65535):=by
 unfold eA at e;split at e
 ·exact Or.inl (Option.some.inj e).symm
 ·split at e
  ·rename_i m hm;split at e
   ·rename_i h;rw[Bool.and_eq_true,decide_eq_true_eq]at h;have:=Option.some.inj e;subst this;refine Or.inr ⟨?_,h.2⟩;cases l with
    | nil=>cases hm
    | cons c r=>
      have hd:=nP ((gN h.1).1 c (by simp));unfold Lib.atoiAll at hm
      dsimp only at hm
      rw[if_neg (by omega)]at hm;cases hp:Lib.parseMag (c::r)with
      | ok u=>
        rw[hp]at hm
        dsimp only at hm
        split at hm
        ·cases hm
        ·split at hm
         ·cases hm
         ·rw[if_neg (by omega)]at hm;injection hm with hm
          omega
      | _=>rw[hp]at hm;cases hm
   ·cases e
  ·cases e
theorem Uk {n:Int} (h:n= -2\/(0<=n/\n<=65535)):∃q,xV n=58::q/\eA q=some n/\(∀c∈q,c≠58/\c≠47)/\q≠[]:=by
 rcases h with rfl|⟨h0,h1⟩
 ·exact⟨[42],rfl,rfl,by decide,by decide⟩
 ·obtain⟨ha,hd,_⟩:=kQ h0 h1;refine⟨Lib.itoa n,?_,?_,?_,(gN hd).2⟩
  ·unfold xV;rw[if_neg (by omega),if_pos h0]
  ·unfold eA
   have du:Lib.itoa n≠[42]:=by
    intro e;have:=(gN hd).1 42 (by rw[e];simp);exact absurd this (by decide)
   rw[if_neg du,ha]
   dsimp only
   rw[hd,decide_eq_true h1];rfl
  ·intro c hc;have:=JY ((gN hd).1 c hc);exact⟨this.1,this.2.1⟩
theorem mO (c:UInt8):∀l:Bs,0<=Lib.indexByte l c->∃p,l.drop (Lib.indexByte l c).toNat=c::p
 | [],h=>by simp[Lib.indexByte]at h
 | x::l,h=>by
   rw[Lib.indexByte]at h⊢;by_cases hx:(x==c)=true
   ·rw[if_pos hx];have:x=c:=by simpa using hx
    subst this;exact⟨l,rfl⟩
   ·rw[if_neg hx]at h⊢;by_cases hm:(Lib.indexByte l c== -1)=true
    ·rw[if_pos hm]at h;omega
    ·rw[if_neg hm]at h⊢;have AS:=Lib.indexByte_ge l c;have du:Lib.indexByte l c≠ -1:=by simpa using hm
     obtain⟨p,hp⟩:=mO c l (by omega);refine⟨p,?_⟩;rw[show(Lib.indexByte l c+1).toNat=(Lib.indexByte l c).toNat+1 by omega,List.drop_succ_cons];exact hp
structure UY (sch host path:Bs) (wild:Bool) (port:Int):Prop where
 fname:(wild=true/\host=[])\/(eF host=true/\low host=host)
 fport:port= -1\/port= -2\/(0<=port/\port<=65535)
 fpath:path=[]\/(dj dr path=true/\∃p,path=47::p)
 fscheme:(bK sch=true/\low sch=sch)\/(sch=[]/\Lib.index path [58,47,47]= -1)
theorem oC {sch path r:Bs} {y:Src} (h:fS sch path r=some y):∃host wild port,y=⟨3,[],0,sch,host,wild,port,path⟩/\((wild=true/\host=[])\/(eF host=true/\low host=host))/\host.length<=r.length/\
  (port= -1\/port= -2\/(0<=port/\port<=65535))/\(path=[]\/dj dr path=true):=by
 unfold fS at h;cases hh:nj (Lib.cut r [58]).1 with
 | none=>rw[hh]at h;cases h
 | some wh=>
   obtain⟨wild,host⟩:=wh;rw[hh]at h
   dsimp only at h
   have aO:(Lib.cut r [58]).1.length<=r.length:=by
    unfold Lib.cut;split
    ·simp[List.length_take];omega
    ·exact Nat.le_refl _
   have hpr:∃port,(if(Lib.cut r [58]).2.2 then eA (Lib.cut r [58]).2.1 else some (-1))=some port/\(port= -1\/port= -2\/(0<=port/\port<=65535)):=by
    cases hp:(if(Lib.cut r [58]).2.2 then eA (Lib.cut r [58]).2.1 else some (-1))with
    | none=>rw[hp]at h;cases h
    | some port=>
      refine⟨port,rfl,?_⟩;split at hp
      ·exact Or.inr (B0 hp)
      ·exact Or.inl (Option.some.inj hp).symm
   obtain⟨port,hp,SI⟩:=hpr;rw[hp]at h
   dsimp only at h
   split at h
   ·rename_i hs;refine⟨host,wild,port,(Option.some.inj h).symm,?_,?_,SI,?_⟩
    ·rcases sk hh with h|⟨a,b,_⟩
     ·exact Or.inl h
     ·exact Or.inr ⟨a,b⟩
    ·rcases sk hh with⟨_,h⟩|⟨_,_,c⟩
     ·rw[h];exact Nat.zero_le _
     ·exact Nat.le_trans c aO
    ·rw[Bool.or_eq_true]at hs;rcases hs with hs|hs
     ·exact Or.inl (List.isEmpty_iff.1 hs)
     ·exact Or.inr hs
   ·cases h
theorem ou {sch l:Bs} {y:Src} (h:gZ sch l=some y):∃host wild port path k,y=⟨3,[],0,sch,host,wild,port,path⟩/\((wild=true/\host=[])\/(eF host=true/\low host=host))/\host.length<=l.length/\
  (port= -1\/port= -2\/(0<=port/\port<=65535))/\(path=[]\/(dj dr path=true/\∃p,path=47::p))/\(path=[]\/path=l.drop k):=by
 unfold gZ at h;split at h
 ·rename_i hi;obtain⟨host,wild,port,h1,h2,h3,h4,h5⟩:=oC h;obtain⟨p,hp⟩:=mO 47 l hi;refine⟨host,wild,port,_,(Lib.indexByte l 47).toNat,h1,h2,Nat.le_trans h3 (by simp[List.length_take];omega),h4,?_,Or.inr rfl⟩;rcases h5 with h5|h5
  ·exact Or.inl h5
  ·exact Or.inr ⟨h5,p,hp⟩
 ·obtain⟨host,wild,port,h1,h2,h3,h4,h5⟩:=oC h;exact⟨host,wild,port,[],0,h1,h2,h3,h4,Or.inl rfl,Or.inl rfl⟩
theorem lu {l:Bs} {y:Src} (h:cq l=some y):∃sch host wild port path,y=⟨3,[],0,sch,host,wild,port,path⟩/\UY sch host path wild port/\sch.length<=l.length/\host.length<=l.length/\path.length<=l.length:=by
 unfold cq at h
 dsimp only at h
 have AP:(Lib.cut l [58,47,47]).2.1.length<=l.length/\(Lib.cut l [58,47,47]).1.length<=l.length:=by
  unfold Lib.cut;split
  ·exact⟨by simp[List.length_drop],by simp[List.length_take];omega⟩
  ·simp
 split at h
 ·split at h
  ·rename_i hs;obtain⟨host,wild,port,path,k,h1,h2,h3,h4,h5,h6⟩:=ou h;refine⟨_,host,wild,port,path,h1,⟨h2,h4,h5,Or.inl ⟨by rw[A9];exact hs,tF _⟩⟩,by rw[pJ];exact AP.2,Nat.le_trans h3 AP.1,?_⟩;rcases h6 with rfl|rfl
   ·exact Nat.zero_le _
   ·exact Nat.le_trans (by simp) AP.1
  ·cases h
 ·rename_i hc
  have hi:Lib.index l [58,47,47]= -1:=by
   unfold Lib.cut at hc;have AS:=Lib.index_ge l [58,47,47];by_cases h0:0<=Lib.index l [58,47,47]
   ·rw[if_pos h0]at hc;exact absurd rfl hc
   ·omega
  obtain⟨host,wild,port,path,k,h1,h2,h3,h4,h5,h6⟩:=ou h;refine⟨[],host,wild,port,path,h1,⟨h2,h4,h5,Or.inr ⟨rfl,?_⟩⟩,Nat.zero_le _,h3,?_⟩
  ·rcases h6 with rfl|rfl
   ·rfl
   ·exact FN hi k
  ·rcases h6 with rfl|rfl
   ·exact Nat.zero_le _
   ·simp
structure aaW (y:Src) (N:Nat):Prop where
 ftext:y.text.length<=N
 fscheme:y.scheme.length<=N
 fhost:y.host.length<=N
 fpath:y.path.length<=N
 fport0: -2<=y.port
 fport1:y.port<=65535
 fbits0:0<=y.bits
 fbits1:y.bits<=512
theorem JC {n:Int} (h:n= -1\/n= -2\/(0<=n/\n<=65535)):(xV n).length<=22:=by
 rcases h with rfl|rfl|⟨h0,h1⟩
 ·decide
 ·decide
 ·unfold xV;rw[if_neg (by omega),if_pos h0];have:=(kQ h0 h1).2.2
  simp
  omega
theorem Yn (l:Bs) (y:Src) (N:Nat) (h:a8 l=some y) (hN:l.length<=N):aaW y N/\(SU y).length<=4*N+100:=by
 unfold a8 at h;split at h
 ·have hl:((l.drop 1).dropLast).length<=N:=by simp;omega
  rcases lL h with⟨_,rfl⟩|⟨v,rfl,_,hv⟩|⟨v,b,rfl,hb,_,hv⟩
  ·have e:=pJ ((l.drop 1).dropLast);refine⟨⟨by show(low _).length<=N;omega,Nat.zero_le _,Nat.zero_le _,Nat.zero_le _,by show(-2:Int)<= -1;decide,by show(-1:Int)<=_;decide,by show(0:Int)<=0;decide,by show(0:Int)<=512;decide⟩,?_⟩;show(39::low _++[39]).length<=_;simp only[List.length_cons,List.length_append,List.length_nil];omega
  ·refine⟨⟨by show v.length<=N;omega,Nat.zero_le _,Nat.zero_le _,Nat.zero_le _,by show(-2:Int)<= -1;decide,by show(-1:Int)<=_;decide,by show(0:Int)<=0;decide,by show(0:Int)<=512;decide⟩,?_⟩;show([39,110,111,110,99,101,45]++v++[39]).length<=_;simp only[List.length_cons,List.length_append,List.length_nil];omega
  ·refine⟨⟨by show v.length<=N;omega,Nat.zero_le _,Nat.zero_le _,Nat.zero_le _,by show(-2:Int)<= -1;decide,by show(-1:Int)<=_;decide,by show(0:Int)<=b;omega,by show b<=512;omega⟩,?_⟩;show([39,115,104,97]++Lib.itoa b++[45]++v++[39]).length<=_
   have:(Lib.itoa b).length=3:=by
    rcases hb with rfl|rfl|rfl
    ·rw[GV];rfl
    ·rw[GL];rfl
    ·rw[Ij];rfl
   simp only[List.length_cons,List.length_append,List.length_nil];omega
 ·split at h
  ·rw[<-Option.some.inj h]
   have e:(low (Lib.trimSuffix l [58])).length<=N:=by
    rw[pJ];unfold Lib.trimSuffix;split
    ·simp[List.length_take];omega
    ·exact hN
   refine⟨⟨Nat.zero_le _,e,Nat.zero_le _,Nat.zero_le _,by show(-2:Int)<= -1;decide,by show(-1:Int)<=_;decide,by show(0:Int)<=0;decide,by show(0:Int)<=512;decide⟩,?_⟩;show(low (Lib.trimSuffix l [58])++[58]).length<=_;simp only[List.length_append,List.length_cons,List.length_nil];omega
  ·obtain⟨sch,host,wild,port,path,rfl,lV,h1,h2,h3⟩:=lu h;have TY:=lV.fport;refine⟨⟨Nat.zero_le _,by show sch.length<=N;omega,by show host.length<=N;omega,by show path.length<=N;omega,by show(-2:Int)<=port;omega,by show port<=65535;omega,by show(0:Int)<=0;decide,by show(0:Int)<=512;decide⟩,?_⟩
   have ht:SU ⟨3,[],0,sch,host,wild,port,path⟩=(if sch=[]then[]else sch++[58,47,47])++((Iz wild host++xV port)++path):=by
    show vA _=_;unfold vA Iz xV;simp only[List.append_assoc]
   have e1:(if sch=[]then[]else sch++[58,47,47]).length<=sch.length+3:=by split<;>simp
   have e2:(Iz wild host).length<=host.length+2:=by
    unfold Iz;split
    ·split
     ·simp
     ·simp
    ·omega
   have e3:=JC TY;rw[ht];simp only[List.length_append];omega
end Lz
namespace Go.Proofs.YtibcmemcfjhgmaaGreatDoor
open Go.RowKit
def u8s (l:List UInt8):List Value:=l.map fun c=>Value.int .u8 c.toNat
theorem vE (l:List UInt8) (c:UInt8):u8s l++[.int .u8 (c.toNat:Int)]=u8s (l++[c]):=by simp[u8s]
theorem zj (l m:List UInt8):u8s l++u8s m=u8s (l++m):=by simp[u8s]
theorem Tryz.infoU8:(Tryz.prog.info? 5).map (fun i=>(i.zero,i.size,i.bytes))=some (some (.int .u8 0),1,1):=by kernel_rfl
theorem aJ (w:World) (v:Value) (T:TypeId) (j:Nat) (u:Value) (h:[v][j]? =some u):(w.alloc (.cells #[v] T)).cell? ((⟨w.heap.size,0,none⟩:Addr).add j)=some u:=by
 rw[bD,World.cell?_alloc_mark];have hj:j<1:=by have:=(List.getElem?_eq_some_iff.1 h).1;simpa using this
 obtain rfl:j=0:=by omega
 simpa using h
theorem Below.grown1 {B:Nat} {a w w':World} {o:Obj} {v:Value} {base e size n:Nat} {xs:List Value} (h:Below B a w) (ai:w.ownsRow base e size v n xs) (hg:(w.alloc o).grownBy w' v.ownBlock) (hB:B<=w.heap.size) (hb:B<=base):Below B a w':=
 (h.alloc hB o).grown hg (by simp;omega) (fun k hk=>Nat.le_trans hb ((ai.alloc o).lt k hk).1)
theorem LI (w:World):(convert 93 9 (.slice none 0 0)).run Tryz.prog w=.ok (.string ⟨#[]⟩) w:=by kernel_rfl
theorem kW {w:World} {base:Nat} {v:Value} {n:Nat} {l:List UInt8} (h:w.ownsRow base 5 1 v n (u8s l)):
  (convert 93 9 v).run Tryz.prog w=.ok (.string ⟨l.toArray⟩) w:=by
 have hl:l.length=n:=by have:=h.1;simpa [u8s]using this
 rcases h.2 with⟨rfl,h0⟩|⟨g,cap,dx,rfl,mu,hg,hn,tj,iF,gu⟩
 ·obtain rfl:l=[]:=List.length_eq_zero_iff.1 (by omega);exact LI w
 ·rw[<-hl];refine run_convert_bytes_back (P:=Tryz.prog) w 93 9 5 ⟨g,0,none⟩ cap l Tryz.underlying93 Tryz.underlying5 Tryz.underlying9 ?_;intro j hj;rw[bD]
  have h1:dx[j]? =some (.int .u8 (l[j].toNat:Int)):=by
   have h2:(u8s l)[j]? =some (.int .u8 (l[j].toNat:Int)):=by simp[u8s,hj]
   rw[<-gu,List.getElem?_take]at h2;split at h2
   ·simpa using h2
   ·cases h2
  simp[World.cell?,hg,h1]
def SlB (w:World) (v:Value) (l:List UInt8):Prop:=
 ∃a c,v=.slice a l.length c/\l.length<=9223372036854775807/\∀(j:Nat) (b:UInt8),l[j]? =some b->∃B off,a=some ⟨B,off,none⟩/\B<w.heap.size/\w.cell? ⟨B,off+j,none⟩=some (.int .u8 b.toNat)
theorem hX (a b:ByteArray):(a++b).data.toList=a.data.toList++b.data.toList:=by simp
end Go.Proofs.YtibcmemcfjhgmaaGreatDoor
namespace Lz
open Go
theorem Fk {l:List Nat} {k:Nat} (h:l[k]? =some 0):dS (l.drop k)=1+dS (l.drop (k+1)):=by
 have hk:=(List.getElem?_eq_some_iff.1 h).1;rw[List.drop_eq_getElem_cons hk];have:l[k]=0:=(List.getElem?_eq_some_iff.1 h).2;rw[this];unfold dS;rw[List.takeWhile_cons]
 simp;omega
theorem Jn {l:List Nat} {k x:Nat} (h:l[k]? =some x) (hx:x≠0):dS (l.drop k)=0:=by
 have hk:=(List.getElem?_eq_some_iff.1 h).1;rw[List.drop_eq_getElem_cons hk];have:l[k]=x:=(List.getElem?_eq_some_iff.1 h).2;rw[this];unfold dS;rw[List.takeWhile_cons]
 simp[hx]
theorem Dm {l:List Nat} {i:Nat} (f:Nat×Nat) (hi:i<l.length):gV i (l.drop i) f=gV (i+1) (l.drop (i+1)) (if max (f.2-f.1) 1<dS (l.drop i)then(i,i+dS (l.drop i))else f):=by
 rw[List.drop_eq_getElem_cons hi];rfl
end Lz
namespace Go.Proofs.YtibcmemcfjhgmaaGreatDoor
open Go.RowKit
def EJ (l:List Nat):Value:=.agg (l.map fun n:Nat=>Value.int .u16 (n:Int)).toArray
def X2 (l:List Nat) (w:World) (e:Ending) (w':World):Prop:=e=.returned (.tuple #[.int .i64 ((Lz.gV 0 l (0,0)).1:Nat),.int .i64 ((Lz.gV 0 l (0,0)).2:Nat)])/\Below w.heap.size w w'
theorem PU (l:List Nat) (h8:l.length=8) (w:World):Calls Tryz.prog 321 #[EJ l] w (X2 l w):=by
 unfold EJ;obtain⟨w1,me⟩:∃w1,w1=w.alloc (.cells (l.map fun n:Nat=>Value.int .u16 (n:Int)).toArray 326):=⟨_,rfl⟩
 have hc:∀j x,l[j]? =some x->w1.cell? ⟨w.heap.size,j,none⟩=some (.int .u16 (x:Nat)):=by
  intro j x hj;rw[me,World.cell?_alloc_mark]
  simp[hj]
 have av:Below w.heap.size w w1:=by rw[me];exact(Below.refl _ w).alloc (Nat.le_refl _) _
 have Hc:=Ih hc;have H8:=Ih h8;clear hc h8;go_enter Tryz.func321,Tryz.ntmps321
 go_wp2
 rw[<-me];clear me
 go_loop [2,3,6] (fun a b c=>∃i f t:Nat,i<=8/\f<=t/\t<=8/\a=.int .i64 f/\b=.int .i64 t/\c=.int .i64 i/\Hid (Lz.gV i (l.drop i) (f,t)=Lz.gV 0 l (0,0))) (fun _ _ c=>8-(intOf c).toNat)
 case atStart=>exact⟨0,0,0,by omega,by omega,by omega,rfl,rfl,rfl,Ih rfl⟩
 case round=>
  obtain⟨i,f,t,hi,Pm,ht,rfl,rfl,rfl,hR⟩:=hrel;by_cases aL:i<8
  ·have KX:Lz.dS (l.drop 8)=0:=by rw[List.drop_eq_nil_of_le (by rw[H8.out];exact Nat.le_refl _)];rfl
   have Hz8:=Ih KX;clear KX
   go_wp2
   go_loop [5] (fun c=>∃k:Nat,i<=k/\k<=8/\c=.int .i64 k/\Hid (Lz.dS (l.drop i)=(k-i)+Lz.dS (l.drop k))) (fun c=>8-(intOf c).toNat)
   case atStart=>exact⟨i,Nat.le_refl _,by omega,rfl,by show _=_;omega⟩
   case round=>
    obtain⟨k,hik,hk,rfl,hZ⟩:=hrel;by_cases Sq:k<8
    ·obtain⟨x,hx⟩:∃x,l[k]? =some x:=⟨_,List.getElem?_eq_getElem (by rw[H8.out];exact Sq)⟩;have DO:=Hc.out k x hx;by_cases kN:x=0
     ·have hxb:((x:Int)==0)=true:=by rw[kN];rfl
      have Xq:Hid (Lz.dS (l.drop i)=(k+1-i)+Lz.dS (l.drop (k+1))):=by
       show _=_;rw[kN]at hx;rw[hZ.out,Lz.Fk hx];omega
      clear hx kN
      go_wp2
      go_round
      case rel=>exact⟨k+1,by omega,by omega,by go_num,Xq⟩
      case measure=>simp[intOf];omega
     ·have hxb:((x:Int)==0)=false:=beq_eq_false_iff_ne.2 (by omega);have Xq:Hid (Lz.dS (l.drop i)=k-i):=by show _=_;rw[hZ.out,Lz.Jn hx kN];omega
      clear hx kN;have hst:=Lz.Dm (f,t) (show i<l.length by rw[H8.out];exact aL);rw[Xq.out,hR.out]at hst;have iA:=Ih hst;clear hst;obtain⟨d,hd⟩:∃d:Nat,d=k-i:=⟨_,rfl⟩;obtain⟨g,hg⟩:∃g:Nat,g=t-f:=⟨_,rfl⟩;have hd1:(k:Int)-i=d:=by omega
      have XE:(t:Int)-f=g:=by omega
      have Gq:i+(k-i)=k:=by omega
      by_cases hm:max (t-f) 1<k-i
      ·have hm':max (g:Int) 1<d:=by omega
       have HS:Hid (Lz.gV (i+1) (l.drop (i+1)) (i,k)=Lz.gV 0 l (0,0)):=by
        show _=_;have:=iA.out;rw[if_pos hm,Gq]at this;exact this.symm
       clear hd hg hm Gq
       go_wp2
       go_round
       case rel=>exact⟨i+1,i,k,by omega,hik,hk,rfl,rfl,by go_num,HS⟩
       case measure=>simp[intOf];omega
      ·have hm':¬max (g:Int) 1<d:=by omega
       have HS:Hid (Lz.gV (i+1) (l.drop (i+1)) (f,t)=Lz.gV 0 l (0,0)):=by
        show _=_;have:=iA.out;rw[if_neg hm]at this;exact this.symm
       clear hd hg hm Gq
       go_wp2
       go_round
       case rel=>exact⟨i+1,f,t,by omega,Pm,ht,rfl,rfl,by go_num,HS⟩
       case measure=>simp[intOf];omega
    ·have Xq:Hid (Lz.dS (l.drop i)=k-i):=by
      show _=_;have:k=8:=by omega
      have hz:=hZ.out;rw[this,Hz8.out]at hz;omega
     have hst:=Lz.Dm (f,t) (show i<l.length by rw[H8.out];exact aL);rw[Xq.out,hR.out]at hst;have iA:=Ih hst;clear hst;obtain⟨d,hd⟩:∃d:Nat,d=k-i:=⟨_,rfl⟩;obtain⟨g,hg⟩:∃g:Nat,g=t-f:=⟨_,rfl⟩;have hd1:(k:Int)-i=d:=by omega
     have XE:(t:Int)-f=g:=by omega
     have Gq:i+(k-i)=k:=by omega
     by_cases hm:max (t-f) 1<k-i
     ·have hm':max (g:Int) 1<d:=by omega
      have HS:Hid (Lz.gV (i+1) (l.drop (i+1)) (i,k)=Lz.gV 0 l (0,0)):=by
       show _=_;have:=iA.out;rw[if_pos hm,Gq]at this;exact this.symm
      clear hd hg hm Gq
      go_wp2
      go_round
      case rel=>exact⟨i+1,i,k,by omega,hik,hk,rfl,rfl,by go_num,HS⟩
      case measure=>simp[intOf];omega
     ·have hm':¬max (g:Int) 1<d:=by omega
      have HS:Hid (Lz.gV (i+1) (l.drop (i+1)) (f,t)=Lz.gV 0 l (0,0)):=by
       show _=_;have:=iA.out;rw[if_neg hm]at this;exact this.symm
      clear hd hg hm Gq
      go_wp2
      go_round
      case rel=>exact⟨i+1,f,t,by omega,Pm,ht,rfl,rfl,by go_num,HS⟩
      case measure=>simp[intOf];omega
  ·have So:i=8:=by omega
   have nW:Hid (Lz.gV 0 l (0,0)=(f,t)):=by
    show _=_;rw[<-hR.out,So,List.drop_eq_nil_of_le (by rw[H8.out];exact Nat.le_refl _)];rfl
   clear So
   go_wp2
   go_ret2
   exact⟨by rw[nW.out];rfl,av⟩
end Go.Proofs.YtibcmemcfjhgmaaGreatDoor
namespace Go.Proofs
open Go.Shelf
open Go.RowKit in
theorem Tryz.strings_Join_none (a:Option Addr) (c:Nat) (sep:ByteArray) (w:World):
 Calls Tryz.prog 250 #[.slice a 0 c,.string sep] w fun e w'=>e=.returned (.string ⟨#[]⟩)/\w'=w:=Any.strings_Join_none Tryz.lays156 Tryz.Builder_Extra_156 a c sep w
def Tryz.lays119_ren:Go.Shelf.Ren:=⟨fun|119=>266|n=>n,fun|21=>21|4=>4|n=>n,fun|n=>n⟩
theorem Tryz.lays119:Go.Proofs.Lays.n119 Tryz.prog Tryz.lays119_ren:=by repeat' first |kernel_rfl|(intro w;rfl)|(intro w;kernel_rfl)|decide|constructor
theorem Tryz.utf8_ValidRune (r:Int) (w:World):
 Calls Tryz.prog 266 #[.int .i32 r] w fun e w'=>e=.returned (.bool (Lib.validRune r))/\w'=w:=Any.utf8_ValidRune Tryz.lays119 r w
end Go.Proofs
namespace Lz
open Go
def aH (x n:UInt32):UInt32:=(x<<<(32-n))||| (x>>>n)
def il (b:Bs) (i:Nat):UInt32:=(b.getD i 0).toUInt32
def Zk (b:Bs) (i:Nat):UInt32:=(((il b (4*i)<<<24)||| (il b (4*i+1)<<<16))||| (il b (4*i+2)<<<8))||| il b (4*i+3)
def Uw (x:UInt32):UInt32:=(aH x 7 ^^^ aH x 18) ^^^ (x>>>3)
def Y1 (y:UInt32):UInt32:=(aH y 17 ^^^ aH y 19) ^^^ (y>>>10)
def bu (b:Bs):Nat->List UInt32
 | 0=>[]
 | i+1=>bu b i++[if i<16 then Zk b i else((((bu b i).getD (i-16) 0+(bu b i).getD (i-7) 0)+Uw ((bu b i).getD (i-15) 0))+Y1 ((bu b i).getD (i-2) 0))]
theorem bL (b:Bs):∀i,(bu b i).length=i
 | 0=>rfl
 | i+1=>by rw[bu,List.length_append,bL b i];rfl
structure St8 (α:Type) where
 a:α
 b:α
 c:α
 d:α
 e:α
 f:α
 g:α
 z:α
def St8.list {α:Type} (s:St8 α):List α:=[s.a,s.b,s.c,s.d,s.e,s.f,s.g,s.z]
def Ii (s:St8 UInt32) (k w:UInt32):UInt32:=(((s.z+((aH s.e 6 ^^^ aH s.e 11) ^^^ aH s.e 25))+((s.e&&& s.f) ^^^ ((~~~s.e)&&& s.g)))+k)+w
def NV (s:St8 UInt32):UInt32:=((aH s.a 2 ^^^ aH s.a 13) ^^^ aH s.a 22)+(((s.a&&& s.b) ^^^ (s.a&&& s.c)) ^^^ (s.b&&& s.c))
def SS (s:St8 UInt32) (k w:UInt32):St8 UInt32:=⟨Ii s k w+NV s,s.a,s.b,s.c,s.d+Ii s k w,s.e,s.f,s.g⟩
def eT (aP:List UInt32) (b:Bs) (h:St8 UInt32):Nat->St8 UInt32
 | 0=>h
 | i+1=>SS (eT aP b h i) (aP.getD i 0) ((bu b 64).getD i 0)
def xc {α:Type} [Add α] (x y:St8 α):St8 α:=⟨x.a+y.a,x.b+y.b,x.c+y.c,x.d+y.d,x.e+y.e,x.f+y.f,x.g+y.g,x.z+y.z⟩
def fA (aP:List UInt32) (h:St8 UInt32) (b:Bs):St8 UInt32:=xc h (eT aP b h 64)
def bh {α:Type} (f:α->Bs->α) (size:Nat):Nat->α->Bs->α
 | 0,h,_=>h
 | n+1,h,l=>bh f size n (f h (l.take size)) (l.drop size)
def wX (n:Nat):Bs:=(List.range 8).map fun i=>UInt8.ofNat (n*8 / 2^(56-8*i))
def lH (n:Nat):Bs:=(128::List.replicate (63-(n+8)%64) 0)++wX n
def ik (x:UInt32):Bs:=[(x>>>24).toUInt8,(x>>>16).toUInt8,(x>>>8).toUInt8,x.toUInt8]
def xN (h:St8 UInt32):Bs:=h.list.flatMap ik
def iJ (aP:List UInt32) (h0:St8 UInt32) (s:Bs):Bs:=
 xN (bh (fA aP) 64 ((s.drop (s.length / 64*64)++lH s.length).length / 64) (bh (fA aP) 64 (s.length / 64) h0 s) (s.drop (s.length / 64*64)++lH s.length))
theorem yj (h:St8 UInt32):(xN h).length=32:=rfl
theorem BH (n:Nat):(lH n).length=72-(n+8)%64:=by
 unfold lH wX
 simp
 omega
def aU (x n:UInt64):UInt64:=(x<<<(64-n))||| (x>>>n)
def cm (x a b c:UInt64) (Xc:Bool):UInt64:=(aU x a ^^^ aU x b) ^^^ (if Xc then aU x c else x>>>c)
def gG (b:Bs) (i:Nat):Nat->UInt64
 | 0=>0
 | k+1=>(gG b i k<<<8)||| (b.getD (8*i+k) 0).toUInt64
def If (s:St8 UInt64) (k w:UInt64):UInt64:=(((s.z+cm s.e 14 18 41 true)+((s.e&&& s.f)||| (s.g&&& ~~~s.e)))+k)+w
def LH (s:St8 UInt64):UInt64:=cm s.a 28 34 39 true+((s.a&&& s.b)||| (s.c&&& (s.a||| s.b)))
def SW (s:St8 UInt64) (k w:UInt64):St8 UInt64:=⟨If s k w+LH s,s.a,s.b,s.c,s.d+If s k w,s.e,s.f,s.g⟩
def bt (b:Bs):Nat->List UInt64
 | 0=>List.replicate 16 0
 | i+1=>(bt b i).set (i%16) (if i<16 then gG b i 8 else(bt b i).getD (i%16) 0+((cm ((bt b i).getD ((i+1)%16) 0) 1 8 7 false+(bt b i).getD ((i+9)%16) 0)+cm ((bt b i).getD ((i+14)%16) 0) 19 61 6 false))
theorem fJ (b:Bs):∀i,(bt b i).length=16
 | 0=>rfl
 | i+1=>by rw[bt,List.length_set,fJ b i]
def i7 (aP:List UInt64) (b:Bs) (h:St8 UInt64):Nat->St8 UInt64
 | 0=>h
 | i+1=>SW (i7 aP b h i) (aP.getD i 0) ((bt b (i+1)).getD (i%16) 0)
def kH (aP:List UInt64) (h:St8 UInt64) (b:Bs):St8 UInt64:=xc h (i7 aP b h 80)
def mB (n:Nat):Bs:=128::List.replicate ((240-(n+1)%128)%128+8) 0++wX n
def iZ (x:UInt64):Bs:=(List.range 8).map fun i=>(x>>>(UInt64.ofNat (56-8*i))).toUInt8
def BA (h:St8 UInt64):Bs:=h.list.flatMap iZ
def eJ (aP:List UInt64) (h0:St8 UInt64) (s:Bs):Bs:=BA (bh (kH aP) 128 ((s++mB s.length).length / 128) h0 (s++mB s.length))
theorem qM (h:St8 UInt64):(BA h).length=64:=rfl
end Lz
namespace Lz
def bO:List Nat->Nat
 | []=>0
 | d::r=>d+65536*bO r
def jO (l:List Nat):Prop:=∀d∈l,d<65536
theorem mY:∀(l:List Nat) (j d:Nat),j<l.length->bO (l.set j d)+l.getD j 0*65536^j=bO l+d*65536^j
 | [],j,d,h=>by simp at h
 | a::r,0,d,_=>by simp[bO];omega
 | a::r,j+1,d,h=>by
   have:=mY r j d (by simpa using h);simp only[List.set_cons_succ,bO,List.getD_cons_succ,Nat.pow_succ];generalize bO (r.set j d)=x at this⊢;generalize bO r=y at this⊢;generalize 65536^j=p at this⊢;generalize r.getD j 0=g at this⊢;have h1:g*(p*65536)=g*p*65536:=(Nat.mul_assoc _ _ _).symm;have h2:d*(p*65536)=d*p*65536:=(Nat.mul_assoc _ _ _).symm;rw[h1,h2];generalize g*p=gp at this⊢;generalize d*p=dp at this⊢;omega
theorem jW:∀(l:List Nat) (k:Nat),k<l.length->bO (l.take (k+1))=bO (l.take k)+l.getD k 0*65536^k
 | [],k,h=>by simp at h
 | a::r,0,_=>by simp[bO]
 | a::r,k+1,h=>by
   have:=jW r k (by simpa using h);simp only[List.take_succ_cons,bO,List.getD_cons_succ,Nat.pow_succ]at this⊢;rw[this,Nat.mul_add];generalize r.getD k 0=g;generalize 65536^k=p;have:g*(p*65536)=65536*(g*p):=by rw[<-Nat.mul_assoc,Nat.mul_comm]
   omega
theorem j5:∀n,bO (List.replicate n 0)=0
 | 0=>rfl
 | n+1=>by rw[List.replicate_succ,bO,j5 n]
theorem jO.set {l:List Nat} (h:jO l) {j d:Nat} (hd:d<65536):jO (l.set j d):=fun x hx=>by
 rcases List.mem_or_eq_of_mem_set hx with h1|rfl
 ·exact h x h1
 ·exact hd
theorem jO.get {l:List Nat} (h:jO l) (j:Nat):l.getD j 0<65536:=by
 rw[List.getD_eq_getElem?_getD];cases hj:l[j]? with
 | none=>simp
 | some d=>exact h d (List.mem_of_getElem? hj)
theorem EZ {o:List Nat} {T a b c j:Nat} (hj:j<o.length) (h:bO o+c*65536^j=T):
  bO (o.set j ((o.getD j 0+a*b+c)%65536))+(o.getD j 0+a*b+c) / 65536*65536^(j+1)=T+a*b*65536^j:=by
 have h1:=mY o j ((o.getD j 0+a*b+c)%65536) hj;generalize hs:bO (o.set j ((o.getD j 0+a*b+c)%65536))=x at h1⊢;clear hs;generalize a*b=m at h1⊢;generalize o.getD j 0=g at h1⊢;have hn:=Nat.div_add_mod (g+m+c) 65536;rw[Nat.pow_succ];generalize (g+m+c)%65536=r at h1 hn⊢;generalize (g+m+c) / 65536=q at hn⊢;generalize 65536^j=p at h h1⊢;have e1:q*(p*65536)=65536*q*p:=by rw[Nat.mul_comm p 65536,<-Nat.mul_assoc,Nat.mul_comm q 65536]
 have e2:(65536*q+r)*p=(g+m+c)*p:=by rw[hn]
 rw[Nat.add_mul,Nat.add_mul,Nat.add_mul]at e2;rw[e1];generalize 65536*q*p=A at e2⊢;generalize r*p=R at h1 e2;generalize g*p=Gp at h1 e2;generalize m*p=M at e2⊢;generalize c*p=Cp at h e2;omega
theorem DX {o:List Nat} {T c j:Nat} (hj:j<o.length) (h0:o.getD j 0=0) (h:bO o+c*65536^j=T):bO (o.set j c)=T:=by
 have h1:=mY o j c hj;rw[h0]at h1;omega
theorem jU:∀(a b:List Nat),(∀j,a.getD j 0=b.getD j 0)->bO a=bO b
 | [],[],_=>rfl
 | [],y::s,h=>by
   have h0:=h 0;have:=jU [] s (fun j=>by simpa using h (j+1))
   simp[bO]at h0 this⊢;omega
 | x::r,[],h=>by
   have h0:=h 0;have:=jU r [] (fun j=>by simpa using h (j+1))
   simp[bO]at h0 this⊢;omega
 | x::r,y::s,h=>by
   have h0:=h 0;have:=jU r s (fun j=>by simpa using h (j+1))
   simp at h0
   rw[bO,bO,h0,this]
theorem nG (a:List Nat):bO a=a.getD 0 0+65536*bO a.tail:=by
 cases a<;>simp[bO]
theorem dz (a:List Nat) (j:Nat):a.tail.getD j 0=a.getD (j+1) 0:=by cases a<;>simp
theorem jO.tail {a:List Nat} (h:jO a):jO a.tail:=fun d hd=>h d (List.mem_of_mem_tail hd)
theorem tV:∀(i:Nat) (a b:List Nat),jO a->jO b->(∀j,i<j->a.getD j 0=b.getD j 0)->a.getD i 0≠b.getD i 0->(bO b<bO a↔b.getD i 0<a.getD i 0)
 | 0,a,b,_,_,h,du=>by
   have:=jU a.tail b.tail (fun j=>by rw[dz,dz];exact h (j+1) (by omega));rw[nG a,nG b,this];omega
 | i+1,a,b,ha,hb,h,du=>by
   have h1:=tV i a.tail b.tail ha.tail hb.tail (fun j hj=>by rw[dz,dz];exact h (j+1) (by omega)) (by rw[dz,dz];exact du);rw[dz,dz]at h1;rw[<-h1,nG a,nG b];have:=ha.get 0;have:=hb.get 0
   have acU:bO a.tail≠bO b.tail:=by
    intro e;rw[e]at h1;have h2:=tV i b.tail a.tail hb.tail ha.tail (fun j hj=>by rw[dz,dz];exact(h (j+1) (by omega)).symm) (by rw[dz,dz];exact fun e=>du e.symm);rw[dz,dz,e]at h2;omega
   omega
def oX (m d:Nat):Nat->Nat->Nat
 | 0,x=>x
 | n+1,x=>oX m d n (if m<(x+2^n)^d then x else x+2^n)
def lZ (p d:Nat):Nat:=oX (p*2^(64*d)) d 69 0%2^64
theorem El {X q r:Nat} (hr:r<16) (h:X%2^(16*q+r+1)=0):X / 65536^q%65536+2^r<65536:=by
 obtain⟨c,rfl⟩:=Nat.dvd_of_mod_eq_zero h;have e1:(65536:Nat)^q=2^(16*q):=by rw[Nat.pow_mul]
 have e2:2^(16*q+r+1)*c=2^(16*q)*(2^(r+1)*c):=by rw[<-Nat.mul_assoc,<-Nat.pow_add,Nat.add_assoc]
 have e3:(65536:Nat)=2^(r+1)*2^(15-r):=by rw[<-Nat.pow_add,show r+1+(15-r)=16 by omega]
 rw[e1,e2,Nat.mul_div_cancel_left _ (Nat.pow_pos (by omega))]
 have e4:2^(r+1)*c%65536=2^(r+1)*(c%2^(15-r)):=by
  conv=>lhs;rw[e3]
  exact Nat.mul_mod_mul_left _ _ _
 rw[e4];have h1:=Nat.mod_lt c (show 2^(15-r)>0 from Nat.pow_pos (by omega));generalize c%2^(15-r)=z at h1;have h2:2^(r+1)*(z+1)<=2^(r+1)*2^(15-r):=Nat.mul_le_mul_left _ h1;rw[<-e3,Nat.mul_add,Nat.mul_one]at h2;have h3:2^(r+1)=2*2^r:=by rw[Nat.pow_succ,Nat.mul_comm]
 have h4:0<2^r:=Nat.pow_pos (by omega);generalize 2^(r+1)*z=A at h2⊢;omega
theorem vq:∀(l:List Nat),jO l->∀q,bO l / 65536^q%65536=l.getD q 0
 | [],_,q=>by simp[bO]
 | a::r,h,0=>by
   have:=h a List.mem_cons_self
   simp[bO];omega
 | a::r,h,q+1=>by
   have ih:=vq r (fun d hd=>h d (List.mem_cons_of_mem _ hd)) q;have:=h a List.mem_cons_self;rw[List.getD_cons_succ,<-ih,bO,Nat.pow_succ,Nat.mul_comm (65536^q),<-Nat.div_div_eq_div_mul,show(a+65536*bO r) / 65536=bO r by omega]
def Rp (l:List Nat) (n:Nat):Bool:=l.all fun p=>n%p != 0
def bT:Nat->List Nat
 | 0=>[]
 | n+1=>if n<2 then bT n else if Rp (bT n) n then bT n++[n]else bT n
def a4:List Nat:=[2,3,5,7,11,13,17,19,23,29,31,37,41,43,47,53,59,61,67,71,73,79,83,89,97,101,103,107,109,113,127,131,137,139,149,151,157,163,167,173,179,181,191,193,197,199,211,223,227,229,233,239,241,251,257,263,269,271,277,281,283,293,307,311,313,317,331,337,347,349,353,359,367,373,379,383,389,397,401,409]
theorem JL (n:Nat):bT n<+:bT (n+1):=by
 show bT n<+:if n<2 then bT n else if Rp (bT n) n then bT n++[n]else bT n;split
 ·exact List.prefix_rfl
 ·split
  ·exact List.prefix_append _ _
  ·exact List.prefix_rfl
theorem vC:∀{m n:Nat},m<=n->bT m<+:bT n
 | m,0,h=>by
   obtain rfl:m=0:=by omega
   exact List.prefix_rfl
 | m,n+1,h=>by
   rcases Nat.lt_or_ge m (n+1)with h1|h1
   ·exact(vC (by omega)).trans (JL n)
   ·obtain rfl:m=n+1:=by omega
    exact List.prefix_rfl
theorem yP:bT 410=a4:=by decide +kernel
theorem Ku {n many:Nat} (hm:many<=80) (h:(bT n).length<many):n<410:=by
 rcases Nat.lt_or_ge n 410 with h1|h1
 ·exact h1
 ·have:=(vC h1).length_le;rw[yP]at this;have:a4.length=80:=rfl;omega
theorem vu {n:Nat} (h:n<=410):bT n=a4.take (bT n).length:=by
 have:=vC h;rw[yP]at this;exact(List.prefix_iff_eq_take.1 this)
end Lz
