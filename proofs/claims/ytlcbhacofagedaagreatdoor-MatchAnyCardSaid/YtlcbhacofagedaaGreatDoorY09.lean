/-
  Plain laws: what is parsed, told as text, is parsed to the same; the bounds of what is parsed. No program in sight.
-/
import Derived.Test.YtlcbhacofagedaaGreatDoorY01
import Derived.Test.YtlcbhacofagedaaGreatDoorY02
import Derived.Shelf.Strings.OnBuilder
import Derived.Shelf.Strings.Trim
import Derived.Shelf.Small.Wraps
import Derived.Shelf.Strings.BuilderK
import Derived.Shelf.Strconv.Itoa4
import Derived.Shelf.Strconv.ErrVarAll
import Derived.Shelf.Pu.ErrVarParseUint
import Derived.Shelf.Strings.Shaped
import Derived.Shelf.GgClosure.StringsRunes
import Derived.Shelf.Strings.SplitShaped
import Derived.Shelf.Strings.IndexAnyAll
import Derived.Shelf.Strings.FuncGrows
import Derived.Shelf.Slices.Turned
import Derived.Test.YtlcbhacofagedaaGreatDoorProg
set_option maxHeartbeats 2000000
set_option maxRecDepth 100000
namespace Go.Proofs.YtlcbhacofagedaaGreatDoor
open Go.RowKit
theorem so:(Tryz.prog.info? 88).map (·.size)=some 2:=by kernel_rfl
theorem BG:liesAt Tryz.prog Tryz.prog.depth 88 (2 / Tryz.prog.cellsOf 88) 0 88 1=true:=by kernel_rfl
theorem pz:(Tryz.prog.info? 5).map (fun i=>(i.zero,i.size,i.bytes))=some (some (.int .u8 0),1,1):=by kernel_rfl
theorem vg (b:Nat) (w:World) (h0:w.cell? ⟨b,0,none⟩=some (.pointer (some ⟨b,0,none⟩))):
  Calls Tryz.prog 139 #[.pointer (some ⟨b,0,none⟩)] w fun e w'=>e=.returned (.tuple #[])/\w'=w:=by
 obtain⟨j,hj,_⟩:=Option.map_eq_some_iff.1 so;go_enter Tryz.func139,Tryz.ntmps139
 go_wp2
 rw[Lib.run_neq_ptr_same w _ Tryz.underlying86 hj]
 go_wp2
 go_end0
 exact⟨rfl,rfl⟩
theorem sP (b:Nat) (w:World) (h0:w.cell? ⟨b,0,none⟩=some (.pointer none)) (Az:w.shape? b=some (88,2)) (hfz:w.frozen? ⟨b,0,none⟩=false):
  Calls Tryz.prog 139 #[.pointer (some ⟨b,0,none⟩)] w fun e w'=>e=.returned (.tuple #[])/\w'=w.setCell ⟨b,0,none⟩ (.pointer (some ⟨b,0,none⟩)):=by
 obtain⟨j,hj,hjs⟩:=Option.map_eq_some_iff.1 so;go_enter Tryz.func139,Tryz.ntmps139
 go_wp2
 rw[Lib.run_to_unsafe w ⟨b,0,none⟩ Tryz.underlying86 Tryz.underlying106 hj (by rw[hjs];decide) Az (Nat.zero_lt_succ 1)];simp only[Result.andThen];rw[Oper.upon_value]
 go_wp2
 rw[run_callFunc_extern Tryz.func188 (by kernel_rfl) (by kernel_rfl) (by kernel_rfl) (e:=Extern.AbiNoEscape.same) (by kernel_rfl)];rw[Lib.run_noEscape];simp only[Result.andThen];rw[Oper.upon_value]
 go_wp2
 rw[Lib.run_from_unsafe w ⟨b,0,none⟩ Tryz.underlying106 Tryz.underlying86 hj Az BG];simp only[Result.andThen];rw[Oper.upon_value]
 go_wp2
 go_end0
 exact⟨rfl,rfl⟩
theorem nQ (B b:Nat) (bs:List Value) (w:World) (h:Lib.IsBuilder 88 5 B b bs w):
  Calls Tryz.prog 139 #[.pointer (some ⟨b,0,none⟩)] w fun e w'=>e=.returned (.tuple #[])/\(Lib.BuilderAt 88 5 B b (.pointer (some ⟨b,0,none⟩)) bs w'/\Below B w w'):=by
 rcases h with h|h
 ·refine(sP b w h.cell0 h.shape h.frozen0).mono ?_;rintro e w' ⟨rfl,rfl⟩;exact⟨rfl,h.used _,(Below.refl B w).setCell (p:=⟨b,0,none⟩) h.1 _⟩
 ·refine(vg b w h.cell0).mono ?_;rintro e w' ⟨rfl,rfl⟩;exact⟨rfl,h,Below.refl B _⟩
def LL (B b:Nat) (bs:List Value) (v:Value) (w:World) (e:Ending) (w':World):Prop:=
 e=.returned v/\Lib.IsBuilder 88 5 B b bs w'/\Below B w w'
theorem ke (B b:Nat) (bs:List Value) (c:Int) (w:World) (h:Lib.IsBuilder 88 5 B b bs w) (bv:bs.length+1<=140737488355328) (hBw:B<=w.heap.size):
  Calls Tryz.prog 138 #[.pointer (some ⟨b,0,none⟩),.int .u8 c] w (LL B b (bs++[.int .u8 c]) .nilIface w):=by
 obtain⟨i0,hi,ig,fs,fk⟩:=info_parts pz;go_enter Tryz.func138,Tryz.ntmps138
 go_wp2_with (go_at_call 139;refine(nQ B b bs _ h).mono ?_)
 rintro e w1 ⟨rfl,h1,aC⟩;obtain⟨hB,v,vU,aQ,dG⟩:=h1;have c0:w1.cell? ⟨b,0,none⟩=some (.pointer (some ⟨b,0,none⟩)):=by rw[Lib.cell_of_heap vU];rfl
 have c1:w1.cell? ⟨b,1,none⟩=some v:=by rw[Lib.cell_of_heap vU];rfl
 go_wp2_with (at_builtin;refine wpList_append_own _ rfl _ _ 63 rfl B 5 i0 (.int .u8 0) 1 1 Tryz.underlying63 hi ig fs fk rfl (by decide) _ _ _ rfl (aQ.alloc _) ⟨w1.heap.size,0,none⟩ 1 1 [.int .u8 c] rfl rfl ?c1 ?c2 ?c3 ?c4 ?c5 ?_)
 case c1=>
  intro j u hj
  match j,hj with
  | 0,hj=>simp at hj;subst hj;simp[Addr.add]
 case c2=>intro u hu;simp at hu;subst hu;rfl
 case c3=>unfold maxLen;omega
 case c4=>omega
 case c5=>have:=aC.size;simp;omega
 intro v' w2 aE aV _
 have aN:b<w1.heap.size:=by
  rcases Nat.lt_or_ge b w1.heap.size with h'|h'
  ·exact h'
  ·simp[Array.getElem?_eq_none h']at vU
 have aU:w2.heap[b]? =some (.cells #[.pointer (some ⟨b,0,none⟩),v] 88 (0,0)):=by
  rw[aV.block b (by simp;omega) (fun e=>dG e.symm),Lib.alloc_old w1 _ b aN];exact vU
 have d0:w2.cell? ⟨b,0,none⟩=some (.pointer (some ⟨b,0,none⟩)):=by rw[Lib.cell_of_heap aU];rfl
 have d1:w2.cell? ⟨b,1,none⟩=some v:=by rw[Lib.cell_of_heap aU];rfl
 have f1:w2.frozen? ⟨b,1,none⟩=false:=Lib.frozen_of_heap aU 1
 obtain⟨g,cap,rfl⟩:∃g cap,v'=.slice (some ⟨g,0,none⟩) (bs.length+1) cap:=by
  rcases aE.2 with⟨_,h0⟩|⟨g,cap,ir,hv,_⟩
  ·omega
  ·exact⟨g,cap,hv⟩
 go_wp2
 go_ret;refine⟨rfl,Or.inr ?_,?_⟩
 ·exact Lib.BuilderAt.put (T:=88) (e:=5) hB aU (bs':=bs++[.int .u8 c]) (by simpa using aE) (by decide)
 ·exact((aC.alloc (by have:=aC.size;omega) _).grown aV (by have:=aC.size;simp;omega) (fun k hk=>(aQ.lt k hk).1)).setCell (p:=⟨b,1,none⟩) hB _
theorem sK (B b:Nat) (bs:List Value) (s:ByteArray) (w:World) (h:Lib.IsBuilder 88 5 B b bs w) (bv:bs.length+s.size<=140737488355328) (hBw:B<=w.heap.size):
  Calls Tryz.prog 84 #[.pointer (some ⟨b,0,none⟩),.string s] w (LL B b (bs++Lib.strCells s) (.tuple #[.int .i64 s.size,.nilIface]) w):=by
 obtain⟨i0,hi,ig,fs,fk⟩:=info_parts pz;go_enter Tryz.func84,Tryz.ntmps84
 go_wp2_with (go_at_call 139;refine(nQ B b bs _ h).mono ?_)
 rintro e w1 ⟨rfl,h1,aC⟩;obtain⟨hB,v,vU,aQ,dG⟩:=h1;have c0:w1.cell? ⟨b,0,none⟩=some (.pointer (some ⟨b,0,none⟩)):=by rw[Lib.cell_of_heap vU];rfl
 have c1:w1.cell? ⟨b,1,none⟩=some v:=by rw[Lib.cell_of_heap vU];rfl
 go_wp2_with (at_builtin;refine Lib.wpList_append_own_string _ rfl _ _ 63 9 rfl B 5 i0 Tryz.underlying63 Tryz.underlying9 hi ig fs fk _ _ _ rfl aQ s rfl ?c3 ?c4 ?c5 ?_)
 case c3=>unfold maxLen;omega
 case c4=>omega
 case c5=>have:=aC.size;omega
 intro v' w2 aE aV _
 have aN:b<w1.heap.size:=by
  rcases Nat.lt_or_ge b w1.heap.size with h'|h'
  ·exact h'
  ·simp[Array.getElem?_eq_none h']at vU
 have aU:w2.heap[b]? =some (.cells #[.pointer (some ⟨b,0,none⟩),v] 88 (0,0)):=by
  rw[aV.block b aN (fun e=>dG e.symm)];exact vU
 have d0:w2.cell? ⟨b,0,none⟩=some (.pointer (some ⟨b,0,none⟩)):=by rw[Lib.cell_of_heap aU];rfl
 have d1:w2.cell? ⟨b,1,none⟩=some v:=by rw[Lib.cell_of_heap aU];rfl
 have f1:w2.frozen? ⟨b,1,none⟩=false:=Lib.frozen_of_heap aU 1
 obtain⟨ao,n',cap,rfl⟩:∃ao n' cap,v'=.slice ao n' cap:=by
  rcases aE.2 with⟨hv,_⟩|⟨g,cap,ir,hv,_⟩
  ·exact⟨_,_,_,hv⟩
  ·exact⟨_,_,_,hv⟩
 go_wp2
 go_ret2
 refine⟨rfl,Or.inr ?_,?_⟩
 ·exact Lib.BuilderAt.put (T:=88) (e:=5) hB aU (bs':=bs++Lib.strCells s) (by simpa [Lib.strCells_length]using aE) (by decide)
 ·exact(aC.grown aV (by have:=aC.size;omega) (fun k hk=>(aQ.lt k hk).1)).setCell (p:=⟨b,1,none⟩) hB _
end Go.Proofs.YtlcbhacofagedaaGreatDoor
namespace Lz
open Go
def dx (c:UInt8):Option Nat:=if aA c then some (c.toNat-48)else if 97<=(c||| 32).toNat/\(c||| 32).toNat<=102 then some ((c||| 32).toNat-87)else none
def bE (base:Nat):Nat->Bs->Option Nat
 | n,[]=>some n
 | n,c::r=>match dx c with
   | none=>none
   | some d=>if base<=d then none else bE base (min (n*base+d) 1099511627776) r
def fv (s:Bs):Option Nat:=
 if Lib.hasPrefix (low s) [48,120]then bE 16 0 (48::(low s).drop 2)
 else if 1<s.length/\s[0]? =some 48 then bE 8 0 (s.drop 1)
 else if s=[]then none else bE 10 0 s
def br (s:Bs):List Bs:=if 1<(ag 46 s).length/\(ag 46 s).getLast? =some []then(ag 46 s).dropLast else ag 46 s
def bh (s:Bs):Bool:=(dj aA ((br s).getLastD []))||(fv ((br s).getLastD [])).isSome
def dI (n:Nat):List Bs->Option (List Nat)
 | []=>some []
 | s::r=>match fv s with
   | none=>none
   | some v=>
     let many:=if r=[]then 5-n else 1
     if 0<v / 256^many then none else(dI n r).map fun t=>((List.range many).reverse.map fun k=>v / 256^k%256)++t
def dv (sep:Bs):List Bs->Bs
 | []=>[]
 | [x]=>x
 | x::y::r=>x++sep++dv sep (y::r)
def cu (b:List Nat):Bs:=dv [46] (b.map fun x=>Lib.decDigits x)
def dJ (l:List Bs):Option Bs:=if 4<l.length then none else(dI l.length l).map cu
def gz (x:Bs):Option Nat:=match Lib.parseUintB 8 x with
 | .ok n=>if Lib.decDigits n=x then some n else none
 | _=>none
def fS (x:Bs):Option (List Nat):=match (ag 46 x).mapM gz with
 | some l=>if l.length=4 then some l else none
 | none=>none
def eD (x:Bs):Option Nat:=if x=[]\/4<x.length then none else x.foldlM (fun n c=>(dx c).map (n*16+·)) 0
def gL (last:Bool):List Bs->Option (List Nat)
 | []=>some []
 | x::r=>if last&&r.isEmpty&&x.contains 46 then(fS x).map fun b=>[b.getD 0 0*256+b.getD 1 0,b.getD 2 0*256+b.getD 3 0]
   else match eD x with
    | none=>none
    | some n=>(gL last r).map (n::·)
def eM (s:Bs) (last:Bool):Option (List Nat):=if s=[]then some []else gL last (ag 58 s)
def iI (s:Bs):Option (List Nat):=
 let c:=Lib.cut s [58,58]
 if(!c.2.2&&s.isEmpty)||Lib.hasPrefix c.2.1 [58]then none
 else match eM c.1 (!c.2.2),eM c.2.1 true with
  | some x,some y=>if c.2.2 then(if 8<=x.length+y.length then none else some (x++List.replicate (8-x.length-y.length) 0++y))else(if x.length+y.length=8 then some (x++y)else none)
  | _,_=>none
def bo (l:List Nat):Nat:=(l.takeWhile (·==0)).length
def fT:Nat->List Nat->Nat×Nat->Nat×Nat
 | _,[],f=>f
 | i,x::r,f=>fT (i+1) r (if max (f.2-f.1) 1<bo (x::r)then(i,i+bo (x::r))else f)
def fd (n:Nat):Bs:=(if h:n<16 then[]else fd (n / 16))++[if n%16<10 then UInt8.ofNat (48+n%16)else UInt8.ofNat (87+n%16)]
def bj (l:List Nat):Bs:=dv [58] (l.map fd)
def ef (a:List Nat):Bs:=if(fT 0 a (0,0)).1=(fT 0 a (0,0)).2 then bj a else bj (a.take (fT 0 a (0,0)).1)++[58,58]++bj (a.drop (fT 0 a (0,0)).2)
def bU:Bs->Option UInt8
 | 37::a::b::_=>match dx a,dx b with
   | some x,some y=>some (UInt8.ofNat (16*x+y))
   | _,_=>none
 | _=>none
def an:Bs->Bs
 | []=>[]
 | c::r=>match bU (c::r)with
   | some b=>b::an (r.drop 2)
   | none=>c::an r
 termination_by l=>l.length
 decreasing_by all_goals simp;try omega
def gm (n:Nat):UInt8:=if n<10 then UInt8.ofNat (48+n)else UInt8.ofNat (55+n)
def ah (of:Bs) (s:Bs):Bs:=s.flatMap fun c=>if c<32||126<c||of.contains c then[37,gm (c.toNat / 16),gm (c.toNat%16)]else[c]
def eG:Bs:=[0,9,10,13,32,35,47,58,60,62,63,64,91,92,93,94,124]
def jM (c:UInt8):Bool:=c<=32||127<=c||c==37||eG.contains c
inductive Res where
 | ok (t:Bs)
 | er (n:Nat)
 deriving DecidableEq,Repr
def ofO (n:Nat):Option Bs->Res
 | some t=>.ok t
 | none=>.er n
def eC (s:Bs):Res:=
 let d:=low (an s)
 if d=[]\/d.any jM=true then .er 70 else if bh d then ofO 71 (dJ (br d))else .ok d
def aD (s:Bs) (dk:Bool):Res:=
 if s[0]? =some 91 then(if s.length<2\/s.getLast? ≠some 93 then .er 72 else ofO 72 ((iI ((s.drop 1).dropLast)).map fun a=>[91]++ef a++[93]))
 else if dk then eC s
 else if s.any eG.contains then .er 70 else .ok (ah [] s)
theorem J7 (c:UInt8):low1 (low1 c)=low1 c:=by revert c;exact au (by decide +kernel)
theorem El (c:UInt8):aW (low1 c)=aW c:=by revert c;exact au (by decide +kernel)
theorem JU (c:UInt8):fC (low1 c)=fC c:=by revert c;exact au (by decide +kernel)
theorem yJ (c:UInt8):eH (low1 c)=eH c:=by revert c;exact au (by decide +kernel)
theorem LQ (c:UInt8):(low1 c==46)=(c==46):=by revert c;exact au (by decide +kernel)
theorem yW (l:Bs):low (low l)=low l:=by
 unfold low;rw[List.map_map];exact List.map_congr_left fun c _=>J7 c
theorem p9 (l:Bs):(low l).length=l.length:=by unfold low;simp
theorem Bm (l:Bs):(low l).isEmpty=l.isEmpty:=by cases l<;>rfl
theorem BL {p:UInt8->Bool} (h:∀c,p (low1 c)=p c) (l:Bs):dj p (low l)=dj p l:=by
 unfold dj;rw[Bm];congr 1;unfold low;rw[List.all_map];congr 1
 funext c
 exact h c
theorem CJ (l:Bs):bO (low l)=bO l:=by
 unfold bO;rw[BL yJ];cases l with
 | nil=>rfl
 | cons c r=>show(aW (low1 c)&&_)=_;rw[El]
theorem vC:∀l:Bs,ag 46 (low l)=(ag 46 l).map low
 | []=>rfl
 | c::l=>by
   have ih:=vC l;show ag 46 (low1 c::low l)=_;rw[ag,ag,LQ,ih];by_cases h:c=46
   ·rw[if_pos (by simpa using h),if_pos (by simpa using h)];rfl
   ·rw[if_neg (by simpa using h),if_neg (by simpa using h)];cases ag 46 l<;>rfl
theorem D6 (l:Bs):eF (low l)=eF l:=by
 unfold eF;rw[jF,jF,vC,List.all_map];congr 1
 funext x
 exact BL JU x
theorem QT:Lib.itoa 256=[50,53,54]:=by simp[Lib.itoa,Lib.decDigits]
theorem PI:Lib.itoa 384=[51,56,52]:=by simp[Lib.itoa,Lib.decDigits]
theorem PZ:Lib.itoa 512=[53,49,50]:=by simp[Lib.itoa,Lib.decDigits]
theorem zu {l:Bs} {y:Src} (h:dh l=some y):(low l∈bq/\y=Qo (low l))\/(∃v,y=zX v/\eO v=true/\v.length<=l.length)\/(∃v b,y=ye v b/\(b=256\/b=384\/b=512)/\eO v=true/\v.length<=l.length):=by
 unfold dh at h;by_cases h1:bq.contains (low l)=true
 ·rw[if_pos h1]at h;exact Or.inl ⟨List.contains_iff_mem.1 h1,(Option.some.inj h).symm⟩
 ·rw[if_neg h1]at h;by_cases h2:(Lib.hasPrefix (low l) m8&&eO (l.drop 6))=true
  ·rw[if_pos h2]at h;rw[Bool.and_eq_true]at h2;exact Or.inr (Or.inl ⟨_,(Option.some.inj h).symm,h2.2,by simp⟩)
  ·rw[if_neg h2]at h
   have key:∀b,eU l b=some y->(∃v,y=ye v b/\eO v=true/\v.length<=l.length):=by
    intro b hb;unfold eU at hb;by_cases h3:(Lib.hasPrefix (low l) (qS b)&&eO (l.drop (qS b).length))=true
    ·rw[if_pos h3]at hb;rw[Bool.and_eq_true]at h3;exact⟨_,(Option.some.inj hb).symm,h3.2,by simp⟩
    ·rw[if_neg h3]at hb;cases hb
   rcases Option.or_eq_some_iff.1 h with h|⟨_,h⟩
   ·obtain⟨v,a,c,d⟩:=key _ h;exact Or.inr (Or.inr ⟨v,256,a,Or.inl rfl,c,d⟩)
   ·rcases Option.or_eq_some_iff.1 h with h|⟨_,h⟩
    ·obtain⟨v,a,c,d⟩:=key _ h;exact Or.inr (Or.inr ⟨v,384,a,Or.inr (Or.inl rfl),c,d⟩)
    ·obtain⟨v,a,c,d⟩:=key _ h;exact Or.inr (Or.inr ⟨v,512,a,Or.inr (Or.inr rfl),c,d⟩)
theorem ns (n:Nat):∀c∈Lib.decDigits n,aA c=true:=by
 induction n using Nat.strongRecOn with
 | _ n ih=>
   intro c hc;rw[Lib.decDigits]at hc;have key:∀d,d<10->aA (UInt8.ofNat (48+d))=true:=by decide
   split at hc
   ·rename_i h;rw[List.mem_singleton.1 hc];exact key n h
   ·rcases List.mem_append.1 hc with hc|hc
    ·exact ih (n / 10) (by omega) c hc
    ·rw[List.mem_singleton.1 hc];exact key (n%10) (by omega)
theorem uG (n:Nat):Lib.decDigits n≠[]:=by
 rw[Lib.decDigits];split<;>simp
theorem nF {c:UInt8} (h:aA c=true):48<=c.toNat/\c.toNat<=57:=by
 revert h;revert c
 exact fun{c}=>au (p:=fun c=>aA c=true->48<=c.toNat/\c.toNat<=57) (by decide +kernel) c
theorem rn (gD:Nat) (d:Nat) (hd:d<10):∀(l:Bs) (u:Nat),Lib.parseUint10 gD l=.ok u->u<1844674407370955161->Lib.parseUint10 gD (l++[UInt8.ofNat (48+d)])=.ok (u*10+d)
 | [],u,h,hu=>by
   simp only[Lib.parseUint10]at h;injection h with h
   subst h
   have e:(UInt8.ofNat (48+d)).toNat=48+d:=by
    rw[UInt8.toNat_ofNat'];omega
   simp only[List.nil_append,Lib.parseUint10,e];rw[if_pos ⟨by omega,by omega⟩,if_neg (by omega),if_neg (by omega)];congr 1;omega
 | c::r,u,h,hu=>by
   simp only[Lib.parseUint10]at h;simp only[List.cons_append,Lib.parseUint10];split at h
   ·rename_i h1;rw[if_pos h1];split at h
    ·cases h
    ·rename_i h2;rw[if_neg h2];split at h
     ·cases h
     ·rename_i h3;rw[if_neg h3];exact rn _ d hd r u h hu
   ·cases h
theorem Js (n:Nat) (hn:n<1000000):Lib.parseUint10 0 (Lib.decDigits n)=.ok n:=by
 induction n using Nat.strongRecOn with
 | _ n ih=>
   rw[Lib.decDigits];split
   ·rename_i h;have:=rn 0 n h [] 0 rfl (by omega);simpa using this
   ·rename_i h;have:=rn 0 (n%10) (by omega) _ _ (ih (n / 10) (by omega) (by omega)) (by omega);rw[this];congr 1;omega
theorem kr {n:Int} (h0:0<=n) (h1:n<=65535):Lib.atoiAll (Lib.itoa n)=.ok n/\dj aA (Lib.itoa n)=true/\(Lib.itoa n).length<=21:=by
 have e:Lib.itoa n=Lib.decDigits n.toNat:=by unfold Lib.itoa;rw[if_neg (by omega)]
 rw[e];have hd:=ns n.toNat;have hp:=Js n.toNat (by omega);have dG:=uG n.toNat;refine⟨?_,?_,?_⟩
 ·cases hl:Lib.decDigits n.toNat with
  | nil=>exact absurd hl dG
  | cons c r=>
    rw[hl]at hp hd;obtain⟨a,b⟩:=nF (hd c (by simp))
    have hm:Lib.parseMag (c::r)=.ok n.toNat:=by
     unfold Lib.parseMag;rw[if_neg (by simp),hp]
    unfold Lib.atoiAll
    dsimp only
    rw[if_neg (by omega),hm]
    dsimp only
    rw[if_neg (by omega),if_neg (by omega),if_neg (by omega)];congr 1;omega
 ·unfold dj;rw[List.all_eq_true.2 hd];cases hl:Lib.decDigits n.toNat with
  | nil=>exact absurd hl dG
  | cons c r=>rfl
 ·have:∀(k m:Nat),m<10^(k+1)->(Lib.decDigits m).length<=k+1:=by
   intro k
   induction k with
   | zero=>intro m h;rw[Lib.decDigits,dif_pos (by simpa using h)];simp
   | succ k ih=>
     intro m h;rw[Lib.decDigits];split
     ·simp
     ·rw[List.length_append];have:=ih (m / 10) (by rw[Nat.pow_succ]at h;omega)
      simp
      omega
  have:=this 4 n.toNat (by omega);omega
theorem JO {c:UInt8} (h:aA c=true):c≠58/\c≠47/\c≠39/\c≠42:=by
 revert h;revert c
 exact fun{c}=>au (p:=fun c=>aA c=true->c≠58/\c≠47/\c≠39/\c≠42) (by decide +kernel) c
theorem gx {p:UInt8->Bool} {l:Bs} (h:dj p l=true):(∀c∈l,p c=true)/\l≠[]:=by
 unfold dj at h;rw[Bool.and_eq_true,List.all_eq_true]at h;refine⟨h.1,?_⟩;rintro rfl;exact absurd h.2 (by simp)
theorem lP {c b:UInt8} {l r:Bs} (h:b≠c):Lib.index (b::l) (c::r)=if Lib.index l (c::r)== -1 then -1 else Lib.index l (c::r)+1:=by
 rw[Lib.index]
 have:((c::r:Bs).isPrefixOf (b::l))=false:=by
  have:(c==b)=false:=by simpa using fun e=>h e.symm
  simp[List.isPrefixOf,this]
 rw[this];rfl
theorem Fm (s b:Bs) (hs:s≠[]):Lib.index (s++b) s=0:=by
 cases s with
 | nil=>exact absurd rfl hs
 | cons c r=>
   rw[List.cons_append,Lib.index];have:((c::r:Bs).isPrefixOf (c::(r++b)))=true:=List.isPrefixOf_iff_prefix.2 ⟨b,rfl⟩;rw[this];rfl
theorem uE (l s:Bs) (h:Lib.index l s= -1):Lib.cut l s=(l,[],false):=by
 unfold Lib.cut;rw[h];rfl
theorem kG (c:UInt8):∀(a:Bs),c∉a->Lib.indexByte a c= -1
 | [],_=>rfl
 | x::a,h=>by
   have hx:(x==c)=false:=by simpa using fun e=>h (by simp[e])
   have ih:=kG c a (fun e=>h (by simp[e]));rw[Lib.indexByte,hx,ih];rfl
theorem Ez {l s:Bs} (h:Lib.index l s= -1) (k:Nat):Lib.index (l.drop k) s= -1:=by
 rcases Lib.index_spec l s with⟨_,h2⟩|⟨i,h2,_⟩
 ·rcases Lib.index_spec (l.drop k) s with⟨h3,_⟩|⟨i,h3,h4,h5,_⟩
  ·exact h3
  ·exfalso
   rw[List.length_drop]at h4;by_cases hk:k<=l.length
   ·have h6:=h2 (k+i) (by omega);unfold Lib.occAt at h5 h6;rw[List.drop_drop]at h5;rw[h5]at h6;cases h6
   ·have h6:=h2 l.length (Nat.le_refl _);unfold Lib.occAt at h5 h6;rw[List.drop_eq_nil_of_le (by rw[List.length_drop];omega)]at h5;rw[List.drop_eq_nil_of_le (Nat.le_refl _)]at h6;rw[h5]at h6;cases h6
 ·omega
def Gz (wild:Bool) (host:Bs):Bs:=if wild then(if host=[]then[42]else[42,46]++host)else host
def xQ (port:Int):Bs:=if port= -2 then[58,42]else if 0<=port then 58::Lib.itoa port else[]
theorem rK {l:Bs} {w:Bool} {h:Bs} (e:mT l=some (w,h)):(w=true/\h=[])\/(eF h=true/\low h=h/\h.length<=l.length):=by
 unfold mT at e;split at e
 ·left;have:=Option.some.inj e;exact⟨(Prod.mk.inj this).1.symm,(Prod.mk.inj this).2.symm⟩
 ·split at e
  ·rename_i hn;right;have:=Option.some.inj e;obtain⟨_,h2⟩:=Prod.mk.inj this;rw[<-h2];refine⟨by rw[D6];exact hn,yW _,?_⟩;rw[p9];unfold Lib.trimPrefix;split
   ·simp
   ·exact Nat.le_refl _
  ·cases e
theorem A7 {l:Bs} {n:Int} (e:ez l=some n):n= -2\/(0<=n/\n<=65535):=by
 unfold ez at e;split at e
 ·exact Or.inl (Option.some.inj e).symm
 ·split at e
  ·rename_i m hm;split at e
   ·rename_i h;rw[Bool.and_eq_true,decide_eq_true_eq]at h;have:=Option.some.inj e;subst this;refine Or.inr ⟨?_,h.2⟩;cases l with
    | nil=>cases hm
    | cons c r=>
      have hd:=nF ((gx h.1).1 c (by simp));unfold Lib.atoiAll at hm
      dsimp only at hm
      rw[if_neg (by omega)]at hm;cases hp:Lib.parseMag (c::r)with
      | ok u=>
        rw[hp]at hm
        dsimp only at hm
        split at hm
        ·cases hm
        ·split at hm
         ·cases hm
         ·rw[if_neg (by omega)]at hm;injection hm with hm
          omega
      | _=>rw[hp]at hm;cases hm
   ·cases e
  ·cases e
theorem Ux {n:Int} (h:n= -2\/(0<=n/\n<=65535)):∃q,xQ n=58::q/\ez q=some n/\(∀c∈q,c≠58/\c≠47)/\q≠[]:=by
 rcases h with rfl|⟨h0,h1⟩
 ·exact⟨[42],rfl,rfl,by decide,by decide⟩
 ·obtain⟨ha,hd,_⟩:=kr h0 h1;refine⟨Lib.itoa n,?_,?_,?_,(gx hd).2⟩
  ·unfold xQ;rw[if_neg (by omega),if_pos h0]
  ·unfold ez
   have dG:Lib.itoa n≠[42]:=by
    intro e;have:=(gx hd).1 42 (by rw[e];simp);exact absurd this (by decide)
   rw[if_neg dG,ha]
   dsimp only
   rw[hd,decide_eq_true h1];rfl
  ·intro c hc;have:=JO ((gx hd).1 c hc);exact⟨this.1,this.2.1⟩
theorem mJ (c:UInt8):∀l:Bs,0<=Lib.indexByte l c->∃p,l.drop (Lib.indexByte l c).toNat=c::p
 | [],h=>by simp[Lib.indexByte]at h
 | x::l,h=>by
   rw[Lib.indexByte]at h⊢;by_cases hx:(x==c)=true
   ·rw[if_pos hx];have:x=c:=by simpa using hx
    subst this;exact⟨l,rfl⟩
   ·rw[if_neg hx]at h⊢;by_cases hm:(Lib.indexByte l c== -1)=true
    ·rw[if_pos hm]at h;omega
    ·rw[if_neg hm]at h⊢;have o6:=Lib.indexByte_ge l c;have dG:Lib.indexByte l c≠ -1:=by simpa using hm
     obtain⟨p,hp⟩:=mJ c l (by omega);refine⟨p,?_⟩;rw[show(Lib.indexByte l c+1).toNat=(Lib.indexByte l c).toNat+1 by omega,List.drop_succ_cons];exact hp
structure UF (sch host path:Bs) (wild:Bool) (port:Int):Prop where
 fname:(wild=true/\host=[])\/(eF host=true/\low host=host)
 fport:port= -1\/port= -2\/(0<=port/\port<=65535)
 fpath:path=[]\/(dj dA path=true/\∃p,path=47::p)
 fscheme:(bO sch=true/\low sch=sch)\/(sch=[]/\Lib.index path [58,47,47]= -1)
theorem oh {sch path r:Bs} {y:Src} (h:fH sch path r=some y):∃host wild port,y=⟨3,[],0,sch,host,wild,port,path⟩/\((wild=true/\host=[])\/(eF host=true/\low host=host))/\host.length<=r.length/\
  (port= -1\/port= -2\/(0<=port/\port<=65535))/\(path=[]\/dj dA path=true):=by
 unfold fH at h;cases hh:mT (Lib.cut r [58]).1 with
 | none=>rw[hh]at h;cases h
 | some wh=>
   obtain⟨wild,host⟩:=wh;rw[hh]at h
   dsimp only at h
   have bv:(Lib.cut r [58]).1.length<=r.length:=by
    unfold Lib.cut;split
    ·simp[List.length_take];omega
    ·exact Nat.le_refl _
   have hpr:∃port,(if(Lib.cut r [58]).2.2 then ez (Lib.cut r [58]).2.1 else some (-1))=some port/\(port= -1\/port= -2\/(0<=port/\port<=65535)):=by
    cases hp:(if(Lib.cut r [58]).2.2 then ez (Lib.cut r [58]).2.1 else some (-1))with
    | none=>rw[hp]at h;cases h
    | some port=>
      refine⟨port,rfl,?_⟩;split at hp
      ·exact Or.inr (A7 hp)
      ·exact Or.inl (Option.some.inj hp).symm
   obtain⟨port,hp,hpc⟩:=hpr;rw[hp]at h
   dsimp only at h
   split at h
   ·rename_i hs;refine⟨host,wild,port,(Option.some.inj h).symm,?_,?_,hpc,?_⟩
    ·rcases rK hh with h|⟨a,b,_⟩
     ·exact Or.inl h
     ·exact Or.inr ⟨a,b⟩
    ·rcases rK hh with⟨_,h⟩|⟨_,_,c⟩
     ·rw[h];exact Nat.zero_le _
     ·exact Nat.le_trans c bv
    ·rw[Bool.or_eq_true]at hs;rcases hs with hs|hs
     ·exact Or.inl (List.isEmpty_iff.1 hs)
     ·exact Or.inr hs
   ·cases h
theorem nW {sch l:Bs} {y:Src} (h:gK sch l=some y):∃host wild port path k,y=⟨3,[],0,sch,host,wild,port,path⟩/\((wild=true/\host=[])\/(eF host=true/\low host=host))/\host.length<=l.length/\
  (port= -1\/port= -2\/(0<=port/\port<=65535))/\(path=[]\/(dj dA path=true/\∃p,path=47::p))/\(path=[]\/path=l.drop k):=by
 unfold gK at h;split at h
 ·rename_i hi;obtain⟨host,wild,port,h1,h2,h3,h4,h5⟩:=oh h;obtain⟨p,hp⟩:=mJ 47 l hi;refine⟨host,wild,port,_,(Lib.indexByte l 47).toNat,h1,h2,Nat.le_trans h3 (by simp[List.length_take];omega),h4,?_,Or.inr rfl⟩;rcases h5 with h5|h5
  ·exact Or.inl h5
  ·exact Or.inr ⟨h5,p,hp⟩
 ·obtain⟨host,wild,port,h1,h2,h3,h4,h5⟩:=oh h;exact⟨host,wild,port,[],0,h1,h2,h3,h4,Or.inl rfl,Or.inl rfl⟩
theorem zC {l:Bs} {y:Src} (h:cZ l=some y):∃sch host wild port path,y=⟨3,[],0,sch,host,wild,port,path⟩/\UF sch host path wild port/\sch.length<=l.length/\host.length<=l.length/\path.length<=l.length:=by
 unfold cZ at h
 dsimp only at h
 have DR:(Lib.cut l [58,47,47]).2.1.length<=l.length/\(Lib.cut l [58,47,47]).1.length<=l.length:=by
  unfold Lib.cut;split
  ·exact⟨by simp[List.length_drop],by simp[List.length_take];omega⟩
  ·simp
 split at h
 ·split at h
  ·rename_i hs;obtain⟨host,wild,port,path,k,h1,h2,h3,h4,h5,h6⟩:=nW h;refine⟨_,host,wild,port,path,h1,⟨h2,h4,h5,Or.inl ⟨by rw[CJ];exact hs,yW _⟩⟩,by rw[p9];exact DR.2,Nat.le_trans h3 DR.1,?_⟩;rcases h6 with rfl|rfl
   ·exact Nat.zero_le _
   ·exact Nat.le_trans (by simp) DR.1
  ·cases h
 ·rename_i hc
  have hi:Lib.index l [58,47,47]= -1:=by
   unfold Lib.cut at hc;have o6:=Lib.index_ge l [58,47,47];by_cases h0:0<=Lib.index l [58,47,47]
   ·rw[if_pos h0]at hc;exact absurd rfl hc
   ·omega
  obtain⟨host,wild,port,path,k,h1,h2,h3,h4,h5,h6⟩:=nW h;refine⟨[],host,wild,port,path,h1,⟨h2,h4,h5,Or.inr ⟨rfl,?_⟩⟩,Nat.zero_le _,h3,?_⟩
  ·rcases h6 with rfl|rfl
   ·rfl
   ·exact Ez hi k
  ·rcases h6 with rfl|rfl
   ·exact Nat.zero_le _
   ·simp
structure aaN (y:Src) (N:Nat):Prop where
 ftext:y.text.length<=N
 fscheme:y.scheme.length<=N
 fhost:y.host.length<=N
 fpath:y.path.length<=N
 fport0: -2<=y.port
 fport1:y.port<=65535
 fbits0:0<=y.bits
 fbits1:y.bits<=512
theorem Ju {n:Int} (h:n= -1\/n= -2\/(0<=n/\n<=65535)):(xQ n).length<=22:=by
 rcases h with rfl|rfl|⟨h0,h1⟩
 ·decide
 ·decide
 ·unfold xQ;rw[if_neg (by omega),if_pos h0];have:=(kr h0 h1).2.2
  simp
  omega
theorem X5 (l:Bs) (y:Src) (N:Nat) (h:bR l=some y) (hN:l.length<=N):aaN y N/\(S0 y).length<=4*N+100:=by
 unfold bR at h;split at h
 ·have hl:((l.drop 1).dropLast).length<=N:=by simp;omega
  rcases zu h with⟨_,rfl⟩|⟨v,rfl,_,hv⟩|⟨v,b,rfl,hb,_,hv⟩
  ·have e:=p9 ((l.drop 1).dropLast);refine⟨⟨by show(low _).length<=N;omega,Nat.zero_le _,Nat.zero_le _,Nat.zero_le _,by show(-2:Int)<= -1;decide,by show(-1:Int)<=_;decide,by show(0:Int)<=0;decide,by show(0:Int)<=512;decide⟩,?_⟩;show(39::low _++[39]).length<=_;simp only[List.length_cons,List.length_append,List.length_nil];omega
  ·refine⟨⟨by show v.length<=N;omega,Nat.zero_le _,Nat.zero_le _,Nat.zero_le _,by show(-2:Int)<= -1;decide,by show(-1:Int)<=_;decide,by show(0:Int)<=0;decide,by show(0:Int)<=512;decide⟩,?_⟩;show([39,110,111,110,99,101,45]++v++[39]).length<=_;simp only[List.length_cons,List.length_append,List.length_nil];omega
  ·refine⟨⟨by show v.length<=N;omega,Nat.zero_le _,Nat.zero_le _,Nat.zero_le _,by show(-2:Int)<= -1;decide,by show(-1:Int)<=_;decide,by show(0:Int)<=b;omega,by show b<=512;omega⟩,?_⟩;show([39,115,104,97]++Lib.itoa b++[45]++v++[39]).length<=_
   have:(Lib.itoa b).length=3:=by
    rcases hb with rfl|rfl|rfl
    ·rw[QT];rfl
    ·rw[PI];rfl
    ·rw[PZ];rfl
   simp only[List.length_cons,List.length_append,List.length_nil];omega
 ·split at h
  ·rw[<-Option.some.inj h]
   have e:(low (Lib.trimSuffix l [58])).length<=N:=by
    rw[p9];unfold Lib.trimSuffix;split
    ·simp[List.length_take];omega
    ·exact hN
   refine⟨⟨Nat.zero_le _,e,Nat.zero_le _,Nat.zero_le _,by show(-2:Int)<= -1;decide,by show(-1:Int)<=_;decide,by show(0:Int)<=0;decide,by show(0:Int)<=512;decide⟩,?_⟩;show(low (Lib.trimSuffix l [58])++[58]).length<=_;simp only[List.length_append,List.length_cons,List.length_nil];omega
  ·obtain⟨sch,host,wild,port,path,rfl,l6,h1,h2,h3⟩:=zC h;have TX:=l6.fport;refine⟨⟨Nat.zero_le _,by show sch.length<=N;omega,by show host.length<=N;omega,by show path.length<=N;omega,by show(-2:Int)<=port;omega,by show port<=65535;omega,by show(0:Int)<=0;decide,by show(0:Int)<=512;decide⟩,?_⟩
   have ht:S0 ⟨3,[],0,sch,host,wild,port,path⟩=(if sch=[]then[]else sch++[58,47,47])++((Gz wild host++xQ port)++path):=by
    show vu _=_;unfold vu Gz xQ;simp only[List.append_assoc]
   have e1:(if sch=[]then[]else sch++[58,47,47]).length<=sch.length+3:=by split<;>simp
   have e2:(Gz wild host).length<=host.length+2:=by
    unfold Gz;split
    ·split
     ·simp
     ·simp
    ·omega
   have e3:=Ju TX;rw[ht];simp only[List.length_append];omega
end Lz
