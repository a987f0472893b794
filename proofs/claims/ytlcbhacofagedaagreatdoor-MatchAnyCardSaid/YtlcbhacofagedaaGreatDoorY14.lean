/-
  Plain laws: an IPv4 address as lazaretref07.four reckons it. No program in sight.
-/
import Derived.Test.YtlcbhacofagedaaGreatDoorY09
import Derived.Deep.RegionHeld3
import Derived.Deep.DeepCutAuto
import Derived.Stop.Asserts
import Derived.RowKitTokens
import Derived.StillTailTactics
import Derived.Shelf.Strings.SlTrimAscii
import Derived.Deep.AppendLies
import Derived.Deep.DrawnRows
import Derived.Lib.MapLaws
import Derived.Lib.QuoteLoop
import Derived.Lib.RuneCountTail
import Derived.Shelf.Spec.DecodeLastRune8
import Derived.Lib.TrimAscii
set_option maxHeartbeats 2000000
set_option maxRecDepth 100000
namespace Lz
open Go
structure af where
 scheme:Bs:=[]
 user:Bs:=[]
 pass:Bs:=[]
 hasHost:Bool:=false
 host:Bs:=[]
 port:Int:= -1
 opq:Bool:=false
 path:List Bs:=[]
 hasQuery:Bool:=false
 hasFragment:Bool:=false
 query:Bs:=[]
 fragment:Bs:=[]
 deriving DecidableEq,Repr
inductive UR where
 | ok (u:af)
 | er (n:Nat)
 deriving DecidableEq,Repr
def UR.bind:UR->(af->UR)->UR
 | .ok u,f=>f u
 | .er n,_=>.er n
def iy:Bs:=[104,116,116,112]
def iK:Bs:=[104,116,116,112,115]
def wsS:Bs:=[119,115]
def Bz:Bs:=[119,115,115]
def Ue:Bs:=[102,116,112]
def fileS:Bs:=[102,105,108,101]
def Bg:Bs:=[98,108,111,98]
def dr (s:Bs):Int:=if s=iy\/s=wsS then 80 else if s=iK\/s=Bz then 443 else if s=Ue then 21 else -1
def ae (s:Bs):Bool:=s==fileS|| !(dr s== -1)
def aG (sp:Bool) (c:UInt8):Bool:=c==47||(sp&&c==92)
def bc:Nat->Bs
 | 1=>[32,34,60,62,96]
 | 2=>[32,34,35,60,62]
 | 3=>[32,34,35,60,62,39]
 | 4=>[32,34,35,60,62,63,94,96,123,125]
 | 5=>[32,34,35,60,62,63,94,96,123,125,47,58,59,61,64,91,92,93,124]
 | _=>[]
def bu:Bs->Bool
 | [a,b]=>aW a&&(b==58||b==124)
 | _=>false
def lg:Bs->Bool
 | [a,b]=>aW a&&(b==58||b==124)
 | a::b::c::_=>aW a&&(b==58||b==124)&&(c==47||c==92)
 | _=>false
def fL:List Bs->Bool
 | p::_=>bu p&&p[1]? ==some 58
 | []=>false
def bJ (scheme:Bs) (l:List Bs):List Bs:=if scheme=fileS/\l.length=1/\fL l=true then l else l.dropLast
def unE:Bs->Bs
 | 37::50::101::r=>46::unE r
 | c::r=>c::unE r
 | []=>[]
def dN (p:Bs):Nat:=if unE (low p)=[46]then 1 else if unE (low p)=[46,46]then 2 else 0
def dn (sp:Bool) (s:Bs):Bs×Bs×Bool:=(s.takeWhile fun c=> !aG sp c,(s.dropWhile fun c=> !aG sp c).drop 1,s.any (aG sp))
def bD (sp:Bool):Bs->List Bs
 | []=>[[]]
 | c::r=>if aG sp c then[]::bD sp r else match bD sp r with
   | h::t=>(c::h)::t
   | []=>[[c]]
def onL (scheme:Bs):List Bs->List Bs->List Bs
 | path,[]=>path
 | path,p::r=>
   let q:=ah (bc 4) p
   if dN q=2 then onL scheme (if r=[]then bJ scheme path++[[]]else bJ scheme path) r
   else if dN q=1 then onL scheme (if r=[]then path++[[]]else path) r
   else onL scheme (path++[if scheme=fileS/\path=[]/\bu q=true then q.take 1++[58]else q]) r
def onP (u:af) (t:Bs):af:={u with path:=onL u.scheme u.path (bD (ae u.scheme) t)}
def cW:Bool->Bs->Option Nat
 | _,[]=>none
 | i,c::r=>if c==91 then(cW true r).map (·+1)else if c==93 then(cW false r).map (·+1)else if c==58&& !i then some 0 else(cW i r).map (·+1)
def fY:Nat->Bs->Option Nat
 | n,[]=>some n
 | n,c::r=>if aA c then fY (min (10*n+(c.toNat-48)) 1048576) r else none
def ck (u:af) (s:Bs):UR:=match fY 0 s with
 | none=>.er 81
 | some n=>if 65535<n then .er 81 else .ok (if s≠[]/\(n:Int)≠dr u.scheme then{u with port:=n} else u)
def bQ (u:af) (s:Bs):UR:=match aD s (ae u.scheme)with
 | .er n=>.er n
 | .ok h=>.ok {u with host:=h,hasHost:=true}
def cz:Bs->Option (Bs×Bs)
 | []=>none
 | c::r=>match cz r with
   | some (x,y)=>some (c::x,y)
   | none=>if c==64 then some ([],r)else none
def Cu (u:af) (a:Bs):af:={u with user:=ah (bc 5) (Lib.cut a [58]).1,pass:=ah (bc 5) (Lib.cut a [58]).2.1}
def dZ (u:af) (a:Bs):UR:=match cW false a with
 | some i=>if a.take i=[]then .er 70 else(bQ u (a.take i)).bind fun u=>ck u (a.drop (i+1))
 | none=>if a=[]/\ae u.scheme=true then .er 70 else(bQ u a).bind fun u=>ck u []
def gB (u:af) (a:Bs):UR:=match cz a with
 | some (x,y)=>if y=[]then .er 70 else dZ (Cu u x) y
 | none=>dZ u a
def df (u:af) (r:Bs):UR:=
 let c:=dn (ae u.scheme) r
 (gB u c.1).bind fun u=>.ok (if c.2.2||ae u.scheme then onP u c.2.1 else u)
def GY (u b:af):af:={u with user:=b.user,pass:=b.pass,hasHost:=b.hasHost,host:=b.host,port:=b.port}
def uQ (u b:af) (r:Bs):af:=
 if r≠[]then onP {u with path:=bJ u.scheme b.path} r
 else if u.hasQuery then{u with path:=b.path} else{u with path:=b.path,query:=b.query,hasQuery:=b.hasQuery}
def dM (sp:Bool) (r:Bs):Nat:=(r.takeWhile (aG sp)).length
def yY (u b:af) (r:Bs):UR:=
 let n:=dM (ae u.scheme) r
 if 1<n then df u (if ae u.scheme then r.drop n else r.drop 2)
 else if n=1 then .ok (onP (GY u b) (r.drop 1))
 else .ok (uQ (GY u b) b r)
def eE:Bs:=[108,111,99,97,108,104,111,115,116]
def da (u:af) (b:Option af) (r:Bs):UR:=
 let u:af:={u with hasHost:=true}
 let n:=dM true r
 if 1<n then
  let c:=dn true (r.drop 2)
  if bu c.1 then .ok (onP u (r.drop 2))
  else(if c.1=[]then UR.ok u else bQ u c.1).bind fun u=>.ok (onP (if u.host=eE then{u with host:=[]} else u) c.2.1)
 else if n=1 then
  .ok (onP (match b with
   | some x=>if x.scheme=fileS then(if lg (r.drop 1)=false/\fL x.path=true then{u with host:=x.host,path:=x.path.take 1} else{u with host:=x.host})else u
   | none=>u) (r.drop 1))
 else match b with
  | some x=>if x.scheme=fileS then(if lg r then .ok (onP {u with host:=x.host} r)else .ok (uQ {u with host:=x.host} x r))else .ok (onP u r)
  | none=>.ok (onP u r)
def be (c:UInt8):Bool:=aW c||aA c||c==43||c==45||c==46
def bp (s:Bs):Bs×Bs×Bool:=
 let c:=Lib.cut s [58]
 if c.2.2&& !c.1.isEmpty&&(match c.1 with|a::_=>aW a|[]=>false)&&c.1.all be then(low c.1,c.2.1,true)else([],s,false)
def cf (s:Bs):Bs:=(((s.dropWhile (·<=32)).reverse.dropWhile (·<=32)).reverse).filter fun c=> !(c==9||c==10||c==13)
def fN (u:af) (s:Bs) (b:Option af):UR:=
 let c:=bp s
 if c.2.2 then
  let u:af:={u with scheme:=c.1}
  if c.1=fileS then da u b c.2.1
  else if ae c.1 then(match b with
   | some x=>if x.scheme=c.1/\Lib.hasPrefix c.2.1 [47,47]=false then yY u x c.2.1 else df u (c.2.1.drop (dM true c.2.1))
   | none=>df u (c.2.1.drop (dM true c.2.1)))
  else if Lib.hasPrefix c.2.1 [47,47]then df u (c.2.1.drop 2)
  else if Lib.hasPrefix c.2.1 [47]then .ok (onP u (c.2.1.drop 1))
  else .ok {u with opq:=true,path:=[ah [] c.2.1]}
 else match b with
  | none=>.er 82
  | some x=>
    if x.opq&&(!s.isEmpty||u.hasQuery|| !u.hasFragment)then .er 82
    else
     let u:af:={u with scheme:=x.scheme}
     if x.opq then .ok (uQ {u with opq:=true} x [])
     else if x.scheme=fileS then da u b s
     else yY u x s
def lT (s:Bs) (b:Option af):UR:=
 let f:=Lib.cut (cf s) [35]
 let q:=Lib.cut f.1 [63]
 (fN {query:=q.2.1,hasQuery:=q.2.2,fragment:=f.2.1,hasFragment:=f.2.2} q.1 b).bind fun u=>
  .ok {u with query:=ah (bc (if ae u.scheme then 3 else 2)) u.query,fragment:=ah (bc 1) u.fragment}
def atU (u:af):Bs:=if u.port= -1 then u.host else u.host++[58]++Lib.itoa u.port
def YA (u:af):Bs:=
 u.scheme++[58]++
 (if u.hasHost then[47,47]++u.user++(if u.pass=[]then[]else[58]++u.pass)++(if u.user=[]/\u.pass=[]then[]else[64])++atU u
  else if u.opq=false/\1<u.path.length/\u.path.head? =some []then[47,46]else[])++
 (if u.opq then u.path.headD []else u.path.flatMap fun p=>47::p)++
 (if u.hasQuery then 63::u.query else[])++(if u.hasFragment then 35::u.fragment else[])
def du (s:Bs) (b:Option af):UR:=
 if 4000<s.length then .er 3
 else match b with
  | some x=>if lT (YA x) none=.ok x then lT s b else .er 2
  | none=>lT s none
def bT (u:af):Bs:=
 if dr u.scheme≠ -1 then u.scheme++[58,47,47]++atU u
 else if u.scheme=Bg/\u.opq=true/\u.path≠[]then(match du (u.path.headD []) none with
  | .ok x=>if x.scheme=iy\/x.scheme=iK then x.scheme++[58,47,47]++atU x else[110,117,108,108]
  | .er _=>[110,117,108,108])
 else[110,117,108,108]
def tT (c:UInt8):Bool:=decide (c<=32)
def xE (c:UInt8):Bool:= !(c==9||c==10||c==13)
theorem Lw {c:UInt8} (h:tT c=false):xE c=true:=by
 unfold tT at h;unfold xE;have Zl:¬c<=32:=of_decide_eq_false h;cases h9:(c==9)
 ·cases Lo:(c==10)
  ·cases pc:(c==13)
   ·rfl
   ·exact absurd (by rw[eq_of_beq pc];decide) Zl
  ·exact absurd (by rw[eq_of_beq Lo];decide) Zl
 ·exact absurd (by rw[eq_of_beq h9];decide) Zl
theorem mi:∀l:Bs,(l.dropWhile tT).filter xE=(l.filter xE).dropWhile tT
 | []=>rfl
 | c::r=>by
   rw[List.dropWhile_cons];cases h:tT c
   ·simp only[Bool.false_eq_true,if_false];rw[List.filter_cons,if_pos (Lw h),List.dropWhile_cons,h]
    simp
   ·simp only[if_true];rw[mi r,List.filter_cons];split
    ·rw[List.dropWhile_cons,if_pos h]
    ·rfl
theorem L8 (s:Bs):cf s=(((s.filter xE).dropWhile tT).reverse.dropWhile tT).reverse:=by
 show(((s.dropWhile tT).reverse.dropWhile tT).reverse).filter xE=_;rw[List.filter_reverse,mi,List.filter_reverse,mi]
def okE (of:Bs) (c:UInt8):Bool:= !(c<32||126<c||of.contains c)
theorem Ke {of l:Bs} (h:l.all (okE of)=true):ah of l=l:=by
 induction l with
 | nil=>rfl
 | cons c r ih=>
   rw[List.all_cons,Bool.and_eq_true]at h;unfold ah at ih⊢;rw[List.flatMap_cons,ih h.2,if_neg]
   ·rfl
   ·have:=h.1;unfold okE at this;intro hh;rw[hh]at this;cases this
theorem mY {k:UInt8}:∀{s:Bs},k∉s->Lib.index s [k]= -1
 | [],_=>rfl
 | c::r,h=>by
   have hc:([k]:Bs).isPrefixOf (c::r)=false:=by
    simp only[List.isPrefixOf,Bool.and_true];rw[beq_eq_false_iff_ne];intro e;exact h (by rw[e];simp)
   rw[Lib.index,hc,if_neg (by decide),mY (fun hh=>h (List.mem_cons_of_mem _ hh))];rfl
theorem pT {k:UInt8}:∀{a:Bs} (b:Bs),k∉a->Lib.index (a++k::b) [k]=a.length
 | [],b,_=>by
   show Lib.index (k::b) [k]=_;have hc:([k]:Bs).isPrefixOf (k::b)=true:=by simp[List.isPrefixOf]
   rw[Lib.index,hc,if_pos rfl];rfl
 | c::r,b,h=>by
   have hc:([k]:Bs).isPrefixOf (c::(r++k::b))=false:=by
    simp only[List.isPrefixOf,Bool.and_true];rw[beq_eq_false_iff_ne];intro e;exact h (by rw[e];simp)
   have ih:=pT (a:=r) b (fun hh=>h (List.mem_cons_of_mem _ hh));rw[List.cons_append,Lib.index,hc,if_neg (by decide),ih,if_neg]
   ·simp
   ·intro hh;have h0:=eq_of_beq hh;omega
theorem E1 {k:UInt8} {s:Bs} (h:k∉s):Lib.cut s [k]=(s,[],false):=by
 unfold Lib.cut;rw[mY h];rfl
theorem vo {k:UInt8} {a:Bs} (b:Bs) (h:k∉a):Lib.cut (a++k::b) [k]=(a,b,true):=by
 unfold Lib.cut;rw[pT b h,if_pos (by omega)]
 simp
theorem qL:∀{s:Bs},(64:UInt8)∉s->cz s=none
 | [],_=>rfl
 | c::r,h=>by
   have hc:(c==64)=false:=by rw[beq_eq_false_iff_ne];intro e;exact h (by rw[e];simp)
   rw[cz,qL (fun hh=>h (List.mem_cons_of_mem _ hh)),hc];rfl
theorem xF:∀(a:Bs) {b:Bs},(64:UInt8)∉b->cz (a++64::b)=some (a,b)
 | [],b,h=>by
   show cz (64::b)=_;rw[cz,qL h];rfl
 | c::r,b,h=>by
   rw[List.cons_append,cz,xF r h]
def eZ (u:af):UR:=.ok {u with query:=ah (bc (if ae u.scheme then 3 else 2)) u.query,fragment:=ah (bc 1) u.fragment}
theorem Fa {a:Bs} (h1:a≠[]) (h2:∀c,a.head? =some c->aW c=true) (h3:a.all be=true) (r:Bs):bp (a++58::r)=(low a,r,true):=by
 have iU:(58:UInt8)∉a:=fun hc=>by have:=List.all_eq_true.1 h3 58 hc;cases this
 unfold bp;rw[vo r iU];simp only;cases a with
 | nil=>exact absurd rfl h1
 | cons c t=>
   have:=h2 c rfl;simp only[List.isEmpty_cons,Bool.not_false,Bool.true_and,this,h3,if_true]
def M5 (l:List Bs):Bs:=l.flatMap fun p=>47::p
theorem pN (x:UInt8):((47:UInt8)==x)=(some x==some (47:UInt8)):=by
 rw[Bool.eq_iff_iff];simp only[beq_iff_eq,Option.some.injEq];exact eq_comm
theorem wA (s:Bs):Lib.hasPrefix s [47,47]=(s[0]? ==some 47&&s[1]? ==some 47):=by
 cases s with
 | nil=>rfl
 | cons a r=>
   cases r with
   | nil=>
     show((47:UInt8)==a&&false)=((some a==some 47)&&(none==some (47:UInt8)));rw[pN];rfl
   | cons b t=>
     show((47:UInt8)==a&&((47:UInt8)==b&&true))=((some a==some 47)&&(some b==some 47));rw[pN,pN,Bool.and_true]
theorem wg (s:Bs):Lib.hasPrefix s [47]=(s[0]? ==some 47):=by
 cases s with
 | nil=>rfl
 | cons a r=>
   show((47:UInt8)==a&&true)=(some a==some 47);rw[pN,Bool.and_true]
theorem Ae {b:UInt8} {l:Bs} (h:([37,50,101]:Bs).isPrefixOf (b::l)=false):unE (b::l)=b::unE l:=by
 conv=>lhs;unfold unE
 split
 ·rename_i r he;rw[he]at h
  simp[List.isPrefixOf]at h
 ·rename_i c r _ he;injection he with h1 h2
  rw[h1,h2]
 ·rename_i he;cases he
theorem H6 (r:Bs):unE (37::50::101::r)=46::unE r:=by
 conv=>lhs;unfold unE
 rfl
theorem AJ {s:Bs} (h:([37,50,101]:Bs).isPrefixOf s=true):∃r,s=37::50::101::r:=by
 match s,h with
 | a::b::c::r,h=>
   simp only[List.isPrefixOf,Bool.and_true,Bool.and_eq_true,beq_iff_eq]at h;obtain⟨h1,h2,h3⟩:=h;exact⟨r,by rw[<-h1,<-h2,<-h3]⟩
 | [],h=>simp[List.isPrefixOf]at h
 | [_],h=>simp[List.isPrefixOf]at h
 | [_,_],h=>simp[List.isPrefixOf]at h
theorem xA:∀s:Bs,(Lib.index s [37,50,101]= -1->unE s=s)/\(∀i:Nat,Lib.index s [37,50,101]=i->unE s=s.take i++46::unE (s.drop (i+3)))
 | []=>⟨fun _=>by unfold unE;rfl,fun i h=>by
  have:Lib.index [] ([37,50,101]:Bs)= -1:=rfl;rw[this]at h;omega⟩
 | b::l=>by
   obtain⟨Xa,Xi⟩:=xA l;rw[Lib.index];cases hp:([37,50,101]:Bs).isPrefixOf (b::l)with
   | true=>
     obtain⟨r,hr⟩:=AJ hp;simp only[if_true];refine⟨fun h=>by omega,fun i h=>?_⟩;have hi:i=0:=by omega
     subst hi;rw[hr,H6];rfl
   | false=>
     simp only[Bool.false_eq_true,if_false];have o6:=Lib.index_ge l [37,50,101];by_cases h1:Lib.index l [37,50,101]= -1
     ·rw[h1];refine⟨fun _=>by rw[Ae hp,Xa h1],fun i h=>?_⟩;have:((-1:Int)== -1)=true:=rfl;rw[this,if_pos rfl]at h;omega
     ·have hb:(Lib.index l [37,50,101]== -1)=false:=by rw[beq_eq_false_iff_ne];exact h1
      rw[hb];simp only[Bool.false_eq_true,if_false];refine⟨fun h=>by omega,fun i h=>?_⟩;obtain⟨j,rfl⟩:∃j,i=j+1:=⟨i-1,by omega⟩;rw[Ae hp,Xi j (by omega)];rfl
theorem ph:∀(f:Nat) (s:Bs),s.length<f->Lib.replaceK [37,50,101] [46] (Lib.countFrom [37,50,101] f s) s=unE s
 | 0,s,h=>by omega
 | f+1,s,h=>by
   obtain⟨h1,h2⟩:=xA s;rw[Lib.countFrom];by_cases hi:Lib.index s [37,50,101]= -1
   ·rw[hi];show Lib.replaceK _ _ 0 s=_;rw[h1 hi];rfl
   ·have o6:=Lib.index_ge s [37,50,101];obtain⟨i,yG⟩:∃i:Nat,Lib.index s [37,50,101]=i:=⟨(Lib.index s [37,50,101]).toNat,by omega⟩;have hb:(Lib.index s [37,50,101]== -1)=false:=by rw[beq_eq_false_iff_ne];exact hi
    rw[hb];simp only[Bool.false_eq_true,if_false];rw[Nat.add_comm 1,Lib.replaceK_hit _ _ _ _ i yG,yG]
    have hd:(s.drop (i+([37,50,101]:Bs).length)).length<f:=by
     have hs:s≠[]:=by
      rintro rfl;exact hi rfl
     have hl:0<s.length:=by
      cases s with
      | nil=>exact absurd rfl hs
      | cons _ _=>simp
     rw[List.length_drop];show s.length-(i+3)<f;omega
    have ih:=ph f (s.drop (i+([37,50,101]:Bs).length)) hd;have e:((i:Int)).toNat=i:=by omega
    rw[e,ih,h2 i yG]
    simp
theorem BP (s:Bs):Lib.replaceAll s [37,50,101] [46]=unE s:=by
 unfold Lib.replaceAll Lib.replace;rw[if_neg (by decide)];unfold Lib.replaceNum;rw[if_pos (Or.inl (by decide))];exact ph (s.length+1) s (by omega)
end Lz
namespace Go.Proofs.YtlcbhacofagedaaGreatDoor
open Go.RowKit
theorem rowAt {w:World} {R:Nat} {cs:Array Value} {t:TypeId} {fr:Nat×Nat} (h:w.heap[R]? =some (.cells cs t fr)) (k:Nat) (v:Value) (hv:cs[k]? =some v):w.cell? ⟨R,k,none⟩=some v:=by
 rw[cell_of_row w R k _ _ _ h];exact hv
theorem aI {w:World} {R:Nat} {o:Obj} (h:w.heap[R]? =some o):R<w.heap.size:=(Array.getElem?_eq_some_iff.1 h).1
theorem aK (w:World) (o:Obj):(w.alloc o).heap[w.heap.size]? =some o:=by show(w.heap.push _)[w.heap.size]? =_;simp
theorem gr (w:World) (o o2:Obj):((w.alloc o).alloc o2).heap[w.heap.size+1]? =some o2:=by
 have:=aK (w.alloc o) o2
 rwa [show(w.alloc o).heap.size=w.heap.size+1 by simp]at this
theorem az {B g:Nat} {a w:World} (h:Below B a w) {cs:Array Value} (hg:B<=g):Below B a (w.setRow g cs):=
 ⟨h.os,h.tape,h.output,by rw[show(w.setRow g cs).heap.size=w.heap.size by simp[World.setRow]];exact h.size,fun k hk=>by rw[setRow_other _ _ _ _ (by omega)];exact h.block k hk⟩
theorem j5 {w:World} {R:Nat} {cs:Array Value} {t:TypeId} {fr:Nat×Nat} (h:w.heap[R]? =some (.cells cs t fr)) (k:Nat) (v:Value):(w.setCell ⟨R,k,none⟩ v).heap[R]? =some (.cells (cs.setIfInBounds k v) t fr):=by
 rw[setCell_eq_setRow w R k cs _ _ v h];exact setRow_heap _ _ _ _ _ _ h
theorem TkD {P:Program} {md:Region.Mode} {ops:Array Oper} {Q:Exit->Act->World->Prop} {S:World->Prop} {fuel:Nat} {listed:Array Bool} {a:Act} {w:World} (i:Nat) (d:Option Tmp) {oi:Oper} {v:Value} (hi:ops[i]? =some oi) (hd:oi.dst=d) (hy:∀w,S w->(execOp a.eval oi).run P w=.ok (.value v) w) (h:wpAnyH P md ops Q S fuel (listed.setIfInBounds i true) (a.put d v) w) (hs:Region.noSelect ops=true:=by kernel_rfl) (hf:Region.free md ops listed i=true:=by kernel_rfl) (hr:(Region.ready md ops listed).contains i=true:=by kernel_rfl) (hQ:∀c a w,Q (.panic c) (a.put oi.dst v) w->Q (.panic c) a w:=by exact fun _ _ _ h=>h) (hw:Region.wanted oi (yielded ops a.tmps)=true:=by rfl) (hS:S w:=by assumption):wpAnyH P md ops Q S (fuel+1) listed a w:=
 wpAnyH_take hi hs hf hr hQ (Or.inl ⟨hw,hy⟩) hS (by rw[hd];exact h)
theorem TkE {P:Program} {md:Region.Mode} {ops:Array Oper} {Q:Exit->Act->World->Prop} {S:World->Prop} {fuel:Nat} {listed:Array Bool} {a:Act} {w:World} {oi:Oper} {v:Value} (hQ:∀ c a a' w, Q (.panic c) a w->Q (.panic c) a' w) (i d:Nat) (h:wpAnyH P md ops Q S fuel (listed.setIfInBounds i true) (a.put (some d) v) w) (hy:∀ w, S w->(execOp a.eval oi).run P w=.ok (.value v) w) (hi:ops[i]?=some oi:=by rfl) (hd:oi.dst=some d:=by rfl) (hs:Region.noSelect ops=true:=by kernel_rfl) (hf:Region.free md ops listed i=true:=by kernel_rfl) (hr:(Region.ready md ops listed).contains i=true:=by kernel_rfl) (hw:Region.wanted oi (yielded ops a.tmps)=true:=by rfl) (hS:S w:=by assumption):wpAnyH P md ops Q S (fuel+1) listed a w :=TkD i (some d) hi hd hy h hs hf hr (fun _ _ _ h=>hQ _ _ _ _ h) hw hS
theorem TkG {P:Program} {md:Region.Mode} {ops:Array Oper} {Q:Exit->Act->World->Prop} {S:World->Prop} {fuel:Nat} {listed:Array Bool} {a:Act} {w:World} {oi:Oper} {v:Value} (i d:Nat) (h:wpAnyH P md ops Q S fuel (listed.setIfInBounds i true) (a.put (some d) v) w) (hy:∀ w, S w->(execOp a.eval oi).run P w=.ok (.value v) w) (hi:ops[i]?=some oi:=by rfl) (hd:oi.dst=some d:=by rfl) (hs:Region.noSelect ops=true:=by kernel_rfl) (hf:Region.free md ops listed i=true:=by kernel_rfl) (hr:(Region.ready md ops listed).contains i=true:=by kernel_rfl) (hQ:∀ c a w, Q (.panic c) (a.put oi.dst v) w->Q (.panic c) a w:=by exact fun _ _ _ h=>h) (hw:Region.wanted oi (yielded ops a.tmps)=true:=by rfl) (hS:S w:=by assumption):wpAnyH P md ops Q S (fuel+1) listed a w :=TkD i (some d) hi hd hy h hs hf hr hQ hw hS
theorem TnD {P:Program} {md:Region.Mode} {ops:Array Oper} {Q:Exit->Act->World->Prop} {S:World->Prop} {fuel:Nat} {listed:Array Bool} {a:Act} {w:World} (i:Nat) (d:Option Tmp) {oi:Oper} (hi:ops[i]? =some oi) (hd:oi.dst=d) (h:wpAnyH P md ops Q S fuel (listed.setIfInBounds i true) (a.put d undef) w) (hs:Region.noSelect ops=true:=by kernel_rfl) (hf:Region.free md ops listed i=true:=by kernel_rfl) (hr:(Region.ready md ops listed).contains i=true:=by kernel_rfl) (hQ:∀c a w,Q (.panic c) (a.put oi.dst undef) w->Q (.panic c) a w:=by exact fun _ _ _ h=>h) (hw:Region.wanted oi (yielded ops a.tmps)=false:=by rfl) (hS:S w:=by assumption):wpAnyH P md ops Q S (fuel+1) listed a w:=
 wpAnyH_take hi hs hf hr hQ (Or.inr ⟨hw,rfl⟩) hS (by rw[hd];exact h)
theorem bP {w:World} {R:Nat} {cs:Array Value} {t:TypeId} (h:w.heap[R]? =some (.cells cs t (0,0))) (k:Nat):w.frozen? ⟨R,k,none⟩=false:=by simp[World.frozen?,h]
theorem gF {w:World} {R:Nat} {cs:Array Value} {t:TypeId} {fr:Nat×Nat} (h:w.heap[R]? =some (.cells cs t fr)) (k:Nat) (v:Value) {W7:Array Value} (hc:cs.setIfInBounds k v=W7):(w.setCell ⟨R,k,none⟩ v).heap[R]? =some (.cells W7 t fr):=by
 rw[setCell_eq_setRow w R k cs _ _ v h,<-hc];exact setRow_heap _ _ _ _ _ _ h
theorem cp {w:World} {p:Addr} {k:Nat} (h:k≠p.block) (v:Value):(w.setCell p v).heap[k]? =w.heap[k]? :=Below.heap_setCell w p v k h
theorem dS (w:World) (p:Addr) (v:Value):w.grownBy (w.setCell p v) (some p.block):=
 ⟨rfl,rfl,rfl,by simp,fun k _ hk=>cp (fun e=>hk (by rw[e])) v⟩
theorem JY (a:Addr) (j:Nat) (hs:a.spot=none):(a.add j).block=a.block:=by
 obtain⟨G,off,Ot⟩:=a;obtain rfl:Ot=none:=hs;unfold Addr.add;split<;>rfl
theorem tt:(Tryz.prog.info? 9).map (fun i=>(i.zero,i.size,i.bytes))=some (some (.string ⟨#[]⟩),1,16):=by kernel_rfl
def aX (w:World) (B:Nat) (v:Value) (xs:List ByteArray):Prop:=
 w.ownsRow B 9 1 v xs.length (xs.map Value.string)\/
 ∃a:Addr,v=.slice (some a) xs.length xs.length/\a.spot=none/\(∀j u,(xs.map Value.string)[j]? =some u->w.cell? (a.add j)=some u)/\(xs≠[]->∃ir fz,w.heap[a.block]? =some (.cells ir 9 fz))
theorem aX.nil (w:World) (B:Nat):aX w B (.slice none 0 0) []:=.inl (World.ownsRow_nil w B _ _)
theorem aX.kept {w w':World} {B:Nat} {v:Value} {xs:List ByteArray} {row:Option Nat} (h:aX w B v xs) (hg:w.grownBy w' row)
  (hr:∀k,row=some k->∃cs t fr,w.heap[k]? =some (.cells cs t fr)/\t≠9):aX w' B v xs:=by
 rcases h with h|⟨a,rfl,hs,hc,hb⟩
 ·refine .inl (h.kept hg ?_);rcases h.2 with⟨rfl,_⟩|⟨g,cap,ir,rfl,_,hgb,_⟩
  ·exact .inl rfl
  ·refine .inr fun e=>?_;obtain⟨cs,t,fr,h1,h2⟩:=hr g e.symm;rw[hgb]at h1;injection h1 with h1
   injection h1 with _ h3 _
   exact h2 h3.symm
 ·by_cases hx:xs=[]
  ·subst hx;exact .inr ⟨a,rfl,hs,fun j u hj=>by simp at hj,fun h=>absurd rfl h⟩
  ·obtain⟨ir,fz,VE⟩:=hb hx
   have dG:some a.block≠row:=fun e=>by
    obtain⟨cs,t,fr,h1,h2⟩:=hr a.block e.symm;rw[VE]at h1;injection h1 with h1
    injection h1 with _ h3 _
    exact h2 h3.symm
   have hk:=hg.block a.block (aI VE) dG;exact .inr ⟨a,rfl,hs,fun j u hj=>(World.cell?_of_block (a:=a.add j) (by rw[JY a j hs];exact hk)).trans (hc j u hj),fun _=>⟨ir,fz,by rw[hk];exact VE⟩⟩
theorem Bh {w w':World} (hb:Below w.heap.size w w'):w.grownBy w' none:=⟨hb.os,hb.tape,hb.output,hb.size,fun k hk _=>hb.block k hk⟩
theorem aX.below {w w':World} {B:Nat} {v:Value} {xs:List ByteArray} (h:aX w B v xs) (hb:Below w.heap.size w w'):aX w' B v xs:=
 h.kept (Bh hb) (fun k hk=>by cases hk)
theorem aX.setCell {w:World} {B M:Nat} {v:Value} {xs:List ByteArray} {cs:Array Value} {t:TypeId} {fr:Nat×Nat} (h:aX w B v xs) (hM:w.heap[M]? =some (.cells cs t fr)) (ht:t≠9) (k:Nat) (u:Value):aX (w.setCell ⟨M,k,none⟩ u) B v xs:=
 h.kept (dS w ⟨M,k,none⟩ u) (fun k hk=>by injection hk with hk;subst hk;exact⟨cs,t,fr,hM,ht⟩)
theorem aX.form {w:World} {B:Nat} {v:Value} {xs:List ByteArray} (h:aX w B v xs):∃a c,v=.slice a xs.length c/\xs.length<=c/\∀(j:Nat) (x:ByteArray),xs[j]? =some x->∃G off,a=some ⟨G,off,none⟩/\G<w.heap.size/\w.cell? ⟨G,off+j,none⟩=some (.string x):=by
 rcases h with h|⟨a,rfl,hs,hc,hb⟩
 ·rcases h.2 with⟨rfl,h0⟩|⟨g,cap,ir,rfl,hgb,hg,hn,hcm,iV,gE⟩
  ·refine⟨none,0,by rw[h0],by omega,fun j x hj=>?_⟩;rw[List.eq_nil_of_length_eq_zero h0]at hj
   simp at hj
  ·refine⟨_,cap,rfl,hn,fun j x hj=>⟨g,0,rfl,aI hg,?_⟩⟩;have:=h.cells (g:=g) rfl j (.string x) (by rw[List.getElem?_map,hj];rfl);rw[fa]at this;rw[Nat.zero_add];exact this
 ·refine⟨some a,xs.length,rfl,Nat.le_refl _,fun j x hj=>?_⟩;obtain⟨G,off,Ot⟩:=a;obtain rfl:Ot=none:=hs;have:=hc j (.string x) (by rw[List.getElem?_map,hj];rfl);rw[show(⟨G,off,none⟩:Addr).add j=⟨G,off+j,none⟩ by simp[Addr.add]]at this;exact⟨G,off,rfl,World.block_lt_of_cell? _ _ this,this⟩
theorem aX.pop {w:World} {B:Nat} {a:Option Addr} {n c:Nat} {xs:List ByteArray} (h:aX w B (.slice a n c) xs) (hn:1<=xs.length):aX w B (.slice a (n-1) (n-1)) xs.dropLast:=by
 have hl:xs.dropLast.length=n-1:=by
  obtain⟨a',c',e,_⟩:=h.form;injection e with _ e2 _
  rw[List.length_dropLast,e2]
 have W3:∀(j:Nat) (u:Value),(xs.dropLast.map Value.string)[j]? =some u->(xs.map Value.string)[j]? =some u:=by
  intro j u hj;rw[List.getElem?_map,Option.map_eq_some_iff]at hj;obtain⟨x,hx,rfl⟩:=hj;have jR:=(List.getElem?_eq_some_iff.1 hx).1;rw[List.length_dropLast]at jR;rw[List.getElem?_map,<-List.getElem?_take_of_lt (show j<xs.length-1 from jR),<-List.dropLast_eq_take,hx];rfl
 rcases h with h|⟨p,e,hs,hc,hb⟩
 ·rcases h.2 with⟨e,h0⟩|⟨g,cap,ir,e,hgb,hg,RH,hcm,iV,gE⟩
  ·omega
  ·injection e with e1 e2 e3
   subst e1;exact .inr ⟨⟨g,0,none⟩,by rw[hl],rfl,fun j u hj=>h.cells (g:=g) (by rw[Value.ownBlock]) j u (W3 j u hj),fun _=>⟨ir,(0,0),hg⟩⟩
 ·injection e with e1 e2 e3
  subst e1;exact .inr ⟨p,by rw[hl],hs,fun j u hj=>hc j u (W3 j u hj),fun _=>hb (fun e=>by rw[e]at hn;simp at hn)⟩
section
variable {P:Program} (w:World)
theorem sH (base:Nat) (t ty e:TypeId) (i:TypeInfo) (z:Value) (bytes:Nat) (ht:P.underlying t=some (.slice e)) (hi:P.info? e=some i) (hz:i.zero=some z)
  (Tn:i.size=1) (V4:i.bytes=bytes) (VV:z.cells.size=1)
  (p:Addr) (n:Nat) (xs:List Value) (KM:xs.length=n) (oY:∀j u,xs[j]? =some u->w.cell? (p.add j)=some u)
  (a:Addr) (c:Nat) (x:Value) (hx:w.cell? (a.add 0)=some x)
  (kV:n+1<=maxLen) (Vz:(n+1)*bytes<=140737488355328) (vL:base<=w.heap.size):
  ∃v' w',(Builtin.append_ #[t,t] ty #[.slice (some p) n n,.slice (some a) 1 c]).run P w=.ok v' w'/\w'.ownsRow base e 1 v' (n+1) (xs++[x])/\w.grownBy w' none:=by
 have abj:n+1<=9223372036854775807:=by simp only[maxLen]at kV;omega
 have hr:=run_append_grow (P:=P) w t ty e i z ht hi hz p n n xs (by rw[Tn,Nat.mul_one];exact KM) oY a 1 c [x] (by rw[Tn];rfl) (fun j u hj=>by
  have:j<1:=by simpa using(List.getElem?_eq_some_iff.1 hj).1
  obtain rfl:j=0:=by omega
  obtain rfl:x=u:=by simpa using hj
  exact hx) (by omega) (by omega) (growslice_fits (by omega) (by rw[V4];exact Vz))
 refine⟨_,_,hr,⟨by simp[KM],.inr ⟨w.heap.size,_,_,rfl,vL,heap_alloc_new w.drew _,grownCap_ge _ _ _ _,grownCap_le_maxLen w (n+1) n e kV,?_,?_⟩⟩,⟨rfl,rfl,rfl,by simp,fun k hk _=>Below.heap_alloc w.drew _ k hk⟩⟩
 ·have o6:=grownCap_ge w (n+1) n e;simp only[Array.size_append,List.size_toArray,size_zeroCells,VV,KM,List.length_singleton];omega
 ·simp only[Array.toList_append,List.append_assoc];rw[<-List.append_assoc,show(n+1)*1=(xs++[x]).length by simp[KM]];exact List.take_left
end
theorem sJ (w:World) (base:Nat) (ty:TypeId) (v:Value) (xs:List ByteArray) (aQ:aX w base v xs) (a:Addr) (c:Nat) (p:ByteArray) (hp:w.cell? (a.add 0)=some (.string p))
  (bv:xs.length<=1000000000) (vL:base<=w.heap.size):
  ∃v' w' row,(Builtin.append_ #[23,23] ty #[v,.slice (some a) 1 c]).run Tryz.prog w=.ok v' w'/\aX w' base v' (xs++[p])/\w.grownBy w' row/\(∀k,row=some k->base<=k/\∃ir fr,w.heap[k]? =some (.cells ir 9 fr)):=by
 obtain⟨i0,hi,ig,fs,fk⟩:=info_parts tt;have hm:(xs++[p]).map Value.string=xs.map Value.string++[.string p]:=by simp
 rcases aQ with h|⟨q,rfl,hs,hc,hb⟩
 ·have oX:∀j u,[Value.string p][j]? =some u->w.cell? (a.add j)=some u:=fun j u hj=>by
   have:j<1:=by simpa using(List.getElem?_eq_some_iff.1 hj).1
   obtain rfl:j=0:=by omega
   obtain rfl:Value.string p=u:=by simpa using hj
   exact hp
  obtain⟨v',w',hr,h2,h3,_⟩:=run_append_own (P:=Tryz.prog) w base 23 ty 9 i0 (.string ⟨#[]⟩) 1 16 Tryz.underlying23 hi ig fs fk rfl (by decide) v xs.length (xs.map Value.string) h a 1 c [.string p] rfl oX (by simp[Value.oneCell']) (by unfold maxLen;omega) (by omega) vL;refine⟨v',w',v.ownBlock,hr,.inl ?_,h3,fun k hk=>?_⟩
  ·rw[hm,List.length_append];exact h2
  ·rcases h.2 with⟨rfl,_⟩|⟨g,cap,ir,rfl,hgb,hg,_⟩
   ·cases hk
   ·injection hk with hk;subst hk;exact⟨hgb,ir,_,hg⟩
 ·obtain⟨v',w',hr,h2,h3⟩:=sH (P:=Tryz.prog) w base 23 ty 9 i0 (.string ⟨#[]⟩) 16 Tryz.underlying23 hi ig fs fk rfl q xs.length (xs.map Value.string) (by simp) hc a c (.string p) hp (by unfold maxLen;omega) (by omega) vL;refine⟨v',w',none,hr,.inl ?_,h3,fun k hk=>by cases hk⟩;rw[hm,List.length_append];exact h2
def xO (B:Nat) (w:World) (row:Option Nat):Prop:=∀k,row=some k->B<=k/\∃ir fr,w.heap[k]? =some (.cells ir 9 fr)
theorem ba (w:World) {ops:Array Oper} {rest:List Oper} {o:Oper} {a:Act} {Q:Exit->Act->World->Prop} (PA:o.guard=none) (s x:Operand)
  (ho:o.op=.call {callee:=.builtin .append,args:= #[s,x],argTypes:= #[23,23]})
  (base:Nat) (v:Value) (xs:List ByteArray) (hs:a.eval s=v) (aQ:aX w base v xs) (ad:Addr) (c:Nat) (p:ByteArray) (hx:a.eval x=.slice (some ad) 1 c) (hp:w.cell? (ad.add 0)=some (.string p))
  (bv:xs.length<=1000000000) (vL:base<=w.heap.size)
  (h:∀g n' c' w' row,aX w' base (.slice (some g) n' c') (xs++[p])->w.grownBy w' row->xO base w row->wpList Tryz.prog ops Q rest (a.put o.dst (.slice (some g) n' c')) w'):
  wpList Tryz.prog ops Q (o::rest) a w:=by
 refine wpList_plain PA fun K hK=>?_;obtain⟨v',w',row,hr,h2,h3,h4⟩:=sJ w base o.type v xs aQ ad c p hp bv vL;obtain⟨g,c',rfl,_,aO⟩:=h2.form;obtain⟨G,off,rfl,_,_⟩:=aO xs.length p (by simp);unfold Oper.wp execOp;simp only[ho,resolve,invoke,builtin,Sem.run_bind,Sem.run_pure,Result.andThen_ok,List.map_toArray,List.map_cons,List.map_nil,hs,hx,hr];exact hK _ _ (h _ _ _ w' row h2 h3 h4)
structure MkV where
 sch:ByteArray
 usr:ByteArray
 pas:ByteArray
 hh:Bool
 hst:ByteArray
 prt:Int
 opq:Bool
 pv:Value
 xs:List ByteArray
 hq:Bool
 hf:Bool
 qry:ByteArray
 frg:ByteArray
def MkV.cells (x:MkV):Array Value:= #[.string x.sch,.string x.usr,.string x.pas,.bool x.hh,.string x.hst,.int .i64 x.prt,.bool x.opq,x.pv,.bool x.hq,.bool x.hf,.string x.qry,.string x.frg]
def MkV.url (x:MkV):Lz.af:=⟨x.sch.data.toList,x.usr.data.toList,x.pas.data.toList,x.hh,x.hst.data.toList,x.prt,x.opq,x.xs.map (·.data.toList),x.hq,x.hf,x.qry.data.toList,x.frg.data.toList⟩
def cm (sp:Bool):ByteArray:=if sp then⟨#[47,92]⟩else⟨#[47]⟩
structure mw (B M:Nat) (w:World) (x:MkV) (sp:Bool) (sl:ByteArray):Prop where
 row:w.heap[M]? =some (.cells #[.string x.sch,.string x.usr,.string x.pas,.bool x.hh,.string x.hst,.int .i64 x.prt,.bool x.opq,x.pv,.bool x.hq,.bool x.hf,.string x.qry,.string x.frg,.bool sp,.string sl] 82 (0,0))
 own:aX w B x.pv x.xs
 le:B<=M
def ee (B M:Nat) (w:World) (u:Lz.af):Prop:=∃x,mw B M w x (Lz.ae x.sch.data.toList) (cm (Lz.ae x.sch.data.toList))/\Hid (x.url=u)
theorem mw.below {B M:Nat} {w w':World} {x:MkV} {sp:Bool} {sl:ByteArray} (h:mw B M w x sp sl) (hb:Below w.heap.size w w'):mw B M w' x sp sl:=
 ⟨by rw[hb.block M (aI h.row)];exact h.row,h.own.below hb,h.le⟩
theorem ee.below {B M:Nat} {w w':World} {u:Lz.af} (h:ee B M w u) (hb:Below w.heap.size w w'):ee B M w' u:=by
 obtain⟨x,hx,hu⟩:=h;exact⟨x,hx.below hb,hu⟩
theorem ee.form {B M:Nat} {w:World} {u:Lz.af} (h:ee B M w u):∃(sch usr pas:ByteArray) (hh:Bool) (hst:ByteArray) (prt:Int) (opq:Bool) (a:Option Addr) (c:Nat) (xs:List ByteArray) (hq hf:Bool) (qry frg:ByteArray),
  mw B M w ⟨sch,usr,pas,hh,hst,prt,opq,.slice a xs.length c,xs,hq,hf,qry,frg⟩ (Lz.ae sch.data.toList) (cm (Lz.ae sch.data.toList))/\
  u=⟨sch.data.toList,usr.data.toList,pas.data.toList,hh,hst.data.toList,prt,opq,xs.map (fun x:ByteArray=>x.data.toList),hq,hf,qry.data.toList,frg.data.toList⟩/\xs.length<=c/\
  ∀(j:Nat) (x:ByteArray),xs[j]? =some x->∃G off,a=some ⟨G,off,none⟩/\G<w.heap.size/\w.cell? ⟨G,off+j,none⟩=some (.string x):=by
 obtain⟨⟨sch,usr,pas,hh,hst,prt,opq,pv,xs,hq,hf,qry,frg⟩,hm,hu⟩:=h;obtain⟨a,c,iM,hc,aO⟩:=hm.own.form;have VC:pv=.slice a xs.length c:=iM;subst VC;exact⟨sch,usr,pas,hh,hst,prt,opq,a,c,xs,hq,hf,qry,frg,hm,hu.out.symm,hc,aO⟩
def RMk (B M:Nat) (u:Lz.af) (w:World) (e:Ending) (w':World):Prop:=e=.returned (.tuple #[])/\Below B w w'/\ee B M w' u
theorem pF:82≠9:=by decide
theorem qk {B:Nat} {a w w':World} {row:Option Nat} (h:Below B a w) (hg:w.grownBy w' row) (hB:B<=w.heap.size) (hr:xO B w row):Below B a w':=
 h.grown hg hB fun k hk=>(hr k hk).1
theorem FI {w w':World} {row:Option Nat} {B M:Nat} {cs:Array Value} (hM:w.heap[M]? =some (.cells cs 82 (0,0))) (hg:w.grownBy w' row) (hr:xO B w row):w'.heap[M]? =some (.cells cs 82 (0,0)):=by
 rw[hg.block M (aI hM) (fun e=>?_)]
 ·exact hM
 ·obtain⟨_,ir,fr,h1⟩:=hr M e.symm;rw[hM]at h1;injection h1 with h1
  injection h1 with _ h2 _
  exact pF h2
end Go.Proofs.YtlcbhacofagedaaGreatDoor
namespace Lz
open Go
theorem xz {r:UR} {f:af->UR} {u v:af} (hr:∀x,r=.ok x->x.path=u.path/\x.scheme=u.scheme) (hf:∀x y,f x=.ok y->y.path=x.path/\y.scheme=x.scheme) (h:r.bind f=.ok v):v.path=u.path/\v.scheme=u.scheme:=by
 cases r with
 | er n=>cases h
 | ok x=>exact⟨((hf x v h).1).trans (hr x rfl).1,((hf x v h).2).trans (hr x rfl).2⟩
theorem oS {u v:af} {s:Bs} (h:bQ u s=.ok v):v.path=u.path/\v.scheme=u.scheme:=by
 unfold bQ at h;split at h
 ·cases h
 ·injection h with h;subst h;exact⟨rfl,rfl⟩
theorem uN {u v:af} {s:Bs} (h:ck u s=.ok v):v.path=u.path/\v.scheme=u.scheme:=by
 unfold ck at h;split at h
 ·cases h
 ·split at h
  ·cases h
  ·split at h<;>(injection h with h;subst h;exact⟨rfl,rfl⟩)
theorem mc {u v:af} {s:Bs} (h:dZ u s=.ok v):v.path=u.path/\v.scheme=u.scheme:=by
 unfold dZ at h;split at h
 ·split at h
  ·cases h
  ·exact xz (fun x hx=>oS hx) (fun x y hy=>uN hy) h
 ·split at h
  ·cases h
  ·exact xz (fun x hx=>oS hx) (fun x y hy=>uN hy) h
theorem uY {u v:af} {s:Bs} (h:gB u s=.ok v):v.path=u.path/\v.scheme=u.scheme:=by
 unfold gB at h;split at h
 ·split at h
  ·cases h
  ·exact⟨(mc h).1,(mc h).2⟩
 ·exact mc h
end Lz
namespace Go.Proofs.YtlcbhacofagedaaGreatDoor
open Go.RowKit
theorem CW (w:World):(callFunc 282 #[]).run Tryz.prog w=.ok (.value (.tuple #[])) w:=run_call_mark0 Tryz.func282 (by kernel_rfl) (by kernel_rfl) (by kernel_rfl) .disable (by kernel_rfl) w
theorem GG (w:World):(callFunc 284 #[]).run Tryz.prog w=.ok (.value (.tuple #[])) w:=run_call_mark0 Tryz.func284 (by kernel_rfl) (by kernel_rfl) (by kernel_rfl) .enable (by kernel_rfl) w
theorem NJ (a:Addr) (w:World):(callFunc 285 #[.pointer (some a)]).run Tryz.prog w=.ok (.value (.tuple #[])) w:=run_call_marked Tryz.func285 (by kernel_rfl) (by kernel_rfl) (by kernel_rfl) .acquire (by kernel_rfl) a w
theorem Mn (a:Addr) (w:World):(callFunc 287 #[.pointer (some a)]).run Tryz.prog w=.ok (.value (.tuple #[])) w:=run_call_marked Tryz.func287 (by kernel_rfl) (by kernel_rfl) (by kernel_rfl) .releaseMerge (by kernel_rfl) a w
theorem Ur (a:Addr) (x:Value) (u:FrameMode) (w:World) (hc:w.cell? a=some x) (hz:w.frozen? a=false):
  CallsD Tryz.prog 249 #[.pointer (some a),.bool true] u w fun e u' w'=>u'=u/\(e=.returned (.tuple #[])/\w'=w.drew.setCell a (.int .u32 1)):=by
 have DK:w.drew.cell? a=some x:=by go_simp
 have Z6:w.drew.frozen? a=false:=by go_simp
 have hst:=run_call_store (P:=Tryz.prog) Tryz.func271 (by kernel_rfl) (by kernel_rfl) (by kernel_rfl) (by kernel_rfl) (k:=.u32) (y:=1) DK Z6
 go_enter_d Tryz.func249,Tryz.ntmps249
 go_wp2
 go_region_calls
 all_goals (go_end0;exact⟨rfl,rfl⟩)
theorem Q0 (a:Addr) (u:FrameMode) (w:World) (hc:w.cell? a=some (.int .i32 1)) (hz:w.frozen? a=false):
  CallsD Tryz.prog 248 #[.pointer (some a)] u w fun e u' w'=>u'=u/\(e=.returned (.tuple #[])/\w'=w.setCell a (.int .i32 0)):=by
 have hd:=CW;have he:=GG;have hr:=Mn;have acC:=run_call_add (P:=Tryz.prog) Tryz.func288 (by kernel_rfl) (by kernel_rfl) (by kernel_rfl) .i32 (by kernel_rfl) (y:= -1) (s:=0) hc hz (by simp[go_sem];rfl);have sV:=run_convert_to_unsafe (P:=Tryz.prog) (src:=294) (dst:=106) Tryz.underlying294 Tryz.underlying106 (by kernel_rfl) hc
 go_enter_d Tryz.func248,Tryz.ntmps248
 go_wp2
 go_end0
 go_wp2
 go_end0
 exact⟨rfl,rfl⟩
theorem X2 (a:Addr) (w:World) (hc:w.cell? a=some (.int .i32 0)) (hz:w.frozen? a=false):
  Calls Tryz.prog 247 #[.pointer (some a)] w fun e w'=>e=.returned (.tuple #[])/\w'=w.setCell a (.int .i32 1):=by
 have hd:=CW;have he:=GG;have ha:=NJ;have acL:=run_call_cas_hit (P:=Tryz.prog) Tryz.func283 (by kernel_rfl) (by kernel_rfl) (by kernel_rfl) .i32 (by kernel_rfl) (y:=1) hc hz;have DK:(w.setCell a (.int .i32 1)).cell? a=some (.int .i32 1):=World.cell?_setCell_same w a _ hc;have sV:=run_convert_to_unsafe (P:=Tryz.prog) (src:=294) (dst:=106) Tryz.underlying294 Tryz.underlying106 (by kernel_rfl) DK;go_enter Tryz.func247,Tryz.ntmps247
 go_wp2
 first |go_end0|(simp only[Exit.inBlock,Exit.then];refine bodyPost_ret (results_none rfl _ _ _) rfl ?_)|refine bodyPost_ret (results_none rfl _ _ _) rfl ?_
 go_wp2
 go_end0
 exact⟨rfl,rfl⟩
structure g9 (w:World) (g:Nat):Prop where
 row:∃cs:Array Value,w.heap[g]? =some (.cells cs 251 (0,0))/\(∀k:Nat,k<256->(if k=9\/k=10\/k=13 then ∃A c,cs[k]? =some (.slice (some A) 0 c)else cs[k]? =some (.slice none 0 0)))/\
  ∃G c OJ,cs[256]? =some (.slice (some ⟨G,0,none⟩) 3 c)/\w.heap[G]? =some (.cells OJ 9 (0,0))/\OJ[0]? =some (.string ⟨#[13]⟩)/\OJ[1]? =some (.string ⟨#[10]⟩)/\OJ[2]? =some (.string ⟨#[9]⟩)
theorem g9.kept {w w':World} {g:Nat} (h:g9 w g) (hk:∀(k:Nat) (cs:Array Value) (t:TypeId),w.heap[k]? =some (.cells cs t (0,0))->t=251\/t=9->w'.heap[k]? =w.heap[k]?):g9 w' g:=by
 obtain⟨cs,h1,h2,G,c,OJ,h3,h4,h5⟩:=h.row;exact⟨cs,by rw[hk g cs _ h1 (.inl rfl)];exact h1,h2,G,c,OJ,h3,by rw[hk G OJ _ h4 (.inr rfl)];exact h4,h5⟩
def eV (w:World) (b:Nat) (d s e:Int) (rv ov:Value):Prop:=w.heap[b]? =some (.cells #[.int .u32 d,.int .i32 s,.int .u32 e,rv,ov] 180 (0,0))
theorem g9.set {w:World} {g b:Nat} {d s e:Int} {rv ov:Value} (h:g9 w g) (hr:eV w b d s e rv ov) (k:Nat) (v:Value):g9 (w.setCell ⟨b,k,none⟩ v) g:=
 h.kept fun j _ _ hj ht=>cp (fun e=>by
  have e':j=b:=e;rw[e',show w.heap[b]? =_ from hr]at hj;injection hj with hj
  injection hj with _ h2 _
  rcases ht with ht|ht<;>(rw[ht]at h2;exact absurd h2 (by decide))) v
theorem g9.below {w w':World} {g:Nat} (h:g9 w g) (hb:Below w.heap.size w w'):g9 w' g:=h.kept fun j _ _ hj _=>hb.block j (aI hj)
theorem eV.set {w:World} {b:Nat} {d s e:Int} {rv ov:Value} (h:eV w b d s e rv ov) (k:Nat) (v:Value) {d' s':Int} {rv' ov':Value} (hc:(#[.int .u32 d,.int .i32 s,.int .u32 e,rv,ov]:Array Value).setIfInBounds k v= #[.int .u32 d',.int .i32 s',.int .u32 e,rv',ov']):eV (w.setCell ⟨b,k,none⟩ v) b d' s' e rv' ov':=gF h k v hc
def lC (B b:Nat) (d s e:Int) (w:World) (w':World):Prop:=Below B w w'/\∃g,eV w' b d s e (.iface 252 (.pointer (some ⟨g,0,none⟩))) (.slice none 0 0)/\g9 w' g
theorem YG (B b:Nat) (e:Int) (rv ov:Value) (w:World) (KP:B<=b) (bN:eV w b 0 0 e rv ov)
  (cB:∀W,Below B w W->W=w.setCell ⟨b,1,none⟩ (.int .i32 1)->Calls Tryz.prog 166 #[.pointer (some ⟨b,0,none⟩)] W fun e' W'=>e'=.returned (.tuple #[])/\lC B b 0 1 e W W'):
  Calls Tryz.prog 216 #[.pointer (some ⟨b,0,none⟩),.func (.func 166) #[.pointer (some ⟨b,0,none⟩)] #[]] w fun e' w'=>e'=.returned (.tuple #[])/\lC B b 1 0 e w w':=by
 have c0:=rowAt bN 0 (.int .u32 0) rfl;have c1:=rowAt bN 1 (.int .i32 0) rfl;have f0:=bP bN 0;have f1:=bP bN 1;have hl:=run_call_load (P:=Tryz.prog) Tryz.func246 (by kernel_rfl) (by kernel_rfl) (by kernel_rfl) .u32 (by kernel_rfl) (w:=w.setCell ⟨b,1,none⟩ (.int .i32 1)) (a:=⟨b,0,none⟩) (x:=0) ((World.cell?_setCell_other _ ⟨b,1,none⟩ ⟨b,0,none⟩ _ (by simp)).trans c0);have abf:∀(x:Bool) (w:World),(Op.unary .not (.bool x)).run Tryz.prog w=.ok (.bool (!x)) w:=fun _ _=>rfl;have aC:Below B w (w.setCell ⟨b,1,none⟩ (.int .i32 1)):=(Below.refl B w).setCell (p:=⟨b,1,none⟩) KP _;have CB:=Ih (cB _ aC rfl);have Hb1:=Ih aC;clear cB aC
 go_enter_defers Tryz.func216,Tryz.ntmps216
 go_wp2_with (first |(go_at_call 247;refine(X2 ⟨b,1,none⟩ _ (by go_simp) (by go_simp)).mono ?_;rintro e w' ⟨rfl,rfl⟩)|(go_at_call 215;go_in)|(go_at_call 166;refine CB.out.mono ?_;rintro e2 w2 ⟨rfl,oZ⟩))
 obtain⟨bi,g,qB,DJ⟩:=oZ;have d0:=rowAt qB 0 (.int .u32 0) rfl;have d1:=rowAt qB 1 (.int .i32 1) rfl;have z0:=bP qB 0;have z1:=bP qB 1;have Ao:eV (w2.drew.setCell ⟨b,0,none⟩ (.int .u32 1)) b 1 1 e (.iface 252 (.pointer (some ⟨g,0,none⟩))) (.slice none 0 0):=eV.set (w:=w2.drew) qB 0 (.int .u32 1) (by simp);have vN:g9 (w2.drew.setCell ⟨b,0,none⟩ (.int .u32 1)) g:=g9.set (w:=w2.drew) (DJ.kept fun _ _ _ _ _=>rfl) qB 0 _;have AD:=eV.set Ao 1 (.int .i32 0) (d':=1) (s':=0) (rv':=.iface 252 (.pointer (some ⟨g,0,none⟩))) (ov':=.slice none 0 0) (by simp);have aak:=g9.set vN Ao 1 (.int .i32 0);refine leaves_cons (f:=249) (args:= #[.pointer (some ⟨b,0,none⟩),.bool true]) (by simp) (by simp[go_sem]) ?_;refine(Ur ⟨b,0,none⟩ (.int .u32 0) .returning _ d0 z0).mono ?_;rintro e3 u3 w3 ⟨rfl,rfl,rfl⟩;refine leaves_cons (f:=248) (args:= #[.pointer (some ⟨b,1,none⟩)]) (by simp[settle]) (by simp[go_sem]) ?_;refine(Q0 ⟨b,1,none⟩ _ _ (rowAt Ao 1 _ rfl) (bP Ao 1)).mono ?_;rintro e3 u3 w3 ⟨rfl,rfl,rfl⟩
 have hB4:Below B w ((w2.drew.setCell ⟨b,0,none⟩ (.int .u32 1)).setCell ⟨b,1,none⟩ (.int .i32 0)):=((Hb1.out.trans bi).drew.setCell (p:=⟨b,0,none⟩) KP _).setCell (p:=⟨b,1,none⟩) KP _;have HF:Hid (lC B b 1 0 e w ((w2.drew.setCell ⟨b,0,none⟩ (.int .u32 1)).setCell ⟨b,1,none⟩ (.int .i32 0))):=⟨hB4,g,AD,aak⟩;clear qB Ao AD DJ vN aak hB4
 simp[Leaves,settle,results,Tryz.results216]
 exact HF.out
theorem doO (B b:Nat) (e:Int) (rv ov:Value) (w:World) (KP:B<=b) (bN:eV w b 0 0 e rv ov)
  (cB:∀W,Below B w W->W=w.setCell ⟨b,1,none⟩ (.int .i32 1)->Calls Tryz.prog 166 #[.pointer (some ⟨b,0,none⟩)] W fun e' W'=>e'=.returned (.tuple #[])/\lC B b 0 1 e W W'):
  Calls Tryz.prog 165 #[.pointer (some ⟨b,0,none⟩),.func (.func 166) #[.pointer (some ⟨b,0,none⟩)] #[]] w fun e' w'=>e'=.returned (.tuple #[])/\lC B b 1 0 e w w':=by
 have c0:=rowAt bN 0 (.int .u32 0) rfl;have hl:=run_call_load (P:=Tryz.prog) Tryz.func246 (by kernel_rfl) (by kernel_rfl) (by kernel_rfl) .u32 (by kernel_rfl) c0;have abf:∀(x:Bool) (w:World),(Op.unary .not (.bool x)).run Tryz.prog w=.ok (.bool (!x)) w:=fun _ _=>rfl;have cS:=Ih (YG B b e rv ov w KP bN cB);clear cB;go_enter Tryz.func165,Tryz.ntmps165
 go_wp2_with (first |(go_at_call 216;refine cS.out.mono ?_;rintro e w' ⟨rfl,oZ⟩)|(go_at_call 215;go_in))
 go_end0
 exact⟨rfl,oZ⟩
end Go.Proofs.YtlcbhacofagedaaGreatDoor
namespace Go.Proofs
open Go.Shelf
def Tryz.lays138_ren:Go.Shelf.Ren:=⟨fun|138=>205|195=>240|218=>241|143=>206|219=>162|217=>187|225=>209|224=>210|267=>211|266=>225|314=>243|n=>n,fun|9=>9|3=>3|4=>4|5=>5|0=>0|46=>137|146=>236|51=>168|n=>n,fun|1=>3|n=>n⟩
theorem Tryz.lays138:Go.Proofs.Lays.n138 Tryz.prog Tryz.lays138_ren:=by repeat' first |kernel_rfl|(intro w;rfl)|(intro w;kernel_rfl)|decide|constructor
open Go.RowKit Go.Lib in
theorem Tryz.strings_Count_one (s:ByteArray) (c:UInt8) (w:World):
 Calls Tryz.prog 205 #[.string s,.string ⟨#[c]⟩] w fun e w'=>e=.returned (.int .i64 (Lib.countByte s.data.toList c))/\w'=w:=Any.strings_Count_one Tryz.lays138 s c w
end Go.Proofs
namespace Go.Proofs.YtlcbhacofagedaaGreatDoor
open Go.RowKit
theorem zk (s:ByteArray) (c:UInt8) (w:World):Calls Tryz.prog 205 #[.string s,.string ⟨#[c]⟩] w fun e w'=>e=.returned (.int .i64 ((s.data.toList.count c:Nat):Int))/\w=w':=
 (Tryz.strings_Count_one s c w).mono fun _ _ ⟨h1,h2⟩=>⟨h1,h2.symm⟩
theorem nf:(∀(a:Act) (d:Tmp) (v:Value),a.put (some d) v={a with tmps:=a.tmps.setIfInBounds d v})/\(∀(l:List Value) (i:Nat) (v:Value),l.toArray.setIfInBounds i v=(l.set i v).toArray)/\(∀(x v:Value) (l:List Value),(x::l).set 0 v=v::l)/\(∀(x v:Value) (l:List Value) (n:Nat),(x::l).set (n+1) v=x::l.set n v):=
 ⟨fun _ _ _=>rfl,fun _ _ _=>List.setIfInBounds_toArray ..,fun _ _ _=>rfl,fun _ _ _ _=>rfl⟩
theorem b7 {o:Oper} {ops:Array Oper} {tmps:Array Value} {j d:Nat} {Sp b:Bool} (hg:o.guard=some (j,Sp)) (hd:(ops[j]?).bind (·.dst)=some d) (ht:tmps[d]? =some (.bool b)):Region.wanted o (yielded ops tmps)=(b==Sp):=by
 unfold Region.wanted yielded;rw[hg];simp only;rw[hd]
 show((match (tmps[d]?)with
  | some (.bool b)=>some b
  | _=>none)==some Sp)=_
 rw[ht];cases b<;>cases Sp<;>rfl
section
variable {P:Program} {md:Region.Mode} {ops:Array Oper} {Q:Exit->Act->World->Prop} {S:World->Prop} {fuel:Nat} {listed:Array Bool} {a a':Act} {w:World} {oi:Oper} {v:Value}
theorem TnJ (i d:Nat) (h:wpAnyH P md ops Q S fuel (listed.setIfInBounds i true) a' w) (hi:ops[i]? =some oi:=by rfl) (hd:oi.dst=some d:=by rfl) (ha:a.put (some d) undef=a':=by (simp only[nf];rfl)) (hs:Region.noSelect ops=true:=by kernel_rfl) (hf:Region.free md ops listed i=true:=by kernel_rfl) (hr:(Region.ready md ops listed).contains i=true:=by kernel_rfl) (hQ:∀c a w,Q (.panic c) (a.put oi.dst undef) w->Q (.panic c) a w:=by exact fun _ _ _ h=>h) (hw:Region.wanted oi (yielded ops a.tmps)=false:=by rfl) (hS:S w:=by assumption):wpAnyH P md ops Q S (fuel+1) listed a w:=
 TnD i (some d) hi hd (ha▸h) hs hf hr hQ hw hS
theorem TkL (i:Nat) (h:wpAnyH P md ops Q S fuel (listed.setIfInBounds i true) (a.put oi.dst v) w) (hi:ops[i]? =some oi:=by rfl) (hy:∀w,S w->(execOp a.eval oi).run P w=.ok (.value v) w:=by (intro W yC;go_simp;try with_reducible rfl)) (hs:Region.noSelect ops=true:=by kernel_rfl) (hf:Region.free md ops listed i=true:=by kernel_rfl) (hr:(Region.ready md ops listed).contains i=true:=by kernel_rfl) (hQ:∀c a w,Q (.panic c) (a.put oi.dst v) w->Q (.panic c) a w:=by exact fun _ _ _ h=>h) (hw:Region.wanted oi (yielded ops a.tmps)=true:=by rfl) (hS:S w:=by assumption):wpAnyH P md ops Q S (fuel+1) listed a w:=
 wpAnyH_take hi hs hf hr hQ (Or.inl ⟨hw,hy⟩) hS h
theorem TnL (i:Nat) (h:wpAnyH P md ops Q S fuel (listed.setIfInBounds i true) (a.put oi.dst undef) w) (hi:ops[i]? =some oi:=by rfl) (hs:Region.noSelect ops=true:=by kernel_rfl) (hf:Region.free md ops listed i=true:=by kernel_rfl) (hr:(Region.ready md ops listed).contains i=true:=by kernel_rfl) (hQ:∀c a w,Q (.panic c) (a.put oi.dst undef) w->Q (.panic c) a w:=by exact fun _ _ _ h=>h) (hw:Region.wanted oi (yielded ops a.tmps)=false) (hS:S w:=by assumption):wpAnyH P md ops Q S (fuel+1) listed a w:=
 wpAnyH_take hi hs hf hr hQ (Or.inr ⟨hw,rfl⟩) hS h
theorem RyL (i:Nat) (h:∀K':Act->World->Prop,Shut (∀a w,S w->(S w->wpAnyH P md ops Q S fuel (listed.setIfInBounds i true) a w)->K' a w)->if Region.wanted oi (yielded ops a.tmps)=true then Oper.wp P oi a w K' Q else K' (a.put oi.dst undef) w) (hi:ops[i]? =some oi:=by rfl) (hr:Region.ready md ops listed=[i]:=by kernel_rfl):wpAnyH P md ops Q S (fuel+1) listed a w:=
 wpAnyH_ready hr (by simp) (AllReadyH.cons hi h AllReadyH.nil)
end
theorem cS {P:Program} {f:FuncId} {args:Array Value} {v:Value} {B:Nat} {W:World} {C:World->Prop} (c:Hid (∀V,Below B W V->Calls P f args V fun e w'=>e=.returned v/\Below B W w')) (hC:Hid (∀V,Below B W V->C V)) (V:World) (h:C V/\Below B W V):Calls P f args V fun e w'=>e=.returned v/\C w'/\Below B W w':=
 (c.out V h.2).mono fun _ _ ⟨h1,h2⟩=>⟨h1,hC.out _ h2,h2⟩
theorem cSs {P:Program} {f:FuncId} {args:Array Value} {T:ByteArray->Prop} {B:Nat} {W:World} {C:World->Prop} (c:Hid (∀V,Below B W V->Calls P f args V fun e w'=>∃t:ByteArray,e=.returned (.string t)/\T t/\Below B W w')) (hC:Hid (∀V,Below B W V->C V)) (V:World) (h:C V/\Below B W V):Calls P f args V fun e w'=>∃t:ByteArray,e=.returned (.string t)/\T t/\C w'/\Below B W w':=
 (c.out V h.2).mono fun _ _ ⟨t,h1,h2,h3⟩=>⟨t,h1,h2,hC.out _ h3,h3⟩
theorem rL (s:ByteArray) (i:Nat) (h:i<s.size):(s.extract i (i+1)).data.toList=[s[i]]:=by
 rw[Lib.extract_data,show i+1-i=1 by omega,List.drop_eq_getElem_cons (by rw[aa];exact h)];rfl
end Go.Proofs.YtlcbhacofagedaaGreatDoor
namespace Lz
open Go
def m9 (n:Nat):Nat->List Bs->Option Nat
 | all,[]=>some all
 | all,s::r=>match fv s with
   | none=>none
   | some v=>if(if r=[]then 256^(5-n)else 256)<=v then none else m9 n (all*(if r=[]then 256^(5-n)else 256)+v) r
def jB (b:List Nat):Nat:=b.foldl (fun a x=>a*256+x) 0
theorem q8:∀(b:List Nat) (a:Nat),b.foldl (fun a x=>a*256+x) a=a*256^b.length+jB b
 | [],a=>by simp[jB]
 | x::r,a=>by
   have h1:=q8 r (a*256+x);have h2:=q8 r x;have e:jB (x::r)=r.foldl (fun a x=>a*256+x) x:=by simp[jB]
   rw[List.foldl_cons,h1,e,h2,List.length_cons,Nat.pow_succ,Nat.add_mul,Nat.add_assoc];congr 1;rw[Nat.mul_assoc,Nat.mul_comm 256]
theorem rR (b t:List Nat):jB (b++t)=jB b*256^t.length+jB t:=by
 have:jB (b++t)=t.foldl (fun a x=>a*256+x) (jB b):=by unfold jB;rw[List.foldl_append]
 rw[this,q8]
def nN (v:Nat):Nat->List Nat
 | 0=>[]
 | m+1=>v / 256^m%256::nN v m
theorem Rw (v m:Nat):((List.range m).reverse.map fun k=>v / 256^k%256)=nN v m:=by
 induction m with
 | zero=>rfl
 | succ m ih=>rw[List.range_succ,List.reverse_append,List.map_append,ih];rfl
theorem uD (v m:Nat):(nN v m).length=m:=by
 induction m with
 | zero=>rfl
 | succ m ih=>simp[nN,ih]
theorem LO (v m:Nat):jB (nN v m)=v%256^m:=by
 induction m with
 | zero=>simp[nN,jB,Nat.mod_one]
 | succ m ih=>
   have e:nN v (m+1)=[v / 256^m%256]++nN v m:=rfl;rw[e,rR,ih,uD,show jB [v / 256^m%256]=v / 256^m%256 by simp[jB],Nat.pow_succ];rw[Nat.mod_mul,Nat.mul_comm,Nat.add_comm]
theorem Qz (v m:Nat):∀x∈nN v m,x<256:=by
 induction m with
 | zero=>intro x h;cases h
 | succ m ih=>
   intro x h;rcases List.mem_cons.1 h with rfl|h
   ·exact Nat.mod_lt _ (by omega)
   ·exact ih x h
theorem BQ (n:Nat) (hn:n<=4):∀(l:List Bs) (all:Nat),match dI n l with
  | none=>m9 n all l=none
  | some b=>m9 n all l=some (all*256^b.length+jB b)/\(∀x∈b,x<256)/\(l≠[]->b.length+n=l.length+4)
 | [],all=>by simp[dI,m9,jB]
 | s::r,all=>by
   have e1:dI n (s::r)=match fv s with
    | none=>none
    | some v=>if 0<v / 256^(if r=[]then 5-n else 1)then none else(dI n r).map fun t=>((List.range (if r=[]then 5-n else 1)).reverse.map fun k=>v / 256^k%256)++t:=by
    rw[dI];cases fv s<;>rfl
   have e2:m9 n all (s::r)=match fv s with
    | none=>none
    | some v=>if(if r=[]then 256^(5-n)else 256)<=v then none else m9 n (all*(if r=[]then 256^(5-n)else 256)+v) r:=by
    rw[m9]
   rw[e1,e2];cases fv s with
   | none=>rfl
   | some v=>
     simp only;obtain⟨m,hm⟩:∃m,m=(if r=[]then 5-n else 1):=⟨_,rfl⟩;have hp:(if r=[]then 256^(5-n)else 256)=256^m:=by rw[hm];split<;>rfl
     rw[<-hm,hp];have ei:0<256^m:=Nat.pow_pos (by omega);by_cases hv:256^m<=v
     ·rw[if_pos ((Nat.div_pos_iff).2 ⟨ei,hv⟩),if_pos hv]
     ·rw[if_neg (by rw[Nat.div_pos_iff];omega),if_neg hv];have ih:=BQ n hn r (all*256^m+v);cases hf:dI n r with
      | none=>rw[hf]at ih;exact ih
      | some t=>
        rw[hf]at ih;obtain⟨h1,h2,h3⟩:=ih;simp only[Option.map_some];rw[Rw];refine⟨?_,?_,?_⟩
        ·rw[h1,rR,LO,List.length_append,uD,Nat.mod_eq_of_lt (by omega),Nat.add_mul,Nat.pow_add,Nat.mul_assoc,Nat.add_assoc]
        ·intro x hx;rcases List.mem_append.1 hx with h|h
         ·exact Qz v m x h
         ·exact h2 x h
        ·intro _;rw[List.length_append,uD,List.length_cons];by_cases hr:r=[]
         ·rw[hm,if_pos hr];subst hr;have:t=[]:=by simpa [dI]using hf.symm
          rw[this];simp;omega
         ·have:=h3 hr;rw[hm,if_neg hr];omega
theorem aaw {a b c d:Nat} (ha:a<256) (hb:b<256) (hc:c<256) (hd:d<256):
  jB [a,b,c,d] / 2^24%256=a/\jB [a,b,c,d] / 2^16%256=b/\jB [a,b,c,d] / 2^8%256=c/\jB [a,b,c,d] / 2^0%256=d/\jB [a,b,c,d]<4294967296:=by
 have e:jB [a,b,c,d]=((a*256+b)*256+c)*256+d:=by simp[jB]
 rw[e];refine⟨?_,?_,?_,?_,?_⟩<;>omega
theorem Ko:∀{b:List Nat},b.length=4->∃x y z t,b=[x,y,z,t]
 | [x,y,z,t],_=>⟨x,y,z,t,rfl⟩
theorem Km (l:List Bs) (hl:l≠[]) (h4:l.length<=4):dJ l=(m9 l.length 0 l).map fun v=>cu [v / 2^24%256,v / 2^16%256,v / 2^8%256,v / 2^0%256]:=by
 have h:=BQ l.length h4 l 0;unfold dJ;rw[if_neg (by omega)];cases hf:dI l.length l with
 | none=>rw[hf]at h;rw[h];rfl
 | some b=>
   rw[hf]at h;obtain⟨h1,h2,h3⟩:=h;have hb:b.length=4:=by have:=h3 hl;omega
   rw[Nat.zero_mul,Nat.zero_add]at h1;rw[h1];obtain⟨x,y,z,t,rfl⟩:=Ko hb;obtain⟨k1,k2,k3,k4,_⟩:=aaw (h2 x (by simp)) (h2 y (by simp)) (h2 z (by simp)) (h2 t (by simp));rw[Option.map_some,Option.map_some,k1,k2,k3,k4]
end Lz
