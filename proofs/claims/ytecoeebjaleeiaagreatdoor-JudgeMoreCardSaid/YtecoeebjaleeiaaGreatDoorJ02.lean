/-
  Plain laws on lists of bytes: what the packages ascii and sources compute, with no program in sight. No condition.
-/
import Derived.Lib.Split
import Derived.Lib.AtoiAll
import Derived.Lib.ItoaNum
import Derived.Lib.TrimByte
namespace Lz
open Go
abbrev Bs:=List UInt8
theorem aJ {p:UInt8->Prop} (h:∀n:Fin 256,p (UInt8.ofNat n.val)) (c:UInt8):p c:=by
 have:=h ⟨c.toNat,c.toNat_lt⟩;simpa using this
def av (c:UInt8):Bs->List Bs
 | []=>[[]]
 | b::l=>if b==c then[]::av c l else match av c l with
   | []=>[[b]]
   | h::t=>(b::h)::t
theorem ng (c b:UInt8) (l:Bs):([c]:Bs).isPrefixOf (b::l)=(c==b):=by simp[List.isPrefixOf]
theorem pR {c b:UInt8} {l:Bs} (h:b=c):Lib.index (b::l) [c]=0:=by
 subst h;unfold Lib.index;rw[ng];simp
theorem oM {c b:UInt8} {l:Bs} (h:b≠c):Lib.index (b::l) [c]=if Lib.index l [c]== -1 then -1 else Lib.index l [c]+1:=by
 rw[Lib.index,ng];have:(c==b)=false:=by simpa using fun e=>h e.symm
 rw[this];rfl
theorem yU (c:UInt8):Lib.index [] [c]= -1:=rfl
theorem nx (c:UInt8):∀l:Bs,Lib.splitK [c] 0 (Lib.count l [c]) l=av c l/\(av c l).length=Lib.count l [c]+1
 | []=>by
   have:Lib.count [] [c]=0:=Lib.count_miss (yU c);rw[this];exact⟨rfl,rfl⟩
 | b::l=>by
   obtain⟨Wy,Yi⟩:=nx c l;have ed:([c]:Bs)≠[]:=by simp
   by_cases hb:b=c
   ·have hi:Lib.index (b::l) [c]=((0:Nat):Int):=pR hb;have hc:=Lib.count_hit ed hi;simp only[Nat.zero_add,List.length_singleton,List.drop_succ_cons,List.drop_zero]at hc;rw[hc,Nat.add_comm 1];have hs:av c (b::l)=[]::av c l:=by rw[av,if_pos (by simpa using hb)]
    refine⟨?_,?_⟩
    ·rw[Lib.splitK,if_neg (by rw[hi];decide),hi,hs]
     simp[Wy]
    ·rw[hs];simp[Yi]
   ·have hm:=oM (l:=l) hb;have hs:av c (b::l)=match av c l with|[]=>[[b]]|h::t=>(b::h)::t:=by rw[av,if_neg (by simpa using hb)]
    by_cases hi:Lib.index l [c]= -1
    ·have h1:Lib.index (b::l) [c]= -1:=by rw[hm,hi];rfl
     have c0:=Lib.count_miss hi;rw[Lib.count_miss h1];rw[c0]at Wy Yi;rw[hs,<-Wy];exact⟨rfl,rfl⟩
    ·have Iv:=Lib.index_ge l [c];obtain⟨i,OX⟩:∃i:Nat,Lib.index l [c]=i:=⟨(Lib.index l [c]).toNat,by omega⟩;have h1:Lib.index (b::l) [c]=((i+1:Nat):Int):=by rw[hm,if_neg (by simpa using hi),OX];rfl
     have c1:=Lib.count_hit ed h1;have c0:=Lib.count_hit ed OX;simp only[List.length_singleton]at c0 c1;rw[show i+1+1=(i+1)+1 from rfl,List.drop_succ_cons]at c1;have cc:Lib.count (b::l) [c]=Lib.count l [c]:=by rw[c1,c0]
     rw[cc]
     have e1:Lib.splitK [c] 0 (Lib.count l [c]) l=l.take i::Lib.splitK [c] 0 (Lib.count (l.drop (i+1)) [c]) (l.drop (i+1)):=by
      rw[c0,Nat.add_comm 1,Lib.splitK,if_neg (by rw[OX];simp;try omega),OX]
      simp
     have e2:Lib.splitK [c] 0 (Lib.count l [c]) (b::l)=(b::l.take i)::Lib.splitK [c] 0 (Lib.count (l.drop (i+1)) [c]) (l.drop (i+1)):=by
      rw[c0,Nat.add_comm 1,Lib.splitK,if_neg (by rw[h1];simp;try omega),h1]
      simp[Int.toNat]
     rw[hs,e2,<-Wy,e1];refine⟨rfl,?_⟩;rw[<-Wy,e1]at Yi;simpa using Yi
theorem mz (c:UInt8) (l:Bs):Lib.split l [c]=av c l:=(nx c l).1
theorem ky (c:UInt8):∀(l x:Bs),x∈av c l->x.length<=l.length
 | [],x,h=>by simp[av]at h;simp[h]
 | b::l,x,h=>by
   rw[av]at h;split at h
   ·rcases List.mem_cons.1 h with rfl|h
    ·simp
    ·exact Nat.le_succ_of_le (ky c l x h)
   ·split at h
    ·rcases List.mem_cons.1 h with rfl|h
     ·simp
     ·cases h
    ·rename_i h0 t hs;rcases List.mem_cons.1 h with rfl|h
     ·have:=ky c l h0 (by rw[hs];simp);simpa using this
     ·exact Nat.le_succ_of_le (ky c l x (by rw[hs];simp[h]))
theorem fY (c:UInt8):∀l:Bs,(av c l).length<=l.length+1
 | []=>by simp[av]
 | b::l=>by
   have ih:=fY c l;rw[av];split
   ·simpa using ih
   ·split
    ·simp
    ·rename_i h0 t hs;rw[hs]at ih
     simp at ih⊢
     omega
def bG (c:UInt8):Bool:=(65<=c&&c<=90)||(97<=c&&c<=122)
def bj (c:UInt8):Bool:=48<=c&&c<=57
def low1 (c:UInt8):UInt8:=if 65<=c&&c<=90 then c+32 else c
def low (l:Bs):Bs:=l.map low1
def jX (c:UInt8):Bool:=bG c||bj c||c==45
def mB (c:UInt8):Bool:=jX c||c==43||c==47||c==95
def iw (c:UInt8):Bool:=jX c||c==43||c==46
def ib (c:UInt8):Bool:=32<c&&c<127&& !([63,35,59,44,34,60,62,92,94,96,123,124,125].contains c)
def gR (p:UInt8->Bool) (l:Bs):Bool:=l.all p&& !l.isEmpty
def kr (l:Bs):Bool:=decide (l.length-(Lib.trimRightB l 61).length<=2)&&gR mB (Lib.trimRightB l 61)
def fT (l:Bs):Bool:=(match l with|[]=>false|c::_=>bG c)&&gR iw l
def im (l:Bs):Bool:=(Lib.split l [46]).all (gR jX)
structure Src where
 kind:Int
 text:Bs
 bits:Int
 scheme:Bs
 host:Bs
 wild:Bool
 port:Int
 path:Bs
 deriving DecidableEq,Repr
def dX:List Bs:=[[115,101,108,102],[117,110,115,97,102,101,45,105,110,108,105,110,101],[117,110,115,97,102,101,45,101,118,97,108],[115,116,114,105,99,116,45,100,121,110,97,109,105,99],[117,110,115,97,102,101,45,104,97,115,104,101,115],[114,101,112,111,114,116,45,115,97,109,112,108,101],[119,97,115,109,45,117,110,115,97,102,101,45,101,118,97,108],[117,110,115,97,102,101,45,97,108,108,111,119,45,114,101,100,105,114,101,99,116,115]]
def xS:Bs:=[110,111,110,99,101,45]
def vO (bits:Int):Bs:=[115,104,97]++Lib.itoa bits++[45]
def Uz (t:Bs):Src:=⟨1,t,0,[],[],false,-1,[]⟩
def I7 (t:Bs):Src:=⟨2,[],0,t,[],false,-1,[]⟩
def FE (t:Bs):Src:=⟨4,t,0,[],[],false,-1,[]⟩
def IS (t:Bs) (b:Int):Src:=⟨5,t,b,[],[],false,-1,[]⟩
def gP (l:Bs) (bits:Int):Option Src:=if Lib.hasPrefix (low l) (vO bits)&&kr (l.drop (vO bits).length)then some (IS (l.drop (vO bits).length) bits)else none
def iR (l:Bs):Option Src:=
 if dX.contains (low l)then some (Uz (low l))
 else if Lib.hasPrefix (low l) xS&&kr (l.drop 6)then some (FE (l.drop 6))
 else(gP l 256).or ((gP l 384).or (gP l 512))
def AD (l:Bs):Option (Bool×Bs):=
 if l=[42]then some (true,[])
 else if im (Lib.trimPrefix l [42,46])then some (Lib.hasPrefix l [42,46],low (Lib.trimPrefix l [42,46]))else none
def mu (l:Bs):Option Int:=
 if l=[42]then some (-2)
 else match Lib.atoiAll l with
  | .ok n=>if gR bj l&&decide (n<=65535)then some n else none
  | _=>none
def lJ (sch path r:Bs):Option Src:=
 match AD (Lib.cut r [58]).1 with
 | none=>none
 | some (wild,host)=>
   match (if(Lib.cut r [58]).2.2 then mu (Lib.cut r [58]).2.1 else some (-1))with
   | none=>none
   | some port=>if path.isEmpty||gR ib path then some ⟨3,[],0,sch,host,wild,port,path⟩else none
def ly (sch l:Bs):Option Src:=
 if 0<=Lib.indexByte l 47 then lJ sch (l.drop (Lib.indexByte l 47).toNat) (l.take (Lib.indexByte l 47).toNat)else lJ sch [] l
def gA (l:Bs):Option Src:=
 let c:=Lib.cut l [58,47,47]
 if c.2.2 then(if fT c.1 then ly (low c.1) c.2.1 else none)else ly [] l
def vU (l:Bs):Bool:=decide (1<l.length)&&l.head? ==some 39&&l.getLast? ==some 39
def ez (l:Bs):Option Src:=
 if vU l then iR ((l.drop 1).dropLast)
 else if Lib.hasSuffix l [58]&&fT (Lib.trimSuffix l [58])then some (I7 (low (Lib.trimSuffix l [58])))
 else gA l
def wC (x:Src):Bs:=
 (if x.scheme=[]then[]else x.scheme++[58,47,47])++
 (if x.wild then(if x.host=[]then[42]else[42,46]++x.host)else x.host)++
 (if x.port= -2 then[58,42]else if 0<=x.port then 58::Lib.itoa x.port else[])++x.path
def SV (x:Src):Bs:=
 if x.kind=1 then 39::x.text++[39]
 else if x.kind=4 then[39,110,111,110,99,101,45]++x.text++[39]
 else if x.kind=5 then[39,115,104,97]++Lib.itoa x.bits++[45]++x.text++[39]
 else if x.kind=2 then x.scheme++[58]
 else if x.kind=3 then wC x
 else[]
end Lz
