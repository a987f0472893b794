/-
  Plain laws on lists of bytes: what the packages ascii and sources compute, with no program in sight. No condition.
-/
import Derived.Lib.Split
import Derived.Lib.AtoiAll
import Derived.Lib.ItoaNum
import Derived.Lib.TrimByte
namespace Lz
open Go
abbrev Bs:=List UInt8
theorem au {p:UInt8->Prop} (h:∀n:Fin 256,p (UInt8.ofNat n.val)) (c:UInt8):p c:=by
 have:=h ⟨c.toNat,c.toNat_lt⟩;simpa using this
def ag (c:UInt8):Bs->List Bs
 | []=>[[]]
 | b::l=>if b==c then[]::ag c l else match ag c l with
   | []=>[[b]]
   | h::t=>(b::h)::t
theorem lE (c b:UInt8) (l:Bs):([c]:Bs).isPrefixOf (b::l)=(c==b):=by simp[List.isPrefixOf]
theorem kg {c b:UInt8} {l:Bs} (h:b=c):Lib.index (b::l) [c]=0:=by
 subst h;unfold Lib.index;rw[lE];simp
theorem jA {c b:UInt8} {l:Bs} (h:b≠c):Lib.index (b::l) [c]=if Lib.index l [c]== -1 then -1 else Lib.index l [c]+1:=by
 rw[Lib.index,lE];have:(c==b)=false:=by simpa using fun e=>h e.symm
 rw[this];rfl
theorem wl (c:UInt8):Lib.index [] [c]= -1:=rfl
theorem ld (c:UInt8):∀l:Bs,Lib.splitK [c] 0 (Lib.count l [c]) l=ag c l/\(ag c l).length=Lib.count l [c]+1
 | []=>by
   have:Lib.count [] [c]=0:=Lib.count_miss (wl c);rw[this];exact⟨rfl,rfl⟩
 | b::l=>by
   obtain⟨Xa,Xi⟩:=ld c l;have dG:([c]:Bs)≠[]:=by simp
   by_cases hb:b=c
   ·have hi:Lib.index (b::l) [c]=((0:Nat):Int):=kg hb;have hc:=Lib.count_hit dG hi;simp only[Nat.zero_add,List.length_singleton,List.drop_succ_cons,List.drop_zero]at hc;rw[hc,Nat.add_comm 1];have hs:ag c (b::l)=[]::ag c l:=by rw[ag,if_pos (by simpa using hb)]
    refine⟨?_,?_⟩
    ·rw[Lib.splitK,if_neg (by rw[hi];decide),hi,hs]
     simp[Xa]
    ·rw[hs];simp[Xi]
   ·have hm:=jA (l:=l) hb;have hs:ag c (b::l)=match ag c l with|[]=>[[b]]|h::t=>(b::h)::t:=by rw[ag,if_neg (by simpa using hb)]
    by_cases hi:Lib.index l [c]= -1
    ·have h1:Lib.index (b::l) [c]= -1:=by rw[hm,hi];rfl
     have c0:=Lib.count_miss hi;rw[Lib.count_miss h1];rw[c0]at Xa Xi;rw[hs,<-Xa];exact⟨rfl,rfl⟩
    ·have o6:=Lib.index_ge l [c];obtain⟨i,yG⟩:∃i:Nat,Lib.index l [c]=i:=⟨(Lib.index l [c]).toNat,by omega⟩;have h1:Lib.index (b::l) [c]=((i+1:Nat):Int):=by rw[hm,if_neg (by simpa using hi),yG];rfl
     have c1:=Lib.count_hit dG h1;have c0:=Lib.count_hit dG yG;simp only[List.length_singleton]at c0 c1;rw[show i+1+1=(i+1)+1 from rfl,List.drop_succ_cons]at c1;have cc:Lib.count (b::l) [c]=Lib.count l [c]:=by rw[c1,c0]
     rw[cc]
     have e1:Lib.splitK [c] 0 (Lib.count l [c]) l=l.take i::Lib.splitK [c] 0 (Lib.count (l.drop (i+1)) [c]) (l.drop (i+1)):=by
      rw[c0,Nat.add_comm 1,Lib.splitK,if_neg (by rw[yG];simp;try omega),yG]
      simp
     have e2:Lib.splitK [c] 0 (Lib.count l [c]) (b::l)=(b::l.take i)::Lib.splitK [c] 0 (Lib.count (l.drop (i+1)) [c]) (l.drop (i+1)):=by
      rw[c0,Nat.add_comm 1,Lib.splitK,if_neg (by rw[h1];simp;try omega),h1]
      simp[Int.toNat]
     rw[hs,e2,<-Xa,e1];refine⟨rfl,?_⟩;rw[<-Xa,e1]at Xi;simpa using Xi
theorem jF (c:UInt8) (l:Bs):Lib.split l [c]=ag c l:=(ld c l).1
theorem iX (c:UInt8):∀(l x:Bs),x∈ag c l->x.length<=l.length
 | [],x,h=>by simp[ag]at h;simp[h]
 | b::l,x,h=>by
   rw[ag]at h;split at h
   ·rcases List.mem_cons.1 h with rfl|h
    ·simp
    ·exact Nat.le_succ_of_le (iX c l x h)
   ·split at h
    ·rcases List.mem_cons.1 h with rfl|h
     ·simp
     ·cases h
    ·rename_i h0 t hs;rcases List.mem_cons.1 h with rfl|h
     ·have:=iX c l h0 (by rw[hs];simp);simpa using this
     ·exact Nat.le_succ_of_le (iX c l x (by rw[hs];simp[h]))
theorem dz (c:UInt8):∀l:Bs,(ag c l).length<=l.length+1
 | []=>by simp[ag]
 | b::l=>by
   have ih:=dz c l;rw[ag];split
   ·simpa using ih
   ·split
    ·simp
    ·rename_i h0 t hs;rw[hs]at ih
     simp at ih⊢
     omega
def aW (c:UInt8):Bool:=(65<=c&&c<=90)||(97<=c&&c<=122)
def aA (c:UInt8):Bool:=48<=c&&c<=57
def low1 (c:UInt8):UInt8:=if 65<=c&&c<=90 then c+32 else c
def low (l:Bs):Bs:=l.map low1
def fC (c:UInt8):Bool:=aW c||aA c||c==45
def jz (c:UInt8):Bool:=fC c||c==43||c==47||c==95
def eH (c:UInt8):Bool:=fC c||c==43||c==46
def dA (c:UInt8):Bool:=32<c&&c<127&& !([63,35,59,44,34,60,62,92,94,96,123,124,125].contains c)
def dj (p:UInt8->Bool) (l:Bs):Bool:=l.all p&& !l.isEmpty
def eO (l:Bs):Bool:=decide (l.length-(Lib.trimRightB l 61).length<=2)&&dj jz (Lib.trimRightB l 61)
def bO (l:Bs):Bool:=(match l with|[]=>false|c::_=>aW c)&&dj eH l
def eF (l:Bs):Bool:=(Lib.split l [46]).all (dj fC)
structure Src where
 kind:Int
 text:Bs
 bits:Int
 scheme:Bs
 host:Bs
 wild:Bool
 port:Int
 path:Bs
 deriving DecidableEq,Repr
def bq:List Bs:=[[115,101,108,102],[117,110,115,97,102,101,45,105,110,108,105,110,101],[117,110,115,97,102,101,45,101,118,97,108],[115,116,114,105,99,116,45,100,121,110,97,109,105,99],[117,110,115,97,102,101,45,104,97,115,104,101,115],[114,101,112,111,114,116,45,115,97,109,112,108,101],[119,97,115,109,45,117,110,115,97,102,101,45,101,118,97,108],[117,110,115,97,102,101,45,97,108,108,111,119,45,114,101,100,105,114,101,99,116,115]]
def m8:Bs:=[110,111,110,99,101,45]
def qS (bits:Int):Bs:=[115,104,97]++Lib.itoa bits++[45]
def Qo (t:Bs):Src:=⟨1,t,0,[],[],false,-1,[]⟩
def tm (t:Bs):Src:=⟨2,[],0,t,[],false,-1,[]⟩
def zX (t:Bs):Src:=⟨4,t,0,[],[],false,-1,[]⟩
def ye (t:Bs) (b:Int):Src:=⟨5,t,b,[],[],false,-1,[]⟩
def eU (l:Bs) (bits:Int):Option Src:=if Lib.hasPrefix (low l) (qS bits)&&eO (l.drop (qS bits).length)then some (ye (l.drop (qS bits).length) bits)else none
def dh (l:Bs):Option Src:=
 if bq.contains (low l)then some (Qo (low l))
 else if Lib.hasPrefix (low l) m8&&eO (l.drop 6)then some (zX (l.drop 6))
 else(eU l 256).or ((eU l 384).or (eU l 512))
def mT (l:Bs):Option (Bool×Bs):=
 if l=[42]then some (true,[])
 else if eF (Lib.trimPrefix l [42,46])then some (Lib.hasPrefix l [42,46],low (Lib.trimPrefix l [42,46]))else none
def ez (l:Bs):Option Int:=
 if l=[42]then some (-2)
 else match Lib.atoiAll l with
  | .ok n=>if dj aA l&&decide (n<=65535)then some n else none
  | _=>none
def fH (sch path r:Bs):Option Src:=
 match mT (Lib.cut r [58]).1 with
 | none=>none
 | some (wild,host)=>
   match (if(Lib.cut r [58]).2.2 then ez (Lib.cut r [58]).2.1 else some (-1))with
   | none=>none
   | some port=>if path.isEmpty||dj dA path then some ⟨3,[],0,sch,host,wild,port,path⟩else none
def gK (sch l:Bs):Option Src:=
 if 0<=Lib.indexByte l 47 then fH sch (l.drop (Lib.indexByte l 47).toNat) (l.take (Lib.indexByte l 47).toNat)else fH sch [] l
def cZ (l:Bs):Option Src:=
 let c:=Lib.cut l [58,47,47]
 if c.2.2 then(if bO c.1 then gK (low c.1) c.2.1 else none)else gK [] l
def iH (l:Bs):Bool:=decide (1<l.length)&&l.head? ==some 39&&l.getLast? ==some 39
def bR (l:Bs):Option Src:=
 if iH l then dh ((l.drop 1).dropLast)
 else if Lib.hasSuffix l [58]&&bO (Lib.trimSuffix l [58])then some (tm (low (Lib.trimSuffix l [58])))
 else cZ l
def vu (x:Src):Bs:=
 (if x.scheme=[]then[]else x.scheme++[58,47,47])++
 (if x.wild then(if x.host=[]then[42]else[42,46]++x.host)else x.host)++
 (if x.port= -2 then[58,42]else if 0<=x.port then 58::Lib.itoa x.port else[])++x.path
def S0 (x:Src):Bs:=
 if x.kind=1 then 39::x.text++[39]
 else if x.kind=4 then[39,110,111,110,99,101,45]++x.text++[39]
 else if x.kind=5 then[39,115,104,97]++Lib.itoa x.bits++[45]++x.text++[39]
 else if x.kind=2 then x.scheme++[58]
 else if x.kind=3 then vu x
 else[]
end Lz
