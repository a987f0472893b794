/-
  Plain laws on lists of bytes: what the packages ascii and sources compute, with no program in sight. No condition.
-/
import Derived.Lib.Split
import Derived.Lib.AtoiAll
import Derived.Lib.ItoaNum
import Derived.Lib.TrimByte
namespace Lz
open Go
abbrev Bs:=List UInt8
theorem byte_all {p:UInt8->Prop} (h:∀n:Fin 256,p (UInt8.ofNat n.val)) (c:UInt8):p c:=by
 have:=h ⟨c.toNat,c.toNat_lt⟩;simpa using this
def splitC (c:UInt8):Bs->List Bs
 | []=>[[]]
 | b::l=>if b==c then[]::splitC c l else match splitC c l with
   | []=>[[b]]
   | h::t=>(b::h)::t
theorem isPrefix_one (c b:UInt8) (l:Bs):([c]:Bs).isPrefixOf (b::l)=(c==b):=by simp[List.isPrefixOf]
theorem index_one_hit {c b:UInt8} {l:Bs} (h:b=c):Lib.index (b::l) [c]=0:=by
 subst h;unfold Lib.index;rw[isPrefix_one];simp
theorem index_one_miss {c b:UInt8} {l:Bs} (h:b≠c):Lib.index (b::l) [c]=if Lib.index l [c]== -1 then -1 else Lib.index l [c]+1:=by
 rw[Lib.index,isPrefix_one];have:(c==b)=false:=by simpa using fun e=>h e.symm
 rw[this];rfl
theorem index_one_nil (c:UInt8):Lib.index [] [c]= -1:=rfl
theorem split_both (c:UInt8):∀l:Bs,Lib.splitK [c] 0 (Lib.count l [c]) l=splitC c l/\(splitC c l).length=Lib.count l [c]+1
 | []=>by
   have:Lib.count [] [c]=0:=Lib.count_miss (index_one_nil c);rw[this];exact⟨rfl,rfl⟩
 | b::l=>by
   obtain⟨ih1,ih2⟩:=split_both c l;have hne:([c]:Bs)≠[]:=by simp
   by_cases hb:b=c
   ·have hi:Lib.index (b::l) [c]=((0:Nat):Int):=index_one_hit hb;have hc:=Lib.count_hit hne hi;simp only[Nat.zero_add,List.length_singleton,List.drop_succ_cons,List.drop_zero]at hc;rw[hc,Nat.add_comm 1];have hs:splitC c (b::l)=[]::splitC c l:=by rw[splitC,if_pos (by simpa using hb)]
    refine⟨?_,?_⟩
    ·rw[Lib.splitK,if_neg (by rw[hi];decide),hi,hs]
     simp[ih1]
    ·rw[hs];simp[ih2]
   ·have hm:=index_one_miss (l:=l) hb;have hs:splitC c (b::l)=match splitC c l with|[]=>[[b]]|h::t=>(b::h)::t:=by rw[splitC,if_neg (by simpa using hb)]
    by_cases hi:Lib.index l [c]= -1
    ·have h1:Lib.index (b::l) [c]= -1:=by rw[hm,hi];rfl
     have c0:=Lib.count_miss hi;rw[Lib.count_miss h1];rw[c0]at ih1 ih2;rw[hs,<-ih1];exact⟨rfl,rfl⟩
    ·have hge:=Lib.index_ge l [c];obtain⟨i,hin⟩:∃i:Nat,Lib.index l [c]=i:=⟨(Lib.index l [c]).toNat,by omega⟩;have h1:Lib.index (b::l) [c]=((i+1:Nat):Int):=by rw[hm,if_neg (by simpa using hi),hin];rfl
     have c1:=Lib.count_hit hne h1;have c0:=Lib.count_hit hne hin;simp only[List.length_singleton]at c0 c1;rw[show i+1+1=(i+1)+1 from rfl,List.drop_succ_cons]at c1;have cc:Lib.count (b::l) [c]=Lib.count l [c]:=by rw[c1,c0]
     rw[cc]
     have e1:Lib.splitK [c] 0 (Lib.count l [c]) l=l.take i::Lib.splitK [c] 0 (Lib.count (l.drop (i+1)) [c]) (l.drop (i+1)):=by
      rw[c0,Nat.add_comm 1,Lib.splitK,if_neg (by rw[hin];simp;try omega),hin]
      simp
     have e2:Lib.splitK [c] 0 (Lib.count l [c]) (b::l)=(b::l.take i)::Lib.splitK [c] 0 (Lib.count (l.drop (i+1)) [c]) (l.drop (i+1)):=by
      rw[c0,Nat.add_comm 1,Lib.splitK,if_neg (by rw[h1];simp;try omega),h1]
      simp[Int.toNat]
     rw[hs,e2,<-ih1,e1];refine⟨rfl,?_⟩;rw[<-ih1,e1]at ih2;simpa using ih2
theorem split_eq (c:UInt8) (l:Bs):Lib.split l [c]=splitC c l:=(split_both c l).1
theorem splitC_piece (c:UInt8):∀(l x:Bs),x∈splitC c l->x.length<=l.length
 | [],x,h=>by simp[splitC]at h;simp[h]
 | b::l,x,h=>by
   rw[splitC]at h;split at h
   ·rcases List.mem_cons.1 h with rfl|h
    ·simp
    ·exact Nat.le_succ_of_le (splitC_piece c l x h)
   ·split at h
    ·rcases List.mem_cons.1 h with rfl|h
     ·simp
     ·cases h
    ·rename_i h0 t hs;rcases List.mem_cons.1 h with rfl|h
     ·have:=splitC_piece c l h0 (by rw[hs];simp);simpa using this
     ·exact Nat.le_succ_of_le (splitC_piece c l x (by rw[hs];simp[h]))
theorem splitC_len (c:UInt8):∀l:Bs,(splitC c l).length<=l.length+1
 | []=>by simp[splitC]
 | b::l=>by
   have ih:=splitC_len c l;rw[splitC];split
   ·simpa using ih
   ·split
    ·simp
    ·rename_i h0 t hs;rw[hs]at ih
     simp at ih⊢
     omega
def isAlpha (c:UInt8):Bool:=(65<=c&&c<=90)||(97<=c&&c<=122)
def isDigit (c:UInt8):Bool:=48<=c&&c<=57
def low1 (c:UInt8):UInt8:=if 65<=c&&c<=90 then c+32 else c
def low (l:Bs):Bs:=l.map low1
def allB (p:UInt8->Bool) (l:Bs):Bool:=l.all p&& !l.isEmpty
end Lz
