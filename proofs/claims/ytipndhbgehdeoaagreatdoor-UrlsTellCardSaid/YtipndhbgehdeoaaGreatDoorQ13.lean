/-
  strings.Count at one byte.
-/
import Derived.Test.YtipndhbgehdeoaaGreatDoorQ11
import Derived.Deep.RegionHeld3
import Derived.Deep.AppendLies
import Derived.Deep.DrawnRows
import Derived.Lib.QuoteLoop
import Derived.Lib.RuneCountTail
import Derived.Shelf.Spec.DecodeLastRune8
import Derived.Lib.TrimAscii
set_option maxHeartbeats 2000000
set_option maxRecDepth 100000
namespace Lz
open Go
theorem unE_no {b:UInt8} {l:Bs} (h:([37,50,101]:Bs).isPrefixOf (b::l)=false):unE (b::l)=b::unE l:=by
 conv=>lhs;unfold unE
 split
 ·rename_i r he;rw[he]at h
  simp[List.isPrefixOf]at h
 ·rename_i c r _ he;injection he with h1 h2
  rw[h1,h2]
 ·rename_i he;cases he
theorem unE_yes (r:Bs):unE (37::50::101::r)=46::unE r:=by
 conv=>lhs;unfold unE
 rfl
theorem pre_form {s:Bs} (h:([37,50,101]:Bs).isPrefixOf s=true):∃r,s=37::50::101::r:=by
 match s,h with
 | a::b::c::r,h=>
   simp only[List.isPrefixOf,Bool.and_true,Bool.and_eq_true,beq_iff_eq]at h;obtain⟨h1,h2,h3⟩:=h;exact⟨r,by rw[<-h1,<-h2,<-h3]⟩
 | [],h=>simp[List.isPrefixOf]at h
 | [_],h=>simp[List.isPrefixOf]at h
 | [_,_],h=>simp[List.isPrefixOf]at h
theorem unE_index:∀s:Bs,(Lib.index s [37,50,101]= -1->unE s=s)/\(∀i:Nat,Lib.index s [37,50,101]=i->unE s=s.take i++46::unE (s.drop (i+3)))
 | []=>⟨fun _=>by unfold unE;rfl,fun i h=>by
  have:Lib.index [] ([37,50,101]:Bs)= -1:=rfl;rw[this]at h;omega⟩
 | b::l=>by
   obtain⟨ih1,ih2⟩:=unE_index l;rw[Lib.index];cases hp:([37,50,101]:Bs).isPrefixOf (b::l)with
   | true=>
     obtain⟨r,hr⟩:=pre_form hp;simp only[if_true];refine⟨fun h=>by omega,fun i h=>?_⟩;have hi:i=0:=by omega
     subst hi;rw[hr,unE_yes];rfl
   | false=>
     simp only[Bool.false_eq_true,if_false];have hge:=Lib.index_ge l [37,50,101];by_cases h1:Lib.index l [37,50,101]= -1
     ·rw[h1];refine⟨fun _=>by rw[unE_no hp,ih1 h1],fun i h=>?_⟩;have:((-1:Int)== -1)=true:=rfl;rw[this,if_pos rfl]at h;omega
     ·have hb:(Lib.index l [37,50,101]== -1)=false:=by rw[beq_eq_false_iff_ne];exact h1
      rw[hb];simp only[Bool.false_eq_true,if_false];refine⟨fun h=>by omega,fun i h=>?_⟩;obtain⟨j,rfl⟩:∃j,i=j+1:=⟨i-1,by omega⟩;rw[unE_no hp,ih2 j (by omega)];rfl
theorem replaceK_unE:∀(f:Nat) (s:Bs),s.length<f->Lib.replaceK [37,50,101] [46] (Lib.countFrom [37,50,101] f s) s=unE s
 | 0,s,h=>by omega
 | f+1,s,h=>by
   obtain⟨h1,h2⟩:=unE_index s;rw[Lib.countFrom];by_cases hi:Lib.index s [37,50,101]= -1
   ·rw[hi];show Lib.replaceK _ _ 0 s=_;rw[h1 hi];rfl
   ·have hge:=Lib.index_ge s [37,50,101];obtain⟨i,hin⟩:∃i:Nat,Lib.index s [37,50,101]=i:=⟨(Lib.index s [37,50,101]).toNat,by omega⟩;have hb:(Lib.index s [37,50,101]== -1)=false:=by rw[beq_eq_false_iff_ne];exact hi
    rw[hb];simp only[Bool.false_eq_true,if_false];rw[Nat.add_comm 1,Lib.replaceK_hit _ _ _ _ i hin,hin]
    have hd:(s.drop (i+([37,50,101]:Bs).length)).length<f:=by
     have hs:s≠[]:=by
      rintro rfl;exact hi rfl
     have hl:0<s.length:=by
      cases s with
      | nil=>exact absurd rfl hs
      | cons _ _=>simp
     rw[List.length_drop];show s.length-(i+3)<f;omega
    have ih:=replaceK_unE f (s.drop (i+([37,50,101]:Bs).length)) hd;have e:((i:Int)).toNat=i:=by omega
    rw[e,ih,h2 i hin]
    simp
theorem replace_unE (s:Bs):Lib.replaceAll s [37,50,101] [46]=unE s:=by
 unfold Lib.replaceAll Lib.replace;rw[if_neg (by decide)];unfold Lib.replaceNum;rw[if_pos (Or.inl (by decide))];exact replaceK_unE (s.length+1) s (by omega)
def spQ (c:UInt8):Bool:=decide (c<=32)
def pSp (x:Nat):Bool:=decide (x<=32)
theorem pSp_byte (c:UInt8):pSp c.toNat=spQ c:=by
 unfold pSp spQ;congr 1
theorem pSp_hi {x:Nat} (h:128<=x):pSp x=false:=by unfold pSp;rw[decide_eq_false];omega
theorem spQ_hi {c:UInt8} (h:128<=c.toNat):spQ c=false:=by rw[<-pSp_byte];exact pSp_hi h
theorem idx_sp (s:ByteArray):∀f pos,s.size<=pos+f->Lib.idxFuncFrom pSp false s f pos=if(s.data.toList.drop pos).all spQ then -1 else((pos+((s.data.toList.drop pos).takeWhile spQ).length:Nat):Int)
 | 0,pos,h=>by
   rw[List.drop_eq_nil_of_le (by show s.size<=pos;omega)];rfl
 | f+1,pos,h=>by
   rw[Lib.idxFuncFrom];by_cases hps:pos<s.size
   ·rw[if_pos hps]
    have hd:s.data.toList.drop pos=s[pos]::s.data.toList.drop (pos+1):=by
     rw[List.drop_eq_getElem_cons (show pos<s.data.toList.length from hps)];rfl
    rw[hd,List.all_cons];rcases Nat.lt_or_ge (s[pos]'hps).toNat 128 with h1|h1
    ·rw[decode_ascii s pos hps h1,pSp_byte];cases hq:spQ s[pos]with
     | false=>simp[hq]
     | true=>
       simp only[Bool.true_and,Bool.true_eq_false,if_false];rw[idx_sp s f (pos+1) (by omega)];split
       ·rfl
       ·rw[List.takeWhile_cons,hq];simp;omega
    ·rw[pSp_hi (rune_hi s pos hps h1),spQ_hi h1]
     simp[spQ_hi h1]
   ·rw[if_neg hps,List.drop_eq_nil_of_le (by show s.size<=pos;omega)];rfl
theorem drop_takeWhile (q:UInt8->Bool) (l:Bs):l.drop (l.takeWhile q).length=l.dropWhile q:=by
 induction l with
 | nil=>rfl
 | cons c r ih=>
   rw[List.takeWhile_cons,List.dropWhile_cons];split
   ·simpa using ih
   ·rfl
theorem all_dropWhile {q:UInt8->Bool} {l:Bs} (h:l.all q=true):l.dropWhile q=[]:=by
 induction l with
 | nil=>rfl
 | cons c r ih=>
   rw[List.all_cons,Bool.and_eq_true]at h;rw[List.dropWhile_cons,if_pos h.1];exact ih h.2
theorem trimLeft_sp (s:ByteArray):(Lib.trimLeftF pSp s).data.toList=s.data.toList.dropWhile spQ:=by
 unfold Lib.trimLeftF Lib.idxFunc;rw[idx_sp s s.size 0 (by omega),List.drop_zero];by_cases h:s.data.toList.all spQ=true
 ·rw[if_pos h,if_pos rfl,all_dropWhile h]
 ·rw[if_neg h,if_neg (by omega)];rw[Lib.extract_data,Nat.zero_add];rw[show((((s.data.toList.takeWhile spQ).length:Nat):Int)).toNat=(s.data.toList.takeWhile spQ).length from rfl,drop_takeWhile,List.take_of_length_le];rw[<-drop_takeWhile,List.length_drop];show s.size-_<=_;exact Nat.le_refl _
theorem dec_more {n n' b0 b1 b2 b3 c1 c2 c3:Nat} (h0:128<=b0) (hw:(Lib.decodeN n b0 b1 b2 b3).2=n) (hn:n<=n') (h1:1<n->c1=b1) (h2:2<n->c2=b2) (h3:3<n->c3=b3) (he:n=1->n'=1\/c1 / 64≠2):(Lib.decodeN n' b0 c1 c2 c3).2=n:=by
 rcases Lib.decodeN_shape n b0 b1 b2 b3 with⟨h,_⟩|⟨ha,hb,hc,hd,h⟩|⟨ha,hb,hc,hd,he1,hf,h⟩|⟨ha,hb,hc,hd,he1,hf,hg,h⟩|h
 ·omega
 ·rw[h]at hw;obtain rfl:n=2:=hw.symm;rw[h1 (by omega)];unfold Lib.decodeN;rw[if_neg (by omega),if_pos ⟨ha,by omega,hc⟩,if_pos hd]
 ·rw[h]at hw;obtain rfl:n=3:=hw.symm;rw[h1 (by omega),h2 (by omega)];unfold Lib.decodeN;rw[if_neg (by omega),if_neg (by omega),if_pos ⟨ha,⟨by omega,hc⟩,⟨by omega,hd⟩⟩,if_pos ⟨he1,by omega⟩]
 ·rw[h]at hw;obtain rfl:n=4:=hw.symm;rw[h1 (by omega),h2 (by omega),h3 (by omega)];unfold Lib.decodeN;rw[if_neg (by omega),if_neg (by omega),if_neg (by omega),if_pos ⟨ha,⟨by omega,hc⟩,⟨by omega,hd⟩,⟨by omega,he1⟩⟩,if_pos ⟨hf,by omega⟩]
 ·rw[h]at hw;obtain rfl:n=1:=hw.symm;have:=he rfl;unfold Lib.decodeN;rw[if_neg (by omega),if_neg (by omega),if_neg (by omega),if_neg (by omega)]
theorem dec_hi {n b0 b1 b2 b3:Nat} (h0:128<=b0):128<=(Lib.decodeN n b0 b1 b2 b3).1:=by
 rcases Lib.decodeN_shape n b0 b1 b2 b3 with⟨h,_⟩|⟨ha,hb,hc,hd,h⟩|⟨ha,hb,hc,hd,he1,hf,h⟩|⟨ha,hb,hc,hd,he1,hf,hg,h⟩|h
 ·omega
 ·rw[h];exact hd
 ·rw[h];show 128<=_;omega
 ·rw[h];show 128<=_;omega
 ·rw[h];show 128<=65533;omega
theorem get_nat' (s:ByteArray) (j:Nat) (h:j<s.size):s.get! j=s[j]'h:=by
 show s.data[j]! =_;rw[getElem!_pos s.data j h];rfl
theorem last_dec (s:ByteArray) (i:Nat) (hi0:0<i) (hi:i<=s.size) (hhi:128<=(s[i-1]'(by omega)).toNat) (hend:∀h:i<s.size,(s[i]'h).toNat<=32):
  128<=(Lib.decodeLastL (s.data.toList.take i)).1/\(Lib.decodeLastL (s.data.toList.take i)).2<=i/\(Utf8.decode s (i-(Lib.decodeLastL (s.data.toList.take i)).2)).2=(Lib.decodeLastL (s.data.toList.take i)).2:=by
 obtain⟨t,ht⟩:∃t:ByteArray,t=s.extract 0 i:=⟨_,rfl⟩;have htd:t.data.toList=s.data.toList.take i:=by rw[ht,Lib.extract_data];rfl
 have htz:t.size=i:=by
  show t.data.toList.length=i;rw[htd,List.length_take];show min i s.size=i;omega
 have hg:∀j,j<i->t.get! j=s.get! j:=fun j hj=>by rw[ht,Go.Proofs.get!_extract' s 0 i j (by omega) hi,Nat.zero_add]
 have hlast:(s.get! (i-1)).toNat=(s[i-1]'(by omega)).toNat:=by rw[get_nat' s (i-1) (by omega)]
 have hone:(Utf8.decode s (i-1)).2=1:=by
  rw[Lib.decode_at,show i-1+1=i by omega];refine dec_more (n:=1) (n':=s.size-(i-1)) (b1:=0) (b2:=0) (b3:=0) (by omega) ?_ (by omega) (by omega) (by omega) (by omega) (fun _=>?_)
  ·rcases Lib.decodeN_shape 1 (s.get! (i-1)).toNat 0 0 0 with⟨h,_⟩|⟨_,h,_⟩|⟨_,h,_⟩|⟨_,h,_⟩|h
   ·omega
   ·omega
   ·omega
   ·omega
   ·rw[h]
  ·by_cases h:i<s.size
   ·right;have:=hend h;rw[get_nat' s i h];omega
   ·left;omega
 rw[<-htd,Lib.decodeLastL_eq t (by omega) (by rw[htz,hg (i-1) (by omega),hlast];exact hhi)]
 have hls:=Lib.lastStart_lt t.data.toList (fun h=>by
  have h0:t.data.toList.length=0:=by rw[h];rfl
  have h1:t.data.toList.length=i:=htz;omega)
 have hls':Lib.lastStart t.data.toList<i:=by rw[<-htz];exact hls
 unfold Lib.lastOf;obtain⟨k,hk⟩:∃k,k=Lib.lastStart t.data.toList:=⟨_,rfl⟩;rw[<-hk]at hls'⊢
 have hgo:Lib.decodeGo (t.extract k t.size)=Utf8.decode t k:=by
  unfold Lib.decodeGo;rw[if_neg (by rw[ByteArray.size_extract];omega),Lib.tail_decode];rfl
 rw[hgo,htz];by_cases he:k+(Utf8.decode t k).2=i
 ·rw[if_pos he]
  have hd:Utf8.decode t k=Lib.decodeN (i-k) (s.get! k).toNat (t.get! (k+1)).toNat (t.get! (k+2)).toNat (t.get! (k+3)).toNat:=by
   rw[Lib.decode_at,htz,hg k hls']
  have hb0:128<=(s.get! k).toNat:=by
   rcases Nat.lt_or_ge (s.get! k).toNat 128 with h|h
   ·exfalso
    have h1:(Utf8.decode t k).2=1:=by
     rw[hd];unfold Lib.decodeN;rw[if_pos h]
    have:k=i-1:=by omega
    rw[this]at h;omega
   ·exact h
  refine⟨by rw[hd];exact dec_hi hb0,by omega,?_⟩;rw[show i-(Utf8.decode t k).2=k by omega,Lib.decode_at s k];have hw:(Lib.decodeN (i-k) (s.get! k).toNat (t.get! (k+1)).toNat (t.get! (k+2)).toNat (t.get! (k+3)).toNat).2=i-k:=by rw[<-hd];omega
  rw[dec_more hb0 hw (by omega) (fun h=>by rw[hg (k+1) (by omega)]) (fun h=>by rw[hg (k+2) (by omega)]) (fun h=>by rw[hg (k+3) (by omega)]) (fun h=>by
   by_cases h2:i<s.size
   ·right;have:=hend h2;rw[show k+1=i by omega,get_nat' s i h2];omega
   ·left;omega)]
  omega
 ·rw[if_neg he];exact⟨by show 128<=Utf8.runeError;decide,by show 1<=i;omega,by show(Utf8.decode s (i-1)).2=1;exact hone⟩
def lenR (l:Bs) (i:Nat):Nat:=((l.take i).reverse.dropWhile spQ).length
theorem lenR_succ {l:Bs} {i:Nat} {b:UInt8} (h:l[i]? =some b):lenR l (i+1)=if spQ b then lenR l i else i+1:=by
 obtain⟨hi,he⟩:=List.getElem?_eq_some_iff.1 h;unfold lenR;rw[List.take_succ_eq_append_getElem hi,he,List.reverse_append,List.reverse_singleton,List.singleton_append,List.dropWhile_cons];split
 ·rfl
 ·simp;omega
theorem right_sp (s:ByteArray):∀f i,i<=f->i<=s.size->(∀j,i<=j->∀h:j<s.size,(s[j]'h).toNat<=32)->
  (if 0<=Lib.lastIdxFuncFrom pSp false s f i then(Lib.lastIdxFuncFrom pSp false s f i).toNat+(Utf8.decode s (Lib.lastIdxFuncFrom pSp false s f i).toNat).2 else 0)=lenR s.data.toList i
 | 0,i,hf,hi,_=>by
   obtain rfl:i=0:=by omega
   rfl
 | f+1,i,hf,hi,ht=>by
   cases i with
   | zero=>rw[Lib.lastIdxFuncFrom];rfl
   | succ m=>
     have hm:m<s.size:=by omega
     have hstep:Lib.lastIdxFuncFrom pSp false s (f+1) (m+1)=if pSp (Lib.decodeLastL (s.data.toList.take (m+1))).1=false then(((m+1)-(Lib.decodeLastL (s.data.toList.take (m+1))).2:Nat):Int)else Lib.lastIdxFuncFrom pSp false s f ((m+1)-(Lib.decodeLastL (s.data.toList.take (m+1))).2):=by
      rw[Lib.lastIdxFuncFrom,if_pos (Nat.succ_pos m)]
     rw[hstep]
     have hcg:s.data.toList[m]? =some (s[m]'hm):=by
      rw[List.getElem?_eq_getElem (show m<s.data.toList.length from hm)];rfl
     rw[lenR_succ hcg];rcases Nat.lt_or_ge (s[m]'hm).toNat 128 with h1|h1
     ·have hd:Lib.decodeLastL (s.data.toList.take (m+1))=((s[m]'hm).toNat,1):=by
       obtain⟨hml,hme⟩:=List.getElem?_eq_some_iff.1 hcg;rw[List.take_succ_eq_append_getElem hml,hme];exact Lib.decodeLastL_ascii _ _ h1
      rw[hd,pSp_byte];cases hq:spQ (s[m]'hm)with
      | false=>
        simp only[if_true,Bool.false_eq_true,if_false];rw[show m+1-1=m by omega,if_pos (by omega),show((m:Int)).toNat=m from rfl,decode_ascii s m hm h1]
      | true=>
        simp only[Bool.true_eq_false,if_false,if_true];rw[show m+1-1=m by omega];refine right_sp s f m (by omega) (by omega) fun j hj hjl=>?_;rcases Nat.eq_or_lt_of_le hj with e|e
        ·subst e;have:spQ (s[m]'hm)=true:=hq;unfold spQ at this;have h2:=of_decide_eq_true this;exact h2
        ·exact ht j e hjl
     ·obtain⟨hd1,hd2,hd3⟩:=last_dec s (m+1) (by omega) hi (by simpa using h1) (fun h=>ht (m+1) (Nat.le_refl _) h);rw[pSp_hi hd1,spQ_hi h1];simp only[if_true,Bool.false_eq_true,if_false];rw[if_pos (by omega),Int.toNat_natCast,hd3];omega
theorem last_lt (s:ByteArray):∀f i,i<=s.size->Lib.lastIdxFuncFrom pSp false s f i<0\/Lib.lastIdxFuncFrom pSp false s f i<s.size
 | 0,_,_=>.inl (by rw[Lib.lastIdxFuncFrom];omega)
 | f+1,i,hi=>by
   rw[Lib.lastIdxFuncFrom];by_cases h:0<i
   ·rw[if_pos h];have hw:=(Lib.decodeLastL_width (s.data.toList.take i) (by rw[List.length_take];show 0<min i s.size;omega)).1;split
    ·right;omega
    ·exact last_lt s f _ (by omega)
   ·rw[if_neg h];left;omega
theorem trimRight_sp (s:ByteArray):(Lib.trimRightF pSp s).data.toList=(s.data.toList.reverse.dropWhile spQ).reverse:=by
 have h:=right_sp s s.size s.size (Nat.le_refl _) (Nat.le_refl _) (fun j hj hjl=>by omega)
 have hend:Lib.rightEndF pSp s=lenR s.data.toList s.size:=by
  rw[<-h];unfold Lib.rightEndF Lib.lastIdxFunc;split
  ·rename_i h0;have hlt:=last_lt s s.size s.size (Nat.le_refl _);congr 1;unfold Lib.decodeGoB;by_cases hz:(s.extract (Lib.lastIdxFuncFrom pSp false s s.size s.size).toNat s.size).size=0
   ·exfalso
    rw[ByteArray.size_extract]at hz;omega
   ·rw[if_neg hz,Lib.tail_decode];rfl
  ·rfl
 unfold Lib.trimRightF;rw[hend,Lib.extract_data];show(s.data.toList.drop 0).take (lenR s.data.toList s.size-0)=_;unfold lenR;rw[show s.data.toList.take s.size=s.data.toList from List.take_of_length_le (Nat.le_refl _),List.drop_zero,Nat.sub_zero]
 have hp:(s.data.toList.reverse.dropWhile spQ).reverse<+:s.data.toList:=by
  have:=(List.dropWhile_suffix spQ (l:=s.data.toList.reverse)).reverse
  rwa [List.reverse_reverse]at this
 have:=List.prefix_iff_eq_take.1 hp;rw[List.length_reverse]at this;exact this.symm
theorem trim_sp (s:ByteArray):(Lib.trimF pSp s).data.toList=((s.data.toList.dropWhile spQ).reverse.dropWhile spQ).reverse:=by
 unfold Lib.trimF;rw[trimRight_sp,trimLeft_sp]
end Lz
namespace Go.Proofs.YtipndhbgehdeoaaGreatDoor
open Go.RowKit
theorem text_is (s:ByteArray) (k:List UInt8):(s.toList==k)=decide (s.data.toList=k):=by
 rw[Lib.toList_data,Bool.eq_iff_iff];simp
theorem text_yes {s:ByteArray} {k:List UInt8} (h:s.data.toList=k):(s.toList==k)=true:=(text_is s k).trans (decide_eq_true h)
theorem text_no {s:ByteArray} {k:List UInt8} (h:¬s.data.toList=k):(s.toList==k)=false:=(text_is s k).trans (decide_eq_false h)
theorem Default_any (s:ByteArray) (w:World):Calls Tryz.prog 14 #[.string s] w fun e w'=>e=.returned (.int .i64 (Lz.defP s.data.toList))/\w=w':=by
 by_cases h0:s.data.toList=[104,116,116,112]
 ·have g0:=text_yes h0;have HV:Hid (Lz.defP s.data.toList=80):=by show _=_;rw[h0];rfl
  clear h0;go_enter Tryz.func14,Tryz.ntmps14
  go_wp2_with fail
  go_ret;rw[HV.out];exact⟨rfl,rfl⟩
 ·have g0:=text_no h0;by_cases h1:s.data.toList=[119,115]
  ·have g1:=text_yes h1;have HV:Hid (Lz.defP s.data.toList=80):=by show _=_;rw[h1];rfl
   clear h0 h1;go_enter Tryz.func14,Tryz.ntmps14
   go_wp2_with fail
   go_ret;rw[HV.out];exact⟨rfl,rfl⟩
  ·have g1:=text_no h1;by_cases h2:s.data.toList=[104,116,116,112,115]
   ·have g2:=text_yes h2;have HV:Hid (Lz.defP s.data.toList=443):=by show _=_;rw[h2];rfl
    clear h0 h1 h2;go_enter Tryz.func14,Tryz.ntmps14
    go_wp2_with fail
    go_ret;rw[HV.out];exact⟨rfl,rfl⟩
   ·have g2:=text_no h2;by_cases h3:s.data.toList=[119,115,115]
    ·have g3:=text_yes h3;have HV:Hid (Lz.defP s.data.toList=443):=by show _=_;rw[h3];rfl
     clear h0 h1 h2 h3;go_enter Tryz.func14,Tryz.ntmps14
     go_wp2_with fail
     go_ret;rw[HV.out];exact⟨rfl,rfl⟩
    ·have g3:=text_no h3;by_cases h4:s.data.toList=[102,116,112]
     ·have g4:=text_yes h4;have HV:Hid (Lz.defP s.data.toList=21):=by show _=_;rw[h4];rfl
      clear h0 h1 h2 h3 h4;go_enter Tryz.func14,Tryz.ntmps14
      go_wp2_with fail
      go_ret;rw[HV.out];exact⟨rfl,rfl⟩
     ·have g4:=text_no h4
      have HV:Hid (Lz.defP s.data.toList= -1):=by
       show _=_;unfold Lz.defP;rw[if_neg (fun h=>h.elim h0 h1),if_neg (fun h=>h.elim h2 h3),if_neg (show ¬s.data.toList=Lz.ftpS from h4)]
      clear h0 h1 h2 h3 h4;go_enter Tryz.func14,Tryz.ntmps14
      go_wp2_with fail
      go_ret;rw[HV.out];exact⟨rfl,rfl⟩
theorem Special_any (s:ByteArray) (w:World):Calls Tryz.prog 15 #[.string s] w fun e w'=>e=.returned (.bool (Lz.specP s.data.toList))/\w=w':=by
 by_cases h0:s.data.toList=[102,105,108,101]
 ·have g0:=text_yes h0;have HV:Hid (Lz.specP s.data.toList=true):=by show _=_;rw[h0];rfl
  clear h0;go_enter Tryz.func15,Tryz.ntmps15
  go_wp2_with fail
  go_ret;rw[HV.out];exact⟨rfl,rfl⟩
 ·have g0:=text_no h0;have cD:=Default_any s w;obtain⟨d,hd⟩:∃d,d=Lz.defP s.data.toList:=⟨_,rfl⟩
  have HV:Hid (Lz.specP s.data.toList= !(d== -1)):=by
   show _=_;unfold Lz.specP;have:(s.data.toList==Lz.fileS)=false:=by rw[beq_eq_false_iff_ne];exact h0
   rw[this,Bool.false_or,hd]
  rw[<-hd]at cD;have CD:=Ih cD;have hne:(d != -1)= !(d== -1):=rfl;clear h0 cD hd;go_enter Tryz.func15,Tryz.ntmps15
  go_wp2_with fail
  refine CD.out.mono ?_;rintro e w1 ⟨rfl,rfl⟩
  go_wp2_with fail
  go_ret;rw[HV.out];exact⟨by first |rfl|rw[hne],rfl⟩
def intO:Option Nat->Int
 | some n=>n
 | none=> -1
theorem beqU (a b:UInt8):((a.toNat:Int)==(b.toNat:Int))=(a==b):=beqI a b
theorem two_of {s:ByteArray} (h:s.size=2):s.data.toList=[s[0],s[1]]:=by
 have h0:=get_of_lt (s:=s) (n:=0) (by omega);have h1:=get_of_lt (s:=s) (n:=1) (by omega);have hl:s.data.toList.length=2:=h;generalize s.data.toList=l at h0 h1 hl
 match l,hl with
 | [a,b],_=>
   have e0:a=s[0]:=by simpa using h0
   have e1:b=s[1]:=by simpa using h1
   rw[e0,e1]
theorem drive_any (s:ByteArray) (w:World):Calls Tryz.prog 89 #[.string s] w fun e w'=>e=.returned (.bool (Lz.driveP s.data.toList))/\w=w':=by
 by_cases h2:s.size=2
 ·have h2I:((s.size:Int)==2)=true:=by simp;omega
  have hp0:0<s.size:=by omega
  have hp1:1<s.size:=by omega
  have hp0I:(0:Int)<(s.size:Int):=by omega
  have hp1I:(1:Int)<(s.size:Int):=by omega
  have hl:=two_of h2;obtain⟨a,ha⟩:∃a,a=s[0]:=⟨_,rfl⟩;obtain⟨b,hb⟩:∃b,b=s[1]:=⟨_,rfl⟩;have haI:(s[0].toNat:Int)=(a.toNat:Int):=by rw[ha]
  have hbI:(s[1].toNat:Int)=(b.toNat:Int):=by rw[hb]
  rw[<-ha,<-hb]at hl;have HV:Hid (Lz.driveP s.data.toList=(Lz.isAlpha a&&(b==58||b==124))):=by show _=_;rw[hl];rfl
  have cA:=Alpha_any a w;have b1:((b.toNat:Int)==58)=(b==58):=beqU b 58;have b2:((b.toNat:Int)==124)=(b==124):=beqU b 124;generalize Lz.isAlpha a=p at cA HV;generalize (b==58)=q at b1 HV;generalize (b==124)=r at b2 HV;have CA:=Ih cA;have H2:=Ih h2;clear hl ha hb cA h2;cases p
  ·go_enter Tryz.func89,Tryz.ntmps89
   go_wp2_with fail
   refine CA.out.mono ?_;rintro e w1 ⟨rfl,rfl⟩
   go_wp2_with fail
   go_ret;rw[HV.out];exact⟨rfl,rfl⟩
  ·cases q
   ·go_enter Tryz.func89,Tryz.ntmps89
    go_wp2_with fail
    refine CA.out.mono ?_;rintro e w1 ⟨rfl,rfl⟩
    go_wp2_with fail
    go_ret;rw[HV.out];exact⟨by cases r<;>first |rfl|(rw[b2];rfl),rfl⟩
   ·go_enter Tryz.func89,Tryz.ntmps89
    go_wp2_with fail
    refine CA.out.mono ?_;rintro e w1 ⟨rfl,rfl⟩
    go_wp2_with fail
    go_ret;rw[HV.out];exact⟨rfl,rfl⟩
 ·have h2I:((s.size:Int)==2)=false:=by simp;omega
  have HV:Hid (Lz.driveP s.data.toList=false):=by
   show _=_;have hl:s.data.toList.length≠2:=h2;generalize s.data.toList=l at hl
   match l,hl with
   | [],_=>rfl
   | [_],_=>rfl
   | [_,_],hl=>exact absurd rfl hl
   | _::_::_::_,_=>rfl
  go_enter Tryz.func89,Tryz.ntmps89
  go_wp2_with fail
  go_ret;rw[HV.out];exact⟨rfl,rfl⟩
theorem colon_any (s:ByteArray) (hs:s.size<=1048576) (w:World):Calls Tryz.prog 123 #[.string s] w fun e w'=>e=.returned (.int .i64 (intO (Lz.colonP false s.data.toList)))/\w=w':=by
 obtain⟨o,ho⟩:∃o,o=Lz.colonP false s.data.toList:=⟨_,rfl⟩;have Ho:=Ih ho;rw[<-ho];clear ho;go_enter Tryz.func123,Tryz.ntmps123
 go_wp2_with fail
 go_loopw [3,7] (fun i k wr=>∃(b:Bool) (j:Nat),i=.bool b/\k=.int .i64 j/\j<=s.size/\Hid (o=(Lz.colonP b (s.data.toList.drop j)).map (·+j))/\w=wr) (fun _ k _=>s.size-(intOf k).toNat)
 case atStart=>exact⟨false,0,rfl,rfl,Nat.zero_le _,by show _=_;rw[Ho.out,List.drop_zero];simp,rfl⟩
 case round=>
  obtain⟨b,j,rfl,rfl,hj,hO,rfl⟩:=hrel;by_cases hlt:j<s.size
  ·have hltI:(j:Int)<(s.size:Int):=by omega
   have hj0:(0:Int)<=(j:Int):=by omega
   obtain⟨c,hc⟩:∃c,c=s[j]:=⟨_,rfl⟩;have hcI:(s[j].toNat:Int)=(c.toNat:Int):=by rw[hc]
   have hst:Hid (o=(if c==91 then(Lz.colonP true (s.data.toList.drop (j+1))).map (·+1)else if c==93 then(Lz.colonP false (s.data.toList.drop (j+1))).map (·+1)else if c==58&& !b then some 0 else(Lz.colonP b (s.data.toList.drop (j+1))).map (·+1)).map (·+j)):=by
    show _=_;rw[hO.out,List.drop_eq_getElem_cons (show j<s.data.toList.length from hlt),Lz.colonP,hc];rfl
   have hmm:∀x:Option Nat,(x.map (·+1)).map (·+j)=x.map (·+(j+1)):=by
    intro x;cases x with
    | none=>rfl
    | some n=>simp;omega
   have b1:((c.toNat:Int)==91)=(c==91):=beqU c 91;have b2:((c.toNat:Int)==93)=(c==93):=beqU c 93;have b3:((c.toNat:Int)==58)=(c==58):=beqU c 58;generalize (c==91)=q1 at b1 hst;generalize (c==93)=q2 at b2 hst;generalize (c==58)=q3 at b3 hst;have Hmm:=Ih hmm;clear hc hO hmm;cases q1
   ·cases q2
    ·cases q3
     ·have HN:Hid (o=(Lz.colonP b (s.data.toList.drop (j+1))).map (·+(j+1))):=by show _=_;rw[hst.out,<-Hmm.out];rfl
      go_wp2_with fail
      go_roundw
      case rel=>exact⟨b,j+1,rfl,by go_num,by omega,HN,trivial⟩
      case measure=>simp[intOf];omega
     ·cases b
      ·have HN:Hid (o=some j):=by show _=_;rw[hst.out];simp
       go_wp2_with fail
       go_ret;rw[HN.out];exact⟨rfl,rfl⟩
      ·have HN:Hid (o=(Lz.colonP true (s.data.toList.drop (j+1))).map (·+(j+1))):=by show _=_;rw[hst.out,<-Hmm.out];rfl
       go_wp2_with fail
       go_roundw
       case rel=>exact⟨true,j+1,rfl,by go_num,by omega,HN,trivial⟩
       case measure=>simp[intOf];omega
    ·have HN:Hid (o=(Lz.colonP false (s.data.toList.drop (j+1))).map (·+(j+1))):=by show _=_;rw[hst.out,<-Hmm.out];rfl
     go_wp2_with fail
     go_roundw
     case rel=>exact⟨false,j+1,rfl,by go_num,by omega,HN,trivial⟩
     case measure=>simp[intOf];omega
   ·have HN:Hid (o=(Lz.colonP true (s.data.toList.drop (j+1))).map (·+(j+1))):=by show _=_;rw[hst.out,<-Hmm.out];rfl
    go_wp2_with fail
    go_roundw
    case rel=>exact⟨true,j+1,rfl,by go_num,by omega,HN,trivial⟩
    case measure=>simp[intOf];omega
  ·have hltI:¬(j:Int)<(s.size:Int):=by omega
   have HN:Hid (o=none):=by
    show _=_;rw[hO.out,List.drop_eq_nil_of_le (show s.data.toList.length<=j by rw[len_of_size];omega)];rfl
   go_wp2_with fail
   go_ret;rw[HN.out];exact⟨rfl,rfl⟩
theorem extract_head2 (s:ByteArray) (k:Nat):(s.extract 0 k).data.toList=s.data.toList.take k:=by
 rw[Lib.extract_data];rfl
theorem driven_short {l:List UInt8} (h:l.length<2):Lz.drivenP l=false:=by
 match l,h with
 | [],_=>rfl
 | [_],_=>rfl
theorem driven_two {l:List UInt8} (h:l.length=2):Lz.drivenP l=Lz.driveP (l.take 2):=by
 match l,h with
 | [_,_],_=>rfl
theorem driven_more {l:List UInt8} {c:UInt8} (h:l[2]? =some c):Lz.drivenP l=(Lz.driveP (l.take 2)&&(c==47||c==92)):=by
 match l,h with
 | a::b::d::r,h=>
   have:d=c:=by simpa using h
   rw[<-this];rfl
theorem driven_any (s:ByteArray) (w:World):Calls Tryz.prog 91 #[.string s] w fun e w'=>e=.returned (.bool (Lz.drivenP s.data.toList))/\w=w':=by
 by_cases h2:2<=s.size
 ·have h2I:(2:Int)<=(s.size:Int):=by omega
  have cD:=drive_any (s.extract 0 2) w;rw[extract_head2]at cD;obtain⟨q,hq⟩:∃q,q=Lz.driveP (s.data.toList.take 2):=⟨_,rfl⟩;rw[<-hq]at cD;have CD:=Ih cD;clear cD;by_cases he:s.size=2
  ·have heI:((s.size:Int)==2)=true:=by simp;omega
   have HV:Hid (Lz.drivenP s.data.toList=q):=by show _=_;rw[driven_two (show s.data.toList.length=2 from he),hq]
   have He:=Ih he;clear he hq;cases q
   ·go_enter Tryz.func91,Tryz.ntmps91
    go_wp2_with fail
    refine CD.out.mono ?_;rintro e w1 ⟨rfl,rfl⟩
    go_wp2_with fail
    go_ret;rw[HV.out];exact⟨rfl,rfl⟩
   ·go_enter Tryz.func91,Tryz.ntmps91
    go_wp2_with fail
    refine CD.out.mono ?_;rintro e w1 ⟨rfl,rfl⟩
    go_wp2_with fail
    go_ret;rw[HV.out];exact⟨rfl,rfl⟩
  ·have heI:((s.size:Int)==2)=false:=by simp;omega
   have hp2:2<s.size:=by omega
   have hp2I:(2:Int)<(s.size:Int):=by omega
   obtain⟨c,hc⟩:∃c,c=s[2]:=⟨_,rfl⟩;have hcI:(s[2].toNat:Int)=(c.toNat:Int):=by rw[hc]
   have HV:Hid (Lz.drivenP s.data.toList=(q&&(c==47||c==92))):=by show _=_;rw[driven_more (c:=c) (by rw[get_of_lt hp2,hc]),hq]
   have b1:((c.toNat:Int)==47)=(c==47):=beqU c 47;have b2:((c.toNat:Int)==92)=(c==92):=beqU c 92;generalize (c==47)=p1 at b1 HV;generalize (c==92)=p2 at b2 HV;clear hq hc he;cases q
   ·go_enter Tryz.func91,Tryz.ntmps91
    go_wp2_with fail
    refine CD.out.mono ?_;rintro e w1 ⟨rfl,rfl⟩
    go_wp2_with fail
    go_ret;rw[HV.out];exact⟨rfl,rfl⟩
   ·cases p1
    ·go_enter Tryz.func91,Tryz.ntmps91
     go_wp2_with fail
     refine CD.out.mono ?_;rintro e w1 ⟨rfl,rfl⟩
     go_wp2_with fail
     go_ret;rw[HV.out];exact⟨by cases p2<;>first |rfl|(rw[b2];rfl),rfl⟩
    ·go_enter Tryz.func91,Tryz.ntmps91
     go_wp2_with fail
     refine CD.out.mono ?_;rintro e w1 ⟨rfl,rfl⟩
     go_wp2_with fail
     go_ret;rw[HV.out];exact⟨rfl,rfl⟩
 ·have h2I:¬(2:Int)<=(s.size:Int):=by omega
  have HV:Hid (Lz.drivenP s.data.toList=false):=by show _=_;rw[driven_short (show s.data.toList.length<2 by rw[len_of_size];omega)]
  go_enter Tryz.func91,Tryz.ntmps91
  go_wp2_with fail
  go_ret;rw[HV.out];exact⟨rfl,rfl⟩
def PathAt (w:World) (v:Value) (l:List (List UInt8)):Prop:=
 ∃(a:Option Addr) (c:Nat) (xs:List ByteArray),v=.slice a xs.length c/\xs.map (fun x:ByteArray=>x.data.toList)=l/\∀(j:Nat) (x:ByteArray),xs[j]? =some x->∃B off,a=some ⟨B,off,none⟩/\B<w.heap.size/\w.cell? ⟨B,off+j,none⟩=some (.string x)
theorem PathAt.below {w w':World} {v:Value} {l:List (List UInt8)} (h:PathAt w v l) (hb:Below w.heap.size w w'):PathAt w' v l:=by
 obtain⟨a,c,xs,h1,h2,h3⟩:=h;refine⟨a,c,xs,h1,h2,fun j x hj=>?_⟩;obtain⟨B,off,e1,e2,e3⟩:=h3 j x hj;exact⟨B,off,e1,Nat.lt_of_lt_of_le e2 hb.size,by rw[hb.cell (p:=⟨B,off+j,none⟩) e2];exact e3⟩
theorem drive_size {l:List UInt8} (h:Lz.driveP l=true):l.length=2:=by
 match l,h with
 | [_,_],_=>rfl
theorem rooted_any (v:Value) (l:List (List UInt8)) (w:World) (h:PathAt w v l):Calls Tryz.prog 92 #[v] w fun e w'=>e=.returned (.bool (Lz.rootedP l))/\w=w':=by
 obtain⟨a,c,xs,rfl,rfl,hx⟩:=h;cases xs with
 | nil=>
   go_enter Tryz.func92,Tryz.ntmps92
   go_wp2_with fail
   go_ret;exact⟨rfl,rfl⟩
 | cons x r=>
   obtain⟨B,off,rfl,hB,hc⟩:=hx 0 x rfl;rw[Nat.add_zero]at hc;have hl0:(0:Int)<((x::r).length:Int):=by rw[List.length_cons];omega
   have hl1:(0:Int)<(r.length:Int)+1:=by omega
   have cD:=drive_any x w;have HV:Hid (Lz.rootedP ((x::r).map fun x:ByteArray=>x.data.toList)=(Lz.driveP x.data.toList&&(x.data.toList[1]? ==some 58))):=rfl;cases hq:Lz.driveP x.data.toList with
   | false=>
     rw[hq]at cD;have HV2:Hid (Lz.rootedP ((x::r).map fun x:ByteArray=>x.data.toList)=false):=by show _=_;rw[HV.out,hq];rfl
     have CD:=Ih cD;clear cD hq hx;go_enter Tryz.func92,Tryz.ntmps92
     go_wp2_with fail
     refine CD.out.mono ?_;rintro e w1 ⟨rfl,rfl⟩
     go_wp2_with fail
     go_ret;rw[HV2.out];exact⟨rfl,rfl⟩
   | true=>
     rw[hq]at cD;have hz:x.size=2:=drive_size hq;have hp1:1<x.size:=by omega
     have hp1I:(1:Int)<(x.size:Int):=by omega
     obtain⟨d,hd⟩:∃d,d=x[1]:=⟨_,rfl⟩;have hdI:(x[1].toNat:Int)=(d.toNat:Int):=by rw[hd]
     have b1:((d.toNat:Int)==58)=(d==58):=beqU d 58
     have HV2:Hid (Lz.rootedP ((x::r).map fun x:ByteArray=>x.data.toList)=(d==58)):=by
      show _=_;rw[HV.out,hq,get_of_lt hp1,<-hd];rfl
     have CD:=Ih cD;have Hz:=Ih hz;clear cD hq hx hd hz;go_enter Tryz.func92,Tryz.ntmps92
     go_wp2_with fail
     refine CD.out.mono ?_;rintro e w1 ⟨rfl,rfl⟩
     go_wp2_with fail
     go_ret;rw[HV2.out];exact⟨by first |rfl|rw[b1]|(rw[<-b1];rfl),rfl⟩
theorem rowAt {w:World} {R:Nat} {cs:Array Value} {t:TypeId} {fr:Nat×Nat} (h:w.heap[R]? =some (.cells cs t fr)) (k:Nat) (v:Value) (hv:cs[k]? =some v):w.cell? ⟨R,k,none⟩=some v:=by
 rw[cell_of_row w R k _ _ _ h];exact hv
theorem rowFz {w:World} {R:Nat} {cs:Array Value} {t:TypeId} (h:w.heap[R]? =some (.cells cs t (0,0))) (k:Nat):w.frozen? ⟨R,k,none⟩=false:=by simp[World.frozen?,h]
theorem rowSet {w:World} {R:Nat} {cs:Array Value} {t:TypeId} {fr:Nat×Nat} (h:w.heap[R]? =some (.cells cs t fr)) (k:Nat) (v:Value) {cs':Array Value} (hc:cs.setIfInBounds k v=cs'):(w.setCell ⟨R,k,none⟩ v).heap[R]? =some (.cells cs' t fr):=by
 rw[setCell_eq_setRow w R k cs _ _ v h,<-hc];exact setRow_heap _ _ _ _ _ _ h
theorem row_lt {w:World} {R:Nat} {o:Obj} (h:w.heap[R]? =some o):R<w.heap.size:=(Array.getElem?_eq_some_iff.1 h).1
theorem setCell_other {w:World} {p:Addr} {k:Nat} (h:k≠p.block) (v:Value):(w.setCell p v).heap[k]? =w.heap[k]? :=Below.heap_setCell w p v k h
theorem grown_setCell (w:World) (p:Addr) (v:Value):w.grownBy (w.setCell p v) (some p.block):=
 ⟨rfl,rfl,rfl,by simp,fun k _ hk=>setCell_other (fun e=>hk (by rw[e])) v⟩
theorem add_block (a:Addr) (j:Nat) (hs:a.spot=none):(a.add j).block=a.block:=by
 obtain⟨G,off,spot⟩:=a;obtain rfl:spot=none:=hs;unfold Addr.add;split<;>rfl
theorem infoTxt:(Tryz.prog.info? 9).map (fun i=>(i.zero,i.size,i.bytes))=some (some (.string ⟨#[]⟩),1,16):=by kernel_rfl
def PathOwn (w:World) (B:Nat) (v:Value) (xs:List ByteArray):Prop:=
 w.ownsRow B 9 1 v xs.length (xs.map Value.string)\/
 ∃a:Addr,v=.slice (some a) xs.length xs.length/\a.spot=none/\(∀j u,(xs.map Value.string)[j]? =some u->w.cell? (a.add j)=some u)/\(xs≠[]->∃cur fz,w.heap[a.block]? =some (.cells cur 9 fz))
theorem PathOwn.nil (w:World) (B:Nat):PathOwn w B (.slice none 0 0) []:=.inl (World.ownsRow_nil w B _ _)
theorem PathOwn.kept {w w':World} {B:Nat} {v:Value} {xs:List ByteArray} {row:Option Nat} (h:PathOwn w B v xs) (hg:w.grownBy w' row)
  (hr:∀k,row=some k->∃cs t fr,w.heap[k]? =some (.cells cs t fr)/\t≠9):PathOwn w' B v xs:=by
 rcases h with h|⟨a,rfl,hs,hc,hb⟩
 ·refine .inl (h.kept hg ?_);rcases h.2 with⟨rfl,_⟩|⟨g,cap,cur,rfl,_,hgb,_⟩
  ·exact .inl rfl
  ·refine .inr fun e=>?_;obtain⟨cs,t,fr,h1,h2⟩:=hr g e.symm;rw[hgb]at h1;injection h1 with h1
   injection h1 with _ h3 _
   exact h2 h3.symm
 ·by_cases hx:xs=[]
  ·subst hx;exact .inr ⟨a,rfl,hs,fun j u hj=>by simp at hj,fun h=>absurd rfl h⟩
  ·obtain⟨cur,fz,hcur⟩:=hb hx
   have hne:some a.block≠row:=fun e=>by
    obtain⟨cs,t,fr,h1,h2⟩:=hr a.block e.symm;rw[hcur]at h1;injection h1 with h1
    injection h1 with _ h3 _
    exact h2 h3.symm
   have hk:=hg.block a.block (row_lt hcur) hne;exact .inr ⟨a,rfl,hs,fun j u hj=>(World.cell?_of_block (a:=a.add j) (by rw[add_block a j hs];exact hk)).trans (hc j u hj),fun _=>⟨cur,fz,by rw[hk];exact hcur⟩⟩
theorem below_grown {w w':World} (hb:Below w.heap.size w w'):w.grownBy w' none:=⟨hb.os,hb.tape,hb.output,hb.size,fun k hk _=>hb.block k hk⟩
theorem PathOwn.below {w w':World} {B:Nat} {v:Value} {xs:List ByteArray} (h:PathOwn w B v xs) (hb:Below w.heap.size w w'):PathOwn w' B v xs:=
 h.kept (below_grown hb) (fun k hk=>by cases hk)
theorem PathOwn.setCell {w:World} {B M:Nat} {v:Value} {xs:List ByteArray} {cs:Array Value} {t:TypeId} {fr:Nat×Nat} (h:PathOwn w B v xs) (hM:w.heap[M]? =some (.cells cs t fr)) (ht:t≠9) (k:Nat) (u:Value):PathOwn (w.setCell ⟨M,k,none⟩ u) B v xs:=
 h.kept (grown_setCell w ⟨M,k,none⟩ u) (fun k hk=>by injection hk with hk;subst hk;exact⟨cs,t,fr,hM,ht⟩)
theorem PathOwn.form {w:World} {B:Nat} {v:Value} {xs:List ByteArray} (h:PathOwn w B v xs):∃a c,v=.slice a xs.length c/\xs.length<=c/\∀(j:Nat) (x:ByteArray),xs[j]? =some x->∃G off,a=some ⟨G,off,none⟩/\G<w.heap.size/\w.cell? ⟨G,off+j,none⟩=some (.string x):=by
 rcases h with h|⟨a,rfl,hs,hc,hb⟩
 ·rcases h.2 with⟨rfl,h0⟩|⟨g,cap,cur,rfl,hgb,hg,hn,hcm,hcs,htk⟩
  ·refine⟨none,0,by rw[h0],by omega,fun j x hj=>?_⟩;rw[List.eq_nil_of_length_eq_zero h0]at hj
   simp at hj
  ·refine⟨_,cap,rfl,hn,fun j x hj=>⟨g,0,rfl,row_lt hg,?_⟩⟩;have:=h.cells (g:=g) rfl j (.string x) (by rw[List.getElem?_map,hj];rfl);rw[addr_add]at this;rw[Nat.zero_add];exact this
 ·refine⟨some a,xs.length,rfl,Nat.le_refl _,fun j x hj=>?_⟩;obtain⟨G,off,spot⟩:=a;obtain rfl:spot=none:=hs;have:=hc j (.string x) (by rw[List.getElem?_map,hj];rfl);rw[show(⟨G,off,none⟩:Addr).add j=⟨G,off+j,none⟩ by simp[Addr.add]]at this;exact⟨G,off,rfl,World.block_lt_of_cell? _ _ this,this⟩
theorem PathOwn.pop {w:World} {B:Nat} {a:Option Addr} {n c:Nat} {xs:List ByteArray} (h:PathOwn w B (.slice a n c) xs) (hn:1<=xs.length):PathOwn w B (.slice a (n-1) (n-1)) xs.dropLast:=by
 have hl:xs.dropLast.length=n-1:=by
  obtain⟨a',c',e,_⟩:=h.form;injection e with _ e2 _
  rw[List.length_dropLast,e2]
 have hsub:∀(j:Nat) (u:Value),(xs.dropLast.map Value.string)[j]? =some u->(xs.map Value.string)[j]? =some u:=by
  intro j u hj;rw[List.getElem?_map,Option.map_eq_some_iff]at hj;obtain⟨x,hx,rfl⟩:=hj;have hjl:=(List.getElem?_eq_some_iff.1 hx).1;rw[List.length_dropLast]at hjl;rw[List.getElem?_map,<-List.getElem?_take_of_lt (show j<xs.length-1 from hjl),<-List.dropLast_eq_take,hx];rfl
 rcases h with h|⟨p,e,hs,hc,hb⟩
 ·rcases h.2 with⟨e,h0⟩|⟨g,cap,cur,e,hgb,hg,hnc,hcm,hcs,htk⟩
  ·omega
  ·injection e with e1 e2 e3
   subst e1;exact .inr ⟨⟨g,0,none⟩,by rw[hl],rfl,fun j u hj=>h.cells (g:=g) (by rw[Value.ownBlock]) j u (hsub j u hj),fun _=>⟨cur,(0,0),hg⟩⟩
 ·injection e with e1 e2 e3
  subst e1;exact .inr ⟨p,by rw[hl],hs,fun j u hj=>hc j u (hsub j u hj),fun _=>hb (fun e=>by rw[e]at hn;simp at hn)⟩
section
variable {P:Program} (w:World)
theorem run_append_full (base:Nat) (t ty e:TypeId) (i:TypeInfo) (z:Value) (bytes:Nat) (ht:P.underlying t=some (.slice e)) (hi:P.info? e=some i) (hz:i.zero=some z)
  (hsize:i.size=1) (hby:i.bytes=bytes) (hzs:z.cells.size=1)
  (p:Addr) (n:Nat) (xs:List Value) (hlx:xs.length=n) (hcx:∀j u,xs[j]? =some u->w.cell? (p.add j)=some u)
  (a:Addr) (c:Nat) (x:Value) (hx:w.cell? (a.add 0)=some x)
  (h63:n+1<=maxLen) (hbytes:(n+1)*bytes<=140737488355328) (hbase:base<=w.heap.size):
  ∃v' w',(Builtin.append_ #[t,t] ty #[.slice (some p) n n,.slice (some a) 1 c]).run P w=.ok v' w'/\w'.ownsRow base e 1 v' (n+1) (xs++[x])/\w.grownBy w' none:=by
 have hsmall:n+1<=9223372036854775807:=by simp only[maxLen]at h63;omega
 have hr:=run_append_grow (P:=P) w t ty e i z ht hi hz p n n xs (by rw[hsize,Nat.mul_one];exact hlx) hcx a 1 c [x] (by rw[hsize];rfl) (fun j u hj=>by
  have:j<1:=by simpa using(List.getElem?_eq_some_iff.1 hj).1
  obtain rfl:j=0:=by omega
  obtain rfl:x=u:=by simpa using hj
  exact hx) (by omega) (by omega) (growslice_fits (by omega) (by rw[hby];exact hbytes))
 refine⟨_,_,hr,⟨by simp[hlx],.inr ⟨w.heap.size,_,_,rfl,hbase,heap_alloc_new w.drew _,grownCap_ge _ _ _ _,grownCap_le_maxLen w (n+1) n e h63,?_,?_⟩⟩,⟨rfl,rfl,rfl,by simp,fun k hk _=>Below.heap_alloc w.drew _ k hk⟩⟩
 ·have hge:=grownCap_ge w (n+1) n e;simp only[Array.size_append,List.size_toArray,size_zeroCells,hzs,hlx,List.length_singleton];omega
 ·simp only[Array.toList_append,List.append_assoc];rw[<-List.append_assoc,show(n+1)*1=(xs++[x]).length by simp[hlx]];exact List.take_left
end
theorem run_append_path (w:World) (base:Nat) (ty:TypeId) (v:Value) (xs:List ByteArray) (hown:PathOwn w base v xs) (a:Addr) (c:Nat) (p:ByteArray) (hp:w.cell? (a.add 0)=some (.string p))
  (hlen:xs.length<=1000000000) (hbase:base<=w.heap.size):
  ∃v' w' row,(Builtin.append_ #[23,23] ty #[v,.slice (some a) 1 c]).run Tryz.prog w=.ok v' w'/\PathOwn w' base v' (xs++[p])/\w.grownBy w' row/\(∀k,row=some k->base<=k/\∃cur fr,w.heap[k]? =some (.cells cur 9 fr)):=by
 obtain⟨i0,hi,hz0,hz1,hz2⟩:=info_parts infoTxt;have hm:(xs++[p]).map Value.string=xs.map Value.string++[.string p]:=by simp
 rcases hown with h|⟨q,rfl,hs,hc,hb⟩
 ·have hn1:∀j u,[Value.string p][j]? =some u->w.cell? (a.add j)=some u:=fun j u hj=>by
   have:j<1:=by simpa using(List.getElem?_eq_some_iff.1 hj).1
   obtain rfl:j=0:=by omega
   obtain rfl:Value.string p=u:=by simpa using hj
   exact hp
  obtain⟨v',w',hr,h2,h3,_⟩:=run_append_own (P:=Tryz.prog) w base 23 ty 9 i0 (.string ⟨#[]⟩) 1 16 Tryz.underlying23 hi hz0 hz1 hz2 rfl (by decide) v xs.length (xs.map Value.string) h a 1 c [.string p] rfl hn1 (by simp[Value.oneCell']) (by unfold maxLen;omega) (by omega) hbase;refine⟨v',w',v.ownBlock,hr,.inl ?_,h3,fun k hk=>?_⟩
  ·rw[hm,List.length_append];exact h2
  ·rcases h.2 with⟨rfl,_⟩|⟨g,cap,cur,rfl,hgb,hg,_⟩
   ·cases hk
   ·injection hk with hk;subst hk;exact⟨hgb,cur,_,hg⟩
 ·obtain⟨v',w',hr,h2,h3⟩:=run_append_full (P:=Tryz.prog) w base 23 ty 9 i0 (.string ⟨#[]⟩) 16 Tryz.underlying23 hi hz0 hz1 hz2 rfl q xs.length (xs.map Value.string) (by simp) hc a c (.string p) hp (by unfold maxLen;omega) (by omega) hbase;refine⟨v',w',none,hr,.inl ?_,h3,fun k hk=>by cases hk⟩;rw[hm,List.length_append];exact h2
def RowOk (B:Nat) (w:World) (row:Option Nat):Prop:=∀k,row=some k->B<=k/\∃cur fr,w.heap[k]? =some (.cells cur 9 fr)
theorem wpList_append_path (w:World) {ops:Array Oper} {rest:List Oper} {o:Oper} {a:Act} {Q:Exit->Act->World->Prop} (hgd:o.guard=none) (s x:Operand)
  (ho:o.op=.call {callee:=.builtin .append,args:= #[s,x],argTypes:= #[23,23]})
  (base:Nat) (v:Value) (xs:List ByteArray) (hs:a.eval s=v) (hown:PathOwn w base v xs) (ad:Addr) (c:Nat) (p:ByteArray) (hx:a.eval x=.slice (some ad) 1 c) (hp:w.cell? (ad.add 0)=some (.string p))
  (hlen:xs.length<=1000000000) (hbase:base<=w.heap.size)
  (h:∀g n' c' w' row,PathOwn w' base (.slice (some g) n' c') (xs++[p])->w.grownBy w' row->RowOk base w row->wpList Tryz.prog ops Q rest (a.put o.dst (.slice (some g) n' c')) w'):
  wpList Tryz.prog ops Q (o::rest) a w:=by
 refine wpList_plain hgd fun K hK=>?_;obtain⟨v',w',row,hr,h2,h3,h4⟩:=run_append_path w base o.type v xs hown ad c p hp hlen hbase;obtain⟨g,c',rfl,_,hcells⟩:=h2.form;obtain⟨G,off,rfl,_,_⟩:=hcells xs.length p (by simp);unfold Oper.wp execOp;simp only[ho,resolve,invoke,builtin,Sem.run_bind,Sem.run_pure,Result.andThen_ok,List.map_toArray,List.map_cons,List.map_nil,hs,hx,hr];exact hK _ _ (h _ _ _ w' row h2 h3 h4)
structure MkV where
 sch:ByteArray
 usr:ByteArray
 pas:ByteArray
 hh:Bool
 hst:ByteArray
 prt:Int
 opq:Bool
 pv:Value
 xs:List ByteArray
 hq:Bool
 hf:Bool
 qry:ByteArray
 frg:ByteArray
def MkV.cells (x:MkV):Array Value:= #[.string x.sch,.string x.usr,.string x.pas,.bool x.hh,.string x.hst,.int .i64 x.prt,.bool x.opq,x.pv,.bool x.hq,.bool x.hf,.string x.qry,.string x.frg]
def MkV.url (x:MkV):Lz.UrlL:=⟨x.sch.data.toList,x.usr.data.toList,x.pas.data.toList,x.hh,x.hst.data.toList,x.prt,x.opq,x.xs.map (·.data.toList),x.hq,x.hf,x.qry.data.toList,x.frg.data.toList⟩
def slashB (sp:Bool):ByteArray:=if sp then⟨#[47,92]⟩else⟨#[47]⟩
structure MkAt (B M:Nat) (w:World) (x:MkV) (sp:Bool) (sl:ByteArray):Prop where
 row:w.heap[M]? =some (.cells #[.string x.sch,.string x.usr,.string x.pas,.bool x.hh,.string x.hst,.int .i64 x.prt,.bool x.opq,x.pv,.bool x.hq,.bool x.hf,.string x.qry,.string x.frg,.bool sp,.string sl] 52 (0,0))
 own:PathOwn w B x.pv x.xs
 le:B<=M
def MkIs (B M:Nat) (w:World) (u:Lz.UrlL):Prop:=∃x,MkAt B M w x (Lz.specP x.sch.data.toList) (slashB (Lz.specP x.sch.data.toList))/\Hid (x.url=u)
theorem MkAt.below {B M:Nat} {w w':World} {x:MkV} {sp:Bool} {sl:ByteArray} (h:MkAt B M w x sp sl) (hb:Below w.heap.size w w'):MkAt B M w' x sp sl:=
 ⟨by rw[hb.block M (row_lt h.row)];exact h.row,h.own.below hb,h.le⟩
theorem MkIs.below {B M:Nat} {w w':World} {u:Lz.UrlL} (h:MkIs B M w u) (hb:Below w.heap.size w w'):MkIs B M w' u:=by
 obtain⟨x,hx,hu⟩:=h;exact⟨x,hx.below hb,hu⟩
theorem MkIs.form {B M:Nat} {w:World} {u:Lz.UrlL} (h:MkIs B M w u):∃(sch usr pas:ByteArray) (hh:Bool) (hst:ByteArray) (prt:Int) (opq:Bool) (a:Option Addr) (c:Nat) (xs:List ByteArray) (hq hf:Bool) (qry frg:ByteArray),
  MkAt B M w ⟨sch,usr,pas,hh,hst,prt,opq,.slice a xs.length c,xs,hq,hf,qry,frg⟩ (Lz.specP sch.data.toList) (slashB (Lz.specP sch.data.toList))/\
  u=⟨sch.data.toList,usr.data.toList,pas.data.toList,hh,hst.data.toList,prt,opq,xs.map (fun x:ByteArray=>x.data.toList),hq,hf,qry.data.toList,frg.data.toList⟩/\xs.length<=c/\
  ∀(j:Nat) (x:ByteArray),xs[j]? =some x->∃G off,a=some ⟨G,off,none⟩/\G<w.heap.size/\w.cell? ⟨G,off+j,none⟩=some (.string x):=by
 obtain⟨⟨sch,usr,pas,hh,hst,prt,opq,pv,xs,hq,hf,qry,frg⟩,hm,hu⟩:=h;obtain⟨a,c,hpv,hc,hcells⟩:=hm.own.form;have hpv':pv=.slice a xs.length c:=hpv;subst hpv';exact⟨sch,usr,pas,hh,hst,prt,opq,a,c,xs,hq,hf,qry,frg,hm,hu.out.symm,hc,hcells⟩
def RMk (B M:Nat) (u:Lz.UrlL) (w:World) (e:Ending) (w':World):Prop:=e=.returned (.tuple #[])/\Below B w w'/\MkIs B M w' u
theorem maker_ne:52≠9:=by decide
theorem below_grownP {B:Nat} {a w w':World} {row:Option Nat} (h:Below B a w) (hg:w.grownBy w' row) (hB:B<=w.heap.size) (hr:RowOk B w row):Below B a w':=
 h.grown hg hB fun k hk=>(hr k hk).1
theorem row_grownP {w w':World} {row:Option Nat} {B M:Nat} {cs:Array Value} (hM:w.heap[M]? =some (.cells cs 52 (0,0))) (hg:w.grownBy w' row) (hr:RowOk B w row):w'.heap[M]? =some (.cells cs 52 (0,0)):=by
 rw[hg.block M (row_lt hM) (fun e=>?_)]
 ·exact hM
 ·obtain⟨_,cur,fr,h1⟩:=hr M e.symm;rw[hM]at h1;injection h1 with h1
  injection h1 with _ h2 _
  exact maker_ne h2
theorem mk_set {B M:Nat} {w:World} {x:MkV} {sp:Bool} {sl:ByteArray} (h:MkAt B M w x sp sl) (k:Nat) (v:Value) (x':MkV) (sp':Bool) (sl':ByteArray)
  (hc:(#[.string x.sch,.string x.usr,.string x.pas,.bool x.hh,.string x.hst,.int .i64 x.prt,.bool x.opq,x.pv,.bool x.hq,.bool x.hf,.string x.qry,.string x.frg,.bool sp,.string sl]:Array Value).setIfInBounds k v= #[.string x'.sch,.string x'.usr,.string x'.pas,.bool x'.hh,.string x'.hst,.int .i64 x'.prt,.bool x'.opq,x'.pv,.bool x'.hq,.bool x'.hf,.string x'.qry,.string x'.frg,.bool sp',.string sl'])
  (ho:∀w',PathOwn w' B x.pv x.xs->(PathOwn w' B x'.pv x'.xs)):MkAt B M (w.setCell ⟨M,k,none⟩ v) x' sp' sl':=
 ⟨rowSet h.row k v hc,ho _ (h.own.setCell h.row maker_ne k v),h.le⟩
theorem as_any (B M:Nat) (x:MkV) (sp:Bool) (sl s:ByteArray) (w:World) (hm:MkAt B M w x sp sl):
  Calls Tryz.prog 53 #[.pointer (some ⟨M,0,none⟩),.string s] w fun e w'=>e=.returned (.tuple #[])/\Below B w w'/\MkAt B M w' {x with sch:=s} (Lz.specP s.data.toList) (slashB (Lz.specP s.data.toList)):=by
 obtain⟨sch,usr,pas,hh,hst,prt,opq,pv,xs,hq,hf,qry,frg⟩:=x;have hle:=hm.le;have cS:=Ih (fun W=>Special_any s W);obtain⟨q,hq'⟩:∃q,q=Lz.specP s.data.toList:=⟨_,rfl⟩;rw[<-hq']at cS⊢;clear hq';have m1:=mk_set hm 0 (.string s) {sch:=s,usr:=usr,pas:=pas,hh:=hh,hst:=hst,prt:=prt,opq:=opq,pv:=pv,xs:=xs,hq:=hq,hf:=hf,qry:=qry,frg:=frg} sp sl (by simp) (fun _ h=>h);have m2:=mk_set m1 12 (.bool q) {sch:=s,usr:=usr,pas:=pas,hh:=hh,hst:=hst,prt:=prt,opq:=opq,pv:=pv,xs:=xs,hq:=hq,hf:=hf,qry:=qry,frg:=frg} q sl (by simp) (fun _ h=>h);have m3:=mk_set m2 13 (.string ⟨#[47]⟩) {sch:=s,usr:=usr,pas:=pas,hh:=hh,hst:=hst,prt:=prt,opq:=opq,pv:=pv,xs:=xs,hq:=hq,hf:=hf,qry:=qry,frg:=frg} q ⟨#[47]⟩ (by simp) (fun _ h=>h);have m4:=mk_set m3 13 (.string ⟨#[47,92]⟩) {sch:=s,usr:=usr,pas:=pas,hh:=hh,hst:=hst,prt:=prt,opq:=opq,pv:=pv,xs:=xs,hq:=hq,hf:=hf,qry:=qry,frg:=frg} q ⟨#[47,92]⟩ (by simp) (fun _ h=>h);have b3:Below B w (((w.setCell ⟨M,0,none⟩ (.string s)).setCell ⟨M,12,none⟩ (.bool q)).setCell ⟨M,13,none⟩ (.string ⟨#[47]⟩)):=(((Below.refl B w).setCell (p:=⟨M,0,none⟩) hle _).setCell (p:=⟨M,12,none⟩) hle _).setCell (p:=⟨M,13,none⟩) hle _;have b4:=b3.setCell (p:=⟨M,13,none⟩) hle (.string ⟨#[47,92]⟩)
 have c0:=rowAt hm.row 0 (.string sch) rfl;have f0:=rowFz hm.row 0;have c12:=rowAt hm.row 12 (.bool sp) rfl;have f12:=rowFz hm.row 12;have c13:=rowAt hm.row 13 (.string sl) rfl;have f13:=rowFz hm.row 13;have e12:=rowAt m3.row 12 (.bool q) rfl;have M3:=Ih m3;have M4:=Ih m4;have B3:=Ih b3;have B4:=Ih b4;clear m1 m2 m3 m4 b3 b4 hm;cases q
 ·go_enter Tryz.func53,Tryz.ntmps53
  go_wp2_with fail
  refine(cS.out _).mono ?_;rintro e w1 ⟨rfl,rfl⟩
  go_wp2_with fail
  go_end0
  exact⟨rfl,B3.out,M3.out⟩
 ·go_enter Tryz.func53,Tryz.ntmps53
  go_wp2_with fail
  refine(cS.out _).mono ?_;rintro e w1 ⟨rfl,rfl⟩
  go_wp2_with fail
  go_end0
  exact⟨rfl,B4.out,M4.out⟩
theorem shortP_nil (s:List UInt8):Lz.shortP s []=[]:=by unfold Lz.shortP;split<;>rfl
theorem shortP_drop {s:List UInt8} {l:List (List UInt8)} (h:¬(s=Lz.fileS/\l.length=1/\Lz.rootedP l=true)):Lz.shortP s l=l.dropLast:=by unfold Lz.shortP;rw[if_neg h]
theorem short_done {B M:Nat} {w:World} {sch usr pas:ByteArray} {hh:Bool} {hst:ByteArray} {prt:Int} {opq:Bool} {a:Option Addr} {k c:Nat} {xs:List ByteArray} {hq hf:Bool} {qry frg:ByteArray} {sp:Bool} {sl:ByteArray}
  (hm:MkAt B M w ⟨sch,usr,pas,hh,hst,prt,opq,.slice a (k+1) c,xs,hq,hf,qry,frg⟩ sp sl) (hn:xs.length=k+1):
  Below B w (w.setCell ⟨M,7,none⟩ (.slice a k k))/\MkAt B M (w.setCell ⟨M,7,none⟩ (.slice a k k)) ⟨sch,usr,pas,hh,hst,prt,opq,.slice a k k,xs.dropLast,hq,hf,qry,frg⟩ sp sl:=
 ⟨(Below.refl B w).setCell (p:=⟨M,7,none⟩) hm.le _,mk_set hm 7 (.slice a k k) ⟨sch,usr,pas,hh,hst,prt,opq,.slice a k k,xs.dropLast,hq,hf,qry,frg⟩ sp sl (by simp) (fun _ h=>h.pop (by show 1<=xs.length;omega))⟩
theorem map_dropLast (xs:List ByteArray):xs.dropLast.map (fun x:ByteArray=>x.data.toList)=(xs.map (fun x:ByteArray=>x.data.toList)).dropLast:=by rw[List.map_dropLast]
theorem shorten_any (B M:Nat) (u:Lz.UrlL) (w:World) (hm:MkIs B M w u) (hl:u.path.length<=1000000000):
  Calls Tryz.prog 87 #[.pointer (some ⟨M,0,none⟩)] w (RMk B M {u with path:=Lz.shortP u.scheme u.path} w):=by
 obtain⟨sch,usr,pas,hh,hst,prt,opq,a,c,xs,hq,hf,qry,frg,hk,rfl,hc,hcells⟩:=hm.form;have hm0:=hm;have hlx:xs.length<=1000000000:=by simpa using hl
 have c7:=rowAt hk.row 7 (.slice a xs.length c) rfl;have c0:=rowAt hk.row 0 (.string sch) rfl;have f7:=rowFz hk.row 7;have hpa:PathAt w (.slice a xs.length c) (xs.map (fun x:ByteArray=>x.data.toList)):=⟨a,c,xs,rfl,rfl,hcells⟩;have cR:=rooted_any _ _ w hpa;obtain⟨n,hn⟩:∃n,n=xs.length:=⟨_,rfl⟩;rw[<-hn]at c7 cR hc hlx hk;clear hcells hl hpa;cases n with
 | zero=>
   have hx:xs=[]:=List.length_eq_zero_iff.1 hn.symm;subst hx
   have HF:Hid (MkIs B M w ⟨sch.data.toList,usr.data.toList,pas.data.toList,hh,hst.data.toList,prt,opq,Lz.shortP sch.data.toList [],hq,hf,qry.data.toList,frg.data.toList⟩):=by
    rw[shortP_nil];exact hm0
   clear hm hm0 hk cR hn;go_enter Tryz.func87,Tryz.ntmps87
   go_wp2_with fail
   go_end0
   exact⟨rfl,Below.refl _ _,HF.out⟩
 | succ k=>
   have hk0:(0:Int)<(((k+1:Nat)):Int):=by omega
   have hsd:=short_done hk hn.symm
   have HD:Hid ((¬(sch.data.toList=Lz.fileS/\k=0/\Lz.rootedP (xs.map (fun x:ByteArray=>x.data.toList))=true))->RMk B M ⟨sch.data.toList,usr.data.toList,pas.data.toList,hh,hst.data.toList,prt,opq,Lz.shortP sch.data.toList (xs.map (fun x:ByteArray=>x.data.toList)),hq,hf,qry.data.toList,frg.data.toList⟩ w (.returned (.tuple #[])) (w.setCell ⟨M,7,none⟩ (.slice a k k))):=by
    intro hno;refine⟨rfl,hsd.1,_,hsd.2,Ih ?_⟩;rw[shortP_drop (by rw[List.length_map,<-hn];intro h;exact hno ⟨h.1,by omega,h.2.2⟩),<-map_dropLast];rfl
   have hks:((k+1:Nat):Int)-1=(k:Int):=by omega
   have hkb:k<=1000000000:=by omega
   have hkc:k<=c:=by omega
   by_cases hf0:sch.data.toList=Lz.fileS
   ·have g0:=text_yes (k:=[102,105,108,101]) hf0;by_cases hk1:k=0
    ·subst hk1;cases hr:Lz.rootedP (xs.map (fun x:ByteArray=>x.data.toList))with
     | true=>
       have HF:Hid (MkIs B M w ⟨sch.data.toList,usr.data.toList,pas.data.toList,hh,hst.data.toList,prt,opq,Lz.shortP sch.data.toList (xs.map (fun x:ByteArray=>x.data.toList)),hq,hf,qry.data.toList,frg.data.toList⟩):=by
        have:Lz.shortP sch.data.toList (xs.map (fun x:ByteArray=>x.data.toList))=xs.map (fun x:ByteArray=>x.data.toList):=by unfold Lz.shortP;rw[if_pos ⟨hf0,by rw[List.length_map,<-hn],hr⟩]
        rw[this];exact hm0
       rw[hr]at cR;have CR:=Ih cR;clear hm hm0 hk cR hn hsd hr hf0;go_enter Tryz.func87,Tryz.ntmps87
       go_wp2_with fail
       refine CR.out.mono ?_;rintro e w1 ⟨rfl,rfl⟩
       go_wp2_with fail
       go_end0
       exact⟨rfl,Below.refl _ _,HF.out⟩
     | false=>
       rw[hr]at cR;have HE:=Ih (HD.out (fun h=>by rw[hr]at h;exact absurd h.2.2 (by simp)));have CR:=Ih cR;clear hm hm0 hk cR hn hsd hr hf0;go_enter Tryz.func87,Tryz.ntmps87
       go_wp2_with fail
       refine CR.out.mono ?_;rintro e w1 ⟨rfl,rfl⟩
       go_wp2_with fail
       go_end0
       exact HE.out
    ·have hk2:(1:Int)<(((k+1:Nat)):Int):=by omega
     have hk3:(1:Int)<(k:Int)+1:=by omega
     have HE:=Ih (HD.out (fun h=>hk1 h.2.1));clear hm hm0 hk cR hn hsd hf0;go_enter Tryz.func87,Tryz.ntmps87
     go_wp2_with fail
     go_end0
     exact HE.out
   ·have g0:=text_no (k:=[102,105,108,101]) hf0;have HE:=Ih (HD.out (fun h=>hf0 h.1));clear hm hm0 hk cR hn hsd hf0;go_enter Tryz.func87,Tryz.ntmps87
    go_wp2_with fail
    go_end0
    exact HE.out
theorem EnvH.at {B:Nat} {w w':World} (h:EnvH w) (hb:Below B w w') (hB:9<=B):EnvH w':=by
 have hz:=h.size;have hc:∀b o,b<9->w'.cell? ⟨b,o,none⟩=w.cell? ⟨b,o,none⟩:=fun b o hlt=>hb.cell (p:=⟨b,o,none⟩) (by show b<_;omega);obtain⟨h1,h2,h3,h4,h5,h6,h7,h8⟩:=h;refine⟨?_,?_,?_,?_,?_,?_,?_,Nat.le_trans hz hb.size⟩
 ·obtain⟨m,hm⟩:=h1;exact⟨m,by rw[hc _ _ (by decide)];exact hm⟩
 ·exact var?_below hb gPow (by have:1<9:=by decide
                               omega) h2
 ·obtain⟨a,b,hm⟩:=h3;exact⟨a,b,by rw[hc _ _ (by decide)];exact hm⟩
 ·obtain⟨a,b,hm⟩:=h4;exact⟨a,b,by rw[hc _ _ (by decide)];exact hm⟩
 ·rw[hc _ _ (by decide)];exact h5
 ·rw[hc _ _ (by decide)];exact h6
 ·rw[hc _ _ (by decide)];exact h7
theorem dots_any (s:ByteArray) (hs:s.size<=1000000000) (w:World) (hE:EnvH w):Calls Tryz.prog 100 #[.string s] w (RInt (Lz.dotsP s.data.toList:Nat) w):=by
 have cL:=Ih (fun W=>Lower_c s (by omega) W);go_enter Tryz.func100,Tryz.ntmps100
 go_wp2_with fail
 refine(cL.out _).mono ?_;rintro e w1 ⟨u,rfl,hu,hb1⟩;have hus:u.size=s.size:=by rw[<-len_of_size,hu.out,low_length,len_of_size]
 obtain⟨m,hm⟩:=(hE.below hb1).ml
 have cR:=Tryz.strings_ReplaceAll u ⟨#[37,50,101]⟩ ⟨#[46]⟩ m w1 (by omega) hm (by decide) (by
  have:=Lib.countB_le ⟨#[37,50,101]⟩ (by decide) u.size u (Nat.le_refl _);have h1:(⟨#[46]⟩:ByteArray).size=1:=rfl;rw[h1];omega)
 have hrep:Lib.replaceAll u.data.toList (⟨#[37,50,101]⟩:ByteArray).data.toList (⟨#[46]⟩:ByteArray).data.toList=Lz.unE (Lz.low s.data.toList):=by
  rw[hu.out];exact Lz.replace_unE _
 rw[hrep]at cR;have CR:=Ih cR;obtain⟨r,hr⟩:∃r:ByteArray,r=⟨(Lz.unE (Lz.low s.data.toList)).toArray⟩:=⟨_,rfl⟩;have hrd:r.data.toList=Lz.unE (Lz.low s.data.toList):=by rw[hr]
 rw[<-hr]at CR;clear cR hrep hr hm;by_cases h1:r.data.toList=[46]
 ·have g1:=text_yes h1;have hz:r.size=1:=by rw[<-len_of_size,h1];rfl
  have HV:Hid (Lz.dotsP s.data.toList=1):=by show _=_;unfold Lz.dotsP;rw[<-hrd,if_pos h1]
  clear hrd h1
  go_wp2_with fail
  refine CR.out.mono ?_;rintro e w2 ⟨rfl,hb2⟩
  go_wp2_with fail
  go_ret;rw[HV.out];exact⟨by first |rfl|(rw[hz];rfl),below_call hb1 hb2⟩
 ·have g1:=text_no h1;by_cases h2:r.data.toList=[46,46]
  ·have g2:=text_yes h2;have hz:r.size=2:=by rw[<-len_of_size,h2];rfl
   have HV:Hid (Lz.dotsP s.data.toList=2):=by show _=_;unfold Lz.dotsP;rw[<-hrd,if_neg h1,if_pos h2]
   clear hrd h1 h2
   go_wp2_with fail
   refine CR.out.mono ?_;rintro e w2 ⟨rfl,hb2⟩
   go_wp2_with fail
   go_ret;rw[HV.out];exact⟨by first |rfl|(rw[hz];rfl),below_call hb1 hb2⟩
  ·have g2:=text_no h2;have HV:Hid (Lz.dotsP s.data.toList=0):=by show _=_;unfold Lz.dotsP;rw[<-hrd,if_neg h1,if_neg h2]
   clear hrd h1 h2
   go_wp2_with fail
   refine CR.out.mono ?_;rintro e w2 ⟨rfl,hb2⟩
   go_wp2_with fail
   go_ret;rw[HV.out];exact⟨rfl,below_call hb1 hb2⟩
theorem app_mid {B M:Nat} {w w5:World} {x:MkV} {sp:Bool} {sl:ByteArray} {o:Obj} {row:Option Nat} (hm:MkAt B M w x sp sl) (hB:B<=w.heap.size) (hg:(w.alloc o).grownBy w5 row)
  (hr:RowOk B (w.alloc o) row):
  Below B w w5/\w5.heap[M]? =some (.cells #[.string x.sch,.string x.usr,.string x.pas,.bool x.hh,.string x.hst,.int .i64 x.prt,.bool x.opq,x.pv,.bool x.hq,.bool x.hf,.string x.qry,.string x.frg,.bool sp,.string sl] 52 (0,0)):=
 ⟨below_grownP ((Below.refl B w).alloc hB o) hg (by simp;omega) hr,row_grownP (by rw[Below.heap_alloc w o M (row_lt hm.row)];exact hm.row) hg hr⟩
theorem app_done {B M:Nat} {w w5:World} {sch usr pas:ByteArray} {hh:Bool} {hst:ByteArray} {prt:Int} {opq:Bool} {pv:Value} {xs:List ByteArray} {hq hf:Bool} {qry frg:ByteArray} {sp:Bool} {sl:ByteArray} {v':Value} {p:ByteArray}
  (hb:Below B w w5) (hM:w5.heap[M]? =some (.cells #[.string sch,.string usr,.string pas,.bool hh,.string hst,.int .i64 prt,.bool opq,pv,.bool hq,.bool hf,.string qry,.string frg,.bool sp,.string sl] 52 (0,0)))
  (hle:B<=M) (hown:PathOwn w5 B v' (xs++[p])):
  Below B w (w5.setCell ⟨M,7,none⟩ v')/\MkAt B M (w5.setCell ⟨M,7,none⟩ v') ⟨sch,usr,pas,hh,hst,prt,opq,v',xs++[p],hq,hf,qry,frg⟩ sp sl:=
 ⟨hb.setCell (p:=⟨M,7,none⟩) hle _,⟨rowSet hM 7 v' (by simp),hown.setCell hM maker_ne 7 v',hle⟩⟩
end Go.Proofs.YtipndhbgehdeoaaGreatDoor
namespace Lz
open Go
theorem bind_path {r:UR} {f:UrlL->UR} {u v:UrlL} (hr:∀x,r=.ok x->x.path=u.path/\x.scheme=u.scheme) (hf:∀x y,f x=.ok y->y.path=x.path/\y.scheme=x.scheme) (h:r.bind f=.ok v):v.path=u.path/\v.scheme=u.scheme:=by
 cases r with
 | er n=>cases h
 | ok x=>exact⟨((hf x v h).1).trans (hr x rfl).1,((hf x v h).2).trans (hr x rfl).2⟩
theorem hostU_path {u v:UrlL} {s:Bs} (h:hostU u s=.ok v):v.path=u.path/\v.scheme=u.scheme:=by
 unfold hostU at h;split at h
 ·cases h
 ·injection h with h;subst h;exact⟨rfl,rfl⟩
theorem portU_path {u v:UrlL} {s:Bs} (h:portU u s=.ok v):v.path=u.path/\v.scheme=u.scheme:=by
 unfold portU at h;split at h
 ·cases h
 ·split at h
  ·cases h
  ·split at h<;>(injection h with h;subst h;exact⟨rfl,rfl⟩)
theorem placeU_path {u v:UrlL} {s:Bs} (h:placeU u s=.ok v):v.path=u.path/\v.scheme=u.scheme:=by
 unfold placeU at h;split at h
 ·split at h
  ·cases h
  ·exact bind_path (fun x hx=>hostU_path hx) (fun x y hy=>portU_path hy) h
 ·split at h
  ·cases h
  ·exact bind_path (fun x hx=>hostU_path hx) (fun x y hy=>portU_path hy) h
theorem authU_path {u v:UrlL} {s:Bs} (h:authU u s=.ok v):v.path=u.path/\v.scheme=u.scheme:=by
 unfold authU at h;split at h
 ·split at h
  ·cases h
  ·exact⟨(placeU_path h).1,(placeU_path h).2⟩
 ·exact placeU_path h
end Lz
namespace Go.Proofs.YtipndhbgehdeoaaGreatDoor
open Go.RowKit
theorem disableO (w:World):(callFunc 170 #[]).run Tryz.prog w=.ok (.value (.tuple #[])) w:=run_call_mark0 Tryz.func170 (by kernel_rfl) (by kernel_rfl) (by kernel_rfl) .disable (by kernel_rfl) w
theorem enableO (w:World):(callFunc 172 #[]).run Tryz.prog w=.ok (.value (.tuple #[])) w:=run_call_mark0 Tryz.func172 (by kernel_rfl) (by kernel_rfl) (by kernel_rfl) .enable (by kernel_rfl) w
theorem acquireO (a:Addr) (w:World):(callFunc 173 #[.pointer (some a)]).run Tryz.prog w=.ok (.value (.tuple #[])) w:=run_call_marked Tryz.func173 (by kernel_rfl) (by kernel_rfl) (by kernel_rfl) .acquire (by kernel_rfl) a w
theorem releaseO (a:Addr) (w:World):(callFunc 175 #[.pointer (some a)]).run Tryz.prog w=.ok (.value (.tuple #[])) w:=run_call_marked Tryz.func175 (by kernel_rfl) (by kernel_rfl) (by kernel_rfl) .releaseMerge (by kernel_rfl) a w
theorem storeO (a:Addr) (x:Value) (u:FrameMode) (w:World) (hc:w.cell? a=some x) (hz:w.frozen? a=false):
  CallsD Tryz.prog 139 #[.pointer (some a),.bool true] u w fun e u' w'=>u'=u/\(e=.returned (.tuple #[])/\w'=w.drew.setCell a (.int .u32 1)):=by
 have hc':w.drew.cell? a=some x:=by go_simp
 have hz':w.drew.frozen? a=false:=by go_simp
 have hst:=run_call_store (P:=Tryz.prog) Tryz.func156 (by kernel_rfl) (by kernel_rfl) (by kernel_rfl) (by kernel_rfl) (k:=.u32) (y:=1) hc' hz'
 go_enter_d Tryz.func139,Tryz.ntmps139
 go_wp2
 go_region_calls
 all_goals (go_end0;exact⟨rfl,rfl⟩)
theorem unlockO (a:Addr) (u:FrameMode) (w:World) (hc:w.cell? a=some (.int .i32 1)) (hz:w.frozen? a=false):
  CallsD Tryz.prog 138 #[.pointer (some a)] u w fun e u' w'=>u'=u/\(e=.returned (.tuple #[])/\w'=w.setCell a (.int .i32 0)):=by
 have hd:=disableO;have he:=enableO;have hr:=releaseO;have hadd:=run_call_add (P:=Tryz.prog) Tryz.func176 (by kernel_rfl) (by kernel_rfl) (by kernel_rfl) .i32 (by kernel_rfl) (y:= -1) (s:=0) hc hz (by simp[go_sem];rfl);have hcv:=run_convert_to_unsafe (P:=Tryz.prog) (src:=213) (dst:=91) Tryz.underlying213 Tryz.underlying91 (by kernel_rfl) hc
 go_enter_d Tryz.func138,Tryz.ntmps138
 go_wp2
 go_end0
 go_wp2
 go_end0
 exact⟨rfl,rfl⟩
theorem lockO (a:Addr) (w:World) (hc:w.cell? a=some (.int .i32 0)) (hz:w.frozen? a=false):
  Calls Tryz.prog 137 #[.pointer (some a)] w fun e w'=>e=.returned (.tuple #[])/\w'=w.setCell a (.int .i32 1):=by
 have hd:=disableO;have he:=enableO;have ha:=acquireO;have hcas:=run_call_cas_hit (P:=Tryz.prog) Tryz.func171 (by kernel_rfl) (by kernel_rfl) (by kernel_rfl) .i32 (by kernel_rfl) (y:=1) hc hz;have hc':(w.setCell a (.int .i32 1)).cell? a=some (.int .i32 1):=World.cell?_setCell_same w a _ hc;have hcv:=run_convert_to_unsafe (P:=Tryz.prog) (src:=213) (dst:=91) Tryz.underlying213 Tryz.underlying91 (by kernel_rfl) hc';go_enter Tryz.func137,Tryz.ntmps137
 go_wp2
 first |go_end0|(simp only[Exit.inBlock,Exit.then];refine bodyPost_ret (results_none rfl _ _ _) rfl ?_)|refine bodyPost_ret (results_none rfl _ _ _) rfl ?_
 go_wp2
 go_end0
 exact⟨rfl,rfl⟩
structure BsRep (w:World) (g:Nat):Prop where
 row:∃cs:Array Value,w.heap[g]? =some (.cells cs 173 (0,0))/\(∀k:Nat,k<256->(if k=9\/k=10\/k=13 then ∃A c,cs[k]? =some (.slice (some A) 0 c)else cs[k]? =some (.slice none 0 0)))/\
  ∃G c cs2,cs[256]? =some (.slice (some ⟨G,0,none⟩) 3 c)/\w.heap[G]? =some (.cells cs2 9 (0,0))/\cs2[0]? =some (.string ⟨#[13]⟩)/\cs2[1]? =some (.string ⟨#[10]⟩)/\cs2[2]? =some (.string ⟨#[9]⟩)
theorem BsRep.kept {w w':World} {g:Nat} (h:BsRep w g) (hk:∀(k:Nat) (cs:Array Value) (t:TypeId),w.heap[k]? =some (.cells cs t (0,0))->t=173\/t=9->w'.heap[k]? =w.heap[k]?):BsRep w' g:=by
 obtain⟨cs,h1,h2,G,c,cs2,h3,h4,h5⟩:=h.row;exact⟨cs,by rw[hk g cs _ h1 (.inl rfl)];exact h1,h2,G,c,cs2,h3,by rw[hk G cs2 _ h4 (.inr rfl)];exact h4,h5⟩
def RepRow (w:World) (b:Nat) (d s e:Int) (rv ov:Value):Prop:=w.heap[b]? =some (.cells #[.int .u32 d,.int .i32 s,.int .u32 e,rv,ov] 108 (0,0))
theorem BsRep.set {w:World} {g b:Nat} {d s e:Int} {rv ov:Value} (h:BsRep w g) (hr:RepRow w b d s e rv ov) (k:Nat) (v:Value):BsRep (w.setCell ⟨b,k,none⟩ v) g:=
 h.kept fun j _ _ hj ht=>setCell_other (fun e=>by
  have e':j=b:=e;rw[e',show w.heap[b]? =_ from hr]at hj;injection hj with hj
  injection hj with _ h2 _
  rcases ht with ht|ht<;>(rw[ht]at h2;exact absurd h2 (by decide))) v
theorem BsRep.below {w w':World} {g:Nat} (h:BsRep w g) (hb:Below w.heap.size w w'):BsRep w' g:=h.kept fun j _ _ hj _=>hb.block j (row_lt hj)
theorem RepRow.set {w:World} {b:Nat} {d s e:Int} {rv ov:Value} (h:RepRow w b d s e rv ov) (k:Nat) (v:Value) {d' s':Int} {rv' ov':Value} (hc:(#[.int .u32 d,.int .i32 s,.int .u32 e,rv,ov]:Array Value).setIfInBounds k v= #[.int .u32 d',.int .i32 s',.int .u32 e,rv',ov']):RepRow (w.setCell ⟨b,k,none⟩ v) b d' s' e rv' ov':=rowSet h k v hc
def RBuilt1 (B b:Nat) (d s e:Int) (w:World) (w':World):Prop:=Below B w w'/\∃g,RepRow w' b d s e (.iface 174 (.pointer (some ⟨g,0,none⟩))) (.slice none 0 0)/\BsRep w' g
theorem slowO (B b:Nat) (e:Int) (rv ov:Value) (w:World) (hBb:B<=b) (hrow:RepRow w b 0 0 e rv ov)
  (cB:∀W,Below B w W->W=w.setCell ⟨b,1,none⟩ (.int .i32 1)->Calls Tryz.prog 79 #[.pointer (some ⟨b,0,none⟩)] W fun e' W'=>e'=.returned (.tuple #[])/\RBuilt1 B b 0 1 e W W'):
  Calls Tryz.prog 116 #[.pointer (some ⟨b,0,none⟩),.func (.func 79) #[.pointer (some ⟨b,0,none⟩)] #[]] w fun e' w'=>e'=.returned (.tuple #[])/\RBuilt1 B b 1 0 e w w':=by
 have c0:=rowAt hrow 0 (.int .u32 0) rfl;have c1:=rowAt hrow 1 (.int .i32 0) rfl;have f0:=rowFz hrow 0;have f1:=rowFz hrow 1;have hl:=run_call_load (P:=Tryz.prog) Tryz.func136 (by kernel_rfl) (by kernel_rfl) (by kernel_rfl) .u32 (by kernel_rfl) (w:=w.setCell ⟨b,1,none⟩ (.int .i32 1)) (a:=⟨b,0,none⟩) (x:=0) ((World.cell?_setCell_other _ ⟨b,1,none⟩ ⟨b,0,none⟩ _ (by simp)).trans c0);have hnot:∀(x:Bool) (w:World),(Op.unary .not (.bool x)).run Tryz.prog w=.ok (.bool (!x)) w:=fun _ _=>rfl;have hb1:Below B w (w.setCell ⟨b,1,none⟩ (.int .i32 1)):=(Below.refl B w).setCell (p:=⟨b,1,none⟩) hBb _;have CB:=Ih (cB _ hb1 rfl);have Hb1:=Ih hb1;clear cB hb1
 go_enter_defers Tryz.func116,Tryz.ntmps116
 go_wp2_with (first |(go_at_call 137;refine(lockO ⟨b,1,none⟩ _ (by go_simp) (by go_simp)).mono ?_;rintro e w' ⟨rfl,rfl⟩)|(go_at_call 115;go_in)|(go_at_call 79;refine CB.out.mono ?_;rintro e2 w2 ⟨rfl,hw2⟩))
 obtain⟨hbw,g,hr2,hbs⟩:=hw2;have d0:=rowAt hr2 0 (.int .u32 0) rfl;have d1:=rowAt hr2 1 (.int .i32 1) rfl;have z0:=rowFz hr2 0;have z1:=rowFz hr2 1;have hr3:RepRow (w2.drew.setCell ⟨b,0,none⟩ (.int .u32 1)) b 1 1 e (.iface 174 (.pointer (some ⟨g,0,none⟩))) (.slice none 0 0):=RepRow.set (w:=w2.drew) hr2 0 (.int .u32 1) (by simp);have hbs3:BsRep (w2.drew.setCell ⟨b,0,none⟩ (.int .u32 1)) g:=BsRep.set (w:=w2.drew) (hbs.kept fun _ _ _ _ _=>rfl) hr2 0 _;have hr4:=RepRow.set hr3 1 (.int .i32 0) (d':=1) (s':=0) (rv':=.iface 174 (.pointer (some ⟨g,0,none⟩))) (ov':=.slice none 0 0) (by simp);have hbs4:=BsRep.set hbs3 hr3 1 (.int .i32 0);refine leaves_cons (f:=139) (args:= #[.pointer (some ⟨b,0,none⟩),.bool true]) (by simp) (by simp[go_sem]) ?_;refine(storeO ⟨b,0,none⟩ (.int .u32 0) .returning _ d0 z0).mono ?_;rintro e3 u3 w3 ⟨rfl,rfl,rfl⟩;refine leaves_cons (f:=138) (args:= #[.pointer (some ⟨b,1,none⟩)]) (by simp[settle]) (by simp[go_sem]) ?_;refine(unlockO ⟨b,1,none⟩ _ _ (rowAt hr3 1 _ rfl) (rowFz hr3 1)).mono ?_;rintro e3 u3 w3 ⟨rfl,rfl,rfl⟩
 have hB4:Below B w ((w2.drew.setCell ⟨b,0,none⟩ (.int .u32 1)).setCell ⟨b,1,none⟩ (.int .i32 0)):=((Hb1.out.trans hbw).drew.setCell (p:=⟨b,0,none⟩) hBb _).setCell (p:=⟨b,1,none⟩) hBb _;have HF:Hid (RBuilt1 B b 1 0 e w ((w2.drew.setCell ⟨b,0,none⟩ (.int .u32 1)).setCell ⟨b,1,none⟩ (.int .i32 0))):=⟨hB4,g,hr4,hbs4⟩;clear hr2 hr3 hr4 hbs hbs3 hbs4 hB4
 simp[Leaves,settle,results,Tryz.results116]
 exact HF.out
theorem doO (B b:Nat) (e:Int) (rv ov:Value) (w:World) (hBb:B<=b) (hrow:RepRow w b 0 0 e rv ov)
  (cB:∀W,Below B w W->W=w.setCell ⟨b,1,none⟩ (.int .i32 1)->Calls Tryz.prog 79 #[.pointer (some ⟨b,0,none⟩)] W fun e' W'=>e'=.returned (.tuple #[])/\RBuilt1 B b 0 1 e W W'):
  Calls Tryz.prog 78 #[.pointer (some ⟨b,0,none⟩),.func (.func 79) #[.pointer (some ⟨b,0,none⟩)] #[]] w fun e' w'=>e'=.returned (.tuple #[])/\RBuilt1 B b 1 0 e w w':=by
 have c0:=rowAt hrow 0 (.int .u32 0) rfl;have hl:=run_call_load (P:=Tryz.prog) Tryz.func136 (by kernel_rfl) (by kernel_rfl) (by kernel_rfl) .u32 (by kernel_rfl) c0;have hnot:∀(x:Bool) (w:World),(Op.unary .not (.bool x)).run Tryz.prog w=.ok (.bool (!x)) w:=fun _ _=>rfl;have cS:=Ih (slowO B b e rv ov w hBb hrow cB);clear cB;go_enter Tryz.func78,Tryz.ntmps78
 go_wp2_with (first |(go_at_call 116;refine cS.out.mono ?_;rintro e w' ⟨rfl,hw2⟩)|(go_at_call 115;go_in))
 go_end0
 exact⟨rfl,hw2⟩
end Go.Proofs.YtipndhbgehdeoaaGreatDoor
namespace Go.Proofs
open Go.Shelf
def Tryz.lays138_ren:Go.Shelf.Ren:=⟨fun|138=>165|195=>191|218=>192|143=>167|219=>75|217=>101|225=>109|224=>110|267=>111|266=>127|314=>133|n=>n,fun|9=>9|3=>3|4=>4|5=>5|0=>0|46=>81|146=>158|51=>96|n=>n,fun|1=>0|n=>n⟩
theorem Tryz.lays138:Go.Proofs.Lays.n138 Tryz.prog Tryz.lays138_ren:=by repeat' first |kernel_rfl|(intro w;rfl)|(intro w;kernel_rfl)|decide|constructor
open Go.RowKit Go.Lib in
theorem Tryz.strings_Count_one (s:ByteArray) (c:UInt8) (w:World):
 Calls Tryz.prog 165 #[.string s,.string ⟨#[c]⟩] w fun e w'=>e=.returned (.int .i64 (Lib.countByte s.data.toList c))/\w'=w:=Any.strings_Count_one Tryz.lays138 s c w
end Go.Proofs
namespace Go.Proofs.YtipndhbgehdeoaaGreatDoor
open Go.RowKit
theorem Count_c (s:ByteArray) (c:UInt8) (w:World):Calls Tryz.prog 165 #[.string s,.string ⟨#[c]⟩] w fun e w'=>e=.returned (.int .i64 ((s.data.toList.count c:Nat):Int))/\w=w':=
 (Tryz.strings_Count_one s c w).mono fun _ _ ⟨h1,h2⟩=>⟨h1,h2.symm⟩
end Go.Proofs.YtipndhbgehdeoaaGreatDoor
