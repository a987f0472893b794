/-
  lazaretref04.Sum: what it reckons, in plain words; rows of numbers of 32 bits; its first two loops.
-/
import Derived.Test.YtibcmemcfjhgmaaGreatDoorV17
import Derived.Test.YtibcmemcfjhgmaaGreatDoorV14
import Derived.Test.YtibcmemcfjhgmaaGreatDoorV16
import Derived.Test.YtibcmemcfjhgmaaGreatDoorV18
import Derived.Lib.RuneCountTail
import Derived.Shelf.Spec.DecodeLastRune8
import Derived.Lib.TrimAscii
set_option maxHeartbeats 8000000
set_option maxRecDepth 100000
namespace Lz
open Go
theorem MG (h rest:Bs) (b:Int) (hb:b=256\/b=384\/b=512) (hl:low h=js b) (hz:h.length=7):bS (h++rest)=if dF rest then some (ig rest b)else none:=by
 have aaC:low (h++rest)=js b++low rest:=by rw[EY,hl]
 have hd:(h++rest).drop 7=rest:=by rw[<-hz];simp
 have hn:Lib.hasPrefix (js b++low rest) lO=false:=by rw[nI];rfl
 have aO:∀c:Int,c=256\/c=384\/c=512->(js c).length=7:=by
  rintro c (rfl|rfl|rfl)
  ·rw[D6];rfl
  ·rw[Ec];rfl
  ·rw[EQ];rfl
 have tK:∀c:Int,c=256\/c=384\/c=512->eH (h++rest) c=if c=b then(if dF rest then some (ig rest b)else none)else none:=by
  intro c hc;unfold eH;rw[aaC,aO c hc,hd];by_cases e:c=b
  ·subst e;rw[if_pos rfl,uK,Bool.true_and]
  ·rw[if_neg e]
   have:Lib.hasPrefix (js b++low rest) (js c)=false:=by
    rcases hb with rfl|rfl|rfl<;>rcases hc with rfl|rfl|rfl
    all_goals first |(exact absurd rfl e)|(simp only[D6,Ec,EQ];rfl)
   rw[this];rfl
 unfold bS;rw[aaC,CE,hn];simp only[Bool.false_eq_true,if_false,Bool.false_and];rw[tK 256 (by simp),tK 384 (by simp),tK 512 (by simp)];rcases hb with rfl|rfl|rfl<;>(cases dF rest<;>simp)
theorem Cy {c:UInt8}:ea c=true->c≠61:=by
 revert c;exact fun{c}=>aA (p:=fun c=>ea c=true->c≠61) (by decide +kernel) c
theorem yK {u v:au} {r:Bs} (e:dK u r=.ok v) (hu:u.port= -1) (tP:u.user=[]) (qG:u.pass=[]):v.scheme=u.scheme/\v.query=u.query:=by
 unfold dK at e;obtain⟨w,hw,e⟩:=iX e;obtain⟨us,pa,h,p,rfl,_⟩:=u5 hw hu tP qG;injection e with e
 rw[<-e];split<;>exact⟨rfl,rfl⟩
theorem zA (w b:au) (r:Bs):(gR w b r).scheme=w.scheme/\((gR w b r).query=w.query\/(gR w b r).query=b.query):=by
 unfold gR;split
 ·exact⟨rfl,Or.inl rfl⟩
 ·split
  ·exact⟨rfl,Or.inl rfl⟩
  ·exact⟨rfl,Or.inr rfl⟩
theorem Ml {u b v:au} {r:Bs} (e:Ae u b r=.ok v) (hu:l5 u):v.scheme=u.scheme/\(v.query=u.query\/v.query=b.query):=by
 unfold Ae at e;simp only at e;split at e
 ·have:=yK e hu.port hu.user hu.pass;exact⟨this.1,Or.inl this.2⟩
 ·split at e
  ·injection e with e
   rw[<-e];exact⟨rfl,Or.inl rfl⟩
  ·injection e with e
   rw[<-e];exact zA (ma u b) b r
theorem AX {u v:au} {b:Option au} {r:Bs} (e:lK u b r=.ok v):v.scheme=u.scheme/\(v.query=u.query\/∃x,b=some x/\x.scheme=cJ/\v.query=x.query):=by
 unfold lK at e;simp only at e;split at e
 ·split at e
  ·injection e with e
   rw[<-e];exact⟨rfl,Or.inl rfl⟩
  ·obtain⟨w,hw,e⟩:=iX e;injection e with e
   rw[<-e];split at hw
   ·injection hw with hw
    rw[<-hw];split<;>exact⟨rfl,Or.inl rfl⟩
   ·obtain⟨h,rfl,hh⟩:=jQ hw;split<;>exact⟨rfl,Or.inl rfl⟩
 ·split at e
  ·injection e with e
   rw[<-e];cases b with
   | none=>exact⟨rfl,Or.inl rfl⟩
   | some x=>
     simp only;split
     ·split<;>exact⟨rfl,Or.inl rfl⟩
     ·exact⟨rfl,Or.inl rfl⟩
  ·cases b with
   | none=>
     injection e with e
     rw[<-e];exact⟨rfl,Or.inl rfl⟩
   | some x=>
     simp only at e;split at e
     ·rename_i hx;split at e
      ·injection e with e
       rw[<-e];exact⟨rfl,Or.inl rfl⟩
      ·injection e with e
       rw[<-e];obtain⟨h1,h2⟩:=zA {({u with hasHost:=true}:au)with host:=x.host} x r;refine⟨h1,?_⟩;rcases h2 with h2|h2
       ·exact Or.inl h2
       ·exact Or.inr ⟨x,rfl,hx,h2⟩
     ·injection e with e
      rw[<-e];exact⟨rfl,Or.inl rfl⟩
theorem sw {s:Bs} (h:(aI s).2.2=true):(aI s).1.length+1+(aI s).2.1.length=s.length:=by
 have hc:=gS 58 s;rw[rX]at h⊢;by_cases hh:mG (Lib.cut s [58])=true
 ·rw[if_pos hh]
  have h1:(Lib.cut s [58]).2.2=true:=by
   unfold mG at hh;simp only[Bool.and_eq_true]at hh;exact hh.1.1.1
  have:=congrArg List.length (hc.2.2.2 h1);rw[List.length_append,List.length_cons]at this;show(low (Lib.cut s [58]).1).length+1+(Lib.cut s [58]).2.1.length=_;unfold low;rw[List.length_map];omega
 ·rw[if_neg hh]at h;cases h
theorem Ko {u v:au} {s:Bs} {b:Option au} (e:jL u s b=.ok v) (hu:l5 u) (hb:∀x,b=some x->NU x):wt v<=bw b+3*s.length+120/\(v.query=u.query\/∃x,b=some x/\v.scheme=x.scheme/\v.query=x.query):=by
 have mo:∀sch,l5 {u with scheme:=sch}:=fun sch=>⟨hu.user,hu.pass,hu.hasHost,hu.host,hu.port,hu.opq,hu.path⟩;have hz:u.user.length=0/\u.pass.length=0/\u.host.length=0/\pl u.path=0:=by rw[hu.user,hu.pass,hu.host,hu.path];exact⟨rfl,rfl,rfl,rfl⟩
 unfold jL at e;simp only at e;cases lV:(aI s).2.2 with
 | true=>
   have aO:=sw lV;rw[lV,if_pos rfl]at e;generalize (aI s).1=sch at e aO;generalize (aI s).2.1=r at e aO
   have wv:∀{t:Bs},dK {u with scheme:=sch} t=.ok v->t.length<=r.length->wt v<=bw b+3*s.length+120/\(v.query=u.query\/∃x,b=some x/\v.scheme=x.scheme/\v.query=x.query):=by
    intro t et ht;have h1:=su et hu.port hu.user hu.pass hu.path;have h1:wt v<=sch.length+3*t.length+111:=h1;exact⟨by omega,Or.inl (yK et hu.port hu.user hu.pass).2⟩
   have AO:∀n,(r.drop n).length<=r.length:=fun n=>by rw[List.length_drop];omega
   split at e
   ·rename_i hf;have h1:=vR (u:={u with scheme:=sch}) e (mo sch);have h1:wt v<=sch.length+bw b+3*r.length+111:=h1;obtain⟨h2,h3⟩:=AX (u:={u with scheme:=sch}) e;refine⟨by omega,?_⟩;rcases h3 with h3|⟨x,hx,RW,h3⟩
    ·exact Or.inl h3
    ·exact Or.inr ⟨x,hx,h2.trans (hf.trans RW.symm),h3⟩
   ·split at e
    ·cases b with
     | none=>exact wv e (AO _)
     | some x=>
       simp only at e;split at e
       ·rename_i hh;have h1:=CQ (u:={u with scheme:=sch}) e hh.1.symm (mo sch);obtain⟨h2,h3⟩:=Ml (u:={u with scheme:=sch}) e (mo sch);refine⟨?_,?_⟩
        ·show wt v<=wt x+3*s.length+120;omega
        ·rcases h3 with h3|h3
         ·exact Or.inl h3
         ·exact Or.inr ⟨x,rfl,h2.trans hh.1.symm,h3⟩
       ·exact wv e (AO _)
    ·split at e
     ·exact wv e (AO _)
     ·split at e
      ·injection e with e
       rw[<-e];have h1:=qB {u with scheme:=sch} (r.drop 1);have h1:pl (onP {u with scheme:=sch} (r.drop 1)).path<=pl u.path+3*(r.drop 1).length+1:=h1;have h2:=AO 1;refine⟨?_,Or.inl rfl⟩;show sch.length+u.user.length+u.pass.length+u.host.length+pl _<=_;omega
      ·injection e with e
       rw[<-e];have h1:=jX [] r;refine⟨?_,Or.inl rfl⟩;show sch.length+u.user.length+u.pass.length+u.host.length+pl [aq [] r]<=_;rw[Fl];omega
 | false=>
   rw[lV,if_neg (by decide)]at e;cases b with
   | none=>cases e
   | some x=>
     simp only at e;split at e
     ·cases e
     ·split at e
      ·injection e with e
       rw[<-e];obtain⟨h1,h2⟩:=zA {({u with scheme:=x.scheme}:au)with opq:=true} x [];refine⟨?_,?_⟩
       ·have hp:(gR {({u with scheme:=x.scheme}:au)with opq:=true} x []).path=x.path/\(gR {({u with scheme:=x.scheme}:au)with opq:=true} x []).user=u.user/\(gR {({u with scheme:=x.scheme}:au)with opq:=true} x []).pass=u.pass/\(gR {({u with scheme:=x.scheme}:au)with opq:=true} x []).host=u.host:=by
         unfold gR;rw[if_neg (fun h=>h rfl)];split<;>exact⟨rfl,rfl,rfl,rfl⟩
        show wt _<=wt x+3*s.length+120;unfold wt;rw[h1,hp.1,hp.2.1,hp.2.2.1,hp.2.2.2];show x.scheme.length+_+_+_+_<=_;omega
       ·rcases h2 with h2|h2
        ·exact Or.inl h2
        ·exact Or.inr ⟨x,rfl,h1,h2⟩
      ·split at e
       ·rename_i hf;have h1:=vR (u:={u with scheme:=x.scheme}) e (mo x.scheme);obtain⟨h2,h3⟩:=AX (u:={u with scheme:=x.scheme}) e;have h1:wt v<=x.scheme.length+wt x+3*s.length+111:=h1;have h4:x.scheme.length=4:=by rw[hf];rfl
        refine⟨?_,?_⟩
        ·show wt v<=wt x+3*s.length+120;omega
        ·rcases h3 with h3|⟨y,hy,_,h3⟩
         ·exact Or.inl h3
         ·cases hy;exact Or.inr ⟨x,rfl,h2,h3⟩
       ·have h1:=CQ (u:={u with scheme:=x.scheme}) e rfl (mo x.scheme);obtain⟨h2,h3⟩:=Ml (u:={u with scheme:=x.scheme}) e (mo x.scheme);refine⟨?_,?_⟩
        ·show wt v<=wt x+3*s.length+120;omega
        ·rcases h3 with h3|h3
         ·exact Or.inl h3
         ·exact Or.inr ⟨x,rfl,h2,h3⟩
theorem xO (s:Bs):(bB s).length<=s.length:=by
 rw[Cs,List.length_reverse];have h1:∀l:Bs,(l.dropWhile n9).length<=l.length:=fun l=>(List.dropWhile_sublist n9).length_le;refine Nat.le_trans (h1 _) ?_;rw[List.length_reverse];refine Nat.le_trans (h1 _) ?_;exact List.length_filter_le _ _
def wq (u:au):Nat:=wt u+u.query.length+u.fragment.length
def bq:Option au->Nat
 | some x=>wq x
 | none=>0
def spQ (c:UInt8):Bool:=decide (c<=32)
def pSp (x:Nat):Bool:=decide (x<=32)
theorem vI (c:UInt8):pSp c.toNat=spQ c:=by
 unfold pSp spQ;congr 1
theorem E1 {x:Nat} (h:128<=x):pSp x=false:=by unfold pSp;rw[decide_eq_false];omega
theorem EW {c:UInt8} (h:128<=c.toNat):spQ c=false:=by rw[<-vI];exact E1 h
theorem Ly (s:ByteArray):∀f pos,s.size<=pos+f->Lib.idxFuncFrom pSp false s f pos=if(s.data.toList.drop pos).all spQ then -1 else((pos+((s.data.toList.drop pos).takeWhile spQ).length:Nat):Int)
 | 0,pos,h=>by
   rw[List.drop_eq_nil_of_le (by show s.size<=pos;omega)];rfl
 | f+1,pos,h=>by
   rw[Lib.idxFuncFrom];by_cases lk:pos<s.size
   ·rw[if_pos lk]
    have hd:s.data.toList.drop pos=s[pos]::s.data.toList.drop (pos+1):=by
     rw[List.drop_eq_getElem_cons (show pos<s.data.toList.length from lk)];rfl
    rw[hd,List.all_cons];rcases Nat.lt_or_ge (s[pos]'lk).toNat 128 with h1|h1
    ·rw[decode_ascii s pos lk h1,vI];cases hq:spQ s[pos]with
     | false=>simp[hq]
     | true=>
       simp only[Bool.true_and,Bool.true_eq_false,if_false];rw[Ly s f (pos+1) (by omega)];split
       ·rfl
       ·rw[List.takeWhile_cons,hq];simp;omega
    ·rw[E1 (tC s pos lk h1),EW h1]
     simp[EW h1]
   ·rw[if_neg lk,List.drop_eq_nil_of_le (by show s.size<=pos;omega)];rfl
theorem mC (q:UInt8->Bool) (l:Bs):l.drop (l.takeWhile q).length=l.dropWhile q:=by
 induction l with
 | nil=>rfl
 | cons c r ih=>
   rw[List.takeWhile_cons,List.dropWhile_cons];split
   ·simpa using ih
   ·rfl
theorem xn {q:UInt8->Bool} {l:Bs} (h:l.all q=true):l.dropWhile q=[]:=by
 induction l with
 | nil=>rfl
 | cons c r ih=>
   rw[List.all_cons,Bool.and_eq_true]at h;rw[List.dropWhile_cons,if_pos h.1];exact ih h.2
theorem Dd (s:ByteArray):(Lib.trimLeftF pSp s).data.toList=s.data.toList.dropWhile spQ:=by
 unfold Lib.trimLeftF Lib.idxFunc;rw[Ly s s.size 0 (by omega),List.drop_zero];by_cases h:s.data.toList.all spQ=true
 ·rw[if_pos h,if_pos rfl,xn h]
 ·rw[if_neg h,if_neg (by omega)];rw[Lib.extract_data,Nat.zero_add];rw[show((((s.data.toList.takeWhile spQ).length:Nat):Int)).toNat=(s.data.toList.takeWhile spQ).length from rfl,mC,List.take_of_length_le];rw[<-mC,List.length_drop];show s.size-_<=_;exact Nat.le_refl _
theorem Ci {n n' b0 b1 b2 b3 c1 c2 c3:Nat} (h0:128<=b0) (hw:(Lib.decodeN n b0 b1 b2 b3).2=n) (hn:n<=n') (h1:1<n->c1=b1) (h2:2<n->c2=b2) (h3:3<n->c3=b3) (he:n=1->n'=1\/c1 / 64≠2):(Lib.decodeN n' b0 c1 c2 c3).2=n:=by
 rcases Lib.decodeN_shape n b0 b1 b2 b3 with⟨h,_⟩|⟨ha,hb,hc,hd,h⟩|⟨ha,hb,hc,hd,he1,hf,h⟩|⟨ha,hb,hc,hd,he1,hf,hg,h⟩|h
 ·omega
 ·rw[h]at hw;obtain rfl:n=2:=hw.symm;rw[h1 (by omega)];unfold Lib.decodeN;rw[if_neg (by omega),if_pos ⟨ha,by omega,hc⟩,if_pos hd]
 ·rw[h]at hw;obtain rfl:n=3:=hw.symm;rw[h1 (by omega),h2 (by omega)];unfold Lib.decodeN;rw[if_neg (by omega),if_neg (by omega),if_pos ⟨ha,⟨by omega,hc⟩,⟨by omega,hd⟩⟩,if_pos ⟨he1,by omega⟩]
 ·rw[h]at hw;obtain rfl:n=4:=hw.symm;rw[h1 (by omega),h2 (by omega),h3 (by omega)];unfold Lib.decodeN;rw[if_neg (by omega),if_neg (by omega),if_neg (by omega),if_pos ⟨ha,⟨by omega,hc⟩,⟨by omega,hd⟩,⟨by omega,he1⟩⟩,if_pos ⟨hf,by omega⟩]
 ·rw[h]at hw;obtain rfl:n=1:=hw.symm;have:=he rfl;unfold Lib.decodeN;rw[if_neg (by omega),if_neg (by omega),if_neg (by omega),if_neg (by omega)]
theorem UP {n b0 b1 b2 b3:Nat} (h0:128<=b0):128<=(Lib.decodeN n b0 b1 b2 b3).1:=by
 rcases Lib.decodeN_shape n b0 b1 b2 b3 with⟨h,_⟩|⟨ha,hb,hc,hd,h⟩|⟨ha,hb,hc,hd,he1,hf,h⟩|⟨ha,hb,hc,hd,he1,hf,hg,h⟩|h
 ·omega
 ·rw[h];exact hd
 ·rw[h];show 128<=_;omega
 ·rw[h];show 128<=_;omega
 ·rw[h];show 128<=65533;omega
theorem vQ (s:ByteArray) (j:Nat) (h:j<s.size):s.get! j=s[j]'h:=by
 show s.data[j]! =_;rw[getElem!_pos s.data j h];rfl
theorem LG (s:ByteArray) (i:Nat) (j6:0<i) (hi:i<=s.size) (hhi:128<=(s[i-1]'(by omega)).toNat) (qI:∀h:i<s.size,(s[i]'h).toNat<=32):
  128<=(Lib.decodeLastL (s.data.toList.take i)).1/\(Lib.decodeLastL (s.data.toList.take i)).2<=i/\(Utf8.decode s (i-(Lib.decodeLastL (s.data.toList.take i)).2)).2=(Lib.decodeLastL (s.data.toList.take i)).2:=by
 obtain⟨t,ht⟩:∃t:ByteArray,t=s.extract 0 i:=⟨_,rfl⟩;have htd:t.data.toList=s.data.toList.take i:=by rw[ht,Lib.extract_data];rfl
 have Sb:t.size=i:=by
  show t.data.toList.length=i;rw[htd,List.length_take];show min i s.size=i;omega
 have hg:∀j,j<i->t.get! j=s.get! j:=fun j hj=>by rw[ht,Go.Proofs.get!_extract' s 0 i j (by omega) hi,Nat.zero_add]
 have iK:(s.get! (i-1)).toNat=(s[i-1]'(by omega)).toNat:=by rw[vQ s (i-1) (by omega)]
 have KV:(Utf8.decode s (i-1)).2=1:=by
  rw[Lib.decode_at,show i-1+1=i by omega];refine Ci (n:=1) (n':=s.size-(i-1)) (b1:=0) (b2:=0) (b3:=0) (by omega) ?_ (by omega) (by omega) (by omega) (by omega) (fun _=>?_)
  ·rcases Lib.decodeN_shape 1 (s.get! (i-1)).toNat 0 0 0 with⟨h,_⟩|⟨_,h,_⟩|⟨_,h,_⟩|⟨_,h,_⟩|h
   ·omega
   ·omega
   ·omega
   ·omega
   ·rw[h]
  ·by_cases h:i<s.size
   ·right;have:=qI h;rw[vQ s i h];omega
   ·left;omega
 rw[<-htd,Lib.decodeLastL_eq t (by omega) (by rw[Sb,hg (i-1) (by omega),iK];exact hhi)]
 have DU:=Lib.lastStart_lt t.data.toList (fun h=>by
  have h0:t.data.toList.length=0:=by rw[h];rfl
  have h1:t.data.toList.length=i:=Sb;omega)
 have aaI:Lib.lastStart t.data.toList<i:=by rw[<-Sb];exact DU
 unfold Lib.lastOf;obtain⟨k,hk⟩:∃k,k=Lib.lastStart t.data.toList:=⟨_,rfl⟩;rw[<-hk]at aaI⊢
 have IR:Lib.decodeGo (t.extract k t.size)=Utf8.decode t k:=by
  unfold Lib.decodeGo;rw[if_neg (by rw[ByteArray.size_extract];omega),Lib.tail_decode];rfl
 rw[IR,Sb];by_cases he:k+(Utf8.decode t k).2=i
 ·rw[if_pos he]
  have hd:Utf8.decode t k=Lib.decodeN (i-k) (s.get! k).toNat (t.get! (k+1)).toNat (t.get! (k+2)).toNat (t.get! (k+3)).toNat:=by
   rw[Lib.decode_at,Sb,hg k aaI]
  have pD:128<=(s.get! k).toNat:=by
   rcases Nat.lt_or_ge (s.get! k).toNat 128 with h|h
   ·exfalso
    have h1:(Utf8.decode t k).2=1:=by
     rw[hd];unfold Lib.decodeN;rw[if_pos h]
    have:k=i-1:=by omega
    rw[this]at h;omega
   ·exact h
  refine⟨by rw[hd];exact UP pD,by omega,?_⟩;rw[show i-(Utf8.decode t k).2=k by omega,Lib.decode_at s k];have hw:(Lib.decodeN (i-k) (s.get! k).toNat (t.get! (k+1)).toNat (t.get! (k+2)).toNat (t.get! (k+3)).toNat).2=i-k:=by rw[<-hd];omega
  rw[Ci pD hw (by omega) (fun h=>by rw[hg (k+1) (by omega)]) (fun h=>by rw[hg (k+2) (by omega)]) (fun h=>by rw[hg (k+3) (by omega)]) (fun h=>by
   by_cases h2:i<s.size
   ·right;have:=qI h2;rw[show k+1=i by omega,vQ s i h2];omega
   ·left;omega)]
  omega
 ·rw[if_neg he];exact⟨by show 128<=Utf8.runeError;decide,by show 1<=i;omega,by show(Utf8.decode s (i-1)).2=1;exact KV⟩
def DZ (l:Bs) (i:Nat):Nat:=((l.take i).reverse.dropWhile spQ).length
theorem J7 {l:Bs} {i:Nat} {b:UInt8} (h:l[i]? =some b):DZ l (i+1)=if spQ b then DZ l i else i+1:=by
 obtain⟨hi,he⟩:=List.getElem?_eq_some_iff.1 h;unfold DZ;rw[List.take_succ_eq_append_getElem hi,he,List.reverse_append,List.reverse_singleton,List.singleton_append,List.dropWhile_cons];split
 ·rfl
 ·simp;omega
theorem BZ (s:ByteArray):∀f i,i<=f->i<=s.size->(∀j,i<=j->∀h:j<s.size,(s[j]'h).toNat<=32)->
  (if 0<=Lib.lastIdxFuncFrom pSp false s f i then(Lib.lastIdxFuncFrom pSp false s f i).toNat+(Utf8.decode s (Lib.lastIdxFuncFrom pSp false s f i).toNat).2 else 0)=DZ s.data.toList i
 | 0,i,hf,hi,_=>by
   obtain rfl:i=0:=by omega
   rfl
 | f+1,i,hf,hi,ht=>by
   cases i with
   | zero=>rw[Lib.lastIdxFuncFrom];rfl
   | succ m=>
     have hm:m<s.size:=by omega
     have dB:Lib.lastIdxFuncFrom pSp false s (f+1) (m+1)=if pSp (Lib.decodeLastL (s.data.toList.take (m+1))).1=false then(((m+1)-(Lib.decodeLastL (s.data.toList.take (m+1))).2:Nat):Int)else Lib.lastIdxFuncFrom pSp false s f ((m+1)-(Lib.decodeLastL (s.data.toList.take (m+1))).2):=by
      rw[Lib.lastIdxFuncFrom,if_pos (Nat.succ_pos m)]
     rw[dB]
     have oH:s.data.toList[m]? =some (s[m]'hm):=by
      rw[List.getElem?_eq_getElem (show m<s.data.toList.length from hm)];rfl
     rw[J7 oH];rcases Nat.lt_or_ge (s[m]'hm).toNat 128 with h1|h1
     ·have hd:Lib.decodeLastL (s.data.toList.take (m+1))=((s[m]'hm).toNat,1):=by
       obtain⟨ws,hme⟩:=List.getElem?_eq_some_iff.1 oH;rw[List.take_succ_eq_append_getElem ws,hme];exact Lib.decodeLastL_ascii _ _ h1
      rw[hd,vI];cases hq:spQ (s[m]'hm)with
      | false=>
        simp only[if_true,Bool.false_eq_true,if_false];rw[show m+1-1=m by omega,if_pos (by omega),show((m:Int)).toNat=m from rfl,decode_ascii s m hm h1]
      | true=>
        simp only[Bool.true_eq_false,if_false,if_true];rw[show m+1-1=m by omega];refine BZ s f m (by omega) (by omega) fun j hj mq=>?_;rcases Nat.eq_or_lt_of_le hj with e|e
        ·subst e;have:spQ (s[m]'hm)=true:=hq;unfold spQ at this;have h2:=of_decide_eq_true this;exact h2
        ·exact ht j e mq
     ·obtain⟨hd1,hd2,hd3⟩:=LG s (m+1) (by omega) hi (by simpa using h1) (fun h=>ht (m+1) (Nat.le_refl _) h);rw[E1 hd1,EW h1];simp only[if_true,Bool.false_eq_true,if_false];rw[if_pos (by omega),Int.toNat_natCast,hd3];omega
theorem Iu (s:ByteArray):∀f i,i<=s.size->Lib.lastIdxFuncFrom pSp false s f i<0\/Lib.lastIdxFuncFrom pSp false s f i<s.size
 | 0,_,_=>.inl (by rw[Lib.lastIdxFuncFrom];omega)
 | f+1,i,hi=>by
   rw[Lib.lastIdxFuncFrom];by_cases h:0<i
   ·rw[if_pos h];have hw:=(Lib.decodeLastL_width (s.data.toList.take i) (by rw[List.length_take];show 0<min i s.size;omega)).1;split
    ·right;omega
    ·exact Iu s f _ (by omega)
   ·rw[if_neg h];left;omega
theorem zt (s:ByteArray):(Lib.trimRightF pSp s).data.toList=(s.data.toList.reverse.dropWhile spQ).reverse:=by
 have h:=BZ s s.size s.size (Nat.le_refl _) (Nat.le_refl _) (fun j hj mq=>by omega)
 have qI:Lib.rightEndF pSp s=DZ s.data.toList s.size:=by
  rw[<-h];unfold Lib.rightEndF Lib.lastIdxFunc;split
  ·rename_i h0;have aL:=Iu s s.size s.size (Nat.le_refl _);congr 1;unfold Lib.decodeGoB;by_cases hz:(s.extract (Lib.lastIdxFuncFrom pSp false s s.size s.size).toNat s.size).size=0
   ·exfalso
    rw[ByteArray.size_extract]at hz;omega
   ·rw[if_neg hz,Lib.tail_decode];rfl
  ·rfl
 unfold Lib.trimRightF;rw[qI,Lib.extract_data];show(s.data.toList.drop 0).take (DZ s.data.toList s.size-0)=_;unfold DZ;rw[show s.data.toList.take s.size=s.data.toList from List.take_of_length_le (Nat.le_refl _),List.drop_zero,Nat.sub_zero]
 have hp:(s.data.toList.reverse.dropWhile spQ).reverse<+:s.data.toList:=by
  have:=(List.dropWhile_suffix spQ (l:=s.data.toList.reverse)).reverse
  rwa [List.reverse_reverse]at this
 have:=List.prefix_iff_eq_take.1 hp;rw[List.length_reverse]at this;exact this.symm
theorem PJ (s:ByteArray):(Lib.trimF pSp s).data.toList=((s.data.toList.dropWhile spQ).reverse.dropWhile spQ).reverse:=by
 unfold Lib.trimF;rw[zt,Dd]
theorem F0 {s:Bs} {b:Option au} {v:au} (hv:jL {query:=(Lib.cut (Lib.cut (bB s) [35]).1 [63]).2.1,hasQuery:=(Lib.cut (Lib.cut (bB s) [35]).1 [63]).2.2,fragment:=(Lib.cut (bB s) [35]).2.1,hasFragment:=(Lib.cut (bB s) [35]).2.2} (Lib.cut (Lib.cut (bB s) [35]).1 [63]).1 b=.ok v)
  (hb:∀x,b=some x->NU x):v.query.length<=s.length+bq b/\v.fragment.length<=s.length:=by
 have hc:=xO s;have f:=lz 35 (bB s);have q:=lz 63 (Lib.cut (bB s) [35]).1;have f':=gS 35 (bB s);have q':=gS 63 (Lib.cut (bB s) [35]).1;have hl:= @ER s;generalize Lib.cut (bB s) [35]=F at hv f q f' q';generalize Lib.cut F.1 [63]=G at hv q q';obtain⟨f1,f2,f3,_⟩:=f';obtain⟨q1,q2,q3,_⟩:=q';obtain⟨h1,h2⟩:=Ko hv ⟨rfl,rfl,rfl,rfl,rfl,rfl,rfl⟩ hb
 have mo:v.fragment=F.2.1:=(EF hv ⟨rfl,rfl,rfl,rfl,rfl,rfl,rfl⟩ (fun h=>f1 (q3 _ h)) q1
  (fun h1 h2 h=>by
   have e1:=(q2 h1).1;have e2:=(f2 h2).1;rw[e1,e2]at h;have:=hl h;cases this)
  (fun h=>(q2 h).2) hb).2.2.2
 refine⟨?_,by rw[mo];omega⟩;rcases h2 with h2|⟨x,rfl,h3,h4⟩
 ·have GG:v.query=G.2.1:=h2;rw[GG];omega
 ·rw[h4];show x.query.length<=_+wq x;unfold wq;omega
def lN (s:Bs):List Bs:=if s=vr then[nk]else if s=wsS then[Mb,vr,nk]else if s=Mb then[nk]else[]
def GS (p u:Bs):Bool:=p==u||(lN p).contains u
def abq (s:Bs):Bool:=s==vr||s==nk
def Y8:Bs:=[49,50,55,46,48,46,48,46,49]
def YD:Bs:=[115,101,108,102]
def xQ:Bs:=[39,110,111,110,101,39]
def Zl:Bs:=[110,117,108,108]
def X4 (x:Src) (name:Bs):Bool:=
 if x.wild then x.host==[]||Lib.hasSuffix name (46::x.host)
 else if x.host != Y8&&ipP x.host then false else x.host==name
def Us (u:au):Int:=if 0<=u.port then u.port else kC u.scheme
def X5 (x:Src) (u:au):Bool:=if x.port= -2 then true else if x.port= -1 then decide (u.port<0)||u.port==kC u.scheme else x.port==Us u
def Yp (p u:Bs):Bool:=
 if p=[]\/(p=[47]/\u=[])then true
 else if Lib.hasSuffix p [47]=true/\(aD 47 p).length<=(aD 47 u).length then(aD 47 p).dropLast.map a7==((aD 47 u).take ((aD 47 p).length-1)).map a7
 else(aD 47 p).map a7==(aD 47 u).map a7
def UH (u:au):Bs:=if u.opq then u.path.flatten else u.path.flatMap fun p=>47::p
def RO (u:au) (x:Src) (own:au) (red:Bool):Bool:=
 u.hasHost&&(u.host != []&&(GS (if x.scheme=[]then own.scheme else x.scheme) u.scheme&&(X4 x u.host&&(X5 x u&&(red||Yp x.path (UH u))))))
def UQ (u own:au):Bool:=u.port==own.port||(Us u==kC u.scheme&&Us own==kC own.scheme)
def Vz (u own:au):Bool:=u.scheme==nk||(u.scheme==Mb||(own.scheme==vr&&u.scheme==wsS))
def Ym (u own:au):Bool:=
 (zU own != Zl&&zU own==zU u)||(u.hasHost&&(own.hasHost&&(u.host==own.host&&(UQ u own&&Vz u own))))
def Um:Src:=⟨3,[],0,[],[],true,-1,[]⟩
def abp (u:au) (x:Src) (own:au) (red:Bool):Bool:=
 if x.kind=1 then x.text==YD&&Ym u own
 else if x.kind=2 then GS x.scheme u.scheme
 else if x.kind=3 then(if x=Um then abq u.scheme||u.scheme==own.scheme else RO u x own red)
 else false
def eQ (l:List Bs):Bool:=l.isEmpty||(l.length==1&&low (l.headD [])==xQ)
def aM (l:List Bs):List Src:=l.filterMap a8
def anyM (u:au) (l:List Bs) (own:au) (red:Bool):Bool:= !eQ l&&(aM l).any fun x=>abp u x own red
end Lz
namespace Go.Proofs.YtibcmemcfjhgmaaGreatDoor
open Go.RowKit
attribute [local go_sem ↓] Go.wp_at_zero Go.wp_at_succ
def oO (w:World) (B:Nat) (v:Value) (l:List Nat):Prop:=w.ownsRow B 3 1 v l.length (tg l)
theorem oO.form {w:World} {B:Nat} {v:Value} {l:List Nat} (h:oO w B v l):ql w v l:=by
 rcases h.2 with⟨rfl,h0⟩|⟨g,cap,dx,rfl,hgb,hg,hn,tj,iF,gu⟩
 ·exact⟨none,0,by rw[h0],fun j hj=>by omega⟩
 ·refine⟨_,cap,rfl,fun j hj=>⟨g,0,rfl,?_⟩⟩
  have:=World.ownsRow.cells h (g:=g) rfl j (.int .i64 ((l.getD j 0:Nat):Int)) (by
   have:=lD hj
   rwa [List.getElem?_toArray]at this)
  rw[bD]at this;rw[Nat.zero_add];exact this
theorem Mv {n:Nat} (h:n<=410) {x:Nat} (hx:x∈Lz.bT n):2<=x/\x<=409:=by
 rw[Lz.vu h]at hx;have:=List.mem_of_mem_take hx;have dY:∀x∈Lz.a4,2<=x/\x<=409:=by decide +kernel
 exact dY x this
theorem MY {l:List Nat} {p:Nat->Bool} {j:Nat} (hj:j<l.length):(l.take (j+1)).all p=((l.take j).all p&&p (l.getD j 0)):=by
 rw[List.take_add_one,List.all_append,List.getElem?_eq_getElem hj,List.getD_eq_getElem?_getD,List.getElem?_eq_getElem hj]
 simp
def QU (many:Nat) (w:World) (e:Ending) (w':World):Prop:=∃v,e=.returned v/\ql w' v (Lz.a4.take many)/\Below w.heap.size w w'
theorem uo (many:Nat) (hm:many<=80) (w:World):Calls Tryz.prog 110 #[.int .i64 (many:Int)] w (QU many w):=by
 obtain⟨i0,hi,eZ,d9,eo⟩:=info_parts G3;have h0:oO w w.heap.size (.slice none 0 0) (Lz.bT 2):=World.ownsRow_nil w _ _ _;go_enter Tryz.func110,Tryz.ntmps110
 go_wp2_with fail
 go_loopw [3,4,5,6] (fun v k _ _ wr=>∃n:Nat,k=.int .i64 (n:Int)/\2<=n/\n<=410/\(Lz.bT n).length<=many/\oO wr w.heap.size v (Lz.bT n)/\Below w.heap.size w wr) (fun _ k _ _ _=>411-(intOf k).toNat)
 case atStart=>exact⟨2,rfl,by omega,by omega,by simp[Lz.bT],h0,Below.refl _ _⟩
 case round=>
  clear h0;obtain⟨n,rfl,y6,hn,hlm,ai,aC⟩:=hrel;obtain⟨a,c,rfl,aW⟩:=ai.form;obtain⟨L,hL⟩:∃L,L=(Lz.bT n).length:=⟨_,rfl⟩;have HL:=Ih hL;have bi:=Ih ai;have HC:=Ih aW;rw[<-hL]at hlm⊢;by_cases aL:L<many
  ·have aK:(L:Int)<(many:Int):=by omega
   have acw:n<410:=Lz.Ku hm (by rw[<-hL];exact aL);have acI:L<=80:=by omega
   clear hL ai aW
   go_wp2_with fail
   go_loopw [5,6] (fun b k wq=>∃(q:Bool) (i:Nat),b=.bool q/\k=.int .i64 (i:Int)/\i<=L/\Hid (q=((Lz.bT n).take i).all fun p=>n%p != 0)/\wr=wq) (fun _ k _=>L-(intOf k).toNat)
   case atStart=>exact⟨true,0,rfl,rfl,Nat.zero_le _,Ih (by simp),rfl⟩
   case round=>
    obtain⟨q,i,rfl,rfl,hiL,hq,rfl⟩:=hrel;by_cases hit:i<L
    ·have abN:(i:Int)<(L:Int):=by omega
     have j6:(0:Int)<=(i:Int):=by omega
     have hiS:i<(Lz.bT n).length:=by rw[<-HL.out];exact hit
     obtain⟨g,o,rfl,bH⟩:=HC.out i hiS;have AS:=Mv hn (x:=(Lz.bT n).getD i 0) (by rw[List.getD_eq_getElem?_getD,List.getElem?_eq_getElem hiS];exact List.getElem_mem hiS);have dB:=MY (p:=fun p=>n%p != 0) hiS;generalize (Lz.bT n).getD i 0=x at bH AS dB;obtain⟨m,TG⟩:∃m,m=n%x:=⟨_,rfl⟩;have fx:¬(x:Int)=0:=by omega
     have ft:Int.tmod (n:Int) (x:Int)=(m:Int):=by rw[Int.tmod_eq_emod_of_nonneg (by omega),TG];exact(Int.natCast_emod n x).symm
     have ft2:(n:Int)%(x:Int)=(m:Int):=by rw[TG];exact(Int.natCast_emod n x).symm
     have ws:m<x:=by rw[TG];exact Nat.mod_lt _ (by omega)
     have fw:IntKind.i64.wrap (m:Int)=(m:Int):=IntWalk.i64_in _ (by omega);obtain⟨t,ht⟩:∃t,t=((m:Int) != 0):=⟨_,rfl⟩
     have htn:(n%x != 0)=t:=by
      rw[ht,<-TG];cases m<;>simp;omega
     have HS:Hid ((q&&t)=((Lz.bT n).take (i+1)).all fun p=>n%p != 0):=by
      show _=_;rw[dB,<-hq.out,htn]
     have Sp:((m:Int)==0)= !t:=by rw[ht];simp[bne]
     have HT:=Ih ht;clear dB htn TG ws hq ht;cases q with
     | false=>
       go_wp2_with fail
       go_roundw
       case rel=>exact⟨false,i+1,rfl,by go_num,by omega,HS,by first |rfl|trivial⟩
       case measure=>simp[intOf];omega
     | true=>
       have K0:Hid (((m:Int) != 0)=((Lz.bT n).take (i+1)).all fun p=>n%p != 0):=by show _=_;rw[<-HT.out,<-HS.out];rfl
       clear HS HT Sp
       go_wp2_with fail
       go_roundw
       case rel=>exact⟨_,i+1,rfl,by go_num,by omega,K0,by first |rfl|trivial⟩
       case measure=>simp[intOf];omega
    ·have abN:¬(i:Int)<(L:Int):=by omega
     have Wy:Lz.Rp (Lz.bT n) n=q:=by
      have:=hq.out;rw[List.take_of_length_le (by rw[<-HL.out];omega)]at this;exact this.symm
     have jE:Lz.bT (n+1)=if q then Lz.bT n++[n]else Lz.bT n:=by
      show(if n<2 then Lz.bT n else if Lz.Rp (Lz.bT n) n then Lz.bT n++[n]else Lz.bT n)=_;rw[if_neg (by omega),Wy]
     have fn:IntKind.i64.wrap ((n:Int)+1)=(n:Int)+1:=IntWalk.i64_in _ (by omega);cases q with
     | false=>
       have HX:Hid (Lz.bT (n+1)=Lz.bT n):=by show _=_;rw[jE];rfl
       clear Wy jE hq
       go_wp2_with fail
       go_roundw
       case rel=>exact⟨n+1,by go_num,by omega,by omega,by rw[HX.out,<-HL.out];omega,by rw[HX.out,HL.out];exact bi.out,aC⟩
       case measure=>simp[intOf];omega
     | true=>
       have HX:Hid (Lz.bT (n+1)=Lz.bT n++[n]):=by show _=_;rw[jE];rfl
       have fu:=aC.size;clear Wy jE hq
       have de:wr.ownsRow w.heap.size 3 1 (.slice a L c) L (tg (Lz.bT n)):=by
        have:=bi.out;unfold oO at this
        rwa [<-HL.out]at this
       have bF:=Ih de;clear de
       go_wp2_with (at_builtin;refine wpList_append_own _ rfl (.tmp 30) (.tmp 32) 160 rfl w.heap.size 3 i0 (.int .i64 0) 1 8 Tryz.underlying160 hi eZ d9 eo rfl (by decide) _ _ _ rfl (bF.out.alloc _) ⟨wr.heap.size,0,none⟩ 1 1 [.int .i64 (n:Int)] rfl rfl (aJ _ _ _) (by simp[Value.oneCell']) (by unfold maxLen;omega) (by omega) (by simp;omega) ?_)
       intro v' w3 aS bp _;have bj:=Below.grown1 aC bF.out bp fu (Nat.le_refl _)
       have ba:oO w3 w.heap.size v' (Lz.bT (n+1)):=by
        unfold oO;rw[HX.out,List.length_append,<-HL.out];unfold tg at aS⊢;rw[List.map_append];exact aS
       have dZ:=Ih ba;have aO:(Lz.bT (n+1)).length<=many:=by rw[HX.out,List.length_append,<-HL.out];simp;omega
       have HLn:=Ih aO;clear aS bp ba aO bF
       go_wp2_with fail
       go_roundw
       case rel=>exact⟨n+1,by go_num,by omega,by omega,HLn.out,dZ.out,bj⟩
       case measure=>simp[intOf];omega
  ·have aK:¬(L:Int)<(many:Int):=by omega
   have hLm:L=many:=by omega
   have dH:ql wr (.slice a L c) (Lz.a4.take many):=by
    have:=bi.out.form;rw[Lz.vu hn,<-HL.out,hLm]at this;have aO:(Lz.a4.take many).length=many:=by rw[List.length_take];have:Lz.a4.length=80:=rfl;omega
    rw[aO]at this;rw[hLm];exact this
   have abI:=Ih dH;clear hL ai aW dH hLm
   go_wp2_with fail
   go_ret;exact⟨_,rfl,abI.out,aC⟩
attribute [local go_sem ↓] Go.wp_at_zero Go.wp_at_succ
theorem JJ {w:World} {base:Nat} {v:Value} {n:Nat} {l:List UInt8} (h:ed w base v n l):(convert 93 9 v).run Tryz.prog w=.ok (.string ⟨l.toArray⟩) w:=by
 have hl:=h.length;obtain⟨g,c,rfl,_,_⟩:=h.form;have aW:=h.cells (g:=g) rfl;rw[<-hl];refine run_convert_bytes_back (P:=Tryz.prog) w 93 9 5 ⟨g,0,none⟩ c l Tryz.underlying93 Tryz.underlying5 Tryz.underlying9 ?_;intro j hj;exact aW j _ (by unfold u8s;rw[List.getElem?_map,List.getElem?_eq_getElem hj];rfl)
def jo (n ln t:Nat):List UInt8:=(List.range t).map fun x=>if ln<=x+8 then UInt8.ofNat (n*8 / 2^(8*(ln-1-x)))else 0
theorem ES (n ln t:Nat):jo n ln (t+1)=jo n ln t++[if ln<=t+8 then UInt8.ofNat (n*8 / 2^(8*(ln-1-t)))else 0]:=by
 unfold jo;rw[List.range_succ,List.map_append];rfl
theorem PT (n:Nat):jo n 8 8=Lz.wX n:=by
 unfold jo Lz.wX;refine List.map_congr_left fun x hx=>?_;have:=List.mem_range.1 hx;rw[if_pos (by omega),show 8*(8-1-x)=56-8*x by omega]
theorem Mg (n:Nat):jo n 16 16=List.replicate 8 0++Lz.wX n:=by
 unfold jo Lz.wX;rw[show(16:Nat)=8+8 from rfl,List.range_add,List.map_append,List.map_map];congr 1
def mW (n bl ln:Nat):Nat:=(bl-(n+1+ln)%bl)%bl
def FQ (l:List UInt8) (bl ln:Nat):List UInt8:=l++[128]++List.replicate (mW l.length bl ln) 0++jo l.length ln ln
theorem Vy (l:List UInt8):FQ l 64 8=l++Lz.lH l.length:=by
 unfold FQ Lz.lH;rw[PT,show mW l.length 64 8=63-(l.length+8)%64 by unfold mW;omega]
 simp
theorem PS (l:List UInt8):FQ l 128 16=l++Lz.mB l.length:=by
 unfold FQ Lz.mB;rw[Mg,show mW l.length 128 16=(240-(l.length+1)%128)%128 by unfold mW;omega,<-List.replicate_append_replicate]
 simp
theorem so (s:ByteArray) (bl ln:Nat) (OF:(bl=64/\ln=8)\/(bl=128/\ln=16)) (hs:s.size<=1073741824) (w:World):Calls Tryz.prog 112 #[.string s,.int .i64 (bl:Int),.int .i64 (ln:Int)] w (dX (FQ s.data.toList bl ln) w):=by
 have kb:=run_bytes_of_string (P:=Tryz.prog) w 9 93 5 s Tryz.underlying9 Tryz.underlying93 Tryz.underlying5;have Pa:=yc s w (by omega);obtain⟨cap,jD⟩:∃cap,cap=grownCap w s.size 0 5:=⟨_,rfl⟩;rw[<-jD]at kb Pa;clear jD;obtain⟨fz,DR⟩:∃f:Nat×Nat,f=((bytesRow s cap).size,(bytesRow s cap).size+1):=⟨_,rfl⟩;rw[<-DR]at kb Pa;clear DR;obtain⟨br,Zy⟩:∃b,b=bytesRow s cap:=⟨_,rfl⟩;rw[<-Zy]at kb Pa;clear Zy;have e1:(w.alloc (.cells br 5 fz)).heap.size=w.heap.size+1:=by simp
 have GH:Below w.heap.size w ((w.alloc (.cells br 5 fz)).alloc (.cells #[.int .u8 128] 5)).drew:=(((Below.refl _ w).alloc (Nat.le_refl _) _).alloc (by simp) _).drew;have Gf:ed ((w.alloc (.cells br 5 fz)).alloc (.cells #[.int .u8 128] 5)).drew w.heap.size (.slice (some ⟨w.heap.size,0,none⟩) s.size cap) s.size s.data.toList:=Pa.kept ((Below.refl _ (w.drew.alloc (.cells br 5 fz))).alloc (Nat.le_refl _) _)
 have DN:∀j u,(u8s [128])[j]? =some u->((w.alloc (.cells br 5 fz)).alloc (.cells #[.int .u8 128] 5)).drew.cell? ((⟨w.heap.size+1,0,none⟩:Addr).add j)=some u:=by
  intro j u hu;have:=aJ (w.alloc (.cells br 5 fz)) (.int .u8 128) 5 j u hu
  rwa [e1]at this
 clear e1 Pa;obtain⟨n1,KY⟩:∃n,s.size+1=n:=⟨_,rfl⟩;obtain⟨p1,SE⟩:∃l,s.data.toList++[128]=l:=⟨_,rfl⟩;obtain⟨Z,hZ⟩:∃Z,Z=mW s.size bl ln:=⟨_,rfl⟩;obtain⟨M,hM⟩:∃M,M=FQ s.data.toList bl ln:=⟨_,rfl⟩;rw[<-hM];have hMs:M=p1++List.replicate Z 0++jo s.size ln ln:=by rw[hM,hZ,<-SE];unfold FQ;rw[ac]
 have HM:=Ih hMs;have Hn1:=Ih KY;have HP1:=Ih SE
 have HZ:Hid (∀z,z<=Z->((n1+z+ln)%bl=0↔z=Z)):=by
  show ∀z,_;intro z hz;rw[hZ]at hz⊢;unfold mW at hz⊢;rcases OF with⟨rfl,rfl⟩|⟨rfl,rfl⟩<;>omega
 have Z4:Z<128:=by rw[hZ];unfold mW;rcases OF with⟨rfl,rfl⟩|⟨rfl,rfl⟩<;>omega
 have ade:¬(bl:Int)=0:=by omega
 have acG:64<=bl/\bl<=128/\8<=ln/\ln<=16:=by omega
 have fl:IntKind.i64.wrap ((ln:Int)-1)=(ln:Int)-1:=IntWalk.i64_in _ (by omega);have ac1:n1<=1073741825:=by omega
 clear hM hMs hZ OF KY SE;go_enter Tryz.func112,Tryz.ntmps112
 go_wp2_with (at_builtin;refine di rfl (.tmp 11) (.tmp 12) rfl w.heap.size _ s.size 1 1 n1 _ [128] p1 ⟨w.heap.size+1,0,none⟩ rfl rfl Gf Hn1.out HP1.out rfl DN (by omega) GH.size ?_)
 intro v1 w2 Lh Pl;have aE:Below w.heap.size w w2:=Gf.below Pl GH (Nat.le_refl _) GH.size;clear Gf Pl GH DN kb
 go_wp2_with fail
 go_loopw [7] (fun v wr=>∃z:Nat,z<=Z/\ed wr w.heap.size v (n1+z) (p1++List.replicate z 0)/\Below w.heap.size w wr) (fun v _=>Z+n1-(match v with| .slice _ n _=>n|_=>0))
 case atStart=>exact⟨0,Nat.zero_le _,by simpa using Lh,aE⟩
 case round=>
  clear Lh aE;obtain⟨z,hz,ai,hb⟩:=hrel;obtain⟨g,c,rfl,XE,hcN⟩:=ai.form;obtain⟨nz,T3⟩:∃nz,nz=n1+z:=⟨_,rfl⟩;obtain⟨t,ht⟩:∃t,t=nz+ln:=⟨_,rfl⟩;obtain⟨r,hr⟩:∃r,r=t%bl:=⟨_,rfl⟩;have f1:IntKind.i64.wrap ((nz:Int)+(ln:Int))=(t:Int):=by rw[IntWalk.i64_in _ (by omega)];omega
  have f2:Int.tmod (t:Int) (bl:Int)=(r:Int):=by rw[Int.tmod_eq_emod_of_nonneg (by omega),hr];exact(Int.natCast_emod t bl).symm
  have hrb:r<bl:=by rw[hr];exact Nat.mod_lt _ (by omega)
  have f3:IntKind.i64.wrap (r:Int)=(r:Int):=IntWalk.i64_in _ (by omega);have xF:r=0↔z=Z:=by rw[hr,ht,T3];exact HZ.out z hz
  rw[<-T3]at ai hcN⊢;have Hnz:=Ih T3;by_cases TA:z=Z
  ·have pA:r=0:=xF.2 TA;subst TA;have f4:((r:Int)==0)=true:=by rw[pA];rfl
   obtain⟨pz,hpz⟩:∃pz,pz=p1++List.replicate z 0:=⟨_,rfl⟩;rw[<-hpz]at ai;have HM2:Hid (M=pz++jo s.size ln ln):=by show _=_;rw[HM.out,hpz]
   have acn:nz<=1073742000:=by omega
   clear pA xF hr ht T3 hpz hcN
   go_wp2_with fail
   have f5:((r:Int) != 0)=false:=by rw[bne,f4];rfl
   try simp only[f5]
   clear f4 f1 f2 f3 f5
   go_loopw [7,8,9] (fun v k _ wr=>∃i t:Nat,k=.int .i64 ((i:Int)-1)/\i+t=ln/\ed wr w.heap.size v (nz+t) (pz++jo s.size ln t)/\Below w.heap.size w wr) (fun _ k _ _=>(intOf k+1).toNat)
   case atStart=>exact⟨ln,0,rfl,rfl,by simpa [jo]using ai,hb⟩
   case round=>
    clear ai hb;obtain⟨i,t,rfl,hit,ai,hb⟩:=hrel;obtain⟨g2,c2,rfl,_,_⟩:=ai.form;cases i with
    | zero=>
      have e0:((0:Nat):Int)-1= -1:=rfl;rw[e0];obtain rfl:t=ln:=by omega
      have kL:=JJ ai;rw[<-HM2.out]at kL;clear e0 ai
      go_wp2_with fail
      go_ret;exact⟨⟨M.toArray⟩,rfl,Ih rfl,hb⟩
    | succ k=>
      have e1:((k+1:Nat):Int)-1=(k:Int):=by omega
      rw[e1];have AI:(0:Int)<=(k:Int):=by omega
      have f5:IntKind.i64.wrap ((k:Int)-1)=(k:Int)-1:=IntWalk.i64_in _ (by omega);obtain⟨x,hx⟩:∃x:UInt8,x=if ln<=t+8 then UInt8.ofNat (s.size*8 / 2^(8*(ln-1-t)))else 0:=⟨_,rfl⟩;have HX:Hid ((pz++jo s.size ln t)++[x]=pz++jo s.size ln (t+1)):=by show _=_;rw[ES,<-hx,List.append_assoc]
      by_cases Sq:k<8
      ·have abW:(k:Int)<8:=by omega
       rw[if_pos (by omega),show ln-1-t=k by omega]at hx;have Gy:((s.size:Int)*8 / 2^(8*k)%256)=(x.toNat:Int):=by rw[hx,UInt8.toNat_ofNat'];simp
       have f6:IntKind.i64.wrap (8*(k:Int))=((8*k:Nat):Int):=by rw[IntWalk.i64_in _ (by omega)];omega
       clear hx e1
       go_wp2_with (at_builtin;refine di rfl (.tmp 38) (.tmp 41) rfl w.heap.size _ (nz+t) 1 1 (nz+(t+1)) _ [x] (pz++jo s.size ln (t+1)) ⟨wr.heap.size,0,none⟩ rfl rfl (ai.kept ((Below.refl _ wr).alloc (Nat.le_refl _) _)) (by omega) HX.out rfl (fun j u hu=>by first |exact aJ wr _ _ j u hu|(rw[Gy];exact aJ wr _ _ j u hu)|exact aJ wr (.int .u8 (x.toNat:Int)) _ j u hu) (by omega) (Nat.le_trans hb.size (by simp)) ?_)
       intro v5 w5 Ou Og;have bv:Below w.heap.size w w5:=(ai.kept ((Below.refl _ wr).alloc (Nat.le_refl _) _)).below Og (hb.alloc hb.size _) (Nat.le_refl _) (Nat.le_trans hb.size (by simp));clear ai Og hb;obtain⟨g5,c5,rfl,_,_⟩:=Ou.form
       go_wp2_with fail
       go_roundw
       case rel=>exact⟨k,t+1,rfl,by omega,Ou,bv⟩
       case measure=>simp[intOf]
      ·have abW:¬(k:Int)<8:=by omega
       rw[if_neg (by omega)]at hx;have Gy:(0:Int)=(x.toNat:Int):=by rw[hx];rfl
       clear hx e1
       go_wp2_with (at_builtin;refine di rfl (.tmp 38) (.tmp 41) rfl w.heap.size _ (nz+t) 1 1 (nz+(t+1)) _ [x] (pz++jo s.size ln (t+1)) ⟨wr.heap.size,0,none⟩ rfl rfl (ai.kept ((Below.refl _ wr).alloc (Nat.le_refl _) _)) (by omega) HX.out rfl (fun j u hu=>by first |exact aJ wr _ _ j u hu|(rw[Gy];exact aJ wr _ _ j u hu)|exact aJ wr (.int .u8 (x.toNat:Int)) _ j u hu) (by omega) (Nat.le_trans hb.size (by simp)) ?_)
       intro v5 w5 Ou Og;have bv:Below w.heap.size w w5:=(ai.kept ((Below.refl _ wr).alloc (Nat.le_refl _) _)).below Og (hb.alloc hb.size _) (Nat.le_refl _) (Nat.le_trans hb.size (by simp));clear ai Og hb;obtain⟨g5,c5,rfl,_,_⟩:=Ou.form
       go_wp2_with fail
       go_roundw
       case rel=>exact⟨k,t+1,rfl,by omega,Ou,bv⟩
       case measure=>simp[intOf]
  ·have pA:r≠0:=fun e=>TA (xF.1 e);have f4:((r:Int)==0)=false:=by rw[beq_eq_false_iff_ne];omega
   have hzl:z<Z:=by omega
   have HX:Hid ((p1++List.replicate z 0)++[0]=p1++List.replicate (z+1) 0):=by show _=_;rw[List.replicate_succ',List.append_assoc]
   have acn:nz<=1073742000:=by omega
   clear pA xF hr ht T3
   go_wp2_with (at_builtin;refine di rfl (.tmp 21) (.tmp 22) rfl w.heap.size _ nz 1 1 (nz+1) _ [0] (p1++List.replicate (z+1) 0) ⟨wr.heap.size,0,none⟩ rfl rfl (ai.kept ((Below.refl _ wr).alloc (Nat.le_refl _) _)) rfl HX.out rfl (fun j u hu=>aJ wr _ _ j u hu) (by omega) (Nat.le_trans hb.size (by simp)) ?_)
   intro v5 w5 Ou Og;have bv:Below w.heap.size w w5:=(ai.kept ((Below.refl _ wr).alloc (Nat.le_refl _) _)).below Og (hb.alloc hb.size _) (Nat.le_refl _) (Nat.le_trans hb.size (by simp));clear ai Og hb;obtain⟨g5,c5,rfl,_,_⟩:=Ou.form
   go_wp2_with fail
   go_roundw
   case rel=>exact⟨z+1,by omega,by rw[show n1+(z+1)=nz+1 by rw[Hnz.out];omega];exact Ou,bv⟩
   case measure=>have:=Hnz.out;simp;omega
end Go.Proofs.YtibcmemcfjhgmaaGreatDoor
namespace Lz
theorem pq {α:Type} (f:α->Bs->α) (size:Nat):∀(a b:Nat) (h:α) (l:Bs),bh f size (a+b) h l=bh f size b (bh f size a h l) (l.drop (size*a))
 | 0,b,h,l=>by simp[bh]
 | a+1,b,h,l=>by
   rw[show a+1+b=(a+b)+1 by omega,bh,pq f size a b,bh,List.drop_drop,Nat.mul_succ,Nat.add_comm size]
theorem uz {α:Type} (f:α->Bs->α) (size:Nat):∀(a:Nat) (h:α) (s t:Bs),size*a<=s.length->bh f size a h (s++t)=bh f size a h s
 | 0,h,s,t,_=>rfl
 | a+1,h,s,t,hl=>by
   rw[Nat.mul_succ]at hl;rw[bh,bh,List.take_append_of_le_length (by omega),List.drop_append_of_le_length (by omega),uz f size a _ _ _ (by rw[List.length_drop];omega)]
theorem NA (aP:List UInt32) (h0:St8 UInt32) (s:Bs):iJ aP h0 s=xN (bh (fA aP) 64 ((s++lH s.length).length / 64) h0 (s++lH s.length)):=by
 unfold iJ;have h1:64*(s.length / 64)<=s.length:=by omega
 rw[show(s++lH s.length).length / 64=s.length / 64+((s.drop (s.length / 64*64)++lH s.length).length / 64) by rw[List.length_append,List.length_append,List.length_drop];omega,pq,uz _ _ _ _ _ _ h1,List.drop_append_of_le_length h1,Nat.mul_comm 64]
def rB (d p:Nat):UInt32:=UInt32.ofNat (lZ p d / 4294967296)
def cp (d many:Nat):List UInt32:=(a4.take many).map (rB d)
theorem BC (p d:Nat):lZ p d<18446744073709551616:=Nat.mod_lt _ (by decide)
end Lz
namespace Go.Proofs.YtibcmemcfjhgmaaGreatDoor
open Go.RowKit
attribute [local go_sem ↓] Go.wp_at_zero Go.wp_at_succ
theorem Au:(Tryz.prog.info? 123).map (fun i=>(i.zero,i.size,i.bytes))=some (some (.int .u32 0),1,4):=by kernel_rfl
def bZ (w:World) (B:Nat) (v:Value) (l:List UInt32):Prop:=w.ownsRow B 123 1 v l.length (bV l)
theorem bZ.below {w w':World} {B:Nat} {v:Value} {l:List UInt32} (h:bZ w B v l) (hb:Below w.heap.size w w'):bZ w' B v l:=dh h hb
def uM (w:World) (g:Nat) (l:List UInt32):Prop:=∀j,j<l.length->w.cell? ⟨g,j,none⟩=some (.int .u32 (N32 (l.getD j 0)))
theorem uM.below {w w':World} {g:Nat} {l:List UInt32} (h:uM w g l) (hb:Below w.heap.size w w'):uM w' g l:=fun j hj=>by
 rw[hb.cell (p:=⟨g,j,none⟩) (World.block_lt_of_cell? _ _ (h j hj))];exact h j hj
theorem bZ.form {w:World} {B:Nat} {v:Value} {l:List UInt32} (h:bZ w B v l) (hl:0<l.length):∃g c,v=.slice (some ⟨g,0,none⟩) l.length c/\uM w g l:=by
 rcases h.2 with⟨rfl,h0⟩|⟨g,cap,dx,rfl,hgb,hg,hn,tj,iF,gu⟩
 ·omega
 ·refine⟨g,cap,rfl,fun j hj=>?_⟩
  have:=World.ownsRow.cells h (g:=g) rfl j (.int .u32 (N32 (l.getD j 0))) (by
   unfold bV;rw[List.getElem?_map,List.getElem?_eq_getElem hj,List.getD_eq_getElem?_getD,List.getElem?_eq_getElem hj];rfl)
  rw[bD]at this;exact this
theorem qN {α:Type} {l:List α} {j:Nat} {x:α} (h:l[j]? =some x):l.take (j+1)=l.take j++[x]:=by rw[List.take_add_one,h];rfl
theorem C6 (d many j:Nat) (hm:many<=80) (hj:j<many):(Lz.cp d many)[j]? =some (Lz.rB d ((Lz.a4.take many).getD j 0)):=by
 unfold Lz.cp;have hl:j<(Lz.a4.take many).length:=by rw[List.length_take];have:Lz.a4.length=80:=rfl;omega
 rw[List.getElem?_map,List.getElem?_eq_getElem hl,List.getD_eq_getElem?_getD,List.getElem?_eq_getElem hl];rfl
theorem BG (d p:Nat):((Lz.lZ p d:Nat):Int) / 4294967296=N32 (Lz.rB d p):=by
 have:=Lz.BC p d;unfold N32 Lz.rB;rw[UInt32.toNat_ofNat'];omega
theorem JE (i:Nat) (h:i<8):(Lz.a4.take 64).getD i 0=(Lz.a4.take 8).getD i 0:=by
 have:∀j:Fin 8,(Lz.a4.take 64).getD j.val 0=(Lz.a4.take 8).getD j.val 0:=by decide +kernel
 exact this ⟨i,h⟩
theorem v8 (many j:Nat):(Lz.a4.take many).getD j 0<65536:=by
 rw[List.getD_eq_getElem?_getD];cases h:(Lz.a4.take many)[j]? with
 | none=>simp
 | some x=>
   have:=List.mem_of_mem_take (List.mem_of_getElem? h);have dY:∀x∈Lz.a4,x<65536:=by decide +kernel
   exact dY x this
theorem QX (c:UInt8):IntKind.u32.wrap (c.toNat:Int)=N32 c.toUInt32:=w32 c.toUInt32
theorem VA (a c:UInt32):IntKind.u32.wrap (N32 a*(c.toNat:Int))=N32 (a*c):=by
 unfold N32;rw[IntKind.wrap_u32,UInt32.toNat_mul,<-Int.natCast_mul];omega
theorem abh (a:UInt32):IntKind.u32.wrap (N32 a*16777216)=N32 (a*16777216):=VA a 16777216
theorem abd (a:UInt32):IntKind.u32.wrap (N32 a*65536)=N32 (a*65536):=VA a 65536
theorem nm8 (a:UInt32):IntKind.u32.wrap (N32 a*256)=N32 (a*256):=VA a 256
end Go.Proofs.YtibcmemcfjhgmaaGreatDoor
