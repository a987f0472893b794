/-
  lazaretref02.Hex.
-/
import Derived.Test.YtlcbhacofagedaaGreatDoorY17
import Derived.Test.YtlcbhacofagedaaGreatDoorY15
set_option maxHeartbeats 2000000
set_option maxRecDepth 100000
namespace Lz
open Go
def dX (x:Bs):Option Nat:=(bE 10 0 x).bind fun n=>if n<=255/\Lib.decDigits n=x then some n else none
theorem JV:∀n:Fin 256,dX (Lib.decDigits n.val)=some n.val:=by decide +kernel
theorem kC {x:Bs} {n:Nat}:dX x=some n↔n<256/\x=Lib.decDigits n:=by
 constructor
 ·intro h;unfold dX at h;rw[Option.bind_eq_some_iff]at h;obtain⟨m,_,hm⟩:=h;split at hm
  ·rename_i hh;obtain rfl:=Option.some.inj hm;exact⟨by omega,hh.2.symm⟩
  ·cases hm
 ·rintro⟨h,rfl⟩;exact JV ⟨n,h⟩
theorem uT (k:UInt8):∀s:Bs,dv [k] (ag k s)=s
 | []=>rfl
 | b::l=>by
   have ih:=uT k l;unfold ag;by_cases h:(b==k)=true
   ·rw[if_pos h];have hb:b=k:=by simpa using h
    cases e:ag k l with
    | nil=>
      rw[e]at ih;cases l with
      | nil=>simp[ag]at e
      | cons c r=>
        simp only[ag]at e;split at e
        ·cases e
        ·split at e<;>cases e
    | cons x r=>
      rw[e]at ih;rw[dv,ih,hb];rfl
   ·rw[if_neg h];cases e:ag k l with
    | nil=>
      rw[e]at ih;show b::[]=b::l;rw[<-ih];rfl
    | cons x r=>
      rw[e]at ih;show dv [k] ((b::x)::r)=b::l;cases r with
      | nil=>rw[dv]at ih⊢;rw[ih]
      | cons y z=>rw[dv]at ih⊢;rw[<-ih];rfl
theorem QN {b:List Nat} (h4:b.length=4) (hl:∀x∈b,x<256):ipP (cu b)=true:=by
 have hb:b≠[]:=by intro h;rw[h]at h4;cases h4
 have hd:ND (cu b):=by
  refine⟨?_,?_,?_,Or.inr (sw h4 hl)⟩
  ·unfold cu;exact qf (by simpa using hb) (by intro x hx;obtain⟨n,_,rfl⟩:=List.mem_map.1 hx;exact uG n)
  ·rw[List.any_eq_false];intro c hc;rcases iZ _ c hc with h|rfl
   ·rw[(pu c h).2.2.2.2.1];simp
   ·decide
  ·apply B7
   intro c hc;rcases iZ _ c hc with h|rfl
   ·exact(pu c h).2.2.2.1
   ·decide
 unfold ipP;rw[rp hd true,sG hb]
 simp
def Jc (s:Bs):Bool:=(ag 46 s).all (fun x=>(dX x).isSome)&&(ag 46 s).length==4
theorem Ob (s:Bs):Jc s=true↔∃b:List Nat,b.length=4/\(∀x∈b,x<256)/\s=cu b:=by
 unfold Jc;simp only[Bool.and_eq_true,List.all_eq_true,beq_iff_eq];constructor
 ·rintro⟨h,h4⟩;refine⟨(ag 46 s).map fun x=>(dX x).getD 0,by simpa using h4,?_,?_⟩
  ·intro x hx;obtain⟨y,hy,rfl⟩:=List.mem_map.1 hx;obtain⟨n,hn⟩:=Option.isSome_iff_exists.1 (h y hy);rw[hn];exact(kC.1 hn).1
  ·unfold cu;rw[List.map_map]
   have:(ag 46 s).map ((fun x=>Lib.decDigits x)∘fun x=>(dX x).getD 0)=ag 46 s:=by
    conv=>rhs;rw[<-List.map_id (ag 46 s)]
    apply List.map_congr_left
    intro y hy;obtain⟨n,hn⟩:=Option.isSome_iff_exists.1 (h y hy);show Lib.decDigits ((dX y).getD 0)=id y;rw[hn];exact(kC.1 hn).2.symm
   rw[this,uT]
 ·rintro⟨b,h4,hl,rfl⟩;have hb:b≠[]:=by intro h;rw[h]at h4;cases h4
  rw[qs hb];refine⟨?_,by simpa using h4⟩;intro x hx;obtain⟨n,hn,rfl⟩:=List.mem_map.1 hx;rw[kC.2 ⟨hl n hn,rfl⟩];rfl
theorem Q5 (s:Bs) (vS:s[0]? ≠some 91):ipP s=Jc s:=by
 rw[Bool.eq_iff_iff,Ob];constructor
 ·intro h;unfold ipP at h;cases e:aD s true with
  | er n=>rw[e]at h;cases h
  | ok t=>
    rw[e]at h;simp only[Bool.and_eq_true,beq_iff_eq,Bool.or_eq_true]at h;obtain⟨rfl,h⟩:=h
    have abV:bh t=true:=by
     rcases h with h|h
     ·exact absurd h vS
     ·exact h
    unfold aD at e;rw[if_neg vS,if_pos rfl]at e;have hd:=LI e;rcases hd.2.2.2 with h1|h1
    ·rw[abV]at h1;cases h1
    ·obtain⟨b,h4,hl,hb⟩:=Ag (qQ t) h1;exact⟨b,h4,hl,hb⟩
 ·rintro⟨b,h4,hl,rfl⟩;exact QN h4 hl
theorem ot (M:Nat):∀(l:Bs) (gD n:Nat),gD<=M->Lib.parseUintM M gD l=.ok n->n<=M
 | [],gD,n,ha,h=>by
   simp only[Lib.parseUintM]at h;cases h;exact ha
 | c::r,gD,n,ha,h=>by
   simp only[Lib.parseUintM]at h;split at h
   ·split at h
    ·cases h
    ·split at h
     ·cases h
     ·exact ot M r _ n (by omega) h
   ·cases h
theorem mX (f:Bs->Option Nat):∀(l:List Bs) (b:List Nat),l.mapM f=some b->b.length=l.length
 | [],b,h=>by simp at h;subst h;rfl
 | x::r,b,h=>by
   rw[List.mapM_cons]at h;simp only[bind,Option.bind_eq_some_iff,pure,Option.some.injEq]at h;obtain⟨y,_,t,ht,rfl⟩:=h;rw[List.length_cons,List.length_cons,mX f r t ht]
theorem Nz (x:Bs):gz x=dX x:=by
 cases e:dX x with
 | some n=>
   obtain⟨h,rfl⟩:=kC.1 e;exact Mm h
 | none=>
   unfold gz;split
   ·rename_i n hn;split
    ·rename_i hx
     exfalso
     have aN:n<256:=by
      unfold Lib.parseUintB at hn;split at hn
      ·cases hn
      ·have:=ot _ _ _ _ (by omega) hn;omega
     rw[kC.2 ⟨aN,hx.symm⟩]at e;cases e
    ·rfl
   ·rfl
def ka (x:Bs):Option Nat:=if x=[]\/4<x.length then none else bE 16 0 x
theorem xH:∀(l:Bs) (n:Nat),(n+1)*16^l.length<=65536->bE 16 n l=l.foldlM ri n
 | [],n,_=>rfl
 | c::r,n,h=>by
   rw[List.foldlM_cons];show(match dx c with|none=>none|some d=>if 16<=d then none else bE 16 (min (n*16+d) 1099511627776) r)=_;unfold ri;cases hc:dx c with
   | none=>rfl
   | some d=>
     have hd:=je c d hc;rw[List.length_cons,Nat.pow_succ,Nat.mul_comm (16^r.length) 16,<-Nat.mul_assoc]at h;have h2:(n*16+d+1)*16^r.length<=(n+1)*16*16^r.length:=Nat.mul_le_mul_right _ (by omega);have h3:1<=16^r.length:=Nat.pow_pos (by omega);have h4:n*16+d+1<=(n*16+d+1)*16^r.length:=Nat.le_mul_of_pos_right _ h3;show(if 16<=d then none else bE 16 (min (n*16+d) 1099511627776) r)=List.foldlM ri (n*16+d) r;rw[if_neg (by omega),Nat.min_eq_left (by omega),xH r (n*16+d) (by omega)]
theorem Ja (x:Bs):ka x=eD x:=by
 unfold ka eD;split
 ·rfl
 ·rename_i h;have:(16:Nat)^x.length<=16^4:=Nat.pow_le_pow_right (by omega) (by omega);exact xH x 0 (by omega)
def ju (last:Bool):List Bs->Option (List Nat)
 | []=>some []
 | x::r=>if last&&r.isEmpty&&(ag 46 x).length==4 then((ag 46 x).mapM dX).map fun b=>[b.getD 0 0*256+b.getD 1 0,b.getD 2 0*256+b.getD 3 0]
   else match ka x with
    | none=>none
    | some n=>(ju last r).map (n::·)
theorem Kp (k:UInt8) {x:Bs} (h:x.contains k=false):ag k x=[x]:=l8 k x (by
 intro c hc e;subst e;rw[Bool.eq_false_iff]at h;exact h (by simpa using hc))
theorem GX (last:Bool):∀l:List Bs,ju last l=gL last l
 | []=>rfl
 | x::r=>by
   have ih:=GX last r;have hm:(fun x=>gz x)=dX:=funext Nz;unfold ju gL;rw[ih,Ja];by_cases h1:(last&&r.isEmpty)=true
   ·rw[h1];simp only[Bool.true_and,beq_iff_eq];by_cases h2:x.contains 46=true
    ·rw[if_pos h2];unfold fS;rw[show gz=dX from hm];by_cases h4:(ag 46 x).length=4
     ·rw[if_pos h4];cases e:(ag 46 x).mapM dX with
      | none=>rfl
      | some b=>
        have hl:b.length=4:=by
         have:=mX _ _ _ e;omega
        simp[hl]
     ·rw[if_neg h4,uK (c:=46) (by simpa using h2) (by decide)];cases e:(ag 46 x).mapM dX with
      | none=>rfl
      | some b=>
        have hl:b.length≠4:=by
         have:=mX _ _ _ e;omega
        simp[hl]
    ·have F6:x.contains 46=false:=by simpa using h2
     rw[if_neg h2,Kp 46 F6]
     simp
     cases eD x<;>rfl
   ·have An:(last&&r.isEmpty)=false:=by simpa using h1
    rw[An]
    simp
    cases eD x<;>rfl
def fy (s:Bs) (last:Bool):Option (List Nat):=if s=[]then some []else ju last (ag 58 s)
theorem LP (s:Bs) (last:Bool):fy s last=eM s last:=by
 unfold fy eM;rw[GX]
def ql (s:Bs):Option (List Nat):=
 match fy (Lib.cut s [58,58]).1 (!(Lib.cut s [58,58]).2.2),fy (Lib.cut s [58,58]).2.1 true with
 | some x,some y=>if(Lib.cut s [58,58]).2.2 then(if 7<x.length+y.length then none else some (x++List.replicate (8-x.length-y.length) 0++y))else(if x.length=8 then some x else none)
 | _,_=>none
theorem EC (t:Bs):eM (58::t) true=none:=by
 unfold eM;rw[if_neg (by simp)];have hs:ag 58 (58::t)=[]::ag 58 t:=by simp[ag]
 rw[hs]
 have dG:(ag 58 t).isEmpty=false:=by
  cases t with
  | nil=>rfl
  | cons c r=>
    simp only[ag];split
    ·rfl
    ·split<;>rfl
 unfold gL;rw[dG]
 simp[eD]
theorem LC {s:Bs} (h:(Lib.cut s [58,58]).2.2=false):(Lib.cut s [58,58]).1=s/\(Lib.cut s [58,58]).2.1=[]:=by
 unfold Lib.cut at h⊢;split at h
 ·cases h
 ·rename_i hh;rw[if_neg hh];exact⟨rfl,rfl⟩
theorem zq (s:Bs):ql s=iI s:=by
 have ic:= @LC s;unfold ql iI;simp only[LP];generalize Lib.cut s [58,58]=c at ic;obtain⟨f,b,q⟩:=c;simp only at ic⊢;cases q
 ·obtain⟨rfl,rfl⟩:=ic rfl;by_cases h0:f=[]
  ·subst h0
   simp[eM]
  ·have he:f.isEmpty=false:=by cases f<;>simp_all
   rw[he]
   simp[eM,Lib.hasPrefix]
   cases hx:gL true (ag 58 f)with
   | none=>simp[h0]
   | some x=>simp[h0]
 ·by_cases hp:Lib.hasPrefix b [58]=true
  ·have hb:∃t,b=58::t:=by
    cases b with
    | nil=>simp[Lib.hasPrefix]at hp
    | cons c r=>
      have:c=58:=by
       simp only[Lib.hasPrefix,List.isPrefixOf,Bool.and_true,beq_iff_eq]at hp;exact hp.symm
      exact⟨r,by rw[this]⟩
   obtain⟨t,rfl⟩:=hb;rw[EC,hp];cases eM f (!true)<;>rfl
  ·have hp':Lib.hasPrefix b [58]=false:=by simpa using hp
   rw[hp'];cases hx:eM f (!true)with
   | none=>simp
   | some x=>
     cases hy:eM b true with
     | none=>simp
     | some y=>
       simp
       by_cases h8:8<=x.length+y.length
       ·rw[if_pos h8,if_pos (by omega)]
       ·rw[if_neg h8,if_neg (by omega)]
def gn (x:List Nat):Nat->Nat×Nat
 | 0=>(0,0)
 | i+1=>if max ((gn x i).2-(gn x i).1) 1<bo (x.drop i)then(i,i+bo (x.drop i))else gn x i
theorem yf (x:List Nat):∀m i:Nat,i+m=x.length->fT i (x.drop i) (gn x i)=gn x x.length
 | 0,i,h=>by
   rw[List.drop_eq_nil_of_le (by omega),show i=x.length by omega];rfl
 | m+1,i,h=>by
   have hi:i<x.length:=by omega
   have ih:=yf x m (i+1) (by omega);rw[<-ih]
   conv=>lhs;rw[List.drop_eq_getElem_cons hi]
   rw[fT,<-List.drop_eq_getElem_cons hi];rfl
theorem Mv (x:List Nat):fT 0 x (0,0)=gn x x.length:=by
 have:=yf x x.length 0 (by omega)
 rwa [List.drop_zero]at this
theorem yK (x:List Nat):∀i,i<=x.length->((gn x i).1=0/\(gn x i).2=0)\/((gn x i).1+2<=(gn x i).2/\(gn x i).1<i/\(gn x i).2<=x.length)
 | 0,_=>Or.inl ⟨rfl,rfl⟩
 | i+1,h=>by
   have ih:=yK x i (by omega);rw[gn];split
   ·rename_i hh;right;have hz:bo (x.drop i)<=(x.drop i).length:=by unfold bo;exact(List.takeWhile_prefix _).length_le
    rw[List.length_drop]at hz;have h2:1<bo (x.drop i):=Nat.lt_of_le_of_lt (Nat.le_max_right _ _) hh;simp only;omega
   ·rcases ih with h1|h1
    ·exact Or.inl h1
    ·right;omega
def D0 (s:Bs):Bool:= !s.isEmpty&& !(s.getLast? ==some 58)
theorem Ji (n:Nat) (s:Bs):(s++fd n).getLast? ≠some 58:=by
 intro h;rw[List.getLast?_append]at h;cases e:(fd n).getLast? with
 | none=>exact jS n (List.getLast?_eq_none_iff.1 e)
 | some c=>
   rw[e]at h;have hc:c=58:=Option.some.inj h;subst hc;exact(tS 58 (tX n 58 (List.mem_of_getLast? e))).1 rfl
theorem ro (l:List Nat) (n:Nat):bj (l++[n])=(if l=[]then[]else bj l++[58])++fd n:=by
 unfold bj;rw[List.map_append,List.map_singleton];split
 ·rename_i h;subst h;rfl
 ·rename_i h;rw[vf _ (by simpa using h)]
theorem xK (s:Bs) (hs:s=[]\/s.getLast? =some 58) (l:List Nat):D0 (s++bj l)= !l.isEmpty:=by
 rcases List.eq_nil_or_concat l with rfl|⟨r,n,rfl⟩
 ·rw[show bj []=[]from rfl,List.append_nil];unfold D0;rcases hs with rfl|h
  ·rfl
  ·rw[h];simp
 ·rw[List.concat_eq_append,ro,<-List.append_assoc];unfold D0;have h1:=Ji n (s++(if r=[]then[]else bj r++[58]))
  have h2:(s++(if r=[]then[]else bj r++[58])++fd n).isEmpty=false:=by
   cases e:(s++(if r=[]then[]else bj r++[58])++fd n)with
   | nil=>exact absurd (List.append_eq_nil_iff.1 e).2 (jS n)
   | cons _ _=>rfl
  rw[h2];have h3:((s++(if r=[]then[]else bj r++[58])++fd n).getLast? ==some 58)=false:=by simpa using h1
  rw[h3]
  simp
def gq (a:List Nat) (p q i:Nat):Bs:=if p=q\/i<=p then bj (a.take i)else bj (a.take p)++[58,58]++bj ((a.drop q).take (i-q))
theorem D5 (a:List Nat) (p q:Nat):gq a p q 0=[]:=by
 unfold gq;rw[if_pos (Or.inr (Nat.zero_le _))];rfl
theorem FN {a:List Nat} {p q i:Nat} (hi:i<a.length) (h:p=q\/i<p\/(p<q/\q<=i)):gq a p q (i+1)=gq a p q i++(if D0 (gq a p q i)then[58]else[])++fd (a.getD i 0):=by
 have hg:a.getD i 0=a[i]:=by simp[List.getD,List.getElem?_eq_getElem hi]
 by_cases h1:p=q\/i<p
 ·have e1:gq a p q (i+1)=bj (a.take i++[a[i]]):=by
   unfold gq;rw[if_pos (by omega),List.take_add_one,List.getElem?_eq_getElem hi];rfl
  have e2:gq a p q i=bj (a.take i):=by
   unfold gq;rw[if_pos (by omega)]
  have hc:=xK [] (Or.inl rfl) (a.take i);rw[List.nil_append]at hc;rw[e1,e2,hc,ro,hg];cases hl:a.take i with
  | nil=>simp[bj,dv]
  | cons x r=>simp
 ·have hq:p<q/\q<=i:=by omega
  have e1:gq a p q (i+1)=bj (a.take p)++[58,58]++bj ((a.drop q).take (i-q)++[a[i]]):=by
   unfold gq;rw[if_neg (by omega),show i+1-q=(i-q)+1 by omega,List.take_add_one,List.getElem?_drop,show q+(i-q)=i by omega,List.getElem?_eq_getElem hi];rfl
  have e2:gq a p q i=bj (a.take p)++[58,58]++bj ((a.drop q).take (i-q)):=by
   unfold gq;rw[if_neg (by omega)]
  have hc:=xK (bj (a.take p)++[58,58]) (Or.inr (by simp)) ((a.drop q).take (i-q));rw[e1,e2,hc,ro,hg];cases hl:(a.drop q).take (i-q)with
  | nil=>simp[bj,dv]
  | cons x r=>simp
theorem EN {a:List Nat} {p q:Nat} (h:p<q):gq a p q q=gq a p q p++[58,58]:=by
 unfold gq;rw[if_neg (by omega),if_pos (by omega),Nat.sub_self,List.take_zero]
 simp[bj,dv]
theorem Kz (a:List Nat):gq a (gn a a.length).1 (gn a a.length).2 a.length=ef a:=by
 unfold gq ef;rw[Mv];rcases yK a a.length (Nat.le_refl _)with h|h
 ·rw[if_pos (Or.inl (by omega)),if_pos (by omega),List.take_length]
 ·have e:(a.drop (gn a a.length).2).take (a.length-(gn a a.length).2)=a.drop (gn a a.length).2:=List.take_of_length_le (by rw[List.length_drop];omega);rw[if_neg (by omega),if_neg (by omega),e]
def ipR (s:Bs):Bool:=
 if s[0]? =some 91 then(if s.length<2\/s.getLast? ≠some 93 then false else match ql ((s.drop 1).dropLast)with
  | some a=>decide ([91]++ef a++[93]=s)
  | none=>false)
 else Jc s
theorem Uy (s:Bs):ipR s=ipP s:=by
 unfold ipR;by_cases h:s[0]? =some 91
 ·rw[if_pos h];unfold ipP aD;rw[if_pos h,zq];split
  ·rfl
  ·cases iI ((s.drop 1).dropLast)with
   | none=>rfl
   | some a=>
     show decide ([91]++ef a++[93]=s)=(([91]++ef a++[93]==s)&&(s[0]? ==some 91||bh s));rw[h,Bool.eq_iff_iff]
     simp
 ·rw[if_neg h,Q5 s h]
theorem aaP (a:UInt8) (l:Bs):([58,58]:Bs).isPrefixOf (a::l)=(a==58&&l[0]? ==some 58):=by
 rw[Bool.eq_iff_iff];cases l with
 | nil=>simp[List.isPrefixOf]
 | cons b r=>
   simp only[List.isPrefixOf,Bool.and_true,Bool.and_eq_true,beq_iff_eq,List.getElem?_cons_zero,Option.some.injEq];constructor
   ·rintro⟨h1,h2⟩;exact⟨h1.symm,h2.symm⟩
   ·rintro⟨h1,h2⟩;exact⟨h1.symm,h2.symm⟩
theorem Ed:Lib.index [] ([58,58]:Bs)= -1:=rfl
theorem sa (a:UInt8) (l:Bs):Lib.index (a::l) [58,58]=if(a==58&&l[0]? ==some 58)=true then 0 else if Lib.index l [58,58]= -1 then -1 else Lib.index l [58,58]+1:=by
 rw[Lib.index,aaP];split
 ·rfl
 ·by_cases h:Lib.index l [58,58]= -1
  ·rw[h];rfl
  ·rw[if_neg h,if_neg (by simpa using h)]
theorem ny:∀s:Bs,Lib.index s [58,58]= -1\/∃p:Nat,Lib.index s [58,58]=p/\p+2<=s.length
 | []=>Or.inl Ed
 | a::l=>by
   rw[sa];split
   ·rename_i h;right;refine⟨0,rfl,?_⟩;cases l with
    | nil=>simp at h
    | cons b r=>simp
   ·rcases ny l with h|⟨p,h,hp⟩
    ·left;rw[if_pos h]
    ·right;refine⟨p+1,?_,by simp;omega⟩;rw[if_neg (by omega),h];simp
def atF (s:Bs) (k:Nat):Int:=if Lib.index (s.drop k) [58,58]= -1 then -1 else Lib.index (s.drop k) [58,58]+k
theorem QE {s:Bs} {k:Nat} (h:s.length<=k+1):atF s k= -1:=by
 unfold atF;rw[if_pos];rcases ny (s.drop k)with h1|⟨p,_,hp⟩
 ·exact h1
 ·rw[List.length_drop]at hp;omega
theorem N4 {s:Bs} {k:Nat} (h:k+1<s.length):atF s k=if(s[k]==58&&s[k+1]==58)=true then(k:Int)else atF s (k+1):=by
 have e:s.drop k=s[k]::s.drop (k+1):=List.drop_eq_getElem_cons (by omega);have g:(s.drop (k+1))[0]? =some s[k+1]:=by rw[List.getElem?_drop];exact List.getElem?_eq_getElem h
 unfold atF;rw[e,sa,g];have hb:(some s[k+1]==some (58:UInt8))=(s[k+1]==58):=rfl;rw[hb];by_cases hh:(s[k]==58&&s[k+1]==58)=true
 ·rw[if_pos hh,if_pos hh,if_neg (by decide)];simp
 ·rw[if_neg hh,if_neg hh];by_cases h1:Lib.index (s.drop (k+1)) [58,58]= -1
  ·rw[if_pos h1,if_pos h1,if_pos rfl]
  ·have h2:0<=Lib.index (s.drop (k+1)) [58,58]:=by
    rcases ny (s.drop (k+1))with h3|⟨p,h3,_⟩
    ·exact absurd h3 h1
    ·omega
   rw[if_neg h1,if_neg h1,if_neg (by omega)];omega
theorem P0 (s:Bs):(atF s 0= -1/\Lib.cut s [58,58]=(s,[],false))\/∃p:Nat,atF s 0=p/\p+2<=s.length/\Lib.cut s [58,58]=(s.take p,s.drop (p+2),true):=by
 unfold atF Lib.cut;rw[List.drop_zero];rcases ny s with h|⟨p,h,hp⟩
 ·left;rw[if_pos h,h];exact⟨rfl,rfl⟩
 ·right;refine⟨p,?_,hp,?_⟩
  ·rw[if_neg (by omega),h];simp
  ·rw[h,if_pos (by omega)];rfl
theorem j6 (a:Nat) (r:List Nat):bo (a::r)=if a=0 then bo r+1 else 0:=by
 unfold bo;rw[List.takeWhile_cons];by_cases h:a=0
 ·simp[h]
 ·simp[h]
theorem xL:∀(l:List Nat) (k:Nat),k<=bo l->l[k]? =some 0->k+1<=bo l
 | [],k,_,h=>by simp at h
 | a::r,0,_,h=>by
   rw[j6,if_pos (by simpa using h)];omega
 | a::r,k+1,hk,h=>by
   rw[j6]at hk⊢;split at hk
   ·rename_i h0;rw[if_pos h0];have:=xL r k (by omega) (by simpa using h);omega
   ·omega
theorem vE:∀(l:List Nat) (k n:Nat),k<=bo l->l[k]? =some n->n≠0->bo l=k
 | [],k,_,_,h,_=>by simp at h
 | a::r,0,n,_,h,hn=>by
   have:a=n:=by simpa using h
   rw[j6,if_neg (by omega)]
 | a::r,k+1,n,hk,h,hn=>by
   rw[j6]at hk⊢;split at hk
   ·rename_i h0;rw[if_pos h0,vE r k n (by omega) (by simpa using h) hn]
   ·omega
theorem M7 {x:List Nat} {i k:Nat} (hk:k<=bo (x.drop i)) (hg:x[i+k]? =some 0):k+1<=bo (x.drop i):=xL _ _ hk (by rw[List.getElem?_drop];exact hg)
theorem I6 {x:List Nat} {i k n:Nat} (hk:k<=bo (x.drop i)) (hg:x[i+k]? =some n) (hn:n≠0):bo (x.drop i)=k:=vE _ _ n hk (by rw[List.getElem?_drop];exact hg) hn
theorem Ny (l:List Nat):bo l<=l.length:=by unfold bo;exact(List.takeWhile_prefix _).length_le
theorem EZ {x:List Nat} {i k:Nat} (hk:k<=bo (x.drop i)) (h:x.length<=i+k):bo (x.drop i)=k:=by
 have:=Ny (x.drop i);rw[List.length_drop]at this;omega
theorem xu (x:Bs) (r:List Bs):(x::r).mapM dX=match dX x with|none=>none|some n=>(r.mapM dX).map (n::·):=by
 rw[List.mapM_cons];cases dX x with
 | none=>rfl
 | some n=>cases r.mapM dX<;>rfl
theorem GM {x:Bs} {n:Nat} (h:dX x=some n):n<=255:=by
 have:=(kC.1 h).1;omega
theorem Ah (b:Nat):∀(l:Bs) (n m:Nat),n<=1099511627776->bE b n l=some m->m<=1099511627776
 | [],n,m,hn,h=>by
   have:n=m:=by simpa [bE]using h
   omega
 | c::r,n,m,hn,h=>by
   rw[bE]at h;cases hc:dx c with
   | none=>rw[hc]at h;cases h
   | some d=>
     rw[hc]at h;simp only at h;split at h
     ·cases h
     ·exact Ah b r _ m (Nat.min_le_right _ _) h
theorem JD {x:Bs} {n:Nat} (h:ka x=some n):n<=1099511627776:=by
 unfold ka at h;split at h
 ·cases h
 ·exact Ah 16 x 0 n (by omega) h
theorem Ie (last:Bool):∀(l:List Bs) (a:List Nat),ju last l=some a->a.length<=l.length+1/\∀n∈a,n<=1099511627776
 | [],a,h=>by
   have:a=[]:=by simpa [ju]using h.symm
   subst this;simp
 | x::r,a,h=>by
   unfold ju at h;split at h
   ·cases hm:(ag 46 x).mapM dX with
    | none=>rw[hm]at h;cases h
    | some b=>
      rw[hm]at h;obtain rfl:=Option.some.inj h
      have hb:∀(l:List Bs) (b:List Nat),l.mapM dX=some b->∀n∈b,n<=255:=by
       intro l
       induction l with
       | nil=>intro b hb;have:b=[]:=by simpa using hb.symm
              subst this;simp
       | cons y t ih=>
         intro b hb;rw[xu]at hb;cases hy:dX y with
         | none=>rw[hy]at hb;cases hb
         | some v=>
           rw[hy]at hb;simp only[Option.map_eq_some_iff]at hb;obtain⟨c,hc,rfl⟩:=hb;intro n hn;rcases List.mem_cons.1 hn with rfl|hn
           ·exact GM hy
           ·exact ih c hc n hn
      have hg:∀i,b.getD i 0<=255:=by
       intro i;rw[List.getD_eq_getElem?_getD];cases hi:b[i]? with
       | none=>simp
       | some v=>exact hb _ _ hm v (List.mem_of_getElem? hi)
      refine⟨by simp,?_⟩;intro n hn;have h0:=hg 0;have h1:=hg 1;have h2:=hg 2;have h3:=hg 3;simp only[List.mem_cons,List.not_mem_nil,or_false]at hn;rcases hn with rfl|rfl<;>omega
   ·cases hp:ka x with
    | none=>rw[hp]at h;cases h
    | some n=>
      rw[hp]at h;simp only[Option.map_eq_some_iff]at h;obtain⟨c,hc,rfl⟩:=h;obtain⟨h1,h2⟩:=Ie last r c hc;refine⟨by simp;omega,?_⟩;intro m hm;rcases List.mem_cons.1 hm with rfl|hm
      ·exact JD hp
      ·exact h2 m hm
theorem qo {s:Bs} {last:Bool} {a:List Nat} (h:fy s last=some a):a.length<=s.length+2/\∀n∈a,n<=1099511627776:=by
 unfold fy at h;split at h
 ·obtain rfl:=Option.some.inj h;simp
 ·obtain⟨h1,h2⟩:=Ie last _ a h;have:=dz 58 s;exact⟨by omega,h2⟩
theorem IH {x:Bs} {r:List Bs} {last:Bool} (h:(last&&r.isEmpty&&(ag 46 x).length==4)=true):ju last (x::r)=((ag 46 x).mapM dX).map fun b=>[b.getD 0 0*256+b.getD 1 0,b.getD 2 0*256+b.getD 3 0]:=by
 rw[ju,if_pos h]
theorem Nw {x:Bs} {r:List Bs} {last:Bool} (h:(last&&r.isEmpty&&(ag 46 x).length==4)=false):ju last (x::r)=match ka x with|none=>none|some n=>(ju last r).map (n::·):=by
 (rw[ju,if_neg (by rw[h];decide)])<;>cases ka x<;>rfl
def qm:Bs:=[48,49,50,51,52,53,54,55,56,57,97,98,99,100,101,102]
def qP (k:Nat) (c:UInt8):Bool:=qm.getD k 0==c||(65<=c&&c<=90&&qm.getD k 0==c+32)
theorem xJ:∀c:UInt8,dx c=(List.range 16).find? fun k=>qP k c:=au (by decide +kernel)
theorem PV {c:UInt8} {k:Nat} (hk:k<16) (h:qP k c=true) (ic:∀i,i<k->qP i c=false):dx c=some k:=by
 rw[xJ,List.find?_eq_some_iff_getElem];refine⟨h,k,by simpa using hk,by simp,fun j hj=>?_⟩
 simp[ic j hj]
theorem P9 {c:UInt8} (ic:∀i,i<16->qP i c=false):dx c=none:=by
 rw[xJ,List.find?_eq_none];intro i hi;have:=ic i (by simpa using hi)
 simp[this]
end Lz
namespace Go.Proofs.YtlcbhacofagedaaGreatDoor
open Go.RowKit
def T5 (o:Option Nat) (w:World) (e:Ending) (w':World):Prop:=e=.returned (.tuple #[.int .i64 ((o.getD 0:Nat):Int),.bool o.isSome])/\w=w'
theorem YQ:∀k:Fin 16,(⟨#[48,49,50,51,52,53,54,55,56,57,97,98,99,100,101,102]⟩:ByteArray)[k.val]'(show k.val<16 from k.isLt)=Lz.qm.getD k.val 0:=by decide +kernel
theorem Uc (k:Nat) (h:k<16) {h':k<(⟨#[48,49,50,51,52,53,54,55,56,57,97,98,99,100,101,102]⟩:ByteArray).size}:(⟨#[48,49,50,51,52,53,54,55,56,57,97,98,99,100,101,102]⟩:ByteArray)[k]'(h')=Lz.qm.getD k 0:=YQ ⟨k,h⟩
theorem nH (c:UInt8) (w:World):Calls Tryz.prog 91 #[.int .u8 (c.toNat:Int)] w (T5 (Lz.dx c) w):=by
 have Pe:=d9 c;go_enter Tryz.func91,Tryz.ntmps91
 go_wp2_with fail
 go_loopw [5] (fun i wr=>∃k:Nat,i=.int .i64 k/\k<=16/\Hid (∀j,j<k->Lz.qP j c=false)/\w=wr) (fun i _=>16-(intOf i).toNat)
 case atStart=>exact⟨0,rfl,by omega,Ih (fun j hj=>absurd hj (by omega)),rfl⟩
 case round=>
  obtain⟨k,rfl,hk,ic,rfl⟩:=hrel;by_cases aN:k<16
  ·have dH:(k:Int)<16:=by omega
   have iN:(0:Int)<=(k:Int):=by omega
   obtain⟨e,he⟩:∃e,e=Lz.qm.getD k 0:=⟨_,rfl⟩;have wR:∀h',((⟨#[48,49,50,51,52,53,54,55,56,57,97,98,99,100,101,102]⟩:ByteArray)[k]'(h'))=e:=fun h'=>by rw[he];exact Uc k aN
   obtain⟨q,hq⟩:∃q,q=Lz.qP k c:=⟨_,rfl⟩;have Hq:=Ih (show q=(e==c||(65<=c&&c<=90&&e==c+32)) by rw[hq,he];rfl);have KA:=Ih hq;have h1:=jO e c;clear he hq
   go_upto_region 5 with fail
   go_cut [32] (fun s wx=>s=.bool q/\w=wx)
   case first=>
    by_cases aC:e=c
    ·have abT:((e.toNat:Int)==(c.toNat:Int))=true:=h1.trans (by simp[aC]);have HQ:Hid (q=true):=by show _=_;rw[Hq.out,aC];simp
     clear aC h1
     go_wp2_with fail
     go_meet;exact⟨by rw[HQ.out],rfl⟩
    ·have abT:((e.toNat:Int)==(c.toNat:Int))=false:=h1.trans (by simpa using aC);have WZ:(e==c)=false:=by simpa using aC
     clear aC h1;by_cases h65:65<=(c.toNat:Int)
     ·have d65:decide ((65:UInt8)<=c)=true:=by rw[decide_eq_true_eq,UInt8.le_iff_toNat_le];show 65<=_;omega
      have e65:=decide_eq_true h65;by_cases h90:(c.toNat:Int)<=90
      ·have d90:decide (c<=(90:UInt8))=true:=by rw[decide_eq_true_eq,UInt8.le_iff_toNat_le];show _<=90;omega
       have e90:=decide_eq_true h90;have hcn:(c+32).toNat=c.toNat+32:=by rw[UInt8.toNat_add];show(c.toNat+32)%256=_;omega
       have hw:IntKind.u8.wrap ((c.toNat:Int)+32)=((c+32:UInt8).toNat:Int):=by rw[hcn,IntWalk.u8_in _ (by omega)];omega
       have oZ:(c.toNat:Int)+32=((c+32:UInt8).toNat:Int):=by rw[hcn];omega
       obtain⟨c2,qH⟩:∃c2,c2=c+32:=⟨_,rfl⟩;rw[<-qH]at hw oZ;have h2:=jO e c2;have acB:=d9 c2;have HQ:Hid (q=(e==c2)):=by show _=_;rw[Hq.out,WZ,d65,d90,<-qH];simp
       clear qH hcn;cases hx:(e==c2)
       ·rw[hx]at h2;have KU:Hid (q=false):=by show _=_;rw[HQ.out,hx]
        clear hx
        go_wp2_with fail
        go_meet;exact⟨by rw[KU.out],rfl⟩
       ·rw[hx]at h2;have KU:Hid (q=true):=by show _=_;rw[HQ.out,hx]
        clear hx
        go_wp2_with fail
        go_meet;exact⟨by rw[KU.out],rfl⟩
      ·have e90:=decide_eq_false h90
       have HQ:Hid (q=false):=by
        show _=_;rw[Hq.out,WZ,show decide (c<=(90:UInt8))=false by rw[decide_eq_false_iff_not,UInt8.le_iff_toNat_le];show ¬_<=90;omega];simp
       go_wp2_with fail
       go_meet;exact⟨by rw[HQ.out],rfl⟩
     ·have e65:=decide_eq_false h65
      have HQ:Hid (q=false):=by
       show _=_;rw[Hq.out,WZ,show decide ((65:UInt8)<=c)=false by rw[decide_eq_false_iff_not,UInt8.le_iff_toNat_le];show ¬65<=_;omega];simp
      go_wp2_with fail
      go_meet;exact⟨by rw[HQ.out],rfl⟩
   case rest=>
   obtain⟨rfl,rfl⟩:=hcut;cases q
   ·go_wp2_with fail
    go_roundw
    case rel=>
     refine⟨k+1,by go_num,by omega,?_,trivial⟩;show ∀j,j<k+1->_;intro j hj;rcases Nat.lt_or_ge j k with h|h
     ·exact ic.out j h
     ·rw[show j=k by omega];exact KA.out.symm
    case measure=>simp[intOf];omega
   ·have HV:Hid (Lz.dx c=some k):=Ih (Lz.PV aN KA.out.symm ic.out)
    go_wp2_with fail
    go_ret2
    rw[HV.out];exact⟨rfl,rfl⟩
  ·have dH:¬(k:Int)<16:=by omega
   have HV:Hid (Lz.dx c=none):=Ih (Lz.P9 (fun i hi=>ic.out i (by omega)))
   go_wp2_with fail
   go_ret2
   rw[HV.out];exact⟨rfl,rfl⟩
attribute [local go_sem ↓] Go.wp_at_zero Go.wp_at_succ
def QD (o:Option Nat) (w:World) (e:Ending) (w':World):Prop:=e=.returned (.tuple #[.int .i64 ((o.getD 0:Nat):Int),.bool o.isSome])/\w=w'
theorem IA (b n:Nat) (c:UInt8) (r:List UInt8):Lz.bE b n (c::r)=match Lz.dx c with|none=>none|some d=>if b<=d then none else Lz.bE b (min (n*b+d) 1099511627776) r:=by
 rw[Lz.bE];cases Lz.dx c<;>rfl
theorem Fb {c:UInt8} (h:Lz.dx c=none) (w:World):Calls Tryz.prog 91 #[.int .u8 (c.toNat:Int)] w fun e w'=>e=.returned (.tuple #[.int .i64 0,.bool false])/\w=w':=by
 have:=nH c w;rw[h]at this;exact this
theorem FP {c:UInt8} {d:Nat} (h:Lz.dx c=some d) (w:World):Calls Tryz.prog 91 #[.int .u8 (c.toNat:Int)] w fun e w'=>e=.returned (.tuple #[.int .i64 (d:Int),.bool true])/\w=w':=by
 have:=nH c w;rw[h]at this;exact this
theorem fI (s:ByteArray) (b:Nat) (hb:b<=16) (hs:s.size<=1048576) (w:World):Calls Tryz.prog 92 #[.string s,.int .i64 (b:Int)] w (QD (Lz.bE b 0 s.data.toList) w):=by
 obtain⟨o,ho⟩:∃o,o=Lz.bE b 0 s.data.toList:=⟨_,rfl⟩;rw[<-ho];have Ho:=Ih ho;clear ho;go_enter Tryz.func92,Tryz.ntmps92
 go_wp2_with fail
 go_loopw [6,7] (fun n i wr=>∃k m:Nat,i=.int .i64 k/\n=.int .i64 m/\k<=s.size/\m<=1099511627776/\Hid (o=Lz.bE b m (s.data.toList.drop k))/\w=wr) (fun _ i _=>s.size-(intOf i).toNat)
 case atStart=>exact⟨0,0,rfl,rfl,Nat.zero_le _,Nat.zero_le _,by show _=_;rw[Ho.out];rfl,rfl⟩
 case round=>
  obtain⟨k,m,rfl,rfl,hk,hm,hN,rfl⟩:=hrel;by_cases aN:k<s.size
  ·have dH:(k:Int)<(s.size:Int):=by omega
   have iN:(0:Int)<=(k:Int):=by omega
   obtain⟨c,hc⟩:∃c,c=s[k]:=⟨_,rfl⟩;have yI:(s[k].toNat:Int)=(c.toNat:Int):=by rw[hc]
   have Ld:Hid (o=match Lz.dx c with|none=>none|some d=>if b<=d then none else Lz.bE b (min (m*b+d) 1099511627776) (s.data.toList.drop (k+1))):=by
    show _=_;rw[hN.out,List.drop_eq_getElem_cons (show k<s.data.toList.length by rw[aa];exact aN),IA,hc];rfl
   clear hc hN;cases hv:Lz.dx c with
   | none=>
     have cH:=Ih (Fb hv w);have HO:Hid (o=none):=by show _=_;rw[Ld.out,hv]
     clear hv Ld
     go_wp2_with fail
     refine cH.out.mono ?_;rintro e w1 ⟨rfl,rfl⟩
     go_wp2_with fail
     go_ret2
     rw[HO.out];exact⟨rfl,rfl⟩
   | some d=>
     have cH:=Ih (FP hv w);have hd:=Lz.je c d hv;by_cases hbd:b<=d
     ·have HO:Hid (o=none):=by show _=_;rw[Ld.out,hv];exact if_pos hbd
      have abB:(b:Int)<=(d:Int):=by omega
      clear hv Ld
      go_wp2_with fail
      refine cH.out.mono ?_;rintro e w1 ⟨rfl,rfl⟩
      go_wp2_with fail
      go_ret2
      rw[HO.out];exact⟨rfl,rfl⟩
     ·have HN:Hid (o=Lz.bE b (min (m*b+d) 1099511627776) (s.data.toList.drop (k+1))):=by show _=_;rw[Ld.out,hv];exact if_neg hbd
      have abB:¬(b:Int)<=(d:Int):=by omega
      obtain⟨mb,hmb⟩:∃mb,mb=m*b:=⟨_,rfl⟩;have acs:mb<=1099511627776*16:=by rw[hmb];exact Nat.mul_le_mul hm hb
      have acG:(m:Int)*(b:Int)=(mb:Int):=by rw[hmb];simp
      have iW:IntKind.i64.wrap (mb:Int)=(mb:Int):=IntWalk.i64_in _ (by omega);have oZ:IntKind.i64.wrap ((mb:Int)+(d:Int))=(mb:Int)+(d:Int):=IntWalk.i64_in _ (by omega);rw[<-hmb]at HN;clear hv Ld hmb
      go_wp2_with fail
      refine cH.out.mono ?_;rintro e w1 ⟨rfl,rfl⟩
      go_wp2_with fail
      go_roundw
      case rel=>
       refine⟨k+1,min (mb+d) 1099511627776,by go_num,?_,by omega,Nat.min_le_right _ _,HN,trivial⟩
       go_num
      case measure=>simp[intOf];omega
  ·have dH:¬(k:Int)<(s.size:Int):=by omega
   have HO:Hid (o=some m):=by show _=_;rw[hN.out,List.drop_eq_nil_of_le (by rw[aa];omega)];rfl
   go_wp2_with fail
   go_ret2
   rw[HO.out];exact⟨rfl,rfl⟩
attribute [local go_sem ↓] Go.wp_at_zero Go.wp_at_succ
def aas (s:List UInt8) (w:World) (e:Ending) (w':World):Prop:=e=.returned (.tuple #[.int .i64 (((Lz.bE 10 0 s).getD 0:Nat):Int),.bool (Lz.dX s).isSome])/\Below w.heap.size w w'
theorem om (s:ByteArray) (hs:s.size<=1048576) (w:World) (hE:de w):Calls Tryz.prog 121 #[.string s] w (aas s.data.toList w):=by
 have cD:=fI s 10 (by omega) hs w;obtain⟨o,ho⟩:∃o,o=Lz.bE 10 0 s.data.toList:=⟨_,rfl⟩;rw[<-ho]at cD;have Ho:=Ih ho;clear ho;cases o with
 | none=>
   have CD:=Ih (show Calls Tryz.prog 92 #[.string s,.int .i64 10] w (fun e w'=>e=.returned (.tuple #[.int .i64 0,.bool false])/\w=w')from cD);have HV:Hid (Lz.dX s.data.toList=none):=by show _=_;unfold Lz.dX;rw[<-Ho.out];rfl
   clear cD;have hb:=Below.refl w.heap.size w;go_enter Tryz.func121,Tryz.ntmps121
   go_wp2_with fail
   refine CD.out.mono ?_;rintro e w1 ⟨rfl,rfl⟩
   go_wp2_with fail
   go_ret2
   refine⟨?_,hb⟩;rw[<-Ho.out,HV.out];rfl
 | some n=>
   have CD:=Ih (show Calls Tryz.prog 92 #[.string s,.int .i64 10] w (fun e w'=>e=.returned (.tuple #[.int .i64 (n:Int),.bool true])/\w=w')from cD);clear cD;have hb:=Below.refl w.heap.size w;by_cases Z1:n<=255
   ·have OZ:(n:Int)<=255:=by omega
    have aab:=decide_eq_true OZ;have sX:(0:Int)<=(n:Int):=by omega
    obtain⟨q,hq⟩:∃q:Bool,q=decide (Lib.decDigits n=s.data.toList):=⟨_,rfl⟩
    have HV:Hid ((Lz.dX s.data.toList).isSome=q):=by
     show _=_;unfold Lz.dX;rw[<-Ho.out,hq];show(if n<=255/\Lib.decDigits n=s.data.toList then some n else none).isSome=_;by_cases h:Lib.decDigits n=s.data.toList
     ·rw[if_pos ⟨Z1,h⟩,decide_eq_true h];rfl
     ·rw[if_neg (fun hh=>h hh.2),decide_eq_false h];rfl
    have Hq:=Ih hq;clear hq;go_enter Tryz.func121,Tryz.ntmps121
    go_wp2_with fail
    refine CD.out.mono ?_;rintro e w1 ⟨rfl,rfl⟩
    go_wp2_with fail
    refine(lp (n:Int) (by omega) (by omega) w hE).mono ?_;rintro e w2 ⟨t,rfl,ht,aU⟩
    have abM:(t.toList==s.toList)=q:=by
     rw[Hq.out,Bool.eq_iff_iff,decide_eq_true_eq,beq_iff_eq,Lib.toList_data,Lib.toList_data,ht.out,Lib.itoa_nonneg]
    clear ht
    go_wp2_with fail
    go_ret2
    refine⟨?_,aU⟩;rw[<-Ho.out,HV.out];rfl
   ·have OZ:¬(n:Int)<=255:=by omega
    have aab:=decide_eq_false OZ
    have HV:Hid (Lz.dX s.data.toList=none):=by
     show _=_;unfold Lz.dX;rw[<-Ho.out];exact if_neg (fun h=>Z1 h.1)
    go_enter Tryz.func121,Tryz.ntmps121
    go_wp2_with fail
    refine CD.out.mono ?_;rintro e w1 ⟨rfl,rfl⟩
    go_wp2_with fail
    go_ret2
    refine⟨?_,hb⟩;rw[<-Ho.out,HV.out];rfl
end Go.Proofs.YtlcbhacofagedaaGreatDoor
namespace Lz
open Go
theorem jf (k:UInt8) (l:Bs):∃h t,ag k l=h::t:=by
 cases l with
 | nil=>exact⟨[],[],rfl⟩
 | cons b r=>
   simp only[ag];split
   ·exact⟨_,_,rfl⟩
   ·split
    ·exact⟨_,_,rfl⟩
    ·exact⟨_,_,rfl⟩
theorem mN (k c:UInt8):∀p:Bs,ag k (p++[c])=if c==k then ag k p++[[]]else(ag k p).dropLast++[(ag k p).getLastD []++[c]]
 | []=>by
   show ag k [c]=_;simp only[ag];split<;>rfl
 | b::l=>by
   have ih:=mN k c l;obtain⟨h,t,e⟩:=jf k l;rw[e]at ih;show ag k (b::(l++[c]))=_;by_cases hb:(b==k)=true
   ·rw[ag,if_pos hb,ih,ag,if_pos hb,e];split
    ·rfl
    ·cases t<;>rfl
   ·rw[ag,if_neg hb,ih,ag,if_neg hb,e];by_cases hc:(c==k)=true
    ·rw[if_pos hc,if_pos hc];rfl
    ·rw[if_neg hc,if_neg hc];cases t<;>rfl
theorem B5 {xs:List ByteArray} {m:Nat} {y z:ByteArray} {c:UInt8} (hm:xs.length=m+1) (hy:xs[m]? =some y) (hz:z.data.toList=y.data.toList++[c]):
  (xs.set m z).map (·.data.toList)=(xs.map (·.data.toList)).dropLast++[(xs.map (·.data.toList)).getLastD []++[c]]:=by
 rcases List.eq_nil_or_concat xs with rfl|⟨r,x,rfl⟩
 ·simp at hm
 ·rw[List.concat_eq_append]at hm hy⊢;have hr:m=r.length:=by simp at hm;omega
  subst hr;have hx:x=y:=by simpa using hy
  subst hx
  simp[hz]
end Lz
namespace Go.Proofs.YtlcbhacofagedaaGreatDoor
open Go.RowKit
attribute [local go_sem ↓] Go.wp_at_zero Go.wp_at_succ
theorem jb {s:ByteArray} {j:Nat} (h:j<s.size):(s.extract j (j+1)).data.toList=[s[j]]:=by
 have hg:=aw h;have hl:j<s.data.toList.length:=h;rw[Lib.extract_data,show j+1-j=1 by omega,List.drop_eq_getElem_cons hl];rw[List.getElem?_eq_getElem hl]at hg;rw[Option.some.inj hg];rfl
def Yr (l:List (List UInt8)) (w:World) (e:Ending) (w':World):Prop:=
 ∃(v:Value) (xs:List ByteArray),e=.returned v/\Hid (xs.map (·.data.toList)=l)/\w'.ownsRow w.heap.size 9 1 v xs.length (xs.map Value.string)/\Below w.heap.size w w'
theorem nA (s:ByteArray) (k:UInt8) (hs:s.size<=1000000) (w:World):Calls Tryz.prog 94 #[.string s,.int .u8 (k.toNat:Int)] w (Yr (Lz.ag k s.data.toList) w):=by
 obtain⟨i0,hi,ig,fs,fk⟩:=info_parts tC;have Sy:=d9 k
 have h0:(w.alloc (.cells #[.string ⟨#[]⟩] 9)).ownsRow w.heap.size 9 1 (.slice (some ⟨w.heap.size,0,none⟩) 1 1) 1 (([⟨#[]⟩]:List ByteArray).map Value.string):=
  World.ownsRow_lit w #[.string ⟨#[]⟩] 1 (Nat.le_refl _) (by unfold maxLen;omega) rfl
 have ek:Below w.heap.size w (w.alloc (.cells #[.string ⟨#[]⟩] 9)):=(Below.refl _ w).alloc (Nat.le_refl _) _;have H0:=Ih h0;have lN:=Ih ek;clear h0 ek;go_enter Tryz.func94,Tryz.ntmps94
 go_wp2_with fail
 go_loopw [5,6] (fun v i wr=>∃(j:Nat) (xs:List ByteArray),j<=s.size/\i=.int .i64 j/\Hid (xs.map (·.data.toList)=Lz.ag k (s.data.toList.take j))/\wr.ownsRow w.heap.size 9 1 v xs.length (xs.map Value.string)/\xs.length<=j+1/\(∀x∈xs,x.size<=j)/\Below w.heap.size w wr) (fun _ i _=>s.size-(intOf i).toNat)
 case atStart=>exact⟨0,[⟨#[]⟩],Nat.zero_le _,rfl,Ih rfl,H0.out,Nat.le_refl _,by intro x hx;rw[List.mem_singleton.1 hx];exact Nat.le_refl _,lN.out⟩
 case round=>
  obtain⟨j,xs,hj,rfl,d7,aQ,vR,o7,hb⟩:=hrel;by_cases aN:j<s.size
  ·have dH:(j:Int)<(s.size:Int):=by omega
   have Aj:(0:Int)<=(j:Int):=by omega
   obtain⟨c,hc⟩:∃c,c=s[j]:=⟨_,rfl⟩;have yI:(s[j].toNat:Int)=(c.toNat:Int):=by rw[hc]
   have hst:=Lz.mN k c (s.data.toList.take j);have gE:s.data.toList.take (j+1)=s.data.toList.take j++[c]:=by rw[List.take_add_one,aw aN,<-hc];rfl
   rw[<-gE,<-d7.out]at hst;have fQ:=Ih hst;have WY:=jO c k;have bZ:=Ih aQ;have Wa:=Ih o7;have dV:=hb.size;have Hc:=Ih hc;clear hc gE hst aQ o7;cases hq:(c==k)
   ·rw[hq]at WY;have HN:=Ih hq;clear hq
    have iF:Hid (Lz.ag k (s.data.toList.take (j+1))=(xs.map (·.data.toList)).dropLast++[(xs.map (·.data.toList)).getLastD []++[c]]):=by
     show _=_;rw[fQ.out,HN.out,if_neg (by decide)]
    obtain⟨m,hm⟩:∃m,xs.length=m+1:=by
     obtain⟨h',t,e⟩:=Lz.jf k (s.data.toList.take j);have h:=congrArg List.length d7.out;rw[e,List.length_map,List.length_cons]at h;exact⟨_,h⟩
    obtain⟨y,hy⟩:∃y,xs[m]? =some y:=⟨_,List.getElem?_eq_getElem (by omega)⟩;have Iw:=Wa.out y (List.mem_of_getElem? hy)
    obtain⟨g,cap,rfl⟩:∃g cap,u5=.slice (some ⟨g,0,none⟩) xs.length cap:=by
     rcases bZ.out.2 with⟨_,h0⟩|⟨g,cap,ir,h,_⟩
     ·omega
     ·exact⟨g,cap,h⟩
    have dF:wr.cell? ⟨g,m,none⟩=some (.string y):=by
     rw[bZ.out.cellAt m (by omega),List.getElem?_map,hy];rfl
    have hcD:wr.drew.cell? ⟨g,m,none⟩=some (.string y):=dF;have sD:wr.drew.frozen? ⟨g,m,none⟩=false:=bZ.out.frozenAt m;have lL:=(bZ.out.drew.stored m (.string (y++s.extract j (j+1)))).1;rw[<-List.map_set]at lL;have Dn:=(bZ.out.lt g rfl).1;have VV:(y++s.extract j (j+1)).size<=j+1:=by rw[<-aa,ai,jb aN];simp;omega
    have DC:Hid ((xs.set m (y++s.extract j (j+1))).map (·.data.toList)=Lz.ag k (s.data.toList.take (j+1))):=by
     show _=_;rw[iF.out];exact Lz.B5 hm hy (by rw[ai,jb aN,<-Hc.out])
    have rD:=Ih lL;have iW:IntKind.i64.wrap ((xs.length:Int)-1)=(m:Int):=by rw[show(xs.length:Int)-1=(m:Int) by omega];exact IntWalk.i64_in _ (by omega)
    have wV:(0:Int)<=(m:Int):=by omega
    have Tw:(m:Int)<(xs.length:Int):=by omega
    have ic:¬(9223372036854775807<y.size+(min (j+1) s.size-j)):=by omega
    have oZ:IntKind.i64.wrap ((j:Int)+1)=(j:Int)+1:=IntWalk.i64_in _ (by omega);have Xk:(j:Int)+1<=(s.size:Int):=by omega
    have Ir:(j:Int)<=(j:Int)+1:=by omega
    have hj3:(0:Int)<=(j:Int)+1:=by omega
    have Hm:=Ih hm;have Hy:=Ih hy;clear lL iF hm hy d7 dF
    go_upto_region 7 with fail
    go_still_tail 17,(by kernel_rfl)
    change wpList _ _ _ _ _ wr.drew;have hbD:=hb.drew;generalize wr.drew=w2 at hcD sD rD hbD⊢;generalize y++s.extract j (j+1)=z at DC rD VV⊢
    go_wp2_with fail
    go_roundw
    case rel=>
     refine⟨j+1,xs.set m z,by omega,by go_num,DC.out,?_,by simp;omega,?_,hbD.setCell Dn _⟩
     ·have:=rD.out
      rwa [List.length_set]
     ·intro x hx;rcases List.mem_or_eq_of_mem_set hx with h|h
      ·exact Nat.le_succ_of_le (Wa.out x h)
      ·rw[h];exact VV
    case measure=>simp[intOf];omega
   ·rw[hq]at WY
    have HN:Hid (Lz.ag k (s.data.toList.take (j+1))=(xs++[(⟨#[]⟩:ByteArray)]).map (fun x:ByteArray=>x.data.toList)):=by
     show _=_;rw[fQ.out,hq,if_pos rfl,List.map_append];rfl
    clear hq;have kU:xs.map Value.string++[Value.string ⟨#[]⟩]=(xs++[(⟨#[]⟩:ByteArray)]).map Value.string:=by simp
    have Wz:=Ih kU;clear kU
    go_wp2_with (at_builtin;refine wpList_append_own _ rfl (.tmp 19) (.tmp 20) 23 rfl w.heap.size 9 i0 (.string ⟨#[]⟩) 1 16 Tryz.underlying23 hi ig fs fk rfl (by decide) _ _ _ rfl (bZ.out.alloc _) ⟨wr.heap.size,0,none⟩ 1 1 [.string ⟨#[]⟩] rfl rfl (aY _ _ _) (by simp[Value.oneCell']) (by unfold maxLen;omega) (by omega) (by simp;omega) ?_)
    intro v' w3 aE aV _;have cq:=Below.grown1 hb bZ.out aV dV (Nat.le_refl _);rw[Wz.out]at aE;have ep:=Ih aE;clear aE aV
    go_wp2
    go_roundw
    case rel=>
     refine⟨j+1,xs++[⟨#[]⟩],by omega,by go_num,by show _=_;rw[HN.out],?_,?_,?_,cq⟩
     ·have:=ep.out
      rwa [show(xs++[(⟨#[]⟩:ByteArray)]).length=xs.length+1 by simp]
     ·simp;omega
     ·intro x hx;rcases List.mem_append.1 hx with h|h
      ·exact Nat.le_succ_of_le (Wa.out x h)
      ·rw[List.mem_singleton.1 h];exact Nat.zero_le _
    case measure=>simp[intOf];omega
  ·have jR:j=s.size:=by omega
   have dH:¬(j:Int)<(s.size:Int):=by omega
   have HX:Hid (xs.map (·.data.toList)=Lz.ag k s.data.toList):=by
    show _=_;rw[d7.out,List.take_of_length_le (by rw[aa];omega)]
   have bZ:=Ih aQ;clear aQ jR aN d7
   go_wp2_with fail
   go_ret;exact⟨_,xs,rfl,HX,bZ.out,hb⟩
attribute [local go_sem ↓] Go.wp_at_zero Go.wp_at_succ
theorem lu {w:World} {base TW:Nat} {e:TypeId} {size n:Nat} {v:Value} {xs:List Value} (h:w.ownsRow base e size v n xs) (hb:TW<=base):w.ownsRow TW e size v n xs:=
 ⟨h.1,h.2.imp id (fun⟨g,cap,ir,a,b,c⟩=>⟨g,cap,ir,a,Nat.le_trans hb b,c⟩)⟩
def gC (l:List Nat):List Value:=l.map fun n:Nat=>Value.int .i64 (n:Int)
theorem yw (l:List Nat) (n:Nat):gC l++[.int .i64 (n:Int)]=gC (l++[n]):=by simp[gC]
theorem GR:(Tryz.prog.info? 3).map (fun i=>(i.zero,i.size,i.bytes))=some (some (.int .i64 0),1,8):=by kernel_rfl
def lF (w:World) (b:Nat) (l:List Nat):Prop:=∀(j n:Nat),l[j]? =some n->w.cell? ⟨b,j,none⟩=some (.int .i64 (n:Int))/\w.frozen? ⟨b,j,none⟩=false
theorem lF.set {w:World} {b:Nat} {l:List Nat} (h:lF w b l) (k:Nat) (c:Nat):lF (w.setCell ⟨b,k,none⟩ (.int .i64 (c:Int))) b (l.set k c):=by
 intro j d hd;rw[List.getElem?_set]at hd;by_cases Dt:k=j
 ·subst Dt;rw[if_pos rfl]at hd;split at hd
  ·rename_i aN;obtain⟨h1,h2⟩:=h k _ (List.getElem?_eq_getElem aN);obtain rfl:=Option.some.inj hd;refine⟨?_,?_⟩
   ·exact World.cell?_setCell_same _ _ _ h1
   ·rw[World.frozen?_setCell];exact h2
  ·cases hd
 ·rw[if_neg Dt]at hd;obtain⟨h1,h2⟩:=h j d hd;refine⟨?_,?_⟩
  ·rw[World.cell?_setCell_other _ _ _ _ (by intro e;injection e with _ e2 _;exact Dt e2)];exact h1
  ·rw[World.frozen?_setCell];exact h2
theorem lF.below {w w':World} {b B:Nat} {l:List Nat} (h:lF w b l) (hb:Below B w w') (hB:b<B):lF w' b l:=by
 intro j n hj;obtain⟨h1,h2⟩:=h j n hj;exact⟨(hb.cell (p:=⟨b,j,none⟩) hB).trans h1,(hb.frozen (p:=⟨b,j,none⟩) hB).trans h2⟩
theorem AX (w:World) (T:TypeId):lF (w.alloc (.cells #[.int .i64 0,.int .i64 0,.int .i64 0,.int .i64 0] T)) w.heap.size [0,0,0,0]:=by
 intro j n h;have hz:(#[.int .i64 0,.int .i64 0,.int .i64 0,.int .i64 0]:Array Value)=(gC [0,0,0,0]).toArray:=rfl;have hj:j<4:=(List.getElem?_eq_some_iff.1 h).1;refine⟨?_,?_⟩
 ·rw[World.cell?_alloc_mark,hz];simp only[gC,List.getElem?_toArray,List.getElem?_map,h,Option.map_some]
 ·have hb:(w.alloc (.cells #[.int .i64 0,.int .i64 0,.int .i64 0,.int .i64 0] T)).heap[w.heap.size]? =some (.cells #[.int .i64 0,.int .i64 0,.int .i64 0,.int .i64 0] T):=by
   show(w.heap.push _)[w.heap.size]? =_
   simp
  simp only[World.frozen?,hb]
  simp
theorem mH {y:ByteArray} (hs:y.size<=1048576) (h:Lz.dX y.data.toList=none) (w:World) (hE:de w):Calls Tryz.prog 121 #[.string y] w fun e w'=>(∃z:Nat,e=.returned (.tuple #[.int .i64 (z:Int),.bool false]))/\Below w.heap.size w w':=by
 refine(om y hs w hE).mono ?_;rintro e w' ⟨rfl,hb⟩;refine⟨⟨(Lz.bE 10 0 y.data.toList).getD 0,?_⟩,hb⟩;rw[h];rfl
theorem mP {y:ByteArray} {n:Nat} (hs:y.size<=1048576) (h:Lz.dX y.data.toList=some n) (w:World) (hE:de w):Calls Tryz.prog 121 #[.string y] w fun e w'=>e=.returned (.tuple #[.int .i64 (n:Int),.bool true])/\Below w.heap.size w w':=by
 refine(om y hs w hE).mono ?_;rintro e w' ⟨rfl,hb⟩;refine⟨?_,hb⟩
 have h2:Lz.bE 10 0 y.data.toList=some n:=by
  unfold Lz.dX at h;rw[Option.bind_eq_some_iff]at h;obtain⟨m,hm,hh⟩:=h;split at hh
  ·rw[hm,Option.some.inj hh]
  ·cases hh
 rw[h,h2];rfl
theorem JW (w:World) (v v2:Value) (T:TypeId) (j:Nat) (u:Value) (h:[v,v2][j]? =some u):(w.alloc (.cells #[v,v2] T)).cell? ((⟨w.heap.size,0,none⟩:Addr).add j)=some u:=by
 rw[fa,World.cell?_alloc_mark];simpa using h
theorem MY (vs:List Nat) (k n:Nat) (hk:k<4) (hv:vs.length=k):(vs++List.replicate (4-k) 0).set k n=(vs++[n])++List.replicate (4-(k+1)) 0:=by
 rw[show 4-k=(4-(k+1))+1 by omega,List.replicate_succ,List.set_append_right _ _ (by omega),hv,Nat.sub_self,List.set_cons_zero,List.append_assoc];rfl
def Ym (o:Option (List Nat)) (w:World) (e:Ending) (w':World):Prop:=
 ∃v,e=.returned (.tuple #[v,.bool o.isSome])/\w'.ownsRow w.heap.size 3 1 v (o.getD []).length (gC (o.getD []))/\Below w.heap.size w w'
theorem nt {w wx:World} (hb:Below w.heap.size w wx):Ym none w (.returned (.tuple #[.slice none 0 0,.bool false])) wx:=
 ⟨_,rfl,World.ownsRow_nil wx w.heap.size 3 1,hb⟩
theorem pH (s:ByteArray) (last:Bool) (hs:s.size<=100000) (w:World) (hE:de w):Calls Tryz.prog 89 #[.string s,.bool last] w (Ym (Lz.fy s.data.toList last) w):=by
 obtain⟨i0,hi,ig,fs,fk⟩:=info_parts GR;by_cases hz:s.size=0
 ·have he:=ak hz
  have HS:Hid (Lz.fy s.data.toList last=some []):=by
   show _=_;unfold Lz.fy;rw[if_pos (List.length_eq_zero_iff.1 (show s.data.toList.length=0 by rw[aa];exact hz))]
  go_enter Tryz.func89,Tryz.ntmps89
  go_wp2
  go_ret2
  rw[HS.out];exact⟨_,rfl,World.ownsRow_nil w w.heap.size 3 1,Below.refl _ _⟩
 ·have he:=aj (s:=s) (by omega)
  have HS:Hid (Lz.fy s.data.toList last=Lz.ju last (Lz.ag 58 s.data.toList)):=by
   show _=_;unfold Lz.fy;rw[if_neg];intro h;exact hz (by rw[<-aa,h];rfl)
  have cS:=Ih (nA s 58 (by omega) w);go_enter Tryz.func89,Tryz.ntmps89
  go_wp2_with fail
  refine(cS.out).mono ?_;rintro e w1 ⟨v1,xs,rfl,d7,gS,aC⟩
  have bv:xs.length<=s.size+1:=by
   have h:=Lz.dz 58 s.data.toList;rw[<-d7.out,List.length_map,aa]at h;omega
  have O5:1<=xs.length:=by
   obtain⟨h',t,e⟩:=Lz.jf 58 s.data.toList;have h:=congrArg List.length d7.out;rw[e,List.length_map,List.length_cons]at h;omega
  obtain⟨b1,O8,rfl,Iz,hT⟩:=jj gS O5;have dV:∀x,x∈xs->x.size<=s.size:=fun x hx=>dL d7.out hx;have HT:=Ih hT;have yD:=Ih dV
  have hB:Hid (Lz.fy s.data.toList last=Lz.ju last (xs.map (·.data.toList))):=by
   show _=_;rw[HS.out,d7.out]
  have DD:=aC.size;clear cS hT dV HS d7 he gS;have hst:=World.ownsRow_nil w1 w1.heap.size 3 1
  go_wp2_with fail
  go_loopw [6,8] (fun a i wr=>∃(j:Nat) (ls:List Nat),j<=xs.length/\i=.int .i64 j/\ls.length=j/\Hid (Lz.ju last (xs.map (·.data.toList))=(Lz.ju last ((xs.drop j).map (·.data.toList))).map (ls++·))/\wr.ownsRow w1.heap.size 3 1 a j (gC ls)/\Below w1.heap.size w1 wr) (fun _ i _=>xs.length-(intOf i).toNat)
  case atStart=>exact⟨0,[],Nat.zero_le _,rfl,rfl,by show _=_;simp,hst,Below.refl _ w1⟩
  case round=>
   clear hst;obtain⟨j,ls,hj,rfl,vK,hF,aQ,hb⟩:=hrel;have bi:=ac aC hb;have dV:=hb.size;have bZ:=Ih aQ;by_cases aN:j<xs.length
   ·obtain⟨x,hx⟩:∃x,xs[j]? =some x:=⟨_,List.getElem?_eq_getElem aN⟩;have oY:=(HT.out.below hb).cells _ _ hx;have o7:=yD.out x (List.mem_of_getElem? hx)
    have iS:xs.drop j=x::xs.drop (j+1):=by
     rw[List.drop_eq_getElem_cons aN];congr 1;have:=List.getElem?_eq_getElem aN;rw[hx]at this;exact(Option.some.inj this).symm
    have cX:=Ih (nA x 46 (by omega) wr);have F4:(xs.drop j).map (·.data.toList)=x.data.toList::(xs.drop (j+1)).map (·.data.toList):=by rw[iS];rfl
    have KJ:((xs.drop (j+1)).map (·.data.toList)).isEmpty=decide (j+1=xs.length):=by
     rw[Bool.eq_iff_iff,List.isEmpty_iff,List.map_eq_nil_iff,List.drop_eq_nil_iff,decide_eq_true_eq];omega
    rw[F4]at hF;have ZW:=Ih KJ;clear hx iS aQ F4 KJ
    go_wp2_with fail
    refine(cX.out).mono ?_;rintro e w2 ⟨v2,ys,rfl,jl,eI,aU⟩
    have abc:1<=ys.length:=by
     obtain⟨h',t,e⟩:=Lz.jf 46 x.data.toList;have h:=congrArg List.length jl.out;rw[e,List.length_map,List.length_cons]at h;omega
    obtain⟨b2,acR,rfl,ab1,kp⟩:=jj eI abc;have aaa:∀y,y∈ys->y.size<=x.size:=fun y hy=>dL jl.out hy;have HT2:=Ih kp;have abZ:=Ih aaa;have kj:Below w1.heap.size w1 w2:=ac hb aU;have fw:=ac aC kj;have ft:=Ih (dm bZ.out aU);have ace:w2.cell? ⟨b1,j,none⟩=some (.string x):=by rw[aU.cell (p:=⟨b1,j,none⟩) (World.block_lt_of_cell? _ _ oY)];exact oY
    have vM:=kj.size;have ab7:=fw.size;obtain⟨q,hq⟩:∃q,q=(last&&decide (j+1=xs.length)&&(ys.length==4)):=⟨_,rfl⟩
    have bV:Hid ((last&&((xs.drop (j+1)).map (·.data.toList)).isEmpty&&(Lz.ag 46 x.data.toList).length==4)=q):=by
     show _=_;rw[ZW.out,hq,<-jl.out,List.length_map]
    have Hq:=Ih hq;clear kp aaa eI cX hq ZW aU oY bZ dV bi
    go_upto_region 9 with fail
    go_cut [43] (fun s43 wx=>s43=.bool q/\w2=wx)
    case first=>
     cases last
     ·have HQ:Hid (q=false):=by show _=_;rw[Hq.out];rfl
      go_wp2_with fail
      go_meet;exact⟨by rw[HQ.out],rfl⟩
     ·by_cases sC:j+1=xs.length
      ·have Wr:((j:Int)==(xs.length:Int)-1)=true:=by simp;omega
       have HQ:Hid (q=(ys.length==4)):=by show _=_;rw[Hq.out,decide_eq_true sC];rfl
       have h4:((ys.length:Int)==4)=(ys.length==4):=by rw[Bool.eq_iff_iff];simp;omega
       go_wp2_with fail
       go_meet;exact⟨by rw[HQ.out],rfl⟩
      ·have Wr:((j:Int)==(xs.length:Int)-1)=false:=by simp;omega
       have HQ:Hid (q=false):=by show _=_;rw[Hq.out,decide_eq_false sC];simp
       go_wp2_with fail
       go_meet;exact⟨by rw[HQ.out],rfl⟩
    case rest=>
     obtain⟨rfl,rfl⟩:=hcut;cases q
     ·have gU:=Lz.Nw bV.out;obtain⟨o,ho⟩:∃o,o=Lz.bE 16 0 x.data.toList:=⟨_,rfl⟩
      have hpc:Lz.ka x.data.toList=if x.size=0\/4<x.size then none else o:=by
       unfold Lz.ka;rw[ho,aa];have:(x.data.toList=[])↔x.size=0:=by rw[<-aa,List.length_eq_zero_iff]
       simp only[this]
      rw[hpc]at gU
      have d6:Hid (Lz.fy s.data.toList last=(match (if x.size=0\/4<x.size then none else o)with|none=>none|some n=>(Lz.ju last ((xs.drop (j+1)).map (fun x:ByteArray=>x.data.toList))).map (n::·)).map (ls++·)):=by
       show _=_
       (rw[hB.out,hF.out,gU])<;>(generalize (if x.size=0\/4<x.size then none else o)=oo;cases oo<;>rfl)
      have Lm:Hid (Lz.ju last (xs.map (·.data.toList))=(match (if x.size=0\/4<x.size then none else o)with|none=>none|some n=>(Lz.ju last ((xs.drop (j+1)).map (fun x:ByteArray=>x.data.toList))).map (n::·)).map (ls++·)):=by
       show _=_
       (rw[hF.out,gU])<;>(generalize (if x.size=0\/4<x.size then none else o)=oo;cases oo<;>rfl)
      have cD:=fI x 16 (by omega) (by omega) w2;rw[<-ho]at cD;have hol:∀n,o=some n->n<=1099511627776:=fun n hn=>Lz.Ah 16 x.data.toList 0 n (by omega) (by rw[<-ho];exact hn);have Hol:=Ih hol;clear gU hpc bV Hq ho hF jl hol;cases o with
      | none=>
        have CD:=Ih (show Calls Tryz.prog 92 #[.string x,.int .i64 16] w2 (fun e w'=>e=.returned (.tuple #[.int .i64 0,.bool false])/\w2=w')from cD)
        have HN:Hid (Lz.fy s.data.toList last=none):=by
         show _=_;rw[d6.out,ite_self];rfl
        clear cD d6 Lm
        go_wp2_with fail
        refine CD.out.mono ?_;rintro e w3 ⟨rfl,rfl⟩
        go_wp2_with fail
        go_ret2
        rw[HN.out];exact nt fw
      | some n=>
        have CD:=Ih (show Calls Tryz.prog 92 #[.string x,.int .i64 16] w2 (fun e w'=>e=.returned (.tuple #[.int .i64 (n:Int),.bool true])/\w2=w')from cD);clear cD;by_cases j8:x.size=0\/4<x.size
        ·have HN:Hid (Lz.fy s.data.toList last=none):=by
          show _=_;rw[d6.out,if_pos j8];rfl
         clear d6 Lm;rcases j8 with j8|j8
         ·have ZD:(x.size:Int)<1:=by omega
          have Hx0:=Ih j8;clear j8
          go_wp2_with fail
          refine CD.out.mono ?_;rintro e w3 ⟨rfl,rfl⟩
          go_wp2_with fail
          go_ret2
          rw[HN.out];exact nt fw
         ·have abG:¬(x.size:Int)<1:=by omega
          have ZD:4<(x.size:Int):=by omega
          go_wp2_with fail
          refine CD.out.mono ?_;rintro e w3 ⟨rfl,rfl⟩
          go_wp2_with fail
          go_ret2
          rw[HN.out];exact nt fw
        ·have abG:¬(x.size:Int)<1:=by omega
         have ZD:¬4<(x.size:Int):=by omega
         have hF3:Hid (Lz.ju last (xs.map (·.data.toList))=(Lz.ju last ((xs.drop (j+1)).map (·.data.toList))).map ((ls++[n])++·)):=by
          show _=_;rw[Lm.out,if_neg j8];simp only;cases Lz.ju last ((xs.drop (j+1)).map (·.data.toList))<;>simp
         clear d6 Lm j8
         go_wp2_with fail
         refine CD.out.mono ?_;rintro e w3 ⟨rfl,rfl⟩
         go_wp2_with (at_builtin;refine wpList_append_own _ rfl (.tmp 102) (.tmp 104) 95 rfl w1.heap.size 3 i0 (.int .i64 0) 1 8 Tryz.underlying95 hi ig fs fk rfl (by decide) _ _ _ rfl (ft.out.alloc _) ⟨w2.heap.size,0,none⟩ 1 1 [.int .i64 (n:Int)] rfl rfl (aY _ _ _) (by simp[Value.oneCell']) (by unfold maxLen;omega) (by omega) (by simp;omega) ?_)
         intro v' w4 aE aV _;have ex:Below w1.heap.size w1 w4:=Below.grown1 kj ft.out aV vM (Nat.le_refl _);rw[yw]at aE;have fR:=Ih aE;clear aE aV
         go_wp2
         go_roundw
         case rel=>exact⟨j+1,ls++[n],by omega,by go_num,by simp[vK],hF3.out,fR.out,ex⟩
         case measure=>simp[intOf];omega
     ·have gU:=Lz.IH bV.out
      have h4:ys.length=4:=by
       have h:=Hq.out;cases hh:(ys.length==4)
       ·rw[hh]at h;simp at h
       ·simpa using hh
      have HR:Hid (Lz.fy s.data.toList last=(((ys.map (fun y:ByteArray=>y.data.toList)).mapM Lz.dX).map fun b=>[b.getD 0 0*256+b.getD 1 0,b.getD 2 0*256+b.getD 3 0]).map (ls++·)):=by
       show _=_;rw[hB.out,hF.out,gU,<-jl.out]
      have Hi4:=Ih (AX w2 142);have H4:=Ih h4;have sS:=HT2.out.lt;clear gU h4 bV jl hF hB Hq
      go_wp2_with fail
      go_loopw [11] (fun k wr2=>∃(k':Nat) (vs:List Nat),k'<=4/\k=.int .i64 k'/\vs.length=k'/\Hid (∀n∈vs,n<=255)/\Hid ((ys.map (fun y:ByteArray=>y.data.toList)).mapM Lz.dX=(((ys.drop k').map (fun y:ByteArray=>y.data.toList)).mapM Lz.dX).map (vs++·))/\lF wr2 w2.heap.size (vs++List.replicate (4-k') 0)/\Below w2.heap.size w2 wr2) (fun k _=>4-(intOf k).toNat)
      case atStart=>exact⟨0,[],Nat.zero_le _,rfl,rfl,Ih (by simp),by show _=_;simp,Hi4.out,(Below.refl _ w2).alloc (Nat.le_refl _) _⟩
      case round=>
       clear Hi4;obtain⟨k',vs,hk',rfl,yz,XD,hD,bN,cq⟩:=hrel;have iO:=ac fw cq;have OF:=hE.below iO;by_cases VR:k'<4
       ·obtain⟨y,hy⟩:∃y,ys[k']? =some y:=⟨_,List.getElem?_eq_getElem (by rw[H4.out];exact VR)⟩;have hcy:=(HT2.out.below cq).cells _ _ hy;have Iw:=abZ.out y (List.mem_of_getElem? hy);have Lr:k'<ys.length:=by rw[H4.out];exact VR
        have TC:(k':Int)<4:=by omega
        have iN:(0:Int)<=(k':Int):=by omega
        have iS:ys.drop k'=y::ys.drop (k'+1):=by
         rw[List.drop_eq_getElem_cons Lr];congr 1;have:=List.getElem?_eq_getElem Lr;rw[hy]at this;exact(Option.some.inj this).symm
        rw[iS,List.map_cons,Lz.xu]at hD;cases ho:Lz.dX y.data.toList with
        | none=>
          have cD:=Ih (mH (y:=y) (by omega) ho wr OF)
          have HN:Hid (Lz.fy s.data.toList last=none):=by
           show _=_;rw[HR.out,hD.out,ho];rfl
          clear ho hD HR bN hy iS
          go_wp2_with fail
          refine cD.out.mono ?_;rintro e w4 ⟨⟨z,rfl⟩,ex⟩
          go_wp2_with fail
          go_ret2
          rw[HN.out];exact nt (ac iO ex)
        | some n=>
          have cD:=Ih (mP (y:=y) (by omega) ho wr OF);have Z2:=Lz.GM ho
          have yF:Hid ((ys.map (fun y:ByteArray=>y.data.toList)).mapM Lz.dX=(((ys.drop (k'+1)).map (fun y:ByteArray=>y.data.toList)).mapM Lz.dX).map ((vs++[n])++·)):=by
           show _=_;rw[hD.out,ho];simp only;cases ((ys.drop (k'+1)).map (fun y:ByteArray=>y.data.toList)).mapM Lz.dX<;>simp
          obtain⟨Z0,_⟩:=bN k' 0 (by rw[List.getElem?_append_right (by omega),yz,Nat.sub_self,show 4-k'=(4-(k'+1))+1 by omega,List.replicate_succ];rfl);have hRl:=World.block_lt_of_cell? _ _ Z0;have On:=Ih bN;clear ho hD bN hy iS Z0
          go_wp2_with fail
          refine cD.out.mono ?_;rintro e w4 ⟨rfl,ex⟩;have Og:=On.out.below ex hRl;have SM:Below w2.heap.size w2 w4:=ac cq ex;obtain⟨hc4,hf4⟩:=Og k' 0 (by rw[List.getElem?_append_right (by omega),yz,Nat.sub_self,show 4-k'=(4-(k'+1))+1 by omega,List.replicate_succ];rfl);have lL:=Og.set k' n;rw[MY vs k' n VR yz]at lL;have rD:=Ih lL;clear lL Og
          go_wp2_with fail
          go_roundw
          case rel=>
           refine⟨k'+1,vs++[n],by omega,by go_num,by simp[yz],Ih ?_,yF.out,rD.out,SM.setCell (Nat.le_refl _) _⟩;intro m hm;rcases List.mem_append.1 hm with h|h
           ·exact XD.out m h
           ·rw[List.mem_singleton.1 h];exact Z2
          case measure=>simp[intOf];omega
       ·have SB:k'=4:=by omega
        have TC:¬(k':Int)<4:=by omega
        obtain⟨a,b,c,d,rfl⟩:=Lz.rh (yz.trans SB)
        have qF:lF wr w2.heap.size [a,b,c,d]:=by
         have:=bN;rw[SB]at this;simpa using this
        obtain⟨Xy,_⟩:=qF 0 a rfl;obtain⟨Pe,_⟩:=qF 1 b rfl;obtain⟨hcc,_⟩:=qF 2 c rfl;obtain⟨hcd,_⟩:=qF 3 d rfl;have Ls:=XD.out a (by simp);have qy:=XD.out b (by simp);have Pn:=XD.out c (by simp);have hbd:=XD.out d (by simp)
        have HF:Hid (Lz.fy s.data.toList last=some (ls++[a*256+b,c*256+d])):=by
         show _=_;rw[HR.out,hD.out,SB,List.drop_eq_nil_of_le (by rw[H4.out];exact Nat.le_refl _)];rfl
        have vG:IntKind.i64.wrap ((a:Int)*256)=(a:Int)*256:=IntWalk.i64_in _ (by omega);have rF:IntKind.i64.wrap ((c:Int)*256)=(c:Int)*256:=IntWalk.i64_in _ (by omega);have oV:IntKind.i64.wrap ((a:Int)*256+(b:Int))=((a*256+b:Nat):Int):=by rw[show(a:Int)*256+(b:Int)=((a*256+b:Nat):Int) by omega];exact IntWalk.i64_in _ (by omega)
        have FQ:IntKind.i64.wrap ((c:Int)*256+(d:Int))=((c*256+d:Nat):Int):=by rw[show(c:Int)*256+(d:Int)=((c*256+d:Nat):Int) by omega];exact IntWalk.i64_in _ (by omega)
        obtain⟨z1,KV⟩:∃z,z=a*256+b:=⟨_,rfl⟩;obtain⟨z2,K9⟩:∃z,z=c*256+d:=⟨_,rfl⟩;rw[<-KV]at oV;rw[<-K9]at FQ;rw[<-KV,<-K9]at HF;have ep:=Ih (dm ft.out cq);have rI:Below w1.heap.size w1 wr:=ac kj cq;have F3:=rI.size;clear SB bN qF hD HR KV K9 XD yz VR
        go_wp2_with (at_builtin;refine wpList_append_own _ rfl (.tmp 61) (.tmp 74) 95 rfl w1.heap.size 3 i0 (.int .i64 0) 1 8 Tryz.underlying95 hi ig fs fk rfl (by decide) _ _ _ rfl (ep.out.alloc _) ⟨wr.heap.size,0,none⟩ 2 2 [.int .i64 (z1:Int),.int .i64 (z2:Int)] rfl rfl (JW _ _ _ _) (by simp[Value.oneCell']) (by unfold maxLen;omega) (by omega) (by simp;omega) ?_)
        intro v' w4 aE aV _;have ex:Below w1.heap.size w1 w4:=Below.grown1 rI ep.out aV F3 (Nat.le_refl _);have fR:=Ih aE;clear aE aV
        go_wp2
        go_ret2
        rw[HF.out];refine⟨_,rfl,?_,ac aC ex⟩;have h5:=lu fR.out DD;rw[show gC ls++[.int .i64 (z1:Int),.int .i64 (z2:Int)]=gC (ls++[z1,z2]) by simp[gC],show j+2=(ls++[z1,z2]).length by simp[vK]]at h5;exact h5
   ·have jR:j=xs.length:=by omega
    have HR:Hid (Lz.fy s.data.toList last=some ls):=by
     show _=_;rw[hB.out,hF.out,jR,List.drop_length]
     simp[Lz.ju]
    have sW:¬j<xs.length:=aN;clear aN jR aQ hF
    go_wp2
    go_ret2
    rw[HR.out];exact⟨_,rfl,by rw[Option.getD_some,vK];exact lu bZ.out DD,bi⟩
end Go.Proofs.YtlcbhacofagedaaGreatDoor
