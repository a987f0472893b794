/-
  Hand moves through a region that draws its order.
-/
import Derived.Test.YtibcmemcfjhgmaaGreatDoorV08
import Derived.Deep.RegionHeld3
namespace Lz
open Go
def iD (d:Nat):UInt8:=if d<10 then UInt8.ofNat (48+d)else UInt8.ofNat (87+d)
theorem JU:∀d:Fin 16,iC (iD d.val)=some d.val:=by decide +kernel
theorem CO {d:Nat} (h:d<16):iC (iD d)=some d:=JU ⟨d,h⟩
theorem jV {n:Nat} (h:n<16):gW n=[iD n]:=by
 rw[gW,dif_pos h,Nat.mod_eq_of_lt h];unfold iD;rfl
theorem qv {n:Nat} (h:¬n<16):gW n=gW (n / 16)++[iD (n%16)]:=by
 rw[gW,dif_neg h];unfold iD;rfl
def pd (c:UInt8):Bool:=aQ c||(97<=c&&c<=102)
theorem Me:∀d:Fin 16,pd (iD d.val)=true:=by decide +kernel
theorem Iv {d:Nat} (h:d<16):pd (iD d)=true:=Me ⟨d,h⟩
theorem vG (n:Nat):∀c∈gW n,pd c=true:=by
 induction n using Nat.strongRecOn with
 | ind n ih=>
   by_cases h:n<16
   ·rw[jV h];intro c hc;rw[List.mem_singleton]at hc;rw[hc];exact Iv h
   ·rw[qv h];intro c hc;rcases List.mem_append.1 hc with hc|hc
    ·exact ih (n / 16) (by omega) c hc
    ·rw[List.mem_singleton]at hc;rw[hc];exact Iv (by omega)
theorem nJ (n:Nat):gW n≠[]:=by
 rw[gW];simp
theorem uC (k:Nat):∀n,n<16^(k+1)->(gW n).length<=k+1:=by
 induction k with
 | zero=>intro n h;rw[jV (by simpa using h)];simp
 | succ k ih=>
   intro n h;by_cases h1:n<16
   ·rw[jV h1];simp
   ·rw[qv h1];have:=ih (n / 16) (by rw[Nat.pow_succ]at h;omega);simp only[List.length_append,List.length_singleton];omega
def xb (n:Nat) (c:UInt8):Option Nat:=(iC c).map (n*16+·)
theorem JQ (n:Nat):(gW n).foldlM xb 0=some n:=by
 induction n using Nat.strongRecOn with
 | ind n ih=>
   by_cases h:n<16
   ·rw[jV h]
    simp[List.foldlM_cons,xb,CO h]
   ·rw[qv h,List.foldlM_append,ih (n / 16) (by omega)];simp only[Option.bind_eq_bind,Option.bind_some,List.foldlM_cons,List.foldlM_nil,xb,CO (show n%16<16 by omega),Option.map_some];show some _=_;congr 1;omega
theorem F3 {n:Nat} (h:n<65536):gM (gW n)=some n:=by
 unfold gM;have hl:=uC 3 n (by simpa using h);rw[if_neg]
 ·exact JQ n
 ·rintro(h1|h1)
  ·exact nJ n h1
  ·omega
theorem xZ:∀c:UInt8,∀d,iC c=some d->d<16:=by
 intro c;revert c;have:∀c:UInt8,(match iC c with|some d=>decide (d<16)|none=>true)=true:=aA (by decide +kernel);intro c d h;have:=this c;rw[h]at this;simpa using this
theorem Rh {l:Bs}:∀{n m:Nat},l.foldlM xb n=some m->m<(n+1)*16^l.length:=by
 induction l with
 | nil=>intro n m h;simp at h;simp;omega
 | cons c r ih=>
   intro n m h;rw[List.foldlM_cons]at h;unfold xb at h;cases hc:iC c with
   | none=>rw[hc]at h;cases h
   | some d=>
     rw[hc]at h;have hd:=xZ c d hc;have h2:=ih (n:=n*16+d) h;rw[List.length_cons,Nat.pow_succ];have:(n*16+d+1)*16^r.length<=((n+1)*16)*16^r.length:=Nat.mul_le_mul_right _ (by omega);rw[Nat.mul_comm (16^r.length) 16,<-Nat.mul_assoc];omega
theorem JW {x:Bs} {n:Nat} (h:gM x=some n):n<65536:=by
 unfold gM at h;split at h
 ·cases h
 ·rename_i hx;have h2:=Rh (l:=x) (n:=0) (m:=n) h;have:(16:Nat)^x.length<=16^4:=Nat.pow_le_pow_right (by omega) (by omega);omega
theorem rM (k:UInt8):∀l:Bs,(∀c∈l,c≠k)->aD k l=[l]
 | [],_=>rfl
 | c::l,h=>by
   rw[aD,if_neg (by simpa using h c (by simp)),rM k l (fun x hx=>h x (by simp[hx]))]
theorem uT (k:UInt8):∀(a b:Bs),(∀c∈a,c≠k)->aD k (a++k::b)=a::aD k b
 | [],b,_=>by simp[aD]
 | c::a,b,h=>by
   show aD k (c::(a++k::b))=_;rw[aD,if_neg (by simpa using h c (by simp)),uT k a b (fun x hx=>h x (by simp[hx]))]
theorem mw (k:UInt8):∀ls:List Bs,ls≠[]->(∀x∈ls,∀c∈x,c≠k)->aD k (fE [k] ls)=ls
 | [],h,_=>absurd rfl h
 | [x],_,h=>by rw[fE];exact rM k x (h x (by simp))
 | x::y::r,_,h=>by
   rw[fE,List.append_assoc,List.singleton_append,uT k x _ (h x (by simp)),mw k (y::r) (by simp) (fun z hz=>h z (by simp[hz]))]
theorem rp {sep:Bs}:∀{ls:List Bs} {c:UInt8},c∈fE sep ls->c∈sep\/∃x∈ls,c∈x
 | [],c,h=>by simp[fE]at h
 | [x],c,h=>Or.inr ⟨x,by simp,h⟩
 | x::y::r,c,h=>by
   rw[fE]at h;rcases List.mem_append.1 h with h|h
   ·rcases List.mem_append.1 h with h|h
    ·exact Or.inr ⟨x,by simp,h⟩
    ·exact Or.inl h
   ·rcases rp h with h|⟨z,hz,hc⟩
    ·exact Or.inl h
    ·exact Or.inr ⟨z,by simp[hz],hc⟩
theorem uw {sep:Bs}:∀{ls:List Bs},ls≠[]->(∀x∈ls,x≠[])->fE sep ls≠[]
 | [],h,_=>absurd rfl h
 | [x],_,h=>h x (by simp)
 | x::y::r,_,h=>by
   rw[fE];have:=h x (by simp);cases x with
   | nil=>exact absurd rfl this
   | cons a b=>simp
theorem E7:∀c:UInt8,pd c=true->c≠58/\c≠46:=aA (by decide +kernel)
theorem la (n:Nat):∀c∈gW n,c≠58/\c≠46:=fun c hc=>E7 c (vG n c hc)
theorem Da (last:Bool):∀l:List Nat,(∀n∈l,n<65536)->je last (l.map gW)=some l
 | [],_=>rfl
 | n::l,h=>by
   have h46:(gW n).contains 46=false:=by
    rw[Bool.eq_false_iff];intro hc;exact(la n 46 (List.contains_iff_mem.1 hc)).2 rfl
   rw[List.map_cons,je,h46,F3 (h n (by simp)),Da last l (fun m hm=>h m (by simp[hm]))]
   simp
theorem ph (last:Bool) (l:List Nat) (h:∀n∈l,n<65536):gL (bW l) last=some l:=by
 unfold gL;by_cases hl:l=[]
 ·rw[hl];rfl
 ·have du:bW l≠[]:=by
   unfold bW;exact uw (by simpa using hl) (by intro x hx;obtain⟨n,_,rfl⟩:=List.mem_map.1 hx;exact nJ n)
  rw[if_neg du];unfold bW;rw[mw 58 _ (by simpa using hl) (by intro x hx c hc;obtain⟨n,_,rfl⟩:=List.mem_map.1 hx;exact(la n c hc).1)];exact Da last l h
def dU:Bs->Bool
 | []=>true
 | [c]=>c != 58
 | c::d::r=>(c != 58||d != 58)&&dU (d::r)
theorem lr:∀(a b:Bs),dU a=true->Lib.index (a++58::58::b) [58,58]=a.length
 | [],b,_=>by rw[List.nil_append,show(58::58::b:Bs)=[58,58]++b from rfl,F8 _ _ (by simp)];rfl
 | [c],b,h=>by
   have hc:c≠58:=by simpa [dU]using h
   show Lib.index (c::([]++58::58::b)) [58,58]=_;rw[mb hc,lr [] b rfl];rfl
 | c::d::r,b,h=>by
   simp only[dU,Bool.and_eq_true,Bool.or_eq_true,bne_iff_ne]at h;have ih:=lr (d::r) b h.2
   have hp:([58,58]:Bs).isPrefixOf (c::d::(r++58::58::b))=false:=by
    rw[Bool.eq_false_iff];intro hh;simp only[List.isPrefixOf,Bool.and_eq_true,beq_iff_eq]at hh;rcases h.1 with h1|h1
    ·exact h1 hh.1.symm
    ·exact h1 hh.2.1.symm
   show Lib.index (c::d::(r++58::58::b)) [58,58]=_;rw[Lib.index,hp];simp only[Bool.false_eq_true,if_false];rw[show(d::(r++58::58::b):Bs)=(d::r)++58::58::b from rfl,ih];rw[if_neg (by simp;omega)]
   simp
theorem kl:∀(a:Bs),dU a=true->Lib.index a [58,58]= -1
 | [],_=>rfl
 | [c],h=>by
   have hc:c≠58:=by simpa [dU]using h
   rw[mb hc];rfl
 | c::d::r,h=>by
   simp only[dU,Bool.and_eq_true,Bool.or_eq_true,bne_iff_ne]at h;have ih:=kl (d::r) h.2
   have hp:([58,58]:Bs).isPrefixOf (c::d::r)=false:=by
    rw[Bool.eq_false_iff];intro hh;simp only[List.isPrefixOf,Bool.and_eq_true,beq_iff_eq]at hh;rcases h.1 with h1|h1
    ·exact h1 hh.1.symm
    ·exact h1 hh.2.1.symm
   rw[Lib.index,hp];simp only[Bool.false_eq_true,if_false];rw[ih];rfl
theorem we:∀(x b:Bs),(∀c∈x,c≠58)->x≠[]->dU b=true->b.head? ≠some 58->dU (x++b)=true
 | [],_,_,h,_,_=>absurd rfl h
 | [c],[],h,_,_,_=>by simpa [dU]using h c (by simp)
 | [c],d::r,h,_,hb,_=>by
   show dU (c::d::r)=true;rw[dU,hb];simpa using Or.inl (h c (by simp))
 | c::d::r,b,h,_,hb,hh=>by
   show dU (c::d::(r++b))=true;rw[dU,show(d::(r++b):Bs)=(d::r)++b from rfl,we (d::r) b (fun z hz=>h z (by simp[hz])) (by simp) hb hh];simpa using Or.inl (h c (by simp))
theorem vl:∀(x b:Bs),(∀c∈x,c≠58)->x≠[]->dU b=true->b≠[]->b.head? ≠some 58->dU (x++58::b)=true
 | [],_,_,h,_,_,_=>absurd rfl h
 | [c],[],_,_,_,h,_=>absurd rfl h
 | [c],d::r,h,_,hb,_,hh=>by
   show dU (c::58::d::r)=true;have hd:d≠58:=by simpa using hh
   rw[dU,dU,hb]
   simp[h c (by simp),hd]
 | c::d::r,b,h,_,hb,hn,hh=>by
   show dU (c::d::(r++58::b))=true;rw[dU,show(d::(r++58::b):Bs)=(d::r)++58::b from rfl,vl (d::r) b (fun z hz=>h z (by simp[hz])) (by simp) hb hn hh];simpa using Or.inl (h c (by simp))
theorem yX (l:List Nat):(bW l).head? ≠some 58:=by
 unfold bW
 match l with
 | []=>simp[fE]
 | [n]=>
   show(gW n).head? ≠_;intro h;cases hx:gW n with
   | nil=>rw[hx]at h;cases h
   | cons c r=>rw[hx]at h;exact(la n c (by rw[hx];simp)).1 (by simpa using h)
 | n::m::r=>
   show(gW n++[58]++_).head? ≠_;intro h;cases hx:gW n with
   | nil=>exact nJ n hx
   | cons c r=>rw[hx]at h;exact(la n c (by rw[hx];simp)).1 (by simpa using h)
theorem GK {l:List Nat} (h:l≠[]):bW l≠[]:=by
 unfold bW;exact uw (by simpa using h) (by intro x hx;obtain⟨n,_,rfl⟩:=List.mem_map.1 hx;exact nJ n)
theorem vV:∀l:List Nat,dU (bW l)=true
 | []=>rfl
 | [n]=>by
   have:=we (gW n) [] (fun c hc=>(la n c hc).1) (nJ n) rfl (by simp);rw[List.append_nil]at this;exact this
 | n::m::r=>by
   show dU (gW n++[58]++bW (m::r))=true;rw[List.append_assoc,List.singleton_append];exact vl _ _ (fun c hc=>(la n c hc).1) (nJ n) (vV (m::r)) (GK (by simp)) (yX _)
theorem MQ (l r:List Nat):Lib.cut (bW l++[58,58]++bW r) [58,58]=(bW l,bW r,true):=by
 have h:=lr (bW l) (bW r) (vV l);unfold Lib.cut;rw[show bW l++[58,58]++bW r=bW l++58::58::bW r by simp,h];rw[if_pos (by omega)]
 simp
theorem MN (l:List Nat):Lib.cut (bW l) [58,58]=(bW l,[],false):=v9 _ _ (kl _ (vV l))
def N3 (a:List Nat) (f:Nat×Nat):Prop:=f=(0,0)\/(f.1+2<=f.2/\f.2<=a.length/\∀k,f.1<=k->k<f.2->a[k]? =some 0)
theorem Jl (l:List Nat):dS l<=l.length/\∀k,k<dS l->l[k]? =some 0:=by
 unfold dS
 induction l with
 | nil=>simp
 | cons x r ih=>
   rw[List.takeWhile_cons];by_cases h:x=0
   ·simp only[h,beq_self_eq_true,if_true,List.length_cons];refine⟨by omega,fun k hk=>?_⟩;cases k with
    | zero=>rfl
    | succ k=>simpa using ih.2 k (by omega)
   ·simp[h]
theorem Vm (a:List Nat):∀(n i:Nat) (f:Nat×Nat),a.length-i=n->N3 a f->N3 a (gV i (a.drop i) f):=by
 intro n
 induction n with
 | zero=>intro i f hn hf;rw[List.drop_eq_nil_of_le (by omega)];exact hf
 | succ n ih=>
   intro i f hn hf;have hi:i<a.length:=by omega
   have hd:=List.drop_eq_getElem_cons hi;rw[hd,gV,<-hd];refine ih (i+1) _ (by omega) ?_;split
   ·rename_i hm;have hz:=Jl (a.drop i);rw[List.length_drop]at hz;refine Or.inr ⟨by show i+2<=i+dS _;omega,by show i+dS _<=_;omega,fun k h1 h2=>?_⟩;have:=hz.2 (k-i) (by show k-i<dS _;have:k<i+dS (a.drop i):=h2;have:i<=k:=h1;omega);rw[List.getElem?_drop,show i+(k-i)=k by have:i<=k:=h1;omega]at this;exact this
   ·exact hf
theorem Ix (a:List Nat):N3 a (gV 0 a (0,0)):=by
 have:=Vm a _ 0 (0,0) rfl (Or.inl rfl)
 rwa [List.drop_zero]at this
theorem ME (a:List Nat) (h8:a.length=8) (hl:∀n∈a,n<65536):jw (eN a)=some a:=by
 unfold eN;have hr:=Ix a;generalize gV 0 a (0,0)=f at hr⊢;obtain⟨f,t⟩:=f;by_cases he:f=t
 ·rw[if_pos he];unfold jw;rw[MN]
  have du:(bW a).isEmpty=false:=by
   rw[List.isEmpty_eq_false_iff];exact GK (by intro h;rw[h]at h8;cases h8)
  simp only[du,ph _ a hl,show gL [] true=some []from rfl,List.append_nil,List.length_nil,Nat.add_zero,h8,Lib.hasPrefix]
  simp
 ·rcases hr with hr|⟨h1,h2,h3⟩
  ·exact absurd (by injection hr with a b;rw[a,b]) he
  ·simp only at h1 h2 h3;rw[if_neg (by exact he)];unfold jw;rw[MQ]
   have hp:Lib.hasPrefix (bW (a.drop t)) [58]=false:=by
    rw[Bool.eq_false_iff];intro hh;unfold Lib.hasPrefix at hh;have:=yX (a.drop t);cases hx:bW (a.drop t)with
    | nil=>rw[hx]at hh;cases hh
    | cons c r=>rw[hx]at hh this;simp[List.isPrefixOf]at hh;exact this (by simp[hh])
   simp only[hp,ph _ (a.take f) (fun n hn=>hl n (List.mem_of_mem_take hn)),ph _ (a.drop t) (fun n hn=>hl n (List.mem_of_mem_drop hn))];simp only[Bool.not_true,Bool.false_and,Bool.or_self,Bool.false_eq_true,if_false,if_true,List.length_take,List.length_drop];rw[if_neg (by omega)];congr 1
   apply List.ext_getElem?
   intro k;by_cases hk:k<f
   ·rw[List.append_assoc,List.getElem?_append_left (by simp;omega),List.getElem?_take,if_pos hk]
   ·rw[List.append_assoc,List.getElem?_append_right (by simp;omega)];by_cases Xe:k<t
    ·rw[List.getElem?_append_left (by simp;omega),List.getElem?_replicate,if_pos (by simp;omega),h3 k (by omega) Xe]
    ·rw[List.getElem?_append_right (by simp;omega),List.getElem?_drop];congr 1
     simp;omega
theorem yA {x:Bs} {l:List Nat} (h:gJ x=some l):l.length=4/\∀n∈l,n<256:=by
 unfold gJ at h;cases hm:(aD 46 x).mapM kx with
 | none=>rw[hm]at h;cases h
 | some m=>
   rw[hm]at h
   have:∀(xs:List Bs) (m:List Nat),xs.mapM kx=some m->∀n∈m,n<256:=by
    intro xs
    induction xs with
    | nil=>intro m h n hn;simp at h;rw[h]at hn;cases hn
    | cons x r ih=>
      intro m h n hn;rw[List.mapM_cons]at h;cases hx:kx x with
      | none=>rw[hx]at h;cases h
      | some v=>
        rw[hx]at h;cases hr:r.mapM kx with
        | none=>rw[hr]at h;cases h
        | some ms=>
          rw[hr]at h;have h:some (v::ms)=some m:=h;injection h with h
          rw[<-h]at hn;rcases List.mem_cons.1 hn with rfl|hn
          ·unfold kx at hx;split at hx
           ·rename_i u hu;have:=Lib.parseUintB_le hu;split at hx
            ·injection hx with hx;omega
            ·cases hx
           ·cases hx
          ·exact ih ms hr n hn
   simp only at h;split at h
   ·injection h with h;rw[<-h];exact⟨by assumption,this _ _ hm⟩
   ·cases h
theorem yO {b:List Nat} (h:b.length=4):∃p q s t,b=[p,q,s,t]:=by
 cases b with
 | nil=>cases h
 | cons p b=>cases b with
   | nil=>cases h
   | cons q b=>cases b with
     | nil=>cases h
     | cons s b=>cases b with
       | nil=>cases h
       | cons t b=>cases b with
         | nil=>exact⟨p,q,s,t,rfl⟩
         | cons _ _=>simp at h
theorem Iq (last:Bool):∀(ls:List Bs) (l:List Nat),je last ls=some l->∀n∈l,n<65536
 | [],l,h,n,hn=>by simp[je]at h;rw[h]at hn;cases hn
 | x::r,l,h,n,hn=>by
   rw[je]at h;split at h
   ·cases hb:gJ x with
    | none=>rw[hb]at h;cases h
    | some b=>
      rw[hb]at h;obtain⟨h4,aL⟩:=yA hb;obtain⟨p,q,s,t,rfl⟩:=yO h4;simp only[Option.map_some,List.getD_cons_zero,List.getD_cons_succ]at h;injection h with h
      rw[<-h]at hn;have:=aL p (by simp);have:=aL q (by simp);have:=aL s (by simp);have:=aL t (by simp);simp only[List.mem_cons,List.not_mem_nil,or_false]at hn;rcases hn with rfl|rfl<;>omega
   ·cases hp:gM x with
    | none=>rw[hp]at h;cases h
    | some v=>
      rw[hp]at h;simp only at h;cases hr:je last r with
      | none=>rw[hr]at h;cases h
      | some m=>
        rw[hr]at h;simp only[Option.map_some]at h;injection h with h
        rw[<-h]at hn;rcases List.mem_cons.1 hn with rfl|hn
        ·exact JW hp
        ·exact Iq last r m hr n hn
theorem GU {s:Bs} {last:Bool} {l:List Nat} (h:gL s last=some l):∀n∈l,n<65536:=by
 unfold gL at h;split at h
 ·injection h with h;rw[<-h];intro n hn;cases hn
 ·exact Iq _ _ _ h
theorem zF {s:Bs} {a:List Nat} (h:jw s=some a):a.length=8/\∀n∈a,n<65536:=by
 unfold jw at h;simp only at h;split at h
 ·cases h
 ·split at h
  ·rename_i x y hx hy;have h1:=GU hx;have h2:=GU hy;split at h
   ·split at h
    ·cases h
    ·injection h with h
     rw[<-h];refine⟨by simp;omega,fun n hn=>?_⟩;simp only[List.mem_append,List.mem_replicate]at hn;rcases hn with(hn|hn)|hn
     ·exact h1 n hn
     ·omega
     ·exact h2 n hn
   ·split at h
    ·injection h with h
     rw[<-h];refine⟨by simpa using by assumption,fun n hn=>?_⟩;rcases List.mem_append.1 hn with hn|hn
     ·exact h1 n hn
     ·exact h2 n hn
    ·cases h
  ·cases h
theorem NM:∀n:Fin 256,qY (Lib.decDigits n.val)=some n.val:=by decide +kernel
theorem Ra {n:Nat} (h:n<256):qY (Lib.decDigits n)=some n:=NM ⟨n,h⟩
theorem Ap:∀c:UInt8,aQ c=true->c≠46/\c≠58/\c≠37/\low1 c=c/\pQ c=false/\ei.contains c=false/\(c<32||126<c)=false:=aA (by decide +kernel)
theorem qC (b:List Nat):∀c∈eR b,aQ c=true\/c=46:=by
 intro c hc;unfold eR at hc;rcases rp hc with h|⟨x,hx,h⟩
 ·right;simpa using h
 ·obtain⟨n,_,rfl⟩:=List.mem_map.1 hx;exact Or.inl (rf n c h)
theorem zW {b:List Nat} (hb:b≠[]):aD 46 (eR b)=b.map fun x=>Lib.decDigits x:=by
 unfold eR;exact mw 46 _ (by simpa using hb) (by intro x hx c hc;obtain⟨n,_,rfl⟩:=List.mem_map.1 hx;exact(Ap c (rf n c hc)).1)
theorem xt {b:List Nat} (hb:b≠[]):dn (eR b)=b.map fun x=>Lib.decDigits x:=by
 unfold dn;rw[zW hb,if_neg];rintro⟨_,h⟩;rw[List.getLast?_map]at h;cases hl:b.getLast? with
 | none=>rw[hl]at h;cases h
 | some x=>rw[hl]at h;exact FZ x (Option.some.inj h)
theorem J8 (b:List Nat) (n:Nat) (h:b.length<=n) (hn:n=4) (hl:∀x∈b,x<256):eO n (b.map fun x=>Lib.decDigits x)=some b:=by
 subst hn
 induction b with
 | nil=>rfl
 | cons x r ih=>
   have hx:x<256:=hl x (by simp);rw[List.map_cons,eO,Ra hx];have hm:(if(r.map fun x=>Lib.decDigits x)=[]then 5-4 else 1)=1:=by split<;>rfl
   simp only[hm];rw[if_neg (by omega),ih (fun y hy=>hl y (List.mem_cons_of_mem _ hy)) (by simp at h;omega)]
   have:(List.range 1).reverse.map (fun k=>x / 256^k%256)=[x]:=by
    show[x / 256^0%256]=[x];rw[Nat.pow_zero,Nat.div_one,Nat.mod_eq_of_lt hx]
   rw[this];rfl
theorem BE {b:List Nat} (h4:b.length=4) (hl:∀x∈b,x<256):fK (dn (eR b))=some (eR b):=by
 have hb:b≠[]:=by intro h;rw[h]at h4;cases h4
 unfold fK;rw[xt hb,List.length_map,h4,if_neg (by omega),J8 b 4 (by omega) rfl hl];rfl
def gx (many v:Nat):List Nat:=(List.range many).reverse.map fun k=>v / 256^k%256
theorem tz {many v x:Nat} (h:x∈gx many v):x<256:=by
 unfold gx at h;simp only[List.mem_map,List.mem_reverse]at h;obtain⟨k,_,rfl⟩:=h;exact Nat.mod_lt _ (by omega)
theorem pY (many v:Nat):(gx many v).length=many:=by unfold gx;simp
theorem wi (n:Nat) (s:Bs) (r:List Bs):eO n (s::r)=match qY s with
 | none=>none
 | some v=>if 0<v / 256^(if r=[]then 5-n else 1)then none else(eO n r).map fun t=>gx (if r=[]then 5-n else 1) v++t:=rfl
theorem J1 {n:Nat} {s:Bs} {r:List Bs} {b:List Nat} (h:eO n (s::r)=some b):∃v t,qY s=some v/\eO n r=some t/\b=gx (if r=[]then 5-n else 1) v++t:=by
 rw[wi]at h;cases hv:qY s with
 | none=>rw[hv]at h;cases h
 | some v=>
   rw[hv]at h;simp only at h;generalize (if r=[]then 5-n else 1)=m at h⊢;by_cases h0:0<v / 256^m
   ·rw[if_pos h0]at h;cases h
   ·rw[if_neg h0]at h;cases hr:eO n r with
    | none=>rw[hr]at h;cases h
    | some t=>
      rw[hr]at h;exact⟨v,t,rfl,rfl,(Option.some.inj h).symm⟩
theorem yu:∀(l:List Bs) (n:Nat) (b:List Nat),l≠[]->l.length<=n->n<=4->eO n l=some b->b.length=l.length+(4-n)/\∀x∈b,x<256
 | [],n,b,h,_,_,_=>absurd rfl h
 | s::r,n,b,_,hl,hn,h=>by
   obtain⟨v,t,hv,hr,rfl⟩:=J1 h;simp only[List.length_cons]at hl⊢;rw[List.length_append,pY];by_cases pA:r=[]
   ·rw[pA,eO]at hr;injection hr with hr
    rw[pA,if_pos rfl,<-hr];refine⟨by simp;omega,fun x hx=>?_⟩;rw[List.append_nil]at hx;exact tz hx
   ·rw[if_neg pA];obtain⟨h1,h2⟩:=yu r n t pA (by omega) hn hr;refine⟨by omega,fun x hx=>?_⟩;rcases List.mem_append.1 hx with hx|hx
    ·exact tz hx
    ·exact h2 x hx
theorem Ic {l:List Bs} {t:Bs} (hl:l≠[]) (h:fK l=some t):∃b:List Nat,b.length=4/\(∀x∈b,x<256)/\t=eR b:=by
 unfold fK at h;split at h
 ·cases h
 ·cases hb:eO l.length l with
  | none=>rw[hb]at h;cases h
  | some b=>
    rw[hb]at h;injection h with h
    obtain⟨h1,h2⟩:=yu l l.length b hl (Nat.le_refl _) (by omega) hb;exact⟨b,by omega,h2,h.symm⟩
theorem xL (s:Bs):dn s≠[]:=by
 have du:aD 46 s≠[]:=by
  cases s with
  | nil=>simp[aD]
  | cons b r=>
    rw[aD];split
    ·simp
    ·split<;>simp
 unfold dn;split
 ·rename_i h;intro h2;have:=congrArg List.length h2
  simp at this;omega
 ·exact du
theorem D9 {c:UInt8} (h:c≠37) (r:Bs):dJ (c::r)=none:=by
 unfold dJ;split
 ·rename_i heq;injection heq with h1 _
  exact absurd h1 h
 ·rfl
theorem AV {c:UInt8} {r:Bs} {x:Bs} (h:dJ (c::r)=none) (hx:a7 r=x):a7 (c::r)=c::x:=by
 rw[a7,h];simp[hx]
theorem rW:∀l:Bs,(∀c∈l,c≠37)->a7 l=l
 | [],_=>by rw[a7]
 | c::r,h=>AV (D9 (h c (by simp)) r) (rW r fun x hx=>h x (by simp[hx]))
theorem sI (of:Bs) (l:Bs) (h:∀c∈l,(c<32||126<c||of.contains c)=false):aq of l=l:=by
 unfold aq
 induction l with
 | nil=>rfl
 | cons c r ih=>rw[List.flatMap_cons,h c (by simp),ih fun x hx=>h x (by simp[hx])];rfl
theorem Nm (l:Bs) (h:∀c∈l,low1 c=c):low l=l:=by
 unfold low
 induction l with
 | nil=>rfl
 | cons c r ih=>rw[List.map_cons,h c (by simp),ih fun x hx=>h x (by simp[hx])]
def Tc (d:Bs):Prop:=d≠[]/\d.any pQ=false/\low d=d/\(dy d=false\/fK (dn d)=some d)
theorem qx:∀c:UInt8,pQ c=false->c≠37/\c≠91/\ei.contains c=false/\(c<32||126<c)=false:=aA (by decide +kernel)
theorem q9 {p:UInt8->Bool} {l:Bs} (h:l.any p=false):∀c∈l,p c=false:=by
 intro c hc;rw[List.any_eq_false]at h;simpa using h c hc
theorem ye {d:Bs} (h:Tc d) (special:Bool):aX d special=.ok d:=by
 obtain⟨h1,h2,h3,h4⟩:=h;have hc:=q9 h2
 have Lk:d[0]? ≠some 91:=by
  intro h;have:=List.mem_of_getElem? h;exact(qx 91 (hc 91 this)).2.1 rfl
 unfold aX;rw[if_neg Lk];cases special
 ·have hb:d.any ei.contains=false:=by
   rw[List.any_eq_false];intro c AN;have:=(qx c (hc c AN)).2.2.1;rw[this];simp
  rw[if_neg (by simp),hb,if_neg (by simp),sI];intro c AN;have:=(qx c (hc c AN)).2.2.2;rw[this];rfl
 ·rw[if_pos rfl];unfold eE;rw[rW d fun c AN=>(qx c (hc c AN)).1];simp only[h3];rw[if_neg (by rw[h2];simp[h1])];rcases h4 with h4|h4
  ·rw[h4];rfl
  ·cases hn:dy d
   ·rfl
   ·rw[h4];rfl
theorem Mp {s d:Bs} (h:eE s=.ok d):Tc d:=by
 unfold eE at h;simp only at h;generalize hx:low (a7 s)=x at h;split at h
 ·cases h
 ·rename_i hn;have DN:x≠[]:=fun e=>hn (Or.inl e);have y6:x.any pQ=false:=by rw[<-Bool.not_eq_true];exact fun e=>hn (Or.inr e)
  split at h
  ·cases hf:fK (dn x)with
   | none=>rw[hf]at h;cases h
   | some t=>
     rw[hf]at h;simp only[ofO]at h;injection h with h
     rw[<-h];obtain⟨b,h4,hl,rfl⟩:=Ic (xL x) hf;have hb:b≠[]:=by intro h;rw[h]at h4;cases h4
     refine⟨?_,?_,?_,Or.inr (BE h4 hl)⟩
     ·unfold eR;exact uw (by simpa using hb) (by intro x hx;obtain⟨n,_,rfl⟩:=List.mem_map.1 hx;exact FZ n)
     ·rw[List.any_eq_false];intro c hc;rcases qC b c hc with h|rfl
      ·rw[(Ap c h).2.2.2.2.1];simp
      ·decide
     ·apply Nm
      intro c hc;rcases qC b c hc with h|rfl
      ·exact(Ap c h).2.2.2.1
      ·decide
  ·rename_i DP;injection h with h
   rw[<-h];exact⟨DN,y6,by rw[<-hx,tF],Or.inl (by simpa using DP)⟩
theorem uc (a:List Nat) (h8:a.length=8) (hl:∀n∈a,n<65536) (special:Bool):aX ([91]++eN a++[93]) special=.ok ([91]++eN a++[93]):=by
 unfold aX;rw[if_pos (by simp)]
 have h1:¬(([91]++eN a++[93]:Bs).length<2\/([91]++eN a++[93]:Bs).getLast? ≠some 93):=by
  rw[List.getLast?_append];simp
 rw[if_neg h1];have h2:(([91]++eN a++[93]:Bs).drop 1).dropLast=eN a:=by simp
 rw[h2,ME a h8 hl];rfl
theorem Rw:∀c:UInt8,ei.contains c=false->∀x∈(if c<32||126<c||([]:Bs).contains c then[37,dC (c.toNat / 16),dC (c.toNat%16)]else[c]:Bs),ei.contains x=false/\(x<32||126<x)=false:=by
 have:∀c:UInt8,(ei.contains c||(if c<32||126<c||([]:Bs).contains c then[37,dC (c.toNat / 16),dC (c.toNat%16)]else[c]:Bs).all fun x=> !ei.contains x&& !(x<32||126<x))=true:=aA (by decide +kernel);intro c hc x hx;have h:=this c;rw[hc,Bool.false_or,List.all_eq_true]at h;simpa using h x hx
theorem N7 {s:Bs} (h:s.any ei.contains=false):∀x∈aq [] s,ei.contains x=false/\(x<32||126<x)=false:=by
 intro x hx;unfold aq at hx;obtain⟨c,hc,hx⟩:=List.mem_flatMap.1 hx;exact Rw c (q9 h c hc) x hx
theorem BK {s:Bs} (h:s.any ei.contains=false):aX (aq [] s) false=.ok (aq [] s):=by
 have hc:=N7 h
 have Lk:(aq [] s)[0]? ≠some 91:=by
  intro h;have:=(hc 91 (List.mem_of_getElem? h)).1;exact absurd this (by decide)
 unfold aX;rw[if_neg Lk,if_neg (by simp)]
 have hb:(aq [] s).any ei.contains=false:=by
  rw[List.any_eq_false];intro c AN;rw[(hc c AN).1];simp
 rw[hb,if_neg (by simp),sI];intro c AN;rw[(hc c AN).2];rfl
theorem l6 {s h:Bs} (e:aX s true=.ok h):aX h true=.ok h/\aX h false=.ok h/\h≠[]:=by
 unfold aX at e;split at e
 ·split at e
  ·cases e
  ·cases ha:jw ((s.drop 1).dropLast)with
   | none=>rw[ha]at e;cases e
   | some a=>
     rw[ha]at e;simp only[Option.map_some,ofO]at e;injection e with e
     rw[<-e];obtain⟨h8,hl⟩:=zF ha;exact⟨uc a h8 hl true,uc a h8 hl false,by simp⟩
 ·rw[if_pos rfl]at e;have:=Mp e;exact⟨ye this true,ye this false,this.1⟩
theorem rD {s h:Bs} (e:aX s false=.ok h):aX h false=.ok h:=by
 unfold aX at e;split at e
 ·split at e
  ·cases e
  ·cases ha:jw ((s.drop 1).dropLast)with
   | none=>rw[ha]at e;cases e
   | some a=>
     rw[ha]at e;simp only[Option.map_some,ofO]at e;injection e with e
     rw[<-e];obtain⟨h8,hl⟩:=zF ha;exact uc a h8 hl false
 ·rw[if_neg (by simp)]at e;split at e
  ·cases e
  ·rename_i hb;injection e with e
   rw[<-e];exact BK (by simpa using hb)
theorem wP (s:Bs) (n:Nat) (e:aX s true=.er n):n=70\/n=71\/n=72:=by
 unfold aX eE ofO at e;simp only at e
 repeat' split at e
 all_goals first |(injection e with e;omega)|cases e|(rename_i h;cases h)
theorem ui (s:Bs) (n:Nat) (e:aX s false=.er n):n=70\/n=72:=by
 unfold aX ofO at e
 repeat' split at e
 all_goals first |(injection e with e;omega)|cases e|(rename_i h;cases h)
structure au where
 scheme:Bs:=[]
 user:Bs:=[]
 pass:Bs:=[]
 hasHost:Bool:=false
 host:Bs:=[]
 port:Int:= -1
 opq:Bool:=false
 path:List Bs:=[]
 hasQuery:Bool:=false
 hasFragment:Bool:=false
 query:Bs:=[]
 fragment:Bs:=[]
 deriving DecidableEq,Repr
inductive UR where
 | ok (u:au)
 | er (n:Nat)
 deriving DecidableEq,Repr
def UR.bind:UR->(au->UR)->UR
 | .ok u,f=>f u
 | .er n,_=>.er n
def vr:Bs:=[104,116,116,112]
def nk:Bs:=[104,116,116,112,115]
def wsS:Bs:=[119,115]
def Mb:Bs:=[119,115,115]
def Yi:Bs:=[102,116,112]
def cJ:Bs:=[102,105,108,101]
def Y5:Bs:=[98,108,111,98]
def kC (s:Bs):Int:=if s=vr\/s=wsS then 80 else if s=nk\/s=Mb then 443 else if s=Yi then 21 else -1
def aj (s:Bs):Bool:=s==cJ|| !(kC s== -1)
def bE (sp:Bool) (c:UInt8):Bool:=c==47||(sp&&c==92)
def dw:Nat->Bs
 | 1=>[32,34,60,62,96]
 | 2=>[32,34,35,60,62]
 | 3=>[32,34,35,60,62,39]
 | 4=>[32,34,35,60,62,63,94,96,123,125]
 | 5=>[32,34,35,60,62,63,94,96,123,125,47,58,59,61,64,91,92,93,124]
 | _=>[]
def cz:Bs->Bool
 | [a,b]=>bn a&&(b==58||b==124)
 | _=>false
def Ie:Bs->Bool
 | [a,b]=>bn a&&(b==58||b==124)
 | a::b::c::_=>bn a&&(b==58||b==124)&&(c==47||c==92)
 | _=>false
def jy:List Bs->Bool
 | p::_=>cz p&&p[1]? ==some 58
 | []=>false
def bI (scheme:Bs) (l:List Bs):List Bs:=if scheme=cJ/\l.length=1/\jy l=true then l else l.dropLast
def unE:Bs->Bs
 | 37::50::101::r=>46::unE r
 | c::r=>c::unE r
 | []=>[]
def ez (p:Bs):Nat:=if unE (low p)=[46]then 1 else if unE (low p)=[46,46]then 2 else 0
def dN (sp:Bool) (s:Bs):Bs×Bs×Bool:=(s.takeWhile fun c=> !bE sp c,(s.dropWhile fun c=> !bE sp c).drop 1,s.any (bE sp))
def eW (sp:Bool):Bs->List Bs
 | []=>[[]]
 | c::r=>if bE sp c then[]::eW sp r else match eW sp r with
   | h::t=>(c::h)::t
   | []=>[[c]]
def onL (scheme:Bs):List Bs->List Bs->List Bs
 | path,[]=>path
 | path,p::r=>
   let q:=aq (dw 4) p
   if ez q=2 then onL scheme (if r=[]then bI scheme path++[[]]else bI scheme path) r
   else if ez q=1 then onL scheme (if r=[]then path++[[]]else path) r
   else onL scheme (path++[if scheme=cJ/\path=[]/\cz q=true then q.take 1++[58]else q]) r
def onP (u:au) (t:Bs):au:={u with path:=onL u.scheme u.path (eW (aj u.scheme) t)}
def dR:Bool->Bs->Option Nat
 | _,[]=>none
 | i,c::r=>if c==91 then(dR true r).map (·+1)else if c==93 then(dR false r).map (·+1)else if c==58&& !i then some 0 else(dR i r).map (·+1)
def ko:Nat->Bs->Option Nat
 | n,[]=>some n
 | n,c::r=>if aQ c then ko (min (10*n+(c.toNat-48)) 1048576) r else none
def ew (u:au) (s:Bs):UR:=match ko 0 s with
 | none=>.er 81
 | some n=>if 65535<n then .er 81 else .ok (if s≠[]/\(n:Int)≠kC u.scheme then{u with port:=n} else u)
def gn (u:au) (s:Bs):UR:=match aX s (aj u.scheme)with
 | .er n=>.er n
 | .ok h=>.ok {u with host:=h,hasHost:=true}
def ek:Bs->Option (Bs×Bs)
 | []=>none
 | c::r=>match ek r with
   | some (x,y)=>some (c::x,y)
   | none=>if c==64 then some ([],r)else none
def BX (u:au) (a:Bs):au:={u with user:=aq (dw 5) (Lib.cut a [58]).1,pass:=aq (dw 5) (Lib.cut a [58]).2.1}
def eV (u:au) (a:Bs):UR:=match dR false a with
 | some i=>if a.take i=[]then .er 70 else(gn u (a.take i)).bind fun u=>ew u (a.drop (i+1))
 | none=>if a=[]/\aj u.scheme=true then .er 70 else(gn u a).bind fun u=>ew u []
def jk (u:au) (a:Bs):UR:=match ek a with
 | some (x,y)=>if y=[]then .er 70 else eV (BX u x) y
 | none=>eV u a
def dK (u:au) (r:Bs):UR:=
 let c:=dN (aj u.scheme) r
 (jk u c.1).bind fun u=>.ok (if c.2.2||aj u.scheme then onP u c.2.1 else u)
def ma (u b:au):au:={u with user:=b.user,pass:=b.pass,hasHost:=b.hasHost,host:=b.host,port:=b.port}
def gR (u b:au) (r:Bs):au:=
 if r≠[]then onP {u with path:=bI u.scheme b.path} r
 else if u.hasQuery then{u with path:=b.path} else{u with path:=b.path,query:=b.query,hasQuery:=b.hasQuery}
def kh (sp:Bool) (r:Bs):Nat:=(r.takeWhile (bE sp)).length
def Ae (u b:au) (r:Bs):UR:=
 let n:=kh (aj u.scheme) r
 if 1<n then dK u (if aj u.scheme then r.drop n else r.drop 2)
 else if n=1 then .ok (onP (ma u b) (r.drop 1))
 else .ok (gR (ma u b) b r)
def qS:Bs:=[108,111,99,97,108,104,111,115,116]
def lK (u:au) (b:Option au) (r:Bs):UR:=
 let u:au:={u with hasHost:=true}
 let n:=kh true r
 if 1<n then
  let c:=dN true (r.drop 2)
  if cz c.1 then .ok (onP u (r.drop 2))
  else(if c.1=[]then UR.ok u else gn u c.1).bind fun u=>.ok (onP (if u.host=qS then{u with host:=[]} else u) c.2.1)
 else if n=1 then
  .ok (onP (match b with
   | some x=>if x.scheme=cJ then(if Ie (r.drop 1)=false/\jy x.path=true then{u with host:=x.host,path:=x.path.take 1} else{u with host:=x.host})else u
   | none=>u) (r.drop 1))
 else match b with
  | some x=>if x.scheme=cJ then(if Ie r then .ok (onP {u with host:=x.host} r)else .ok (gR {u with host:=x.host} x r))else .ok (onP u r)
  | none=>.ok (onP u r)
def dA (c:UInt8):Bool:=bn c||aQ c||c==43||c==45||c==46
def aI (s:Bs):Bs×Bs×Bool:=
 let c:=Lib.cut s [58]
 if c.2.2&& !c.1.isEmpty&&(match c.1 with|a::_=>bn a|[]=>false)&&c.1.all dA then(low c.1,c.2.1,true)else([],s,false)
def bB (s:Bs):Bs:=(((s.dropWhile (·<=32)).reverse.dropWhile (·<=32)).reverse).filter fun c=> !(c==9||c==10||c==13)
def jL (u:au) (s:Bs) (b:Option au):UR:=
 let c:=aI s
 if c.2.2 then
  let u:au:={u with scheme:=c.1}
  if c.1=cJ then lK u b c.2.1
  else if aj c.1 then(match b with
   | some x=>if x.scheme=c.1/\Lib.hasPrefix c.2.1 [47,47]=false then Ae u x c.2.1 else dK u (c.2.1.drop (kh true c.2.1))
   | none=>dK u (c.2.1.drop (kh true c.2.1)))
  else if Lib.hasPrefix c.2.1 [47,47]then dK u (c.2.1.drop 2)
  else if Lib.hasPrefix c.2.1 [47]then .ok (onP u (c.2.1.drop 1))
  else .ok {u with opq:=true,path:=[aq [] c.2.1]}
 else match b with
  | none=>.er 82
  | some x=>
    if x.opq&&(!s.isEmpty||u.hasQuery|| !u.hasFragment)then .er 82
    else
     let u:au:={u with scheme:=x.scheme}
     if x.opq then .ok (gR {u with opq:=true} x [])
     else if x.scheme=cJ then lK u b s
     else Ae u x s
def pO (s:Bs) (b:Option au):UR:=
 let f:=Lib.cut (bB s) [35]
 let q:=Lib.cut f.1 [63]
 (jL {query:=q.2.1,hasQuery:=q.2.2,fragment:=f.2.1,hasFragment:=f.2.2} q.1 b).bind fun u=>
  .ok {u with query:=aq (dw (if aj u.scheme then 3 else 2)) u.query,fragment:=aq (dw 1) u.fragment}
def atU (u:au):Bs:=if u.port= -1 then u.host else u.host++[58]++Lib.itoa u.port
def Yq (u:au):Bs:=
 u.scheme++[58]++
 (if u.hasHost then[47,47]++u.user++(if u.pass=[]then[]else[58]++u.pass)++(if u.user=[]/\u.pass=[]then[]else[64])++atU u
  else if u.opq=false/\1<u.path.length/\u.path.head? =some []then[47,46]else[])++
 (if u.opq then u.path.headD []else u.path.flatMap fun p=>47::p)++
 (if u.hasQuery then 63::u.query else[])++(if u.hasFragment then 35::u.fragment else[])
def pn (s:Bs) (b:Option au):UR:=
 if 4000<s.length then .er 3
 else match b with
  | some x=>if pO (Yq x) none=.ok x then pO s b else .er 2
  | none=>pO s none
def zU (u:au):Bs:=
 if kC u.scheme≠ -1 then u.scheme++[58,47,47]++atU u
 else if u.scheme=Y5/\u.opq=true/\u.path≠[]then(match pn (u.path.headD []) none with
  | .ok x=>if x.scheme=vr\/x.scheme=nk then x.scheme++[58,47,47]++atU x else[110,117,108,108]
  | .er _=>[110,117,108,108])
 else[110,117,108,108]
def n9 (c:UInt8):Bool:=decide (c<=32)
def yo (c:UInt8):Bool:= !(c==9||c==10||c==13)
theorem MR {c:UInt8} (h:n9 c=false):yo c=true:=by
 unfold n9 at h;unfold yo;have Ug:¬c<=32:=of_decide_eq_false h;cases h9:(c==9)
 ·cases Ts:(c==10)
  ·cases wu:(c==13)
   ·rfl
   ·exact absurd (by rw[eq_of_beq wu];decide) Ug
  ·exact absurd (by rw[eq_of_beq Ts];decide) Ug
 ·exact absurd (by rw[eq_of_beq h9];decide) Ug
theorem mD:∀l:Bs,(l.dropWhile n9).filter yo=(l.filter yo).dropWhile n9
 | []=>rfl
 | c::r=>by
   rw[List.dropWhile_cons];cases h:n9 c
   ·simp only[Bool.false_eq_true,if_false];rw[List.filter_cons,if_pos (MR h),List.dropWhile_cons,h]
    simp
   ·simp only[if_true];rw[mD r,List.filter_cons];split
    ·rw[List.dropWhile_cons,if_pos h]
    ·rfl
theorem Cs (s:Bs):bB s=(((s.filter yo).dropWhile n9).reverse.dropWhile n9).reverse:=by
 show(((s.dropWhile n9).reverse.dropWhile n9).reverse).filter yo=_;rw[List.filter_reverse,mD,List.filter_reverse,mD]
def okE (of:Bs) (c:UInt8):Bool:= !(c<32||126<c||of.contains c)
theorem yF:∀k:Fin 6,∀d:Fin 16,okE (dw k.val) (dC d.val)=true:=by decide +kernel
theorem U3:∀k:Fin 6,okE (dw k.val) 37=true:=by decide +kernel
theorem ld (k:Nat) (hk:k<6):∀s:Bs,(aq (dw k) s).all (okE (dw k))=true
 | []=>rfl
 | c::r=>by
   have ih:=ld k hk r;unfold aq at ih⊢;rw[List.flatMap_cons,List.all_append,ih,Bool.and_true];split
   ·have h1:=yF ⟨k,hk⟩ ⟨c.toNat / 16,by have:=c.toNat_lt;omega⟩;have h2:=yF ⟨k,hk⟩ ⟨c.toNat%16,Nat.mod_lt _ (by omega)⟩;rw[List.all_cons,List.all_cons,List.all_cons,U3 ⟨k,hk⟩,h1,h2];rfl
   ·rename_i h;rw[List.all_cons];unfold okE;simp only[List.all_nil,Bool.and_true];cases hh:(decide (c<32)||decide (126<c)||(dw k).contains c)
    ·rfl
    ·exact absurd hh h
theorem mM {k:UInt8}:∀{s:Bs},k∉s->Lib.index s [k]= -1
 | [],_=>rfl
 | c::r,h=>by
   have hc:([k]:Bs).isPrefixOf (c::r)=false:=by
    simp only[List.isPrefixOf,Bool.and_true];rw[beq_eq_false_iff_ne];intro e;exact h (by rw[e];simp)
   rw[Lib.index,hc,if_neg (by decide),mM (fun hh=>h (List.mem_cons_of_mem _ hh))];rfl
theorem p7 {k:UInt8}:∀{a:Bs} (b:Bs),k∉a->Lib.index (a++k::b) [k]=a.length
 | [],b,_=>by
   show Lib.index (k::b) [k]=_;have hc:([k]:Bs).isPrefixOf (k::b)=true:=by simp[List.isPrefixOf]
   rw[Lib.index,hc,if_pos rfl];rfl
 | c::r,b,h=>by
   have hc:([k]:Bs).isPrefixOf (c::(r++k::b))=false:=by
    simp only[List.isPrefixOf,Bool.and_true];rw[beq_eq_false_iff_ne];intro e;exact h (by rw[e];simp)
   have ih:=p7 (a:=r) b (fun hh=>h (List.mem_cons_of_mem _ hh));rw[List.cons_append,Lib.index,hc,if_neg (by decide),ih,if_neg]
   ·simp
   ·intro hh;have h0:=eq_of_beq hh;omega
theorem En {k:UInt8} {s:Bs} (h:k∉s):Lib.cut s [k]=(s,[],false):=by
 unfold Lib.cut;rw[mM h];rfl
theorem FA {k:UInt8} {a:Bs} (b:Bs) (h:k∉a):Lib.cut (a++k::b) [k]=(a,b,true):=by
 unfold Lib.cut;rw[p7 b h,if_pos (by omega)]
 simp
theorem qP:∀{s:Bs},(64:UInt8)∉s->ek s=none
 | [],_=>rfl
 | c::r,h=>by
   have hc:(c==64)=false:=by rw[beq_eq_false_iff_ne];intro e;exact h (by rw[e];simp)
   rw[ek,qP (fun hh=>h (List.mem_cons_of_mem _ hh)),hc];rfl
theorem yv:∀(a:Bs) {b:Bs},(64:UInt8)∉b->ek (a++64::b)=some (a,b)
 | [],b,h=>by
   show ek (64::b)=_;rw[ek,qP h];rfl
 | c::r,b,h=>by
   rw[List.cons_append,ek,yv r h]
def zm (c:UInt8):Bool:= !n9 c&& !(c==35)&& !(c==63)
def Fi (u:au):UR:=.ok {u with query:=aq (dw (if aj u.scheme then 3 else 2)) u.query,fragment:=aq (dw 1) u.fragment}
def Am (sp:Bool) (p:Bs):Prop:=p.all (okE (dw 4))=true/\ez p=0/\∀c∈p,bE sp c=false
structure oq (sp:Bool) (h:Bs):Prop where
 again:aX h sp=.ok h
 chars:∀c∈h,zm c=true/\c≠64/\bE true c=false/\c<127
 colon:(∀c∈h,c≠58/\c≠91/\c≠93)\/∃x,h=91::(x++[93])/\(93:UInt8)∉x
structure MU (u:au):Prop where
 s1:u.scheme≠[]
 s2:∀c,u.scheme.head? =some c->bn c=true
 s3:u.scheme.all dA=true
 s4:low u.scheme=u.scheme
 user:u.user.all (okE (dw 5))=true
 pass:u.pass.all (okE (dw 5))=true
 special:aj u.scheme=true->u.hasHost=true/\u.opq=false/\u.path≠[]
 bare:u.hasHost=false->u.user=[]/\u.pass=[]/\u.host=[]/\u.port= -1
 opaqueN:u.opq=true->u.hasHost=false/\∃p:Bs,u.path=[p]/\p.all (okE [])=true/\(35:UInt8)∉p/\(63:UInt8)∉p/\p.head? ≠some 47/\(u.hasQuery=false->u.hasFragment=false->p.getLast? ≠some 32)
 path:u.opq=false->(∀p∈u.path,Am (aj u.scheme) p)/\(u.hasHost=false->u.path≠[])
 drive:u.scheme=cJ->∀p,u.path.head? =some p->cz p=true->p.take 1++[58]=p
 host:u.hasHost=true->oq (aj u.scheme) u.host\/(u.scheme=cJ/\u.host=[])
 empty:u.host=[]->u.user=[]/\u.pass=[]/\u.port= -1
 needed:aj u.scheme=true->u.scheme≠cJ->u.host≠[]
 file:u.scheme=cJ->u.user=[]/\u.pass=[]/\u.port= -1/\u.host≠qS/\cz u.host=false
 port:u.port= -1\/∃n:Nat,u.port=n/\n<=65535/\(n:Int)≠kC u.scheme
structure NU (u:au):Prop extends MU u where
 query:u.query.all (okE (dw (if aj u.scheme then 3 else 2)))=true
 noQuery:u.hasQuery=false->u.query=[]
 fragment:u.fragment.all (okE (dw 1))=true
 noFragment:u.hasFragment=false->u.fragment=[]
theorem qw {a b:au} (h1:a.scheme=b.scheme) (h2:a.user=b.user) (h3:a.pass=b.pass) (h4:a.hasHost=b.hasHost) (h5:a.host=b.host) (h6:a.port=b.port) (h7:a.opq=b.opq) (h8:a.path=b.path) (h9:a.hasQuery=b.hasQuery) (Ts:a.hasFragment=b.hasFragment) (h11:a.query=b.query) (h12:a.fragment=b.fragment):a=b:=by
 cases a;cases b;simp_all
theorem ru {sp:Bool} {c:UInt8} (h:bE true c=false):bE sp c=false:=by
 cases sp
 ·unfold bE at h⊢;simp only[Bool.true_and,Bool.or_eq_false_iff]at h;rw[h.1];rfl
 ·exact h
def MA (l:List Bs):Bs:=l.flatMap fun p=>47::p
theorem Np (x:UInt8):((47:UInt8)==x)=(some x==some (47:UInt8)):=by
 rw[Bool.eq_iff_iff];simp only[beq_iff_eq,Option.some.injEq];exact eq_comm
theorem xj (s:Bs):Lib.hasPrefix s [47]=(s[0]? ==some 47):=by
 cases s with
 | nil=>rfl
 | cons a r=>
   show((47:UInt8)==a&&true)=(some a==some 47);rw[Np,Bool.and_true]
end Lz
namespace Go.Proofs.YtibcmemcfjhgmaaGreatDoor
open Go.RowKit
theorem rowAt {w:World} {R:Nat} {cs:Array Value} {t:TypeId} {fr:Nat×Nat} (h:w.heap[R]? =some (.cells cs t fr)) (k:Nat) (v:Value) (hv:cs[k]? =some v):w.cell? ⟨R,k,none⟩=some v:=by
 rw[cell_of_row w R k _ _ _ h];exact hv
theorem aZ {w:World} {R:Nat} {o:Obj} (h:w.heap[R]? =some o):R<w.heap.size:=(Array.getElem?_eq_some_iff.1 h).1
theorem an (w:World) (o:Obj):(w.alloc o).heap[w.heap.size]? =some o:=by show(w.heap.push _)[w.heap.size]? =_;simp
theorem lg (w:World) (o o2:Obj):((w.alloc o).alloc o2).heap[w.heap.size+1]? =some o2:=by
 have:=an (w.alloc o) o2
 rwa [show(w.alloc o).heap.size=w.heap.size+1 by simp]at this
theorem aR {B g:Nat} {a w:World} (h:Below B a w) {cs:Array Value} (hg:B<=g):Below B a (w.setRow g cs):=
 ⟨h.os,h.tape,h.output,by rw[show(w.setRow g cs).heap.size=w.heap.size by simp[World.setRow]];exact h.size,fun k hk=>by rw[setRow_other _ _ _ _ (by omega)];exact h.block k hk⟩
theorem cu {w:World} {R:Nat} {cs:Array Value} {t:TypeId} {fr:Nat×Nat} (h:w.heap[R]? =some (.cells cs t fr)) (k:Nat) (v:Value):(w.setCell ⟨R,k,none⟩ v).heap[R]? =some (.cells (cs.setIfInBounds k v) t fr):=by
 rw[setCell_eq_setRow w R k cs _ _ v h];exact setRow_heap _ _ _ _ _ _ h
theorem TkD {P:Program} {md:Region.Mode} {ops:Array Oper} {Q:Exit->Act->World->Prop} {S:World->Prop} {fuel:Nat} {listed:Array Bool} {a:Act} {w:World} (i:Nat) (d:Option Tmp) {oi:Oper} {v:Value} (hi:ops[i]? =some oi) (hd:oi.dst=d) (hy:∀w,S w->(execOp a.eval oi).run P w=.ok (.value v) w) (h:wpAnyH P md ops Q S fuel (listed.setIfInBounds i true) (a.put d v) w) (hs:Region.noSelect ops=true:=by kernel_rfl) (hf:Region.free md ops listed i=true:=by kernel_rfl) (hr:(Region.ready md ops listed).contains i=true:=by kernel_rfl) (hQ:∀c a w,Q (.panic c) (a.put oi.dst v) w->Q (.panic c) a w:=by exact fun _ _ _ h=>h) (hw:Region.wanted oi (yielded ops a.tmps)=true:=by rfl) (hS:S w:=by assumption):wpAnyH P md ops Q S (fuel+1) listed a w:=
 wpAnyH_take hi hs hf hr hQ (Or.inl ⟨hw,hy⟩) hS (by rw[hd];exact h)
theorem TkE {P:Program} {md:Region.Mode} {ops:Array Oper} {Q:Exit->Act->World->Prop} {S:World->Prop} {fuel:Nat} {listed:Array Bool} {a:Act} {w:World} {oi:Oper} {v:Value} (hQ:∀ c a a' w, Q (.panic c) a w->Q (.panic c) a' w) (i d:Nat) (h:wpAnyH P md ops Q S fuel (listed.setIfInBounds i true) (a.put (some d) v) w) (hy:∀ w, S w->(execOp a.eval oi).run P w=.ok (.value v) w) (hi:ops[i]?=some oi:=by rfl) (hd:oi.dst=some d:=by rfl) (hs:Region.noSelect ops=true:=by kernel_rfl) (hf:Region.free md ops listed i=true:=by kernel_rfl) (hr:(Region.ready md ops listed).contains i=true:=by kernel_rfl) (hw:Region.wanted oi (yielded ops a.tmps)=true:=by rfl) (hS:S w:=by assumption):wpAnyH P md ops Q S (fuel+1) listed a w :=TkD i (some d) hi hd hy h hs hf hr (fun _ _ _ h=>hQ _ _ _ _ h) hw hS
theorem TkG {P:Program} {md:Region.Mode} {ops:Array Oper} {Q:Exit->Act->World->Prop} {S:World->Prop} {fuel:Nat} {listed:Array Bool} {a:Act} {w:World} {oi:Oper} {v:Value} (i d:Nat) (h:wpAnyH P md ops Q S fuel (listed.setIfInBounds i true) (a.put (some d) v) w) (hy:∀ w, S w->(execOp a.eval oi).run P w=.ok (.value v) w) (hi:ops[i]?=some oi:=by rfl) (hd:oi.dst=some d:=by rfl) (hs:Region.noSelect ops=true:=by kernel_rfl) (hf:Region.free md ops listed i=true:=by kernel_rfl) (hr:(Region.ready md ops listed).contains i=true:=by kernel_rfl) (hQ:∀ c a w, Q (.panic c) (a.put oi.dst v) w->Q (.panic c) a w:=by exact fun _ _ _ h=>h) (hw:Region.wanted oi (yielded ops a.tmps)=true:=by rfl) (hS:S w:=by assumption):wpAnyH P md ops Q S (fuel+1) listed a w :=TkD i (some d) hi hd hy h hs hf hr hQ hw hS
end Go.Proofs.YtibcmemcfjhgmaaGreatDoor
