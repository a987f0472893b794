/-
  What the library's functions that package hosts calls besides return: IndexFunc at the predicate of a domain's bytes, Join of nothing, Cut, ContainsAny.
-/
import Derived.Test.YtfepgodjaeddgaaGreatDoorR08
import Derived.Test.YtfepgodjaeddgaaGreatDoorR07
import Derived.Lib.MapLaws
set_option maxHeartbeats 1000000
set_option maxRecDepth 100000
namespace Lz
open Go
def hex1 (d:Nat):UInt8:=if d<10 then UInt8.ofNat (48+d)else UInt8.ofNat (87+d)
theorem hexV_hex1:∀d:Fin 16,hexV (hex1 d.val)=some d.val:=by decide +kernel
theorem hexV_hex {d:Nat} (h:d<16):hexV (hex1 d)=some d:=hexV_hex1 ⟨d,h⟩
theorem hexD_small {n:Nat} (h:n<16):hexD n=[hex1 n]:=by
 rw[hexD,dif_pos h,Nat.mod_eq_of_lt h];unfold hex1;rfl
theorem hexD_big {n:Nat} (h:¬n<16):hexD n=hexD (n / 16)++[hex1 (n%16)]:=by
 rw[hexD,dif_neg h];unfold hex1;rfl
def isHexD (c:UInt8):Bool:=isDigit c||(97<=c&&c<=102)
theorem hex1_is1:∀d:Fin 16,isHexD (hex1 d.val)=true:=by decide +kernel
theorem hex1_is {d:Nat} (h:d<16):isHexD (hex1 d)=true:=hex1_is1 ⟨d,h⟩
theorem hexD_chars (n:Nat):∀c∈hexD n,isHexD c=true:=by
 induction n using Nat.strongRecOn with
 | ind n ih=>
   by_cases h:n<16
   ·rw[hexD_small h];intro c hc;rw[List.mem_singleton]at hc;rw[hc];exact hex1_is h
   ·rw[hexD_big h];intro c hc;rcases List.mem_append.1 hc with hc|hc
    ·exact ih (n / 16) (by omega) c hc
    ·rw[List.mem_singleton]at hc;rw[hc];exact hex1_is (by omega)
theorem hexD_ne (n:Nat):hexD n≠[]:=by
 rw[hexD];simp
theorem hexD_len (k:Nat):∀n,n<16^(k+1)->(hexD n).length<=k+1:=by
 induction k with
 | zero=>intro n h;rw[hexD_small (by simpa using h)];simp
 | succ k ih=>
   intro n h;by_cases h1:n<16
   ·rw[hexD_small h1];simp
   ·rw[hexD_big h1];have:=ih (n / 16) (by rw[Nat.pow_succ]at h;omega);simp only[List.length_append,List.length_singleton];omega
def hexF (n:Nat) (c:UInt8):Option Nat:=(hexV c).map (n*16+·)
theorem hexD_fold (n:Nat):(hexD n).foldlM hexF 0=some n:=by
 induction n using Nat.strongRecOn with
 | ind n ih=>
   by_cases h:n<16
   ·rw[hexD_small h]
    simp[List.foldlM_cons,hexF,hexV_hex h]
   ·rw[hexD_big h,List.foldlM_append,ih (n / 16) (by omega)];simp only[Option.bind_eq_bind,Option.bind_some,List.foldlM_cons,List.foldlM_nil,hexF,hexV_hex (show n%16<16 by omega),Option.map_some];show some _=_;congr 1;omega
theorem piece_hexD {n:Nat} (h:n<65536):pieceP (hexD n)=some n:=by
 unfold pieceP;have hl:=hexD_len 3 n (by simpa using h);rw[if_neg]
 ·exact hexD_fold n
 ·rintro(h1|h1)
  ·exact hexD_ne n h1
  ·omega
theorem hexV_lt16:∀c:UInt8,∀d,hexV c=some d->d<16:=by
 intro c;revert c;have:∀c:UInt8,(match hexV c with|some d=>decide (d<16)|none=>true)=true:=byte_all (by decide +kernel);intro c d h;have:=this c;rw[h]at this;simpa using this
theorem hexF_lt {l:Bs}:∀{n m:Nat},l.foldlM hexF n=some m->m<(n+1)*16^l.length:=by
 induction l with
 | nil=>intro n m h;simp at h;simp;omega
 | cons c r ih=>
   intro n m h;rw[List.foldlM_cons]at h;unfold hexF at h;cases hc:hexV c with
   | none=>rw[hc]at h;cases h
   | some d=>
     rw[hc]at h;have hd:=hexV_lt16 c d hc;have h2:=ih (n:=n*16+d) h;rw[List.length_cons,Nat.pow_succ];have:(n*16+d+1)*16^r.length<=((n+1)*16)*16^r.length:=Nat.mul_le_mul_right _ (by omega);rw[Nat.mul_comm (16^r.length) 16,<-Nat.mul_assoc];omega
theorem pieceP_lt {x:Bs} {n:Nat} (h:pieceP x=some n):n<65536:=by
 unfold pieceP at h;split at h
 ·cases h
 ·rename_i hx;have h2:=hexF_lt (l:=x) (n:=0) (m:=n) h;have:(16:Nat)^x.length<=16^4:=Nat.pow_le_pow_right (by omega) (by omega);omega
theorem splitC_free (k:UInt8):∀l:Bs,(∀c∈l,c≠k)->splitC k l=[l]
 | [],_=>rfl
 | c::l,h=>by
   rw[splitC,if_neg (by simpa using h c (by simp)),splitC_free k l (fun x hx=>h x (by simp[hx]))]
theorem splitC_app (k:UInt8):∀(a b:Bs),(∀c∈a,c≠k)->splitC k (a++k::b)=a::splitC k b
 | [],b,_=>by simp[splitC]
 | c::a,b,h=>by
   show splitC k (c::(a++k::b))=_;rw[splitC,if_neg (by simpa using h c (by simp)),splitC_app k a b (fun x hx=>h x (by simp[hx]))]
theorem splitC_join (k:UInt8):∀ls:List Bs,ls≠[]->(∀x∈ls,∀c∈x,c≠k)->splitC k (joinP [k] ls)=ls
 | [],h,_=>absurd rfl h
 | [x],_,h=>by rw[joinP];exact splitC_free k x (h x (by simp))
 | x::y::r,_,h=>by
   rw[joinP,List.append_assoc,List.singleton_append,splitC_app k x _ (h x (by simp)),splitC_join k (y::r) (by simp) (fun z hz=>h z (by simp[hz]))]
theorem joinP_mem {sep:Bs}:∀{ls:List Bs} {c:UInt8},c∈joinP sep ls->c∈sep\/∃x∈ls,c∈x
 | [],c,h=>by simp[joinP]at h
 | [x],c,h=>Or.inr ⟨x,by simp,h⟩
 | x::y::r,c,h=>by
   rw[joinP]at h;rcases List.mem_append.1 h with h|h
   ·rcases List.mem_append.1 h with h|h
    ·exact Or.inr ⟨x,by simp,h⟩
    ·exact Or.inl h
   ·rcases joinP_mem h with h|⟨z,hz,hc⟩
    ·exact Or.inl h
    ·exact Or.inr ⟨z,by simp[hz],hc⟩
theorem joinP_ne {sep:Bs}:∀{ls:List Bs},ls≠[]->(∀x∈ls,x≠[])->joinP sep ls≠[]
 | [],h,_=>absurd rfl h
 | [x],_,h=>h x (by simp)
 | x::y::r,_,h=>by
   rw[joinP];have:=h x (by simp);cases x with
   | nil=>exact absurd rfl this
   | cons a b=>simp
theorem isHexD_not:∀c:UInt8,isHexD c=true->c≠58/\c≠46:=byte_all (by decide +kernel)
theorem hexD_not (n:Nat):∀c∈hexD n,c≠58/\c≠46:=fun c hc=>isHexD_not c (hexD_chars n c hc)
theorem told_row (last:Bool):∀l:List Nat,(∀n∈l,n<65536)->rowP last (l.map hexD)=some l
 | [],_=>rfl
 | n::l,h=>by
   have h46:(hexD n).contains 46=false:=by
    rw[Bool.eq_false_iff];intro hc;exact(hexD_not n 46 (List.contains_iff_mem.1 hc)).2 rfl
   rw[List.map_cons,rowP,h46,piece_hexD (h n (by simp)),told_row last l (fun m hm=>h m (by simp[hm]))]
   simp
theorem told_row_s (last:Bool) (l:List Nat) (h:∀n∈l,n<65536):rowS (toldP l) last=some l:=by
 unfold rowS;by_cases hl:l=[]
 ·rw[hl];rfl
 ·have hne:toldP l≠[]:=by
   unfold toldP;exact joinP_ne (by simpa using hl) (by intro x hx;obtain⟨n,_,rfl⟩:=List.mem_map.1 hx;exact hexD_ne n)
  rw[if_neg hne];unfold toldP;rw[splitC_join 58 _ (by simpa using hl) (by intro x hx c hc;obtain⟨n,_,rfl⟩:=List.mem_map.1 hx;exact(hexD_not n c hc).1)];exact told_row last l h
def oneCol:Bs->Bool
 | []=>true
 | [c]=>c != 58
 | c::d::r=>(c != 58||d != 58)&&oneCol (d::r)
theorem index_oneCol:∀(a b:Bs),oneCol a=true->Lib.index (a++58::58::b) [58,58]=a.length
 | [],b,_=>by rw[List.nil_append,show(58::58::b:Bs)=[58,58]++b from rfl,index_here _ _ (by simp)];rfl
 | [c],b,h=>by
   have hc:c≠58:=by simpa [oneCol]using h
   show Lib.index (c::([]++58::58::b)) [58,58]=_;rw[index_cons_miss hc,index_oneCol [] b rfl];rfl
 | c::d::r,b,h=>by
   simp only[oneCol,Bool.and_eq_true,Bool.or_eq_true,bne_iff_ne]at h;have ih:=index_oneCol (d::r) b h.2
   have hp:([58,58]:Bs).isPrefixOf (c::d::(r++58::58::b))=false:=by
    rw[Bool.eq_false_iff];intro hh;simp only[List.isPrefixOf,Bool.and_eq_true,beq_iff_eq]at hh;rcases h.1 with h1|h1
    ·exact h1 hh.1.symm
    ·exact h1 hh.2.1.symm
   show Lib.index (c::d::(r++58::58::b)) [58,58]=_;rw[Lib.index,hp];simp only[Bool.false_eq_true,if_false];rw[show(d::(r++58::58::b):Bs)=(d::r)++58::58::b from rfl,ih];rw[if_neg (by simp;omega)]
   simp
theorem index_oneCol_none:∀(a:Bs),oneCol a=true->Lib.index a [58,58]= -1
 | [],_=>rfl
 | [c],h=>by
   have hc:c≠58:=by simpa [oneCol]using h
   rw[index_cons_miss hc];rfl
 | c::d::r,h=>by
   simp only[oneCol,Bool.and_eq_true,Bool.or_eq_true,bne_iff_ne]at h;have ih:=index_oneCol_none (d::r) h.2
   have hp:([58,58]:Bs).isPrefixOf (c::d::r)=false:=by
    rw[Bool.eq_false_iff];intro hh;simp only[List.isPrefixOf,Bool.and_eq_true,beq_iff_eq]at hh;rcases h.1 with h1|h1
    ·exact h1 hh.1.symm
    ·exact h1 hh.2.1.symm
   rw[Lib.index,hp];simp only[Bool.false_eq_true,if_false];rw[ih];rfl
theorem oneCol_app:∀(x b:Bs),(∀c∈x,c≠58)->x≠[]->oneCol b=true->b.head? ≠some 58->oneCol (x++b)=true
 | [],_,_,h,_,_=>absurd rfl h
 | [c],[],h,_,_,_=>by simpa [oneCol]using h c (by simp)
 | [c],d::r,h,_,hb,_=>by
   show oneCol (c::d::r)=true;rw[oneCol,hb];simpa using Or.inl (h c (by simp))
 | c::d::r,b,h,_,hb,hh=>by
   show oneCol (c::d::(r++b))=true;rw[oneCol,show(d::(r++b):Bs)=(d::r)++b from rfl,oneCol_app (d::r) b (fun z hz=>h z (by simp[hz])) (by simp) hb hh];simpa using Or.inl (h c (by simp))
theorem oneCol_sep:∀(x b:Bs),(∀c∈x,c≠58)->x≠[]->oneCol b=true->b≠[]->b.head? ≠some 58->oneCol (x++58::b)=true
 | [],_,_,h,_,_,_=>absurd rfl h
 | [c],[],_,_,_,h,_=>absurd rfl h
 | [c],d::r,h,_,hb,_,hh=>by
   show oneCol (c::58::d::r)=true;have hd:d≠58:=by simpa using hh
   rw[oneCol,oneCol,hb]
   simp[h c (by simp),hd]
 | c::d::r,b,h,_,hb,hn,hh=>by
   show oneCol (c::d::(r++58::b))=true;rw[oneCol,show(d::(r++58::b):Bs)=(d::r)++58::b from rfl,oneCol_sep (d::r) b (fun z hz=>h z (by simp[hz])) (by simp) hb hn hh];simpa using Or.inl (h c (by simp))
theorem told_head (l:List Nat):(toldP l).head? ≠some 58:=by
 unfold toldP
 match l with
 | []=>simp[joinP]
 | [n]=>
   show(hexD n).head? ≠_;intro h;cases hx:hexD n with
   | nil=>rw[hx]at h;cases h
   | cons c r=>rw[hx]at h;exact(hexD_not n c (by rw[hx];simp)).1 (by simpa using h)
 | n::m::r=>
   show(hexD n++[58]++_).head? ≠_;intro h;cases hx:hexD n with
   | nil=>exact hexD_ne n hx
   | cons c r=>rw[hx]at h;exact(hexD_not n c (by rw[hx];simp)).1 (by simpa using h)
theorem told_ne {l:List Nat} (h:l≠[]):toldP l≠[]:=by
 unfold toldP;exact joinP_ne (by simpa using h) (by intro x hx;obtain⟨n,_,rfl⟩:=List.mem_map.1 hx;exact hexD_ne n)
theorem told_col:∀l:List Nat,oneCol (toldP l)=true
 | []=>rfl
 | [n]=>by
   have:=oneCol_app (hexD n) [] (fun c hc=>(hexD_not n c hc).1) (hexD_ne n) rfl (by simp);rw[List.append_nil]at this;exact this
 | n::m::r=>by
   show oneCol (hexD n++[58]++toldP (m::r))=true;rw[List.append_assoc,List.singleton_append];exact oneCol_sep _ _ (fun c hc=>(hexD_not n c hc).1) (hexD_ne n) (told_col (m::r)) (told_ne (by simp)) (told_head _)
theorem cut_told (l r:List Nat):Lib.cut (toldP l++[58,58]++toldP r) [58,58]=(toldP l,toldP r,true):=by
 have h:=index_oneCol (toldP l) (toldP r) (told_col l);unfold Lib.cut;rw[show toldP l++[58,58]++toldP r=toldP l++58::58::toldP r by simp,h];rw[if_pos (by omega)]
 simp
theorem cut_none (l:List Nat):Lib.cut (toldP l) [58,58]=(toldP l,[],false):=cut_miss _ _ (index_oneCol_none _ (told_col l))
def RunOk (a:List Nat) (f:Nat×Nat):Prop:=f=(0,0)\/(f.1+2<=f.2/\f.2<=a.length/\∀k,f.1<=k->k<f.2->a[k]? =some 0)
theorem zeros_all (l:List Nat):zerosP l<=l.length/\∀k,k<zerosP l->l[k]? =some 0:=by
 unfold zerosP
 induction l with
 | nil=>simp
 | cons x r ih=>
   rw[List.takeWhile_cons];by_cases h:x=0
   ·simp only[h,beq_self_eq_true,if_true,List.length_cons];refine⟨by omega,fun k hk=>?_⟩;cases k with
    | zero=>rfl
    | succ k=>simpa using ih.2 k (by omega)
   ·simp[h]
theorem run_ok (a:List Nat):∀(n i:Nat) (f:Nat×Nat),a.length-i=n->RunOk a f->RunOk a (runP i (a.drop i) f):=by
 intro n
 induction n with
 | zero=>intro i f hn hf;rw[List.drop_eq_nil_of_le (by omega)];exact hf
 | succ n ih=>
   intro i f hn hf;have hi:i<a.length:=by omega
   have hd:=List.drop_eq_getElem_cons hi;rw[hd,runP,<-hd];refine ih (i+1) _ (by omega) ?_;split
   ·rename_i hm;have hz:=zeros_all (a.drop i);rw[List.length_drop]at hz;refine Or.inr ⟨by show i+2<=i+zerosP _;omega,by show i+zerosP _<=_;omega,fun k h1 h2=>?_⟩;have:=hz.2 (k-i) (by show k-i<zerosP _;have:k<i+zerosP (a.drop i):=h2;have:i<=k:=h1;omega);rw[List.getElem?_drop,show i+(k-i)=k by have:i<=k:=h1;omega]at this;exact this
   ·exact hf
theorem run_ok0 (a:List Nat):RunOk a (runP 0 a (0,0)):=by
 have:=run_ok a _ 0 (0,0) rfl (Or.inl rfl)
 rwa [List.drop_zero]at this
theorem six_back (a:List Nat) (h8:a.length=8) (hl:∀n∈a,n<65536):sixP (textP a)=some a:=by
 unfold textP;have hr:=run_ok0 a;generalize runP 0 a (0,0)=f at hr⊢;obtain⟨f,t⟩:=f;by_cases he:f=t
 ·rw[if_pos he];unfold sixP;rw[cut_none]
  have hne:(toldP a).isEmpty=false:=by
   rw[List.isEmpty_eq_false_iff];exact told_ne (by intro h;rw[h]at h8;cases h8)
  simp only[hne,told_row_s _ a hl,show rowS [] true=some []from rfl,List.append_nil,List.length_nil,Nat.add_zero,h8,Lib.hasPrefix]
  simp
 ·rcases hr with hr|⟨h1,h2,h3⟩
  ·exact absurd (by injection hr with a b;rw[a,b]) he
  ·simp only at h1 h2 h3;rw[if_neg (by exact he)];unfold sixP;rw[cut_told]
   have hp:Lib.hasPrefix (toldP (a.drop t)) [58]=false:=by
    rw[Bool.eq_false_iff];intro hh;unfold Lib.hasPrefix at hh;have:=told_head (a.drop t);cases hx:toldP (a.drop t)with
    | nil=>rw[hx]at hh;cases hh
    | cons c r=>rw[hx]at hh this;simp[List.isPrefixOf]at hh;exact this (by simp[hh])
   simp only[hp,told_row_s _ (a.take f) (fun n hn=>hl n (List.mem_of_mem_take hn)),told_row_s _ (a.drop t) (fun n hn=>hl n (List.mem_of_mem_drop hn))];simp only[Bool.not_true,Bool.false_and,Bool.or_self,Bool.false_eq_true,if_false,if_true,List.length_take,List.length_drop];rw[if_neg (by omega)];congr 1
   apply List.ext_getElem?
   intro k;by_cases hk:k<f
   ·rw[List.append_assoc,List.getElem?_append_left (by simp;omega),List.getElem?_take,if_pos hk]
   ·rw[List.append_assoc,List.getElem?_append_right (by simp;omega)];by_cases hkt:k<t
    ·rw[List.getElem?_append_left (by simp;omega),List.getElem?_replicate,if_pos (by simp;omega),h3 k (by omega) hkt]
    ·rw[List.getElem?_append_right (by simp;omega),List.getElem?_drop];congr 1
     simp;omega
theorem bytesP_ok {x:Bs} {l:List Nat} (h:bytesP x=some l):l.length=4/\∀n∈l,n<256:=by
 unfold bytesP at h;cases hm:(splitC 46 x).mapM byteP with
 | none=>rw[hm]at h;cases h
 | some m=>
   rw[hm]at h
   have:∀(xs:List Bs) (m:List Nat),xs.mapM byteP=some m->∀n∈m,n<256:=by
    intro xs
    induction xs with
    | nil=>intro m h n hn;simp at h;rw[h]at hn;cases hn
    | cons x r ih=>
      intro m h n hn;rw[List.mapM_cons]at h;cases hx:byteP x with
      | none=>rw[hx]at h;cases h
      | some v=>
        rw[hx]at h;cases hr:r.mapM byteP with
        | none=>rw[hr]at h;cases h
        | some ms=>
          rw[hr]at h;have h:some (v::ms)=some m:=h;injection h with h
          rw[<-h]at hn;rcases List.mem_cons.1 hn with rfl|hn
          ·unfold byteP at hx;split at hx
           ·rename_i u hu;have:=Lib.parseUintB_le hu;split at hx
            ·injection hx with hx;omega
            ·cases hx
           ·cases hx
          ·exact ih ms hr n hn
   simp only at h;split at h
   ·injection h with h;rw[<-h];exact⟨by assumption,this _ _ hm⟩
   ·cases h
theorem four_form {b:List Nat} (h:b.length=4):∃p q s t,b=[p,q,s,t]:=by
 cases b with
 | nil=>cases h
 | cons p b=>cases b with
   | nil=>cases h
   | cons q b=>cases b with
     | nil=>cases h
     | cons s b=>cases b with
       | nil=>cases h
       | cons t b=>cases b with
         | nil=>exact⟨p,q,s,t,rfl⟩
         | cons _ _=>simp at h
theorem rowP_ok (last:Bool):∀(ls:List Bs) (l:List Nat),rowP last ls=some l->∀n∈l,n<65536
 | [],l,h,n,hn=>by simp[rowP]at h;rw[h]at hn;cases hn
 | x::r,l,h,n,hn=>by
   rw[rowP]at h;split at h
   ·cases hb:bytesP x with
    | none=>rw[hb]at h;cases h
    | some b=>
      rw[hb]at h;obtain⟨h4,hlt⟩:=bytesP_ok hb;obtain⟨p,q,s,t,rfl⟩:=four_form h4;simp only[Option.map_some,List.getD_cons_zero,List.getD_cons_succ]at h;injection h with h
      rw[<-h]at hn;have:=hlt p (by simp);have:=hlt q (by simp);have:=hlt s (by simp);have:=hlt t (by simp);simp only[List.mem_cons,List.not_mem_nil,or_false]at hn;rcases hn with rfl|rfl<;>omega
   ·cases hp:pieceP x with
    | none=>rw[hp]at h;cases h
    | some v=>
      rw[hp]at h;simp only at h;cases hr:rowP last r with
      | none=>rw[hr]at h;cases h
      | some m=>
        rw[hr]at h;simp only[Option.map_some]at h;injection h with h
        rw[<-h]at hn;rcases List.mem_cons.1 hn with rfl|hn
        ·exact pieceP_lt hp
        ·exact rowP_ok last r m hr n hn
theorem rowS_ok {s:Bs} {last:Bool} {l:List Nat} (h:rowS s last=some l):∀n∈l,n<65536:=by
 unfold rowS at h;split at h
 ·injection h with h;rw[<-h];intro n hn;cases hn
 ·exact rowP_ok _ _ _ h
theorem six_ok {s:Bs} {a:List Nat} (h:sixP s=some a):a.length=8/\∀n∈a,n<65536:=by
 unfold sixP at h;simp only at h;split at h
 ·cases h
 ·split at h
  ·rename_i x y hx hy;have h1:=rowS_ok hx;have h2:=rowS_ok hy;split at h
   ·split at h
    ·cases h
    ·injection h with h
     rw[<-h];refine⟨by simp;omega,fun n hn=>?_⟩;simp only[List.mem_append,List.mem_replicate]at hn;rcases hn with(hn|hn)|hn
     ·exact h1 n hn
     ·omega
     ·exact h2 n hn
   ·split at h
    ·injection h with h
     rw[<-h];refine⟨by simpa using by assumption,fun n hn=>?_⟩;rcases List.mem_append.1 hn with hn|hn
     ·exact h1 n hn
     ·exact h2 n hn
    ·cases h
  ·cases h
theorem num_dec1:∀n:Fin 256,numP (Lib.decDigits n.val)=some n.val:=by decide +kernel
theorem num_dec {n:Nat} (h:n<256):numP (Lib.decDigits n)=some n:=num_dec1 ⟨n,h⟩
theorem dig_not:∀c:UInt8,isDigit c=true->c≠46/\c≠58/\c≠37/\low1 c=c/\oddB c=false/\banned.contains c=false/\(c<32||126<c)=false:=byte_all (by decide +kernel)
theorem dotted_chars (b:List Nat):∀c∈dottedP b,isDigit c=true\/c=46:=by
 intro c hc;unfold dottedP at hc;rcases joinP_mem hc with h|⟨x,hx,h⟩
 ·right;simpa using h
 ·obtain⟨n,_,rfl⟩:=List.mem_map.1 hx;exact Or.inl (dec_digit n c h)
theorem dotted_split {b:List Nat} (hb:b≠[]):splitC 46 (dottedP b)=b.map fun x=>Lib.decDigits x:=by
 unfold dottedP;exact splitC_join 46 _ (by simpa using hb) (by intro x hx c hc;obtain⟨n,_,rfl⟩:=List.mem_map.1 hx;exact(dig_not c (dec_digit n c hc)).1)
theorem labels_dotted {b:List Nat} (hb:b≠[]):labelsP (dottedP b)=b.map fun x=>Lib.decDigits x:=by
 unfold labelsP;rw[dotted_split hb,if_neg];rintro⟨_,h⟩;rw[List.getLast?_map]at h;cases hl:b.getLast? with
 | none=>rw[hl]at h;cases h
 | some x=>rw[hl]at h;exact dec_ne x (Option.some.inj h)
theorem fourB_dec (b:List Nat) (n:Nat) (h:b.length<=n) (hn:n=4) (hl:∀x∈b,x<256):fourB n (b.map fun x=>Lib.decDigits x)=some b:=by
 subst hn
 induction b with
 | nil=>rfl
 | cons x r ih=>
   have hx:x<256:=hl x (by simp);rw[List.map_cons,fourB,num_dec hx];have hm:(if(r.map fun x=>Lib.decDigits x)=[]then 5-4 else 1)=1:=by split<;>rfl
   simp only[hm];rw[if_neg (by omega),ih (fun y hy=>hl y (List.mem_cons_of_mem _ hy)) (by simp at h;omega)]
   have:(List.range 1).reverse.map (fun k=>x / 256^k%256)=[x]:=by
    show[x / 256^0%256]=[x];rw[Nat.pow_zero,Nat.div_one,Nat.mod_eq_of_lt hx]
   rw[this];rfl
theorem four_dotted {b:List Nat} (h4:b.length=4) (hl:∀x∈b,x<256):fourP (labelsP (dottedP b))=some (dottedP b):=by
 have hb:b≠[]:=by intro h;rw[h]at h4;cases h4
 unfold fourP;rw[labels_dotted hb,List.length_map,h4,if_neg (by omega),fourB_dec b 4 (by omega) rfl hl];rfl
def labB (many v:Nat):List Nat:=(List.range many).reverse.map fun k=>v / 256^k%256
theorem labB_lt {many v x:Nat} (h:x∈labB many v):x<256:=by
 unfold labB at h;simp only[List.mem_map,List.mem_reverse]at h;obtain⟨k,_,rfl⟩:=h;exact Nat.mod_lt _ (by omega)
theorem labB_len (many v:Nat):(labB many v).length=many:=by unfold labB;simp
theorem fourB_cons (n:Nat) (s:Bs) (r:List Bs):fourB n (s::r)=match numP s with
 | none=>none
 | some v=>if 0<v / 256^(if r=[]then 5-n else 1)then none else(fourB n r).map fun t=>labB (if r=[]then 5-n else 1) v++t:=rfl
theorem fourB_inv {n:Nat} {s:Bs} {r:List Bs} {b:List Nat} (h:fourB n (s::r)=some b):∃v t,numP s=some v/\fourB n r=some t/\b=labB (if r=[]then 5-n else 1) v++t:=by
 rw[fourB_cons]at h;cases hv:numP s with
 | none=>rw[hv]at h;cases h
 | some v=>
   rw[hv]at h;simp only at h;generalize (if r=[]then 5-n else 1)=m at h⊢;by_cases h0:0<v / 256^m
   ·rw[if_pos h0]at h;cases h
   ·rw[if_neg h0]at h;cases hr:fourB n r with
    | none=>rw[hr]at h;cases h
    | some t=>
      rw[hr]at h;exact⟨v,t,rfl,rfl,(Option.some.inj h).symm⟩
theorem fourB_len:∀(l:List Bs) (n:Nat) (b:List Nat),l≠[]->l.length<=n->n<=4->fourB n l=some b->b.length=l.length+(4-n)/\∀x∈b,x<256
 | [],n,b,h,_,_,_=>absurd rfl h
 | s::r,n,b,_,hl,hn,h=>by
   obtain⟨v,t,hv,hr,rfl⟩:=fourB_inv h;simp only[List.length_cons]at hl⊢;rw[List.length_append,labB_len];by_cases hr0:r=[]
   ·rw[hr0,fourB]at hr;injection hr with hr
    rw[hr0,if_pos rfl,<-hr];refine⟨by simp;omega,fun x hx=>?_⟩;rw[List.append_nil]at hx;exact labB_lt hx
   ·rw[if_neg hr0];obtain⟨h1,h2⟩:=fourB_len r n t hr0 (by omega) hn hr;refine⟨by omega,fun x hx=>?_⟩;rcases List.mem_append.1 hx with hx|hx
    ·exact labB_lt hx
    ·exact h2 x hx
theorem four_ok {l:List Bs} {t:Bs} (hl:l≠[]) (h:fourP l=some t):∃b:List Nat,b.length=4/\(∀x∈b,x<256)/\t=dottedP b:=by
 unfold fourP at h;split at h
 ·cases h
 ·cases hb:fourB l.length l with
  | none=>rw[hb]at h;cases h
  | some b=>
    rw[hb]at h;injection h with h
    obtain⟨h1,h2⟩:=fourB_len l l.length b hl (Nat.le_refl _) (by omega) hb;exact⟨b,by omega,h2,h.symm⟩
theorem labels_ne (s:Bs):labelsP s≠[]:=by
 have hne:splitC 46 s≠[]:=by
  cases s with
  | nil=>simp[splitC]
  | cons b r=>
    rw[splitC];split
    ·simp
    ·split<;>simp
 unfold labelsP;split
 ·rename_i h;intro h2;have:=congrArg List.length h2
  simp at this;omega
 ·exact hne
theorem triple_not {c:UInt8} (h:c≠37) (r:Bs):tripleP (c::r)=none:=by
 unfold tripleP;split
 ·rename_i heq;injection heq with h1 _
  exact absurd h1 h
 ·rfl
theorem decode_cons {c:UInt8} {r:Bs} {x:Bs} (h:tripleP (c::r)=none) (hx:decodeP r=x):decodeP (c::r)=c::x:=by
 rw[decodeP,h];simp[hx]
theorem decode_free:∀l:Bs,(∀c∈l,c≠37)->decodeP l=l
 | [],_=>by rw[decodeP]
 | c::r,h=>decode_cons (triple_not (h c (by simp)) r) (decode_free r fun x hx=>h x (by simp[hx]))
theorem encode_none (of:Bs) (l:Bs) (h:∀c∈l,(c<32||126<c||of.contains c)=false):encodeP of l=l:=by
 unfold encodeP
 induction l with
 | nil=>rfl
 | cons c r ih=>rw[List.flatMap_cons,h c (by simp),ih fun x hx=>h x (by simp[hx])];rfl
theorem low_none (l:Bs) (h:∀c∈l,low1 c=c):low l=l:=by
 unfold low
 induction l with
 | nil=>rfl
 | cons c r ih=>rw[List.map_cons,h c (by simp),ih fun x hx=>h x (by simp[hx])]
def DomOk (d:Bs):Prop:=d≠[]/\d.any oddB=false/\low d=d/\(numberedP d=false\/fourP (labelsP d)=some d)
theorem odd_not:∀c:UInt8,oddB c=false->c≠37/\c≠91/\banned.contains c=false/\(c<32||126<c)=false:=byte_all (by decide +kernel)
theorem any_false {p:UInt8->Bool} {l:Bs} (h:l.any p=false):∀c∈l,p c=false:=by
 intro c hc;rw[List.any_eq_false]at h;simpa using h c hc
theorem dom_again {d:Bs} (h:DomOk d) (special:Bool):hostPr d special=.ok d:=by
 obtain⟨h1,h2,h3,h4⟩:=h;have hc:=any_false h2
 have h91:d[0]? ≠some 91:=by
  intro h;have:=List.mem_of_getElem? h;exact(odd_not 91 (hc 91 this)).2.1 rfl
 unfold hostPr;rw[if_neg h91];cases special
 ·have hb:d.any banned.contains=false:=by
   rw[List.any_eq_false];intro c hc';have:=(odd_not c (hc c hc')).2.2.1;rw[this];simp
  rw[if_neg (by simp),hb,if_neg (by simp),encode_none];intro c hc';have:=(odd_not c (hc c hc')).2.2.2;rw[this];rfl
 ·rw[if_pos rfl];unfold domainP;rw[decode_free d fun c hc'=>(odd_not c (hc c hc')).1];simp only[h3];rw[if_neg (by rw[h2];simp[h1])];rcases h4 with h4|h4
  ·rw[h4];rfl
  ·cases hn:numberedP d
   ·rfl
   ·rw[h4];rfl
theorem dom_ok {s d:Bs} (h:domainP s=.ok d):DomOk d:=by
 unfold domainP at h;simp only at h;generalize hx:low (decodeP s)=x at h;split at h
 ·cases h
 ·rename_i hn;have hn1:x≠[]:=fun e=>hn (Or.inl e);have hn2:x.any oddB=false:=by rw[<-Bool.not_eq_true];exact fun e=>hn (Or.inr e)
  split at h
  ·cases hf:fourP (labelsP x)with
   | none=>rw[hf]at h;cases h
   | some t=>
     rw[hf]at h;simp only[ofO]at h;injection h with h
     rw[<-h];obtain⟨b,h4,hl,rfl⟩:=four_ok (labels_ne x) hf;have hb:b≠[]:=by intro h;rw[h]at h4;cases h4
     refine⟨?_,?_,?_,Or.inr (four_dotted h4 hl)⟩
     ·unfold dottedP;exact joinP_ne (by simpa using hb) (by intro x hx;obtain⟨n,_,rfl⟩:=List.mem_map.1 hx;exact dec_ne n)
     ·rw[List.any_eq_false];intro c hc;rcases dotted_chars b c hc with h|rfl
      ·rw[(dig_not c h).2.2.2.2.1];simp
      ·decide
     ·apply low_none
      intro c hc;rcases dotted_chars b c hc with h|rfl
      ·exact(dig_not c h).2.2.2.1
      ·decide
  ·rename_i hnn;injection h with h
   rw[<-h];exact⟨hn1,hn2,by rw[<-hx,low_low],Or.inl (by simpa using hnn)⟩
theorem wrap_six (a:List Nat) (h8:a.length=8) (hl:∀n∈a,n<65536) (special:Bool):hostPr ([91]++textP a++[93]) special=.ok ([91]++textP a++[93]):=by
 unfold hostPr;rw[if_pos (by simp)]
 have h1:¬(([91]++textP a++[93]:Bs).length<2\/([91]++textP a++[93]:Bs).getLast? ≠some 93):=by
  rw[List.getLast?_append];simp
 rw[if_neg h1];have h2:(([91]++textP a++[93]:Bs).drop 1).dropLast=textP a:=by simp
 rw[h2,six_back a h8 hl];rfl
theorem not_enc:∀c:UInt8,banned.contains c=false->∀x∈(if c<32||126<c||([]:Bs).contains c then[37,digitU (c.toNat / 16),digitU (c.toNat%16)]else[c]:Bs),banned.contains x=false/\(x<32||126<x)=false:=by
 have:∀c:UInt8,(banned.contains c||(if c<32||126<c||([]:Bs).contains c then[37,digitU (c.toNat / 16),digitU (c.toNat%16)]else[c]:Bs).all fun x=> !banned.contains x&& !(x<32||126<x))=true:=byte_all (by decide +kernel);intro c hc x hx;have h:=this c;rw[hc,Bool.false_or,List.all_eq_true]at h;simpa using h x hx
theorem enc_ok {s:Bs} (h:s.any banned.contains=false):∀x∈encodeP [] s,banned.contains x=false/\(x<32||126<x)=false:=by
 intro x hx;unfold encodeP at hx;obtain⟨c,hc,hx⟩:=List.mem_flatMap.1 hx;exact not_enc c (any_false h c hc) x hx
theorem other_again {s:Bs} (h:s.any banned.contains=false):hostPr (encodeP [] s) false=.ok (encodeP [] s):=by
 have hc:=enc_ok h
 have h91:(encodeP [] s)[0]? ≠some 91:=by
  intro h;have:=(hc 91 (List.mem_of_getElem? h)).1;exact absurd this (by decide)
 unfold hostPr;rw[if_neg h91,if_neg (by simp)]
 have hb:(encodeP [] s).any banned.contains=false:=by
  rw[List.any_eq_false];intro c hc';rw[(hc c hc').1];simp
 rw[hb,if_neg (by simp),encode_none];intro c hc';rw[(hc c hc').2];rfl
theorem host_again_true {s h:Bs} (e:hostPr s true=.ok h):hostPr h true=.ok h/\hostPr h false=.ok h/\h≠[]:=by
 unfold hostPr at e;split at e
 ·split at e
  ·cases e
  ·cases ha:sixP ((s.drop 1).dropLast)with
   | none=>rw[ha]at e;cases e
   | some a=>
     rw[ha]at e;simp only[Option.map_some,ofO]at e;injection e with e
     rw[<-e];obtain⟨h8,hl⟩:=six_ok ha;exact⟨wrap_six a h8 hl true,wrap_six a h8 hl false,by simp⟩
 ·rw[if_pos rfl]at e;have:=dom_ok e;exact⟨dom_again this true,dom_again this false,this.1⟩
theorem host_again_false {s h:Bs} (e:hostPr s false=.ok h):hostPr h false=.ok h:=by
 unfold hostPr at e;split at e
 ·split at e
  ·cases e
  ·cases ha:sixP ((s.drop 1).dropLast)with
   | none=>rw[ha]at e;cases e
   | some a=>
     rw[ha]at e;simp only[Option.map_some,ofO]at e;injection e with e
     rw[<-e];obtain⟨h8,hl⟩:=six_ok ha;exact wrap_six a h8 hl false
 ·rw[if_neg (by simp)]at e;split at e
  ·cases e
  ·rename_i hb;injection e with e
   rw[<-e];exact other_again (by simpa using hb)
theorem host_err_true (s:Bs) (n:Nat) (e:hostPr s true=.er n):n=70\/n=71\/n=72:=by
 unfold hostPr domainP ofO at e;simp only at e
 repeat' split at e
 all_goals first |(injection e with e;omega)|cases e|(rename_i h;cases h)
theorem host_err_false (s:Bs) (n:Nat) (e:hostPr s false=.er n):n=70\/n=72:=by
 unfold hostPr ofO at e
 repeat' split at e
 all_goals first |(injection e with e;omega)|cases e|(rename_i h;cases h)
def baseD (b n:Nat):Bs:=if _h:n<b\/b<2 then[hex1 n]else baseD b (n / b)++[hex1 (n%b)]
 termination_by n
 decreasing_by exact Nat.div_lt_self (by omega) (by omega)
theorem baseD_small {b n:Nat} (h:n<b):baseD b n=[hex1 n]:=by rw[baseD,dif_pos (Or.inl h)]
theorem baseD_big {b n:Nat} (hb:2<=b) (h:¬n<b):baseD b n=baseD b (n / b)++[hex1 (n%b)]:=by rw[baseD,dif_neg (by omega)]
theorem baseD_hex (n:Nat):baseD 16 n=hexD n:=by
 induction n using Nat.strongRecOn with
 | ind n ih=>
   by_cases h:n<16
   ·rw[baseD_small h,hexD_small h]
   ·rw[baseD_big (by omega) h,hexD_big h,ih (n / 16) (by omega)]
def ipP (s:Bs):Bool:=match hostPr s true with
 | .ok h=>h==s&&(s[0]? ==some 91||numberedP s)
 | .er _=>false
end Lz
namespace Lz
theorem mask15 (x:Nat):x&&& 15=x%16:=Nat.and_two_pow_sub_one_eq_mod x 4
end Lz
namespace Go.Proofs.YtfepgodjaeddgaaGreatDoor
open Go.RowKit
theorem pow2_16 (w:World):Calls Tryz.prog 260 #[.int .i64 16] w fun e w'=>e=.returned (.bool true)/\w=w':=by
 go_enter Tryz.func260,Tryz.ntmps260
 go_wp2
 go_ret;exact⟨rfl,rfl⟩
theorem db_at16:IntKind.u64.wrap (bits BinOp.and IntKind.u64 16 (IntKind.u64.wrap (-16))*285870213051353865) / 288230376151711744=15:=by decide +kernel
theorem tz64_16 (w:World) (h:w.cell? ⟨8,15,none⟩=some (.int .u8 4)):Calls Tryz.prog 283 #[.int .u64 16] w fun e w'=>e=.returned (.int .i64 4)/\w=w':=by
 have hx:=db_at16;go_enter Tryz.func283,Tryz.ntmps283
 go_wp2
 go_ret;exact⟨rfl,rfl⟩
theorem tz_16 (w:World) (h:w.cell? ⟨8,15,none⟩=some (.int .u8 4)):Calls Tryz.prog 261 #[.int .u64 16] w fun e w'=>e=.returned (.int .i64 4)/\w=w':=by
 go_enter Tryz.func261,Tryz.ntmps261
 go_wp2_with fail
 refine(tz64_16 _ h).mono ?_;rintro e w' ⟨rfl,rfl⟩
 go_wp2
 go_ret;exact⟨rfl,rfl⟩
def RFmt (l:List UInt8) (w:World) (e:Ending) (w':World):Prop:=∃(u:ByteArray) (v:Value),e=.returned (.tuple #[v,.string u])/\Hid (u.data.toList=l)/\Below w.heap.size w w'
theorem zero65:Tryz.zeroCells272=((List.replicate 65 (0:UInt8)).map fun c=>Value.int .u8 (c.toNat:Int)).toArray:=by kernel_rfl
theorem byteRow_cells (w:World) (l:List UInt8) (T:TypeId):ByteRow (w.alloc (.cells (l.map fun c=>Value.int .u8 (c.toNat:Int)).toArray T)) w.heap.size l:=by
 intro j c h;refine⟨?_,?_⟩
 ·rw[World.cell?_alloc_mark];simp[h]
 ·simp
theorem fmt_len (b:Nat) (hb:8<=b) (u m n:Nat) (hu:b<=u) (h:u*b^m<=n) (hn:n<=1099511627776):m+1<=13:=by
 rcases Nat.lt_or_ge m 13 with h1|h1
 ·omega
 ·exfalso
  have h2:8^13<=b^m:=Nat.le_trans (Nat.pow_le_pow_left hb 13) (Nat.pow_le_pow_right (by omega) h1);have h3:8*8^13<=u*b^m:=Nat.mul_le_mul (by omega) h2;omega
theorem digs1:∀d:Fin 16,(⟨#[48,49,50,51,52,53,54,55,56,57,97,98,99,100,101,102,103,104,105,106,107,108,109,110,111,112,113,114,115,116,117,118,119,120,121,122]⟩:ByteArray)[d.val]'(Nat.lt_trans d.isLt (by decide))=Lz.hex1 d.val:=by decide +kernel
theorem digs (d:Nat) (h:d<16) {h':d<(⟨#[48,49,50,51,52,53,54,55,56,57,97,98,99,100,101,102,103,104,105,106,107,108,109,110,111,112,113,114,115,116,117,118,119,120,121,122]⟩:ByteArray).size}:(⟨#[48,49,50,51,52,53,54,55,56,57,97,98,99,100,101,102,103,104,105,106,107,108,109,110,111,112,113,114,115,116,117,118,119,120,121,122]⟩:ByteArray)[d]'h'=Lz.hex1 d:=digs1 ⟨d,h⟩
theorem fmtBits_16 (n:Nat) (hn:n<=1099511627776) (w:World) (h:w.cell? ⟨8,15,none⟩=some (.int .u8 4)):Calls Tryz.prog 235 #[.slice none 0 0,.int .u64 n,.int .i64 16,.bool false,.bool false] w (RFmt (Lz.baseD 16 n) w):=by
 have hmade:=byteRow_cells w (List.replicate 65 0) 272;rw[<-zero65]at hmade;have hb0:Below w.heap.size w (w.alloc (.cells Tryz.zeroCells272 272)):=(Below.refl _ w).alloc (Nat.le_refl _) _
 have h':(w.alloc (.cells Tryz.zeroCells272 272)).cell? ⟨8,15,none⟩=some (.int .u8 4):=by
  rw[World.cell?_alloc_lt _ _ ⟨8,15,none⟩ (World.block_lt_of_cell? _ _ h)];exact h
 have Hm:=Ih hmade;have H0:=Ih hb0;have Ht:=Ih h';have HN:=Ih hn;clear hmade hb0 h' h;go_enter Tryz.func235,Tryz.ntmps235
 go_wp2_with fail
 refine(pow2_16 _).mono ?_;rintro e w' ⟨rfl,rfl⟩
 go_wp2_with fail
 refine(tz_16 _ Ht.out).mono ?_;rintro e w' ⟨rfl,rfl⟩;have hrow0:=Hm.out;have hbx:=H0.out;generalize w.alloc (.cells Tryz.zeroCells272 272)=wx at hrow0 hbx⊢;clear Hm H0 Ht
 go_wp2_with fail
 go_loopw [1,13] (fun a i wr=>∃(u:Nat) (D L:List UInt8),D.length<=13/\u<=1099511627776/\a=.int .u64 u/\i=.int .i64 ((65-D.length:Nat):Int)/\ByteRow wr w.heap.size L/\Hid (L.length=65)/\Hid (L.drop (65-D.length)=D)/\Hid (Lz.baseD 16 n=Lz.baseD 16 u++D)/\Hid (u*16^D.length<=n)/\Below w.heap.size w wr) (fun a _ _=>(intOf a).toNat)
 case atStart=>exact⟨n,[],List.replicate 65 0,by simp,HN.out,rfl,rfl,hrow0,Ih (by simp),Ih (by simp),Ih (by simp),Ih (by simp),hbx⟩
 case round=>
  clear hrow0 hbx;obtain⟨u,D,L,hD,hu,rfl,rfl,hrow,hL,hLD,hE,hle,hb⟩:=hrel;obtain⟨i,hi⟩:∃i:Nat,i=64-D.length:=⟨_,rfl⟩;have hi1:65-D.length=i+1:=by omega
  have hi2:i<65:=by omega
  rw[hi1];have hLD2:Hid (L.drop (i+1)=D):=by show _=_;have:=hLD.out;rw[hi1]at this;exact this
  obtain⟨c0,hc0⟩:∃c,L[i]? =some c:=⟨_,List.getElem?_eq_getElem (by rw[hL.out];exact hi2)⟩;obtain⟨hc1,hc2⟩:=hrow i c0 hc0;have hi3:((i+1:Nat):Int)-1=i:=by omega
  have hi4:(0:Int)<=i:=by omega
  have hi5:(i:Int)<65:=by omega
  have hset:∀c:UInt8,ByteRow (wr.setCell ⟨w.heap.size,i,none⟩ (.int .u8 (c.toNat:Int))) w.heap.size (L.set i c)/\(L.set i c).length=65/\(L.set i c).drop i=c::D:=fun c=>by
   refine⟨hrow.set i c,by rw[List.length_set];exact hL.out,?_⟩;rw[List.drop_eq_getElem_cons (by rw[List.length_set,hL.out];exact hi2),List.getElem_set_self,List.drop_set_of_lt (by omega),hLD2.out]
  have Hset:=Ih hset;have Hi:=Ih hi;clear hset hi1 hLD hLD2 hc0 hrow hL hi;by_cases hub:u<16
  ·have hul:(u:Int)<16:=by omega
   have hE2:Hid (Lz.baseD 16 n=Lz.hex1 u::D):=by
    show _=_;rw[hE.out,Lz.baseD_small hub];rfl
   clear hE hle
   go_upto_region 25 with fail
   rw[digs u (by omega)];obtain⟨r1,r2,r3⟩:=Hset.out (Lz.hex1 u);have hb2:=hb.setCell (Nat.le_refl _) (p:=⟨w.heap.size,i,none⟩) (.int .u8 ((Lz.hex1 u).toNat:Int));generalize wr.setCell ⟨w.heap.size,i,none⟩ (.int .u8 ((Lz.hex1 u).toNat:Int))=w2 at r1 hb2⊢;have hal:Tryz.prog.arrayLen 272=65:=by simp[Program.arrayLen,Tryz.underlying272]
   have hsl:∀W,(Instr.sliceAt 272 (.pointer (some ⟨w.heap.size,0,none⟩)) (some (.int .i64 (i:Int))) none none).run Tryz.prog W=.ok (.slice (some ⟨w.heap.size,i,none⟩) (65-i) (65-i)) W:=fun W=>by
    rw[run_sliceAt_array_l W 272 ⟨w.heap.size,0,none⟩ (by simp[Program.arrayLen,Program.elem,Tryz.underlying272]) .i64 (i:Int) (by omega) (by rw[hal];omega)];go_simp;intro h;omega
   have hcv:∀W,W=w2->(convert 35 9 (.slice (some ⟨w.heap.size,i,none⟩) (65-i) (65-i))).run Tryz.prog W=.ok (.string ⟨(Lz.hex1 u::D).toArray⟩) W:=by
    rintro W rfl
    have hc:=run_convert_bytes_back (P:=Tryz.prog) W 35 9 5 ⟨w.heap.size,i,none⟩ (65-i) (Lz.hex1 u::D) Tryz.underlying35 Tryz.underlying5 Tryz.underlying9 (by
     intro j hj;have hg:((L.set i (Lz.hex1 u)).drop i)[j]? =some (Lz.hex1 u::D)[j]:=by rw[r3];exact List.getElem?_eq_getElem hj
     rw[List.getElem?_drop]at hg;have:=(r1 (i+j) _ hg).1;rw[show(⟨w.heap.size,i,none⟩:Addr).add j=⟨w.heap.size,i+j,none⟩ by simp[Addr.add]];exact this)
    rw[show(Lz.hex1 u::D).length=65-i by rw[List.length_cons,Hi.out];omega]at hc;exact hc
   have hcv2:=hcv w2 rfl;clear hal hcv r1 r3 Hset hc1 hc2
   go_wp2
   go_ret2
   exact⟨_,_,rfl,Ih (by rw[hE2.out]),hb2⟩
  ·have hug:(16:Int)<=(u:Int):=by omega
   have hd:=Lz.baseD_big (b:=16) (n:=u) (by omega) hub
   have hE2:Hid (Lz.baseD 16 n=Lz.baseD 16 (u / 16)++(Lz.hex1 (u%16)::D)):=by
    show _=_;rw[hE.out,hd];simp
   have hle2:Hid (u / 16*16^(Lz.hex1 (u%16)::D).length<=n):=by
    show _<=_;refine Nat.le_trans ?_ hle.out;rw[List.length_cons,Nat.pow_succ,Nat.mul_comm (16^_) 16,<-Nat.mul_assoc];exact Nat.mul_le_mul_right _ (Nat.div_mul_le_self u 16)
   have hD2:D.length+1<=13:=fmt_len 16 (by omega) u D.length n (by omega) hle.out HN.out;have hand:bits .and .u64 (u:Int) 15=((u%16:Nat):Int):=by rw[show(15:Int)=((15:Nat):Int)from rfl,u64_and_nat _ _ (by omega) (by omega),Lz.mask15]
   have hm16:u%16<16:=by omega
   generalize u%16=d at hand hm16 hE2 hle2;clear hd hE hle
   go_wp2_with fail
   rw[digs d hm16]
   go_roundw
   case rel=>
    obtain⟨r1,r2,r3⟩:=Hset.out (Lz.hex1 d);exact⟨u / 16,Lz.hex1 d::D,L.set i (Lz.hex1 d),by simpa using hD2,by omega,by go_num,by rw[List.length_cons,Hi.out];congr 2;omega,r1,r2,Ih (by rw[List.length_cons,show 65-(D.length+1)=i by rw[Hi.out];omega];exact r3),hE2,hle2,hb.setCell (Nat.le_refl _) _⟩
   case measure=>simp[intOf];omega
theorem FormatUintI_16 (n:Nat) (hn:n<=1099511627776) (w:World) (h:w.cell? ⟨8,15,none⟩=some (.int .u8 4)):Calls Tryz.prog 304 #[.int .u64 n,.int .i64 16] w (RStr (Lz.baseD 16 n) w):=by
 have cF:=Ih (fmtBits_16 n hn w h);go_enter Tryz.func304,Tryz.ntmps304
 go_wp2_with fail
 refine(cF.out).mono ?_;rintro e w1 ⟨u,v,rfl,hu,hb⟩
 go_wp2
 go_ret;exact⟨u,rfl,hu,hb⟩
theorem FormatUint_16 (n:Nat) (hn:n<=1099511627776) (w:World) (h:w.cell? ⟨8,15,none⟩=some (.int .u8 4)):Calls Tryz.prog 298 #[.int .u64 n,.int .i64 16] w (RStr (Lz.baseD 16 n) w):=by
 have cF:=Ih (FormatUintI_16 n hn w h);go_enter Tryz.func298,Tryz.ntmps298
 go_wp2_with fail
 refine(cF.out).mono ?_;rintro e w1 ⟨u,rfl,hu,hb⟩
 go_wp2
 go_ret;exact⟨u,rfl,hu,hb⟩
end Go.Proofs.YtfepgodjaeddgaaGreatDoor
namespace Lz
open Go
theorem rune_hi (s:ByteArray) (pos:Nat) (h:pos<s.size) (hb:128<=(s[pos]'h).toNat):128<=(Utf8.decode s pos).1:=by
 rw[Lib.decode_at]
 have h0:(s.get! pos).toNat=(s[pos]'h).toNat:=by
  congr 1;show s.data[pos]! =_;rw[getElem!_pos s.data pos h];rfl
 rcases Lib.decodeN_shape (s.size-pos) (s.get! pos).toNat (s.get! (pos+1)).toNat (s.get! (pos+2)).toNat (s.get! (pos+3)).toNat with⟨h1,_⟩|⟨_,_,_,h2,h3⟩|⟨_,_,_,_,h2,_,h3⟩|⟨_,_,_,_,_,h2,_,h3⟩|h3
 ·omega
 ·rw[h3];exact h2
 ·rw[h3];show 128<=_;omega
 ·rw[h3];show 128<=_;omega
 ·rw[h3];show 128<=65533;omega
theorem idx_any {p:Nat->Bool} {q:UInt8->Bool} (hp:∀x,128<=x->p x=true) (hq:∀c:UInt8,c.toNat<128->p c.toNat=q c) (hq2:∀c:UInt8,128<=c.toNat->q c=true) (s:ByteArray):
  ∀(f pos:Nat),s.size<=pos+f->decide (0<=Lib.idxFuncFrom p true s f pos)=(s.data.toList.drop pos).any q
 | 0,pos,h=>by
   rw[List.drop_eq_nil_of_le (by show s.size<=pos;omega)];rfl
 | f+1,pos,h=>by
   rw[Lib.idxFuncFrom];by_cases hps:pos<s.size
   ·rw[if_pos hps]
    have hd:s.data.toList.drop pos=s[pos]::s.data.toList.drop (pos+1):=by
     rw[List.drop_eq_getElem_cons (show pos<s.data.toList.length from hps)];rfl
    rw[hd,List.any_cons];rcases Nat.lt_or_ge (s[pos]'hps).toNat 128 with h1|h1
    ·have hdec:=decode_ascii s pos hps h1;rw[hdec,hq _ h1];cases hqc:q s[pos]with
     | true=>simp
     | false=>
       simp only[Bool.false_eq_true,if_false,Bool.false_or];exact idx_any hp hq hq2 s f (pos+1) (by omega)
    ·rw[hp _ (rune_hi s pos hps h1),hq2 _ h1]
     simp
   ·rw[if_neg hps,List.drop_eq_nil_of_le (by show s.size<=pos;omega)];rfl
theorem containsAny_eq (l chars:Bs):Lib.containsAny l chars=l.any chars.contains:=by
 unfold Lib.containsAny
 induction l with
 | nil=>rfl
 | cons b r ih=>
   have hge:=Lib.indexAny_ge chars r;rw[Lib.indexAny,List.any_cons,<-ih];by_cases h:chars.contains b=true
   ·rw[if_pos h,h];simp
   ·rw[if_neg h];have h2:chars.contains b=false:=by simpa using h
    rw[h2,Bool.false_or,Bool.eq_iff_iff,decide_eq_true_eq,decide_eq_true_eq];by_cases h3:Lib.indexAny r chars= -1
    ·rw[h3];simp
    ·rw[if_neg (by simpa using h3)];omega
end Lz
namespace Go.Proofs.YtfepgodjaeddgaaGreatDoor
open Go.RowKit
theorem Join_z (a:Option Addr) (c:Nat) (sep:ByteArray) (w:World):Calls Tryz.prog 170 #[.slice a 0 c,.string sep] w (RStr [] w):=by
 refine(Tryz.strings_Join_none a c sep w).mono ?_;rintro e w' ⟨h1,rfl⟩;exact⟨_,h1,Ih rfl,Below.refl _ _⟩
theorem Cut_h (s p:ByteArray) (hs:s.size<=1073741824) (w:World) (hE:EnvH w):Calls Tryz.prog 53 #[.string s,.string p] w (RStrStrB (Lib.cut s.data.toList p.data.toList).1 (Lib.cut s.data.toList p.data.toList).2.1 (Lib.cut s.data.toList p.data.toList).2.2 w):=by
 obtain⟨m,hm⟩:=hE.ml;exact(Tryz.strings_Cut s p m w (by omega) hm).mono fun _ _ ⟨he,n,hw⟩=>⟨_,_,he,rfl,rfl,by rw[hw];exact below_drewN (Below.refl _ _) n⟩
def pDom (x:Nat):Bool:=if x<128 then Lz.oddB (UInt8.ofNat x)else true
def bannedB:ByteArray:=⟨#[0,9,10,13,32,35,47,58,60,62,63,64,91,92,93,94,124]⟩
theorem banned_at:∀x:Fin 128,32<x.val->x.val<127->x.val≠37->decide (0<=Lib.indexByte bannedB.data.toList x.val.toUInt8)=Lz.oddB (UInt8.ofNat x.val):=by decide +kernel
theorem odd_at:∀x:Fin 128,(x.val<=32\/127<=x.val\/x.val=37)->Lz.oddB (UInt8.ofNat x.val)=true:=by decide +kernel
theorem dom1_any (x:Nat) (hx:x<=1114111) (w:World):Calls Tryz.prog 280 #[.int .i32 (x:Int)] w fun e w'=>e=.returned (.bool (pDom x))/\Below w.heap.size w w':=by
 by_cases h:x<=32\/127<=x\/x=37
 ·have hp:pDom x=true:=by
   unfold pDom;split
   ·exact odd_at ⟨x,by assumption⟩ h
   ·rfl
  rw[hp];rcases Nat.lt_or_ge 32 x with h1|h1
  ·have h1':¬(x:Int)<=32:=by omega
   have h1b:decide ((x:Int)<=32)=false:=decide_eq_false h1';rcases Nat.lt_or_ge x 127 with h2|h2
   ·have h3:x=37:=by omega
    have h2b:decide (127<=(x:Int))=false:=decide_eq_false (by omega);have h3b:((x:Int)==37)=true:=by rw[h3];rfl
    have h2':¬127<=(x:Int):=by omega
    clear h h3 hp;go_enter Tryz.func280,Tryz.ntmps280
    go_wp2
    go_ret;exact⟨rfl,Below.refl _ _⟩
   ·have h2b:decide (127<=(x:Int))=true:=decide_eq_true (by omega);have h2':127<=(x:Int):=by omega
    clear h hp;go_enter Tryz.func280,Tryz.ntmps280
    go_wp2
    go_ret;exact⟨rfl,Below.refl _ _⟩
  ·have h1':(x:Int)<=32:=by omega
   have h1b:decide ((x:Int)<=32)=true:=decide_eq_true h1';clear h hp;go_enter Tryz.func280,Tryz.ntmps280
   go_wp2
   go_ret;exact⟨rfl,Below.refl _ _⟩
 ·have hp:pDom x=decide (0<=Lib.indexByte bannedB.data.toList x.toUInt8):=by
   unfold pDom;rw[if_pos (by omega)];exact(banned_at ⟨x,by omega⟩ (by show 32<x;omega) (by show x<127;omega) (by show x≠37;omega)).symm
  have cC:=Tryz.strings_ContainsRune_ascii bannedB (x:Int) w (by omega) (by omega);rw[show((x:Int)).toNat=x by omega,<-hp]at cC;have CC:=Ih cC;have h1':¬(x:Int)<=32:=by omega
  have h1b:decide ((x:Int)<=32)=false:=decide_eq_false h1';have h2':¬127<=(x:Int):=by omega
  have h2b:decide (127<=(x:Int))=false:=decide_eq_false h2';have h3b:((x:Int)==37)=false:=beq_eq_false_iff_ne.2 (by omega);clear h hp cC;go_enter Tryz.func280,Tryz.ntmps280
  go_wp2_with fail
  refine(CC.out).mono ?_;rintro e w' ⟨rfl,rfl⟩
  go_wp2
  go_ret;exact⟨rfl,Below.refl _ _⟩
theorem pDom_hi (x:Nat) (h:128<=x):pDom x=true:=by unfold pDom;rw[if_neg (by omega)]
theorem pDom_lo (c:UInt8) (h:c.toNat<128):pDom c.toNat=Lz.oddB c:=by unfold pDom;rw[if_pos h];simp
theorem odd_hi:∀c:UInt8,128<=c.toNat->Lz.oddB c=true:=Lz.byte_all (by decide +kernel)
theorem fn_dom1 (args:Array Value) (w:World):(callFunc 280 args).run Tryz.prog w=.ok (.enter 280 args) w:=enters_of Tryz.func280 (by kernel_rfl) rfl args w
theorem IndexFunc_dom (s:ByteArray) (w:World):Calls Tryz.prog 138 #[.string s,.func (.func 280) #[] #[]] w fun e w'=>∃i:Int,e=.returned (.int .i64 i)/\Hid (decide (0<=i)=s.data.toList.any Lz.oddB)/\Below w.heap.size w w':=by
 refine(Tryz.strings_IndexFunc_grows 280 #[] fn_dom1 pDom s w (fun W x hx _=>dom1_any x hx W)).mono ?_;rintro e w' ⟨he,hb⟩;refine⟨_,he,Ih ?_,hb⟩;have:=Lz.idx_any pDom_hi pDom_lo odd_hi s s.size 0 (by omega);rw[List.drop_zero]at this;exact this
end Go.Proofs.YtfepgodjaeddgaaGreatDoor
