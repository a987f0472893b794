/-
  Plain laws of URLs: the form of what is read, and that such a URL, told, is read as it again. No program in sight.
-/
import Derived.Test.YtipndhbgehdeoaaGreatDoorQ06
import Derived.Test.YtipndhbgehdeoaaGreatDoorQ08
import Derived.StillTailTactics
import Derived.Shelf.Strings.SlTrimAscii
import Derived.Lib.MapLaws
set_option maxHeartbeats 1000000
set_option maxRecDepth 100000
namespace Lz
open Go
theorem zeros_zero {l:List Nat} {k:Nat} (h:l[k]? =some 0):zerosP (l.drop k)=1+zerosP (l.drop (k+1)):=by
 have hk:=(List.getElem?_eq_some_iff.1 h).1;rw[List.drop_eq_getElem_cons hk];have:l[k]=0:=(List.getElem?_eq_some_iff.1 h).2;rw[this];unfold zerosP;rw[List.takeWhile_cons]
 simp;omega
theorem zeros_non {l:List Nat} {k x:Nat} (h:l[k]? =some x) (hx:x≠0):zerosP (l.drop k)=0:=by
 have hk:=(List.getElem?_eq_some_iff.1 h).1;rw[List.drop_eq_getElem_cons hk];have:l[k]=x:=(List.getElem?_eq_some_iff.1 h).2;rw[this];unfold zerosP;rw[List.takeWhile_cons]
 simp[hx]
theorem run_step {l:List Nat} {i:Nat} (f:Nat×Nat) (hi:i<l.length):runP i (l.drop i) f=runP (i+1) (l.drop (i+1)) (if max (f.2-f.1) 1<zerosP (l.drop i)then(i,i+zerosP (l.drop i))else f):=by
 rw[List.drop_eq_getElem_cons hi];rfl
end Lz
namespace Go.Proofs.YtipndhbgehdeoaaGreatDoor
open Go.RowKit
def sixV (l:List Nat):Value:=.agg (l.map fun n:Nat=>Value.int .u16 (n:Int)).toArray
def RRun (l:List Nat) (w:World) (e:Ending) (w':World):Prop:=e=.returned (.tuple #[.int .i64 ((Lz.runP 0 l (0,0)).1:Nat),.int .i64 ((Lz.runP 0 l (0,0)).2:Nat)])/\Below w.heap.size w w'
theorem run_any (l:List Nat) (h8:l.length=8) (w:World):Calls Tryz.prog 180 #[sixV l] w (RRun l w):=by
 unfold sixV;obtain⟨w1,hw1⟩:∃w1,w1=w.alloc (.cells (l.map fun n:Nat=>Value.int .u16 (n:Int)).toArray 205):=⟨_,rfl⟩
 have hc:∀j x,l[j]? =some x->w1.cell? ⟨w.heap.size,j,none⟩=some (.int .u16 (x:Nat)):=by
  intro j x hj;rw[hw1,World.cell?_alloc_mark]
  simp[hj]
 have hb1:Below w.heap.size w w1:=by rw[hw1];exact(Below.refl _ w).alloc (Nat.le_refl _) _
 have Hc:=Ih hc;have H8:=Ih h8;clear hc h8;go_enter Tryz.func180,Tryz.ntmps180
 go_wp2
 rw[<-hw1];clear hw1
 go_loop [2,3,6] (fun a b c=>∃i f t:Nat,i<=8/\f<=t/\t<=8/\a=.int .i64 f/\b=.int .i64 t/\c=.int .i64 i/\Hid (Lz.runP i (l.drop i) (f,t)=Lz.runP 0 l (0,0))) (fun _ _ c=>8-(intOf c).toNat)
 case atStart=>exact⟨0,0,0,by omega,by omega,by omega,rfl,rfl,rfl,Ih rfl⟩
 case round=>
  obtain⟨i,f,t,hi,hft,ht,rfl,rfl,rfl,hR⟩:=hrel;by_cases hlt:i<8
  ·have hz8:Lz.zerosP (l.drop 8)=0:=by rw[List.drop_eq_nil_of_le (by rw[H8.out];exact Nat.le_refl _)];rfl
   have Hz8:=Ih hz8;clear hz8
   go_wp2
   go_loop [5] (fun c=>∃k:Nat,i<=k/\k<=8/\c=.int .i64 k/\Hid (Lz.zerosP (l.drop i)=(k-i)+Lz.zerosP (l.drop k))) (fun c=>8-(intOf c).toNat)
   case atStart=>exact⟨i,Nat.le_refl _,by omega,rfl,by show _=_;omega⟩
   case round=>
    obtain⟨k,hik,hk,rfl,hZ⟩:=hrel;by_cases hk8:k<8
    ·obtain⟨x,hx⟩:∃x,l[k]? =some x:=⟨_,List.getElem?_eq_getElem (by rw[H8.out];exact hk8)⟩;have hcx:=Hc.out k x hx;by_cases hx0:x=0
     ·have hxb:((x:Int)==0)=true:=by rw[hx0];rfl
      have hZ2:Hid (Lz.zerosP (l.drop i)=(k+1-i)+Lz.zerosP (l.drop (k+1))):=by
       show _=_;rw[hx0]at hx;rw[hZ.out,Lz.zeros_zero hx];omega
      clear hx hx0
      go_wp2
      go_round
      case rel=>exact⟨k+1,by omega,by omega,by go_num,hZ2⟩
      case measure=>simp[intOf];omega
     ·have hxb:((x:Int)==0)=false:=beq_eq_false_iff_ne.2 (by omega);have hZ2:Hid (Lz.zerosP (l.drop i)=k-i):=by show _=_;rw[hZ.out,Lz.zeros_non hx hx0];omega
      clear hx hx0;have hst:=Lz.run_step (f,t) (show i<l.length by rw[H8.out];exact hlt);rw[hZ2.out,hR.out]at hst;have Hst:=Ih hst;clear hst;obtain⟨d,hd⟩:∃d:Nat,d=k-i:=⟨_,rfl⟩;obtain⟨g,hg⟩:∃g:Nat,g=t-f:=⟨_,rfl⟩;have hd1:(k:Int)-i=d:=by omega
      have hg1:(t:Int)-f=g:=by omega
      have hki:i+(k-i)=k:=by omega
      by_cases hm:max (t-f) 1<k-i
      ·have hm':max (g:Int) 1<d:=by omega
       have HS:Hid (Lz.runP (i+1) (l.drop (i+1)) (i,k)=Lz.runP 0 l (0,0)):=by
        show _=_;have:=Hst.out;rw[if_pos hm,hki]at this;exact this.symm
       clear hd hg hm hki
       go_wp2
       go_round
       case rel=>exact⟨i+1,i,k,by omega,hik,hk,rfl,rfl,by go_num,HS⟩
       case measure=>simp[intOf];omega
      ·have hm':¬max (g:Int) 1<d:=by omega
       have HS:Hid (Lz.runP (i+1) (l.drop (i+1)) (f,t)=Lz.runP 0 l (0,0)):=by
        show _=_;have:=Hst.out;rw[if_neg hm]at this;exact this.symm
       clear hd hg hm hki
       go_wp2
       go_round
       case rel=>exact⟨i+1,f,t,by omega,hft,ht,rfl,rfl,by go_num,HS⟩
       case measure=>simp[intOf];omega
    ·have hZ2:Hid (Lz.zerosP (l.drop i)=k-i):=by
      show _=_;have:k=8:=by omega
      have hz:=hZ.out;rw[this,Hz8.out]at hz;omega
     have hst:=Lz.run_step (f,t) (show i<l.length by rw[H8.out];exact hlt);rw[hZ2.out,hR.out]at hst;have Hst:=Ih hst;clear hst;obtain⟨d,hd⟩:∃d:Nat,d=k-i:=⟨_,rfl⟩;obtain⟨g,hg⟩:∃g:Nat,g=t-f:=⟨_,rfl⟩;have hd1:(k:Int)-i=d:=by omega
     have hg1:(t:Int)-f=g:=by omega
     have hki:i+(k-i)=k:=by omega
     by_cases hm:max (t-f) 1<k-i
     ·have hm':max (g:Int) 1<d:=by omega
      have HS:Hid (Lz.runP (i+1) (l.drop (i+1)) (i,k)=Lz.runP 0 l (0,0)):=by
       show _=_;have:=Hst.out;rw[if_pos hm,hki]at this;exact this.symm
      clear hd hg hm hki
      go_wp2
      go_round
      case rel=>exact⟨i+1,i,k,by omega,hik,hk,rfl,rfl,by go_num,HS⟩
      case measure=>simp[intOf];omega
     ·have hm':¬max (g:Int) 1<d:=by omega
      have HS:Hid (Lz.runP (i+1) (l.drop (i+1)) (f,t)=Lz.runP 0 l (0,0)):=by
       show _=_;have:=Hst.out;rw[if_neg hm]at this;exact this.symm
      clear hd hg hm hki
      go_wp2
      go_round
      case rel=>exact⟨i+1,f,t,by omega,hft,ht,rfl,rfl,by go_num,HS⟩
      case measure=>simp[intOf];omega
  ·have hi8:i=8:=by omega
   have hR2:Hid (Lz.runP 0 l (0,0)=(f,t)):=by
    show _=_;rw[<-hR.out,hi8,List.drop_eq_nil_of_le (by rw[H8.out];exact Nat.le_refl _)];rfl
   clear hi8
   go_wp2
   go_ret2
   exact⟨by rw[hR2.out];rfl,hb1⟩
end Go.Proofs.YtipndhbgehdeoaaGreatDoor
namespace Lz
open Go
theorem num_dec1:∀n:Fin 256,numP (Lib.decDigits n.val)=some n.val:=by decide +kernel
theorem num_dec {n:Nat} (h:n<256):numP (Lib.decDigits n)=some n:=num_dec1 ⟨n,h⟩
theorem dig_not:∀c:UInt8,isDigit c=true->c≠46/\c≠58/\c≠37/\low1 c=c/\oddB c=false/\banned.contains c=false/\(c<32||126<c)=false:=byte_all (by decide +kernel)
theorem dotted_chars (b:List Nat):∀c∈dottedP b,isDigit c=true\/c=46:=by
 intro c hc;unfold dottedP at hc;rcases joinP_mem hc with h|⟨x,hx,h⟩
 ·right;simpa using h
 ·obtain⟨n,_,rfl⟩:=List.mem_map.1 hx;exact Or.inl (dec_digit n c h)
theorem dotted_split {b:List Nat} (hb:b≠[]):splitC 46 (dottedP b)=b.map fun x=>Lib.decDigits x:=by
 unfold dottedP;exact splitC_join 46 _ (by simpa using hb) (by intro x hx c hc;obtain⟨n,_,rfl⟩:=List.mem_map.1 hx;exact(dig_not c (dec_digit n c hc)).1)
theorem labels_dotted {b:List Nat} (hb:b≠[]):labelsP (dottedP b)=b.map fun x=>Lib.decDigits x:=by
 unfold labelsP;rw[dotted_split hb,if_neg];rintro⟨_,h⟩;rw[List.getLast?_map]at h;cases hl:b.getLast? with
 | none=>rw[hl]at h;cases h
 | some x=>rw[hl]at h;exact dec_ne x (Option.some.inj h)
theorem fourB_dec (b:List Nat) (n:Nat) (h:b.length<=n) (hn:n=4) (hl:∀x∈b,x<256):fourB n (b.map fun x=>Lib.decDigits x)=some b:=by
 subst hn
 induction b with
 | nil=>rfl
 | cons x r ih=>
   have hx:x<256:=hl x (by simp);rw[List.map_cons,fourB,num_dec hx];have hm:(if(r.map fun x=>Lib.decDigits x)=[]then 5-4 else 1)=1:=by split<;>rfl
   simp only[hm];rw[if_neg (by omega),ih (fun y hy=>hl y (List.mem_cons_of_mem _ hy)) (by simp at h;omega)]
   have:(List.range 1).reverse.map (fun k=>x / 256^k%256)=[x]:=by
    show[x / 256^0%256]=[x];rw[Nat.pow_zero,Nat.div_one,Nat.mod_eq_of_lt hx]
   rw[this];rfl
theorem four_dotted {b:List Nat} (h4:b.length=4) (hl:∀x∈b,x<256):fourP (labelsP (dottedP b))=some (dottedP b):=by
 have hb:b≠[]:=by intro h;rw[h]at h4;cases h4
 unfold fourP;rw[labels_dotted hb,List.length_map,h4,if_neg (by omega),fourB_dec b 4 (by omega) rfl hl];rfl
def labB (many v:Nat):List Nat:=(List.range many).reverse.map fun k=>v / 256^k%256
theorem labB_lt {many v x:Nat} (h:x∈labB many v):x<256:=by
 unfold labB at h;simp only[List.mem_map,List.mem_reverse]at h;obtain⟨k,_,rfl⟩:=h;exact Nat.mod_lt _ (by omega)
theorem labB_len (many v:Nat):(labB many v).length=many:=by unfold labB;simp
theorem fourB_cons (n:Nat) (s:Bs) (r:List Bs):fourB n (s::r)=match numP s with
 | none=>none
 | some v=>if 0<v / 256^(if r=[]then 5-n else 1)then none else(fourB n r).map fun t=>labB (if r=[]then 5-n else 1) v++t:=rfl
theorem fourB_inv {n:Nat} {s:Bs} {r:List Bs} {b:List Nat} (h:fourB n (s::r)=some b):∃v t,numP s=some v/\fourB n r=some t/\b=labB (if r=[]then 5-n else 1) v++t:=by
 rw[fourB_cons]at h;cases hv:numP s with
 | none=>rw[hv]at h;cases h
 | some v=>
   rw[hv]at h;simp only at h;generalize (if r=[]then 5-n else 1)=m at h⊢;by_cases h0:0<v / 256^m
   ·rw[if_pos h0]at h;cases h
   ·rw[if_neg h0]at h;cases hr:fourB n r with
    | none=>rw[hr]at h;cases h
    | some t=>
      rw[hr]at h;exact⟨v,t,rfl,rfl,(Option.some.inj h).symm⟩
theorem fourB_len:∀(l:List Bs) (n:Nat) (b:List Nat),l≠[]->l.length<=n->n<=4->fourB n l=some b->b.length=l.length+(4-n)/\∀x∈b,x<256
 | [],n,b,h,_,_,_=>absurd rfl h
 | s::r,n,b,_,hl,hn,h=>by
   obtain⟨v,t,hv,hr,rfl⟩:=fourB_inv h;simp only[List.length_cons]at hl⊢;rw[List.length_append,labB_len];by_cases hr0:r=[]
   ·rw[hr0,fourB]at hr;injection hr with hr
    rw[hr0,if_pos rfl,<-hr];refine⟨by simp;omega,fun x hx=>?_⟩;rw[List.append_nil]at hx;exact labB_lt hx
   ·rw[if_neg hr0];obtain⟨h1,h2⟩:=fourB_len r n t hr0 (by omega) hn hr;refine⟨by omega,fun x hx=>?_⟩;rcases List.mem_append.1 hx with hx|hx
    ·exact labB_lt hx
    ·exact h2 x hx
theorem four_ok {l:List Bs} {t:Bs} (hl:l≠[]) (h:fourP l=some t):∃b:List Nat,b.length=4/\(∀x∈b,x<256)/\t=dottedP b:=by
 unfold fourP at h;split at h
 ·cases h
 ·cases hb:fourB l.length l with
  | none=>rw[hb]at h;cases h
  | some b=>
    rw[hb]at h;injection h with h
    obtain⟨h1,h2⟩:=fourB_len l l.length b hl (Nat.le_refl _) (by omega) hb;exact⟨b,by omega,h2,h.symm⟩
theorem labels_ne (s:Bs):labelsP s≠[]:=by
 have hne:splitC 46 s≠[]:=by
  cases s with
  | nil=>simp[splitC]
  | cons b r=>
    rw[splitC];split
    ·simp
    ·split<;>simp
 unfold labelsP;split
 ·rename_i h;intro h2;have:=congrArg List.length h2
  simp at this;omega
 ·exact hne
theorem triple_not {c:UInt8} (h:c≠37) (r:Bs):tripleP (c::r)=none:=by
 unfold tripleP;split
 ·rename_i heq;injection heq with h1 _
  exact absurd h1 h
 ·rfl
theorem decode_cons {c:UInt8} {r:Bs} {x:Bs} (h:tripleP (c::r)=none) (hx:decodeP r=x):decodeP (c::r)=c::x:=by
 rw[decodeP,h];simp[hx]
theorem decode_free:∀l:Bs,(∀c∈l,c≠37)->decodeP l=l
 | [],_=>by rw[decodeP]
 | c::r,h=>decode_cons (triple_not (h c (by simp)) r) (decode_free r fun x hx=>h x (by simp[hx]))
theorem encode_none (of:Bs) (l:Bs) (h:∀c∈l,(c<32||126<c||of.contains c)=false):encodeP of l=l:=by
 unfold encodeP
 induction l with
 | nil=>rfl
 | cons c r ih=>rw[List.flatMap_cons,h c (by simp),ih fun x hx=>h x (by simp[hx])];rfl
theorem low_none (l:Bs) (h:∀c∈l,low1 c=c):low l=l:=by
 unfold low
 induction l with
 | nil=>rfl
 | cons c r ih=>rw[List.map_cons,h c (by simp),ih fun x hx=>h x (by simp[hx])]
def DomOk (d:Bs):Prop:=d≠[]/\d.any oddB=false/\low d=d/\(numberedP d=false\/fourP (labelsP d)=some d)
theorem odd_not:∀c:UInt8,oddB c=false->c≠37/\c≠91/\banned.contains c=false/\(c<32||126<c)=false:=byte_all (by decide +kernel)
theorem any_false {p:UInt8->Bool} {l:Bs} (h:l.any p=false):∀c∈l,p c=false:=by
 intro c hc;rw[List.any_eq_false]at h;simpa using h c hc
theorem dom_again {d:Bs} (h:DomOk d) (special:Bool):hostPr d special=.ok d:=by
 obtain⟨h1,h2,h3,h4⟩:=h;have hc:=any_false h2
 have h91:d[0]? ≠some 91:=by
  intro h;have:=List.mem_of_getElem? h;exact(odd_not 91 (hc 91 this)).2.1 rfl
 unfold hostPr;rw[if_neg h91];cases special
 ·have hb:d.any banned.contains=false:=by
   rw[List.any_eq_false];intro c hc';have:=(odd_not c (hc c hc')).2.2.1;rw[this];simp
  rw[if_neg (by simp),hb,if_neg (by simp),encode_none];intro c hc';have:=(odd_not c (hc c hc')).2.2.2;rw[this];rfl
 ·rw[if_pos rfl];unfold domainP;rw[decode_free d fun c hc'=>(odd_not c (hc c hc')).1];simp only[h3];rw[if_neg (by rw[h2];simp[h1])];rcases h4 with h4|h4
  ·rw[h4];rfl
  ·cases hn:numberedP d
   ·rfl
   ·rw[h4];rfl
theorem dom_ok {s d:Bs} (h:domainP s=.ok d):DomOk d:=by
 unfold domainP at h;simp only at h;generalize hx:low (decodeP s)=x at h;split at h
 ·cases h
 ·rename_i hn;have hn1:x≠[]:=fun e=>hn (Or.inl e);have hn2:x.any oddB=false:=by rw[<-Bool.not_eq_true];exact fun e=>hn (Or.inr e)
  split at h
  ·cases hf:fourP (labelsP x)with
   | none=>rw[hf]at h;cases h
   | some t=>
     rw[hf]at h;simp only[ofO]at h;injection h with h
     rw[<-h];obtain⟨b,h4,hl,rfl⟩:=four_ok (labels_ne x) hf;have hb:b≠[]:=by intro h;rw[h]at h4;cases h4
     refine⟨?_,?_,?_,Or.inr (four_dotted h4 hl)⟩
     ·unfold dottedP;exact joinP_ne (by simpa using hb) (by intro x hx;obtain⟨n,_,rfl⟩:=List.mem_map.1 hx;exact dec_ne n)
     ·rw[List.any_eq_false];intro c hc;rcases dotted_chars b c hc with h|rfl
      ·rw[(dig_not c h).2.2.2.2.1];simp
      ·decide
     ·apply low_none
      intro c hc;rcases dotted_chars b c hc with h|rfl
      ·exact(dig_not c h).2.2.2.1
      ·decide
  ·rename_i hnn;injection h with h
   rw[<-h];exact⟨hn1,hn2,by rw[<-hx,low_low],Or.inl (by simpa using hnn)⟩
theorem wrap_six (a:List Nat) (h8:a.length=8) (hl:∀n∈a,n<65536) (special:Bool):hostPr ([91]++textP a++[93]) special=.ok ([91]++textP a++[93]):=by
 unfold hostPr;rw[if_pos (by simp)]
 have h1:¬(([91]++textP a++[93]:Bs).length<2\/([91]++textP a++[93]:Bs).getLast? ≠some 93):=by
  rw[List.getLast?_append];simp
 rw[if_neg h1];have h2:(([91]++textP a++[93]:Bs).drop 1).dropLast=textP a:=by simp
 rw[h2,six_back a h8 hl];rfl
theorem not_enc:∀c:UInt8,banned.contains c=false->∀x∈(if c<32||126<c||([]:Bs).contains c then[37,digitU (c.toNat / 16),digitU (c.toNat%16)]else[c]:Bs),banned.contains x=false/\(x<32||126<x)=false:=by
 have:∀c:UInt8,(banned.contains c||(if c<32||126<c||([]:Bs).contains c then[37,digitU (c.toNat / 16),digitU (c.toNat%16)]else[c]:Bs).all fun x=> !banned.contains x&& !(x<32||126<x))=true:=byte_all (by decide +kernel);intro c hc x hx;have h:=this c;rw[hc,Bool.false_or,List.all_eq_true]at h;simpa using h x hx
theorem enc_ok {s:Bs} (h:s.any banned.contains=false):∀x∈encodeP [] s,banned.contains x=false/\(x<32||126<x)=false:=by
 intro x hx;unfold encodeP at hx;obtain⟨c,hc,hx⟩:=List.mem_flatMap.1 hx;exact not_enc c (any_false h c hc) x hx
theorem other_again {s:Bs} (h:s.any banned.contains=false):hostPr (encodeP [] s) false=.ok (encodeP [] s):=by
 have hc:=enc_ok h
 have h91:(encodeP [] s)[0]? ≠some 91:=by
  intro h;have:=(hc 91 (List.mem_of_getElem? h)).1;exact absurd this (by decide)
 unfold hostPr;rw[if_neg h91,if_neg (by simp)]
 have hb:(encodeP [] s).any banned.contains=false:=by
  rw[List.any_eq_false];intro c hc';rw[(hc c hc').1];simp
 rw[hb,if_neg (by simp),encode_none];intro c hc';rw[(hc c hc').2];rfl
theorem host_again_true {s h:Bs} (e:hostPr s true=.ok h):hostPr h true=.ok h/\hostPr h false=.ok h/\h≠[]:=by
 unfold hostPr at e;split at e
 ·split at e
  ·cases e
  ·cases ha:sixP ((s.drop 1).dropLast)with
   | none=>rw[ha]at e;cases e
   | some a=>
     rw[ha]at e;simp only[Option.map_some,ofO]at e;injection e with e
     rw[<-e];obtain⟨h8,hl⟩:=six_ok ha;exact⟨wrap_six a h8 hl true,wrap_six a h8 hl false,by simp⟩
 ·rw[if_pos rfl]at e;have:=dom_ok e;exact⟨dom_again this true,dom_again this false,this.1⟩
theorem host_again_false {s h:Bs} (e:hostPr s false=.ok h):hostPr h false=.ok h:=by
 unfold hostPr at e;split at e
 ·split at e
  ·cases e
  ·cases ha:sixP ((s.drop 1).dropLast)with
   | none=>rw[ha]at e;cases e
   | some a=>
     rw[ha]at e;simp only[Option.map_some,ofO]at e;injection e with e
     rw[<-e];obtain⟨h8,hl⟩:=six_ok ha;exact wrap_six a h8 hl false
 ·rw[if_neg (by simp)]at e;split at e
  ·cases e
  ·rename_i hb;injection e with e
   rw[<-e];exact other_again (by simpa using hb)
theorem host_err_true (s:Bs) (n:Nat) (e:hostPr s true=.er n):n=70\/n=71\/n=72:=by
 unfold hostPr domainP ofO at e;simp only at e
 repeat' split at e
 all_goals first |(injection e with e;omega)|cases e|(rename_i h;cases h)
theorem host_err_false (s:Bs) (n:Nat) (e:hostPr s false=.er n):n=70\/n=72:=by
 unfold hostPr ofO at e
 repeat' split at e
 all_goals first |(injection e with e;omega)|cases e|(rename_i h;cases h)
def baseD (b n:Nat):Bs:=if _h:n<b\/b<2 then[hex1 n]else baseD b (n / b)++[hex1 (n%b)]
 termination_by n
 decreasing_by exact Nat.div_lt_self (by omega) (by omega)
theorem baseD_small {b n:Nat} (h:n<b):baseD b n=[hex1 n]:=by rw[baseD,dif_pos (Or.inl h)]
theorem baseD_big {b n:Nat} (hb:2<=b) (h:¬n<b):baseD b n=baseD b (n / b)++[hex1 (n%b)]:=by rw[baseD,dif_neg (by omega)]
theorem baseD_hex (n:Nat):baseD 16 n=hexD n:=by
 induction n using Nat.strongRecOn with
 | ind n ih=>
   by_cases h:n<16
   ·rw[baseD_small h,hexD_small h]
   ·rw[baseD_big (by omega) h,hexD_big h,ih (n / 16) (by omega)]
end Lz
namespace Lz
theorem mask15 (x:Nat):x&&& 15=x%16:=Nat.and_two_pow_sub_one_eq_mod x 4
end Lz
namespace Go.Proofs.YtipndhbgehdeoaaGreatDoor
open Go.RowKit
theorem pow2_16 (w:World):Calls Tryz.prog 151 #[.int .i64 16] w fun e w'=>e=.returned (.bool true)/\w=w':=by
 go_enter Tryz.func151,Tryz.ntmps151
 go_wp2
 go_ret;exact⟨rfl,rfl⟩
theorem db_at16:IntKind.u64.wrap (bits BinOp.and IntKind.u64 16 (IntKind.u64.wrap (-16))*285870213051353865) / 288230376151711744=15:=by decide +kernel
theorem tz64_16 (w:World) (h:w.cell? ⟨6,15,none⟩=some (.int .u8 4)):Calls Tryz.prog 169 #[.int .u64 16] w fun e w'=>e=.returned (.int .i64 4)/\w=w':=by
 have hx:=db_at16;go_enter Tryz.func169,Tryz.ntmps169
 go_wp2
 go_ret;exact⟨rfl,rfl⟩
theorem tz_16 (w:World) (h:w.cell? ⟨6,15,none⟩=some (.int .u8 4)):Calls Tryz.prog 152 #[.int .u64 16] w fun e w'=>e=.returned (.int .i64 4)/\w=w':=by
 go_enter Tryz.func152,Tryz.ntmps152
 go_wp2_with fail
 refine(tz64_16 _ h).mono ?_;rintro e w' ⟨rfl,rfl⟩
 go_wp2
 go_ret;exact⟨rfl,rfl⟩
def RFmt (l:List UInt8) (w:World) (e:Ending) (w':World):Prop:=∃(u:ByteArray) (v:Value),e=.returned (.tuple #[v,.string u])/\Hid (u.data.toList=l)/\Below w.heap.size w w'
theorem zero65:Tryz.zeroCells181=((List.replicate 65 (0:UInt8)).map fun c=>Value.int .u8 (c.toNat:Int)).toArray:=by kernel_rfl
theorem byteRow_cells (w:World) (l:List UInt8) (T:TypeId):ByteRow (w.alloc (.cells (l.map fun c=>Value.int .u8 (c.toNat:Int)).toArray T)) w.heap.size l:=by
 intro j c h;refine⟨?_,?_⟩
 ·rw[World.cell?_alloc_mark];simp[h]
 ·simp
theorem fmt_len (b:Nat) (hb:8<=b) (u m n:Nat) (hu:b<=u) (h:u*b^m<=n) (hn:n<=1099511627776):m+1<=13:=by
 rcases Nat.lt_or_ge m 13 with h1|h1
 ·omega
 ·exfalso
  have h2:8^13<=b^m:=Nat.le_trans (Nat.pow_le_pow_left hb 13) (Nat.pow_le_pow_right (by omega) h1);have h3:8*8^13<=u*b^m:=Nat.mul_le_mul (by omega) h2;omega
theorem digs1:∀d:Fin 16,(⟨#[48,49,50,51,52,53,54,55,56,57,97,98,99,100,101,102,103,104,105,106,107,108,109,110,111,112,113,114,115,116,117,118,119,120,121,122]⟩:ByteArray)[d.val]'(Nat.lt_trans d.isLt (by decide))=Lz.hex1 d.val:=by decide +kernel
theorem digs (d:Nat) (h:d<16) {h':d<(⟨#[48,49,50,51,52,53,54,55,56,57,97,98,99,100,101,102,103,104,105,106,107,108,109,110,111,112,113,114,115,116,117,118,119,120,121,122]⟩:ByteArray).size}:(⟨#[48,49,50,51,52,53,54,55,56,57,97,98,99,100,101,102,103,104,105,106,107,108,109,110,111,112,113,114,115,116,117,118,119,120,121,122]⟩:ByteArray)[d]'h'=Lz.hex1 d:=digs1 ⟨d,h⟩
theorem fmtBits_16 (n:Nat) (hn:n<=1099511627776) (w:World) (h:w.cell? ⟨6,15,none⟩=some (.int .u8 4)):Calls Tryz.prog 132 #[.slice none 0 0,.int .u64 n,.int .i64 16,.bool false,.bool false] w (RFmt (Lz.baseD 16 n) w):=by
 have hmade:=byteRow_cells w (List.replicate 65 0) 181;rw[<-zero65]at hmade;have hb0:Below w.heap.size w (w.alloc (.cells Tryz.zeroCells181 181)):=(Below.refl _ w).alloc (Nat.le_refl _) _
 have h':(w.alloc (.cells Tryz.zeroCells181 181)).cell? ⟨6,15,none⟩=some (.int .u8 4):=by
  rw[World.cell?_alloc_lt _ _ ⟨6,15,none⟩ (World.block_lt_of_cell? _ _ h)];exact h
 have Hm:=Ih hmade;have H0:=Ih hb0;have Ht:=Ih h';have HN:=Ih hn;clear hmade hb0 h' h;go_enter Tryz.func132,Tryz.ntmps132
 go_wp2_with fail
 refine(pow2_16 _).mono ?_;rintro e w' ⟨rfl,rfl⟩
 go_wp2_with fail
 refine(tz_16 _ Ht.out).mono ?_;rintro e w' ⟨rfl,rfl⟩;have hrow0:=Hm.out;have hbx:=H0.out;generalize w.alloc (.cells Tryz.zeroCells181 181)=wx at hrow0 hbx⊢;clear Hm H0 Ht
 go_wp2_with fail
 go_loopw [1,13] (fun a i wr=>∃(u:Nat) (D L:List UInt8),D.length<=13/\u<=1099511627776/\a=.int .u64 u/\i=.int .i64 ((65-D.length:Nat):Int)/\ByteRow wr w.heap.size L/\Hid (L.length=65)/\Hid (L.drop (65-D.length)=D)/\Hid (Lz.baseD 16 n=Lz.baseD 16 u++D)/\Hid (u*16^D.length<=n)/\Below w.heap.size w wr) (fun a _ _=>(intOf a).toNat)
 case atStart=>exact⟨n,[],List.replicate 65 0,by simp,HN.out,rfl,rfl,hrow0,Ih (by simp),Ih (by simp),Ih (by simp),Ih (by simp),hbx⟩
 case round=>
  clear hrow0 hbx;obtain⟨u,D,L,hD,hu,rfl,rfl,hrow,hL,hLD,hE,hle,hb⟩:=hrel;obtain⟨i,hi⟩:∃i:Nat,i=64-D.length:=⟨_,rfl⟩;have hi1:65-D.length=i+1:=by omega
  have hi2:i<65:=by omega
  rw[hi1];have hLD2:Hid (L.drop (i+1)=D):=by show _=_;have:=hLD.out;rw[hi1]at this;exact this
  obtain⟨c0,hc0⟩:∃c,L[i]? =some c:=⟨_,List.getElem?_eq_getElem (by rw[hL.out];exact hi2)⟩;obtain⟨hc1,hc2⟩:=hrow i c0 hc0;have hi3:((i+1:Nat):Int)-1=i:=by omega
  have hi4:(0:Int)<=i:=by omega
  have hi5:(i:Int)<65:=by omega
  have hset:∀c:UInt8,ByteRow (wr.setCell ⟨w.heap.size,i,none⟩ (.int .u8 (c.toNat:Int))) w.heap.size (L.set i c)/\(L.set i c).length=65/\(L.set i c).drop i=c::D:=fun c=>by
   refine⟨hrow.set i c,by rw[List.length_set];exact hL.out,?_⟩;rw[List.drop_eq_getElem_cons (by rw[List.length_set,hL.out];exact hi2),List.getElem_set_self,List.drop_set_of_lt (by omega),hLD2.out]
  have Hset:=Ih hset;have Hi:=Ih hi;clear hset hi1 hLD hLD2 hc0 hrow hL hi;by_cases hub:u<16
  ·have hul:(u:Int)<16:=by omega
   have hE2:Hid (Lz.baseD 16 n=Lz.hex1 u::D):=by
    show _=_;rw[hE.out,Lz.baseD_small hub];rfl
   clear hE hle
   go_upto_region 25 with fail
   rw[digs u (by omega)];obtain⟨r1,r2,r3⟩:=Hset.out (Lz.hex1 u);have hb2:=hb.setCell (Nat.le_refl _) (p:=⟨w.heap.size,i,none⟩) (.int .u8 ((Lz.hex1 u).toNat:Int));generalize wr.setCell ⟨w.heap.size,i,none⟩ (.int .u8 ((Lz.hex1 u).toNat:Int))=w2 at r1 hb2⊢;have hal:Tryz.prog.arrayLen 181=65:=by simp[Program.arrayLen,Tryz.underlying181]
   have hsl:∀W,(Instr.sliceAt 181 (.pointer (some ⟨w.heap.size,0,none⟩)) (some (.int .i64 (i:Int))) none none).run Tryz.prog W=.ok (.slice (some ⟨w.heap.size,i,none⟩) (65-i) (65-i)) W:=fun W=>by
    rw[run_sliceAt_array_l W 181 ⟨w.heap.size,0,none⟩ (by simp[Program.arrayLen,Program.elem,Tryz.underlying181]) .i64 (i:Int) (by omega) (by rw[hal];omega)];go_simp;intro h;omega
   have hcv:∀W,W=w2->(convert 44 9 (.slice (some ⟨w.heap.size,i,none⟩) (65-i) (65-i))).run Tryz.prog W=.ok (.string ⟨(Lz.hex1 u::D).toArray⟩) W:=by
    rintro W rfl
    have hc:=run_convert_bytes_back (P:=Tryz.prog) W 44 9 5 ⟨w.heap.size,i,none⟩ (65-i) (Lz.hex1 u::D) Tryz.underlying44 Tryz.underlying5 Tryz.underlying9 (by
     intro j hj;have hg:((L.set i (Lz.hex1 u)).drop i)[j]? =some (Lz.hex1 u::D)[j]:=by rw[r3];exact List.getElem?_eq_getElem hj
     rw[List.getElem?_drop]at hg;have:=(r1 (i+j) _ hg).1;rw[show(⟨w.heap.size,i,none⟩:Addr).add j=⟨w.heap.size,i+j,none⟩ by simp[Addr.add]];exact this)
    rw[show(Lz.hex1 u::D).length=65-i by rw[List.length_cons,Hi.out];omega]at hc;exact hc
   have hcv2:=hcv w2 rfl;clear hal hcv r1 r3 Hset hc1 hc2
   go_wp2
   go_ret2
   exact⟨_,_,rfl,Ih (by rw[hE2.out]),hb2⟩
  ·have hug:(16:Int)<=(u:Int):=by omega
   have hd:=Lz.baseD_big (b:=16) (n:=u) (by omega) hub
   have hE2:Hid (Lz.baseD 16 n=Lz.baseD 16 (u / 16)++(Lz.hex1 (u%16)::D)):=by
    show _=_;rw[hE.out,hd];simp
   have hle2:Hid (u / 16*16^(Lz.hex1 (u%16)::D).length<=n):=by
    show _<=_;refine Nat.le_trans ?_ hle.out;rw[List.length_cons,Nat.pow_succ,Nat.mul_comm (16^_) 16,<-Nat.mul_assoc];exact Nat.mul_le_mul_right _ (Nat.div_mul_le_self u 16)
   have hD2:D.length+1<=13:=fmt_len 16 (by omega) u D.length n (by omega) hle.out HN.out;have hand:bits .and .u64 (u:Int) 15=((u%16:Nat):Int):=by rw[show(15:Int)=((15:Nat):Int)from rfl,u64_and_nat _ _ (by omega) (by omega),Lz.mask15]
   have hm16:u%16<16:=by omega
   generalize u%16=d at hand hm16 hE2 hle2;clear hd hE hle
   go_wp2_with fail
   rw[digs d hm16]
   go_roundw
   case rel=>
    obtain⟨r1,r2,r3⟩:=Hset.out (Lz.hex1 d);exact⟨u / 16,Lz.hex1 d::D,L.set i (Lz.hex1 d),by simpa using hD2,by omega,by go_num,by rw[List.length_cons,Hi.out];congr 2;omega,r1,r2,Ih (by rw[List.length_cons,show 65-(D.length+1)=i by rw[Hi.out];omega];exact r3),hE2,hle2,hb.setCell (Nat.le_refl _) _⟩
   case measure=>simp[intOf];omega
theorem FormatUintI_16 (n:Nat) (hn:n<=1099511627776) (w:World) (h:w.cell? ⟨6,15,none⟩=some (.int .u8 4)):Calls Tryz.prog 216 #[.int .u64 n,.int .i64 16] w (RStr (Lz.baseD 16 n) w):=by
 have cF:=Ih (fmtBits_16 n hn w h);go_enter Tryz.func216,Tryz.ntmps216
 go_wp2_with fail
 refine(cF.out).mono ?_;rintro e w1 ⟨u,v,rfl,hu,hb⟩
 go_wp2
 go_ret;exact⟨u,rfl,hu,hb⟩
theorem FormatUint_16 (n:Nat) (hn:n<=1099511627776) (w:World) (h:w.cell? ⟨6,15,none⟩=some (.int .u8 4)):Calls Tryz.prog 205 #[.int .u64 n,.int .i64 16] w (RStr (Lz.baseD 16 n) w):=by
 have cF:=Ih (FormatUintI_16 n hn w h);go_enter Tryz.func205,Tryz.ntmps205
 go_wp2_with fail
 refine(cF.out).mono ?_;rintro e w1 ⟨u,rfl,hu,hb⟩
 go_wp2
 go_ret;exact⟨u,rfl,hu,hb⟩
end Go.Proofs.YtipndhbgehdeoaaGreatDoor
namespace Lz
open Go
theorem rune_hi (s:ByteArray) (pos:Nat) (h:pos<s.size) (hb:128<=(s[pos]'h).toNat):128<=(Utf8.decode s pos).1:=by
 rw[Lib.decode_at]
 have h0:(s.get! pos).toNat=(s[pos]'h).toNat:=by
  congr 1;show s.data[pos]! =_;rw[getElem!_pos s.data pos h];rfl
 rcases Lib.decodeN_shape (s.size-pos) (s.get! pos).toNat (s.get! (pos+1)).toNat (s.get! (pos+2)).toNat (s.get! (pos+3)).toNat with⟨h1,_⟩|⟨_,_,_,h2,h3⟩|⟨_,_,_,_,h2,_,h3⟩|⟨_,_,_,_,_,h2,_,h3⟩|h3
 ·omega
 ·rw[h3];exact h2
 ·rw[h3];show 128<=_;omega
 ·rw[h3];show 128<=_;omega
 ·rw[h3];show 128<=65533;omega
theorem idx_any {p:Nat->Bool} {q:UInt8->Bool} (hp:∀x,128<=x->p x=true) (hq:∀c:UInt8,c.toNat<128->p c.toNat=q c) (hq2:∀c:UInt8,128<=c.toNat->q c=true) (s:ByteArray):
  ∀(f pos:Nat),s.size<=pos+f->decide (0<=Lib.idxFuncFrom p true s f pos)=(s.data.toList.drop pos).any q
 | 0,pos,h=>by
   rw[List.drop_eq_nil_of_le (by show s.size<=pos;omega)];rfl
 | f+1,pos,h=>by
   rw[Lib.idxFuncFrom];by_cases hps:pos<s.size
   ·rw[if_pos hps]
    have hd:s.data.toList.drop pos=s[pos]::s.data.toList.drop (pos+1):=by
     rw[List.drop_eq_getElem_cons (show pos<s.data.toList.length from hps)];rfl
    rw[hd,List.any_cons];rcases Nat.lt_or_ge (s[pos]'hps).toNat 128 with h1|h1
    ·have hdec:=decode_ascii s pos hps h1;rw[hdec,hq _ h1];cases hqc:q s[pos]with
     | true=>simp
     | false=>
       simp only[Bool.false_eq_true,if_false,Bool.false_or];exact idx_any hp hq hq2 s f (pos+1) (by omega)
    ·rw[hp _ (rune_hi s pos hps h1),hq2 _ h1]
     simp
   ·rw[if_neg hps,List.drop_eq_nil_of_le (by show s.size<=pos;omega)];rfl
theorem containsAny_eq (l chars:Bs):Lib.containsAny l chars=l.any chars.contains:=by
 unfold Lib.containsAny
 induction l with
 | nil=>rfl
 | cons b r ih=>
   have hge:=Lib.indexAny_ge chars r;rw[Lib.indexAny,List.any_cons,<-ih];by_cases h:chars.contains b=true
   ·rw[if_pos h,h];simp
   ·rw[if_neg h];have h2:chars.contains b=false:=by simpa using h
    rw[h2,Bool.false_or,Bool.eq_iff_iff,decide_eq_true_eq,decide_eq_true_eq];by_cases h3:Lib.indexAny r chars= -1
    ·rw[h3];simp
    ·rw[if_neg (by simpa using h3)];omega
end Lz
namespace Go.Proofs.YtipndhbgehdeoaaGreatDoor
open Go.RowKit
theorem Join_z (a:Option Addr) (c:Nat) (sep:ByteArray) (w:World):Calls Tryz.prog 206 #[.slice a 0 c,.string sep] w (RStr [] w):=by
 refine(Tryz.strings_Join_none a c sep w).mono ?_;rintro e w' ⟨h1,rfl⟩;exact⟨_,h1,Ih rfl,Below.refl _ _⟩
theorem Cut_h (s p:ByteArray) (hs:s.size<=1073741824) (w:World) (hE:EnvH w):Calls Tryz.prog 27 #[.string s,.string p] w (RStrStrB (Lib.cut s.data.toList p.data.toList).1 (Lib.cut s.data.toList p.data.toList).2.1 (Lib.cut s.data.toList p.data.toList).2.2 w):=by
 obtain⟨m,hm⟩:=hE.ml;exact(Tryz.strings_Cut s p m w (by omega) hm).mono fun _ _ ⟨he,n,hw⟩=>⟨_,_,he,rfl,rfl,by rw[hw];exact below_drewN (Below.refl _ _) n⟩
def pDom (x:Nat):Bool:=if x<128 then Lz.oddB (UInt8.ofNat x)else true
def bannedB:ByteArray:=⟨#[0,9,10,13,32,35,47,58,60,62,63,64,91,92,93,94,124]⟩
theorem banned_at:∀x:Fin 128,32<x.val->x.val<127->x.val≠37->decide (0<=Lib.indexByte bannedB.data.toList x.val.toUInt8)=Lz.oddB (UInt8.ofNat x.val):=by decide +kernel
theorem odd_at:∀x:Fin 128,(x.val<=32\/127<=x.val\/x.val=37)->Lz.oddB (UInt8.ofNat x.val)=true:=by decide +kernel
theorem dom1_any (x:Nat) (hx:x<=1114111) (w:World):Calls Tryz.prog 183 #[.int .i32 (x:Int)] w fun e w'=>e=.returned (.bool (pDom x))/\Below w.heap.size w w':=by
 by_cases h:x<=32\/127<=x\/x=37
 ·have hp:pDom x=true:=by
   unfold pDom;split
   ·exact odd_at ⟨x,by assumption⟩ h
   ·rfl
  rw[hp];rcases Nat.lt_or_ge 32 x with h1|h1
  ·have h1':¬(x:Int)<=32:=by omega
   have h1b:decide ((x:Int)<=32)=false:=decide_eq_false h1';rcases Nat.lt_or_ge x 127 with h2|h2
   ·have h3:x=37:=by omega
    have h2b:decide (127<=(x:Int))=false:=decide_eq_false (by omega);have h3b:((x:Int)==37)=true:=by rw[h3];rfl
    have h2':¬127<=(x:Int):=by omega
    clear h h3 hp;go_enter Tryz.func183,Tryz.ntmps183
    go_wp2
    go_ret;exact⟨rfl,Below.refl _ _⟩
   ·have h2b:decide (127<=(x:Int))=true:=decide_eq_true (by omega);have h2':127<=(x:Int):=by omega
    clear h hp;go_enter Tryz.func183,Tryz.ntmps183
    go_wp2
    go_ret;exact⟨rfl,Below.refl _ _⟩
  ·have h1':(x:Int)<=32:=by omega
   have h1b:decide ((x:Int)<=32)=true:=decide_eq_true h1';clear h hp;go_enter Tryz.func183,Tryz.ntmps183
   go_wp2
   go_ret;exact⟨rfl,Below.refl _ _⟩
 ·have hp:pDom x=decide (0<=Lib.indexByte bannedB.data.toList x.toUInt8):=by
   unfold pDom;rw[if_pos (by omega)];exact(banned_at ⟨x,by omega⟩ (by show 32<x;omega) (by show x<127;omega) (by show x≠37;omega)).symm
  have cC:=Tryz.strings_ContainsRune_ascii bannedB (x:Int) w (by omega) (by omega);rw[show((x:Int)).toNat=x by omega,<-hp]at cC;have CC:=Ih cC;have h1':¬(x:Int)<=32:=by omega
  have h1b:decide ((x:Int)<=32)=false:=decide_eq_false h1';have h2':¬127<=(x:Int):=by omega
  have h2b:decide (127<=(x:Int))=false:=decide_eq_false h2';have h3b:((x:Int)==37)=false:=beq_eq_false_iff_ne.2 (by omega);clear h hp cC;go_enter Tryz.func183,Tryz.ntmps183
  go_wp2_with fail
  refine(CC.out).mono ?_;rintro e w' ⟨rfl,rfl⟩
  go_wp2
  go_ret;exact⟨rfl,Below.refl _ _⟩
theorem pDom_hi (x:Nat) (h:128<=x):pDom x=true:=by unfold pDom;rw[if_neg (by omega)]
theorem pDom_lo (c:UInt8) (h:c.toNat<128):pDom c.toNat=Lz.oddB c:=by unfold pDom;rw[if_pos h];simp
theorem odd_hi:∀c:UInt8,128<=c.toNat->Lz.oddB c=true:=Lz.byte_all (by decide +kernel)
theorem fn_dom1 (args:Array Value) (w:World):(callFunc 183 args).run Tryz.prog w=.ok (.enter 183 args) w:=enters_of Tryz.func183 (by kernel_rfl) rfl args w
theorem IndexFunc_dom (s:ByteArray) (w:World):Calls Tryz.prog 80 #[.string s,.func (.func 183) #[] #[]] w fun e w'=>∃i:Int,e=.returned (.int .i64 i)/\Hid (decide (0<=i)=s.data.toList.any Lz.oddB)/\Below w.heap.size w w':=by
 refine(Tryz.strings_IndexFunc_grows 183 #[] fn_dom1 pDom s w (fun W x hx _=>dom1_any x hx W)).mono ?_;rintro e w' ⟨he,hb⟩;refine⟨_,he,Ih ?_,hb⟩;have:=Lz.idx_any pDom_hi pDom_lo odd_hi s s.size 0 (by omega);rw[List.drop_zero]at this;exact this
end Go.Proofs.YtipndhbgehdeoaaGreatDoor
namespace Lz
open Go
structure UrlL where
 scheme:Bs:=[]
 user:Bs:=[]
 pass:Bs:=[]
 hasHost:Bool:=false
 host:Bs:=[]
 port:Int:= -1
 opq:Bool:=false
 path:List Bs:=[]
 hasQuery:Bool:=false
 hasFragment:Bool:=false
 query:Bs:=[]
 fragment:Bs:=[]
 deriving DecidableEq,Repr
inductive UR where
 | ok (u:UrlL)
 | er (n:Nat)
 deriving DecidableEq,Repr
def UR.bind:UR->(UrlL->UR)->UR
 | .ok u,f=>f u
 | .er n,_=>.er n
def httpS:Bs:=[104,116,116,112]
def httpsS:Bs:=[104,116,116,112,115]
def wsS:Bs:=[119,115]
def wssS:Bs:=[119,115,115]
def ftpS:Bs:=[102,116,112]
def fileS:Bs:=[102,105,108,101]
def blobS:Bs:=[98,108,111,98]
def defP (s:Bs):Int:=if s=httpS\/s=wsS then 80 else if s=httpsS\/s=wssS then 443 else if s=ftpS then 21 else -1
def specP (s:Bs):Bool:=s==fileS|| !(defP s== -1)
def slashQ (sp:Bool) (c:UInt8):Bool:=c==47||(sp&&c==92)
def setU:Nat->Bs
 | 1=>[32,34,60,62,96]
 | 2=>[32,34,35,60,62]
 | 3=>[32,34,35,60,62,39]
 | 4=>[32,34,35,60,62,63,94,96,123,125]
 | 5=>[32,34,35,60,62,63,94,96,123,125,47,58,59,61,64,91,92,93,124]
 | _=>[]
def driveP:Bs->Bool
 | [a,b]=>isAlpha a&&(b==58||b==124)
 | _=>false
def drivenP:Bs->Bool
 | [a,b]=>isAlpha a&&(b==58||b==124)
 | a::b::c::_=>isAlpha a&&(b==58||b==124)&&(c==47||c==92)
 | _=>false
def rootedP:List Bs->Bool
 | p::_=>driveP p&&p[1]? ==some 58
 | []=>false
def shortP (scheme:Bs) (l:List Bs):List Bs:=if scheme=fileS/\l.length=1/\rootedP l=true then l else l.dropLast
def unE:Bs->Bs
 | 37::50::101::r=>46::unE r
 | c::r=>c::unE r
 | []=>[]
def dotsP (p:Bs):Nat:=if unE (low p)=[46]then 1 else if unE (low p)=[46,46]then 2 else 0
def cutS (sp:Bool) (s:Bs):Bs×Bs×Bool:=(s.takeWhile fun c=> !slashQ sp c,(s.dropWhile fun c=> !slashQ sp c).drop 1,s.any (slashQ sp))
def splitS (sp:Bool):Bs->List Bs
 | []=>[[]]
 | c::r=>if slashQ sp c then[]::splitS sp r else match splitS sp r with
   | h::t=>(c::h)::t
   | []=>[[c]]
def onL (scheme:Bs):List Bs->List Bs->List Bs
 | path,[]=>path
 | path,p::r=>
   let q:=encodeP (setU 4) p
   if dotsP q=2 then onL scheme (if r=[]then shortP scheme path++[[]]else shortP scheme path) r
   else if dotsP q=1 then onL scheme (if r=[]then path++[[]]else path) r
   else onL scheme (path++[if scheme=fileS/\path=[]/\driveP q=true then q.take 1++[58]else q]) r
def onP (u:UrlL) (t:Bs):UrlL:={u with path:=onL u.scheme u.path (splitS (specP u.scheme) t)}
def colonP:Bool->Bs->Option Nat
 | _,[]=>none
 | i,c::r=>if c==91 then(colonP true r).map (·+1)else if c==93 then(colonP false r).map (·+1)else if c==58&& !i then some 0 else(colonP i r).map (·+1)
def portN:Nat->Bs->Option Nat
 | n,[]=>some n
 | n,c::r=>if isDigit c then portN (min (10*n+(c.toNat-48)) 1048576) r else none
def portU (u:UrlL) (s:Bs):UR:=match portN 0 s with
 | none=>.er 81
 | some n=>if 65535<n then .er 81 else .ok (if s≠[]/\(n:Int)≠defP u.scheme then{u with port:=n} else u)
def hostU (u:UrlL) (s:Bs):UR:=match hostPr s (specP u.scheme)with
 | .er n=>.er n
 | .ok h=>.ok {u with host:=h,hasHost:=true}
def lastAt:Bs->Option (Bs×Bs)
 | []=>none
 | c::r=>match lastAt r with
   | some (x,y)=>some (c::x,y)
   | none=>if c==64 then some ([],r)else none
def whoU (u:UrlL) (a:Bs):UrlL:={u with user:=encodeP (setU 5) (Lib.cut a [58]).1,pass:=encodeP (setU 5) (Lib.cut a [58]).2.1}
def placeU (u:UrlL) (a:Bs):UR:=match colonP false a with
 | some i=>if a.take i=[]then .er 70 else(hostU u (a.take i)).bind fun u=>portU u (a.drop (i+1))
 | none=>if a=[]/\specP u.scheme=true then .er 70 else(hostU u a).bind fun u=>portU u []
def authU (u:UrlL) (a:Bs):UR:=match lastAt a with
 | some (x,y)=>if y=[]then .er 70 else placeU (whoU u x) y
 | none=>placeU u a
def hostedU (u:UrlL) (r:Bs):UR:=
 let c:=cutS (specP u.scheme) r
 (authU u c.1).bind fun u=>.ok (if c.2.2||specP u.scheme then onP u c.2.1 else u)
def restU (u b:UrlL):UrlL:={u with user:=b.user,pass:=b.pass,hasHost:=b.hasHost,host:=b.host,port:=b.port}
def pathU (u b:UrlL) (r:Bs):UrlL:=
 if r≠[]then onP {u with path:=shortP u.scheme b.path} r
 else if u.hasQuery then{u with path:=b.path} else{u with path:=b.path,query:=b.query,hasQuery:=b.hasQuery}
def leadS (sp:Bool) (r:Bs):Nat:=(r.takeWhile (slashQ sp)).length
def relU (u b:UrlL) (r:Bs):UR:=
 let n:=leadS (specP u.scheme) r
 if 1<n then hostedU u (if specP u.scheme then r.drop n else r.drop 2)
 else if n=1 then .ok (onP (restU u b) (r.drop 1))
 else .ok (pathU (restU u b) b r)
def localS:Bs:=[108,111,99,97,108,104,111,115,116]
def filesU (u:UrlL) (b:Option UrlL) (r:Bs):UR:=
 let u:UrlL:={u with hasHost:=true}
 let n:=leadS true r
 if 1<n then
  let c:=cutS true (r.drop 2)
  if driveP c.1 then .ok (onP u (r.drop 2))
  else(if c.1=[]then UR.ok u else hostU u c.1).bind fun u=>.ok (onP (if u.host=localS then{u with host:=[]} else u) c.2.1)
 else if n=1 then
  .ok (onP (match b with
   | some x=>if x.scheme=fileS then(if drivenP (r.drop 1)=false/\rootedP x.path=true then{u with host:=x.host,path:=x.path.take 1} else{u with host:=x.host})else u
   | none=>u) (r.drop 1))
 else match b with
  | some x=>if x.scheme=fileS then(if drivenP r then .ok (onP {u with host:=x.host} r)else .ok (pathU {u with host:=x.host} x r))else .ok (onP u r)
  | none=>.ok (onP u r)
def schemeC (c:UInt8):Bool:=isAlpha c||isDigit c||c==43||c==45||c==46
def schemedP (s:Bs):Bs×Bs×Bool:=
 let c:=Lib.cut s [58]
 if c.2.2&& !c.1.isEmpty&&(match c.1 with|a::_=>isAlpha a|[]=>false)&&c.1.all schemeC then(low c.1,c.2.1,true)else([],s,false)
def cleanP (s:Bs):Bs:=(((s.dropWhile (·<=32)).reverse.dropWhile (·<=32)).reverse).filter fun c=> !(c==9||c==10||c==13)
def mainU (u:UrlL) (s:Bs) (b:Option UrlL):UR:=
 let c:=schemedP s
 if c.2.2 then
  let u:UrlL:={u with scheme:=c.1}
  if c.1=fileS then filesU u b c.2.1
  else if specP c.1 then(match b with
   | some x=>if x.scheme=c.1/\Lib.hasPrefix c.2.1 [47,47]=false then relU u x c.2.1 else hostedU u (c.2.1.drop (leadS true c.2.1))
   | none=>hostedU u (c.2.1.drop (leadS true c.2.1)))
  else if Lib.hasPrefix c.2.1 [47,47]then hostedU u (c.2.1.drop 2)
  else if Lib.hasPrefix c.2.1 [47]then .ok (onP u (c.2.1.drop 1))
  else .ok {u with opq:=true,path:=[encodeP [] c.2.1]}
 else match b with
  | none=>.er 82
  | some x=>
    if x.opq&&(!s.isEmpty||u.hasQuery|| !u.hasFragment)then .er 82
    else
     let u:UrlL:={u with scheme:=x.scheme}
     if x.opq then .ok (pathU {u with opq:=true} x [])
     else if x.scheme=fileS then filesU u b s
     else relU u x s
def readU (s:Bs) (b:Option UrlL):UR:=
 let f:=Lib.cut (cleanP s) [35]
 let q:=Lib.cut f.1 [63]
 (mainU {query:=q.2.1,hasQuery:=q.2.2,fragment:=f.2.1,hasFragment:=f.2.2} q.1 b).bind fun u=>
  .ok {u with query:=encodeP (setU (if specP u.scheme then 3 else 2)) u.query,fragment:=encodeP (setU 1) u.fragment}
def atU (u:UrlL):Bs:=if u.port= -1 then u.host else u.host++[58]++Lib.itoa u.port
def textU (u:UrlL):Bs:=
 u.scheme++[58]++
 (if u.hasHost then[47,47]++u.user++(if u.pass=[]then[]else[58]++u.pass)++(if u.user=[]/\u.pass=[]then[]else[64])++atU u
  else if u.opq=false/\1<u.path.length/\u.path.head? =some []then[47,46]else[])++
 (if u.opq then u.path.headD []else u.path.flatMap fun p=>47::p)++
 (if u.hasQuery then 63::u.query else[])++(if u.hasFragment then 35::u.fragment else[])
def parseU (s:Bs) (b:Option UrlL):UR:=
 if 4000<s.length then .er 3
 else match b with
  | some x=>if readU (textU x) none=.ok x then readU s b else .er 2
  | none=>readU s none
def originU (u:UrlL):Bs:=
 if defP u.scheme≠ -1 then u.scheme++[58,47,47]++atU u
 else if u.scheme=blobS/\u.opq=true/\u.path≠[]then(match parseU (u.path.headD []) none with
  | .ok x=>if x.scheme=httpS\/x.scheme=httpsS then x.scheme++[58,47,47]++atU x else[110,117,108,108]
  | .er _=>[110,117,108,108])
 else[110,117,108,108]
def readsU (s base want:Bs) (e:Nat):Bool:=
 let f:=fun b=>match parseU s b with
  | .ok u=>decide (e=0)&&decide (textU u=want)
  | .er n=>decide (e=n)&&decide (n≠0)
 if base=[]then f none else match parseU base none with
  | .ok b=>f (some b)
  | .er _=>false
def lowQ (c:UInt8):Bool:=decide (c<=32)
def keepQ (c:UInt8):Bool:= !(c==9||c==10||c==13)
theorem low_keep {c:UInt8} (h:lowQ c=false):keepQ c=true:=by
 unfold lowQ at h;unfold keepQ;have h32:¬c<=32:=of_decide_eq_false h;cases h9:(c==9)
 ·cases h10:(c==10)
  ·cases h13:(c==13)
   ·rfl
   ·exact absurd (by rw[eq_of_beq h13];decide) h32
  ·exact absurd (by rw[eq_of_beq h10];decide) h32
 ·exact absurd (by rw[eq_of_beq h9];decide) h32
theorem filter_drop:∀l:Bs,(l.dropWhile lowQ).filter keepQ=(l.filter keepQ).dropWhile lowQ
 | []=>rfl
 | c::r=>by
   rw[List.dropWhile_cons];cases h:lowQ c
   ·simp only[Bool.false_eq_true,if_false];rw[List.filter_cons,if_pos (low_keep h),List.dropWhile_cons,h]
    simp
   ·simp only[if_true];rw[filter_drop r,List.filter_cons];split
    ·rw[List.dropWhile_cons,if_pos h]
    ·rfl
theorem clean_eq (s:Bs):cleanP s=(((s.filter keepQ).dropWhile lowQ).reverse.dropWhile lowQ).reverse:=by
 show(((s.dropWhile lowQ).reverse.dropWhile lowQ).reverse).filter keepQ=_;rw[List.filter_reverse,filter_drop,List.filter_reverse,filter_drop]
def okE (of:Bs) (c:UInt8):Bool:= !(c<32||126<c||of.contains c)
theorem encode_id {of l:Bs} (h:l.all (okE of)=true):encodeP of l=l:=by
 induction l with
 | nil=>rfl
 | cons c r ih=>
   rw[List.all_cons,Bool.and_eq_true]at h;unfold encodeP at ih⊢;rw[List.flatMap_cons,ih h.2,if_neg]
   ·rfl
   ·have:=h.1;unfold okE at this;intro hh;rw[hh]at this;cases this
theorem triple_ok:∀k:Fin 6,∀d:Fin 16,okE (setU k.val) (digitU d.val)=true:=by decide +kernel
theorem pct_ok:∀k:Fin 6,okE (setU k.val) 37=true:=by decide +kernel
theorem encode_ok (k:Nat) (hk:k<6):∀s:Bs,(encodeP (setU k) s).all (okE (setU k))=true
 | []=>rfl
 | c::r=>by
   have ih:=encode_ok k hk r;unfold encodeP at ih⊢;rw[List.flatMap_cons,List.all_append,ih,Bool.and_true];split
   ·have h1:=triple_ok ⟨k,hk⟩ ⟨c.toNat / 16,by have:=c.toNat_lt;omega⟩;have h2:=triple_ok ⟨k,hk⟩ ⟨c.toNat%16,Nat.mod_lt _ (by omega)⟩;rw[List.all_cons,List.all_cons,List.all_cons,pct_ok ⟨k,hk⟩,h1,h2];rfl
   ·rename_i h;rw[List.all_cons];unfold okE;simp only[List.all_nil,Bool.and_true];cases hh:(decide (c<32)||decide (126<c)||(setU k).contains c)
    ·rfl
    ·exact absurd hh h
theorem index_one_none {k:UInt8}:∀{s:Bs},k∉s->Lib.index s [k]= -1
 | [],_=>rfl
 | c::r,h=>by
   have hc:([k]:Bs).isPrefixOf (c::r)=false:=by
    simp only[List.isPrefixOf,Bool.and_true];rw[beq_eq_false_iff_ne];intro e;exact h (by rw[e];simp)
   rw[Lib.index,hc,if_neg (by decide),index_one_none (fun hh=>h (List.mem_cons_of_mem _ hh))];rfl
theorem index_one_at {k:UInt8}:∀{a:Bs} (b:Bs),k∉a->Lib.index (a++k::b) [k]=a.length
 | [],b,_=>by
   show Lib.index (k::b) [k]=_;have hc:([k]:Bs).isPrefixOf (k::b)=true:=by simp[List.isPrefixOf]
   rw[Lib.index,hc,if_pos rfl];rfl
 | c::r,b,h=>by
   have hc:([k]:Bs).isPrefixOf (c::(r++k::b))=false:=by
    simp only[List.isPrefixOf,Bool.and_true];rw[beq_eq_false_iff_ne];intro e;exact h (by rw[e];simp)
   have ih:=index_one_at (a:=r) b (fun hh=>h (List.mem_cons_of_mem _ hh));rw[List.cons_append,Lib.index,hc,if_neg (by decide),ih,if_neg]
   ·simp
   ·intro hh;have h0:=eq_of_beq hh;omega
theorem cut_one_no {k:UInt8} {s:Bs} (h:k∉s):Lib.cut s [k]=(s,[],false):=by
 unfold Lib.cut;rw[index_one_none h];rfl
theorem cut_one_at {k:UInt8} {a:Bs} (b:Bs) (h:k∉a):Lib.cut (a++k::b) [k]=(a,b,true):=by
 unfold Lib.cut;rw[index_one_at b h,if_pos (by omega)]
 simp
theorem lastAt_no:∀{s:Bs},(64:UInt8)∉s->lastAt s=none
 | [],_=>rfl
 | c::r,h=>by
   have hc:(c==64)=false:=by rw[beq_eq_false_iff_ne];intro e;exact h (by rw[e];simp)
   rw[lastAt,lastAt_no (fun hh=>h (List.mem_cons_of_mem _ hh)),hc];rfl
theorem lastAt_at:∀(a:Bs) {b:Bs},(64:UInt8)∉b->lastAt (a++64::b)=some (a,b)
 | [],b,h=>by
   show lastAt (64::b)=_;rw[lastAt,lastAt_no h];rfl
 | c::r,b,h=>by
   rw[List.cons_append,lastAt,lastAt_at r h]
def plainQ (c:UInt8):Bool:= !lowQ c&& !(c==35)&& !(c==63)
def finU (u:UrlL):UR:=.ok {u with query:=encodeP (setU (if specP u.scheme then 3 else 2)) u.query,fragment:=encodeP (setU 1) u.fragment}
theorem schemed_of {a:Bs} (h1:a≠[]) (h2:∀c,a.head? =some c->isAlpha c=true) (h3:a.all schemeC=true) (r:Bs):schemedP (a++58::r)=(low a,r,true):=by
 have h58:(58:UInt8)∉a:=fun hc=>by have:=List.all_eq_true.1 h3 58 hc;cases this
 unfold schemedP;rw[cut_one_at r h58];simp only;cases a with
 | nil=>exact absurd rfl h1
 | cons c t=>
   have:=h2 c rfl;simp only[List.isEmpty_cons,Bool.not_false,Bool.true_and,this,h3,if_true]
theorem itoa_nat (n:Nat):Lib.itoa (n:Int)=Lib.decDigits n:=by
 unfold Lib.itoa;rw[if_neg (by omega)];rfl
def pieceN (sp:Bool) (p:Bs):Prop:=p.all (okE (setU 4))=true/\dotsP p=0/\∀c∈p,slashQ sp c=false
structure HostN (sp:Bool) (h:Bs):Prop where
 again:hostPr h sp=.ok h
 chars:∀c∈h,plainQ c=true/\c≠64/\slashQ true c=false/\c<127
 colon:(∀c∈h,c≠58/\c≠91/\c≠93)\/∃x,h=91::(x++[93])/\(93:UInt8)∉x
structure MU (u:UrlL):Prop where
 s1:u.scheme≠[]
 s2:∀c,u.scheme.head? =some c->isAlpha c=true
 s3:u.scheme.all schemeC=true
 s4:low u.scheme=u.scheme
 user:u.user.all (okE (setU 5))=true
 pass:u.pass.all (okE (setU 5))=true
 special:specP u.scheme=true->u.hasHost=true/\u.opq=false/\u.path≠[]
 bare:u.hasHost=false->u.user=[]/\u.pass=[]/\u.host=[]/\u.port= -1
 opaqueN:u.opq=true->u.hasHost=false/\∃p:Bs,u.path=[p]/\p.all (okE [])=true/\(35:UInt8)∉p/\(63:UInt8)∉p/\p.head? ≠some 47/\(u.hasQuery=false->u.hasFragment=false->p.getLast? ≠some 32)
 path:u.opq=false->(∀p∈u.path,pieceN (specP u.scheme) p)/\(u.hasHost=false->u.path≠[])
 drive:u.scheme=fileS->∀p,u.path.head? =some p->driveP p=true->p.take 1++[58]=p
 host:u.hasHost=true->HostN (specP u.scheme) u.host\/(u.scheme=fileS/\u.host=[])
 empty:u.host=[]->u.user=[]/\u.pass=[]/\u.port= -1
 needed:specP u.scheme=true->u.scheme≠fileS->u.host≠[]
 file:u.scheme=fileS->u.user=[]/\u.pass=[]/\u.port= -1/\u.host≠localS/\driveP u.host=false
 port:u.port= -1\/∃n:Nat,u.port=n/\n<=65535/\(n:Int)≠defP u.scheme
structure NU (u:UrlL):Prop extends MU u where
 query:u.query.all (okE (setU (if specP u.scheme then 3 else 2)))=true
 noQuery:u.hasQuery=false->u.query=[]
 fragment:u.fragment.all (okE (setU 1))=true
 noFragment:u.hasFragment=false->u.fragment=[]
theorem url_ext {a b:UrlL} (h1:a.scheme=b.scheme) (h2:a.user=b.user) (h3:a.pass=b.pass) (h4:a.hasHost=b.hasHost) (h5:a.host=b.host) (h6:a.port=b.port) (h7:a.opq=b.opq) (h8:a.path=b.path) (h9:a.hasQuery=b.hasQuery) (h10:a.hasFragment=b.hasFragment) (h11:a.query=b.query) (h12:a.fragment=b.fragment):a=b:=by
 cases a;cases b;simp_all
theorem slash_sub {sp:Bool} {c:UInt8} (h:slashQ true c=false):slashQ sp c=false:=by
 cases sp
 ·unfold slashQ at h⊢;simp only[Bool.true_and,Bool.or_eq_false_iff]at h;rw[h.1];rfl
 ·exact h
def pathT (l:List Bs):Bs:=l.flatMap fun p=>47::p
theorem beq_swap (x:UInt8):((47:UInt8)==x)=(some x==some (47:UInt8)):=by
 rw[Bool.eq_iff_iff];simp only[beq_iff_eq,Option.some.injEq];exact eq_comm
theorem hasPrefix_two (s:Bs):Lib.hasPrefix s [47,47]=(s[0]? ==some 47&&s[1]? ==some 47):=by
 cases s with
 | nil=>rfl
 | cons a r=>
   cases r with
   | nil=>
     show((47:UInt8)==a&&false)=((some a==some 47)&&(none==some (47:UInt8)));rw[beq_swap];rfl
   | cons b t=>
     show((47:UInt8)==a&&((47:UInt8)==b&&true))=((some a==some 47)&&(some b==some 47));rw[beq_swap,beq_swap,Bool.and_true]
theorem hasPrefix_one (s:Bs):Lib.hasPrefix s [47]=(s[0]? ==some 47):=by
 cases s with
 | nil=>rfl
 | cons a r=>
   show((47:UInt8)==a&&true)=(some a==some 47);rw[beq_swap,Bool.and_true]
end Lz
