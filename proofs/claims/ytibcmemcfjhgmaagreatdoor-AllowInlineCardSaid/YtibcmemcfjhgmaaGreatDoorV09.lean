/-
  percent.more and percent.Encode.
-/
import Derived.Test.YtibcmemcfjhgmaaGreatDoorV08
import Derived.Test.YtibcmemcfjhgmaaGreatDoorV06
set_option maxHeartbeats 2000000
set_option maxRecDepth 100000
namespace Lz
open Go
def tu (c:UInt8):Bool:=bn c||aQ c
def inB (m:Bs) (c:UInt8):Bool:=m.contains c
def jm (m:Bs) (c:UInt8):Bool:=tu c||inB m c
theorem Bk (c:UInt8):jm [43,47,45,95] c=ea c:=by revert c;exact aA (by decide +kernel)
theorem JM (c:UInt8):jm [45] c=fI c:=by revert c;exact aA (by decide +kernel)
theorem Al (c:UInt8):jm [43,45,46] c=eG c:=by revert c;exact aA (by decide +kernel)
theorem oV {p q:UInt8->Bool} (h:∀c,p c=q c) (l:Bs):dj p l=dj q l:=by
 have:p=q:=funext h;rw[this]
theorem Fv (c:UInt8):eG c=true->(!inB [48,49,50,51,52,53,54,55,56,57,43,45,46] c)=bn c:=by
 revert c;exact aA (by decide +kernel)
theorem Gd (l:Bs) (a:UInt8) (h0:l[0]? =some a):bK l=(dj (jm [43,45,46]) l&& !inB [48,49,50,51,52,53,54,55,56,57,43,45,46] a):=by
 cases l with
 | nil=>cases h0
 | cons b r=>
   obtain rfl:b=a:=by simpa using h0
   rw[oV Al];unfold bK;cases hb:dj eG (b::r)
   ·simp
   ·have h:=gN hb;rw[Fv b (h.1 b (by simp))]
    simp
theorem Kw (l:Bs) (c:UInt8):Lib.index l [c]=Lib.indexByte l c:=by
 induction l with
 | nil=>rfl
 | cons b l ih=>
   by_cases h:b=c
   ·rw[kD h];show _=if b==c then 0 else if Lib.indexByte l c== -1 then -1 else Lib.indexByte l c+1;rw[if_pos (by simpa using h)]
   ·rw[jN h,ih];show _=if b==c then 0 else if Lib.indexByte l c== -1 then -1 else Lib.indexByte l c+1;have hb:(b==c)=false:=by simpa using h
    rw[hb];rfl
theorem take_prefix (p l:Bs):(l.take p.length==p)=Lib.hasPrefix l p:=by
 unfold Lib.hasPrefix;rw[Bool.eq_iff_iff,beq_iff_eq,List.isPrefixOf_iff_prefix];constructor
 ·intro e;rw[<-e];exact List.take_prefix _ _
 ·intro e;exact(List.prefix_iff_eq_take.1 e).symm
theorem lP {p l:Bs} (h:l.length<p.length):Lib.hasPrefix l p=false:=by
 unfold Lib.hasPrefix;rw[Bool.eq_false_iff];intro e;have:=(List.isPrefixOf_iff_prefix.1 e).length_le;omega
theorem NF (l:Bs) (k:Nat):low (l.take k)=(low l).take k:=by unfold low;rw[List.map_take]
def decV (l:Bs):Nat:=l.foldl (fun a c=>a*10+(c.toNat-48)) 0
def capV (l:Bs):Nat:=l.foldl (fun a c=>min (10*a+(c.toNat-48)) 100000) 0
theorem Kl (l:Bs) (c:UInt8):decV (l++[c])=decV l*10+(c.toNat-48):=by unfold decV;rw[List.foldl_append];rfl
theorem yC (l:Bs) (c:UInt8):capV (l++[c])=min (10*capV l+(c.toNat-48)) 100000:=by unfold capV;rw[List.foldl_append];rfl
theorem MD {P:Bs->Prop} (h0:P []) (h1:∀l c,P l->P (l++[c])) (l:Bs):P l:=by
 rw[<-List.reverse_reverse l]
 induction l.reverse with
 | nil=>exact h0
 | cons c r ih=>rw[List.reverse_cons];exact h1 _ _ ih
theorem G8 (l:Bs):capV l=min (decV l) 100000:=by
 refine MD (P:=fun l=>capV l=min (decV l) 100000) rfl ?_ l;intro l c ih;rw[yC,Kl,ih];omega
theorem P3 (l:Bs):capV l<=100000:=by rw[G8];omega
theorem KE (l:Bs):∀a:Nat,a<=l.foldl (fun a c=>a*10+(c.toNat-48)) a:=by
 induction l with
 | nil=>intro a;exact Nat.le_refl _
 | cons c r ih=>intro a;rw[List.foldl_cons];exact Nat.le_trans (by omega) (ih _)
theorem zc (l:Bs):∀a:Nat,a<18446744073709551616->(∀c∈l,aQ c=true)->
  Lib.parseUint10 a l=if l.foldl (fun a c=>a*10+(c.toNat-48)) a<18446744073709551616 then .ok (l.foldl (fun a c=>a*10+(c.toNat-48)) a)else .range:=by
 induction l with
 | nil=>intro a ha _;rw[List.foldl_nil,if_pos ha];rfl
 | cons c r ih=>
   intro a ha hd;obtain⟨h1,h2⟩:=nP (hd c (by simp));rw[List.foldl_cons];unfold Lib.parseUint10;rw[if_pos ⟨h1,h2⟩];have hm:=KE r (a*10+(c.toNat-48));split
   ·rw[if_neg (by omega)]
   ·split
    ·rw[if_neg (by omega)]
    ·exact ih _ (by omega) (fun x hx=>hd x (by simp[hx]))
theorem C5 {l:Bs} (h:dj aQ l=true):eA l=if capV l<=65535 then some (capV l:Int)else none:=by
 obtain⟨hd,du⟩:=gN h
 have h42:l≠[42]:=by
  rintro rfl;have:=hd 42 (by simp)
  revert this;decide
 unfold eA;rw[if_neg h42]
 have ha:Lib.atoiAll l=if decV l<9223372036854775808 then .ok (decV l:Int)else .range:=by
  cases l with
  | nil=>exact absurd rfl du
  | cons c r=>
    obtain⟨h1,h2⟩:=nP (hd c (by simp));have hp:=zc (c::r) 0 (by omega) hd;unfold Lib.atoiAll
    dsimp only
    rw[if_neg (by omega)];unfold Lib.parseMag;rw[if_neg (by simp),hp];have e:(c::r).foldl (fun a c=>a*10+(c.toNat-48)) 0=decV (c::r):=rfl;rw[e];by_cases hb:decV (c::r)<18446744073709551616
    ·rw[if_pos hb]
     dsimp only
     by_cases hs:decV (c::r)<9223372036854775808
     ·rw[if_neg (by omega),if_neg (by omega),if_neg (by omega),if_pos hs]
     ·rw[if_pos (by omega),if_neg hs]
    ·rw[if_neg hb,if_neg (by omega)]
 rw[ha,G8];by_cases hs:decV l<9223372036854775808
 ·rw[if_pos hs]
  dsimp only
  rw[h,Bool.true_and];by_cases hv:decV l<=65535
  ·rw[if_pos (by simp;omega),if_pos (by omega)];congr 1;omega
  ·rw[if_neg (by simp;omega),if_neg (by omega)]
 ·rw[if_neg hs,if_neg (by omega)]
theorem yV {l:Bs} (h42:l≠[42]) (h:dj aQ l=false):eA l=none:=by
 unfold eA;rw[if_neg h42];split
 ·rw[h];rfl
 ·rfl
theorem rR {c:UInt8}:∀{l:Bs},(∀x∈l,x≠c)->aD c l=[l]
 | [],_=>rfl
 | b::l,h=>by
   rw[aD,if_neg (by simpa using h b (by simp)),rR (fun x hx=>h x (by simp[hx]))]
theorem yz {c:UInt8} (r:Bs):∀{l:Bs},(∀x∈l,x≠c)->aD c (l++c::r)=l::aD c r
 | [],_=>by rw[List.nil_append,aD,if_pos (by simp)]
 | b::l,h=>by
   rw[List.cons_append,aD,if_neg (by simpa using h b (by simp)),yz r (fun x hx=>h x (by simp[hx]))]
def NoC (c:UInt8) (l:Bs) (a b:Nat):Prop:=∀j,a<=j->j<b->l[j]? ≠some c
theorem Il {c:UInt8} {l:Bs} {a b:Nat} (h:NoC c l a b):∀x∈(l.drop a).take (b-a),x≠c:=by
 rintro x hx rfl;obtain⟨j,hj⟩:=List.getElem?_of_mem hx;rw[List.getElem?_take]at hj;split at hj
 ·rename_i aL;rw[List.getElem?_drop]at hj;exact h (a+j) (by omega) (by omega) hj
 ·cases hj
theorem sX {c:UInt8} {l:Bs} {a:Nat} (h:NoC c l a l.length):aD c (l.drop a)=[l.drop a]:=by
 refine rR ?_;have:=Il h
 rwa [List.take_of_length_le (by simp)]at this
theorem B8 {c:UInt8} {l:Bs} {a b:Nat} (AQ:a<=b) (h:NoC c l a b) (hb:l[b]? =some c):aD c (l.drop a)=(l.drop a).take (b-a)::aD c (l.drop (b+1)):=by
 have aL:b<l.length:=(List.getElem?_eq_some_iff.1 hb).1
 have e:l.drop a=(l.drop a).take (b-a)++c::l.drop (b+1):=by
  have h1:(l.drop a).drop (b-a)=c::l.drop (b+1):=by
   rw[List.drop_drop,show a+(b-a)=b by omega,List.drop_eq_getElem_cons aL];have:l[b]=c:=by rw[List.getElem?_eq_getElem aL]at hb;exact Option.some.inj hb
   rw[this]
  rw[<-h1,List.take_append_drop]
 conv=>lhs;rw[e]
 exact yz _ (Il h)
def gO (l:Bs) (a:Nat):Bool:=(aD 46 (l.drop a)).all (dj fI)
theorem FU (l:Bs):eF l=gO l 0:=by unfold eF gO;rw[jS];rfl
theorem JB {l:Bs} {a:Nat} (h:NoC 46 l a l.length):gO l a=dj fI (l.drop a):=by
 unfold gO;rw[sX h];simp
theorem FS {l:Bs} {a b:Nat} (AQ:a<=b) (h:NoC 46 l a b) (hb:l[b]? =some 46):gO l a=(dj fI ((l.drop a).take (b-a))&&gO l (b+1)):=by
 unfold gO;rw[B8 AQ h hb];rfl
theorem Jg {l:Bs} {k:Nat} (hk:k<=l.length) (h1:∀(j:Nat) b,k<=j->l[j]? =some b->b=61) (h2:∀b,0<k->l[k-1]? =some b->b≠61):
  dF l=(decide (l.length-k<=2)&&dj (jm [43,47,45,95]) (l.take k)):=by
 unfold dF;rw[Lib.trimRightB_take l 61 k hk h1 h2,oV Bk,List.length_take,Nat.min_eq_left hk]
theorem LU (c:UInt8):dr c=(decide (33<=(c.toNat:Int))&&decide ((c.toNat:Int)<=126)&& !inB [63,35,59,44,34,60,62,92,94,96,123,124,125] c):=by
 revert c;exact aA (by decide +kernel)
theorem AW (l:Bs):(l.isEmpty||dj dr l)=l.all dr:=by
 cases l with
 | nil=>rfl
 | cons b r=>simp[dj]
end Lz
namespace Go.Proofs.YtibcmemcfjhgmaaGreatDoor
open Go.RowKit
def RB (b:Bool) (w:World) (e:Ending) (w':World):Prop:=e=.returned (.bool b)/\w=w'
def RI (n:Int) (w:World) (e:Ending) (w':World):Prop:=e=.returned (.int .i64 n)/\w=w'
theorem bg (s:ByteArray) (a b:Nat):(s.extract a b).size<=s.size:=by
 rw[<-ac,Lib.extract_data,List.length_take,List.length_drop,ac];omega
theorem oF (s:ByteArray) (k:Nat):(s.extract 0 k).data.toList=s.data.toList.take k:=by
 rw[Lib.extract_data];rfl
theorem bN (s:ByteArray) (k:Nat):(s.extract k s.size).data.toList=s.data.toList.drop k:=by
 rw[Lib.extract_data,List.take_of_length_le (by rw[List.length_drop,ac];exact Nat.le_refl _)]
theorem iH {b b':Bool} {w:World} (h:b'=b):RB b' w (.returned (.bool b)) w:=⟨by rw[h],rfl⟩
theorem kq {s:ByteArray} {n:Nat} (h:n<s.size):s.data.toList[n]? =some s[n]:=by
 rw[List.getElem?_eq_getElem (by rw[ac];exact h)];rfl
theorem tT (a b:UInt8):((a.toNat:Int)==(b.toNat:Int))=(a==b):=by
 rw[Bool.eq_iff_iff,beq_iff_eq,beq_iff_eq];constructor
 ·intro h;exact UInt8.toNat_inj.1 (by omega)
 ·intro h;rw[h]
theorem E0 (c:UInt8) (s:ByteArray) (hs:s.size<=1073741824) (w:World):Calls Tryz.prog 160 #[.int .u8 c.toNat,.string s] w (RB (Lz.inB s.data.toList c) w):=by
 have hc:=ff c;go_enter Tryz.func160,Tryz.ntmps160
 go_wp2
 go_loop [5] (fun i=>∃n:Nat,n<=s.size/\i=.int .i64 n/\(∀j,j<n->s.data.toList[j]? ≠some c)) (fun i=>s.size-(intOf i).toNat)
 case atStart=>exact⟨0,Nat.zero_le _,rfl,fun j h=>by omega⟩
 case round=>
  obtain⟨n,hn,rfl,dY⟩:=hrel;have gi:=Ih dY;clear dY;by_cases aL:n<s.size
  ·have np:=Ih (kq aL);have mr:=tT s[n] c;generalize hb:(s[n]==c)=b at mr;have Hb:=Ih hb;clear hb;cases b
   ·go_wp2
    go_round
    case rel=>exact⟨n+1,by omega,by go_num,fun j hj hc=>by
     by_cases xA:j<n
     ·exact gi.out j xA hc
     ·obtain rfl:j=n:=by omega
      rw[np.out]at hc;obtain rfl:=Option.some.inj hc;have:=Hb.out
      simp at this⟩
    case measure=>simp[intOf];omega
   ·go_wp2
    go_ret;have h1:s[n]=c:=by simpa using Hb.out
    have h2:Lz.inB s.data.toList c=true:=by
     unfold Lz.inB;rw[List.contains_iff_mem,<-h1];exact List.mem_of_getElem? np.out
    exact iH h2
  ·go_wp2
   go_ret
   have h2:Lz.inB s.data.toList c=false:=by
    unfold Lz.inB;rw[Bool.eq_false_iff];intro h;rw[List.contains_iff_mem]at h;obtain⟨j,hj⟩:=List.getElem?_of_mem h;exact gi.out j (by have:=(List.getElem?_eq_some_iff.1 hj).1;rw[ac]at this;omega) hj
   exact iH h2
theorem Vt (c:UInt8):Lz.tu c=(((decide (97<=(c.toNat:Int))&&decide ((c.toNat:Int)<=122))||(decide (65<=(c.toNat:Int))&&decide ((c.toNat:Int)<=90)))||(decide (48<=(c.toNat:Int))&&decide ((c.toNat:Int)<=57))):=by
 revert c;exact Lz.aA (by decide +kernel)
theorem ze (c:UInt8) (w:World):Calls Tryz.prog 225 #[.int .u8 c.toNat] w (RB (Lz.tu c) w):=by
 have hc:=ff c;have H:=Ih (Vt c);go_enter Tryz.func225,Tryz.ntmps225
 go_wp2
 all_goals go_ret
 all_goals
  refine iH ?_;rw[H.out];rw[Bool.eq_iff_iff];simp only[Bool.or_eq_true,Bool.and_eq_true,decide_eq_true_eq,Bool.false_eq_true,iff_true,iff_false];omega
theorem uu (s m:ByteArray) (hs:s.size<=1073741824) (hm:m.size<=1073741824) (w:World):Calls Tryz.prog 159 #[.string s,.string m] w (RB (Lz.dj (Lz.jm m.data.toList) s.data.toList) w):=by
 go_enter Tryz.func159,Tryz.ntmps159
 go_wp2
 go_loop [5] (fun i=>∃n:Nat,n<=s.size/\i=.int .i64 n/\(∀j c,j<n->s.data.toList[j]? =some c->Lz.jm m.data.toList c=true)) (fun i=>s.size-(intOf i).toNat)
 case atStart=>exact⟨0,Nat.zero_le _,rfl,fun j c h=>by omega⟩
 case round=>
  obtain⟨n,hn,rfl,dY⟩:=hrel;have gi:=Ih dY;clear dY;by_cases aL:n<s.size
  ·have np:=Ih (kq aL);have ca:=Ih (ze s[n] w);have ci:=Ih (E0 s[n] m hm w);generalize ha:Lz.tu s[n]=a at ca;have Ha:=Ih ha;generalize hb:Lz.inB m.data.toList s[n]=b at ci;have Hb:=Ih hb;clear ha hb;cases a<;>cases b
   case false.false=>
    go_wp2_with (first |(go_at_call 225;refine(ca.out).mono ?_;rintro e w' ⟨rfl,rfl⟩)|(go_at_call 160;refine(ci.out).mono ?_;rintro e w' ⟨rfl,rfl⟩))
    go_ret
    have h2:Lz.dj (Lz.jm m.data.toList) s.data.toList=false:=by
     unfold Lz.dj
     have:s.data.toList.all (Lz.jm m.data.toList)=false:=by
      rw[List.all_eq_false];exact⟨s[n],List.mem_of_getElem? np.out,by unfold Lz.jm;rw[Ha.out,Hb.out];decide⟩
     rw[this];rfl
    exact iH h2
   all_goals
    go_wp2_with (first |(go_at_call 225;refine(ca.out).mono ?_;rintro e w' ⟨rfl,rfl⟩)|(go_at_call 160;refine(ci.out).mono ?_;rintro e w' ⟨rfl,rfl⟩))
    go_round
    case rel=>exact⟨n+1,by omega,by go_num,fun j c hj hc=>by
     by_cases xA:j<n
     ·exact gi.out j c xA hc
     ·obtain rfl:j=n:=by omega
      rw[np.out]at hc;obtain rfl:=Option.some.inj hc;unfold Lz.jm;rw[Ha.out,Hb.out];rfl⟩
    case measure=>simp[intOf];omega
  ·have du:s.toList.isEmpty=s.data.toList.isEmpty:=by rw[Lib.toList_data]
   have Hne:=Ih du;clear du
   go_wp2
   go_ret;refine iH ?_
   have h1:s.data.toList.all (Lz.jm m.data.toList)=true:=by
    rw[List.all_eq_true];intro c hc;obtain⟨j,hj⟩:=List.getElem?_of_mem hc;exact gi.out j c (by have:=(List.getElem?_eq_some_iff.1 hj).1;rw[ac]at this;omega) hj
   unfold Lz.dj;rw[h1,<-Hne.out];rfl
theorem vn (s:ByteArray) (hs:s.size<=1073741824) (w:World):Calls Tryz.prog 158 #[.string s] w (RB (Lz.dF s.data.toList) w):=by
 go_enter Tryz.func158,Tryz.ntmps158
 go_wp2
 go_loop [3] (fun i=>∃n:Nat,n<=s.size/\i=.int .i64 n/\(∀(j:Nat) c,n<=j->s.data.toList[j]? =some c->c=61)) (fun i=>(intOf i).toNat)
 case atStart=>exact⟨s.size,Nat.le_refl _,rfl,fun j c h hc=>by have:=(List.getElem?_eq_some_iff.1 hc).1;rw[ac]at this;omega⟩
 case round=>
  obtain⟨n,hn,rfl,dY⟩:=hrel;have gi:=Ih dY;clear dY;by_cases qI:n=0\/(∃h:0<n,¬s[n-1]=61)
  ·have HB:Hid (Lz.dF s.data.toList=(decide (s.data.toList.length-n<=2)&&Lz.dj (Lz.jm [43,47,45,95]) (s.data.toList.take n))):=by
    refine Lz.Jg (by rw[ac];exact hn) gi.out ?_;intro b hb hg;rcases qI with rfl|⟨h,du⟩
    ·cases hb
    ·rw[kq (by omega)]at hg;obtain rfl:=Option.some.inj hg;exact du
   have hz:=bg s 0 n;have co:=Ih (uu (s.extract 0 n) ⟨#[43,47,45,95]⟩ (by omega) (by decide) w);generalize hb:Lz.dj (Lz.jm (ByteArray.data ⟨#[43,47,45,95]⟩).toList) (s.extract 0 n).data.toList=b at co;have Hb:=Ih hb;clear hb hz
   have HR:Hid (Lz.dF s.data.toList=(decide ((s.size:Int)-n<=2)&&b)):=by
    show _=_;rw[HB.out,<-Hb.out,oF];congr 1;rw[ac,decide_eq_decide];omega
   clear HB Hb;by_cases h2:(s.size:Int)-n<=2
   ·have wM:Hid (Lz.dF s.data.toList=b):=by show _=_;rw[HR.out,decide_eq_true h2];rfl
    clear HR;rcases qI with h0|⟨h,du⟩
    ·have oh:(n:Int)<=0:=by omega
     clear h0
     go_wp2_with (go_at_call 159;(with_reducible refine(co.out).mono ?_);rintro e w' ⟨rfl,rfl⟩)
     go_ret;exact iH wM.out
    ·obtain⟨m,rfl⟩:∃m,n=m+1:=⟨n-1,by omega⟩;have hq:((s[m].toNat:Int)==61)=false:=(tT s[m] 61).trans (by simpa using du);clear du
     go_wp2_with (go_at_call 159;refine(co.out).mono ?_;rintro e w' ⟨rfl,rfl⟩)
     go_ret;exact iH wM.out
   ·have wM:Hid (Lz.dF s.data.toList=false):=by show _=_;rw[HR.out,decide_eq_false h2];rfl
    clear HR co;rcases qI with h0|⟨h,du⟩
    ·have oh:(n:Int)<=0:=by omega
     clear h0
     go_wp2
     go_ret;exact iH wM.out
    ·obtain⟨m,rfl⟩:∃m,n=m+1:=⟨n-1,by omega⟩;have hq:((s[m].toNat:Int)==61)=false:=(tT s[m] 61).trans (by simpa using du);clear du
     go_wp2
     go_ret;exact iH wM.out
  ·obtain⟨m,rfl⟩:∃m,n=m+1:=⟨n-1,by omega⟩
   have he:s[m]=61:=by
    by_cases he:s[m]=61
    ·exact he
    ·exact absurd (Or.inr ⟨by omega,he⟩) qI
   have He:=Ih he;have hq:((s[m].toNat:Int)==61)=true:=(tT s[m] 61).trans (by simpa using he);clear qI he
   go_wp2
   go_round
   case rel=>exact⟨m,by omega,rfl,fun j c hj hc=>by
    by_cases hjm:j=m
    ·subst hjm;rw[kq (by omega)]at hc;rw[<-Option.some.inj hc];exact He.out
    ·exact gi.out j c (by omega) hc⟩
   case measure=>simp[intOf]
end Go.Proofs.YtibcmemcfjhgmaaGreatDoor
namespace Lz
def iN (c:UInt8):Nat:=(iC c).getD 0
def oT (c:UInt8):Bool:=(iC c).isSome
end Lz
namespace Go.Proofs.YtibcmemcfjhgmaaGreatDoor
open Go.RowKit
theorem Yx (c:UInt8):Lz.aQ c=true->((c.toNat:Int)-48)%256=(Lz.iN c:Int)/\Lz.oT c=true:=by
 revert c;exact Lz.aA (by decide +kernel)
theorem Yt (c:UInt8):Lz.aQ c=false->97<=bits BinOp.or IntKind.u8 (c.toNat:Int) 32->bits BinOp.or IntKind.u8 (c.toNat:Int) 32<=102->bits BinOp.or IntKind.u8 (c.toNat:Int) 32-97+10=(Lz.iN c:Int)/\Lz.oT c=true:=by
 revert c;exact Lz.aA (by decide +kernel)
theorem YR (c:UInt8):Lz.aQ c=false->¬(97<=bits BinOp.or IntKind.u8 (c.toNat:Int) 32/\bits BinOp.or IntKind.u8 (c.toNat:Int) 32<=102)->(Lz.iN c:Int)=0/\Lz.oT c=false:=by
 revert c;exact Lz.aA (by decide +kernel)
theorem jB (c:UInt8):Lz.iN c<16:=by
 revert c;exact Lz.aA (by decide +kernel)
def Ce (c:UInt8) (w:World) (e:Ending) (w':World):Prop:=e=.returned (.tuple #[.int .i64 (Lz.iN c),.bool (Lz.oT c)])/\w=w'
theorem lC (c:UInt8) (w:World):Calls Tryz.prog 306 #[.int .u8 c.toNat] w (Ce c w):=by
 have hc:=ff c;have H1:=Ih (Yx c);have H2:=Ih (Yt c);have H3:=Ih (YR c);unfold Ce;generalize hn:Lz.iN c=n at *;generalize hb:Lz.oT c=b at *;have cd:=kX c w;generalize Xr:Lz.aQ c=d at *;have Cd:=Ih cd;clear cd hn hb Xr;cases d
 ·have H2':=Ih (H2.out rfl);have H3':=Ih (H3.out rfl);clear H1 H2 H3;go_enter Tryz.func306,Tryz.ntmps306
  go_wp2_with (go_at_call 174;refine(Cd.out).mono ?_;rintro e w' ⟨rfl,rfl⟩)
  ·go_ret2
   rename_i h1 h2;obtain⟨e1,e2⟩:=H2'.out h1 h2;exact⟨by rw[<-e1,e2];rfl,rfl⟩
  ·go_ret2
   rename_i h1 h2;obtain⟨e1,e2⟩:=H3'.out (by omega);exact⟨by rw[e1,e2];rfl,rfl⟩
  ·go_ret2
   rename_i h1;obtain⟨e1,e2⟩:=H3'.out (by omega);exact⟨by rw[e1,e2];rfl,rfl⟩
 ·obtain⟨h1,h2⟩:=H1.out rfl;clear H2 H3 H1;subst h2;have Hh:=Ih h1;clear h1;go_enter Tryz.func306,Tryz.ntmps306
  go_wp2_with (go_at_call 174;refine(Cd.out).mono ?_;rintro e w' ⟨rfl,rfl⟩)
  go_ret2
  exact⟨by rw[<-Hh.out];rfl,rfl⟩
def tE (l:List UInt8) (w:World) (e:Ending) (w':World):Prop:=
 ∃c:UInt8,e=.returned (.tuple #[.int .u8 c.toNat,.bool (Lz.dJ l).isSome])/\Hid (∀b,Lz.dJ l=some b->c=b)/\w=w'
theorem RE (a b:UInt8):((bits BinOp.or IntKind.i64 ((Lz.iN a:Int)*16) (Lz.iN b))%256)=((UInt8.ofNat (16*Lz.iN a+Lz.iN b)).toNat:Int):=by
 have ha:=jB a;have hb:=jB b;generalize Lz.iN a=x at *;generalize Lz.iN b=y at *;exact(show ∀x:Fin 16,∀y:Fin 16,((bits BinOp.or IntKind.i64 ((x.1:Int)*16) y.1)%256)=((UInt8.ofNat (16*x.1+y.1)).toNat:Int) by decide +kernel) ⟨x,ha⟩ ⟨y,hb⟩
theorem zo {l:List UInt8} (h:l.length<3):Lz.dJ l=none:=by
 match l,h with
 | [],_=>rfl
 | [a],_=>unfold Lz.dJ;split<;>simp_all
 | [a,b],_=>unfold Lz.dJ;split<;>simp_all
theorem Ab {l:List UInt8} {c:UInt8} (h0:l[0]? =some c) (h:(c==37)=false):Lz.dJ l=none:=by
 unfold Lz.dJ;split
 ·simp at h0;subst h0;simp at h
 ·rfl
theorem zl {l:List UInt8} {c a b:UInt8} (h0:l[0]? =some c) (h1:l[1]? =some a) (h2:l[2]? =some b) (h:(c==37)=true):
  Lz.dJ l=if Lz.oT a&&Lz.oT b then some (UInt8.ofNat (16*Lz.iN a+Lz.iN b))else none:=by
 match l,h0,h1,h2 with
 | x::y::z::r,h0,h1,h2=>
   simp at h0 h1 h2 h
   subst h0 h1 h2 h
   show(match Lz.iC y,Lz.iC z with
    | some x,some y=>some (UInt8.ofNat (16*x+y))
    | _,_=>none)=_
   cases hy:Lz.iC y<;>cases hz:Lz.iC z<;>simp[Lz.oT,Lz.iN,hy,hz]
theorem Fu (s:ByteArray) (hs:s.size<=1073741824) (w:World):Calls Tryz.prog 277 #[.string s] w (tE s.data.toList w):=by
 by_cases h3:s.size<3
 ·have Ht:=Ih (zo (l:=s.data.toList) (by rw[ac];exact h3));unfold tE;go_enter Tryz.func277,Tryz.ntmps277
  go_wp2
  go_ret2
  refine⟨0,?_,Ih (fun b hb=>?_),rfl⟩
  ·rw[Ht.out];rfl
  ·rw[Ht.out]at hb;cases hb
 ·have g0:=aB (s:=s) (n:=0) (by omega);have g1:=aB (s:=s) (n:=1) (by omega);have g2:=aB (s:=s) (n:=2) (by omega);have i0:((s[0].toNat:Int)==37)=(s[0]==37):=tT s[0] 37;have n0:((s[0].toNat:Int) != 37)= !(s[0]==37):=congrArg (! ·) i0;generalize hq:(s[0]==37)=q at i0 n0;cases q
  ·have Ht:=Ih (Ab g0 hq);clear g0 g1 g2 hq;simp only[Bool.not_false]at n0;unfold tE;go_enter Tryz.func277,Tryz.ntmps277
   go_wp2
   go_ret2
   refine⟨0,?_,Ih (fun b hb=>?_),rfl⟩
   ·rw[Ht.out];rfl
   ·rw[Ht.out]at hb;cases hb
  ·have Ht:=Ih (zl g0 g1 g2 hq);have I:=Ih (RE s[1] s[2]);have Ca:=fun w=>lC s[1] w;have Cb:=fun w=>lC s[2] w;unfold Ce at Ca Cb;unfold tE;have l1:=jB s[1];have l2:=jB s[2];generalize Lz.iN s[1]=x at *;generalize Lz.iN s[2]=y at *;generalize Lz.oT s[1]=a at *;generalize Lz.oT s[2]=b at *;clear g0 g1 g2 hq;simp only[Bool.not_true]at n0;cases a<;>cases b<;>
   ·go_enter Tryz.func277,Tryz.ntmps277
    go_wp2_with fail
    with_reducible refine(Ca _).mono ?_
    rintro e w' ⟨rfl,rfl⟩
    go_wp2_with fail
    with_reducible refine(Cb _).mono ?_
    rintro e w' ⟨rfl,rfl⟩
    go_wp2
    go_ret2
    refine⟨UInt8.ofNat (16*x+y),?_,Ih (fun b hb=>?_),rfl⟩
    ·rw[Ht.out,<-I.out];rfl
    ·rw[Ht.out]at hb;first |(cases hb;rfl)|cases hb
end Go.Proofs.YtibcmemcfjhgmaaGreatDoor
namespace Lz
open Go
theorem rO {l:Bs} {b:UInt8} (h:dJ l=some b):a7 l=b::a7 (l.drop 3)/\3<=l.length:=by
 match l with
 | []=>simp[dJ]at h
 | c::r=>
   refine⟨?_,?_⟩
   ·rw[a7];split
    ·rename_i b' hb;rw[hb]at h;injection h with h;subst h;rfl
    ·rename_i hb;rw[hb]at h;cases h
   ·unfold dJ at h;split at h
    ·rename_i heq;rw[heq];simp
    ·cases h
theorem Cz {l:Bs} {c:UInt8} (hc:l[0]? =some c) (h:dJ l=none):a7 l=c::a7 (l.drop 1):=by
 match l with
 | []=>simp at hc
 | x::r=>
   simp at hc;subst hc
   rw[a7];split
   ·rename_i b' hb;rw[hb]at h;cases h
   ·rfl
end Lz
namespace Go.Proofs.YtibcmemcfjhgmaaGreatDoor
open Go.RowKit
structure sD (l:List UInt8) (w:World) (u:ByteArray) (j8:List UInt8) (wr:World):Prop where
 sum:j8++Lz.a7 u.data.toList=Lz.a7 l
 len:j8.length+u.size<=l.length
 made:Lib.IsBuilder 103 5 w.heap.size w.heap.size (Lib.byteCells j8) wr
 below:Below w.heap.size w wr
theorem fN (j8:List UInt8) (c:UInt8):Lib.byteCells j8++[.int .u8 (c.toNat:Int)]=Lib.byteCells (j8++[c]):=by
 simp[Lib.byteCells]
theorem sD.some {l:List UInt8} {w:World} {u:ByteArray} {j8:List UInt8} {wr w':World} {b:UInt8} (h:sD l w u j8 wr) (hb:Lz.dJ u.data.toList=some b)
  (hm:Lib.IsBuilder 103 5 w.heap.size w.heap.size (Lib.byteCells j8++[.int .u8 (b.toNat:Int)]) w') (hw:Below w.heap.size wr w') {v:ByteArray} (hv:v.data.toList=u.data.toList.drop 3):sD l w v (j8++[b]) w':=by
 obtain⟨h1,h2⟩:=Lz.rO hb;have hz:v.size=u.size-3:=by rw[<-ac,hv,List.length_drop,ac]
 rw[ac]at h2;exact⟨by rw[<-h.sum,h1,hv];simp,by have:=h.len;simp;omega,by rw[<-fN];exact hm,h.below.trans hw⟩
theorem sD.none {l:List UInt8} {w:World} {u:ByteArray} {j8:List UInt8} {wr w':World} {c:UInt8} (h:sD l w u j8 wr) (hc:u.data.toList[0]? =.some c) (hb:Lz.dJ u.data.toList=.none)
  (hm:Lib.IsBuilder 103 5 w.heap.size w.heap.size (Lib.byteCells j8++[.int .u8 (c.toNat:Int)]) w') (hw:Below w.heap.size wr w') {v:ByteArray} (hv:v.data.toList=u.data.toList.drop 1):sD l w v (j8++[c]) w':=by
 have h1:=Lz.Cz hc hb;have hz:v.size=u.size-1:=by rw[<-ac,hv,List.length_drop,ac]
 have hu:0<u.size:=by
  have:=(List.getElem?_eq_some_iff.1 hc).1
  rwa [ac]at this
 exact⟨by rw[<-h.sum,h1,hv];simp,by have:=h.len;simp;omega,by rw[<-fN];exact hm,h.below.trans hw⟩
theorem Yk (u:ByteArray):(u.extract 1 u.size).data.toList=u.data.toList.drop 1:=bN u 1
theorem To (u:ByteArray):((u.extract 2 u.size).extract 1 (u.extract 2 u.size).size).data.toList=u.data.toList.drop 3:=by
 rw[bN,bN,List.drop_drop]
theorem VB (u:ByteArray):((u.extract 2 u.size).extract 1 (u.size-2)).data.toList=u.data.toList.drop 3:=by
 rw[show u.size-2=(u.extract 2 u.size).size by have:=congrArg List.length (bN u 2);rw[List.length_drop,ac,ac]at this;exact this.symm];exact To u
theorem Fs (s:ByteArray) (hs:s.size<=1073741824) (w:World):Calls Tryz.prog 249 #[.string s] w (dX (Lz.a7 s.data.toList) w):=by
 obtain⟨l,hl⟩:∃l,l=s.data.toList:=⟨_,rfl⟩;have aO:l.length=s.size:=by rw[hl];exact ac s
 have h0:sD l w s [] (w.alloc (.cells #[.pointer none,.slice none 0 0] 103)):=
  ⟨by rw[hl];rfl,by simp[aO],Lib.fresh_isBuilder _ _ _,(Below.refl _ w).alloc (Nat.le_refl _) _⟩
 rw[<-hl];clear hl;have eu:=Ih aO;clear aO;go_enter Tryz.func249,Tryz.ntmps249
 go_wp2
 go_loopw [0] (fun s0 wr=>∃(u:ByteArray) (j8:List UInt8),s0=.string u/\sD l w u j8 wr) (fun s0 _=>match s0 with| .string u=>u.size|_=>0)
 case atStart=>exact⟨s,[],rfl,h0⟩
 case round=>
  clear h0;obtain⟨u,j8,rfl,hD⟩:=hrel;have fu:j8.length+u.size<=s.size:=by rw[<-eu.out];exact hD.len
  have aC:=hD.below.size;by_cases hz:u.size=0
  ·have he:=aN hz;have hS:=Ih hD.sum
   go_wp2_with fail
   refine(Tryz.Builder_String_any _ _ j8 _ hD.made (by exact aC)).mono ?_;rintro e w' ⟨rfl,hb⟩
   go_wp2
   go_ret;refine⟨_,rfl,Ih ?_,hD.below.trans hb⟩;rw[<-hS.out];have:u.data.toList=[]:=List.length_eq_zero_iff.1 (by rw[ac];exact hz);rw[this]
   simp[Lz.a7]
  ·have he:=aG (s:=u) (by omega);have hg:=aB (s:=u) (n:=0) (by omega);have Hg:=Ih hg;have HD:=Ih hD
   go_wp2_with fail
   refine(Fu u (by omega) _).mono ?_;rintro e w' ⟨c,rfl,hc,rfl⟩;generalize hq:Lz.dJ u.data.toList=q at hc;have Hq:=Ih hq;clear hg hq hD;cases q with
   | none=>
     go_wp2_with fail
     refine(gB w.heap.size w.heap.size _ _ _ HD.out.made (by simp[Lib.byteCells];omega) aC).mono ?_;rintro e w2 ⟨rfl,hm,hb⟩
     go_wp2
     go_roundw
     case rel=>exact⟨_,_,rfl,HD.out.none Hg.out Hq.out hm hb (Yk u)⟩
     case measure=>simp;omega
   | some b=>
     have OL:c=b:=hc.out b rfl;have h3:3<=u.size:=by rw[<-ac];exact(Lz.rO Hq.out).2
     have eo:(u.extract 2 u.size).size=u.size-2:=by rw[<-ac,bN,List.length_drop,ac]
     subst OL
     go_wp2_with fail
     refine(gB w.heap.size w.heap.size _ _ _ HD.out.made (by simp[Lib.byteCells];omega) aC).mono ?_;rintro e w2 ⟨rfl,hm,hb⟩
     go_wp2
     go_roundw
     case rel=>
      refine⟨_,_,rfl,HD.out.some Hq.out hm hb ?_⟩
      with_reducible first |exact To u|exact VB u
     case measure=>simp;omega
end Go.Proofs.YtibcmemcfjhgmaaGreatDoor
namespace Lz
open Go
def kt:Nat->Bs
 | 1=>[32,34,60,62,96]
 | 2=>[32,34,35,60,62]
 | 3=>[32,34,35,60,62,39]
 | 4=>[32,34,35,60,62,63,94,96,123,125]
 | 5=>[32,34,35,60,62,63,94,96,123,125,47,58,59,61,64,91,92,93,124]
 | 6=>[32,34,35,60,62,63,94,96,123,125,47,58,59,61,64,91,92,93,124,36,37,38,43,44]
 | _=>[]
theorem AZ (of l:Bs) (c:UInt8):aq of (l++[c])=aq of l++(if c<32||126<c||of.contains c then[37,dC (c.toNat / 16),dC (c.toNat%16)]else[c]):=by
 simp[aq]
theorem Ga (of l:Bs):(aq of l).length<=3*l.length:=by
 induction l with
 | nil=>simp[aq]
 | cons c r ih=>
   have:aq of (c::r)=(if c<32||126<c||of.contains c then[37,dC (c.toNat / 16),dC (c.toNat%16)]else[c])++aq of r:=by simp[aq]
   rw[this];split<;>simp<;>omega
end Lz
namespace Go.Proofs.YtibcmemcfjhgmaaGreatDoor
open Go.RowKit
theorem lj (a b:ByteArray):(a++b).data.toList=a.data.toList++b.data.toList:=by simp
def BM (l:List UInt8) (w:World) (e:Ending) (w':World):Prop:=∃u:ByteArray,e=.returned (.string u)/\Hid (u.data.toList=l)/\w=w'
theorem Ut (w:World):Calls Tryz.prog 128 #[.int .i64 0] w (BM (Lz.kt 0) w):=by
 go_enter Tryz.func128,Tryz.ntmps128
 go_wp2
 go_ret;exact⟨_,rfl,Ih rfl,rfl⟩
theorem FG (w:World):Calls Tryz.prog 128 #[.int .i64 2] w (BM (Lz.kt 2) w):=by
 go_enter Tryz.func128,Tryz.ntmps128
 go_wp2
 go_ret;exact⟨_,rfl,Ih rfl,rfl⟩
theorem MB (w:World):Calls Tryz.prog 128 #[.int .i64 4] w (BM (Lz.kt 4) w):=by
 go_enter Tryz.func128,Tryz.ntmps128
 go_wp2_with fail
 with_reducible refine(FG _).mono ?_
 rintro e w' ⟨u,rfl,hu,rfl⟩;have hz:u.size=5:=by rw[<-ac,hu.out];rfl
 go_wp2
 go_ret;exact⟨_,rfl,Ih (by rw[lj,hu.out];rfl),rfl⟩
theorem LS (w:World):Calls Tryz.prog 128 #[.int .i64 5] w (BM (Lz.kt 5) w):=by
 go_enter Tryz.func128,Tryz.ntmps128
 go_wp2_with fail
 with_reducible refine(MB _).mono ?_
 rintro e w' ⟨u,rfl,hu,rfl⟩;have hz:u.size=10:=by rw[<-ac,hu.out];rfl
 go_wp2
 go_ret;exact⟨_,rfl,Ih (by rw[lj,hu.out];rfl),rfl⟩
theorem L8 (k:Nat) (hk:k<7) (w:World):Calls Tryz.prog 128 #[.int .i64 k] w (BM (Lz.kt k) w):=by
 obtain rfl|rfl|rfl|rfl|rfl|rfl|rfl:k=0\/k=1\/k=2\/k=3\/k=4\/k=5\/k=6:=by omega
 ·exact Ut w
 ·show Calls _ _ #[.int .i64 1] _ _;go_enter Tryz.func128,Tryz.ntmps128
  go_wp2
  go_ret;exact⟨_,rfl,Ih rfl,rfl⟩
 ·exact FG w
 ·show Calls _ _ #[.int .i64 3] _ _;go_enter Tryz.func128,Tryz.ntmps128
  go_wp2_with fail
  with_reducible refine(FG _).mono ?_
  rintro e w' ⟨u,rfl,hu,rfl⟩;have hz:u.size=5:=by rw[<-ac,hu.out];rfl
  go_wp2
  go_ret;exact⟨_,rfl,Ih (by rw[lj,hu.out];rfl),rfl⟩
 ·exact MB w
 ·exact LS w
 ·show Calls _ _ #[.int .i64 6] _ _;go_enter Tryz.func128,Tryz.ntmps128
  go_wp2_with fail
  with_reducible refine(LS _).mono ?_
  rintro e w' ⟨u,rfl,hu,rfl⟩;have hz:u.size=19:=by rw[<-ac,hu.out];rfl
  go_wp2
  go_ret;exact⟨_,rfl,Ih (by rw[lj,hu.out];rfl),rfl⟩
theorem S3 (c:UInt8):decide (c<32)=decide ((c.toNat:Int)<32):=by revert c;exact Lz.aA (by decide +kernel)
theorem ND (c:UInt8):decide (126<c)=decide (126<(c.toNat:Int)):=by revert c;exact Lz.aA (by decide +kernel)
theorem YG (c:UInt8):bits BinOp.and IntKind.u8 (c.toNat:Int) 15=((c.toNat%16:Nat):Int):=by revert c;exact Lz.aA (by decide +kernel)
theorem Te {x:Int} (h0:0<=x) (h1:x<=255):IntKind.u8.wrap x=x:=by
 have hb:IntKind.u8.bits=8:=rfl;have hs:IntKind.u8.signed=false:=rfl;simp only[IntKind.wrap,hb,hs]
 simp
 omega
theorem EO (x y:Fin 16):((({data:= #[37]}:ByteArray)++ByteArray.extract {data:= #[48,49,50,51,52,53,54,55,56,57,65,66,67,68,69,70]} x.1 (x.1+1))++ByteArray.extract {data:= #[48,49,50,51,52,53,54,55,56,57,65,66,67,68,69,70]} y.1 (y.1+1)).data.toList=[37,Lz.dC x.1,Lz.dC y.1]:=by
 revert x y;decide +kernel
theorem qU (a:List UInt8) (s:ByteArray):Lib.byteCells (a++s.data.toList)=Lib.byteCells a++Lib.strCells s:=by
 simp[Lib.byteCells,Lib.strCells]
structure Tb (of l:List UInt8) (w:World) (k:Nat) (wr:World):Prop where
 made:Lib.IsBuilder 103 5 w.heap.size w.heap.size (Lib.byteCells (Lz.aq of (l.take k))) wr
 below:Below w.heap.size w wr
theorem iM (k:Nat) (hk:k<7) (s:ByteArray) (hs:s.size<=1073741824) (w:World):Calls Tryz.prog 73 #[.string s,.int .i64 k] w (dX (Lz.aq (Lz.kt k) s.data.toList) w):=by
 obtain⟨l,hl⟩:∃l,l=s.data.toList:=⟨_,rfl⟩;have aO:l.length=s.size:=by rw[hl];exact ac s
 have h0:Tb (Lz.kt k) l w 0 (w.alloc (.cells #[.pointer none,.slice none 0 0] 103)):=
  ⟨Lib.fresh_isBuilder _ _ _,(Below.refl _ w).alloc (Nat.le_refl _) _⟩
 have Hl:=Ih hl;rw[<-hl];clear hl;have eu:=Ih aO;clear aO;have AI:(0:Int)<=(k:Int):=by omega
 have hk7:(k:Int)<7:=by omega
 go_enter Tryz.func73,Tryz.ntmps73
 go_wp2_with fail
 with_reducible refine(L8 k hk _).mono ?_
 rintro e w' ⟨of,rfl,hof,rfl⟩
 go_wp2_with fail
 go_loopw [19] (fun i wr=>∃j:Nat,j<=s.size/\i=.int .i64 j/\Tb (Lz.kt k) l w j wr) (fun i _=>s.size-(intOf i).toNat)
 case atStart=>exact⟨0,Nat.zero_le _,rfl,h0⟩
 case round=>
  clear h0;obtain⟨j,hj,rfl,hD⟩:=hrel;have aC:=hD.below.size;by_cases aL:j<s.size
  ·have hg:=aB (s:=s) aL;have Ll:l[j]? =some s[j]:=by rw[Hl.out];exact hg
   have dB:l.take (j+1)=l.take j++[s[j]]:=by
    rw[List.take_add_one,Ll];rfl
   have hen:=Lz.AZ (Lz.kt k) (l.take j) s[j];rw[<-dB]at hen;have hel:=Lz.Ga (Lz.kt k) (l.take j);have jf:(l.take j).length<=j:=by simp;omega
   generalize hc:s[j]=c at *;have HE:=Ih hen;have HD:=Ih hD;have Hg:=Ih hc;clear hen dB Ll hg hD;have wB:=ff c;obtain⟨q,hq⟩:∃q,q=(decide (c<32)||decide (126<c)||(Lz.kt k).contains c):=⟨_,rfl⟩;rw[<-hq]at HE;have Hq:=Ih hq;clear hq;have Cx:=fun w=>kj of c w
   go_upto_region 9 with fail
   go_cut [19,36]from 19 to 54 (fun s19 s36 wx=>s19=.int .i64 j/\s36=.bool q/\wx=wr)
   case first=>
    by_cases h1:c<32
    ·have Lp:(c.toNat:Int)<32:=of_decide_eq_true ((S3 c).symm.trans (decide_eq_true h1));have HQ:Hid (q=true):=by show _=_;rw[Hq.out];simp[h1]
     clear h1
     go_wp2_with fail
     go_meet;exact⟨rfl,by rw[HQ.out],rfl⟩
    ·have Lp:¬(c.toNat:Int)<32:=of_decide_eq_false ((S3 c).symm.trans (decide_eq_false h1));by_cases h2:126<c
     ·have GG:126<(c.toNat:Int):=of_decide_eq_true ((ND c).symm.trans (decide_eq_true h2));have HQ:Hid (q=true):=by show _=_;rw[Hq.out];simp[h2]
      clear h1 h2
      go_wp2_with fail
      go_meet;exact⟨rfl,by rw[HQ.out],rfl⟩
     ·have GG:¬126<(c.toNat:Int):=of_decide_eq_false ((ND c).symm.trans (decide_eq_false h2));have HQ:Hid (q=decide (0<=Lib.indexByte of.data.toList c)):=by show _=_;rw[Hq.out,hof.out,<-Lib.contains_iff_indexByte];simp[h1,h2]
      clear h1 h2
      go_wp2_with fail
      with_reducible refine(Cx _).mono ?_
      rintro e w' ⟨rfl,rfl⟩
      go_wp2_with fail
      go_meet;exact⟨rfl,by rw[HQ.out],rfl⟩
   case rest=>
    obtain⟨rfl,rfl,rfl⟩:=hcut;cases q
    ·go_wp2_with fail
     refine(gB w.heap.size w.heap.size _ _ _ HD.out.made (by simp[Lib.byteCells];omega) aC).mono ?_;rintro e w2 ⟨rfl,hm,hb⟩
     go_wp2
     go_roundw
     case rel=>
      refine⟨j+1,by omega,by go_num,?_,HD.out.below.trans hb⟩;rw[HE.out,if_neg (by decide),<-fN];exact hm
     case measure=>simp[intOf];omega
    ·go_wp2_with fail
     obtain⟨x,hx,jh,Lg⟩:∃x:Nat,(c.toNat:Int) / 16=x/\x<16/\x=c.toNat / 16:=⟨c.toNat / 16,by omega,by omega,rfl⟩;obtain⟨y,hy,Wr,hyc⟩:∃y:Nat,bits BinOp.and IntKind.u8 (c.toNat:Int) 15=y/\y<16/\y=c.toNat%16:=⟨c.toNat%16,YG c,by omega,rfl⟩;have hxw:IntKind.u8.wrap ((x:Int)+1)=(x:Int)+1:=Te (by omega) (by omega);have hyw:IntKind.u8.wrap ((y:Int)+1)=(y:Int)+1:=Te (by omega) (by omega);have it:(x:Int)+1<=16:=by omega
     have Ue:(y:Int)+1<=16:=by omega
     have kN:(0:Int)<=x:=by omega
     have tJ:(0:Int)<=(x:Int)+1:=by omega
     have XA:(0:Int)<=(y:Int)+1:=by omega
     have lq:(x:Int)<=(x:Int)+1:=by omega
     have hy3:(y:Int)<=(y:Int)+1:=by omega
     have hy0:(0:Int)<=y:=by omega
     have iz:¬(9223372036854775807<1+(min (x+1) 16-x)):=by omega
     have GD:¬(9223372036854775807<1+(min (x+1) 16-x)+(min (y+1) 16-y)):=by omega
     have Hxc:=Ih Lg;have Hyc:=Ih hyc;clear Lg hyc;refine wp_region_still_tail 14 (by kernel_rfl) (by kernel_rfl) ?_;simp only[List.take_succ_cons,List.take_zero,List.drop_succ_cons,List.drop_zero]
     repeat still_step
     refine wpStill_nil ?_;change wpList _ _ _ _ _ wc.drew
     go_wp2_with fail
     generalize hT:(({data:= #[37]}:ByteArray)++ByteArray.extract {data:= #[48,49,50,51,52,53,54,55,56,57,65,66,67,68,69,70]} x (x+1))++ByteArray.extract {data:= #[48,49,50,51,52,53,54,55,56,57,65,66,67,68,69,70]} y (y+1)=tx;have hTd:tx.data.toList=[37,Lz.dC x,Lz.dC y]:=by rw[<-hT];exact EO ⟨x,jh⟩ ⟨y,Wr⟩
     have hTz:tx.size=3:=by rw[<-ac,hTd];rfl
     clear hT;refine(tf w.heap.size w.heap.size (Lib.byteCells (Lz.aq (Lz.kt k) (l.take j))) tx wc.drew (by exact HD.out.made) (by simp[Lib.byteCells];omega) (by exact aC)).mono ?_;rintro e w2 ⟨rfl,hm,hb⟩
     go_wp2
     go_roundw
     case rel=>
      refine⟨j+1,by omega,by go_num,?_,HD.out.below.drew.trans hb⟩;rw[HE.out,if_pos (by decide),<-Hxc.out,<-Hyc.out,<-hTd];rw[qU];exact hm
     case measure=>simp[intOf];omega
  ·have V7:j=s.size:=by omega
   have HD:=Ih hD;clear hD
   go_wp2_with fail
   refine(Tryz.Builder_String_any _ _ _ _ HD.out.made (by exact aC)).mono ?_;rintro e w' ⟨rfl,hb⟩
   go_wp2
   go_ret;refine⟨_,rfl,Ih ?_,HD.out.below.trans hb⟩;show Lz.aq _ (l.take s.size)=_;rw[<-eu.out,List.take_length]
end Go.Proofs.YtibcmemcfjhgmaaGreatDoor
