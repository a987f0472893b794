/-
  percent.more and percent.Encode.
-/
import Derived.Test.YtlcbhacofagedaaGreatDoorY09
import Derived.Test.YtlcbhacofagedaaGreatDoorY06
import Derived.StillTailTactics
set_option maxHeartbeats 2000000
set_option maxRecDepth 100000
namespace Lz
open Go
def tz (c:UInt8):Bool:=aW c||aA c
def inB (m:Bs) (c:UInt8):Bool:=m.contains c
def iP (m:Bs) (c:UInt8):Bool:=tz c||inB m c
theorem CM (c:UInt8):iP [43,47,45,95] c=jz c:=by revert c;exact au (by decide +kernel)
theorem IM (c:UInt8):iP [45] c=fC c:=by revert c;exact au (by decide +kernel)
theorem zO (c:UInt8):iP [43,45,46] c=eH c:=by revert c;exact au (by decide +kernel)
theorem oH {p q:UInt8->Bool} (h:∀c,p c=q c) (l:Bs):dj p l=dj q l:=by
 have:p=q:=funext h;rw[this]
theorem Et (c:UInt8):eH c=true->(!inB [48,49,50,51,52,53,54,55,56,57,43,45,46] c)=aW c:=by
 revert c;exact au (by decide +kernel)
theorem D1 (l:Bs) (a:UInt8) (h0:l[0]? =some a):bO l=(dj (iP [43,45,46]) l&& !inB [48,49,50,51,52,53,54,55,56,57,43,45,46] a):=by
 cases l with
 | nil=>cases h0
 | cons b r=>
   obtain rfl:b=a:=by simpa using h0
   rw[oH zO];unfold bO;cases hb:dj eH (b::r)
   ·simp
   ·have h:=gx hb;rw[Et b (h.1 b (by simp))]
    simp
theorem JK (l:Bs) (c:UInt8):Lib.index l [c]=Lib.indexByte l c:=by
 induction l with
 | nil=>rfl
 | cons b l ih=>
   by_cases h:b=c
   ·rw[kg h];show _=if b==c then 0 else if Lib.indexByte l c== -1 then -1 else Lib.indexByte l c+1;rw[if_pos (by simpa using h)]
   ·rw[jA h,ih];show _=if b==c then 0 else if Lib.indexByte l c== -1 then -1 else Lib.indexByte l c+1;have hb:(b==c)=false:=by simpa using h
    rw[hb];rfl
theorem take_prefix (p l:Bs):(l.take p.length==p)=Lib.hasPrefix l p:=by
 unfold Lib.hasPrefix;rw[Bool.eq_iff_iff,beq_iff_eq,List.isPrefixOf_iff_prefix];constructor
 ·intro e;rw[<-e];exact List.take_prefix _ _
 ·intro e;exact(List.prefix_iff_eq_take.1 e).symm
theorem lf {p l:Bs} (h:l.length<p.length):Lib.hasPrefix l p=false:=by
 unfold Lib.hasPrefix;rw[Bool.eq_false_iff];intro e;have:=(List.isPrefixOf_iff_prefix.1 e).length_le;omega
theorem NK (l:Bs) (k:Nat):low (l.take k)=(low l).take k:=by unfold low;rw[List.map_take]
def decV (l:Bs):Nat:=l.foldl (fun a c=>a*10+(c.toNat-48)) 0
def capV (l:Bs):Nat:=l.foldl (fun a c=>min (10*a+(c.toNat-48)) 100000) 0
theorem IT (l:Bs) (c:UInt8):decV (l++[c])=decV l*10+(c.toNat-48):=by unfold decV;rw[List.foldl_append];rfl
theorem xx (l:Bs) (c:UInt8):capV (l++[c])=min (10*capV l+(c.toNat-48)) 100000:=by unfold capV;rw[List.foldl_append];rfl
theorem NC {P:Bs->Prop} (h0:P []) (h1:∀l c,P l->P (l++[c])) (l:Bs):P l:=by
 rw[<-List.reverse_reverse l]
 induction l.reverse with
 | nil=>exact h0
 | cons c r ih=>rw[List.reverse_cons];exact h1 _ _ ih
theorem GS (l:Bs):capV l=min (decV l) 100000:=by
 refine NC (P:=fun l=>capV l=min (decV l) 100000) rfl ?_ l;intro l c ih;rw[xx,IT,ih];omega
theorem Q6 (l:Bs):capV l<=100000:=by rw[GS];omega
theorem I3 (l:Bs):∀a:Nat,a<=l.foldl (fun a c=>a*10+(c.toNat-48)) a:=by
 induction l with
 | nil=>intro a;exact Nat.le_refl _
 | cons c r ih=>intro a;rw[List.foldl_cons];exact Nat.le_trans (by omega) (ih _)
theorem zV (l:Bs):∀a:Nat,a<18446744073709551616->(∀c∈l,aA c=true)->
  Lib.parseUint10 a l=if l.foldl (fun a c=>a*10+(c.toNat-48)) a<18446744073709551616 then .ok (l.foldl (fun a c=>a*10+(c.toNat-48)) a)else .range:=by
 induction l with
 | nil=>intro a ha _;rw[List.foldl_nil,if_pos ha];rfl
 | cons c r ih=>
   intro a ha hd;obtain⟨h1,h2⟩:=nF (hd c (by simp));rw[List.foldl_cons];unfold Lib.parseUint10;rw[if_pos ⟨h1,h2⟩];have hm:=I3 r (a*10+(c.toNat-48));split
   ·rw[if_neg (by omega)]
   ·split
    ·rw[if_neg (by omega)]
    ·exact ih _ (by omega) (fun x hx=>hd x (by simp[hx]))
theorem BZ {l:Bs} (h:dj aA l=true):ez l=if capV l<=65535 then some (capV l:Int)else none:=by
 obtain⟨hd,dG⟩:=gx h
 have h42:l≠[42]:=by
  rintro rfl;have:=hd 42 (by simp)
  revert this;decide
 unfold ez;rw[if_neg h42]
 have ha:Lib.atoiAll l=if decV l<9223372036854775808 then .ok (decV l:Int)else .range:=by
  cases l with
  | nil=>exact absurd rfl dG
  | cons c r=>
    obtain⟨h1,h2⟩:=nF (hd c (by simp));have hp:=zV (c::r) 0 (by omega) hd;unfold Lib.atoiAll
    dsimp only
    rw[if_neg (by omega)];unfold Lib.parseMag;rw[if_neg (by simp),hp];have e:(c::r).foldl (fun a c=>a*10+(c.toNat-48)) 0=decV (c::r):=rfl;rw[e];by_cases hb:decV (c::r)<18446744073709551616
    ·rw[if_pos hb]
     dsimp only
     by_cases hs:decV (c::r)<9223372036854775808
     ·rw[if_neg (by omega),if_neg (by omega),if_neg (by omega),if_pos hs]
     ·rw[if_pos (by omega),if_neg hs]
    ·rw[if_neg hb,if_neg (by omega)]
 rw[ha,GS];by_cases hs:decV l<9223372036854775808
 ·rw[if_pos hs]
  dsimp only
  rw[h,Bool.true_and];by_cases hv:decV l<=65535
  ·rw[if_pos (by simp;omega),if_pos (by omega)];congr 1;omega
  ·rw[if_neg (by simp;omega),if_neg (by omega)]
 ·rw[if_neg hs,if_neg (by omega)]
theorem xi {l:Bs} (h42:l≠[42]) (h:dj aA l=false):ez l=none:=by
 unfold ez;rw[if_neg h42];split
 ·rw[h];rfl
 ·rfl
theorem rM {c:UInt8}:∀{l:Bs},(∀x∈l,x≠c)->ag c l=[l]
 | [],_=>rfl
 | b::l,h=>by
   rw[ag,if_neg (by simpa using h b (by simp)),rM (fun x hx=>h x (by simp[hx]))]
theorem yu {c:UInt8} (r:Bs):∀{l:Bs},(∀x∈l,x≠c)->ag c (l++c::r)=l::ag c r
 | [],_=>by rw[List.nil_append,ag,if_pos (by simp)]
 | b::l,h=>by
   rw[List.cons_append,ag,if_neg (by simpa using h b (by simp)),yu r (fun x hx=>h x (by simp[hx]))]
def NoC (c:UInt8) (l:Bs) (a b:Nat):Prop:=∀j,a<=j->j<b->l[j]? ≠some c
theorem G5 {c:UInt8} {l:Bs} {a b:Nat} (h:NoC c l a b):∀x∈(l.drop a).take (b-a),x≠c:=by
 rintro x hx rfl;obtain⟨j,hj⟩:=List.getElem?_of_mem hx;rw[List.getElem?_take]at hj;split at hj
 ·rename_i aN;rw[List.getElem?_drop]at hj;exact h (a+j) (by omega) (by omega) hj
 ·cases hj
theorem sM {c:UInt8} {l:Bs} {a:Nat} (h:NoC c l a l.length):ag c (l.drop a)=[l.drop a]:=by
 refine rM ?_;have:=G5 h
 rwa [List.take_of_length_le (by simp)]at this
theorem Bo {c:UInt8} {l:Bs} {a b:Nat} (TV:a<=b) (h:NoC c l a b) (hb:l[b]? =some c):ag c (l.drop a)=(l.drop a).take (b-a)::ag c (l.drop (b+1)):=by
 have aN:b<l.length:=(List.getElem?_eq_some_iff.1 hb).1
 have e:l.drop a=(l.drop a).take (b-a)++c::l.drop (b+1):=by
  have h1:(l.drop a).drop (b-a)=c::l.drop (b+1):=by
   rw[List.drop_drop,show a+(b-a)=b by omega,List.drop_eq_getElem_cons aN];have:l[b]=c:=by rw[List.getElem?_eq_getElem aN]at hb;exact Option.some.inj hb
   rw[this]
  rw[<-h1,List.take_append_drop]
 conv=>lhs;rw[e]
 exact yu _ (G5 h)
def gv (l:Bs) (a:Nat):Bool:=(ag 46 (l.drop a)).all (dj fC)
theorem Fp (l:Bs):eF l=gv l 0:=by unfold eF gv;rw[jF];rfl
theorem IJ {l:Bs} {a:Nat} (h:NoC 46 l a l.length):gv l a=dj fC (l.drop a):=by
 unfold gv;rw[sM h];simp
theorem DV {l:Bs} {a b:Nat} (TV:a<=b) (h:NoC 46 l a b) (hb:l[b]? =some 46):gv l a=(dj fC ((l.drop a).take (b-a))&&gv l (b+1)):=by
 unfold gv;rw[Bo TV h hb];rfl
theorem II {l:Bs} {k:Nat} (hk:k<=l.length) (h1:∀(j:Nat) b,k<=j->l[j]? =some b->b=61) (h2:∀b,0<k->l[k-1]? =some b->b≠61):
  eO l=(decide (l.length-k<=2)&&dj (iP [43,47,45,95]) (l.take k)):=by
 unfold eO;rw[Lib.trimRightB_take l 61 k hk h1 h2,oH CM,List.length_take,Nat.min_eq_left hk]
theorem Ly (c:UInt8):dA c=(decide (33<=(c.toNat:Int))&&decide ((c.toNat:Int)<=126)&& !inB [63,35,59,44,34,60,62,92,94,96,123,124,125] c):=by
 revert c;exact au (by decide +kernel)
theorem Dc (l:Bs):(l.isEmpty||dj dA l)=l.all dA:=by
 cases l with
 | nil=>rfl
 | cons b r=>simp[dj]
end Lz
namespace Go.Proofs.YtlcbhacofagedaaGreatDoor
open Go.RowKit
def RB (b:Bool) (w:World) (e:Ending) (w':World):Prop:=e=.returned (.bool b)/\w=w'
def RI (n:Int) (w:World) (e:Ending) (w':World):Prop:=e=.returned (.int .i64 n)/\w=w'
theorem aJ (s:ByteArray) (a b:Nat):(s.extract a b).size<=s.size:=by
 rw[<-aa,Lib.extract_data,List.length_take,List.length_drop,aa];omega
theorem nX (s:ByteArray) (k:Nat):(s.extract 0 k).data.toList=s.data.toList.take k:=by
 rw[Lib.extract_data];rfl
theorem aP (s:ByteArray) (k:Nat):(s.extract k s.size).data.toList=s.data.toList.drop k:=by
 rw[Lib.extract_data,List.take_of_length_le (by rw[List.length_drop,aa];exact Nat.le_refl _)]
theorem ia {b b':Bool} {w:World} (h:b'=b):RB b' w (.returned (.bool b)) w:=⟨by rw[h],rfl⟩
theorem jX {s:ByteArray} {n:Nat} (h:n<s.size):s.data.toList[n]? =some s[n]:=by
 rw[List.getElem?_eq_getElem (by rw[aa];exact h)];rfl
theorem jO (a b:UInt8):((a.toNat:Int)==(b.toNat:Int))=(a==b):=by
 rw[Bool.eq_iff_iff,beq_iff_eq,beq_iff_eq];constructor
 ·intro h;exact UInt8.toNat_inj.1 (by omega)
 ·intro h;rw[h]
theorem Fg (c:UInt8) (s:ByteArray) (hs:s.size<=1073741824) (w:World):Calls Tryz.prog 116 #[.int .u8 c.toNat,.string s] w (RB (Lz.inB s.data.toList c) w):=by
 have hc:=d9 c;go_enter Tryz.func116,Tryz.ntmps116
 go_wp2
 go_loop [5] (fun i=>∃n:Nat,n<=s.size/\i=.int .i64 n/\(∀j,j<n->s.data.toList[j]? ≠some c)) (fun i=>s.size-(intOf i).toNat)
 case atStart=>exact⟨0,Nat.zero_le _,rfl,fun j h=>by omega⟩
 case round=>
  obtain⟨n,hn,rfl,ey⟩:=hrel;have fZ:=Ih ey;clear ey;by_cases aN:n<s.size
  ·have nh:=Ih (jX aN);have qy:=jO s[n] c;generalize hb:(s[n]==c)=b at qy;have Hb:=Ih hb;clear hb;cases b
   ·go_wp2
    go_round
    case rel=>exact⟨n+1,by omega,by go_num,fun j hj hc=>by
     by_cases sC:j<n
     ·exact fZ.out j sC hc
     ·obtain rfl:j=n:=by omega
      rw[nh.out]at hc;obtain rfl:=Option.some.inj hc;have:=Hb.out
      simp at this⟩
    case measure=>simp[intOf];omega
   ·go_wp2
    go_ret;have h1:s[n]=c:=by simpa using Hb.out
    have h2:Lz.inB s.data.toList c=true:=by
     unfold Lz.inB;rw[List.contains_iff_mem,<-h1];exact List.mem_of_getElem? nh.out
    exact ia h2
  ·go_wp2
   go_ret
   have h2:Lz.inB s.data.toList c=false:=by
    unfold Lz.inB;rw[Bool.eq_false_iff];intro h;rw[List.contains_iff_mem]at h;obtain⟨j,hj⟩:=List.getElem?_of_mem h;exact fZ.out j (by have:=(List.getElem?_eq_some_iff.1 hj).1;rw[aa]at this;omega) hj
   exact ia h2
theorem Vm (c:UInt8):Lz.tz c=(((decide (97<=(c.toNat:Int))&&decide ((c.toNat:Int)<=122))||(decide (65<=(c.toNat:Int))&&decide ((c.toNat:Int)<=90)))||(decide (48<=(c.toNat:Int))&&decide ((c.toNat:Int)<=57))):=by
 revert c;exact Lz.au (by decide +kernel)
theorem zS (c:UInt8) (w:World):Calls Tryz.prog 161 #[.int .u8 c.toNat] w (RB (Lz.tz c) w):=by
 have hc:=d9 c;have H:=Ih (Vm c);go_enter Tryz.func161,Tryz.ntmps161
 go_wp2
 all_goals go_ret
 all_goals
  refine ia ?_;rw[H.out];rw[Bool.eq_iff_iff];simp only[Bool.or_eq_true,Bool.and_eq_true,decide_eq_true_eq,Bool.false_eq_true,iff_true,iff_false];omega
theorem uo (s m:ByteArray) (hs:s.size<=1073741824) (hm:m.size<=1073741824) (w:World):Calls Tryz.prog 115 #[.string s,.string m] w (RB (Lz.dj (Lz.iP m.data.toList) s.data.toList) w):=by
 go_enter Tryz.func115,Tryz.ntmps115
 go_wp2
 go_loop [5] (fun i=>∃n:Nat,n<=s.size/\i=.int .i64 n/\(∀j c,j<n->s.data.toList[j]? =some c->Lz.iP m.data.toList c=true)) (fun i=>s.size-(intOf i).toNat)
 case atStart=>exact⟨0,Nat.zero_le _,rfl,fun j c h=>by omega⟩
 case round=>
  obtain⟨n,hn,rfl,ey⟩:=hrel;have fZ:=Ih ey;clear ey;by_cases aN:n<s.size
  ·have nh:=Ih (jX aN);have ca:=Ih (zS s[n] w);have ci:=Ih (Fg s[n] m hm w);generalize ha:Lz.tz s[n]=a at ca;have Ha:=Ih ha;generalize hb:Lz.inB m.data.toList s[n]=b at ci;have Hb:=Ih hb;clear ha hb;cases a<;>cases b
   case false.false=>
    go_wp2_with (first |(go_at_call 161;refine(ca.out).mono ?_;rintro e w' ⟨rfl,rfl⟩)|(go_at_call 116;refine(ci.out).mono ?_;rintro e w' ⟨rfl,rfl⟩))
    go_ret
    have h2:Lz.dj (Lz.iP m.data.toList) s.data.toList=false:=by
     unfold Lz.dj
     have:s.data.toList.all (Lz.iP m.data.toList)=false:=by
      rw[List.all_eq_false];exact⟨s[n],List.mem_of_getElem? nh.out,by unfold Lz.iP;rw[Ha.out,Hb.out];decide⟩
     rw[this];rfl
    exact ia h2
   all_goals
    go_wp2_with (first |(go_at_call 161;refine(ca.out).mono ?_;rintro e w' ⟨rfl,rfl⟩)|(go_at_call 116;refine(ci.out).mono ?_;rintro e w' ⟨rfl,rfl⟩))
    go_round
    case rel=>exact⟨n+1,by omega,by go_num,fun j c hj hc=>by
     by_cases sC:j<n
     ·exact fZ.out j c sC hc
     ·obtain rfl:j=n:=by omega
      rw[nh.out]at hc;obtain rfl:=Option.some.inj hc;unfold Lz.iP;rw[Ha.out,Hb.out];rfl⟩
    case measure=>simp[intOf];omega
  ·have dG:s.toList.isEmpty=s.data.toList.isEmpty:=by rw[Lib.toList_data]
   have Lg:=Ih dG;clear dG
   go_wp2
   go_ret;refine ia ?_
   have h1:s.data.toList.all (Lz.iP m.data.toList)=true:=by
    rw[List.all_eq_true];intro c hc;obtain⟨j,hj⟩:=List.getElem?_of_mem hc;exact fZ.out j c (by have:=(List.getElem?_eq_some_iff.1 hj).1;rw[aa]at this;omega) hj
   unfold Lz.dj;rw[h1,<-Lg.out];rfl
theorem uF (s:ByteArray) (hs:s.size<=1073741824) (w:World):Calls Tryz.prog 114 #[.string s] w (RB (Lz.eO s.data.toList) w):=by
 go_enter Tryz.func114,Tryz.ntmps114
 go_wp2
 go_loop [3] (fun i=>∃n:Nat,n<=s.size/\i=.int .i64 n/\(∀(j:Nat) c,n<=j->s.data.toList[j]? =some c->c=61)) (fun i=>(intOf i).toNat)
 case atStart=>exact⟨s.size,Nat.le_refl _,rfl,fun j c h hc=>by have:=(List.getElem?_eq_some_iff.1 hc).1;rw[aa]at this;omega⟩
 case round=>
  obtain⟨n,hn,rfl,ey⟩:=hrel;have fZ:=Ih ey;clear ey;by_cases qx:n=0\/(∃h:0<n,¬s[n-1]=61)
  ·have HB:Hid (Lz.eO s.data.toList=(decide (s.data.toList.length-n<=2)&&Lz.dj (Lz.iP [43,47,45,95]) (s.data.toList.take n))):=by
    refine Lz.II (by rw[aa];exact hn) fZ.out ?_;intro b hb hg;rcases qx with rfl|⟨h,dG⟩
    ·cases hb
    ·rw[jX (by omega)]at hg;obtain rfl:=Option.some.inj hg;exact dG
   have hz:=aJ s 0 n;have co:=Ih (uo (s.extract 0 n) ⟨#[43,47,45,95]⟩ (by omega) (by decide) w);generalize hb:Lz.dj (Lz.iP (ByteArray.data ⟨#[43,47,45,95]⟩).toList) (s.extract 0 n).data.toList=b at co;have Hb:=Ih hb;clear hb hz
   have HR:Hid (Lz.eO s.data.toList=(decide ((s.size:Int)-n<=2)&&b)):=by
    show _=_;rw[HB.out,<-Hb.out,nX];congr 1;rw[aa,decide_eq_decide];omega
   clear HB Hb;by_cases h2:(s.size:Int)-n<=2
   ·have HR2:Hid (Lz.eO s.data.toList=b):=by show _=_;rw[HR.out,decide_eq_true h2];rfl
    clear HR;rcases qx with h0|⟨h,dG⟩
    ·have ow:(n:Int)<=0:=by omega
     clear h0
     go_wp2_with (go_at_call 115;(with_reducible refine(co.out).mono ?_);rintro e w' ⟨rfl,rfl⟩)
     go_ret;exact ia HR2.out
    ·obtain⟨m,rfl⟩:∃m,n=m+1:=⟨n-1,by omega⟩;have hq:((s[m].toNat:Int)==61)=false:=(jO s[m] 61).trans (by simpa using dG);clear dG
     go_wp2_with (go_at_call 115;refine(co.out).mono ?_;rintro e w' ⟨rfl,rfl⟩)
     go_ret;exact ia HR2.out
   ·have HR2:Hid (Lz.eO s.data.toList=false):=by show _=_;rw[HR.out,decide_eq_false h2];rfl
    clear HR co;rcases qx with h0|⟨h,dG⟩
    ·have ow:(n:Int)<=0:=by omega
     clear h0
     go_wp2
     go_ret;exact ia HR2.out
    ·obtain⟨m,rfl⟩:∃m,n=m+1:=⟨n-1,by omega⟩;have hq:((s[m].toNat:Int)==61)=false:=(jO s[m] 61).trans (by simpa using dG);clear dG
     go_wp2
     go_ret;exact ia HR2.out
  ·obtain⟨m,rfl⟩:∃m,n=m+1:=⟨n-1,by omega⟩
   have he:s[m]=61:=by
    by_cases he:s[m]=61
    ·exact he
    ·exact absurd (Or.inr ⟨by omega,he⟩) qx
   have He:=Ih he;have hq:((s[m].toNat:Int)==61)=true:=(jO s[m] 61).trans (by simpa using he);clear qx he
   go_wp2
   go_round
   case rel=>exact⟨m,by omega,rfl,fun j c hj hc=>by
    by_cases hjm:j=m
    ·subst hjm;rw[jX (by omega)]at hc;rw[<-Option.some.inj hc];exact He.out
    ·exact fZ.out j c (by omega) hc⟩
   case measure=>simp[intOf]
end Go.Proofs.YtlcbhacofagedaaGreatDoor
namespace Lz
def il (c:UInt8):Nat:=(dx c).getD 0
def oK (c:UInt8):Bool:=(dx c).isSome
end Lz
namespace Go.Proofs.YtlcbhacofagedaaGreatDoor
open Go.RowKit
theorem YL (c:UInt8):Lz.aA c=true->((c.toNat:Int)-48)%256=(Lz.il c:Int)/\Lz.oK c=true:=by
 revert c;exact Lz.au (by decide +kernel)
theorem Yq (c:UInt8):Lz.aA c=false->97<=bits BinOp.or IntKind.u8 (c.toNat:Int) 32->bits BinOp.or IntKind.u8 (c.toNat:Int) 32<=102->bits BinOp.or IntKind.u8 (c.toNat:Int) 32-97+10=(Lz.il c:Int)/\Lz.oK c=true:=by
 revert c;exact Lz.au (by decide +kernel)
theorem YO (c:UInt8):Lz.aA c=false->¬(97<=bits BinOp.or IntKind.u8 (c.toNat:Int) 32/\bits BinOp.or IntKind.u8 (c.toNat:Int) 32<=102)->(Lz.il c:Int)=0/\Lz.oK c=false:=by
 revert c;exact Lz.au (by decide +kernel)
theorem iY (c:UInt8):Lz.il c<16:=by
 revert c;exact Lz.au (by decide +kernel)
def BR (c:UInt8) (w:World) (e:Ending) (w':World):Prop:=e=.returned (.tuple #[.int .i64 (Lz.il c),.bool (Lz.oK c)])/\w=w'
theorem lj (c:UInt8) (w:World):Calls Tryz.prog 207 #[.int .u8 c.toNat] w (BR c w):=by
 have hc:=d9 c;have H1:=Ih (YL c);have H2:=Ih (Yq c);have H3:=Ih (YO c);unfold BR;generalize hn:Lz.il c=n at *;generalize hb:Lz.oK c=b at *;have cd:=kK c w;generalize kR:Lz.aA c=d at *;have Cd:=Ih cd;clear cd hn hb kR;cases d
 ·have H2':=Ih (H2.out rfl);have H3':=Ih (H3.out rfl);clear H1 H2 H3;go_enter Tryz.func207,Tryz.ntmps207
  go_wp2_with (go_at_call 169;refine(Cd.out).mono ?_;rintro e w' ⟨rfl,rfl⟩)
  ·go_ret2
   rename_i h1 h2;obtain⟨e1,e2⟩:=H2'.out h1 h2;exact⟨by rw[<-e1,e2];rfl,rfl⟩
  ·go_ret2
   rename_i h1 h2;obtain⟨e1,e2⟩:=H3'.out (by omega);exact⟨by rw[e1,e2];rfl,rfl⟩
  ·go_ret2
   rename_i h1;obtain⟨e1,e2⟩:=H3'.out (by omega);exact⟨by rw[e1,e2];rfl,rfl⟩
 ·obtain⟨h1,h2⟩:=H1.out rfl;clear H2 H3 H1;subst h2;have Hh:=Ih h1;clear h1;go_enter Tryz.func207,Tryz.ntmps207
  go_wp2_with (go_at_call 169;refine(Cd.out).mono ?_;rintro e w' ⟨rfl,rfl⟩)
  go_ret2
  exact⟨by rw[<-Hh.out];rfl,rfl⟩
def tk (l:List UInt8) (w:World) (e:Ending) (w':World):Prop:=
 ∃c:UInt8,e=.returned (.tuple #[.int .u8 c.toNat,.bool (Lz.bU l).isSome])/\Hid (∀b,Lz.bU l=some b->c=b)/\w=w'
theorem QG (a b:UInt8):((bits BinOp.or IntKind.i64 ((Lz.il a:Int)*16) (Lz.il b))%256)=((UInt8.ofNat (16*Lz.il a+Lz.il b)).toNat:Int):=by
 have ha:=iY a;have hb:=iY b;generalize Lz.il a=x at *;generalize Lz.il b=y at *;exact(show ∀x:Fin 16,∀y:Fin 16,((bits BinOp.or IntKind.i64 ((x.1:Int)*16) y.1)%256)=((UInt8.ofNat (16*x.1+y.1)).toNat:Int) by decide +kernel) ⟨x,ha⟩ ⟨y,hb⟩
theorem pW {l:List UInt8} (h:l.length<3):Lz.bU l=none:=by
 match l,h with
 | [],_=>rfl
 | [a],_=>unfold Lz.bU;split<;>simp_all
 | [a,b],_=>unfold Lz.bU;split<;>simp_all
theorem pL {l:List UInt8} {c:UInt8} (h0:l[0]? =some c) (h:(c==37)=false):Lz.bU l=none:=by
 unfold Lz.bU;split
 ·simp at h0;subst h0;simp at h
 ·rfl
theorem zf {l:List UInt8} {c a b:UInt8} (h0:l[0]? =some c) (h1:l[1]? =some a) (h2:l[2]? =some b) (h:(c==37)=true):
  Lz.bU l=if Lz.oK a&&Lz.oK b then some (UInt8.ofNat (16*Lz.il a+Lz.il b))else none:=by
 match l,h0,h1,h2 with
 | x::y::z::r,h0,h1,h2=>
   simp at h0 h1 h2 h
   subst h0 h1 h2 h
   show(match Lz.dx y,Lz.dx z with
    | some x,some y=>some (UInt8.ofNat (16*x+y))
    | _,_=>none)=_
   cases hy:Lz.dx y<;>cases hz:Lz.dx z<;>simp[Lz.oK,Lz.il,hy,hz]
theorem Fl (s:ByteArray) (hs:s.size<=1073741824) (w:World):Calls Tryz.prog 159 #[.string s] w (tk s.data.toList w):=by
 by_cases h3:s.size<3
 ·have Ht:=Ih (pW (l:=s.data.toList) (by rw[aa];exact h3));unfold tk;go_enter Tryz.func159,Tryz.ntmps159
  go_wp2
  go_ret2
  refine⟨0,?_,Ih (fun b hb=>?_),rfl⟩
  ·rw[Ht.out];rfl
  ·rw[Ht.out]at hb;cases hb
 ·have g0:=aw (s:=s) (n:=0) (by omega);have g1:=aw (s:=s) (n:=1) (by omega);have g2:=aw (s:=s) (n:=2) (by omega);have i0:((s[0].toNat:Int)==37)=(s[0]==37):=jO s[0] 37;have n0:((s[0].toNat:Int) != 37)= !(s[0]==37):=congrArg (! ·) i0;generalize hq:(s[0]==37)=q at i0 n0;cases q
  ·have Ht:=Ih (pL g0 hq);clear g0 g1 g2 hq;simp only[Bool.not_false]at n0;unfold tk;go_enter Tryz.func159,Tryz.ntmps159
   go_wp2
   go_ret2
   refine⟨0,?_,Ih (fun b hb=>?_),rfl⟩
   ·rw[Ht.out];rfl
   ·rw[Ht.out]at hb;cases hb
  ·have Ht:=Ih (zf g0 g1 g2 hq);have I:=Ih (QG s[1] s[2]);have Ca:=fun w=>lj s[1] w;have Cb:=fun w=>lj s[2] w;unfold BR at Ca Cb;unfold tk;have l1:=iY s[1];have l2:=iY s[2];generalize Lz.il s[1]=x at *;generalize Lz.il s[2]=y at *;generalize Lz.oK s[1]=a at *;generalize Lz.oK s[2]=b at *;clear g0 g1 g2 hq;simp only[Bool.not_true]at n0;cases a<;>cases b<;>
   ·go_enter Tryz.func159,Tryz.ntmps159
    go_wp2_with fail
    with_reducible refine(Ca _).mono ?_
    rintro e w' ⟨rfl,rfl⟩
    go_wp2_with fail
    with_reducible refine(Cb _).mono ?_
    rintro e w' ⟨rfl,rfl⟩
    go_wp2
    go_ret2
    refine⟨UInt8.ofNat (16*x+y),?_,Ih (fun b hb=>?_),rfl⟩
    ·rw[Ht.out,<-I.out];rfl
    ·rw[Ht.out]at hb;first |(cases hb;rfl)|cases hb
end Go.Proofs.YtlcbhacofagedaaGreatDoor
namespace Lz
open Go
theorem mL {l:Bs} {b:UInt8} (h:bU l=some b):an l=b::an (l.drop 3)/\3<=l.length:=by
 match l with
 | []=>simp[bU]at h
 | c::r=>
   refine⟨?_,?_⟩
   ·rw[an];split
    ·rename_i b' hb;rw[hb]at h;injection h with h;subst h;rfl
    ·rename_i hb;rw[hb]at h;cases h
   ·unfold bU at h;split at h
    ·rename_i heq;rw[heq];simp
    ·cases h
theorem iA {l:Bs} {c:UInt8} (hc:l[0]? =some c) (h:bU l=none):an l=c::an (l.drop 1):=by
 match l with
 | []=>simp at hc
 | x::r=>
   simp at hc;subst hc
   rw[an];split
   ·rename_i b' hb;rw[hb]at h;cases h
   ·rfl
theorem oE (l:Bs):(an l).length<=l.length:=by
 generalize hn:l.length=n
 induction n using Nat.strongRecOn generalizing l with
 | _ n ih=>
   match l with
   | []=>simp[an]
   | c::r=>
     rw[an];split
     ·have:=ih (r.drop 2).length (by simp at hn;simp;omega) (r.drop 2) rfl
      simp at hn this⊢;omega
     ·have:=ih r.length (by simp at hn;omega) r rfl
      simp at hn⊢;omega
end Lz
namespace Go.Proofs.YtlcbhacofagedaaGreatDoor
open Go.RowKit
structure su (l:List UInt8) (w:World) (u:ByteArray) (gD:List UInt8) (wr:World):Prop where
 sum:gD++Lz.an u.data.toList=Lz.an l
 len:gD.length+u.size<=l.length
 made:Lib.IsBuilder 88 5 w.heap.size w.heap.size (Lib.byteCells gD) wr
 below:Below w.heap.size w wr
theorem jG (gD:List UInt8) (c:UInt8):Lib.byteCells gD++[.int .u8 (c.toNat:Int)]=Lib.byteCells (gD++[c]):=by
 simp[Lib.byteCells]
theorem su.some {l:List UInt8} {w:World} {u:ByteArray} {gD:List UInt8} {wr w':World} {b:UInt8} (h:su l w u gD wr) (hb:Lz.bU u.data.toList=some b)
  (hm:Lib.IsBuilder 88 5 w.heap.size w.heap.size (Lib.byteCells gD++[.int .u8 (b.toNat:Int)]) w') (hw:Below w.heap.size wr w') {v:ByteArray} (hv:v.data.toList=u.data.toList.drop 3):su l w v (gD++[b]) w':=by
 obtain⟨h1,h2⟩:=Lz.mL hb;have hz:v.size=u.size-3:=by rw[<-aa,hv,List.length_drop,aa]
 rw[aa]at h2;exact⟨by rw[<-h.sum,h1,hv];simp,by have:=h.len;simp;omega,by rw[<-jG];exact hm,h.below.trans hw⟩
theorem su.none {l:List UInt8} {w:World} {u:ByteArray} {gD:List UInt8} {wr w':World} {c:UInt8} (h:su l w u gD wr) (hc:u.data.toList[0]? =.some c) (hb:Lz.bU u.data.toList=.none)
  (hm:Lib.IsBuilder 88 5 w.heap.size w.heap.size (Lib.byteCells gD++[.int .u8 (c.toNat:Int)]) w') (hw:Below w.heap.size wr w') {v:ByteArray} (hv:v.data.toList=u.data.toList.drop 1):su l w v (gD++[c]) w':=by
 have h1:=Lz.iA hc hb;have hz:v.size=u.size-1:=by rw[<-aa,hv,List.length_drop,aa]
 have hu:0<u.size:=by
  have:=(List.getElem?_eq_some_iff.1 hc).1
  rwa [aa]at this
 exact⟨by rw[<-h.sum,h1,hv];simp,by have:=h.len;simp;omega,by rw[<-jG];exact hm,h.below.trans hw⟩
theorem X7 (u:ByteArray):(u.extract 1 u.size).data.toList=u.data.toList.drop 1:=aP u 1
theorem Td (u:ByteArray):((u.extract 2 u.size).extract 1 (u.extract 2 u.size).size).data.toList=u.data.toList.drop 3:=by
 rw[aP,aP,List.drop_drop]
theorem Uz (u:ByteArray):((u.extract 2 u.size).extract 1 (u.size-2)).data.toList=u.data.toList.drop 3:=by
 rw[show u.size-2=(u.extract 2 u.size).size by have:=congrArg List.length (aP u 2);rw[List.length_drop,aa,aa]at this;exact this.symm];exact Td u
theorem oG (s:ByteArray) (hs:s.size<=1073741824) (w:World):Calls Tryz.prog 111 #[.string s] w (gl (Lz.an s.data.toList) w):=by
 obtain⟨l,hl⟩:∃l,l=s.data.toList:=⟨_,rfl⟩;have bv:l.length=s.size:=by rw[hl];exact aa s
 have h0:su l w s [] (w.alloc (.cells #[.pointer none,.slice none 0 0] 88)):=
  ⟨by rw[hl];rfl,by simp[bv],Lib.fresh_isBuilder _ _ _,(Below.refl _ w).alloc (Nat.le_refl _) _⟩
 rw[<-hl];clear hl;have kS:=Ih bv;clear bv;go_enter Tryz.func111,Tryz.ntmps111
 go_wp2
 go_loopw [0] (fun s0 wr=>∃(u:ByteArray) (gD:List UInt8),s0=.string u/\su l w u gD wr) (fun s0 _=>match s0 with| .string u=>u.size|_=>0)
 case atStart=>exact⟨s,[],rfl,h0⟩
 case round=>
  clear h0;obtain⟨u,gD,rfl,hD⟩:=hrel;have dV:gD.length+u.size<=s.size:=by rw[<-kS.out];exact hD.len
  have bi:=hD.below.size;by_cases hz:u.size=0
  ·have he:=ak hz;have hS:=Ih hD.sum
   go_wp2_with fail
   refine(Tryz.Builder_String_any _ _ gD _ hD.made (by exact bi)).mono ?_;rintro e w' ⟨rfl,hb⟩
   go_wp2
   go_ret;refine⟨_,rfl,Ih ?_,hD.below.trans hb⟩;rw[<-hS.out];have:u.data.toList=[]:=List.length_eq_zero_iff.1 (by rw[aa];exact hz);rw[this]
   simp[Lz.an]
  ·have he:=aj (s:=u) (by omega);have hg:=aw (s:=u) (n:=0) (by omega);have Hg:=Ih hg;have HD:=Ih hD
   go_wp2_with fail
   refine(Fl u (by omega) _).mono ?_;rintro e w' ⟨c,rfl,hc,rfl⟩;generalize hq:Lz.bU u.data.toList=q at hc;have Hq:=Ih hq;clear hg hq hD;cases q with
   | none=>
     go_wp2_with fail
     refine(ke w.heap.size w.heap.size _ _ _ HD.out.made (by simp[Lib.byteCells];omega) bi).mono ?_;rintro e w2 ⟨rfl,hm,hb⟩
     go_wp2
     go_roundw
     case rel=>exact⟨_,_,rfl,HD.out.none Hg.out Hq.out hm hb (X7 u)⟩
     case measure=>simp;omega
   | some b=>
     have Pe:c=b:=hc.out b rfl;have h3:3<=u.size:=by rw[<-aa];exact(Lz.mL Hq.out).2
     have fk:(u.extract 2 u.size).size=u.size-2:=by rw[<-aa,aP,List.length_drop,aa]
     subst Pe
     go_wp2_with fail
     refine(ke w.heap.size w.heap.size _ _ _ HD.out.made (by simp[Lib.byteCells];omega) bi).mono ?_;rintro e w2 ⟨rfl,hm,hb⟩
     go_wp2
     go_roundw
     case rel=>
      refine⟨_,_,rfl,HD.out.some Hq.out hm hb ?_⟩
      with_reducible first |exact Td u|exact Uz u
     case measure=>simp;omega
end Go.Proofs.YtlcbhacofagedaaGreatDoor
namespace Lz
open Go
def jU:Nat->Bs
 | 1=>[32,34,60,62,96]
 | 2=>[32,34,35,60,62]
 | 3=>[32,34,35,60,62,39]
 | 4=>[32,34,35,60,62,63,94,96,123,125]
 | 5=>[32,34,35,60,62,63,94,96,123,125,47,58,59,61,64,91,92,93,124]
 | 6=>[32,34,35,60,62,63,94,96,123,125,47,58,59,61,64,91,92,93,124,36,37,38,43,44]
 | _=>[]
theorem Cg (of l:Bs) (c:UInt8):ah of (l++[c])=ah of l++(if c<32||126<c||of.contains c then[37,gm (c.toNat / 16),gm (c.toNat%16)]else[c]):=by
 simp[ah]
theorem Fz (of l:Bs):(ah of l).length<=3*l.length:=by
 induction l with
 | nil=>simp[ah]
 | cons c r ih=>
   have:ah of (c::r)=(if c<32||126<c||of.contains c then[37,gm (c.toNat / 16),gm (c.toNat%16)]else[c])++ah of r:=by simp[ah]
   rw[this];split<;>simp<;>omega
end Lz
namespace Go.Proofs.YtlcbhacofagedaaGreatDoor
open Go.RowKit
theorem kD (a b:ByteArray):(a++b).data.toList=a.data.toList++b.data.toList:=by simp
def A9 (l:List UInt8) (w:World) (e:Ending) (w':World):Prop:=∃u:ByteArray,e=.returned (.string u)/\Hid (u.data.toList=l)/\w=w'
theorem UJ (w:World):Calls Tryz.prog 136 #[.int .i64 0] w (A9 (Lz.jU 0) w):=by
 go_enter Tryz.func136,Tryz.ntmps136
 go_wp2
 go_ret;exact⟨_,rfl,Ih rfl,rfl⟩
theorem E4 (w:World):Calls Tryz.prog 136 #[.int .i64 2] w (A9 (Lz.jU 2) w):=by
 go_enter Tryz.func136,Tryz.ntmps136
 go_wp2
 go_ret;exact⟨_,rfl,Ih rfl,rfl⟩
theorem Od (w:World):Calls Tryz.prog 136 #[.int .i64 4] w (A9 (Lz.jU 4) w):=by
 go_enter Tryz.func136,Tryz.ntmps136
 go_wp2_with fail
 with_reducible refine(E4 _).mono ?_
 rintro e w' ⟨u,rfl,hu,rfl⟩;have hz:u.size=5:=by rw[<-aa,hu.out];rfl
 go_wp2
 go_ret;exact⟨_,rfl,Ih (by rw[kD,hu.out];rfl),rfl⟩
theorem NI (w:World):Calls Tryz.prog 136 #[.int .i64 5] w (A9 (Lz.jU 5) w):=by
 go_enter Tryz.func136,Tryz.ntmps136
 go_wp2_with fail
 with_reducible refine(Od _).mono ?_
 rintro e w' ⟨u,rfl,hu,rfl⟩;have hz:u.size=10:=by rw[<-aa,hu.out];rfl
 go_wp2
 go_ret;exact⟨_,rfl,Ih (by rw[kD,hu.out];rfl),rfl⟩
theorem Mi (k:Nat) (hk:k<7) (w:World):Calls Tryz.prog 136 #[.int .i64 k] w (A9 (Lz.jU k) w):=by
 obtain rfl|rfl|rfl|rfl|rfl|rfl|rfl:k=0\/k=1\/k=2\/k=3\/k=4\/k=5\/k=6:=by omega
 ·exact UJ w
 ·show Calls _ _ #[.int .i64 1] _ _;go_enter Tryz.func136,Tryz.ntmps136
  go_wp2
  go_ret;exact⟨_,rfl,Ih rfl,rfl⟩
 ·exact E4 w
 ·show Calls _ _ #[.int .i64 3] _ _;go_enter Tryz.func136,Tryz.ntmps136
  go_wp2_with fail
  with_reducible refine(E4 _).mono ?_
  rintro e w' ⟨u,rfl,hu,rfl⟩;have hz:u.size=5:=by rw[<-aa,hu.out];rfl
  go_wp2
  go_ret;exact⟨_,rfl,Ih (by rw[kD,hu.out];rfl),rfl⟩
 ·exact Od w
 ·exact NI w
 ·show Calls _ _ #[.int .i64 6] _ _;go_enter Tryz.func136,Tryz.ntmps136
  go_wp2_with fail
  with_reducible refine(NI _).mono ?_
  rintro e w' ⟨u,rfl,hu,rfl⟩;have hz:u.size=19:=by rw[<-aa,hu.out];rfl
  go_wp2
  go_ret;exact⟨_,rfl,Ih (by rw[kD,hu.out];rfl),rfl⟩
theorem Te (c:UInt8):decide (c<32)=decide ((c.toNat:Int)<32):=by revert c;exact Lz.au (by decide +kernel)
theorem Mb (c:UInt8):decide (126<c)=decide (126<(c.toNat:Int)):=by revert c;exact Lz.au (by decide +kernel)
theorem Yw (c:UInt8):bits BinOp.and IntKind.u8 (c.toNat:Int) 15=((c.toNat%16:Nat):Int):=by revert c;exact Lz.au (by decide +kernel)
theorem S4 {x:Int} (h0:0<=x) (h1:x<=255):IntKind.u8.wrap x=x:=by
 have hb:IntKind.u8.bits=8:=rfl;have hs:IntKind.u8.signed=false:=rfl;simp only[IntKind.wrap,hb,hs]
 simp
 omega
theorem EU (x y:Fin 16):((({data:= #[37]}:ByteArray)++ByteArray.extract {data:= #[48,49,50,51,52,53,54,55,56,57,65,66,67,68,69,70]} x.1 (x.1+1))++ByteArray.extract {data:= #[48,49,50,51,52,53,54,55,56,57,65,66,67,68,69,70]} y.1 (y.1+1)).data.toList=[37,Lz.gm x.1,Lz.gm y.1]:=by
 revert x y;decide +kernel
theorem qJ (a:List UInt8) (s:ByteArray):Lib.byteCells (a++s.data.toList)=Lib.byteCells a++Lib.strCells s:=by
 simp[Lib.byteCells,Lib.strCells]
structure S2 (of l:List UInt8) (w:World) (k:Nat) (wr:World):Prop where
 made:Lib.IsBuilder 88 5 w.heap.size w.heap.size (Lib.byteCells (Lz.ah of (l.take k))) wr
 below:Below w.heap.size w wr
theorem eR (k:Nat) (hk:k<7) (s:ByteArray) (hs:s.size<=1073741824) (w:World):Calls Tryz.prog 83 #[.string s,.int .i64 k] w (gl (Lz.ah (Lz.jU k) s.data.toList) w):=by
 obtain⟨l,hl⟩:∃l,l=s.data.toList:=⟨_,rfl⟩;have bv:l.length=s.size:=by rw[hl];exact aa s
 have h0:S2 (Lz.jU k) l w 0 (w.alloc (.cells #[.pointer none,.slice none 0 0] 88)):=
  ⟨Lib.fresh_isBuilder _ _ _,(Below.refl _ w).alloc (Nat.le_refl _) _⟩
 have Hl:=Ih hl;rw[<-hl];clear hl;have kS:=Ih bv;clear bv;have iN:(0:Int)<=(k:Int):=by omega
 have hk7:(k:Int)<7:=by omega
 go_enter Tryz.func83,Tryz.ntmps83
 go_wp2_with fail
 with_reducible refine(Mi k hk _).mono ?_
 rintro e w' ⟨of,rfl,hof,rfl⟩
 go_wp2_with fail
 go_loopw [19] (fun i wr=>∃j:Nat,j<=s.size/\i=.int .i64 j/\S2 (Lz.jU k) l w j wr) (fun i _=>s.size-(intOf i).toNat)
 case atStart=>exact⟨0,Nat.zero_le _,rfl,h0⟩
 case round=>
  clear h0;obtain⟨j,hj,rfl,hD⟩:=hrel;have bi:=hD.below.size;by_cases aN:j<s.size
  ·have hg:=aw (s:=s) aN;have vK:l[j]? =some s[j]:=by rw[Hl.out];exact hg
   have cw:l.take (j+1)=l.take j++[s[j]]:=by
    rw[List.take_add_one,vK];rfl
   have hen:=Lz.Cg (Lz.jU k) (l.take j) s[j];rw[<-cw]at hen;have hel:=Lz.Fz (Lz.jU k) (l.take j);have Lb:(l.take j).length<=j:=by simp;omega
   generalize hc:s[j]=c at *;have HE:=Ih hen;have HD:=Ih hD;have Hg:=Ih hc;clear hen cw vK hg hD;have qA:=d9 c;obtain⟨q,hq⟩:∃q,q=(decide (c<32)||decide (126<c)||(Lz.jU k).contains c):=⟨_,rfl⟩;rw[<-hq]at HE;have Hq:=Ih hq;clear hq;have Cx:=fun w=>mB of c w
   go_upto_region 9 with fail
   go_cut [19,36]from 19 to 54 (fun s19 s36 wx=>s19=.int .i64 j/\s36=.bool q/\wx=wr)
   case first=>
    by_cases h1:c<32
    ·have An:(c.toNat:Int)<32:=of_decide_eq_true ((Te c).symm.trans (decide_eq_true h1));have HQ:Hid (q=true):=by show _=_;rw[Hq.out];simp[h1]
     clear h1
     go_wp2_with fail
     go_meet;exact⟨rfl,by rw[HQ.out],rfl⟩
    ·have An:¬(c.toNat:Int)<32:=of_decide_eq_false ((Te c).symm.trans (decide_eq_false h1));by_cases h2:126<c
     ·have F6:126<(c.toNat:Int):=of_decide_eq_true ((Mb c).symm.trans (decide_eq_true h2));have HQ:Hid (q=true):=by show _=_;rw[Hq.out];simp[h2]
      clear h1 h2
      go_wp2_with fail
      go_meet;exact⟨rfl,by rw[HQ.out],rfl⟩
     ·have F6:¬126<(c.toNat:Int):=of_decide_eq_false ((Mb c).symm.trans (decide_eq_false h2));have HQ:Hid (q=decide (0<=Lib.indexByte of.data.toList c)):=by show _=_;rw[Hq.out,hof.out,<-Lib.contains_iff_indexByte];simp[h1,h2]
      clear h1 h2
      go_wp2_with fail
      with_reducible refine(Cx _).mono ?_
      rintro e w' ⟨rfl,rfl⟩
      go_wp2_with fail
      go_meet;exact⟨rfl,by rw[HQ.out],rfl⟩
   case rest=>
    obtain⟨rfl,rfl,rfl⟩:=hcut;cases q
    ·go_wp2_with fail
     refine(ke w.heap.size w.heap.size _ _ _ HD.out.made (by simp[Lib.byteCells];omega) bi).mono ?_;rintro e w2 ⟨rfl,hm,hb⟩
     go_wp2
     go_roundw
     case rel=>
      refine⟨j+1,by omega,by go_num,?_,HD.out.below.trans hb⟩;rw[HE.out,if_neg (by decide),<-jG];exact hm
     case measure=>simp[intOf];omega
    ·go_wp2_with fail
     obtain⟨x,hx,jP,Wu⟩:∃x:Nat,(c.toNat:Int) / 16=x/\x<16/\x=c.toNat / 16:=⟨c.toNat / 16,by omega,by omega,rfl⟩;obtain⟨y,hy,Zr,hyc⟩:∃y:Nat,bits BinOp.and IntKind.u8 (c.toNat:Int) 15=y/\y<16/\y=c.toNat%16:=⟨c.toNat%16,Yw c,by omega,rfl⟩;have hxw:IntKind.u8.wrap ((x:Int)+1)=(x:Int)+1:=S4 (by omega) (by omega);have hyw:IntKind.u8.wrap ((y:Int)+1)=(y:Int)+1:=S4 (by omega) (by omega);have fF:(x:Int)+1<=16:=by omega
     have Le:(y:Int)+1<=16:=by omega
     have j8:(0:Int)<=x:=by omega
     have sS:(0:Int)<=(x:Int)+1:=by omega
     have XG:(0:Int)<=(y:Int)+1:=by omega
     have nL:(x:Int)<=(x:Int)+1:=by omega
     have hy3:(y:Int)<=(y:Int)+1:=by omega
     have SL:(0:Int)<=y:=by omega
     have bn:¬(9223372036854775807<1+(min (x+1) 16-x)):=by omega
     have eA:¬(9223372036854775807<1+(min (x+1) 16-x)+(min (y+1) 16-y)):=by omega
     have Hxc:=Ih Wu;have Hyc:=Ih hyc;clear Wu hyc;refine wp_region_still_tail 14 (by kernel_rfl) (by kernel_rfl) ?_;simp only[List.take_succ_cons,List.take_zero,List.drop_succ_cons,List.drop_zero]
     repeat still_step
     refine wpStill_nil ?_;change wpList _ _ _ _ _ wc.drew
     go_wp2_with fail
     generalize hT:(({data:= #[37]}:ByteArray)++ByteArray.extract {data:= #[48,49,50,51,52,53,54,55,56,57,65,66,67,68,69,70]} x (x+1))++ByteArray.extract {data:= #[48,49,50,51,52,53,54,55,56,57,65,66,67,68,69,70]} y (y+1)=tx;have hTd:tx.data.toList=[37,Lz.gm x,Lz.gm y]:=by rw[<-hT];exact EU ⟨x,jP⟩ ⟨y,Zr⟩
     have hTz:tx.size=3:=by rw[<-aa,hTd];rfl
     clear hT;refine(sK w.heap.size w.heap.size (Lib.byteCells (Lz.ah (Lz.jU k) (l.take j))) tx wc.drew (by exact HD.out.made) (by simp[Lib.byteCells];omega) (by exact bi)).mono ?_;rintro e w2 ⟨rfl,hm,hb⟩
     go_wp2
     go_roundw
     case rel=>
      refine⟨j+1,by omega,by go_num,?_,HD.out.below.drew.trans hb⟩;rw[HE.out,if_pos (by decide),<-Hxc.out,<-Hyc.out,<-hTd];rw[qJ];exact hm
     case measure=>simp[intOf];omega
  ·have hjs:j=s.size:=by omega
   have HD:=Ih hD;clear hD
   go_wp2_with fail
   refine(Tryz.Builder_String_any _ _ _ _ HD.out.made (by exact bi)).mono ?_;rintro e w' ⟨rfl,hb⟩
   go_wp2
   go_ret;refine⟨_,rfl,Ih ?_,HD.out.below.trans hb⟩;show Lz.ah _ (l.take s.size)=_;rw[<-kS.out,List.take_length]
end Go.Proofs.YtlcbhacofagedaaGreatDoor
