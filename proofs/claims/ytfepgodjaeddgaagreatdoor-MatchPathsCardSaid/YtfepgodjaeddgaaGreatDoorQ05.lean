/-
  The walks of the predicates on texts in package sources: all, base, scheme. Each returns what its plain function says, and leaves the world as it was.
-/
import Derived.Test.YtfepgodjaeddgaaGreatDoorQ03
import Derived.Test.YtfepgodjaeddgaaGreatDoorQ04
set_option maxRecDepth 100000
namespace Go.Proofs.YtfepgodjaeddgaaGreatDoor
open Go.RowKit
theorem word_any (c:UInt8) (w:World):Calls Tryz.prog 239 #[.int .u8 c.toNat] w fun e w'=>e=.returned (.bool (Lz.isWord c))/\w=w':=by
 have hc:=byte_lt c;have h45:((c.toNat:Int)==45)=(c==45):=by revert c;exact Lz.byte_all (by decide +kernel)
 have H45:=Ih h45;clear h45;unfold Lz.isWord;generalize ha:Lz.isAlpha c=a;generalize hd:Lz.isDigit c=d;have ca:=(Alpha_any c w);have cd:=(Digit_any c w);rw[ha]at ca;rw[hd]at cd;clear ha hd;have Ca:=Ih ca;have Cd:=Ih cd;clear ca cd;cases a<;>cases d<;>
 ·go_enter Tryz.func239,Tryz.ntmps239
  go_wp2_with (first |(go_at_call 140;refine(Ca.out).mono ?_;rintro e w' ⟨rfl,rfl⟩)|(go_at_call 132;refine(Cd.out).mono ?_;rintro e w' ⟨rfl,rfl⟩))
  go_ret;exact⟨by first |rfl|(rw[<-H45.out];rfl),rfl⟩
theorem letter_any (c:UInt8) (w:World):Calls Tryz.prog 238 #[.int .u8 c.toNat] w fun e w'=>e=.returned (.bool (Lz.isLetter c))/\w=w':=by
 have hc:=byte_lt c;have h1:((c.toNat:Int)==43)=(c==43):=by revert c;exact Lz.byte_all (by decide +kernel)
 have h2:((c.toNat:Int)==47)=(c==47):=by revert c;exact Lz.byte_all (by decide +kernel)
 have h3:((c.toNat:Int)==95)=(c==95):=by revert c;exact Lz.byte_all (by decide +kernel)
 unfold Lz.isLetter;rw[<-h1,<-h2,<-h3];generalize ha:Lz.isWord c=a;have ca:=(word_any c w);rw[ha]at ca;clear ha h1 h2 h3;have Ca:=Ih ca;clear ca;generalize hx:((c.toNat:Int)==43)=x;generalize hy:((c.toNat:Int)==47)=y;generalize hz:((c.toNat:Int)==95)=z;cases a<;>cases x<;>cases y<;>
 ·go_enter Tryz.func238,Tryz.ntmps238
  go_wp2_with (go_at_call 239;refine(Ca.out).mono ?_;rintro e w' ⟨rfl,rfl⟩)
  go_ret;exact⟨rfl,rfl⟩
theorem schemed_any (c:UInt8) (w:World):Calls Tryz.prog 208 #[.int .u8 c.toNat] w fun e w'=>e=.returned (.bool (Lz.isSchemed c))/\w=w':=by
 have hc:=byte_lt c;have h1:((c.toNat:Int)==43)=(c==43):=by revert c;exact Lz.byte_all (by decide +kernel)
 have h2:((c.toNat:Int)==46)=(c==46):=by revert c;exact Lz.byte_all (by decide +kernel)
 unfold Lz.isSchemed;rw[<-h1,<-h2];generalize ha:Lz.isWord c=a;have ca:=(word_any c w);rw[ha]at ca;clear ha h1 h2;have Ca:=Ih ca;clear ca;generalize hx:((c.toNat:Int)==43)=x;generalize hy:((c.toNat:Int)==46)=y;cases a<;>cases x<;>
 ·go_enter Tryz.func208,Tryz.ntmps208
  go_wp2_with (go_at_call 239;refine(Ca.out).mono ?_;rintro e w' ⟨rfl,rfl⟩)
  go_ret;exact⟨rfl,rfl⟩
def Pred (k:Nat) (p:UInt8->Bool):Prop:=(∀args w,(callFunc k args).run Tryz.prog w=.ok (.enter k args) w)/\∀c w,Calls Tryz.prog k #[.int .u8 c.toNat] w fun e w'=>e=.returned (.bool (p c))/\w=w'
theorem allB_snoc_false {p:UInt8->Bool} {l:List UInt8} {k:Nat} {c:UInt8} (hc:l[k]? =some c) (h:p c=false):Lz.allB p l=false:=by
 unfold Lz.allB
 have:l.all p=false:=by
  rw[List.all_eq_false];exact⟨c,List.mem_of_getElem? hc,by simp[h]⟩
 rw[this];rfl
theorem all_any {k:Nat} {p:UInt8->Bool} (hp:Pred k p) (s:ByteArray) (hs:s.size<=1073741824) (w:World):Calls Tryz.prog 207 #[.string s,.func (.func k) #[] #[]] w fun e w'=>e=.returned (.bool (Lz.allB p s.data.toList))/\w=w':=by
 obtain⟨heg,hp⟩:=hp;have Hp:=Ih hp;clear hp;go_enter Tryz.func207,Tryz.ntmps207
 go_wp2
 go_loop [8] (fun i=>∃n:Nat,n<=s.size/\i=.int .i64 n/\(∀j c,j<n->s.data.toList[j]? =some c->p c=true)) (fun i=>s.size-(intOf i).toNat)
 case atStart=>exact⟨0,Nat.zero_le _,rfl,fun j c h=>by omega⟩
 case round=>
  obtain⟨n,hn,rfl,hall⟩:=hrel;have Hall:=Ih hall;clear hall;by_cases hlt:n<s.size
  ·have hget:s.data.toList[n]? =some s[n]:=by
    rw[List.getElem?_eq_getElem (by rw[len_of_size];exact hlt)];rfl
   have Hget:=Ih hget;clear hget;generalize hb:p s[n]=b;have Hb:=Ih hb;clear hb
   go_wp2_with fail
   refine(Hp.out _ _).mono ?_;rintro e w' ⟨rfl,rfl⟩;rw[Hb.out];cases b
   ·go_wp2
    go_ret;exact⟨by rw[allB_snoc_false Hget.out Hb.out];rfl,rfl⟩
   ·go_wp2
    go_round
    case rel=>exact⟨n+1,by omega,by go_num,fun j c hj hc=>by
     by_cases hjn:j<n
     ·exact Hall.out j c hjn hc
     ·obtain rfl:j=n:=by omega
      rw[Hget.out]at hc;obtain rfl:=Option.some.inj hc;exact Hb.out⟩
    case measure=>simp[intOf];omega
  ·have hne:s.toList.isEmpty=s.data.toList.isEmpty:=by rw[Lib.toList_data]
   have Hne:=Ih hne;clear hne
   go_wp2
   go_ret;refine⟨?_,rfl⟩
   have h1:s.data.toList.all p=true:=by
    rw[List.all_eq_true];intro c hc;obtain⟨j,hj⟩:=List.getElem?_of_mem hc;exact Hall.out j c (by have:=(List.getElem?_eq_some_iff.1 hj).1;rw[len_of_size]at this;omega) hj
   unfold Lz.allB;rw[h1,<-Hne.out];rfl
theorem seen_any (c:UInt8) (w:World):Calls Tryz.prog 212 #[.int .u8 c.toNat] w fun e w'=>e=.returned (.bool (Lz.isSeen c))/\w=w':=by
 have hc:=byte_lt c;by_cases h1:(32:Int)<c.toNat
 ·by_cases h2:(c.toNat:Int)<127
  ·have hx:Lz.isSeen c= !decide (0<=Lib.indexByte [63,35,59,44,34,60,62,92,94,96,123,124,125] c):=by
    have:=(by decide +kernel:∀n:Fin 256,(32:Int)<((UInt8.ofNat n.val).toNat:Int)->((UInt8.ofNat n.val).toNat:Int)<127->Lz.isSeen (UInt8.ofNat n.val)= !decide (0<=Lib.indexByte [63,35,59,44,34,60,62,92,94,96,123,124,125] (UInt8.ofNat n.val)));have h3:=this ⟨c.toNat,c.toNat_lt⟩;simp only[UInt8.ofNat_toNat]at h3;exact h3 h1 h2
   rw[hx];generalize hb:decide (0<=Lib.indexByte [63,35,59,44,34,60,62,92,94,96,123,124,125] c)=b
   have cr:=(Tryz.strings_ContainsRune_ascii ⟨#[63,35,59,44,34,60,62,92,94,96,123,124,125]⟩ (c.toNat:Int) w (by omega) (by omega)).mono (R':=fun e w'=>e=.returned (.bool b)/\w=w') (by
    rintro e w' ⟨he,hw⟩;refine⟨?_,hw.symm⟩;rw[he,<-hb]
    simp)
   have Cr:=Ih cr;clear cr hx hb;cases b<;>
   ·go_enter Tryz.func212,Tryz.ntmps212
    go_wp2_with fail
    refine(Cr.out).mono ?_;rintro e w' ⟨rfl,rfl⟩
    go_wp2
    go_ret;exact⟨rfl,rfl⟩
  ·have hx:Lz.isSeen c=false:=by
    have:=(by decide +kernel:∀n:Fin 256,¬((UInt8.ofNat n.val).toNat:Int)<127->Lz.isSeen (UInt8.ofNat n.val)=false);have h3:=this ⟨c.toNat,c.toNat_lt⟩;simp only[UInt8.ofNat_toNat]at h3;exact h3 h2
   rw[hx];clear hx;have h2':(127:Int)<=c.toNat:=by omega
   clear h2;go_enter Tryz.func212,Tryz.ntmps212
   go_wp2
   go_ret;exact⟨rfl,rfl⟩
 ·have hx:Lz.isSeen c=false:=by
   have:=(by decide +kernel:∀n:Fin 256,¬(32:Int)<((UInt8.ofNat n.val).toNat:Int)->Lz.isSeen (UInt8.ofNat n.val)=false);have h3:=this ⟨c.toNat,c.toNat_lt⟩;simp only[UInt8.ofNat_toNat]at h3;exact h3 h1
  rw[hx];clear hx;have h1':(c.toNat:Int)<=32:=by omega
  clear h1;go_enter Tryz.func212,Tryz.ntmps212
  go_wp2
  go_ret;exact⟨rfl,rfl⟩
theorem pred_word:Pred 239 Lz.isWord:=⟨fun _ _=>by kernel_rfl,word_any⟩
theorem pred_letter:Pred 238 Lz.isLetter:=⟨fun _ _=>by kernel_rfl,letter_any⟩
theorem pred_schemed:Pred 208 Lz.isSchemed:=⟨fun _ _=>by kernel_rfl,schemed_any⟩
theorem pred_Digit:Pred 132 Lz.isDigit:=⟨fun _ _=>by kernel_rfl,Digit_any⟩
theorem pred_seen:Pred 212 Lz.isSeen:=⟨fun _ _=>by kernel_rfl,seen_any⟩
theorem trimRightB_le (l:List UInt8) (c:UInt8):(Lib.trimRightB l c).length<=l.length:=by
 unfold Lib.trimRightB;rw[List.length_reverse];exact Nat.le_trans (List.dropWhile_sublist _).length_le (by simp)
theorem base_any (s:ByteArray) (hs:s.size<=1073741824) (w:World):Calls Tryz.prog 205 #[.string s] w fun e w'=>e=.returned (.bool (Lz.baseB s.data.toList))/\w=w':=by
 have hle:=trimRightB_le s.data.toList 61;rw[len_of_size]at hle;have ct:=(Tryz.strings_TrimRight_one s 61 (by decide) w (by omega)).mono (R':=fun e w'=>e=.returned (.string ⟨(Lib.trimRightB s.data.toList 61).toArray⟩)/\w=w') (fun _ _ h=>⟨h.1,h.2.symm⟩)
 have hb:Lz.baseB s.data.toList=(decide (s.size-(Lib.trimRightB s.data.toList 61).length<=2)&&Lz.allB Lz.isLetter (Lib.trimRightB s.data.toList 61)):=by
  unfold Lz.baseB;rw[len_of_size]
 rw[hb];clear hb;generalize ht:Lib.trimRightB s.data.toList 61=t at ct hle⊢;clear ht;obtain⟨u,hu⟩:∃u:ByteArray,u=⟨t.toArray⟩:=⟨_,rfl⟩;have hut:t=u.data.toList:=by rw[hu]
 rw[<-hu]at ct;rw[hut];rw[hut,len_of_size]at hle;rw[len_of_size];clear hu hut;have Ct:=Ih ct;clear ct;have ca:=Ih (all_any pred_letter u (by omega) w);by_cases h2:(s.size:Int)-u.size<=2
 ·rw[decide_eq_true (by omega)];generalize Lz.allB Lz.isLetter u.data.toList=b at ca⊢;go_enter Tryz.func205,Tryz.ntmps205
  go_wp2_with fail
  refine(Ct.out).mono ?_;rintro e w' ⟨rfl,rfl⟩
  go_wp2_with fail
  refine(ca.out).mono ?_;rintro e w' ⟨rfl,rfl⟩
  go_wp2
  go_ret;exact⟨rfl,rfl⟩
 ·rw[decide_eq_false (by omega)];have h2':(2:Int)<(s.size:Int)-u.size:=by omega
  clear h2;go_enter Tryz.func205,Tryz.ntmps205
  go_wp2_with fail
  refine(Ct.out).mono ?_;rintro e w' ⟨rfl,rfl⟩
  go_wp2
  go_ret;exact⟨rfl,rfl⟩
end Go.Proofs.YtfepgodjaeddgaaGreatDoor
