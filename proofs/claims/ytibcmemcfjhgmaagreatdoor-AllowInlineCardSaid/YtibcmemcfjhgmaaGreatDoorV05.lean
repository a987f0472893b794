/-
  The walks of the predicates on texts in package sources: all, base, scheme. Each returns what its plain function says, and leaves the world as it was.
-/
import Derived.Test.YtibcmemcfjhgmaaGreatDoorV03
import Derived.Test.YtibcmemcfjhgmaaGreatDoorV04
set_option maxRecDepth 100000
namespace Go.Proofs.YtibcmemcfjhgmaaGreatDoor
open Go.RowKit
theorem vJ (c:UInt8) (w:World):Calls Tryz.prog 255 #[.int .u8 c.toNat] w fun e w'=>e=.returned (.bool (Lz.fI c))/\w=w':=by
 have hc:=ff c;have TN:((c.toNat:Int)==45)=(c==45):=by revert c;exact Lz.aA (by decide +kernel)
 have H45:=Ih TN;clear TN;unfold Lz.fI;generalize ha:Lz.bn c=a;generalize hd:Lz.aQ c=d;have ca:=(li c w);have cd:=(kX c w);rw[ha]at ca;rw[hd]at cd;clear ha hd;have Ca:=Ih ca;have Cd:=Ih cd;clear ca cd;cases a<;>cases d<;>
 ·go_enter Tryz.func255,Tryz.ntmps255
  go_wp2_with (first |(go_at_call 173;refine(Ca.out).mono ?_;rintro e w' ⟨rfl,rfl⟩)|(go_at_call 174;refine(Cd.out).mono ?_;rintro e w' ⟨rfl,rfl⟩))
  go_ret;exact⟨by first |rfl|(rw[<-H45.out];rfl),rfl⟩
theorem Ea (c:UInt8) (w:World):Calls Tryz.prog 253 #[.int .u8 c.toNat] w fun e w'=>e=.returned (.bool (Lz.ea c))/\w=w':=by
 have hc:=ff c;have h1:((c.toNat:Int)==43)=(c==43):=by revert c;exact Lz.aA (by decide +kernel)
 have h2:((c.toNat:Int)==47)=(c==47):=by revert c;exact Lz.aA (by decide +kernel)
 have h3:((c.toNat:Int)==95)=(c==95):=by revert c;exact Lz.aA (by decide +kernel)
 unfold Lz.ea;rw[<-h1,<-h2,<-h3];generalize ha:Lz.fI c=a;have ca:=(vJ c w);rw[ha]at ca;clear ha h1 h2 h3;have Ca:=Ih ca;clear ca;generalize hx:((c.toNat:Int)==43)=x;generalize hy:((c.toNat:Int)==47)=y;generalize hz:((c.toNat:Int)==95)=z;cases a<;>cases x<;>cases y<;>
 ·go_enter Tryz.func253,Tryz.ntmps253
  go_wp2_with (go_at_call 255;refine(Ca.out).mono ?_;rintro e w' ⟨rfl,rfl⟩)
  go_ret;exact⟨rfl,rfl⟩
theorem De (c:UInt8) (w:World):Calls Tryz.prog 212 #[.int .u8 c.toNat] w fun e w'=>e=.returned (.bool (Lz.eG c))/\w=w':=by
 have hc:=ff c;have h1:((c.toNat:Int)==43)=(c==43):=by revert c;exact Lz.aA (by decide +kernel)
 have h2:((c.toNat:Int)==46)=(c==46):=by revert c;exact Lz.aA (by decide +kernel)
 unfold Lz.eG;rw[<-h1,<-h2];generalize ha:Lz.fI c=a;have ca:=(vJ c w);rw[ha]at ca;clear ha h1 h2;have Ca:=Ih ca;clear ca;generalize hx:((c.toNat:Int)==43)=x;generalize hy:((c.toNat:Int)==46)=y;cases a<;>cases x<;>
 ·go_enter Tryz.func212,Tryz.ntmps212
  go_wp2_with (go_at_call 255;refine(Ca.out).mono ?_;rintro e w' ⟨rfl,rfl⟩)
  go_ret;exact⟨rfl,rfl⟩
def Kd (k:Nat) (p:UInt8->Bool):Prop:=(∀args w,(callFunc k args).run Tryz.prog w=.ok (.enter k args) w)/\∀c w,Calls Tryz.prog k #[.int .u8 c.toNat] w fun e w'=>e=.returned (.bool (p c))/\w=w'
theorem sV {p:UInt8->Bool} {l:List UInt8} {k:Nat} {c:UInt8} (hc:l[k]? =some c) (h:p c=false):Lz.dj p l=false:=by
 unfold Lz.dj
 have:l.all p=false:=by
  rw[List.all_eq_false];exact⟨c,List.mem_of_getElem? hc,by simp[h]⟩
 rw[this];rfl
theorem pV {k:Nat} {p:UInt8->Bool} (hp:Kd k p) (s:ByteArray) (hs:s.size<=1073741824) (w:World):Calls Tryz.prog 211 #[.string s,.func (.func k) #[] #[]] w fun e w'=>e=.returned (.bool (Lz.dj p s.data.toList))/\w=w':=by
 obtain⟨heg,hp⟩:=hp;have Hp:=Ih hp;clear hp;go_enter Tryz.func211,Tryz.ntmps211
 go_wp2
 go_loop [8] (fun i=>∃n:Nat,n<=s.size/\i=.int .i64 n/\(∀j c,j<n->s.data.toList[j]? =some c->p c=true)) (fun i=>s.size-(intOf i).toNat)
 case atStart=>exact⟨0,Nat.zero_le _,rfl,fun j c h=>by omega⟩
 case round=>
  obtain⟨n,hn,rfl,dY⟩:=hrel;have gi:=Ih dY;clear dY;by_cases aL:n<s.size
  ·have KT:s.data.toList[n]? =some s[n]:=by
    rw[List.getElem?_eq_getElem (by rw[ac];exact aL)];rfl
   have np:=Ih KT;clear KT;generalize hb:p s[n]=b;have Hb:=Ih hb;clear hb
   go_wp2_with fail
   refine(Hp.out _ _).mono ?_;rintro e w' ⟨rfl,rfl⟩;rw[Hb.out];cases b
   ·go_wp2
    go_ret;exact⟨by rw[sV np.out Hb.out];rfl,rfl⟩
   ·go_wp2
    go_round
    case rel=>exact⟨n+1,by omega,by go_num,fun j c hj hc=>by
     by_cases xA:j<n
     ·exact gi.out j c xA hc
     ·obtain rfl:j=n:=by omega
      rw[np.out]at hc;obtain rfl:=Option.some.inj hc;exact Hb.out⟩
    case measure=>simp[intOf];omega
  ·have du:s.toList.isEmpty=s.data.toList.isEmpty:=by rw[Lib.toList_data]
   have Hne:=Ih du;clear du
   go_wp2
   go_ret;refine⟨?_,rfl⟩
   have h1:s.data.toList.all p=true:=by
    rw[List.all_eq_true];intro c hc;obtain⟨j,hj⟩:=List.getElem?_of_mem hc;exact gi.out j c (by have:=(List.getElem?_eq_some_iff.1 hj).1;rw[ac]at this;omega) hj
   unfold Lz.dj;rw[h1,<-Hne.out];rfl
theorem LW (c:UInt8) (w:World):Calls Tryz.prog 216 #[.int .u8 c.toNat] w fun e w'=>e=.returned (.bool (Lz.dr c))/\w=w':=by
 have hc:=ff c;by_cases h1:(32:Int)<c.toNat
 ·by_cases h2:(c.toNat:Int)<127
  ·have hx:Lz.dr c= !decide (0<=Lib.indexByte [63,35,59,44,34,60,62,92,94,96,123,124,125] c):=by
    have:=(by decide +kernel:∀n:Fin 256,(32:Int)<((UInt8.ofNat n.val).toNat:Int)->((UInt8.ofNat n.val).toNat:Int)<127->Lz.dr (UInt8.ofNat n.val)= !decide (0<=Lib.indexByte [63,35,59,44,34,60,62,92,94,96,123,124,125] (UInt8.ofNat n.val)));have h3:=this ⟨c.toNat,c.toNat_lt⟩;simp only[UInt8.ofNat_toNat]at h3;exact h3 h1 h2
   rw[hx];generalize hb:decide (0<=Lib.indexByte [63,35,59,44,34,60,62,92,94,96,123,124,125] c)=b
   have cr:=(Tryz.strings_ContainsRune_ascii ⟨#[63,35,59,44,34,60,62,92,94,96,123,124,125]⟩ (c.toNat:Int) w (by omega) (by omega)).mono (R':=fun e w'=>e=.returned (.bool b)/\w=w') (by
    rintro e w' ⟨he,hw⟩;refine⟨?_,hw.symm⟩;rw[he,<-hb]
    simp)
   have Cr:=Ih cr;clear cr hx hb;cases b<;>
   ·go_enter Tryz.func216,Tryz.ntmps216
    go_wp2_with fail
    refine(Cr.out).mono ?_;rintro e w' ⟨rfl,rfl⟩
    go_wp2
    go_ret;exact⟨rfl,rfl⟩
  ·have hx:Lz.dr c=false:=by
    have:=(by decide +kernel:∀n:Fin 256,¬((UInt8.ofNat n.val).toNat:Int)<127->Lz.dr (UInt8.ofNat n.val)=false);have h3:=this ⟨c.toNat,c.toNat_lt⟩;simp only[UInt8.ofNat_toNat]at h3;exact h3 h2
   rw[hx];clear hx;have GG:(127:Int)<=c.toNat:=by omega
   clear h2;go_enter Tryz.func216,Tryz.ntmps216
   go_wp2
   go_ret;exact⟨rfl,rfl⟩
 ·have hx:Lz.dr c=false:=by
   have:=(by decide +kernel:∀n:Fin 256,¬(32:Int)<((UInt8.ofNat n.val).toNat:Int)->Lz.dr (UInt8.ofNat n.val)=false);have h3:=this ⟨c.toNat,c.toNat_lt⟩;simp only[UInt8.ofNat_toNat]at h3;exact h3 h1
  rw[hx];clear hx;have Lp:(c.toNat:Int)<=32:=by omega
  clear h1;go_enter Tryz.func216,Tryz.ntmps216
  go_wp2
  go_ret;exact⟨rfl,rfl⟩
theorem KF:Kd 255 Lz.fI:=⟨fun _ _=>by kernel_rfl,vJ⟩
theorem Bv:Kd 253 Lz.ea:=⟨fun _ _=>by kernel_rfl,Ea⟩
theorem zf:Kd 212 Lz.eG:=⟨fun _ _=>by kernel_rfl,De⟩
theorem Eb:Kd 174 Lz.aQ:=⟨fun _ _=>by kernel_rfl,kX⟩
theorem I7:Kd 216 Lz.dr:=⟨fun _ _=>by kernel_rfl,LW⟩
theorem wT (l:List UInt8) (c:UInt8):(Lib.trimRightB l c).length<=l.length:=by
 unfold Lib.trimRightB;rw[List.length_reverse];exact Nat.le_trans (List.dropWhile_sublist _).length_le (by simp)
theorem BL (s:ByteArray) (hs:s.size<=1073741824) (w:World):Calls Tryz.prog 209 #[.string s] w fun e w'=>e=.returned (.bool (Lz.dF s.data.toList))/\w=w':=by
 have oh:=wT s.data.toList 61;rw[ac]at oh;have ct:=(Tryz.strings_TrimRight_one s 61 (by decide) w (by omega)).mono (R':=fun e w'=>e=.returned (.string ⟨(Lib.trimRightB s.data.toList 61).toArray⟩)/\w=w') (fun _ _ h=>⟨h.1,h.2.symm⟩)
 have hb:Lz.dF s.data.toList=(decide (s.size-(Lib.trimRightB s.data.toList 61).length<=2)&&Lz.dj Lz.ea (Lib.trimRightB s.data.toList 61)):=by
  unfold Lz.dF;rw[ac]
 rw[hb];clear hb;generalize ht:Lib.trimRightB s.data.toList 61=t at ct oh⊢;clear ht;obtain⟨u,hu⟩:∃u:ByteArray,u=⟨t.toArray⟩:=⟨_,rfl⟩;have hut:t=u.data.toList:=by rw[hu]
 rw[<-hu]at ct;rw[hut];rw[hut,ac]at oh;rw[ac];clear hu hut;have Ct:=Ih ct;clear ct;have ca:=Ih (pV Bv u (by omega) w);by_cases h2:(s.size:Int)-u.size<=2
 ·rw[decide_eq_true (by omega)];generalize Lz.dj Lz.ea u.data.toList=b at ca⊢;go_enter Tryz.func209,Tryz.ntmps209
  go_wp2_with fail
  refine(Ct.out).mono ?_;rintro e w' ⟨rfl,rfl⟩
  go_wp2_with fail
  refine(ca.out).mono ?_;rintro e w' ⟨rfl,rfl⟩
  go_wp2
  go_ret;exact⟨rfl,rfl⟩
 ·rw[decide_eq_false (by omega)];have GG:(2:Int)<(s.size:Int)-u.size:=by omega
  clear h2;go_enter Tryz.func209,Tryz.ntmps209
  go_wp2_with fail
  refine(Ct.out).mono ?_;rintro e w' ⟨rfl,rfl⟩
  go_wp2
  go_ret;exact⟨rfl,rfl⟩
end Go.Proofs.YtibcmemcfjhgmaaGreatDoor
