/-
  The walks of the predicates on texts in package sources: all, base, scheme. Each returns what its plain function says, and leaves the world as it was.
-/
import Derived.Test.YtlcbhacofagedaaGreatDoorY03
import Derived.Test.YtlcbhacofagedaaGreatDoorY04
set_option maxRecDepth 100000
namespace Go.Proofs.YtlcbhacofagedaaGreatDoor
open Go.RowKit
theorem uf (c:UInt8) (w:World):Calls Tryz.prog 196 #[.int .u8 c.toNat] w fun e w'=>e=.returned (.bool (Lz.fC c))/\w=w':=by
 have hc:=d9 c;have Sn:((c.toNat:Int)==45)=(c==45):=by revert c;exact Lz.au (by decide +kernel)
 have H45:=Ih Sn;clear Sn;unfold Lz.fC;generalize ha:Lz.aW c=a;generalize hd:Lz.aA c=d;have ca:=(kz c w);have cd:=(kK c w);rw[ha]at ca;rw[hd]at cd;clear ha hd;have Ca:=Ih ca;have Cd:=Ih cd;clear ca cd;cases a<;>cases d<;>
 ·go_enter Tryz.func196,Tryz.ntmps196
  go_wp2_with (first |(go_at_call 146;refine(Ca.out).mono ?_;rintro e w' ⟨rfl,rfl⟩)|(go_at_call 169;refine(Cd.out).mono ?_;rintro e w' ⟨rfl,rfl⟩))
  go_ret;exact⟨by first |rfl|(rw[<-H45.out];rfl),rfl⟩
theorem EV (c:UInt8) (w:World):Calls Tryz.prog 195 #[.int .u8 c.toNat] w fun e w'=>e=.returned (.bool (Lz.jz c))/\w=w':=by
 have hc:=d9 c;have h1:((c.toNat:Int)==43)=(c==43):=by revert c;exact Lz.au (by decide +kernel)
 have h2:((c.toNat:Int)==47)=(c==47):=by revert c;exact Lz.au (by decide +kernel)
 have h3:((c.toNat:Int)==95)=(c==95):=by revert c;exact Lz.au (by decide +kernel)
 unfold Lz.jz;rw[<-h1,<-h2,<-h3];generalize ha:Lz.fC c=a;have ca:=(uf c w);rw[ha]at ca;clear ha h1 h2 h3;have Ca:=Ih ca;clear ca;generalize hx:((c.toNat:Int)==43)=x;generalize hy:((c.toNat:Int)==47)=y;generalize hz:((c.toNat:Int)==95)=z;cases a<;>cases x<;>cases y<;>
 ·go_enter Tryz.func195,Tryz.ntmps195
  go_wp2_with (go_at_call 196;refine(Ca.out).mono ?_;rintro e w' ⟨rfl,rfl⟩)
  go_ret;exact⟨rfl,rfl⟩
theorem Ck (c:UInt8) (w:World):Calls Tryz.prog 148 #[.int .u8 c.toNat] w fun e w'=>e=.returned (.bool (Lz.eH c))/\w=w':=by
 have hc:=d9 c;have h1:((c.toNat:Int)==43)=(c==43):=by revert c;exact Lz.au (by decide +kernel)
 have h2:((c.toNat:Int)==46)=(c==46):=by revert c;exact Lz.au (by decide +kernel)
 unfold Lz.eH;rw[<-h1,<-h2];generalize ha:Lz.fC c=a;have ca:=(uf c w);rw[ha]at ca;clear ha h1 h2;have Ca:=Ih ca;clear ca;generalize hx:((c.toNat:Int)==43)=x;generalize hy:((c.toNat:Int)==46)=y;cases a<;>cases x<;>
 ·go_enter Tryz.func148,Tryz.ntmps148
  go_wp2_with (go_at_call 196;refine(Ca.out).mono ?_;rintro e w' ⟨rfl,rfl⟩)
  go_ret;exact⟨rfl,rfl⟩
def JH (k:Nat) (p:UInt8->Bool):Prop:=(∀args w,(callFunc k args).run Tryz.prog w=.ok (.enter k args) w)/\∀c w,Calls Tryz.prog k #[.int .u8 c.toNat] w fun e w'=>e=.returned (.bool (p c))/\w=w'
theorem sQ {p:UInt8->Bool} {l:List UInt8} {k:Nat} {c:UInt8} (hc:l[k]? =some c) (h:p c=false):Lz.dj p l=false:=by
 unfold Lz.dj
 have:l.all p=false:=by
  rw[List.all_eq_false];exact⟨c,List.mem_of_getElem? hc,by simp[h]⟩
 rw[this];rfl
theorem py {k:Nat} {p:UInt8->Bool} (hp:JH k p) (s:ByteArray) (hs:s.size<=1073741824) (w:World):Calls Tryz.prog 147 #[.string s,.func (.func k) #[] #[]] w fun e w'=>e=.returned (.bool (Lz.dj p s.data.toList))/\w=w':=by
 obtain⟨heg,hp⟩:=hp;have Hp:=Ih hp;clear hp;go_enter Tryz.func147,Tryz.ntmps147
 go_wp2
 go_loop [8] (fun i=>∃n:Nat,n<=s.size/\i=.int .i64 n/\(∀j c,j<n->s.data.toList[j]? =some c->p c=true)) (fun i=>s.size-(intOf i).toNat)
 case atStart=>exact⟨0,Nat.zero_le _,rfl,fun j c h=>by omega⟩
 case round=>
  obtain⟨n,hn,rfl,ey⟩:=hrel;have fZ:=Ih ey;clear ey;by_cases aN:n<s.size
  ·have KK:s.data.toList[n]? =some s[n]:=by
    rw[List.getElem?_eq_getElem (by rw[aa];exact aN)];rfl
   have nh:=Ih KK;clear KK;generalize hb:p s[n]=b;have Hb:=Ih hb;clear hb
   go_wp2_with fail
   refine(Hp.out _ _).mono ?_;rintro e w' ⟨rfl,rfl⟩;rw[Hb.out];cases b
   ·go_wp2
    go_ret;exact⟨by rw[sQ nh.out Hb.out];rfl,rfl⟩
   ·go_wp2
    go_round
    case rel=>exact⟨n+1,by omega,by go_num,fun j c hj hc=>by
     by_cases sC:j<n
     ·exact fZ.out j c sC hc
     ·obtain rfl:j=n:=by omega
      rw[nh.out]at hc;obtain rfl:=Option.some.inj hc;exact Hb.out⟩
    case measure=>simp[intOf];omega
  ·have dG:s.toList.isEmpty=s.data.toList.isEmpty:=by rw[Lib.toList_data]
   have Lg:=Ih dG;clear dG
   go_wp2
   go_ret;refine⟨?_,rfl⟩
   have h1:s.data.toList.all p=true:=by
    rw[List.all_eq_true];intro c hc;obtain⟨j,hj⟩:=List.getElem?_of_mem hc;exact fZ.out j c (by have:=(List.getElem?_eq_some_iff.1 hj).1;rw[aa]at this;omega) hj
   unfold Lz.dj;rw[h1,<-Lg.out];rfl
theorem L7 (c:UInt8) (w:World):Calls Tryz.prog 152 #[.int .u8 c.toNat] w fun e w'=>e=.returned (.bool (Lz.dA c))/\w=w':=by
 have hc:=d9 c;by_cases h1:(32:Int)<c.toNat
 ·by_cases h2:(c.toNat:Int)<127
  ·have hx:Lz.dA c= !decide (0<=Lib.indexByte [63,35,59,44,34,60,62,92,94,96,123,124,125] c):=by
    have:=(by decide +kernel:∀n:Fin 256,(32:Int)<((UInt8.ofNat n.val).toNat:Int)->((UInt8.ofNat n.val).toNat:Int)<127->Lz.dA (UInt8.ofNat n.val)= !decide (0<=Lib.indexByte [63,35,59,44,34,60,62,92,94,96,123,124,125] (UInt8.ofNat n.val)));have h3:=this ⟨c.toNat,c.toNat_lt⟩;simp only[UInt8.ofNat_toNat]at h3;exact h3 h1 h2
   rw[hx];generalize hb:decide (0<=Lib.indexByte [63,35,59,44,34,60,62,92,94,96,123,124,125] c)=b
   have cr:=(Tryz.strings_ContainsRune_ascii ⟨#[63,35,59,44,34,60,62,92,94,96,123,124,125]⟩ (c.toNat:Int) w (by omega) (by omega)).mono (R':=fun e w'=>e=.returned (.bool b)/\w=w') (by
    rintro e w' ⟨he,hw⟩;refine⟨?_,hw.symm⟩;rw[he,<-hb]
    simp)
   have Cr:=Ih cr;clear cr hx hb;cases b<;>
   ·go_enter Tryz.func152,Tryz.ntmps152
    go_wp2_with fail
    refine(Cr.out).mono ?_;rintro e w' ⟨rfl,rfl⟩
    go_wp2
    go_ret;exact⟨rfl,rfl⟩
  ·have hx:Lz.dA c=false:=by
    have:=(by decide +kernel:∀n:Fin 256,¬((UInt8.ofNat n.val).toNat:Int)<127->Lz.dA (UInt8.ofNat n.val)=false);have h3:=this ⟨c.toNat,c.toNat_lt⟩;simp only[UInt8.ofNat_toNat]at h3;exact h3 h2
   rw[hx];clear hx;have F6:(127:Int)<=c.toNat:=by omega
   clear h2;go_enter Tryz.func152,Tryz.ntmps152
   go_wp2
   go_ret;exact⟨rfl,rfl⟩
 ·have hx:Lz.dA c=false:=by
   have:=(by decide +kernel:∀n:Fin 256,¬(32:Int)<((UInt8.ofNat n.val).toNat:Int)->Lz.dA (UInt8.ofNat n.val)=false);have h3:=this ⟨c.toNat,c.toNat_lt⟩;simp only[UInt8.ofNat_toNat]at h3;exact h3 h1
  rw[hx];clear hx;have An:(c.toNat:Int)<=32:=by omega
  clear h1;go_enter Tryz.func152,Tryz.ntmps152
  go_wp2
  go_ret;exact⟨rfl,rfl⟩
theorem ID:JH 196 Lz.fC:=⟨fun _ _=>by kernel_rfl,uf⟩
theorem Dg:JH 195 Lz.jz:=⟨fun _ _=>by kernel_rfl,EV⟩
theorem zm:JH 148 Lz.eH:=⟨fun _ _=>by kernel_rfl,Ck⟩
theorem DY:JH 169 Lz.aA:=⟨fun _ _=>by kernel_rfl,kK⟩
theorem Jx:JH 152 Lz.dA:=⟨fun _ _=>by kernel_rfl,L7⟩
theorem wu (l:List UInt8) (c:UInt8):(Lib.trimRightB l c).length<=l.length:=by
 unfold Lib.trimRightB;rw[List.length_reverse];exact Nat.le_trans (List.dropWhile_sublist _).length_le (by simp)
theorem BH (s:ByteArray) (hs:s.size<=1073741824) (w:World):Calls Tryz.prog 144 #[.string s] w fun e w'=>e=.returned (.bool (Lz.eO s.data.toList))/\w=w':=by
 have ow:=wu s.data.toList 61;rw[aa]at ow;have ct:=(Tryz.strings_TrimRight_one s 61 (by decide) w (by omega)).mono (R':=fun e w'=>e=.returned (.string ⟨(Lib.trimRightB s.data.toList 61).toArray⟩)/\w=w') (fun _ _ h=>⟨h.1,h.2.symm⟩)
 have hb:Lz.eO s.data.toList=(decide (s.size-(Lib.trimRightB s.data.toList 61).length<=2)&&Lz.dj Lz.jz (Lib.trimRightB s.data.toList 61)):=by
  unfold Lz.eO;rw[aa]
 rw[hb];clear hb;generalize ht:Lib.trimRightB s.data.toList 61=t at ct ow⊢;clear ht;obtain⟨u,hu⟩:∃u:ByteArray,u=⟨t.toArray⟩:=⟨_,rfl⟩;have hut:t=u.data.toList:=by rw[hu]
 rw[<-hu]at ct;rw[hut];rw[hut,aa]at ow;rw[aa];clear hu hut;have Ct:=Ih ct;clear ct;have ca:=Ih (py Dg u (by omega) w);by_cases h2:(s.size:Int)-u.size<=2
 ·rw[decide_eq_true (by omega)];generalize Lz.dj Lz.jz u.data.toList=b at ca⊢;go_enter Tryz.func144,Tryz.ntmps144
  go_wp2_with fail
  refine(Ct.out).mono ?_;rintro e w' ⟨rfl,rfl⟩
  go_wp2_with fail
  refine(ca.out).mono ?_;rintro e w' ⟨rfl,rfl⟩
  go_wp2
  go_ret;exact⟨rfl,rfl⟩
 ·rw[decide_eq_false (by omega)];have F6:(2:Int)<(s.size:Int)-u.size:=by omega
  clear h2;go_enter Tryz.func144,Tryz.ntmps144
  go_wp2_with fail
  refine(Ct.out).mono ?_;rintro e w' ⟨rfl,rfl⟩
  go_wp2
  go_ret;exact⟨rfl,rfl⟩
end Go.Proofs.YtlcbhacofagedaaGreatDoor
