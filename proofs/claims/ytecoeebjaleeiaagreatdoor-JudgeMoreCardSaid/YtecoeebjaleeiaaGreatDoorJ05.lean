/-
  The walk of sources.scheme; what the library's functions that package sources calls return, in one form; the condition on the world (Env) that they ask.
-/
import Derived.Test.YtecoeebjaleeiaaGreatDoorJ03
import Derived.Test.YtecoeebjaleeiaaGreatDoorJ04
set_option maxRecDepth 100000
namespace Go.Proofs.YtecoeebjaleeiaaGreatDoor
open Go.RowKit
theorem xh (c:UInt8) (w:World):Calls Tryz.prog 256 #[.int .u8 c.toNat] w fun e w'=>e=.returned (.bool (Lz.jX c))/\w=w':=by
 have hc:=jz c;have h45:((c.toNat:Int)==45)=(c==45):=by revert c;exact Lz.aJ (by decide +kernel)
 have H45:=Ih h45;clear h45;unfold Lz.jX;generalize ha:Lz.bG c=a;generalize hd:Lz.bj c=d;have ca:=(lY c w);have cd:=(mb c w);rw[ha]at ca;rw[hd]at cd;clear ha hd;have Ca:=Ih ca;have Cd:=Ih cd;clear ca cd;cases a<;>cases d<;>
 ·go_enter Tryz.func256,Tryz.ntmps256
  go_wp2_with (first |(go_at_call 89;refine(Ca.out).mono ?_;rintro e w' ⟨rfl,rfl⟩)|(go_at_call 90;refine(Cd.out).mono ?_;rintro e w' ⟨rfl,rfl⟩))
  go_ret;exact⟨by first |rfl|(rw[<-H45.out];rfl),rfl⟩
theorem FP (c:UInt8) (w:World):Calls Tryz.prog 254 #[.int .u8 c.toNat] w fun e w'=>e=.returned (.bool (Lz.mB c))/\w=w':=by
 have hc:=jz c;have h1:((c.toNat:Int)==43)=(c==43):=by revert c;exact Lz.aJ (by decide +kernel)
 have h2:((c.toNat:Int)==47)=(c==47):=by revert c;exact Lz.aJ (by decide +kernel)
 have h3:((c.toNat:Int)==95)=(c==95):=by revert c;exact Lz.aJ (by decide +kernel)
 unfold Lz.mB;rw[<-h1,<-h2,<-h3];generalize ha:Lz.jX c=a;have ca:=(xh c w);rw[ha]at ca;clear ha h1 h2 h3;have Ca:=Ih ca;clear ca;generalize hx:((c.toNat:Int)==43)=x;generalize hy:((c.toNat:Int)==47)=y;generalize hz:((c.toNat:Int)==95)=z;cases a<;>cases x<;>cases y<;>
 ·go_enter Tryz.func254,Tryz.ntmps254
  go_wp2_with (go_at_call 256;refine(Ca.out).mono ?_;rintro e w' ⟨rfl,rfl⟩)
  go_ret;exact⟨rfl,rfl⟩
theorem CQ (c:UInt8) (w:World):Calls Tryz.prog 216 #[.int .u8 c.toNat] w fun e w'=>e=.returned (.bool (Lz.iw c))/\w=w':=by
 have hc:=jz c;have h1:((c.toNat:Int)==43)=(c==43):=by revert c;exact Lz.aJ (by decide +kernel)
 have h2:((c.toNat:Int)==46)=(c==46):=by revert c;exact Lz.aJ (by decide +kernel)
 unfold Lz.iw;rw[<-h1,<-h2];generalize ha:Lz.jX c=a;have ca:=(xh c w);rw[ha]at ca;clear ha h1 h2;have Ca:=Ih ca;clear ca;generalize hx:((c.toNat:Int)==43)=x;generalize hy:((c.toNat:Int)==46)=y;cases a<;>cases x<;>
 ·go_enter Tryz.func216,Tryz.ntmps216
  go_wp2_with (go_at_call 256;refine(Ca.out).mono ?_;rintro e w' ⟨rfl,rfl⟩)
  go_ret;exact⟨rfl,rfl⟩
def JS (k:Nat) (p:UInt8->Bool):Prop:=(∀args w,(callFunc k args).run Tryz.prog w=.ok (.enter k args) w)/\∀c w,Calls Tryz.prog k #[.int .u8 c.toNat] w fun e w'=>e=.returned (.bool (p c))/\w=w'
theorem vl {p:UInt8->Bool} {l:List UInt8} {k:Nat} {c:UInt8} (hc:l[k]? =some c) (h:p c=false):Lz.gR p l=false:=by
 unfold Lz.gR
 have:l.all p=false:=by
  rw[List.all_eq_false];exact⟨c,List.mem_of_getElem? hc,by simp[h]⟩
 rw[this];rfl
theorem rR {k:Nat} {p:UInt8->Bool} (hp:JS k p) (s:ByteArray) (hs:s.size<=1073741824) (w:World):Calls Tryz.prog 215 #[.string s,.func (.func k) #[] #[]] w fun e w'=>e=.returned (.bool (Lz.gR p s.data.toList))/\w=w':=by
 obtain⟨heg,hp⟩:=hp;have Hp:=Ih hp;clear hp;go_enter Tryz.func215,Tryz.ntmps215
 go_wp2
 go_loop [8] (fun i=>∃n:Nat,n<=s.size/\i=.int .i64 n/\(∀j c,j<n->s.data.toList[j]? =some c->p c=true)) (fun i=>s.size-(intOf i).toNat)
 case atStart=>exact⟨0,Nat.zero_le _,rfl,fun j c h=>by omega⟩
 case round=>
  obtain⟨n,hn,rfl,fq⟩:=hrel;have ll:=Ih fq;clear fq;by_cases aV:n<s.size
  ·have LW:s.data.toList[n]? =some s[n]:=by
    rw[List.getElem?_eq_getElem (by rw[aa];exact aV)];rfl
   have Z4:=Ih LW;clear LW;generalize hb:p s[n]=b;have Hb:=Ih hb;clear hb
   go_wp2_with fail
   refine(Hp.out _ _).mono ?_;rintro e w' ⟨rfl,rfl⟩;rw[Hb.out];cases b
   ·go_wp2
    go_ret;exact⟨by rw[vl Z4.out Hb.out];rfl,rfl⟩
   ·go_wp2
    go_round
    case rel=>exact⟨n+1,by omega,by go_num,fun j c hj hc=>by
     by_cases Fx:j<n
     ·exact ll.out j c Fx hc
     ·obtain rfl:j=n:=by omega
      rw[Z4.out]at hc;obtain rfl:=Option.some.inj hc;exact Hb.out⟩
    case measure=>simp[intOf];omega
  ·have ed:s.toList.isEmpty=s.data.toList.isEmpty:=by rw[Lib.toList_data]
   have Tz:=Ih ed;clear ed
   go_wp2
   go_ret;refine⟨?_,rfl⟩
   have h1:s.data.toList.all p=true:=by
    rw[List.all_eq_true];intro c hc;obtain⟨j,hj⟩:=List.getElem?_of_mem hc;exact ll.out j c (by have:=(List.getElem?_eq_some_iff.1 hj).1;rw[aa]at this;omega) hj
   unfold Lz.gR;rw[h1,<-Tz.out];rfl
theorem No (c:UInt8) (w:World):Calls Tryz.prog 220 #[.int .u8 c.toNat] w fun e w'=>e=.returned (.bool (Lz.ib c))/\w=w':=by
 have hc:=jz c;by_cases h1:(32:Int)<c.toNat
 ·by_cases h2:(c.toNat:Int)<127
  ·have hx:Lz.ib c= !decide (0<=Lib.indexByte [63,35,59,44,34,60,62,92,94,96,123,124,125] c):=by
    have:=(by decide +kernel:∀n:Fin 256,(32:Int)<((UInt8.ofNat n.val).toNat:Int)->((UInt8.ofNat n.val).toNat:Int)<127->Lz.ib (UInt8.ofNat n.val)= !decide (0<=Lib.indexByte [63,35,59,44,34,60,62,92,94,96,123,124,125] (UInt8.ofNat n.val)));have h3:=this ⟨c.toNat,c.toNat_lt⟩;simp only[UInt8.ofNat_toNat]at h3;exact h3 h1 h2
   rw[hx];generalize hb:decide (0<=Lib.indexByte [63,35,59,44,34,60,62,92,94,96,123,124,125] c)=b
   have cr:=(Tryz.strings_ContainsRune_ascii ⟨#[63,35,59,44,34,60,62,92,94,96,123,124,125]⟩ (c.toNat:Int) w (by omega) (by omega)).mono (R':=fun e w'=>e=.returned (.bool b)/\w=w') (by
    rintro e w' ⟨he,hw⟩;refine⟨?_,hw.symm⟩;rw[he,<-hb]
    simp)
   have Cr:=Ih cr;clear cr hx hb;cases b<;>
   ·go_enter Tryz.func220,Tryz.ntmps220
    go_wp2_with fail
    refine(Cr.out).mono ?_;rintro e w' ⟨rfl,rfl⟩
    go_wp2
    go_ret;exact⟨rfl,rfl⟩
  ·have hx:Lz.ib c=false:=by
    have:=(by decide +kernel:∀n:Fin 256,¬((UInt8.ofNat n.val).toNat:Int)<127->Lz.ib (UInt8.ofNat n.val)=false);have h3:=this ⟨c.toNat,c.toNat_lt⟩;simp only[UInt8.ofNat_toNat]at h3;exact h3 h2
   rw[hx];clear hx;have LB:(127:Int)<=c.toNat:=by omega
   clear h2;go_enter Tryz.func220,Tryz.ntmps220
   go_wp2
   go_ret;exact⟨rfl,rfl⟩
 ·have hx:Lz.ib c=false:=by
   have:=(by decide +kernel:∀n:Fin 256,¬(32:Int)<((UInt8.ofNat n.val).toNat:Int)->Lz.ib (UInt8.ofNat n.val)=false);have h3:=this ⟨c.toNat,c.toNat_lt⟩;simp only[UInt8.ofNat_toNat]at h3;exact h3 h1
  rw[hx];clear hx;have SH:(c.toNat:Int)<=32:=by omega
  clear h1;go_enter Tryz.func220,Tryz.ntmps220
  go_wp2
  go_ret;exact⟨rfl,rfl⟩
theorem K8:JS 256 Lz.jX:=⟨fun _ _=>by kernel_rfl,xh⟩
theorem Eh:JS 254 Lz.mB:=⟨fun _ _=>by kernel_rfl,FP⟩
theorem Bd:JS 216 Lz.iw:=⟨fun _ _=>by kernel_rfl,CQ⟩
theorem GW:JS 90 Lz.bj:=⟨fun _ _=>by kernel_rfl,mb⟩
theorem KZ:JS 220 Lz.ib:=⟨fun _ _=>by kernel_rfl,No⟩
theorem zf (l:List UInt8) (c:UInt8):(Lib.trimRightB l c).length<=l.length:=by
 unfold Lib.trimRightB;rw[List.length_reverse];exact Nat.le_trans (List.dropWhile_sublist _).length_le (by simp)
theorem DX (s:ByteArray) (hs:s.size<=1073741824) (w:World):Calls Tryz.prog 213 #[.string s] w fun e w'=>e=.returned (.bool (Lz.kr s.data.toList))/\w=w':=by
 have pI:=zf s.data.toList 61;rw[aa]at pI;have ct:=(Tryz.strings_TrimRight_one s 61 (by decide) w (by omega)).mono (R':=fun e w'=>e=.returned (.string ⟨(Lib.trimRightB s.data.toList 61).toArray⟩)/\w=w') (fun _ _ h=>⟨h.1,h.2.symm⟩)
 have hb:Lz.kr s.data.toList=(decide (s.size-(Lib.trimRightB s.data.toList 61).length<=2)&&Lz.gR Lz.mB (Lib.trimRightB s.data.toList 61)):=by
  unfold Lz.kr;rw[aa]
 rw[hb];clear hb;generalize ht:Lib.trimRightB s.data.toList 61=t at ct pI⊢;clear ht;obtain⟨u,hu⟩:∃u:ByteArray,u=⟨t.toArray⟩:=⟨_,rfl⟩;have hut:t=u.data.toList:=by rw[hu]
 rw[<-hu]at ct;rw[hut];rw[hut,aa]at pI;rw[aa];clear hu hut;have Ct:=Ih ct;clear ct;have ca:=Ih (rR Eh u (by omega) w);by_cases h2:(s.size:Int)-u.size<=2
 ·rw[decide_eq_true (by omega)];generalize Lz.gR Lz.mB u.data.toList=b at ca⊢;go_enter Tryz.func213,Tryz.ntmps213
  go_wp2_with fail
  refine(Ct.out).mono ?_;rintro e w' ⟨rfl,rfl⟩
  go_wp2_with fail
  refine(ca.out).mono ?_;rintro e w' ⟨rfl,rfl⟩
  go_wp2
  go_ret;exact⟨rfl,rfl⟩
 ·rw[decide_eq_false (by omega)];have LB:(2:Int)<(s.size:Int)-u.size:=by omega
  clear h2;go_enter Tryz.func213,Tryz.ntmps213
  go_wp2_with fail
  refine(Ct.out).mono ?_;rintro e w' ⟨rfl,rfl⟩
  go_wp2
  go_ret;exact⟨rfl,rfl⟩
theorem aq {s:ByteArray} (h:s.size=0):s.toList.isEmpty=true:=by
 rw[Lib.toList_data,List.isEmpty_iff,<-List.length_eq_zero_iff,aa,h]
theorem an {s:ByteArray} (h:0<s.size):s.toList.isEmpty=false:=by
 rw[Lib.toList_data];cases hl:s.data.toList with
 | nil=>rw[<-aa,hl]at h;simp at h
 | cons _ _=>rfl
theorem aB {s:ByteArray} {n:Nat} (h:n<s.size):s.data.toList[n]? =some s[n]:=by
 rw[List.getElem?_eq_getElem (by rw[aa];exact h)];rfl
theorem xd (s:ByteArray) (hs:s.size<=1073741824) (w:World):Calls Tryz.prog 178 #[.string s] w fun e w'=>e=.returned (.bool (Lz.fT s.data.toList))/\w=w':=by
 have ca:=Ih (rR Bd s (by omega) w);by_cases h0:0<s.size
 ·have he:=an h0;have hg:=aB h0
  have hx:Lz.fT s.data.toList=(Lz.bG s[0]&&Lz.gR Lz.iw s.data.toList):=by
   unfold Lz.fT;cases hl:s.data.toList with
   | nil=>rw[hl]at hg;cases hg
   | cons a r=>rw[hl]at hg;simp at hg;rw[hg]
  rw[hx];have cb:=Ih (lY s[0] w);clear hx hg;generalize Lz.gR Lz.iw s.data.toList=b at ca⊢;generalize Lz.bG s[0]=a at cb⊢;cases a<;>
  ·go_enter Tryz.func178,Tryz.ntmps178
   go_wp2_with fail
   refine(cb.out).mono ?_;rintro e w' ⟨rfl,rfl⟩
   go_wp2_with (go_at_call 215;refine(ca.out).mono ?_;rintro e w' ⟨rfl,rfl⟩)
   go_ret;exact⟨rfl,rfl⟩
 ·have hz:s.size=0:=by omega
  have he:=aq hz
  have hx:Lz.fT s.data.toList=false:=by
   have:s.data.toList=[]:=by rw[<-List.length_eq_zero_iff,aa,hz]
   rw[this];rfl
  rw[hx];clear hx hz h0;go_enter Tryz.func178,Tryz.ntmps178
  go_wp2
  go_ret;exact⟨rfl,rfl⟩
structure Env (w:World):Prop where
 ml:∃m,w.cell? ⟨2,0,none⟩=some (.int .i64 m)
 pow:Lib.TabIs Tryz.prog w "internal/strconv.uint64pow10" .u64 Lib.pow10Tab
 syn:∃te pe,w.cell? ⟨13,0,none⟩=some (.iface te pe)
 rng:∃te pe,w.cell? ⟨14,0,none⟩=some (.iface te pe)
 et:w.cell? ⟨3,0,none⟩=some (.iface 163 (.agg #[.pointer (some ⟨15,54,none⟩)]))
 kw:∃b o c,w.cell? ⟨8,0,none⟩=some (.slice (some ⟨b,o,none⟩) 8 c)/\b<w.heap.size/\∀j,j<8->w.cell? ⟨b,o+j,none⟩=some (.string ((Lz.dX.map (fun l=>(⟨l.toArray⟩:ByteArray))).getD j ByteArray.empty))
 size:15<=w.heap.size
theorem RC:Tryz.prog.globalNamed "internal/strconv.uint64pow10"=some 7:=by kernel_rfl
theorem Env.below {w w':World} (h:Env w) (hb:Below w.heap.size w w'):Env w':=by
 have hz:=h.size;have hc:∀b o,b<15->w'.cell? ⟨b,o,none⟩=w.cell? ⟨b,o,none⟩:=fun b o aV=>hb.cell (p:=⟨b,o,none⟩) (by show b<_;omega);obtain⟨h1,h2,h3,h4,h5,h6,h7⟩:=h;refine⟨?_,?_,?_,?_,?_,?_,Nat.le_trans hz hb.size⟩
 ·obtain⟨m,hm⟩:=h1;exact⟨m,by rw[hc _ _ (by decide)];exact hm⟩
 ·exact var?_below hb RC (by show 7<_;omega) h2
 ·obtain⟨a,b,hm⟩:=h3;exact⟨a,b,by rw[hc _ _ (by decide)];exact hm⟩
 ·obtain⟨a,b,hm⟩:=h4;exact⟨a,b,by rw[hc _ _ (by decide)];exact hm⟩
 ·rw[hc _ _ (by decide)];exact h5
 ·obtain⟨b,o,c,hm,vq,hk⟩:=h6;exact⟨b,o,c,by rw[hc _ _ (by decide)];exact hm,Nat.lt_of_lt_of_le vq hb.size,fun j hj=>by rw[hb.cell (p:=⟨b,o+j,none⟩) vq];exact hk j hj⟩
theorem below_drewN {B:Nat} {a w:World} (h:Below B a w) (n:Nat):Below B a (w.drewN n):=⟨h.os,h.tape,h.output,h.size,h.block⟩
theorem ac {w0 w w':World} (h:Below w0.heap.size w0 w) (hb:Below w.heap.size w w'):Below w0.heap.size w0 w':=h.trans (hb.mono h.size)
def gJ (l:List UInt8) (w:World) (e:Ending) (w':World):Prop:=∃u:ByteArray,e=.returned (.string u)/\Hid (u.data.toList=l)/\Below w.heap.size w w'
def SS (l:List UInt8) (b:Bool) (w:World) (e:Ending) (w':World):Prop:=∃u:ByteArray,e=.returned (.tuple #[.string u,.bool b])/\Hid (u.data.toList=l)/\w=w'
def rZ (l m:List UInt8) (b:Bool) (w:World) (e:Ending) (w':World):Prop:=∃u v:ByteArray,e=.returned (.tuple #[.string u,.string v,.bool b])/\Hid (u.data.toList=l)/\Hid (v.data.toList=m)/\Below w.heap.size w w'
def aC (b:Bool) (w:World) (e:Ending) (w':World):Prop:=e=.returned (.bool b)/\Below w.heap.size w w'
def D3 (n:Int) (w:World) (e:Ending) (w':World):Prop:=e=.returned (.int .i64 n)/\Below w.heap.size w w'
theorem kv (s:ByteArray) (hs:s.size<=1073741824) (w:World):Calls Tryz.prog 22 #[.string s] w (gJ (Lz.low s.data.toList) w):=
 (Km s hs w).mono fun _ _ ⟨he,hb⟩=>⟨_,he,rfl,hb⟩
theorem oO (s p:ByteArray) (w:World):Calls Tryz.prog 212 #[.string s,.string p] w (SS (Lib.trimPrefix s.data.toList p.data.toList) (Lib.hasPrefix s.data.toList p.data.toList) w):=
 (Tryz.strings_CutPrefix s p w).mono fun _ _ ⟨he,hw⟩=>⟨_,he,rfl,hw.symm⟩
theorem D0 (s p:ByteArray) (hs:s.size<=1073741824) (w:World):Calls Tryz.prog 177 #[.string s,.string p] w (SS (Lib.trimSuffix s.data.toList p.data.toList) (Lib.hasSuffix s.data.toList p.data.toList) w):=
 (Tryz.strings_CutSuffix s p w (by omega)).mono fun _ _ ⟨he,hw⟩=>⟨_,he,rfl,hw.symm⟩
theorem Ny (s p:ByteArray) (hs:s.size<=1073741824) (w:World) (hE:Env w):Calls Tryz.prog 24 #[.string s,.string p] w (rZ (Lib.cut s.data.toList p.data.toList).1 (Lib.cut s.data.toList p.data.toList).2.1 (Lib.cut s.data.toList p.data.toList).2.2 w):=by
 obtain⟨m,hm⟩:=hE.ml;exact(Tryz.strings_Cut s p m w (by omega) hm).mono fun _ _ ⟨he,n,hw⟩=>⟨_,_,he,rfl,rfl,by rw[hw];exact below_drewN (Below.refl _ _) n⟩
theorem lI (s:ByteArray) (c:UInt8) (w:World):Calls Tryz.prog 64 #[.string s,.int .u8 c.toNat] w fun e w'=>e=.returned (.int .i64 (Lib.indexByte s.data.toList c))/\w=w':=by
 have h:=Tryz.strings_IndexByte s c.toNat w;have e:((c.toNat:Int)).toNat.toUInt8=c:=by simp
 rw[e]at h;exact h.mono fun _ _ ⟨he,hw⟩=>⟨he,hw.symm⟩
theorem wF (w:World) (os:Array Obj):Below w.heap.size w (Sort.grow w os):=by
 refine⟨rfl,rfl,rfl,?_,?_⟩
 ·show _<=(w.heap++os).size
  simp
 ·intro k hk;show(w.heap++os)[k]? =_;rw[Array.getElem?_append_left hk]
theorem VF (n:Int) (h0: -9223372036854775808<=n) (h1:n<=9223372036854775807) (w:World) (hE:Env w):Calls Tryz.prog 67 #[.int .i64 n] w (gJ (Lib.itoa n) w):=
 (Tryz.strconv_Itoa n h0 h1 w hE.pow).mono fun _ _ ⟨he,k,os,hw⟩=>⟨_,he,rfl,by rw[hw];exact ac (below_drewN (Below.refl _ _) k) (wF _ _)⟩
theorem GN (u:ByteArray) (b o c:Nat) (w:World) (hk:∀j,j<8->w.cell? ⟨b,o+j,none⟩=some (.string ((Lz.dX.map (fun l=>(⟨l.toArray⟩:ByteArray))).getD j ByteArray.empty))):
  Calls Tryz.prog 190 #[.slice (some ⟨b,o,none⟩) 8 c,.string u] w fun e w'=>e=.returned (.bool (Lz.dX.contains u.data.toList))/\w=w':=by
 refine(Tryz.slices_Contains_string b o 8 c (Lz.dX.map (fun l=>(⟨l.toArray⟩:ByteArray))) u w (by decide) (by decide) (fun j hj=>hk j (by simpa [Lz.dX]using hj))).mono ?_;rintro e w' ⟨he,hw⟩;refine⟨?_,hw.symm⟩;rw[he]
 have:Lib.containsS ((Lz.dX.map (fun l=>(⟨l.toArray⟩:ByteArray))).take 8) u=Lz.dX.contains u.data.toList:=by
  rw[Bool.eq_iff_iff,Lib.containsS_iff];rw[List.take_of_length_le (by simp[Lz.dX])];simp only[List.mem_map,List.contains_iff_mem];constructor
  ·rintro⟨l,hl,rfl⟩;exact hl
  ·intro h;exact⟨_,h,by rfl⟩
 rw[this]
def MT (ls:List (List UInt8)) (w:World) (e:Ending) (w':World):Prop:=
 ∃xs:List ByteArray,e=.returned (.slice (some ⟨w.heap.size,0,none⟩) xs.length xs.length)/\Hid (xs.map (·.data.toList)=ls)/\Hid (w'=w.alloc (.cells (xs.map Value.string).toArray 9))
theorem Jo (s:ByteArray) (c:UInt8) (hs:s.size<=1073741824) (w:World) (hE:Env w):Calls Tryz.prog 20 #[.string s,.string ⟨#[c]⟩] w (MT (Lz.av c s.data.toList) w):=by
 obtain⟨m,hm⟩:=hE.ml
 have hl:(Lib.splitB ⟨#[c]⟩ 0 (Lib.countB s ⟨#[c]⟩) s).map (·.data.toList)=Lz.av c s.data.toList:=by
  rw[Lib.splitB_data];exact Lz.mz c s.data.toList
 have hn:(Lib.splitB ⟨#[c]⟩ 0 (Lib.countB s ⟨#[c]⟩) s).length=Lib.countB s ⟨#[c]⟩+1:=by
  have h:=(Lz.nx c s.data.toList).2;rw[<-hl,List.length_map]at h;exact h
 refine(Tryz.strings_Split s ⟨#[c]⟩ m w (by omega) hm (Nat.le_refl 1)).mono fun e w' ⟨he,hw⟩=>⟨_,?_,hl,hw⟩;rw[hn];exact he
theorem ip {c:UInt8} {s:ByteArray} {xs:List ByteArray} (h:xs.map (·.data.toList)=Lz.av c s.data.toList) {x:ByteArray} (hx:x∈xs):x.size<=s.size:=by
 have:=Lz.ky c s.data.toList x.data.toList (by rw[<-h];exact List.mem_map_of_mem hx)
 rwa [aa,aa]at this
theorem JX (s:ByteArray) (hs:s.size<=1073741824) (w:World) (hE:Env w):Calls Tryz.prog 257 #[.string s] w (aC (Lz.im s.data.toList) w):=by
 have cS:=Ih (Jo s 46 hs w hE);go_enter Tryz.func257,Tryz.ntmps257
 go_wp2_with fail
 refine(cS.out).mono ?_;rintro e w1 ⟨xs,rfl,gW,km⟩
 have ba:xs.length<=1073741825:=by
  have h:=Lz.fY 46 s.data.toList;rw[<-gW.out,List.length_map,aa]at h;omega
 have ju:∀x,x∈xs->x.size<=s.size:=fun x hx=>ip gW.out hx;have SK:=Ih ju;clear ju cS;have ar:Below w.heap.size w w1:=by rw[km.out];exact(Below.refl _ w).alloc (Nat.le_refl _) _
 have iD:∀j x,xs[j]? =some x->w1.cell? ⟨w.heap.size,j,none⟩=some (.string x):=by
  intro j x hj;rw[km.out];have:=World.cell?_alloc_mark w (xs.map Value.string).toArray 9 (0,0) j;rw[this]
  simp[hj]
 have Hc1:=Ih iD;clear iD km
 go_wp2
 go_loop [8] (fun i=>∃n:Nat,n<=xs.length/\i=.int .i64 n/\(∀j x,j<n->xs[j]? =some x->Lz.gR Lz.jX x.data.toList=true)) (fun i=>xs.length-(intOf i).toNat)
 case atStart=>exact⟨0,Nat.zero_le _,rfl,fun j c h=>by omega⟩
 case round=>
  obtain⟨n,hn,rfl,fq⟩:=hrel;have ll:=Ih fq;clear fq;by_cases aV:n<xs.length
  ·obtain⟨x,hx⟩:∃x,xs[n]? =some x:=⟨_,List.getElem?_eq_getElem aV⟩;have hc:=Hc1.out n x hx;have Qj:=SK.out x (List.mem_of_getElem? hx);have Hx:=Ih hx;clear hx;have ca:=Ih (rR K8 x (by omega) w1);generalize hb:Lz.gR Lz.jX x.data.toList=b at ca;have Hb:=Ih hb;clear hb
   go_wp2_with fail
   refine(ca.out).mono ?_;rintro e w' ⟨rfl,rfl⟩;cases b
   ·go_wp2
    go_ret;refine⟨?_,ar⟩
    have:Lz.im s.data.toList=false:=by
     unfold Lz.im;rw[Lz.mz,<-gW.out,List.all_eq_false];exact⟨x.data.toList,List.mem_map_of_mem (List.mem_of_getElem? Hx.out),by rw[Hb.out];decide⟩
    rw[this];rfl
   ·go_wp2
    go_round
    case rel=>exact⟨n+1,by omega,by go_num,fun j y hj hy=>by
     by_cases Fx:j<n
     ·exact ll.out j y Fx hy
     ·obtain rfl:j=n:=by omega
      rw[Hx.out]at hy;obtain rfl:=Option.some.inj hy;exact Hb.out⟩
    case measure=>simp[intOf];omega
  ·go_wp2
   go_ret;refine⟨?_,ar⟩
   have:Lz.im s.data.toList=true:=by
    unfold Lz.im;rw[Lz.mz,<-gW.out,List.all_eq_true];intro l hl;obtain⟨x,hx,rfl⟩:=List.mem_map.1 hl;obtain⟨j,hj⟩:=List.getElem?_of_mem hx;exact ll.out j x (by have:=(List.getElem?_eq_some_iff.1 hj).1;omega) hj
   rw[this];rfl
end Go.Proofs.YtecoeebjaleeiaaGreatDoor
