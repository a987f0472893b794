/-
  The walk of sources.scheme; what the library's functions that package sources calls return, in one form; the condition on the world (Env) that they ask.
-/
import Derived.Test.YtjhccadmmnjpeaaGreatDoorT03
import Derived.Test.YtjhccadmmnjpeaaGreatDoorT04
set_option maxRecDepth 100000
namespace Go.Proofs.YtjhccadmmnjpeaaGreatDoor
open Go.RowKit
theorem word_any (c:UInt8) (w:World):Calls Tryz.prog 229 #[.int .u8 c.toNat] w fun e w'=>e=.returned (.bool (Lz.isWord c))/\w=w':=by
 have hc:=byte_lt c;have h45:((c.toNat:Int)==45)=(c==45):=by revert c;exact Lz.byte_all (by decide +kernel)
 have H45:=Ih h45;clear h45;unfold Lz.isWord;generalize ha:Lz.isAlpha c=a;generalize hd:Lz.isDigit c=d;have ca:=(Alpha_any c w);have cd:=(Digit_any c w);rw[ha]at ca;rw[hd]at cd;clear ha hd;have Ca:=Ih ca;have Cd:=Ih cd;clear ca cd;cases a<;>cases d<;>
 ·go_enter Tryz.func229,Tryz.ntmps229
  go_wp2_with (first |(go_at_call 152;refine(Ca.out).mono ?_;rintro e w' ⟨rfl,rfl⟩)|(go_at_call 153;refine(Cd.out).mono ?_;rintro e w' ⟨rfl,rfl⟩))
  go_ret;exact⟨by first |rfl|(rw[<-H45.out];rfl),rfl⟩
theorem letter_any (c:UInt8) (w:World):Calls Tryz.prog 227 #[.int .u8 c.toNat] w fun e w'=>e=.returned (.bool (Lz.isLetter c))/\w=w':=by
 have hc:=byte_lt c;have h1:((c.toNat:Int)==43)=(c==43):=by revert c;exact Lz.byte_all (by decide +kernel)
 have h2:((c.toNat:Int)==47)=(c==47):=by revert c;exact Lz.byte_all (by decide +kernel)
 have h3:((c.toNat:Int)==95)=(c==95):=by revert c;exact Lz.byte_all (by decide +kernel)
 unfold Lz.isLetter;rw[<-h1,<-h2,<-h3];generalize ha:Lz.isWord c=a;have ca:=(word_any c w);rw[ha]at ca;clear ha h1 h2 h3;have Ca:=Ih ca;clear ca;generalize hx:((c.toNat:Int)==43)=x;generalize hy:((c.toNat:Int)==47)=y;generalize hz:((c.toNat:Int)==95)=z;cases a<;>cases x<;>cases y<;>
 ·go_enter Tryz.func227,Tryz.ntmps227
  go_wp2_with (go_at_call 229;refine(Ca.out).mono ?_;rintro e w' ⟨rfl,rfl⟩)
  go_ret;exact⟨rfl,rfl⟩
theorem schemed_any (c:UInt8) (w:World):Calls Tryz.prog 185 #[.int .u8 c.toNat] w fun e w'=>e=.returned (.bool (Lz.isSchemed c))/\w=w':=by
 have hc:=byte_lt c;have h1:((c.toNat:Int)==43)=(c==43):=by revert c;exact Lz.byte_all (by decide +kernel)
 have h2:((c.toNat:Int)==46)=(c==46):=by revert c;exact Lz.byte_all (by decide +kernel)
 unfold Lz.isSchemed;rw[<-h1,<-h2];generalize ha:Lz.isWord c=a;have ca:=(word_any c w);rw[ha]at ca;clear ha h1 h2;have Ca:=Ih ca;clear ca;generalize hx:((c.toNat:Int)==43)=x;generalize hy:((c.toNat:Int)==46)=y;cases a<;>cases x<;>
 ·go_enter Tryz.func185,Tryz.ntmps185
  go_wp2_with (go_at_call 229;refine(Ca.out).mono ?_;rintro e w' ⟨rfl,rfl⟩)
  go_ret;exact⟨rfl,rfl⟩
def Pred (k:Nat) (p:UInt8->Bool):Prop:=(∀args w,(callFunc k args).run Tryz.prog w=.ok (.enter k args) w)/\∀c w,Calls Tryz.prog k #[.int .u8 c.toNat] w fun e w'=>e=.returned (.bool (p c))/\w=w'
theorem allB_snoc_false {p:UInt8->Bool} {l:List UInt8} {k:Nat} {c:UInt8} (hc:l[k]? =some c) (h:p c=false):Lz.allB p l=false:=by
 unfold Lz.allB
 have:l.all p=false:=by
  rw[List.all_eq_false];exact⟨c,List.mem_of_getElem? hc,by simp[h]⟩
 rw[this];rfl
theorem all_any {k:Nat} {p:UInt8->Bool} (hp:Pred k p) (s:ByteArray) (hs:s.size<=1073741824) (w:World):Calls Tryz.prog 184 #[.string s,.func (.func k) #[] #[]] w fun e w'=>e=.returned (.bool (Lz.allB p s.data.toList))/\w=w':=by
 obtain⟨heg,hp⟩:=hp;have Hp:=Ih hp;clear hp;go_enter Tryz.func184,Tryz.ntmps184
 go_wp2
 go_loop [8] (fun i=>∃n:Nat,n<=s.size/\i=.int .i64 n/\(∀j c,j<n->s.data.toList[j]? =some c->p c=true)) (fun i=>s.size-(intOf i).toNat)
 case atStart=>exact⟨0,Nat.zero_le _,rfl,fun j c h=>by omega⟩
 case round=>
  obtain⟨n,hn,rfl,hall⟩:=hrel;have Hall:=Ih hall;clear hall;by_cases hlt:n<s.size
  ·have hget:s.data.toList[n]? =some s[n]:=by
    rw[List.getElem?_eq_getElem (by rw[len_of_size];exact hlt)];rfl
   have Hget:=Ih hget;clear hget;generalize hb:p s[n]=b;have Hb:=Ih hb;clear hb
   go_wp2_with fail
   refine(Hp.out _ _).mono ?_;rintro e w' ⟨rfl,rfl⟩;rw[Hb.out];cases b
   ·go_wp2
    go_ret;exact⟨by rw[allB_snoc_false Hget.out Hb.out];rfl,rfl⟩
   ·go_wp2
    go_round
    case rel=>exact⟨n+1,by omega,by go_num,fun j c hj hc=>by
     by_cases hjn:j<n
     ·exact Hall.out j c hjn hc
     ·obtain rfl:j=n:=by omega
      rw[Hget.out]at hc;obtain rfl:=Option.some.inj hc;exact Hb.out⟩
    case measure=>simp[intOf];omega
  ·have hne:s.toList.isEmpty=s.data.toList.isEmpty:=by rw[Lib.toList_data]
   have Hne:=Ih hne;clear hne
   go_wp2
   go_ret;refine⟨?_,rfl⟩
   have h1:s.data.toList.all p=true:=by
    rw[List.all_eq_true];intro c hc;obtain⟨j,hj⟩:=List.getElem?_of_mem hc;exact Hall.out j c (by have:=(List.getElem?_eq_some_iff.1 hj).1;rw[len_of_size]at this;omega) hj
   unfold Lz.allB;rw[h1,<-Hne.out];rfl
theorem seen_any (c:UInt8) (w:World):Calls Tryz.prog 189 #[.int .u8 c.toNat] w fun e w'=>e=.returned (.bool (Lz.isSeen c))/\w=w':=by
 have hc:=byte_lt c;by_cases h1:(32:Int)<c.toNat
 ·by_cases h2:(c.toNat:Int)<127
  ·have hx:Lz.isSeen c= !decide (0<=Lib.indexByte [63,35,59,44,34,60,62,92,94,96,123,124,125] c):=by
    have:=(by decide +kernel:∀n:Fin 256,(32:Int)<((UInt8.ofNat n.val).toNat:Int)->((UInt8.ofNat n.val).toNat:Int)<127->Lz.isSeen (UInt8.ofNat n.val)= !decide (0<=Lib.indexByte [63,35,59,44,34,60,62,92,94,96,123,124,125] (UInt8.ofNat n.val)));have h3:=this ⟨c.toNat,c.toNat_lt⟩;simp only[UInt8.ofNat_toNat]at h3;exact h3 h1 h2
   rw[hx];generalize hb:decide (0<=Lib.indexByte [63,35,59,44,34,60,62,92,94,96,123,124,125] c)=b
   have cr:=(Tryz.strings_ContainsRune_ascii ⟨#[63,35,59,44,34,60,62,92,94,96,123,124,125]⟩ (c.toNat:Int) w (by omega) (by omega)).mono (R':=fun e w'=>e=.returned (.bool b)/\w=w') (by
    rintro e w' ⟨he,hw⟩;refine⟨?_,hw.symm⟩;rw[he,<-hb]
    simp)
   have Cr:=Ih cr;clear cr hx hb;cases b<;>
   ·go_enter Tryz.func189,Tryz.ntmps189
    go_wp2_with fail
    refine(Cr.out).mono ?_;rintro e w' ⟨rfl,rfl⟩
    go_wp2
    go_ret;exact⟨rfl,rfl⟩
  ·have hx:Lz.isSeen c=false:=by
    have:=(by decide +kernel:∀n:Fin 256,¬((UInt8.ofNat n.val).toNat:Int)<127->Lz.isSeen (UInt8.ofNat n.val)=false);have h3:=this ⟨c.toNat,c.toNat_lt⟩;simp only[UInt8.ofNat_toNat]at h3;exact h3 h2
   rw[hx];clear hx;have h2':(127:Int)<=c.toNat:=by omega
   clear h2;go_enter Tryz.func189,Tryz.ntmps189
   go_wp2
   go_ret;exact⟨rfl,rfl⟩
 ·have hx:Lz.isSeen c=false:=by
   have:=(by decide +kernel:∀n:Fin 256,¬(32:Int)<((UInt8.ofNat n.val).toNat:Int)->Lz.isSeen (UInt8.ofNat n.val)=false);have h3:=this ⟨c.toNat,c.toNat_lt⟩;simp only[UInt8.ofNat_toNat]at h3;exact h3 h1
  rw[hx];clear hx;have h1':(c.toNat:Int)<=32:=by omega
  clear h1;go_enter Tryz.func189,Tryz.ntmps189
  go_wp2
  go_ret;exact⟨rfl,rfl⟩
theorem pred_word:Pred 229 Lz.isWord:=⟨fun _ _=>by kernel_rfl,word_any⟩
theorem pred_letter:Pred 227 Lz.isLetter:=⟨fun _ _=>by kernel_rfl,letter_any⟩
theorem pred_schemed:Pred 185 Lz.isSchemed:=⟨fun _ _=>by kernel_rfl,schemed_any⟩
theorem pred_Digit:Pred 153 Lz.isDigit:=⟨fun _ _=>by kernel_rfl,Digit_any⟩
theorem pred_seen:Pred 189 Lz.isSeen:=⟨fun _ _=>by kernel_rfl,seen_any⟩
theorem trimRightB_le (l:List UInt8) (c:UInt8):(Lib.trimRightB l c).length<=l.length:=by
 unfold Lib.trimRightB;rw[List.length_reverse];exact Nat.le_trans (List.dropWhile_sublist _).length_le (by simp)
theorem base_any (s:ByteArray) (hs:s.size<=1073741824) (w:World):Calls Tryz.prog 182 #[.string s] w fun e w'=>e=.returned (.bool (Lz.baseB s.data.toList))/\w=w':=by
 have hle:=trimRightB_le s.data.toList 61;rw[len_of_size]at hle;have ct:=(Tryz.strings_TrimRight_one s 61 (by decide) w (by omega)).mono (R':=fun e w'=>e=.returned (.string ⟨(Lib.trimRightB s.data.toList 61).toArray⟩)/\w=w') (fun _ _ h=>⟨h.1,h.2.symm⟩)
 have hb:Lz.baseB s.data.toList=(decide (s.size-(Lib.trimRightB s.data.toList 61).length<=2)&&Lz.allB Lz.isLetter (Lib.trimRightB s.data.toList 61)):=by
  unfold Lz.baseB;rw[len_of_size]
 rw[hb];clear hb;generalize ht:Lib.trimRightB s.data.toList 61=t at ct hle⊢;clear ht;obtain⟨u,hu⟩:∃u:ByteArray,u=⟨t.toArray⟩:=⟨_,rfl⟩;have hut:t=u.data.toList:=by rw[hu]
 rw[<-hu]at ct;rw[hut];rw[hut,len_of_size]at hle;rw[len_of_size];clear hu hut;have Ct:=Ih ct;clear ct;have ca:=Ih (all_any pred_letter u (by omega) w);by_cases h2:(s.size:Int)-u.size<=2
 ·rw[decide_eq_true (by omega)];generalize Lz.allB Lz.isLetter u.data.toList=b at ca⊢;go_enter Tryz.func182,Tryz.ntmps182
  go_wp2_with fail
  refine(Ct.out).mono ?_;rintro e w' ⟨rfl,rfl⟩
  go_wp2_with fail
  refine(ca.out).mono ?_;rintro e w' ⟨rfl,rfl⟩
  go_wp2
  go_ret;exact⟨rfl,rfl⟩
 ·rw[decide_eq_false (by omega)];have h2':(2:Int)<(s.size:Int)-u.size:=by omega
  clear h2;go_enter Tryz.func182,Tryz.ntmps182
  go_wp2_with fail
  refine(Ct.out).mono ?_;rintro e w' ⟨rfl,rfl⟩
  go_wp2
  go_ret;exact⟨rfl,rfl⟩
theorem isEmpty_of_size {s:ByteArray} (h:s.size=0):s.toList.isEmpty=true:=by
 rw[Lib.toList_data,List.isEmpty_iff,<-List.length_eq_zero_iff,len_of_size,h]
theorem isEmpty_of_pos {s:ByteArray} (h:0<s.size):s.toList.isEmpty=false:=by
 rw[Lib.toList_data];cases hl:s.data.toList with
 | nil=>rw[<-len_of_size,hl]at h;simp at h
 | cons _ _=>rfl
theorem get_of_lt {s:ByteArray} {n:Nat} (h:n<s.size):s.data.toList[n]? =some s[n]:=by
 rw[List.getElem?_eq_getElem (by rw[len_of_size];exact h)];rfl
theorem scheme_any (s:ByteArray) (hs:s.size<=1073741824) (w:World):Calls Tryz.prog 122 #[.string s] w fun e w'=>e=.returned (.bool (Lz.schemeB s.data.toList))/\w=w':=by
 have ca:=Ih (all_any pred_schemed s (by omega) w);by_cases h0:0<s.size
 ·have he:=isEmpty_of_pos h0;have hg:=get_of_lt h0
  have hx:Lz.schemeB s.data.toList=(Lz.isAlpha s[0]&&Lz.allB Lz.isSchemed s.data.toList):=by
   unfold Lz.schemeB;cases hl:s.data.toList with
   | nil=>rw[hl]at hg;cases hg
   | cons a r=>rw[hl]at hg;simp at hg;rw[hg]
  rw[hx];have cb:=Ih (Alpha_any s[0] w);clear hx hg;generalize Lz.allB Lz.isSchemed s.data.toList=b at ca⊢;generalize Lz.isAlpha s[0]=a at cb⊢;cases a<;>
  ·go_enter Tryz.func122,Tryz.ntmps122
   go_wp2_with fail
   refine(cb.out).mono ?_;rintro e w' ⟨rfl,rfl⟩
   go_wp2_with (go_at_call 184;refine(ca.out).mono ?_;rintro e w' ⟨rfl,rfl⟩)
   go_ret;exact⟨rfl,rfl⟩
 ·have hz:s.size=0:=by omega
  have he:=isEmpty_of_size hz
  have hx:Lz.schemeB s.data.toList=false:=by
   have:s.data.toList=[]:=by rw[<-List.length_eq_zero_iff,len_of_size,hz]
   rw[this];rfl
  rw[hx];clear hx hz h0;go_enter Tryz.func122,Tryz.ntmps122
  go_wp2
  go_ret;exact⟨rfl,rfl⟩
structure Env (w:World):Prop where
 ml:∃m,w.cell? ⟨5,0,none⟩=some (.int .i64 m)
 pow:Lib.TabIs Tryz.prog w "internal/strconv.uint64pow10" .u64 Lib.pow10Tab
 syn:∃te pe,w.cell? ⟨9,0,none⟩=some (.iface te pe)
 rng:∃te pe,w.cell? ⟨10,0,none⟩=some (.iface te pe)
 et:w.cell? ⟨1,0,none⟩=some (.iface 195 (.agg #[.pointer (some ⟨13,57,none⟩)]))
 kw:∃b o c,w.cell? ⟨4,0,none⟩=some (.slice (some ⟨b,o,none⟩) 8 c)/\b<w.heap.size/\∀j,j<8->w.cell? ⟨b,o+j,none⟩=some (.string ((Lz.keywords.map (fun l=>(⟨l.toArray⟩:ByteArray))).getD j ByteArray.empty))
 size:13<=w.heap.size
theorem gPow:Tryz.prog.globalNamed "internal/strconv.uint64pow10"=some 8:=by kernel_rfl
theorem Env.below {w w':World} (h:Env w) (hb:Below w.heap.size w w'):Env w':=by
 have hz:=h.size;have hc:∀b o,b<13->w'.cell? ⟨b,o,none⟩=w.cell? ⟨b,o,none⟩:=fun b o hlt=>hb.cell (p:=⟨b,o,none⟩) (by show b<_;omega);obtain⟨h1,h2,h3,h4,h5,h6,h7⟩:=h;refine⟨?_,?_,?_,?_,?_,?_,Nat.le_trans hz hb.size⟩
 ·obtain⟨m,hm⟩:=h1;exact⟨m,by rw[hc _ _ (by decide)];exact hm⟩
 ·exact var?_below hb gPow (by show 8<_;omega) h2
 ·obtain⟨a,b,hm⟩:=h3;exact⟨a,b,by rw[hc _ _ (by decide)];exact hm⟩
 ·obtain⟨a,b,hm⟩:=h4;exact⟨a,b,by rw[hc _ _ (by decide)];exact hm⟩
 ·rw[hc _ _ (by decide)];exact h5
 ·obtain⟨b,o,c,hm,hbs,hk⟩:=h6;exact⟨b,o,c,by rw[hc _ _ (by decide)];exact hm,Nat.lt_of_lt_of_le hbs hb.size,fun j hj=>by rw[hb.cell (p:=⟨b,o+j,none⟩) hbs];exact hk j hj⟩
theorem below_drewN {B:Nat} {a w:World} (h:Below B a w) (n:Nat):Below B a (w.drewN n):=⟨h.os,h.tape,h.output,h.size,h.block⟩
theorem below_call {w0 w w':World} (h:Below w0.heap.size w0 w) (hb:Below w.heap.size w w'):Below w0.heap.size w0 w':=h.trans (hb.mono h.size)
def RStr (l:List UInt8) (w:World) (e:Ending) (w':World):Prop:=∃u:ByteArray,e=.returned (.string u)/\Hid (u.data.toList=l)/\Below w.heap.size w w'
def RStrB (l:List UInt8) (b:Bool) (w:World) (e:Ending) (w':World):Prop:=∃u:ByteArray,e=.returned (.tuple #[.string u,.bool b])/\Hid (u.data.toList=l)/\w=w'
def RStrStrB (l m:List UInt8) (b:Bool) (w:World) (e:Ending) (w':World):Prop:=∃u v:ByteArray,e=.returned (.tuple #[.string u,.string v,.bool b])/\Hid (u.data.toList=l)/\Hid (v.data.toList=m)/\Below w.heap.size w w'
def RBool (b:Bool) (w:World) (e:Ending) (w':World):Prop:=e=.returned (.bool b)/\Below w.heap.size w w'
def RInt (n:Int) (w:World) (e:Ending) (w':World):Prop:=e=.returned (.int .i64 n)/\Below w.heap.size w w'
theorem Lower_c (s:ByteArray) (hs:s.size<=1073741824) (w:World):Calls Tryz.prog 123 #[.string s] w (RStr (Lz.low s.data.toList) w):=
 (Lower_any s hs w).mono fun _ _ ⟨he,hb⟩=>⟨_,he,rfl,hb⟩
theorem CutPrefix_c (s p:ByteArray) (w:World):Calls Tryz.prog 181 #[.string s,.string p] w (RStrB (Lib.trimPrefix s.data.toList p.data.toList) (Lib.hasPrefix s.data.toList p.data.toList) w):=
 (Tryz.strings_CutPrefix s p w).mono fun _ _ ⟨he,hw⟩=>⟨_,he,rfl,hw.symm⟩
theorem CutSuffix_c (s p:ByteArray) (hs:s.size<=1073741824) (w:World):Calls Tryz.prog 121 #[.string s,.string p] w (RStrB (Lib.trimSuffix s.data.toList p.data.toList) (Lib.hasSuffix s.data.toList p.data.toList) w):=
 (Tryz.strings_CutSuffix s p w (by omega)).mono fun _ _ ⟨he,hw⟩=>⟨_,he,rfl,hw.symm⟩
theorem Cut_c (s p:ByteArray) (hs:s.size<=1073741824) (w:World) (hE:Env w):Calls Tryz.prog 67 #[.string s,.string p] w (RStrStrB (Lib.cut s.data.toList p.data.toList).1 (Lib.cut s.data.toList p.data.toList).2.1 (Lib.cut s.data.toList p.data.toList).2.2 w):=by
 obtain⟨m,hm⟩:=hE.ml;exact(Tryz.strings_Cut s p m w (by omega) hm).mono fun _ _ ⟨he,n,hw⟩=>⟨_,_,he,rfl,rfl,by rw[hw];exact below_drewN (Below.refl _ _) n⟩
theorem IndexByte_c (s:ByteArray) (c:UInt8) (w:World):Calls Tryz.prog 111 #[.string s,.int .u8 c.toNat] w fun e w'=>e=.returned (.int .i64 (Lib.indexByte s.data.toList c))/\w=w':=by
 have h:=Tryz.strings_IndexByte s c.toNat w;have e:((c.toNat:Int)).toNat.toUInt8=c:=by simp
 rw[e]at h;exact h.mono fun _ _ ⟨he,hw⟩=>⟨he,hw.symm⟩
theorem grow_below (w:World) (os:Array Obj):Below w.heap.size w (Sort.grow w os):=by
 refine⟨rfl,rfl,rfl,?_,?_⟩
 ·show _<=(w.heap++os).size
  simp
 ·intro k hk;show(w.heap++os)[k]? =_;rw[Array.getElem?_append_left hk]
theorem Itoa_c (n:Int) (h0: -9223372036854775808<=n) (h1:n<=9223372036854775807) (w:World) (hE:Env w):Calls Tryz.prog 112 #[.int .i64 n] w (RStr (Lib.itoa n) w):=
 (Tryz.strconv_Itoa n h0 h1 w hE.pow).mono fun _ _ ⟨he,k,os,hw⟩=>⟨_,he,rfl,by rw[hw];exact below_call (below_drewN (Below.refl _ _) k) (grow_below _ _)⟩
theorem keywords_c (u:ByteArray) (b o c:Nat) (w:World) (hk:∀j,j<8->w.cell? ⟨b,o+j,none⟩=some (.string ((Lz.keywords.map (fun l=>(⟨l.toArray⟩:ByteArray))).getD j ByteArray.empty))):
  Calls Tryz.prog 176 #[.slice (some ⟨b,o,none⟩) 8 c,.string u] w fun e w'=>e=.returned (.bool (Lz.keywords.contains u.data.toList))/\w=w':=by
 refine(Tryz.slices_Contains_string b o 8 c (Lz.keywords.map (fun l=>(⟨l.toArray⟩:ByteArray))) u w (by decide) (by decide) (fun j hj=>hk j (by simpa [Lz.keywords]using hj))).mono ?_;rintro e w' ⟨he,hw⟩;refine⟨?_,hw.symm⟩;rw[he]
 have:Lib.containsS ((Lz.keywords.map (fun l=>(⟨l.toArray⟩:ByteArray))).take 8) u=Lz.keywords.contains u.data.toList:=by
  rw[Bool.eq_iff_iff,Lib.containsS_iff];rw[List.take_of_length_le (by simp[Lz.keywords])];simp only[List.mem_map,List.contains_iff_mem];constructor
  ·rintro⟨l,hl,rfl⟩;exact hl
  ·intro h;exact⟨_,h,by rfl⟩
 rw[this]
def RSplit (ls:List (List UInt8)) (w:World) (e:Ending) (w':World):Prop:=
 ∃xs:List ByteArray,e=.returned (.slice (some ⟨w.heap.size,0,none⟩) xs.length xs.length)/\Hid (xs.map (·.data.toList)=ls)/\Hid (w'=w.alloc (.cells (xs.map Value.string).toArray 9))
theorem Split_c (s:ByteArray) (c:UInt8) (hs:s.size<=1073741824) (w:World) (hE:Env w):Calls Tryz.prog 220 #[.string s,.string ⟨#[c]⟩] w (RSplit (Lz.splitC c s.data.toList) w):=by
 obtain⟨m,hm⟩:=hE.ml
 have hl:(Lib.splitB ⟨#[c]⟩ 0 (Lib.countB s ⟨#[c]⟩) s).map (·.data.toList)=Lz.splitC c s.data.toList:=by
  rw[Lib.splitB_data];exact Lz.split_eq c s.data.toList
 have hn:(Lib.splitB ⟨#[c]⟩ 0 (Lib.countB s ⟨#[c]⟩) s).length=Lib.countB s ⟨#[c]⟩+1:=by
  have h:=(Lz.split_both c s.data.toList).2;rw[<-hl,List.length_map]at h;exact h
 refine(Tryz.strings_Split s ⟨#[c]⟩ m w (by omega) hm (Nat.le_refl 1)).mono fun e w' ⟨he,hw⟩=>⟨_,?_,hl,hw⟩;rw[hn];exact he
theorem piece_size {c:UInt8} {s:ByteArray} {xs:List ByteArray} (h:xs.map (·.data.toList)=Lz.splitC c s.data.toList) {x:ByteArray} (hx:x∈xs):x.size<=s.size:=by
 have:=Lz.splitC_piece c s.data.toList x.data.toList (by rw[<-h];exact List.mem_map_of_mem hx)
 rwa [len_of_size,len_of_size]at this
theorem named_any (s:ByteArray) (hs:s.size<=1073741824) (w:World) (hE:Env w):Calls Tryz.prog 230 #[.string s] w (RBool (Lz.namedB s.data.toList) w):=by
 have cS:=Ih (Split_c s 46 hs w hE);go_enter Tryz.func230,Tryz.ntmps230
 go_wp2_with fail
 refine(cS.out).mono ?_;rintro e w1 ⟨xs,rfl,hxs,hw1⟩
 have hlen:xs.length<=1073741825:=by
  have h:=Lz.splitC_len 46 s.data.toList;rw[<-hxs.out,List.length_map,len_of_size]at h;omega
 have hsz:∀x,x∈xs->x.size<=s.size:=fun x hx=>piece_size hxs.out hx;have Hsz:=Ih hsz;clear hsz cS;have hb1:Below w.heap.size w w1:=by rw[hw1.out];exact(Below.refl _ w).alloc (Nat.le_refl _) _
 have hc1:∀j x,xs[j]? =some x->w1.cell? ⟨w.heap.size,j,none⟩=some (.string x):=by
  intro j x hj;rw[hw1.out];have:=World.cell?_alloc_mark w (xs.map Value.string).toArray 9 (0,0) j;rw[this]
  simp[hj]
 have Hc1:=Ih hc1;clear hc1 hw1
 go_wp2
 go_loop [8] (fun i=>∃n:Nat,n<=xs.length/\i=.int .i64 n/\(∀j x,j<n->xs[j]? =some x->Lz.allB Lz.isWord x.data.toList=true)) (fun i=>xs.length-(intOf i).toNat)
 case atStart=>exact⟨0,Nat.zero_le _,rfl,fun j c h=>by omega⟩
 case round=>
  obtain⟨n,hn,rfl,hall⟩:=hrel;have Hall:=Ih hall;clear hall;by_cases hlt:n<xs.length
  ·obtain⟨x,hx⟩:∃x,xs[n]? =some x:=⟨_,List.getElem?_eq_getElem hlt⟩;have hc:=Hc1.out n x hx;have hxm:=Hsz.out x (List.mem_of_getElem? hx);have Hx:=Ih hx;clear hx;have ca:=Ih (all_any pred_word x (by omega) w1);generalize hb:Lz.allB Lz.isWord x.data.toList=b at ca;have Hb:=Ih hb;clear hb
   go_wp2_with fail
   refine(ca.out).mono ?_;rintro e w' ⟨rfl,rfl⟩;cases b
   ·go_wp2
    go_ret;refine⟨?_,hb1⟩
    have:Lz.namedB s.data.toList=false:=by
     unfold Lz.namedB;rw[Lz.split_eq,<-hxs.out,List.all_eq_false];exact⟨x.data.toList,List.mem_map_of_mem (List.mem_of_getElem? Hx.out),by rw[Hb.out];decide⟩
    rw[this];rfl
   ·go_wp2
    go_round
    case rel=>exact⟨n+1,by omega,by go_num,fun j y hj hy=>by
     by_cases hjn:j<n
     ·exact Hall.out j y hjn hy
     ·obtain rfl:j=n:=by omega
      rw[Hx.out]at hy;obtain rfl:=Option.some.inj hy;exact Hb.out⟩
    case measure=>simp[intOf];omega
  ·go_wp2
   go_ret;refine⟨?_,hb1⟩
   have:Lz.namedB s.data.toList=true:=by
    unfold Lz.namedB;rw[Lz.split_eq,<-hxs.out,List.all_eq_true];intro l hl;obtain⟨x,hx,rfl⟩:=List.mem_map.1 hl;obtain⟨j,hj⟩:=List.getElem?_of_mem hx;exact Hall.out j x (by have:=(List.getElem?_eq_some_iff.1 hj).1;omega) hj
   rw[this];rfl
end Go.Proofs.YtjhccadmmnjpeaaGreatDoor
