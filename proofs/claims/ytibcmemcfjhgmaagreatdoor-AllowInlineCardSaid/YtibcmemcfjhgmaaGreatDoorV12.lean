/-
  Numbers of 32 and 64 bits in the model; math/bits.RotateLeft32, RotateLeft64; package digest: turn.
-/
import Derived.Test.YtibcmemcfjhgmaaGreatDoorV10
import Derived.Test.YtibcmemcfjhgmaaGreatDoorV11
import Derived.Test.YtibcmemcfjhgmaaGreatDoorV09
import Derived.Lib.MapLaws
set_option maxHeartbeats 1000000
set_option maxRecDepth 100000
namespace Lz
open Go
def jR (b n:Nat):Bs:=if _h:n<b\/b<2 then[iD n]else jR b (n / b)++[iD (n%b)]
 termination_by n
 decreasing_by exact Nat.div_lt_self (by omega) (by omega)
theorem sJ {b n:Nat} (h:n<b):jR b n=[iD n]:=by rw[jR,dif_pos (Or.inl h)]
theorem yI {b n:Nat} (hb:2<=b) (h:¬n<b):jR b n=jR b (n / b)++[iD (n%b)]:=by rw[jR,dif_neg (by omega)]
theorem Ka (n:Nat):jR 16 n=gW n:=by
 induction n using Nat.strongRecOn with
 | ind n ih=>
   by_cases h:n<16
   ·rw[sJ h,jV h]
   ·rw[yI (by omega) h,qv h,ih (n / 16) (by omega)]
def ipP (s:Bs):Bool:=match aX s true with
 | .ok h=>h==s&&(s[0]? ==some 91||dy s)
 | .er _=>false
end Lz
namespace Lz
theorem VG (x:Nat):x&&& 15=x%16:=Nat.and_two_pow_sub_one_eq_mod x 4
end Lz
namespace Go.Proofs.YtibcmemcfjhgmaaGreatDoor
open Go.RowKit
theorem Ri (w:World):Calls Tryz.prog 301 #[.int .i64 16] w fun e w'=>e=.returned (.bool true)/\w=w':=by
 go_enter Tryz.func301,Tryz.ntmps301
 go_wp2
 go_ret;exact⟨rfl,rfl⟩
theorem QD:IntKind.u64.wrap (bits BinOp.and IntKind.u64 16 (IntKind.u64.wrap (-16))*285870213051353865) / 288230376151711744=15:=by decide +kernel
theorem QW (w:World) (h:w.cell? ⟨14,15,none⟩=some (.int .u8 4)):Calls Tryz.prog 326 #[.int .u64 16] w fun e w'=>e=.returned (.int .i64 4)/\w=w':=by
 have hx:=QD;go_enter Tryz.func326,Tryz.ntmps326
 go_wp2
 go_ret;exact⟨rfl,rfl⟩
theorem YT (w:World) (h:w.cell? ⟨14,15,none⟩=some (.int .u8 4)):Calls Tryz.prog 302 #[.int .u64 16] w fun e w'=>e=.returned (.int .i64 4)/\w=w':=by
 go_enter Tryz.func302,Tryz.ntmps302
 go_wp2_with fail
 refine(QW _ h).mono ?_;rintro e w' ⟨rfl,rfl⟩
 go_wp2
 go_ret;exact⟨rfl,rfl⟩
def abk (l:List UInt8) (w:World) (e:Ending) (w':World):Prop:=∃(u:ByteArray) (v:Value),e=.returned (.tuple #[v,.string u])/\Hid (u.data.toList=l)/\Below w.heap.size w w'
theorem Vs:Tryz.zeroCells333=((List.replicate 65 (0:UInt8)).map fun c=>Value.int .u8 (c.toNat:Int)).toArray:=by kernel_rfl
theorem xf (w:World) (l:List UInt8) (T:TypeId):iV (w.alloc (.cells (l.map fun c=>Value.int .u8 (c.toNat:Int)).toArray T)) w.heap.size l:=by
 intro j c h;refine⟨?_,?_⟩
 ·rw[World.cell?_alloc_mark];simp[h]
 ·simp
theorem Qw (b:Nat) (hb:8<=b) (u m n:Nat) (hu:b<=u) (h:u*b^m<=n) (hn:n<=1099511627776):m+1<=13:=by
 rcases Nat.lt_or_ge m 13 with h1|h1
 ·omega
 ·exfalso
  have h2:8^13<=b^m:=Nat.le_trans (Nat.pow_le_pow_left hb 13) (Nat.pow_le_pow_right (by omega) h1);have h3:8*8^13<=u*b^m:=Nat.mul_le_mul (by omega) h2;omega
theorem Ys:∀d:Fin 16,(⟨#[48,49,50,51,52,53,54,55,56,57,97,98,99,100,101,102,103,104,105,106,107,108,109,110,111,112,113,114,115,116,117,118,119,120,121,122]⟩:ByteArray)[d.val]'(Nat.lt_trans d.isLt (by decide))=Lz.iD d.val:=by decide +kernel
theorem digs (d:Nat) (h:d<16) {h':d<(⟨#[48,49,50,51,52,53,54,55,56,57,97,98,99,100,101,102,103,104,105,106,107,108,109,110,111,112,113,114,115,116,117,118,119,120,121,122]⟩:ByteArray).size}:(⟨#[48,49,50,51,52,53,54,55,56,57,97,98,99,100,101,102,103,104,105,106,107,108,109,110,111,112,113,114,115,116,117,118,119,120,121,122]⟩:ByteArray)[d]'h'=Lz.iD d:=Ys ⟨d,h⟩
theorem Fz (n:Nat) (hn:n<=1099511627776) (w:World) (h:w.cell? ⟨14,15,none⟩=some (.int .u8 4)):Calls Tryz.prog 275 #[.slice none 0 0,.int .u64 n,.int .i64 16,.bool false,.bool false] w (abk (Lz.jR 16 n) w):=by
 have j7:=xf w (List.replicate 65 0) 333;rw[<-Vs]at j7;have pD:Below w.heap.size w (w.alloc (.cells Tryz.zeroCells333 333)):=(Below.refl _ w).alloc (Nat.le_refl _) _
 have h':(w.alloc (.cells Tryz.zeroCells333 333)).cell? ⟨14,15,none⟩=some (.int .u8 4):=by
  rw[World.cell?_alloc_lt _ _ ⟨14,15,none⟩ (World.block_lt_of_cell? _ _ h)];exact h
 have Hm:=Ih j7;have H0:=Ih pD;have Ht:=Ih h';have HN:=Ih hn;clear j7 pD h' h;go_enter Tryz.func275,Tryz.ntmps275
 go_wp2_with fail
 refine(Ri _).mono ?_;rintro e w' ⟨rfl,rfl⟩
 go_wp2_with fail
 refine(YT _ Ht.out).mono ?_;rintro e w' ⟨rfl,rfl⟩;have ON:=Hm.out;have qL:=H0.out;generalize w.alloc (.cells Tryz.zeroCells333 333)=wx at ON qL⊢;clear Hm H0 Ht
 go_wp2_with fail
 go_loopw [1,13] (fun a i wr=>∃(u:Nat) (D L:List UInt8),D.length<=13/\u<=1099511627776/\a=.int .u64 u/\i=.int .i64 ((65-D.length:Nat):Int)/\iV wr w.heap.size L/\Hid (L.length=65)/\Hid (L.drop (65-D.length)=D)/\Hid (Lz.jR 16 n=Lz.jR 16 u++D)/\Hid (u*16^D.length<=n)/\Below w.heap.size w wr) (fun a _ _=>(intOf a).toNat)
 case atStart=>exact⟨n,[],List.replicate 65 0,by simp,HN.out,rfl,rfl,ON,Ih (by simp),Ih (by simp),Ih (by simp),Ih (by simp),qL⟩
 case round=>
  clear ON qL;obtain⟨u,D,L,hD,hu,rfl,rfl,bz,hL,hLD,hE,oh,hb⟩:=hrel;obtain⟨i,hi⟩:∃i:Nat,i=64-D.length:=⟨_,rfl⟩;have Lo:65-D.length=i+1:=by omega
  have hi2:i<65:=by omega
  rw[Lo];have Z3:Hid (L.drop (i+1)=D):=by show _=_;have:=hLD.out;rw[Lo]at this;exact this
  obtain⟨c0,lW⟩:∃c,L[i]? =some c:=⟨_,List.getElem?_eq_getElem (by rw[hL.out];exact hi2)⟩;obtain⟨iE,sO⟩:=bz i c0 lW;have hi3:((i+1:Nat):Int)-1=i:=by omega
  have hi4:(0:Int)<=i:=by omega
  have hi5:(i:Int)<65:=by omega
  have jg:∀c:UInt8,iV (wr.setCell ⟨w.heap.size,i,none⟩ (.int .u8 (c.toNat:Int))) w.heap.size (L.set i c)/\(L.set i c).length=65/\(L.set i c).drop i=c::D:=fun c=>by
   refine⟨bz.set i c,by rw[List.length_set];exact hL.out,?_⟩;rw[List.drop_eq_getElem_cons (by rw[List.length_set,hL.out];exact hi2),List.getElem_set_self,List.drop_set_of_lt (by omega),Z3.out]
  have KN:=Ih jg;have Hi:=Ih hi;clear jg Lo hLD Z3 lW bz hL hi;by_cases WJ:u<16
  ·have Dt:(u:Int)<16:=by omega
   have R9:Hid (Lz.jR 16 n=Lz.iD u::D):=by
    show _=_;rw[hE.out,Lz.sJ WJ];rfl
   clear hE oh
   go_upto_region 25 with fail
   rw[digs u (by omega)];obtain⟨r1,r2,r3⟩:=KN.out (Lz.iD u);have aE:=hb.setCell (Nat.le_refl _) (p:=⟨w.heap.size,i,none⟩) (.int .u8 ((Lz.iD u).toNat:Int));generalize wr.setCell ⟨w.heap.size,i,none⟩ (.int .u8 ((Lz.iD u).toNat:Int))=w2 at r1 aE⊢;have wD:Tryz.prog.arrayLen 333=65:=by simp[Program.arrayLen,Tryz.underlying333]
   have K8:∀W,(Instr.sliceAt 333 (.pointer (some ⟨w.heap.size,0,none⟩)) (some (.int .i64 (i:Int))) none none).run Tryz.prog W=.ok (.slice (some ⟨w.heap.size,i,none⟩) (65-i) (65-i)) W:=fun W=>by
    rw[run_sliceAt_array_l W 333 ⟨w.heap.size,0,none⟩ (by simp[Program.arrayLen,Program.elem,Tryz.underlying333]) .i64 (i:Int) (by omega) (by rw[wD];omega)];go_simp;intro h;omega
   have kL:∀W,W=w2->(convert 93 9 (.slice (some ⟨w.heap.size,i,none⟩) (65-i) (65-i))).run Tryz.prog W=.ok (.string ⟨(Lz.iD u::D).toArray⟩) W:=by
    rintro W rfl
    have hc:=run_convert_bytes_back (P:=Tryz.prog) W 93 9 5 ⟨w.heap.size,i,none⟩ (65-i) (Lz.iD u::D) Tryz.underlying93 Tryz.underlying5 Tryz.underlying9 (by
     intro j hj;have hg:((L.set i (Lz.iD u)).drop i)[j]? =some (Lz.iD u::D)[j]:=by rw[r3];exact List.getElem?_eq_getElem hj
     rw[List.getElem?_drop]at hg;have:=(r1 (i+j) _ hg).1;rw[show(⟨w.heap.size,i,none⟩:Addr).add j=⟨w.heap.size,i+j,none⟩ by simp[Addr.add]];exact this)
    rw[show(Lz.iD u::D).length=65-i by rw[List.length_cons,Hi.out];omega]at hc;exact hc
   have aax:=kL w2 rfl;clear wD kL r1 r3 KN iE sO
   go_wp2
   go_ret2
   exact⟨_,_,rfl,Ih (by rw[R9.out]),aE⟩
  ·have hug:(16:Int)<=(u:Int):=by omega
   have hd:=Lz.yI (b:=16) (n:=u) (by omega) WJ
   have R9:Hid (Lz.jR 16 n=Lz.jR 16 (u / 16)++(Lz.iD (u%16)::D)):=by
    show _=_;rw[hE.out,hd];simp
   have DG:Hid (u / 16*16^(Lz.iD (u%16)::D).length<=n):=by
    show _<=_;refine Nat.le_trans ?_ oh.out;rw[List.length_cons,Nat.pow_succ,Nat.mul_comm (16^_) 16,<-Nat.mul_assoc];exact Nat.mul_le_mul_right _ (Nat.div_mul_le_self u 16)
   have hD2:D.length+1<=13:=Qw 16 (by omega) u D.length n (by omega) oh.out HN.out;have aac:bits .and .u64 (u:Int) 15=((u%16:Nat):Int):=by rw[show(15:Int)=((15:Nat):Int)from rfl,u64_and_nat _ _ (by omega) (by omega),Lz.VG]
   have OX:u%16<16:=by omega
   generalize u%16=d at aac OX R9 DG;clear hd hE oh
   go_wp2_with fail
   rw[digs d OX]
   go_roundw
   case rel=>
    obtain⟨r1,r2,r3⟩:=KN.out (Lz.iD d);exact⟨u / 16,Lz.iD d::D,L.set i (Lz.iD d),by simpa using hD2,by omega,by go_num,by rw[List.length_cons,Hi.out];congr 2;omega,r1,r2,Ih (by rw[List.length_cons,show 65-(D.length+1)=i by rw[Hi.out];omega];exact r3),R9,DG,hb.setCell (Nat.le_refl _) _⟩
   case measure=>simp[intOf];omega
theorem uI (n:Nat) (hn:n<=1099511627776) (w:World) (h:w.cell? ⟨14,15,none⟩=some (.int .u8 4)):Calls Tryz.prog 338 #[.int .u64 n,.int .i64 16] w (dX (Lz.jR 16 n) w):=by
 have cF:=Ih (Fz n hn w h);go_enter Tryz.func338,Tryz.ntmps338
 go_wp2_with fail
 refine(cF.out).mono ?_;rintro e w1 ⟨u,v,rfl,hu,hb⟩
 go_wp2
 go_ret;exact⟨u,rfl,hu,hb⟩
theorem xo (n:Nat) (hn:n<=1099511627776) (w:World) (h:w.cell? ⟨14,15,none⟩=some (.int .u8 4)):Calls Tryz.prog 333 #[.int .u64 n,.int .i64 16] w (dX (Lz.jR 16 n) w):=by
 have cF:=Ih (uI n hn w h);go_enter Tryz.func333,Tryz.ntmps333
 go_wp2_with fail
 refine(cF.out).mono ?_;rintro e w1 ⟨u,rfl,hu,hb⟩
 go_wp2
 go_ret;exact⟨u,rfl,hu,hb⟩
end Go.Proofs.YtibcmemcfjhgmaaGreatDoor
namespace Lz
open Go
theorem tC (s:ByteArray) (pos:Nat) (h:pos<s.size) (hb:128<=(s[pos]'h).toNat):128<=(Utf8.decode s pos).1:=by
 rw[Lib.decode_at]
 have h0:(s.get! pos).toNat=(s[pos]'h).toNat:=by
  congr 1;show s.data[pos]! =_;rw[getElem!_pos s.data pos h];rfl
 rcases Lib.decodeN_shape (s.size-pos) (s.get! pos).toNat (s.get! (pos+1)).toNat (s.get! (pos+2)).toNat (s.get! (pos+3)).toNat with⟨h1,_⟩|⟨_,_,_,h2,h3⟩|⟨_,_,_,_,h2,_,h3⟩|⟨_,_,_,_,_,h2,_,h3⟩|h3
 ·omega
 ·rw[h3];exact h2
 ·rw[h3];show 128<=_;omega
 ·rw[h3];show 128<=_;omega
 ·rw[h3];show 128<=65533;omega
theorem zn {p:Nat->Bool} {q:UInt8->Bool} (hp:∀x,128<=x->p x=true) (hq:∀c:UInt8,c.toNat<128->p c.toNat=q c) (jr:∀c:UInt8,128<=c.toNat->q c=true) (s:ByteArray):
  ∀(f pos:Nat),s.size<=pos+f->decide (0<=Lib.idxFuncFrom p true s f pos)=(s.data.toList.drop pos).any q
 | 0,pos,h=>by
   rw[List.drop_eq_nil_of_le (by show s.size<=pos;omega)];rfl
 | f+1,pos,h=>by
   rw[Lib.idxFuncFrom];by_cases lk:pos<s.size
   ·rw[if_pos lk]
    have hd:s.data.toList.drop pos=s[pos]::s.data.toList.drop (pos+1):=by
     rw[List.drop_eq_getElem_cons (show pos<s.data.toList.length from lk)];rfl
    rw[hd,List.any_cons];rcases Nat.lt_or_ge (s[pos]'lk).toNat 128 with h1|h1
    ·have abC:=decode_ascii s pos lk h1;rw[abC,hq _ h1];cases hqc:q s[pos]with
     | true=>simp
     | false=>
       simp only[Bool.false_eq_true,if_false,Bool.false_or];exact zn hp hq jr s f (pos+1) (by omega)
    ·rw[hp _ (tC s pos lk h1),jr _ h1]
     simp
   ·rw[if_neg lk,List.drop_eq_nil_of_le (by show s.size<=pos;omega)];rfl
theorem vO (l chars:Bs):Lib.containsAny l chars=l.any chars.contains:=by
 unfold Lib.containsAny
 induction l with
 | nil=>rfl
 | cons b r ih=>
   have AS:=Lib.indexAny_ge chars r;rw[Lib.indexAny,List.any_cons,<-ih];by_cases h:chars.contains b=true
   ·rw[if_pos h,h];simp
   ·rw[if_neg h];have h2:chars.contains b=false:=by simpa using h
    rw[h2,Bool.false_or,Bool.eq_iff_iff,decide_eq_true_eq,decide_eq_true_eq];by_cases h3:Lib.indexAny r chars= -1
    ·rw[h3];simp
    ·rw[if_neg (by simpa using h3)];omega
end Lz
namespace Go.Proofs.YtibcmemcfjhgmaaGreatDoor
open Go.RowKit
theorem Vf (a:Option Addr) (c:Nat) (sep:ByteArray) (w:World):Calls Tryz.prog 250 #[.slice a 0 c,.string sep] w (dX [] w):=by
 refine(Tryz.strings_Join_none a c sep w).mono ?_;rintro e w' ⟨h1,rfl⟩;exact⟨_,h1,Ih rfl,Below.refl _ _⟩
theorem CK (s p:ByteArray) (hs:s.size<=1073741824) (w:World) (hE:eU w):Calls Tryz.prog 70 #[.string s,.string p] w (qm (Lib.cut s.data.toList p.data.toList).1 (Lib.cut s.data.toList p.data.toList).2.1 (Lib.cut s.data.toList p.data.toList).2.2 w):=by
 obtain⟨m,hm⟩:=hE.ml;exact(Tryz.strings_Cut s p m w (by omega) hm).mono fun _ _ ⟨he,n,hw⟩=>⟨_,_,he,rfl,rfl,by rw[hw];exact below_drewN (Below.refl _ _) n⟩
def wZ (x:Nat):Bool:=if x<128 then Lz.pQ (UInt8.ofNat x)else true
def lJ:ByteArray:=⟨#[0,9,10,13,32,35,47,58,60,62,63,64,91,92,93,94,124]⟩
theorem IZ:∀x:Fin 128,32<x.val->x.val<127->x.val≠37->decide (0<=Lib.indexByte lJ.data.toList x.val.toUInt8)=Lz.pQ (UInt8.ofNat x.val):=by decide +kernel
theorem Ul:∀x:Fin 128,(x.val<=32\/127<=x.val\/x.val=37)->Lz.pQ (UInt8.ofNat x.val)=true:=by decide +kernel
theorem Nj (x:Nat) (hx:x<=1114111) (w:World):Calls Tryz.prog 323 #[.int .i32 (x:Int)] w fun e w'=>e=.returned (.bool (wZ x))/\Below w.heap.size w w':=by
 by_cases h:x<=32\/127<=x\/x=37
 ·have hp:wZ x=true:=by
   unfold wZ;split
   ·exact Ul ⟨x,by assumption⟩ h
   ·rfl
  rw[hp];rcases Nat.lt_or_ge 32 x with h1|h1
  ·have Lp:¬(x:Int)<=32:=by omega
   have h1b:decide ((x:Int)<=32)=false:=decide_eq_false Lp;rcases Nat.lt_or_ge x 127 with h2|h2
   ·have h3:x=37:=by omega
    have IP:decide (127<=(x:Int))=false:=decide_eq_false (by omega);have h3b:((x:Int)==37)=true:=by rw[h3];rfl
    have GG:¬127<=(x:Int):=by omega
    clear h h3 hp;go_enter Tryz.func323,Tryz.ntmps323
    go_wp2
    go_ret;exact⟨rfl,Below.refl _ _⟩
   ·have IP:decide (127<=(x:Int))=true:=decide_eq_true (by omega);have GG:127<=(x:Int):=by omega
    clear h hp;go_enter Tryz.func323,Tryz.ntmps323
    go_wp2
    go_ret;exact⟨rfl,Below.refl _ _⟩
  ·have Lp:(x:Int)<=32:=by omega
   have h1b:decide ((x:Int)<=32)=true:=decide_eq_true Lp;clear h hp;go_enter Tryz.func323,Tryz.ntmps323
   go_wp2
   go_ret;exact⟨rfl,Below.refl _ _⟩
 ·have hp:wZ x=decide (0<=Lib.indexByte lJ.data.toList x.toUInt8):=by
   unfold wZ;rw[if_pos (by omega)];exact(IZ ⟨x,by omega⟩ (by show 32<x;omega) (by show x<127;omega) (by show x≠37;omega)).symm
  have cC:=Tryz.strings_ContainsRune_ascii lJ (x:Int) w (by omega) (by omega);rw[show((x:Int)).toNat=x by omega,<-hp]at cC;have CC:=Ih cC;have Lp:¬(x:Int)<=32:=by omega
  have h1b:decide ((x:Int)<=32)=false:=decide_eq_false Lp;have GG:¬127<=(x:Int):=by omega
  have IP:decide (127<=(x:Int))=false:=decide_eq_false GG;have h3b:((x:Int)==37)=false:=beq_eq_false_iff_ne.2 (by omega);clear h hp cC;go_enter Tryz.func323,Tryz.ntmps323
  go_wp2_with fail
  refine(CC.out).mono ?_;rintro e w' ⟨rfl,rfl⟩
  go_wp2
  go_ret;exact⟨rfl,Below.refl _ _⟩
theorem PN (x:Nat) (h:128<=x):wZ x=true:=by unfold wZ;rw[if_neg (by omega)]
theorem RT (c:UInt8) (h:c.toNat<128):wZ c.toNat=Lz.pQ c:=by unfold wZ;rw[if_pos h];simp
theorem UA:∀c:UInt8,128<=c.toNat->Lz.pQ c=true:=Lz.aA (by decide +kernel)
theorem Qh (args:Array Value) (w:World):(callFunc 323 args).run Tryz.prog w=.ok (.enter 323 args) w:=enters_of Tryz.func323 (by kernel_rfl) rfl args w
theorem wY (s:ByteArray) (w:World):Calls Tryz.prog 171 #[.string s,.func (.func 323) #[] #[]] w fun e w'=>∃i:Int,e=.returned (.int .i64 i)/\Hid (decide (0<=i)=s.data.toList.any Lz.pQ)/\Below w.heap.size w w':=by
 refine(Tryz.strings_IndexFunc_grows 323 #[] Qh wZ s w (fun W x hx _=>Nj x hx W)).mono ?_;rintro e w' ⟨he,hb⟩;refine⟨_,he,Ih ?_,hb⟩;have:=Lz.zn PN RT UA s s.size 0 (by omega);rw[List.drop_zero]at this;exact this
theorem GW (s:ByteArray) (k:List UInt8):(s.toList==k)=decide (s.data.toList=k):=by
 rw[Lib.toList_data,Bool.eq_iff_iff];simp
theorem eS {s:ByteArray} {k:List UInt8} (h:s.data.toList=k):(s.toList==k)=true:=(GW s k).trans (decide_eq_true h)
theorem fU {s:ByteArray} {k:List UInt8} (h:¬s.data.toList=k):(s.toList==k)=false:=(GW s k).trans (decide_eq_false h)
theorem sm (s:ByteArray) (w:World):Calls Tryz.prog 202 #[.string s] w fun e w'=>e=.returned (.int .i64 (Lz.kC s.data.toList))/\w=w':=by
 by_cases h0:s.data.toList=[104,116,116,112]
 ·have g0:=eS h0;have HV:Hid (Lz.kC s.data.toList=80):=by show _=_;rw[h0];rfl
  clear h0;go_enter Tryz.func202,Tryz.ntmps202
  go_wp2_with fail
  go_ret;rw[HV.out];exact⟨rfl,rfl⟩
 ·have g0:=fU h0;by_cases h1:s.data.toList=[119,115]
  ·have g1:=eS h1;have HV:Hid (Lz.kC s.data.toList=80):=by show _=_;rw[h1];rfl
   clear h0 h1;go_enter Tryz.func202,Tryz.ntmps202
   go_wp2_with fail
   go_ret;rw[HV.out];exact⟨rfl,rfl⟩
  ·have g1:=fU h1;by_cases h2:s.data.toList=[104,116,116,112,115]
   ·have g2:=eS h2;have HV:Hid (Lz.kC s.data.toList=443):=by show _=_;rw[h2];rfl
    clear h0 h1 h2;go_enter Tryz.func202,Tryz.ntmps202
    go_wp2_with fail
    go_ret;rw[HV.out];exact⟨rfl,rfl⟩
   ·have g2:=fU h2;by_cases h3:s.data.toList=[119,115,115]
    ·have g3:=eS h3;have HV:Hid (Lz.kC s.data.toList=443):=by show _=_;rw[h3];rfl
     clear h0 h1 h2 h3;go_enter Tryz.func202,Tryz.ntmps202
     go_wp2_with fail
     go_ret;rw[HV.out];exact⟨rfl,rfl⟩
    ·have g3:=fU h3;by_cases h4:s.data.toList=[102,116,112]
     ·have g4:=eS h4;have HV:Hid (Lz.kC s.data.toList=21):=by show _=_;rw[h4];rfl
      clear h0 h1 h2 h3 h4;go_enter Tryz.func202,Tryz.ntmps202
      go_wp2_with fail
      go_ret;rw[HV.out];exact⟨rfl,rfl⟩
     ·have g4:=fU h4
      have HV:Hid (Lz.kC s.data.toList= -1):=by
       show _=_;unfold Lz.kC;rw[if_neg (fun h=>h.elim h0 h1),if_neg (fun h=>h.elim h2 h3),if_neg (show ¬s.data.toList=Lz.Yi from h4)]
      clear h0 h1 h2 h3 h4;go_enter Tryz.func202,Tryz.ntmps202
      go_wp2_with fail
      go_ret;rw[HV.out];exact⟨rfl,rfl⟩
theorem Cq (s:ByteArray) (w:World):Calls Tryz.prog 176 #[.string s] w fun e w'=>e=.returned (.bool (Lz.aj s.data.toList))/\w=w':=by
 by_cases h0:s.data.toList=[102,105,108,101]
 ·have g0:=eS h0;have HV:Hid (Lz.aj s.data.toList=true):=by show _=_;rw[h0];rfl
  clear h0;go_enter Tryz.func176,Tryz.ntmps176
  go_wp2_with fail
  go_ret;rw[HV.out];exact⟨rfl,rfl⟩
 ·have g0:=fU h0;have cD:=sm s w;obtain⟨d,hd⟩:∃d,d=Lz.kC s.data.toList:=⟨_,rfl⟩
  have HV:Hid (Lz.aj s.data.toList= !(d== -1)):=by
   show _=_;unfold Lz.aj;have:(s.data.toList==Lz.cJ)=false:=by rw[beq_eq_false_iff_ne];exact h0
   rw[this,Bool.false_or,hd]
  rw[<-hd]at cD;have CD:=Ih cD;have du:(d != -1)= !(d== -1):=rfl;clear h0 cD hd;go_enter Tryz.func176,Tryz.ntmps176
  go_wp2_with fail
  refine CD.out.mono ?_;rintro e w1 ⟨rfl,rfl⟩
  go_wp2_with fail
  go_ret;rw[HV.out];exact⟨by first |rfl|rw[du],rfl⟩
def mi:Option Nat->Int
 | some n=>n
 | none=> -1
theorem Bl (a b:UInt8):((a.toNat:Int)==(b.toNat:Int))=(a==b):=tT a b
theorem UO {s:ByteArray} (h:s.size=2):s.data.toList=[s[0],s[1]]:=by
 have h0:=aB (s:=s) (n:=0) (by omega);have h1:=aB (s:=s) (n:=1) (by omega);have hl:s.data.toList.length=2:=h;generalize s.data.toList=l at h0 h1 hl
 match l,hl with
 | [a,b],_=>
   have e0:a=s[0]:=by simpa using h0
   have e1:b=s[1]:=by simpa using h1
   rw[e0,e1]
theorem yT (s:ByteArray) (w:World):Calls Tryz.prog 179 #[.string s] w fun e w'=>e=.returned (.bool (Lz.cz s.data.toList))/\w=w':=by
 by_cases h2:s.size=2
 ·have h2I:((s.size:Int)==2)=true:=by simp;omega
  have Az:0<s.size:=by omega
  have SE:1<s.size:=by omega
  have acH:(0:Int)<(s.size:Int):=by omega
  have abP:(1:Int)<(s.size:Int):=by omega
  have hl:=UO h2;obtain⟨a,ha⟩:∃a,a=s[0]:=⟨_,rfl⟩;obtain⟨b,hb⟩:∃b,b=s[1]:=⟨_,rfl⟩;have haI:(s[0].toNat:Int)=(a.toNat:Int):=by rw[ha]
  have hbI:(s[1].toNat:Int)=(b.toNat:Int):=by rw[hb]
  rw[<-ha,<-hb]at hl;have HV:Hid (Lz.cz s.data.toList=(Lz.bn a&&(b==58||b==124))):=by show _=_;rw[hl];rfl
  have cA:=li a w;have b1:((b.toNat:Int)==58)=(b==58):=Bl b 58;have b2:((b.toNat:Int)==124)=(b==124):=Bl b 124;generalize Lz.bn a=p at cA HV;generalize (b==58)=q at b1 HV;generalize (b==124)=r at b2 HV;have CA:=Ih cA;have H2:=Ih h2;clear hl ha hb cA h2;cases p
  ·go_enter Tryz.func179,Tryz.ntmps179
   go_wp2_with fail
   refine CA.out.mono ?_;rintro e w1 ⟨rfl,rfl⟩
   go_wp2_with fail
   go_ret;rw[HV.out];exact⟨rfl,rfl⟩
  ·cases q
   ·go_enter Tryz.func179,Tryz.ntmps179
    go_wp2_with fail
    refine CA.out.mono ?_;rintro e w1 ⟨rfl,rfl⟩
    go_wp2_with fail
    go_ret;rw[HV.out];exact⟨by cases r<;>first |rfl|(rw[b2];rfl),rfl⟩
   ·go_enter Tryz.func179,Tryz.ntmps179
    go_wp2_with fail
    refine CA.out.mono ?_;rintro e w1 ⟨rfl,rfl⟩
    go_wp2_with fail
    go_ret;rw[HV.out];exact⟨rfl,rfl⟩
 ·have h2I:((s.size:Int)==2)=false:=by simp;omega
  have HV:Hid (Lz.cz s.data.toList=false):=by
   show _=_;have hl:s.data.toList.length≠2:=h2;generalize s.data.toList=l at hl
   match l,hl with
   | [],_=>rfl
   | [_],_=>rfl
   | [_,_],hl=>exact absurd rfl hl
   | _::_::_::_,_=>rfl
  go_enter Tryz.func179,Tryz.ntmps179
  go_wp2_with fail
  go_ret;rw[HV.out];exact⟨rfl,rfl⟩
theorem IY (s:ByteArray) (hs:s.size<=1048576) (w:World):Calls Tryz.prog 236 #[.string s] w fun e w'=>e=.returned (.int .i64 (mi (Lz.dR false s.data.toList)))/\w=w':=by
 obtain⟨o,ho⟩:∃o,o=Lz.dR false s.data.toList:=⟨_,rfl⟩;have Ho:=Ih ho;rw[<-ho];clear ho;go_enter Tryz.func236,Tryz.ntmps236
 go_wp2_with fail
 go_loopw [3,7] (fun i k wr=>∃(b:Bool) (j:Nat),i=.bool b/\k=.int .i64 j/\j<=s.size/\Hid (o=(Lz.dR b (s.data.toList.drop j)).map (·+j))/\w=wr) (fun _ k _=>s.size-(intOf k).toNat)
 case atStart=>exact⟨false,0,rfl,rfl,Nat.zero_le _,by show _=_;rw[Ho.out,List.drop_zero];simp,rfl⟩
 case round=>
  obtain⟨b,j,rfl,rfl,hj,hO,rfl⟩:=hrel;by_cases aL:j<s.size
  ·have aK:(j:Int)<(s.size:Int):=by omega
   have tI:(0:Int)<=(j:Int):=by omega
   obtain⟨c,hc⟩:∃c,c=s[j]:=⟨_,rfl⟩;have WU:(s[j].toNat:Int)=(c.toNat:Int):=by rw[hc]
   have hst:Hid (o=(if c==91 then(Lz.dR true (s.data.toList.drop (j+1))).map (·+1)else if c==93 then(Lz.dR false (s.data.toList.drop (j+1))).map (·+1)else if c==58&& !b then some 0 else(Lz.dR b (s.data.toList.drop (j+1))).map (·+1)).map (·+j)):=by
    show _=_;rw[hO.out,List.drop_eq_getElem_cons (show j<s.data.toList.length from aL),Lz.dR,hc];rfl
   have TG:∀x:Option Nat,(x.map (·+1)).map (·+j)=x.map (·+(j+1)):=by
    intro x;cases x with
    | none=>rfl
    | some n=>simp;omega
   have b1:((c.toNat:Int)==91)=(c==91):=Bl c 91;have b2:((c.toNat:Int)==93)=(c==93):=Bl c 93;have b3:((c.toNat:Int)==58)=(c==58):=Bl c 58;generalize (c==91)=q1 at b1 hst;generalize (c==93)=q2 at b2 hst;generalize (c==58)=q3 at b3 hst;have Hmm:=Ih TG;clear hc hO TG;cases q1
   ·cases q2
    ·cases q3
     ·have HN:Hid (o=(Lz.dR b (s.data.toList.drop (j+1))).map (·+(j+1))):=by show _=_;rw[hst.out,<-Hmm.out];rfl
      go_wp2_with fail
      go_roundw
      case rel=>exact⟨b,j+1,rfl,by go_num,by omega,HN,trivial⟩
      case measure=>simp[intOf];omega
     ·cases b
      ·have HN:Hid (o=some j):=by show _=_;rw[hst.out];simp
       go_wp2_with fail
       go_ret;rw[HN.out];exact⟨rfl,rfl⟩
      ·have HN:Hid (o=(Lz.dR true (s.data.toList.drop (j+1))).map (·+(j+1))):=by show _=_;rw[hst.out,<-Hmm.out];rfl
       go_wp2_with fail
       go_roundw
       case rel=>exact⟨true,j+1,rfl,by go_num,by omega,HN,trivial⟩
       case measure=>simp[intOf];omega
    ·have HN:Hid (o=(Lz.dR false (s.data.toList.drop (j+1))).map (·+(j+1))):=by show _=_;rw[hst.out,<-Hmm.out];rfl
     go_wp2_with fail
     go_roundw
     case rel=>exact⟨false,j+1,rfl,by go_num,by omega,HN,trivial⟩
     case measure=>simp[intOf];omega
   ·have HN:Hid (o=(Lz.dR true (s.data.toList.drop (j+1))).map (·+(j+1))):=by show _=_;rw[hst.out,<-Hmm.out];rfl
    go_wp2_with fail
    go_roundw
    case rel=>exact⟨true,j+1,rfl,by go_num,by omega,HN,trivial⟩
    case measure=>simp[intOf];omega
  ·have aK:¬(j:Int)<(s.size:Int):=by omega
   have HN:Hid (o=none):=by
    show _=_;rw[hO.out,List.drop_eq_nil_of_le (show s.data.toList.length<=j by rw[ac];omega)];rfl
   go_wp2_with fail
   go_ret;rw[HN.out];exact⟨rfl,rfl⟩
theorem gy (s:ByteArray) (k:Nat):(s.extract 0 k).data.toList=s.data.toList.take k:=by
 rw[Lib.extract_data];rfl
theorem nE (a:UInt32):BitVec.ofInt 32 (a.toNat:Int)=a.toBitVec:=by
 apply BitVec.eq_of_toNat_eq
 rw[BitVec.ofInt_natCast,BitVec.toNat_ofNat];exact Nat.mod_eq_of_lt a.toNat_lt
theorem ks (a:UInt64):BitVec.ofInt 64 (a.toNat:Int)=a.toBitVec:=by
 apply BitVec.eq_of_toNat_eq
 rw[BitVec.ofInt_natCast,BitVec.toNat_ofNat];exact Nat.mod_eq_of_lt a.toNat_lt
theorem w32 (a:UInt32):IntKind.u32.wrap (a.toNat:Int)=(a.toNat:Int):=IntWalk.u32_in _ (by have:=a.toNat_lt;omega)
theorem w64 (a:UInt64):IntKind.u64.wrap (a.toNat:Int)=(a.toNat:Int):=IntWalk.u64_in _ (by have:=a.toNat_lt;omega)
theorem Th (a b:UInt32):bits .xor .u32 (a.toNat:Int) (b.toNat:Int)=((a ^^^ b).toNat:Int):=by
 show IntKind.u32.wrap _=_;rw[<-w32 (a ^^^ b)];congr 2;show(BitVec.ofInt 32 _ ^^^ BitVec.ofInt 32 _).toNat=_;rw[nE,nE];rfl
theorem Tj (a b:UInt32):bits .and .u32 (a.toNat:Int) (b.toNat:Int)=((a&&& b).toNat:Int):=by
 show IntKind.u32.wrap _=_;rw[<-w32 (a&&& b)];congr 2;show(BitVec.ofInt 32 _&&& BitVec.ofInt 32 _).toNat=_;rw[nE,nE];rfl
theorem Zp (a b:UInt32):bits .or .u32 (a.toNat:Int) (b.toNat:Int)=((a||| b).toNat:Int):=by
 show IntKind.u32.wrap _=_;rw[<-w32 (a||| b)];congr 2;show(BitVec.ofInt 32 _||| BitVec.ofInt 32 _).toNat=_;rw[nE,nE];rfl
theorem Yl (a:UInt32):bits .xor .u32 4294967295 (a.toNat:Int)=((~~~a).toNat:Int):=by
 have h:=Th (0xFFFFFFFF:UInt32) a;have e:((0xFFFFFFFF:UInt32).toNat:Int)=4294967295:=rfl;rw[e]at h;rw[h]
 have:(0xFFFFFFFF:UInt32) ^^^ a= ~~~a:=by
  apply UInt32.toBitVec_inj.1
  show BitVec.allOnes 32 ^^^ a.toBitVec= ~~~a.toBitVec;rw[BitVec.allOnes_xor]
 rw[this]
theorem YO (a b:UInt32):IntKind.u32.wrap ((a.toNat:Int)+(b.toNat:Int))=((a+b).toNat:Int):=by
 rw[IntKind.wrap_u32,UInt32.toNat_add];omega
theorem Zg (a b:UInt64):bits .xor .u64 (a.toNat:Int) (b.toNat:Int)=((a ^^^ b).toNat:Int):=by
 show IntKind.u64.wrap _=_;rw[<-w64 (a ^^^ b)];congr 2;show(BitVec.ofInt 64 _ ^^^ BitVec.ofInt 64 _).toNat=_;rw[ks,ks];rfl
theorem Zi (a b:UInt64):bits .and .u64 (a.toNat:Int) (b.toNat:Int)=((a&&& b).toNat:Int):=by
 show IntKind.u64.wrap _=_;rw[<-w64 (a&&& b)];congr 2;show(BitVec.ofInt 64 _&&& BitVec.ofInt 64 _).toNat=_;rw[ks,ks];rfl
theorem aaZ (a b:UInt64):bits .or .u64 (a.toNat:Int) (b.toNat:Int)=((a||| b).toNat:Int):=by
 show IntKind.u64.wrap _=_;rw[<-w64 (a||| b)];congr 2;show(BitVec.ofInt 64 _||| BitVec.ofInt 64 _).toNat=_;rw[ks,ks];rfl
theorem UM (a b:UInt64):bits .andNot .u64 (a.toNat:Int) (b.toNat:Int)=((a&&& ~~~b).toNat:Int):=by
 show IntKind.u64.wrap _=_;rw[<-w64 (a&&& ~~~b)];congr 2;show(BitVec.ofInt 64 _&&& ~~~ BitVec.ofInt 64 _).toNat=_;rw[ks,ks];rfl
theorem Yw (a b:UInt64):IntKind.u64.wrap ((a.toNat:Int)+(b.toNat:Int))=((a+b).toNat:Int):=by
 rw[IntKind.wrap_u64,UInt64.toNat_add];omega
theorem Yg (a:UInt32) (n:Nat) (h:n<32):(a.toNat:Int) / 2^n=((a>>>UInt32.ofNat n).toNat:Int):=by
 rw[UInt32.toNat_shiftRight,UInt32.toNat_ofNat',Nat.mod_eq_of_lt (show n<2^32 by omega),Nat.mod_eq_of_lt h,Nat.shiftRight_eq_div_pow]
 simp
theorem Yb (a:UInt32) (n:Nat) (h:n<32):IntKind.u32.wrap ((a.toNat:Int)*2^n)=((a<<<UInt32.ofNat n).toNat:Int):=by
 rw[IntKind.wrap_u32,UInt32.toNat_shiftLeft,UInt32.toNat_ofNat',Nat.mod_eq_of_lt (show n<2^32 by omega),Nat.mod_eq_of_lt h,Nat.shiftLeft_eq]
 simp
theorem YP (a:UInt64) (n:Nat) (h:n<64):(a.toNat:Int) / 2^n=((a>>>UInt64.ofNat n).toNat:Int):=by
 rw[UInt64.toNat_shiftRight,UInt64.toNat_ofNat',Nat.mod_eq_of_lt (show n<2^64 by omega),Nat.mod_eq_of_lt h,Nat.shiftRight_eq_div_pow]
 simp
theorem Yj (a:UInt64) (n:Nat) (h:n<64):IntKind.u64.wrap ((a.toNat:Int)*2^n)=((a<<<UInt64.ofNat n).toNat:Int):=by
 rw[IntKind.wrap_u64,UInt64.toNat_shiftLeft,UInt64.toNat_ofNat',Nat.mod_eq_of_lt (show n<2^64 by omega),Nat.mod_eq_of_lt h,Nat.shiftLeft_eq]
 simp
def N32 (a:UInt32):Int:=(a.toNat:Int)
def N64 (a:UInt64):Int:=(a.toNat:Int)
theorem rq (a b:UInt32):bits .xor .u32 (N32 a) (N32 b)=N32 (a ^^^ b):=Th a b
theorem KA (a b:UInt32):bits .and .u32 (N32 a) (N32 b)=N32 (a&&& b):=Tj a b
theorem M9 (a b:UInt32):bits .or .u32 (N32 a) (N32 b)=N32 (a||| b):=Zp a b
theorem Vl (a:UInt32):bits .xor .u32 4294967295 (N32 a)=N32 (~~~a):=Yl a
theorem jx (a b:UInt32):IntKind.u32.wrap (N32 a+N32 b)=N32 (a+b):=YO a b
theorem sZ (a:UInt32) (n:Nat) (h:n<32):N32 a / 2^n=N32 (a>>>UInt32.ofNat n):=Yg a n h
theorem MF (a:UInt32) (n:Nat) (h:n<32):IntKind.u32.wrap (N32 a*2^n)=N32 (a<<<UInt32.ofNat n):=Yb a n h
theorem qO (a b:UInt64):bits .xor .u64 (N64 a) (N64 b)=N64 (a ^^^ b):=Zg a b
theorem Kp (a b:UInt64):bits .and .u64 (N64 a) (N64 b)=N64 (a&&& b):=Zi a b
theorem PL (a b:UInt64):bits .or .u64 (N64 a) (N64 b)=N64 (a||| b):=aaZ a b
theorem abf (a b:UInt64):bits .andNot .u64 (N64 a) (N64 b)=N64 (a&&& ~~~b):=UM a b
theorem kg (a b:UInt64):IntKind.u64.wrap (N64 a+N64 b)=N64 (a+b):=Yw a b
theorem Ed (a:UInt64) (n:Nat) (h:n<64):N64 a / 2^n=N64 (a>>>UInt64.ofNat n):=YP a n h
theorem Vo (a:UInt64) (n:Nat) (h:n<64):IntKind.u64.wrap (N64 a*2^n)=N64 (a<<<UInt64.ofNat n):=Yj a n h
theorem abb (a:UInt64):IntKind.u64.wrap (N64 a)=N64 a:=w64 a
theorem GZ:∀n:Fin 32,0<n.val->IntKind.u64.wrap (-(n.val:Int))=18446744073709551616-(n.val:Int)/\bits .and .u64 (18446744073709551616-(n.val:Int)) 31=((32-n.val:Nat):Int)/\(32:UInt32)-UInt32.ofNat n.val=UInt32.ofNat (32-n.val):=by decide +kernel
theorem IF:∀n:Fin 64,0<n.val->IntKind.u64.wrap (-(n.val:Int))=18446744073709551616-(n.val:Int)/\bits .and .u64 (18446744073709551616-(n.val:Int)) 63=((64-n.val:Nat):Int)/\(64:UInt64)-UInt64.ofNat n.val=UInt64.ofNat (64-n.val):=by decide +kernel
theorem Fp (x:UInt32) (n:Nat) (h0:0<n) (hn:n<32) (w:World):Calls Tryz.prog 197 #[.int .u32 (N32 x),.int .i64 (-(n:Int))] w fun e w'=>e=.returned (.int .u32 (N32 (Lz.aH x (UInt32.ofNat n))))/\w=w':=by
 obtain⟨k1,k2,k3⟩:=GZ ⟨n,hn⟩ h0;simp only at k1 k2 k3;obtain⟨m,hm⟩:∃m,m=32-n:=⟨_,rfl⟩;rw[<-hm]at k2 k3;obtain⟨c,hc⟩:∃c:Int,c=18446744073709551616-(n:Int):=⟨_,rfl⟩;rw[<-hc]at k1 k2;have wF:(0:Int)<=(m:Int):=by omega
 have Ax:(m:Int)<=32:=by omega
 have hs:IntKind.u64.wrap ((32:Int)-(m:Int))=(n:Int):=by rw[show(32:Int)-(m:Int)=(n:Int) by omega];exact IntWalk.u64_in _ (by omega)
 have wN:(0:Int)<=(n:Int):=by omega
 have DN:(n:Int)<=32:=by omega
 have e1:=MF x m (by omega);have e2:=sZ x n hn;have e3:=M9 (x<<<UInt32.ofNat m) (x>>>UInt32.ofNat n)
 have HV:Hid (Lz.aH x (UInt32.ofNat n)=(x<<<UInt32.ofNat m)||| (x>>>UInt32.ofNat n)):=by
  show _=_;unfold Lz.aH;rw[k3]
 clear hc k3 hm;go_enter Tryz.func197,Tryz.ntmps197
 go_wp2_with fail
 go_ret;exact⟨by rw[HV.out];rfl,rfl⟩
theorem pr (x:UInt64) (n:Nat) (h0:0<n) (hn:n<64) (w:World):Calls Tryz.prog 243 #[.int .u64 (N64 x),.int .i64 (-(n:Int))] w fun e w'=>e=.returned (.int .u64 (N64 (Lz.aU x (UInt64.ofNat n))))/\w=w':=by
 obtain⟨k1,k2,k3⟩:=IF ⟨n,hn⟩ h0;simp only at k1 k2 k3;obtain⟨m,hm⟩:∃m,m=64-n:=⟨_,rfl⟩;rw[<-hm]at k2 k3;obtain⟨c,hc⟩:∃c:Int,c=18446744073709551616-(n:Int):=⟨_,rfl⟩;rw[<-hc]at k1 k2;have wF:(0:Int)<=(m:Int):=by omega
 have Ax:(m:Int)<=64:=by omega
 have hs:IntKind.u64.wrap ((64:Int)-(m:Int))=(n:Int):=by rw[show(64:Int)-(m:Int)=(n:Int) by omega];exact IntWalk.u64_in _ (by omega)
 have wN:(0:Int)<=(n:Int):=by omega
 have DN:(n:Int)<=64:=by omega
 have e1:=Vo x m (by omega);have e2:=Ed x n hn;have e3:=PL (x<<<UInt64.ofNat m) (x>>>UInt64.ofNat n)
 have HV:Hid (Lz.aU x (UInt64.ofNat n)=(x<<<UInt64.ofNat m)||| (x>>>UInt64.ofNat n)):=by
  show _=_;unfold Lz.aU;rw[k3]
 clear hc k3 hm;go_enter Tryz.func243,Tryz.ntmps243
 go_wp2_with fail
 go_ret;exact⟨by rw[HV.out];rfl,rfl⟩
theorem gA (x:UInt32) (n:Nat) (h0:0<n) (hn:n<32) (w:World):Calls Tryz.prog 139 #[.int .u32 (N32 x),.int .i64 (n:Int)] w fun e w'=>e=.returned (.int .u32 (N32 (Lz.aH x (UInt32.ofNat n))))/\w=w':=by
 have cR:=Ih (Fp x n h0 hn w);have hw:IntKind.i64.wrap (-(n:Int))= -(n:Int):=IntWalk.i64_in _ (by omega);go_enter Tryz.func139,Tryz.ntmps139
 go_wp2_with fail
 refine cR.out.mono ?_;rintro e w1 ⟨rfl,rfl⟩
 go_wp2_with fail
 go_ret;exact⟨rfl,rfl⟩
end Go.Proofs.YtibcmemcfjhgmaaGreatDoor
