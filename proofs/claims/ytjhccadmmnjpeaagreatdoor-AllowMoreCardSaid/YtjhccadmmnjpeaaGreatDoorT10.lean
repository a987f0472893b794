/-
  Package urls: the maker in memory; a path of one's own; append to it.
-/
import Derived.Test.YtjhccadmmnjpeaaGreatDoorT08
import Derived.Test.YtjhccadmmnjpeaaGreatDoorT09
import Derived.Lib.MapLaws
import Derived.Deep.RegionHeld3
set_option maxHeartbeats 1000000
set_option maxRecDepth 100000
namespace Lz
open Go
def baseD (b n:Nat):Bs:=if _h:n<b\/b<2 then[hex1 n]else baseD b (n / b)++[hex1 (n%b)]
 termination_by n
 decreasing_by exact Nat.div_lt_self (by omega) (by omega)
theorem baseD_small {b n:Nat} (h:n<b):baseD b n=[hex1 n]:=by rw[baseD,dif_pos (Or.inl h)]
theorem baseD_big {b n:Nat} (hb:2<=b) (h:¬n<b):baseD b n=baseD b (n / b)++[hex1 (n%b)]:=by rw[baseD,dif_neg (by omega)]
theorem baseD_hex (n:Nat):baseD 16 n=hexD n:=by
 induction n using Nat.strongRecOn with
 | ind n ih=>
   by_cases h:n<16
   ·rw[baseD_small h,hexD_small h]
   ·rw[baseD_big (by omega) h,hexD_big h,ih (n / 16) (by omega)]
def ipP (s:Bs):Bool:=match hostPr s true with
 | .ok h=>h==s&&(s[0]? ==some 91||numberedP s)
 | .er _=>false
end Lz
namespace Lz
theorem mask15 (x:Nat):x&&& 15=x%16:=Nat.and_two_pow_sub_one_eq_mod x 4
end Lz
namespace Go.Proofs.YtjhccadmmnjpeaaGreatDoor
open Go.RowKit
theorem pow2_16 (w:World):Calls Tryz.prog 279 #[.int .i64 16] w fun e w'=>e=.returned (.bool true)/\w=w':=by
 go_enter Tryz.func279,Tryz.ntmps279
 go_wp2
 go_ret;exact⟨rfl,rfl⟩
theorem db_at16:IntKind.u64.wrap (bits BinOp.and IntKind.u64 16 (IntKind.u64.wrap (-16))*285870213051353865) / 288230376151711744=15:=by decide +kernel
theorem tz64_16 (w:World) (h:w.cell? ⟨12,15,none⟩=some (.int .u8 4)):Calls Tryz.prog 307 #[.int .u64 16] w fun e w'=>e=.returned (.int .i64 4)/\w=w':=by
 have hx:=db_at16;go_enter Tryz.func307,Tryz.ntmps307
 go_wp2
 go_ret;exact⟨rfl,rfl⟩
theorem tz_16 (w:World) (h:w.cell? ⟨12,15,none⟩=some (.int .u8 4)):Calls Tryz.prog 280 #[.int .u64 16] w fun e w'=>e=.returned (.int .i64 4)/\w=w':=by
 go_enter Tryz.func280,Tryz.ntmps280
 go_wp2_with fail
 refine(tz64_16 _ h).mono ?_;rintro e w' ⟨rfl,rfl⟩
 go_wp2
 go_ret;exact⟨rfl,rfl⟩
def RFmt (l:List UInt8) (w:World) (e:Ending) (w':World):Prop:=∃(u:ByteArray) (v:Value),e=.returned (.tuple #[v,.string u])/\Hid (u.data.toList=l)/\Below w.heap.size w w'
theorem zero65:Tryz.zeroCells303=((List.replicate 65 (0:UInt8)).map fun c=>Value.int .u8 (c.toNat:Int)).toArray:=by kernel_rfl
theorem byteRow_cells (w:World) (l:List UInt8) (T:TypeId):ByteRow (w.alloc (.cells (l.map fun c=>Value.int .u8 (c.toNat:Int)).toArray T)) w.heap.size l:=by
 intro j c h;refine⟨?_,?_⟩
 ·rw[World.cell?_alloc_mark];simp[h]
 ·simp
theorem fmt_len (b:Nat) (hb:8<=b) (u m n:Nat) (hu:b<=u) (h:u*b^m<=n) (hn:n<=1099511627776):m+1<=13:=by
 rcases Nat.lt_or_ge m 13 with h1|h1
 ·omega
 ·exfalso
  have h2:8^13<=b^m:=Nat.le_trans (Nat.pow_le_pow_left hb 13) (Nat.pow_le_pow_right (by omega) h1);have h3:8*8^13<=u*b^m:=Nat.mul_le_mul (by omega) h2;omega
theorem digs1:∀d:Fin 16,(⟨#[48,49,50,51,52,53,54,55,56,57,97,98,99,100,101,102,103,104,105,106,107,108,109,110,111,112,113,114,115,116,117,118,119,120,121,122]⟩:ByteArray)[d.val]'(Nat.lt_trans d.isLt (by decide))=Lz.hex1 d.val:=by decide +kernel
theorem digs (d:Nat) (h:d<16) {h':d<(⟨#[48,49,50,51,52,53,54,55,56,57,97,98,99,100,101,102,103,104,105,106,107,108,109,110,111,112,113,114,115,116,117,118,119,120,121,122]⟩:ByteArray).size}:(⟨#[48,49,50,51,52,53,54,55,56,57,97,98,99,100,101,102,103,104,105,106,107,108,109,110,111,112,113,114,115,116,117,118,119,120,121,122]⟩:ByteArray)[d]'h'=Lz.hex1 d:=digs1 ⟨d,h⟩
theorem fmtBits_16 (n:Nat) (hn:n<=1099511627776) (w:World) (h:w.cell? ⟨12,15,none⟩=some (.int .u8 4)):Calls Tryz.prog 250 #[.slice none 0 0,.int .u64 n,.int .i64 16,.bool false,.bool false] w (RFmt (Lz.baseD 16 n) w):=by
 have hmade:=byteRow_cells w (List.replicate 65 0) 303;rw[<-zero65]at hmade;have hb0:Below w.heap.size w (w.alloc (.cells Tryz.zeroCells303 303)):=(Below.refl _ w).alloc (Nat.le_refl _) _
 have h':(w.alloc (.cells Tryz.zeroCells303 303)).cell? ⟨12,15,none⟩=some (.int .u8 4):=by
  rw[World.cell?_alloc_lt _ _ ⟨12,15,none⟩ (World.block_lt_of_cell? _ _ h)];exact h
 have Hm:=Ih hmade;have H0:=Ih hb0;have Ht:=Ih h';have HN:=Ih hn;clear hmade hb0 h' h;go_enter Tryz.func250,Tryz.ntmps250
 go_wp2_with fail
 refine(pow2_16 _).mono ?_;rintro e w' ⟨rfl,rfl⟩
 go_wp2_with fail
 refine(tz_16 _ Ht.out).mono ?_;rintro e w' ⟨rfl,rfl⟩;have hrow0:=Hm.out;have hbx:=H0.out;generalize w.alloc (.cells Tryz.zeroCells303 303)=wx at hrow0 hbx⊢;clear Hm H0 Ht
 go_wp2_with fail
 go_loopw [1,13] (fun a i wr=>∃(u:Nat) (D L:List UInt8),D.length<=13/\u<=1099511627776/\a=.int .u64 u/\i=.int .i64 ((65-D.length:Nat):Int)/\ByteRow wr w.heap.size L/\Hid (L.length=65)/\Hid (L.drop (65-D.length)=D)/\Hid (Lz.baseD 16 n=Lz.baseD 16 u++D)/\Hid (u*16^D.length<=n)/\Below w.heap.size w wr) (fun a _ _=>(intOf a).toNat)
 case atStart=>exact⟨n,[],List.replicate 65 0,by simp,HN.out,rfl,rfl,hrow0,Ih (by simp),Ih (by simp),Ih (by simp),Ih (by simp),hbx⟩
 case round=>
  clear hrow0 hbx;obtain⟨u,D,L,hD,hu,rfl,rfl,hrow,hL,hLD,hE,hle,hb⟩:=hrel;obtain⟨i,hi⟩:∃i:Nat,i=64-D.length:=⟨_,rfl⟩;have hi1:65-D.length=i+1:=by omega
  have hi2:i<65:=by omega
  rw[hi1];have hLD2:Hid (L.drop (i+1)=D):=by show _=_;have:=hLD.out;rw[hi1]at this;exact this
  obtain⟨c0,hc0⟩:∃c,L[i]? =some c:=⟨_,List.getElem?_eq_getElem (by rw[hL.out];exact hi2)⟩;obtain⟨hc1,hc2⟩:=hrow i c0 hc0;have hi3:((i+1:Nat):Int)-1=i:=by omega
  have hi4:(0:Int)<=i:=by omega
  have hi5:(i:Int)<65:=by omega
  have hset:∀c:UInt8,ByteRow (wr.setCell ⟨w.heap.size,i,none⟩ (.int .u8 (c.toNat:Int))) w.heap.size (L.set i c)/\(L.set i c).length=65/\(L.set i c).drop i=c::D:=fun c=>by
   refine⟨hrow.set i c,by rw[List.length_set];exact hL.out,?_⟩;rw[List.drop_eq_getElem_cons (by rw[List.length_set,hL.out];exact hi2),List.getElem_set_self,List.drop_set_of_lt (by omega),hLD2.out]
  have Hset:=Ih hset;have Hi:=Ih hi;clear hset hi1 hLD hLD2 hc0 hrow hL hi;by_cases hub:u<16
  ·have hul:(u:Int)<16:=by omega
   have hE2:Hid (Lz.baseD 16 n=Lz.hex1 u::D):=by
    show _=_;rw[hE.out,Lz.baseD_small hub];rfl
   clear hE hle
   go_upto_region 25 with fail
   rw[digs u (by omega)];obtain⟨r1,r2,r3⟩:=Hset.out (Lz.hex1 u);have hb2:=hb.setCell (Nat.le_refl _) (p:=⟨w.heap.size,i,none⟩) (.int .u8 ((Lz.hex1 u).toNat:Int));generalize wr.setCell ⟨w.heap.size,i,none⟩ (.int .u8 ((Lz.hex1 u).toNat:Int))=w2 at r1 hb2⊢;have hal:Tryz.prog.arrayLen 303=65:=by simp[Program.arrayLen,Tryz.underlying303]
   have hsl:∀W,(Instr.sliceAt 303 (.pointer (some ⟨w.heap.size,0,none⟩)) (some (.int .i64 (i:Int))) none none).run Tryz.prog W=.ok (.slice (some ⟨w.heap.size,i,none⟩) (65-i) (65-i)) W:=fun W=>by
    rw[run_sliceAt_array_l W 303 ⟨w.heap.size,0,none⟩ (by simp[Program.arrayLen,Program.elem,Tryz.underlying303]) .i64 (i:Int) (by omega) (by rw[hal];omega)];go_simp;intro h;omega
   have hcv:∀W,W=w2->(convert 30 9 (.slice (some ⟨w.heap.size,i,none⟩) (65-i) (65-i))).run Tryz.prog W=.ok (.string ⟨(Lz.hex1 u::D).toArray⟩) W:=by
    rintro W rfl
    have hc:=run_convert_bytes_back (P:=Tryz.prog) W 30 9 5 ⟨w.heap.size,i,none⟩ (65-i) (Lz.hex1 u::D) Tryz.underlying30 Tryz.underlying5 Tryz.underlying9 (by
     intro j hj;have hg:((L.set i (Lz.hex1 u)).drop i)[j]? =some (Lz.hex1 u::D)[j]:=by rw[r3];exact List.getElem?_eq_getElem hj
     rw[List.getElem?_drop]at hg;have:=(r1 (i+j) _ hg).1;rw[show(⟨w.heap.size,i,none⟩:Addr).add j=⟨w.heap.size,i+j,none⟩ by simp[Addr.add]];exact this)
    rw[show(Lz.hex1 u::D).length=65-i by rw[List.length_cons,Hi.out];omega]at hc;exact hc
   have hcv2:=hcv w2 rfl;clear hal hcv r1 r3 Hset hc1 hc2
   go_wp2
   go_ret2
   exact⟨_,_,rfl,Ih (by rw[hE2.out]),hb2⟩
  ·have hug:(16:Int)<=(u:Int):=by omega
   have hd:=Lz.baseD_big (b:=16) (n:=u) (by omega) hub
   have hE2:Hid (Lz.baseD 16 n=Lz.baseD 16 (u / 16)++(Lz.hex1 (u%16)::D)):=by
    show _=_;rw[hE.out,hd];simp
   have hle2:Hid (u / 16*16^(Lz.hex1 (u%16)::D).length<=n):=by
    show _<=_;refine Nat.le_trans ?_ hle.out;rw[List.length_cons,Nat.pow_succ,Nat.mul_comm (16^_) 16,<-Nat.mul_assoc];exact Nat.mul_le_mul_right _ (Nat.div_mul_le_self u 16)
   have hD2:D.length+1<=13:=fmt_len 16 (by omega) u D.length n (by omega) hle.out HN.out;have hand:bits .and .u64 (u:Int) 15=((u%16:Nat):Int):=by rw[show(15:Int)=((15:Nat):Int)from rfl,u64_and_nat _ _ (by omega) (by omega),Lz.mask15]
   have hm16:u%16<16:=by omega
   generalize u%16=d at hand hm16 hE2 hle2;clear hd hE hle
   go_wp2_with fail
   rw[digs d hm16]
   go_roundw
   case rel=>
    obtain⟨r1,r2,r3⟩:=Hset.out (Lz.hex1 d);exact⟨u / 16,Lz.hex1 d::D,L.set i (Lz.hex1 d),by simpa using hD2,by omega,by go_num,by rw[List.length_cons,Hi.out];congr 2;omega,r1,r2,Ih (by rw[List.length_cons,show 65-(D.length+1)=i by rw[Hi.out];omega];exact r3),hE2,hle2,hb.setCell (Nat.le_refl _) _⟩
   case measure=>simp[intOf];omega
theorem FormatUintI_16 (n:Nat) (hn:n<=1099511627776) (w:World) (h:w.cell? ⟨12,15,none⟩=some (.int .u8 4)):Calls Tryz.prog 319 #[.int .u64 n,.int .i64 16] w (RStr (Lz.baseD 16 n) w):=by
 have cF:=Ih (fmtBits_16 n hn w h);go_enter Tryz.func319,Tryz.ntmps319
 go_wp2_with fail
 refine(cF.out).mono ?_;rintro e w1 ⟨u,v,rfl,hu,hb⟩
 go_wp2
 go_ret;exact⟨u,rfl,hu,hb⟩
theorem FormatUint_16 (n:Nat) (hn:n<=1099511627776) (w:World) (h:w.cell? ⟨12,15,none⟩=some (.int .u8 4)):Calls Tryz.prog 314 #[.int .u64 n,.int .i64 16] w (RStr (Lz.baseD 16 n) w):=by
 have cF:=Ih (FormatUintI_16 n hn w h);go_enter Tryz.func314,Tryz.ntmps314
 go_wp2_with fail
 refine(cF.out).mono ?_;rintro e w1 ⟨u,rfl,hu,hb⟩
 go_wp2
 go_ret;exact⟨u,rfl,hu,hb⟩
end Go.Proofs.YtjhccadmmnjpeaaGreatDoor
namespace Lz
open Go
theorem rune_hi (s:ByteArray) (pos:Nat) (h:pos<s.size) (hb:128<=(s[pos]'h).toNat):128<=(Utf8.decode s pos).1:=by
 rw[Lib.decode_at]
 have h0:(s.get! pos).toNat=(s[pos]'h).toNat:=by
  congr 1;show s.data[pos]! =_;rw[getElem!_pos s.data pos h];rfl
 rcases Lib.decodeN_shape (s.size-pos) (s.get! pos).toNat (s.get! (pos+1)).toNat (s.get! (pos+2)).toNat (s.get! (pos+3)).toNat with⟨h1,_⟩|⟨_,_,_,h2,h3⟩|⟨_,_,_,_,h2,_,h3⟩|⟨_,_,_,_,_,h2,_,h3⟩|h3
 ·omega
 ·rw[h3];exact h2
 ·rw[h3];show 128<=_;omega
 ·rw[h3];show 128<=_;omega
 ·rw[h3];show 128<=65533;omega
theorem idx_any {p:Nat->Bool} {q:UInt8->Bool} (hp:∀x,128<=x->p x=true) (hq:∀c:UInt8,c.toNat<128->p c.toNat=q c) (hq2:∀c:UInt8,128<=c.toNat->q c=true) (s:ByteArray):
  ∀(f pos:Nat),s.size<=pos+f->decide (0<=Lib.idxFuncFrom p true s f pos)=(s.data.toList.drop pos).any q
 | 0,pos,h=>by
   rw[List.drop_eq_nil_of_le (by show s.size<=pos;omega)];rfl
 | f+1,pos,h=>by
   rw[Lib.idxFuncFrom];by_cases hps:pos<s.size
   ·rw[if_pos hps]
    have hd:s.data.toList.drop pos=s[pos]::s.data.toList.drop (pos+1):=by
     rw[List.drop_eq_getElem_cons (show pos<s.data.toList.length from hps)];rfl
    rw[hd,List.any_cons];rcases Nat.lt_or_ge (s[pos]'hps).toNat 128 with h1|h1
    ·have hdec:=decode_ascii s pos hps h1;rw[hdec,hq _ h1];cases hqc:q s[pos]with
     | true=>simp
     | false=>
       simp only[Bool.false_eq_true,if_false,Bool.false_or];exact idx_any hp hq hq2 s f (pos+1) (by omega)
    ·rw[hp _ (rune_hi s pos hps h1),hq2 _ h1]
     simp
   ·rw[if_neg hps,List.drop_eq_nil_of_le (by show s.size<=pos;omega)];rfl
theorem containsAny_eq (l chars:Bs):Lib.containsAny l chars=l.any chars.contains:=by
 unfold Lib.containsAny
 induction l with
 | nil=>rfl
 | cons b r ih=>
   have hge:=Lib.indexAny_ge chars r;rw[Lib.indexAny,List.any_cons,<-ih];by_cases h:chars.contains b=true
   ·rw[if_pos h,h];simp
   ·rw[if_neg h];have h2:chars.contains b=false:=by simpa using h
    rw[h2,Bool.false_or,Bool.eq_iff_iff,decide_eq_true_eq,decide_eq_true_eq];by_cases h3:Lib.indexAny r chars= -1
    ·rw[h3];simp
    ·rw[if_neg (by simpa using h3)];omega
end Lz
namespace Go.Proofs.YtjhccadmmnjpeaaGreatDoor
open Go.RowKit
theorem Join_z (a:Option Addr) (c:Nat) (sep:ByteArray) (w:World):Calls Tryz.prog 224 #[.slice a 0 c,.string sep] w (RStr [] w):=by
 refine(Tryz.strings_Join_none a c sep w).mono ?_;rintro e w' ⟨h1,rfl⟩;exact⟨_,h1,Ih rfl,Below.refl _ _⟩
theorem Cut_h (s p:ByteArray) (hs:s.size<=1073741824) (w:World) (hE:EnvH w):Calls Tryz.prog 67 #[.string s,.string p] w (RStrStrB (Lib.cut s.data.toList p.data.toList).1 (Lib.cut s.data.toList p.data.toList).2.1 (Lib.cut s.data.toList p.data.toList).2.2 w):=by
 obtain⟨m,hm⟩:=hE.ml;exact(Tryz.strings_Cut s p m w (by omega) hm).mono fun _ _ ⟨he,n,hw⟩=>⟨_,_,he,rfl,rfl,by rw[hw];exact below_drewN (Below.refl _ _) n⟩
def pDom (x:Nat):Bool:=if x<128 then Lz.oddB (UInt8.ofNat x)else true
def bannedB:ByteArray:=⟨#[0,9,10,13,32,35,47,58,60,62,63,64,91,92,93,94,124]⟩
theorem banned_at:∀x:Fin 128,32<x.val->x.val<127->x.val≠37->decide (0<=Lib.indexByte bannedB.data.toList x.val.toUInt8)=Lz.oddB (UInt8.ofNat x.val):=by decide +kernel
theorem odd_at:∀x:Fin 128,(x.val<=32\/127<=x.val\/x.val=37)->Lz.oddB (UInt8.ofNat x.val)=true:=by decide +kernel
theorem dom1_any (x:Nat) (hx:x<=1114111) (w:World):Calls Tryz.prog 302 #[.int .i32 (x:Int)] w fun e w'=>e=.returned (.bool (pDom x))/\Below w.heap.size w w':=by
 by_cases h:x<=32\/127<=x\/x=37
 ·have hp:pDom x=true:=by
   unfold pDom;split
   ·exact odd_at ⟨x,by assumption⟩ h
   ·rfl
  rw[hp];rcases Nat.lt_or_ge 32 x with h1|h1
  ·have h1':¬(x:Int)<=32:=by omega
   have h1b:decide ((x:Int)<=32)=false:=decide_eq_false h1';rcases Nat.lt_or_ge x 127 with h2|h2
   ·have h3:x=37:=by omega
    have h2b:decide (127<=(x:Int))=false:=decide_eq_false (by omega);have h3b:((x:Int)==37)=true:=by rw[h3];rfl
    have h2':¬127<=(x:Int):=by omega
    clear h h3 hp;go_enter Tryz.func302,Tryz.ntmps302
    go_wp2
    go_ret;exact⟨rfl,Below.refl _ _⟩
   ·have h2b:decide (127<=(x:Int))=true:=decide_eq_true (by omega);have h2':127<=(x:Int):=by omega
    clear h hp;go_enter Tryz.func302,Tryz.ntmps302
    go_wp2
    go_ret;exact⟨rfl,Below.refl _ _⟩
  ·have h1':(x:Int)<=32:=by omega
   have h1b:decide ((x:Int)<=32)=true:=decide_eq_true h1';clear h hp;go_enter Tryz.func302,Tryz.ntmps302
   go_wp2
   go_ret;exact⟨rfl,Below.refl _ _⟩
 ·have hp:pDom x=decide (0<=Lib.indexByte bannedB.data.toList x.toUInt8):=by
   unfold pDom;rw[if_pos (by omega)];exact(banned_at ⟨x,by omega⟩ (by show 32<x;omega) (by show x<127;omega) (by show x≠37;omega)).symm
  have cC:=Tryz.strings_ContainsRune_ascii bannedB (x:Int) w (by omega) (by omega);rw[show((x:Int)).toNat=x by omega,<-hp]at cC;have CC:=Ih cC;have h1':¬(x:Int)<=32:=by omega
  have h1b:decide ((x:Int)<=32)=false:=decide_eq_false h1';have h2':¬127<=(x:Int):=by omega
  have h2b:decide (127<=(x:Int))=false:=decide_eq_false h2';have h3b:((x:Int)==37)=false:=beq_eq_false_iff_ne.2 (by omega);clear h hp cC;go_enter Tryz.func302,Tryz.ntmps302
  go_wp2_with fail
  refine(CC.out).mono ?_;rintro e w' ⟨rfl,rfl⟩
  go_wp2
  go_ret;exact⟨rfl,Below.refl _ _⟩
theorem pDom_hi (x:Nat) (h:128<=x):pDom x=true:=by unfold pDom;rw[if_neg (by omega)]
theorem pDom_lo (c:UInt8) (h:c.toNat<128):pDom c.toNat=Lz.oddB c:=by unfold pDom;rw[if_pos h];simp
theorem odd_hi:∀c:UInt8,128<=c.toNat->Lz.oddB c=true:=Lz.byte_all (by decide +kernel)
theorem fn_dom1 (args:Array Value) (w:World):(callFunc 302 args).run Tryz.prog w=.ok (.enter 302 args) w:=enters_of Tryz.func302 (by kernel_rfl) rfl args w
theorem IndexFunc_dom (s:ByteArray) (w:World):Calls Tryz.prog 150 #[.string s,.func (.func 302) #[] #[]] w fun e w'=>∃i:Int,e=.returned (.int .i64 i)/\Hid (decide (0<=i)=s.data.toList.any Lz.oddB)/\Below w.heap.size w w':=by
 refine(Tryz.strings_IndexFunc_grows 302 #[] fn_dom1 pDom s w (fun W x hx _=>dom1_any x hx W)).mono ?_;rintro e w' ⟨he,hb⟩;refine⟨_,he,Ih ?_,hb⟩;have:=Lz.idx_any pDom_hi pDom_lo odd_hi s s.size 0 (by omega);rw[List.drop_zero]at this;exact this
end Go.Proofs.YtjhccadmmnjpeaaGreatDoor
namespace Lz
open Go
structure UrlL where
 scheme:Bs:=[]
 user:Bs:=[]
 pass:Bs:=[]
 hasHost:Bool:=false
 host:Bs:=[]
 port:Int:= -1
 opq:Bool:=false
 path:List Bs:=[]
 hasQuery:Bool:=false
 hasFragment:Bool:=false
 query:Bs:=[]
 fragment:Bs:=[]
 deriving DecidableEq,Repr
inductive UR where
 | ok (u:UrlL)
 | er (n:Nat)
 deriving DecidableEq,Repr
def UR.bind:UR->(UrlL->UR)->UR
 | .ok u,f=>f u
 | .er n,_=>.er n
def httpS:Bs:=[104,116,116,112]
def httpsS:Bs:=[104,116,116,112,115]
def wsS:Bs:=[119,115]
def wssS:Bs:=[119,115,115]
def ftpS:Bs:=[102,116,112]
def fileS:Bs:=[102,105,108,101]
def blobS:Bs:=[98,108,111,98]
def defP (s:Bs):Int:=if s=httpS\/s=wsS then 80 else if s=httpsS\/s=wssS then 443 else if s=ftpS then 21 else -1
def specP (s:Bs):Bool:=s==fileS|| !(defP s== -1)
def slashQ (sp:Bool) (c:UInt8):Bool:=c==47||(sp&&c==92)
def setU:Nat->Bs
 | 1=>[32,34,60,62,96]
 | 2=>[32,34,35,60,62]
 | 3=>[32,34,35,60,62,39]
 | 4=>[32,34,35,60,62,63,94,96,123,125]
 | 5=>[32,34,35,60,62,63,94,96,123,125,47,58,59,61,64,91,92,93,124]
 | _=>[]
def driveP:Bs->Bool
 | [a,b]=>isAlpha a&&(b==58||b==124)
 | _=>false
def drivenP:Bs->Bool
 | [a,b]=>isAlpha a&&(b==58||b==124)
 | a::b::c::_=>isAlpha a&&(b==58||b==124)&&(c==47||c==92)
 | _=>false
def rootedP:List Bs->Bool
 | p::_=>driveP p&&p[1]? ==some 58
 | []=>false
def shortP (scheme:Bs) (l:List Bs):List Bs:=if scheme=fileS/\l.length=1/\rootedP l=true then l else l.dropLast
def unE:Bs->Bs
 | 37::50::101::r=>46::unE r
 | c::r=>c::unE r
 | []=>[]
def dotsP (p:Bs):Nat:=if unE (low p)=[46]then 1 else if unE (low p)=[46,46]then 2 else 0
def cutS (sp:Bool) (s:Bs):Bs×Bs×Bool:=(s.takeWhile fun c=> !slashQ sp c,(s.dropWhile fun c=> !slashQ sp c).drop 1,s.any (slashQ sp))
def splitS (sp:Bool):Bs->List Bs
 | []=>[[]]
 | c::r=>if slashQ sp c then[]::splitS sp r else match splitS sp r with
   | h::t=>(c::h)::t
   | []=>[[c]]
def onL (scheme:Bs):List Bs->List Bs->List Bs
 | path,[]=>path
 | path,p::r=>
   let q:=encodeP (setU 4) p
   if dotsP q=2 then onL scheme (if r=[]then shortP scheme path++[[]]else shortP scheme path) r
   else if dotsP q=1 then onL scheme (if r=[]then path++[[]]else path) r
   else onL scheme (path++[if scheme=fileS/\path=[]/\driveP q=true then q.take 1++[58]else q]) r
def onP (u:UrlL) (t:Bs):UrlL:={u with path:=onL u.scheme u.path (splitS (specP u.scheme) t)}
def colonP:Bool->Bs->Option Nat
 | _,[]=>none
 | i,c::r=>if c==91 then(colonP true r).map (·+1)else if c==93 then(colonP false r).map (·+1)else if c==58&& !i then some 0 else(colonP i r).map (·+1)
def portN:Nat->Bs->Option Nat
 | n,[]=>some n
 | n,c::r=>if isDigit c then portN (min (10*n+(c.toNat-48)) 1048576) r else none
def portU (u:UrlL) (s:Bs):UR:=match portN 0 s with
 | none=>.er 81
 | some n=>if 65535<n then .er 81 else .ok (if s≠[]/\(n:Int)≠defP u.scheme then{u with port:=n} else u)
def hostU (u:UrlL) (s:Bs):UR:=match hostPr s (specP u.scheme)with
 | .er n=>.er n
 | .ok h=>.ok {u with host:=h,hasHost:=true}
def lastAt:Bs->Option (Bs×Bs)
 | []=>none
 | c::r=>match lastAt r with
   | some (x,y)=>some (c::x,y)
   | none=>if c==64 then some ([],r)else none
def whoU (u:UrlL) (a:Bs):UrlL:={u with user:=encodeP (setU 5) (Lib.cut a [58]).1,pass:=encodeP (setU 5) (Lib.cut a [58]).2.1}
def placeU (u:UrlL) (a:Bs):UR:=match colonP false a with
 | some i=>if a.take i=[]then .er 70 else(hostU u (a.take i)).bind fun u=>portU u (a.drop (i+1))
 | none=>if a=[]/\specP u.scheme=true then .er 70 else(hostU u a).bind fun u=>portU u []
def authU (u:UrlL) (a:Bs):UR:=match lastAt a with
 | some (x,y)=>if y=[]then .er 70 else placeU (whoU u x) y
 | none=>placeU u a
def hostedU (u:UrlL) (r:Bs):UR:=
 let c:=cutS (specP u.scheme) r
 (authU u c.1).bind fun u=>.ok (if c.2.2||specP u.scheme then onP u c.2.1 else u)
def restU (u b:UrlL):UrlL:={u with user:=b.user,pass:=b.pass,hasHost:=b.hasHost,host:=b.host,port:=b.port}
def pathU (u b:UrlL) (r:Bs):UrlL:=
 if r≠[]then onP {u with path:=shortP u.scheme b.path} r
 else if u.hasQuery then{u with path:=b.path} else{u with path:=b.path,query:=b.query,hasQuery:=b.hasQuery}
def leadS (sp:Bool) (r:Bs):Nat:=(r.takeWhile (slashQ sp)).length
def relU (u b:UrlL) (r:Bs):UR:=
 let n:=leadS (specP u.scheme) r
 if 1<n then hostedU u (if specP u.scheme then r.drop n else r.drop 2)
 else if n=1 then .ok (onP (restU u b) (r.drop 1))
 else .ok (pathU (restU u b) b r)
def localS:Bs:=[108,111,99,97,108,104,111,115,116]
def filesU (u:UrlL) (b:Option UrlL) (r:Bs):UR:=
 let u:UrlL:={u with hasHost:=true}
 let n:=leadS true r
 if 1<n then
  let c:=cutS true (r.drop 2)
  if driveP c.1 then .ok (onP u (r.drop 2))
  else(if c.1=[]then UR.ok u else hostU u c.1).bind fun u=>.ok (onP (if u.host=localS then{u with host:=[]} else u) c.2.1)
 else if n=1 then
  .ok (onP (match b with
   | some x=>if x.scheme=fileS then(if drivenP (r.drop 1)=false/\rootedP x.path=true then{u with host:=x.host,path:=x.path.take 1} else{u with host:=x.host})else u
   | none=>u) (r.drop 1))
 else match b with
  | some x=>if x.scheme=fileS then(if drivenP r then .ok (onP {u with host:=x.host} r)else .ok (pathU {u with host:=x.host} x r))else .ok (onP u r)
  | none=>.ok (onP u r)
def schemeC (c:UInt8):Bool:=isAlpha c||isDigit c||c==43||c==45||c==46
def schemedP (s:Bs):Bs×Bs×Bool:=
 let c:=Lib.cut s [58]
 if c.2.2&& !c.1.isEmpty&&(match c.1 with|a::_=>isAlpha a|[]=>false)&&c.1.all schemeC then(low c.1,c.2.1,true)else([],s,false)
def cleanP (s:Bs):Bs:=(((s.dropWhile (·<=32)).reverse.dropWhile (·<=32)).reverse).filter fun c=> !(c==9||c==10||c==13)
def mainU (u:UrlL) (s:Bs) (b:Option UrlL):UR:=
 let c:=schemedP s
 if c.2.2 then
  let u:UrlL:={u with scheme:=c.1}
  if c.1=fileS then filesU u b c.2.1
  else if specP c.1 then(match b with
   | some x=>if x.scheme=c.1/\Lib.hasPrefix c.2.1 [47,47]=false then relU u x c.2.1 else hostedU u (c.2.1.drop (leadS true c.2.1))
   | none=>hostedU u (c.2.1.drop (leadS true c.2.1)))
  else if Lib.hasPrefix c.2.1 [47,47]then hostedU u (c.2.1.drop 2)
  else if Lib.hasPrefix c.2.1 [47]then .ok (onP u (c.2.1.drop 1))
  else .ok {u with opq:=true,path:=[encodeP [] c.2.1]}
 else match b with
  | none=>.er 82
  | some x=>
    if x.opq&&(!s.isEmpty||u.hasQuery|| !u.hasFragment)then .er 82
    else
     let u:UrlL:={u with scheme:=x.scheme}
     if x.opq then .ok (pathU {u with opq:=true} x [])
     else if x.scheme=fileS then filesU u b s
     else relU u x s
def readU (s:Bs) (b:Option UrlL):UR:=
 let f:=Lib.cut (cleanP s) [35]
 let q:=Lib.cut f.1 [63]
 (mainU {query:=q.2.1,hasQuery:=q.2.2,fragment:=f.2.1,hasFragment:=f.2.2} q.1 b).bind fun u=>
  .ok {u with query:=encodeP (setU (if specP u.scheme then 3 else 2)) u.query,fragment:=encodeP (setU 1) u.fragment}
def atU (u:UrlL):Bs:=if u.port= -1 then u.host else u.host++[58]++Lib.itoa u.port
def textU (u:UrlL):Bs:=
 u.scheme++[58]++
 (if u.hasHost then[47,47]++u.user++(if u.pass=[]then[]else[58]++u.pass)++(if u.user=[]/\u.pass=[]then[]else[64])++atU u
  else if u.opq=false/\1<u.path.length/\u.path.head? =some []then[47,46]else[])++
 (if u.opq then u.path.headD []else u.path.flatMap fun p=>47::p)++
 (if u.hasQuery then 63::u.query else[])++(if u.hasFragment then 35::u.fragment else[])
def parseU (s:Bs) (b:Option UrlL):UR:=
 if 4000<s.length then .er 3
 else match b with
  | some x=>if readU (textU x) none=.ok x then readU s b else .er 2
  | none=>readU s none
def originU (u:UrlL):Bs:=
 if defP u.scheme≠ -1 then u.scheme++[58,47,47]++atU u
 else if u.scheme=blobS/\u.opq=true/\u.path≠[]then(match parseU (u.path.headD []) none with
  | .ok x=>if x.scheme=httpS\/x.scheme=httpsS then x.scheme++[58,47,47]++atU x else[110,117,108,108]
  | .er _=>[110,117,108,108])
 else[110,117,108,108]
def lowQ (c:UInt8):Bool:=decide (c<=32)
def keepQ (c:UInt8):Bool:= !(c==9||c==10||c==13)
theorem low_keep {c:UInt8} (h:lowQ c=false):keepQ c=true:=by
 unfold lowQ at h;unfold keepQ;have h32:¬c<=32:=of_decide_eq_false h;cases h9:(c==9)
 ·cases h10:(c==10)
  ·cases h13:(c==13)
   ·rfl
   ·exact absurd (by rw[eq_of_beq h13];decide) h32
  ·exact absurd (by rw[eq_of_beq h10];decide) h32
 ·exact absurd (by rw[eq_of_beq h9];decide) h32
theorem filter_drop:∀l:Bs,(l.dropWhile lowQ).filter keepQ=(l.filter keepQ).dropWhile lowQ
 | []=>rfl
 | c::r=>by
   rw[List.dropWhile_cons];cases h:lowQ c
   ·simp only[Bool.false_eq_true,if_false];rw[List.filter_cons,if_pos (low_keep h),List.dropWhile_cons,h]
    simp
   ·simp only[if_true];rw[filter_drop r,List.filter_cons];split
    ·rw[List.dropWhile_cons,if_pos h]
    ·rfl
theorem clean_eq (s:Bs):cleanP s=(((s.filter keepQ).dropWhile lowQ).reverse.dropWhile lowQ).reverse:=by
 show(((s.dropWhile lowQ).reverse.dropWhile lowQ).reverse).filter keepQ=_;rw[List.filter_reverse,filter_drop,List.filter_reverse,filter_drop]
def okE (of:Bs) (c:UInt8):Bool:= !(c<32||126<c||of.contains c)
theorem encode_id {of l:Bs} (h:l.all (okE of)=true):encodeP of l=l:=by
 induction l with
 | nil=>rfl
 | cons c r ih=>
   rw[List.all_cons,Bool.and_eq_true]at h;unfold encodeP at ih⊢;rw[List.flatMap_cons,ih h.2,if_neg]
   ·rfl
   ·have:=h.1;unfold okE at this;intro hh;rw[hh]at this;cases this
theorem triple_ok:∀k:Fin 6,∀d:Fin 16,okE (setU k.val) (digitU d.val)=true:=by decide +kernel
theorem pct_ok:∀k:Fin 6,okE (setU k.val) 37=true:=by decide +kernel
theorem encode_ok (k:Nat) (hk:k<6):∀s:Bs,(encodeP (setU k) s).all (okE (setU k))=true
 | []=>rfl
 | c::r=>by
   have ih:=encode_ok k hk r;unfold encodeP at ih⊢;rw[List.flatMap_cons,List.all_append,ih,Bool.and_true];split
   ·have h1:=triple_ok ⟨k,hk⟩ ⟨c.toNat / 16,by have:=c.toNat_lt;omega⟩;have h2:=triple_ok ⟨k,hk⟩ ⟨c.toNat%16,Nat.mod_lt _ (by omega)⟩;rw[List.all_cons,List.all_cons,List.all_cons,pct_ok ⟨k,hk⟩,h1,h2];rfl
   ·rename_i h;rw[List.all_cons];unfold okE;simp only[List.all_nil,Bool.and_true];cases hh:(decide (c<32)||decide (126<c)||(setU k).contains c)
    ·rfl
    ·exact absurd hh h
theorem index_one_none {k:UInt8}:∀{s:Bs},k∉s->Lib.index s [k]= -1
 | [],_=>rfl
 | c::r,h=>by
   have hc:([k]:Bs).isPrefixOf (c::r)=false:=by
    simp only[List.isPrefixOf,Bool.and_true];rw[beq_eq_false_iff_ne];intro e;exact h (by rw[e];simp)
   rw[Lib.index,hc,if_neg (by decide),index_one_none (fun hh=>h (List.mem_cons_of_mem _ hh))];rfl
theorem index_one_at {k:UInt8}:∀{a:Bs} (b:Bs),k∉a->Lib.index (a++k::b) [k]=a.length
 | [],b,_=>by
   show Lib.index (k::b) [k]=_;have hc:([k]:Bs).isPrefixOf (k::b)=true:=by simp[List.isPrefixOf]
   rw[Lib.index,hc,if_pos rfl];rfl
 | c::r,b,h=>by
   have hc:([k]:Bs).isPrefixOf (c::(r++k::b))=false:=by
    simp only[List.isPrefixOf,Bool.and_true];rw[beq_eq_false_iff_ne];intro e;exact h (by rw[e];simp)
   have ih:=index_one_at (a:=r) b (fun hh=>h (List.mem_cons_of_mem _ hh));rw[List.cons_append,Lib.index,hc,if_neg (by decide),ih,if_neg]
   ·simp
   ·intro hh;have h0:=eq_of_beq hh;omega
theorem cut_one_no {k:UInt8} {s:Bs} (h:k∉s):Lib.cut s [k]=(s,[],false):=by
 unfold Lib.cut;rw[index_one_none h];rfl
theorem cut_one_at {k:UInt8} {a:Bs} (b:Bs) (h:k∉a):Lib.cut (a++k::b) [k]=(a,b,true):=by
 unfold Lib.cut;rw[index_one_at b h,if_pos (by omega)]
 simp
theorem lastAt_no:∀{s:Bs},(64:UInt8)∉s->lastAt s=none
 | [],_=>rfl
 | c::r,h=>by
   have hc:(c==64)=false:=by rw[beq_eq_false_iff_ne];intro e;exact h (by rw[e];simp)
   rw[lastAt,lastAt_no (fun hh=>h (List.mem_cons_of_mem _ hh)),hc];rfl
theorem lastAt_at:∀(a:Bs) {b:Bs},(64:UInt8)∉b->lastAt (a++64::b)=some (a,b)
 | [],b,h=>by
   show lastAt (64::b)=_;rw[lastAt,lastAt_no h];rfl
 | c::r,b,h=>by
   rw[List.cons_append,lastAt,lastAt_at r h]
def plainQ (c:UInt8):Bool:= !lowQ c&& !(c==35)&& !(c==63)
def finU (u:UrlL):UR:=.ok {u with query:=encodeP (setU (if specP u.scheme then 3 else 2)) u.query,fragment:=encodeP (setU 1) u.fragment}
theorem itoa_nat (n:Nat):Lib.itoa (n:Int)=Lib.decDigits n:=by
 unfold Lib.itoa;rw[if_neg (by omega)];rfl
def pieceN (sp:Bool) (p:Bs):Prop:=p.all (okE (setU 4))=true/\dotsP p=0/\∀c∈p,slashQ sp c=false
structure HostN (sp:Bool) (h:Bs):Prop where
 again:hostPr h sp=.ok h
 chars:∀c∈h,plainQ c=true/\c≠64/\slashQ true c=false/\c<127
 colon:(∀c∈h,c≠58/\c≠91/\c≠93)\/∃x,h=91::(x++[93])/\(93:UInt8)∉x
structure MU (u:UrlL):Prop where
 s1:u.scheme≠[]
 s2:∀c,u.scheme.head? =some c->isAlpha c=true
 s3:u.scheme.all schemeC=true
 s4:low u.scheme=u.scheme
 user:u.user.all (okE (setU 5))=true
 pass:u.pass.all (okE (setU 5))=true
 special:specP u.scheme=true->u.hasHost=true/\u.opq=false/\u.path≠[]
 bare:u.hasHost=false->u.user=[]/\u.pass=[]/\u.host=[]/\u.port= -1
 opaqueN:u.opq=true->u.hasHost=false/\∃p:Bs,u.path=[p]/\p.all (okE [])=true/\(35:UInt8)∉p/\(63:UInt8)∉p/\p.head? ≠some 47/\(u.hasQuery=false->u.hasFragment=false->p.getLast? ≠some 32)
 path:u.opq=false->(∀p∈u.path,pieceN (specP u.scheme) p)/\(u.hasHost=false->u.path≠[])
 drive:u.scheme=fileS->∀p,u.path.head? =some p->driveP p=true->p.take 1++[58]=p
 host:u.hasHost=true->HostN (specP u.scheme) u.host\/(u.scheme=fileS/\u.host=[])
 empty:u.host=[]->u.user=[]/\u.pass=[]/\u.port= -1
 needed:specP u.scheme=true->u.scheme≠fileS->u.host≠[]
 file:u.scheme=fileS->u.user=[]/\u.pass=[]/\u.port= -1/\u.host≠localS/\driveP u.host=false
 port:u.port= -1\/∃n:Nat,u.port=n/\n<=65535/\(n:Int)≠defP u.scheme
structure NU (u:UrlL):Prop extends MU u where
 query:u.query.all (okE (setU (if specP u.scheme then 3 else 2)))=true
 noQuery:u.hasQuery=false->u.query=[]
 fragment:u.fragment.all (okE (setU 1))=true
 noFragment:u.hasFragment=false->u.fragment=[]
theorem url_ext {a b:UrlL} (h1:a.scheme=b.scheme) (h2:a.user=b.user) (h3:a.pass=b.pass) (h4:a.hasHost=b.hasHost) (h5:a.host=b.host) (h6:a.port=b.port) (h7:a.opq=b.opq) (h8:a.path=b.path) (h9:a.hasQuery=b.hasQuery) (h10:a.hasFragment=b.hasFragment) (h11:a.query=b.query) (h12:a.fragment=b.fragment):a=b:=by
 cases a;cases b;simp_all
theorem slash_sub {sp:Bool} {c:UInt8} (h:slashQ true c=false):slashQ sp c=false:=by
 cases sp
 ·unfold slashQ at h⊢;simp only[Bool.true_and,Bool.or_eq_false_iff]at h;rw[h.1];rfl
 ·exact h
def pathT (l:List Bs):Bs:=l.flatMap fun p=>47::p
theorem beq_swap (x:UInt8):((47:UInt8)==x)=(some x==some (47:UInt8)):=by
 rw[Bool.eq_iff_iff];simp only[beq_iff_eq,Option.some.injEq];exact eq_comm
theorem hasPrefix_one (s:Bs):Lib.hasPrefix s [47]=(s[0]? ==some 47):=by
 cases s with
 | nil=>rfl
 | cons a r=>
   show((47:UInt8)==a&&true)=(some a==some 47);rw[beq_swap,Bool.and_true]
theorem ban_not:∀c:UInt8,banned.contains c=false->(c<32||126<c)=false->plainQ c=true/\c≠64/\slashQ true c=false/\c<127/\c≠58/\c≠91/\c≠93/\c≠124:=byte_all (by decide +kernel)
theorem hexc_not:∀c:UInt8,isHexD c=true->plainQ c=true/\c≠64/\slashQ true c=false/\c<127/\c≠93:=byte_all (by decide +kernel)
theorem drive_no {h:Bs} (hc:∀c∈h,c≠58/\c≠124):driveP h=false:=by
 match h,hc with
 | [],_=>rfl
 | [_],_=>rfl
 | [a,b],hc=>
   obtain⟨h1,h2⟩:=hc b (by simp);show(isAlpha a&&(b==58||b==124))=false;have e1:(b==58)=false:=by rw[beq_eq_false_iff_ne];exact h1
   have e2:(b==124)=false:=by rw[beq_eq_false_iff_ne];exact h2
   rw[e1,e2];simp
 | _::_::_::_,_=>rfl
theorem textP_mem (a:List Nat):∀c∈textP a,isHexD c=true\/c=58:=by
 have ht:∀l:List Nat,∀c∈toldP l,isHexD c=true\/c=58:=by
  intro l c hc;unfold toldP at hc;rcases joinP_mem hc with h|⟨x,hx,h⟩
  ·exact Or.inr (List.mem_singleton.1 h)
  ·obtain⟨n,_,rfl⟩:=List.mem_map.1 hx;exact Or.inl (hexD_chars n c h)
 intro c hc;unfold textP at hc;split at hc
 ·exact ht _ c hc
 ·rcases List.mem_append.1 hc with hc|hc
  ·rcases List.mem_append.1 hc with hc|hc
   ·exact ht _ c hc
   ·right;simpa using hc
  ·exact ht _ c hc
theorem hostN_of {sp:Bool} {h:Bs} (ha:hostPr h sp=.ok h) (hc:∀c∈h,banned.contains c=false/\(c<32||126<c)=false):HostN sp h/\driveP h=false:=by
 refine⟨⟨ha,fun c hcm=>?_,Or.inl fun c hcm=>?_⟩,drive_no fun c hcm=>?_⟩
 ·obtain⟨h1,h2,h3,h4,_⟩:=ban_not c (hc c hcm).1 (hc c hcm).2;exact⟨h1,h2,h3,h4⟩
 ·obtain⟨_,_,_,_,h5,h6,h7,_⟩:=ban_not c (hc c hcm).1 (hc c hcm).2;exact⟨h5,h6,h7⟩
 ·obtain⟨_,_,_,_,h5,_,_,h8⟩:=ban_not c (hc c hcm).1 (hc c hcm).2;exact⟨h5,h8⟩
theorem host_N {s h:Bs} {sp:Bool} (e:hostPr s sp=.ok h):HostN sp h/\driveP h=false/\(h=[]->s=[])/\(sp=true->h≠[]):=by
 have hag:hostPr h sp=.ok h:=by
  cases sp
  ·exact host_again_false e
  ·exact(host_again_true e).1
 have hne:sp=true->h≠[]:=by
  rintro rfl;exact(host_again_true e).2.2
 unfold hostPr at e;split at e
 ·split at e
  ·cases e
  ·cases ha:sixP ((s.drop 1).dropLast)with
   | none=>rw[ha]at e;cases e
   | some a=>
     rw[ha]at e;have e:([91]++textP a++[93]:Bs)=h:=by simpa [ofO]using e
     have hx:∀c∈textP a,c≠93/\plainQ c=true/\c≠64/\slashQ true c=false/\c<127:=by
      intro c hc;rcases textP_mem a c hc with h|rfl
      ·obtain⟨h1,h2,h3,h4,h5⟩:=hexc_not c h;exact⟨h5,h1,h2,h3,h4⟩
      ·decide
     subst e;refine⟨⟨hag,?_,Or.inr ⟨textP a,by simp,fun hc=>(hx 93 hc).1 rfl⟩⟩,?_,fun h=>by simp at h,hne⟩
     ·intro c hc;rcases List.mem_append.1 hc with hc|hc
      ·rcases List.mem_append.1 hc with hc|hc
       ·rw[List.mem_singleton.1 hc];decide
       ·exact(hx c hc).2
      ·rw[List.mem_singleton.1 hc];decide
     ·cases ht:textP a with
      | nil=>rfl
      | cons b r=>cases r<;>rfl
 ·split at e
  ·have hd:=dom_ok e
   have:=hostN_of (sp:=sp) hag (fun c hc=>by
    have ho:=odd_not c (any_false hd.2.1 c hc);exact⟨ho.2.2.1,ho.2.2.2⟩)
   exact⟨this.1,this.2,fun h=>absurd h hd.1,hne⟩
  ·split at e
   ·cases e
   ·rename_i hb;have hb':s.any banned.contains=false:=by simpa using hb
    have e:encodeP [] s=h:=by injection e
    subst e;have:=hostN_of (sp:=sp) hag (enc_ok hb');refine⟨this.1,this.2,fun h=>?_,hne⟩;cases s with
    | nil=>rfl
    | cons c r=>
      exfalso
      unfold encodeP at h;rw[List.flatMap_cons]at h;have:=(List.append_eq_nil_iff.1 h).1;split at this<;>cases this
theorem enc_slash {sp:Bool} {k:Nat} {s:Bs} (h:∀c∈s,slashQ sp c=false):∀c∈encodeP (setU k) s,slashQ sp c=false:=by
 have hd:∀d:Fin 16,slashQ true (digitU d.val)=false:=by decide +kernel
 intro c hc;unfold encodeP at hc;obtain⟨x,hx,hc⟩:=List.mem_flatMap.1 hc;split at hc
 ·simp only[List.mem_cons,List.not_mem_nil,or_false]at hc;rcases hc with rfl|rfl|rfl
  ·cases sp<;>rfl
  ·exact slash_sub (hd ⟨x.toNat / 16,by have:=x.toNat_lt;omega⟩)
  ·exact slash_sub (hd ⟨x.toNat%16,Nat.mod_lt _ (by omega)⟩)
 ·rw[List.mem_singleton.1 hc];exact h x hx
def PathN (scheme:Bs) (sp:Bool) (l:List Bs):Prop:=(∀p∈l,pieceN sp p)/\(scheme=fileS->∀p,l.head? =some p->driveP p=true->p.take 1++[58]=p)
theorem pathN_nil (scheme:Bs) (sp:Bool):PathN scheme sp []:=⟨(by intro p hp;cases hp),(by intro _ p hp;cases hp)⟩
theorem pieceN_nil (sp:Bool):pieceN sp []:=⟨rfl,by decide +kernel,fun c hc=>by cases hc⟩
theorem pathN_snoc {scheme:Bs} {sp:Bool} {l:List Bs} {p:Bs} (h:PathN scheme sp l) (hp:pieceN sp p) (hd:scheme=fileS->l=[]->driveP p=true->p.take 1++[58]=p):PathN scheme sp (l++[p]):=by
 refine⟨fun q hq=>?_,fun hf q hq hdq=>?_⟩
 ·rcases List.mem_append.1 hq with hq|hq
  ·exact h.1 q hq
  ·rw[List.mem_singleton.1 hq];exact hp
 ·cases l with
  | nil=>
    have:p=q:=by simpa using hq
    subst this;exact hd hf rfl hdq
  | cons a r=>
    have:a=q:=by simpa using hq
    subst this;exact h.2 hf a rfl hdq
theorem pathN_short {scheme:Bs} {sp:Bool} {l:List Bs} (h:PathN scheme sp l):PathN scheme sp (shortP scheme l):=by
 unfold shortP;split
 ·exact h
 ·refine⟨fun p hp=>h.1 p ((List.dropLast_sublist l).subset hp),fun hf p hp hd=>?_⟩;cases l with
  | nil=>cases hp
  | cons a r=>
    cases r with
    | nil=>cases hp
    | cons b t=>
      have:a=p:=by simpa using hp
      subst this;exact h.2 hf a rfl hd
theorem drive_piece:∀a:UInt8,isAlpha a=true->okE (setU 4) a=true/\dotsP [a,58]=0/\slashQ true a=false:=byte_all (by decide +kernel)
theorem onL_form (scheme:Bs) (sp:Bool):∀(ps acc:List Bs),PathN scheme sp acc->(∀p∈ps,∀c∈p,slashQ sp c=false)->PathN scheme sp (onL scheme acc ps)
 | [],acc,h,_=>h
 | p::r,acc,h,hs=>by
   have ih:=fun acc ha=>onL_form scheme sp r acc ha (fun q hq=>hs q (List.mem_cons_of_mem _ hq));have hsl:=enc_slash (k:=4) (hs p (by simp));have hok:=encode_ok 4 (by omega) p;rw[onL]
   try simp only
   generalize encodeP (setU 4) p=q at hsl hok;have hnil:∀a,PathN scheme sp a->PathN scheme sp (a++[[]]):=fun a ha=>pathN_snoc ha (pieceN_nil sp) (fun _ _ hd=>by cases hd);split
   ·apply ih
    split
    ·exact hnil _ (pathN_short h)
    ·exact pathN_short h
   ·rename_i h2;split
    ·apply ih
     split
     ·exact hnil _ h
     ·exact h
    ·rename_i h1
     apply ih
     have h0:dotsP q=0:=by
      unfold dotsP at h1 h2⊢;split at h1
      ·exact absurd rfl h1
      ·rename_i hn;rw[if_neg hn]at h2⊢;split at h2
       ·exact absurd rfl h2
       ·rename_i hn2;rw[if_neg hn2]
     split
     ·rename_i hh;obtain⟨hf,ha,hd⟩:=hh
      match q,hd with
      | [a,b],hd=>
        unfold driveP at hd;rw[Bool.and_eq_true]at hd;obtain⟨d1,d2,d3⟩:=drive_piece a hd.1;refine pathN_snoc h ⟨?_,d2,?_⟩ (fun _ _ _=>rfl)
        ·show(okE (setU 4) a&&(okE (setU 4) 58&&true))=true;rw[d1];rfl
        ·intro c hc;rcases List.mem_cons.1 hc with rfl|hc
         ·exact slash_sub d3
         ·rw[List.mem_singleton.1 hc];cases sp<;>rfl
     ·rename_i hh;exact pathN_snoc h ⟨hok,h0,hsl⟩ (fun hf ha hd=>absurd ⟨hf,ha,hd⟩ hh)
theorem onL_ne (scheme:Bs):∀(ps acc:List Bs),ps≠[]->onL scheme acc ps≠[]
 | [],_,h=>absurd rfl h
 | p::r,acc,_=>by
   by_cases hr:r=[]
   ·subst hr;simp only[onL];split
    ·simp
    ·split
     ·simp
     ·simp
   ·have ih:=fun acc=>onL_ne scheme r acc hr;rw[onL]
    try simp only
    split
    ·exact ih _
    ·split
     ·exact ih _
     ·exact ih _
theorem splitS_mem {sp:Bool}:∀(s:Bs),∀p∈splitS sp s,∀c∈p,slashQ sp c=false
 | [],p,hp,c,hc=>by
   rw[splitS]at hp;rw[List.mem_singleton.1 hp]at hc;cases hc
 | a::r,p,hp,c,hc=>by
   have ih:=splitS_mem (sp:=sp) r;rw[splitS]at hp;cases ha:slashQ sp a with
   | true=>
     rw[ha,if_pos rfl]at hp;rcases List.mem_cons.1 hp with rfl|hp
     ·cases hc
     ·exact ih p hp c hc
   | false=>
     rw[ha]at hp;simp only[Bool.false_eq_true,if_false]at hp;cases he:splitS sp r with
     | nil=>
       rw[he]at hp;rw[List.mem_singleton.1 hp]at hc;rw[List.mem_singleton.1 hc];exact ha
     | cons x t=>
       rw[he]at hp;rcases List.mem_cons.1 hp with rfl|hp
       ·rcases List.mem_cons.1 hc with rfl|hc
        ·exact ha
        ·exact ih x (by rw[he];simp) c hc
       ·exact ih p (by rw[he];exact List.mem_cons_of_mem _ hp) c hc
theorem splitS_ne {sp:Bool} (s:Bs):splitS sp s≠[]:=by
 cases s with
 | nil=>simp[splitS]
 | cons a r=>
   rw[splitS];split
   ·simp
   ·split<;>simp
theorem unE_no {b:UInt8} {l:Bs} (h:([37,50,101]:Bs).isPrefixOf (b::l)=false):unE (b::l)=b::unE l:=by
 conv=>lhs;unfold unE
 split
 ·rename_i r he;rw[he]at h
  simp[List.isPrefixOf]at h
 ·rename_i c r _ he;injection he with h1 h2
  rw[h1,h2]
 ·rename_i he;cases he
theorem unE_yes (r:Bs):unE (37::50::101::r)=46::unE r:=by
 conv=>lhs;unfold unE
 rfl
theorem pre_form {s:Bs} (h:([37,50,101]:Bs).isPrefixOf s=true):∃r,s=37::50::101::r:=by
 match s,h with
 | a::b::c::r,h=>
   simp only[List.isPrefixOf,Bool.and_true,Bool.and_eq_true,beq_iff_eq]at h;obtain⟨h1,h2,h3⟩:=h;exact⟨r,by rw[<-h1,<-h2,<-h3]⟩
 | [],h=>simp[List.isPrefixOf]at h
 | [_],h=>simp[List.isPrefixOf]at h
 | [_,_],h=>simp[List.isPrefixOf]at h
theorem unE_index:∀s:Bs,(Lib.index s [37,50,101]= -1->unE s=s)/\(∀i:Nat,Lib.index s [37,50,101]=i->unE s=s.take i++46::unE (s.drop (i+3)))
 | []=>⟨fun _=>by unfold unE;rfl,fun i h=>by
  have:Lib.index [] ([37,50,101]:Bs)= -1:=rfl;rw[this]at h;omega⟩
 | b::l=>by
   obtain⟨ih1,ih2⟩:=unE_index l;rw[Lib.index];cases hp:([37,50,101]:Bs).isPrefixOf (b::l)with
   | true=>
     obtain⟨r,hr⟩:=pre_form hp;simp only[if_true];refine⟨fun h=>by omega,fun i h=>?_⟩;have hi:i=0:=by omega
     subst hi;rw[hr,unE_yes];rfl
   | false=>
     simp only[Bool.false_eq_true,if_false];have hge:=Lib.index_ge l [37,50,101];by_cases h1:Lib.index l [37,50,101]= -1
     ·rw[h1];refine⟨fun _=>by rw[unE_no hp,ih1 h1],fun i h=>?_⟩;have:((-1:Int)== -1)=true:=rfl;rw[this,if_pos rfl]at h;omega
     ·have hb:(Lib.index l [37,50,101]== -1)=false:=by rw[beq_eq_false_iff_ne];exact h1
      rw[hb];simp only[Bool.false_eq_true,if_false];refine⟨fun h=>by omega,fun i h=>?_⟩;obtain⟨j,rfl⟩:∃j,i=j+1:=⟨i-1,by omega⟩;rw[unE_no hp,ih2 j (by omega)];rfl
theorem replaceK_unE:∀(f:Nat) (s:Bs),s.length<f->Lib.replaceK [37,50,101] [46] (Lib.countFrom [37,50,101] f s) s=unE s
 | 0,s,h=>by omega
 | f+1,s,h=>by
   obtain⟨h1,h2⟩:=unE_index s;rw[Lib.countFrom];by_cases hi:Lib.index s [37,50,101]= -1
   ·rw[hi];show Lib.replaceK _ _ 0 s=_;rw[h1 hi];rfl
   ·have hge:=Lib.index_ge s [37,50,101];obtain⟨i,hin⟩:∃i:Nat,Lib.index s [37,50,101]=i:=⟨(Lib.index s [37,50,101]).toNat,by omega⟩;have hb:(Lib.index s [37,50,101]== -1)=false:=by rw[beq_eq_false_iff_ne];exact hi
    rw[hb];simp only[Bool.false_eq_true,if_false];rw[Nat.add_comm 1,Lib.replaceK_hit _ _ _ _ i hin,hin]
    have hd:(s.drop (i+([37,50,101]:Bs).length)).length<f:=by
     have hs:s≠[]:=by
      rintro rfl;exact hi rfl
     have hl:0<s.length:=by
      cases s with
      | nil=>exact absurd rfl hs
      | cons _ _=>simp
     rw[List.length_drop];show s.length-(i+3)<f;omega
    have ih:=replaceK_unE f (s.drop (i+([37,50,101]:Bs).length)) hd;have e:((i:Int)).toNat=i:=by omega
    rw[e,ih,h2 i hin]
    simp
theorem replace_unE (s:Bs):Lib.replaceAll s [37,50,101] [46]=unE s:=by
 unfold Lib.replaceAll Lib.replace;rw[if_neg (by decide)];unfold Lib.replaceNum;rw[if_pos (Or.inl (by decide))];exact replaceK_unE (s.length+1) s (by omega)
end Lz
namespace Go.Proofs.YtjhccadmmnjpeaaGreatDoor
open Go.RowKit
theorem rowAt {w:World} {R:Nat} {cs:Array Value} {t:TypeId} {fr:Nat×Nat} (h:w.heap[R]? =some (.cells cs t fr)) (k:Nat) (v:Value) (hv:cs[k]? =some v):w.cell? ⟨R,k,none⟩=some v:=by
 rw[cell_of_row w R k _ _ _ h];exact hv
theorem row_lt {w:World} {R:Nat} {o:Obj} (h:w.heap[R]? =some o):R<w.heap.size:=(Array.getElem?_eq_some_iff.1 h).1
theorem heap_new (w:World) (o:Obj):(w.alloc o).heap[w.heap.size]? =some o:=by show(w.heap.push _)[w.heap.size]? =_;simp
theorem heap_new2 (w:World) (o o2:Obj):((w.alloc o).alloc o2).heap[w.heap.size+1]? =some o2:=by
 have:=heap_new (w.alloc o) o2
 rwa [show(w.alloc o).heap.size=w.heap.size+1 by simp]at this
theorem below_setRowT {B g:Nat} {a w:World} (h:Below B a w) {cs:Array Value} (hg:B<=g):Below B a (w.setRow g cs):=
 ⟨h.os,h.tape,h.output,by rw[show(w.setRow g cs).heap.size=w.heap.size by simp[World.setRow]];exact h.size,fun k hk=>by rw[setRow_other _ _ _ _ (by omega)];exact h.block k hk⟩
theorem row_set {w:World} {R:Nat} {cs:Array Value} {t:TypeId} {fr:Nat×Nat} (h:w.heap[R]? =some (.cells cs t fr)) (k:Nat) (v:Value):(w.setCell ⟨R,k,none⟩ v).heap[R]? =some (.cells (cs.setIfInBounds k v) t fr):=by
 rw[setCell_eq_setRow w R k cs _ _ v h];exact setRow_heap _ _ _ _ _ _ h
theorem TkD {P:Program} {md:Region.Mode} {ops:Array Oper} {Q:Exit->Act->World->Prop} {S:World->Prop} {fuel:Nat} {listed:Array Bool} {a:Act} {w:World} (i:Nat) (d:Option Tmp) {oi:Oper} {v:Value} (hi:ops[i]? =some oi) (hd:oi.dst=d) (hy:∀w,S w->(execOp a.eval oi).run P w=.ok (.value v) w) (h:wpAnyH P md ops Q S fuel (listed.setIfInBounds i true) (a.put d v) w) (hs:Region.noSelect ops=true:=by kernel_rfl) (hf:Region.free md ops listed i=true:=by kernel_rfl) (hr:(Region.ready md ops listed).contains i=true:=by kernel_rfl) (hQ:∀c a w,Q (.panic c) (a.put oi.dst v) w->Q (.panic c) a w:=by exact fun _ _ _ h=>h) (hw:Region.wanted oi (yielded ops a.tmps)=true:=by rfl) (hS:S w:=by assumption):wpAnyH P md ops Q S (fuel+1) listed a w:=
 wpAnyH_take hi hs hf hr hQ (Or.inl ⟨hw,hy⟩) hS (by rw[hd];exact h)
theorem TnD {P:Program} {md:Region.Mode} {ops:Array Oper} {Q:Exit->Act->World->Prop} {S:World->Prop} {fuel:Nat} {listed:Array Bool} {a:Act} {w:World} (i:Nat) (d:Option Tmp) {oi:Oper} (hi:ops[i]? =some oi) (hd:oi.dst=d) (h:wpAnyH P md ops Q S fuel (listed.setIfInBounds i true) (a.put d undef) w) (hs:Region.noSelect ops=true:=by kernel_rfl) (hf:Region.free md ops listed i=true:=by kernel_rfl) (hr:(Region.ready md ops listed).contains i=true:=by kernel_rfl) (hQ:∀c a w,Q (.panic c) (a.put oi.dst undef) w->Q (.panic c) a w:=by exact fun _ _ _ h=>h) (hw:Region.wanted oi (yielded ops a.tmps)=false:=by rfl) (hS:S w:=by assumption):wpAnyH P md ops Q S (fuel+1) listed a w:=
 wpAnyH_take hi hs hf hr hQ (Or.inr ⟨hw,rfl⟩) hS (by rw[hd];exact h)
theorem rowFz {w:World} {R:Nat} {cs:Array Value} {t:TypeId} (h:w.heap[R]? =some (.cells cs t (0,0))) (k:Nat):w.frozen? ⟨R,k,none⟩=false:=by simp[World.frozen?,h]
theorem rowSet {w:World} {R:Nat} {cs:Array Value} {t:TypeId} {fr:Nat×Nat} (h:w.heap[R]? =some (.cells cs t fr)) (k:Nat) (v:Value) {cs':Array Value} (hc:cs.setIfInBounds k v=cs'):(w.setCell ⟨R,k,none⟩ v).heap[R]? =some (.cells cs' t fr):=by
 rw[setCell_eq_setRow w R k cs _ _ v h,<-hc];exact setRow_heap _ _ _ _ _ _ h
theorem setCell_other {w:World} {p:Addr} {k:Nat} (h:k≠p.block) (v:Value):(w.setCell p v).heap[k]? =w.heap[k]? :=Below.heap_setCell w p v k h
theorem grown_setCell (w:World) (p:Addr) (v:Value):w.grownBy (w.setCell p v) (some p.block):=
 ⟨rfl,rfl,rfl,by simp,fun k _ hk=>setCell_other (fun e=>hk (by rw[e])) v⟩
theorem add_block (a:Addr) (j:Nat) (hs:a.spot=none):(a.add j).block=a.block:=by
 obtain⟨G,off,spot⟩:=a;obtain rfl:spot=none:=hs;unfold Addr.add;split<;>rfl
theorem infoTxt:(Tryz.prog.info? 9).map (fun i=>(i.zero,i.size,i.bytes))=some (some (.string ⟨#[]⟩),1,16):=by kernel_rfl
def PathOwn (w:World) (B:Nat) (v:Value) (xs:List ByteArray):Prop:=
 w.ownsRow B 9 1 v xs.length (xs.map Value.string)\/
 ∃a:Addr,v=.slice (some a) xs.length xs.length/\a.spot=none/\(∀j u,(xs.map Value.string)[j]? =some u->w.cell? (a.add j)=some u)/\(xs≠[]->∃cur fz,w.heap[a.block]? =some (.cells cur 9 fz))
theorem PathOwn.nil (w:World) (B:Nat):PathOwn w B (.slice none 0 0) []:=.inl (World.ownsRow_nil w B _ _)
theorem PathOwn.kept {w w':World} {B:Nat} {v:Value} {xs:List ByteArray} {row:Option Nat} (h:PathOwn w B v xs) (hg:w.grownBy w' row)
  (hr:∀k,row=some k->∃cs t fr,w.heap[k]? =some (.cells cs t fr)/\t≠9):PathOwn w' B v xs:=by
 rcases h with h|⟨a,rfl,hs,hc,hb⟩
 ·refine .inl (h.kept hg ?_);rcases h.2 with⟨rfl,_⟩|⟨g,cap,cur,rfl,_,hgb,_⟩
  ·exact .inl rfl
  ·refine .inr fun e=>?_;obtain⟨cs,t,fr,h1,h2⟩:=hr g e.symm;rw[hgb]at h1;injection h1 with h1
   injection h1 with _ h3 _
   exact h2 h3.symm
 ·by_cases hx:xs=[]
  ·subst hx;exact .inr ⟨a,rfl,hs,fun j u hj=>by simp at hj,fun h=>absurd rfl h⟩
  ·obtain⟨cur,fz,hcur⟩:=hb hx
   have hne:some a.block≠row:=fun e=>by
    obtain⟨cs,t,fr,h1,h2⟩:=hr a.block e.symm;rw[hcur]at h1;injection h1 with h1
    injection h1 with _ h3 _
    exact h2 h3.symm
   have hk:=hg.block a.block (row_lt hcur) hne;exact .inr ⟨a,rfl,hs,fun j u hj=>(World.cell?_of_block (a:=a.add j) (by rw[add_block a j hs];exact hk)).trans (hc j u hj),fun _=>⟨cur,fz,by rw[hk];exact hcur⟩⟩
theorem below_grown {w w':World} (hb:Below w.heap.size w w'):w.grownBy w' none:=⟨hb.os,hb.tape,hb.output,hb.size,fun k hk _=>hb.block k hk⟩
theorem PathOwn.below {w w':World} {B:Nat} {v:Value} {xs:List ByteArray} (h:PathOwn w B v xs) (hb:Below w.heap.size w w'):PathOwn w' B v xs:=
 h.kept (below_grown hb) (fun k hk=>by cases hk)
theorem PathOwn.setCell {w:World} {B M:Nat} {v:Value} {xs:List ByteArray} {cs:Array Value} {t:TypeId} {fr:Nat×Nat} (h:PathOwn w B v xs) (hM:w.heap[M]? =some (.cells cs t fr)) (ht:t≠9) (k:Nat) (u:Value):PathOwn (w.setCell ⟨M,k,none⟩ u) B v xs:=
 h.kept (grown_setCell w ⟨M,k,none⟩ u) (fun k hk=>by injection hk with hk;subst hk;exact⟨cs,t,fr,hM,ht⟩)
theorem PathOwn.form {w:World} {B:Nat} {v:Value} {xs:List ByteArray} (h:PathOwn w B v xs):∃a c,v=.slice a xs.length c/\xs.length<=c/\∀(j:Nat) (x:ByteArray),xs[j]? =some x->∃G off,a=some ⟨G,off,none⟩/\G<w.heap.size/\w.cell? ⟨G,off+j,none⟩=some (.string x):=by
 rcases h with h|⟨a,rfl,hs,hc,hb⟩
 ·rcases h.2 with⟨rfl,h0⟩|⟨g,cap,cur,rfl,hgb,hg,hn,hcm,hcs,htk⟩
  ·refine⟨none,0,by rw[h0],by omega,fun j x hj=>?_⟩;rw[List.eq_nil_of_length_eq_zero h0]at hj
   simp at hj
  ·refine⟨_,cap,rfl,hn,fun j x hj=>⟨g,0,rfl,row_lt hg,?_⟩⟩;have:=h.cells (g:=g) rfl j (.string x) (by rw[List.getElem?_map,hj];rfl);rw[addr_add]at this;rw[Nat.zero_add];exact this
 ·refine⟨some a,xs.length,rfl,Nat.le_refl _,fun j x hj=>?_⟩;obtain⟨G,off,spot⟩:=a;obtain rfl:spot=none:=hs;have:=hc j (.string x) (by rw[List.getElem?_map,hj];rfl);rw[show(⟨G,off,none⟩:Addr).add j=⟨G,off+j,none⟩ by simp[Addr.add]]at this;exact⟨G,off,rfl,World.block_lt_of_cell? _ _ this,this⟩
theorem PathOwn.pop {w:World} {B:Nat} {a:Option Addr} {n c:Nat} {xs:List ByteArray} (h:PathOwn w B (.slice a n c) xs) (hn:1<=xs.length):PathOwn w B (.slice a (n-1) (n-1)) xs.dropLast:=by
 have hl:xs.dropLast.length=n-1:=by
  obtain⟨a',c',e,_⟩:=h.form;injection e with _ e2 _
  rw[List.length_dropLast,e2]
 have hsub:∀(j:Nat) (u:Value),(xs.dropLast.map Value.string)[j]? =some u->(xs.map Value.string)[j]? =some u:=by
  intro j u hj;rw[List.getElem?_map,Option.map_eq_some_iff]at hj;obtain⟨x,hx,rfl⟩:=hj;have hjl:=(List.getElem?_eq_some_iff.1 hx).1;rw[List.length_dropLast]at hjl;rw[List.getElem?_map,<-List.getElem?_take_of_lt (show j<xs.length-1 from hjl),<-List.dropLast_eq_take,hx];rfl
 rcases h with h|⟨p,e,hs,hc,hb⟩
 ·rcases h.2 with⟨e,h0⟩|⟨g,cap,cur,e,hgb,hg,hnc,hcm,hcs,htk⟩
  ·omega
  ·injection e with e1 e2 e3
   subst e1;exact .inr ⟨⟨g,0,none⟩,by rw[hl],rfl,fun j u hj=>h.cells (g:=g) (by rw[Value.ownBlock]) j u (hsub j u hj),fun _=>⟨cur,(0,0),hg⟩⟩
 ·injection e with e1 e2 e3
  subst e1;exact .inr ⟨p,by rw[hl],hs,fun j u hj=>hc j u (hsub j u hj),fun _=>hb (fun e=>by rw[e]at hn;simp at hn)⟩
section
variable {P:Program} (w:World)
theorem run_append_full (base:Nat) (t ty e:TypeId) (i:TypeInfo) (z:Value) (bytes:Nat) (ht:P.underlying t=some (.slice e)) (hi:P.info? e=some i) (hz:i.zero=some z)
  (hsize:i.size=1) (hby:i.bytes=bytes) (hzs:z.cells.size=1)
  (p:Addr) (n:Nat) (xs:List Value) (hlx:xs.length=n) (hcx:∀j u,xs[j]? =some u->w.cell? (p.add j)=some u)
  (a:Addr) (c:Nat) (x:Value) (hx:w.cell? (a.add 0)=some x)
  (h63:n+1<=maxLen) (hbytes:(n+1)*bytes<=140737488355328) (hbase:base<=w.heap.size):
  ∃v' w',(Builtin.append_ #[t,t] ty #[.slice (some p) n n,.slice (some a) 1 c]).run P w=.ok v' w'/\w'.ownsRow base e 1 v' (n+1) (xs++[x])/\w.grownBy w' none:=by
 have hsmall:n+1<=9223372036854775807:=by simp only[maxLen]at h63;omega
 have hr:=run_append_grow (P:=P) w t ty e i z ht hi hz p n n xs (by rw[hsize,Nat.mul_one];exact hlx) hcx a 1 c [x] (by rw[hsize];rfl) (fun j u hj=>by
  have:j<1:=by simpa using(List.getElem?_eq_some_iff.1 hj).1
  obtain rfl:j=0:=by omega
  obtain rfl:x=u:=by simpa using hj
  exact hx) (by omega) (by omega) (growslice_fits (by omega) (by rw[hby];exact hbytes))
 refine⟨_,_,hr,⟨by simp[hlx],.inr ⟨w.heap.size,_,_,rfl,hbase,heap_alloc_new w.drew _,grownCap_ge _ _ _ _,grownCap_le_maxLen w (n+1) n e h63,?_,?_⟩⟩,⟨rfl,rfl,rfl,by simp,fun k hk _=>Below.heap_alloc w.drew _ k hk⟩⟩
 ·have hge:=grownCap_ge w (n+1) n e;simp only[Array.size_append,List.size_toArray,size_zeroCells,hzs,hlx,List.length_singleton];omega
 ·simp only[Array.toList_append,List.append_assoc];rw[<-List.append_assoc,show(n+1)*1=(xs++[x]).length by simp[hlx]];exact List.take_left
end
theorem run_append_path (w:World) (base:Nat) (ty:TypeId) (v:Value) (xs:List ByteArray) (hown:PathOwn w base v xs) (a:Addr) (c:Nat) (p:ByteArray) (hp:w.cell? (a.add 0)=some (.string p))
  (hlen:xs.length<=1000000000) (hbase:base<=w.heap.size):
  ∃v' w' row,(Builtin.append_ #[22,22] ty #[v,.slice (some a) 1 c]).run Tryz.prog w=.ok v' w'/\PathOwn w' base v' (xs++[p])/\w.grownBy w' row/\(∀k,row=some k->base<=k/\∃cur fr,w.heap[k]? =some (.cells cur 9 fr)):=by
 obtain⟨i0,hi,hz0,hz1,hz2⟩:=info_parts infoTxt;have hm:(xs++[p]).map Value.string=xs.map Value.string++[.string p]:=by simp
 rcases hown with h|⟨q,rfl,hs,hc,hb⟩
 ·have hn1:∀j u,[Value.string p][j]? =some u->w.cell? (a.add j)=some u:=fun j u hj=>by
   have:j<1:=by simpa using(List.getElem?_eq_some_iff.1 hj).1
   obtain rfl:j=0:=by omega
   obtain rfl:Value.string p=u:=by simpa using hj
   exact hp
  obtain⟨v',w',hr,h2,h3,_⟩:=run_append_own (P:=Tryz.prog) w base 22 ty 9 i0 (.string ⟨#[]⟩) 1 16 Tryz.underlying22 hi hz0 hz1 hz2 rfl (by decide) v xs.length (xs.map Value.string) h a 1 c [.string p] rfl hn1 (by simp[Value.oneCell']) (by unfold maxLen;omega) (by omega) hbase;refine⟨v',w',v.ownBlock,hr,.inl ?_,h3,fun k hk=>?_⟩
  ·rw[hm,List.length_append];exact h2
  ·rcases h.2 with⟨rfl,_⟩|⟨g,cap,cur,rfl,hgb,hg,_⟩
   ·cases hk
   ·injection hk with hk;subst hk;exact⟨hgb,cur,_,hg⟩
 ·obtain⟨v',w',hr,h2,h3⟩:=run_append_full (P:=Tryz.prog) w base 22 ty 9 i0 (.string ⟨#[]⟩) 16 Tryz.underlying22 hi hz0 hz1 hz2 rfl q xs.length (xs.map Value.string) (by simp) hc a c (.string p) hp (by unfold maxLen;omega) (by omega) hbase;refine⟨v',w',none,hr,.inl ?_,h3,fun k hk=>by cases hk⟩;rw[hm,List.length_append];exact h2
def RowOk (B:Nat) (w:World) (row:Option Nat):Prop:=∀k,row=some k->B<=k/\∃cur fr,w.heap[k]? =some (.cells cur 9 fr)
theorem wpList_append_path (w:World) {ops:Array Oper} {rest:List Oper} {o:Oper} {a:Act} {Q:Exit->Act->World->Prop} (hgd:o.guard=none) (s x:Operand)
  (ho:o.op=.call {callee:=.builtin .append,args:= #[s,x],argTypes:= #[22,22]})
  (base:Nat) (v:Value) (xs:List ByteArray) (hs:a.eval s=v) (hown:PathOwn w base v xs) (ad:Addr) (c:Nat) (p:ByteArray) (hx:a.eval x=.slice (some ad) 1 c) (hp:w.cell? (ad.add 0)=some (.string p))
  (hlen:xs.length<=1000000000) (hbase:base<=w.heap.size)
  (h:∀g n' c' w' row,PathOwn w' base (.slice (some g) n' c') (xs++[p])->w.grownBy w' row->RowOk base w row->wpList Tryz.prog ops Q rest (a.put o.dst (.slice (some g) n' c')) w'):
  wpList Tryz.prog ops Q (o::rest) a w:=by
 refine wpList_plain hgd fun K hK=>?_;obtain⟨v',w',row,hr,h2,h3,h4⟩:=run_append_path w base o.type v xs hown ad c p hp hlen hbase;obtain⟨g,c',rfl,_,hcells⟩:=h2.form;obtain⟨G,off,rfl,_,_⟩:=hcells xs.length p (by simp);unfold Oper.wp execOp;simp only[ho,resolve,invoke,builtin,Sem.run_bind,Sem.run_pure,Result.andThen_ok,List.map_toArray,List.map_cons,List.map_nil,hs,hx,hr];exact hK _ _ (h _ _ _ w' row h2 h3 h4)
structure MkV where
 sch:ByteArray
 usr:ByteArray
 pas:ByteArray
 hh:Bool
 hst:ByteArray
 prt:Int
 opq:Bool
 pv:Value
 xs:List ByteArray
 hq:Bool
 hf:Bool
 qry:ByteArray
 frg:ByteArray
def MkV.url (x:MkV):Lz.UrlL:=⟨x.sch.data.toList,x.usr.data.toList,x.pas.data.toList,x.hh,x.hst.data.toList,x.prt,x.opq,x.xs.map (·.data.toList),x.hq,x.hf,x.qry.data.toList,x.frg.data.toList⟩
def slashB (sp:Bool):ByteArray:=if sp then⟨#[47,92]⟩else⟨#[47]⟩
structure MkAt (B M:Nat) (w:World) (x:MkV) (sp:Bool) (sl:ByteArray):Prop where
 row:w.heap[M]? =some (.cells #[.string x.sch,.string x.usr,.string x.pas,.bool x.hh,.string x.hst,.int .i64 x.prt,.bool x.opq,x.pv,.bool x.hq,.bool x.hf,.string x.qry,.string x.frg,.bool sp,.string sl] 91 (0,0))
 own:PathOwn w B x.pv x.xs
 le:B<=M
def MkIs (B M:Nat) (w:World) (u:Lz.UrlL):Prop:=∃x,MkAt B M w x (Lz.specP x.sch.data.toList) (slashB (Lz.specP x.sch.data.toList))/\Hid (x.url=u)
theorem MkAt.below {B M:Nat} {w w':World} {x:MkV} {sp:Bool} {sl:ByteArray} (h:MkAt B M w x sp sl) (hb:Below w.heap.size w w'):MkAt B M w' x sp sl:=
 ⟨by rw[hb.block M (row_lt h.row)];exact h.row,h.own.below hb,h.le⟩
theorem MkIs.below {B M:Nat} {w w':World} {u:Lz.UrlL} (h:MkIs B M w u) (hb:Below w.heap.size w w'):MkIs B M w' u:=by
 obtain⟨x,hx,hu⟩:=h;exact⟨x,hx.below hb,hu⟩
theorem MkIs.form {B M:Nat} {w:World} {u:Lz.UrlL} (h:MkIs B M w u):∃(sch usr pas:ByteArray) (hh:Bool) (hst:ByteArray) (prt:Int) (opq:Bool) (a:Option Addr) (c:Nat) (xs:List ByteArray) (hq hf:Bool) (qry frg:ByteArray),
  MkAt B M w ⟨sch,usr,pas,hh,hst,prt,opq,.slice a xs.length c,xs,hq,hf,qry,frg⟩ (Lz.specP sch.data.toList) (slashB (Lz.specP sch.data.toList))/\
  u=⟨sch.data.toList,usr.data.toList,pas.data.toList,hh,hst.data.toList,prt,opq,xs.map (fun x:ByteArray=>x.data.toList),hq,hf,qry.data.toList,frg.data.toList⟩/\xs.length<=c/\
  ∀(j:Nat) (x:ByteArray),xs[j]? =some x->∃G off,a=some ⟨G,off,none⟩/\G<w.heap.size/\w.cell? ⟨G,off+j,none⟩=some (.string x):=by
 obtain⟨⟨sch,usr,pas,hh,hst,prt,opq,pv,xs,hq,hf,qry,frg⟩,hm,hu⟩:=h;obtain⟨a,c,hpv,hc,hcells⟩:=hm.own.form;have hpv':pv=.slice a xs.length c:=hpv;subst hpv';exact⟨sch,usr,pas,hh,hst,prt,opq,a,c,xs,hq,hf,qry,frg,hm,hu.out.symm,hc,hcells⟩
def RMk (B M:Nat) (u:Lz.UrlL) (w:World) (e:Ending) (w':World):Prop:=e=.returned (.tuple #[])/\Below B w w'/\MkIs B M w' u
theorem maker_ne:91≠9:=by decide
theorem below_grownP {B:Nat} {a w w':World} {row:Option Nat} (h:Below B a w) (hg:w.grownBy w' row) (hB:B<=w.heap.size) (hr:RowOk B w row):Below B a w':=
 h.grown hg hB fun k hk=>(hr k hk).1
theorem row_grownP {w w':World} {row:Option Nat} {B M:Nat} {cs:Array Value} (hM:w.heap[M]? =some (.cells cs 91 (0,0))) (hg:w.grownBy w' row) (hr:RowOk B w row):w'.heap[M]? =some (.cells cs 91 (0,0)):=by
 rw[hg.block M (row_lt hM) (fun e=>?_)]
 ·exact hM
 ·obtain⟨_,cur,fr,h1⟩:=hr M e.symm;rw[hM]at h1;injection h1 with h1
  injection h1 with _ h2 _
  exact maker_ne h2
end Go.Proofs.YtjhccadmmnjpeaaGreatDoor
