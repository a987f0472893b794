/-
  hosts.number.
-/
import Derived.Test.YtfepgodjaeddgaaGreatDoorR10
import Derived.Test.YtfepgodjaeddgaaGreatDoorR11
set_option maxHeartbeats 1000000
set_option maxRecDepth 100000
namespace Lz
open Go
theorem numF_snoc (base:Nat):∀(l:Bs) (n:Nat) (c:UInt8),numF base n (l++[c])=match numF base n l with
  | none=>none
  | some m=>match hexV c with
    | none=>none
    | some d=>if base<=d then none else some (min (m*base+d) 1099511627776)
 | [],n,c=>by
   simp only[List.nil_append,numF];cases hexV c with
   | none=>rfl
   | some d=>by_cases h:base<=d<;>simp[h]
 | x::r,n,c=>by
   simp only[List.cons_append,numF];cases hexV x with
   | none=>rfl
   | some d=>
     by_cases h:base<=d
     ·simp[h]
     ·simp only[h,if_false];exact numF_snoc base r _ c
theorem numF_prefix_none (base:Nat) (l m:Bs) (n:Nat) (h:numF base n l=none):numF base n (l++m)=none:=by
 induction m generalizing l with
 | nil=>simpa using h
 | cons c r ih=>
   have:=numF_snoc base l n c;rw[h]at this;have h2:=ih (l++[c]) this;simpa using h2
end Lz
namespace Go.Proofs.YtfepgodjaeddgaaGreatDoor
open Go.RowKit
theorem faulty_alloc {w:World} {e:Int} {s:ByteArray} {d:Nat} {u:Value} {t:TypeId} {fr:Nat×Nat} (hu:Faulty w e d u):Faulty (w.alloc (.cells #[.string s,u] t fr)) e (d+1) (.iface 261 (.pointer (some ⟨w.heap.size,0,none⟩))):=
 ⟨w.heap.size,u,rfl,by simp,by rw[World.cell?_alloc_mark];rfl,hu.below ((Below.refl _ w).alloc (Nat.le_refl _) _)⟩
def RNum (o:Option Nat) (w:World) (e:Ending) (w':World):Prop:=
 Below w.heap.size w w'/\match o with
  | some n=>e=.returned (.tuple #[.int .u64 n,.nilIface])/\n<=1099511627776
  | none=>∃v,e=.returned (.tuple #[.int .u64 0,v])/\Faulty w' 71 1 v
theorem rnum_fail {w wx:World} {s:ByteArray} {t:TypeId} {fr:Nat×Nat} (hb:Below w.heap.size w wx):
  RNum none w (.returned (.tuple #[.int .u64 0,.iface 261 (.pointer (some ⟨wx.heap.size,0,none⟩))])) (wx.alloc (.cells #[.string s,.iface 30 (.int .i64 71)] t fr)):=
 ⟨hb.alloc hb.size _,_,rfl,faulty_alloc rfl⟩
theorem rnum_ok {w wx:World} {n:Nat} (hb:Below w.heap.size w wx) (hn:n<=1099511627776):RNum (some n) w (.returned (.tuple #[.int .u64 n,.nilIface])) wx:=⟨hb,rfl,hn⟩
theorem wrap64 {x:Int} (h0:0<=x) (h1:x<=18446744073709551615):IntKind.u64.wrap x=x:=by
 have hb:IntKind.u64.bits=64:=rfl;have hs:IntKind.u64.signed=false:=rfl;simp only[IntKind.wrap,hb,hs]
 simp
 omega
theorem num_wrap (n B d:Nat) (hn:n<=1099511627776) (hB:B<=16) (hd:d<16):
  min (IntKind.u64.wrap (IntKind.u64.wrap ((n:Int)*(B:Int))+(d:Int))) 1099511627776=((min (n*B+d) 1099511627776:Nat):Int):=by
 have hm:n*B<=1099511627776*16:=Nat.mul_le_mul hn hB;have e:(n:Int)*(B:Int)=((n*B:Nat):Int):=by simp
 rw[e];generalize n*B=m at hm⊢;rw[wrap64 (x:=(m:Int)) (by omega) (by omega),wrap64 (by omega) (by omega)];omega
def numArgs (s:List UInt8):Nat×List UInt8:=
 if Lib.hasPrefix (Lz.low s) [48,120]then(16,48::(Lz.low s).drop 2)else if 1<s.length/\s[0]? =some 48 then(8,s.drop 1)else(10,s)
def numG (a:Nat×List UInt8):Option Nat:=if a.2=[]then none else Lz.numF a.1 0 a.2
theorem numArgs_eq (s:List UInt8):Lz.numP s=numG (numArgs s):=by
 unfold Lz.numP numArgs numG;by_cases h1:Lib.hasPrefix (Lz.low s) [48,120]=true
 ·simp[h1]
 ·by_cases h2:1<s.length/\s[0]? =some 48
  ·have:s.drop 1≠[]:=by intro h;have:=congrArg List.length h;simp at this;omega
   rw[if_neg h1,if_pos h2,if_neg h1,if_pos h2];exact(if_neg this).symm
  ·simp[h1,h2]
theorem HasPrefix_c (s p:ByteArray) (w:World):Calls Tryz.prog 100 #[.string s,.string p] w fun e w'=>e=.returned (.bool (Lib.hasPrefix s.data.toList p.data.toList))/\w=w':=by
 exact(Tryz.strings_HasPrefix s p w).mono fun _ _ ⟨h1,h2⟩=>⟨h1,h2.symm⟩
theorem number_any (s:ByteArray) (hs:s.size<=1048576) (w:World):Calls Tryz.prog 244 #[.string s] w (RNum (Lz.numP s.data.toList) w):=by
 rw[numArgs_eq];obtain⟨q1,hq1⟩:∃q,q=Lib.hasPrefix (Lz.low s.data.toList) [48,120]:=⟨_,rfl⟩;have hx0:Below w.heap.size w w:=Below.refl _ w;go_enter Tryz.func244,Tryz.ntmps244
 go_wp2_with fail
 with_reducible refine(Lower_c s (by omega) _).mono ?_
 rintro e w1 ⟨lw,rfl,hlw,hb1⟩
 go_wp2_with fail
 with_reducible refine(HasPrefix_c lw ⟨#[48,120]⟩ _).mono ?_
 rintro e w1' ⟨rfl,rfl⟩;rw[show Lib.hasPrefix lw.data.toList (ByteArray.data ⟨#[48,120]⟩).toList=q1 by rw[hq1,hlw.out]]
 obtain hq|⟨hq,h2a,h2b⟩|⟨hq,h2a⟩|⟨hq,h2a,h2b⟩:q1=true\/(q1=false/\1<s.size/\s.data.toList[0]? =some 48)\/(q1=false/\¬1<s.size)\/(q1=false/\1<s.size/\s.data.toList[0]? ≠some 48):=by
  cases q1
  ·by_cases h1:1<s.size
   ·by_cases h3:s.data.toList[0]? =some 48
    ·exact Or.inr (Or.inl ⟨rfl,h1,h3⟩)
    ·exact Or.inr (Or.inr (Or.inr ⟨rfl,h1,h3⟩))
   ·exact Or.inr (Or.inr (Or.inl ⟨rfl,h1⟩))
  ·exact Or.inl rfl
 ·have hlz:lw.size=s.size:=by rw[<-len_of_size,hlw.out];simp[Lz.low]
  have hl2:2<=lw.size:=by
   have:=hq1.symm.trans hq;rw[<-hlw.out]at this;rw[<-Lib.hasPrefix_of_take,Bool.and_eq_true,decide_eq_true_eq,len_of_size]at this;exact this.1
  have hs1:¬(9223372036854775807<1+(lw.size-2)):=by omega
  have HA:Hid (numArgs s.data.toList=(16,((⟨#[48]⟩:ByteArray)++lw.extract 2 lw.size).data.toList)):=by
   show _=_;rw[app_data,extract_tail',hlw.out];unfold numArgs;rw[if_pos (hq1.symm.trans hq)];rfl
  have huz:((⟨#[48]⟩:ByteArray)++lw.extract 2 lw.size).size<=s.size+1:=by
   have h1:((⟨#[48]⟩:ByteArray)++lw.extract 2 lw.size).data.toList.length=1+(lw.size-2):=by
    rw[app_data,extract_tail',List.length_append,List.length_drop,len_of_size];rfl
   rw[<-len_of_size];omega
  subst hq;clear hq1 hlz;obtain⟨B,hB⟩:∃B:Nat,B=16:=⟨_,rfl⟩;rw[show(16:Nat)=B from hB.symm]at HA;have hB1:1<=B/\B<=16:=by omega
  go_upto_region 4 with fail
  go_quiet (fail)
  rw[show Value.int .i64 16=Value.int .i64 (B:Int) by rw[hB];rfl];have hbx:=below_drewN hb1 nq;generalize (⟨#[48]⟩:ByteArray)++lw.extract 2 lw.size=u at HA huz⊢;generalize w1.drewN nq=wx at hbx⊢;clear hB hb1 hlw hs1 hl2;by_cases hz:u.size=0
  ·have he:=isEmpty_of_size hz
   have HN:Hid (numG (numArgs s.data.toList)=none):=by
    show _=_;rw[HA.out];have:u.data.toList=[]:=List.length_eq_zero_iff.1 (by rw[len_of_size];exact hz);unfold numG;rw[this];rfl
   first
    | (exfalso;omega)
    | (go_wp2;go_ret2;rw[HN.out];exact rnum_fail hbx)
  ·have he:=isEmpty_of_pos (s:=u) (by omega)
   have HU:Hid (numG (numArgs s.data.toList)=Lz.numF B 0 u.data.toList):=by
    show _=_;rw[HA.out];have:u.data.toList≠[]:=by intro h;exact hz (by rw[<-len_of_size,h];rfl)
    exact if_neg this
   go_wp2_with fail
   go_loopw [7,39] (fun a i wr=>∃j n:Nat,j<=u.size/\n<=1099511627776/\a=.int .u64 n/\i=.int .i64 j/\Hid (Lz.numF B 0 (u.data.toList.take j)=some n)/\Below w.heap.size w wr) (fun _ i _=>u.size-(intOf i).toNat)
   case atStart=>exact⟨0,0,Nat.zero_le _,by omega,rfl,rfl,Ih rfl,hbx⟩
   case round=>
    clear hbx;obtain⟨j,n,hj,hn,rfl,rfl,hN,hb⟩:=hrel;by_cases hlt:j<u.size
    ·have hg:=get_of_lt (s:=u) hlt;have htk:u.data.toList.take (j+1)=u.data.toList.take j++[u[j]]:=by rw[List.take_add_one,hg];rfl
     have hsn:=Lz.numF_snoc B (u.data.toList.take j) 0 u[j];rw[<-htk,hN.out]at hsn;have hpre:=fun h=>Lz.numF_prefix_none B (u.data.toList.take (j+1)) (u.data.toList.drop (j+1)) 0 h;rw[List.take_append_drop]at hpre;have cH:=fun W=>Hex_any u[j] W;unfold RHex Lz.hexN Lz.hexB at cH;have hx16:=hexN_lt u[j];unfold Lz.hexN at hx16;generalize hxv:Lz.hexV u[j]=xv at cH hsn hx16;have HSn:=Ih hsn;have HPr:=Ih hpre;clear hsn hpre htk hg hxv;cases xv with
     | none=>
       have HN2:Hid (Lz.numF B 0 u.data.toList=none):=by show _=_;exact HPr.out HSn.out
       go_wp2_with fail
       with_reducible refine(cH _).mono ?_
       rintro e w' ⟨rfl,rfl⟩
       go_wp2
       go_ret2
       rw[HU.out,HN2.out];exact rnum_fail hb
     | some d=>
       by_cases hBd:B<=d
       ·have HN2:Hid (Lz.numF B 0 u.data.toList=none):=by show _=_;exact HPr.out (HSn.out.trans (if_pos hBd))
        have hBd':(B:Int)<=(d:Int):=by omega
        go_wp2_with fail
        with_reducible refine(cH _).mono ?_
        rintro e w' ⟨rfl,rfl⟩
        go_wp2
        go_ret2
        rw[HU.out,HN2.out];exact rnum_fail hb
       ·have HS2:Hid (Lz.numF B 0 (u.data.toList.take (j+1))=some (min (n*B+d) 1099511627776)):=by show _=_;exact HSn.out.trans (if_neg hBd)
        have hBd':¬(B:Int)<=(d:Int):=by omega
        go_wp2_with fail
        with_reducible refine(cH _).mono ?_
        rintro e w' ⟨rfl,rfl⟩
        go_wp2
        go_roundw
        case rel=>exact⟨j+1,_,by omega,Nat.min_le_right _ _,congrArg _ (num_wrap n B d hn hB1.2 hx16),by go_num,HS2.out,hb⟩
        case measure=>simp[intOf];omega
    ·have hju:j=u.size:=by omega
     have HN2:Hid (Lz.numF B 0 u.data.toList=some n):=by
      show _=_;have:=hN.out;rw[hju,List.take_of_length_le (by rw[len_of_size];exact Nat.le_refl _)]at this;exact this
     go_wp2
     go_ret2
     rw[HU.out,HN2.out];exact rnum_ok hb hn
 ·have h48:((s[0].toNat:Int)==48)=true:=by
   rw[get_of_lt (by omega)]at h2b;exact(beqI s[0] 48).trans (beq_iff_eq.2 (Option.some.inj h2b))
  have HA:Hid (numArgs s.data.toList=(8,(s.extract 1 s.size).data.toList)):=by
   show _=_;rw[extract_tail'];unfold numArgs;rw[if_neg (by rw[<-hq1,hq];decide),if_pos ⟨by rw[len_of_size];exact h2a,h2b⟩]
  have huz:(s.extract 1 s.size).size<=s.size+1:=Nat.le_succ_of_le (extract_size_le' s 1 s.size);subst hq;clear h2b hq1;obtain⟨B,hB⟩:∃B:Nat,B=8:=⟨_,rfl⟩;rw[show(8:Nat)=B from hB.symm]at HA;have hB1:1<=B/\B<=16:=by omega
  go_upto_region 6 with fail
  go_quiet (fail)
  rw[show Value.int .i64 8=Value.int .i64 (B:Int) by rw[hB];rfl];have hbx:=below_drewN hb1 nq;generalize s.extract 1 s.size=u at HA huz⊢;generalize w1.drewN nq=wx at hbx⊢;clear hB h48 h2a hb1 hlw;by_cases hz:u.size=0
  ·have he:=isEmpty_of_size hz
   have HN:Hid (numG (numArgs s.data.toList)=none):=by
    show _=_;rw[HA.out];have:u.data.toList=[]:=List.length_eq_zero_iff.1 (by rw[len_of_size];exact hz);unfold numG;rw[this];rfl
   first
    | (exfalso;omega)
    | (go_wp2;go_ret2;rw[HN.out];exact rnum_fail hbx)
  ·have he:=isEmpty_of_pos (s:=u) (by omega)
   have HU:Hid (numG (numArgs s.data.toList)=Lz.numF B 0 u.data.toList):=by
    show _=_;rw[HA.out];have:u.data.toList≠[]:=by intro h;exact hz (by rw[<-len_of_size,h];rfl)
    exact if_neg this
   go_wp2_with fail
   go_loopw [7,39] (fun a i wr=>∃j n:Nat,j<=u.size/\n<=1099511627776/\a=.int .u64 n/\i=.int .i64 j/\Hid (Lz.numF B 0 (u.data.toList.take j)=some n)/\Below w.heap.size w wr) (fun _ i _=>u.size-(intOf i).toNat)
   case atStart=>exact⟨0,0,Nat.zero_le _,by omega,rfl,rfl,Ih rfl,hbx⟩
   case round=>
    clear hbx;obtain⟨j,n,hj,hn,rfl,rfl,hN,hb⟩:=hrel;by_cases hlt:j<u.size
    ·have hg:=get_of_lt (s:=u) hlt;have htk:u.data.toList.take (j+1)=u.data.toList.take j++[u[j]]:=by rw[List.take_add_one,hg];rfl
     have hsn:=Lz.numF_snoc B (u.data.toList.take j) 0 u[j];rw[<-htk,hN.out]at hsn;have hpre:=fun h=>Lz.numF_prefix_none B (u.data.toList.take (j+1)) (u.data.toList.drop (j+1)) 0 h;rw[List.take_append_drop]at hpre;have cH:=fun W=>Hex_any u[j] W;unfold RHex Lz.hexN Lz.hexB at cH;have hx16:=hexN_lt u[j];unfold Lz.hexN at hx16;generalize hxv:Lz.hexV u[j]=xv at cH hsn hx16;have HSn:=Ih hsn;have HPr:=Ih hpre;clear hsn hpre htk hg hxv;cases xv with
     | none=>
       have HN2:Hid (Lz.numF B 0 u.data.toList=none):=by show _=_;exact HPr.out HSn.out
       go_wp2_with fail
       with_reducible refine(cH _).mono ?_
       rintro e w' ⟨rfl,rfl⟩
       go_wp2
       go_ret2
       rw[HU.out,HN2.out];exact rnum_fail hb
     | some d=>
       by_cases hBd:B<=d
       ·have HN2:Hid (Lz.numF B 0 u.data.toList=none):=by show _=_;exact HPr.out (HSn.out.trans (if_pos hBd))
        have hBd':(B:Int)<=(d:Int):=by omega
        go_wp2_with fail
        with_reducible refine(cH _).mono ?_
        rintro e w' ⟨rfl,rfl⟩
        go_wp2
        go_ret2
        rw[HU.out,HN2.out];exact rnum_fail hb
       ·have HS2:Hid (Lz.numF B 0 (u.data.toList.take (j+1))=some (min (n*B+d) 1099511627776)):=by show _=_;exact HSn.out.trans (if_neg hBd)
        have hBd':¬(B:Int)<=(d:Int):=by omega
        go_wp2_with fail
        with_reducible refine(cH _).mono ?_
        rintro e w' ⟨rfl,rfl⟩
        go_wp2
        go_roundw
        case rel=>exact⟨j+1,_,by omega,Nat.min_le_right _ _,congrArg _ (num_wrap n B d hn hB1.2 hx16),by go_num,HS2.out,hb⟩
        case measure=>simp[intOf];omega
    ·have hju:j=u.size:=by omega
     have HN2:Hid (Lz.numF B 0 u.data.toList=some n):=by
      show _=_;have:=hN.out;rw[hju,List.take_of_length_le (by rw[len_of_size];exact Nat.le_refl _)]at this;exact this
     go_wp2
     go_ret2
     rw[HU.out,HN2.out];exact rnum_ok hb hn
 ·have HA:Hid (numArgs s.data.toList=(10,s.data.toList)):=by
   show _=_;unfold numArgs;rw[if_neg (by rw[<-hq1,hq];decide),if_neg (by rw[len_of_size];exact fun h=>h2a h.1)]
  have huz:s.size<=s.size+1:=Nat.le_succ _;have h2c:(s.size:Int)<=1:=by omega
  subst hq;clear hq1;obtain⟨B,hB⟩:∃B:Nat,B=10:=⟨_,rfl⟩;rw[show(10:Nat)=B from hB.symm]at HA;have hB1:1<=B/\B<=16:=by omega
  go_upto_region 7 with fail
  rw[show Value.int .i64 10=Value.int .i64 (B:Int) by rw[hB];rfl];have hbx:=hb1;generalize w1=wx at hbx⊢;clear hB h2a h2c hb1 hlw;by_cases hz:s.size=0
  ·have he:=isEmpty_of_size hz
   have HN:Hid (numG (numArgs s.data.toList)=none):=by
    show _=_;rw[HA.out];have:s.data.toList=[]:=List.length_eq_zero_iff.1 (by rw[len_of_size];exact hz);unfold numG;rw[this];rfl
   first
    | (exfalso;omega)
    | (go_wp2;go_ret2;rw[HN.out];exact rnum_fail hbx)
  ·have he:=isEmpty_of_pos (s:=s) (by omega)
   have HU:Hid (numG (numArgs s.data.toList)=Lz.numF B 0 s.data.toList):=by
    show _=_;rw[HA.out];have:s.data.toList≠[]:=by intro h;exact hz (by rw[<-len_of_size,h];rfl)
    exact if_neg this
   go_wp2_with fail
   go_loopw [7,39] (fun a i wr=>∃j n:Nat,j<=s.size/\n<=1099511627776/\a=.int .u64 n/\i=.int .i64 j/\Hid (Lz.numF B 0 (s.data.toList.take j)=some n)/\Below w.heap.size w wr) (fun _ i _=>s.size-(intOf i).toNat)
   case atStart=>exact⟨0,0,Nat.zero_le _,by omega,rfl,rfl,Ih rfl,hbx⟩
   case round=>
    clear hbx;obtain⟨j,n,hj,hn,rfl,rfl,hN,hb⟩:=hrel;by_cases hlt:j<s.size
    ·have hg:=get_of_lt (s:=s) hlt;have htk:s.data.toList.take (j+1)=s.data.toList.take j++[s[j]]:=by rw[List.take_add_one,hg];rfl
     have hsn:=Lz.numF_snoc B (s.data.toList.take j) 0 s[j];rw[<-htk,hN.out]at hsn;have hpre:=fun h=>Lz.numF_prefix_none B (s.data.toList.take (j+1)) (s.data.toList.drop (j+1)) 0 h;rw[List.take_append_drop]at hpre;have cH:=fun W=>Hex_any s[j] W;unfold RHex Lz.hexN Lz.hexB at cH;have hx16:=hexN_lt s[j];unfold Lz.hexN at hx16;generalize hxv:Lz.hexV s[j]=xv at cH hsn hx16;have HSn:=Ih hsn;have HPr:=Ih hpre;clear hsn hpre htk hg hxv;cases xv with
     | none=>
       have HN2:Hid (Lz.numF B 0 s.data.toList=none):=by show _=_;exact HPr.out HSn.out
       go_wp2_with fail
       with_reducible refine(cH _).mono ?_
       rintro e w' ⟨rfl,rfl⟩
       go_wp2
       go_ret2
       rw[HU.out,HN2.out];exact rnum_fail hb
     | some d=>
       by_cases hBd:B<=d
       ·have HN2:Hid (Lz.numF B 0 s.data.toList=none):=by show _=_;exact HPr.out (HSn.out.trans (if_pos hBd))
        have hBd':(B:Int)<=(d:Int):=by omega
        go_wp2_with fail
        with_reducible refine(cH _).mono ?_
        rintro e w' ⟨rfl,rfl⟩
        go_wp2
        go_ret2
        rw[HU.out,HN2.out];exact rnum_fail hb
       ·have HS2:Hid (Lz.numF B 0 (s.data.toList.take (j+1))=some (min (n*B+d) 1099511627776)):=by show _=_;exact HSn.out.trans (if_neg hBd)
        have hBd':¬(B:Int)<=(d:Int):=by omega
        go_wp2_with fail
        with_reducible refine(cH _).mono ?_
        rintro e w' ⟨rfl,rfl⟩
        go_wp2
        go_roundw
        case rel=>exact⟨j+1,_,by omega,Nat.min_le_right _ _,congrArg _ (num_wrap n B d hn hB1.2 hx16),by go_num,HS2.out,hb⟩
        case measure=>simp[intOf];omega
    ·have hju:j=s.size:=by omega
     have HN2:Hid (Lz.numF B 0 s.data.toList=some n):=by
      show _=_;have:=hN.out;rw[hju,List.take_of_length_le (by rw[len_of_size];exact Nat.le_refl _)]at this;exact this
     go_wp2
     go_ret2
     rw[HU.out,HN2.out];exact rnum_ok hb hn
 ·have h48:((s[0].toNat:Int)==48)=false:=by
   rw[get_of_lt (by omega)]at h2b;exact(beqI s[0] 48).trans (beq_eq_false_iff_ne.2 (fun h=>h2b (congrArg some h)))
  have HA:Hid (numArgs s.data.toList=(10,s.data.toList)):=by
   show _=_;unfold numArgs;rw[if_neg (by rw[<-hq1,hq];decide),if_neg (fun h=>h2b h.2)]
  have huz:s.size<=s.size+1:=Nat.le_succ _;subst hq;clear hq1 h2b;obtain⟨B,hB⟩:∃B:Nat,B=10:=⟨_,rfl⟩;rw[show(10:Nat)=B from hB.symm]at HA;have hB1:1<=B/\B<=16:=by omega
  go_upto_region 7 with fail
  rw[show Value.int .i64 10=Value.int .i64 (B:Int) by rw[hB];rfl];have hbx:=hb1;generalize w1=wx at hbx⊢;clear hB h48 hb1 hlw;by_cases hz:s.size=0
  ·have he:=isEmpty_of_size hz
   have HN:Hid (numG (numArgs s.data.toList)=none):=by
    show _=_;rw[HA.out];have:s.data.toList=[]:=List.length_eq_zero_iff.1 (by rw[len_of_size];exact hz);unfold numG;rw[this];rfl
   first
    | (exfalso;omega)
    | (go_wp2;go_ret2;rw[HN.out];exact rnum_fail hbx)
  ·have he:=isEmpty_of_pos (s:=s) (by omega)
   have HU:Hid (numG (numArgs s.data.toList)=Lz.numF B 0 s.data.toList):=by
    show _=_;rw[HA.out];have:s.data.toList≠[]:=by intro h;exact hz (by rw[<-len_of_size,h];rfl)
    exact if_neg this
   go_wp2_with fail
   go_loopw [7,39] (fun a i wr=>∃j n:Nat,j<=s.size/\n<=1099511627776/\a=.int .u64 n/\i=.int .i64 j/\Hid (Lz.numF B 0 (s.data.toList.take j)=some n)/\Below w.heap.size w wr) (fun _ i _=>s.size-(intOf i).toNat)
   case atStart=>exact⟨0,0,Nat.zero_le _,by omega,rfl,rfl,Ih rfl,hbx⟩
   case round=>
    clear hbx;obtain⟨j,n,hj,hn,rfl,rfl,hN,hb⟩:=hrel;by_cases hlt:j<s.size
    ·have hg:=get_of_lt (s:=s) hlt;have htk:s.data.toList.take (j+1)=s.data.toList.take j++[s[j]]:=by rw[List.take_add_one,hg];rfl
     have hsn:=Lz.numF_snoc B (s.data.toList.take j) 0 s[j];rw[<-htk,hN.out]at hsn;have hpre:=fun h=>Lz.numF_prefix_none B (s.data.toList.take (j+1)) (s.data.toList.drop (j+1)) 0 h;rw[List.take_append_drop]at hpre;have cH:=fun W=>Hex_any s[j] W;unfold RHex Lz.hexN Lz.hexB at cH;have hx16:=hexN_lt s[j];unfold Lz.hexN at hx16;generalize hxv:Lz.hexV s[j]=xv at cH hsn hx16;have HSn:=Ih hsn;have HPr:=Ih hpre;clear hsn hpre htk hg hxv;cases xv with
     | none=>
       have HN2:Hid (Lz.numF B 0 s.data.toList=none):=by show _=_;exact HPr.out HSn.out
       go_wp2_with fail
       with_reducible refine(cH _).mono ?_
       rintro e w' ⟨rfl,rfl⟩
       go_wp2
       go_ret2
       rw[HU.out,HN2.out];exact rnum_fail hb
     | some d=>
       by_cases hBd:B<=d
       ·have HN2:Hid (Lz.numF B 0 s.data.toList=none):=by show _=_;exact HPr.out (HSn.out.trans (if_pos hBd))
        have hBd':(B:Int)<=(d:Int):=by omega
        go_wp2_with fail
        with_reducible refine(cH _).mono ?_
        rintro e w' ⟨rfl,rfl⟩
        go_wp2
        go_ret2
        rw[HU.out,HN2.out];exact rnum_fail hb
       ·have HS2:Hid (Lz.numF B 0 (s.data.toList.take (j+1))=some (min (n*B+d) 1099511627776)):=by show _=_;exact HSn.out.trans (if_neg hBd)
        have hBd':¬(B:Int)<=(d:Int):=by omega
        go_wp2_with fail
        with_reducible refine(cH _).mono ?_
        rintro e w' ⟨rfl,rfl⟩
        go_wp2
        go_roundw
        case rel=>exact⟨j+1,_,by omega,Nat.min_le_right _ _,congrArg _ (num_wrap n B d hn hB1.2 hx16),by go_num,HS2.out,hb⟩
        case measure=>simp[intOf];omega
    ·have hju:j=s.size:=by omega
     have HN2:Hid (Lz.numF B 0 s.data.toList=some n):=by
      show _=_;have:=hN.out;rw[hju,List.take_of_length_le (by rw[len_of_size];exact Nat.le_refl _)]at this;exact this
     go_wp2
     go_ret2
     rw[HU.out,HN2.out];exact rnum_ok hb hn
end Go.Proofs.YtfepgodjaeddgaaGreatDoor
