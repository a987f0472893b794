/-
  hosts.bytes: four decimal numbers.
-/
import Derived.Test.YtlcbhacofagedaaGreatDoorY12
import Derived.Test.YtlcbhacofagedaaGreatDoorY11
import Derived.Test.YtlcbhacofagedaaGreatDoorY10
set_option maxHeartbeats 1000000
set_option maxRecDepth 100000
namespace Lz
open Go
theorem ji (base:Nat):∀(l:Bs) (n:Nat) (c:UInt8),bE base n (l++[c])=match bE base n l with
  | none=>none
  | some m=>match dx c with
    | none=>none
    | some d=>if base<=d then none else some (min (m*base+d) 1099511627776)
 | [],n,c=>by
   simp only[List.nil_append,bE];cases dx c with
   | none=>rfl
   | some d=>by_cases h:base<=d<;>simp[h]
 | x::r,n,c=>by
   simp only[List.cons_append,bE];cases dx x with
   | none=>rfl
   | some d=>
     by_cases h:base<=d
     ·simp[h]
     ·simp only[h,if_false];exact ji base r _ c
theorem fJ (base:Nat) (l m:Bs) (n:Nat) (h:bE base n l=none):bE base n (l++m)=none:=by
 induction m generalizing l with
 | nil=>simpa using h
 | cons c r ih=>
   have:=ji base l n c;rw[h]at this;have h2:=ih (l++[c]) this;simpa using h2
end Lz
namespace Go.Proofs.YtlcbhacofagedaaGreatDoor
open Go.RowKit
theorem fM {w:World} {e:Int} {s:ByteArray} {d:Nat} {u:Value} {t:TypeId} {fr:Nat×Nat} (hu:dE w e d u):dE (w.alloc (.cells #[.string s,u] t fr)) e (d+1) (.iface 225 (.pointer (some ⟨w.heap.size,0,none⟩))):=
 ⟨w.heap.size,u,rfl,by simp,by rw[World.cell?_alloc_mark];rfl,hu.below ((Below.refl _ w).alloc (Nat.le_refl _) _)⟩
def UG (o:Option Nat) (w:World) (e:Ending) (w':World):Prop:=
 Below w.heap.size w w'/\match o with
  | some n=>e=.returned (.tuple #[.int .u64 n,.nilIface])/\n<=1099511627776
  | none=>∃v,e=.returned (.tuple #[.int .u64 0,v])/\dE w' 71 1 v
theorem ej {w wx:World} {s:ByteArray} {t:TypeId} {fr:Nat×Nat} (hb:Below w.heap.size w wx):
  UG none w (.returned (.tuple #[.int .u64 0,.iface 225 (.pointer (some ⟨wx.heap.size,0,none⟩))])) (wx.alloc (.cells #[.string s,.iface 27 (.int .i64 71)] t fr)):=
 ⟨hb.alloc hb.size _,_,rfl,fM rfl⟩
theorem ti {w wx:World} {n:Nat} (hb:Below w.heap.size w wx) (hn:n<=1099511627776):UG (some n) w (.returned (.tuple #[.int .u64 n,.nilIface])) wx:=⟨hb,rfl,hn⟩
theorem wrap64 {x:Int} (h0:0<=x) (h1:x<=18446744073709551615):IntKind.u64.wrap x=x:=by
 have hb:IntKind.u64.bits=64:=rfl;have hs:IntKind.u64.signed=false:=rfl;simp only[IntKind.wrap,hb,hs]
 simp
 omega
theorem pt (n B d:Nat) (hn:n<=1099511627776) (hB:B<=16) (hd:d<16):
  min (IntKind.u64.wrap (IntKind.u64.wrap ((n:Int)*(B:Int))+(d:Int))) 1099511627776=((min (n*B+d) 1099511627776:Nat):Int):=by
 have hm:n*B<=1099511627776*16:=Nat.mul_le_mul hn hB;have e:(n:Int)*(B:Int)=((n*B:Nat):Int):=by simp
 rw[e];generalize n*B=m at hm⊢;rw[wrap64 (x:=(m:Int)) (by omega) (by omega),wrap64 (by omega) (by omega)];omega
def d8 (s:List UInt8):Nat×List UInt8:=
 if Lib.hasPrefix (Lz.low s) [48,120]then(16,48::(Lz.low s).drop 2)else if 1<s.length/\s[0]? =some 48 then(8,s.drop 1)else(10,s)
def qj (a:Nat×List UInt8):Option Nat:=if a.2=[]then none else Lz.bE a.1 0 a.2
theorem E7 (s:List UInt8):Lz.fv s=qj (d8 s):=by
 unfold Lz.fv d8 qj;by_cases h1:Lib.hasPrefix (Lz.low s) [48,120]=true
 ·simp[h1]
 ·by_cases h2:1<s.length/\s[0]? =some 48
  ·have:s.drop 1≠[]:=by intro h;have:=congrArg List.length h;simp at this;omega
   rw[if_neg h1,if_pos h2,if_neg h1,if_pos h2];exact(if_neg this).symm
  ·simp[h1,h2]
theorem iz (s p:ByteArray) (w:World):Calls Tryz.prog 132 #[.string s,.string p] w fun e w'=>e=.returned (.bool (Lib.hasPrefix s.data.toList p.data.toList))/\w=w':=by
 exact(Tryz.strings_HasPrefix s p w).mono fun _ _ ⟨h1,h2⟩=>⟨h1,h2.symm⟩
theorem ui (s:ByteArray) (hs:s.size<=1048576) (w:World):Calls Tryz.prog 203 #[.string s] w (UG (Lz.fv s.data.toList) w):=by
 rw[E7];obtain⟨q1,bB⟩:∃q,q=Lib.hasPrefix (Lz.low s.data.toList) [48,120]:=⟨_,rfl⟩;have j8:Below w.heap.size w w:=Below.refl _ w;go_enter Tryz.func203,Tryz.ntmps203
 go_wp2_with fail
 with_reducible refine(j4 s (by omega) _).mono ?_
 rintro e w1 ⟨lw,rfl,Dk,aC⟩
 go_wp2_with fail
 with_reducible refine(iz lw ⟨#[48,120]⟩ _).mono ?_
 rintro e w1' ⟨rfl,rfl⟩;rw[show Lib.hasPrefix lw.data.toList (ByteArray.data ⟨#[48,120]⟩).toList=q1 by rw[bB,Dk.out]]
 obtain hq|⟨hq,Xo,Ip⟩|⟨hq,Xo⟩|⟨hq,Xo,Ip⟩:q1=true\/(q1=false/\1<s.size/\s.data.toList[0]? =some 48)\/(q1=false/\¬1<s.size)\/(q1=false/\1<s.size/\s.data.toList[0]? ≠some 48):=by
  cases q1
  ·by_cases h1:1<s.size
   ·by_cases h3:s.data.toList[0]? =some 48
    ·exact Or.inr (Or.inl ⟨rfl,h1,h3⟩)
    ·exact Or.inr (Or.inr (Or.inr ⟨rfl,h1,h3⟩))
   ·exact Or.inr (Or.inr (Or.inl ⟨rfl,h1⟩))
  ·exact Or.inl rfl
 ·have hlz:lw.size=s.size:=by rw[<-aa,Dk.out];simp[Lz.low]
  have DR:2<=lw.size:=by
   have:=bB.symm.trans hq;rw[<-Dk.out]at this;rw[<-Lib.hasPrefix_of_take,Bool.and_eq_true,decide_eq_true_eq,aa]at this;exact this.1
  have bn:¬(9223372036854775807<1+(lw.size-2)):=by omega
  have HA:Hid (d8 s.data.toList=(16,((⟨#[48]⟩:ByteArray)++lw.extract 2 lw.size).data.toList)):=by
   show _=_;rw[kD,aP,Dk.out];unfold d8;rw[if_pos (bB.symm.trans hq)];rfl
  have Sb:((⟨#[48]⟩:ByteArray)++lw.extract 2 lw.size).size<=s.size+1:=by
   have h1:((⟨#[48]⟩:ByteArray)++lw.extract 2 lw.size).data.toList.length=1+(lw.size-2):=by
    rw[kD,aP,List.length_append,List.length_drop,aa];rfl
   rw[<-aa];omega
  subst hq;clear bB hlz;obtain⟨B,hB⟩:∃B:Nat,B=16:=⟨_,rfl⟩;rw[show(16:Nat)=B from hB.symm]at HA;have DL:1<=B/\B<=16:=by omega
  go_upto_region 4 with fail
  go_quiet (fail)
  rw[show Value.int .i64 16=Value.int .i64 (B:Int) by rw[hB];rfl];have rB:=below_drewN aC nq;generalize (⟨#[48]⟩:ByteArray)++lw.extract 2 lw.size=u at HA Sb⊢;generalize w1.drewN nq=wx at rB⊢;clear hB aC Dk bn DR;by_cases hz:u.size=0
  ·have he:=ak hz
   have HN:Hid (qj (d8 s.data.toList)=none):=by
    show _=_;rw[HA.out];have:u.data.toList=[]:=List.length_eq_zero_iff.1 (by rw[aa];exact hz);unfold qj;rw[this];rfl
   first
    | (exfalso;omega)
    | (go_wp2;go_ret2;rw[HN.out];exact ej rB)
  ·have he:=aj (s:=u) (by omega)
   have HU:Hid (qj (d8 s.data.toList)=Lz.bE B 0 u.data.toList):=by
    show _=_;rw[HA.out];have:u.data.toList≠[]:=by intro h;exact hz (by rw[<-aa,h];rfl)
    exact if_neg this
   go_wp2_with fail
   go_loopw [7,39] (fun a i wr=>∃j n:Nat,j<=u.size/\n<=1099511627776/\a=.int .u64 n/\i=.int .i64 j/\Hid (Lz.bE B 0 (u.data.toList.take j)=some n)/\Below w.heap.size w wr) (fun _ i _=>u.size-(intOf i).toNat)
   case atStart=>exact⟨0,0,Nat.zero_le _,by omega,rfl,rfl,Ih rfl,rB⟩
   case round=>
    clear rB;obtain⟨j,n,hj,hn,rfl,rfl,hN,hb⟩:=hrel;by_cases aN:j<u.size
    ·have hg:=aw (s:=u) aN;have gE:u.data.toList.take (j+1)=u.data.toList.take j++[u[j]]:=by rw[List.take_add_one,hg];rfl
     have jd:=Lz.ji B (u.data.toList.take j) 0 u[j];rw[<-gE,hN.out]at jd;have iL:=fun h=>Lz.fJ B (u.data.toList.take (j+1)) (u.data.toList.drop (j+1)) 0 h;rw[List.take_append_drop]at iL;have cH:=fun W=>lj u[j] W;unfold BR Lz.il Lz.oK at cH;have jP:=iY u[j];unfold Lz.il at jP;generalize hxv:Lz.dx u[j]=xv at cH jd jP;have Gd:=Ih jd;have OU:=Ih iL;clear jd iL gE hg hxv;cases xv with
     | none=>
       have iF:Hid (Lz.bE B 0 u.data.toList=none):=by show _=_;exact OU.out Gd.out
       go_wp2_with fail
       with_reducible refine(cH _).mono ?_
       rintro e w' ⟨rfl,rfl⟩
       go_wp2
       go_ret2
       rw[HU.out,iF.out];exact ej hb
     | some d=>
       by_cases fG:B<=d
       ·have iF:Hid (Lz.bE B 0 u.data.toList=none):=by show _=_;exact OU.out (Gd.out.trans (if_pos fG))
        have FZ:(B:Int)<=(d:Int):=by omega
        go_wp2_with fail
        with_reducible refine(cH _).mono ?_
        rintro e w' ⟨rfl,rfl⟩
        go_wp2
        go_ret2
        rw[HU.out,iF.out];exact ej hb
       ·have xa:Hid (Lz.bE B 0 (u.data.toList.take (j+1))=some (min (n*B+d) 1099511627776)):=by show _=_;exact Gd.out.trans (if_neg fG)
        have FZ:¬(B:Int)<=(d:Int):=by omega
        go_wp2_with fail
        with_reducible refine(cH _).mono ?_
        rintro e w' ⟨rfl,rfl⟩
        go_wp2
        go_roundw
        case rel=>exact⟨j+1,_,by omega,Nat.min_le_right _ _,congrArg _ (pt n B d hn DL.2 jP),by go_num,xa.out,hb⟩
        case measure=>simp[intOf];omega
    ·have W8:j=u.size:=by omega
     have iF:Hid (Lz.bE B 0 u.data.toList=some n):=by
      show _=_;have:=hN.out;rw[W8,List.take_of_length_le (by rw[aa];exact Nat.le_refl _)]at this;exact this
     go_wp2
     go_ret2
     rw[HU.out,iF.out];exact ti hb hn
 ·have AH:((s[0].toNat:Int)==48)=true:=by
   rw[aw (by omega)]at Ip;exact(jO s[0] 48).trans (beq_iff_eq.2 (Option.some.inj Ip))
  have HA:Hid (d8 s.data.toList=(8,(s.extract 1 s.size).data.toList)):=by
   show _=_;rw[aP];unfold d8;rw[if_neg (by rw[<-bB,hq];decide),if_pos ⟨by rw[aa];exact Xo,Ip⟩]
  have Sb:(s.extract 1 s.size).size<=s.size+1:=Nat.le_succ_of_le (aJ s 1 s.size);subst hq;clear Ip bB;obtain⟨B,hB⟩:∃B:Nat,B=8:=⟨_,rfl⟩;rw[show(8:Nat)=B from hB.symm]at HA;have DL:1<=B/\B<=16:=by omega
  go_upto_region 6 with fail
  go_quiet (fail)
  rw[show Value.int .i64 8=Value.int .i64 (B:Int) by rw[hB];rfl];have rB:=below_drewN aC nq;generalize s.extract 1 s.size=u at HA Sb⊢;generalize w1.drewN nq=wx at rB⊢;clear hB AH Xo aC Dk;by_cases hz:u.size=0
  ·have he:=ak hz
   have HN:Hid (qj (d8 s.data.toList)=none):=by
    show _=_;rw[HA.out];have:u.data.toList=[]:=List.length_eq_zero_iff.1 (by rw[aa];exact hz);unfold qj;rw[this];rfl
   first
    | (exfalso;omega)
    | (go_wp2;go_ret2;rw[HN.out];exact ej rB)
  ·have he:=aj (s:=u) (by omega)
   have HU:Hid (qj (d8 s.data.toList)=Lz.bE B 0 u.data.toList):=by
    show _=_;rw[HA.out];have:u.data.toList≠[]:=by intro h;exact hz (by rw[<-aa,h];rfl)
    exact if_neg this
   go_wp2_with fail
   go_loopw [7,39] (fun a i wr=>∃j n:Nat,j<=u.size/\n<=1099511627776/\a=.int .u64 n/\i=.int .i64 j/\Hid (Lz.bE B 0 (u.data.toList.take j)=some n)/\Below w.heap.size w wr) (fun _ i _=>u.size-(intOf i).toNat)
   case atStart=>exact⟨0,0,Nat.zero_le _,by omega,rfl,rfl,Ih rfl,rB⟩
   case round=>
    clear rB;obtain⟨j,n,hj,hn,rfl,rfl,hN,hb⟩:=hrel;by_cases aN:j<u.size
    ·have hg:=aw (s:=u) aN;have gE:u.data.toList.take (j+1)=u.data.toList.take j++[u[j]]:=by rw[List.take_add_one,hg];rfl
     have jd:=Lz.ji B (u.data.toList.take j) 0 u[j];rw[<-gE,hN.out]at jd;have iL:=fun h=>Lz.fJ B (u.data.toList.take (j+1)) (u.data.toList.drop (j+1)) 0 h;rw[List.take_append_drop]at iL;have cH:=fun W=>lj u[j] W;unfold BR Lz.il Lz.oK at cH;have jP:=iY u[j];unfold Lz.il at jP;generalize hxv:Lz.dx u[j]=xv at cH jd jP;have Gd:=Ih jd;have OU:=Ih iL;clear jd iL gE hg hxv;cases xv with
     | none=>
       have iF:Hid (Lz.bE B 0 u.data.toList=none):=by show _=_;exact OU.out Gd.out
       go_wp2_with fail
       with_reducible refine(cH _).mono ?_
       rintro e w' ⟨rfl,rfl⟩
       go_wp2
       go_ret2
       rw[HU.out,iF.out];exact ej hb
     | some d=>
       by_cases fG:B<=d
       ·have iF:Hid (Lz.bE B 0 u.data.toList=none):=by show _=_;exact OU.out (Gd.out.trans (if_pos fG))
        have FZ:(B:Int)<=(d:Int):=by omega
        go_wp2_with fail
        with_reducible refine(cH _).mono ?_
        rintro e w' ⟨rfl,rfl⟩
        go_wp2
        go_ret2
        rw[HU.out,iF.out];exact ej hb
       ·have xa:Hid (Lz.bE B 0 (u.data.toList.take (j+1))=some (min (n*B+d) 1099511627776)):=by show _=_;exact Gd.out.trans (if_neg fG)
        have FZ:¬(B:Int)<=(d:Int):=by omega
        go_wp2_with fail
        with_reducible refine(cH _).mono ?_
        rintro e w' ⟨rfl,rfl⟩
        go_wp2
        go_roundw
        case rel=>exact⟨j+1,_,by omega,Nat.min_le_right _ _,congrArg _ (pt n B d hn DL.2 jP),by go_num,xa.out,hb⟩
        case measure=>simp[intOf];omega
    ·have W8:j=u.size:=by omega
     have iF:Hid (Lz.bE B 0 u.data.toList=some n):=by
      show _=_;have:=hN.out;rw[W8,List.take_of_length_le (by rw[aa];exact Nat.le_refl _)]at this;exact this
     go_wp2
     go_ret2
     rw[HU.out,iF.out];exact ti hb hn
 ·have HA:Hid (d8 s.data.toList=(10,s.data.toList)):=by
   show _=_;unfold d8;rw[if_neg (by rw[<-bB,hq];decide),if_neg (by rw[aa];exact fun h=>Xo h.1)]
  have Sb:s.size<=s.size+1:=Nat.le_succ _;have h2c:(s.size:Int)<=1:=by omega
  subst hq;clear bB;obtain⟨B,hB⟩:∃B:Nat,B=10:=⟨_,rfl⟩;rw[show(10:Nat)=B from hB.symm]at HA;have DL:1<=B/\B<=16:=by omega
  go_upto_region 7 with fail
  rw[show Value.int .i64 10=Value.int .i64 (B:Int) by rw[hB];rfl];have rB:=aC;generalize w1=wx at rB⊢;clear hB Xo h2c aC Dk;by_cases hz:s.size=0
  ·have he:=ak hz
   have HN:Hid (qj (d8 s.data.toList)=none):=by
    show _=_;rw[HA.out];have:s.data.toList=[]:=List.length_eq_zero_iff.1 (by rw[aa];exact hz);unfold qj;rw[this];rfl
   first
    | (exfalso;omega)
    | (go_wp2;go_ret2;rw[HN.out];exact ej rB)
  ·have he:=aj (s:=s) (by omega)
   have HU:Hid (qj (d8 s.data.toList)=Lz.bE B 0 s.data.toList):=by
    show _=_;rw[HA.out];have:s.data.toList≠[]:=by intro h;exact hz (by rw[<-aa,h];rfl)
    exact if_neg this
   go_wp2_with fail
   go_loopw [7,39] (fun a i wr=>∃j n:Nat,j<=s.size/\n<=1099511627776/\a=.int .u64 n/\i=.int .i64 j/\Hid (Lz.bE B 0 (s.data.toList.take j)=some n)/\Below w.heap.size w wr) (fun _ i _=>s.size-(intOf i).toNat)
   case atStart=>exact⟨0,0,Nat.zero_le _,by omega,rfl,rfl,Ih rfl,rB⟩
   case round=>
    clear rB;obtain⟨j,n,hj,hn,rfl,rfl,hN,hb⟩:=hrel;by_cases aN:j<s.size
    ·have hg:=aw (s:=s) aN;have gE:s.data.toList.take (j+1)=s.data.toList.take j++[s[j]]:=by rw[List.take_add_one,hg];rfl
     have jd:=Lz.ji B (s.data.toList.take j) 0 s[j];rw[<-gE,hN.out]at jd;have iL:=fun h=>Lz.fJ B (s.data.toList.take (j+1)) (s.data.toList.drop (j+1)) 0 h;rw[List.take_append_drop]at iL;have cH:=fun W=>lj s[j] W;unfold BR Lz.il Lz.oK at cH;have jP:=iY s[j];unfold Lz.il at jP;generalize hxv:Lz.dx s[j]=xv at cH jd jP;have Gd:=Ih jd;have OU:=Ih iL;clear jd iL gE hg hxv;cases xv with
     | none=>
       have iF:Hid (Lz.bE B 0 s.data.toList=none):=by show _=_;exact OU.out Gd.out
       go_wp2_with fail
       with_reducible refine(cH _).mono ?_
       rintro e w' ⟨rfl,rfl⟩
       go_wp2
       go_ret2
       rw[HU.out,iF.out];exact ej hb
     | some d=>
       by_cases fG:B<=d
       ·have iF:Hid (Lz.bE B 0 s.data.toList=none):=by show _=_;exact OU.out (Gd.out.trans (if_pos fG))
        have FZ:(B:Int)<=(d:Int):=by omega
        go_wp2_with fail
        with_reducible refine(cH _).mono ?_
        rintro e w' ⟨rfl,rfl⟩
        go_wp2
        go_ret2
        rw[HU.out,iF.out];exact ej hb
       ·have xa:Hid (Lz.bE B 0 (s.data.toList.take (j+1))=some (min (n*B+d) 1099511627776)):=by show _=_;exact Gd.out.trans (if_neg fG)
        have FZ:¬(B:Int)<=(d:Int):=by omega
        go_wp2_with fail
        with_reducible refine(cH _).mono ?_
        rintro e w' ⟨rfl,rfl⟩
        go_wp2
        go_roundw
        case rel=>exact⟨j+1,_,by omega,Nat.min_le_right _ _,congrArg _ (pt n B d hn DL.2 jP),by go_num,xa.out,hb⟩
        case measure=>simp[intOf];omega
    ·have W8:j=s.size:=by omega
     have iF:Hid (Lz.bE B 0 s.data.toList=some n):=by
      show _=_;have:=hN.out;rw[W8,List.take_of_length_le (by rw[aa];exact Nat.le_refl _)]at this;exact this
     go_wp2
     go_ret2
     rw[HU.out,iF.out];exact ti hb hn
 ·have AH:((s[0].toNat:Int)==48)=false:=by
   rw[aw (by omega)]at Ip;exact(jO s[0] 48).trans (beq_eq_false_iff_ne.2 (fun h=>Ip (congrArg some h)))
  have HA:Hid (d8 s.data.toList=(10,s.data.toList)):=by
   show _=_;unfold d8;rw[if_neg (by rw[<-bB,hq];decide),if_neg (fun h=>Ip h.2)]
  have Sb:s.size<=s.size+1:=Nat.le_succ _;subst hq;clear bB Ip;obtain⟨B,hB⟩:∃B:Nat,B=10:=⟨_,rfl⟩;rw[show(10:Nat)=B from hB.symm]at HA;have DL:1<=B/\B<=16:=by omega
  go_upto_region 7 with fail
  rw[show Value.int .i64 10=Value.int .i64 (B:Int) by rw[hB];rfl];have rB:=aC;generalize w1=wx at rB⊢;clear hB AH aC Dk;by_cases hz:s.size=0
  ·have he:=ak hz
   have HN:Hid (qj (d8 s.data.toList)=none):=by
    show _=_;rw[HA.out];have:s.data.toList=[]:=List.length_eq_zero_iff.1 (by rw[aa];exact hz);unfold qj;rw[this];rfl
   first
    | (exfalso;omega)
    | (go_wp2;go_ret2;rw[HN.out];exact ej rB)
  ·have he:=aj (s:=s) (by omega)
   have HU:Hid (qj (d8 s.data.toList)=Lz.bE B 0 s.data.toList):=by
    show _=_;rw[HA.out];have:s.data.toList≠[]:=by intro h;exact hz (by rw[<-aa,h];rfl)
    exact if_neg this
   go_wp2_with fail
   go_loopw [7,39] (fun a i wr=>∃j n:Nat,j<=s.size/\n<=1099511627776/\a=.int .u64 n/\i=.int .i64 j/\Hid (Lz.bE B 0 (s.data.toList.take j)=some n)/\Below w.heap.size w wr) (fun _ i _=>s.size-(intOf i).toNat)
   case atStart=>exact⟨0,0,Nat.zero_le _,by omega,rfl,rfl,Ih rfl,rB⟩
   case round=>
    clear rB;obtain⟨j,n,hj,hn,rfl,rfl,hN,hb⟩:=hrel;by_cases aN:j<s.size
    ·have hg:=aw (s:=s) aN;have gE:s.data.toList.take (j+1)=s.data.toList.take j++[s[j]]:=by rw[List.take_add_one,hg];rfl
     have jd:=Lz.ji B (s.data.toList.take j) 0 s[j];rw[<-gE,hN.out]at jd;have iL:=fun h=>Lz.fJ B (s.data.toList.take (j+1)) (s.data.toList.drop (j+1)) 0 h;rw[List.take_append_drop]at iL;have cH:=fun W=>lj s[j] W;unfold BR Lz.il Lz.oK at cH;have jP:=iY s[j];unfold Lz.il at jP;generalize hxv:Lz.dx s[j]=xv at cH jd jP;have Gd:=Ih jd;have OU:=Ih iL;clear jd iL gE hg hxv;cases xv with
     | none=>
       have iF:Hid (Lz.bE B 0 s.data.toList=none):=by show _=_;exact OU.out Gd.out
       go_wp2_with fail
       with_reducible refine(cH _).mono ?_
       rintro e w' ⟨rfl,rfl⟩
       go_wp2
       go_ret2
       rw[HU.out,iF.out];exact ej hb
     | some d=>
       by_cases fG:B<=d
       ·have iF:Hid (Lz.bE B 0 s.data.toList=none):=by show _=_;exact OU.out (Gd.out.trans (if_pos fG))
        have FZ:(B:Int)<=(d:Int):=by omega
        go_wp2_with fail
        with_reducible refine(cH _).mono ?_
        rintro e w' ⟨rfl,rfl⟩
        go_wp2
        go_ret2
        rw[HU.out,iF.out];exact ej hb
       ·have xa:Hid (Lz.bE B 0 (s.data.toList.take (j+1))=some (min (n*B+d) 1099511627776)):=by show _=_;exact Gd.out.trans (if_neg fG)
        have FZ:¬(B:Int)<=(d:Int):=by omega
        go_wp2_with fail
        with_reducible refine(cH _).mono ?_
        rintro e w' ⟨rfl,rfl⟩
        go_wp2
        go_roundw
        case rel=>exact⟨j+1,_,by omega,Nat.min_le_right _ _,congrArg _ (pt n B d hn DL.2 jP),by go_num,xa.out,hb⟩
        case measure=>simp[intOf];omega
    ·have W8:j=s.size:=by omega
     have iF:Hid (Lz.bE B 0 s.data.toList=some n):=by
      show _=_;have:=hN.out;rw[W8,List.take_of_length_le (by rw[aa];exact Nat.le_refl _)]at this;exact this
     go_wp2
     go_ret2
     rw[HU.out,iF.out];exact ti hb hn
end Go.Proofs.YtlcbhacofagedaaGreatDoor
namespace Lz
open Go
theorem kx (c:UInt8) (l:Bs):ag c l≠[]:=by
 cases l with
 | nil=>simp[ag]
 | cons b r=>
   rw[ag];split
   ·simp
   ·split<;>simp
theorem dropWhile_nil {p:UInt8->Bool}:∀{l:Bs},l.dropWhile p=[]↔l.all p=true
 | []=>by simp
 | a::r=>by
   rw[List.dropWhile_cons,List.all_cons];cases h:p a
   ·simp
   ·simpa using dropWhile_nil (p:=p) (l:=r)
theorem Kd {l cs:Bs}:Lib.trimS l cs=[]↔l.all (cs.contains ·)=true:=by
 unfold Lib.trimS Lib.trimLeftS Lib.trimRightS;rw[dropWhile_nil];constructor
 ·intro h;rw[List.all_reverse]at h
  have h2:∀r:Bs,(r.dropWhile (cs.contains ·)).all (cs.contains ·)=true->r.all (cs.contains ·)=true:=by
   intro r
   induction r with
   | nil=>simp
   | cons a r ih=>
     rw[List.dropWhile_cons,List.all_cons];cases h:cs.contains a
     ·simp only[Bool.false_eq_true,if_false];rw[List.all_cons,h];simp
     ·simpa using ih
  have:=h2 l.reverse h
  rwa [List.all_reverse]at this
 ·intro h;rw[List.all_reverse];have h2:∀r:Bs,r.all (cs.contains ·)=true->(r.dropWhile (cs.contains ·)).all (cs.contains ·)=true:=fun r hr=>by rw[dropWhile_nil.2 hr];rfl
  exact h2 _ (by rw[List.all_reverse];exact h)
theorem lQ (c:UInt8):([48,49,50,51,52,53,54,55,56,57]:Bs).contains c=aA c:=by revert c;exact au (by decide +kernel)
end Lz
namespace Go.Proofs.YtlcbhacofagedaaGreatDoor
open Go.RowKit
structure fq (w:World) (b:Nat) (xs:List ByteArray):Prop where
 lt:b<w.heap.size
 cells:∀j x,xs[j]? =some x->w.cell? ⟨b,j,none⟩=some (.string x)
theorem fq.below {w w':World} {b:Nat} {xs:List ByteArray} (h:fq w b xs) (hb:Below w.heap.size w w'):fq w' b xs:=
 ⟨Nat.lt_of_lt_of_le h.lt hb.size,fun j x hj=>by rw[hb.cell (p:=⟨b,j,none⟩) h.lt];exact h.cells j x hj⟩
theorem fq.take {w:World} {b:Nat} {xs:List ByteArray} (h:fq w b xs) (n:Nat):fq w b (xs.take n):=
 ⟨h.lt,fun j x hj=>h.cells j x (by rw[List.getElem?_take]at hj;split at hj<;>simp_all)⟩
def Ta (ls:List (List UInt8)) (m:Nat) (w:World) (e:Ending) (w':World):Prop:=
 ∃(xs:List ByteArray) (b cap:Nat),e=.returned (.slice (some ⟨b,0,none⟩) xs.length cap)/\xs.length<=cap/\1<=xs.length/\xs.length<=m+1/\Hid (xs.map (·.data.toList)=ls)/\(∀x,x∈xs->x.size<=m)/\fq w' b xs/\Below w.heap.size w w'
theorem vz (s:ByteArray) (hs:s.size<=1048576) (w:World) (hE:de w):Calls Tryz.prog 201 #[.string s] w (Ta (Lz.br s.data.toList) s.size w):=by
 have cS:=Ih (pn s 46 (by omega) w hE);go_enter Tryz.func201,Tryz.ntmps201
 go_wp2_with fail
 refine(cS.out).mono ?_;rintro e w1 ⟨xs,rfl,d7,iW⟩;have d5:Hid (Lz.ag 46 s.data.toList=xs.map (·.data.toList)):=Ih d7.out.symm
 have bv:xs.length<=s.size+1:=by
  have h:=Lz.dz 46 s.data.toList;rw[<-d7.out,List.length_map,aa]at h;omega
 have ei:1<=xs.length:=by
  have:=Lz.kx 46 s.data.toList;rw[<-d7.out]at this;cases xs with
  | nil=>simp at this
  | cons _ _=>simp
 have dV:∀x,x∈xs->x.size<=s.size:=fun x hx=>dL d7.out hx;have aC:Below w.heap.size w w1:=by rw[iW.out];exact(Below.refl _ w).alloc (Nat.le_refl _) _
 have hT:fq w1 w.heap.size xs:=by
  refine⟨by rw[iW.out];simp,fun j x hj=>?_⟩;rw[iW.out];have:=World.cell?_alloc_mark w (xs.map Value.string).toArray 9 (0,0) j;rw[this]
  simp[hj]
 obtain⟨x,hx⟩:∃x,xs[xs.length-1]? =some x:=⟨_,List.getElem?_eq_getElem (by omega)⟩;have oY:=hT.cells _ _ hx;have fu:xs.getLast? =some x:=by rw[List.getLast?_eq_getElem?];exact hx
 have HT:=Ih hT;have yD:=Ih dV;have Hl:=Ih fu;clear cS iW d7 hT dV hx fu;obtain⟨n,hn⟩:∃n,n=xs.length-1:=⟨_,rfl⟩;rw[<-hn]at oY;have oX:(xs.length:Int)-1=n:=by omega
 have Y2:n<xs.length:=by omega
 have sR:(n:Int)<xs.length:=by omega
 have hn3:(n:Int)<=xs.length:=by omega
 have sX:(0:Int)<=n:=by omega
 have Hn:=Ih hn;clear hn;by_cases h1:1<xs.length
 ·have hn4:(0:Int)<n:=by omega
  by_cases hz:x.size=0
  ·have he:=ak hz
   have HD:Hid ((xs.take n).map (·.data.toList)=Lz.br s.data.toList):=by
    show _=_;unfold Lz.br
    rw[d5.out,if_pos ⟨by simpa using h1,by
     rw[List.getLast?_map,Hl.out];show some x.data.toList=some [];rw[List.length_eq_zero_iff.1 (show x.data.toList.length=0 by rw[aa];exact hz)]⟩]
    rw[List.dropLast_eq_take,List.length_map,List.map_take,Hn.out]
   clear d5
   go_wp2
   go_ret;refine⟨xs.take n,w.heap.size,xs.length,?_,by simp;omega,by simp;omega,by simp;omega,HD,fun y hy=>yD.out y (List.mem_of_mem_take hy),HT.out.take n,aC⟩;rw[List.length_take,Nat.min_eq_left (by omega)];rfl
  ·have he:=aj (s:=x) (by omega)
   have HD:Hid (xs.map (·.data.toList)=Lz.br s.data.toList):=by
    show _=_;unfold Lz.br;rw[d5.out,if_neg];rintro⟨_,h⟩;rw[List.getLast?_map,Hl.out]at h;have:x.data.toList=[]:=Option.some.inj h;exact hz (by rw[<-aa,this];rfl)
   clear d5
   go_wp2
   go_ret;exact⟨xs,w.heap.size,xs.length,rfl,Nat.le_refl _,ei,bv,HD,yD.out,HT.out,aC⟩
 ·have hn4:¬(0:Int)<n:=by omega
  have HD:Hid (xs.map (·.data.toList)=Lz.br s.data.toList):=by
   show _=_;unfold Lz.br;rw[d5.out,if_neg];rintro⟨h,_⟩;exact h1 (by simpa using h)
  clear d5
  go_wp2
  go_ret;exact⟨xs,w.heap.size,xs.length,rfl,Nat.le_refl _,ei,bv,HD,yD.out,HT.out,aC⟩
theorem BM (s:ByteArray) (hs:s.size<=1073741824) (w:World):
  Calls Tryz.prog 202 #[.string s,.string ⟨#[48,49,50,51,52,53,54,55,56,57]⟩] w (gl (Lib.trimS s.data.toList [48,49,50,51,52,53,54,55,56,57]) w):=
 (Any.strings_Trim_laid Tryz.lays160 (by kernel_rfl) s ⟨#[48,49,50,51,52,53,54,55,56,57]⟩ w (by omega) (by decide) (ascii_of_all (by decide))).mono fun _ _ ⟨h1,h2⟩=>⟨_,h1,Ih rfl,h2⟩
theorem qg {xs:List ByteArray} {ls:List (List UInt8)} {x:ByteArray} (h:xs.map (·.data.toList)=ls) (hx:xs[xs.length-1]? =some x):ls.getLastD []=x.data.toList:=by
 rw[<-h,List.getLastD_eq_getLast?,List.getLast?_map,List.getLast?_eq_getElem?,hx];rfl
theorem pZ (s:ByteArray) (hs:s.size<=1048576) (w:World) (hE:de w):Calls Tryz.prog 157 #[.string s] w (cn (Lz.bh s.data.toList) w):=by
 have cL:=Ih (vz s hs w hE);go_enter Tryz.func157,Tryz.ntmps157
 go_wp2_with fail
 refine(cL.out).mono ?_;rintro e w1 ⟨xs,b,cap,rfl,nk,ei,bv,Aq,dV,hT,aC⟩;obtain⟨x,hx⟩:∃x,xs[xs.length-1]? =some x:=⟨_,List.getElem?_eq_getElem (by omega)⟩;have oY:=hT.cells _ _ hx;have o7:=dV x (List.mem_of_getElem? hx);have fu:=qg Aq.out hx;obtain⟨n,hn⟩:∃n,n=xs.length-1:=⟨_,rfl⟩;rw[<-hn]at oY;have oX:(xs.length:Int)-1=n:=by omega
 have sR:(n:Int)<xs.length:=by omega
 have sX:(0:Int)<=n:=by omega
 obtain⟨q,hq⟩:∃q,q=Lz.dj Lz.aA x.data.toList:=⟨_,rfl⟩;have hN:Lz.bh s.data.toList=(q||(Lz.fv x.data.toList).isSome):=by unfold Lz.bh;rw[fu,hq]
 have HN:=Ih hN;have Hq:=Ih hq;clear hN fu hq hn hx Aq dV hT cL;have cN:=Ih (fun W=>ui x (by omega) W)
 go_upto_region 3 with fail
 go_cut [21] (fun s21 wx=>s21=.bool q/\Below w.heap.size w wx)
 case first=>
  by_cases hz:x.size=0
  ·have he:=ak hz
   have HQ:Hid (q=false):=by
    show _=_;rw[Hq.out,List.length_eq_zero_iff.1 (show x.data.toList.length=0 by rw[aa];exact hz)];rfl
   go_wp2_with fail
   go_meet;exact⟨by rw[HQ.out],aC⟩
  ·have he:=aj (s:=x) (by omega)
   go_wp2_with fail
   refine(BM x (by omega) _).mono ?_;rintro e w2 ⟨t,rfl,ht,aU⟩
   have DM:q=t.toList.isEmpty:=by
    rw[Hq.out,Lib.toList_data,ht.out];unfold Lz.dj;have dG:x.data.toList≠[]:=by intro h;exact hz (by rw[<-aa,h];rfl)
    rw[Bool.eq_iff_iff];simp only[Bool.and_eq_true,List.isEmpty_iff,Lz.Kd,Bool.not_eq_true',List.isEmpty_eq_false_iff];constructor
    ·rintro⟨h,_⟩;rw[List.all_eq_true]at h⊢;exact fun c hc=>(Lz.lQ c).trans (h c hc)
    ·intro h;rw[List.all_eq_true]at h;exact⟨List.all_eq_true.2 (fun c hc=>(Lz.lQ c).symm.trans (h c hc)),dG⟩
   have HQ:=Ih DM;clear DM
   go_wp2_with fail
   go_meet;exact⟨by rw[HQ.out],ac aC aU⟩
 case rest=>
  obtain⟨rfl,Pn⟩:=hcut;cases q
  ·go_wp2_with fail
   refine(cN.out _).mono ?_;rintro e w2 ⟨aU,hr⟩;cases ho:Lz.fv x.data.toList with
   | none=>
     rw[ho]at hr;obtain⟨v,rfl,hF⟩:=hr;obtain⟨t0,x0,rfl⟩:=hF.iface;have iF:Hid (Lz.bh s.data.toList=false):=by show _=_;rw[HN.out,ho];rfl
     clear ho
     go_wp2
     go_ret;exact⟨by rw[iF.out];rfl,ac Pn aU⟩
   | some n=>
     rw[ho]at hr;obtain⟨rfl,_⟩:=hr;have iF:Hid (Lz.bh s.data.toList=true):=by show _=_;rw[HN.out,ho];rfl
     clear ho
     go_wp2
     go_ret;exact⟨by rw[iF.out];rfl,ac Pn aU⟩
  ·have iF:Hid (Lz.bh s.data.toList=true):=by show _=_;rw[HN.out];rfl
   go_wp2
   go_ret;exact⟨by rw[iF.out];rfl,Pn⟩
theorem tC:(Tryz.prog.info? 9).map (fun i=>(i.zero,i.size,i.bytes))=some (some (.string ⟨#[]⟩),1,16):=by kernel_rfl
theorem pU (sep:List UInt8):∀ls:List (List UInt8),Lib.join ls sep=Lz.dv sep ls
 | []=>rfl
 | [x]=>by simp[Lib.join,Lz.dv]
 | x::y::r=>by
   have:=pU sep (y::r)
   simp[Lib.join,Lz.dv]at this⊢
   rw[<-this]
theorem dm {w w1:World} {base:Nat} {e:TypeId} {size n:Nat} {v:Value} {xs:List Value} (h:w.ownsRow base e size v n xs) (hb:Below w.heap.size w w1):w1.ownsRow base e size v n xs:=
 h.kept (row:=none) (by constructor<;>first |exact hb.os|exact hb.tape|exact hb.output|exact hb.size|exact fun k hk _=>hb.block k hk) (by cases hv:v.ownBlock<;>simp)
theorem aaz (c:UInt8):(Lib.decDigits c.toNat).length<=3:=by revert c;exact Lz.au (by decide +kernel)
theorem jj {w:World} {base:Nat} {v:Value} {n:Nat} {xs:List ByteArray} (h:w.ownsRow base 9 1 v n (xs.map Value.string)) (hn:1<=n):
  ∃b cap,v=.slice (some ⟨b,0,none⟩) xs.length cap/\xs.length<=cap/\fq w b xs:=by
 have hl:xs.length=n:=by have:=h.1;simpa using this
 rcases h.2 with⟨rfl,h0⟩|⟨g,cap,ir,rfl,TF,hg,RH,hcm,iV,gE⟩
 ·omega
 ·refine⟨g,cap,by rw[hl],by omega,(Array.getElem?_eq_some_iff.1 hg).1,fun j x hj=>?_⟩;have h2:(xs.map Value.string)[j]? =some (.string x):=by simp[hj]
  rw[<-gE,List.getElem?_take]at h2;split at h2
  ·simp only[World.cell?,hg];simpa using h2
  ·cases h2
theorem Bq (sep:List UInt8) (m:Nat):∀ls:List (List UInt8),(∀x,x∈ls->x.length<=m)->(Lib.join ls sep).length<=ls.length*(m+sep.length):=by
 intro ls;rw[pU]
 induction ls with
 | nil=>intro _;simp[Lz.dv]
 | cons x r ih=>
   intro h;have hx:=h x (by simp);have hr:=ih (fun y hy=>h y (by simp[hy]));cases r with
   | nil=>simp[Lz.dv];omega
   | cons y r=>
     simp only[Lz.dv,List.length_append,List.length_cons,Nat.succ_mul]at hr⊢;omega
theorem NZ (b cap:Nat) (xs:List ByteArray) (sep:ByteArray) (w:World) (hT:fq w b xs) (hc:xs.length<=cap) (hn:xs.length<=1000000) (m:Nat) (hm:m<=1000000) (hx:∀x,x∈xs->x.size<=m) (hs:sep.size<=10):
  Calls Tryz.prog 112 #[.slice (some ⟨b,0,none⟩) xs.length cap,.string sep] w (gl (Lz.dv sep.data.toList (xs.map (·.data.toList))) w):=by
 have hj:=Bq sep.data.toList m (xs.map (·.data.toList)) (by
  intro y hy;obtain⟨x,hx',rfl⟩:=List.mem_map.1 hy;rw[aa];exact hx x hx')
 rw[List.length_map,aa]at hj;have hb:xs.length*(m+sep.size)<=1000000*1000010:=Nat.mul_le_mul hn (by omega);have h:=Tryz.strings_Join b 0 cap xs sep w (fun j x hj=>by rw[Nat.zero_add];exact hT.cells j x hj) hT.lt (by omega) hc (by omega);exact h.mono fun e w' ⟨h1,h2⟩=>⟨_,h1,Ih (by rw[<-pU]),h2⟩
theorem FD (v:Value) (l:List UInt8) (w:World) (hE:de w) (hl:SlB w v l) (bv:l.length<=16) (VP:1<=l.length):Calls Tryz.prog 281 #[v] w (gl (Lz.cu (l.map (·.toNat))) w):=by
 obtain⟨i0,hi,ig,fs,fk⟩:=info_parts tC;obtain⟨a,c,rfl,hl9,aO⟩:=hl;have Hc:=Ih aO;clear aO;have h0:=World.ownsRow_nil w w.heap.size 9 1;go_enter Tryz.func281,Tryz.ntmps281
 go_wp2
 go_loopw [3,8] (fun a i wr=>∃(j:Nat) (xs:List ByteArray),j<=l.length/\i=.int .i64 j/\Hid (xs.map (·.data.toList)=(l.take j).map (fun c=>Lib.decDigits c.toNat))/\wr.ownsRow w.heap.size 9 1 a j (xs.map Value.string)/\Below w.heap.size w wr) (fun _ i _=>l.length-(intOf i).toNat)
 case atStart=>exact⟨0,[],Nat.zero_le _,rfl,Ih rfl,h0,Below.refl _ w⟩
 case round=>
  clear h0;obtain⟨j,xs,hj,rfl,d7,aQ,hb⟩:=hrel;have dV:=hb.size;have bZ:=Ih aQ;by_cases aN:j<l.length
  ·have hg:l[j]? =some l[j]:=List.getElem?_eq_getElem aN;obtain⟨B,off,rfl,hBl,sV⟩:=Hc.out j l[j] hg;have aan:wr.cell? ⟨B,off+j,none⟩=some (.int .u8 l[j].toNat):=by rw[hb.cell (p:=⟨B,off+j,none⟩) hBl];exact sV
   have gE:l.take (j+1)=l.take j++[l[j]]:=by rw[List.take_add_one,hg];rfl
   generalize l[j]=c at *;have WE:=Ih gE;have hc8:=d9 c;clear gE hg sV aQ;have np:(0:Int)<=(c.toNat:Int):=by omega
   go_wp2_with fail
   refine(lp (c.toNat:Int) (by omega) (by omega) _ (hE.below hb)).mono ?_;rintro e w1 ⟨t,rfl,ht,aC⟩;have eK:=Ih (dm bZ.out aC);have aU:Below w.heap.size w w1:=ac hb aC;have vM:=aU.size;have hst:xs.map Value.string++[Value.string t]=(xs++[t]).map Value.string:=by simp
   have fQ:=Ih hst
   have WR:Hid ((xs++[t]).map (·.data.toList)=(l.take (j+1)).map (fun c=>Lib.decDigits c.toNat)):=by
    show _=_;rw[WE.out,List.map_append,List.map_append,d7.out,List.map_singleton,List.map_singleton,ht.out,Lib.itoa_nonneg]
   clear hst WE
   go_wp2_with (at_builtin;refine wpList_append_own _ rfl (.tmp 12) (.tmp 16) 23 rfl w.heap.size 9 i0 (.string ⟨#[]⟩) 1 16 Tryz.underlying23 hi ig fs fk rfl (by decide) _ _ _ rfl (eK.out.alloc _) ⟨w1.heap.size,0,none⟩ 1 1 [.string t] rfl rfl (aY _ _ _) (by simp[Value.oneCell']) (by unfold maxLen;omega) (by omega) (by simp;omega) ?_)
   intro v' w3 aE aV _;have cq:=Below.grown1 aU eK.out aV vM (Nat.le_refl _);rw[fQ.out]at aE;have ep:=Ih aE;clear aE aV
   go_wp2
   go_roundw
   case rel=>exact⟨j+1,xs++[t],by omega,by go_num,WR.out,ep.out,cq⟩
   case measure=>simp[intOf];omega
  ·have jR:j=l.length:=by omega
   obtain⟨b,cap,rfl,nk,hT⟩:=jj aQ (by omega);have vR:xs.length=j:=by have:=aQ.1;simpa using this
   have Y7:∀x,x∈xs->x.size<=3:=by
    intro x hx;have h1:x.data.toList∈(l.take j).map (fun c=>Lib.decDigits c.toNat):=by rw[<-d7.out];exact List.mem_map_of_mem hx
    obtain⟨c,_,hc⟩:=List.mem_map.1 h1;rw[<-aa,<-hc];exact aaz c
   have HX:=Ih Y7;have HT:=Ih hT;have We:=Ih nk;have ZO:Hid (xs.length<=1000000):=by show _<=_;omega
   have Hj:=Ih jR;have vK:¬j<l.length:=aN;clear Y7 hT aQ bZ vR jR nk aN
   go_wp2_with fail
   with_reducible refine(NZ b cap xs ⟨#[46]⟩ _ HT.out We.out ZO.out 3 (by omega) HX.out (by decide)).mono ?_
   rintro e w1 ⟨u,rfl,hu,aC⟩
   go_wp2
   go_ret;refine⟨u,rfl,Ih ?_,ac hb aC⟩;rw[hu.out,d7.out,Hj.out,List.take_length];unfold Lz.cu;rw[List.map_map];rfl
def RPu (l:List UInt8) (w:World) (e:Ending) (w':World):Prop:=
 Below w.heap.size w w'/\((∃u,Lib.parseUintB 8 l=.ok u/\e=.returned (.tuple #[.int .u64 u,.nilIface]))\/((∀u,Lib.parseUintB 8 l≠.ok u)/\∃n t p,e=.returned (.tuple #[.int .u64 n,.iface t p])))
theorem Df (s:ByteArray) (hs:s.size<=1073741824) (w:World) (hE:de w):Calls Tryz.prog 293 #[.string s,.int .i64 10,.int .i64 8] w (RPu s.data.toList w):=by
 by_cases ho:∃u,Lib.parseUintB 8 s.data.toList=.ok u
 ·obtain⟨u,hu⟩:=ho;refine(Tryz.strconv_ParseUint_10_at8_ok s (by omega) u hu w).mono fun e w' ⟨he,hw⟩=>⟨?_,Or.inl ⟨u,hu,he⟩⟩;rcases hw with rfl|rfl
  ·exact Below.refl _ _
  ·exact Lib.bytesWorld_below _ _ _
 ·have hn:∀u,Lib.parseUintB 8 s.data.toList≠.ok u:=fun u h=>ho ⟨u,h⟩;by_cases hr:Lib.parseUintB 8 s.data.toList=.range
  ·obtain⟨te,pe,hv⟩:=hE.rng;refine(Tryz.strconv_ParseUint_10_at8_range s (by omega) hr (.iface te pe) w hv (Or.inr ⟨te,pe,rfl⟩)).mono ?_;rintro e w' ⟨N,he,_,_,hb⟩;exact⟨hb,Or.inr ⟨hn,_,_,_,he⟩⟩
  ·have hx:Lib.parseUintB 8 s.data.toList=Lib.parseUintB 8 []:=by
    cases h:Lib.parseUintB 8 s.data.toList
    all_goals first |rfl|exact absurd h (hn _)|exact absurd h hr
   obtain⟨te,pe,hv⟩:=hE.syn;refine(Tryz.strconv_ParseUint_10_at8_syntax s (by omega) hx (.iface te pe) w hv (Or.inr ⟨te,pe,rfl⟩)).mono ?_;rintro e w' ⟨N,he,_,_,hb⟩;exact⟨hb,Or.inr ⟨hn,_,_,_,he⟩⟩
theorem tQ {f:List UInt8->Option Nat} {l:List (List UInt8)} {ls:List Nat} {x:List UInt8} {n:Nat} (h:l.mapM f=some ls) (hx:f x=some n):(l++[x]).mapM f=some (ls++[n]):=by
 rw[List.mapM_append,h];simp[hx]
theorem xU {f:List UInt8->Option Nat} {l:List (List UInt8)} {x:List UInt8} (hm:x∈l) (hx:f x=none):l.mapM f=none:=by
 obtain⟨a,b,rfl⟩:=List.append_of_mem hm;rw[List.mapM_append,List.mapM_cons,hx];cases a.mapM f<;>simp
def u8n (l:List Nat):List Value:=l.map fun n:Nat=>Value.int .u8 (n:Int)
theorem vw (l:List Nat) (n:Nat):u8n l++[.int .u8 (n:Int)]=u8n (l++[n]):=by simp[u8n]
def Tj (o:Option (List Nat)) (w:World) (e:Ending) (w':World):Prop:=
 Below w.heap.size w w'/\match o with
  | some l=>l.length=4/\∃v base,e=.returned (.tuple #[v,.nilIface])/\w.heap.size<=base/\w'.ownsRow base 5 1 v 4 (u8n l)
  | none=>∃v,e=.returned (.tuple #[.slice none 0 0,v])/\dE w' 72 1 v
theorem oQ {w wx:World} {s:ByteArray} {t:TypeId} {fr:Nat×Nat} (hb:Below w.heap.size w wx):
  Tj none w (.returned (.tuple #[.slice none 0 0,.iface 225 (.pointer (some ⟨wx.heap.size,0,none⟩))])) (wx.alloc (.cells #[.string s,.iface 27 (.int .i64 72)] t fr)):=
 ⟨hb.alloc hb.size _,_,rfl,fM rfl⟩
theorem wB {l:List UInt8} {u:Nat} (h:Lib.parseUintB 8 l=.ok u):u<=255:=Lib.parseUintB_le h
theorem Jb (s:ByteArray) (hs:s.size<=1048576) (w:World) (hE:de w):Calls Tryz.prog 279 #[.string s] w (Tj (Lz.fS s.data.toList) w):=by
 obtain⟨i0,hi,ig,fs,fk⟩:=info_parts pz;have cS:=Ih (pn s 46 (by omega) w hE);go_enter Tryz.func279,Tryz.ntmps279
 go_wp2_with fail
 refine(cS.out).mono ?_;rintro e w1 ⟨xs,rfl,d7,iW⟩
 have bv:xs.length<=s.size+1:=by
  have h:=Lz.dz 46 s.data.toList;rw[<-d7.out,List.length_map,aa]at h;omega
 have dV:∀x,x∈xs->x.size<=s.size:=fun x hx=>dL d7.out hx;have aC:Below w.heap.size w w1:=by rw[iW.out];exact(Below.refl _ w).alloc (Nat.le_refl _) _
 have hT:fq w1 w.heap.size xs:=by
  refine⟨by rw[iW.out];simp,fun j x hj=>?_⟩;rw[iW.out];have:=World.cell?_alloc_mark w (xs.map Value.string).toArray 9 (0,0) j;rw[this]
  simp[hj]
 have HT:=Ih hT;have yD:=Ih dV
 have hB:Hid (Lz.fS s.data.toList=match (xs.map (·.data.toList)).mapM Lz.gz with|some l=>if l.length=4 then some l else none|none=>none):=by
  show _=_;rw[d7.out];rfl
 have DD:=aC.size;clear cS iW hT dV;have hst:=World.ownsRow_nil w1 w1.heap.size 5 1
 go_wp2_with fail
 go_loopw [4,12] (fun a i wr=>∃(j:Nat) (ls:List Nat),j<=xs.length/\i=.int .i64 j/\Hid (((xs.take j).map (·.data.toList)).mapM Lz.gz=some ls)/\ls.length=j/\wr.ownsRow w1.heap.size 5 1 a j (u8n ls)/\Below w1.heap.size w1 wr) (fun _ i _=>xs.length-(intOf i).toNat)
 case atStart=>exact⟨0,[],Nat.zero_le _,rfl,Ih rfl,rfl,hst,Below.refl _ w1⟩
 case round=>
  clear hst;obtain⟨j,ls,hj,rfl,Aq,vK,aQ,hb⟩:=hrel;have bi:=ac aC hb;have dV:=hb.size;have bZ:=Ih aQ;by_cases aN:j<xs.length
  ·obtain⟨x,hx⟩:∃x,xs[j]? =some x:=⟨_,List.getElem?_eq_getElem aN⟩;have oY:=(HT.out.below hb).cells _ _ hx;have o7:=yD.out x (List.mem_of_getElem? hx);have hxm:Hid (x.data.toList∈xs.map (·.data.toList)):=Ih (List.mem_map_of_mem (List.mem_of_getElem? hx));have gE:xs.take (j+1)=xs.take j++[x]:=by rw[List.take_add_one,hx];rfl
   have WE:=Ih gE;clear gE hx aQ
   go_wp2_with fail
   refine(Df x (by omega) _ (hE.below bi)).mono ?_;rintro e w2 ⟨aU,⟨u,hu,rfl⟩|⟨hn,n,t,p,rfl⟩⟩
   ·have hu8:=wB hu;have Hu:=Ih hu;clear hu;have fw:=ac bi aU
    go_wp2_with fail
    refine(lp (u:Int) (by omega) (by omega) _ (hE.below fw)).mono ?_;rintro e w3 ⟨d,rfl,hd,cq⟩;have iO:=ac fw cq;have ep:=Ih (dm (dm bZ.out aU) cq);have Ai:=iO.size;have rI:Below w1.heap.size w1 w3:=ac (ac hb aU) cq;have F3:=rI.size;have kR:Hid (d.data.toList=Lib.decDigits u):=by show _=_;rw[hd.out,Lib.itoa_nonneg]
    have V4:Hid (Lz.gz x.data.toList=if d.toList==x.toList then some u else none):=by
     show _=_
     have h1:Lz.gz x.data.toList=if Lib.decDigits u=x.data.toList then some u else none:=by
      unfold Lz.gz;rw[Hu.out]
     rw[h1,Lib.toList_data,Lib.toList_data,kR.out];by_cases h:Lib.decDigits u=x.data.toList<;>simp[h]
    generalize hq:(d.toList==x.toList)=q at V4;cases q
    ·have HB:Hid (Lz.fS s.data.toList=none):=by
      show _=_;rw[hB.out,xU hxm.out V4.out]
     go_wp2
     go_ret2
     rw[HB.out];exact oQ iO
    ·have aa9:Hid (((xs.take (j+1)).map (·.data.toList)).mapM Lz.gz=some (ls++[u])):=by
      show _=_;rw[WE.out,List.map_append];exact tQ Aq.out V4.out
     go_wp2_with (at_builtin;refine wpList_append_own _ rfl (.tmp 34) (.tmp 37) 63 rfl w1.heap.size 5 i0 (.int .u8 0) 1 1 Tryz.underlying63 hi ig fs fk rfl (by decide) _ _ _ rfl (ep.out.alloc _) ⟨w3.heap.size,0,none⟩ 1 1 [.int .u8 (u:Int)] rfl rfl (aY _ _ _) (by simp[Value.oneCell']) (by unfold maxLen;omega) (by omega) (by simp;omega) ?_)
     intro v' w4 aE aV _;have ex:Below w1.heap.size w1 w4:=Below.grown1 rI ep.out aV F3 (Nat.le_refl _);rw[vw]at aE;have fR:=Ih aE;clear aE aV
     go_wp2
     go_roundw
     case rel=>exact⟨j+1,ls++[u],by omega,by go_num,aa9.out,by simp[vK],fR.out,ex⟩
     case measure=>simp[intOf];omega
   ·have HB:Hid (Lz.fS s.data.toList=none):=by
     show _=_
     have h1:Lz.gz x.data.toList=none:=by
      unfold Lz.gz;split
      ·rename_i n' h;exact absurd h (hn _)
      ·rfl
     rw[hB.out,xU hxm.out h1]
    clear hn
    go_wp2
    go_ret2
    rw[HB.out];exact oQ (ac bi aU)
  ·have jR:j=xs.length:=by omega
   have DA:Hid (Lz.fS s.data.toList=if j=4 then some ls else none):=by
    show _=_;have:=Aq.out;rw[jR,List.take_length]at this;rw[hB.out,this];show(if ls.length=4 then some ls else none)=_;rw[vK]
   obtain⟨a,c,rfl⟩:∃a c,u4=.slice a j c:=by
    rcases aQ.2 with⟨rfl,h0⟩|⟨g,cap,ir,rfl,_⟩
    ·exact⟨none,0,by rw[h0]⟩
    ·exact⟨_,_,rfl⟩
   have Hjl:=Ih jR;have sW:¬j<xs.length:=aN;clear aQ jR aN;by_cases h4:j=4
   ·have HB:Hid (Lz.fS s.data.toList=some ls):=by show _=_;rw[DA.out,if_pos h4]
    have H4:=Ih h4;have h4b:((j:Int) != 4)=false:=by rw[h4];rfl
    clear h4
    go_wp2
    go_ret2
    rw[HB.out];refine⟨bi,by rw[vK];exact H4.out,_,w1.heap.size,rfl,DD,?_⟩;have:=bZ.out;rw[H4.out]at this⊢;exact this
   ·have HB:Hid (Lz.fS s.data.toList=none):=by show _=_;rw[DA.out,if_neg h4]
    have h4b:((j:Int) != 4)=true:=by simp;omega
    clear h4
    go_wp2
    go_ret2
    rw[HB.out];exact oQ bi
end Go.Proofs.YtlcbhacofagedaaGreatDoor
