/-
  Package urls: the last @, host, port.
-/
import Derived.Test.YtjhccadmmnjpeaaGreatDoorT20
import Derived.Test.YtjhccadmmnjpeaaGreatDoorT14
set_option maxHeartbeats 1000000
set_option maxRecDepth 100000
namespace Lz
open Go
theorem lastAt_found {s:Bs} {j:Nat} (hj:s[j]? =some 64) (h:∀k,j<k->s[k]? ≠some 64):lastAt s=some (s.take j,s.drop (j+1)):=by
 have hl:=(List.getElem?_eq_some_iff.1 hj).1;have he:=(List.getElem?_eq_some_iff.1 hj).2
 have h1:s=s.take j++64::s.drop (j+1):=by
  rw[<-he,<-List.drop_eq_getElem_cons hl,List.take_append_drop]
 have h2:(64:UInt8)∉s.drop (j+1):=by
  intro hm;obtain⟨k,hk⟩:=List.mem_iff_getElem?.1 hm;rw[List.getElem?_drop]at hk;exact h _ (by omega) hk
 have:=lastAt_at (s.take j) h2;rw[<-h1]at this;exact this
theorem lastAt_none {s:Bs} (h:∀k:Nat,s[k]? ≠some 64):lastAt s=none:=lastAt_no fun hm=>by
 obtain⟨k,hk⟩:=List.mem_iff_getElem?.1 hm;exact h k hk
def lastN (s:Bs):Option Nat:=(lastAt s).map fun z=>z.1.length
theorem lastN_found {s:Bs} {j:Nat} (hj:s[j]? =some 64) (h:∀k,j<k->s[k]? ≠some 64):lastN s=some j:=by
 have hl:=(List.getElem?_eq_some_iff.1 hj).1;rw[lastN,lastAt_found hj h]
 simp;omega
theorem lastN_none {s:Bs} (h:∀k:Nat,s[k]? ≠some 64):lastN s=none:=by rw[lastN,lastAt_none h];rfl
end Lz
namespace Go.Proofs.YtjhccadmmnjpeaaGreatDoor
open Go.RowKit
theorem lastStr_any (s:ByteArray) (hs:s.size<=1000000000) (w:World):Calls Tryz.prog 245 #[.string s,.int .u8 64] w fun e w'=>e=.returned (.int .i64 (intO (Lz.lastN s.data.toList)))/\w=w':=by
 obtain⟨o,ho⟩:∃o,o=intO (Lz.lastN s.data.toList):=⟨_,rfl⟩;have Ho:=Ih ho;rw[<-ho];clear ho;go_enter Tryz.func245,Tryz.ntmps245
 go_wp2_with fail
 go_loopw [5] (fun i wr=>∃j:Nat,i=.int .i64 ((j:Int)-1)/\j<=s.size/\Hid (∀k,j<=k->s.data.toList[k]? ≠some 64)/\w=wr) (fun i _=>(intOf i+1).toNat)
 case atStart=>exact⟨s.size,by go_num,Nat.le_refl _,Ih (fun k hk h=>by have:=(List.getElem?_eq_some_iff.1 h).1;rw[len_of_size]at this;omega),rfl⟩
 case round=>
  obtain⟨j,rfl,hj,hN,rfl⟩:=hrel;cases j with
  | zero=>
    have HN:Hid (o= -1):=by show _=_;rw[Ho.out,Lz.lastN_none fun k=>hN.out k (Nat.zero_le _)];rfl
    have h0:¬((0:Int)<=((0:Nat):Int)-1):=by omega
    go_wp2_with fail
    go_ret;rw[HN.out];exact⟨rfl,rfl⟩
  | succ m=>
    have hm:m<s.size:=by omega
    have hmI:(m:Int)<(s.size:Int):=by omega
    have hm1:((m+1:Nat):Int)-1=(m:Int):=by omega
    have hm2:(m:Int)+1-1=(m:Int):=by omega
    have hm0:(0:Int)<=(m:Int):=by omega
    obtain⟨c,hc⟩:∃c,c=s[m]:=⟨_,rfl⟩;have hcI:(s[m].toNat:Int)=(c.toNat:Int):=by rw[hc]
    have hcg:s.data.toList[m]? =some c:=by rw[get_of_lt hm,hc]
    have b1:((c.toNat:Int)==64)=(c==64):=beqU c 64;cases hq:(c==64)with
    | true=>
      rw[hq]at b1;have hc64:c=64:=by simpa using hq
      have HN:Hid (o=(m:Int)):=by
       show _=_;rw[Ho.out,Lz.lastN_found (j:=m) (by rw[hcg,hc64]) (fun k hk=>hN.out k (by omega))];rfl
      clear hc hq hcg hN
      go_wp2_with fail
      go_ret;rw[HN.out,<-hm1];exact⟨rfl,rfl⟩
    | false=>
      rw[hq]at b1;have hc64:c≠64:=by simpa using hq
      have HN:Hid (∀k,m<=k->s.data.toList[k]? ≠some 64):=Ih (fun k hk h=>by
       rcases Nat.eq_or_lt_of_le hk with e|e
       ·rw[<-e,hcg]at h;exact hc64 (Option.some.inj h)
       ·exact hN.out k e h)
      clear hc hq hcg hN
      go_wp2_with fail
      go_roundw
      case rel=>exact⟨m,by go_num,by omega,HN,trivial⟩
      case measure=>simp[intOf]
theorem last_any (s:ByteArray) (hs:s.size<=1000000000) (w:World):Calls Tryz.prog 210 #[.string s,.int .u8 64] w fun e w'=>e=.returned (.int .i64 (intO (Lz.lastN s.data.toList)))/\w=w':=by
 have cL:=Ih (fun W=>lastStr_any s hs W);generalize intO (Lz.lastN s.data.toList)=o at cL⊢;go_enter Tryz.func210,Tryz.ntmps210
 go_wp2_with fail
 refine(cL.out _).mono ?_;rintro e w1 ⟨rfl,rfl⟩
 go_wp2_with fail
 go_ret;exact⟨rfl,rfl⟩
def FaultU (n:Nat) (v:Value):Prop:=∃p:ByteArray,v=.iface 146 (.agg #[.string p,.iface 37 (.int .i64 (n:Int))])
def MkRes (B M:Nat) (r:Lz.UR) (w:World) (v:Value):Prop:=match r with
 | .ok u=>v=.nilIface/\MkIs B M w u
 | .er n=>FaultU n v
def RMkE (B M:Nat) (r:Lz.UR) (w:World) (e:Ending) (w':World):Prop:=∃v,e=.returned v/\Below B w w'/\MkRes B M r w' v
theorem resE_er {s:List UInt8} {b:Bool} {n:Nat} (h:Lz.hostPr s b=.er n):n≠0/\70<=n/\n<=72:=by
 cases b with
 | true=>rcases Lz.host_err_true s n h with h|h|h<;>omega
 | false=>rcases Lz.host_err_false s n h with h|h<;>omega
theorem hostM_any (B M:Nat) (u:Lz.UrlL) (s:ByteArray) (hs:s.size<=900000) (w:World) (hE:EnvH w) (hm:MkIs B M w u) (hB:B<=w.heap.size):
  Calls Tryz.prog 160 #[.pointer (some ⟨M,0,none⟩),.string s] w (RMkE B M (Lz.hostU u s.data.toList) w):=by
 obtain⟨sch,usr,pas,hh,hst,prt,opq,a,c,xs,hq,hf,qry,frg,hk,hux,hc,hcells⟩:=hm.form;have hus:u.scheme=sch.data.toList:=by rw[hux]
 have c12:=rowAt hk.row 12 (.bool (Lz.specP sch.data.toList)) rfl;have cP:=ParseH_any s (Lz.specP sch.data.toList) hs (fun _ _=>cany_all s (by omega)) w hE
 have hU:Lz.hostU u s.data.toList=(match Lz.hostPr s.data.toList (Lz.specP sch.data.toList)with| .er n=>.er n| .ok h=>.ok {u with host:=h,hasHost:=true}):=by
  unfold Lz.hostU;rw[hus];cases Lz.hostPr s.data.toList (Lz.specP sch.data.toList)<;>rfl
 have her:∀n,Lz.hostPr s.data.toList (Lz.specP sch.data.toList)=.er n->n≠0:=fun n h=>(resE_er h).1;generalize Lz.hostPr s.data.toList (Lz.specP sch.data.toList)=r at cP hU her;rw[hU];have CP:=Ih cP;clear cP hU;cases r with
 | ok h=>
   go_enter Tryz.func160,Tryz.ntmps160
   go_wp2_with fail
   refine CP.out.mono ?_;rintro e w1 ⟨hb,rfl,hhb,hb1⟩;have hk1:=hk.below hb1;have c4:=rowAt hk1.row 4 (.string hst) rfl;have f4:=rowFz hk1.row 4;have m1:=mk_set hk1 4 (.string hb) ⟨sch,usr,pas,hh,hb,prt,opq,.slice a xs.length c,xs,hq,hf,qry,frg⟩ (Lz.specP sch.data.toList) (slashB (Lz.specP sch.data.toList)) (by simp) (fun _ h=>h);have c3:=rowAt m1.row 3 (.bool hh) rfl;have f3:=rowFz m1.row 3;have m2:=mk_set m1 3 (.bool true) ⟨sch,usr,pas,true,hb,prt,opq,.slice a xs.length c,xs,hq,hf,qry,frg⟩ (Lz.specP sch.data.toList) (slashB (Lz.specP sch.data.toList)) (by simp) (fun _ h=>h);have hbb:Below B w ((w1.setCell ⟨M,4,none⟩ (.string hb)).setCell ⟨M,3,none⟩ (.bool true)):=((hb1.mono hB).setCell (p:=⟨M,4,none⟩) hk.le _).setCell (p:=⟨M,3,none⟩) hk.le _
   have HF:Hid (MkIs B M ((w1.setCell ⟨M,4,none⟩ (.string hb)).setCell ⟨M,3,none⟩ (.bool true)) {u with host:=h,hasHost:=true}):=by
    refine⟨_,m2,Ih ?_⟩;rw[hux,<-show _=h from hhb.out];rfl
   have HB:=Ih hbb;have e0:((resE (.ok h):Nat):Int)=0:=rfl;clear m1 m2 hbb hm hk hhb
   go_wp2_with fail
   go_ret;exact⟨_,rfl,HB.out,rfl,HF.out⟩
 | er n=>
   have hn:=her n rfl;have hn0:(((n:Nat):Int) != 0)=true:=by simp;omega
   have hrE:((resE (.er n):Nat):Int)=(n:Int):=rfl;go_enter Tryz.func160,Tryz.ntmps160
   go_wp2_with fail
   refine CP.out.mono ?_;rintro e w1 ⟨hb,rfl,hhb,hb1⟩;have hbb:=hb1.mono hB;clear hhb
   go_wp2_with fail
   go_ret;exact⟨_,rfl,hbb,_,rfl⟩
theorem digit_ge:∀c:UInt8,Lz.isDigit c=true->48<=c.toNat/\c.toNat<=57:=Lz.byte_all (by decide +kernel)
def portEnd (u:Lz.UrlL) (s:List UInt8) (d:Int):Option Nat->Lz.UR
 | none=>.er 81
 | some n=>if 65535<n then .er 81 else .ok (if s≠[]/\(n:Int)≠d then{u with port:=n} else u)
theorem portU_end (u:Lz.UrlL) (s:List UInt8):Lz.portU u s=portEnd u s (Lz.defP u.scheme) (Lz.portN 0 s):=by
 unfold Lz.portU;cases Lz.portN 0 s<;>rfl
theorem portN_cons (a:Nat) (c:UInt8) (r:List UInt8):Lz.portN a (c::r)=if Lz.isDigit c then Lz.portN (min (10*a+(c.toNat-48)) 1048576) r else none:=rfl
theorem portM_any (B M:Nat) (u:Lz.UrlL) (s:ByteArray) (hs:s.size<=1000000000) (w:World) (hm:MkIs B M w u):
  Calls Tryz.prog 212 #[.pointer (some ⟨M,0,none⟩),.string s] w (RMkE B M (Lz.portU u s.data.toList) w):=by
 have hm0:=Ih hm;obtain⟨sch,usr,pas,hh,hst,prt,opq,a,c,xs,hq,hf,qry,frg,hk,hux,hc,hcells⟩:=hm.form;have hus:u.scheme=sch.data.toList:=by rw[hux]
 have c0:=rowAt hk.row 0 (.string sch) rfl;have c5:=rowAt hk.row 5 (.int .i64 prt) rfl;have f5:=rowFz hk.row 5
 have hset:Hid (∀n:Nat,MkIs B M (w.setCell ⟨M,5,none⟩ (.int .i64 n)) {u with port:=n}):=Ih (fun n=>by
  have m1:=mk_set hk 5 (.int .i64 n) ⟨sch,usr,pas,hh,hst,n,opq,.slice a xs.length c,xs,hq,hf,qry,frg⟩ (Lz.specP sch.data.toList) (slashB (Lz.specP sch.data.toList)) (by simp) (fun _ h=>h);refine⟨_,m1,Ih ?_⟩;rw[hux];rfl)
 have hle:=hk.le;obtain⟨o,ho⟩:∃o,o=Lz.portN 0 s.data.toList:=⟨_,rfl⟩
 have HU:Hid (Lz.portU u s.data.toList=portEnd u s.data.toList (Lz.defP sch.data.toList) o):=by
  show _=_;rw[portU_end,ho,hus]
 have Ho:=Ih ho;have cD:=Ih (fun W=>Default_any sch W);obtain⟨d,hd⟩:∃d,d=Lz.defP sch.data.toList:=⟨_,rfl⟩;rw[<-hd]at cD HU;clear ho hm hux hk hcells hus hc hd;go_enter Tryz.func212,Tryz.ntmps212
 go_wp2_with fail
 go_loopw [5,9] (fun n j wr=>∃a i:Nat,n=.int .i64 a/\j=.int .i64 i/\i<=s.size/\a<=1048576/\Hid (o=Lz.portN a (s.data.toList.drop i))/\w=wr) (fun _ j _=>s.size-(intOf j).toNat)
 case atStart=>exact⟨0,0,rfl,rfl,Nat.zero_le _,by omega,Ih (by rw[Ho.out,List.drop_zero]),rfl⟩
 case round=>
  obtain⟨a,i,rfl,rfl,hi,ha,hO,rfl⟩:=hrel;by_cases hlt:i<s.size
  ·have hltI:(i:Int)<(s.size:Int):=by omega
   have hi0:(0:Int)<=(i:Int):=by omega
   obtain⟨c,hc⟩:∃c,c=s[i]:=⟨_,rfl⟩;have hcI:(s[i].toNat:Int)=(c.toNat:Int):=by rw[hc]
   have hst:Hid (o=if Lz.isDigit c then Lz.portN (min (10*a+(c.toNat-48)) 1048576) (s.data.toList.drop (i+1))else none):=by
    show _=_;rw[hO.out,List.drop_eq_getElem_cons (show i<s.data.toList.length from hlt),portN_cons,hc];rfl
   have cA:=Digit_any c w;cases hdg:Lz.isDigit c with
   | false=>
     rw[hdg]at cA hst;have HN:Hid (o=none):=Ih hst.out;have CA:=Ih cA;clear cA hdg hO hst hc
     go_wp2_with fail
     refine CA.out.mono ?_;rintro e w1 ⟨rfl,rfl⟩
     go_wp2_with fail
     go_ret;refine⟨_,rfl,Below.refl _ _,?_⟩;rw[HU.out,HN.out];exact⟨_,rfl⟩
   | true=>
     obtain⟨hc1,hc2⟩:=digit_ge c hdg;rw[hdg]at cA hst;obtain⟨x,hx⟩:∃x,x=c.toNat-48:=⟨_,rfl⟩;have hxc:(c.toNat:Int)-48=(x:Int):=by omega
     have hx9:x<=9:=by omega
     have hst2:Hid (o=Lz.portN (min (10*a+x) 1048576) (s.data.toList.drop (i+1))):=by
      show _=_;rw[hst.out,if_pos rfl,hx]
     have hxw:IntKind.u8.wrap (x:Int)=(x:Int):=IntWalk.u8_in _ (by omega);have hxw2:IntKind.i64.wrap (x:Int)=(x:Int):=IntWalk.i64_in _ (by omega);have CA:=Ih cA;clear cA hdg hO hst hc hx hc1 hc2;rcases Nat.lt_or_ge (10*a+x) 1048576 with hmn|hmn
     ·have hmI:10*(a:Int)+(x:Int)<1048576:=by omega
      have hmI2:10*(a:Int)+(x:Int)<=1048576:=by omega
      have HN:Hid (o=Lz.portN (10*a+x) (s.data.toList.drop (i+1))):=by show _=_;rw[hst2.out,Nat.min_eq_left (by omega)]
      go_wp2_with fail
      refine CA.out.mono ?_;rintro e w1 ⟨rfl,rfl⟩
      go_wp2_with fail
      go_roundw
      case rel=>exact⟨10*a+x,i+1,by go_num,by go_num,by omega,by omega,HN,trivial⟩
      case measure=>simp[intOf];omega
     ·have hmI:¬(10*(a:Int)+(x:Int)<1048576):=by omega
      have hmI2:(1048576:Int)<=10*(a:Int)+(x:Int):=by omega
      have HN:Hid (o=Lz.portN 1048576 (s.data.toList.drop (i+1))):=by show _=_;rw[hst2.out,Nat.min_eq_right (by omega)]
      go_wp2_with fail
      refine CA.out.mono ?_;rintro e w1 ⟨rfl,rfl⟩
      go_wp2_with fail
      go_roundw
      case rel=>exact⟨1048576,i+1,by go_num,by go_num,by omega,by omega,HN,trivial⟩
      case measure=>simp[intOf];omega
  ·have hltI:¬(i:Int)<(s.size:Int):=by omega
   have HN:Hid (o=some a):=by
    show _=_;rw[hO.out,List.drop_eq_nil_of_le (show s.data.toList.length<=i by rw[len_of_size];omega)];rfl
   clear hO;by_cases ha2:65535<a
   ·have haI:(65535:Int)<(a:Int):=by omega
    have HR:Hid (Lz.portU u s.data.toList=.er 81):=by show _=_;rw[HU.out,HN.out,portEnd,if_pos ha2]
    go_wp2_with fail
    go_ret;refine⟨_,rfl,Below.refl _ _,?_⟩;rw[HR.out];exact⟨_,rfl⟩
   ·have haI:¬(65535:Int)<(a:Int):=by omega
    by_cases he:s.data.toList=[]
    ·have g0:=text_yes he;have hem:s.toList.isEmpty=true:=isEmpty_of_size (by rw[<-len_of_size,he];rfl);have HR:Hid (Lz.portU u s.data.toList=.ok u):=by show _=_;rw[HU.out,HN.out,portEnd,if_neg ha2,if_neg (fun h=>h.1 he)]
     clear he
     go_wp2_with fail
     go_ret;refine⟨_,rfl,Below.refl _ _,?_⟩;rw[HR.out];exact⟨rfl,hm0.out⟩
    ·have g0:=text_no he;have hem:s.toList.isEmpty=false:=isEmpty_of_pos (by rw[<-len_of_size];exact List.length_pos_iff.2 he);by_cases hd:(a:Int)=d
     ·have hdb:((a:Int) != d)=false:=by simp[hd]
      have HR:Hid (Lz.portU u s.data.toList=.ok u):=by show _=_;rw[HU.out,HN.out,portEnd,if_neg ha2,if_neg (fun h=>h.2 hd)]
      clear he hd
      go_wp2_with fail
      refine(cD.out _).mono ?_;rintro e w1 ⟨rfl,rfl⟩
      go_wp2_with fail
      go_ret;refine⟨_,rfl,Below.refl _ _,?_⟩;rw[HR.out];exact⟨rfl,hm0.out⟩
     ·have hdb:((a:Int) != d)=true:=by simp[hd]
      have HR:Hid (Lz.portU u s.data.toList=.ok {u with port:=a}):=by show _=_;rw[HU.out,HN.out,portEnd,if_neg ha2,if_pos ⟨he,hd⟩]
      clear he hd
      go_wp2_with fail
      refine(cD.out _).mono ?_;rintro e w1 ⟨rfl,rfl⟩
      go_wp2_with fail
      go_ret;refine⟨_,rfl,(Below.refl _ _).setCell (p:=⟨M,5,none⟩) hle _,?_⟩;rw[HR.out];exact⟨rfl,hset.out a⟩
end Go.Proofs.YtjhccadmmnjpeaaGreatDoor
