/-
  Package urls: authority, hosted.
-/
import Derived.Test.YtibcmemcfjhgmaaGreatDoorV20
import Derived.Test.YtibcmemcfjhgmaaGreatDoorV17
set_option maxHeartbeats 2000000
set_option maxRecDepth 100000
namespace Lz
open Go
theorem zI {s:Bs} {j:Nat} (hj:s[j]? =some 64) (h:∀k,j<k->s[k]? ≠some 64):ek s=some (s.take j,s.drop (j+1)):=by
 have hl:=(List.getElem?_eq_some_iff.1 hj).1;have he:=(List.getElem?_eq_some_iff.1 hj).2
 have h1:s=s.take j++64::s.drop (j+1):=by
  rw[<-he,<-List.drop_eq_getElem_cons hl,List.take_append_drop]
 have h2:(64:UInt8)∉s.drop (j+1):=by
  intro hm;obtain⟨k,hk⟩:=List.mem_iff_getElem?.1 hm;rw[List.getElem?_drop]at hk;exact h _ (by omega) hk
 have:=yv (s.take j) h2;rw[<-h1]at this;exact this
theorem C7 {s:Bs} (h:∀k:Nat,s[k]? ≠some 64):ek s=none:=qP fun hm=>by
 obtain⟨k,hk⟩:=List.mem_iff_getElem?.1 hm;exact h k hk
def jP (s:Bs):Option Nat:=(ek s).map fun z=>z.1.length
theorem Co {s:Bs} {j:Nat} (hj:s[j]? =some 64) (h:∀k,j<k->s[k]? ≠some 64):jP s=some j:=by
 have hl:=(List.getElem?_eq_some_iff.1 hj).1;rw[jP,zI hj h]
 simp;omega
theorem ET {s:Bs} (h:∀k:Nat,s[k]? ≠some 64):jP s=none:=by rw[jP,C7 h];rfl
end Lz
namespace Go.Proofs.YtibcmemcfjhgmaaGreatDoor
open Go.RowKit
theorem Bu (s:ByteArray) (hs:s.size<=1000000000) (w:World):Calls Tryz.prog 270 #[.string s,.int .u8 64] w fun e w'=>e=.returned (.int .i64 (mi (Lz.jP s.data.toList)))/\w=w':=by
 obtain⟨o,ho⟩:∃o,o=mi (Lz.jP s.data.toList):=⟨_,rfl⟩;have Ho:=Ih ho;rw[<-ho];clear ho;go_enter Tryz.func270,Tryz.ntmps270
 go_wp2_with fail
 go_loopw [5] (fun i wr=>∃j:Nat,i=.int .i64 ((j:Int)-1)/\j<=s.size/\Hid (∀k,j<=k->s.data.toList[k]? ≠some 64)/\w=wr) (fun i _=>(intOf i+1).toNat)
 case atStart=>exact⟨s.size,by go_num,Nat.le_refl _,Ih (fun k hk h=>by have:=(List.getElem?_eq_some_iff.1 h).1;rw[ac]at this;omega),rfl⟩
 case round=>
  obtain⟨j,rfl,hj,hN,rfl⟩:=hrel;cases j with
  | zero=>
    have HN:Hid (o= -1):=by show _=_;rw[Ho.out,Lz.ET fun k=>hN.out k (Nat.zero_le _)];rfl
    have h0:¬((0:Int)<=((0:Nat):Int)-1):=by omega
    go_wp2_with fail
    go_ret;rw[HN.out];exact⟨rfl,rfl⟩
  | succ m=>
    have hm:m<s.size:=by omega
    have hmI:(m:Int)<(s.size:Int):=by omega
    have Ax:((m+1:Nat):Int)-1=(m:Int):=by omega
    have tL:(m:Int)+1-1=(m:Int):=by omega
    have wF:(0:Int)<=(m:Int):=by omega
    obtain⟨c,hc⟩:∃c,c=s[m]:=⟨_,rfl⟩;have WU:(s[m].toNat:Int)=(c.toNat:Int):=by rw[hc]
    have oH:s.data.toList[m]? =some c:=by rw[aB hm,hc]
    have b1:((c.toNat:Int)==64)=(c==64):=Bl c 64;cases hq:(c==64)with
    | true=>
      rw[hq]at b1;have Ws:c=64:=by simpa using hq
      have HN:Hid (o=(m:Int)):=by
       show _=_;rw[Ho.out,Lz.Co (j:=m) (by rw[oH,Ws]) (fun k hk=>hN.out k (by omega))];rfl
      clear hc hq oH hN
      go_wp2_with fail
      go_ret;rw[HN.out,<-Ax];exact⟨rfl,rfl⟩
    | false=>
      rw[hq]at b1;have Ws:c≠64:=by simpa using hq
      have HN:Hid (∀k,m<=k->s.data.toList[k]? ≠some 64):=Ih (fun k hk h=>by
       rcases Nat.eq_or_lt_of_le hk with e|e
       ·rw[<-e,oH]at h;exact Ws (Option.some.inj h)
       ·exact hN.out k e h)
      clear hc hq oH hN
      go_wp2_with fail
      go_roundw
      case rel=>exact⟨m,by go_num,by omega,HN,trivial⟩
      case measure=>simp[intOf]
theorem L3 (s:ByteArray) (hs:s.size<=1000000000) (w:World):Calls Tryz.prog 235 #[.string s,.int .u8 64] w fun e w'=>e=.returned (.int .i64 (mi (Lz.jP s.data.toList)))/\w=w':=by
 have cL:=Ih (fun W=>Bu s hs W);generalize mi (Lz.jP s.data.toList)=o at cL⊢;go_enter Tryz.func235,Tryz.ntmps235
 go_wp2_with fail
 refine(cL.out _).mono ?_;rintro e w1 ⟨rfl,rfl⟩
 go_wp2_with fail
 go_ret;exact⟨rfl,rfl⟩
def MJ (n:Nat) (v:Value):Prop:=∃p:ByteArray,v=.iface 173 (.agg #[.string p,.iface 39 (.int .i64 (n:Int))])
def SM (B M:Nat) (r:Lz.UR) (w:World) (v:Value):Prop:=match r with
 | .ok u=>v=.nilIface/\fQ B M w u
 | .er n=>MJ n v
def Kt (B M:Nat) (r:Lz.UR) (w:World) (e:Ending) (w':World):Prop:=∃v,e=.returned v/\Below B w w'/\SM B M r w' v
theorem QL {s:List UInt8} {b:Bool} {n:Nat} (h:Lz.aX s b=.er n):n≠0/\70<=n/\n<=72:=by
 cases b with
 | true=>rcases Lz.wP s n h with h|h|h<;>omega
 | false=>rcases Lz.ui s n h with h|h<;>omega
theorem Km (B M:Nat) (u:Lz.au) (s:ByteArray) (hs:s.size<=900000) (w:World) (hE:eU w) (hm:fQ B M w u) (hB:B<=w.heap.size):
  Calls Tryz.prog 180 #[.pointer (some ⟨M,0,none⟩),.string s] w (Kt B M (Lz.gn u s.data.toList) w):=by
 obtain⟨sch,usr,pas,hh,hst,prt,opq,a,c,xs,hq,hf,qry,frg,hk,nr,hc,aW⟩:=hm.form;have xD:u.scheme=sch.data.toList:=by rw[nr]
 have c12:=rowAt hk.row 12 (.bool (Lz.aj sch.data.toList)) rfl;have cP:=Fq s (Lz.aj sch.data.toList) hs (fun _ _=>NC s (by omega)) w hE
 have hU:Lz.gn u s.data.toList=(match Lz.aX s.data.toList (Lz.aj sch.data.toList)with| .er n=>.er n| .ok h=>.ok {u with host:=h,hasHost:=true}):=by
  unfold Lz.gn;rw[xD];cases Lz.aX s.data.toList (Lz.aj sch.data.toList)<;>rfl
 have her:∀n,Lz.aX s.data.toList (Lz.aj sch.data.toList)=.er n->n≠0:=fun n h=>(QL h).1;generalize Lz.aX s.data.toList (Lz.aj sch.data.toList)=r at cP hU her;rw[hU];have CP:=Ih cP;clear cP hU;cases r with
 | ok h=>
   go_enter Tryz.func180,Tryz.ntmps180
   go_wp2_with fail
   refine CP.out.mono ?_;rintro e w1 ⟨hb,rfl,hhb,av⟩;have tM:=hk.below av;have c4:=rowAt tM.row 4 (.string hst) rfl;have f4:=bX tM.row 4;have m1:=gv tM 4 (.string hb) ⟨sch,usr,pas,hh,hb,prt,opq,.slice a xs.length c,xs,hq,hf,qry,frg⟩ (Lz.aj sch.data.toList) (dk (Lz.aj sch.data.toList)) (by simp) (fun _ h=>h);have c3:=rowAt m1.row 3 (.bool hh) rfl;have f3:=bX m1.row 3;have m2:=gv m1 3 (.bool true) ⟨sch,usr,pas,true,hb,prt,opq,.slice a xs.length c,xs,hq,hf,qry,frg⟩ (Lz.aj sch.data.toList) (dk (Lz.aj sch.data.toList)) (by simp) (fun _ h=>h);have mr:Below B w ((w1.setCell ⟨M,4,none⟩ (.string hb)).setCell ⟨M,3,none⟩ (.bool true)):=((av.mono hB).setCell (p:=⟨M,4,none⟩) hk.le _).setCell (p:=⟨M,3,none⟩) hk.le _
   have HF:Hid (fQ B M ((w1.setCell ⟨M,4,none⟩ (.string hb)).setCell ⟨M,3,none⟩ (.bool true)) {u with host:=h,hasHost:=true}):=by
    refine⟨_,m2,Ih ?_⟩;rw[nr,<-show _=h from hhb.out];rfl
   have HB:=Ih mr;have e0:((resE (.ok h):Nat):Int)=0:=rfl;clear m1 m2 mr hm hk hhb
   go_wp2_with fail
   go_ret;exact⟨_,rfl,HB.out,rfl,HF.out⟩
 | er n=>
   have hn:=her n rfl;have wN:(((n:Nat):Int) != 0)=true:=by simp;omega
   have hrE:((resE (.er n):Nat):Int)=(n:Int):=rfl;go_enter Tryz.func180,Tryz.ntmps180
   go_wp2_with fail
   refine CP.out.mono ?_;rintro e w1 ⟨hb,rfl,hhb,av⟩;have mr:=av.mono hB;clear hhb
   go_wp2_with fail
   go_ret;exact⟨_,rfl,mr,_,rfl⟩
theorem L5:∀c:UInt8,Lz.aQ c=true->48<=c.toNat/\c.toNat<=57:=Lz.aA (by decide +kernel)
def nD (u:Lz.au) (s:List UInt8) (d:Int):Option Nat->Lz.UR
 | none=>.er 81
 | some n=>if 65535<n then .er 81 else .ok (if s≠[]/\(n:Int)≠d then{u with port:=n} else u)
theorem I5 (u:Lz.au) (s:List UInt8):Lz.ew u s=nD u s (Lz.kC u.scheme) (Lz.ko 0 s):=by
 unfold Lz.ew;cases Lz.ko 0 s<;>rfl
theorem E3 (a:Nat) (c:UInt8) (r:List UInt8):Lz.ko a (c::r)=if Lz.aQ c then Lz.ko (min (10*a+(c.toNat-48)) 1048576) r else none:=rfl
theorem yd (B M:Nat) (u:Lz.au) (s:ByteArray) (hs:s.size<=1000000000) (w:World) (hm:fQ B M w u):
  Calls Tryz.prog 237 #[.pointer (some ⟨M,0,none⟩),.string s] w (Kt B M (Lz.ew u s.data.toList) w):=by
 have wF:=Ih hm;obtain⟨sch,usr,pas,hh,hst,prt,opq,a,c,xs,hq,hf,qry,frg,hk,nr,hc,aW⟩:=hm.form;have xD:u.scheme=sch.data.toList:=by rw[nr]
 have c0:=rowAt hk.row 0 (.string sch) rfl;have c5:=rowAt hk.row 5 (.int .i64 prt) rfl;have f5:=bX hk.row 5
 have jg:Hid (∀n:Nat,fQ B M (w.setCell ⟨M,5,none⟩ (.int .i64 n)) {u with port:=n}):=Ih (fun n=>by
  have m1:=gv hk 5 (.int .i64 n) ⟨sch,usr,pas,hh,hst,n,opq,.slice a xs.length c,xs,hq,hf,qry,frg⟩ (Lz.aj sch.data.toList) (dk (Lz.aj sch.data.toList)) (by simp) (fun _ h=>h);refine⟨_,m1,Ih ?_⟩;rw[nr];rfl)
 have oh:=hk.le;obtain⟨o,ho⟩:∃o,o=Lz.ko 0 s.data.toList:=⟨_,rfl⟩
 have HU:Hid (Lz.ew u s.data.toList=nD u s.data.toList (Lz.kC sch.data.toList) o):=by
  show _=_;rw[I5,ho,xD]
 have Ho:=Ih ho;have cD:=Ih (fun W=>sm sch W);obtain⟨d,hd⟩:∃d,d=Lz.kC sch.data.toList:=⟨_,rfl⟩;rw[<-hd]at cD HU;clear ho hm nr hk aW xD hc hd;go_enter Tryz.func237,Tryz.ntmps237
 go_wp2_with fail
 go_loopw [5,9] (fun n j wr=>∃a i:Nat,n=.int .i64 a/\j=.int .i64 i/\i<=s.size/\a<=1048576/\Hid (o=Lz.ko a (s.data.toList.drop i))/\w=wr) (fun _ j _=>s.size-(intOf j).toNat)
 case atStart=>exact⟨0,0,rfl,rfl,Nat.zero_le _,by omega,Ih (by rw[Ho.out,List.drop_zero]),rfl⟩
 case round=>
  obtain⟨a,i,rfl,rfl,hi,ha,hO,rfl⟩:=hrel;by_cases aL:i<s.size
  ·have aK:(i:Int)<(s.size:Int):=by omega
   have j6:(0:Int)<=(i:Int):=by omega
   obtain⟨c,hc⟩:∃c,c=s[i]:=⟨_,rfl⟩;have WU:(s[i].toNat:Int)=(c.toNat:Int):=by rw[hc]
   have hst:Hid (o=if Lz.aQ c then Lz.ko (min (10*a+(c.toNat-48)) 1048576) (s.data.toList.drop (i+1))else none):=by
    show _=_;rw[hO.out,List.drop_eq_getElem_cons (show i<s.data.toList.length from aL),E3,hc];rfl
   have cA:=kX c w;cases hdg:Lz.aQ c with
   | false=>
     rw[hdg]at cA hst;have HN:Hid (o=none):=Ih hst.out;have CA:=Ih cA;clear cA hdg hO hst hc
     go_wp2_with fail
     refine CA.out.mono ?_;rintro e w1 ⟨rfl,rfl⟩
     go_wp2_with fail
     go_ret;refine⟨_,rfl,Below.refl _ _,?_⟩;rw[HU.out,HN.out];exact⟨_,rfl⟩
   | true=>
     obtain⟨iE,sO⟩:=L5 c hdg;rw[hdg]at cA hst;obtain⟨x,hx⟩:∃x,x=c.toNat-48:=⟨_,rfl⟩;have Lg:(c.toNat:Int)-48=(x:Int):=by omega
     have R4:x<=9:=by omega
     have Ok:Hid (o=Lz.ko (min (10*a+x) 1048576) (s.data.toList.drop (i+1))):=by
      show _=_;rw[hst.out,if_pos rfl,hx]
     have hxw:IntKind.u8.wrap (x:Int)=(x:Int):=IntWalk.u8_in _ (by omega);have adc:IntKind.i64.wrap (x:Int)=(x:Int):=IntWalk.i64_in _ (by omega);have CA:=Ih cA;clear cA hdg hO hst hc hx iE sO;rcases Nat.lt_or_ge (10*a+x) 1048576 with hmn|hmn
     ·have hmI:10*(a:Int)+(x:Int)<1048576:=by omega
      have ab6:10*(a:Int)+(x:Int)<=1048576:=by omega
      have HN:Hid (o=Lz.ko (10*a+x) (s.data.toList.drop (i+1))):=by show _=_;rw[Ok.out,Nat.min_eq_left (by omega)]
      go_wp2_with fail
      refine CA.out.mono ?_;rintro e w1 ⟨rfl,rfl⟩
      go_wp2_with fail
      go_roundw
      case rel=>exact⟨10*a+x,i+1,by go_num,by go_num,by omega,by omega,HN,trivial⟩
      case measure=>simp[intOf];omega
     ·have hmI:¬(10*(a:Int)+(x:Int)<1048576):=by omega
      have ab6:(1048576:Int)<=10*(a:Int)+(x:Int):=by omega
      have HN:Hid (o=Lz.ko 1048576 (s.data.toList.drop (i+1))):=by show _=_;rw[Ok.out,Nat.min_eq_right (by omega)]
      go_wp2_with fail
      refine CA.out.mono ?_;rintro e w1 ⟨rfl,rfl⟩
      go_wp2_with fail
      go_roundw
      case rel=>exact⟨1048576,i+1,by go_num,by go_num,by omega,by omega,HN,trivial⟩
      case measure=>simp[intOf];omega
  ·have aK:¬(i:Int)<(s.size:Int):=by omega
   have HN:Hid (o=some a):=by
    show _=_;rw[hO.out,List.drop_eq_nil_of_le (show s.data.toList.length<=i by rw[ac];omega)];rfl
   clear hO;by_cases ti:65535<a
   ·have haI:(65535:Int)<(a:Int):=by omega
    have HR:Hid (Lz.ew u s.data.toList=.er 81):=by show _=_;rw[HU.out,HN.out,nD,if_pos ti]
    go_wp2_with fail
    go_ret;refine⟨_,rfl,Below.refl _ _,?_⟩;rw[HR.out];exact⟨_,rfl⟩
   ·have haI:¬(65535:Int)<(a:Int):=by omega
    by_cases he:s.data.toList=[]
    ·have g0:=eS he;have RZ:s.toList.isEmpty=true:=aN (by rw[<-ac,he];rfl);have HR:Hid (Lz.ew u s.data.toList=.ok u):=by show _=_;rw[HU.out,HN.out,nD,if_neg ti,if_neg (fun h=>h.1 he)]
     clear he
     go_wp2_with fail
     go_ret;refine⟨_,rfl,Below.refl _ _,?_⟩;rw[HR.out];exact⟨rfl,wF.out⟩
    ·have g0:=fU he;have RZ:s.toList.isEmpty=false:=aG (by rw[<-ac];exact List.length_pos_iff.2 he);by_cases hd:(a:Int)=d
     ·have X1:((a:Int) != d)=false:=by simp[hd]
      have HR:Hid (Lz.ew u s.data.toList=.ok u):=by show _=_;rw[HU.out,HN.out,nD,if_neg ti,if_neg (fun h=>h.2 hd)]
      clear he hd
      go_wp2_with fail
      refine(cD.out _).mono ?_;rintro e w1 ⟨rfl,rfl⟩
      go_wp2_with fail
      go_ret;refine⟨_,rfl,Below.refl _ _,?_⟩;rw[HR.out];exact⟨rfl,wF.out⟩
     ·have X1:((a:Int) != d)=true:=by simp[hd]
      have HR:Hid (Lz.ew u s.data.toList=.ok {u with port:=a}):=by show _=_;rw[HU.out,HN.out,nD,if_neg ti,if_pos ⟨he,hd⟩]
      clear he hd
      go_wp2_with fail
      refine(cD.out _).mono ?_;rintro e w1 ⟨rfl,rfl⟩
      go_wp2_with fail
      go_ret;refine⟨_,rfl,(Below.refl _ _).setCell (p:=⟨M,5,none⟩) oh _,?_⟩;rw[HR.out];exact⟨rfl,jg.out a⟩
def Rb (B M:Nat) (goal:Lz.UR) (L:Nat) (w:World) (s1:Value) (wx:World):Prop:=
 ∃(ab:ByteArray) (u:Lz.au),s1=.string ab/\Below B w wx/\fQ B M wx u/\Hid (goal=Lz.eV u ab.data.toList)/\ab.size<=L
def My (B M:Nat) (goal:Lz.UR) (L:Nat) (w:World) (s1 s9:Value) (wx:World):Prop:=
 ∃(ab pb:ByteArray) (u:Lz.au),s1=.string ab/\s9=.string pb/\Below B w wx/\fQ B M wx u/\Hid (goal=if ab.data.toList=[]/\Lz.aj u.scheme=true then .er 70 else(Lz.gn u ab.data.toList).bind fun v=>Lz.ew v pb.data.toList)/\ab.size<=L/\pb.size<=L
theorem VK {B M:Nat} {w w1:World} {u:Lz.au} (hm:fQ B M w1 u) (hb:Below B w w1) (ub pb:ByteArray) (l:List UInt8) (hu:ub.data.toList=Lz.aq (Lz.dw 5) (Lib.cut l [58]).1) (hp:pb.data.toList=Lz.aq (Lz.dw 5) (Lib.cut l [58]).2.1):
  Below B w ((w1.setCell ⟨M,1,none⟩ (.string ub)).setCell ⟨M,2,none⟩ (.string pb))/\fQ B M ((w1.setCell ⟨M,1,none⟩ (.string ub)).setCell ⟨M,2,none⟩ (.string pb)) (Lz.BX u l):=by
 obtain⟨sch,usr,pas,hh,hst,prt,opq,a,c,xs,hq,hf,qry,frg,hk,rfl,hc,aW⟩:=hm.form;have m1:=gv hk 1 (.string ub) ⟨sch,ub,pas,hh,hst,prt,opq,.slice a xs.length c,xs,hq,hf,qry,frg⟩ (Lz.aj sch.data.toList) (dk (Lz.aj sch.data.toList)) (by simp) (fun _ h=>h);have m2:=gv m1 2 (.string pb) ⟨sch,ub,pb,hh,hst,prt,opq,.slice a xs.length c,xs,hq,hf,qry,frg⟩ (Lz.aj sch.data.toList) (dk (Lz.aj sch.data.toList)) (by simp) (fun _ h=>h);refine⟨(hb.setCell (p:=⟨M,1,none⟩) hk.le _).setCell (p:=⟨M,2,none⟩) hk.le _,_,m2,Ih ?_⟩;unfold Lz.BX;rw[<-hu,<-hp];rfl
theorem uY {s:List UInt8} {i:Nat} (h:Lz.jP s=some i):Lz.ek s=some (s.take i,s.drop (i+1))/\i<s.length:=by
 unfold Lz.jP at h;rw[Option.map_eq_some_iff]at h;obtain⟨⟨x,y⟩,h1,h2⟩:=h;have hl:=Lz.pi h1
 have hs:∀{s x y:List UInt8},Lz.ek s=some (x,y)->s=x++64::y:=by
  intro s
  induction s with
  | nil=>intro x y h;cases h
  | cons c r ih=>
    intro x y h;rw[Lz.ek]at h;cases hr:Lz.ek r with
    | some z=>
      obtain⟨x',y'⟩:=z;rw[hr]at h;simp only[Option.some.injEq,Prod.mk.injEq]at h;rw[<-h.1,<-h.2,ih hr];rfl
    | none=>
      rw[hr]at h;simp only at h;split at h
      ·rename_i hc;simp only[Option.some.injEq,Prod.mk.injEq]at h;rw[<-h.1,<-h.2,show c=64 by simpa using hc];rfl
      ·cases h
 have he:=hs h1;simp only at h2;subst h2;refine⟨?_,by omega⟩;rw[h1];congr 1;rw[he]
 simp
theorem Nd {s:List UInt8} (h:Lz.jP s=none):Lz.ek s=none:=by
 unfold Lz.jP at h;rw[Option.map_eq_none_iff]at h;exact h
theorem FE {u:Lz.au} {s:List UInt8} (h:Lz.jP s=none):Lz.jk u s=Lz.eV u s:=by unfold Lz.jk;rw[Nd h]
theorem Fc {u:Lz.au} {s:List UInt8} {i:Nat} (h:Lz.jP s=some i):Lz.jk u s=if s.drop (i+1)=[]then .er 70 else Lz.eV (Lz.BX u (s.take i)) (s.drop (i+1)):=by unfold Lz.jk;rw[(uY h).1]
theorem B7 {u:Lz.au} {s:List UInt8} (h:Lz.dR false s=none):Lz.eV u s=if s=[]/\Lz.aj u.scheme=true then .er 70 else(Lz.gn u s).bind fun v=>Lz.ew v []:=by unfold Lz.eV;rw[h]
theorem CZ {u:Lz.au} {s:List UInt8} {i:Nat} (h:Lz.dR false s=some i):Lz.eV u s=if s.take i=[]then .er 70 else(Lz.gn u (s.take i)).bind fun v=>Lz.ew v (s.drop (i+1)):=by unfold Lz.eV;rw[h]
theorem yb:∀{b:Bool} {s:List UInt8} {i:Nat},Lz.dR b s=some i->i<s.length
 | _,[],_,h=>by cases h
 | b,c::r,i,h=>by
   rw[Lz.dR]at h
   have key:∀b' k,(Lz.dR b' r).map (·+1)=some k->k<(c::r).length:=by
    intro b' k hk;rw[Option.map_eq_some_iff]at hk;obtain⟨m,hm,rfl⟩:=hk;have:=yb hm
    simp;omega
   split at h
   ·exact key _ _ h
   ·split at h
    ·exact key _ _ h
    ·split at h
     ·injection h with h;subst h;simp
     ·exact key _ _ h
theorem JG (B M:Nat) (u:Lz.au) (s:ByteArray) (hs:s.size<=900000) (w:World) (hE:eU w) (hm:fQ B M w u) (hB:B<=w.heap.size) (Gu:15<=B):
  Calls Tryz.prog 185 #[.pointer (some ⟨M,0,none⟩),.string s] w (Kt B M (Lz.jk u s.data.toList) w):=by
 obtain⟨goal,gC⟩:∃goal,goal=Lz.jk u s.data.toList:=⟨_,rfl⟩;rw[<-gC];have wn:=Ih gC;have HE:=Ih hE;have Hm:=Ih hm;have cL:=Ih (fun W=>L3 s (by omega) W);obtain⟨o,ho⟩:∃o,o=Lz.jP s.data.toList:=⟨_,rfl⟩;rw[<-ho]at cL;obtain⟨oi,hoi⟩:∃oi,oi=mi o:=⟨_,rfl⟩;rw[<-hoi]at cL;have Ho:=Ih ho;have Hoi:=Ih hoi;clear gC hE hm ho hoi;go_enter Tryz.func185,Tryz.ntmps185
 go_wp2_with fail
 refine(cL.out _).mono ?_;rintro e w1 ⟨rfl,rfl⟩
 go_upto_if 15 with fail
 go_cut [1] (fun s1 wx=>Rb B M goal s.size w s1 wx)
 case first=>
  cases o with
  | none=>
    obtain rfl:oi= -1:=Hoi.out;have HG:Hid (goal=Lz.eV u s.data.toList):=by show _=_;rw[wn.out,FE Ho.out.symm]
    go_wp2_with fail
    go_meet;exact⟨s,u,rfl,Below.refl _ _,Hm.out,HG,Nat.le_refl _⟩
  | some i=>
    obtain rfl:oi=(i:Int):=Hoi.out;have pu:i<s.size:=by rw[<-ac];exact(uY Ho.out.symm).2
    have HG:Hid (goal=if s.data.toList.drop (i+1)=[]then .er 70 else Lz.eV (Lz.BX u (s.data.toList.take i)) (s.data.toList.drop (i+1))):=by show _=_;rw[wn.out,Fc Ho.out.symm]
    have j6:(0:Int)<=(i:Int):=by omega
    have Lo:(i:Int)<=(s.size:Int):=by omega
    have hi2:(0:Int)<=(i:Int)+1:=by omega
    have hi3:(i:Int)+1<=(s.size:Int):=by omega
    have hi4:((i:Int)+1).toNat=i+1:=by omega
    have me:IntKind.i64.wrap ((i:Int)+1)=(i:Int)+1:=IntWalk.i64_in _ (by omega);have it:=bg s 0 i;have cC:=Ih (CK (s.extract 0 i) ⟨#[58]⟩ (by omega) w HE.out)
    go_wp2_with fail
    refine cC.out.mono ?_;rintro e w1 ⟨ub,pb,rfl,WJ,xB,av⟩;have wB:=Lz.lz 58 (s.extract 0 i).data.toList;rw[show([58]:List UInt8)=(⟨#[58]⟩:ByteArray).data.toList from rfl,<-WJ.out,<-xB.out,ac,ac,ac]at wB;have cE1:=Ih (iM 5 (by decide) ub (by omega) w1)
    go_wp2_with fail
    refine cE1.out.mono ?_;rintro e w2 ⟨ue,rfl,hue,aE⟩;have cE2:=Ih (iM 5 (by decide) pb (by omega) w2)
    go_wp2_with fail
    refine cE2.out.mono ?_;rintro e w3 ⟨pe,rfl,Pg,bj⟩;have mn:=ae (ae av aE) bj;have Dy:=Hm.out.below mn;obtain⟨eB,O1⟩:=VK Dy (mn.mono hB) ue pe (s.data.toList.take i) (by rw[hue.out,WJ.out,gy];rfl) (by rw[Pg.out,xB.out,gy];rfl);obtain⟨sch,usr,pas,hh,hst,prt,opq,a,c,xs,hq,hf,qry,frg,hk,nr,hc,aW⟩:=Dy.form;have c1:=rowAt hk.row 1 (.string usr) rfl;have f1:=bX hk.row 1;have c2:=rowAt hk.row 2 (.string pas) rfl;have f2:=bX hk.row 2;have SC:(s.extract (i+1) s.size).data.toList=s.data.toList.drop (i+1):=bN s (i+1);by_cases he:s.data.toList.drop (i+1)=[]
    ·have RZ:(s.extract (i+1) s.size).toList.isEmpty=true:=aN (by rw[<-ac,SC,he];rfl);have IV:Hid (goal=.er 70):=by show _=_;rw[HG.out,if_pos he]
     clear nr aW hk wB WJ xB hue Pg he SC
     go_wp2_with fail
     go_ret;refine⟨_,rfl,eB,?_⟩;rw[IV.out];exact⟨_,rfl⟩
    ·have RZ:(s.extract (i+1) s.size).toList.isEmpty=false:=aG (by rw[<-ac,SC];exact List.length_pos_iff.2 he);have IV:Hid (goal=Lz.eV (Lz.BX u (s.data.toList.take i)) (s.extract (i+1) s.size).data.toList):=by show _=_;rw[HG.out,if_neg he,SC]
     have DH:=bg s (i+1) s.size;clear nr aW hk wB WJ xB hue Pg he SC
     go_wp2_with fail
     go_meet;exact⟨_,_,rfl,eB,O1,IV,DH⟩
 case rest=>
  obtain⟨ab,u1,rfl,aC,Ax,hG,wD⟩:=hcut;have hEc:=HE.out.at aC Gu;have hBc:B<=wc.heap.size:=Nat.le_trans hB aC.size;have cN:=Ih (fun W=>IY ab (by omega) W);obtain⟨o2,ho2⟩:∃o2,o2=Lz.dR false ab.data.toList:=⟨_,rfl⟩;rw[<-ho2]at cN;obtain⟨oi2,Wz⟩:∃oi2,oi2=mi o2:=⟨_,rfl⟩;rw[<-Wz]at cN;have Ho2:=Ih ho2;have V9:=Ih Wz;clear ho2 cL Wz Hoi
  go_wp2_with fail
  refine(cN.out _).mono ?_;rintro e w2 ⟨rfl,rfl⟩
  go_upto_if 48 with fail
  go_cut [1,9] (fun s1 s9 wx=>My B M goal s.size w s1 s9 wx)
  case first=>
   cases o2 with
   | none=>
     obtain rfl:oi2= -1:=V9.out;have HG:Hid (goal=if ab.data.toList=[]/\Lz.aj u1.scheme=true then .er 70 else(Lz.gn u1 ab.data.toList).bind fun v=>Lz.ew v (⟨#[]⟩:ByteArray).data.toList):=by show _=_;rw[hG.out,B7 Ho2.out.symm]
     go_wp2_with fail
     go_meet;exact⟨ab,⟨#[]⟩,u1,rfl,rfl,aC,Ax,HG,wD,Nat.zero_le _⟩
   | some i=>
     obtain rfl:oi2=(i:Int):=V9.out;have pu:i<ab.size:=by rw[<-ac];exact yb Ho2.out.symm
     have HG:Hid (goal=if ab.data.toList.take i=[]then .er 70 else(Lz.gn u1 (ab.data.toList.take i)).bind fun v=>Lz.ew v (ab.data.toList.drop (i+1))):=by show _=_;rw[hG.out,CZ Ho2.out.symm]
     have j6:(0:Int)<=(i:Int):=by omega
     have Lo:(i:Int)<=(ab.size:Int):=by omega
     have hi2:(0:Int)<=(i:Int)+1:=by omega
     have hi3:(i:Int)+1<=(ab.size:Int):=by omega
     have hi4:((i:Int)+1).toNat=i+1:=by omega
     have me:IntKind.i64.wrap ((i:Int)+1)=(i:Int)+1:=IntWalk.i64_in _ (by omega);have it:=bg ab 0 i;have tJ:=bg ab (i+1) ab.size;have Pe:(ab.extract 0 i).data.toList=ab.data.toList.take i:=gy ab i;have SC:(ab.extract (i+1) ab.size).data.toList=ab.data.toList.drop (i+1):=bN ab (i+1);by_cases he:ab.data.toList.take i=[]
     ·have RZ:(ab.extract 0 i).toList.isEmpty=true:=aN (by rw[<-ac,Pe,he];rfl);have IV:Hid (goal=.er 70):=by show _=_;rw[HG.out,if_pos he]
      clear he Pe SC
      go_wp2_with fail
      go_quiet (fail)
      have eB:Below B w (wc.drewN nq):=below_drewN aC nq;generalize wc.drewN nq=wa at eB⊢
      go_wp2_with fail
      go_ret;refine⟨_,rfl,eB,?_⟩;rw[IV.out];exact⟨_,rfl⟩
     ·have RZ:(ab.extract 0 i).toList.isEmpty=false:=aG (by rw[<-ac,Pe];exact List.length_pos_iff.2 he)
      have IV:Hid (goal=if(ab.extract 0 i).data.toList=[]/\Lz.aj u1.scheme=true then .er 70 else(Lz.gn u1 (ab.extract 0 i).data.toList).bind fun v=>Lz.ew v (ab.extract (i+1) ab.size).data.toList):=by
       show _=_;rw[HG.out,if_neg he,if_neg (fun h=>he (by rw[<-Pe];exact h.1)),Pe,SC]
      clear he Pe SC
      go_wp2_with fail
      go_quiet (fail)
      have eB:Below B w (wc.drewN nq):=below_drewN aC nq;have O1:fQ B M (wc.drewN nq) u1:=Ax.below (below_drewN (Below.refl _ wc) nq);generalize wc.drewN nq=wa at eB O1⊢
      go_wp2_with fail
      go_meet;exact⟨_,_,u1,rfl,rfl,eB,O1,IV,by omega,by omega⟩
  case rest=>
   clear cN V9 hG wD Ax aC hEc hBc;obtain⟨ab,pb,u2,rfl,rfl,aC,tL,hG,wD,oj⟩:=hcut;have hEc:=HE.out.at aC Gu;have hBc:B<=wc.heap.size:=Nat.le_trans hB aC.size;obtain⟨sch,usr,pas,hh,hst,prt,opq,a,c,xs,hq,hf,qry,frg,hk,nr,hc,aW⟩:=tL.form;have xD:u2.scheme=sch.data.toList:=by rw[nr]
   have c12:=rowAt hk.row 12 (.bool (Lz.aj sch.data.toList)) rfl;have Sr:Hid (goal=if ab.data.toList=[]/\Lz.aj sch.data.toList=true then .er 70 else(Lz.gn u2 ab.data.toList).bind fun v=>Lz.ew v pb.data.toList):=by show _=_;rw[hG.out,xD]
   generalize Lz.aj sch.data.toList=sp at Sr c12;clear nr hk aW xD hG;have cH:=Ih (Km B M u2 ab (by omega) wc hEc tL hBc)
   have wz:Hid ((goal=(Lz.gn u2 ab.data.toList).bind fun v=>Lz.ew v pb.data.toList))\/(ab.data.toList=[]/\sp=true):=by
    by_cases h:ab.data.toList=[]/\sp=true
    ·exact .inr h
    ·exact .inl (Ih (by rw[Sr.out,if_neg h]))
   by_cases he:ab.data.toList=[]
   ·have RZ:ab.toList.isEmpty=true:=aN (by rw[<-ac,he];rfl);cases sp with
    | true=>
      have OA:Hid (goal=.er 70):=by show _=_;rw[Sr.out,if_pos ⟨he,rfl⟩]
      clear he wz
      go_wp2_with fail
      go_ret;refine⟨_,rfl,aC,?_⟩;rw[OA.out];exact⟨_,rfl⟩
    | false=>
      have OA:Hid (goal=(Lz.gn u2 ab.data.toList).bind fun v=>Lz.ew v pb.data.toList):=wz.resolve_right (fun h=>by cases h.2);clear he wz
      go_wp2_with fail
      refine cH.out.mono ?_;rintro e w3 ⟨v,rfl,bj,dH⟩;have OE:=aC.trans bj;generalize Lz.gn u2 ab.data.toList=r at dH OA;cases r with
      | er n=>
        obtain⟨p,rfl⟩:=dH
        go_wp2_with fail
        go_ret;refine⟨_,rfl,OE,?_⟩;rw[OA.out];exact⟨p,rfl⟩
      | ok u3=>
        obtain⟨rfl,Dy⟩:=dH;have cP:=Ih (yd B M u3 pb (by omega) w3 Dy);have HG4:Hid (goal=Lz.ew u3 pb.data.toList):=Ih OA.out
        go_wp2_with fail
        refine cP.out.mono ?_;rintro e w4 ⟨v,rfl,eB,dH⟩
        go_wp2_with fail
        go_ret;refine⟨v,rfl,OE.trans eB,?_⟩;rw[HG4.out];exact dH
   ·have RZ:ab.toList.isEmpty=false:=aG (by rw[<-ac];exact List.length_pos_iff.2 he);have OA:Hid (goal=(Lz.gn u2 ab.data.toList).bind fun v=>Lz.ew v pb.data.toList):=wz.resolve_right (fun h=>he h.1);clear he wz
    go_wp2_with fail
    refine cH.out.mono ?_;rintro e w3 ⟨v,rfl,bj,dH⟩;have OE:=aC.trans bj;generalize Lz.gn u2 ab.data.toList=r at dH OA;cases r with
    | er n=>
      obtain⟨p,rfl⟩:=dH
      go_wp2_with fail
      go_ret;refine⟨_,rfl,OE,?_⟩;rw[OA.out];exact⟨p,rfl⟩
    | ok u3=>
      obtain⟨rfl,Dy⟩:=dH;have cP:=Ih (yd B M u3 pb (by omega) w3 Dy);have HG4:Hid (goal=Lz.ew u3 pb.data.toList):=Ih OA.out
      go_wp2_with fail
      refine cP.out.mono ?_;rintro e w4 ⟨v,rfl,eB,dH⟩
      go_wp2_with fail
      go_ret;refine⟨v,rfl,OE.trans eB,?_⟩;rw[HG4.out];exact dH
end Go.Proofs.YtibcmemcfjhgmaaGreatDoor
