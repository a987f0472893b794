/-
  Package urls: authority, hosted.
-/
import Derived.Test.YtlcbhacofagedaaGreatDoorY19
import Derived.Test.YtlcbhacofagedaaGreatDoorY15
set_option maxHeartbeats 2000000
set_option maxRecDepth 100000
namespace Lz
open Go
theorem zB {s:Bs} {j:Nat} (hj:s[j]? =some 64) (h:∀k,j<k->s[k]? ≠some 64):cz s=some (s.take j,s.drop (j+1)):=by
 have hl:=(List.getElem?_eq_some_iff.1 hj).1;have he:=(List.getElem?_eq_some_iff.1 hj).2
 have h1:s=s.take j++64::s.drop (j+1):=by
  rw[<-he,<-List.drop_eq_getElem_cons hl,List.take_append_drop]
 have h2:(64:UInt8)∉s.drop (j+1):=by
  intro hm;obtain⟨k,hk⟩:=List.mem_iff_getElem?.1 hm;rw[List.getElem?_drop]at hk;exact h _ (by omega) hk
 have:=xF (s.take j) h2;rw[<-h1]at this;exact this
theorem Cs {s:Bs} (h:∀k:Nat,s[k]? ≠some 64):cz s=none:=qL fun hm=>by
 obtain⟨k,hk⟩:=List.mem_iff_getElem?.1 hm;exact h k hk
def jE (s:Bs):Option Nat:=(cz s).map fun z=>z.1.length
theorem Bn {s:Bs} {j:Nat} (hj:s[j]? =some 64) (h:∀k,j<k->s[k]? ≠some 64):jE s=some j:=by
 have hl:=(List.getElem?_eq_some_iff.1 hj).1;rw[jE,zB hj h]
 simp;omega
theorem E3 {s:Bs} (h:∀k:Nat,s[k]? ≠some 64):jE s=none:=by rw[jE,Cs h];rfl
end Lz
namespace Go.Proofs.YtlcbhacofagedaaGreatDoor
open Go.RowKit
theorem AP (s:ByteArray) (hs:s.size<=1000000000) (w:World):Calls Tryz.prog 254 #[.string s,.int .u8 64] w fun e w'=>e=.returned (.int .i64 (l3 (Lz.jE s.data.toList)))/\w=w':=by
 obtain⟨o,ho⟩:∃o,o=l3 (Lz.jE s.data.toList):=⟨_,rfl⟩;have Ho:=Ih ho;rw[<-ho];clear ho;go_enter Tryz.func254,Tryz.ntmps254
 go_wp2_with fail
 go_loopw [5] (fun i wr=>∃j:Nat,i=.int .i64 ((j:Int)-1)/\j<=s.size/\Hid (∀k,j<=k->s.data.toList[k]? ≠some 64)/\w=wr) (fun i _=>(intOf i+1).toNat)
 case atStart=>exact⟨s.size,by go_num,Nat.le_refl _,Ih (fun k hk h=>by have:=(List.getElem?_eq_some_iff.1 h).1;rw[aa]at this;omega),rfl⟩
 case round=>
  obtain⟨j,rfl,hj,hN,rfl⟩:=hrel;cases j with
  | zero=>
    have HN:Hid (o= -1):=by show _=_;rw[Ho.out,Lz.E3 fun k=>hN.out k (Nat.zero_le _)];rfl
    have h0:¬((0:Int)<=((0:Nat):Int)-1):=by omega
    go_wp2_with fail
    go_ret;rw[HN.out];exact⟨rfl,rfl⟩
  | succ m=>
    have hm:m<s.size:=by omega
    have Pl:(m:Int)<(s.size:Int):=by omega
    have vG:((m+1:Nat):Int)-1=(m:Int):=by omega
    have rF:(m:Int)+1-1=(m:Int):=by omega
    have wV:(0:Int)<=(m:Int):=by omega
    obtain⟨c,hc⟩:∃c,c=s[m]:=⟨_,rfl⟩;have yI:(s[m].toNat:Int)=(c.toNat:Int):=by rw[hc]
    have wS:s.data.toList[m]? =some c:=by rw[aw hm,hc]
    have b1:((c.toNat:Int)==64)=(c==64):=jx c 64;cases hq:(c==64)with
    | true=>
      rw[hq]at b1;have VX:c=64:=by simpa using hq
      have HN:Hid (o=(m:Int)):=by
       show _=_;rw[Ho.out,Lz.Bn (j:=m) (by rw[wS,VX]) (fun k hk=>hN.out k (by omega))];rfl
      clear hc hq wS hN
      go_wp2_with fail
      go_ret;rw[HN.out,<-vG];exact⟨rfl,rfl⟩
    | false=>
      rw[hq]at b1;have VX:c≠64:=by simpa using hq
      have HN:Hid (∀k,m<=k->s.data.toList[k]? ≠some 64):=Ih (fun k hk h=>by
       rcases Nat.eq_or_lt_of_le hk with e|e
       ·rw[<-e,wS]at h;exact VX (Option.some.inj h)
       ·exact hN.out k e h)
      clear hc hq wS hN
      go_wp2_with fail
      go_roundw
      case rel=>exact⟨m,by go_num,by omega,HN,trivial⟩
      case measure=>simp[intOf]
theorem Mo (s:ByteArray) (hs:s.size<=1000000000) (w:World):Calls Tryz.prog 220 #[.string s,.int .u8 64] w fun e w'=>e=.returned (.int .i64 (l3 (Lz.jE s.data.toList)))/\w=w':=by
 have cL:=Ih (fun W=>AP s hs W);generalize l3 (Lz.jE s.data.toList)=o at cL⊢;go_enter Tryz.func220,Tryz.ntmps220
 go_wp2_with fail
 refine(cL.out _).mono ?_;rintro e w1 ⟨rfl,rfl⟩
 go_wp2_with fail
 go_ret;exact⟨rfl,rfl⟩
def Fo (n:Nat) (v:Value):Prop:=∃p:ByteArray,v=.iface 129 (.agg #[.string p,.iface 27 (.int .i64 (n:Int))])
def SS (B M:Nat) (r:Lz.UR) (w:World) (v:Value):Prop:=match r with
 | .ok u=>v=.nilIface/\ee B M w u
 | .er n=>Fo n v
def E8 (B M:Nat) (r:Lz.UR) (w:World) (e:Ending) (w':World):Prop:=∃v,e=.returned v/\Below B w w'/\SS B M r w' v
theorem Qn {s:List UInt8} {b:Bool} {n:Nat} (h:Lz.aD s b=.er n):n≠0/\70<=n/\n<=72:=by
 cases b with
 | true=>rcases Lz.iv s n h with h|h|h<;>omega
 | false=>rcases Lz.jC s n h with h|h<;>omega
theorem yb (B M:Nat) (u:Lz.af) (s:ByteArray) (hs:s.size<=900000) (w:World) (hE:de w) (hm:ee B M w u) (hB:B<=w.heap.size):
  Calls Tryz.prog 176 #[.pointer (some ⟨M,0,none⟩),.string s] w (E8 B M (Lz.bQ u s.data.toList) w):=by
 obtain⟨sch,usr,pas,hh,hst,prt,opq,a,c,xs,hq,hf,qry,frg,hk,lX,hc,aO⟩:=hm.form;have jn:u.scheme=sch.data.toList:=by rw[lX]
 have c12:=rowAt hk.row 12 (.bool (Lz.ae sch.data.toList)) rfl;have cP:=vl s (Lz.ae sch.data.toList) hs (fun _ _=>NY s (by omega)) w hE
 have hU:Lz.bQ u s.data.toList=(match Lz.aD s.data.toList (Lz.ae sch.data.toList)with| .er n=>.er n| .ok h=>.ok {u with host:=h,hasHost:=true}):=by
  unfold Lz.bQ;rw[jn];cases Lz.aD s.data.toList (Lz.ae sch.data.toList)<;>rfl
 have XC:∀n,Lz.aD s.data.toList (Lz.ae sch.data.toList)=.er n->n≠0:=fun n h=>(Qn h).1;generalize Lz.aD s.data.toList (Lz.ae sch.data.toList)=r at cP hU XC;rw[hU];have CP:=Ih cP;clear cP hU;cases r with
 | ok h=>
   go_enter Tryz.func176,Tryz.ntmps176
   go_wp2_with fail
   refine CP.out.mono ?_;rintro e w1 ⟨hb,rfl,Tl,aC⟩;have kq:=hk.below aC;have c4:=rowAt kq.row 4 (.string hst) rfl;have f4:=bP kq.row 4;have m1:=eW kq 4 (.string hb) ⟨sch,usr,pas,hh,hb,prt,opq,.slice a xs.length c,xs,hq,hf,qry,frg⟩ (Lz.ae sch.data.toList) (cm (Lz.ae sch.data.toList)) (by simp) (fun _ h=>h);have c3:=rowAt m1.row 3 (.bool hh) rfl;have f3:=bP m1.row 3;have m2:=eW m1 3 (.bool true) ⟨sch,usr,pas,true,hb,prt,opq,.slice a xs.length c,xs,hq,hf,qry,frg⟩ (Lz.ae sch.data.toList) (cm (Lz.ae sch.data.toList)) (by simp) (fun _ h=>h);have qy:Below B w ((w1.setCell ⟨M,4,none⟩ (.string hb)).setCell ⟨M,3,none⟩ (.bool true)):=((aC.mono hB).setCell (p:=⟨M,4,none⟩) hk.le _).setCell (p:=⟨M,3,none⟩) hk.le _
   have HF:Hid (ee B M ((w1.setCell ⟨M,4,none⟩ (.string hb)).setCell ⟨M,3,none⟩ (.bool true)) {u with host:=h,hasHost:=true}):=by
    refine⟨_,m2,Ih ?_⟩;rw[lX,<-show _=h from Tl.out];rfl
   have HB:=Ih qy;have e0:((resE (.ok h):Nat):Int)=0:=rfl;clear m1 m2 qy hm hk Tl
   go_wp2_with fail
   go_ret;exact⟨_,rfl,HB.out,rfl,HF.out⟩
 | er n=>
   have hn:=XC n rfl;have sX:(((n:Nat):Int) != 0)=true:=by simp;omega
   have hrE:((resE (.er n):Nat):Int)=(n:Int):=rfl;go_enter Tryz.func176,Tryz.ntmps176
   go_wp2_with fail
   refine CP.out.mono ?_;rintro e w1 ⟨hb,rfl,Tl,aC⟩;have qy:=aC.mono hB;clear Tl
   go_wp2_with fail
   go_ret;exact⟨_,rfl,qy,_,rfl⟩
theorem Bv:∀c:UInt8,Lz.aA c=true->48<=c.toNat/\c.toNat<=57:=Lz.au (by decide +kernel)
def nw (u:Lz.af) (s:List UInt8) (d:Int):Option Nat->Lz.UR
 | none=>.er 81
 | some n=>if 65535<n then .er 81 else .ok (if s≠[]/\(n:Int)≠d then{u with port:=n} else u)
theorem J5 (u:Lz.af) (s:List UInt8):Lz.ck u s=nw u s (Lz.dr u.scheme) (Lz.fY 0 s):=by
 unfold Lz.ck;cases Lz.fY 0 s<;>rfl
theorem DW (a:Nat) (c:UInt8) (r:List UInt8):Lz.fY a (c::r)=if Lz.aA c then Lz.fY (min (10*a+(c.toNat-48)) 1048576) r else none:=rfl
theorem yq (B M:Nat) (u:Lz.af) (s:ByteArray) (hs:s.size<=1000000000) (w:World) (hm:ee B M w u):
  Calls Tryz.prog 222 #[.pointer (some ⟨M,0,none⟩),.string s] w (E8 B M (Lz.ck u s.data.toList) w):=by
 have wV:=Ih hm;obtain⟨sch,usr,pas,hh,hst,prt,opq,a,c,xs,hq,hf,qry,frg,hk,lX,hc,aO⟩:=hm.form;have jn:u.scheme=sch.data.toList:=by rw[lX]
 have c0:=rowAt hk.row 0 (.string sch) rfl;have c5:=rowAt hk.row 5 (.int .i64 prt) rfl;have f5:=bP hk.row 5
 have lL:Hid (∀n:Nat,ee B M (w.setCell ⟨M,5,none⟩ (.int .i64 n)) {u with port:=n}):=Ih (fun n=>by
  have m1:=eW hk 5 (.int .i64 n) ⟨sch,usr,pas,hh,hst,n,opq,.slice a xs.length c,xs,hq,hf,qry,frg⟩ (Lz.ae sch.data.toList) (cm (Lz.ae sch.data.toList)) (by simp) (fun _ h=>h);refine⟨_,m1,Ih ?_⟩;rw[lX];rfl)
 have ow:=hk.le;obtain⟨o,ho⟩:∃o,o=Lz.fY 0 s.data.toList:=⟨_,rfl⟩
 have HU:Hid (Lz.ck u s.data.toList=nw u s.data.toList (Lz.dr sch.data.toList) o):=by
  show _=_;rw[J5,ho,jn]
 have Ho:=Ih ho;have cD:=Ih (fun W=>eN sch W);obtain⟨d,hd⟩:∃d,d=Lz.dr sch.data.toList:=⟨_,rfl⟩;rw[<-hd]at cD HU;clear ho hm lX hk aO jn hc hd;go_enter Tryz.func222,Tryz.ntmps222
 go_wp2_with fail
 go_loopw [5,9] (fun n j wr=>∃a i:Nat,n=.int .i64 a/\j=.int .i64 i/\i<=s.size/\a<=1048576/\Hid (o=Lz.fY a (s.data.toList.drop i))/\w=wr) (fun _ j _=>s.size-(intOf j).toNat)
 case atStart=>exact⟨0,0,rfl,rfl,Nat.zero_le _,by omega,Ih (by rw[Ho.out,List.drop_zero]),rfl⟩
 case round=>
  obtain⟨a,i,rfl,rfl,hi,ha,hO,rfl⟩:=hrel;by_cases aN:i<s.size
  ·have dH:(i:Int)<(s.size:Int):=by omega
   have nP:(0:Int)<=(i:Int):=by omega
   obtain⟨c,hc⟩:∃c,c=s[i]:=⟨_,rfl⟩;have yI:(s[i].toNat:Int)=(c.toNat:Int):=by rw[hc]
   have hst:Hid (o=if Lz.aA c then Lz.fY (min (10*a+(c.toNat-48)) 1048576) (s.data.toList.drop (i+1))else none):=by
    show _=_;rw[hO.out,List.drop_eq_getElem_cons (show i<s.data.toList.length from aN),DW,hc];rfl
   have cA:=kK c w;cases wR:Lz.aA c with
   | false=>
     rw[wR]at cA hst;have HN:Hid (o=none):=Ih hst.out;have CA:=Ih cA;clear cA wR hO hst hc
     go_wp2_with fail
     refine CA.out.mono ?_;rintro e w1 ⟨rfl,rfl⟩
     go_wp2_with fail
     go_ret;refine⟨_,rfl,Below.refl _ _,?_⟩;rw[HU.out,HN.out];exact⟨_,rfl⟩
   | true=>
     obtain⟨j7,qH⟩:=Bv c wR;rw[wR]at cA hst;obtain⟨x,hx⟩:∃x,x=c.toNat-48:=⟨_,rfl⟩;have Wu:(c.toNat:Int)-48=(x:Int):=by omega
     have XL:x<=9:=by omega
     have kU:Hid (o=Lz.fY (min (10*a+x) 1048576) (s.data.toList.drop (i+1))):=by
      show _=_;rw[hst.out,if_pos rfl,hx]
     have hxw:IntKind.u8.wrap (x:Int)=(x:Int):=IntWalk.u8_in _ (by omega);have abE:IntKind.i64.wrap (x:Int)=(x:Int):=IntWalk.i64_in _ (by omega);have CA:=Ih cA;clear cA wR hO hst hc hx j7 qH;rcases Nat.lt_or_ge (10*a+x) 1048576 with Tw|Tw
     ·have Pl:10*(a:Int)+(x:Int)<1048576:=by omega
      have WG:10*(a:Int)+(x:Int)<=1048576:=by omega
      have HN:Hid (o=Lz.fY (10*a+x) (s.data.toList.drop (i+1))):=by show _=_;rw[kU.out,Nat.min_eq_left (by omega)]
      go_wp2_with fail
      refine CA.out.mono ?_;rintro e w1 ⟨rfl,rfl⟩
      go_wp2_with fail
      go_roundw
      case rel=>exact⟨10*a+x,i+1,by go_num,by go_num,by omega,by omega,HN,trivial⟩
      case measure=>simp[intOf];omega
     ·have Pl:¬(10*(a:Int)+(x:Int)<1048576):=by omega
      have WG:(1048576:Int)<=10*(a:Int)+(x:Int):=by omega
      have HN:Hid (o=Lz.fY 1048576 (s.data.toList.drop (i+1))):=by show _=_;rw[kU.out,Nat.min_eq_right (by omega)]
      go_wp2_with fail
      refine CA.out.mono ?_;rintro e w1 ⟨rfl,rfl⟩
      go_wp2_with fail
      go_roundw
      case rel=>exact⟨1048576,i+1,by go_num,by go_num,by omega,by omega,HN,trivial⟩
      case measure=>simp[intOf];omega
  ·have dH:¬(i:Int)<(s.size:Int):=by omega
   have HN:Hid (o=some a):=by
    show _=_;rw[hO.out,List.drop_eq_nil_of_le (show s.data.toList.length<=i by rw[aa];omega)];rfl
   clear hO;by_cases vO:65535<a
   ·have WA:(65535:Int)<(a:Int):=by omega
    have HR:Hid (Lz.ck u s.data.toList=.er 81):=by show _=_;rw[HU.out,HN.out,nw,if_pos vO]
    go_wp2_with fail
    go_ret;refine⟨_,rfl,Below.refl _ _,?_⟩;rw[HR.out];exact⟨_,rfl⟩
   ·have WA:¬(65535:Int)<(a:Int):=by omega
    by_cases he:s.data.toList=[]
    ·have g0:=aH he;have K7:s.toList.isEmpty=true:=ak (by rw[<-aa,he];rfl);have HR:Hid (Lz.ck u s.data.toList=.ok u):=by show _=_;rw[HU.out,HN.out,nw,if_neg vO,if_neg (fun h=>h.1 he)]
     clear he
     go_wp2_with fail
     go_ret;refine⟨_,rfl,Below.refl _ _,?_⟩;rw[HR.out];exact⟨rfl,wV.out⟩
    ·have g0:=aR he;have K7:s.toList.isEmpty=false:=aj (by rw[<-aa];exact List.length_pos_iff.2 he);by_cases hd:(a:Int)=d
     ·have Lu:((a:Int) != d)=false:=by simp[hd]
      have HR:Hid (Lz.ck u s.data.toList=.ok u):=by show _=_;rw[HU.out,HN.out,nw,if_neg vO,if_neg (fun h=>h.2 hd)]
      clear he hd
      go_wp2_with fail
      refine(cD.out _).mono ?_;rintro e w1 ⟨rfl,rfl⟩
      go_wp2_with fail
      go_ret;refine⟨_,rfl,Below.refl _ _,?_⟩;rw[HR.out];exact⟨rfl,wV.out⟩
     ·have Lu:((a:Int) != d)=true:=by simp[hd]
      have HR:Hid (Lz.ck u s.data.toList=.ok {u with port:=a}):=by show _=_;rw[HU.out,HN.out,nw,if_neg vO,if_pos ⟨he,hd⟩]
      clear he hd
      go_wp2_with fail
      refine(cD.out _).mono ?_;rintro e w1 ⟨rfl,rfl⟩
      go_wp2_with fail
      go_ret;refine⟨_,rfl,(Below.refl _ _).setCell (p:=⟨M,5,none⟩) ow _,?_⟩;rw[HR.out];exact⟨rfl,lL.out a⟩
def P7 (B M:Nat) (goal:Lz.UR) (L:Nat) (w:World) (s1:Value) (wx:World):Prop:=
 ∃(ab:ByteArray) (u:Lz.af),s1=.string ab/\Below B w wx/\ee B M wx u/\Hid (goal=Lz.dZ u ab.data.toList)/\ab.size<=L
def Ni (B M:Nat) (goal:Lz.UR) (L:Nat) (w:World) (s1 s9:Value) (wx:World):Prop:=
 ∃(ab pb:ByteArray) (u:Lz.af),s1=.string ab/\s9=.string pb/\Below B w wx/\ee B M wx u/\Hid (goal=if ab.data.toList=[]/\Lz.ae u.scheme=true then .er 70 else(Lz.bQ u ab.data.toList).bind fun v=>Lz.ck v pb.data.toList)/\ab.size<=L/\pb.size<=L
theorem UC {B M:Nat} {w w1:World} {u:Lz.af} (hm:ee B M w1 u) (hb:Below B w w1) (ub pb:ByteArray) (l:List UInt8) (hu:ub.data.toList=Lz.ah (Lz.bc 5) (Lib.cut l [58]).1) (hp:pb.data.toList=Lz.ah (Lz.bc 5) (Lib.cut l [58]).2.1):
  Below B w ((w1.setCell ⟨M,1,none⟩ (.string ub)).setCell ⟨M,2,none⟩ (.string pb))/\ee B M ((w1.setCell ⟨M,1,none⟩ (.string ub)).setCell ⟨M,2,none⟩ (.string pb)) (Lz.Cu u l):=by
 obtain⟨sch,usr,pas,hh,hst,prt,opq,a,c,xs,hq,hf,qry,frg,hk,rfl,hc,aO⟩:=hm.form;have m1:=eW hk 1 (.string ub) ⟨sch,ub,pas,hh,hst,prt,opq,.slice a xs.length c,xs,hq,hf,qry,frg⟩ (Lz.ae sch.data.toList) (cm (Lz.ae sch.data.toList)) (by simp) (fun _ h=>h);have m2:=eW m1 2 (.string pb) ⟨sch,ub,pb,hh,hst,prt,opq,.slice a xs.length c,xs,hq,hf,qry,frg⟩ (Lz.ae sch.data.toList) (cm (Lz.ae sch.data.toList)) (by simp) (fun _ h=>h);refine⟨(hb.setCell (p:=⟨M,1,none⟩) hk.le _).setCell (p:=⟨M,2,none⟩) hk.le _,_,m2,Ih ?_⟩;unfold Lz.Cu;rw[<-hu,<-hp];rfl
theorem vt {s:List UInt8} {i:Nat} (h:Lz.jE s=some i):Lz.cz s=some (s.take i,s.drop (i+1))/\i<s.length:=by
 unfold Lz.jE at h;rw[Option.map_eq_some_iff]at h;obtain⟨⟨x,y⟩,h1,h2⟩:=h;have hl:=Lz.oF h1
 have hs:∀{s x y:List UInt8},Lz.cz s=some (x,y)->s=x++64::y:=by
  intro s
  induction s with
  | nil=>intro x y h;cases h
  | cons c r ih=>
    intro x y h;rw[Lz.cz]at h;cases hr:Lz.cz r with
    | some z=>
      obtain⟨x',y'⟩:=z;rw[hr]at h;simp only[Option.some.injEq,Prod.mk.injEq]at h;rw[<-h.1,<-h.2,ih hr];rfl
    | none=>
      rw[hr]at h;simp only at h;split at h
      ·rename_i hc;simp only[Option.some.injEq,Prod.mk.injEq]at h;rw[<-h.1,<-h.2,show c=64 by simpa using hc];rfl
      ·cases h
 have he:=hs h1;simp only at h2;subst h2;refine⟨?_,by omega⟩;rw[h1];congr 1;rw[he]
 simp
theorem N6 {s:List UInt8} (h:Lz.jE s=none):Lz.cz s=none:=by
 unfold Lz.jE at h;rw[Option.map_eq_none_iff]at h;exact h
theorem E9 {u:Lz.af} {s:List UInt8} (h:Lz.jE s=none):Lz.gB u s=Lz.dZ u s:=by unfold Lz.gB;rw[N6 h]
theorem EX {u:Lz.af} {s:List UInt8} {i:Nat} (h:Lz.jE s=some i):Lz.gB u s=if s.drop (i+1)=[]then .er 70 else Lz.dZ (Lz.Cu u (s.take i)) (s.drop (i+1)):=by unfold Lz.gB;rw[(vt h).1]
theorem AS {u:Lz.af} {s:List UInt8} (h:Lz.cW false s=none):Lz.dZ u s=if s=[]/\Lz.ae u.scheme=true then .er 70 else(Lz.bQ u s).bind fun v=>Lz.ck v []:=by unfold Lz.dZ;rw[h]
theorem AU {u:Lz.af} {s:List UInt8} {i:Nat} (h:Lz.cW false s=some i):Lz.dZ u s=if s.take i=[]then .er 70 else(Lz.bQ u (s.take i)).bind fun v=>Lz.ck v (s.drop (i+1)):=by unfold Lz.dZ;rw[h]
theorem ya:∀{b:Bool} {s:List UInt8} {i:Nat},Lz.cW b s=some i->i<s.length
 | _,[],_,h=>by cases h
 | b,c::r,i,h=>by
   rw[Lz.cW]at h
   have key:∀b' k,(Lz.cW b' r).map (·+1)=some k->k<(c::r).length:=by
    intro b' k hk;rw[Option.map_eq_some_iff]at hk;obtain⟨m,hm,rfl⟩:=hk;have:=ya hm
    simp;omega
   split at h
   ·exact key _ _ h
   ·split at h
    ·exact key _ _ h
    ·split at h
     ·injection h with h;subst h;simp
     ·exact key _ _ h
theorem Kf (B M:Nat) (u:Lz.af) (s:ByteArray) (hs:s.size<=900000) (w:World) (hE:de w) (hm:ee B M w u) (hB:B<=w.heap.size) (rA:11<=B):
  Calls Tryz.prog 181 #[.pointer (some ⟨M,0,none⟩),.string s] w (E8 B M (Lz.gB u s.data.toList) w):=by
 obtain⟨goal,eQ⟩:∃goal,goal=Lz.gB u s.data.toList:=⟨_,rfl⟩;rw[<-eQ];have nl:=Ih eQ;have HE:=Ih hE;have Hm:=Ih hm;have cL:=Ih (fun W=>Mo s (by omega) W);obtain⟨o,ho⟩:∃o,o=Lz.jE s.data.toList:=⟨_,rfl⟩;rw[<-ho]at cL;obtain⟨oi,hoi⟩:∃oi,oi=l3 o:=⟨_,rfl⟩;rw[<-hoi]at cL;have Ho:=Ih ho;have Hoi:=Ih hoi;clear eQ hE hm ho hoi;go_enter Tryz.func181,Tryz.ntmps181
 go_wp2_with fail
 refine(cL.out _).mono ?_;rintro e w1 ⟨rfl,rfl⟩
 go_upto_if 15 with fail
 go_cut [1] (fun s1 wx=>P7 B M goal s.size w s1 wx)
 case first=>
  cases o with
  | none=>
    obtain rfl:oi= -1:=Hoi.out;have HG:Hid (goal=Lz.dZ u s.data.toList):=by show _=_;rw[nl.out,E9 Ho.out.symm]
    go_wp2_with fail
    go_meet;exact⟨s,u,rfl,Below.refl _ _,Hm.out,HG,Nat.le_refl _⟩
  | some i=>
    obtain rfl:oi=(i:Int):=Hoi.out;have sF:i<s.size:=by rw[<-aa];exact(vt Ho.out.symm).2
    have HG:Hid (goal=if s.data.toList.drop (i+1)=[]then .er 70 else Lz.dZ (Lz.Cu u (s.data.toList.take i)) (s.data.toList.drop (i+1))):=by show _=_;rw[nl.out,EX Ho.out.symm]
    have nP:(0:Int)<=(i:Int):=by omega
    have Lj:(i:Int)<=(s.size:Int):=by omega
    have Zn:(0:Int)<=(i:Int)+1:=by omega
    have hi3:(i:Int)+1<=(s.size:Int):=by omega
    have hi4:((i:Int)+1).toNat=i+1:=by omega
    have iW:IntKind.i64.wrap ((i:Int)+1)=(i:Int)+1:=IntWalk.i64_in _ (by omega);have fF:=aJ s 0 i;have cC:=Ih (C7 (s.extract 0 i) ⟨#[58]⟩ (by omega) w HE.out)
    go_wp2_with fail
    refine cC.out.mono ?_;rintro e w1 ⟨ub,pb,rfl,W6,vY,aC⟩;have qA:=Lz.lk 58 (s.extract 0 i).data.toList;rw[show([58]:List UInt8)=(⟨#[58]⟩:ByteArray).data.toList from rfl,<-W6.out,<-vY.out,aa,aa,aa]at qA;have Wo:=Ih (eR 5 (by decide) ub (by omega) w1)
    go_wp2_with fail
    refine Wo.out.mono ?_;rintro e w2 ⟨ue,rfl,hue,aU⟩;have RW:=Ih (eR 5 (by decide) pb (by omega) w2)
    go_wp2_with fail
    refine RW.out.mono ?_;rintro e w3 ⟨pe,rfl,hpe,cq⟩;have rI:=ac (ac aC aU) cq;have oV:=Hm.out.below rI;obtain⟨ex,FQ⟩:=UC oV (rI.mono hB) ue pe (s.data.toList.take i) (by rw[hue.out,W6.out,dC];rfl) (by rw[hpe.out,vY.out,dC];rfl);obtain⟨sch,usr,pas,hh,hst,prt,opq,a,c,xs,hq,hf,qry,frg,hk,lX,hc,aO⟩:=oV.form;have c1:=rowAt hk.row 1 (.string usr) rfl;have f1:=bP hk.row 1;have c2:=rowAt hk.row 2 (.string pas) rfl;have f2:=bP hk.row 2;have KB:(s.extract (i+1) s.size).data.toList=s.data.toList.drop (i+1):=aP s (i+1);by_cases he:s.data.toList.drop (i+1)=[]
    ·have K7:(s.extract (i+1) s.size).toList.isEmpty=true:=ak (by rw[<-aa,KB,he];rfl);have kQ:Hid (goal=.er 70):=by show _=_;rw[HG.out,if_pos he]
     clear lX aO hk qA W6 vY hue hpe he KB
     go_wp2_with fail
     go_ret;refine⟨_,rfl,ex,?_⟩;rw[kQ.out];exact⟨_,rfl⟩
    ·have K7:(s.extract (i+1) s.size).toList.isEmpty=false:=aj (by rw[<-aa,KB];exact List.length_pos_iff.2 he);have kQ:Hid (goal=Lz.dZ (Lz.Cu u (s.data.toList.take i)) (s.extract (i+1) s.size).data.toList):=by show _=_;rw[HG.out,if_neg he,KB]
     have vR:=aJ s (i+1) s.size;clear lX aO hk qA W6 vY hue hpe he KB
     go_wp2_with fail
     go_meet;exact⟨_,_,rfl,ex,FQ,kQ,vR⟩
 case rest=>
  obtain⟨ab,u1,rfl,bi,vG,hG,jQ⟩:=hcut;have hEc:=HE.out.at bi rA;have hBc:B<=wc.heap.size:=Nat.le_trans hB bi.size;have cN:=Ih (fun W=>Jq ab (by omega) W);obtain⟨o2,sB⟩:∃o2,o2=Lz.cW false ab.data.toList:=⟨_,rfl⟩;rw[<-sB]at cN;obtain⟨oi2,WD⟩:∃oi2,oi2=l3 o2:=⟨_,rfl⟩;rw[<-WD]at cN;have Xt:=Ih sB;have V6:=Ih WD;clear sB cL WD Hoi
  go_wp2_with fail
  refine(cN.out _).mono ?_;rintro e w2 ⟨rfl,rfl⟩
  go_upto_if 48 with fail
  go_cut [1,9] (fun s1 s9 wx=>Ni B M goal s.size w s1 s9 wx)
  case first=>
   cases o2 with
   | none=>
     obtain rfl:oi2= -1:=V6.out;have HG:Hid (goal=if ab.data.toList=[]/\Lz.ae u1.scheme=true then .er 70 else(Lz.bQ u1 ab.data.toList).bind fun v=>Lz.ck v (⟨#[]⟩:ByteArray).data.toList):=by show _=_;rw[hG.out,AS Xt.out.symm]
     go_wp2_with fail
     go_meet;exact⟨ab,⟨#[]⟩,u1,rfl,rfl,bi,vG,HG,jQ,Nat.zero_le _⟩
   | some i=>
     obtain rfl:oi2=(i:Int):=V6.out;have sF:i<ab.size:=by rw[<-aa];exact ya Xt.out.symm
     have HG:Hid (goal=if ab.data.toList.take i=[]then .er 70 else(Lz.bQ u1 (ab.data.toList.take i)).bind fun v=>Lz.ck v (ab.data.toList.drop (i+1))):=by show _=_;rw[hG.out,AU Xt.out.symm]
     have nP:(0:Int)<=(i:Int):=by omega
     have Lj:(i:Int)<=(ab.size:Int):=by omega
     have Zn:(0:Int)<=(i:Int)+1:=by omega
     have hi3:(i:Int)+1<=(ab.size:Int):=by omega
     have hi4:((i:Int)+1).toNat=i+1:=by omega
     have iW:IntKind.i64.wrap ((i:Int)+1)=(i:Int)+1:=IntWalk.i64_in _ (by omega);have fF:=aJ ab 0 i;have sS:=aJ ab (i+1) ab.size;have Dy:(ab.extract 0 i).data.toList=ab.data.toList.take i:=dC ab i;have KB:(ab.extract (i+1) ab.size).data.toList=ab.data.toList.drop (i+1):=aP ab (i+1);by_cases he:ab.data.toList.take i=[]
     ·have K7:(ab.extract 0 i).toList.isEmpty=true:=ak (by rw[<-aa,Dy,he];rfl);have kQ:Hid (goal=.er 70):=by show _=_;rw[HG.out,if_pos he]
      clear he Dy KB
      go_wp2_with fail
      go_quiet (fail)
      have ex:Below B w (wc.drewN nq):=below_drewN bi nq;generalize wc.drewN nq=wa at ex⊢
      go_wp2_with fail
      go_ret;refine⟨_,rfl,ex,?_⟩;rw[kQ.out];exact⟨_,rfl⟩
     ·have K7:(ab.extract 0 i).toList.isEmpty=false:=aj (by rw[<-aa,Dy];exact List.length_pos_iff.2 he)
      have kQ:Hid (goal=if(ab.extract 0 i).data.toList=[]/\Lz.ae u1.scheme=true then .er 70 else(Lz.bQ u1 (ab.extract 0 i).data.toList).bind fun v=>Lz.ck v (ab.extract (i+1) ab.size).data.toList):=by
       show _=_;rw[HG.out,if_neg he,if_neg (fun h=>he (by rw[<-Dy];exact h.1)),Dy,KB]
      clear he Dy KB
      go_wp2_with fail
      go_quiet (fail)
      have ex:Below B w (wc.drewN nq):=below_drewN bi nq;have FQ:ee B M (wc.drewN nq) u1:=vG.below (below_drewN (Below.refl _ wc) nq);generalize wc.drewN nq=wa at ex FQ⊢
      go_wp2_with fail
      go_meet;exact⟨_,_,u1,rfl,rfl,ex,FQ,kQ,by omega,by omega⟩
  case rest=>
   clear cN V6 hG jQ vG bi hEc hBc;obtain⟨ab,pb,u2,rfl,rfl,bi,rF,hG,jQ,Pj⟩:=hcut;have hEc:=HE.out.at bi rA;have hBc:B<=wc.heap.size:=Nat.le_trans hB bi.size;obtain⟨sch,usr,pas,hh,hst,prt,opq,a,c,xs,hq,hf,qry,frg,hk,lX,hc,aO⟩:=rF.form;have jn:u2.scheme=sch.data.toList:=by rw[lX]
   have c12:=rowAt hk.row 12 (.bool (Lz.ae sch.data.toList)) rfl;have KO:Hid (goal=if ab.data.toList=[]/\Lz.ae sch.data.toList=true then .er 70 else(Lz.bQ u2 ab.data.toList).bind fun v=>Lz.ck v pb.data.toList):=by show _=_;rw[hG.out,jn]
   generalize Lz.ae sch.data.toList=sp at KO c12;clear lX hk aO jn hG;have cH:=Ih (yb B M u2 ab (by omega) wc hEc rF hBc)
   have nj:Hid ((goal=(Lz.bQ u2 ab.data.toList).bind fun v=>Lz.ck v pb.data.toList))\/(ab.data.toList=[]/\sp=true):=by
    by_cases h:ab.data.toList=[]/\sp=true
    ·exact .inr h
    ·exact .inl (Ih (by rw[KO.out,if_neg h]))
   by_cases he:ab.data.toList=[]
   ·have K7:ab.toList.isEmpty=true:=ak (by rw[<-aa,he];rfl);cases sp with
    | true=>
      have DO:Hid (goal=.er 70):=by show _=_;rw[KO.out,if_pos ⟨he,rfl⟩]
      clear he nj
      go_wp2_with fail
      go_ret;refine⟨_,rfl,bi,?_⟩;rw[DO.out];exact⟨_,rfl⟩
    | false=>
      have DO:Hid (goal=(Lz.bQ u2 ab.data.toList).bind fun v=>Lz.ck v pb.data.toList):=nj.resolve_right (fun h=>by cases h.2);clear he nj
      go_wp2_with fail
      refine cH.out.mono ?_;rintro e w3 ⟨v,rfl,cq,bt⟩;have l5:=bi.trans cq;generalize Lz.bQ u2 ab.data.toList=r at bt DO;cases r with
      | er n=>
        obtain⟨p,rfl⟩:=bt
        go_wp2_with fail
        go_ret;refine⟨_,rfl,l5,?_⟩;rw[DO.out];exact⟨p,rfl⟩
      | ok u3=>
        obtain⟨rfl,oV⟩:=bt;have cP:=Ih (yq B M u3 pb (by omega) w3 oV);have HG4:Hid (goal=Lz.ck u3 pb.data.toList):=Ih DO.out
        go_wp2_with fail
        refine cP.out.mono ?_;rintro e w4 ⟨v,rfl,ex,bt⟩
        go_wp2_with fail
        go_ret;refine⟨v,rfl,l5.trans ex,?_⟩;rw[HG4.out];exact bt
   ·have K7:ab.toList.isEmpty=false:=aj (by rw[<-aa];exact List.length_pos_iff.2 he);have DO:Hid (goal=(Lz.bQ u2 ab.data.toList).bind fun v=>Lz.ck v pb.data.toList):=nj.resolve_right (fun h=>he h.1);clear he nj
    go_wp2_with fail
    refine cH.out.mono ?_;rintro e w3 ⟨v,rfl,cq,bt⟩;have l5:=bi.trans cq;generalize Lz.bQ u2 ab.data.toList=r at bt DO;cases r with
    | er n=>
      obtain⟨p,rfl⟩:=bt
      go_wp2_with fail
      go_ret;refine⟨_,rfl,l5,?_⟩;rw[DO.out];exact⟨p,rfl⟩
    | ok u3=>
      obtain⟨rfl,oV⟩:=bt;have cP:=Ih (yq B M u3 pb (by omega) w3 oV);have HG4:Hid (goal=Lz.ck u3 pb.data.toList):=Ih DO.out
      go_wp2_with fail
      refine cP.out.mono ?_;rintro e w4 ⟨v,rfl,ex,bt⟩
      go_wp2_with fail
      go_ret;refine⟨v,rfl,l5.trans ex,?_⟩;rw[HG4.out];exact bt
end Go.Proofs.YtlcbhacofagedaaGreatDoor
