/-
  Package urls: authority, hosted.
-/
import Derived.Test.YtecoeebjaleeiaaGreatDoorJ20
import Derived.Test.YtecoeebjaleeiaaGreatDoorJ14
set_option maxHeartbeats 2000000
set_option maxRecDepth 100000
namespace Lz
open Go
theorem BZ {s:Bs} {j:Nat} (hj:s[j]? =some 64) (h:∀k,j<k->s[k]? ≠some 64):eQ s=some (s.take j,s.drop (j+1)):=by
 have hl:=(List.getElem?_eq_some_iff.1 hj).1;have he:=(List.getElem?_eq_some_iff.1 hj).2
 have h1:s=s.take j++64::s.drop (j+1):=by
  rw[<-he,<-List.drop_eq_getElem_cons hl,List.take_append_drop]
 have h2:(64:UInt8)∉s.drop (j+1):=by
  intro hm;obtain⟨k,hk⟩:=List.mem_iff_getElem?.1 hm;rw[List.getElem?_drop]at hk;exact h _ (by omega) hk
 have:=zK (s.take j) h2;rw[<-h1]at this;exact this
theorem Dv {s:Bs} (h:∀k:Nat,s[k]? ≠some 64):eQ s=none:=tr fun hm=>by
 obtain⟨k,hk⟩:=List.mem_iff_getElem?.1 hm;exact h k hk
def kQ (s:Bs):Option Nat:=(eQ s).map fun z=>z.1.length
theorem EN {s:Bs} {j:Nat} (hj:s[j]? =some 64) (h:∀k,j<k->s[k]? ≠some 64):kQ s=some j:=by
 have hl:=(List.getElem?_eq_some_iff.1 hj).1;rw[kQ,BZ hj h]
 simp;omega
theorem FR {s:Bs} (h:∀k:Nat,s[k]? ≠some 64):kQ s=none:=by rw[kQ,Dv h];rfl
end Lz
namespace Go.Proofs.YtecoeebjaleeiaaGreatDoor
open Go.RowKit
theorem D5 (s:ByteArray) (hs:s.size<=1000000000) (w:World):Calls Tryz.prog 170 #[.string s,.int .u8 64] w fun e w'=>e=.returned (.int .i64 (nS (Lz.kQ s.data.toList)))/\w=w':=by
 obtain⟨o,ho⟩:∃o,o=nS (Lz.kQ s.data.toList):=⟨_,rfl⟩;have Ho:=Ih ho;rw[<-ho];clear ho;go_enter Tryz.func170,Tryz.ntmps170
 go_wp2_with fail
 go_loopw [5] (fun i wr=>∃j:Nat,i=.int .i64 ((j:Int)-1)/\j<=s.size/\Hid (∀k,j<=k->s.data.toList[k]? ≠some 64)/\w=wr) (fun i _=>(intOf i+1).toNat)
 case atStart=>exact⟨s.size,by go_num,Nat.le_refl _,Ih (fun k hk h=>by have:=(List.getElem?_eq_some_iff.1 h).1;rw[aa]at this;omega),rfl⟩
 case round=>
  obtain⟨j,rfl,hj,hN,rfl⟩:=hrel;cases j with
  | zero=>
    have HN:Hid (o= -1):=by show _=_;rw[Ho.out,Lz.FR fun k=>hN.out k (Nat.zero_le _)];rfl
    have h0:¬((0:Int)<=((0:Nat):Int)-1):=by omega
    go_wp2_with fail
    go_ret;rw[HN.out];exact⟨rfl,rfl⟩
  | succ m=>
    have hm:m<s.size:=by omega
    have hmI:(m:Int)<(s.size:Int):=by omega
    have jT:((m+1:Nat):Int)-1=(m:Int):=by omega
    have jy:(m:Int)+1-1=(m:Int):=by omega
    have sx:(0:Int)<=(m:Int):=by omega
    obtain⟨c,hc⟩:∃c,c=s[m]:=⟨_,rfl⟩;have TH:(s[m].toNat:Int)=(c.toNat:Int):=by rw[hc]
    have qg:s.data.toList[m]? =some c:=by rw[aB hm,hc]
    have b1:((c.toNat:Int)==64)=(c==64):=yR c 64;cases hq:(c==64)with
    | true=>
      rw[hq]at b1;have VY:c=64:=by simpa using hq
      have HN:Hid (o=(m:Int)):=by
       show _=_;rw[Ho.out,Lz.EN (j:=m) (by rw[qg,VY]) (fun k hk=>hN.out k (by omega))];rfl
      clear hc hq qg hN
      go_wp2_with fail
      go_ret;rw[HN.out,<-jT];exact⟨rfl,rfl⟩
    | false=>
      rw[hq]at b1;have VY:c≠64:=by simpa using hq
      have HN:Hid (∀k,m<=k->s.data.toList[k]? ≠some 64):=Ih (fun k hk h=>by
       rcases Nat.eq_or_lt_of_le hk with e|e
       ·rw[<-e,qg]at h;exact VY (Option.some.inj h)
       ·exact hN.out k e h)
      clear hc hq qg hN
      go_wp2_with fail
      go_roundw
      case rel=>exact⟨m,by go_num,by omega,HN,trivial⟩
      case measure=>simp[intOf]
theorem Nb (s:ByteArray) (hs:s.size<=1000000000) (w:World):Calls Tryz.prog 136 #[.string s,.int .u8 64] w fun e w'=>e=.returned (.int .i64 (nS (Lz.kQ s.data.toList)))/\w=w':=by
 have cL:=Ih (fun W=>D5 s hs W);generalize nS (Lz.kQ s.data.toList)=o at cL⊢;go_enter Tryz.func136,Tryz.ntmps136
 go_wp2_with fail
 refine(cL.out _).mono ?_;rintro e w1 ⟨rfl,rfl⟩
 go_wp2_with fail
 go_ret;exact⟨rfl,rfl⟩
def Gg (n:Nat) (v:Value):Prop:=∃p:ByteArray,v=.iface 105 (.agg #[.string p,.iface 33 (.int .i64 (n:Int))])
def SU (B M:Nat) (r:Lz.UR) (w:World) (v:Value):Prop:=match r with
 | .ok u=>v=.nilIface/\dS B M w u
 | .er n=>Gg n v
def Ei (B M:Nat) (r:Lz.UR) (w:World) (e:Ending) (w':World):Prop:=∃v,e=.returned v/\Below B w w'/\SU B M r w' v
theorem QC {s:List UInt8} {b:Bool} {n:Nat} (h:Lz.aN s b=.er n):n≠0/\70<=n/\n<=72:=by
 cases b with
 | true=>rcases Lz.lL s n h with h|h|h<;>omega
 | false=>rcases Lz.oL s n h with h|h<;>omega
theorem AH (B M:Nat) (u:Lz.ag) (s:ByteArray) (hs:s.size<=900000) (w:World) (hE:dQ w) (hm:dS B M w u) (hB:B<=w.heap.size):
  Calls Tryz.prog 96 #[.pointer (some ⟨M,0,none⟩),.string s] w (Ei B M (Lz.eI u s.data.toList) w):=by
 obtain⟨sch,usr,pas,hh,hst,prt,opq,a,c,xs,hq,hf,qry,frg,hk,lq,hc,aA⟩:=hm.form;have uH:u.scheme=sch.data.toList:=by rw[lq]
 have c12:=rowAt hk.row 12 (.bool (Lz.ai sch.data.toList)) rfl;have cP:=wQ s (Lz.ai sch.data.toList) hs (fun _ _=>OB s (by omega)) w hE
 have hU:Lz.eI u s.data.toList=(match Lz.aN s.data.toList (Lz.ai sch.data.toList)with| .er n=>.er n| .ok h=>.ok {u with host:=h,hasHost:=true}):=by
  unfold Lz.eI;rw[uH];cases Lz.aN s.data.toList (Lz.ai sch.data.toList)<;>rfl
 have Yy:∀n,Lz.aN s.data.toList (Lz.ai sch.data.toList)=.er n->n≠0:=fun n h=>(QC h).1;generalize Lz.aN s.data.toList (Lz.ai sch.data.toList)=r at cP hU Yy;rw[hU];have CP:=Ih cP;clear cP hU;cases r with
 | ok h=>
   go_enter Tryz.func96,Tryz.ntmps96
   go_wp2_with fail
   refine CP.out.mono ?_;rintro e w1 ⟨hb,rfl,TA,ar⟩;have zo:=hk.below ar;have c4:=rowAt zo.row 4 (.string hst) rfl;have f4:=bE zo.row 4;have m1:=dG zo 4 (.string hb) ⟨sch,usr,pas,hh,hb,prt,opq,.slice a xs.length c,xs,hq,hf,qry,frg⟩ (Lz.ai sch.data.toList) (bp (Lz.ai sch.data.toList)) (by simp) (fun _ h=>h);have c3:=rowAt m1.row 3 (.bool hh) rfl;have f3:=bE m1.row 3;have m2:=dG m1 3 (.bool true) ⟨sch,usr,pas,true,hb,prt,opq,.slice a xs.length c,xs,hq,hf,qry,frg⟩ (Lz.ai sch.data.toList) (bp (Lz.ai sch.data.toList)) (by simp) (fun _ h=>h);have pA:Below B w ((w1.setCell ⟨M,4,none⟩ (.string hb)).setCell ⟨M,3,none⟩ (.bool true)):=((ar.mono hB).setCell (p:=⟨M,4,none⟩) hk.le _).setCell (p:=⟨M,3,none⟩) hk.le _
   have HF:Hid (dS B M ((w1.setCell ⟨M,4,none⟩ (.string hb)).setCell ⟨M,3,none⟩ (.bool true)) {u with host:=h,hasHost:=true}):=by
    refine⟨_,m2,Ih ?_⟩;rw[lq,<-show _=h from TA.out];rfl
   have HB:=Ih pA;have e0:((resE (.ok h):Nat):Int)=0:=rfl;clear m1 m2 pA hm hk TA
   go_wp2_with fail
   go_ret;exact⟨_,rfl,HB.out,rfl,HF.out⟩
 | er n=>
   have hn:=Yy n rfl;have yd:(((n:Nat):Int) != 0)=true:=by simp;omega
   have hrE:((resE (.er n):Nat):Int)=(n:Int):=rfl;go_enter Tryz.func96,Tryz.ntmps96
   go_wp2_with fail
   refine CP.out.mono ?_;rintro e w1 ⟨hb,rfl,TA,ar⟩;have pA:=ar.mono hB;clear TA
   go_wp2_with fail
   go_ret;exact⟨_,rfl,pA,_,rfl⟩
theorem Ng:∀c:UInt8,Lz.bj c=true->48<=c.toNat/\c.toNat<=57:=Lz.aJ (by decide +kernel)
def pt (u:Lz.ag) (s:List UInt8) (d:Int):Option Nat->Lz.UR
 | none=>.er 81
 | some n=>if 65535<n then .er 81 else .ok (if s≠[]/\(n:Int)≠d then{u with port:=n} else u)
theorem JW (u:Lz.ag) (s:List UInt8):Lz.ey u s=pt u s (Lz.gI u.scheme) (Lz.lx 0 s):=by
 unfold Lz.ey;cases Lz.lx 0 s<;>rfl
theorem Hw (a:Nat) (c:UInt8) (r:List UInt8):Lz.lx a (c::r)=if Lz.bj c then Lz.lx (min (10*a+(c.toNat-48)) 1048576) r else none:=rfl
theorem Ac (B M:Nat) (u:Lz.ag) (s:ByteArray) (hs:s.size<=1000000000) (w:World) (hm:dS B M w u):
  Calls Tryz.prog 138 #[.pointer (some ⟨M,0,none⟩),.string s] w (Ei B M (Lz.ey u s.data.toList) w):=by
 have sx:=Ih hm;obtain⟨sch,usr,pas,hh,hst,prt,opq,a,c,xs,hq,hf,qry,frg,hk,lq,hc,aA⟩:=hm.form;have uH:u.scheme=sch.data.toList:=by rw[lq]
 have c0:=rowAt hk.row 0 (.string sch) rfl;have c5:=rowAt hk.row 5 (.int .i64 prt) rfl;have f5:=bE hk.row 5
 have lj:Hid (∀n:Nat,dS B M (w.setCell ⟨M,5,none⟩ (.int .i64 n)) {u with port:=n}):=Ih (fun n=>by
  have m1:=dG hk 5 (.int .i64 n) ⟨sch,usr,pas,hh,hst,n,opq,.slice a xs.length c,xs,hq,hf,qry,frg⟩ (Lz.ai sch.data.toList) (bp (Lz.ai sch.data.toList)) (by simp) (fun _ h=>h);refine⟨_,m1,Ih ?_⟩;rw[lq];rfl)
 have pI:=hk.le;obtain⟨o,ho⟩:∃o,o=Lz.lx 0 s.data.toList:=⟨_,rfl⟩
 have HU:Hid (Lz.ey u s.data.toList=pt u s.data.toList (Lz.gI sch.data.toList) o):=by
  show _=_;rw[JW,ho,uH]
 have Ho:=Ih ho;have cD:=Ih (fun W=>fu sch W);obtain⟨d,hd⟩:∃d,d=Lz.gI sch.data.toList:=⟨_,rfl⟩;rw[<-hd]at cD HU;clear ho hm lq hk aA uH hc hd;go_enter Tryz.func138,Tryz.ntmps138
 go_wp2_with fail
 go_loopw [5,9] (fun n j wr=>∃a i:Nat,n=.int .i64 a/\j=.int .i64 i/\i<=s.size/\a<=1048576/\Hid (o=Lz.lx a (s.data.toList.drop i))/\w=wr) (fun _ j _=>s.size-(intOf j).toNat)
 case atStart=>exact⟨0,0,rfl,rfl,Nat.zero_le _,by omega,Ih (by rw[Ho.out,List.drop_zero]),rfl⟩
 case round=>
  obtain⟨a,i,rfl,rfl,hi,ha,hO,rfl⟩:=hrel;by_cases aV:i<s.size
  ·have bW:(i:Int)<(s.size:Int):=by omega
   have o9:(0:Int)<=(i:Int):=by omega
   obtain⟨c,hc⟩:∃c,c=s[i]:=⟨_,rfl⟩;have TH:(s[i].toNat:Int)=(c.toNat:Int):=by rw[hc]
   have hst:Hid (o=if Lz.bj c then Lz.lx (min (10*a+(c.toNat-48)) 1048576) (s.data.toList.drop (i+1))else none):=by
    show _=_;rw[hO.out,List.drop_eq_getElem_cons (show i<s.data.toList.length from aV),Hw,hc];rfl
   have cA:=mb c w;cases Z2:Lz.bj c with
   | false=>
     rw[Z2]at cA hst;have HN:Hid (o=none):=Ih hst.out;have CA:=Ih cA;clear cA Z2 hO hst hc
     go_wp2_with fail
     refine CA.out.mono ?_;rintro e w1 ⟨rfl,rfl⟩
     go_wp2_with fail
     go_ret;refine⟨_,rfl,Below.refl _ _,?_⟩;rw[HU.out,HN.out];exact⟨_,rfl⟩
   | true=>
     obtain⟨iD,su⟩:=Ng c Z2;rw[Z2]at cA hst;obtain⟨x,hx⟩:∃x,x=c.toNat-48:=⟨_,rfl⟩;have O8:(c.toNat:Int)-48=(x:Int):=by omega
     have X6:x<=9:=by omega
     have fh:Hid (o=Lz.lx (min (10*a+x) 1048576) (s.data.toList.drop (i+1))):=by
      show _=_;rw[hst.out,if_pos rfl,hx]
     have hxw:IntKind.u8.wrap (x:Int)=(x:Int):=IntWalk.u8_in _ (by omega);have ac5:IntKind.i64.wrap (x:Int)=(x:Int):=IntWalk.i64_in _ (by omega);have CA:=Ih cA;clear cA Z2 hO hst hc hx iD su;rcases Nat.lt_or_ge (10*a+x) 1048576 with hmn|hmn
     ·have hmI:10*(a:Int)+(x:Int)<1048576:=by omega
      have ab0:10*(a:Int)+(x:Int)<=1048576:=by omega
      have HN:Hid (o=Lz.lx (10*a+x) (s.data.toList.drop (i+1))):=by show _=_;rw[fh.out,Nat.min_eq_left (by omega)]
      go_wp2_with fail
      refine CA.out.mono ?_;rintro e w1 ⟨rfl,rfl⟩
      go_wp2_with fail
      go_roundw
      case rel=>exact⟨10*a+x,i+1,by go_num,by go_num,by omega,by omega,HN,trivial⟩
      case measure=>simp[intOf];omega
     ·have hmI:¬(10*(a:Int)+(x:Int)<1048576):=by omega
      have ab0:(1048576:Int)<=10*(a:Int)+(x:Int):=by omega
      have HN:Hid (o=Lz.lx 1048576 (s.data.toList.drop (i+1))):=by show _=_;rw[fh.out,Nat.min_eq_right (by omega)]
      go_wp2_with fail
      refine CA.out.mono ?_;rintro e w1 ⟨rfl,rfl⟩
      go_wp2_with fail
      go_roundw
      case rel=>exact⟨1048576,i+1,by go_num,by go_num,by omega,by omega,HN,trivial⟩
      case measure=>simp[intOf];omega
  ·have bW:¬(i:Int)<(s.size:Int):=by omega
   have HN:Hid (o=some a):=by
    show _=_;rw[hO.out,List.drop_eq_nil_of_le (show s.data.toList.length<=i by rw[aa];omega)];rfl
   clear hO;by_cases yw:65535<a
   ·have haI:(65535:Int)<(a:Int):=by omega
    have HR:Hid (Lz.ey u s.data.toList=.er 81):=by show _=_;rw[HU.out,HN.out,pt,if_pos yw]
    go_wp2_with fail
    go_ret;refine⟨_,rfl,Below.refl _ _,?_⟩;rw[HR.out];exact⟨_,rfl⟩
   ·have haI:¬(65535:Int)<(a:Int):=by omega
    by_cases he:s.data.toList=[]
    ·have g0:=bg he;have Fv:s.toList.isEmpty=true:=aq (by rw[<-aa,he];rfl);have HR:Hid (Lz.ey u s.data.toList=.ok u):=by show _=_;rw[HU.out,HN.out,pt,if_neg yw,if_neg (fun h=>h.1 he)]
     clear he
     go_wp2_with fail
     go_ret;refine⟨_,rfl,Below.refl _ _,?_⟩;rw[HR.out];exact⟨rfl,sx.out⟩
    ·have g0:=bN he;have Fv:s.toList.isEmpty=false:=an (by rw[<-aa];exact List.length_pos_iff.2 he);by_cases hd:(a:Int)=d
     ·have Qd:((a:Int) != d)=false:=by simp[hd]
      have HR:Hid (Lz.ey u s.data.toList=.ok u):=by show _=_;rw[HU.out,HN.out,pt,if_neg yw,if_neg (fun h=>h.2 hd)]
      clear he hd
      go_wp2_with fail
      refine(cD.out _).mono ?_;rintro e w1 ⟨rfl,rfl⟩
      go_wp2_with fail
      go_ret;refine⟨_,rfl,Below.refl _ _,?_⟩;rw[HR.out];exact⟨rfl,sx.out⟩
     ·have Qd:((a:Int) != d)=true:=by simp[hd]
      have HR:Hid (Lz.ey u s.data.toList=.ok {u with port:=a}):=by show _=_;rw[HU.out,HN.out,pt,if_neg yw,if_pos ⟨he,hd⟩]
      clear he hd
      go_wp2_with fail
      refine(cD.out _).mono ?_;rintro e w1 ⟨rfl,rfl⟩
      go_wp2_with fail
      go_ret;refine⟨_,rfl,(Below.refl _ _).setCell (p:=⟨M,5,none⟩) pI _,?_⟩;rw[HR.out];exact⟨rfl,lj.out a⟩
def QU (B M:Nat) (goal:Lz.UR) (L:Nat) (w:World) (s1:Value) (wx:World):Prop:=
 ∃(ab:ByteArray) (u:Lz.ag),s1=.string ab/\Below B w wx/\dS B M wx u/\Hid (goal=Lz.eZ u ab.data.toList)/\ab.size<=L
def Nl (B M:Nat) (goal:Lz.UR) (L:Nat) (w:World) (s1 s9:Value) (wx:World):Prop:=
 ∃(ab pb:ByteArray) (u:Lz.ag),s1=.string ab/\s9=.string pb/\Below B w wx/\dS B M wx u/\Hid (goal=if ab.data.toList=[]/\Lz.ai u.scheme=true then .er 70 else(Lz.eI u ab.data.toList).bind fun v=>Lz.ey v pb.data.toList)/\ab.size<=L/\pb.size<=L
theorem Us {B M:Nat} {w w1:World} {u:Lz.ag} (hm:dS B M w1 u) (hb:Below B w w1) (ub pb:ByteArray) (l:List UInt8) (hu:ub.data.toList=Lz.aj (Lz.cm 5) (Lib.cut l [58]).1) (hp:pb.data.toList=Lz.aj (Lz.cm 5) (Lib.cut l [58]).2.1):
  Below B w ((w1.setCell ⟨M,1,none⟩ (.string ub)).setCell ⟨M,2,none⟩ (.string pb))/\dS B M ((w1.setCell ⟨M,1,none⟩ (.string ub)).setCell ⟨M,2,none⟩ (.string pb)) (Lz.CG u l):=by
 obtain⟨sch,usr,pas,hh,hst,prt,opq,a,c,xs,hq,hf,qry,frg,hk,rfl,hc,aA⟩:=hm.form;have m1:=dG hk 1 (.string ub) ⟨sch,ub,pas,hh,hst,prt,opq,.slice a xs.length c,xs,hq,hf,qry,frg⟩ (Lz.ai sch.data.toList) (bp (Lz.ai sch.data.toList)) (by simp) (fun _ h=>h);have m2:=dG m1 2 (.string pb) ⟨sch,ub,pb,hh,hst,prt,opq,.slice a xs.length c,xs,hq,hf,qry,frg⟩ (Lz.ai sch.data.toList) (bp (Lz.ai sch.data.toList)) (by simp) (fun _ h=>h);refine⟨(hb.setCell (p:=⟨M,1,none⟩) hk.le _).setCell (p:=⟨M,2,none⟩) hk.le _,_,m2,Ih ?_⟩;unfold Lz.CG;rw[<-hu,<-hp];rfl
theorem wL {s:List UInt8} {i:Nat} (h:Lz.kQ s=some i):Lz.eQ s=some (s.take i,s.drop (i+1))/\i<s.length:=by
 unfold Lz.kQ at h;rw[Option.map_eq_some_iff]at h;obtain⟨⟨x,y⟩,h1,h2⟩:=h;have hl:=Lz.qt h1
 have hs:∀{s x y:List UInt8},Lz.eQ s=some (x,y)->s=x++64::y:=by
  intro s
  induction s with
  | nil=>intro x y h;cases h
  | cons c r ih=>
    intro x y h;rw[Lz.eQ]at h;cases hr:Lz.eQ r with
    | some z=>
      obtain⟨x',y'⟩:=z;rw[hr]at h;simp only[Option.some.injEq,Prod.mk.injEq]at h;rw[<-h.1,<-h.2,ih hr];rfl
    | none=>
      rw[hr]at h;simp only at h;split at h
      ·rename_i hc;simp only[Option.some.injEq,Prod.mk.injEq]at h;rw[<-h.1,<-h.2,show c=64 by simpa using hc];rfl
      ·cases h
 have he:=hs h1;simp only at h2;subst h2;refine⟨?_,by omega⟩;rw[h1];congr 1;rw[he]
 simp
theorem M1 {s:List UInt8} (h:Lz.kQ s=none):Lz.eQ s=none:=by
 unfold Lz.kQ at h;rw[Option.map_eq_none_iff]at h;exact h
theorem FW {u:Lz.ag} {s:List UInt8} (h:Lz.kQ s=none):Lz.jj u s=Lz.eZ u s:=by unfold Lz.jj;rw[M1 h]
theorem H5 {u:Lz.ag} {s:List UInt8} {i:Nat} (h:Lz.kQ s=some i):Lz.jj u s=if s.drop (i+1)=[]then .er 70 else Lz.eZ (Lz.CG u (s.take i)) (s.drop (i+1)):=by unfold Lz.jj;rw[(wL h).1]
theorem Dg {u:Lz.ag} {s:List UInt8} (h:Lz.ep false s=none):Lz.eZ u s=if s=[]/\Lz.ai u.scheme=true then .er 70 else(Lz.eI u s).bind fun v=>Lz.ey v []:=by unfold Lz.eZ;rw[h]
theorem CK {u:Lz.ag} {s:List UInt8} {i:Nat} (h:Lz.ep false s=some i):Lz.eZ u s=if s.take i=[]then .er 70 else(Lz.eI u (s.take i)).bind fun v=>Lz.ey v (s.drop (i+1)):=by unfold Lz.eZ;rw[h]
theorem zU:∀{b:Bool} {s:List UInt8} {i:Nat},Lz.ep b s=some i->i<s.length
 | _,[],_,h=>by cases h
 | b,c::r,i,h=>by
   rw[Lz.ep]at h
   have key:∀b' k,(Lz.ep b' r).map (·+1)=some k->k<(c::r).length:=by
    intro b' k hk;rw[Option.map_eq_some_iff]at hk;obtain⟨m,hm,rfl⟩:=hk;have:=zU hm
    simp;omega
   split at h
   ·exact key _ _ h
   ·split at h
    ·exact key _ _ h
    ·split at h
     ·injection h with h;subst h;simp
     ·exact key _ _ h
theorem KO (B M:Nat) (u:Lz.ag) (s:ByteArray) (hs:s.size<=900000) (w:World) (hE:dQ w) (hm:dS B M w u) (hB:B<=w.heap.size) (kg:15<=B):
  Calls Tryz.prog 101 #[.pointer (some ⟨M,0,none⟩),.string s] w (Ei B M (Lz.jj u s.data.toList) w):=by
 obtain⟨goal,dY⟩:∃goal,goal=Lz.jj u s.data.toList:=⟨_,rfl⟩;rw[<-dY];have lm:=Ih dY;have HE:=Ih hE;have Hm:=Ih hm;have cL:=Ih (fun W=>Nb s (by omega) W);obtain⟨o,ho⟩:∃o,o=Lz.kQ s.data.toList:=⟨_,rfl⟩;rw[<-ho]at cL;obtain⟨oi,hoi⟩:∃oi,oi=nS o:=⟨_,rfl⟩;rw[<-hoi]at cL;have Ho:=Ih ho;have Hoi:=Ih hoi;clear dY hE hm ho hoi;go_enter Tryz.func101,Tryz.ntmps101
 go_wp2_with fail
 refine(cL.out _).mono ?_;rintro e w1 ⟨rfl,rfl⟩
 go_upto_if 15 with fail
 go_cut [1] (fun s1 wx=>QU B M goal s.size w s1 wx)
 case first=>
  cases o with
  | none=>
    obtain rfl:oi= -1:=Hoi.out;have HG:Hid (goal=Lz.eZ u s.data.toList):=by show _=_;rw[lm.out,FW Ho.out.symm]
    go_wp2_with fail
    go_meet;exact⟨s,u,rfl,Below.refl _ _,Hm.out,HG,Nat.le_refl _⟩
  | some i=>
    obtain rfl:oi=(i:Int):=Hoi.out;have IB:i<s.size:=by rw[<-aa];exact(wL Ho.out.symm).2
    have HG:Hid (goal=if s.data.toList.drop (i+1)=[]then .er 70 else Lz.eZ (Lz.CG u (s.data.toList.take i)) (s.data.toList.drop (i+1))):=by show _=_;rw[lm.out,H5 Ho.out.symm]
    have o9:(0:Int)<=(i:Int):=by omega
    have V6:(i:Int)<=(s.size:Int):=by omega
    have hi2:(0:Int)<=(i:Int)+1:=by omega
    have hi3:(i:Int)+1<=(s.size:Int):=by omega
    have hi4:((i:Int)+1).toNat=i+1:=by omega
    have km:IntKind.i64.wrap ((i:Int)+1)=(i:Int)+1:=IntWalk.i64_in _ (by omega);have iY:=aP s 0 i;have cC:=Ih (EV (s.extract 0 i) ⟨#[58]⟩ (by omega) w HE.out)
    go_wp2_with fail
    refine cC.out.mono ?_;rintro e w1 ⟨ub,pb,rfl,WF,Cg,ar⟩;have vp:=Lz.kG 58 (s.extract 0 i).data.toList;rw[show([58]:List UInt8)=(⟨#[58]⟩:ByteArray).data.toList from rfl,<-WF.out,<-Cg.out,aa,aa,aa]at vp;have LH:=Ih (fB 5 (by decide) ub (by omega) w1)
    go_wp2_with fail
    refine LH.out.mono ?_;rintro e w2 ⟨ue,rfl,hue,az⟩;have Wo:=Ih (fB 5 (by decide) pb (by omega) w2)
    go_wp2_with fail
    refine Wo.out.mono ?_;rintro e w3 ⟨pe,rfl,Qh,aO⟩;have zx:=ac (ac ar az) aO;have lh:=Hm.out.below zx;obtain⟨dy,E7⟩:=Us lh (zx.mono hB) ue pe (s.data.toList.take i) (by rw[hue.out,WF.out,fN];rfl) (by rw[Qh.out,Cg.out,fN];rfl);obtain⟨sch,usr,pas,hh,hst,prt,opq,a,c,xs,hq,hf,qry,frg,hk,lq,hc,aA⟩:=lh.form;have c1:=rowAt hk.row 1 (.string usr) rfl;have f1:=bE hk.row 1;have c2:=rowAt hk.row 2 (.string pas) rfl;have f2:=bE hk.row 2;have SP:(s.extract (i+1) s.size).data.toList=s.data.toList.drop (i+1):=bR s (i+1);by_cases he:s.data.toList.drop (i+1)=[]
    ·have Fv:(s.extract (i+1) s.size).toList.isEmpty=true:=aq (by rw[<-aa,SP,he];rfl);have oX:Hid (goal=.er 70):=by show _=_;rw[HG.out,if_pos he]
     clear lq aA hk vp WF Cg hue Qh he SP
     go_wp2_with fail
     go_ret;refine⟨_,rfl,dy,?_⟩;rw[oX.out];exact⟨_,rfl⟩
    ·have Fv:(s.extract (i+1) s.size).toList.isEmpty=false:=an (by rw[<-aa,SP];exact List.length_pos_iff.2 he);have oX:Hid (goal=Lz.eZ (Lz.CG u (s.data.toList.take i)) (s.extract (i+1) s.size).data.toList):=by show _=_;rw[HG.out,if_neg he,SP]
     have o7:=aP s (i+1) s.size;clear lq aA hk vp WF Cg hue Qh he SP
     go_wp2_with fail
     go_meet;exact⟨_,_,rfl,dy,E7,oX,o7⟩
 case rest=>
  obtain⟨ab,u1,rfl,aK,jT,hG,jd⟩:=hcut;have hEc:=HE.out.at aK kg;have hBc:B<=wc.heap.size:=Nat.le_trans hB aK.size;have cN:=Ih (fun W=>JR ab (by omega) W);obtain⟨o2,LV⟩:∃o2,o2=Lz.ep false ab.data.toList:=⟨_,rfl⟩;rw[<-LV]at cN;obtain⟨oi2,VW⟩:∃oi2,oi2=nS o2:=⟨_,rfl⟩;rw[<-VW]at cN;have Ho2:=Ih LV;have Xx:=Ih VW;clear LV cL VW Hoi
  go_wp2_with fail
  refine(cN.out _).mono ?_;rintro e w2 ⟨rfl,rfl⟩
  go_upto_if 48 with fail
  go_cut [1,9] (fun s1 s9 wx=>Nl B M goal s.size w s1 s9 wx)
  case first=>
   cases o2 with
   | none=>
     obtain rfl:oi2= -1:=Xx.out;have HG:Hid (goal=if ab.data.toList=[]/\Lz.ai u1.scheme=true then .er 70 else(Lz.eI u1 ab.data.toList).bind fun v=>Lz.ey v (⟨#[]⟩:ByteArray).data.toList):=by show _=_;rw[hG.out,Dg Ho2.out.symm]
     go_wp2_with fail
     go_meet;exact⟨ab,⟨#[]⟩,u1,rfl,rfl,aK,jT,HG,jd,Nat.zero_le _⟩
   | some i=>
     obtain rfl:oi2=(i:Int):=Xx.out;have IB:i<ab.size:=by rw[<-aa];exact zU Ho2.out.symm
     have HG:Hid (goal=if ab.data.toList.take i=[]then .er 70 else(Lz.eI u1 (ab.data.toList.take i)).bind fun v=>Lz.ey v (ab.data.toList.drop (i+1))):=by show _=_;rw[hG.out,CK Ho2.out.symm]
     have o9:(0:Int)<=(i:Int):=by omega
     have V6:(i:Int)<=(ab.size:Int):=by omega
     have hi2:(0:Int)<=(i:Int)+1:=by omega
     have hi3:(i:Int)+1<=(ab.size:Int):=by omega
     have hi4:((i:Int)+1).toNat=i+1:=by omega
     have km:IntKind.i64.wrap ((i:Int)+1)=(i:Int)+1:=IntWalk.i64_in _ (by omega);have iY:=aP ab 0 i;have pY:=aP ab (i+1) ab.size;have Pf:(ab.extract 0 i).data.toList=ab.data.toList.take i:=fN ab i;have SP:(ab.extract (i+1) ab.size).data.toList=ab.data.toList.drop (i+1):=bR ab (i+1);by_cases he:ab.data.toList.take i=[]
     ·have Fv:(ab.extract 0 i).toList.isEmpty=true:=aq (by rw[<-aa,Pf,he];rfl);have oX:Hid (goal=.er 70):=by show _=_;rw[HG.out,if_pos he]
      clear he Pf SP
      go_wp2_with fail
      go_quiet (fail)
      have dy:Below B w (wc.drewN nq):=below_drewN aK nq;generalize wc.drewN nq=wa at dy⊢
      go_wp2_with fail
      go_ret;refine⟨_,rfl,dy,?_⟩;rw[oX.out];exact⟨_,rfl⟩
     ·have Fv:(ab.extract 0 i).toList.isEmpty=false:=an (by rw[<-aa,Pf];exact List.length_pos_iff.2 he)
      have oX:Hid (goal=if(ab.extract 0 i).data.toList=[]/\Lz.ai u1.scheme=true then .er 70 else(Lz.eI u1 (ab.extract 0 i).data.toList).bind fun v=>Lz.ey v (ab.extract (i+1) ab.size).data.toList):=by
       show _=_;rw[HG.out,if_neg he,if_neg (fun h=>he (by rw[<-Pf];exact h.1)),Pf,SP]
      clear he Pf SP
      go_wp2_with fail
      go_quiet (fail)
      have dy:Below B w (wc.drewN nq):=below_drewN aK nq;have E7:dS B M (wc.drewN nq) u1:=jT.below (below_drewN (Below.refl _ wc) nq);generalize wc.drewN nq=wa at dy E7⊢
      go_wp2_with fail
      go_meet;exact⟨_,_,u1,rfl,rfl,dy,E7,oX,by omega,by omega⟩
  case rest=>
   clear cN Xx hG jd jT aK hEc hBc;obtain⟨ab,pb,u2,rfl,rfl,aK,jy,hG,jd,Sd⟩:=hcut;have hEc:=HE.out.at aK kg;have hBc:B<=wc.heap.size:=Nat.le_trans hB aK.size;obtain⟨sch,usr,pas,hh,hst,prt,opq,a,c,xs,hq,hf,qry,frg,hk,lq,hc,aA⟩:=jy.form;have uH:u2.scheme=sch.data.toList:=by rw[lq]
   have c12:=rowAt hk.row 12 (.bool (Lz.ai sch.data.toList)) rfl;have LK:Hid (goal=if ab.data.toList=[]/\Lz.ai sch.data.toList=true then .er 70 else(Lz.eI u2 ab.data.toList).bind fun v=>Lz.ey v pb.data.toList):=by show _=_;rw[hG.out,uH]
   generalize Lz.ai sch.data.toList=sp at LK c12;clear lq hk aA uH hG;have cH:=Ih (AH B M u2 ab (by omega) wc hEc jy hBc)
   have sk:Hid ((goal=(Lz.eI u2 ab.data.toList).bind fun v=>Lz.ey v pb.data.toList))\/(ab.data.toList=[]/\sp=true):=by
    by_cases h:ab.data.toList=[]/\sp=true
    ·exact .inr h
    ·exact .inl (Ih (by rw[LK.out,if_neg h]))
   by_cases he:ab.data.toList=[]
   ·have Fv:ab.toList.isEmpty=true:=aq (by rw[<-aa,he];rfl);cases sp with
    | true=>
      have zn:Hid (goal=.er 70):=by show _=_;rw[LK.out,if_pos ⟨he,rfl⟩]
      clear he sk
      go_wp2_with fail
      go_ret;refine⟨_,rfl,aK,?_⟩;rw[zn.out];exact⟨_,rfl⟩
    | false=>
      have zn:Hid (goal=(Lz.eI u2 ab.data.toList).bind fun v=>Lz.ey v pb.data.toList):=sk.resolve_right (fun h=>by cases h.2);clear he sk
      go_wp2_with fail
      refine cH.out.mono ?_;rintro e w3 ⟨v,rfl,aO,bA⟩;have ko:=aK.trans aO;generalize Lz.eI u2 ab.data.toList=r at bA zn;cases r with
      | er n=>
        obtain⟨p,rfl⟩:=bA
        go_wp2_with fail
        go_ret;refine⟨_,rfl,ko,?_⟩;rw[zn.out];exact⟨p,rfl⟩
      | ok u3=>
        obtain⟨rfl,lh⟩:=bA;have cP:=Ih (Ac B M u3 pb (by omega) w3 lh);have Xt:Hid (goal=Lz.ey u3 pb.data.toList):=Ih zn.out
        go_wp2_with fail
        refine cP.out.mono ?_;rintro e w4 ⟨v,rfl,dy,bA⟩
        go_wp2_with fail
        go_ret;refine⟨v,rfl,ko.trans dy,?_⟩;rw[Xt.out];exact bA
   ·have Fv:ab.toList.isEmpty=false:=an (by rw[<-aa];exact List.length_pos_iff.2 he);have zn:Hid (goal=(Lz.eI u2 ab.data.toList).bind fun v=>Lz.ey v pb.data.toList):=sk.resolve_right (fun h=>he h.1);clear he sk
    go_wp2_with fail
    refine cH.out.mono ?_;rintro e w3 ⟨v,rfl,aO,bA⟩;have ko:=aK.trans aO;generalize Lz.eI u2 ab.data.toList=r at bA zn;cases r with
    | er n=>
      obtain⟨p,rfl⟩:=bA
      go_wp2_with fail
      go_ret;refine⟨_,rfl,ko,?_⟩;rw[zn.out];exact⟨p,rfl⟩
    | ok u3=>
      obtain⟨rfl,lh⟩:=bA;have cP:=Ih (Ac B M u3 pb (by omega) w3 lh);have Xt:Hid (goal=Lz.ey u3 pb.data.toList):=Ih zn.out
      go_wp2_with fail
      refine cP.out.mono ?_;rintro e w4 ⟨v,rfl,dy,bA⟩
      go_wp2_with fail
      go_ret;refine⟨v,rfl,ko.trans dy,?_⟩;rw[Xt.out];exact bA
end Go.Proofs.YtecoeebjaleeiaaGreatDoor
