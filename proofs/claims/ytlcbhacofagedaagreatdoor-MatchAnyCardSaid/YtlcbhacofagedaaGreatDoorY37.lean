/-
  lazaretref08.run: file host, path.
-/
import Derived.Test.YtlcbhacofagedaaGreatDoorY36
set_option maxHeartbeats 8000000
set_option maxRecDepth 100000
namespace Go.Proofs.YtlcbhacofagedaaGreatDoor
open Go.RowKit
theorem Nh:kc 14 .fileH:=by
 (intro X x buf a p n i e c nx sp sl ov f w hX hU hO hI d5 hR;subst d5;have ff:=hI.1;have dV:=hX.size;rw[aa]at ff;have wm:IntKind.i64.wrap ((i:Int)-1)=(i:Int)-1:=IntWalk.i64_in _ (by omega);have wp:IntKind.i64.wrap ((i:Int)+1)=(i:Int)+1:=IntWalk.i64_in _ (by omega);have HI:=Ih hI;have HR:=Ih hR;clear hI hR;unfold FR;conv=>(arg 2;whnf))
 clear hO;have Ai:buf.size<=i:=by have:=HI.out.2.2.1;simp only[aa]at this;exact this
 cases ov with
 | false=>
   have he:=(HR.out.nover rfl).1;subst he
   (have aN:=(Lz.Rd.no HR.out rfl).1;rw[aa]at aN;have bn:(i:Int)+1<=(X.s.size:Int):=(by omega);have tK:(0:Int)<=(i:Int):=(by omega);have eA:(i:Int)<=(i:Int)+1:=(by omega);have HX:Hid ((X.s.extract i (i+1)).data.toList=[c]):=Ih (gP (Lz.Rd.no HR.out rfl).2.1 aN))
   have o7:(X.s.extract i (i+1)).size=1:=iJ HX.out;have g8:¬(9223372036854775807<buf.size+(min (i+1) X.s.size-i)):=by omega
   have HN:Hid (Lz.aB none X.s.data.toList X.goal .fileH i .fileH ⟨(buf++X.s.extract i (i+1)).data.toList,a,p,n,x.url⟩ (i:Int)):=Ih (by
    rw[kL HX.out];exact Lz.Uh HI.out HR.out rfl)
   clear o7
   go_wp2_with fail
   exact⟨.fileH,_,_,_,_,_,x,_,_,_,_,_,_,_,rfl,rfl,hU,aM (by nofun),(by nofun),HN.out⟩
 | true=>
   have cD:=mS buf w;cases hd:Lz.bu buf.data.toList with
   | true=>
     rw[hd]at cD;have CD:=Ih cD;have HD:=Ih hd;clear hd cD Ai
     go_wp2_with fail
     refine CD.out.mono ?_;rintro _ w1 ⟨rfl,rfl⟩
     go_wp2_with fail
     exact⟨.path,_,_,_,_,_,x,_,_,_,_,_,_,_,rfl,rfl,hU,aM (by nofun),(by nofun),Lz.Eu HI.out HR.out rfl HD.out⟩
   | false=>
     rw[hd]at cD;have CD:=Ih cD;have HD:=Ih hd;have hE:=hU.env hX;have cP:Hid (Calls Tryz.prog 28 #[.string buf,.bool true] w fun e w'=>∃(u:ByteArray) (k:Nat),e=.returned (.tuple #[.string u,.int .i64 (k:Int)])/\Hid ((k=0->Lz.aD buf.data.toList true=.ok u.data.toList)/\(k≠0->Lz.aD buf.data.toList true=.er k))/\Below w.heap.size w w'):=Ih ((sg buf true (by omega) w hE).mono (Lx true));clear hd cD Ai hE;by_cases ek:buf.data.toList=[]
     ·have g0:=aH (k:=[]) ek;have g1:=vv ek;have HB:=Ih ek;clear ek
      go_wp2_with fail
      refine CD.out.mono ?_;rintro _ w1 ⟨rfl,rfl⟩
      go_wp2_with fail
      exact⟨.pStart,_,_,_,_,_,x,_,_,_,_,_,_,_,rfl,rfl,hU,aM (by nofun),(by nofun),Lz.J0 HI.out HR.out rfl HD.out HB.out⟩
     ·have g0:=aR (k:=[]) ek;have g1:=mF ek;have HB:=Ih ek;clear ek
      go_wp2_with fail
      refine CD.out.mono ?_;rintro _ w1 ⟨rfl,rfl⟩
      go_wp2_with fail
      refine cP.out.mono ?_;rintro _ w1 ⟨u,k,rfl,hk,hb⟩;have ie:=hU.call hX hb;clear cP hU hb CD;by_cases iN:k=0
      ·have bk:((k:Int) != 0)=false:=by rw[iN];rfl
       have hh:=hk.out.1 iN;have k4:=ie.cell 4 (.string x.hst) rfl;have z4:=ie.fz 4;have U4:=Ih (ie.setF hX 4 (.string u) {x with hst:=u} rfl rfl rfl);have HH:=Ih hh;clear hk iN hh;by_cases KD:u.data.toList=Lz.eE
       ·have g2:=aH (k:=[108,111,99,97,108,104,111,115,116]) KD;have HL:=Ih KD;clear KD
        go_wp2_with fail
        exact⟨.pStart,_,_,_,_,_,x,_,_,_,_,_,_,_,rfl,rfl,ie,aM (by nofun),(by nofun),Lz.N1 HI.out HR.out rfl HD.out HB.out HH.out HL.out⟩
       ·have g2:=aR (k:=[108,111,99,97,108,104,111,115,116]) KD;have HL:=Ih KD;clear KD
        go_wp2_with fail
        exact⟨.pStart,_,_,_,_,_,{x with hst:=u},_,_,_,_,_,_,_,rfl,rfl,U4.out,aM (by nofun),(by nofun),Lz.Jl HI.out HR.out rfl HD.out HB.out HH.out HL.out⟩
      ·have bk:((k:Int) != 0)=true:=by rw[bne,beq_eq_false_iff_ne.2 (by omega)];rfl
       have HG:Hid (X.goal=.er k):=Ih (Lz.QS HI.out HR.out rfl HD.out HB.out (hk.out.2 iN));have lM:=Ih ie.non;have lN:=Ih ie.res;clear iN hk
       go_wp2_with (first |(refine wpList_load_row rfl 26 (.tmp 7) rfl X.N rfl 26 bC (0,0) _ lM.out Tryz.underlying26 rfl bd ?_)|(refine wpList_store_row rfl 26 (.tmp 4) (.tmp 611) rfl X.B bC rfl rfl 26 bC lN.out bd rfl (by simp[Value.oneCell']) ?_))
       exact⟨k,_,_,_,_,_,HG.out,rfl,rfl,az ie.below (Nat.le_refl _),setRow_heap _ _ _ _ _ _ lN.out⟩
theorem ra {w w':World} {row:Option Nat} {B M:Nat} {cs:Array Value} {fr:Nat×Nat} (hM:w.heap[M]? =some (.cells cs 26 fr)) (hg:w.grownBy w' row) (hr:xO B w row):w'.heap[M]? =some (.cells cs 26 fr):=by
 rw[hg.block M (aI hM) (fun e=>?_)]
 ·exact hM
 ·obtain⟨_,ir,fr',h1⟩:=hr M e.symm;rw[hM]at h1;injection h1 with h1
  injection h1 with _ h2 _
  exact yO h2
theorem UAt.app {X:RX} {w w':World} {x:MkV} (hX:X.Ok) (h:UAt X w x) (p:ByteArray) {g:Addr} {n' c':Nat} {row:Option Nat} (aQ:aX w' X.B (.slice (some g) n' c') (x.xs++[p]))
  (hg:(w.alloc (.cells #[.string p] 9)).grownBy w' row) (hr:xO X.B (w.alloc (.cells #[.string p] 9)) row):
  w'.cell? ⟨X.M,7,none⟩=some x.pv/\w'.frozen? ⟨X.M,7,none⟩=false/\UAt X (w'.setCell ⟨X.M,7,none⟩ (.slice (some g) n' c')) {x with pv:=.slice (some g) n' c',xs:=x.xs++[p]}:=by
 have ha:=h.call hX ((Below.refl _ w).alloc (Nat.le_refl _) (.cells #[.string p] 9));have hM:=ra ha.row hg hr;have hb:Below X.B X.w0 w':=qk ha.below hg (ha.hB hX) hr;refine⟨rowAt hM 7 _ rfl,bP hM 7,?_⟩;have hbm:=hX.bm;have Tw:=hX.mn;exact⟨hb.setCell (p:=⟨X.M,7,none⟩) (Nat.le_of_lt hX.bm) _,by rw[cp (by show X.B≠X.M;omega)];exact ra ha.res hg hr,gF hM 7 _ rfl,by rw[cp (by show X.N≠X.M;omega)];exact ra ha.non hg hr,aQ.setCell hM yO 7 _⟩
end Go.Proofs.YtlcbhacofagedaaGreatDoor
