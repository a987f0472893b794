/-
  lazaretref08.run: port, host, file host.
-/
import Derived.Test.YtlcbhacofagedaaGreatDoorY35
import Derived.Test.YtlcbhacofagedaaGreatDoorY28
set_option maxHeartbeats 8000000
set_option maxRecDepth 100000
namespace Go.Proofs.YtlcbhacofagedaaGreatDoor
open Go.RowKit
theorem vv {b:ByteArray} (h:b.data.toList=[]):b.toList.isEmpty=true:=ak (by rw[<-aa,h];rfl)
theorem mF {b:ByteArray} (h:¬b.data.toList=[]):b.toList.isEmpty=false:=aj (by rw[<-aa];exact List.length_pos_iff.2 h)
theorem kL {b t:ByteArray} {c:UInt8} (h:t.data.toList=[c]):(b++t).data.toList=b.data.toList++[c]:=by rw[ai,h]
theorem Lx {s:List UInt8} {w:World} (sp:Bool) (e:Ending) (w':World) (h:pg (Lz.aD s sp) w e w'):∃(u:ByteArray) (k:Nat),e=.returned (.tuple #[.string u,.int .i64 (k:Int)])/\Hid ((k=0->Lz.aD s sp=.ok u.data.toList)/\(k≠0->Lz.aD s sp=.er k))/\Below w.heap.size w w':=by
 obtain⟨u,h1,h2,h3⟩:=h;refine⟨u,_,h1,Ih ⟨fun hk=>?_,fun hk=>?_⟩,h3⟩
 ·rw[h2.out];cases hr:Lz.aD s sp with
  | ok t=>rfl
  | er m=>
    rw[hr]at hk;have hm:m=0:=hk;cases sp with
    | true=>have:=Lz.iv s m hr;omega
    | false=>have:=Lz.jC s m hr;omega
 ·cases hr:Lz.aD s sp with
  | ok t=>rw[hr]at hk;exact absurd rfl hk
  | er m=>rfl
theorem Rb:kc 11 .port:=by
 (intro X x buf a p n i e c nx sp sl ov f w hX hU hO hI d5 hR;subst d5;have ff:=hI.1;have dV:=hX.size;rw[aa]at ff;have wm:IntKind.i64.wrap ((i:Int)-1)=(i:Int)-1:=IntWalk.i64_in _ (by omega);have wp:IntKind.i64.wrap ((i:Int)+1)=(i:Int)+1:=IntWalk.i64_in _ (by omega);have HI:=Ih hI;have HR:=Ih hR;clear hI hR;unfold FR;conv=>(arg 2;whnf))
 clear hO;have Ai:buf.size<=i:=by have:=HI.out.2.2.1;simp only[aa]at this;exact this
 have wR:=HI.out.2.2.2.1;cases ov with
 | true=>
   have cP:=EE buf x.sch (by omega) wR w;have k0:=hU.cell 0 (.string x.sch) rfl;have k5:=hU.cell 5 (.int .i64 x.prt) rfl;have z5:=hU.fz 5;obtain⟨pI,hpI⟩:∃pI,pI=Lz.lR x.sch.data.toList buf.data.toList:=⟨_,rfl⟩;rw[<-hpI]at cP;have HP:=Ih hpI;have CP:=Ih cP;have U5:=Ih (hU.setF hX 5 (.int .i64 pI) {x with prt:=pI} rfl rfl rfl);have lM:=Ih U5.out.non;have lN:=Ih U5.out.res;clear cP hpI wR Ai;by_cases hl:pI< -1
   ·have HL:=Ih hl
    go_wp2_with fail
    refine CP.out.mono ?_;rintro _ w1 ⟨rfl,rfl⟩
    go_wp2_with (first |(refine wpList_load_row rfl 26 (.tmp 7) rfl X.N rfl 26 bC (0,0) _ lM.out Tryz.underlying26 rfl bd ?_)|(refine wpList_store_row rfl 26 (.tmp 4) (.tmp 457) rfl X.B bC rfl rfl 26 bC lN.out bd rfl (by simp[Value.oneCell']) ?_))
    have hg:X.goal=.er 81:=Lz.Jm HI.out HR.out rfl (by have:=HL.out;rw[HP.out]at this;exact this);exact⟨81,_,_,_,_,_,hg,rfl,rfl,az U5.out.below (Nat.le_refl _),setRow_heap _ _ _ _ _ _ lN.out⟩
   ·have HL:=Ih hl
    have HN:Hid (Lz.aB none X.s.data.toList X.goal .port i .pStart ⟨[],a,p,n,MkV.url {x with prt:=pI}⟩ ((i:Int)-1)):=Ih (by
     have:=Lz.IG HI.out HR.out rfl (by have:=HL.out;rw[HP.out]at this;exact this);rw[HP.out];exact this)
    go_wp2_with fail
    refine CP.out.mono ?_;rintro _ w1 ⟨rfl,rfl⟩
    go_wp2_with fail
    exact⟨.pStart,_,_,_,_,_,{x with prt:=pI},_,_,_,_,_,_,_,rfl,rfl,U5.out,aM (by nofun),(by nofun),HN.out⟩
 | false=>
   have he:=(HR.out.nover rfl).1;subst he
   (have aN:=(Lz.Rd.no HR.out rfl).1;rw[aa]at aN;have bn:(i:Int)+1<=(X.s.size:Int):=(by omega);have tK:(0:Int)<=(i:Int):=(by omega);have eA:(i:Int)<=(i:Int)+1:=(by omega);have HX:Hid ((X.s.extract i (i+1)).data.toList=[c]):=Ih (gP (Lz.Rd.no HR.out rfl).2.1 aN))
   have o7:(X.s.extract i (i+1)).size=1:=iJ HX.out;have g8:¬(9223372036854775807<buf.size+(min (i+1) X.s.size-i)):=by omega
   have cD:=sq c w;have lM:=Ih hU.non;have lN:=Ih hU.res;clear wR;cases hd:Lz.aA c with
   | true=>
     rw[hd]at cD;have CD:=Ih cD
     have HN:Hid (Lz.aB none X.s.data.toList X.goal .port i .port ⟨(buf++X.s.extract i (i+1)).data.toList,a,p,n,x.url⟩ (i:Int)):=Ih (by
      rw[kL HX.out];exact Lz.NF HI.out HR.out rfl hd)
     clear hd cD o7
     go_wp2_with fail
     refine CD.out.mono ?_;rintro _ w1 ⟨rfl,rfl⟩
     go_wp2_with fail
     exact⟨.port,_,_,_,_,_,x,_,_,_,_,_,_,_,rfl,rfl,hU,aM (by nofun),(by nofun),HN.out⟩
   | false=>
     rw[hd]at cD;have CD:=Ih cD;have hg:X.goal=.er 81:=Lz.EF HI.out HR.out rfl hd;have HG:=Ih hg;clear hd cD o7 hg
     go_wp2_with fail
     refine CD.out.mono ?_;rintro _ w1 ⟨rfl,rfl⟩
     go_wp2_with (first |(refine wpList_load_row rfl 26 (.tmp 7) rfl X.N rfl 26 bC (0,0) _ lM.out Tryz.underlying26 rfl bd ?_)|(refine wpList_store_row rfl 26 (.tmp 4) (.tmp 469) rfl X.B bC rfl rfl 26 bC lN.out bd rfl (by simp[Value.oneCell']) ?_))
     exact⟨81,_,_,_,_,_,HG.out,rfl,rfl,az hU.below (Nat.le_refl _),setRow_heap _ _ _ _ _ _ lN.out⟩
theorem Ri:kc 10 .host:=by
 (intro X x buf a p n i e c nx sp sl ov f w hX hU hO hI d5 hR;have ff:=hI.1;have dV:=hX.size;rw[aa]at ff;have wm:IntKind.i64.wrap ((i:Int)-1)=(i:Int)-1:=IntWalk.i64_in _ (by omega);have wp:IntKind.i64.wrap ((i:Int)+1)=(i:Int)+1:=IntWalk.i64_in _ (by omega);have HI:=Ih hI;have HS:=Ih d5;have HR:Hid (Lz.Rd X.s.data.toList (Lz.ae x.url.scheme) i e c nx sl ov):=Ih (d5▸hR);clear hI hR d5;unfold FR;conv=>(arg 2;whnf))
 clear hO;have Ai:buf.size<=i:=by have:=HI.out.2.2.1;simp only[aa]at this;exact this
 have lM:=Ih hU.non;have lN:=Ih hU.res;have k3:=hU.cell 3 (.bool x.hh) rfl;have z3:=hU.fz 3;have k4:=hU.cell 4 (.string x.hst) rfl;have z4:=hU.fz 4;obtain⟨q,hq⟩:∃q,q=((c==58&& !n)||ov):=⟨_,rfl⟩;have HQ:=Ih hq;clear hq;have pf:∀b:Bool,b=(c==58)->((c.toNat:Int)==58)=b:=fun b hb=>by rw[hb];exact jx c 58
 refine pR (fun a' w'=>w=w'/\∃l:List Value,l.length=761/\a'=stL X (nmB .host) buf a p n i e c nx sp sl ov l/\l[387]? =some (.bool q)) ?_ ?_
 ·cases iU:(c==58)with
  | true=>
    have SP:=pf true iU.symm;rw[iU]at HQ;clear iU pf;cases n with
    | false=>
      have DM:q=true:=by rw[HQ.out];rfl
      subst DM
      go_wp2_with fail
      exact⟨_,rfl,rfl,rfl⟩
    | true=>
      have DM:q=ov:=by rw[HQ.out];rfl
      subst DM
      go_wp2_with fail
      exact⟨_,rfl,rfl,rfl⟩
  | false=>
    have SP:=pf false iU.symm;rw[iU]at HQ;clear iU pf;have DM:q=ov:=by rw[HQ.out];rfl
    subst DM
    go_wp2_with fail
    exact⟨_,rfl,rfl,rfl⟩
 (rintro _ _ ⟨rfl,l,hl,rfl,hv⟩;refine di X _ _ _ _ _ _ _ _ _ _ _ _ l hl (fun f hf=>?_);have Zx:f 407=.bool q:=hf _ _ hv;clear hv hl hf;unfold FR;rw[Zx];clear Zx)
 clear pf;cases q with
 | false=>
   have VM:ov=false:=by have:=HQ.out;revert this;cases ov<;>simp
   subst VM
   have iU:¬(c=58/\n=false):=by
    rintro⟨rfl,rfl⟩;exact absurd HQ.out (by decide)
   have he:=(HR.out.nover rfl).1;subst he
   (have aN:=(Lz.Rd.no HR.out rfl).1;rw[aa]at aN;have bn:(i:Int)+1<=(X.s.size:Int):=(by omega);have tK:(0:Int)<=(i:Int):=(by omega);have eA:(i:Int)<=(i:Int)+1:=(by omega);have HX:Hid ((X.s.extract i (i+1)).data.toList=[c]):=Ih (gP (Lz.Rd.no HR.out rfl).2.1 aN))
   have o7:(X.s.extract i (i+1)).size=1:=iJ HX.out;have g8:¬(9223372036854775807<buf.size+(min (i+1) X.s.size-i)):=by omega
   have HN:Hid (Lz.aB none X.s.data.toList X.goal .host i .host ⟨(buf++X.s.extract i (i+1)).data.toList,a,p,if c=93 then false else if c=91 then true else n,x.url⟩ (i:Int)):=Ih (by
    rw[kL HX.out];exact Lz.NT HI.out HR.out rfl iU)
   clear o7 iU Ai;by_cases vS:c=91
   ·have b91:((c.toNat:Int)==91)=true:=ij vS;have b93:((c.toNat:Int)==93)=false:=gi (show ¬c=93 by rw[vS];decide);rw[if_neg (show ¬c=93 by rw[vS];decide),if_pos vS]at HN;clear vS
    go_wp2_with fail
    exact⟨.host,_,_,_,_,_,x,_,_,_,_,_,_,_,rfl,rfl,hU,aM (by nofun),(by nofun),HN.out⟩
   ·have b91:((c.toNat:Int)==91)=false:=gi vS;by_cases KR:c=93
    ·have b93:((c.toNat:Int)==93)=true:=ij KR;rw[if_pos KR]at HN;clear vS KR
     go_wp2_with fail
     exact⟨.host,_,_,_,_,_,x,_,_,_,_,_,_,_,rfl,rfl,hU,aM (by nofun),(by nofun),HN.out⟩
    ·have b93:((c.toNat:Int)==93)=false:=gi KR;rw[if_neg KR,if_neg vS]at HN;clear vS KR
     go_wp2_with fail
     exact⟨.host,_,_,_,_,_,x,_,_,_,_,_,_,_,rfl,rfl,hU,aM (by nofun),(by nofun),HN.out⟩
 | true=>
   have np:(c=58/\n=false)\/ov=true:=by
    have:=HQ.out
    revert this
    cases ov<;>cases n<;>simp
   have hc:=Ih np;have hE:=hU.env hX
   have cP:Hid (Calls Tryz.prog 28 #[.string buf,.bool sp] w fun e w'=>∃(u:ByteArray) (k:Nat),e=.returned (.tuple #[.string u,.int .i64 (k:Int)])/\Hid ((k=0->Lz.aD buf.data.toList (Lz.ae x.url.scheme)=.ok u.data.toList)/\(k≠0->Lz.aD buf.data.toList (Lz.ae x.url.scheme)=.er k))/\Below w.heap.size w w'):=Ih (by
    rw[<-HS.out];exact(sg buf sp (by omega) w hE).mono (Lx sp))
   clear HQ np Ai hE;by_cases ek:buf.data.toList=[]
   ·have g0:=aH (k:=[]) ek;have g1:=vv ek;by_cases iU:c=58
    ·have SP:((c.toNat:Int)==58)=true:=ij iU;have HG:Hid (X.goal=.er 70):=Ih (Lz.xl HI.out HR.out hc.out ek (.inl iU));clear iU ek
     go_wp2_with (first |(refine wpList_load_row rfl 26 (.tmp 7) rfl X.N rfl 26 bC (0,0) _ lM.out Tryz.underlying26 rfl bd ?_)|(refine wpList_store_row rfl 26 (.tmp 4) (.tmp 417) rfl X.B bC rfl rfl 26 bC lN.out bd rfl (by simp[Value.oneCell']) ?_))
     exact⟨70,_,_,_,_,_,HG.out,rfl,rfl,az hU.below (Nat.le_refl _),setRow_heap _ _ _ _ _ _ lN.out⟩
    ·have SP:((c.toNat:Int)==58)=false:=gi iU;cases sp with
     | true=>
       have HG:Hid (X.goal=.er 70):=Ih (Lz.xl HI.out HR.out hc.out ek (.inr HS.out.symm));clear iU ek
       go_wp2_with (first |(refine wpList_load_row rfl 26 (.tmp 7) rfl X.N rfl 26 bC (0,0) _ lM.out Tryz.underlying26 rfl bd ?_)|(refine wpList_store_row rfl 26 (.tmp 4) (.tmp 417) rfl X.B bC rfl rfl 26 bC lN.out bd rfl (by simp[Value.oneCell']) ?_))
       exact⟨70,_,_,_,_,_,HG.out,rfl,rfl,az hU.below (Nat.le_refl _),setRow_heap _ _ _ _ _ _ lN.out⟩
     | false=>
       have Y8:((c.toNat:Int) != 58)=true:=Ua iU;have VM:Hid (ov=true):=Ih (by rcases hc.out with h|h;exact absurd h.1 iU;exact h);have Gh:Hid (¬(buf.data.toList=[]/\(c=58\/Lz.ae x.url.scheme=true))):=Ih (by rintro⟨_,h|h⟩;exact iU h;rw[<-HS.out]at h;exact absurd h (by simp));have Oq:Hid (¬(buf.data.toList=[]/\Lz.ae x.url.scheme=true)):=Ih (fun h=>Gh.out ⟨h.1,.inr h.2⟩);clear iU ek
       go_wp2_with fail
       refine cP.out.mono ?_;rintro _ w1 ⟨u,k,rfl,hk,hb⟩;have ie:=hU.call hX hb;clear cP hU k3 z3 k4 z4 lM lN hb;have k3:=ie.cell 3 (.bool x.hh) rfl;have z3:=ie.fz 3;have k4:=ie.cell 4 (.string x.hst) rfl;have z4:=ie.fz 4;by_cases iN:k=0
       ·have U2:=Ih ((ie.setF hX 4 (.string u) {x with hst:=u} rfl rfl rfl).setF hX 3 (.bool true) {x with hst:=u,hh:=true} rfl rfl rfl);have bk:((k:Int) != 0)=false:=by rw[iN];rfl
        have hh:=hk.out.1 iN;have HN:Hid (Lz.aB none X.s.data.toList X.goal .host i .pStart ⟨[],a,p,n,MkV.url {x with hst:=u,hh:=true}⟩ ((i:Int)-1)):=Ih (Lz.xw HI.out HR.out VM.out Oq.out hh);clear iN hh hk
        go_wp2_with fail
        exact⟨.pStart,_,_,_,_,_,{x with hst:=u,hh:=true},_,_,_,_,_,_,_,rfl,rfl,U2.out,aM (by nofun),(by nofun),HN.out⟩
       ·have bk:((k:Int) != 0)=true:=by rw[bne,beq_eq_false_iff_ne.2 (by omega)];rfl
        have hh:=hk.out.2 iN;have HG:Hid (X.goal=.er k):=Ih (Lz.oD HI.out HR.out hc.out Gh.out hh);have lM:=Ih ie.non;have lN:=Ih ie.res;clear iN hh hk
        go_wp2_with (first |(refine wpList_load_row rfl 26 (.tmp 7) rfl X.N rfl 26 bC (0,0) _ lM.out Tryz.underlying26 rfl bd ?_)|(refine wpList_store_row rfl 26 (.tmp 4) (.tmp 426) rfl X.B bC rfl rfl 26 bC lN.out bd rfl (by simp[Value.oneCell']) ?_))
        exact⟨k,_,_,_,_,_,HG.out,rfl,rfl,az ie.below (Nat.le_refl _),setRow_heap _ _ _ _ _ _ lN.out⟩
   ·have g0:=aR (k:=[]) ek;have g1:=mF ek;have Gh:Hid (¬(buf.data.toList=[]/\(c=58\/Lz.ae x.url.scheme=true))):=Ih (fun h=>ek h.1);by_cases iU:c=58
    ·have SP:((c.toNat:Int)==58)=true:=ij iU;have Y8:((c.toNat:Int) != 58)=false:=Yu iU;have Pk:=Ih iU;have HB1:=Ih ek;have yG:Hid (n=false\/ov=true):=Ih (hc.out.imp (fun h=>h.2) id);clear iU ek
     go_wp2_with fail
     refine cP.out.mono ?_;rintro _ w1 ⟨u,k,rfl,hk,hb⟩;have ie:=hU.call hX hb;clear cP hU k3 z3 k4 z4 lM lN hb;have k3:=ie.cell 3 (.bool x.hh) rfl;have z3:=ie.fz 3;have k4:=ie.cell 4 (.string x.hst) rfl;have z4:=ie.fz 4;by_cases iN:k=0
     ·have U2:=Ih ((ie.setF hX 4 (.string u) {x with hst:=u} rfl rfl rfl).setF hX 3 (.bool true) {x with hst:=u,hh:=true} rfl rfl rfl);have bk:((k:Int) != 0)=false:=by rw[iN];rfl
      have hh:=hk.out.1 iN;have HN:Hid (Lz.aB none X.s.data.toList X.goal .host i .port ⟨[],a,p,n,MkV.url {x with hst:=u,hh:=true}⟩ (i:Int)):=Ih (Lz.BF HI.out HR.out Pk.out yG.out HB1.out hh);clear iN hh hk
      go_wp2_with fail
      exact⟨.port,_,_,_,_,_,{x with hst:=u,hh:=true},_,_,_,_,_,_,_,rfl,rfl,U2.out,aM (by nofun),(by nofun),HN.out⟩
     ·have bk:((k:Int) != 0)=true:=by rw[bne,beq_eq_false_iff_ne.2 (by omega)];rfl
      have hh:=hk.out.2 iN;have HG:Hid (X.goal=.er k):=Ih (Lz.oD HI.out HR.out hc.out Gh.out hh);have lM:=Ih ie.non;have lN:=Ih ie.res;clear iN hh hk
      go_wp2_with (first |(refine wpList_load_row rfl 26 (.tmp 7) rfl X.N rfl 26 bC (0,0) _ lM.out Tryz.underlying26 rfl bd ?_)|(refine wpList_store_row rfl 26 (.tmp 4) (.tmp 426) rfl X.B bC rfl rfl 26 bC lN.out bd rfl (by simp[Value.oneCell']) ?_))
      exact⟨k,_,_,_,_,_,HG.out,rfl,rfl,az ie.below (Nat.le_refl _),setRow_heap _ _ _ _ _ _ lN.out⟩
    ·have SP:((c.toNat:Int)==58)=false:=gi iU;have Y8:((c.toNat:Int) != 58)=true:=Ua iU;have VM:Hid (ov=true):=Ih (by rcases hc.out with h|h;exact absurd h.1 iU;exact h);have Oq:Hid (¬(buf.data.toList=[]/\Lz.ae x.url.scheme=true)):=Ih (fun h=>Gh.out ⟨h.1,.inr h.2⟩);clear iU ek
     go_wp2_with fail
     refine cP.out.mono ?_;rintro _ w1 ⟨u,k,rfl,hk,hb⟩;have ie:=hU.call hX hb;clear cP hU k3 z3 k4 z4 lM lN hb;have k3:=ie.cell 3 (.bool x.hh) rfl;have z3:=ie.fz 3;have k4:=ie.cell 4 (.string x.hst) rfl;have z4:=ie.fz 4;by_cases iN:k=0
     ·have U2:=Ih ((ie.setF hX 4 (.string u) {x with hst:=u} rfl rfl rfl).setF hX 3 (.bool true) {x with hst:=u,hh:=true} rfl rfl rfl);have bk:((k:Int) != 0)=false:=by rw[iN];rfl
      have hh:=hk.out.1 iN;have HN:Hid (Lz.aB none X.s.data.toList X.goal .host i .pStart ⟨[],a,p,n,MkV.url {x with hst:=u,hh:=true}⟩ ((i:Int)-1)):=Ih (Lz.xw HI.out HR.out VM.out Oq.out hh);clear iN hh hk
      go_wp2_with fail
      exact⟨.pStart,_,_,_,_,_,{x with hst:=u,hh:=true},_,_,_,_,_,_,_,rfl,rfl,U2.out,aM (by nofun),(by nofun),HN.out⟩
     ·have bk:((k:Int) != 0)=true:=by rw[bne,beq_eq_false_iff_ne.2 (by omega)];rfl
      have hh:=hk.out.2 iN;have HG:Hid (X.goal=.er k):=Ih (Lz.oD HI.out HR.out hc.out Gh.out hh);have lM:=Ih ie.non;have lN:=Ih ie.res;clear iN hh hk
      go_wp2_with (first |(refine wpList_load_row rfl 26 (.tmp 7) rfl X.N rfl 26 bC (0,0) _ lM.out Tryz.underlying26 rfl bd ?_)|(refine wpList_store_row rfl 26 (.tmp 4) (.tmp 426) rfl X.B bC rfl rfl 26 bC lN.out bd rfl (by simp[Value.oneCell']) ?_))
      exact⟨k,_,_,_,_,_,HG.out,rfl,rfl,az ie.below (Nat.le_refl _),setRow_heap _ _ _ _ _ _ lN.out⟩
end Go.Proofs.YtlcbhacofagedaaGreatDoor
