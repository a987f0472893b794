/-
  lazaretref08.run: the states that read no base and no authority.
-/
import Derived.Test.YtlcbhacofagedaaGreatDoorY29
set_option maxHeartbeats 4000000
set_option maxRecDepth 100000
namespace Go.Proofs.YtlcbhacofagedaaGreatDoor
open Go.RowKit
theorem ij {c k:UInt8} (h:c=k):((c.toNat:Int)==(k.toNat:Int))=true:=by rw[h];simp
theorem gi {c k:UInt8} (h:¬c=k):((c.toNat:Int)==(k.toNat:Int))=false:=by
 rw[beq_eq_false_iff_ne];intro e;exact h (UInt8.toNat_inj.1 (by omega))
theorem Yu {c k:UInt8} (h:c=k):((c.toNat:Int) != (k.toNat:Int))=false:=by rw[bne,ij h];rfl
theorem Ua {c k:UInt8} (h:¬c=k):((c.toNat:Int) != (k.toNat:Int))=true:=by rw[bne,gi h];rfl
theorem UK:kc 8 .ign:=by
 (intro X x buf a p n i e c nx sp sl ov f w hX hU hO hI d5 hR;subst d5;have ff:=hI.1;have dV:=hX.size;rw[aa]at ff;have wm:IntKind.i64.wrap ((i:Int)-1)=(i:Int)-1:=IntWalk.i64_in _ (by omega);have wp:IntKind.i64.wrap ((i:Int)+1)=(i:Int)+1:=IntWalk.i64_in _ (by omega);have HI:=Ih hI;have HR:=Ih hR;clear hI hR;unfold FR;conv=>(arg 2;whnf))
 clear hO;cases sl with
 | false=>
   go_wp2_with fail
   exact⟨.auth,_,_,_,_,_,x,_,_,_,_,_,_,_,rfl,rfl,hU,aM (by nofun),(by nofun),Lz.Ek HI.out HR.out rfl⟩
 | true=>
   go_wp2_with fail
   exact⟨.ign,_,_,_,_,_,x,_,_,_,_,_,_,_,rfl,rfl,hU,aM (by nofun),(by nofun),Lz.Cm HI.out HR.out rfl⟩
theorem YD:kc 4 .pa:=by
 (intro X x buf a p n i e c nx sp sl ov f w hX hU hO hI d5 hR;subst d5;have ff:=hI.1;have dV:=hX.size;rw[aa]at ff;have wm:IntKind.i64.wrap ((i:Int)-1)=(i:Int)-1:=IntWalk.i64_in _ (by omega);have wp:IntKind.i64.wrap ((i:Int)+1)=(i:Int)+1:=IntWalk.i64_in _ (by omega);have HI:=Ih hI;have HR:=Ih hR;clear hI hR;unfold FR;conv=>(arg 2;whnf))
 clear hO;by_cases lK:c=47
 ·have SA:((c.toNat:Int)==47)=true:=ij lK;have KC:=Ih lK;clear lK
  go_wp2_with fail
  exact⟨.auth,_,_,_,_,_,x,_,_,_,_,_,_,_,rfl,rfl,hU,aM (by nofun),(by nofun),Lz.IS HI.out HR.out KC.out⟩
 ·have SA:((c.toNat:Int)==47)=false:=gi lK;have KC:=Ih lK;clear lK
  go_wp2_with fail
  exact⟨.path,_,_,_,_,_,x,_,_,_,_,_,_,_,rfl,rfl,hU,aM (by nofun),(by nofun),Lz.Kv HI.out HR.out KC.out⟩
theorem Nv:kc 3 .spRel:=by
 intro _ _ _ _ _ _ _ _ _ _ _ _ _ _ _ _ _ _ hI;obtain⟨_,_,_,_,h,_⟩:=hI;cases h
theorem Vx:kc 5 .rel:=by
 intro _ _ _ _ _ _ _ _ _ _ _ _ _ _ _ _ _ _ hI;obtain⟨_,_,_,_,h,_⟩:=hI;cases h
theorem Rl:kc 6 .relS:=by
 intro _ _ _ _ _ _ _ _ _ _ _ _ _ _ _ _ _ _ hI;obtain⟨_,_,_,_,h,_⟩:=hI;cases h
theorem PM:kc 7 .spSl:=by
 (intro X x buf a p n i e c nx sp sl ov f w hX hU hO hI d5 hR;subst d5;have ff:=hI.1;have dV:=hX.size;rw[aa]at ff;have wm:IntKind.i64.wrap ((i:Int)-1)=(i:Int)-1:=IntWalk.i64_in _ (by omega);have wp:IntKind.i64.wrap ((i:Int)+1)=(i:Int)+1:=IntWalk.i64_in _ (by omega);have HI:=Ih hI;have HR:=Ih hR;clear hI hR;unfold FR;conv=>(arg 2;whnf))
 clear hO;by_cases lK:c=47
 ·have SA:((c.toNat:Int)==47)=true:=ij lK;by_cases n47:nx=47
  ·have c47:((nx.toNat:Int)==47)=true:=ij n47;have KC:=Ih lK;have N47:=Ih n47;clear lK n47
   go_wp2_with fail
   exact⟨.ign,_,_,_,_,_,x,_,_,_,_,_,_,_,rfl,rfl,hU,aM (by nofun),(by nofun),Lz.Fx HI.out HR.out KC.out N47.out⟩
  ·have c47:((nx.toNat:Int)==47)=false:=gi n47;have KC:=Ih lK;clear lK n47
   go_wp2_with fail
   exact⟨.ign,_,_,_,_,_,x,_,_,_,_,_,_,_,rfl,rfl,hU,aM (by nofun),(by nofun),Lz.yt HI.out HR.out⟩
 ·have SA:((c.toNat:Int)==47)=false:=gi lK;clear lK
  go_wp2_with fail
  exact⟨.ign,_,_,_,_,_,x,_,_,_,_,_,_,_,rfl,rfl,hU,aM (by nofun),(by nofun),Lz.yt HI.out HR.out⟩
theorem JE:kc 15 .pStart:=by
 (intro X x buf a p n i e c nx sp sl ov f w hX hU hO hI d5 hR;have ff:=hI.1;have dV:=hX.size;rw[aa]at ff;have wm:IntKind.i64.wrap ((i:Int)-1)=(i:Int)-1:=IntWalk.i64_in _ (by omega);have wp:IntKind.i64.wrap ((i:Int)+1)=(i:Int)+1:=IntWalk.i64_in _ (by omega);have HI:=Ih hI;have HS:=Ih d5;have HR:Hid (Lz.Rd X.s.data.toList (Lz.ae x.url.scheme) i e c nx sl ov):=Ih (d5▸hR);clear hI hR d5;unfold FR;conv=>(arg 2;whnf))
 clear hO;cases sp with
 | true=>
   cases sl with
   | true=>
     go_wp2_with fail
     exact⟨.path,_,_,_,_,_,x,_,_,_,_,_,_,_,rfl,rfl,hU,aM (by nofun),(by nofun),Lz.P3 HI.out HR.out HS.out.symm rfl⟩
   | false=>
     go_wp2_with fail
     exact⟨.path,_,_,_,_,_,x,_,_,_,_,_,_,_,rfl,rfl,hU,aM (by nofun),(by nofun),Lz.QU HI.out HR.out HS.out.symm rfl⟩
 | false=>
   have k8:=hU.cell 8 _ rfl;have z8:=hU.fz 8;have k9:=hU.cell 9 _ rfl;have z9:=hU.fz 9;have U8:=Ih (hU.set hX 8 (.bool true) (x':={x with hq:=true}) rfl hU.own);have U9:=Ih (hU.set hX 9 (.bool true) (x':={x with hf:=true}) rfl hU.own);by_cases kV:c=63
   ·have TA:((c.toNat:Int)==63)=true:=ij kV;have H63:=Ih kV;clear kV
    go_wp2_with fail
    exact⟨.query,_,_,_,_,_,{x with hq:=true},_,_,_,_,_,_,_,rfl,rfl,U8.out,aM (by nofun),(by nofun),Lz.UX HI.out HR.out HS.out.symm H63.out⟩
   ·have TA:((c.toNat:Int)==63)=false:=gi kV;have H63:=Ih kV;clear kV;by_cases km:c=35
    ·have OV:((c.toNat:Int)==35)=true:=ij km;have PB:=Ih km;clear km
     go_wp2_with fail
     exact⟨.frag,_,_,_,_,_,{x with hf:=true},_,_,_,_,_,_,_,rfl,rfl,U9.out,aM (by nofun),(by nofun),Lz.UV HI.out HR.out HS.out.symm PB.out⟩
    ·have OV:((c.toNat:Int)==35)=false:=gi km;have PB:=Ih km;clear km;cases e with
     | true=>
       go_wp2_with fail
       exact⟨.pStart,_,_,_,_,_,x,_,_,_,_,_,_,_,rfl,rfl,hU,aM (by nofun),(by nofun),Lz.Mg HI.out HR.out HS.out.symm rfl⟩
     | false=>
       by_cases lK:c=47
       ·have SA:((c.toNat:Int) != 47)=false:=Yu lK;have KC:=Ih lK;clear lK
        go_wp2_with fail
        exact⟨.path,_,_,_,_,_,x,_,_,_,_,_,_,_,rfl,rfl,hU,aM (by nofun),(by nofun),Lz.IC HI.out HR.out HS.out.symm KC.out⟩
       ·have SA:((c.toNat:Int) != 47)=true:=Ua lK;have KC:=Ih lK;clear lK
        go_wp2_with fail
        exact⟨.path,_,_,_,_,_,x,_,_,_,_,_,_,_,rfl,rfl,hU,aM (by nofun),(by nofun),Lz.Ud HI.out HR.out HS.out.symm rfl KC.out H63.out PB.out⟩
end Go.Proofs.YtlcbhacofagedaaGreatDoor
