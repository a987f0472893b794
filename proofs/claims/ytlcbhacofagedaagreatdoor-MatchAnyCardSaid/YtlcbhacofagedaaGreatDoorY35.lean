/-
  lazaretref08.run: start, fragment, query.
-/
import Derived.Test.YtlcbhacofagedaaGreatDoorY30
import Derived.Test.YtlcbhacofagedaaGreatDoorY34
set_option maxHeartbeats 4000000
set_option maxRecDepth 100000
namespace Go.Proofs.YtlcbhacofagedaaGreatDoor
open Go.RowKit
attribute [local go_sem ↓] Go.wp_at_zero Go.wp_at_succ
theorem gP {s:ByteArray} {i:Nat} {c:UInt8} {r:List UInt8} (h:s.data.toList.drop i=c::r) (hi:i<s.size):(s.extract i (i+1)).data.toList=[c]:=by
 rw[oM s i hi];rw[List.drop_eq_getElem_cons (by rw[aa];exact hi)]at h;injection h with h _
 rw[<-h];rfl
theorem iJ {s:ByteArray} {i:Nat} {c:UInt8} (h:(s.extract i (i+1)).data.toList=[c]):(s.extract i (i+1)).size=1:=by rw[<-aa,h];rfl
theorem kZ {u:ByteArray} {of:List UInt8} {c:UInt8} (h:u.data.toList=Lz.ah of [c]):u.size<=3:=by
 have:=Lz.dD of [c];rw[<-h,aa]at this;exact this
theorem MF:kc 0 .start:=by
 (intro X x buf a p n i e c nx sp sl ov f w hX hU hO hI d5 hR;subst d5;have ff:=hI.1;have dV:=hX.size;rw[aa]at ff;have wm:IntKind.i64.wrap ((i:Int)-1)=(i:Int)-1:=IntWalk.i64_in _ (by omega);have wp:IntKind.i64.wrap ((i:Int)+1)=(i:Int)+1:=IntWalk.i64_in _ (by omega);have HI:=Ih hI;have HR:=Ih hR;clear hI hR;unfold FR;conv=>(arg 2;whnf))
 clear hO;cases e with
 | true=>
   go_wp2_with fail
   exact⟨.none,_,_,_,_,_,x,_,_,_,_,_,_,_,rfl,rfl,hU,aM (by nofun),(by nofun),Lz.xB HI.out HR.out (by nofun)⟩
 | false=>
   (have aN:=(Lz.Rd.no HR.out rfl).1;rw[aa]at aN;have bn:(i:Int)+1<=(X.s.size:Int):=(by omega);have tK:(0:Int)<=(i:Int):=(by omega);have eA:(i:Int)<=(i:Int)+1:=(by omega);have HX:Hid ((X.s.extract i (i+1)).data.toList=[c]):=Ih (gP (Lz.Rd.no HR.out rfl).2.1 aN))
   have cA:=nd c w;cases jQ:Lz.aW c with
   | false=>
     rw[jQ]at cA;have HA:=Ih jQ;have CA:=Ih cA;clear jQ cA
     go_wp2_with fail
     refine CA.out.mono ?_;rintro _ w1 ⟨rfl,rfl⟩
     go_wp2_with fail
     exact⟨.none,_,_,_,_,_,x,_,_,_,_,_,_,_,rfl,rfl,hU,aM (by nofun),(by nofun),Lz.xB HI.out HR.out (fun _=>HA.out)⟩
   | true=>
     rw[jQ]at cA;have HA:=Ih jQ;have CA:=Ih cA;have cL:=Ih (fh (X.s.extract i (i+1)) (by rw[iJ HX.out];omega) w);clear jQ cA
     go_wp2_with fail
     refine CA.out.mono ?_;rintro _ w1 ⟨rfl,rfl⟩
     go_wp2_with fail
     refine cL.out.mono ?_;rintro _ w1 ⟨u,rfl,hu,hb⟩;have ie:=hU.call hX hb
     have HN:Hid (Lz.aB none X.s.data.toList X.goal .start i .scheme ⟨u.data.toList,a,p,n,x.url⟩ (i:Int)):=Ih (by
      rw[hu.out,HX.out];exact Lz.JB HI.out HR.out rfl HA.out)
     clear hu hb
     go_wp2_with fail
     exact⟨.scheme,_,_,_,_,_,x,_,_,_,_,_,_,_,rfl,rfl,ie,aM (by nofun),(by nofun),HN.out⟩
theorem Re:kc 19 .frag:=by
 (intro X x buf a p n i e c nx sp sl ov f w hX hU hO hI d5 hR;subst d5;have ff:=hI.1;have dV:=hX.size;rw[aa]at ff;have wm:IntKind.i64.wrap ((i:Int)-1)=(i:Int)-1:=IntWalk.i64_in _ (by omega);have wp:IntKind.i64.wrap ((i:Int)+1)=(i:Int)+1:=IntWalk.i64_in _ (by omega);have HI:=Ih hI;have HR:=Ih hR;clear hI hR;unfold FR;conv=>(arg 2;whnf))
 clear hO;cases e with
 | true=>
   go_wp2_with fail
   exact⟨.frag,_,_,_,_,_,x,_,_,_,_,_,_,_,rfl,rfl,hU,aM (by nofun),(by nofun),Lz.FE HI.out HR.out rfl⟩
 | false=>
   (have aN:=(Lz.Rd.no HR.out rfl).1;rw[aa]at aN;have bn:(i:Int)+1<=(X.s.size:Int):=(by omega);have tK:(0:Int)<=(i:Int):=(by omega);have eA:(i:Int)<=(i:Int)+1:=(by omega);have HX:Hid ((X.s.extract i (i+1)).data.toList=[c]):=Ih (gP (Lz.Rd.no HR.out rfl).2.1 aN))
   have XK:x.frg.size<=75000:=by have:=HI.out.2.1;simp only[MkV.url,aa]at this;omega
   have cE:Hid (∀V,UAt X V x->Calls Tryz.prog 27 #[.string (X.s.extract i (i+1)),.int .i64 1] V fun e w'=>∃u:ByteArray,e=.returned (.string u)/\(Hid (u.data.toList=Lz.ah (Lz.bc 1) [c])/\u.size<=3)/\UAt X w' x):=Ih (fun V hV=>(eS _ 1 (by omega) (by rw[iJ HX.out];omega) V).mono fun e w' ⟨u,h1,h2,h3⟩=>⟨u,h1,⟨Ih (by rw[h2.out,HX.out]),kZ (by rw[h2.out,HX.out])⟩,hV.call hX h3⟩);have nM:=hU.call hX (Below.refl _ w).drew
   go_wp2_with fail
   refine qZ (fun A hA=>?_);have sA:A.tmps.size=781:=by rw[hA];rfl
   have e0:A.tmps[0]'(by rw[sA];decide)=.string X.s:=by subst hA;rfl
   have e6:A.tmps[6]'(by rw[sA];decide)=.pointer (some ⟨X.M,0,none⟩):=by subst hA;rfl
   have e13:A.tmps[13]'(by rw[sA];decide)=.int .i64 i:=by subst hA;rfl
   have HA:=Ih hA;clear hA;have K2:=nM.below;refine wp_region_held_drew (S:=fun V=>Below X.B X.w0 V) (by kernel_rfl) K2 (fun ar=>?_);refine TkL 0 ?_;refine TkL 2 ?_;refine TkL 3 ?_;refine TkL 4 ?_;refine TkL 5 ?_;refine TkL 6 ?_;refine wpAnyH_ready (rs:=[1,7]) (by kernel_rfl) (by simp) ?_;refine AllReadyH.cons rfl (fun K hK=>?_) ?_
   ·have kk:=UAt.cell nM 11 (.string x.frg) rfl;go_simp;refine hK.out _ _ nM.below (fun ar=>?_);clear hK K kk;refine RyL 7 (fun K hK=>?_);go_simp
    go_at_call 27
    refine(cE.out _ nM).mono ?_;rintro _ w4 ⟨u,rfl,⟨hu,jn⟩,oz⟩;refine hK.out _ _ oz.below (fun ar=>?_);clear hK K;have g8:¬(9223372036854775807<x.frg.size+u.size):=by omega
    refine TkL 8 ?_;refine TkL 9 ?_;refine RyL 10 (fun K hK=>?_);have kk:=UAt.cell oz 11 (.string x.frg) rfl;have zz:=UAt.fz oz 11;have U5:=Ih (oz.setF hX 11 (.string (x.frg++u)) {x with frg:=x.frg++u} rfl rfl rfl)
    have HN:Hid (Lz.aB none X.s.data.toList X.goal .frag i .frag ⟨buf.data.toList,a,p,n,MkV.url {x with frg:=x.frg++u}⟩ (i:Int)):=Ih (by
     show Lz.aB _ _ _ _ _ _ ⟨_,_,_,_,{x.url with fragment:=(x.frg++u).data.toList}⟩ _;rw[ai,hu.out];exact Lz.BE HI.out HR.out rfl)
    clear hu;go_simp;refine hK.out _ _ U5.out.below (fun ar=>?_);clear hK K;refine wpAnyH_done (by kernel_rfl) ?_ _;clear e0 e6 e13 sA;obtain rfl:=HA.out;simp only[List.setIfInBounds_toArray];exact⟨.frag,_,_,_,_,_,{x with frg:=x.frg++u},_,_,_,_,_,_,_,(by simp only[List.length_set];rfl),rfl,U5.out,aM (by nofun),(by nofun),HN.out⟩
   ·refine AllReadyH.cons rfl (fun K hK=>?_) AllReadyH.nil;go_simp
    go_at_call 27
    refine(cE.out _ nM).mono ?_;rintro _ w4 ⟨u,rfl,⟨hu,jn⟩,oz⟩;refine hK.out _ _ oz.below (fun ar=>?_);clear hK K;have g8:¬(9223372036854775807<x.frg.size+u.size):=by omega
    have kk:=UAt.cell oz 11 (.string x.frg) rfl;have zz:=UAt.fz oz 11;refine RyL 1 (fun K hK=>?_);go_simp;refine hK.out _ _ oz.below (fun ar=>?_);clear hK K;refine TkL 8 ?_;refine TkL 9 ?_;refine RyL 10 (fun K hK=>?_);have U5:=Ih (oz.setF hX 11 (.string (x.frg++u)) {x with frg:=x.frg++u} rfl rfl rfl)
    have HN:Hid (Lz.aB none X.s.data.toList X.goal .frag i .frag ⟨buf.data.toList,a,p,n,MkV.url {x with frg:=x.frg++u}⟩ (i:Int)):=Ih (by
     show Lz.aB _ _ _ _ _ _ ⟨_,_,_,_,{x.url with fragment:=(x.frg++u).data.toList}⟩ _;rw[ai,hu.out];exact Lz.BE HI.out HR.out rfl)
    clear hu;go_simp;refine hK.out _ _ U5.out.below (fun ar=>?_);clear hK K;refine wpAnyH_done (by kernel_rfl) ?_ _;clear e0 e6 e13 sA;obtain rfl:=HA.out;simp only[List.setIfInBounds_toArray];exact⟨.frag,_,_,_,_,_,{x with frg:=x.frg++u},_,_,_,_,_,_,_,(by simp only[List.length_set];rfl),rfl,U5.out,aM (by nofun),(by nofun),HN.out⟩
theorem NM:kc 18 .query:=by
 (intro X x buf a p n i e c nx sp sl ov f w hX hU hO hI d5 hR;have ff:=hI.1;have dV:=hX.size;rw[aa]at ff;have wm:IntKind.i64.wrap ((i:Int)-1)=(i:Int)-1:=IntWalk.i64_in _ (by omega);have wp:IntKind.i64.wrap ((i:Int)+1)=(i:Int)+1:=IntWalk.i64_in _ (by omega);have HI:=Ih hI;have HS:=Ih d5;have HR:Hid (Lz.Rd X.s.data.toList (Lz.ae x.url.scheme) i e c nx sl ov):=Ih (d5▸hR);clear hI hR d5;unfold FR;conv=>(arg 2;whnf))
 clear hO;by_cases km:c=35
 ·have OV:((c.toNat:Int)==35)=true:=ij km;have PB:=Ih km;clear km;have k9:=hU.cell 9 _ rfl;have z9:=hU.fz 9;have U9:=Ih (hU.setF hX 9 (.bool true) {x with hf:=true} rfl rfl rfl)
  go_wp2_with fail
  exact⟨.frag,_,_,_,_,_,{x with hf:=true},_,_,_,_,_,_,_,rfl,rfl,U9.out,aM (by nofun),(by nofun),Lz.Jp HI.out HR.out PB.out⟩
 ·have OV:((c.toNat:Int)==35)=false:=gi km;have PB:=Ih km;clear km;cases e with
  | true=>
    go_wp2_with fail
    exact⟨.query,_,_,_,_,_,x,_,_,_,_,_,_,_,rfl,rfl,hU,aM (by nofun),(by nofun),Lz.Co HI.out HR.out rfl⟩
  | false=>
  cases sp with
  | true=>
    have HQ:Hid (Lz.aB none X.s.data.toList X.goal .query i .query ⟨buf.data.toList,a,p,n,{x.url with query:=x.qry.data.toList++Lz.ah (Lz.bc 3) [c]}⟩ (i:Int)):=by
     have h:=Lz.xf HI.out HR.out rfl PB.out;rw[show Lz.zw _=Lz.bc 3 by unfold Lz.zw;rw[<-HS.out];rfl]at h;exact Ih h
    (have aN:=(Lz.Rd.no HR.out rfl).1;rw[aa]at aN;have bn:(i:Int)+1<=(X.s.size:Int):=(by omega);have tK:(0:Int)<=(i:Int):=(by omega);have eA:(i:Int)<=(i:Int)+1:=(by omega);have HX:Hid ((X.s.extract i (i+1)).data.toList=[c]):=Ih (gP (Lz.Rd.no HR.out rfl).2.1 aN))
    have XK:x.qry.size<=75000:=by have:=HI.out.2.2.2.1;simp only[MkV.url,aa]at this;omega
    have cE:Hid (∀V,UAt X V x->Calls Tryz.prog 27 #[.string (X.s.extract i (i+1)),.int .i64 3] V fun e w'=>∃u:ByteArray,e=.returned (.string u)/\(Hid (u.data.toList=Lz.ah (Lz.bc 3) [c])/\u.size<=3)/\UAt X w' x):=Ih (fun V hV=>(eS _ 3 (by omega) (by rw[iJ HX.out];omega) V).mono fun e w' ⟨u,h1,h2,h3⟩=>⟨u,h1,⟨Ih (by rw[h2.out,HX.out]),kZ (by rw[h2.out,HX.out])⟩,hV.call hX h3⟩);have nM:=hU.call hX (Below.refl _ w).drew
    go_wp2_with fail
    refine qZ (fun A hA=>?_);have sA:A.tmps.size=781:=by rw[hA];rfl
    have e0:A.tmps[0]'(by rw[sA];decide)=.string X.s:=by subst hA;rfl
    have e6:A.tmps[6]'(by rw[sA];decide)=.pointer (some ⟨X.M,0,none⟩):=by subst hA;rfl
    have e13:A.tmps[13]'(by rw[sA];decide)=.int .i64 i:=by subst hA;rfl
    have HA:=Ih hA;clear hA;have K2:=nM.below;refine wp_region_held_drew (S:=fun V=>Below X.B X.w0 V) (by kernel_rfl) K2 (fun ar=>?_);refine TkL 0 ?_;refine TkL 2 ?_;refine TkL 3 ?_;refine TkL 4 ?_;refine TkL 5 ?_;refine TkL 6 ?_;refine wpAnyH_ready (rs:=[1,7]) (by kernel_rfl) (by simp) ?_;refine AllReadyH.cons rfl (fun K hK=>?_) ?_
    ·have kk:=UAt.cell nM 10 (.string x.qry) rfl;go_simp;refine hK.out _ _ nM.below (fun ar=>?_);clear hK K kk;refine RyL 7 (fun K hK=>?_);go_simp
     go_at_call 27
     refine(cE.out _ nM).mono ?_;rintro _ w4 ⟨u,rfl,⟨hu,jn⟩,oz⟩;refine hK.out _ _ oz.below (fun ar=>?_);clear hK K;have g8:¬(9223372036854775807<x.qry.size+u.size):=by omega
     refine TkL 8 ?_;refine TkL 9 ?_;refine RyL 10 (fun K hK=>?_);have kk:=UAt.cell oz 10 (.string x.qry) rfl;have zz:=UAt.fz oz 10;have U5:=Ih (oz.setF hX 10 (.string (x.qry++u)) {x with qry:=x.qry++u} rfl rfl rfl)
     have HN:Hid (Lz.aB none X.s.data.toList X.goal .query i .query ⟨buf.data.toList,a,p,n,MkV.url {x with qry:=x.qry++u}⟩ (i:Int)):=Ih (by
      show Lz.aB _ _ _ _ _ _ ⟨_,_,_,_,{x.url with query:=(x.qry++u).data.toList}⟩ _;rw[ai,hu.out];exact HQ.out)
     clear hu;go_simp;refine hK.out _ _ U5.out.below (fun ar=>?_);clear hK K;refine wpAnyH_done (by kernel_rfl) ?_ _;clear e0 e6 e13 sA;obtain rfl:=HA.out;simp only[List.setIfInBounds_toArray];exact⟨.query,_,_,_,_,_,{x with qry:=x.qry++u},_,_,_,_,_,_,_,(by simp only[List.length_set];rfl),rfl,U5.out,aM (by nofun),(by nofun),HN.out⟩
    ·refine AllReadyH.cons rfl (fun K hK=>?_) AllReadyH.nil;go_simp
     go_at_call 27
     refine(cE.out _ nM).mono ?_;rintro _ w4 ⟨u,rfl,⟨hu,jn⟩,oz⟩;refine hK.out _ _ oz.below (fun ar=>?_);clear hK K;have g8:¬(9223372036854775807<x.qry.size+u.size):=by omega
     have kk:=UAt.cell oz 10 (.string x.qry) rfl;have zz:=UAt.fz oz 10;refine RyL 1 (fun K hK=>?_);go_simp;refine hK.out _ _ oz.below (fun ar=>?_);clear hK K;refine TkL 8 ?_;refine TkL 9 ?_;refine RyL 10 (fun K hK=>?_);have U5:=Ih (oz.setF hX 10 (.string (x.qry++u)) {x with qry:=x.qry++u} rfl rfl rfl)
     have HN:Hid (Lz.aB none X.s.data.toList X.goal .query i .query ⟨buf.data.toList,a,p,n,MkV.url {x with qry:=x.qry++u}⟩ (i:Int)):=Ih (by
      show Lz.aB _ _ _ _ _ _ ⟨_,_,_,_,{x.url with query:=(x.qry++u).data.toList}⟩ _;rw[ai,hu.out];exact HQ.out)
     clear hu;go_simp;refine hK.out _ _ U5.out.below (fun ar=>?_);clear hK K;refine wpAnyH_done (by kernel_rfl) ?_ _;clear e0 e6 e13 sA;obtain rfl:=HA.out;simp only[List.setIfInBounds_toArray];exact⟨.query,_,_,_,_,_,{x with qry:=x.qry++u},_,_,_,_,_,_,_,(by simp only[List.length_set];rfl),rfl,U5.out,aM (by nofun),(by nofun),HN.out⟩
  | false=>
    have HQ:Hid (Lz.aB none X.s.data.toList X.goal .query i .query ⟨buf.data.toList,a,p,n,{x.url with query:=x.qry.data.toList++Lz.ah (Lz.bc 2) [c]}⟩ (i:Int)):=by
     have h:=Lz.xf HI.out HR.out rfl PB.out;rw[show Lz.zw _=Lz.bc 2 by unfold Lz.zw;rw[<-HS.out];rfl]at h;exact Ih h
    (have aN:=(Lz.Rd.no HR.out rfl).1;rw[aa]at aN;have bn:(i:Int)+1<=(X.s.size:Int):=(by omega);have tK:(0:Int)<=(i:Int):=(by omega);have eA:(i:Int)<=(i:Int)+1:=(by omega);have HX:Hid ((X.s.extract i (i+1)).data.toList=[c]):=Ih (gP (Lz.Rd.no HR.out rfl).2.1 aN))
    have XK:x.qry.size<=75000:=by have:=HI.out.2.2.2.1;simp only[MkV.url,aa]at this;omega
    have cE:Hid (∀V,UAt X V x->Calls Tryz.prog 27 #[.string (X.s.extract i (i+1)),.int .i64 2] V fun e w'=>∃u:ByteArray,e=.returned (.string u)/\(Hid (u.data.toList=Lz.ah (Lz.bc 2) [c])/\u.size<=3)/\UAt X w' x):=Ih (fun V hV=>(eS _ 2 (by omega) (by rw[iJ HX.out];omega) V).mono fun e w' ⟨u,h1,h2,h3⟩=>⟨u,h1,⟨Ih (by rw[h2.out,HX.out]),kZ (by rw[h2.out,HX.out])⟩,hV.call hX h3⟩);have nM:=hU.call hX (Below.refl _ w).drew
    go_wp2_with fail
    refine qZ (fun A hA=>?_);have sA:A.tmps.size=781:=by rw[hA];rfl
    have e0:A.tmps[0]'(by rw[sA];decide)=.string X.s:=by subst hA;rfl
    have e6:A.tmps[6]'(by rw[sA];decide)=.pointer (some ⟨X.M,0,none⟩):=by subst hA;rfl
    have e13:A.tmps[13]'(by rw[sA];decide)=.int .i64 i:=by subst hA;rfl
    have HA:=Ih hA;clear hA;have K2:=nM.below;refine wp_region_held_drew (S:=fun V=>Below X.B X.w0 V) (by kernel_rfl) K2 (fun ar=>?_);refine TkL 0 ?_;refine TkL 2 ?_;refine TkL 3 ?_;refine TkL 4 ?_;refine TkL 5 ?_;refine TkL 6 ?_;refine wpAnyH_ready (rs:=[1,7]) (by kernel_rfl) (by simp) ?_;refine AllReadyH.cons rfl (fun K hK=>?_) ?_
    ·have kk:=UAt.cell nM 10 (.string x.qry) rfl;go_simp;refine hK.out _ _ nM.below (fun ar=>?_);clear hK K kk;refine RyL 7 (fun K hK=>?_);go_simp
     go_at_call 27
     refine(cE.out _ nM).mono ?_;rintro _ w4 ⟨u,rfl,⟨hu,jn⟩,oz⟩;refine hK.out _ _ oz.below (fun ar=>?_);clear hK K;have g8:¬(9223372036854775807<x.qry.size+u.size):=by omega
     refine TkL 8 ?_;refine TkL 9 ?_;refine RyL 10 (fun K hK=>?_);have kk:=UAt.cell oz 10 (.string x.qry) rfl;have zz:=UAt.fz oz 10;have U5:=Ih (oz.setF hX 10 (.string (x.qry++u)) {x with qry:=x.qry++u} rfl rfl rfl)
     have HN:Hid (Lz.aB none X.s.data.toList X.goal .query i .query ⟨buf.data.toList,a,p,n,MkV.url {x with qry:=x.qry++u}⟩ (i:Int)):=Ih (by
      show Lz.aB _ _ _ _ _ _ ⟨_,_,_,_,{x.url with query:=(x.qry++u).data.toList}⟩ _;rw[ai,hu.out];exact HQ.out)
     clear hu;go_simp;refine hK.out _ _ U5.out.below (fun ar=>?_);clear hK K;refine wpAnyH_done (by kernel_rfl) ?_ _;clear e0 e6 e13 sA;obtain rfl:=HA.out;simp only[List.setIfInBounds_toArray];exact⟨.query,_,_,_,_,_,{x with qry:=x.qry++u},_,_,_,_,_,_,_,(by simp only[List.length_set];rfl),rfl,U5.out,aM (by nofun),(by nofun),HN.out⟩
    ·refine AllReadyH.cons rfl (fun K hK=>?_) AllReadyH.nil;go_simp
     go_at_call 27
     refine(cE.out _ nM).mono ?_;rintro _ w4 ⟨u,rfl,⟨hu,jn⟩,oz⟩;refine hK.out _ _ oz.below (fun ar=>?_);clear hK K;have g8:¬(9223372036854775807<x.qry.size+u.size):=by omega
     have kk:=UAt.cell oz 10 (.string x.qry) rfl;have zz:=UAt.fz oz 10;refine RyL 1 (fun K hK=>?_);go_simp;refine hK.out _ _ oz.below (fun ar=>?_);clear hK K;refine TkL 8 ?_;refine TkL 9 ?_;refine RyL 10 (fun K hK=>?_);have U5:=Ih (oz.setF hX 10 (.string (x.qry++u)) {x with qry:=x.qry++u} rfl rfl rfl)
     have HN:Hid (Lz.aB none X.s.data.toList X.goal .query i .query ⟨buf.data.toList,a,p,n,MkV.url {x with qry:=x.qry++u}⟩ (i:Int)):=Ih (by
      show Lz.aB _ _ _ _ _ _ ⟨_,_,_,_,{x.url with query:=(x.qry++u).data.toList}⟩ _;rw[ai,hu.out];exact HQ.out)
     clear hu;go_simp;refine hK.out _ _ U5.out.below (fun ar=>?_);clear hK K;refine wpAnyH_done (by kernel_rfl) ?_ _;clear e0 e6 e13 sA;obtain rfl:=HA.out;simp only[List.setIfInBounds_toArray];exact⟨.query,_,_,_,_,_,{x with qry:=x.qry++u},_,_,_,_,_,_,_,(by simp only[List.length_set];rfl),rfl,U5.out,aM (by nofun),(by nofun),HN.out⟩
end Go.Proofs.YtlcbhacofagedaaGreatDoor
