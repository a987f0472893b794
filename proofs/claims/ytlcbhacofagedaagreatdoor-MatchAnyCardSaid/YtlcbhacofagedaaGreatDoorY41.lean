/-
  lazaretref08.run: opaque.
-/
import Derived.Test.YtlcbhacofagedaaGreatDoorY35
set_option maxHeartbeats 16000000
set_option maxRecDepth 100000
namespace Go.Proofs.YtlcbhacofagedaaGreatDoor
open Go.RowKit
attribute [local go_sem ↓] Go.wp_at_zero Go.wp_at_succ
private theorem stL_eta (X:RX) (st buf:ByteArray) (a p n:Bool) (j:Int) (e:Bool) (c nx:UInt8) (sp sl ov:Bool) (l l':List Value):(⟨(stL X st buf a p n j e c nx sp sl ov l).tmps,(stL X st buf a p n j e c nx sp sl ov l').defers⟩:Act)=stL X st buf a p n j e c nx sp sl ov l:=rfl
theorem yL {w:World} {G B:Nat} {cs W7:Array Value} {fr fr':Nat×Nat} (h:w.heap[B]? =some (.cells cs 26 fr)) (hG:w.heap[G]? =some (.cells W7 9 fr')):B≠G:=by
 rintro rfl;rw[h]at hG;injection hG with h1
 injection h1 with _ h2 _
 exact yO h2
theorem UAt.setG {X:RX} {w:World} {x:MkV} (_:X.Ok) (h:UAt X w x) {G:Nat} {y:ByteArray} (rE:X.B<=G) (iM:x.pv=.slice (some ⟨G,0,none⟩) 1 1) (hG:w.heap[G]? =some (.cells #[.string y] 9 (0,0))) (z:ByteArray):
  UAt X (w.setCell ⟨G,0,none⟩ (.string z)) {x with xs:=[z]}/\(w.setCell ⟨G,0,none⟩ (.string z)).heap[G]? =some (.cells #[.string z] 9 (0,0)):=by
 have hr:(w.setCell ⟨G,0,none⟩ (.string z)).heap[G]? =some (.cells #[.string z] 9 (0,0)):=gF hG 0 _ rfl;refine⟨⟨h.below.setCell (p:=⟨G,0,none⟩) rE _,by rw[cp (yL h.res hG)];exact h.res,by rw[cp (yL h.row hG)];exact h.row,by rw[cp (yL h.non hG)];exact h.non,.inr ⟨⟨G,0,none⟩,iM,rfl,fun j u hj=>?_,fun _=>⟨_,_,hr⟩⟩⟩,hr⟩
 have Aj:j=0:=by
  have:=(List.getElem?_eq_some_iff.1 hj).1;simpa using this
 subst Aj;have hu:Value.string z=u:=by simpa using hj
 rw[<-hu];exact rowAt hr 0 _ rfl
theorem Uq:kc 17 .opq:=by
 (intro X x buf a p n i e c nx sp sl ov f w hX hU hO hI d5 hR;subst d5;have ff:=hI.1;have dV:=hX.size;rw[aa]at ff;have wm:IntKind.i64.wrap ((i:Int)-1)=(i:Int)-1:=IntWalk.i64_in _ (by omega);have wp:IntKind.i64.wrap ((i:Int)+1)=(i:Int)+1:=IntWalk.i64_in _ (by omega);have HI:=Ih hI;have HR:=Ih hR;clear hI hR;unfold FR;conv=>(arg 2;whnf))
 obtain⟨G,y,rE,iM,d7,hG⟩:=hO rfl;clear hO;have hOq:∀(W:World) (x':MkV),x'.pv=x.pv->x'.xs=x.xs->W.heap[G]? =some (.cells #[.string y] 9 (0,0))->wG X .opq W x':=fun W x' h1 h2 h3 _=>⟨G,y,rE,by rw[h1,iM],by rw[h2,d7],h3⟩;by_cases kV:c=63
 ·have TA:((c.toNat:Int)==63)=true:=ij kV;have k8:=hU.cell 8 (.bool x.hq) rfl;have z8:=hU.fz 8;have U8:=Ih (hU.setF hX 8 (.bool true) {x with hq:=true} rfl rfl rfl);have H63:=Ih kV;clear kV iM d7 hG
  go_wp2_with fail
  exact⟨.query,_,_,_,_,_,{x with hq:=true},_,_,_,_,_,_,_,rfl,rfl,U8.out,aM (by nofun),(by nofun),Lz.P5 HI.out HR.out H63.out⟩
 ·have TA:((c.toNat:Int)==63)=false:=gi kV;by_cases km:c=35
  ·have OV:((c.toNat:Int)==35)=true:=ij km;have k9:=hU.cell 9 (.bool x.hf) rfl;have z9:=hU.fz 9;have U9:=Ih (hU.setF hX 9 (.bool true) {x with hf:=true} rfl rfl rfl);have PB:=Ih km;clear kV km iM d7 hG
   go_wp2_with fail
   exact⟨.frag,_,_,_,_,_,{x with hf:=true},_,_,_,_,_,_,_,rfl,rfl,U9.out,aM (by nofun),(by nofun),Lz.QP HI.out HR.out PB.out⟩
  ·have OV:((c.toNat:Int)==35)=false:=gi km;cases e with
   | true=>
     have HOq:=Ih (hOq w x rfl rfl hG);clear kV km iM d7 hG
     go_wp2_with fail
     exact⟨.opq,_,_,_,_,_,x,_,_,_,_,_,_,_,rfl,rfl,hU,HOq.out,(by nofun),Lz.I9 HI.out HR.out rfl⟩
   | false=>
     (have aN:=(Lz.Rd.no HR.out rfl).1;rw[aa]at aN;have bn:(i:Int)+1<=(X.s.size:Int):=(by omega);have tK:(0:Int)<=(i:Int):=(by omega);have eA:(i:Int)<=(i:Int)+1:=(by omega);have HX:Hid ((X.s.extract i (i+1)).data.toList=[c]):=Ih (gP (Lz.Rd.no HR.out rfl).2.1 aN))
     have PD:x.url.path=[y.data.toList]:=by show x.xs.map _=_;rw[d7];rfl
     have jl:y.size<=75000:=by
      obtain⟨_,_,⟨z,h2,h3⟩,_⟩:=HI.out;have h4:x.url.path=[z]:=h2;rw[PD]at h4;injection h4 with h4 _
      rw[<-h4,aa]at h3;omega
     have lM:Hid (∀u:ByteArray,u.data.toList=Lz.ah (Lz.bc 0) [c]->Hid (Lz.aB none X.s.data.toList X.goal .opq i .opq ⟨buf.data.toList,a,p,n,MkV.url {x with xs:=[y++u]}⟩ (i:Int))):=Ih (fun u hu=>Ih (by
      show Lz.aB _ _ _ _ _ _ ⟨_,_,_,_,{x.url with path:=[(y++u).data.toList]}⟩ _;rw[ai,hu];exact Lz.RA PD HI.out HR.out rfl kV km))
     have cE:Hid (∀V,UAt X V x->V.heap[G]? =some (.cells #[.string y] 9 (0,0))->Calls Tryz.prog 27 #[.string (X.s.extract i (i+1)),.int .i64 0] V fun e w'=>∃u:ByteArray,e=.returned (.string u)/\(Hid (u.data.toList=Lz.ah (Lz.bc 0) [c])/\u.size<=3)/\UAt X w' x/\w'.heap[G]? =some (.cells #[.string y] 9 (0,0))):=Ih (fun V hV hVG=>(eS _ 0 (by omega) (by rw[iJ HX.out];omega) V).mono fun e w' ⟨u,h1,h2,h3⟩=>⟨u,h1,⟨Ih (by rw[h2.out,HX.out]),kZ (by rw[h2.out,HX.out])⟩,hV.call hX h3,(h3.block _ (aI hVG)).trans hVG⟩);have hC:=hU.call hX (Below.refl _ w).drew;replace hG:w.drew.heap[G]? =some (.cells #[.string y] 9 (0,0)):=hG;clear kV km PD hOq
     go_wp2_with fail
     refine vn X (nmB .opq) buf a p n i false c nx (Lz.ae x.url.scheme) sl ov _ rfl (fun A l hl hA=>?_);have sA:A.tmps.size=781:=by rw[hA];exact vD _ _ _ _ _ _ _ _ _ _ _ _ _ _ hl
     have e0:A.tmps[0]'(by rw[sA];decide)=.string X.s:=by subst hA;rfl
     have e6:A.tmps[6]'(by rw[sA];decide)=.pointer (some ⟨X.M,0,none⟩):=by subst hA;rfl
     have e13:A.tmps[13]'(by rw[sA];decide)=.int .i64 i:=by subst hA;rfl
     have HA:=Ih hA;clear hA hU;have K2:=hC.below;refine wp_region_held_drew (S:=fun V=>Below X.B X.w0 V) (by kernel_rfl) K2 (fun ar=>?_);generalize w.drew=V0 at hC hG K2 ar⊢;clear K2;refine TkL 0 ?_;refine TkL 2 ?_;refine TkL 6 ?_;refine TkL 7 ?_;refine TkL 8 ?_;refine TkL 9 ?_;refine TkL 10 ?_;refine wpAnyH_ready (rs:=[1,3,11]) (by kernel_rfl) (by simp) ?_;refine AllReadyH.cons rfl (fun K hK=>?_) ?_
     ·skip
      have kk:V0.cell? ⟨X.M,7,none⟩=some (.slice (some ⟨G,0,none⟩) 1 1):=by have:=hC.cell 7 x.pv rfl;rw[iM]at this;exact this
      go_simp;refine hK.out _ _ hC.below (fun ar=>?_);clear hK K kk;refine wpAnyH_ready (rs:=[3,11]) (by kernel_rfl) (by simp) ?_;refine AllReadyH.cons rfl (fun K hK=>?_) ?_
      ·skip
       have kk:V0.cell? ⟨X.M,7,none⟩=some (.slice (some ⟨G,0,none⟩) 1 1):=by have:=hC.cell 7 x.pv rfl;rw[iM]at this;exact this
       go_simp;refine hK.out _ _ hC.below (fun ar=>?_);clear hK K kk;refine TkL 4 ?_;refine wpAnyH_ready (rs:=[5,11]) (by kernel_rfl) (by simp) ?_;refine AllReadyH.cons rfl (fun K hK=>?_) ?_
       ·skip
        have kk:=rowAt hG 0 (.string y) rfl;go_simp;refine hK.out _ _ hC.below (fun ar=>?_);clear hK K kk;refine wpAnyH_ready (rs:=[11]) (by kernel_rfl) (by simp) ?_;refine AllReadyH.cons rfl (fun K hK=>?_) AllReadyH.nil;go_simp
        go_at_call 27
        refine(cE.out _ hC hG).mono ?_;rintro _ V1 ⟨u,rfl,⟨hu,jn⟩,iq,ib⟩;refine hK.out _ _ iq.below (fun ar=>?_);clear hK K hC hG;have g8:¬(9223372036854775807<y.size+u.size):=by omega
        refine TkL 12 ?_;refine TkL 13 ?_;refine RyL 14 (fun K hK=>?_);have kk:=rowAt ib 0 (.string y) rfl;have zz:=bP ib 0;have U6:=iq.setG hX rE iM ib (y++u);have HN:=lM.out u hu.out;go_simp;refine hK.out _ _ U6.1.below (fun ar=>?_);clear hK K kk zz;refine wpAnyH_done (by kernel_rfl) ?_ _;clear e0 e6 e13 sA;obtain rfl:=HA.out;simp only[fm,stL_eta,Nat.reduceLeDiff,Nat.reduceSub];exact⟨.opq,_,_,_,_,_,{x with xs:=[y++u]},_,_,_,_,_,_,_,(by simp only[List.length_set];exact hl),rfl,U6.1,(fun _=>⟨G,y++u,rE,iM,rfl,U6.2⟩),(by nofun),HN.out⟩
       refine AllReadyH.cons rfl (fun K hK=>?_) AllReadyH.nil;go_simp
       go_at_call 27
       refine(cE.out _ hC hG).mono ?_;rintro _ V1 ⟨u,rfl,⟨hu,jn⟩,iq,ib⟩;refine hK.out _ _ iq.below (fun ar=>?_);clear hK K hC hG;refine wpAnyH_ready (rs:=[5]) (by kernel_rfl) (by simp) ?_;refine AllReadyH.cons rfl (fun K hK=>?_) AllReadyH.nil;have kk:=rowAt ib 0 (.string y) rfl;go_simp;refine hK.out _ _ iq.below (fun ar=>?_);clear hK K kk;have g8:¬(9223372036854775807<y.size+u.size):=by omega
       refine TkL 12 ?_;refine TkL 13 ?_;refine RyL 14 (fun K hK=>?_);have kk:=rowAt ib 0 (.string y) rfl;have zz:=bP ib 0;have U6:=iq.setG hX rE iM ib (y++u);have HN:=lM.out u hu.out;go_simp;refine hK.out _ _ U6.1.below (fun ar=>?_);clear hK K kk zz;refine wpAnyH_done (by kernel_rfl) ?_ _;clear e0 e6 e13 sA;obtain rfl:=HA.out;simp only[fm,stL_eta,Nat.reduceLeDiff,Nat.reduceSub];exact⟨.opq,_,_,_,_,_,{x with xs:=[y++u]},_,_,_,_,_,_,_,(by simp only[List.length_set];exact hl),rfl,U6.1,(fun _=>⟨G,y++u,rE,iM,rfl,U6.2⟩),(by nofun),HN.out⟩
      refine AllReadyH.cons rfl (fun K hK=>?_) AllReadyH.nil;go_simp
      go_at_call 27
      refine(cE.out _ hC hG).mono ?_;rintro _ V1 ⟨u,rfl,⟨hu,jn⟩,iq,ib⟩;refine hK.out _ _ iq.below (fun ar=>?_);clear hK K hC hG;refine wpAnyH_ready (rs:=[3]) (by kernel_rfl) (by simp) ?_;refine AllReadyH.cons rfl (fun K hK=>?_) AllReadyH.nil;have kk:V1.cell? ⟨X.M,7,none⟩=some (.slice (some ⟨G,0,none⟩) 1 1):=by have:=iq.cell 7 x.pv rfl;rw[iM]at this;exact this
      go_simp;refine hK.out _ _ iq.below (fun ar=>?_);clear hK K kk;refine TkL 4 ?_;refine wpAnyH_ready (rs:=[5]) (by kernel_rfl) (by simp) ?_;refine AllReadyH.cons rfl (fun K hK=>?_) AllReadyH.nil;have kk:=rowAt ib 0 (.string y) rfl;go_simp;refine hK.out _ _ iq.below (fun ar=>?_);clear hK K kk;have g8:¬(9223372036854775807<y.size+u.size):=by omega
      refine TkL 12 ?_;refine TkL 13 ?_;refine RyL 14 (fun K hK=>?_);have kk:=rowAt ib 0 (.string y) rfl;have zz:=bP ib 0;have U6:=iq.setG hX rE iM ib (y++u);have HN:=lM.out u hu.out;go_simp;refine hK.out _ _ U6.1.below (fun ar=>?_);clear hK K kk zz;refine wpAnyH_done (by kernel_rfl) ?_ _;clear e0 e6 e13 sA;obtain rfl:=HA.out;simp only[fm,stL_eta,Nat.reduceLeDiff,Nat.reduceSub];exact⟨.opq,_,_,_,_,_,{x with xs:=[y++u]},_,_,_,_,_,_,_,(by simp only[List.length_set];exact hl),rfl,U6.1,(fun _=>⟨G,y++u,rE,iM,rfl,U6.2⟩),(by nofun),HN.out⟩
     refine AllReadyH.cons rfl (fun K hK=>?_) ?_
     ·skip
      have kk:V0.cell? ⟨X.M,7,none⟩=some (.slice (some ⟨G,0,none⟩) 1 1):=by have:=hC.cell 7 x.pv rfl;rw[iM]at this;exact this
      go_simp;refine hK.out _ _ hC.below (fun ar=>?_);clear hK K kk;refine TkL 4 ?_;refine wpAnyH_ready (rs:=[1,5,11]) (by kernel_rfl) (by simp) ?_;refine AllReadyH.cons rfl (fun K hK=>?_) ?_
      ·skip
       have kk:V0.cell? ⟨X.M,7,none⟩=some (.slice (some ⟨G,0,none⟩) 1 1):=by have:=hC.cell 7 x.pv rfl;rw[iM]at this;exact this
       go_simp;refine hK.out _ _ hC.below (fun ar=>?_);clear hK K kk;refine wpAnyH_ready (rs:=[5,11]) (by kernel_rfl) (by simp) ?_;refine AllReadyH.cons rfl (fun K hK=>?_) ?_
       ·skip
        have kk:=rowAt hG 0 (.string y) rfl;go_simp;refine hK.out _ _ hC.below (fun ar=>?_);clear hK K kk;refine wpAnyH_ready (rs:=[11]) (by kernel_rfl) (by simp) ?_;refine AllReadyH.cons rfl (fun K hK=>?_) AllReadyH.nil;go_simp
        go_at_call 27
        refine(cE.out _ hC hG).mono ?_;rintro _ V1 ⟨u,rfl,⟨hu,jn⟩,iq,ib⟩;refine hK.out _ _ iq.below (fun ar=>?_);clear hK K hC hG;have g8:¬(9223372036854775807<y.size+u.size):=by omega
        refine TkL 12 ?_;refine TkL 13 ?_;refine RyL 14 (fun K hK=>?_);have kk:=rowAt ib 0 (.string y) rfl;have zz:=bP ib 0;have U6:=iq.setG hX rE iM ib (y++u);have HN:=lM.out u hu.out;go_simp;refine hK.out _ _ U6.1.below (fun ar=>?_);clear hK K kk zz;refine wpAnyH_done (by kernel_rfl) ?_ _;clear e0 e6 e13 sA;obtain rfl:=HA.out;simp only[fm,stL_eta,Nat.reduceLeDiff,Nat.reduceSub];exact⟨.opq,_,_,_,_,_,{x with xs:=[y++u]},_,_,_,_,_,_,_,(by simp only[List.length_set];exact hl),rfl,U6.1,(fun _=>⟨G,y++u,rE,iM,rfl,U6.2⟩),(by nofun),HN.out⟩
       refine AllReadyH.cons rfl (fun K hK=>?_) AllReadyH.nil;go_simp
       go_at_call 27
       refine(cE.out _ hC hG).mono ?_;rintro _ V1 ⟨u,rfl,⟨hu,jn⟩,iq,ib⟩;refine hK.out _ _ iq.below (fun ar=>?_);clear hK K hC hG;refine wpAnyH_ready (rs:=[5]) (by kernel_rfl) (by simp) ?_;refine AllReadyH.cons rfl (fun K hK=>?_) AllReadyH.nil;have kk:=rowAt ib 0 (.string y) rfl;go_simp;refine hK.out _ _ iq.below (fun ar=>?_);clear hK K kk;have g8:¬(9223372036854775807<y.size+u.size):=by omega
       refine TkL 12 ?_;refine TkL 13 ?_;refine RyL 14 (fun K hK=>?_);have kk:=rowAt ib 0 (.string y) rfl;have zz:=bP ib 0;have U6:=iq.setG hX rE iM ib (y++u);have HN:=lM.out u hu.out;go_simp;refine hK.out _ _ U6.1.below (fun ar=>?_);clear hK K kk zz;refine wpAnyH_done (by kernel_rfl) ?_ _;clear e0 e6 e13 sA;obtain rfl:=HA.out;simp only[fm,stL_eta,Nat.reduceLeDiff,Nat.reduceSub];exact⟨.opq,_,_,_,_,_,{x with xs:=[y++u]},_,_,_,_,_,_,_,(by simp only[List.length_set];exact hl),rfl,U6.1,(fun _=>⟨G,y++u,rE,iM,rfl,U6.2⟩),(by nofun),HN.out⟩
      refine AllReadyH.cons rfl (fun K hK=>?_) ?_
      ·skip
       have kk:=rowAt hG 0 (.string y) rfl;go_simp;refine hK.out _ _ hC.below (fun ar=>?_);clear hK K kk;refine wpAnyH_ready (rs:=[1,11]) (by kernel_rfl) (by simp) ?_;refine AllReadyH.cons rfl (fun K hK=>?_) ?_
       ·skip
        have kk:V0.cell? ⟨X.M,7,none⟩=some (.slice (some ⟨G,0,none⟩) 1 1):=by have:=hC.cell 7 x.pv rfl;rw[iM]at this;exact this
        go_simp;refine hK.out _ _ hC.below (fun ar=>?_);clear hK K kk;refine wpAnyH_ready (rs:=[11]) (by kernel_rfl) (by simp) ?_;refine AllReadyH.cons rfl (fun K hK=>?_) AllReadyH.nil;go_simp
        go_at_call 27
        refine(cE.out _ hC hG).mono ?_;rintro _ V1 ⟨u,rfl,⟨hu,jn⟩,iq,ib⟩;refine hK.out _ _ iq.below (fun ar=>?_);clear hK K hC hG;have g8:¬(9223372036854775807<y.size+u.size):=by omega
        refine TkL 12 ?_;refine TkL 13 ?_;refine RyL 14 (fun K hK=>?_);have kk:=rowAt ib 0 (.string y) rfl;have zz:=bP ib 0;have U6:=iq.setG hX rE iM ib (y++u);have HN:=lM.out u hu.out;go_simp;refine hK.out _ _ U6.1.below (fun ar=>?_);clear hK K kk zz;refine wpAnyH_done (by kernel_rfl) ?_ _;clear e0 e6 e13 sA;obtain rfl:=HA.out;simp only[fm,stL_eta,Nat.reduceLeDiff,Nat.reduceSub];exact⟨.opq,_,_,_,_,_,{x with xs:=[y++u]},_,_,_,_,_,_,_,(by simp only[List.length_set];exact hl),rfl,U6.1,(fun _=>⟨G,y++u,rE,iM,rfl,U6.2⟩),(by nofun),HN.out⟩
       refine AllReadyH.cons rfl (fun K hK=>?_) AllReadyH.nil;go_simp
       go_at_call 27
       refine(cE.out _ hC hG).mono ?_;rintro _ V1 ⟨u,rfl,⟨hu,jn⟩,iq,ib⟩;refine hK.out _ _ iq.below (fun ar=>?_);clear hK K hC hG;have g8:¬(9223372036854775807<y.size+u.size):=by omega
       refine TkL 12 ?_;refine wpAnyH_ready (rs:=[1]) (by kernel_rfl) (by simp) ?_;refine AllReadyH.cons rfl (fun K hK=>?_) AllReadyH.nil;have kk:V1.cell? ⟨X.M,7,none⟩=some (.slice (some ⟨G,0,none⟩) 1 1):=by have:=iq.cell 7 x.pv rfl;rw[iM]at this;exact this
       go_simp;refine hK.out _ _ iq.below (fun ar=>?_);clear hK K kk;refine TkL 13 ?_;refine RyL 14 (fun K hK=>?_);have kk:=rowAt ib 0 (.string y) rfl;have zz:=bP ib 0;have U6:=iq.setG hX rE iM ib (y++u);have HN:=lM.out u hu.out;go_simp;refine hK.out _ _ U6.1.below (fun ar=>?_);clear hK K kk zz;refine wpAnyH_done (by kernel_rfl) ?_ _;clear e0 e6 e13 sA;obtain rfl:=HA.out;simp only[fm,stL_eta,Nat.reduceLeDiff,Nat.reduceSub];exact⟨.opq,_,_,_,_,_,{x with xs:=[y++u]},_,_,_,_,_,_,_,(by simp only[List.length_set];exact hl),rfl,U6.1,(fun _=>⟨G,y++u,rE,iM,rfl,U6.2⟩),(by nofun),HN.out⟩
      refine AllReadyH.cons rfl (fun K hK=>?_) AllReadyH.nil;go_simp
      go_at_call 27
      refine(cE.out _ hC hG).mono ?_;rintro _ V1 ⟨u,rfl,⟨hu,jn⟩,iq,ib⟩;refine hK.out _ _ iq.below (fun ar=>?_);clear hK K hC hG;refine wpAnyH_ready (rs:=[1,5]) (by kernel_rfl) (by simp) ?_;refine AllReadyH.cons rfl (fun K hK=>?_) ?_
      ·skip
       have kk:V1.cell? ⟨X.M,7,none⟩=some (.slice (some ⟨G,0,none⟩) 1 1):=by have:=iq.cell 7 x.pv rfl;rw[iM]at this;exact this
       go_simp;refine hK.out _ _ iq.below (fun ar=>?_);clear hK K kk;refine wpAnyH_ready (rs:=[5]) (by kernel_rfl) (by simp) ?_;refine AllReadyH.cons rfl (fun K hK=>?_) AllReadyH.nil;have kk:=rowAt ib 0 (.string y) rfl;go_simp;refine hK.out _ _ iq.below (fun ar=>?_);clear hK K kk;have g8:¬(9223372036854775807<y.size+u.size):=by omega
       refine TkL 12 ?_;refine TkL 13 ?_;refine RyL 14 (fun K hK=>?_);have kk:=rowAt ib 0 (.string y) rfl;have zz:=bP ib 0;have U6:=iq.setG hX rE iM ib (y++u);have HN:=lM.out u hu.out;go_simp;refine hK.out _ _ U6.1.below (fun ar=>?_);clear hK K kk zz;refine wpAnyH_done (by kernel_rfl) ?_ _;clear e0 e6 e13 sA;obtain rfl:=HA.out;simp only[fm,stL_eta,Nat.reduceLeDiff,Nat.reduceSub];exact⟨.opq,_,_,_,_,_,{x with xs:=[y++u]},_,_,_,_,_,_,_,(by simp only[List.length_set];exact hl),rfl,U6.1,(fun _=>⟨G,y++u,rE,iM,rfl,U6.2⟩),(by nofun),HN.out⟩
      refine AllReadyH.cons rfl (fun K hK=>?_) AllReadyH.nil;have kk:=rowAt ib 0 (.string y) rfl;go_simp;refine hK.out _ _ iq.below (fun ar=>?_);clear hK K kk;have g8:¬(9223372036854775807<y.size+u.size):=by omega
      refine TkL 12 ?_;refine wpAnyH_ready (rs:=[1]) (by kernel_rfl) (by simp) ?_;refine AllReadyH.cons rfl (fun K hK=>?_) AllReadyH.nil;have kk:V1.cell? ⟨X.M,7,none⟩=some (.slice (some ⟨G,0,none⟩) 1 1):=by have:=iq.cell 7 x.pv rfl;rw[iM]at this;exact this
      go_simp;refine hK.out _ _ iq.below (fun ar=>?_);clear hK K kk;refine TkL 13 ?_;refine RyL 14 (fun K hK=>?_);have kk:=rowAt ib 0 (.string y) rfl;have zz:=bP ib 0;have U6:=iq.setG hX rE iM ib (y++u);have HN:=lM.out u hu.out;go_simp;refine hK.out _ _ U6.1.below (fun ar=>?_);clear hK K kk zz;refine wpAnyH_done (by kernel_rfl) ?_ _;clear e0 e6 e13 sA;obtain rfl:=HA.out;simp only[fm,stL_eta,Nat.reduceLeDiff,Nat.reduceSub];exact⟨.opq,_,_,_,_,_,{x with xs:=[y++u]},_,_,_,_,_,_,_,(by simp only[List.length_set];exact hl),rfl,U6.1,(fun _=>⟨G,y++u,rE,iM,rfl,U6.2⟩),(by nofun),HN.out⟩
     refine AllReadyH.cons rfl (fun K hK=>?_) AllReadyH.nil;go_simp
     go_at_call 27
     refine(cE.out _ hC hG).mono ?_;rintro _ V1 ⟨u,rfl,⟨hu,jn⟩,iq,ib⟩;refine hK.out _ _ iq.below (fun ar=>?_);clear hK K hC hG;refine wpAnyH_ready (rs:=[1,3]) (by kernel_rfl) (by simp) ?_;refine AllReadyH.cons rfl (fun K hK=>?_) ?_
     ·skip
      have kk:V1.cell? ⟨X.M,7,none⟩=some (.slice (some ⟨G,0,none⟩) 1 1):=by have:=iq.cell 7 x.pv rfl;rw[iM]at this;exact this
      go_simp;refine hK.out _ _ iq.below (fun ar=>?_);clear hK K kk;refine wpAnyH_ready (rs:=[3]) (by kernel_rfl) (by simp) ?_;refine AllReadyH.cons rfl (fun K hK=>?_) AllReadyH.nil;have kk:V1.cell? ⟨X.M,7,none⟩=some (.slice (some ⟨G,0,none⟩) 1 1):=by have:=iq.cell 7 x.pv rfl;rw[iM]at this;exact this
      go_simp;refine hK.out _ _ iq.below (fun ar=>?_);clear hK K kk;refine TkL 4 ?_;refine wpAnyH_ready (rs:=[5]) (by kernel_rfl) (by simp) ?_;refine AllReadyH.cons rfl (fun K hK=>?_) AllReadyH.nil;have kk:=rowAt ib 0 (.string y) rfl;go_simp;refine hK.out _ _ iq.below (fun ar=>?_);clear hK K kk;have g8:¬(9223372036854775807<y.size+u.size):=by omega
      refine TkL 12 ?_;refine TkL 13 ?_;refine RyL 14 (fun K hK=>?_);have kk:=rowAt ib 0 (.string y) rfl;have zz:=bP ib 0;have U6:=iq.setG hX rE iM ib (y++u);have HN:=lM.out u hu.out;go_simp;refine hK.out _ _ U6.1.below (fun ar=>?_);clear hK K kk zz;refine wpAnyH_done (by kernel_rfl) ?_ _;clear e0 e6 e13 sA;obtain rfl:=HA.out;simp only[fm,stL_eta,Nat.reduceLeDiff,Nat.reduceSub];exact⟨.opq,_,_,_,_,_,{x with xs:=[y++u]},_,_,_,_,_,_,_,(by simp only[List.length_set];exact hl),rfl,U6.1,(fun _=>⟨G,y++u,rE,iM,rfl,U6.2⟩),(by nofun),HN.out⟩
     refine AllReadyH.cons rfl (fun K hK=>?_) AllReadyH.nil;have kk:V1.cell? ⟨X.M,7,none⟩=some (.slice (some ⟨G,0,none⟩) 1 1):=by have:=iq.cell 7 x.pv rfl;rw[iM]at this;exact this
     go_simp;refine hK.out _ _ iq.below (fun ar=>?_);clear hK K kk;refine TkL 4 ?_;refine wpAnyH_ready (rs:=[1,5]) (by kernel_rfl) (by simp) ?_;refine AllReadyH.cons rfl (fun K hK=>?_) ?_
     ·skip
      have kk:V1.cell? ⟨X.M,7,none⟩=some (.slice (some ⟨G,0,none⟩) 1 1):=by have:=iq.cell 7 x.pv rfl;rw[iM]at this;exact this
      go_simp;refine hK.out _ _ iq.below (fun ar=>?_);clear hK K kk;refine wpAnyH_ready (rs:=[5]) (by kernel_rfl) (by simp) ?_;refine AllReadyH.cons rfl (fun K hK=>?_) AllReadyH.nil;have kk:=rowAt ib 0 (.string y) rfl;go_simp;refine hK.out _ _ iq.below (fun ar=>?_);clear hK K kk;have g8:¬(9223372036854775807<y.size+u.size):=by omega
      refine TkL 12 ?_;refine TkL 13 ?_;refine RyL 14 (fun K hK=>?_);have kk:=rowAt ib 0 (.string y) rfl;have zz:=bP ib 0;have U6:=iq.setG hX rE iM ib (y++u);have HN:=lM.out u hu.out;go_simp;refine hK.out _ _ U6.1.below (fun ar=>?_);clear hK K kk zz;refine wpAnyH_done (by kernel_rfl) ?_ _;clear e0 e6 e13 sA;obtain rfl:=HA.out;simp only[fm,stL_eta,Nat.reduceLeDiff,Nat.reduceSub];exact⟨.opq,_,_,_,_,_,{x with xs:=[y++u]},_,_,_,_,_,_,_,(by simp only[List.length_set];exact hl),rfl,U6.1,(fun _=>⟨G,y++u,rE,iM,rfl,U6.2⟩),(by nofun),HN.out⟩
     refine AllReadyH.cons rfl (fun K hK=>?_) AllReadyH.nil;have kk:=rowAt ib 0 (.string y) rfl;go_simp;refine hK.out _ _ iq.below (fun ar=>?_);clear hK K kk;have g8:¬(9223372036854775807<y.size+u.size):=by omega
     refine TkL 12 ?_;refine wpAnyH_ready (rs:=[1]) (by kernel_rfl) (by simp) ?_;refine AllReadyH.cons rfl (fun K hK=>?_) AllReadyH.nil;have kk:V1.cell? ⟨X.M,7,none⟩=some (.slice (some ⟨G,0,none⟩) 1 1):=by have:=iq.cell 7 x.pv rfl;rw[iM]at this;exact this
     go_simp;refine hK.out _ _ iq.below (fun ar=>?_);clear hK K kk;refine TkL 13 ?_;refine RyL 14 (fun K hK=>?_);have kk:=rowAt ib 0 (.string y) rfl;have zz:=bP ib 0;have U6:=iq.setG hX rE iM ib (y++u);have HN:=lM.out u hu.out;go_simp;refine hK.out _ _ U6.1.below (fun ar=>?_);clear hK K kk zz;refine wpAnyH_done (by kernel_rfl) ?_ _;clear e0 e6 e13 sA;obtain rfl:=HA.out;simp only[fm,stL_eta,Nat.reduceLeDiff,Nat.reduceSub];exact⟨.opq,_,_,_,_,_,{x with xs:=[y++u]},_,_,_,_,_,_,_,(by simp only[List.length_set];exact hl),rfl,U6.1,(fun _=>⟨G,y++u,rE,iM,rfl,U6.2⟩),(by nofun),HN.out⟩
end Go.Proofs.YtlcbhacofagedaaGreatDoor
