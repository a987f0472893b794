/-
  lazaretref08.run: opaque.
-/
import Derived.Test.YtipndhbgehdeoaaGreatDoorQ36
set_option maxHeartbeats 16000000
set_option maxRecDepth 100000
namespace Go.Proofs.YtipndhbgehdeoaaGreatDoor
open Go.RowKit
attribute [local go_sem ↓] Go.wp_at_zero Go.wp_at_succ
theorem url_not {w:World} {G B:Nat} {cs cs':Array Value} {fr fr':Nat×Nat} (h:w.heap[B]? =some (.cells cs 25 fr)) (hG:w.heap[G]? =some (.cells cs' 9 fr')):B≠G:=by
 rintro rfl;rw[h]at hG;injection hG with h1
 injection h1 with _ h2 _
 exact url_ne h2
theorem UAt.setG {X:RX} {w:World} {x:MkV} (_:X.Ok) (h:UAt X w x) {G:Nat} {y:ByteArray} (hBG:X.B<=G) (hpv:x.pv=.slice (some ⟨G,0,none⟩) 1 1) (hG:w.heap[G]? =some (.cells #[.string y] 9 (0,0))) (z:ByteArray):
  UAt X (w.setCell ⟨G,0,none⟩ (.string z)) {x with xs:=[z]}/\(w.setCell ⟨G,0,none⟩ (.string z)).heap[G]? =some (.cells #[.string z] 9 (0,0)):=by
 have hr:(w.setCell ⟨G,0,none⟩ (.string z)).heap[G]? =some (.cells #[.string z] 9 (0,0)):=rowSet hG 0 _ rfl;refine⟨⟨h.below.setCell (p:=⟨G,0,none⟩) hBG _,by rw[setCell_other (url_not h.res hG)];exact h.res,by rw[setCell_other (url_not h.row hG)];exact h.row,by rw[setCell_other (url_not h.non hG)];exact h.non,.inr ⟨⟨G,0,none⟩,hpv,rfl,fun j u hj=>?_,fun _=>⟨_,_,hr⟩⟩⟩,hr⟩
 have hj0:j=0:=by
  have:=(List.getElem?_eq_some_iff.1 hj).1;simpa using this
 subst hj0;have hu:Value.string z=u:=by simpa using hj
 rw[<-hu];exact rowAt hr 0 _ rfl
theorem rd_opq:RdOk 17 .opq:=by
 (intro X x buf a p n i e c nx sp sl ov f w hX hU hO hI hsp hR;subst hsp;have hile:=hI.1;have hsz:=hX.size;rw[len_of_size]at hile;have wm:IntKind.i64.wrap ((i:Int)-1)=(i:Int)-1:=IntWalk.i64_in _ (by omega);have wp:IntKind.i64.wrap ((i:Int)+1)=(i:Int)+1:=IntWalk.i64_in _ (by omega);have HI:=Ih hI;have HR:=Ih hR;clear hI hR;unfold FR;conv=>(arg 2;whnf))
 obtain⟨G,y,hBG,hpv,hxs,hG⟩:=hO rfl;clear hO;have hOq:∀(W:World) (x':MkV),x'.pv=x.pv->x'.xs=x.xs->W.heap[G]? =some (.cells #[.string y] 9 (0,0))->OpqW X .opq W x':=fun W x' h1 h2 h3 _=>⟨G,y,hBG,by rw[h1,hpv],by rw[h2,hxs],h3⟩;by_cases h63:c=63
 ·have b63:((c.toNat:Int)==63)=true:=bq_y h63;have k8:=hU.cell 8 (.bool x.hq) rfl;have z8:=hU.fz 8;have U8:=Ih (hU.setF hX 8 (.bool true) {x with hq:=true} rfl rfl rfl);have H63:=Ih h63;clear h63 hpv hxs hG
  go_wp2_with fail
  exact⟨.query,_,_,_,_,_,{x with hq:=true},_,_,_,_,_,_,_,rfl,rfl,U8.out,opq_no (by nofun),(by nofun),Lz.w_opq_q HI.out HR.out H63.out⟩
 ·have b63:((c.toNat:Int)==63)=false:=bq_n h63;by_cases h35:c=35
  ·have b35:((c.toNat:Int)==35)=true:=bq_y h35;have k9:=hU.cell 9 (.bool x.hf) rfl;have z9:=hU.fz 9;have U9:=Ih (hU.setF hX 9 (.bool true) {x with hf:=true} rfl rfl rfl);have H35:=Ih h35;clear h63 h35 hpv hxs hG
   go_wp2_with fail
   exact⟨.frag,_,_,_,_,_,{x with hf:=true},_,_,_,_,_,_,_,rfl,rfl,U9.out,opq_no (by nofun),(by nofun),Lz.w_opq_f HI.out HR.out H35.out⟩
  ·have b35:((c.toNat:Int)==35)=false:=bq_n h35;cases e with
   | true=>
     have HOq:=Ih (hOq w x rfl rfl hG);clear h63 h35 hpv hxs hG
     go_wp2_with fail
     exact⟨.opq,_,_,_,_,_,x,_,_,_,_,_,_,_,rfl,rfl,hU,HOq.out,(by nofun),Lz.w_opq_end HI.out HR.out rfl⟩
   | false=>
     (have hlt:=(Lz.Rd.no HR.out rfl).1;rw[len_of_size]at hlt;have hs1:(i:Int)+1<=(X.s.size:Int):=(by omega);have hs0:(0:Int)<=(i:Int):=(by omega);have hs2:(i:Int)<=(i:Int)+1:=(by omega);have HX:Hid ((X.s.extract i (i+1)).data.toList=[c]):=Ih (ext_one (Lz.Rd.no HR.out rfl).2.1 hlt))
     have hpx:x.url.path=[y.data.toList]:=by show x.xs.map _=_;rw[hxs];rfl
     have hys:y.size<=75000:=by
      obtain⟨_,_,⟨z,h2,h3⟩,_⟩:=HI.out;have h4:x.url.path=[z]:=h2;rw[hpx]at h4;injection h4 with h4 _
      rw[<-h4,len_of_size]at h3;omega
     have HN0:Hid (∀u:ByteArray,u.data.toList=Lz.encodeP (Lz.setU 0) [c]->Hid (Lz.After X.b X.s.data.toList X.goal .opq i .opq ⟨buf.data.toList,a,p,n,MkV.url {x with xs:=[y++u]}⟩ (i:Int))):=Ih (fun u hu=>Ih (by
      show Lz.After _ _ _ _ _ _ ⟨_,_,_,_,{x.url with path:=[(y++u).data.toList]}⟩ _;rw[append_data',hu];exact Lz.w_opq_c hpx HI.out HR.out rfl h63 h35))
     have cE:Hid (∀V,UAt X V x->V.heap[G]? =some (.cells #[.string y] 9 (0,0))->Calls Tryz.prog 38 #[.string (X.s.extract i (i+1)),.int .i64 0] V fun e w'=>∃u:ByteArray,e=.returned (.string u)/\(Hid (u.data.toList=Lz.encodeP (Lz.setU 0) [c])/\u.size<=3)/\UAt X w' x/\w'.heap[G]? =some (.cells #[.string y] 9 (0,0))):=Ih (fun V hV hVG=>(Encode06_any _ 0 (by omega) (by rw[ext_sz HX.out];omega) V).mono fun e w' ⟨u,h1,h2,h3⟩=>⟨u,h1,⟨Ih (by rw[h2.out,HX.out]),enc_sz (by rw[h2.out,HX.out])⟩,hV.call hX h3,(h3.block _ (row_lt hVG)).trans hVG⟩);have hC:=hU.call hX (Below.refl _ w).drew;replace hG:w.drew.heap[G]? =some (.cells #[.string y] 9 (0,0)):=hG;clear h63 h35 hpx hOq
     go_wp2_with fail
     refine frame_st X (nmB .opq) buf a p n i false c nx (Lz.specP x.url.scheme) sl ov _ rfl (fun A l hl hA=>?_);have sA:A.tmps.size=781:=by rw[hA];exact stL_size _ _ _ _ _ _ _ _ _ _ _ _ _ _ hl
     have e0:A.tmps[0]'(by rw[sA];decide)=.string X.s:=by subst hA;rfl
     have e6:A.tmps[6]'(by rw[sA];decide)=.pointer (some ⟨X.M,0,none⟩):=by subst hA;rfl
     have e13:A.tmps[13]'(by rw[sA];decide)=.int .i64 i:=by subst hA;rfl
     have HA:=Ih hA;clear hA hU;have hSd:=hC.below;refine wp_region_held_drew (S:=fun V=>Below X.B X.w0 V) (by kernel_rfl) hSd (fun hHeld=>?_);generalize w.drew=V0 at hC hG hSd hHeld⊢;clear hSd;refine Tk 0 (v:=?_) rfl ?_ ?_;rotate_left
     ·(intro W hSw;go_simp;try with_reducible rfl)
     refine Tk 2 (v:=?_) rfl ?_ ?_;rotate_left
     ·(intro W hSw;go_simp;try with_reducible rfl)
     refine Tk 6 (v:=?_) rfl ?_ ?_;rotate_left
     ·(intro W hSw;go_simp;try with_reducible rfl)
     refine Tk 7 (v:=?_) rfl ?_ ?_;rotate_left
     ·(intro W hSw;go_simp;try with_reducible rfl)
     refine Tk 8 (v:=?_) rfl ?_ ?_;rotate_left
     ·(intro W hSw;go_simp;try with_reducible rfl)
     refine Tk 9 (v:=?_) rfl ?_ ?_;rotate_left
     ·(intro W hSw;go_simp;try with_reducible rfl)
     refine Tk 10 (v:=?_) rfl ?_ ?_;rotate_left
     ·(intro W hSw;go_simp;try with_reducible rfl)
     refine wpAnyH_ready (rs:=[1,3,11]) (by kernel_rfl) (by simp) ?_;refine AllReadyH.cons rfl (fun K hK=>?_) ?_
     ·skip
      have kk:V0.cell? ⟨X.M,7,none⟩=some (.slice (some ⟨G,0,none⟩) 1 1):=by have:=hC.cell 7 x.pv rfl;rw[hpv]at this;exact this
      go_simp;refine hK.out _ _ hC.below (fun hHeld=>?_);clear hK K kk;refine wpAnyH_ready (rs:=[3,11]) (by kernel_rfl) (by simp) ?_;refine AllReadyH.cons rfl (fun K hK=>?_) ?_
      ·skip
       have kk:V0.cell? ⟨X.M,7,none⟩=some (.slice (some ⟨G,0,none⟩) 1 1):=by have:=hC.cell 7 x.pv rfl;rw[hpv]at this;exact this
       go_simp;refine hK.out _ _ hC.below (fun hHeld=>?_);clear hK K kk;refine Tk 4 (v:=?_) rfl ?_ ?_;rotate_left
       ·(intro W hSw;go_simp;try with_reducible rfl)
       refine wpAnyH_ready (rs:=[5,11]) (by kernel_rfl) (by simp) ?_;refine AllReadyH.cons rfl (fun K hK=>?_) ?_
       ·skip
        have kk:=rowAt hG 0 (.string y) rfl;go_simp;refine hK.out _ _ hC.below (fun hHeld=>?_);clear hK K kk;refine wpAnyH_ready (rs:=[11]) (by kernel_rfl) (by simp) ?_;refine AllReadyH.cons rfl (fun K hK=>?_) AllReadyH.nil;go_simp
        go_at_call 38
        refine(cE.out _ hC hG).mono ?_;rintro _ V1 ⟨u,rfl,⟨hu,hus⟩,hC1,hG1⟩;refine hK.out _ _ hC1.below (fun hHeld=>?_);clear hK K hC hG;have hcat:¬(9223372036854775807<y.size+u.size):=by omega
        refine Tk 12 (v:=?_) rfl ?_ ?_;rotate_left
        ·(intro W hSw;go_simp;try with_reducible rfl)
        refine Tk 13 (v:=?_) rfl ?_ ?_;rotate_left
        ·(intro W hSw;go_simp;try with_reducible rfl)
        refine wpAnyH_ready (rs:=[14]) (by kernel_rfl) (by simp) ?_;refine AllReadyH.cons rfl (fun K hK=>?_) AllReadyH.nil;have kk:=rowAt hG1 0 (.string y) rfl;have zz:=rowFz hG1 0;have U6:=hC1.setG hX hBG hpv hG1 (y++u);have HN:=HN0.out u hu.out;go_simp;refine hK.out _ _ U6.1.below (fun hHeld=>?_);clear hK K kk zz;refine wpAnyH_done (by kernel_rfl) ?_ _;clear e0 e6 e13 sA;obtain rfl:=HA.out;simp only[stL_set,stL_eta,Nat.reduceLeDiff,Nat.reduceSub];exact⟨.opq,_,_,_,_,_,{x with xs:=[y++u]},_,_,_,_,_,_,_,(by simp only[List.length_set];exact hl),rfl,U6.1,(fun _=>⟨G,y++u,hBG,hpv,rfl,U6.2⟩),(by nofun),HN.out⟩
       refine AllReadyH.cons rfl (fun K hK=>?_) AllReadyH.nil;go_simp
       go_at_call 38
       refine(cE.out _ hC hG).mono ?_;rintro _ V1 ⟨u,rfl,⟨hu,hus⟩,hC1,hG1⟩;refine hK.out _ _ hC1.below (fun hHeld=>?_);clear hK K hC hG;refine wpAnyH_ready (rs:=[5]) (by kernel_rfl) (by simp) ?_;refine AllReadyH.cons rfl (fun K hK=>?_) AllReadyH.nil;have kk:=rowAt hG1 0 (.string y) rfl;go_simp;refine hK.out _ _ hC1.below (fun hHeld=>?_);clear hK K kk;have hcat:¬(9223372036854775807<y.size+u.size):=by omega
       refine Tk 12 (v:=?_) rfl ?_ ?_;rotate_left
       ·(intro W hSw;go_simp;try with_reducible rfl)
       refine Tk 13 (v:=?_) rfl ?_ ?_;rotate_left
       ·(intro W hSw;go_simp;try with_reducible rfl)
       refine wpAnyH_ready (rs:=[14]) (by kernel_rfl) (by simp) ?_;refine AllReadyH.cons rfl (fun K hK=>?_) AllReadyH.nil;have kk:=rowAt hG1 0 (.string y) rfl;have zz:=rowFz hG1 0;have U6:=hC1.setG hX hBG hpv hG1 (y++u);have HN:=HN0.out u hu.out;go_simp;refine hK.out _ _ U6.1.below (fun hHeld=>?_);clear hK K kk zz;refine wpAnyH_done (by kernel_rfl) ?_ _;clear e0 e6 e13 sA;obtain rfl:=HA.out;simp only[stL_set,stL_eta,Nat.reduceLeDiff,Nat.reduceSub];exact⟨.opq,_,_,_,_,_,{x with xs:=[y++u]},_,_,_,_,_,_,_,(by simp only[List.length_set];exact hl),rfl,U6.1,(fun _=>⟨G,y++u,hBG,hpv,rfl,U6.2⟩),(by nofun),HN.out⟩
      refine AllReadyH.cons rfl (fun K hK=>?_) AllReadyH.nil;go_simp
      go_at_call 38
      refine(cE.out _ hC hG).mono ?_;rintro _ V1 ⟨u,rfl,⟨hu,hus⟩,hC1,hG1⟩;refine hK.out _ _ hC1.below (fun hHeld=>?_);clear hK K hC hG;refine wpAnyH_ready (rs:=[3]) (by kernel_rfl) (by simp) ?_;refine AllReadyH.cons rfl (fun K hK=>?_) AllReadyH.nil;have kk:V1.cell? ⟨X.M,7,none⟩=some (.slice (some ⟨G,0,none⟩) 1 1):=by have:=hC1.cell 7 x.pv rfl;rw[hpv]at this;exact this
      go_simp;refine hK.out _ _ hC1.below (fun hHeld=>?_);clear hK K kk;refine Tk 4 (v:=?_) rfl ?_ ?_;rotate_left
      ·(intro W hSw;go_simp;try with_reducible rfl)
      refine wpAnyH_ready (rs:=[5]) (by kernel_rfl) (by simp) ?_;refine AllReadyH.cons rfl (fun K hK=>?_) AllReadyH.nil;have kk:=rowAt hG1 0 (.string y) rfl;go_simp;refine hK.out _ _ hC1.below (fun hHeld=>?_);clear hK K kk;have hcat:¬(9223372036854775807<y.size+u.size):=by omega
      refine Tk 12 (v:=?_) rfl ?_ ?_;rotate_left
      ·(intro W hSw;go_simp;try with_reducible rfl)
      refine Tk 13 (v:=?_) rfl ?_ ?_;rotate_left
      ·(intro W hSw;go_simp;try with_reducible rfl)
      refine wpAnyH_ready (rs:=[14]) (by kernel_rfl) (by simp) ?_;refine AllReadyH.cons rfl (fun K hK=>?_) AllReadyH.nil;have kk:=rowAt hG1 0 (.string y) rfl;have zz:=rowFz hG1 0;have U6:=hC1.setG hX hBG hpv hG1 (y++u);have HN:=HN0.out u hu.out;go_simp;refine hK.out _ _ U6.1.below (fun hHeld=>?_);clear hK K kk zz;refine wpAnyH_done (by kernel_rfl) ?_ _;clear e0 e6 e13 sA;obtain rfl:=HA.out;simp only[stL_set,stL_eta,Nat.reduceLeDiff,Nat.reduceSub];exact⟨.opq,_,_,_,_,_,{x with xs:=[y++u]},_,_,_,_,_,_,_,(by simp only[List.length_set];exact hl),rfl,U6.1,(fun _=>⟨G,y++u,hBG,hpv,rfl,U6.2⟩),(by nofun),HN.out⟩
     refine AllReadyH.cons rfl (fun K hK=>?_) ?_
     ·skip
      have kk:V0.cell? ⟨X.M,7,none⟩=some (.slice (some ⟨G,0,none⟩) 1 1):=by have:=hC.cell 7 x.pv rfl;rw[hpv]at this;exact this
      go_simp;refine hK.out _ _ hC.below (fun hHeld=>?_);clear hK K kk;refine Tk 4 (v:=?_) rfl ?_ ?_;rotate_left
      ·(intro W hSw;go_simp;try with_reducible rfl)
      refine wpAnyH_ready (rs:=[1,5,11]) (by kernel_rfl) (by simp) ?_;refine AllReadyH.cons rfl (fun K hK=>?_) ?_
      ·skip
       have kk:V0.cell? ⟨X.M,7,none⟩=some (.slice (some ⟨G,0,none⟩) 1 1):=by have:=hC.cell 7 x.pv rfl;rw[hpv]at this;exact this
       go_simp;refine hK.out _ _ hC.below (fun hHeld=>?_);clear hK K kk;refine wpAnyH_ready (rs:=[5,11]) (by kernel_rfl) (by simp) ?_;refine AllReadyH.cons rfl (fun K hK=>?_) ?_
       ·skip
        have kk:=rowAt hG 0 (.string y) rfl;go_simp;refine hK.out _ _ hC.below (fun hHeld=>?_);clear hK K kk;refine wpAnyH_ready (rs:=[11]) (by kernel_rfl) (by simp) ?_;refine AllReadyH.cons rfl (fun K hK=>?_) AllReadyH.nil;go_simp
        go_at_call 38
        refine(cE.out _ hC hG).mono ?_;rintro _ V1 ⟨u,rfl,⟨hu,hus⟩,hC1,hG1⟩;refine hK.out _ _ hC1.below (fun hHeld=>?_);clear hK K hC hG;have hcat:¬(9223372036854775807<y.size+u.size):=by omega
        refine Tk 12 (v:=?_) rfl ?_ ?_;rotate_left
        ·(intro W hSw;go_simp;try with_reducible rfl)
        refine Tk 13 (v:=?_) rfl ?_ ?_;rotate_left
        ·(intro W hSw;go_simp;try with_reducible rfl)
        refine wpAnyH_ready (rs:=[14]) (by kernel_rfl) (by simp) ?_;refine AllReadyH.cons rfl (fun K hK=>?_) AllReadyH.nil;have kk:=rowAt hG1 0 (.string y) rfl;have zz:=rowFz hG1 0;have U6:=hC1.setG hX hBG hpv hG1 (y++u);have HN:=HN0.out u hu.out;go_simp;refine hK.out _ _ U6.1.below (fun hHeld=>?_);clear hK K kk zz;refine wpAnyH_done (by kernel_rfl) ?_ _;clear e0 e6 e13 sA;obtain rfl:=HA.out;simp only[stL_set,stL_eta,Nat.reduceLeDiff,Nat.reduceSub];exact⟨.opq,_,_,_,_,_,{x with xs:=[y++u]},_,_,_,_,_,_,_,(by simp only[List.length_set];exact hl),rfl,U6.1,(fun _=>⟨G,y++u,hBG,hpv,rfl,U6.2⟩),(by nofun),HN.out⟩
       refine AllReadyH.cons rfl (fun K hK=>?_) AllReadyH.nil;go_simp
       go_at_call 38
       refine(cE.out _ hC hG).mono ?_;rintro _ V1 ⟨u,rfl,⟨hu,hus⟩,hC1,hG1⟩;refine hK.out _ _ hC1.below (fun hHeld=>?_);clear hK K hC hG;refine wpAnyH_ready (rs:=[5]) (by kernel_rfl) (by simp) ?_;refine AllReadyH.cons rfl (fun K hK=>?_) AllReadyH.nil;have kk:=rowAt hG1 0 (.string y) rfl;go_simp;refine hK.out _ _ hC1.below (fun hHeld=>?_);clear hK K kk;have hcat:¬(9223372036854775807<y.size+u.size):=by omega
       refine Tk 12 (v:=?_) rfl ?_ ?_;rotate_left
       ·(intro W hSw;go_simp;try with_reducible rfl)
       refine Tk 13 (v:=?_) rfl ?_ ?_;rotate_left
       ·(intro W hSw;go_simp;try with_reducible rfl)
       refine wpAnyH_ready (rs:=[14]) (by kernel_rfl) (by simp) ?_;refine AllReadyH.cons rfl (fun K hK=>?_) AllReadyH.nil;have kk:=rowAt hG1 0 (.string y) rfl;have zz:=rowFz hG1 0;have U6:=hC1.setG hX hBG hpv hG1 (y++u);have HN:=HN0.out u hu.out;go_simp;refine hK.out _ _ U6.1.below (fun hHeld=>?_);clear hK K kk zz;refine wpAnyH_done (by kernel_rfl) ?_ _;clear e0 e6 e13 sA;obtain rfl:=HA.out;simp only[stL_set,stL_eta,Nat.reduceLeDiff,Nat.reduceSub];exact⟨.opq,_,_,_,_,_,{x with xs:=[y++u]},_,_,_,_,_,_,_,(by simp only[List.length_set];exact hl),rfl,U6.1,(fun _=>⟨G,y++u,hBG,hpv,rfl,U6.2⟩),(by nofun),HN.out⟩
      refine AllReadyH.cons rfl (fun K hK=>?_) ?_
      ·skip
       have kk:=rowAt hG 0 (.string y) rfl;go_simp;refine hK.out _ _ hC.below (fun hHeld=>?_);clear hK K kk;refine wpAnyH_ready (rs:=[1,11]) (by kernel_rfl) (by simp) ?_;refine AllReadyH.cons rfl (fun K hK=>?_) ?_
       ·skip
        have kk:V0.cell? ⟨X.M,7,none⟩=some (.slice (some ⟨G,0,none⟩) 1 1):=by have:=hC.cell 7 x.pv rfl;rw[hpv]at this;exact this
        go_simp;refine hK.out _ _ hC.below (fun hHeld=>?_);clear hK K kk;refine wpAnyH_ready (rs:=[11]) (by kernel_rfl) (by simp) ?_;refine AllReadyH.cons rfl (fun K hK=>?_) AllReadyH.nil;go_simp
        go_at_call 38
        refine(cE.out _ hC hG).mono ?_;rintro _ V1 ⟨u,rfl,⟨hu,hus⟩,hC1,hG1⟩;refine hK.out _ _ hC1.below (fun hHeld=>?_);clear hK K hC hG;have hcat:¬(9223372036854775807<y.size+u.size):=by omega
        refine Tk 12 (v:=?_) rfl ?_ ?_;rotate_left
        ·(intro W hSw;go_simp;try with_reducible rfl)
        refine Tk 13 (v:=?_) rfl ?_ ?_;rotate_left
        ·(intro W hSw;go_simp;try with_reducible rfl)
        refine wpAnyH_ready (rs:=[14]) (by kernel_rfl) (by simp) ?_;refine AllReadyH.cons rfl (fun K hK=>?_) AllReadyH.nil;have kk:=rowAt hG1 0 (.string y) rfl;have zz:=rowFz hG1 0;have U6:=hC1.setG hX hBG hpv hG1 (y++u);have HN:=HN0.out u hu.out;go_simp;refine hK.out _ _ U6.1.below (fun hHeld=>?_);clear hK K kk zz;refine wpAnyH_done (by kernel_rfl) ?_ _;clear e0 e6 e13 sA;obtain rfl:=HA.out;simp only[stL_set,stL_eta,Nat.reduceLeDiff,Nat.reduceSub];exact⟨.opq,_,_,_,_,_,{x with xs:=[y++u]},_,_,_,_,_,_,_,(by simp only[List.length_set];exact hl),rfl,U6.1,(fun _=>⟨G,y++u,hBG,hpv,rfl,U6.2⟩),(by nofun),HN.out⟩
       refine AllReadyH.cons rfl (fun K hK=>?_) AllReadyH.nil;go_simp
       go_at_call 38
       refine(cE.out _ hC hG).mono ?_;rintro _ V1 ⟨u,rfl,⟨hu,hus⟩,hC1,hG1⟩;refine hK.out _ _ hC1.below (fun hHeld=>?_);clear hK K hC hG;have hcat:¬(9223372036854775807<y.size+u.size):=by omega
       refine Tk 12 (v:=?_) rfl ?_ ?_;rotate_left
       ·(intro W hSw;go_simp;try with_reducible rfl)
       refine wpAnyH_ready (rs:=[1]) (by kernel_rfl) (by simp) ?_;refine AllReadyH.cons rfl (fun K hK=>?_) AllReadyH.nil;have kk:V1.cell? ⟨X.M,7,none⟩=some (.slice (some ⟨G,0,none⟩) 1 1):=by have:=hC1.cell 7 x.pv rfl;rw[hpv]at this;exact this
       go_simp;refine hK.out _ _ hC1.below (fun hHeld=>?_);clear hK K kk;refine Tk 13 (v:=?_) rfl ?_ ?_;rotate_left
       ·(intro W hSw;go_simp;try with_reducible rfl)
       refine wpAnyH_ready (rs:=[14]) (by kernel_rfl) (by simp) ?_;refine AllReadyH.cons rfl (fun K hK=>?_) AllReadyH.nil;have kk:=rowAt hG1 0 (.string y) rfl;have zz:=rowFz hG1 0;have U6:=hC1.setG hX hBG hpv hG1 (y++u);have HN:=HN0.out u hu.out;go_simp;refine hK.out _ _ U6.1.below (fun hHeld=>?_);clear hK K kk zz;refine wpAnyH_done (by kernel_rfl) ?_ _;clear e0 e6 e13 sA;obtain rfl:=HA.out;simp only[stL_set,stL_eta,Nat.reduceLeDiff,Nat.reduceSub];exact⟨.opq,_,_,_,_,_,{x with xs:=[y++u]},_,_,_,_,_,_,_,(by simp only[List.length_set];exact hl),rfl,U6.1,(fun _=>⟨G,y++u,hBG,hpv,rfl,U6.2⟩),(by nofun),HN.out⟩
      refine AllReadyH.cons rfl (fun K hK=>?_) AllReadyH.nil;go_simp
      go_at_call 38
      refine(cE.out _ hC hG).mono ?_;rintro _ V1 ⟨u,rfl,⟨hu,hus⟩,hC1,hG1⟩;refine hK.out _ _ hC1.below (fun hHeld=>?_);clear hK K hC hG;refine wpAnyH_ready (rs:=[1,5]) (by kernel_rfl) (by simp) ?_;refine AllReadyH.cons rfl (fun K hK=>?_) ?_
      ·skip
       have kk:V1.cell? ⟨X.M,7,none⟩=some (.slice (some ⟨G,0,none⟩) 1 1):=by have:=hC1.cell 7 x.pv rfl;rw[hpv]at this;exact this
       go_simp;refine hK.out _ _ hC1.below (fun hHeld=>?_);clear hK K kk;refine wpAnyH_ready (rs:=[5]) (by kernel_rfl) (by simp) ?_;refine AllReadyH.cons rfl (fun K hK=>?_) AllReadyH.nil;have kk:=rowAt hG1 0 (.string y) rfl;go_simp;refine hK.out _ _ hC1.below (fun hHeld=>?_);clear hK K kk;have hcat:¬(9223372036854775807<y.size+u.size):=by omega
       refine Tk 12 (v:=?_) rfl ?_ ?_;rotate_left
       ·(intro W hSw;go_simp;try with_reducible rfl)
       refine Tk 13 (v:=?_) rfl ?_ ?_;rotate_left
       ·(intro W hSw;go_simp;try with_reducible rfl)
       refine wpAnyH_ready (rs:=[14]) (by kernel_rfl) (by simp) ?_;refine AllReadyH.cons rfl (fun K hK=>?_) AllReadyH.nil;have kk:=rowAt hG1 0 (.string y) rfl;have zz:=rowFz hG1 0;have U6:=hC1.setG hX hBG hpv hG1 (y++u);have HN:=HN0.out u hu.out;go_simp;refine hK.out _ _ U6.1.below (fun hHeld=>?_);clear hK K kk zz;refine wpAnyH_done (by kernel_rfl) ?_ _;clear e0 e6 e13 sA;obtain rfl:=HA.out;simp only[stL_set,stL_eta,Nat.reduceLeDiff,Nat.reduceSub];exact⟨.opq,_,_,_,_,_,{x with xs:=[y++u]},_,_,_,_,_,_,_,(by simp only[List.length_set];exact hl),rfl,U6.1,(fun _=>⟨G,y++u,hBG,hpv,rfl,U6.2⟩),(by nofun),HN.out⟩
      refine AllReadyH.cons rfl (fun K hK=>?_) AllReadyH.nil;have kk:=rowAt hG1 0 (.string y) rfl;go_simp;refine hK.out _ _ hC1.below (fun hHeld=>?_);clear hK K kk;have hcat:¬(9223372036854775807<y.size+u.size):=by omega
      refine Tk 12 (v:=?_) rfl ?_ ?_;rotate_left
      ·(intro W hSw;go_simp;try with_reducible rfl)
      refine wpAnyH_ready (rs:=[1]) (by kernel_rfl) (by simp) ?_;refine AllReadyH.cons rfl (fun K hK=>?_) AllReadyH.nil;have kk:V1.cell? ⟨X.M,7,none⟩=some (.slice (some ⟨G,0,none⟩) 1 1):=by have:=hC1.cell 7 x.pv rfl;rw[hpv]at this;exact this
      go_simp;refine hK.out _ _ hC1.below (fun hHeld=>?_);clear hK K kk;refine Tk 13 (v:=?_) rfl ?_ ?_;rotate_left
      ·(intro W hSw;go_simp;try with_reducible rfl)
      refine wpAnyH_ready (rs:=[14]) (by kernel_rfl) (by simp) ?_;refine AllReadyH.cons rfl (fun K hK=>?_) AllReadyH.nil;have kk:=rowAt hG1 0 (.string y) rfl;have zz:=rowFz hG1 0;have U6:=hC1.setG hX hBG hpv hG1 (y++u);have HN:=HN0.out u hu.out;go_simp;refine hK.out _ _ U6.1.below (fun hHeld=>?_);clear hK K kk zz;refine wpAnyH_done (by kernel_rfl) ?_ _;clear e0 e6 e13 sA;obtain rfl:=HA.out;simp only[stL_set,stL_eta,Nat.reduceLeDiff,Nat.reduceSub];exact⟨.opq,_,_,_,_,_,{x with xs:=[y++u]},_,_,_,_,_,_,_,(by simp only[List.length_set];exact hl),rfl,U6.1,(fun _=>⟨G,y++u,hBG,hpv,rfl,U6.2⟩),(by nofun),HN.out⟩
     refine AllReadyH.cons rfl (fun K hK=>?_) AllReadyH.nil;go_simp
     go_at_call 38
     refine(cE.out _ hC hG).mono ?_;rintro _ V1 ⟨u,rfl,⟨hu,hus⟩,hC1,hG1⟩;refine hK.out _ _ hC1.below (fun hHeld=>?_);clear hK K hC hG;refine wpAnyH_ready (rs:=[1,3]) (by kernel_rfl) (by simp) ?_;refine AllReadyH.cons rfl (fun K hK=>?_) ?_
     ·skip
      have kk:V1.cell? ⟨X.M,7,none⟩=some (.slice (some ⟨G,0,none⟩) 1 1):=by have:=hC1.cell 7 x.pv rfl;rw[hpv]at this;exact this
      go_simp;refine hK.out _ _ hC1.below (fun hHeld=>?_);clear hK K kk;refine wpAnyH_ready (rs:=[3]) (by kernel_rfl) (by simp) ?_;refine AllReadyH.cons rfl (fun K hK=>?_) AllReadyH.nil;have kk:V1.cell? ⟨X.M,7,none⟩=some (.slice (some ⟨G,0,none⟩) 1 1):=by have:=hC1.cell 7 x.pv rfl;rw[hpv]at this;exact this
      go_simp;refine hK.out _ _ hC1.below (fun hHeld=>?_);clear hK K kk;refine Tk 4 (v:=?_) rfl ?_ ?_;rotate_left
      ·(intro W hSw;go_simp;try with_reducible rfl)
      refine wpAnyH_ready (rs:=[5]) (by kernel_rfl) (by simp) ?_;refine AllReadyH.cons rfl (fun K hK=>?_) AllReadyH.nil;have kk:=rowAt hG1 0 (.string y) rfl;go_simp;refine hK.out _ _ hC1.below (fun hHeld=>?_);clear hK K kk;have hcat:¬(9223372036854775807<y.size+u.size):=by omega
      refine Tk 12 (v:=?_) rfl ?_ ?_;rotate_left
      ·(intro W hSw;go_simp;try with_reducible rfl)
      refine Tk 13 (v:=?_) rfl ?_ ?_;rotate_left
      ·(intro W hSw;go_simp;try with_reducible rfl)
      refine wpAnyH_ready (rs:=[14]) (by kernel_rfl) (by simp) ?_;refine AllReadyH.cons rfl (fun K hK=>?_) AllReadyH.nil;have kk:=rowAt hG1 0 (.string y) rfl;have zz:=rowFz hG1 0;have U6:=hC1.setG hX hBG hpv hG1 (y++u);have HN:=HN0.out u hu.out;go_simp;refine hK.out _ _ U6.1.below (fun hHeld=>?_);clear hK K kk zz;refine wpAnyH_done (by kernel_rfl) ?_ _;clear e0 e6 e13 sA;obtain rfl:=HA.out;simp only[stL_set,stL_eta,Nat.reduceLeDiff,Nat.reduceSub];exact⟨.opq,_,_,_,_,_,{x with xs:=[y++u]},_,_,_,_,_,_,_,(by simp only[List.length_set];exact hl),rfl,U6.1,(fun _=>⟨G,y++u,hBG,hpv,rfl,U6.2⟩),(by nofun),HN.out⟩
     refine AllReadyH.cons rfl (fun K hK=>?_) AllReadyH.nil;have kk:V1.cell? ⟨X.M,7,none⟩=some (.slice (some ⟨G,0,none⟩) 1 1):=by have:=hC1.cell 7 x.pv rfl;rw[hpv]at this;exact this
     go_simp;refine hK.out _ _ hC1.below (fun hHeld=>?_);clear hK K kk;refine Tk 4 (v:=?_) rfl ?_ ?_;rotate_left
     ·(intro W hSw;go_simp;try with_reducible rfl)
     refine wpAnyH_ready (rs:=[1,5]) (by kernel_rfl) (by simp) ?_;refine AllReadyH.cons rfl (fun K hK=>?_) ?_
     ·skip
      have kk:V1.cell? ⟨X.M,7,none⟩=some (.slice (some ⟨G,0,none⟩) 1 1):=by have:=hC1.cell 7 x.pv rfl;rw[hpv]at this;exact this
      go_simp;refine hK.out _ _ hC1.below (fun hHeld=>?_);clear hK K kk;refine wpAnyH_ready (rs:=[5]) (by kernel_rfl) (by simp) ?_;refine AllReadyH.cons rfl (fun K hK=>?_) AllReadyH.nil;have kk:=rowAt hG1 0 (.string y) rfl;go_simp;refine hK.out _ _ hC1.below (fun hHeld=>?_);clear hK K kk;have hcat:¬(9223372036854775807<y.size+u.size):=by omega
      refine Tk 12 (v:=?_) rfl ?_ ?_;rotate_left
      ·(intro W hSw;go_simp;try with_reducible rfl)
      refine Tk 13 (v:=?_) rfl ?_ ?_;rotate_left
      ·(intro W hSw;go_simp;try with_reducible rfl)
      refine wpAnyH_ready (rs:=[14]) (by kernel_rfl) (by simp) ?_;refine AllReadyH.cons rfl (fun K hK=>?_) AllReadyH.nil;have kk:=rowAt hG1 0 (.string y) rfl;have zz:=rowFz hG1 0;have U6:=hC1.setG hX hBG hpv hG1 (y++u);have HN:=HN0.out u hu.out;go_simp;refine hK.out _ _ U6.1.below (fun hHeld=>?_);clear hK K kk zz;refine wpAnyH_done (by kernel_rfl) ?_ _;clear e0 e6 e13 sA;obtain rfl:=HA.out;simp only[stL_set,stL_eta,Nat.reduceLeDiff,Nat.reduceSub];exact⟨.opq,_,_,_,_,_,{x with xs:=[y++u]},_,_,_,_,_,_,_,(by simp only[List.length_set];exact hl),rfl,U6.1,(fun _=>⟨G,y++u,hBG,hpv,rfl,U6.2⟩),(by nofun),HN.out⟩
     refine AllReadyH.cons rfl (fun K hK=>?_) AllReadyH.nil;have kk:=rowAt hG1 0 (.string y) rfl;go_simp;refine hK.out _ _ hC1.below (fun hHeld=>?_);clear hK K kk;have hcat:¬(9223372036854775807<y.size+u.size):=by omega
     refine Tk 12 (v:=?_) rfl ?_ ?_;rotate_left
     ·(intro W hSw;go_simp;try with_reducible rfl)
     refine wpAnyH_ready (rs:=[1]) (by kernel_rfl) (by simp) ?_;refine AllReadyH.cons rfl (fun K hK=>?_) AllReadyH.nil;have kk:V1.cell? ⟨X.M,7,none⟩=some (.slice (some ⟨G,0,none⟩) 1 1):=by have:=hC1.cell 7 x.pv rfl;rw[hpv]at this;exact this
     go_simp;refine hK.out _ _ hC1.below (fun hHeld=>?_);clear hK K kk;refine Tk 13 (v:=?_) rfl ?_ ?_;rotate_left
     ·(intro W hSw;go_simp;try with_reducible rfl)
     refine wpAnyH_ready (rs:=[14]) (by kernel_rfl) (by simp) ?_;refine AllReadyH.cons rfl (fun K hK=>?_) AllReadyH.nil;have kk:=rowAt hG1 0 (.string y) rfl;have zz:=rowFz hG1 0;have U6:=hC1.setG hX hBG hpv hG1 (y++u);have HN:=HN0.out u hu.out;go_simp;refine hK.out _ _ U6.1.below (fun hHeld=>?_);clear hK K kk zz;refine wpAnyH_done (by kernel_rfl) ?_ _;clear e0 e6 e13 sA;obtain rfl:=HA.out;simp only[stL_set,stL_eta,Nat.reduceLeDiff,Nat.reduceSub];exact⟨.opq,_,_,_,_,_,{x with xs:=[y++u]},_,_,_,_,_,_,_,(by simp only[List.length_set];exact hl),rfl,U6.1,(fun _=>⟨G,y++u,hBG,hpv,rfl,U6.2⟩),(by nofun),HN.out⟩
end Go.Proofs.YtipndhbgehdeoaaGreatDoor
