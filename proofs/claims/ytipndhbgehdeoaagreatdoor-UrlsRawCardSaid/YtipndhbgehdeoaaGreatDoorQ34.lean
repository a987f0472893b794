/-
  lazaretref08.run: relative.
-/
import Derived.Test.YtipndhbgehdeoaaGreatDoorQ32
import Derived.Test.YtipndhbgehdeoaaGreatDoorQ26
set_option maxHeartbeats 8000000
set_option maxRecDepth 100000
namespace Go.Proofs.YtipndhbgehdeoaaGreatDoor
open Go.RowKit
attribute [local go_sem ↓] Go.wp_at_zero Go.wp_at_succ
def MkV.rest (x:MkV) (usr pas:ByteArray) (hh:Bool) (hst:ByteArray) (prt:Int):MkV:={x with usr:=usr,pas:=pas,hh:=hh,hst:=hst,prt:=prt}
def restW (w:World) (M:Nat) (usr pas:ByteArray) (hh:Bool) (hst:ByteArray) (prt:Int):World:=((((w.setCell ⟨M,1,none⟩ (.string usr)).setCell ⟨M,2,none⟩ (.string pas)).setCell ⟨M,3,none⟩ (.bool hh)).setCell ⟨M,4,none⟩ (.string hst)).setCell ⟨M,5,none⟩ (.int .i64 prt)
theorem UAt.rest {X:RX} {w:World} {x:MkV} (hX:X.Ok) (h:UAt X w x) (usr pas:ByteArray) (hh:Bool) (hst:ByteArray) (prt:Int):UAt X (restW w X.M usr pas hh hst prt) (x.rest usr pas hh hst prt):=
 ((((h.setF hX 1 (.string usr) {x with usr:=usr} rfl rfl rfl).setF hX 2 (.string pas) {x with usr:=usr,pas:=pas} rfl rfl rfl).setF hX 3 (.bool hh) {x with usr:=usr,pas:=pas,hh:=hh} rfl rfl rfl).setF hX 4 (.string hst) {x with usr:=usr,pas:=pas,hh:=hh,hst:=hst} rfl rfl rfl).setF hX 5 (.int .i64 prt) (x.rest usr pas hh hst prt) rfl rfl rfl
theorem rd_relS:RdOk 6 .relS:=by
 (intro X x buf a p n i e c nx sp sl ov f w hX hU hO hI hsp hR;have hile:=hI.1;have hsz:=hX.size;rw[len_of_size]at hile;have wm:IntKind.i64.wrap ((i:Int)-1)=(i:Int)-1:=IntWalk.i64_in _ (by omega);have wp:IntKind.i64.wrap ((i:Int)+1)=(i:Int)+1:=IntWalk.i64_in _ (by omega);have HI:=Ih hI;have HS:=Ih hsp;have HR:Hid (Lz.Rd X.s.data.toList (Lz.specP x.url.scheme) i e c nx sl ov):=Ih (hsp▸hR);clear hI hR hsp;unfold FR;conv=>(arg 2;whnf))
 clear hO;cases sl with
 | true=>
   cases sp with
   | true=>
     go_wp2_with fail
     exact⟨.ign,_,_,_,_,_,x,_,_,_,_,_,_,_,rfl,rfl,hU,opq_no (by nofun),(by nofun),Lz.w_rels_ign HI.out HR.out rfl HS.out.symm⟩
   | false=>
     have HR2:=HR.out;rw[<-HS.out]at HR2;have h47:=Lz.Rd.is47 HR2 rfl;have b47:((c.toNat:Int)==47)=true:=bq_y h47;have H47:=Ih h47;clear HR2 h47
     go_wp2_with fail
     exact⟨.auth,_,_,_,_,_,x,_,_,_,_,_,_,_,rfl,rfl,hU,opq_no (by nofun),(by nofun),Lz.w_rels_auth HI.out HR.out H47.out HS.out.symm⟩
 | false=>
   have b47:((c.toNat:Int)==47)=false:=bq_n (Lz.Rd.no47 HR.out rfl);obtain⟨_,_,_,y,hb,_⟩:=HI.out
   (have hB:=hX.base.at hU.below;rw[hb]at hB;obtain⟨q0,qfr,sch2,usr2,pas2,hh2,hst2,prt2,opq2,a2,c2,xs2,hq2,hf2,qry2,frg2,hbv,hq0,hrow2,hy,hcells2⟩:=hB)
   subst hy;have p1:=rowAt hrow2 1 _ rfl;have p2:=rowAt hrow2 2 _ rfl;have p3:=rowAt hrow2 3 _ rfl;have p4:=rowAt hrow2 4 _ rfl;have p5:=rowAt hrow2 5 _ rfl;have k1:=hU.cell 1 _ rfl;have k2:=hU.cell 2 _ rfl;have k3:=hU.cell 3 _ rfl;have k4:=hU.cell 4 _ rfl;have k5:=hU.cell 5 _ rfl;have z1:=hU.fz 1;have z2:=hU.fz 2;have z3:=hU.fz 3;have z4:=hU.fz 4;have z5:=hU.fz 5;have hne:¬q0=X.M:=by have:=hX.bm;omega
   have hne2:¬X.M=q0:=fun h=>hne h.symm;have U5:=Ih (hU.rest hX usr2 pas2 hh2 hst2 prt2)
   have HA:Hid (Lz.After X.b X.s.data.toList X.goal .relS i .path ⟨buf.data.toList,a,p,n,(x.rest usr2 pas2 hh2 hst2 prt2).url⟩ ((i:Int)-1)):=by
    have h1:=HI.out;rw[hb]at h1;have:=Lz.w_rels_path h1 HR.out rfl;show Lz.After _ _ _ _ _ _ _ _;rw[hb];exact this
   clear hcells2 hrow2;rw[hbv];cases sp with
   | true=>
     go_wp2_with fail
     go_region
     all_goals
      go_wp2_with fail
      exact⟨.path,_,_,_,_,_,x.rest usr2 pas2 hh2 hst2 prt2,_,_,_,_,_,_,_,rfl,(by rw[hbv];rfl),U5.out.call hX (Below.refl _ _).drew,opq_no (by nofun),(by nofun),HA.out⟩
   | false=>
     go_wp2_with fail
     go_region
     all_goals
      go_wp2_with fail
      exact⟨.path,_,_,_,_,_,x.rest usr2 pas2 hh2 hst2 prt2,_,_,_,_,_,_,_,rfl,(by rw[hbv];rfl),U5.out.call hX (Below.refl _ _).drew,opq_no (by nofun),(by nofun),HA.out⟩
attribute [local go_sem ↓] Go.wp_at_zero Go.wp_at_succ
theorem brow {X:RX} {V:World} (h:Below X.B X.w0 V) {q0:Nat} (hq0:q0<X.B) {o:Obj} (hr:X.w0.heap[q0]? =some o):V.heap[q0]? =some o:=by rw[h.block q0 hq0];exact hr
theorem bcells {X:RX} {V:World} (h:Below X.B X.w0 V) {xs:List ByteArray} {a:Option Addr} (hc:∀(j:Nat) (x:ByteArray),xs[j]? =some x->∃G off,a=some ⟨G,off,none⟩/\G<X.B/\X.w0.cell? ⟨G,off+j,none⟩=some (.string x)):
  ∀(j:Nat) (x:ByteArray),xs[j]? =some x->∃G off,a=some ⟨G,off,none⟩/\V.cell? ⟨G,off+j,none⟩=some (.string x):=by
 intro j x hj;obtain⟨G,off,h1,h2,h3⟩:=hc j x hj;exact⟨G,off,h1,by rw[h.cell (p:=⟨G,off+j,none⟩) h2];exact h3⟩
theorem rd_rel:RdOk 5 .rel:=by
 (intro X x buf a p n i e c nx sp sl ov f w hX hU hO hI hsp hR;subst hsp;have hile:=hI.1;have hsz:=hX.size;rw[len_of_size]at hile;have wm:IntKind.i64.wrap ((i:Int)-1)=(i:Int)-1:=IntWalk.i64_in _ (by omega);have wp:IntKind.i64.wrap ((i:Int)+1)=(i:Int)+1:=IntWalk.i64_in _ (by omega);have HI:=Ih hI;have HR:=Ih hR;clear hI hR;unfold FR;conv=>(arg 2;whnf))
 clear hO;cases sl with
 | true=>
   go_wp2_with fail
   exact⟨.relS,_,_,_,_,_,x,_,_,_,_,_,_,_,rfl,rfl,hU,opq_no (by nofun),(by nofun),Lz.w_rel_slash HI.out HR.out rfl⟩
 | false=>
   obtain⟨-,-,-,y,hb,-⟩:=HI.out
   (have hB:=hX.base;rw[hb]at hB;obtain⟨q0,qfr,sch2,usr2,pas2,hh2,hst2,prt2,opq2,a2,c2,xs2,hq2,hf2,qry2,frg2,hbv,hq0,hrow0,hy,hcells0⟩:=hB)
   have HBV:=Ih hbv;have HBB:=Ih hb;have hform:=hX.form y hb;subst hy;have hL2:xs2.length<=1000000:=by have:=hform.2;simpa using this
   have HC0:=Ih hcells0;have HR0:=Ih hrow0;have HI2:=HI.out;rw[hb]at HI2;have HI3:=Ih HI2;have HFo:=Ih hform;clear hcells0 hrow0 HI2 hform hbv hb
   go_wp2_with fail
   rename_i K0 hK0;refine frame_st X (nmB .rel) buf a p n i e c nx (Lz.specP x.url.scheme) false ov _ rfl (fun A l hl hA=>?_);have sA:A.tmps.size=781:=by rw[hA];exact stL_size _ _ _ _ _ _ _ _ _ _ _ _ _ _ hl
   have e1:A.tmps[1]'(by rw[sA];decide)=.pointer (some ⟨q0,0,none⟩):=by subst hA;exact HBV.out
   have e6:A.tmps[6]'(by rw[sA];decide)=.pointer (some ⟨X.M,0,none⟩):=by subst hA;rfl
   have HA:=Ih hA;clear hA;have hUd:=hU.call hX (Below.refl _ w).drew;have hSd:=hUd.below;refine wp_region_held_drew (S:=fun V=>Below X.B X.w0 V) (by kernel_rfl) hSd (fun hHeld=>?_);generalize w.drew=V0 at hUd hSd hHeld⊢;refine Tk 0 (v:=?_) rfl ?_ ?_;rotate_left
   ·(intro W hSw;go_simp;try with_reducible rfl)
   refine Tk 1 (v:=?_) rfl ?_ ?_;rotate_left
   ·(intro W hSw;go_simp;try with_reducible rfl)
   refine Tk 2 (v:=?_) rfl ?_ ?_;rotate_left
   ·(intro W hSw;go_simp;try with_reducible rfl)
   refine Tk 3 (v:=?_) rfl ?_ ?_;rotate_left
   ·(intro W hSw;have kk:=rowAt (brow hSw hq0 HR0.out) 1 (.string usr2) rfl;go_simp;try with_reducible rfl)
   refine Tk 4 (v:=?_) rfl ?_ ?_;rotate_left
   ·(intro W hSw;go_simp;try with_reducible rfl)
   refine Tk 5 (v:=?_) rfl ?_ ?_;rotate_left
   ·(intro W hSw;go_simp;try with_reducible rfl)
   refine Tk 6 (v:=?_) rfl ?_ ?_;rotate_left
   ·(intro W hSw;go_simp;try with_reducible rfl)
   refine Tk 7 (v:=?_) rfl ?_ ?_;rotate_left
   ·(intro W hSw;have kk:=rowAt (brow hSw hq0 HR0.out) 2 (.string pas2) rfl;go_simp;try with_reducible rfl)
   refine Tk 8 (v:=?_) rfl ?_ ?_;rotate_left
   ·(intro W hSw;go_simp;try with_reducible rfl)
   refine Tk 9 (v:=?_) rfl ?_ ?_;rotate_left
   ·(intro W hSw;go_simp;try with_reducible rfl)
   refine Tk 10 (v:=?_) rfl ?_ ?_;rotate_left
   ·(intro W hSw;go_simp;try with_reducible rfl)
   refine Tk 11 (v:=?_) rfl ?_ ?_;rotate_left
   ·(intro W hSw;have kk:=rowAt (brow hSw hq0 HR0.out) 3 (.bool hh2) rfl;go_simp;try with_reducible rfl)
   refine Tk 12 (v:=?_) rfl ?_ ?_;rotate_left
   ·(intro W hSw;go_simp;try with_reducible rfl)
   refine Tk 13 (v:=?_) rfl ?_ ?_;rotate_left
   ·(intro W hSw;go_simp;try with_reducible rfl)
   refine Tk 14 (v:=?_) rfl ?_ ?_;rotate_left
   ·(intro W hSw;go_simp;try with_reducible rfl)
   refine Tk 15 (v:=?_) rfl ?_ ?_;rotate_left
   ·(intro W hSw;have kk:=rowAt (brow hSw hq0 HR0.out) 4 (.string hst2) rfl;go_simp;try with_reducible rfl)
   refine Tk 16 (v:=?_) rfl ?_ ?_;rotate_left
   ·(intro W hSw;go_simp;try with_reducible rfl)
   refine Tk 17 (v:=?_) rfl ?_ ?_;rotate_left
   ·(intro W hSw;go_simp;try with_reducible rfl)
   refine Tk 18 (v:=?_) rfl ?_ ?_;rotate_left
   ·(intro W hSw;go_simp;try with_reducible rfl)
   refine Tk 19 (v:=?_) rfl ?_ ?_;rotate_left
   ·(intro W hSw;have kk:=rowAt (brow hSw hq0 HR0.out) 5 (.int .i64 prt2) rfl;go_simp;try with_reducible rfl)
   refine Tk 20 (v:=?_) rfl ?_ ?_;rotate_left
   ·(intro W hSw;go_simp;try with_reducible rfl)
   refine wpAnyH_ready (rs:=[21]) (by kernel_rfl) (by simp) ?_;refine AllReadyH.cons rfl (fun K hK=>?_) AllReadyH.nil;have kk:=hUd.cell 1 (.string x.usr) rfl;have zz:=hUd.fz 1;have U1:=hUd.setF hX 1 (.string usr2) {x with usr:=usr2} rfl rfl rfl;go_simp;refine hK.out _ _ U1.below (fun hHeld=>?_);clear hK K kk zz hUd;generalize V0.setCell ⟨X.M,1,none⟩ (.string usr2)=V1 at U1 hHeld⊢;refine Tk 22 (v:=?_) rfl ?_ ?_;rotate_left
   ·(intro W hSw;go_simp;try with_reducible rfl)
   refine wpAnyH_ready (rs:=[23]) (by kernel_rfl) (by simp) ?_;refine AllReadyH.cons rfl (fun K hK=>?_) AllReadyH.nil;have kk:=U1.cell 2 (.string x.pas) rfl;have zz:=U1.fz 2;have U2:=U1.setF hX 2 (.string pas2) {x with usr:=usr2,pas:=pas2} rfl rfl rfl;go_simp;refine hK.out _ _ U2.below (fun hHeld=>?_);clear hK K kk zz U1;generalize V1.setCell ⟨X.M,2,none⟩ (.string pas2)=V2 at U2 hHeld⊢;refine Tk 24 (v:=?_) rfl ?_ ?_;rotate_left
   ·(intro W hSw;go_simp;try with_reducible rfl)
   refine wpAnyH_ready (rs:=[25]) (by kernel_rfl) (by simp) ?_;refine AllReadyH.cons rfl (fun K hK=>?_) AllReadyH.nil;have kk:=U2.cell 3 (.bool x.hh) rfl;have zz:=U2.fz 3;have U3:=U2.setF hX 3 (.bool hh2) {x with usr:=usr2,pas:=pas2,hh:=hh2} rfl rfl rfl;go_simp;refine hK.out _ _ U3.below (fun hHeld=>?_);clear hK K kk zz U2;generalize V2.setCell ⟨X.M,3,none⟩ (.bool hh2)=V3 at U3 hHeld⊢;refine Tk 26 (v:=?_) rfl ?_ ?_;rotate_left
   ·(intro W hSw;go_simp;try with_reducible rfl)
   refine wpAnyH_ready (rs:=[27]) (by kernel_rfl) (by simp) ?_;refine AllReadyH.cons rfl (fun K hK=>?_) AllReadyH.nil;have kk:=U3.cell 4 (.string x.hst) rfl;have zz:=U3.fz 4;have U4:=U3.setF hX 4 (.string hst2) {x with usr:=usr2,pas:=pas2,hh:=hh2,hst:=hst2} rfl rfl rfl;go_simp;refine hK.out _ _ U4.below (fun hHeld=>?_);clear hK K kk zz U3;generalize V3.setCell ⟨X.M,4,none⟩ (.string hst2)=V4 at U4 hHeld⊢;refine Tk 28 (v:=?_) rfl ?_ ?_;rotate_left
   ·(intro W hSw;go_simp;try with_reducible rfl)
   refine wpAnyH_ready (rs:=[29]) (by kernel_rfl) (by simp) ?_;refine AllReadyH.cons rfl (fun K hK=>?_) AllReadyH.nil;have kk:=U4.cell 5 (.int .i64 x.prt) rfl;have zz:=U4.fz 5;have U5:=U4.setF hX 5 (.int .i64 prt2) (x.rest usr2 pas2 hh2 hst2 prt2) rfl rfl rfl;go_simp;refine hK.out _ _ U5.below (fun hHeld=>?_);clear hK K kk zz U4;generalize V4.setCell ⟨X.M,5,none⟩ (.int .i64 prt2)=V5 at U5 hHeld⊢;refine wpAnyH_done (by kernel_rfl) ?_ _;clear e1 e6 sA;obtain rfl:=HA.out;simp only[stL_set,stL_eta,Nat.reduceLeDiff,Nat.reduceSub];refine hK0 _ _ ?_;refine reframe X (nmB .rel) buf a p n i e c nx (Lz.specP x.url.scheme) false ov _ (by simp only[List.length_set];exact hl) (fun f hf=>?_);clear hf hSd hHeld HA hl;unfold FR;clear hU;have hU:=U5;clear U5
   go_wp2_with fail
   rename_i K1 hK1;refine frame_st X (nmB .rel) buf a p n i e c nx (Lz.specP x.url.scheme) false ov _ rfl (fun A l hl hA=>?_);have sA:A.tmps.size=781:=by rw[hA];exact stL_size _ _ _ _ _ _ _ _ _ _ _ _ _ _ hl
   have e1:A.tmps[1]'(by rw[sA];decide)=.pointer (some ⟨q0,0,none⟩):=by subst hA;exact HBV.out
   have e6:A.tmps[6]'(by rw[sA];decide)=.pointer (some ⟨X.M,0,none⟩):=by subst hA;rfl
   have HA:=Ih hA;clear hA;have hUd:=hU.call hX (Below.refl _ V5).drew;have hSd:=hUd.below;refine wp_region_held_drew (S:=fun V=>Below X.B X.w0 V) (by kernel_rfl) hSd (fun hHeld=>?_);generalize V5.drew=W0 at hUd hSd hHeld⊢;refine Tk 0 (v:=?_) rfl ?_ ?_;rotate_left
   ·(intro W hSw;go_simp;try with_reducible rfl)
   refine Tk 1 (v:=?_) rfl ?_ ?_;rotate_left
   ·(intro W hSw;go_simp;try with_reducible rfl)
   refine Tk 2 (v:=?_) rfl ?_ ?_;rotate_left
   ·(intro W hSw;go_simp;try with_reducible rfl)
   refine Tk 3 (v:=?_) rfl ?_ ?_;rotate_left
   ·(intro W hSw;have kk:=rowAt (brow hSw hq0 HR0.out) 7 (.slice a2 xs2.length c2) rfl;go_simp;try with_reducible rfl)
   refine Tk 5 (v:=?_) rfl ?_ ?_;rotate_left
   ·(intro W hSw;go_simp;try with_reducible rfl)
   refine Tk 6 (v:=?_) rfl ?_ ?_;rotate_left
   ·(intro W hSw;go_simp;try with_reducible rfl)
   refine Tk 7 (v:=?_) rfl ?_ ?_;rotate_left
   ·(intro W hSw;go_simp;try with_reducible rfl)
   refine Tk 8 (v:=?_) rfl ?_ ?_;rotate_left
   ·(intro W hSw;have kk:=rowAt (brow hSw hq0 HR0.out) 10 (.string qry2) rfl;go_simp;try with_reducible rfl)
   refine Tk 9 (v:=?_) rfl ?_ ?_;rotate_left
   ·(intro W hSw;go_simp;try with_reducible rfl)
   refine Tk 10 (v:=?_) rfl ?_ ?_;rotate_left
   ·(intro W hSw;go_simp;try with_reducible rfl)
   refine Tk 11 (v:=?_) rfl ?_ ?_;rotate_left
   ·(intro W hSw;go_simp;try with_reducible rfl)
   refine Tk 12 (v:=?_) rfl ?_ ?_;rotate_left
   ·(intro W hSw;have kk:=rowAt (brow hSw hq0 HR0.out) 8 (.bool hq2) rfl;go_simp;try with_reducible rfl)
   refine wpAnyH_ready (rs:=[4]) (by kernel_rfl) (by simp) ?_;refine AllReadyH.cons rfl (fun K hK=>?_) AllReadyH.nil;rw[if_pos (by rfl)];refine wp_append_nil X.B a2 c2 xs2 (.tmp 255) rfl (by go_simp) (bcells hSd HC0.out) (by omega) (hUd.hB hX) ?_;intro a3 n3 c3 W1 hP hb1;have U0:=hUd.call hX hb1;refine hK.out _ _ U0.below (fun hHeld=>?_);clear hK K hUd hSd hb1;refine Tk 13 (v:=?_) rfl ?_ ?_;rotate_left
   ·(intro W hSw;go_simp;try with_reducible rfl)
   refine wpAnyH_ready (rs:=[14]) (by kernel_rfl) (by simp) ?_;refine AllReadyH.cons rfl (fun K hK=>?_) AllReadyH.nil;have kk:=U0.cell 7 x.pv rfl;have zz:=U0.fz 7;have U1:=U0.set hX 7 (.slice a3 n3 c3) (x':={x.rest usr2 pas2 hh2 hst2 prt2 with pv:=.slice a3 n3 c3,xs:=xs2}) rfl hP;go_simp;refine hK.out _ _ U1.below (fun hHeld=>?_);clear hK K kk zz U0 hP;generalize W1.setCell ⟨X.M,7,none⟩ (.slice a3 n3 c3)=W2 at U1 hHeld⊢;refine Tk 15 (v:=?_) rfl ?_ ?_;rotate_left
   ·(intro W hSw;go_simp;try with_reducible rfl)
   refine wpAnyH_ready (rs:=[16]) (by kernel_rfl) (by simp) ?_;refine AllReadyH.cons rfl (fun K hK=>?_) AllReadyH.nil;have kk:=U1.cell 10 (.string x.qry) rfl;have zz:=U1.fz 10;have U2:=U1.setF hX 10 (.string qry2) {x.rest usr2 pas2 hh2 hst2 prt2 with pv:=.slice a3 n3 c3,xs:=xs2,qry:=qry2} rfl rfl rfl;go_simp;refine hK.out _ _ U2.below (fun hHeld=>?_);clear hK K kk zz U1;generalize W2.setCell ⟨X.M,10,none⟩ (.string qry2)=W3 at U2 hHeld⊢;refine Tk 17 (v:=?_) rfl ?_ ?_;rotate_left
   ·(intro W hSw;go_simp;try with_reducible rfl)
   refine wpAnyH_ready (rs:=[18]) (by kernel_rfl) (by simp) ?_;refine AllReadyH.cons rfl (fun K hK=>?_) AllReadyH.nil;have kk:=U2.cell 8 (.bool x.hq) rfl;have zz:=U2.fz 8;have U3:=U2.setF hX 8 (.bool hq2) {x.rest usr2 pas2 hh2 hst2 prt2 with pv:=.slice a3 n3 c3,xs:=xs2,qry:=qry2,hq:=hq2} rfl rfl rfl;go_simp;refine hK.out _ _ U3.below (fun hHeld=>?_);clear hK K kk zz U2;generalize W3.setCell ⟨X.M,8,none⟩ (.bool hq2)=W4 at U3 hHeld⊢;refine wpAnyH_done (by kernel_rfl) ?_ _;clear e1 e6 sA;obtain rfl:=HA.out;simp only[stL_set,stL_eta,Nat.reduceLeDiff,Nat.reduceSub];refine hK1 _ _ ?_;refine reframe X (nmB .rel) buf a p n i e c nx (Lz.specP x.url.scheme) false ov _ (by simp only[List.length_set];exact hl) (fun f hf=>?_);clear hf hHeld HA hl hU;unfold FR;have hU:=U3;clear U3;by_cases h63:c=63
   ·have b63:((c.toNat:Int)==63)=true:=bq_y h63;have k8:=hU.cell 8 (.bool hq2) rfl;have z8:=hU.fz 8;have k10:=hU.cell 10 (.string qry2) rfl;have z10:=hU.fz 10;have U4:=Ih ((hU.setF hX 10 (.string ⟨#[]⟩) {x.rest usr2 pas2 hh2 hst2 prt2 with pv:=.slice a3 n3 c3,xs:=xs2,qry:=⟨#[]⟩,hq:=hq2} rfl rfl rfl).setF hX 8 (.bool true) {x.rest usr2 pas2 hh2 hst2 prt2 with pv:=.slice a3 n3 c3,xs:=xs2,qry:=⟨#[]⟩,hq:=true} rfl rfl rfl)
    have HN:Hid (Lz.After X.b X.s.data.toList X.goal .rel i .query ⟨buf.data.toList,a,p,n,MkV.url {x.rest usr2 pas2 hh2 hst2 prt2 with pv:=.slice a3 n3 c3,xs:=xs2,qry:=⟨#[]⟩,hq:=true}⟩ (i:Int)):=Ih (by
     rw[HBB.out];exact Lz.w_rel_q HI3.out HR.out h63)
    clear h63
    go_wp2_with fail
    exact⟨.query,_,_,_,_,_,{x.rest usr2 pas2 hh2 hst2 prt2 with pv:=.slice a3 n3 c3,xs:=xs2,qry:=⟨#[]⟩,hq:=true},_,_,_,_,_,_,_,rfl,rfl,U4.out,opq_no (by nofun),(by nofun),HN.out⟩
   ·have b63:((c.toNat:Int)==63)=false:=bq_n h63;by_cases h35:c=35
    ·have b35:((c.toNat:Int)==35)=true:=bq_y h35;have k9:=hU.cell 9 (.bool x.hf) rfl;have z9:=hU.fz 9;have U4:=Ih (hU.setF hX 9 (.bool true) {x.rest usr2 pas2 hh2 hst2 prt2 with pv:=.slice a3 n3 c3,xs:=xs2,qry:=qry2,hq:=hq2,hf:=true} rfl rfl rfl)
     have HN:Hid (Lz.After X.b X.s.data.toList X.goal .rel i .frag ⟨buf.data.toList,a,p,n,MkV.url {x.rest usr2 pas2 hh2 hst2 prt2 with pv:=.slice a3 n3 c3,xs:=xs2,qry:=qry2,hq:=hq2,hf:=true}⟩ (i:Int)):=Ih (by
      rw[HBB.out];exact Lz.w_rel_f HFo.out.1 HI3.out HR.out h35)
     clear h35 h63
     go_wp2_with fail
     exact⟨.frag,_,_,_,_,_,{x.rest usr2 pas2 hh2 hst2 prt2 with pv:=.slice a3 n3 c3,xs:=xs2,qry:=qry2,hq:=hq2,hf:=true},_,_,_,_,_,_,_,rfl,rfl,U4.out,opq_no (by nofun),(by nofun),HN.out⟩
    ·have b35:((c.toNat:Int)==35)=false:=bq_n h35;cases e with
     | true=>
       have HN:Hid (Lz.After X.b X.s.data.toList X.goal .rel i .rel ⟨buf.data.toList,a,p,n,MkV.url {x.rest usr2 pas2 hh2 hst2 prt2 with pv:=.slice a3 n3 c3,xs:=xs2,qry:=qry2,hq:=hq2}⟩ (i:Int)):=Ih (by
        rw[HBB.out];exact Lz.w_rel_end HFo.out.1 HI3.out HR.out rfl)
       clear h35 h63
       go_wp2_with fail
       exact⟨.rel,_,_,_,_,_,{x.rest usr2 pas2 hh2 hst2 prt2 with pv:=.slice a3 n3 c3,xs:=xs2,qry:=qry2,hq:=hq2},_,_,_,_,_,_,_,rfl,rfl,hU,opq_no (by nofun),(by nofun),HN.out⟩
     | false=>
       have k8:=hU.cell 8 (.bool hq2) rfl;have z8:=hU.fz 8;have k10:=hU.cell 10 (.string qry2) rfl;have z10:=hU.fz 10;have U4:=Ih ((hU.setF hX 10 (.string ⟨#[]⟩) {x.rest usr2 pas2 hh2 hst2 prt2 with pv:=.slice a3 n3 c3,xs:=xs2,qry:=⟨#[]⟩,hq:=hq2} rfl rfl rfl).setF hX 8 (.bool false) {x.rest usr2 pas2 hh2 hst2 prt2 with pv:=.slice a3 n3 c3,xs:=xs2,qry:=⟨#[]⟩,hq:=false} rfl rfl rfl);have k0:=U4.out.cell 0 (.string x.sch) rfl;have k7:=U4.out.cell 7 (.slice a3 n3 c3) rfl;have cS:=Ih (shorten08_any X.B x.sch (.slice a3 n3 c3) xs2 _ U4.out.own (U4.out.hB hX) (by omega))
       go_wp2_with fail
       refine cS.out.mono ?_;rintro _ w2 ⟨a4,n4,c4,ys,rfl,hys,hown,hb⟩;have hU2:=U4.out.call hX hb;have k7:=hU2.cell 7 (.slice a3 n3 c3) rfl;have z7:=hU2.fz 7;have U5:=Ih (hU2.set hX 7 (.slice a4 n4 c4) (x':={x.rest usr2 pas2 hh2 hst2 prt2 with pv:=.slice a4 n4 c4,xs:=ys,qry:=⟨#[]⟩,hq:=false}) rfl hown)
       have HN:Hid (Lz.After X.b X.s.data.toList X.goal .rel i .path ⟨buf.data.toList,a,p,n,MkV.url {x.rest usr2 pas2 hh2 hst2 prt2 with pv:=.slice a4 n4 c4,xs:=ys,qry:=⟨#[]⟩,hq:=false}⟩ ((i:Int)-1)):=Ih (by
        rw[HBB.out];show Lz.After _ _ _ _ _ _ ⟨_,_,_,_,{MkV.url {x.rest usr2 pas2 hh2 hst2 prt2 with pv:=.slice a3 n3 c3,xs:=xs2,qry:=⟨#[]⟩,hq:=false} with path:=ys.map (fun x:ByteArray=>x.data.toList)}⟩ _;rw[hys];exact Lz.w_rel_path HFo.out.2 HI3.out HR.out rfl rfl h63 h35)
       clear h35 h63 hys hown hb cS
       go_wp2_with fail
       exact⟨.path,_,_,_,_,_,{x.rest usr2 pas2 hh2 hst2 prt2 with pv:=.slice a4 n4 c4,xs:=ys,qry:=⟨#[]⟩,hq:=false},_,_,_,_,_,_,_,rfl,rfl,U5.out,opq_no (by nofun),(by nofun),HN.out⟩
end Go.Proofs.YtipndhbgehdeoaaGreatDoor
