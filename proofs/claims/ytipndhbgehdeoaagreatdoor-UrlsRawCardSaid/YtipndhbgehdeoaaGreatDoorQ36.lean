/-
  lazaretref08.run: start, fragment, query.
-/
import Derived.Test.YtipndhbgehdeoaaGreatDoorQ32
import Derived.Test.YtipndhbgehdeoaaGreatDoorQ33
set_option maxHeartbeats 4000000
set_option maxRecDepth 100000
namespace Go.Proofs.YtipndhbgehdeoaaGreatDoor
open Go.RowKit
attribute [local go_sem ↓] Go.wp_at_zero Go.wp_at_succ
theorem ext_one {s:ByteArray} {i:Nat} {c:UInt8} {r:List UInt8} (h:s.data.toList.drop i=c::r) (hi:i<s.size):(s.extract i (i+1)).data.toList=[c]:=by
 rw[extract_at s i hi];rw[List.drop_eq_getElem_cons (by rw[len_of_size];exact hi)]at h;injection h with h _
 rw[<-h];rfl
theorem ext_sz {s:ByteArray} {i:Nat} {c:UInt8} (h:(s.extract i (i+1)).data.toList=[c]):(s.extract i (i+1)).size=1:=by rw[<-len_of_size,h];rfl
theorem enc_sz {u:ByteArray} {of:List UInt8} {c:UInt8} (h:u.data.toList=Lz.encodeP of [c]):u.size<=3:=by
 have:=Lz.enc_len3 of [c];rw[<-h,len_of_size]at this;exact this
theorem rd_start:RdOk 0 .start:=by
 (intro X x buf a p n i e c nx sp sl ov f w hX hU hO hI hsp hR;subst hsp;have hile:=hI.1;have hsz:=hX.size;rw[len_of_size]at hile;have wm:IntKind.i64.wrap ((i:Int)-1)=(i:Int)-1:=IntWalk.i64_in _ (by omega);have wp:IntKind.i64.wrap ((i:Int)+1)=(i:Int)+1:=IntWalk.i64_in _ (by omega);have HI:=Ih hI;have HR:=Ih hR;clear hI hR;unfold FR;conv=>(arg 2;whnf))
 clear hO;cases e with
 | true=>
   go_wp2_with fail
   exact⟨.none,_,_,_,_,_,x,_,_,_,_,_,_,_,rfl,rfl,hU,opq_no (by nofun),(by nofun),Lz.w_start_n HI.out HR.out (by nofun)⟩
 | false=>
   (have hlt:=(Lz.Rd.no HR.out rfl).1;rw[len_of_size]at hlt;have hs1:(i:Int)+1<=(X.s.size:Int):=(by omega);have hs0:(0:Int)<=(i:Int):=(by omega);have hs2:(i:Int)<=(i:Int)+1:=(by omega);have HX:Hid ((X.s.extract i (i+1)).data.toList=[c]):=Ih (ext_one (Lz.Rd.no HR.out rfl).2.1 hlt))
   have cA:=Alpha02_any c w;cases hal:Lz.isAlpha c with
   | false=>
     rw[hal]at cA;have HA:=Ih hal;have CA:=Ih cA;clear hal cA
     go_wp2_with fail
     refine CA.out.mono ?_;rintro _ w1 ⟨rfl,rfl⟩
     go_wp2_with fail
     exact⟨.none,_,_,_,_,_,x,_,_,_,_,_,_,_,rfl,rfl,hU,opq_no (by nofun),(by nofun),Lz.w_start_n HI.out HR.out (fun _=>HA.out)⟩
   | true=>
     rw[hal]at cA;have HA:=Ih hal;have CA:=Ih cA;have cL:=Ih (Lower02_c (X.s.extract i (i+1)) (by rw[ext_sz HX.out];omega) w);clear hal cA
     go_wp2_with fail
     refine CA.out.mono ?_;rintro _ w1 ⟨rfl,rfl⟩
     go_wp2_with fail
     refine cL.out.mono ?_;rintro _ w1 ⟨u,rfl,hu,hb⟩;have hU1:=hU.call hX hb
     have HN:Hid (Lz.After X.b X.s.data.toList X.goal .start i .scheme ⟨u.data.toList,a,p,n,x.url⟩ (i:Int)):=Ih (by
      rw[hu.out,HX.out];exact Lz.w_start_a HI.out HR.out rfl HA.out)
     clear hu hb
     go_wp2_with fail
     exact⟨.scheme,_,_,_,_,_,x,_,_,_,_,_,_,_,rfl,rfl,hU1,opq_no (by nofun),(by nofun),HN.out⟩
theorem rd_frag:RdOk 19 .frag:=by
 (intro X x buf a p n i e c nx sp sl ov f w hX hU hO hI hsp hR;subst hsp;have hile:=hI.1;have hsz:=hX.size;rw[len_of_size]at hile;have wm:IntKind.i64.wrap ((i:Int)-1)=(i:Int)-1:=IntWalk.i64_in _ (by omega);have wp:IntKind.i64.wrap ((i:Int)+1)=(i:Int)+1:=IntWalk.i64_in _ (by omega);have HI:=Ih hI;have HR:=Ih hR;clear hI hR;unfold FR;conv=>(arg 2;whnf))
 clear hO;cases e with
 | true=>
   go_wp2_with fail
   exact⟨.frag,_,_,_,_,_,x,_,_,_,_,_,_,_,rfl,rfl,hU,opq_no (by nofun),(by nofun),Lz.w_frag_end HI.out HR.out rfl⟩
 | false=>
   (have hlt:=(Lz.Rd.no HR.out rfl).1;rw[len_of_size]at hlt;have hs1:(i:Int)+1<=(X.s.size:Int):=(by omega);have hs0:(0:Int)<=(i:Int):=(by omega);have hs2:(i:Int)<=(i:Int)+1:=(by omega);have HX:Hid ((X.s.extract i (i+1)).data.toList=[c]):=Ih (ext_one (Lz.Rd.no HR.out rfl).2.1 hlt))
   have hfl:x.frg.size<=75000:=by have:=HI.out.2.1;simp only[MkV.url,len_of_size]at this;omega
   have cE:Hid (∀V,UAt X V x->Calls Tryz.prog 38 #[.string (X.s.extract i (i+1)),.int .i64 1] V fun e w'=>∃u:ByteArray,e=.returned (.string u)/\(Hid (u.data.toList=Lz.encodeP (Lz.setU 1) [c])/\u.size<=3)/\UAt X w' x):=Ih (fun V hV=>(Encode06_any _ 1 (by omega) (by rw[ext_sz HX.out];omega) V).mono fun e w' ⟨u,h1,h2,h3⟩=>⟨u,h1,⟨Ih (by rw[h2.out,HX.out]),enc_sz (by rw[h2.out,HX.out])⟩,hV.call hX h3⟩);have hUd:=hU.call hX (Below.refl _ w).drew
   go_wp2_with fail
   refine frame_gen (fun A hA=>?_);have sA:A.tmps.size=781:=by rw[hA];rfl
   have e0:A.tmps[0]'(by rw[sA];decide)=.string X.s:=by subst hA;rfl
   have e6:A.tmps[6]'(by rw[sA];decide)=.pointer (some ⟨X.M,0,none⟩):=by subst hA;rfl
   have e13:A.tmps[13]'(by rw[sA];decide)=.int .i64 i:=by subst hA;rfl
   have HA:=Ih hA;clear hA;have hSd:=hUd.below;refine wp_region_held_drew (S:=fun V=>Below X.B X.w0 V) (by kernel_rfl) hSd (fun hHeld=>?_);refine Tk 0 (v:=?_) rfl ?_ ?_;rotate_left
   ·(intro W hSw;go_simp;try with_reducible rfl)
   refine Tk 2 (v:=?_) rfl ?_ ?_;rotate_left
   ·(intro W hSw;go_simp;try with_reducible rfl)
   refine Tk 3 (v:=?_) rfl ?_ ?_;rotate_left
   ·(intro W hSw;go_simp;try with_reducible rfl)
   refine Tk 4 (v:=?_) rfl ?_ ?_;rotate_left
   ·(intro W hSw;go_simp;try with_reducible rfl)
   refine Tk 5 (v:=?_) rfl ?_ ?_;rotate_left
   ·(intro W hSw;go_simp;try with_reducible rfl)
   refine Tk 6 (v:=?_) rfl ?_ ?_;rotate_left
   ·(intro W hSw;go_simp;try with_reducible rfl)
   refine wpAnyH_ready (rs:=[1,7]) (by kernel_rfl) (by simp) ?_;refine AllReadyH.cons rfl (fun K hK=>?_) ?_
   ·have kk:=UAt.cell hUd 11 (.string x.frg) rfl;go_simp;refine hK.out _ _ hUd.below (fun hHeld=>?_);clear hK K kk;refine wpAnyH_ready (rs:=[7]) (by kernel_rfl) (by simp) ?_;refine AllReadyH.cons rfl (fun K hK=>?_) AllReadyH.nil;go_simp
    go_at_call 38
    refine(cE.out _ hUd).mono ?_;rintro _ w4 ⟨u,rfl,⟨hu,hus⟩,hU4⟩;refine hK.out _ _ hU4.below (fun hHeld=>?_);clear hK K;have hcat:¬(9223372036854775807<x.frg.size+u.size):=by omega
    refine Tk 8 (v:=?_) rfl ?_ ?_;rotate_left
    ·(intro W hSw;go_simp;try with_reducible rfl)
    refine Tk 9 (v:=?_) rfl ?_ ?_;rotate_left
    ·(intro W hSw;go_simp;try with_reducible rfl)
    refine wpAnyH_ready (rs:=[10]) (by kernel_rfl) (by simp) ?_;refine AllReadyH.cons rfl (fun K hK=>?_) AllReadyH.nil;have kk:=UAt.cell hU4 11 (.string x.frg) rfl;have zz:=UAt.fz hU4 11;have U5:=Ih (hU4.setF hX 11 (.string (x.frg++u)) {x with frg:=x.frg++u} rfl rfl rfl)
    have HN:Hid (Lz.After X.b X.s.data.toList X.goal .frag i .frag ⟨buf.data.toList,a,p,n,MkV.url {x with frg:=x.frg++u}⟩ (i:Int)):=Ih (by
     show Lz.After _ _ _ _ _ _ ⟨_,_,_,_,{x.url with fragment:=(x.frg++u).data.toList}⟩ _;rw[append_data',hu.out];exact Lz.w_frag_c HI.out HR.out rfl)
    clear hu;go_simp;refine hK.out _ _ U5.out.below (fun hHeld=>?_);clear hK K;refine wpAnyH_done (by kernel_rfl) ?_ _;clear e0 e6 e13 sA;obtain rfl:=HA.out;simp only[List.setIfInBounds_toArray];exact⟨.frag,_,_,_,_,_,{x with frg:=x.frg++u},_,_,_,_,_,_,_,(by simp only[List.length_set];rfl),rfl,U5.out,opq_no (by nofun),(by nofun),HN.out⟩
   ·refine AllReadyH.cons rfl (fun K hK=>?_) AllReadyH.nil;go_simp
    go_at_call 38
    refine(cE.out _ hUd).mono ?_;rintro _ w4 ⟨u,rfl,⟨hu,hus⟩,hU4⟩;refine hK.out _ _ hU4.below (fun hHeld=>?_);clear hK K;have hcat:¬(9223372036854775807<x.frg.size+u.size):=by omega
    have kk:=UAt.cell hU4 11 (.string x.frg) rfl;have zz:=UAt.fz hU4 11;refine wpAnyH_ready (rs:=[1]) (by kernel_rfl) (by simp) ?_;refine AllReadyH.cons rfl (fun K hK=>?_) AllReadyH.nil;go_simp;refine hK.out _ _ hU4.below (fun hHeld=>?_);clear hK K;refine Tk 8 (v:=?_) rfl ?_ ?_;rotate_left
    ·(intro W hSw;go_simp;try with_reducible rfl)
    refine Tk 9 (v:=?_) rfl ?_ ?_;rotate_left
    ·(intro W hSw;go_simp;try with_reducible rfl)
    refine wpAnyH_ready (rs:=[10]) (by kernel_rfl) (by simp) ?_;refine AllReadyH.cons rfl (fun K hK=>?_) AllReadyH.nil;have U5:=Ih (hU4.setF hX 11 (.string (x.frg++u)) {x with frg:=x.frg++u} rfl rfl rfl)
    have HN:Hid (Lz.After X.b X.s.data.toList X.goal .frag i .frag ⟨buf.data.toList,a,p,n,MkV.url {x with frg:=x.frg++u}⟩ (i:Int)):=Ih (by
     show Lz.After _ _ _ _ _ _ ⟨_,_,_,_,{x.url with fragment:=(x.frg++u).data.toList}⟩ _;rw[append_data',hu.out];exact Lz.w_frag_c HI.out HR.out rfl)
    clear hu;go_simp;refine hK.out _ _ U5.out.below (fun hHeld=>?_);clear hK K;refine wpAnyH_done (by kernel_rfl) ?_ _;clear e0 e6 e13 sA;obtain rfl:=HA.out;simp only[List.setIfInBounds_toArray];exact⟨.frag,_,_,_,_,_,{x with frg:=x.frg++u},_,_,_,_,_,_,_,(by simp only[List.length_set];rfl),rfl,U5.out,opq_no (by nofun),(by nofun),HN.out⟩
theorem rd_query:RdOk 18 .query:=by
 (intro X x buf a p n i e c nx sp sl ov f w hX hU hO hI hsp hR;have hile:=hI.1;have hsz:=hX.size;rw[len_of_size]at hile;have wm:IntKind.i64.wrap ((i:Int)-1)=(i:Int)-1:=IntWalk.i64_in _ (by omega);have wp:IntKind.i64.wrap ((i:Int)+1)=(i:Int)+1:=IntWalk.i64_in _ (by omega);have HI:=Ih hI;have HS:=Ih hsp;have HR:Hid (Lz.Rd X.s.data.toList (Lz.specP x.url.scheme) i e c nx sl ov):=Ih (hsp▸hR);clear hI hR hsp;unfold FR;conv=>(arg 2;whnf))
 clear hO;by_cases h35:c=35
 ·have b35:((c.toNat:Int)==35)=true:=bq_y h35;have H35:=Ih h35;clear h35;have k9:=hU.cell 9 _ rfl;have z9:=hU.fz 9;have U9:=Ih (hU.setF hX 9 (.bool true) {x with hf:=true} rfl rfl rfl)
  go_wp2_with fail
  exact⟨.frag,_,_,_,_,_,{x with hf:=true},_,_,_,_,_,_,_,rfl,rfl,U9.out,opq_no (by nofun),(by nofun),Lz.w_query_f HI.out HR.out H35.out⟩
 ·have b35:((c.toNat:Int)==35)=false:=bq_n h35;have H35:=Ih h35;clear h35;cases e with
  | true=>
    go_wp2_with fail
    exact⟨.query,_,_,_,_,_,x,_,_,_,_,_,_,_,rfl,rfl,hU,opq_no (by nofun),(by nofun),Lz.w_query_end HI.out HR.out rfl⟩
  | false=>
  cases sp with
  | true=>
    have HQ:Hid (Lz.After X.b X.s.data.toList X.goal .query i .query ⟨buf.data.toList,a,p,n,{x.url with query:=x.qry.data.toList++Lz.encodeP (Lz.setU 3) [c]}⟩ (i:Int)):=by
     have h:=Lz.w_query_c HI.out HR.out rfl H35.out;rw[show Lz.qset _=Lz.setU 3 by unfold Lz.qset;rw[<-HS.out];rfl]at h;exact Ih h
    (have hlt:=(Lz.Rd.no HR.out rfl).1;rw[len_of_size]at hlt;have hs1:(i:Int)+1<=(X.s.size:Int):=(by omega);have hs0:(0:Int)<=(i:Int):=(by omega);have hs2:(i:Int)<=(i:Int)+1:=(by omega);have HX:Hid ((X.s.extract i (i+1)).data.toList=[c]):=Ih (ext_one (Lz.Rd.no HR.out rfl).2.1 hlt))
    have hfl:x.qry.size<=75000:=by have:=HI.out.2.2.2.1;simp only[MkV.url,len_of_size]at this;omega
    have cE:Hid (∀V,UAt X V x->Calls Tryz.prog 38 #[.string (X.s.extract i (i+1)),.int .i64 3] V fun e w'=>∃u:ByteArray,e=.returned (.string u)/\(Hid (u.data.toList=Lz.encodeP (Lz.setU 3) [c])/\u.size<=3)/\UAt X w' x):=Ih (fun V hV=>(Encode06_any _ 3 (by omega) (by rw[ext_sz HX.out];omega) V).mono fun e w' ⟨u,h1,h2,h3⟩=>⟨u,h1,⟨Ih (by rw[h2.out,HX.out]),enc_sz (by rw[h2.out,HX.out])⟩,hV.call hX h3⟩);have hUd:=hU.call hX (Below.refl _ w).drew
    go_wp2_with fail
    refine frame_gen (fun A hA=>?_);have sA:A.tmps.size=781:=by rw[hA];rfl
    have e0:A.tmps[0]'(by rw[sA];decide)=.string X.s:=by subst hA;rfl
    have e6:A.tmps[6]'(by rw[sA];decide)=.pointer (some ⟨X.M,0,none⟩):=by subst hA;rfl
    have e13:A.tmps[13]'(by rw[sA];decide)=.int .i64 i:=by subst hA;rfl
    have HA:=Ih hA;clear hA;have hSd:=hUd.below;refine wp_region_held_drew (S:=fun V=>Below X.B X.w0 V) (by kernel_rfl) hSd (fun hHeld=>?_);refine Tk 0 (v:=?_) rfl ?_ ?_;rotate_left
    ·(intro W hSw;go_simp;try with_reducible rfl)
    refine Tk 2 (v:=?_) rfl ?_ ?_;rotate_left
    ·(intro W hSw;go_simp;try with_reducible rfl)
    refine Tk 3 (v:=?_) rfl ?_ ?_;rotate_left
    ·(intro W hSw;go_simp;try with_reducible rfl)
    refine Tk 4 (v:=?_) rfl ?_ ?_;rotate_left
    ·(intro W hSw;go_simp;try with_reducible rfl)
    refine Tk 5 (v:=?_) rfl ?_ ?_;rotate_left
    ·(intro W hSw;go_simp;try with_reducible rfl)
    refine Tk 6 (v:=?_) rfl ?_ ?_;rotate_left
    ·(intro W hSw;go_simp;try with_reducible rfl)
    refine wpAnyH_ready (rs:=[1,7]) (by kernel_rfl) (by simp) ?_;refine AllReadyH.cons rfl (fun K hK=>?_) ?_
    ·have kk:=UAt.cell hUd 10 (.string x.qry) rfl;go_simp;refine hK.out _ _ hUd.below (fun hHeld=>?_);clear hK K kk;refine wpAnyH_ready (rs:=[7]) (by kernel_rfl) (by simp) ?_;refine AllReadyH.cons rfl (fun K hK=>?_) AllReadyH.nil;go_simp
     go_at_call 38
     refine(cE.out _ hUd).mono ?_;rintro _ w4 ⟨u,rfl,⟨hu,hus⟩,hU4⟩;refine hK.out _ _ hU4.below (fun hHeld=>?_);clear hK K;have hcat:¬(9223372036854775807<x.qry.size+u.size):=by omega
     refine Tk 8 (v:=?_) rfl ?_ ?_;rotate_left
     ·(intro W hSw;go_simp;try with_reducible rfl)
     refine Tk 9 (v:=?_) rfl ?_ ?_;rotate_left
     ·(intro W hSw;go_simp;try with_reducible rfl)
     refine wpAnyH_ready (rs:=[10]) (by kernel_rfl) (by simp) ?_;refine AllReadyH.cons rfl (fun K hK=>?_) AllReadyH.nil;have kk:=UAt.cell hU4 10 (.string x.qry) rfl;have zz:=UAt.fz hU4 10;have U5:=Ih (hU4.setF hX 10 (.string (x.qry++u)) {x with qry:=x.qry++u} rfl rfl rfl)
     have HN:Hid (Lz.After X.b X.s.data.toList X.goal .query i .query ⟨buf.data.toList,a,p,n,MkV.url {x with qry:=x.qry++u}⟩ (i:Int)):=Ih (by
      show Lz.After _ _ _ _ _ _ ⟨_,_,_,_,{x.url with query:=(x.qry++u).data.toList}⟩ _;rw[append_data',hu.out];exact HQ.out)
     clear hu;go_simp;refine hK.out _ _ U5.out.below (fun hHeld=>?_);clear hK K;refine wpAnyH_done (by kernel_rfl) ?_ _;clear e0 e6 e13 sA;obtain rfl:=HA.out;simp only[List.setIfInBounds_toArray];exact⟨.query,_,_,_,_,_,{x with qry:=x.qry++u},_,_,_,_,_,_,_,(by simp only[List.length_set];rfl),rfl,U5.out,opq_no (by nofun),(by nofun),HN.out⟩
    ·refine AllReadyH.cons rfl (fun K hK=>?_) AllReadyH.nil;go_simp
     go_at_call 38
     refine(cE.out _ hUd).mono ?_;rintro _ w4 ⟨u,rfl,⟨hu,hus⟩,hU4⟩;refine hK.out _ _ hU4.below (fun hHeld=>?_);clear hK K;have hcat:¬(9223372036854775807<x.qry.size+u.size):=by omega
     have kk:=UAt.cell hU4 10 (.string x.qry) rfl;have zz:=UAt.fz hU4 10;refine wpAnyH_ready (rs:=[1]) (by kernel_rfl) (by simp) ?_;refine AllReadyH.cons rfl (fun K hK=>?_) AllReadyH.nil;go_simp;refine hK.out _ _ hU4.below (fun hHeld=>?_);clear hK K;refine Tk 8 (v:=?_) rfl ?_ ?_;rotate_left
     ·(intro W hSw;go_simp;try with_reducible rfl)
     refine Tk 9 (v:=?_) rfl ?_ ?_;rotate_left
     ·(intro W hSw;go_simp;try with_reducible rfl)
     refine wpAnyH_ready (rs:=[10]) (by kernel_rfl) (by simp) ?_;refine AllReadyH.cons rfl (fun K hK=>?_) AllReadyH.nil;have U5:=Ih (hU4.setF hX 10 (.string (x.qry++u)) {x with qry:=x.qry++u} rfl rfl rfl)
     have HN:Hid (Lz.After X.b X.s.data.toList X.goal .query i .query ⟨buf.data.toList,a,p,n,MkV.url {x with qry:=x.qry++u}⟩ (i:Int)):=Ih (by
      show Lz.After _ _ _ _ _ _ ⟨_,_,_,_,{x.url with query:=(x.qry++u).data.toList}⟩ _;rw[append_data',hu.out];exact HQ.out)
     clear hu;go_simp;refine hK.out _ _ U5.out.below (fun hHeld=>?_);clear hK K;refine wpAnyH_done (by kernel_rfl) ?_ _;clear e0 e6 e13 sA;obtain rfl:=HA.out;simp only[List.setIfInBounds_toArray];exact⟨.query,_,_,_,_,_,{x with qry:=x.qry++u},_,_,_,_,_,_,_,(by simp only[List.length_set];rfl),rfl,U5.out,opq_no (by nofun),(by nofun),HN.out⟩
  | false=>
    have HQ:Hid (Lz.After X.b X.s.data.toList X.goal .query i .query ⟨buf.data.toList,a,p,n,{x.url with query:=x.qry.data.toList++Lz.encodeP (Lz.setU 2) [c]}⟩ (i:Int)):=by
     have h:=Lz.w_query_c HI.out HR.out rfl H35.out;rw[show Lz.qset _=Lz.setU 2 by unfold Lz.qset;rw[<-HS.out];rfl]at h;exact Ih h
    (have hlt:=(Lz.Rd.no HR.out rfl).1;rw[len_of_size]at hlt;have hs1:(i:Int)+1<=(X.s.size:Int):=(by omega);have hs0:(0:Int)<=(i:Int):=(by omega);have hs2:(i:Int)<=(i:Int)+1:=(by omega);have HX:Hid ((X.s.extract i (i+1)).data.toList=[c]):=Ih (ext_one (Lz.Rd.no HR.out rfl).2.1 hlt))
    have hfl:x.qry.size<=75000:=by have:=HI.out.2.2.2.1;simp only[MkV.url,len_of_size]at this;omega
    have cE:Hid (∀V,UAt X V x->Calls Tryz.prog 38 #[.string (X.s.extract i (i+1)),.int .i64 2] V fun e w'=>∃u:ByteArray,e=.returned (.string u)/\(Hid (u.data.toList=Lz.encodeP (Lz.setU 2) [c])/\u.size<=3)/\UAt X w' x):=Ih (fun V hV=>(Encode06_any _ 2 (by omega) (by rw[ext_sz HX.out];omega) V).mono fun e w' ⟨u,h1,h2,h3⟩=>⟨u,h1,⟨Ih (by rw[h2.out,HX.out]),enc_sz (by rw[h2.out,HX.out])⟩,hV.call hX h3⟩);have hUd:=hU.call hX (Below.refl _ w).drew
    go_wp2_with fail
    refine frame_gen (fun A hA=>?_);have sA:A.tmps.size=781:=by rw[hA];rfl
    have e0:A.tmps[0]'(by rw[sA];decide)=.string X.s:=by subst hA;rfl
    have e6:A.tmps[6]'(by rw[sA];decide)=.pointer (some ⟨X.M,0,none⟩):=by subst hA;rfl
    have e13:A.tmps[13]'(by rw[sA];decide)=.int .i64 i:=by subst hA;rfl
    have HA:=Ih hA;clear hA;have hSd:=hUd.below;refine wp_region_held_drew (S:=fun V=>Below X.B X.w0 V) (by kernel_rfl) hSd (fun hHeld=>?_);refine Tk 0 (v:=?_) rfl ?_ ?_;rotate_left
    ·(intro W hSw;go_simp;try with_reducible rfl)
    refine Tk 2 (v:=?_) rfl ?_ ?_;rotate_left
    ·(intro W hSw;go_simp;try with_reducible rfl)
    refine Tk 3 (v:=?_) rfl ?_ ?_;rotate_left
    ·(intro W hSw;go_simp;try with_reducible rfl)
    refine Tk 4 (v:=?_) rfl ?_ ?_;rotate_left
    ·(intro W hSw;go_simp;try with_reducible rfl)
    refine Tk 5 (v:=?_) rfl ?_ ?_;rotate_left
    ·(intro W hSw;go_simp;try with_reducible rfl)
    refine Tk 6 (v:=?_) rfl ?_ ?_;rotate_left
    ·(intro W hSw;go_simp;try with_reducible rfl)
    refine wpAnyH_ready (rs:=[1,7]) (by kernel_rfl) (by simp) ?_;refine AllReadyH.cons rfl (fun K hK=>?_) ?_
    ·have kk:=UAt.cell hUd 10 (.string x.qry) rfl;go_simp;refine hK.out _ _ hUd.below (fun hHeld=>?_);clear hK K kk;refine wpAnyH_ready (rs:=[7]) (by kernel_rfl) (by simp) ?_;refine AllReadyH.cons rfl (fun K hK=>?_) AllReadyH.nil;go_simp
     go_at_call 38
     refine(cE.out _ hUd).mono ?_;rintro _ w4 ⟨u,rfl,⟨hu,hus⟩,hU4⟩;refine hK.out _ _ hU4.below (fun hHeld=>?_);clear hK K;have hcat:¬(9223372036854775807<x.qry.size+u.size):=by omega
     refine Tk 8 (v:=?_) rfl ?_ ?_;rotate_left
     ·(intro W hSw;go_simp;try with_reducible rfl)
     refine Tk 9 (v:=?_) rfl ?_ ?_;rotate_left
     ·(intro W hSw;go_simp;try with_reducible rfl)
     refine wpAnyH_ready (rs:=[10]) (by kernel_rfl) (by simp) ?_;refine AllReadyH.cons rfl (fun K hK=>?_) AllReadyH.nil;have kk:=UAt.cell hU4 10 (.string x.qry) rfl;have zz:=UAt.fz hU4 10;have U5:=Ih (hU4.setF hX 10 (.string (x.qry++u)) {x with qry:=x.qry++u} rfl rfl rfl)
     have HN:Hid (Lz.After X.b X.s.data.toList X.goal .query i .query ⟨buf.data.toList,a,p,n,MkV.url {x with qry:=x.qry++u}⟩ (i:Int)):=Ih (by
      show Lz.After _ _ _ _ _ _ ⟨_,_,_,_,{x.url with query:=(x.qry++u).data.toList}⟩ _;rw[append_data',hu.out];exact HQ.out)
     clear hu;go_simp;refine hK.out _ _ U5.out.below (fun hHeld=>?_);clear hK K;refine wpAnyH_done (by kernel_rfl) ?_ _;clear e0 e6 e13 sA;obtain rfl:=HA.out;simp only[List.setIfInBounds_toArray];exact⟨.query,_,_,_,_,_,{x with qry:=x.qry++u},_,_,_,_,_,_,_,(by simp only[List.length_set];rfl),rfl,U5.out,opq_no (by nofun),(by nofun),HN.out⟩
    ·refine AllReadyH.cons rfl (fun K hK=>?_) AllReadyH.nil;go_simp
     go_at_call 38
     refine(cE.out _ hUd).mono ?_;rintro _ w4 ⟨u,rfl,⟨hu,hus⟩,hU4⟩;refine hK.out _ _ hU4.below (fun hHeld=>?_);clear hK K;have hcat:¬(9223372036854775807<x.qry.size+u.size):=by omega
     have kk:=UAt.cell hU4 10 (.string x.qry) rfl;have zz:=UAt.fz hU4 10;refine wpAnyH_ready (rs:=[1]) (by kernel_rfl) (by simp) ?_;refine AllReadyH.cons rfl (fun K hK=>?_) AllReadyH.nil;go_simp;refine hK.out _ _ hU4.below (fun hHeld=>?_);clear hK K;refine Tk 8 (v:=?_) rfl ?_ ?_;rotate_left
     ·(intro W hSw;go_simp;try with_reducible rfl)
     refine Tk 9 (v:=?_) rfl ?_ ?_;rotate_left
     ·(intro W hSw;go_simp;try with_reducible rfl)
     refine wpAnyH_ready (rs:=[10]) (by kernel_rfl) (by simp) ?_;refine AllReadyH.cons rfl (fun K hK=>?_) AllReadyH.nil;have U5:=Ih (hU4.setF hX 10 (.string (x.qry++u)) {x with qry:=x.qry++u} rfl rfl rfl)
     have HN:Hid (Lz.After X.b X.s.data.toList X.goal .query i .query ⟨buf.data.toList,a,p,n,MkV.url {x with qry:=x.qry++u}⟩ (i:Int)):=Ih (by
      show Lz.After _ _ _ _ _ _ ⟨_,_,_,_,{x.url with query:=(x.qry++u).data.toList}⟩ _;rw[append_data',hu.out];exact HQ.out)
     clear hu;go_simp;refine hK.out _ _ U5.out.below (fun hHeld=>?_);clear hK K;refine wpAnyH_done (by kernel_rfl) ?_ _;clear e0 e6 e13 sA;obtain rfl:=HA.out;simp only[List.setIfInBounds_toArray];exact⟨.query,_,_,_,_,_,{x with qry:=x.qry++u},_,_,_,_,_,_,_,(by simp only[List.length_set];rfl),rfl,U5.out,opq_no (by nofun),(by nofun),HN.out⟩
end Go.Proofs.YtipndhbgehdeoaaGreatDoor
