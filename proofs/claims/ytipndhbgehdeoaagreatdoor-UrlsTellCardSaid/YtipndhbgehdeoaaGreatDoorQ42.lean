/-
  lazaretref08.run: scheme.
-/
import Derived.Test.YtipndhbgehdeoaaGreatDoorQ39
import Derived.Test.YtipndhbgehdeoaaGreatDoorQ34
set_option maxHeartbeats 16000000
set_option maxRecDepth 100000
namespace Go.Proofs.YtipndhbgehdeoaaGreatDoor
open Go.RowKit
theorem wanted_is {o:Oper} {ops:Array Oper} {tmps:Array Value} {j d:Nat} {want b:Bool} (hg:o.guard=some (j,want)) (hd:(ops[j]?).bind (·.dst)=some d) (ht:tmps[d]? =some (.bool b)):Region.wanted o (yielded ops tmps)=(b==want):=by
 unfold Region.wanted yielded;rw[hg];simp only;rw[hd]
 show((match (tmps[d]?)with
  | some (.bool b)=>some b
  | _=>none)==some want)=_
 rw[ht];cases b<;>cases want<;>rfl
theorem UAt.mk7 {X:RX} {w:World} {x:MkV} (hX:X.Ok) (h:UAt X w x) (z:ByteArray):
  UAt X ((w.setCell ⟨X.M,7,none⟩ (.slice (some ⟨w.heap.size,0,none⟩) 1 1)).alloc (.cells #[.string z] 9)) {x with pv:=.slice (some ⟨w.heap.size,0,none⟩) 1 1,xs:=[z]}/\
  ((w.setCell ⟨X.M,7,none⟩ (.slice (some ⟨w.heap.size,0,none⟩) 1 1)).alloc (.cells #[.string z] 9)).heap[w.heap.size]? =some (.cells #[.string z] 9 (0,0)):=by
 have hbm:=hX.bm;have hmn:=hX.mn;obtain⟨W1,hW1⟩:∃W1,W1=w.setCell ⟨X.M,7,none⟩ (.slice (some ⟨w.heap.size,0,none⟩) 1 1):=⟨_,rfl⟩;have hs:W1.heap.size=w.heap.size:=by rw[hW1];simp
 have r0:W1.heap[X.B]? =some (.cells zeroC 25 (0,0)):=by rw[hW1,setCell_other (by show X.B≠X.M;omega)];exact h.res
 have r1:W1.heap[X.M]? =some (.cells (MkV.cells {x with pv:=.slice (some ⟨w.heap.size,0,none⟩) 1 1,xs:=[z]}) 25 (0,0)):=by rw[hW1];exact rowSet h.row 7 _ rfl
 have r2:W1.heap[X.N]? =some (.cells zeroC 25 (0,0)):=by rw[hW1,setCell_other (by show X.N≠X.M;omega)];exact h.non
 have hb1:Below X.B X.w0 W1:=by rw[hW1];exact h.below.setCell (p:=⟨X.M,7,none⟩) (Nat.le_of_lt hbm) _
 have hP:=path_one W1 X.B z;rw[hs]at hP;rw[<-hW1];have hba:=(Below.refl W1.heap.size W1).alloc (Nat.le_refl _) (.cells #[.string z] 9);refine⟨⟨hb1.alloc (by rw[hs];exact h.hB hX) _,(hba.block _ (row_lt r0)).trans r0,(hba.block _ (row_lt r1)).trans r1,(hba.block _ (row_lt r2)).trans r2,hP⟩,?_⟩;rw[<-hs];show(W1.heap.push _)[W1.heap.size]? =_
 simp
theorem schemeC_cases (c:UInt8) (q:Bool) (h:Lz.schemeC c=q):q=(Lz.isAlpha c||Lz.isDigit c||c==43||c==45||c==46):=by rw[<-h];rfl
theorem rd_scheme:RdOk 1 .scheme:=by
 (intro X x buf a p n i e c nx sp sl ov f w hX hU hO hI hsp hR;subst hsp;have hile:=hI.1;have hsz:=hX.size;rw[len_of_size]at hile;have wm:IntKind.i64.wrap ((i:Int)-1)=(i:Int)-1:=IntWalk.i64_in _ (by omega);have wp:IntKind.i64.wrap ((i:Int)+1)=(i:Int)+1:=IntWalk.i64_in _ (by omega);have HI:=Ih hI;have HR:=Ih hR;clear hI hR;unfold FR;conv=>(arg 2;whnf))
 clear hO;have hbz:buf.size<=i:=by have:=HI.out.2.1;simp only[len_of_size]at this;exact this
 obtain⟨q,hq⟩:∃q,q=(!e&&Lz.schemeC c):=⟨_,rfl⟩;have HQ:=Ih hq;clear hq;refine cutR (fun a' w'=>w=w'/\∃l:List Value,l.length=761/\a'=stL X (nmB .scheme) buf a p n i e c nx (Lz.specP x.url.scheme) sl ov l/\l[93]? =some (.bool q)) ?_ ?_
 ·cases e with
  | true=>
    have hqf:q=false:=by rw[HQ.out];rfl
    subst hqf
    go_wp2_with fail
    exact⟨_,rfl,rfl,rfl⟩
  | false=>
    have hq2:=schemeC_cases c q (by rw[HQ.out];rfl);have cA:=Alpha02_any c w;have cD:=Digit02_any c w;cases hal:Lz.isAlpha c with
    | true=>
      rw[hal]at cA hq2;have hqt:q=true:=by rw[hq2];rfl
      subst hqt;have CA:=Ih cA;clear cA cD hq2 hal
      go_wp2_with fail
      refine CA.out.mono ?_;rintro _ w1 ⟨rfl,rfl⟩
      go_wp2_with fail
      exact⟨_,rfl,rfl,rfl⟩
    | false=>
      cases hdg:Lz.isDigit c with
      | true=>
        rw[hal,hdg]at hq2;rw[hal]at cA;rw[hdg]at cD;have hqt:q=true:=by rw[hq2];rfl
        subst hqt;have CA:=Ih cA;have CD:=Ih cD;clear cA cD hq2 hal hdg
        go_wp2_with fail
        refine CA.out.mono ?_;rintro _ w1 ⟨rfl,rfl⟩
        go_wp2_with fail
        refine CD.out.mono ?_;rintro _ w1 ⟨rfl,rfl⟩
        go_wp2_with fail
        exact⟨_,rfl,rfl,rfl⟩
      | false=>
        rw[hal,hdg]at hq2;rw[hal]at cA;rw[hdg]at cD;have CA:=Ih cA;have CD:=Ih cD;clear cA cD hal hdg;by_cases h43:c=43
        ·have b43:((c.toNat:Int)==43)=true:=bq_y h43;have hqt:q=true:=by rw[hq2,h43];rfl
         subst hqt;clear hq2 h43
         go_wp2_with fail
         refine CA.out.mono ?_;rintro _ w1 ⟨rfl,rfl⟩
         go_wp2_with fail
         refine CD.out.mono ?_;rintro _ w1 ⟨rfl,rfl⟩
         go_wp2_with fail
         exact⟨_,rfl,rfl,rfl⟩
        ·have b43:((c.toNat:Int)==43)=false:=bq_n h43;rw[beq_eq_false_iff_ne.2 h43]at hq2;by_cases h45:c=45
         ·have b45:((c.toNat:Int)==45)=true:=bq_y h45;have hqt:q=true:=by rw[hq2,h45];rfl
          subst hqt;clear hq2 h43 h45
          go_wp2_with fail
          refine CA.out.mono ?_;rintro _ w1 ⟨rfl,rfl⟩
          go_wp2_with fail
          refine CD.out.mono ?_;rintro _ w1 ⟨rfl,rfl⟩
          go_wp2_with fail
          exact⟨_,rfl,rfl,rfl⟩
         ·have b45:((c.toNat:Int)==45)=false:=bq_n h45;rw[beq_eq_false_iff_ne.2 h45]at hq2;have b46:((c.toNat:Int)==46)=q:=by rw[hq2];exact beqU c 46
          clear hq2 h43 h45
          go_wp2_with fail
          refine CA.out.mono ?_;rintro _ w1 ⟨rfl,rfl⟩
          go_wp2_with fail
          refine CD.out.mono ?_;rintro _ w1 ⟨rfl,rfl⟩
          go_wp2_with fail
          exact⟨_,rfl,rfl,rfl⟩
 rintro _ _ ⟨rfl,l,hl,rfl,hv⟩;refine reframe X _ _ _ _ _ _ _ _ _ _ _ _ l hl (fun f hf=>?_);have h113:f 113=.bool q:=hf _ _ hv;clear hv hl hf;unfold FR;rw[h113];clear h113;cases q with
 | true=>
   have he:e=false:=by have:=HQ.out;revert this;cases e<;>simp
   subst he;have hsc:Lz.schemeC c=true:=by have:=HQ.out;revert this;simp
   (have hlt:=(Lz.Rd.no HR.out rfl).1;rw[len_of_size]at hlt;have hs1:(i:Int)+1<=(X.s.size:Int):=(by omega);have hs0:(0:Int)<=(i:Int):=(by omega);have hs2:(i:Int)<=(i:Int)+1:=(by omega);have HX:Hid ((X.s.extract i (i+1)).data.toList=[c]):=Ih (ext_one (Lz.Rd.no HR.out rfl).2.1 hlt))
   have cL:=Ih (Lower02_c (X.s.extract i (i+1)) (by rw[ext_sz HX.out];omega) w);have HSc:=Ih hsc;clear hsc
   go_wp2_with fail
   refine cL.out.mono ?_;rintro _ w1 ⟨u,rfl,hu,hb⟩;have hU1:=hU.call hX hb;have hu1:u.data.toList=[Lz.low1 c]:=by rw[hu.out,HX.out];rfl
   have hus:u.size=1:=by rw[<-len_of_size,hu1];rfl
   have hcat:¬(9223372036854775807<buf.size+u.size):=by omega
   have HN:Hid (Lz.After X.b X.s.data.toList X.goal .scheme i .scheme ⟨(buf++u).data.toList,a,p,n,x.url⟩ (i:Int)):=Ih (by
    rw[snoc_data hu1];exact Lz.w_sch_a HI.out HR.out rfl HSc.out)
   clear hu hb hu1 hus cL
   go_wp2_with fail
   exact⟨.scheme,_,_,_,_,_,x,_,_,_,_,_,_,_,rfl,rfl,hU1,opq_no (by nofun),(by nofun),HN.out⟩
 | false=>
   have HSc:Hid (e=false->Lz.schemeC c=false):=Ih (by
    intro he;have:=HQ.out;rw[he]at this
    revert this
    cases Lz.schemeC c<;>simp)
   by_cases h58:c=58
   ·have b58:((c.toNat:Int)==58)=true:=bq_y h58;have H58:=Ih h58;clear h58;have k0:=hU.cell 0 (.string x.sch) rfl;have z0:=hU.fz 0;have U0:=hU.setF hX 0 (.string buf) {x with sch:=buf} rfl rfl rfl;by_cases hf0:buf.data.toList=Lz.fileS
    ·have g0:=text_yes (k:=[102,105,108,101]) hf0;have HN:Hid (Lz.After X.b X.s.data.toList X.goal .scheme i .file ⟨[],a,p,n,MkV.url {x with sch:=buf}⟩ (i:Int)):=Ih (Lz.w_sch_file HI.out HR.out H58.out hf0);have U0:=Ih U0;clear hf0
     go_wp2_with fail
     exact⟨.file,_,_,_,_,_,{x with sch:=buf},_,_,_,_,_,_,_,rfl,rfl,U0.out,opq_no (by nofun),(by nofun),HN.out⟩
    ·have g0:=text_no (k:=[102,105,108,101]) hf0;cases hsp2:Lz.specP buf.data.toList with
     | false=>
       have CS:Hid (∀V,Calls Tryz.prog 33 #[.string buf] V fun e w'=>e=.returned (.bool false)/\V=w'):=Ih (fun V=>by rw[<-hsp2];exact Special08_any buf V);have HNp:Hid (nx=47->Lz.After X.b X.s.data.toList X.goal .scheme i .pa ⟨[],a,p,n,MkV.url {x with sch:=buf}⟩ ((i:Int)+1)):=Ih (fun h=>Lz.w_sch_pa HI.out HR.out H58.out hf0 hsp2 h);have HNo:Hid (nx≠47->∀v:Value,Lz.After X.b X.s.data.toList X.goal .scheme i .opq ⟨[],a,p,n,MkV.url {x with sch:=buf,opq:=true,pv:=v,xs:=[⟨#[]⟩]}⟩ (i:Int)):=Ih (fun h _=>Lz.w_sch_opq HI.out HR.out H58.out hf0 hsp2 h);obtain⟨bv,hbv⟩:∃bv,X.bv=bv:=⟨_,rfl⟩;have HBV:=Ih hbv;clear hbv hf0 hsp2
       go_wp2_with fail
       rename_i K1 hK1;generalize w.setCell ⟨X.M,0,none⟩ (.string buf)=V5 at U0⊢
       skip
       refine frame_st X (nmB .scheme) ⟨#[]⟩ a p n i e c nx (Lz.specP x.url.scheme) sl ov _ rfl (fun A l hl hA=>?_);have sA:A.tmps.size=781:=by rw[hA];exact stL_size _ _ _ _ _ _ _ _ _ _ _ _ _ _ hl
       have e1:A.tmps[1]'(by rw[sA];decide)=bv:=by subst hA;exact HBV.out
       have e6:A.tmps[6]'(by rw[sA];decide)=.pointer (some ⟨X.M,0,none⟩):=by subst hA;rfl
       have HA:=Ih hA;clear hA;have hUd:=U0.call hX (Below.refl _ V5).drew;clear U0 hU k0 z0;refine wp_region_held_drew (S:=fun V=>V5.drew=V) (by kernel_rfl) rfl (fun hHeld=>?_);generalize V5.drew=W0 at hUd hHeld⊢;have kM:=hUd.cell 0 (.string buf) rfl;refine Tk 0 (v:=?_) rfl ?_ ?_;rotate_left
       ·(intro W hSw;go_simp;try with_reducible rfl)
       refine Tk 1 (v:=?_) rfl ?_ ?_;rotate_left
       ·(intro W hSw;obtain rfl:=hSw;go_simp;try with_reducible rfl)
       refine wpAnyH_ready (rs:=[2]) (by kernel_rfl) (by simp) ?_;refine AllReadyH.cons rfl (fun K hK=>?_) AllReadyH.nil;go_simp
       go_at_call 33
       refine(CS.out _).mono ?_;rintro _ _ ⟨rfl,rfl⟩;refine hK.out _ _ rfl (fun hHeld=>?_);clear hK K;refine Tk 3 (v:=?_) rfl ?_ ?_;rotate_left
       ·(intro W hSw;go_simp;try with_reducible rfl)
       refine wpAnyH_take (i:=4) (oi:=_) (v:=undef) rfl (by kernel_rfl) (by kernel_rfl) (by kernel_rfl) (fun _ _ _ h=>h) (Or.inr ⟨by rw[wanted_is (b:=false) rfl rfl (by simp[Act.put,sA])];rfl,rfl⟩) (by assumption) ?_;refine wpAnyH_take (i:=5) (oi:=_) (v:=undef) rfl (by kernel_rfl) (by kernel_rfl) (by kernel_rfl) (fun _ _ _ h=>h) (Or.inr ⟨by rw[wanted_is (b:=false) rfl rfl (by simp[Act.put,sA])];rfl,rfl⟩) (by assumption) ?_;refine Tk 6 (v:=?_) rfl ?_ ?_;rotate_left
       ·(intro W hSw;go_simp;try with_reducible rfl)
       refine Tk 7 (v:=?_) rfl ?_ ?_;rotate_left
       ·(intro W hSw;go_simp;try with_reducible rfl)
       refine wpAnyH_take (i:=8) (oi:=_) (v:=undef) rfl (by kernel_rfl) (by kernel_rfl) (by kernel_rfl) (fun _ _ _ h=>h) (Or.inr ⟨by rw[wanted_is (b:=false) rfl rfl (by simp[Act.put,sA])];rfl,rfl⟩) (by assumption) ?_;refine wpAnyH_take (i:=9) (oi:=_) (v:=undef) rfl (by kernel_rfl) (by kernel_rfl) (by kernel_rfl) (fun _ _ _ h=>h) (Or.inr ⟨by rw[wanted_is (b:=false) rfl rfl (by simp[Act.put,sA])];rfl,rfl⟩) (by assumption) ?_;refine wpAnyH_take (i:=10) (oi:=_) (v:=undef) rfl (by kernel_rfl) (by kernel_rfl) (by kernel_rfl) (fun _ _ _ h=>h) (Or.inr ⟨by rw[wanted_is (b:=false) rfl rfl (by simp[Act.put,sA])];rfl,rfl⟩) (by assumption) ?_;refine wpAnyH_take (i:=11) (oi:=_) (v:=undef) rfl (by kernel_rfl) (by kernel_rfl) (by kernel_rfl) (fun _ _ _ h=>h) (Or.inr ⟨by rw[wanted_is (b:=false) rfl rfl (by simp[Act.put,sA])];rfl,rfl⟩) (by assumption) ?_;refine wpAnyH_take (i:=12) (oi:=_) (v:=undef) rfl (by kernel_rfl) (by kernel_rfl) (by kernel_rfl) (fun _ _ _ h=>h) (Or.inr ⟨by rw[wanted_is (b:=false) rfl rfl (by simp[Act.put,sA])];rfl,rfl⟩) (by assumption) ?_
       refine wpAnyH_take (i:=13) (oi:=_) (v:=undef) rfl (by kernel_rfl) (by kernel_rfl) (by kernel_rfl) (fun _ _ _ h=>h) (Or.inr ⟨by rw[wanted_is (b:=false) rfl rfl (by simp[Act.put,sA])];rfl,rfl⟩) (by assumption) ?_;refine wpAnyH_take (i:=14) (oi:=_) (v:=undef) rfl (by kernel_rfl) (by kernel_rfl) (by kernel_rfl) (fun _ _ _ h=>h) (Or.inr ⟨by rw[wanted_is (b:=false) rfl rfl (by simp[Act.put,sA])];rfl,rfl⟩) (by assumption) ?_;refine Tk 15 (v:=?_) rfl ?_ ?_;rotate_left
       ·(intro W hSw;go_simp;try with_reducible rfl)
       refine wpAnyH_done (by kernel_rfl) ?_ _;clear e1 e6 sA kM;obtain rfl:=HA.out;simp only[List.getElem_toArray,List.getElem_cons_zero,List.getElem_cons_succ,Act.put,stL_set,stL_eta,Nat.reduceLeDiff,Nat.reduceSub];refine hK1 _ _ ?_;refine reframe X (nmB .scheme) ⟨#[]⟩ a p n i e c nx (Lz.specP x.url.scheme) sl ov _ (by simp only[List.length_set];exact hl) (fun f hf=>?_);have h144:f 144=.bool false:=hf 124 (.bool false) (by simp[hl]);clear hf hHeld HA hl;unfold FR;rw[h144];clear h144;have k0:=hUd.cell 0 (.string buf) rfl;by_cases n47:nx=47
       ·have c47:((nx.toNat:Int)==47)=true:=bq_y n47;have HN:=Ih (HNp.out n47);clear n47
        go_wp2_with fail
        refine(CS.out _).mono ?_;rintro _ _ ⟨rfl,rfl⟩
        go_wp2_with fail
        exact⟨.pa,_,_,_,_,_,{x with sch:=buf},_,_,_,_,_,_,_,rfl,rfl,hUd,opq_no (by nofun),(by nofun),HN.out⟩
       ·have c47:((nx.toNat:Int)==47)=false:=bq_n n47;have HN:=Ih (HNo.out n47);clear n47
        go_wp2_with fail
        refine(CS.out _).mono ?_;rintro _ _ ⟨rfl,rfl⟩;have hMl:X.M<W0.heap.size:=row_lt hUd.row;have hMn:¬X.M=W0.heap.size:=by omega
        have k6:=hUd.cell 6 (.bool x.opq) rfl;have z6:=hUd.fz 6;have k7:=hUd.cell 7 x.pv rfl;have z7:=hUd.fz 7;have U2:=hUd.setF hX 6 (.bool true) {x with sch:=buf,opq:=true} rfl rfl rfl;have U3:=U2.mk7 hX ⟨#[]⟩;rw[show(W0.setCell ⟨X.M,6,none⟩ (.bool true)).heap.size=W0.heap.size by simp]at U3;have U4:=Ih U3;clear U2 U3
        go_wp2_with fail
        exact⟨.opq,_,_,_,_,_,{x with sch:=buf,opq:=true,pv:=.slice (some ⟨W0.heap.size,0,none⟩) 1 1,xs:=[⟨#[]⟩]},_,_,_,_,_,_,_,rfl,rfl,U4.out.1,(fun _=>⟨_,_,by rw[hX.eB];exact hUd.below.size,rfl,rfl,U4.out.2⟩),(by nofun),HN.out _⟩
     | true=>
       have CS:Hid (∀V,Calls Tryz.prog 33 #[.string buf] V fun e w'=>e=.returned (.bool true)/\V=w'):=Ih (fun V=>by rw[<-hsp2];exact Special08_any buf V);cases hb:X.b with
       | none=>
         have hB:=hX.base;rw[hb]at hB;have hbv:X.bv=.pointer none:=hB;have HN:Hid (Lz.After X.b X.s.data.toList X.goal .scheme i .spSl ⟨[],a,p,n,MkV.url {x with sch:=buf}⟩ (i:Int)):=Ih (Lz.w_sch_sp HI.out HR.out H58.out hf0 hsp2 (by intro y hy;rw[hb]at hy;cases hy));have HBV:=Ih hbv;clear hbv hf0 hsp2 hB
         go_wp2_with fail
         rename_i K1 hK1;generalize w.setCell ⟨X.M,0,none⟩ (.string buf)=V5 at U0⊢
         skip
         refine frame_st X (nmB .scheme) ⟨#[]⟩ a p n i e c nx (Lz.specP x.url.scheme) sl ov _ rfl (fun A l hl hA=>?_);have sA:A.tmps.size=781:=by rw[hA];exact stL_size _ _ _ _ _ _ _ _ _ _ _ _ _ _ hl
         have e1:A.tmps[1]'(by rw[sA];decide)=.pointer none:=by subst hA;exact HBV.out
         have e6:A.tmps[6]'(by rw[sA];decide)=.pointer (some ⟨X.M,0,none⟩):=by subst hA;rfl
         have HA:=Ih hA;clear hA;have hUd:=U0.call hX (Below.refl _ V5).drew;clear U0 hU k0 z0;refine wp_region_held_drew (S:=fun V=>V5.drew=V) (by kernel_rfl) rfl (fun hHeld=>?_);generalize V5.drew=W0 at hUd hHeld⊢;have kM:=hUd.cell 0 (.string buf) rfl;refine Tk 0 (v:=?_) rfl ?_ ?_;rotate_left
         ·(intro W hSw;go_simp;try with_reducible rfl)
         refine Tk 1 (v:=?_) rfl ?_ ?_;rotate_left
         ·(intro W hSw;obtain rfl:=hSw;go_simp;try with_reducible rfl)
         refine wpAnyH_ready (rs:=[2]) (by kernel_rfl) (by simp) ?_;refine AllReadyH.cons rfl (fun K hK=>?_) AllReadyH.nil;go_simp
         go_at_call 33
         refine(CS.out _).mono ?_;rintro _ _ ⟨rfl,rfl⟩;refine hK.out _ _ rfl (fun hHeld=>?_);clear hK K;refine Tk 3 (v:=?_) rfl ?_ ?_;rotate_left
         ·(intro W hSw;go_simp;try with_reducible rfl)
         refine wpAnyH_take (i:=4) (oi:=_) (v:=?_) rfl (by kernel_rfl) (by kernel_rfl) (by kernel_rfl) (fun _ _ _ h=>h) (Or.inl ⟨by rw[wanted_is (b:=true) rfl rfl (by simp[Act.put,sA])];rfl,?_⟩) (by assumption) ?_;rotate_left
         ·(intro W hSw;go_simp;try with_reducible rfl)
         refine wpAnyH_take (i:=5) (oi:=_) (v:=?_) rfl (by kernel_rfl) (by kernel_rfl) (by kernel_rfl) (fun _ _ _ h=>h) (Or.inl ⟨by rw[wanted_is (b:=true) rfl rfl (by simp[Act.put,sA])];rfl,?_⟩) (by assumption) ?_;rotate_left
         ·(intro W hSw;go_simp;try with_reducible rfl)
         refine Tk 6 (v:=?_) rfl ?_ ?_;rotate_left
         ·(intro W hSw;go_simp;try with_reducible rfl)
         refine Tk 7 (v:=?_) rfl ?_ ?_;rotate_left
         ·(intro W hSw;go_simp;try with_reducible rfl)
         refine wpAnyH_take (i:=8) (oi:=_) (v:=undef) rfl (by kernel_rfl) (by kernel_rfl) (by kernel_rfl) (fun _ _ _ h=>h) (Or.inr ⟨by rw[wanted_is (b:=false) rfl rfl (by simp[Act.put,sA])];rfl,rfl⟩) (by assumption) ?_;refine wpAnyH_take (i:=9) (oi:=_) (v:=undef) rfl (by kernel_rfl) (by kernel_rfl) (by kernel_rfl) (fun _ _ _ h=>h) (Or.inr ⟨by rw[wanted_is (b:=false) rfl rfl (by simp[Act.put,sA])];rfl,rfl⟩) (by assumption) ?_;refine wpAnyH_take (i:=10) (oi:=_) (v:=undef) rfl (by kernel_rfl) (by kernel_rfl) (by kernel_rfl) (fun _ _ _ h=>h) (Or.inr ⟨by rw[wanted_is (b:=false) rfl rfl (by simp[Act.put,sA])];rfl,rfl⟩) (by assumption) ?_;refine wpAnyH_take (i:=11) (oi:=_) (v:=undef) rfl (by kernel_rfl) (by kernel_rfl) (by kernel_rfl) (fun _ _ _ h=>h) (Or.inr ⟨by rw[wanted_is (b:=false) rfl rfl (by simp[Act.put,sA])];rfl,rfl⟩) (by assumption) ?_;refine wpAnyH_take (i:=12) (oi:=_) (v:=undef) rfl (by kernel_rfl) (by kernel_rfl) (by kernel_rfl) (fun _ _ _ h=>h) (Or.inr ⟨by rw[wanted_is (b:=false) rfl rfl (by simp[Act.put,sA])];rfl,rfl⟩) (by assumption) ?_
         refine wpAnyH_take (i:=13) (oi:=_) (v:=undef) rfl (by kernel_rfl) (by kernel_rfl) (by kernel_rfl) (fun _ _ _ h=>h) (Or.inr ⟨by rw[wanted_is (b:=false) rfl rfl (by simp[Act.put,sA])];rfl,rfl⟩) (by assumption) ?_;refine wpAnyH_take (i:=14) (oi:=_) (v:=undef) rfl (by kernel_rfl) (by kernel_rfl) (by kernel_rfl) (fun _ _ _ h=>h) (Or.inr ⟨by rw[wanted_is (b:=false) rfl rfl (by simp[Act.put,sA])];rfl,rfl⟩) (by assumption) ?_;refine Tk 15 (v:=?_) rfl ?_ ?_;rotate_left
         ·(intro W hSw;go_simp;try with_reducible rfl)
         refine wpAnyH_done (by kernel_rfl) ?_ _;clear e1 e6 sA kM;obtain rfl:=HA.out;simp only[List.getElem_toArray,List.getElem_cons_zero,List.getElem_cons_succ,Act.put,stL_set,stL_eta,Nat.reduceLeDiff,Nat.reduceSub];refine hK1 _ _ ?_;refine reframe X (nmB .scheme) ⟨#[]⟩ a p n i e c nx (Lz.specP x.url.scheme) sl ov _ (by simp only[List.length_set];exact hl) (fun f hf=>?_);have h144:f 144=.bool false:=hf 124 (.bool false) (by simp[hl]);clear hf hHeld HA hl;unfold FR;rw[h144];clear h144;have k0:=hUd.cell 0 (.string buf) rfl
         go_wp2_with fail
         refine(CS.out _).mono ?_;rintro _ _ ⟨rfl,rfl⟩
         go_wp2_with fail
         exact⟨.spSl,_,_,_,_,_,{x with sch:=buf},_,_,_,_,_,_,_,rfl,rfl,hUd,opq_no (by nofun),(by nofun),HN.out⟩
       | some y=>
         (have hB:=hX.base;rw[hb]at hB;obtain⟨q0,qfr,sch2,usr2,pas2,hh2,hst2,prt2,opq2,a2,c2,xs2,hq2,hf2,qry2,frg2,hbv,hq0,hrow0,hy,hcells0⟩:=hB)
         have hsch:y.scheme=sch2.data.toList:=by rw[hy]
         obtain⟨q3,hq3⟩:∃q3,q3=decide (sch2.data.toList=buf.data.toList):=⟨_,rfl⟩;have g3:(sch2.toList==buf.toList)=q3:=by rw[same_text,hq3]
         have HR0:=Ih hrow0;have HBV:=Ih hbv;have hY1:Hid (q3=true->Lz.After X.b X.s.data.toList X.goal .scheme i .spRel ⟨[],a,p,n,MkV.url {x with sch:=buf}⟩ (i:Int)):=Ih (fun h=>Lz.w_sch_base HI.out HR.out H58.out hf0 hsp2 hb (by rw[hsch];rw[hq3]at h;exact of_decide_eq_true h))
         have hY2:Hid (q3=false->Lz.After X.b X.s.data.toList X.goal .scheme i .spSl ⟨[],a,p,n,MkV.url {x with sch:=buf}⟩ (i:Int)):=Ih (fun h=>Lz.w_sch_sp HI.out HR.out H58.out hf0 hsp2 (by
          intro y' hy';rw[hb]at hy';obtain rfl:=Option.some.inj hy';rw[hsch];rw[hq3]at h;exact of_decide_eq_false h))
         clear hbv hf0 hsp2 hb hy hsch hrow0 hcells0 hq3;cases q3 with
         | true=>
           have HN:=Ih (hY1.out rfl)
           go_wp2_with fail
           rename_i K1 hK1;generalize w.setCell ⟨X.M,0,none⟩ (.string buf)=V5 at U0⊢
           skip
           refine frame_st X (nmB .scheme) ⟨#[]⟩ a p n i e c nx (Lz.specP x.url.scheme) sl ov _ rfl (fun A l hl hA=>?_);have sA:A.tmps.size=781:=by rw[hA];exact stL_size _ _ _ _ _ _ _ _ _ _ _ _ _ _ hl
           have e1:A.tmps[1]'(by rw[sA];decide)=.pointer (some ⟨q0,0,none⟩):=by subst hA;exact HBV.out
           have e6:A.tmps[6]'(by rw[sA];decide)=.pointer (some ⟨X.M,0,none⟩):=by subst hA;rfl
           have HA:=Ih hA;clear hA;have hUd:=U0.call hX (Below.refl _ V5).drew;clear U0 hU k0 z0;refine wp_region_held_drew (S:=fun V=>V5.drew=V) (by kernel_rfl) rfl (fun hHeld=>?_);generalize V5.drew=W0 at hUd hHeld⊢;have kM:=hUd.cell 0 (.string buf) rfl;refine Tk 0 (v:=?_) rfl ?_ ?_;rotate_left
           ·(intro W hSw;go_simp;try with_reducible rfl)
           refine Tk 1 (v:=?_) rfl ?_ ?_;rotate_left
           ·(intro W hSw;obtain rfl:=hSw;go_simp;try with_reducible rfl)
           refine wpAnyH_ready (rs:=[2]) (by kernel_rfl) (by simp) ?_;refine AllReadyH.cons rfl (fun K hK=>?_) AllReadyH.nil;go_simp
           go_at_call 33
           refine(CS.out _).mono ?_;rintro _ _ ⟨rfl,rfl⟩;refine hK.out _ _ rfl (fun hHeld=>?_);clear hK K;refine Tk 3 (v:=?_) rfl ?_ ?_;rotate_left
           ·(intro W hSw;go_simp;try with_reducible rfl)
           have pB:=rowAt (brow hUd.below hq0 HR0.out) 0 (.string sch2) rfl;refine wpAnyH_take (i:=4) (oi:=_) (v:=?_) rfl (by kernel_rfl) (by kernel_rfl) (by kernel_rfl) (fun _ _ _ h=>h) (Or.inl ⟨by rw[wanted_is (b:=true) rfl rfl (by simp[Act.put,sA])];rfl,?_⟩) (by assumption) ?_;rotate_left
           ·(intro W hSw;go_simp;try with_reducible rfl)
           refine wpAnyH_take (i:=5) (oi:=_) (v:=?_) rfl (by kernel_rfl) (by kernel_rfl) (by kernel_rfl) (fun _ _ _ h=>h) (Or.inl ⟨by rw[wanted_is (b:=true) rfl rfl (by simp[Act.put,sA])];rfl,?_⟩) (by assumption) ?_;rotate_left
           ·(intro W hSw;go_simp;try with_reducible rfl)
           refine Tk 6 (v:=?_) rfl ?_ ?_;rotate_left
           ·(intro W hSw;go_simp;try with_reducible rfl)
           refine Tk 7 (v:=?_) rfl ?_ ?_;rotate_left
           ·(intro W hSw;go_simp;try with_reducible rfl)
           refine wpAnyH_take (i:=8) (oi:=_) (v:=?_) rfl (by kernel_rfl) (by kernel_rfl) (by kernel_rfl) (fun _ _ _ h=>h) (Or.inl ⟨by rw[wanted_is (b:=true) rfl rfl (by simp[Act.put,sA])];rfl,?_⟩) (by assumption) ?_;rotate_left
           ·(intro W hSw;go_simp;try with_reducible rfl)
           refine wpAnyH_take (i:=9) (oi:=_) (v:=?_) rfl (by kernel_rfl) (by kernel_rfl) (by kernel_rfl) (fun _ _ _ h=>h) (Or.inl ⟨by rw[wanted_is (b:=true) rfl rfl (by simp[Act.put,sA])];rfl,?_⟩) (by assumption) ?_;rotate_left
           ·(intro W hSw;go_simp;try with_reducible rfl)
           refine wpAnyH_take (i:=10) (oi:=_) (v:=?_) rfl (by kernel_rfl) (by kernel_rfl) (by kernel_rfl) (fun _ _ _ h=>h) (Or.inl ⟨by rw[wanted_is (b:=true) rfl rfl (by simp[Act.put,sA])];rfl,?_⟩) (by assumption) ?_;rotate_left
           ·(intro W hSw;go_simp;try with_reducible rfl)
           refine wpAnyH_take (i:=11) (oi:=_) (v:=?_) rfl (by kernel_rfl) (by kernel_rfl) (by kernel_rfl) (fun _ _ _ h=>h) (Or.inl ⟨by rw[wanted_is (b:=true) rfl rfl (by simp[Act.put,sA])];rfl,?_⟩) (by assumption) ?_;rotate_left
           ·(intro W hSw;obtain rfl:=hSw;go_simp;try with_reducible rfl)
           refine wpAnyH_take (i:=12) (oi:=_) (v:=?_) rfl (by kernel_rfl) (by kernel_rfl) (by kernel_rfl) (fun _ _ _ h=>h) (Or.inl ⟨by rw[wanted_is (b:=true) rfl rfl (by simp[Act.put,sA])];rfl,?_⟩) (by assumption) ?_;rotate_left
           ·(intro W hSw;go_simp;try with_reducible rfl)
           refine wpAnyH_take (i:=13) (oi:=_) (v:=?_) rfl (by kernel_rfl) (by kernel_rfl) (by kernel_rfl) (fun _ _ _ h=>h) (Or.inl ⟨by rw[wanted_is (b:=true) rfl rfl (by simp[Act.put,sA])];rfl,?_⟩) (by assumption) ?_;rotate_left
           ·(intro W hSw;obtain rfl:=hSw;go_simp;try with_reducible rfl)
           refine wpAnyH_take (i:=14) (oi:=_) (v:=?_) rfl (by kernel_rfl) (by kernel_rfl) (by kernel_rfl) (fun _ _ _ h=>h) (Or.inl ⟨by rw[wanted_is (b:=true) rfl rfl (by simp[Act.put,sA])];rfl,?_⟩) (by assumption) ?_;rotate_left
           ·(intro W hSw;go_simp;try with_reducible rfl)
           refine Tk 15 (v:=?_) rfl ?_ ?_;rotate_left
           ·(intro W hSw;go_simp;try with_reducible rfl)
           refine wpAnyH_done (by kernel_rfl) ?_ _;clear e1 e6 sA kM;obtain rfl:=HA.out;simp only[List.getElem_toArray,List.getElem_cons_zero,List.getElem_cons_succ,Act.put,stL_set,stL_eta,Nat.reduceLeDiff,Nat.reduceSub];refine hK1 _ _ ?_;refine reframe X (nmB .scheme) ⟨#[]⟩ a p n i e c nx (Lz.specP x.url.scheme) sl ov _ (by simp only[List.length_set];exact hl) (fun f hf=>?_);have h144:f 144=.bool true:=hf 124 (.bool true) (by simp[hl]);clear hf hHeld HA hl;unfold FR;rw[h144];clear h144
           go_wp2_with fail
           exact⟨.spRel,_,_,_,_,_,{x with sch:=buf},_,_,_,_,_,_,_,rfl,rfl,hUd,opq_no (by nofun),(by nofun),HN.out⟩
         | false=>
           have HN:=Ih (hY2.out rfl)
           go_wp2_with fail
           rename_i K1 hK1;generalize w.setCell ⟨X.M,0,none⟩ (.string buf)=V5 at U0⊢
           skip
           refine frame_st X (nmB .scheme) ⟨#[]⟩ a p n i e c nx (Lz.specP x.url.scheme) sl ov _ rfl (fun A l hl hA=>?_);have sA:A.tmps.size=781:=by rw[hA];exact stL_size _ _ _ _ _ _ _ _ _ _ _ _ _ _ hl
           have e1:A.tmps[1]'(by rw[sA];decide)=.pointer (some ⟨q0,0,none⟩):=by subst hA;exact HBV.out
           have e6:A.tmps[6]'(by rw[sA];decide)=.pointer (some ⟨X.M,0,none⟩):=by subst hA;rfl
           have HA:=Ih hA;clear hA;have hUd:=U0.call hX (Below.refl _ V5).drew;clear U0 hU k0 z0;refine wp_region_held_drew (S:=fun V=>V5.drew=V) (by kernel_rfl) rfl (fun hHeld=>?_);generalize V5.drew=W0 at hUd hHeld⊢;have kM:=hUd.cell 0 (.string buf) rfl;refine Tk 0 (v:=?_) rfl ?_ ?_;rotate_left
           ·(intro W hSw;go_simp;try with_reducible rfl)
           refine Tk 1 (v:=?_) rfl ?_ ?_;rotate_left
           ·(intro W hSw;obtain rfl:=hSw;go_simp;try with_reducible rfl)
           refine wpAnyH_ready (rs:=[2]) (by kernel_rfl) (by simp) ?_;refine AllReadyH.cons rfl (fun K hK=>?_) AllReadyH.nil;go_simp
           go_at_call 33
           refine(CS.out _).mono ?_;rintro _ _ ⟨rfl,rfl⟩;refine hK.out _ _ rfl (fun hHeld=>?_);clear hK K;refine Tk 3 (v:=?_) rfl ?_ ?_;rotate_left
           ·(intro W hSw;go_simp;try with_reducible rfl)
           have pB:=rowAt (brow hUd.below hq0 HR0.out) 0 (.string sch2) rfl;refine wpAnyH_take (i:=4) (oi:=_) (v:=?_) rfl (by kernel_rfl) (by kernel_rfl) (by kernel_rfl) (fun _ _ _ h=>h) (Or.inl ⟨by rw[wanted_is (b:=true) rfl rfl (by simp[Act.put,sA])];rfl,?_⟩) (by assumption) ?_;rotate_left
           ·(intro W hSw;go_simp;try with_reducible rfl)
           refine wpAnyH_take (i:=5) (oi:=_) (v:=?_) rfl (by kernel_rfl) (by kernel_rfl) (by kernel_rfl) (fun _ _ _ h=>h) (Or.inl ⟨by rw[wanted_is (b:=true) rfl rfl (by simp[Act.put,sA])];rfl,?_⟩) (by assumption) ?_;rotate_left
           ·(intro W hSw;go_simp;try with_reducible rfl)
           refine Tk 6 (v:=?_) rfl ?_ ?_;rotate_left
           ·(intro W hSw;go_simp;try with_reducible rfl)
           refine Tk 7 (v:=?_) rfl ?_ ?_;rotate_left
           ·(intro W hSw;go_simp;try with_reducible rfl)
           refine wpAnyH_take (i:=8) (oi:=_) (v:=?_) rfl (by kernel_rfl) (by kernel_rfl) (by kernel_rfl) (fun _ _ _ h=>h) (Or.inl ⟨by rw[wanted_is (b:=true) rfl rfl (by simp[Act.put,sA])];rfl,?_⟩) (by assumption) ?_;rotate_left
           ·(intro W hSw;go_simp;try with_reducible rfl)
           refine wpAnyH_take (i:=9) (oi:=_) (v:=?_) rfl (by kernel_rfl) (by kernel_rfl) (by kernel_rfl) (fun _ _ _ h=>h) (Or.inl ⟨by rw[wanted_is (b:=true) rfl rfl (by simp[Act.put,sA])];rfl,?_⟩) (by assumption) ?_;rotate_left
           ·(intro W hSw;go_simp;try with_reducible rfl)
           refine wpAnyH_take (i:=10) (oi:=_) (v:=?_) rfl (by kernel_rfl) (by kernel_rfl) (by kernel_rfl) (fun _ _ _ h=>h) (Or.inl ⟨by rw[wanted_is (b:=true) rfl rfl (by simp[Act.put,sA])];rfl,?_⟩) (by assumption) ?_;rotate_left
           ·(intro W hSw;go_simp;try with_reducible rfl)
           refine wpAnyH_take (i:=11) (oi:=_) (v:=?_) rfl (by kernel_rfl) (by kernel_rfl) (by kernel_rfl) (fun _ _ _ h=>h) (Or.inl ⟨by rw[wanted_is (b:=true) rfl rfl (by simp[Act.put,sA])];rfl,?_⟩) (by assumption) ?_;rotate_left
           ·(intro W hSw;obtain rfl:=hSw;go_simp;try with_reducible rfl)
           refine wpAnyH_take (i:=12) (oi:=_) (v:=?_) rfl (by kernel_rfl) (by kernel_rfl) (by kernel_rfl) (fun _ _ _ h=>h) (Or.inl ⟨by rw[wanted_is (b:=true) rfl rfl (by simp[Act.put,sA])];rfl,?_⟩) (by assumption) ?_;rotate_left
           ·(intro W hSw;go_simp;try with_reducible rfl)
           refine wpAnyH_take (i:=13) (oi:=_) (v:=?_) rfl (by kernel_rfl) (by kernel_rfl) (by kernel_rfl) (fun _ _ _ h=>h) (Or.inl ⟨by rw[wanted_is (b:=true) rfl rfl (by simp[Act.put,sA])];rfl,?_⟩) (by assumption) ?_;rotate_left
           ·(intro W hSw;obtain rfl:=hSw;go_simp;try with_reducible rfl)
           refine wpAnyH_take (i:=14) (oi:=_) (v:=?_) rfl (by kernel_rfl) (by kernel_rfl) (by kernel_rfl) (fun _ _ _ h=>h) (Or.inl ⟨by rw[wanted_is (b:=true) rfl rfl (by simp[Act.put,sA])];rfl,?_⟩) (by assumption) ?_;rotate_left
           ·(intro W hSw;go_simp;try with_reducible rfl)
           refine Tk 15 (v:=?_) rfl ?_ ?_;rotate_left
           ·(intro W hSw;go_simp;try with_reducible rfl)
           refine wpAnyH_done (by kernel_rfl) ?_ _;clear e1 e6 sA kM;obtain rfl:=HA.out;simp only[List.getElem_toArray,List.getElem_cons_zero,List.getElem_cons_succ,Act.put,stL_set,stL_eta,Nat.reduceLeDiff,Nat.reduceSub];refine hK1 _ _ ?_;refine reframe X (nmB .scheme) ⟨#[]⟩ a p n i e c nx (Lz.specP x.url.scheme) sl ov _ (by simp only[List.length_set];exact hl) (fun f hf=>?_);have h144:f 144=.bool false:=hf 124 (.bool false) (by simp[hl]);clear hf hHeld HA hl;unfold FR;rw[h144];clear h144;have k0:=hUd.cell 0 (.string buf) rfl
           go_wp2_with fail
           refine(CS.out _).mono ?_;rintro _ _ ⟨rfl,rfl⟩
           go_wp2_with fail
           exact⟨.spSl,_,_,_,_,_,{x with sch:=buf},_,_,_,_,_,_,_,rfl,rfl,hUd,opq_no (by nofun),(by nofun),HN.out⟩
   ·have b58:((c.toNat:Int)==58)=false:=bq_n h58;have HN:Hid (Lz.After X.b X.s.data.toList X.goal .scheme i .none ⟨[],a,p,n,x.url⟩ (-1)):=Ih (Lz.w_sch_n HI.out HR.out HSc.out h58);clear h58
    go_wp2_with fail
    exact⟨.none,_,_,_,_,_,x,_,_,_,_,_,_,_,rfl,rfl,hU,opq_no (by nofun),(fun _=>rfl),HN.out⟩
end Go.Proofs.YtipndhbgehdeoaaGreatDoor
