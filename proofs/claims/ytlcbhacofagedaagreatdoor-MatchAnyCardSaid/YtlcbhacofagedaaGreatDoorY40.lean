/-
  lazaretref08.run: scheme.
-/
import Derived.Test.YtlcbhacofagedaaGreatDoorY36
set_option maxHeartbeats 16000000
set_option maxRecDepth 100000
namespace Go.Proofs.YtlcbhacofagedaaGreatDoor
open Go.RowKit
private theorem stL_eta (X:RX) (st buf:ByteArray) (a p n:Bool) (j:Int) (e:Bool) (c nx:UInt8) (sp sl ov:Bool) (l l':List Value):(⟨(stL X st buf a p n j e c nx sp sl ov l).tmps,(stL X st buf a p n j e c nx sp sl ov l').defers⟩:Act)=stL X st buf a p n j e c nx sp sl ov l:=rfl
theorem UAt.mk7 {X:RX} {w:World} {x:MkV} (hX:X.Ok) (h:UAt X w x) (z:ByteArray):
  UAt X ((w.setCell ⟨X.M,7,none⟩ (.slice (some ⟨w.heap.size,0,none⟩) 1 1)).alloc (.cells #[.string z] 9)) {x with pv:=.slice (some ⟨w.heap.size,0,none⟩) 1 1,xs:=[z]}/\
  ((w.setCell ⟨X.M,7,none⟩ (.slice (some ⟨w.heap.size,0,none⟩) 1 1)).alloc (.cells #[.string z] 9)).heap[w.heap.size]? =some (.cells #[.string z] 9 (0,0)):=by
 have hbm:=hX.bm;have Tw:=hX.mn;obtain⟨W1,yy⟩:∃W1,W1=w.setCell ⟨X.M,7,none⟩ (.slice (some ⟨w.heap.size,0,none⟩) 1 1):=⟨_,rfl⟩;have hs:W1.heap.size=w.heap.size:=by rw[yy];simp
 have r0:W1.heap[X.B]? =some (.cells bC 26 (0,0)):=by rw[yy,cp (by show X.B≠X.M;omega)];exact h.res
 have r1:W1.heap[X.M]? =some (.cells (MkV.cells {x with pv:=.slice (some ⟨w.heap.size,0,none⟩) 1 1,xs:=[z]}) 26 (0,0)):=by rw[yy];exact gF h.row 7 _ rfl
 have r2:W1.heap[X.N]? =some (.cells bC 26 (0,0)):=by rw[yy,cp (by show X.N≠X.M;omega)];exact h.non
 have aC:Below X.B X.w0 W1:=by rw[yy];exact h.below.setCell (p:=⟨X.M,7,none⟩) (Nat.le_of_lt hbm) _
 have hP:=Cf W1 X.B z;rw[hs]at hP;rw[<-yy];have Ls:=(Below.refl W1.heap.size W1).alloc (Nat.le_refl _) (.cells #[.string z] 9);refine⟨⟨aC.alloc (by rw[hs];exact h.hB hX) _,(Ls.block _ (aI r0)).trans r0,(Ls.block _ (aI r1)).trans r1,(Ls.block _ (aI r2)).trans r2,hP⟩,?_⟩;rw[<-hs];show(W1.heap.push _)[W1.heap.size]? =_
 simp
theorem ww (c:UInt8) (q:Bool) (h:Lz.be c=q):q=(Lz.aW c||Lz.aA c||c==43||c==45||c==46):=by rw[<-h];rfl
theorem Kb:kc 1 .scheme:=by
 (intro X x buf a p n i e c nx sp sl ov f w hX hU hO hI d5 hR;subst d5;have ff:=hI.1;have dV:=hX.size;rw[aa]at ff;have wm:IntKind.i64.wrap ((i:Int)-1)=(i:Int)-1:=IntWalk.i64_in _ (by omega);have wp:IntKind.i64.wrap ((i:Int)+1)=(i:Int)+1:=IntWalk.i64_in _ (by omega);have HI:=Ih hI;have HR:=Ih hR;clear hI hR;unfold FR;conv=>(arg 2;whnf))
 clear hO;have Ai:buf.size<=i:=by have:=HI.out.2.1;simp only[aa]at this;exact this
 obtain⟨q,hq⟩:∃q,q=(!e&&Lz.be c):=⟨_,rfl⟩;have HQ:=Ih hq;clear hq;refine pR (fun a' w'=>w=w'/\∃l:List Value,l.length=761/\a'=stL X (nmB .scheme) buf a p n i e c nx (Lz.ae x.url.scheme) sl ov l/\l[93]? =some (.bool q)) ?_ ?_
 ·cases e with
  | true=>
    have hqf:q=false:=by rw[HQ.out];rfl
    subst hqf
    go_wp2_with fail
    exact⟨_,rfl,rfl,rfl⟩
  | false=>
    have bV:=ww c q (by rw[HQ.out];rfl);have cA:=nd c w;have cD:=sq c w;cases jQ:Lz.aW c with
    | true=>
      rw[jQ]at cA bV;have DM:q=true:=by rw[bV];rfl
      subst DM;have CA:=Ih cA;clear cA cD bV jQ
      go_wp2_with fail
      refine CA.out.mono ?_;rintro _ w1 ⟨rfl,rfl⟩
      go_wp2_with fail
      exact⟨_,rfl,rfl,rfl⟩
    | false=>
      cases wR:Lz.aA c with
      | true=>
        rw[jQ,wR]at bV;rw[jQ]at cA;rw[wR]at cD;have DM:q=true:=by rw[bV];rfl
        subst DM;have CA:=Ih cA;have CD:=Ih cD;clear cA cD bV jQ wR
        go_wp2_with fail
        refine CA.out.mono ?_;rintro _ w1 ⟨rfl,rfl⟩
        go_wp2_with fail
        refine CD.out.mono ?_;rintro _ w1 ⟨rfl,rfl⟩
        go_wp2_with fail
        exact⟨_,rfl,rfl,rfl⟩
      | false=>
        rw[jQ,wR]at bV;rw[jQ]at cA;rw[wR]at cD;have CA:=Ih cA;have CD:=Ih cD;clear cA cD jQ wR;by_cases VY:c=43
        ·have b43:((c.toNat:Int)==43)=true:=ij VY;have DM:q=true:=by rw[bV,VY];rfl
         subst DM;clear bV VY
         go_wp2_with fail
         refine CA.out.mono ?_;rintro _ w1 ⟨rfl,rfl⟩
         go_wp2_with fail
         refine CD.out.mono ?_;rintro _ w1 ⟨rfl,rfl⟩
         go_wp2_with fail
         exact⟨_,rfl,rfl,rfl⟩
        ·have b43:((c.toNat:Int)==43)=false:=gi VY;rw[beq_eq_false_iff_ne.2 VY]at bV;by_cases Sn:c=45
         ·have b45:((c.toNat:Int)==45)=true:=ij Sn;have DM:q=true:=by rw[bV,Sn];rfl
          subst DM;clear bV VY Sn
          go_wp2_with fail
          refine CA.out.mono ?_;rintro _ w1 ⟨rfl,rfl⟩
          go_wp2_with fail
          refine CD.out.mono ?_;rintro _ w1 ⟨rfl,rfl⟩
          go_wp2_with fail
          exact⟨_,rfl,rfl,rfl⟩
         ·have b45:((c.toNat:Int)==45)=false:=gi Sn;rw[beq_eq_false_iff_ne.2 Sn]at bV;have b46:((c.toNat:Int)==46)=q:=by rw[bV];exact jx c 46
          clear bV VY Sn
          go_wp2_with fail
          refine CA.out.mono ?_;rintro _ w1 ⟨rfl,rfl⟩
          go_wp2_with fail
          refine CD.out.mono ?_;rintro _ w1 ⟨rfl,rfl⟩
          go_wp2_with fail
          exact⟨_,rfl,rfl,rfl⟩
 rintro _ _ ⟨rfl,l,hl,rfl,hv⟩;refine di X _ _ _ _ _ _ _ _ _ _ _ _ l hl (fun f hf=>?_);have Y5:f 113=.bool q:=hf _ _ hv;clear hv hl hf;unfold FR;rw[Y5];clear Y5;cases q with
 | true=>
   have he:e=false:=by have:=HQ.out;revert this;cases e<;>simp
   subst he;have Lq:Lz.be c=true:=by have:=HQ.out;revert this;simp
   (have aN:=(Lz.Rd.no HR.out rfl).1;rw[aa]at aN;have bn:(i:Int)+1<=(X.s.size:Int):=(by omega);have tK:(0:Int)<=(i:Int):=(by omega);have eA:(i:Int)<=(i:Int)+1:=(by omega);have HX:Hid ((X.s.extract i (i+1)).data.toList=[c]):=Ih (gP (Lz.Rd.no HR.out rfl).2.1 aN))
   have cL:=Ih (fh (X.s.extract i (i+1)) (by rw[iJ HX.out];omega) w);have HSc:=Ih Lq;clear Lq
   go_wp2_with fail
   refine cL.out.mono ?_;rintro _ w1 ⟨u,rfl,hu,hb⟩;have ie:=hU.call hX hb;have o8:u.data.toList=[Lz.low1 c]:=by rw[hu.out,HX.out];rfl
   have jn:u.size=1:=by rw[<-aa,o8];rfl
   have g8:¬(9223372036854775807<buf.size+u.size):=by omega
   have HN:Hid (Lz.aB none X.s.data.toList X.goal .scheme i .scheme ⟨(buf++u).data.toList,a,p,n,x.url⟩ (i:Int)):=Ih (by
    rw[kL o8];exact Lz.PU HI.out HR.out rfl HSc.out)
   clear hu hb o8 jn cL
   go_wp2_with fail
   exact⟨.scheme,_,_,_,_,_,x,_,_,_,_,_,_,_,rfl,rfl,ie,aM (by nofun),(by nofun),HN.out⟩
 | false=>
   have HSc:Hid (e=false->Lz.be c=false):=Ih (by
    intro he;have:=HQ.out;rw[he]at this
    revert this
    cases Lz.be c<;>simp)
   by_cases iU:c=58
   ·have SP:((c.toNat:Int)==58)=true:=ij iU;have Pk:=Ih iU;clear iU;have k0:=hU.cell 0 (.string x.sch) rfl;have z0:=hU.fz 0;have U0:=hU.setF hX 0 (.string buf) {x with sch:=buf} rfl rfl rfl;by_cases jm:buf.data.toList=Lz.fileS
    ·have g0:=aH (k:=[102,105,108,101]) jm;have HN:Hid (Lz.aB none X.s.data.toList X.goal .scheme i .file ⟨[],a,p,n,MkV.url {x with sch:=buf}⟩ (i:Int)):=Ih (Lz.D7 HI.out HR.out Pk.out jm);have U0:=Ih U0;clear jm
     go_wp2_with fail
     exact⟨.file,_,_,_,_,_,{x with sch:=buf},_,_,_,_,_,_,_,rfl,rfl,U0.out,aM (by nofun),(by nofun),HN.out⟩
    ·have g0:=aR (k:=[102,105,108,101]) jm;cases Gk:Lz.ae buf.data.toList with
     | false=>
       have CS:Hid (∀V,Calls Tryz.prog 22 #[.string buf] V fun e w'=>e=.returned (.bool false)/\V=w'):=Ih (fun V=>by rw[<-Gk];exact kf buf V);have HNp:Hid (nx=47->Lz.aB none X.s.data.toList X.goal .scheme i .pa ⟨[],a,p,n,MkV.url {x with sch:=buf}⟩ ((i:Int)+1)):=Ih (fun h=>Lz.NG HI.out HR.out Pk.out jm Gk h);have Pz:Hid (nx≠47->∀v:Value,Lz.aB none X.s.data.toList X.goal .scheme i .opq ⟨[],a,p,n,MkV.url {x with sch:=buf,opq:=true,pv:=v,xs:=[⟨#[]⟩]}⟩ (i:Int)):=Ih (fun h _=>Lz.IF HI.out HR.out Pk.out jm Gk h);clear jm Gk
       go_wp2_with fail
       rename_i K1 O9;generalize w.setCell ⟨X.M,0,none⟩ (.string buf)=V5 at U0⊢
       skip
       refine vn X (nmB .scheme) ⟨#[]⟩ a p n i e c nx (Lz.ae x.url.scheme) sl ov _ rfl (fun A l hl hA=>?_);have sA:A.tmps.size=781:=by rw[hA];exact vD _ _ _ _ _ _ _ _ _ _ _ _ _ _ hl
       have e1:A.tmps[1]'(by rw[sA];decide)=.pointer none:=by subst hA;rfl
       have e6:A.tmps[6]'(by rw[sA];decide)=.pointer (some ⟨X.M,0,none⟩):=by subst hA;rfl
       have HA:=Ih hA;clear hA;have nM:=U0.call hX (Below.refl _ V5).drew;clear U0 hU k0 z0;refine wp_region_held_drew (S:=fun V=>V5.drew=V) (by kernel_rfl) rfl (fun ar=>?_);generalize V5.drew=W0 at nM ar⊢;have kM:=nM.cell 0 (.string buf) rfl;refine TkL 0 ?_;refine TkL 1 ?_ (hy:=by (intro W yC;obtain rfl:=yC;go_simp;try with_reducible rfl));refine RyL 2 (fun K hK=>?_);go_simp
       go_at_call 22
       refine(CS.out _).mono ?_;rintro _ _ ⟨rfl,rfl⟩;refine hK.out _ _ rfl (fun ar=>?_);clear hK K;refine TkL 3 ?_;refine TnL 4 ?_ (hw:=by (rw[b7 (b:=false) rfl rfl (by simp[Act.put,sA])];rfl));refine TnL 5 ?_ (hw:=by (rw[b7 (b:=false) rfl rfl (by simp[Act.put,sA])];rfl));refine TkL 6 ?_;refine TkL 7 ?_;refine TnL 8 ?_ (hw:=by (rw[b7 (b:=false) rfl rfl (by simp[Act.put,sA])];rfl));refine TnL 9 ?_ (hw:=by (rw[b7 (b:=false) rfl rfl (by simp[Act.put,sA])];rfl));refine TnL 10 ?_ (hw:=by (rw[b7 (b:=false) rfl rfl (by simp[Act.put,sA])];rfl));refine TnL 11 ?_ (hw:=by (rw[b7 (b:=false) rfl rfl (by simp[Act.put,sA])];rfl));refine TnL 12 ?_ (hw:=by (rw[b7 (b:=false) rfl rfl (by simp[Act.put,sA])];rfl));refine TnL 13 ?_ (hw:=by (rw[b7 (b:=false) rfl rfl (by simp[Act.put,sA])];rfl));refine TnL 14 ?_ (hw:=by (rw[b7 (b:=false) rfl rfl (by simp[Act.put,sA])];rfl));refine TkL 15 ?_;refine wpAnyH_done (by kernel_rfl) ?_ _;clear e1 e6 sA kM;obtain rfl:=HA.out;simp only[List.getElem_toArray,List.getElem_cons_zero,List.getElem_cons_succ,Act.put,fm,stL_eta,Nat.reduceLeDiff,Nat.reduceSub];refine O9 _ _ ?_
       refine di X (nmB .scheme) ⟨#[]⟩ a p n i e c nx (Lz.ae x.url.scheme) sl ov _ (by simp only[List.length_set];exact hl) (fun f hf=>?_);have OG:f 144=.bool false:=hf 124 (.bool false) (by simp[hl]);clear hf ar HA hl;unfold FR;rw[OG];clear OG;have k0:=nM.cell 0 (.string buf) rfl;by_cases n47:nx=47
       ·have c47:((nx.toNat:Int)==47)=true:=ij n47;have HN:=Ih (HNp.out n47);clear n47
        go_wp2_with fail
        refine(CS.out _).mono ?_;rintro _ _ ⟨rfl,rfl⟩
        go_wp2_with fail
        exact⟨.pa,_,_,_,_,_,{x with sch:=buf},_,_,_,_,_,_,_,rfl,rfl,nM,aM (by nofun),(by nofun),HN.out⟩
       ·have c47:((nx.toNat:Int)==47)=false:=gi n47;have HN:=Ih (Pz.out n47);clear n47
        go_wp2_with fail
        refine(CS.out _).mono ?_;rintro _ _ ⟨rfl,rfl⟩;have hMl:X.M<W0.heap.size:=aI nM.row;have hMn:¬X.M=W0.heap.size:=by omega
        have k6:=nM.cell 6 (.bool x.opq) rfl;have z6:=nM.fz 6;have k7:=nM.cell 7 x.pv rfl;have z7:=nM.fz 7;have U2:=nM.setF hX 6 (.bool true) {x with sch:=buf,opq:=true} rfl rfl rfl;have U3:=U2.mk7 hX ⟨#[]⟩;rw[show(W0.setCell ⟨X.M,6,none⟩ (.bool true)).heap.size=W0.heap.size by simp]at U3;have U4:=Ih U3;clear U2 U3
        go_wp2_with fail
        exact⟨.opq,_,_,_,_,_,{x with sch:=buf,opq:=true,pv:=.slice (some ⟨W0.heap.size,0,none⟩) 1 1,xs:=[⟨#[]⟩]},_,_,_,_,_,_,_,rfl,rfl,U4.out.1,(fun _=>⟨_,_,by rw[hX.eB];exact nM.below.size,rfl,rfl,U4.out.2⟩),(by nofun),HN.out _⟩
     | true=>
       have CS:Hid (∀V,Calls Tryz.prog 22 #[.string buf] V fun e w'=>e=.returned (.bool true)/\V=w'):=Ih (fun V=>by rw[<-Gk];exact kf buf V);have HN:Hid (Lz.aB none X.s.data.toList X.goal .scheme i .spSl ⟨[],a,p,n,MkV.url {x with sch:=buf}⟩ (i:Int)):=Ih (Lz.Mq HI.out HR.out Pk.out jm Gk (by intro y hy;cases hy));clear jm Gk
       go_wp2_with fail
       rename_i K1 O9;generalize w.setCell ⟨X.M,0,none⟩ (.string buf)=V5 at U0⊢
       skip
       refine vn X (nmB .scheme) ⟨#[]⟩ a p n i e c nx (Lz.ae x.url.scheme) sl ov _ rfl (fun A l hl hA=>?_);have sA:A.tmps.size=781:=by rw[hA];exact vD _ _ _ _ _ _ _ _ _ _ _ _ _ _ hl
       have e1:A.tmps[1]'(by rw[sA];decide)=.pointer none:=by subst hA;rfl
       have e6:A.tmps[6]'(by rw[sA];decide)=.pointer (some ⟨X.M,0,none⟩):=by subst hA;rfl
       have HA:=Ih hA;clear hA;have nM:=U0.call hX (Below.refl _ V5).drew;clear U0 hU k0 z0;refine wp_region_held_drew (S:=fun V=>V5.drew=V) (by kernel_rfl) rfl (fun ar=>?_);generalize V5.drew=W0 at nM ar⊢;have kM:=nM.cell 0 (.string buf) rfl;refine TkL 0 ?_;refine TkL 1 ?_ (hy:=by (intro W yC;obtain rfl:=yC;go_simp;try with_reducible rfl));refine RyL 2 (fun K hK=>?_);go_simp
       go_at_call 22
       refine(CS.out _).mono ?_;rintro _ _ ⟨rfl,rfl⟩;refine hK.out _ _ rfl (fun ar=>?_);clear hK K;refine TkL 3 ?_;refine TkL 4 ?_ (hw:=by (rw[b7 (b:=true) rfl rfl (by simp[Act.put,sA])];rfl));refine TkL 5 ?_ (hw:=by (rw[b7 (b:=true) rfl rfl (by simp[Act.put,sA])];rfl));refine TkL 6 ?_;refine TkL 7 ?_;refine TnL 8 ?_ (hw:=by (rw[b7 (b:=false) rfl rfl (by simp[Act.put,sA])];rfl));refine TnL 9 ?_ (hw:=by (rw[b7 (b:=false) rfl rfl (by simp[Act.put,sA])];rfl));refine TnL 10 ?_ (hw:=by (rw[b7 (b:=false) rfl rfl (by simp[Act.put,sA])];rfl));refine TnL 11 ?_ (hw:=by (rw[b7 (b:=false) rfl rfl (by simp[Act.put,sA])];rfl));refine TnL 12 ?_ (hw:=by (rw[b7 (b:=false) rfl rfl (by simp[Act.put,sA])];rfl));refine TnL 13 ?_ (hw:=by (rw[b7 (b:=false) rfl rfl (by simp[Act.put,sA])];rfl));refine TnL 14 ?_ (hw:=by (rw[b7 (b:=false) rfl rfl (by simp[Act.put,sA])];rfl));refine TkL 15 ?_;refine wpAnyH_done (by kernel_rfl) ?_ _;clear e1 e6 sA kM;obtain rfl:=HA.out;simp only[List.getElem_toArray,List.getElem_cons_zero,List.getElem_cons_succ,Act.put,fm,stL_eta,Nat.reduceLeDiff,Nat.reduceSub];refine O9 _ _ ?_
       refine di X (nmB .scheme) ⟨#[]⟩ a p n i e c nx (Lz.ae x.url.scheme) sl ov _ (by simp only[List.length_set];exact hl) (fun f hf=>?_);have OG:f 144=.bool false:=hf 124 (.bool false) (by simp[hl]);clear hf ar HA hl;unfold FR;rw[OG];clear OG;have k0:=nM.cell 0 (.string buf) rfl
       go_wp2_with fail
       refine(CS.out _).mono ?_;rintro _ _ ⟨rfl,rfl⟩
       go_wp2_with fail
       exact⟨.spSl,_,_,_,_,_,{x with sch:=buf},_,_,_,_,_,_,_,rfl,rfl,nM,aM (by nofun),(by nofun),HN.out⟩
   ·have SP:((c.toNat:Int)==58)=false:=gi iU;have HN:Hid (Lz.aB none X.s.data.toList X.goal .scheme i .none ⟨[],a,p,n,x.url⟩ (-1)):=Ih (Lz.Q2 HI.out HR.out HSc.out iU);clear iU
    go_wp2_with fail
    exact⟨.none,_,_,_,_,_,x,_,_,_,_,_,_,_,rfl,rfl,hU,aM (by nofun),(fun _=>rfl),HN.out⟩
end Go.Proofs.YtlcbhacofagedaaGreatDoor
