/-
  lazaretref08.run: path.
-/
import Derived.Test.YtlcbhacofagedaaGreatDoorY37
set_option maxHeartbeats 16000000
set_option maxRecDepth 100000
namespace Go.Proofs.YtlcbhacofagedaaGreatDoor
open Go.RowKit
def P2d (sc:List UInt8) (path:List (List UInt8)) (D:Nat):List (List UInt8):=if D=2 then Lz.bJ sc path else path
def P3d (sc:List UInt8) (path:List (List UInt8)) (D:Nat) (m:Bool):List (List UInt8):=if(D=1\/D=2)/\m=false then P2d sc path D++[[]]else P2d sc path D
theorem QA {sc:List UInt8} {path:List (List UInt8)} {q:List UInt8} {m:Bool} {D:Nat} (hD:D=Lz.Cq q):
  (if D≠1/\D≠2 then P3d sc path D m++[if sc=Lz.fileS/\P3d sc path D m=[]/\Lz.bu q=true then q.take 1++[58]else q]else P3d sc path D m)=Lz.fc sc path q m:=by
 unfold P3d P2d;obtain⟨h1,h2⟩:=Lz.Rq q;unfold Lz.fc;by_cases k2:D=2
 ·have:Lz.dN q=2:=h2.1 (by rw[<-hD,k2])
  simp[k2,this]
 ·have n2:¬Lz.dN q=2:=fun h=>k2 (by rw[hD,h2.2 h]);by_cases k1:D=1
  ·have:Lz.dN q=1:=h1.1 (by rw[<-hD,k1])
   simp[k1,this]
  ·have n1:¬Lz.dN q=1:=fun h=>k1 (by rw[hD,h1.2 h])
   simp[k1,k2,n1,n2]
def LN (X:RX) (x:MkV) (w:World) (P:List (List UInt8)) (L:Nat):Prop:=∃(v:Value) (ys:List ByteArray),UAt X w {x with pv:=v,xs:=ys}/\Hid (ys.map (fun x:ByteArray=>x.data.toList)=P)/\ys.length<=L
theorem Qf:kc 16 .path:=by
 (intro X x buf a p n i e c nx sp sl ov f w hX hU hO hI d5 hR;subst d5;have ff:=hI.1;have dV:=hX.size;rw[aa]at ff;have wm:IntKind.i64.wrap ((i:Int)-1)=(i:Int)-1:=IntWalk.i64_in _ (by omega);have wp:IntKind.i64.wrap ((i:Int)+1)=(i:Int)+1:=IntWalk.i64_in _ (by omega);have HI:=Ih hI;have HR:=Ih hR;clear hI hR;unfold FR;conv=>(arg 2;whnf))
 clear hO;have Ai:buf.size<=3*i:=by have:=HI.out.2.2.2.1;simp only[aa]at this;exact this
 have Pj:x.xs.length<=1000000+i:=by have:=HI.out.2.2.1;simpa [MkV.url]using this
 cases ov with
 | false=>
   have he:=(HR.out.nover rfl).1;subst he
   (have aN:=(Lz.Rd.no HR.out rfl).1;rw[aa]at aN;have bn:(i:Int)+1<=(X.s.size:Int):=(by omega);have tK:(0:Int)<=(i:Int):=(by omega);have eA:(i:Int)<=(i:Int)+1:=(by omega);have HX:Hid ((X.s.extract i (i+1)).data.toList=[c]):=Ih (gP (Lz.Rd.no HR.out rfl).2.1 aN))
   have cE:=Ih (eS (X.s.extract i (i+1)) 4 (by omega) (by rw[iJ HX.out];omega) w)
   go_wp2_with fail
   refine cE.out.mono ?_;rintro _ w1 ⟨u,rfl,hu,hb⟩;have ie:=hU.call hX hb;have jn:u.size<=3:=kZ (by rw[hu.out,HX.out]);have g8:¬(9223372036854775807<buf.size+u.size):=by omega
   have HN:Hid (Lz.aB none X.s.data.toList X.goal .path i .path ⟨(buf++u).data.toList,a,p,n,x.url⟩ (i:Int)):=Ih (by
    rw[ai,hu.out,HX.out];exact Lz.NR HI.out HR.out rfl)
   clear jn hu hb cE
   go_wp2_with fail
   exact⟨.path,_,_,_,_,_,x,_,_,_,_,_,_,_,rfl,rfl,ie,aM (by nofun),(by nofun),HN.out⟩
 | true=>
   obtain⟨D,hD⟩:∃D,D=Lz.Cq buf.data.toList:=⟨_,rfl⟩;have cD:=FM buf (by omega) w;rw[<-hD]at cD;have CD:=Ih cD;have HD:=Ih hD;clear cD hD;refine pR (fun a' w'=>w=w'/\∃l:List Value,l.length=761/\a'=stL X (nmB .path) buf a p n i e c nx (Lz.ae x.url.scheme) sl true l/\l[618]? =some (.bool true)) ?_ ?_
   ·go_wp2_with fail
    exact⟨_,rfl,rfl,rfl⟩
   rintro _ _ ⟨rfl,l,hl,rfl,hv⟩;refine di X _ _ _ _ _ _ _ _ _ _ _ _ l hl (fun f hf=>?_);refine wp_cond_true (hf _ _ hv) ?_;clear hv hl hf;unfold FR;refine pR (fun a' w'=>UAt X w' x/\∃l:List Value,l.length=761/\a'=stL X (nmB .path) buf a p n i e c nx (Lz.ae x.url.scheme) sl true l/\l[6]? =some (.int .i64 (D:Int))) ?_ ?_
   ·go_wp2_with fail
    refine CD.out.mono ?_;rintro _ w1 ⟨rfl,hb⟩;have ie:=Ih (hU.call hX hb);clear hb CD
    go_wp2_with fail
    exact⟨ie.out,_,rfl,rfl,rfl⟩
   clear hU CD l f;rintro _ w1 ⟨hU,l,hl,rfl,hv⟩;refine di X _ _ _ _ _ _ _ _ _ _ _ _ l hl (fun f hf=>?_);have TO:f 26=.int .i64 (D:Int):=hf _ _ hv;clear hv hl hf;unfold FR;rw[TO];clear TO;refine pR (fun a' w'=>LN X x w' (P2d x.url.scheme x.url.path D) (1000000+i)/\∃l:List Value,l.length=761/\a'=stL X (nmB .path) buf a p n i e c nx (Lz.ae x.url.scheme) sl true l/\l[6]? =some (.int .i64 (D:Int))) ?_ ?_
   ·by_cases yF:D=2
    ·have b2:((D:Int)==2)=true:=by rw[yF];rfl
     rw[show P2d x.url.scheme x.url.path D=Lz.bJ x.url.scheme x.url.path from if_pos yF];clear yF;have cS:=Ih (wy X.B x.sch x.pv x.xs w1 hU.own (hU.hB hX) (by omega));have k0:=hU.cell 0 (.string x.sch) rfl;have k7:=hU.cell 7 x.pv rfl
     go_wp2_with fail
     refine cS.out.mono ?_;rintro _ w2 ⟨a3,n3,c3,ys,rfl,jl,aQ,hb⟩;have Ox:=hU.call hX hb;have k7:=Ox.cell 7 x.pv rfl;have z7:=Ox.fz 7;have U3:=Ih (Ox.set hX 7 (.slice a3 n3 c3) (x':={x with pv:=.slice a3 n3 c3,xs:=ys}) rfl aQ);have HY:=Ih jl
     have Pg:ys.length<=1000000+i:=by
      have:=Lz.yj x.sch.data.toList (x.xs.map (fun x:ByteArray=>x.data.toList));rw[<-jl,List.length_map,List.length_map]at this;omega
     clear jl aQ hb cS
     go_wp2_with fail
     exact⟨⟨_,ys,U3.out,HY,Pg⟩,_,rfl,rfl,rfl⟩
    ·have b2:((D:Int)==2)=false:=by rw[beq_eq_false_iff_ne];omega
     rw[show P2d x.url.scheme x.url.path D=x.url.path from if_neg yF];clear yF
     go_wp2_with fail
     exact⟨⟨x.pv,x.xs,hU,Ih rfl,Pj⟩,_,rfl,rfl,rfl⟩
   clear hU Pj l f;rintro _ w2 ⟨⟨v,ys,hU,HY,Pg⟩,l,hl,rfl,hv⟩;refine di X _ _ _ _ _ _ _ _ _ _ _ _ l hl (fun f hf=>?_);have TO:f 26=.int .i64 (D:Int):=hf _ _ hv;clear hv hl hf;unfold FR;rw[TO];clear TO;refine pR (fun a' w'=>LN X x w' (P3d x.url.scheme x.url.path D sl) (1000001+i)/\∃l:List Value,l.length=761/\a'=stL X (nmB .path) buf a p n i e c nx (Lz.ae x.url.scheme) sl true l/\l[6]? =some (.int .i64 (D:Int))) ?_ ?_
   ·by_cases Ll:D=1
    ·have b1:((D:Int)==1)=true:=by rw[Ll];rfl
     cases sl with
     | true=>
       rw[show P3d x.url.scheme x.url.path D true=P2d x.url.scheme x.url.path D from if_neg (by simp)];clear Ll
       go_wp2_with fail
       exact⟨⟨v,ys,hU,HY,by omega⟩,_,rfl,rfl,rfl⟩
     | false=>
       rw[show P3d x.url.scheme x.url.path D false=P2d x.url.scheme x.url.path D++[[]]from if_pos ⟨.inl Ll,rfl⟩];clear Ll;have k7:=hU.cell 7 v rfl;have Xw:Hid ((ys++[(⟨#[]⟩:ByteArray)]).map (fun x:ByteArray=>x.data.toList)=(P2d x.url.scheme x.url.path D)++[[]]):=Ih (by rw[List.map_append,HY.out];rfl);have KE:(ys++[(⟨#[]⟩:ByteArray)]).length<=1000001+i:=by simp;omega
       have lU:=hU.own.below ((Below.refl _ w2).alloc (Nat.le_refl _) (.cells #[.string ⟨#[]⟩] 9))
       go_wp2_with (at_builtin;refine ba _ rfl (.tmp 660) (.tmp 661) rfl X.B _ ys rfl lU ⟨w2.heap.size,0,none⟩ 1 ⟨#[]⟩ rfl (aY _ _ _ 0 _ rfl) (by omega) (by have:=hU.hB hX;simp;omega) ?_)
       intro g7 n7 c7 w5 row dt hg bN;obtain⟨Z9,z75,U5⟩:=hU.app hX ⟨#[]⟩ dt hg bN;have U6:=Ih U5;clear dt hg bN U5 lU
       go_wp2_with fail
       exact⟨⟨_,_,U6.out,Xw,KE⟩,_,rfl,rfl,rfl⟩
    ·have b1:((D:Int)==1)=false:=by rw[beq_eq_false_iff_ne];omega
     by_cases yF:D=2
     ·have b2:((D:Int)==2)=true:=by rw[yF];rfl
      cases sl with
      | true=>
        rw[show P3d x.url.scheme x.url.path D true=P2d x.url.scheme x.url.path D from if_neg (by simp)];clear Ll yF
        go_wp2_with fail
        exact⟨⟨v,ys,hU,HY,by omega⟩,_,rfl,rfl,rfl⟩
      | false=>
        rw[show P3d x.url.scheme x.url.path D false=P2d x.url.scheme x.url.path D++[[]]from if_pos ⟨.inr yF,rfl⟩];clear Ll yF;have k7:=hU.cell 7 v rfl;have Xw:Hid ((ys++[(⟨#[]⟩:ByteArray)]).map (fun x:ByteArray=>x.data.toList)=(P2d x.url.scheme x.url.path D)++[[]]):=Ih (by rw[List.map_append,HY.out];rfl);have KE:(ys++[(⟨#[]⟩:ByteArray)]).length<=1000001+i:=by simp;omega
        have lU:=hU.own.below ((Below.refl _ w2).alloc (Nat.le_refl _) (.cells #[.string ⟨#[]⟩] 9))
        go_wp2_with (at_builtin;refine ba _ rfl (.tmp 660) (.tmp 661) rfl X.B _ ys rfl lU ⟨w2.heap.size,0,none⟩ 1 ⟨#[]⟩ rfl (aY _ _ _ 0 _ rfl) (by omega) (by have:=hU.hB hX;simp;omega) ?_)
        intro g7 n7 c7 w5 row dt hg bN;obtain⟨Z9,z75,U5⟩:=hU.app hX ⟨#[]⟩ dt hg bN;have U6:=Ih U5;clear dt hg bN U5 lU
        go_wp2_with fail
        exact⟨⟨_,_,U6.out,Xw,KE⟩,_,rfl,rfl,rfl⟩
     ·have b2:((D:Int)==2)=false:=by rw[beq_eq_false_iff_ne];omega
      rw[show P3d x.url.scheme x.url.path D sl=P2d x.url.scheme x.url.path D from if_neg (fun h=>h.1.elim Ll yF)];clear Ll yF
      go_wp2_with fail
      exact⟨⟨v,ys,hU,HY,by omega⟩,_,rfl,rfl,rfl⟩
   clear hU l f;rintro _ w3 ⟨⟨v,ys,hU,HY,Pg⟩,l,hl,rfl,hv⟩;refine di X _ _ _ _ _ _ _ _ _ _ _ _ l hl (fun f hf=>?_);have TO:f 26=.int .i64 (D:Int):=hf _ _ hv;clear hv hl hf;unfold FR;rw[TO];clear TO;have TQ:=QA (sc:=x.url.scheme) (path:=x.url.path) (m:=sl) HD.out;refine pR (fun a' w'=>LN X x w' (Lz.fc x.url.scheme x.url.path buf.data.toList sl) (1000002+i)/\∃(ZN:ByteArray) (l:List Value),l.length=761/\a'=stL X (nmB .path) ZN a p n i e c nx (Lz.ae x.url.scheme) sl true l) ?_ ?_
   ·by_cases hDD:D≠1/\D≠2
    ·have b1:((D:Int) != 1)=true:=by rw[bne,beq_eq_false_iff_ne.2 (by omega)];rfl
     have b2:((D:Int) != 2)=true:=by rw[bne,beq_eq_false_iff_ne.2 (by omega)];rfl
     rw[if_pos hDD,<-HY.out]at TQ;clear hDD;obtain⟨av,cv,hv7,sV,aO⟩:=hU.own.form;replace hv7:v=.slice av ys.length cv:=hv7;subst hv7;have k7:=hU.cell 7 (.slice av ys.length cv) rfl;have k0:=hU.cell 0 (.string x.sch) rfl;clear aO sV
     have fin:∀pb:ByteArray,pb.data.toList=(if x.url.scheme=Lz.fileS/\ys.map (fun x:ByteArray=>x.data.toList)=[]/\Lz.bu buf.data.toList=true then buf.data.toList.take 1++[58]else buf.data.toList)->(ys++[pb]).map (fun x:ByteArray=>x.data.toList)=Lz.fc x.url.scheme x.url.path buf.data.toList sl:=by
      intro pb vY;rw[<-TQ,List.map_append,<-vY];rfl
     have Y0:∀pb:ByteArray,(ys++[pb]).length<=1000002+i:=by intro pb;simp;omega
     have HF:=Ih fin;have T3:=Ih Y0;clear fin TQ Y0;by_cases jm:x.sch.data.toList=Lz.fileS
     ·have g0:=aH (k:=[102,105,108,101]) jm;by_cases VO:ys=[]
      ·have e0:((ys.length:Int)==0)=true:=by rw[VO];rfl
       have cR:=mS buf w3;cases Dx:Lz.bu buf.data.toList with
       | true=>
         have hz:=oR Dx;rw[aa]at hz
         have HP:Hid ((ys++[buf.extract 0 1++⟨#[58]⟩]).map (fun x:ByteArray=>x.data.toList)=Lz.fc x.url.scheme x.url.path buf.data.toList sl):=Ih (HF.out _ (by
          rw[if_pos ⟨jm,by rw[VO];rfl,Dx⟩,ai,dC]))
         have fs:(1:Int)<=(buf.size:Int):=by omega
         have g8:¬(9223372036854775807<min 1 buf.size+1):=by omega
         rw[Dx]at cR;have CR:=Ih cR;have W5:=Ih (T3.out (buf.extract 0 1++⟨#[58]⟩));clear jm VO Dx cR HF T3 hz
         go_wp2_with fail
         refine CR.out.mono ?_;rintro _ w4 ⟨rfl,rfl⟩;have lU:=hU.own.below ((Below.refl _ w3).alloc (Nat.le_refl _) (.cells #[.string (buf.extract 0 1++⟨#[58]⟩)] 9))
         go_wp2_with (at_builtin;refine ba _ rfl (.tmp 687) (.tmp 689) rfl X.B _ ys rfl lU ⟨w3.heap.size,0,none⟩ 1 (buf.extract 0 1++⟨#[58]⟩) rfl (aY _ _ _ 0 _ rfl) (by omega) (by have:=hU.hB hX;simp;omega) ?_)
         intro g7 n7 c7 w5 row dt hg bN;obtain⟨Z9,z75,U5⟩:=hU.app hX (buf.extract 0 1++⟨#[58]⟩) dt hg bN;have U6:=Ih U5;clear dt hg bN U5 lU
         go_wp2_with fail
         exact⟨⟨_,_,U6.out,HP,W5.out⟩,_,_,rfl,rfl⟩
       | false=>
         have HP:Hid ((ys++[buf]).map (fun x:ByteArray=>x.data.toList)=Lz.fc x.url.scheme x.url.path buf.data.toList sl):=Ih (HF.out _ (by
          rw[if_neg (by rw[Dx];simp)]))
         rw[Dx]at cR;have CR:=Ih cR;have W5:=Ih (T3.out buf);clear jm VO Dx cR HF T3
         go_wp2_with fail
         refine CR.out.mono ?_;rintro _ w4 ⟨rfl,rfl⟩;have lU:=hU.own.below ((Below.refl _ w3).alloc (Nat.le_refl _) (.cells #[.string buf] 9))
         go_wp2_with (at_builtin;refine ba _ rfl (.tmp 687) (.tmp 689) rfl X.B _ ys rfl lU ⟨w3.heap.size,0,none⟩ 1 buf rfl (aY _ _ _ 0 _ rfl) (by omega) (by have:=hU.hB hX;simp;omega) ?_)
         intro g7 n7 c7 w5 row dt hg bN;obtain⟨Z9,z75,U5⟩:=hU.app hX buf dt hg bN;have U6:=Ih U5;clear dt hg bN U5 lU
         go_wp2_with fail
         exact⟨⟨_,_,U6.out,HP,W5.out⟩,_,_,rfl,rfl⟩
      ·have e0:((ys.length:Int)==0)=false:=by
        rw[beq_eq_false_iff_ne];intro h;exact VO (List.eq_nil_of_length_eq_zero (by omega))
       have HP:Hid ((ys++[buf]).map (fun x:ByteArray=>x.data.toList)=Lz.fc x.url.scheme x.url.path buf.data.toList sl):=Ih (HF.out _ (by
        rw[if_neg (fun h=>VO (List.map_eq_nil_iff.1 h.2.1))]))
       have W5:=Ih (T3.out buf);clear jm VO HF T3;have lU:=hU.own.below ((Below.refl _ w3).alloc (Nat.le_refl _) (.cells #[.string buf] 9))
       go_wp2_with (at_builtin;refine ba _ rfl (.tmp 687) (.tmp 689) rfl X.B _ ys rfl lU ⟨w3.heap.size,0,none⟩ 1 buf rfl (aY _ _ _ 0 _ rfl) (by omega) (by have:=hU.hB hX;simp;omega) ?_)
       intro g7 n7 c7 w5 row dt hg bN;obtain⟨Z9,z75,U5⟩:=hU.app hX buf dt hg bN;have U6:=Ih U5;clear dt hg bN U5 lU
       go_wp2_with fail
       exact⟨⟨_,_,U6.out,HP,W5.out⟩,_,_,rfl,rfl⟩
     ·have g0:=aR (k:=[102,105,108,101]) jm
      have HP:Hid ((ys++[buf]).map (fun x:ByteArray=>x.data.toList)=Lz.fc x.url.scheme x.url.path buf.data.toList sl):=Ih (HF.out _ (by
       rw[if_neg (fun h=>jm h.1)]))
      have W5:=Ih (T3.out buf);clear jm HF T3;have lU:=hU.own.below ((Below.refl _ w3).alloc (Nat.le_refl _) (.cells #[.string buf] 9))
      go_wp2_with (at_builtin;refine ba _ rfl (.tmp 687) (.tmp 689) rfl X.B _ ys rfl lU ⟨w3.heap.size,0,none⟩ 1 buf rfl (aY _ _ _ 0 _ rfl) (by omega) (by have:=hU.hB hX;simp;omega) ?_)
      intro g7 n7 c7 w5 row dt hg bN;obtain⟨Z9,z75,U5⟩:=hU.app hX buf dt hg bN;have U6:=Ih U5;clear dt hg bN U5 lU
      go_wp2_with fail
      exact⟨⟨_,_,U6.out,HP,W5.out⟩,_,_,rfl,rfl⟩
    ·rw[if_neg hDD]at TQ;have HP:Hid (ys.map (fun x:ByteArray=>x.data.toList)=Lz.fc x.url.scheme x.url.path buf.data.toList sl):=Ih (HY.out.trans TQ);have KE:ys.length<=1000002+i:=by omega
     by_cases Ll:D=1
     ·have b1:((D:Int) != 1)=false:=by rw[Ll];rfl
      clear hDD Ll TQ
      go_wp2_with fail
      exact⟨⟨v,ys,hU,HP,KE⟩,buf,_,rfl,rfl⟩
     ·have yF:D=2:=by omega
      have b1:((D:Int) != 1)=true:=by rw[yF];rfl
      have b2:((D:Int) != 2)=false:=by rw[yF];rfl
      clear hDD Ll yF TQ
      go_wp2_with fail
      exact⟨⟨v,ys,hU,HP,KE⟩,buf,_,rfl,rfl⟩
   clear hU HY Pg l f TQ;rintro _ w4 ⟨⟨v,ys,hU,HY,Pg⟩,ZN,l,hl,rfl⟩;refine di X _ _ _ _ _ _ _ _ _ _ _ _ l hl (fun f hf=>?_);clear hl hf Pg Ai;unfold FR;by_cases kV:c=63
   ·have F1:sl=false:=by
     subst kV;have:=(HR.out.some (by decide)).2.2.2.2.1;rw[this];exact(Lz.GC _).1
    subst F1;have TA:((c.toNat:Int)==63)=true:=ij kV;have OV:((c.toNat:Int)==35)=false:=gi (show ¬c=35 by rw[kV];decide)
    have HN:Hid (Lz.aB none X.s.data.toList X.goal .path i .query ⟨[],a,p,n,MkV.url {x with pv:=v,xs:=ys,hq:=true}⟩ (i:Int)):=Ih (by
     show Lz.aB _ _ _ _ _ _ ⟨_,_,_,_,{x.url with path:=ys.map (fun x:ByteArray=>x.data.toList),hasQuery:=true}⟩ _;rw[HY.out];exact Lz.MI HI.out HR.out kV)
    have k8:=hU.cell 8 (.bool x.hq) rfl;have z8:=hU.fz 8;have U8:=Ih (hU.setF hX 8 (.bool true) {x with pv:=v,xs:=ys,hq:=true} rfl rfl rfl);clear kV
    go_wp2_with fail
    exact⟨.query,_,_,_,_,_,{x with pv:=v,xs:=ys,hq:=true},_,_,_,_,_,_,_,rfl,rfl,U8.out,aM (by nofun),(by nofun),HN.out⟩
   ·have TA:((c.toNat:Int)==63)=false:=gi kV;by_cases km:c=35
    ·have F1:sl=false:=by
      subst km;have:=(HR.out.some (by decide)).2.2.2.2.1;rw[this];exact(Lz.GC _).2
     subst F1;have OV:((c.toNat:Int)==35)=true:=ij km
     have HN:Hid (Lz.aB none X.s.data.toList X.goal .path i .frag ⟨[],a,p,n,MkV.url {x with pv:=v,xs:=ys,hf:=true}⟩ (i:Int)):=Ih (by
      show Lz.aB _ _ _ _ _ _ ⟨_,_,_,_,{x.url with path:=ys.map (fun x:ByteArray=>x.data.toList),hasFragment:=true}⟩ _;rw[HY.out];exact Lz.Nc HI.out HR.out km)
     have k9:=hU.cell 9 (.bool x.hf) rfl;have z9:=hU.fz 9;have U9:=Ih (hU.setF hX 9 (.bool true) {x with pv:=v,xs:=ys,hf:=true} rfl rfl rfl);clear km kV
     go_wp2_with fail
     exact⟨.frag,_,_,_,_,_,{x with pv:=v,xs:=ys,hf:=true},_,_,_,_,_,_,_,rfl,rfl,U9.out,aM (by nofun),(by nofun),HN.out⟩
    ·have OV:((c.toNat:Int)==35)=false:=gi km
     have HN:Hid (Lz.aB none X.s.data.toList X.goal .path i .path ⟨[],a,p,n,MkV.url {x with pv:=v,xs:=ys}⟩ (i:Int)):=Ih (by
      show Lz.aB _ _ _ _ _ _ ⟨_,_,_,_,{x.url with path:=ys.map (fun x:ByteArray=>x.data.toList)}⟩ _;rw[HY.out];cases sl with
      | true=>exact Lz.IB HI.out HR.out rfl
      | false=>
        have he:e=true:=by
         rcases HR.out with h|h
         ·exact h.1
         ·have h1:=h.2.2.2.2.2;have h2:=h.2.2.2.2.1;unfold Lz.dO at h1;rw[<-h2,beq_eq_false_iff_ne.2 kV,beq_eq_false_iff_ne.2 km]at h1;exact absurd h1 (by simp)
        exact Lz.Ew HI.out HR.out he)
     clear km kV
     go_wp2_with fail
     exact⟨.path,_,_,_,_,_,{x with pv:=v,xs:=ys},_,_,_,_,_,_,_,rfl,rfl,hU,aM (by nofun),(by nofun),HN.out⟩
end Go.Proofs.YtlcbhacofagedaaGreatDoor
