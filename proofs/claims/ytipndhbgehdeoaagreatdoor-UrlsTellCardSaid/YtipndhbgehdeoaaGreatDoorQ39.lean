/-
  lazaretref08.run: port, host, file host.
-/
import Derived.Test.YtipndhbgehdeoaaGreatDoorQ36
import Derived.Test.YtipndhbgehdeoaaGreatDoorQ38
set_option maxHeartbeats 8000000
set_option maxRecDepth 100000
namespace Go.Proofs.YtipndhbgehdeoaaGreatDoor
open Go.RowKit
theorem empty_of {b:ByteArray} (h:b.data.toList=[]):b.toList.isEmpty=true:=isEmpty_of_size (by rw[<-len_of_size,h];rfl)
theorem nonempty_of {b:ByteArray} (h:¬b.data.toList=[]):b.toList.isEmpty=false:=isEmpty_of_pos (by rw[<-len_of_size];exact List.length_pos_iff.2 h)
theorem snoc_data {b t:ByteArray} {c:UInt8} (h:t.data.toList=[c]):(b++t).data.toList=b.data.toList++[c]:=by rw[append_data',h]
theorem host_k {s:List UInt8} {w:World} (sp:Bool) (e:Ending) (w':World) (h:RParseH (Lz.hostPr s sp) w e w'):∃(u:ByteArray) (k:Nat),e=.returned (.tuple #[.string u,.int .i64 (k:Int)])/\Hid ((k=0->Lz.hostPr s sp=.ok u.data.toList)/\(k≠0->Lz.hostPr s sp=.er k))/\Below w.heap.size w w':=by
 obtain⟨u,h1,h2,h3⟩:=h;refine⟨u,_,h1,Ih ⟨fun hk=>?_,fun hk=>?_⟩,h3⟩
 ·rw[h2.out];cases hr:Lz.hostPr s sp with
  | ok t=>rfl
  | er m=>
    rw[hr]at hk;have hm:m=0:=hk;cases sp with
    | true=>have:=Lz.host_err_true s m hr;omega
    | false=>have:=Lz.host_err_false s m hr;omega
 ·cases hr:Lz.hostPr s sp with
  | ok t=>rw[hr]at hk;exact absurd rfl hk
  | er m=>rfl
theorem rd_port:RdOk 11 .port:=by
 (intro X x buf a p n i e c nx sp sl ov f w hX hU hO hI hsp hR;subst hsp;have hile:=hI.1;have hsz:=hX.size;rw[len_of_size]at hile;have wm:IntKind.i64.wrap ((i:Int)-1)=(i:Int)-1:=IntWalk.i64_in _ (by omega);have wp:IntKind.i64.wrap ((i:Int)+1)=(i:Int)+1:=IntWalk.i64_in _ (by omega);have HI:=Ih hI;have HR:=Ih hR;clear hI hR;unfold FR;conv=>(arg 2;whnf))
 clear hO;have hbz:buf.size<=i:=by have:=HI.out.2.2.1;simp only[len_of_size]at this;exact this
 have hdg:=HI.out.2.2.2.1;cases ov with
 | true=>
   have cP:=port08_any buf x.sch (by omega) hdg w;have k0:=hU.cell 0 (.string x.sch) rfl;have k5:=hU.cell 5 (.int .i64 x.prt) rfl;have z5:=hU.fz 5;obtain⟨pI,hpI⟩:∃pI,pI=Lz.portI x.sch.data.toList buf.data.toList:=⟨_,rfl⟩;rw[<-hpI]at cP;have HP:=Ih hpI;have CP:=Ih cP;have U5:=Ih (hU.setF hX 5 (.int .i64 pI) {x with prt:=pI} rfl rfl rfl);have HN0:=Ih U5.out.non;have HB0:=Ih U5.out.res;clear cP hpI hdg hbz;by_cases hl:pI< -1
   ·have HL:=Ih hl
    go_wp2_with fail
    refine CP.out.mono ?_;rintro _ w1 ⟨rfl,rfl⟩
    go_wp2_with (first |(refine wpList_load_row rfl 25 (.tmp 7) rfl X.N rfl 25 zeroC (0,0) _ HN0.out Tryz.underlying25 rfl urlSize ?_)|(refine wpList_store_row rfl 25 (.tmp 4) (.tmp 457) rfl X.B zeroC rfl rfl 25 zeroC HB0.out urlSize rfl (by simp[Value.oneCell']) ?_))
    have hg:X.goal=.er 81:=Lz.w_port_er HI.out HR.out rfl (by have:=HL.out;rw[HP.out]at this;exact this);exact⟨81,_,_,_,_,_,hg,rfl,rfl,below_setRow U5.out.below (Nat.le_refl _),setRow_heap _ _ _ _ _ _ HB0.out⟩
   ·have HL:=Ih hl
    have HN:Hid (Lz.After X.b X.s.data.toList X.goal .port i .pStart ⟨[],a,p,n,MkV.url {x with prt:=pI}⟩ ((i:Int)-1)):=Ih (by
     have:=Lz.w_port_ps HI.out HR.out rfl (by have:=HL.out;rw[HP.out]at this;exact this);rw[HP.out];exact this)
    go_wp2_with fail
    refine CP.out.mono ?_;rintro _ w1 ⟨rfl,rfl⟩
    go_wp2_with fail
    exact⟨.pStart,_,_,_,_,_,{x with prt:=pI},_,_,_,_,_,_,_,rfl,rfl,U5.out,opq_no (by nofun),(by nofun),HN.out⟩
 | false=>
   have he:=(HR.out.nover rfl).1;subst he
   (have hlt:=(Lz.Rd.no HR.out rfl).1;rw[len_of_size]at hlt;have hs1:(i:Int)+1<=(X.s.size:Int):=(by omega);have hs0:(0:Int)<=(i:Int):=(by omega);have hs2:(i:Int)<=(i:Int)+1:=(by omega);have HX:Hid ((X.s.extract i (i+1)).data.toList=[c]):=Ih (ext_one (Lz.Rd.no HR.out rfl).2.1 hlt))
   have hxz:(X.s.extract i (i+1)).size=1:=ext_sz HX.out;have hcat:¬(9223372036854775807<buf.size+(min (i+1) X.s.size-i)):=by omega
   have cD:=Digit02_any c w;have HN0:=Ih hU.non;have HB0:=Ih hU.res;clear hdg;cases hd:Lz.isDigit c with
   | true=>
     rw[hd]at cD;have CD:=Ih cD
     have HN:Hid (Lz.After X.b X.s.data.toList X.goal .port i .port ⟨(buf++X.s.extract i (i+1)).data.toList,a,p,n,x.url⟩ (i:Int)):=Ih (by
      rw[snoc_data HX.out];exact Lz.w_port_c HI.out HR.out rfl hd)
     clear hd cD hxz
     go_wp2_with fail
     refine CD.out.mono ?_;rintro _ w1 ⟨rfl,rfl⟩
     go_wp2_with fail
     exact⟨.port,_,_,_,_,_,x,_,_,_,_,_,_,_,rfl,rfl,hU,opq_no (by nofun),(by nofun),HN.out⟩
   | false=>
     rw[hd]at cD;have CD:=Ih cD;have hg:X.goal=.er 81:=Lz.w_port_bad HI.out HR.out rfl hd;have HG:=Ih hg;clear hd cD hxz hg
     go_wp2_with fail
     refine CD.out.mono ?_;rintro _ w1 ⟨rfl,rfl⟩
     go_wp2_with (first |(refine wpList_load_row rfl 25 (.tmp 7) rfl X.N rfl 25 zeroC (0,0) _ HN0.out Tryz.underlying25 rfl urlSize ?_)|(refine wpList_store_row rfl 25 (.tmp 4) (.tmp 469) rfl X.B zeroC rfl rfl 25 zeroC HB0.out urlSize rfl (by simp[Value.oneCell']) ?_))
     exact⟨81,_,_,_,_,_,HG.out,rfl,rfl,below_setRow hU.below (Nat.le_refl _),setRow_heap _ _ _ _ _ _ HB0.out⟩
theorem rd_host:RdOk 10 .host:=by
 (intro X x buf a p n i e c nx sp sl ov f w hX hU hO hI hsp hR;have hile:=hI.1;have hsz:=hX.size;rw[len_of_size]at hile;have wm:IntKind.i64.wrap ((i:Int)-1)=(i:Int)-1:=IntWalk.i64_in _ (by omega);have wp:IntKind.i64.wrap ((i:Int)+1)=(i:Int)+1:=IntWalk.i64_in _ (by omega);have HI:=Ih hI;have HS:=Ih hsp;have HR:Hid (Lz.Rd X.s.data.toList (Lz.specP x.url.scheme) i e c nx sl ov):=Ih (hsp▸hR);clear hI hR hsp;unfold FR;conv=>(arg 2;whnf))
 clear hO;have hbz:buf.size<=i:=by have:=HI.out.2.2.1;simp only[len_of_size]at this;exact this
 have HN0:=Ih hU.non;have HB0:=Ih hU.res;have k3:=hU.cell 3 (.bool x.hh) rfl;have z3:=hU.fz 3;have k4:=hU.cell 4 (.string x.hst) rfl;have z4:=hU.fz 4;obtain⟨q,hq⟩:∃q,q=((c==58&& !n)||ov):=⟨_,rfl⟩;have HQ:=Ih hq;clear hq;have hq3:∀b:Bool,b=(c==58)->((c.toNat:Int)==58)=b:=fun b hb=>by rw[hb];exact beqU c 58
 refine cutR (fun a' w'=>w=w'/\∃l:List Value,l.length=761/\a'=stL X (nmB .host) buf a p n i e c nx sp sl ov l/\l[387]? =some (.bool q)) ?_ ?_
 ·cases h58:(c==58)with
  | true=>
    have b58:=hq3 true h58.symm;rw[h58]at HQ;clear h58 hq3;cases n with
    | false=>
      have hqt:q=true:=by rw[HQ.out];rfl
      subst hqt
      go_wp2_with fail
      exact⟨_,rfl,rfl,rfl⟩
    | true=>
      have hqt:q=ov:=by rw[HQ.out];rfl
      subst hqt
      go_wp2_with fail
      exact⟨_,rfl,rfl,rfl⟩
  | false=>
    have b58:=hq3 false h58.symm;rw[h58]at HQ;clear h58 hq3;have hqt:q=ov:=by rw[HQ.out];rfl
    subst hqt
    go_wp2_with fail
    exact⟨_,rfl,rfl,rfl⟩
 (rintro _ _ ⟨rfl,l,hl,rfl,hv⟩;refine reframe X _ _ _ _ _ _ _ _ _ _ _ _ l hl (fun f hf=>?_);have h407:f 407=.bool q:=hf _ _ hv;clear hv hl hf;unfold FR;rw[h407];clear h407)
 clear hq3;cases q with
 | false=>
   have hov:ov=false:=by have:=HQ.out;revert this;cases ov<;>simp
   subst hov
   have h58:¬(c=58/\n=false):=by
    rintro⟨rfl,rfl⟩;exact absurd HQ.out (by decide)
   have he:=(HR.out.nover rfl).1;subst he
   (have hlt:=(Lz.Rd.no HR.out rfl).1;rw[len_of_size]at hlt;have hs1:(i:Int)+1<=(X.s.size:Int):=(by omega);have hs0:(0:Int)<=(i:Int):=(by omega);have hs2:(i:Int)<=(i:Int)+1:=(by omega);have HX:Hid ((X.s.extract i (i+1)).data.toList=[c]):=Ih (ext_one (Lz.Rd.no HR.out rfl).2.1 hlt))
   have hxz:(X.s.extract i (i+1)).size=1:=ext_sz HX.out;have hcat:¬(9223372036854775807<buf.size+(min (i+1) X.s.size-i)):=by omega
   have HN:Hid (Lz.After X.b X.s.data.toList X.goal .host i .host ⟨(buf++X.s.extract i (i+1)).data.toList,a,p,if c=93 then false else if c=91 then true else n,x.url⟩ (i:Int)):=Ih (by
    rw[snoc_data HX.out];exact Lz.w_host_c HI.out HR.out rfl h58)
   clear hxz h58 hbz;by_cases h91:c=91
   ·have b91:((c.toNat:Int)==91)=true:=bq_y h91;have b93:((c.toNat:Int)==93)=false:=bq_n (show ¬c=93 by rw[h91];decide);rw[if_neg (show ¬c=93 by rw[h91];decide),if_pos h91]at HN;clear h91
    go_wp2_with fail
    exact⟨.host,_,_,_,_,_,x,_,_,_,_,_,_,_,rfl,rfl,hU,opq_no (by nofun),(by nofun),HN.out⟩
   ·have b91:((c.toNat:Int)==91)=false:=bq_n h91;by_cases h93:c=93
    ·have b93:((c.toNat:Int)==93)=true:=bq_y h93;rw[if_pos h93]at HN;clear h91 h93
     go_wp2_with fail
     exact⟨.host,_,_,_,_,_,x,_,_,_,_,_,_,_,rfl,rfl,hU,opq_no (by nofun),(by nofun),HN.out⟩
    ·have b93:((c.toNat:Int)==93)=false:=bq_n h93;rw[if_neg h93,if_neg h91]at HN;clear h91 h93
     go_wp2_with fail
     exact⟨.host,_,_,_,_,_,x,_,_,_,_,_,_,_,rfl,rfl,hU,opq_no (by nofun),(by nofun),HN.out⟩
 | true=>
   have hc0:(c=58/\n=false)\/ov=true:=by
    have:=HQ.out
    revert this
    cases ov<;>cases n<;>simp
   have hc:=Ih hc0;have hE:=hU.env hX
   have cP:Hid (Calls Tryz.prog 39 #[.string buf,.bool sp] w fun e w'=>∃(u:ByteArray) (k:Nat),e=.returned (.tuple #[.string u,.int .i64 (k:Int)])/\Hid ((k=0->Lz.hostPr buf.data.toList (Lz.specP x.url.scheme)=.ok u.data.toList)/\(k≠0->Lz.hostPr buf.data.toList (Lz.specP x.url.scheme)=.er k))/\Below w.heap.size w w'):=Ih (by
    rw[<-HS.out];exact(Parse07_any buf sp (by omega) w hE).mono (host_k sp))
   clear HQ hc0 hbz hE;by_cases hb0:buf.data.toList=[]
   ·have g0:=text_yes (k:=[]) hb0;have g1:=empty_of hb0;by_cases h58:c=58
    ·have b58:((c.toNat:Int)==58)=true:=bq_y h58;have HG:Hid (X.goal=.er 70):=Ih (Lz.w_host_er HI.out HR.out hc.out hb0 (.inl h58));clear h58 hb0
     go_wp2_with (first |(refine wpList_load_row rfl 25 (.tmp 7) rfl X.N rfl 25 zeroC (0,0) _ HN0.out Tryz.underlying25 rfl urlSize ?_)|(refine wpList_store_row rfl 25 (.tmp 4) (.tmp 417) rfl X.B zeroC rfl rfl 25 zeroC HB0.out urlSize rfl (by simp[Value.oneCell']) ?_))
     exact⟨70,_,_,_,_,_,HG.out,rfl,rfl,below_setRow hU.below (Nat.le_refl _),setRow_heap _ _ _ _ _ _ HB0.out⟩
    ·have b58:((c.toNat:Int)==58)=false:=bq_n h58;cases sp with
     | true=>
       have HG:Hid (X.goal=.er 70):=Ih (Lz.w_host_er HI.out HR.out hc.out hb0 (.inr HS.out.symm));clear h58 hb0
       go_wp2_with (first |(refine wpList_load_row rfl 25 (.tmp 7) rfl X.N rfl 25 zeroC (0,0) _ HN0.out Tryz.underlying25 rfl urlSize ?_)|(refine wpList_store_row rfl 25 (.tmp 4) (.tmp 417) rfl X.B zeroC rfl rfl 25 zeroC HB0.out urlSize rfl (by simp[Value.oneCell']) ?_))
       exact⟨70,_,_,_,_,_,HG.out,rfl,rfl,below_setRow hU.below (Nat.le_refl _),setRow_heap _ _ _ _ _ _ HB0.out⟩
     | false=>
       have b58n:((c.toNat:Int) != 58)=true:=nq_n h58;have hov:Hid (ov=true):=Ih (by rcases hc.out with h|h;exact absurd h.1 h58;exact h);have hbe:Hid (¬(buf.data.toList=[]/\(c=58\/Lz.specP x.url.scheme=true))):=Ih (by rintro⟨_,h|h⟩;exact h58 h;rw[<-HS.out]at h;exact absurd h (by simp));have hbe2:Hid (¬(buf.data.toList=[]/\Lz.specP x.url.scheme=true)):=Ih (fun h=>hbe.out ⟨h.1,.inr h.2⟩);clear h58 hb0
       go_wp2_with fail
       refine cP.out.mono ?_;rintro _ w1 ⟨u,k,rfl,hk,hb⟩;have hU1:=hU.call hX hb;clear cP hU k3 z3 k4 z4 HN0 HB0 hb;have k3:=hU1.cell 3 (.bool x.hh) rfl;have z3:=hU1.fz 3;have k4:=hU1.cell 4 (.string x.hst) rfl;have z4:=hU1.fz 4;by_cases hk0:k=0
       ·have U2:=Ih ((hU1.setF hX 4 (.string u) {x with hst:=u} rfl rfl rfl).setF hX 3 (.bool true) {x with hst:=u,hh:=true} rfl rfl rfl);have bk:((k:Int) != 0)=false:=by rw[hk0];rfl
        have hh:=hk.out.1 hk0;have HN:Hid (Lz.After X.b X.s.data.toList X.goal .host i .pStart ⟨[],a,p,n,MkV.url {x with hst:=u,hh:=true}⟩ ((i:Int)-1)):=Ih (Lz.w_host_ps HI.out HR.out hov.out hbe2.out hh);clear hk0 hh hk
        go_wp2_with fail
        exact⟨.pStart,_,_,_,_,_,{x with hst:=u,hh:=true},_,_,_,_,_,_,_,rfl,rfl,U2.out,opq_no (by nofun),(by nofun),HN.out⟩
       ·have bk:((k:Int) != 0)=true:=by rw[bne,beq_eq_false_iff_ne.2 (by omega)];rfl
        have hh:=hk.out.2 hk0;have HG:Hid (X.goal=.er k):=Ih (Lz.w_host_bad HI.out HR.out hc.out hbe.out hh);have HN0:=Ih hU1.non;have HB0:=Ih hU1.res;clear hk0 hh hk
        go_wp2_with (first |(refine wpList_load_row rfl 25 (.tmp 7) rfl X.N rfl 25 zeroC (0,0) _ HN0.out Tryz.underlying25 rfl urlSize ?_)|(refine wpList_store_row rfl 25 (.tmp 4) (.tmp 426) rfl X.B zeroC rfl rfl 25 zeroC HB0.out urlSize rfl (by simp[Value.oneCell']) ?_))
        exact⟨k,_,_,_,_,_,HG.out,rfl,rfl,below_setRow hU1.below (Nat.le_refl _),setRow_heap _ _ _ _ _ _ HB0.out⟩
   ·have g0:=text_no (k:=[]) hb0;have g1:=nonempty_of hb0;have hbe:Hid (¬(buf.data.toList=[]/\(c=58\/Lz.specP x.url.scheme=true))):=Ih (fun h=>hb0 h.1);by_cases h58:c=58
    ·have b58:((c.toNat:Int)==58)=true:=bq_y h58;have b58n:((c.toNat:Int) != 58)=false:=nq_y h58;have H58:=Ih h58;have HB1:=Ih hb0;have hin:Hid (n=false\/ov=true):=Ih (hc.out.imp (fun h=>h.2) id);clear h58 hb0
     go_wp2_with fail
     refine cP.out.mono ?_;rintro _ w1 ⟨u,k,rfl,hk,hb⟩;have hU1:=hU.call hX hb;clear cP hU k3 z3 k4 z4 HN0 HB0 hb;have k3:=hU1.cell 3 (.bool x.hh) rfl;have z3:=hU1.fz 3;have k4:=hU1.cell 4 (.string x.hst) rfl;have z4:=hU1.fz 4;by_cases hk0:k=0
     ·have U2:=Ih ((hU1.setF hX 4 (.string u) {x with hst:=u} rfl rfl rfl).setF hX 3 (.bool true) {x with hst:=u,hh:=true} rfl rfl rfl);have bk:((k:Int) != 0)=false:=by rw[hk0];rfl
      have hh:=hk.out.1 hk0;have HN:Hid (Lz.After X.b X.s.data.toList X.goal .host i .port ⟨[],a,p,n,MkV.url {x with hst:=u,hh:=true}⟩ (i:Int)):=Ih (Lz.w_host_port HI.out HR.out H58.out hin.out HB1.out hh);clear hk0 hh hk
      go_wp2_with fail
      exact⟨.port,_,_,_,_,_,{x with hst:=u,hh:=true},_,_,_,_,_,_,_,rfl,rfl,U2.out,opq_no (by nofun),(by nofun),HN.out⟩
     ·have bk:((k:Int) != 0)=true:=by rw[bne,beq_eq_false_iff_ne.2 (by omega)];rfl
      have hh:=hk.out.2 hk0;have HG:Hid (X.goal=.er k):=Ih (Lz.w_host_bad HI.out HR.out hc.out hbe.out hh);have HN0:=Ih hU1.non;have HB0:=Ih hU1.res;clear hk0 hh hk
      go_wp2_with (first |(refine wpList_load_row rfl 25 (.tmp 7) rfl X.N rfl 25 zeroC (0,0) _ HN0.out Tryz.underlying25 rfl urlSize ?_)|(refine wpList_store_row rfl 25 (.tmp 4) (.tmp 426) rfl X.B zeroC rfl rfl 25 zeroC HB0.out urlSize rfl (by simp[Value.oneCell']) ?_))
      exact⟨k,_,_,_,_,_,HG.out,rfl,rfl,below_setRow hU1.below (Nat.le_refl _),setRow_heap _ _ _ _ _ _ HB0.out⟩
    ·have b58:((c.toNat:Int)==58)=false:=bq_n h58;have b58n:((c.toNat:Int) != 58)=true:=nq_n h58;have hov:Hid (ov=true):=Ih (by rcases hc.out with h|h;exact absurd h.1 h58;exact h);have hbe2:Hid (¬(buf.data.toList=[]/\Lz.specP x.url.scheme=true)):=Ih (fun h=>hbe.out ⟨h.1,.inr h.2⟩);clear h58 hb0
     go_wp2_with fail
     refine cP.out.mono ?_;rintro _ w1 ⟨u,k,rfl,hk,hb⟩;have hU1:=hU.call hX hb;clear cP hU k3 z3 k4 z4 HN0 HB0 hb;have k3:=hU1.cell 3 (.bool x.hh) rfl;have z3:=hU1.fz 3;have k4:=hU1.cell 4 (.string x.hst) rfl;have z4:=hU1.fz 4;by_cases hk0:k=0
     ·have U2:=Ih ((hU1.setF hX 4 (.string u) {x with hst:=u} rfl rfl rfl).setF hX 3 (.bool true) {x with hst:=u,hh:=true} rfl rfl rfl);have bk:((k:Int) != 0)=false:=by rw[hk0];rfl
      have hh:=hk.out.1 hk0;have HN:Hid (Lz.After X.b X.s.data.toList X.goal .host i .pStart ⟨[],a,p,n,MkV.url {x with hst:=u,hh:=true}⟩ ((i:Int)-1)):=Ih (Lz.w_host_ps HI.out HR.out hov.out hbe2.out hh);clear hk0 hh hk
      go_wp2_with fail
      exact⟨.pStart,_,_,_,_,_,{x with hst:=u,hh:=true},_,_,_,_,_,_,_,rfl,rfl,U2.out,opq_no (by nofun),(by nofun),HN.out⟩
     ·have bk:((k:Int) != 0)=true:=by rw[bne,beq_eq_false_iff_ne.2 (by omega)];rfl
      have hh:=hk.out.2 hk0;have HG:Hid (X.goal=.er k):=Ih (Lz.w_host_bad HI.out HR.out hc.out hbe.out hh);have HN0:=Ih hU1.non;have HB0:=Ih hU1.res;clear hk0 hh hk
      go_wp2_with (first |(refine wpList_load_row rfl 25 (.tmp 7) rfl X.N rfl 25 zeroC (0,0) _ HN0.out Tryz.underlying25 rfl urlSize ?_)|(refine wpList_store_row rfl 25 (.tmp 4) (.tmp 426) rfl X.B zeroC rfl rfl 25 zeroC HB0.out urlSize rfl (by simp[Value.oneCell']) ?_))
      exact⟨k,_,_,_,_,_,HG.out,rfl,rfl,below_setRow hU1.below (Nat.le_refl _),setRow_heap _ _ _ _ _ _ HB0.out⟩
end Go.Proofs.YtipndhbgehdeoaaGreatDoor
