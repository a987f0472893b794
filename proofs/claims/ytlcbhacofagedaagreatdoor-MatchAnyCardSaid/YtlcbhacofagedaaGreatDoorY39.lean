/-
  lazaretref08.run: authority.
-/
import Derived.Test.YtlcbhacofagedaaGreatDoorY36
set_option maxHeartbeats 16000000
set_option maxRecDepth 100000
namespace Go.Proofs.YtlcbhacofagedaaGreatDoor
open Go.RowKit
theorem exists_least (p:Nat->Prop) (h:∃n,p n):∃n,p n/\∀m,p m->n<=m:=by
 obtain⟨n,hn⟩:=h
 induction n using Nat.strongRecOn with
 | _ n ih=>
   by_cases hm:∃m,m<n/\p m
   ·obtain⟨m,h1,h2⟩:=hm;exact ih m h1 h2
   ·exact⟨n,hn,fun m hp=>Nat.le_of_not_lt (fun h=>hm ⟨m,h,hp⟩)⟩
theorem va {P:Program} {c:Code} {Q:Exit->Act->World->Prop} {a:Act} {w:World} (J:Nat->Act->World->Prop) (m:Nat) (h0:J m a w)
  (round:∀m a w,J m a w->c.wp P (Exit.then (fun a' w'=>∃m',m'<m/\J m' a' w') Q) a w):(Code.loop c).wp P Q a w:=by
 have TT:∀(a:Act) (w:World),(∃n,J n a w)->J (Classical.epsilon (fun n=>J n a w/\∀m,J m a w->n<=m)) a w/\∀m,J m a w->Classical.epsilon (fun n=>J n a w/\∀m,J m a w->n<=m)<=m:=by
  intro a w h;exact Classical.epsilon_spec (exists_least (fun n=>J n a w) h)
 refine wp_loop (fun a w=>∃n,J n a w) (fun a w=>Classical.epsilon (fun n=>J n a w/\∀m,J m a w->n<=m)) ⟨m,h0⟩ ?_;intro a w hI;obtain⟨h1,_⟩:=TT a w hI;refine wp_mono (round _ a w h1) ?_;intro e a' w' h;cases e with
 | normal=>
   obtain⟨m',aN,hJ⟩:=h;obtain⟨_,h2⟩:=TT a' w' ⟨m',hJ⟩;exact⟨⟨m',hJ⟩,Nat.lt_of_le_of_lt (h2 m' hJ) aN⟩
 | exit _=>exact h
 | goto _=>exact h
 | ret=>exact h
 | panic _=>exact h
 | outgrown=>exact h
def UE (X:RX) (x:MkV) (b:ByteArray) (p n:Bool) (i:Nat) (e:Bool) (c nx:UInt8) (sp sl ov:Bool) (m:Nat) (a':Act) (w':World):Prop:=
 ∃(k:Nat) (y z:ByteArray) (q:Bool),m+k=b.size/\UAt X w' {x with usr:=y,pas:=z}/\Hid (MkV.url {x with usr:=y,pas:=z}=Lz.exU x.url p (b.data.toList.take k)/\q=Lz.exP p (b.data.toList.take k))/\y.size+z.size<=300000+3*k/\
  ∃l:List Value,l.length=761/\a'=stL X (nmB .auth) b true q n i e c nx sp sl ov l/\l[0]? =some (.int .i64 (k:Int))
theorem I1 {b:ByteArray} {k:Nat} (h:k<b.size):b.data.toList.take (k+1)=b.data.toList.take k++[b[k]]:=by
 rw[List.take_succ_eq_append_getElem (by rw[aa];exact h)];rfl
theorem PE:kc 9 .auth:=by
 (intro X x buf a p n i e c nx sp sl ov f w hX hU hO hI d5 hR;subst d5;have ff:=hI.1;have dV:=hX.size;rw[aa]at ff;have wm:IntKind.i64.wrap ((i:Int)-1)=(i:Int)-1:=IntWalk.i64_in _ (by omega);have wp:IntKind.i64.wrap ((i:Int)+1)=(i:Int)+1:=IntWalk.i64_in _ (by omega);have HI:=Ih hI;have HR:=Ih hR;clear hI hR;unfold FR;conv=>(arg 2;whnf))
 clear hO;obtain⟨_,hea,hni,TU,Dx,jn,_,_,hg⟩:=HI.out;have Ai:buf.size<=i:=by simpa only[aa]using TU
 have acI:x.usr.size+x.pas.size+3*buf.size<=12*i:=by simpa only[MkV.url,aa]using jn
 clear hea Dx jn hg TU hni;have lM:=Ih hU.non;have lN:=Ih hU.res;by_cases RG:c=64
 ·have he:e=false:=(HR.out.some (by rw[RG];decide)).1;subst he;have b64:((c.toNat:Int)==64)=true:=ij RG;have H64:=Ih RG;clear RG lM lN;refine pR (fun a' w'=>w=w'/\∃l:List Value,l.length=761/\a'=stL X (nmB .auth) buf a p n i false c nx (Lz.ae x.url.scheme) sl ov l/\l[323]? =some (.bool true)) ?_ ?_
  ·go_wp2_with fail
   exact⟨_,rfl,rfl,rfl⟩
  rintro _ _ ⟨rfl,l,hl,rfl,hv⟩;refine di X _ _ _ _ _ _ _ _ _ _ _ _ l hl (fun f hf=>?_);refine wp_cond_true (hf _ _ hv) ?_;clear hv hl hf;unfold FR;refine pR (fun a' w'=>w=w'/\∃b:ByteArray,Hid (b.data.toList=Lz.B8 a buf.data.toList)/\b.size<=i+3/\∃l:List Value,l.length=761/\a'=stL X (nmB .auth) b a p n i false c nx (Lz.ae x.url.scheme) sl ov l) ?_ ?_
  ·cases a with
   | false=>
     go_wp2_with fail
     exact⟨buf,Ih rfl,by omega,_,rfl,rfl⟩
   | true=>
     have g8:¬(9223372036854775807<3+buf.size):=by omega
     have HB:Hid (((⟨#[37,52,48]⟩:ByteArray)++buf).data.toList=Lz.B8 true buf.data.toList):=Ih (by rw[ai];rfl);have DJ:((⟨#[37,52,48]⟩:ByteArray)++buf).size<=i+3:=by rw[ByteArray.size_append,show(⟨#[37,52,48]⟩:ByteArray).size=3 from rfl];omega
     go_wp2_with fail
     exact⟨_,HB,DJ,_,rfl,rfl⟩
  clear l f;rintro _ _ ⟨rfl,b,hb,DJ,l,hl,rfl⟩;refine di X _ _ _ _ _ _ _ _ _ _ _ _ l hl (fun f hf=>?_);clear hl hf;unfold FR;refine pR (fun a' w'=>w=w'/\∃l:List Value,l.length=761/\a'=stL X (nmB .auth) b true p n i false c nx (Lz.ae x.url.scheme) sl ov l) ?_ ?_
  ·go_wp2_with fail
   exact⟨_,rfl,rfl⟩
  clear l f;rintro _ _ ⟨rfl,l,hl,rfl⟩;refine di X _ _ _ _ _ _ _ _ _ _ _ _ l hl (fun f hf=>?_);clear hl hf;unfold FR;refine pR (fun a' w'=>UE X x b p n i false c nx (Lz.ae x.url.scheme) sl ov 0 a' w') ?_ ?_
  ·refine pR (fun a' w'=>UE X x b p n i false c nx (Lz.ae x.url.scheme) sl ov b.size a' w') ?_ ?_
   ·go_wp2_with fail
    exact⟨0,x.usr,x.pas,p,by omega,hU,Ih ⟨by rw[List.take_zero,Lz.QJ],by rw[List.take_zero,Lz.Rg]⟩,by omega,_,rfl,rfl,rfl⟩
   clear hU l f;intro a1 w1 h1;refine wp_block ?_;refine va (UE X x b p n i false c nx (Lz.ae x.url.scheme) sl ov) b.size h1 ?_;clear h1 a1 w1 w;rintro m _ w ⟨k,y,z,q,Xm,hU,HE,Iw,l,hl,rfl,hv⟩;refine di X _ _ _ _ _ _ _ _ _ _ _ _ l hl (fun f hf=>?_);have h20:f 20=.int .i64 (k:Int):=hf _ _ hv;clear hv hl hf;unfold FR;rw[h20];clear h20;rcases Nat.lt_or_ge k b.size with hk|hk
   ·have TC:(k:Int)<(b.size:Int):=by omega
    have iN:(0:Int)<=(k:Int):=by omega
    have kq:(k:Int)<=(k:Int)+1:=by omega
    have Sm:(k:Int)+1<=(b.size:Int):=by omega
    have wk:IntKind.i64.wrap ((k:Int)+1)=(k:Int)+1:=IntWalk.i64_in _ (by omega);obtain⟨d,hd⟩:∃d,d=b[k]:=⟨_,rfl⟩;have HX:Hid ((b.extract k (k+1)).data.toList=[d]):=Ih (by rw[hd];exact oM b k hk);have HT:Hid (b.data.toList.take (k+1)=b.data.toList.take k++[d]):=Ih (by rw[hd];exact I1 hk);have Xl:(b[k].toNat:Int)=(d.toNat:Int):=by rw[hd]
    have cE:=Ih (eS (b.extract k (k+1)) 5 (by omega) (by rw[iJ HX.out];omega) w);obtain⟨m',rfl⟩:∃m',m=m'+1:=⟨m-1,by omega⟩;have Sf:m'+(k+1)=b.size:=by omega
    clear hd;by_cases iU:d=58
    ·have SP:((d.toNat:Int)==58)=true:=ij iU;have Pk:=Ih iU;clear iU;cases q with
     | true=>
       go_wp2_with fail
       refine cE.out.mono ?_;rintro _ w1 ⟨u,rfl,hu,aC⟩;have ie:=hU.call hX aC;have VI:u.size<=3:=kZ (c:=d) (by rw[hu.out,HX.out]);have HU:Hid (u.data.toList=Lz.ah (Lz.bc 5) [d]):=Ih (by rw[hu.out,HX.out]);clear hu aC cE hU;have g8:¬(9223372036854775807<z.size+u.size):=by omega
       have k2:=ie.cell 2 (.string z) rfl;have z2:=ie.fz 2;have U2:=Ih (ie.setF hX 2 (.string (z++u)) {x with usr:=y,pas:=z++u} rfl rfl rfl)
       have Wq:Hid (MkV.url {x with usr:=y,pas:=z++u}=Lz.exU x.url p (b.data.toList.take (k+1))/\true=Lz.exP p (b.data.toList.take (k+1))):=Ih (by
        obtain⟨h1,h2⟩:=HE.out;have h3:=Lz.Ig (u:=x.url) h2.symm d;rw[HT.out,h3.1,h3.2,<-h1];refine⟨?_,rfl⟩;show{MkV.url {x with usr:=y,pas:=z} with pass:=(z++u).data.toList}=_;rw[ai,HU.out];rfl)
       have Gb:y.size+(z++u).size<=300000+3*(k+1):=by rw[ByteArray.size_append];omega
       clear VI
       go_wp2_with fail
       exact⟨m',by omega,k+1,y,z++u,true,Sf,U2.out,Wq,Gb,_,rfl,rfl,rfl⟩
     | false=>
       go_wp2_with fail
       refine cE.out.mono ?_;rintro _ w1 ⟨u,rfl,hu,aC⟩;have ie:=hU.call hX aC;have VI:u.size<=3:=kZ (c:=d) (by rw[hu.out,HX.out]);have HU:Hid (u.data.toList=Lz.ah (Lz.bc 5) [d]):=Ih (by rw[hu.out,HX.out]);clear hu aC cE hU
       have Wq:Hid (MkV.url {x with usr:=y,pas:=z}=Lz.exU x.url p (b.data.toList.take (k+1))/\true=Lz.exP p (b.data.toList.take (k+1))):=Ih (by
        obtain⟨h1,h2⟩:=HE.out;have h3:=Lz.Oa (u:=x.url) h2.symm;rw[HT.out,Pk.out,h3.1,h3.2];exact⟨h1,rfl⟩)
       have Gb:y.size+z.size<=300000+3*(k+1):=by omega
       clear VI
       go_wp2_with fail
       exact⟨m',by omega,k+1,y,z,true,Sf,ie,Wq,Gb,_,rfl,rfl,rfl⟩
    ·have SP:((d.toNat:Int)==58)=false:=gi iU;have Pk:=Ih iU;clear iU;cases q with
     | true=>
       go_wp2_with fail
       refine cE.out.mono ?_;rintro _ w1 ⟨u,rfl,hu,aC⟩;have ie:=hU.call hX aC;have VI:u.size<=3:=kZ (c:=d) (by rw[hu.out,HX.out]);have HU:Hid (u.data.toList=Lz.ah (Lz.bc 5) [d]):=Ih (by rw[hu.out,HX.out]);clear hu aC cE hU;have g8:¬(9223372036854775807<z.size+u.size):=by omega
       have k2:=ie.cell 2 (.string z) rfl;have z2:=ie.fz 2;have U2:=Ih (ie.setF hX 2 (.string (z++u)) {x with usr:=y,pas:=z++u} rfl rfl rfl)
       have Wq:Hid (MkV.url {x with usr:=y,pas:=z++u}=Lz.exU x.url p (b.data.toList.take (k+1))/\true=Lz.exP p (b.data.toList.take (k+1))):=Ih (by
        obtain⟨h1,h2⟩:=HE.out;have h3:=Lz.Ig (u:=x.url) h2.symm d;rw[HT.out,h3.1,h3.2,<-h1];refine⟨?_,rfl⟩;show{MkV.url {x with usr:=y,pas:=z} with pass:=(z++u).data.toList}=_;rw[ai,HU.out];rfl)
       have Gb:y.size+(z++u).size<=300000+3*(k+1):=by rw[ByteArray.size_append];omega
       clear VI
       go_wp2_with fail
       exact⟨m',by omega,k+1,y,z++u,true,Sf,U2.out,Wq,Gb,_,rfl,rfl,rfl⟩
     | false=>
       go_wp2_with fail
       refine cE.out.mono ?_;rintro _ w1 ⟨u,rfl,hu,aC⟩;have ie:=hU.call hX aC;have VI:u.size<=3:=kZ (c:=d) (by rw[hu.out,HX.out]);have HU:Hid (u.data.toList=Lz.ah (Lz.bc 5) [d]):=Ih (by rw[hu.out,HX.out]);clear hu aC cE hU;have g8:¬(9223372036854775807<y.size+u.size):=by omega
       have k1:=ie.cell 1 (.string y) rfl;have z1:=ie.fz 1;have U1:=Ih (ie.setF hX 1 (.string (y++u)) {x with usr:=y++u,pas:=z} rfl rfl rfl)
       have Wq:Hid (MkV.url {x with usr:=y++u,pas:=z}=Lz.exU x.url p (b.data.toList.take (k+1))/\false=Lz.exP p (b.data.toList.take (k+1))):=Ih (by
        obtain⟨h1,h2⟩:=HE.out;have h3:=Lz.Ro (u:=x.url) h2.symm Pk.out;rw[HT.out,h3.1,h3.2,<-h1];refine⟨?_,rfl⟩;show{MkV.url {x with usr:=y,pas:=z} with user:=(y++u).data.toList}=_;rw[ai,HU.out];rfl)
       have Gb:(y++u).size+z.size<=300000+3*(k+1):=by rw[ByteArray.size_append];omega
       clear VI
       go_wp2_with fail
       exact⟨m',by omega,k+1,y++u,z,false,Sf,U1.out,Wq,Gb,_,rfl,rfl,rfl⟩
   ·have TC:¬((k:Int)<(b.size:Int)):=by omega
    have wV:m=0:=by omega
    subst wV
    go_wp2_with fail
    exact⟨k,y,z,q,Xm,hU,HE,Iw,_,rfl,rfl,rfl⟩
  clear hU l f;rintro _ w1 ⟨k,y,z,q,Xm,hU,HE,Iw,l,hl,rfl,hv⟩;refine di X _ _ _ _ _ _ _ _ _ _ _ _ l hl (fun f hf=>?_)
  have HN:Hid (Lz.aB none X.s.data.toList X.goal .auth i .auth ⟨[],true,q,n,MkV.url {x with usr:=y,pas:=z}⟩ (i:Int)):=Ih (by
   obtain⟨h1,h2⟩:=HE.out;have hk:b.data.toList.take k=b.data.toList:=List.take_of_length_le (by rw[aa];omega);rw[hk,hb.out,(Lz.N5 _ _ _ _).1]at h1;rw[hk,hb.out,(Lz.N5 x.url _ _ _).2]at h2;rw[h1,h2];exact Lz.Kc HI.out HR.out H64.out)
  clear hv hl hf HE Xm Iw hb DJ;unfold FR
  go_wp2_with fail
  exact⟨.auth,_,_,_,_,_,{x with usr:=y,pas:=z},_,_,_,_,_,_,_,rfl,rfl,hU,aM (by nofun),(by nofun),HN.out⟩
 ·have b64:((c.toNat:Int)==64)=false:=gi RG;cases ov with
  | true=>
    have H64:=Ih RG;clear RG;have iW:IntKind.i64.wrap ((i:Int)-(buf.size:Int))=(i:Int)-(buf.size:Int):=IntWalk.i64_in _ (by omega);have oZ:IntKind.i64.wrap ((i:Int)-(buf.size:Int)-1)=(i:Int)-(buf.size:Int)-1:=IntWalk.i64_in _ (by omega)
    have host:¬(a=true/\buf.data.toList=[])->Hid (Lz.aB none X.s.data.toList X.goal .auth i .host ⟨[],a,p,n,x.url⟩ ((i:Int)-(buf.size:Int)-1)):=fun h=>Ih (by
     have:=Lz.AR HI.out HR.out rfl h;simp only[aa]at this;exact this)
    by_cases ek:buf.data.toList=[]
    ·have g0:=aH (k:=[]) ek;have g1:=vv ek;cases a with
     | true=>
       have HG:Hid (X.goal=.er 70):=Ih (Lz.Jh HI.out HR.out rfl rfl ek);clear ek host
       go_wp2_with (first |(refine wpList_load_row rfl 26 (.tmp 7) rfl X.N rfl 26 bC (0,0) _ lM.out Tryz.underlying26 rfl bd ?_)|(refine wpList_store_row rfl 26 (.tmp 4) (.tmp 384) rfl X.B bC rfl rfl 26 bC lN.out bd rfl (by simp[Value.oneCell']) ?_))
       exact⟨70,_,_,_,_,_,HG.out,rfl,rfl,az hU.below (Nat.le_refl _),setRow_heap _ _ _ _ _ _ lN.out⟩
     | false=>
       have HN:=host (by simp);clear ek host
       go_wp2_with fail
       exact⟨.host,_,_,_,_,_,x,_,_,_,_,_,_,_,rfl,rfl,hU,aM (by nofun),(by nofun),HN.out⟩
    ·have g0:=aR (k:=[]) ek;have g1:=mF ek;have HN:=host (fun h=>ek h.2);clear ek host;cases a with
     | true=>
       go_wp2_with fail
       exact⟨.host,_,_,_,_,_,x,_,_,_,_,_,_,_,rfl,rfl,hU,aM (by nofun),(by nofun),HN.out⟩
     | false=>
       go_wp2_with fail
       exact⟨.host,_,_,_,_,_,x,_,_,_,_,_,_,_,rfl,rfl,hU,aM (by nofun),(by nofun),HN.out⟩
  | false=>
    have he:=(HR.out.nover rfl).1;subst he
    (have aN:=(Lz.Rd.no HR.out rfl).1;rw[aa]at aN;have bn:(i:Int)+1<=(X.s.size:Int):=(by omega);have tK:(0:Int)<=(i:Int):=(by omega);have eA:(i:Int)<=(i:Int)+1:=(by omega);have HX:Hid ((X.s.extract i (i+1)).data.toList=[c]):=Ih (gP (Lz.Rd.no HR.out rfl).2.1 aN))
    have o7:(X.s.extract i (i+1)).size=1:=iJ HX.out;have g8:¬(9223372036854775807<buf.size+(min (i+1) X.s.size-i)):=by omega
    have HN:Hid (Lz.aB none X.s.data.toList X.goal .auth i .auth ⟨(buf++X.s.extract i (i+1)).data.toList,a,p,n,x.url⟩ (i:Int)):=Ih (by
     rw[kL HX.out];exact Lz.MW HI.out HR.out rfl RG)
    clear o7 RG
    go_wp2_with fail
    exact⟨.auth,_,_,_,_,_,x,_,_,_,_,_,_,_,rfl,rfl,hU,aM (by nofun),(by nofun),HN.out⟩
end Go.Proofs.YtlcbhacofagedaaGreatDoor
