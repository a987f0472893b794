/-
  lazaretref08.run: authority.
-/
import Derived.Test.YtipndhbgehdeoaaGreatDoorQ39
set_option maxHeartbeats 16000000
set_option maxRecDepth 100000
namespace Go.Proofs.YtipndhbgehdeoaaGreatDoor
open Go.RowKit
theorem exists_least (p:Nat->Prop) (h:∃n,p n):∃n,p n/\∀m,p m->n<=m:=by
 obtain⟨n,hn⟩:=h
 induction n using Nat.strongRecOn with
 | _ n ih=>
   by_cases hm:∃m,m<n/\p m
   ·obtain⟨m,h1,h2⟩:=hm;exact ih m h1 h2
   ·exact⟨n,hn,fun m hp=>Nat.le_of_not_lt (fun h=>hm ⟨m,h,hp⟩)⟩
theorem wp_loop_ex {P:Program} {c:Code} {Q:Exit->Act->World->Prop} {a:Act} {w:World} (J:Nat->Act->World->Prop) (m:Nat) (h0:J m a w)
  (round:∀m a w,J m a w->c.wp P (Exit.then (fun a' w'=>∃m',m'<m/\J m' a' w') Q) a w):(Code.loop c).wp P Q a w:=by
 have least:∀(a:Act) (w:World),(∃n,J n a w)->J (Classical.epsilon (fun n=>J n a w/\∀m,J m a w->n<=m)) a w/\∀m,J m a w->Classical.epsilon (fun n=>J n a w/\∀m,J m a w->n<=m)<=m:=by
  intro a w h;exact Classical.epsilon_spec (exists_least (fun n=>J n a w) h)
 refine wp_loop (fun a w=>∃n,J n a w) (fun a w=>Classical.epsilon (fun n=>J n a w/\∀m,J m a w->n<=m)) ⟨m,h0⟩ ?_;intro a w hI;obtain⟨h1,_⟩:=least a w hI;refine wp_mono (round _ a w h1) ?_;intro e a' w' h;cases e with
 | normal=>
   obtain⟨m',hlt,hJ⟩:=h;obtain⟨_,h2⟩:=least a' w' ⟨m',hJ⟩;exact⟨⟨m',hJ⟩,Nat.lt_of_le_of_lt (h2 m' hJ) hlt⟩
 | exit _=>exact h
 | goto _=>exact h
 | ret=>exact h
 | panic _=>exact h
 | outgrown=>exact h
def AutJ (X:RX) (x:MkV) (b:ByteArray) (p n:Bool) (i:Nat) (e:Bool) (c nx:UInt8) (sp sl ov:Bool) (m:Nat) (a':Act) (w':World):Prop:=
 ∃(k:Nat) (y z:ByteArray) (q:Bool),m+k=b.size/\UAt X w' {x with usr:=y,pas:=z}/\Hid (MkV.url {x with usr:=y,pas:=z}=Lz.exU x.url p (b.data.toList.take k)/\q=Lz.exP p (b.data.toList.take k))/\y.size+z.size<=300000+3*k/\
  ∃l:List Value,l.length=761/\a'=stL X (nmB .auth) b true q n i e c nx sp sl ov l/\l[0]? =some (.int .i64 (k:Int))
theorem take_snoc {b:ByteArray} {k:Nat} (h:k<b.size):b.data.toList.take (k+1)=b.data.toList.take k++[b[k]]:=by
 rw[List.take_succ_eq_append_getElem (by rw[len_of_size];exact h)];rfl
theorem rd_auth:RdOk 9 .auth:=by
 (intro X x buf a p n i e c nx sp sl ov f w hX hU hO hI hsp hR;subst hsp;have hile:=hI.1;have hsz:=hX.size;rw[len_of_size]at hile;have wm:IntKind.i64.wrap ((i:Int)-1)=(i:Int)-1:=IntWalk.i64_in _ (by omega);have wp:IntKind.i64.wrap ((i:Int)+1)=(i:Int)+1:=IntWalk.i64_in _ (by omega);have HI:=Ih hI;have HR:=Ih hR;clear hI hR;unfold FR;conv=>(arg 2;whnf))
 clear hO;obtain⟨_,hea,hni,hbl,hdr,hus,_,_,hg⟩:=HI.out;have hbz:buf.size<=i:=by simpa only[len_of_size]using hbl
 have hus2:x.usr.size+x.pas.size+3*buf.size<=12*i:=by simpa only[MkV.url,len_of_size]using hus
 clear hea hdr hus hg hbl hni;have HN0:=Ih hU.non;have HB0:=Ih hU.res;by_cases h64:c=64
 ·have he:e=false:=(HR.out.some (by rw[h64];decide)).1;subst he;have b64:((c.toNat:Int)==64)=true:=bq_y h64;have H64:=Ih h64;clear h64 HN0 HB0;refine cutR (fun a' w'=>w=w'/\∃l:List Value,l.length=761/\a'=stL X (nmB .auth) buf a p n i false c nx (Lz.specP x.url.scheme) sl ov l/\l[323]? =some (.bool true)) ?_ ?_
  ·go_wp2_with fail
   exact⟨_,rfl,rfl,rfl⟩
  rintro _ _ ⟨rfl,l,hl,rfl,hv⟩;refine reframe X _ _ _ _ _ _ _ _ _ _ _ _ l hl (fun f hf=>?_);refine wp_cond_true (hf _ _ hv) ?_;clear hv hl hf;unfold FR;refine cutR (fun a' w'=>w=w'/\∃b:ByteArray,Hid (b.data.toList=Lz.bufAt a buf.data.toList)/\b.size<=i+3/\∃l:List Value,l.length=761/\a'=stL X (nmB .auth) b a p n i false c nx (Lz.specP x.url.scheme) sl ov l) ?_ ?_
  ·cases a with
   | false=>
     go_wp2_with fail
     exact⟨buf,Ih rfl,by omega,_,rfl,rfl⟩
   | true=>
     have hcat:¬(9223372036854775807<3+buf.size):=by omega
     have HB:Hid (((⟨#[37,52,48]⟩:ByteArray)++buf).data.toList=Lz.bufAt true buf.data.toList):=Ih (by rw[append_data'];rfl);have hbs:((⟨#[37,52,48]⟩:ByteArray)++buf).size<=i+3:=by rw[ByteArray.size_append,show(⟨#[37,52,48]⟩:ByteArray).size=3 from rfl];omega
     go_wp2_with fail
     exact⟨_,HB,hbs,_,rfl,rfl⟩
  clear l f;rintro _ _ ⟨rfl,b,hb,hbs,l,hl,rfl⟩;refine reframe X _ _ _ _ _ _ _ _ _ _ _ _ l hl (fun f hf=>?_);clear hl hf;unfold FR;refine cutR (fun a' w'=>w=w'/\∃l:List Value,l.length=761/\a'=stL X (nmB .auth) b true p n i false c nx (Lz.specP x.url.scheme) sl ov l) ?_ ?_
  ·go_wp2_with fail
   exact⟨_,rfl,rfl⟩
  clear l f;rintro _ _ ⟨rfl,l,hl,rfl⟩;refine reframe X _ _ _ _ _ _ _ _ _ _ _ _ l hl (fun f hf=>?_);clear hl hf;unfold FR;refine cutR (fun a' w'=>AutJ X x b p n i false c nx (Lz.specP x.url.scheme) sl ov 0 a' w') ?_ ?_
  ·refine cutR (fun a' w'=>AutJ X x b p n i false c nx (Lz.specP x.url.scheme) sl ov b.size a' w') ?_ ?_
   ·go_wp2_with fail
    exact⟨0,x.usr,x.pas,p,by omega,hU,Ih ⟨by rw[List.take_zero,Lz.exU_nil],by rw[List.take_zero,Lz.exP_nil]⟩,by omega,_,rfl,rfl,rfl⟩
   clear hU l f;intro a1 w1 h1;refine wp_block ?_;refine wp_loop_ex (AutJ X x b p n i false c nx (Lz.specP x.url.scheme) sl ov) b.size h1 ?_;clear h1 a1 w1 w;rintro m _ w ⟨k,y,z,q,hmk,hU,HE,hyz,l,hl,rfl,hv⟩;refine reframe X _ _ _ _ _ _ _ _ _ _ _ _ l hl (fun f hf=>?_);have h20:f 20=.int .i64 (k:Int):=hf _ _ hv;clear hv hl hf;unfold FR;rw[h20];clear h20;rcases Nat.lt_or_ge k b.size with hk|hk
   ·have hkI:(k:Int)<(b.size:Int):=by omega
    have hk0:(0:Int)<=(k:Int):=by omega
    have hk1:(k:Int)<=(k:Int)+1:=by omega
    have hk2:(k:Int)+1<=(b.size:Int):=by omega
    have wk:IntKind.i64.wrap ((k:Int)+1)=(k:Int)+1:=IntWalk.i64_in _ (by omega);obtain⟨d,hd⟩:∃d,d=b[k]:=⟨_,rfl⟩;have HX:Hid ((b.extract k (k+1)).data.toList=[d]):=Ih (by rw[hd];exact extract_at b k hk);have HT:Hid (b.data.toList.take (k+1)=b.data.toList.take k++[d]):=Ih (by rw[hd];exact take_snoc hk);have hdI:(b[k].toNat:Int)=(d.toNat:Int):=by rw[hd]
    have cE:=Ih (Encode06_any (b.extract k (k+1)) 5 (by omega) (by rw[ext_sz HX.out];omega) w);obtain⟨m',rfl⟩:∃m',m=m'+1:=⟨m-1,by omega⟩;have hmk2:m'+(k+1)=b.size:=by omega
    clear hd;by_cases h58:d=58
    ·have b58:((d.toNat:Int)==58)=true:=bq_y h58;have H58:=Ih h58;clear h58;cases q with
     | true=>
       go_wp2_with fail
       refine cE.out.mono ?_;rintro _ w1 ⟨u,rfl,hu,hb1⟩;have hU1:=hU.call hX hb1;have hu3:u.size<=3:=enc_sz (c:=d) (by rw[hu.out,HX.out]);have HU:Hid (u.data.toList=Lz.encodeP (Lz.setU 5) [d]):=Ih (by rw[hu.out,HX.out]);clear hu hb1 cE hU;have hcat:¬(9223372036854775807<z.size+u.size):=by omega
       have k2:=hU1.cell 2 (.string z) rfl;have z2:=hU1.fz 2;have U2:=Ih (hU1.setF hX 2 (.string (z++u)) {x with usr:=y,pas:=z++u} rfl rfl rfl)
       have HE2:Hid (MkV.url {x with usr:=y,pas:=z++u}=Lz.exU x.url p (b.data.toList.take (k+1))/\true=Lz.exP p (b.data.toList.take (k+1))):=Ih (by
        obtain⟨h1,h2⟩:=HE.out;have h3:=Lz.ex_pass (u:=x.url) h2.symm d;rw[HT.out,h3.1,h3.2,<-h1];refine⟨?_,rfl⟩;show{MkV.url {x with usr:=y,pas:=z} with pass:=(z++u).data.toList}=_;rw[append_data',HU.out];rfl)
       have hyz2:y.size+(z++u).size<=300000+3*(k+1):=by rw[ByteArray.size_append];omega
       clear hu3
       go_wp2_with fail
       exact⟨m',by omega,k+1,y,z++u,true,hmk2,U2.out,HE2,hyz2,_,rfl,rfl,rfl⟩
     | false=>
       go_wp2_with fail
       refine cE.out.mono ?_;rintro _ w1 ⟨u,rfl,hu,hb1⟩;have hU1:=hU.call hX hb1;have hu3:u.size<=3:=enc_sz (c:=d) (by rw[hu.out,HX.out]);have HU:Hid (u.data.toList=Lz.encodeP (Lz.setU 5) [d]):=Ih (by rw[hu.out,HX.out]);clear hu hb1 cE hU
       have HE2:Hid (MkV.url {x with usr:=y,pas:=z}=Lz.exU x.url p (b.data.toList.take (k+1))/\true=Lz.exP p (b.data.toList.take (k+1))):=Ih (by
        obtain⟨h1,h2⟩:=HE.out;have h3:=Lz.ex_colon (u:=x.url) h2.symm;rw[HT.out,H58.out,h3.1,h3.2];exact⟨h1,rfl⟩)
       have hyz2:y.size+z.size<=300000+3*(k+1):=by omega
       clear hu3
       go_wp2_with fail
       exact⟨m',by omega,k+1,y,z,true,hmk2,hU1,HE2,hyz2,_,rfl,rfl,rfl⟩
    ·have b58:((d.toNat:Int)==58)=false:=bq_n h58;have H58:=Ih h58;clear h58;cases q with
     | true=>
       go_wp2_with fail
       refine cE.out.mono ?_;rintro _ w1 ⟨u,rfl,hu,hb1⟩;have hU1:=hU.call hX hb1;have hu3:u.size<=3:=enc_sz (c:=d) (by rw[hu.out,HX.out]);have HU:Hid (u.data.toList=Lz.encodeP (Lz.setU 5) [d]):=Ih (by rw[hu.out,HX.out]);clear hu hb1 cE hU;have hcat:¬(9223372036854775807<z.size+u.size):=by omega
       have k2:=hU1.cell 2 (.string z) rfl;have z2:=hU1.fz 2;have U2:=Ih (hU1.setF hX 2 (.string (z++u)) {x with usr:=y,pas:=z++u} rfl rfl rfl)
       have HE2:Hid (MkV.url {x with usr:=y,pas:=z++u}=Lz.exU x.url p (b.data.toList.take (k+1))/\true=Lz.exP p (b.data.toList.take (k+1))):=Ih (by
        obtain⟨h1,h2⟩:=HE.out;have h3:=Lz.ex_pass (u:=x.url) h2.symm d;rw[HT.out,h3.1,h3.2,<-h1];refine⟨?_,rfl⟩;show{MkV.url {x with usr:=y,pas:=z} with pass:=(z++u).data.toList}=_;rw[append_data',HU.out];rfl)
       have hyz2:y.size+(z++u).size<=300000+3*(k+1):=by rw[ByteArray.size_append];omega
       clear hu3
       go_wp2_with fail
       exact⟨m',by omega,k+1,y,z++u,true,hmk2,U2.out,HE2,hyz2,_,rfl,rfl,rfl⟩
     | false=>
       go_wp2_with fail
       refine cE.out.mono ?_;rintro _ w1 ⟨u,rfl,hu,hb1⟩;have hU1:=hU.call hX hb1;have hu3:u.size<=3:=enc_sz (c:=d) (by rw[hu.out,HX.out]);have HU:Hid (u.data.toList=Lz.encodeP (Lz.setU 5) [d]):=Ih (by rw[hu.out,HX.out]);clear hu hb1 cE hU;have hcat:¬(9223372036854775807<y.size+u.size):=by omega
       have k1:=hU1.cell 1 (.string y) rfl;have z1:=hU1.fz 1;have U1:=Ih (hU1.setF hX 1 (.string (y++u)) {x with usr:=y++u,pas:=z} rfl rfl rfl)
       have HE2:Hid (MkV.url {x with usr:=y++u,pas:=z}=Lz.exU x.url p (b.data.toList.take (k+1))/\false=Lz.exP p (b.data.toList.take (k+1))):=Ih (by
        obtain⟨h1,h2⟩:=HE.out;have h3:=Lz.ex_user (u:=x.url) h2.symm H58.out;rw[HT.out,h3.1,h3.2,<-h1];refine⟨?_,rfl⟩;show{MkV.url {x with usr:=y,pas:=z} with user:=(y++u).data.toList}=_;rw[append_data',HU.out];rfl)
       have hyz2:(y++u).size+z.size<=300000+3*(k+1):=by rw[ByteArray.size_append];omega
       clear hu3
       go_wp2_with fail
       exact⟨m',by omega,k+1,y++u,z,false,hmk2,U1.out,HE2,hyz2,_,rfl,rfl,rfl⟩
   ·have hkI:¬((k:Int)<(b.size:Int)):=by omega
    have hm0:m=0:=by omega
    subst hm0
    go_wp2_with fail
    exact⟨k,y,z,q,hmk,hU,HE,hyz,_,rfl,rfl,rfl⟩
  clear hU l f;rintro _ w1 ⟨k,y,z,q,hmk,hU,HE,hyz,l,hl,rfl,hv⟩;refine reframe X _ _ _ _ _ _ _ _ _ _ _ _ l hl (fun f hf=>?_)
  have HN:Hid (Lz.After X.b X.s.data.toList X.goal .auth i .auth ⟨[],true,q,n,MkV.url {x with usr:=y,pas:=z}⟩ (i:Int)):=Ih (by
   obtain⟨h1,h2⟩:=HE.out;have hk:b.data.toList.take k=b.data.toList:=List.take_of_length_le (by rw[len_of_size];omega);rw[hk,hb.out,(Lz.ext_ex _ _ _ _).1]at h1;rw[hk,hb.out,(Lz.ext_ex x.url _ _ _).2]at h2;rw[h1,h2];exact Lz.w_auth_at HI.out HR.out H64.out)
  clear hv hl hf HE hmk hyz hb hbs;unfold FR
  go_wp2_with fail
  exact⟨.auth,_,_,_,_,_,{x with usr:=y,pas:=z},_,_,_,_,_,_,_,rfl,rfl,hU,opq_no (by nofun),(by nofun),HN.out⟩
 ·have b64:((c.toNat:Int)==64)=false:=bq_n h64;cases ov with
  | true=>
    have H64:=Ih h64;clear h64;have hw1:IntKind.i64.wrap ((i:Int)-(buf.size:Int))=(i:Int)-(buf.size:Int):=IntWalk.i64_in _ (by omega);have hw2:IntKind.i64.wrap ((i:Int)-(buf.size:Int)-1)=(i:Int)-(buf.size:Int)-1:=IntWalk.i64_in _ (by omega)
    have host:¬(a=true/\buf.data.toList=[])->Hid (Lz.After X.b X.s.data.toList X.goal .auth i .host ⟨[],a,p,n,x.url⟩ ((i:Int)-(buf.size:Int)-1)):=fun h=>Ih (by
     have:=Lz.w_auth_host HI.out HR.out rfl h;simp only[len_of_size]at this;exact this)
    by_cases hb0:buf.data.toList=[]
    ·have g0:=text_yes (k:=[]) hb0;have g1:=empty_of hb0;cases a with
     | true=>
       have HG:Hid (X.goal=.er 70):=Ih (Lz.w_auth_er HI.out HR.out rfl rfl hb0);clear hb0 host
       go_wp2_with (first |(refine wpList_load_row rfl 25 (.tmp 7) rfl X.N rfl 25 zeroC (0,0) _ HN0.out Tryz.underlying25 rfl urlSize ?_)|(refine wpList_store_row rfl 25 (.tmp 4) (.tmp 384) rfl X.B zeroC rfl rfl 25 zeroC HB0.out urlSize rfl (by simp[Value.oneCell']) ?_))
       exact⟨70,_,_,_,_,_,HG.out,rfl,rfl,below_setRow hU.below (Nat.le_refl _),setRow_heap _ _ _ _ _ _ HB0.out⟩
     | false=>
       have HN:=host (by simp);clear hb0 host
       go_wp2_with fail
       exact⟨.host,_,_,_,_,_,x,_,_,_,_,_,_,_,rfl,rfl,hU,opq_no (by nofun),(by nofun),HN.out⟩
    ·have g0:=text_no (k:=[]) hb0;have g1:=nonempty_of hb0;have HN:=host (fun h=>hb0 h.2);clear hb0 host;cases a with
     | true=>
       go_wp2_with fail
       exact⟨.host,_,_,_,_,_,x,_,_,_,_,_,_,_,rfl,rfl,hU,opq_no (by nofun),(by nofun),HN.out⟩
     | false=>
       go_wp2_with fail
       exact⟨.host,_,_,_,_,_,x,_,_,_,_,_,_,_,rfl,rfl,hU,opq_no (by nofun),(by nofun),HN.out⟩
  | false=>
    have he:=(HR.out.nover rfl).1;subst he
    (have hlt:=(Lz.Rd.no HR.out rfl).1;rw[len_of_size]at hlt;have hs1:(i:Int)+1<=(X.s.size:Int):=(by omega);have hs0:(0:Int)<=(i:Int):=(by omega);have hs2:(i:Int)<=(i:Int)+1:=(by omega);have HX:Hid ((X.s.extract i (i+1)).data.toList=[c]):=Ih (ext_one (Lz.Rd.no HR.out rfl).2.1 hlt))
    have hxz:(X.s.extract i (i+1)).size=1:=ext_sz HX.out;have hcat:¬(9223372036854775807<buf.size+(min (i+1) X.s.size-i)):=by omega
    have HN:Hid (Lz.After X.b X.s.data.toList X.goal .auth i .auth ⟨(buf++X.s.extract i (i+1)).data.toList,a,p,n,x.url⟩ (i:Int)):=Ih (by
     rw[snoc_data HX.out];exact Lz.w_auth_c HI.out HR.out rfl h64)
    clear hxz h64
    go_wp2_with fail
    exact⟨.auth,_,_,_,_,_,x,_,_,_,_,_,_,_,rfl,rfl,hU,opq_no (by nofun),(by nofun),HN.out⟩
end Go.Proofs.YtipndhbgehdeoaaGreatDoor
