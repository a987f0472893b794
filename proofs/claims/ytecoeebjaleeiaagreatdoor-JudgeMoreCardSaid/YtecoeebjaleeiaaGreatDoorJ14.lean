/-
  Plain laws on what package urls reads: what the parts' lengths are.
-/
import Derived.Test.YtecoeebjaleeiaaGreatDoorJ09
import Derived.Test.YtecoeebjaleeiaaGreatDoorJ13
import Derived.Test.YtecoeebjaleeiaaGreatDoorJ06
set_option maxRecDepth 100000
namespace Lz
open Go
theorem AW:∀c:UInt8,eO.contains c=false->(c<32||126<c)=false->BI c=true/\c≠64/\bz true c=false/\c<127/\c≠58/\c≠91/\c≠93/\c≠124:=aJ (by decide +kernel)
theorem OL:∀c:UInt8,qI c=true->BI c=true/\c≠64/\bz true c=false/\c<127/\c≠93:=aJ (by decide +kernel)
theorem MG {h:Bs} (hc:∀c∈h,c≠58/\c≠124):bL h=false:=by
 match h,hc with
 | [],_=>rfl
 | [_],_=>rfl
 | [a,b],hc=>
   obtain⟨h1,h2⟩:=hc b (by simp);show(bG a&&(b==58||b==124))=false;have e1:(b==58)=false:=by rw[beq_eq_false_iff_ne];exact h1
   have e2:(b==124)=false:=by rw[beq_eq_false_iff_ne];exact h2
   rw[e1,e2];simp
 | _::_::_::_,_=>rfl
theorem Le (a:List Nat):∀c∈fv a,qI c=true\/c=58:=by
 have ht:∀l:List Nat,∀c∈cl l,qI c=true\/c=58:=by
  intro l c hc;unfold cl at hc;rcases sB hc with h|⟨x,hx,h⟩
  ·exact Or.inr (List.mem_singleton.1 h)
  ·obtain⟨n,_,rfl⟩:=List.mem_map.1 hx;exact Or.inl (xx n c h)
 intro c hc;unfold fv at hc;split at hc
 ·exact ht _ c hc
 ·rcases List.mem_append.1 hc with hc|hc
  ·rcases List.mem_append.1 hc with hc|hc
   ·exact ht _ c hc
   ·right;simpa using hc
  ·exact ht _ c hc
theorem DY {sp:Bool} {h:Bs} (ha:aN h sp=.ok h) (hc:∀c∈h,eO.contains c=false/\(c<32||126<c)=false):pU sp h/\bL h=false:=by
 refine⟨⟨ha,fun c gL=>?_,Or.inl fun c gL=>?_⟩,MG fun c gL=>?_⟩
 ·obtain⟨h1,h2,h3,h4,_⟩:=AW c (hc c gL).1 (hc c gL).2;exact⟨h1,h2,h3,h4⟩
 ·obtain⟨_,_,_,_,h5,h6,h7,_⟩:=AW c (hc c gL).1 (hc c gL).2;exact⟨h5,h6,h7⟩
 ·obtain⟨_,_,_,_,h5,_,_,h8⟩:=AW c (hc c gL).1 (hc c gL).2;exact⟨h5,h8⟩
theorem FX {s h:Bs} {sp:Bool} (e:aN s sp=.ok h):pU sp h/\bL h=false/\(h=[]->s=[])/\(sp=true->h≠[]):=by
 have hag:aN h sp=.ok h:=by
  cases sp
  ·exact tw e
  ·exact(j5 e).1
 have ed:sp=true->h≠[]:=by
  rintro rfl;exact(j5 e).2.2
 unfold aN at e;split at e
 ·split at e
  ·cases e
  ·cases ha:kD ((s.drop 1).dropLast)with
   | none=>rw[ha]at e;cases e
   | some a=>
     rw[ha]at e;have e:([91]++fv a++[93]:Bs)=h:=by simpa [ofO]using e
     have hx:∀c∈fv a,c≠93/\BI c=true/\c≠64/\bz true c=false/\c<127:=by
      intro c hc;rcases Le a c hc with h|rfl
      ·obtain⟨h1,h2,h3,h4,h5⟩:=OL c h;exact⟨h5,h1,h2,h3,h4⟩
      ·decide
     subst e;refine⟨⟨hag,?_,Or.inr ⟨fv a,by simp,fun hc=>(hx 93 hc).1 rfl⟩⟩,?_,fun h=>by simp at h,ed⟩
     ·intro c hc;rcases List.mem_append.1 hc with hc|hc
      ·rcases List.mem_append.1 hc with hc|hc
       ·rw[List.mem_singleton.1 hc];decide
       ·exact(hx c hc).2
      ·rw[List.mem_singleton.1 hc];decide
     ·cases ht:fv a with
      | nil=>rfl
      | cons b r=>cases r<;>rfl
 ·split at e
  ·have hd:=N6 e
   have:=DY (sp:=sp) hag (fun c hc=>by
    have ho:=rj c (tm hd.2.1 c hc);exact⟨ho.2.2.1,ho.2.2.2⟩)
   exact⟨this.1,this.2,fun h=>absurd h hd.1,ed⟩
  ·split at e
   ·cases e
   ·rename_i hb;have Pt:s.any eO.contains=false:=by simpa using hb
    have e:aj [] s=h:=by injection e
    subst e;have:=DY (sp:=sp) hag (MX Pt);refine⟨this.1,this.2,fun h=>?_,ed⟩;cases s with
    | nil=>rfl
    | cons c r=>
      exfalso
      unfold aj at h;rw[List.flatMap_cons]at h;have:=(List.append_eq_nil_iff.1 h).1;split at this<;>cases this
theorem J1 {sp:Bool} {k:Nat} {s:Bs} (h:∀c∈s,bz sp c=false):∀c∈aj (cm k) s,bz sp c=false:=by
 have hd:∀d:Fin 16,bz true (dP d.val)=false:=by decide +kernel
 intro c hc;unfold aj at hc;obtain⟨x,hx,hc⟩:=List.mem_flatMap.1 hc;split at hc
 ·simp only[List.mem_cons,List.not_mem_nil,or_false]at hc;rcases hc with rfl|rfl|rfl
  ·cases sp<;>rfl
  ·exact sZ (hd ⟨x.toNat / 16,by have:=x.toNat_lt;omega⟩)
  ·exact sZ (hd ⟨x.toNat%16,Nat.mod_lt _ (by omega)⟩)
 ·rw[List.mem_singleton.1 hc];exact h x hx
def eJ (scheme:Bs) (sp:Bool) (l:List Bs):Prop:=(∀p∈l,AV sp p)/\(scheme=bM->∀p,l.head? =some p->bL p=true->p.take 1++[58]=p)
theorem pj (scheme:Bs) (sp:Bool):eJ scheme sp []:=⟨(by intro p hp;cases hp),(by intro _ p hp;cases hp)⟩
theorem FK (sp:Bool):AV sp []:=⟨rfl,by decide +kernel,fun c hc=>by cases hc⟩
theorem qB {scheme:Bs} {sp:Bool} {l:List Bs} {p:Bs} (h:eJ scheme sp l) (hp:AV sp p) (hd:scheme=bM->l=[]->bL p=true->p.take 1++[58]=p):eJ scheme sp (l++[p]):=by
 refine⟨fun q hq=>?_,fun hf q hq SN=>?_⟩
 ·rcases List.mem_append.1 hq with hq|hq
  ·exact h.1 q hq
  ·rw[List.mem_singleton.1 hq];exact hp
 ·cases l with
  | nil=>
    have:p=q:=by simpa using hq
    subst this;exact hd hf rfl SN
  | cons a r=>
    have:a=q:=by simpa using hq
    subst this;exact h.2 hf a rfl SN
theorem lH {scheme:Bs} {sp:Bool} {l:List Bs} (h:eJ scheme sp l):eJ scheme sp (bu scheme l):=by
 unfold bu;split
 ·exact h
 ·refine⟨fun p hp=>h.1 p ((List.dropLast_sublist l).subset hp),fun hf p hp hd=>?_⟩;cases l with
  | nil=>cases hp
  | cons a r=>
    cases r with
    | nil=>cases hp
    | cons b t=>
      have:a=p:=by simpa using hp
      subst this;exact h.2 hf a rfl hd
theorem DR:∀a:UInt8,bG a=true->okE (cm 4) a=true/\eR [a,58]=0/\bz true a=false:=aJ (by decide +kernel)
theorem Dq (scheme:Bs) (sp:Bool):∀(ps jS:List Bs),eJ scheme sp jS->(∀p∈ps,∀c∈p,bz sp c=false)->eJ scheme sp (onL scheme jS ps)
 | [],jS,h,_=>h
 | p::r,jS,h,hs=>by
   have ih:=fun jS ha=>Dq scheme sp r jS ha (fun q hq=>hs q (List.mem_cons_of_mem _ hq));have zr:=J1 (k:=4) (hs p (by simp));have nV:=is 4 (by omega) p;rw[onL]
   try simp only
   generalize aj (cm 4) p=q at zr nV;have qT:∀a,eJ scheme sp a->eJ scheme sp (a++[[]]):=fun a ha=>qB ha (FK sp) (fun _ _ hd=>by cases hd);split
   ·apply ih
    split
    ·exact qT _ (lH h)
    ·exact lH h
   ·rename_i h2;split
    ·apply ih
     split
     ·exact qT _ h
     ·exact h
    ·rename_i h1
     apply ih
     have h0:eR q=0:=by
      unfold eR at h1 h2⊢;split at h1
      ·exact absurd rfl h1
      ·rename_i hn;rw[if_neg hn]at h2⊢;split at h2
       ·exact absurd rfl h2
       ·rename_i pZ;rw[if_neg pZ]
     split
     ·rename_i hh;obtain⟨hf,ha,hd⟩:=hh
      match q,hd with
      | [a,b],hd=>
        unfold bL at hd;rw[Bool.and_eq_true]at hd;obtain⟨d1,d2,d3⟩:=DR a hd.1;refine qB h ⟨?_,d2,?_⟩ (fun _ _ _=>rfl)
        ·show(okE (cm 4) a&&(okE (cm 4) 58&&true))=true;rw[d1];rfl
        ·intro c hc;rcases List.mem_cons.1 hc with rfl|hc
         ·exact sZ d3
         ·rw[List.mem_singleton.1 hc];cases sp<;>rfl
     ·rename_i hh;exact qB h ⟨nV,h0,zr⟩ (fun hf ha hd=>absurd ⟨hf,ha,hd⟩ hh)
theorem Mx (scheme:Bs):∀(ps jS:List Bs),ps≠[]->onL scheme jS ps≠[]
 | [],_,h=>absurd rfl h
 | p::r,jS,_=>by
   by_cases hr:r=[]
   ·subst hr;simp only[onL];split
    ·simp
    ·split
     ·simp
     ·simp
   ·have ih:=fun jS=>Mx scheme r jS hr;rw[onL]
    try simp only
    split
    ·exact ih _
    ·split
     ·exact ih _
     ·exact ih _
theorem wn {sp:Bool}:∀(s:Bs),∀p∈fP sp s,∀c∈p,bz sp c=false
 | [],p,hp,c,hc=>by
   rw[fP]at hp;rw[List.mem_singleton.1 hp]at hc;cases hc
 | a::r,p,hp,c,hc=>by
   have ih:=wn (sp:=sp) r;rw[fP]at hp;cases ha:bz sp a with
   | true=>
     rw[ha,if_pos rfl]at hp;rcases List.mem_cons.1 hp with rfl|hp
     ·cases hc
     ·exact ih p hp c hc
   | false=>
     rw[ha]at hp;simp only[Bool.false_eq_true,if_false]at hp;cases he:fP sp r with
     | nil=>
       rw[he]at hp;rw[List.mem_singleton.1 hp]at hc;rw[List.mem_singleton.1 hc];exact ha
     | cons x t=>
       rw[he]at hp;rcases List.mem_cons.1 hp with rfl|hp
       ·rcases List.mem_cons.1 hc with rfl|hc
        ·exact ha
        ·exact ih x (by rw[he];simp) c hc
       ·exact ih p (by rw[he];exact List.mem_cons_of_mem _ hp) c hc
theorem sC {sp:Bool} (s:Bs):fP sp s≠[]:=by
 cases s with
 | nil=>simp[fP]
 | cons a r=>
   rw[fP];split
   ·simp
   ·split<;>simp
theorem gZ {r:UR} {f:ag->UR} {v:ag} (h:r.bind f=.ok v):∃u,r=.ok u/\f u=.ok v:=by
 cases r with
 | ok u=>exact⟨u,rfl,h⟩
 | er n=>cases h
def Dy (s:Bs) (p:Int):Prop:=p= -1\/∃n:Nat,p=n/\n<=65535/\(n:Int)≠gI s
theorem ER {u v:ag} {s:Bs} (e:ey u s=.ok v) (hu:u.port= -1):∃p,v={u with port:=p}/\Dy u.scheme p/\(s=[]->p= -1):=by
 unfold ey at e;cases hn:lx 0 s with
 | none=>rw[hn]at e;cases e
 | some n=>
   rw[hn]at e;simp only at e;split at e
   ·cases e
   ·rename_i h6;split at e
    ·rename_i hh;injection e with e
     exact⟨n,e.symm,Or.inr ⟨n,rfl,by omega,hh.2⟩,fun h=>absurd h hh.1⟩
    ·injection e with e
     refine⟨-1,?_,Or.inl rfl,fun _=>rfl⟩;rw[<-e,<-hu]
theorem lg {u v:ag} {s:Bs} (e:eI u s=.ok v):∃h,v={u with host:=h,hasHost:=true}/\aN s (ai u.scheme)=.ok h:=by
 unfold eI at e;cases hp:aN s (ai u.scheme)with
 | er n=>rw[hp]at e;cases e
 | ok h=>
   rw[hp]at e;injection e with e
   exact⟨h,e.symm,rfl⟩
theorem pi {u v:ag} {a:Bs} (e:eZ u a=.ok v) (hu:u.port= -1):
  ∃h p,v={u with host:=h,hasHost:=true,port:=p}/\pU (ai u.scheme) h/\bL h=false/\Dy u.scheme p/\(ai u.scheme=true->h≠[])/\(h=[]->a=[]/\p= -1):=by
 unfold eZ at e;cases hc:ep false a with
 | some i=>
   rw[hc]at e;simp only at e;split at e
   ·cases e
   ·rename_i ed;obtain⟨w,hw,e⟩:=gZ e;obtain⟨h,rfl,hh⟩:=lg hw;obtain⟨p,rfl,hp,_⟩:=ER e hu;obtain⟨n1,n2,n3,n4⟩:=FX hh;exact⟨h,p,rfl,n1,n2,hp,n4,fun h0=>absurd (n3 h0) ed⟩
 | none=>
   rw[hc]at e;simp only at e;split at e
   ·cases e
   ·obtain⟨w,hw,e⟩:=gZ e;obtain⟨h,rfl,hh⟩:=lg hw;obtain⟨p,rfl,hp,yz⟩:=ER e hu;obtain⟨n1,n2,n3,n4⟩:=FX hh;exact⟨h,p,rfl,n1,n2,hp,n4,fun h0=>⟨n3 h0,yz rfl⟩⟩
theorem xF {u v:ag} {a:Bs} (e:jj u a=.ok v) (hu:u.port= -1) (jR:u.user=[]) (qM:u.pass=[]):
  ∃us pa h p,v={u with user:=us,pass:=pa,host:=h,hasHost:=true,port:=p}/\us.all (okE (cm 5))=true/\pa.all (okE (cm 5))=true/\pU (ai u.scheme) h/\bL h=false/\Dy u.scheme p/\(ai u.scheme=true->h≠[])/\(h=[]->us=[]/\pa=[]/\p= -1):=by
 unfold jj at e;cases hl:eQ a with
 | some xy=>
   obtain⟨x,y⟩:=xy;rw[hl]at e;simp only at e;split at e
   ·cases e
   ·rename_i hy;obtain⟨h,p,rfl,n1,n2,n3,n4,n5⟩:=pi e (show(CG u x).port= -1 from hu);exact⟨_,_,h,p,rfl,is 5 (by omega) _,is 5 (by omega) _,n1,n2,n3,n4,fun h0=>absurd (n5 h0).1 hy⟩
 | none=>
   rw[hl]at e;obtain⟨h,p,rfl,n1,n2,n3,n4,n5⟩:=pi e hu;refine⟨[],[],h,p,?_,rfl,rfl,n1,n2,n3,n4,fun h0=>⟨rfl,rfl,(n5 h0).2⟩⟩;exact rE rfl jR qM rfl rfl rfl rfl rfl rfl rfl rfl rfl
def J5 (s:Bs):Prop:=s≠[]/\(∀c,s.head? =some c->bG c=true)/\s.all dM=true/\low s=s
theorem oo {u:ag} {t:Bs} (h:eJ u.scheme (ai u.scheme) u.path):eJ u.scheme (ai u.scheme) (onP u t).path/\(onP u t).path≠[]:=
 ⟨Dq u.scheme (ai u.scheme) _ _ h (wn t),Mx u.scheme _ _ (sC t)⟩
theorem rP {u v:ag} {r:Bs} (e:bT u r=.ok v) (hs:J5 u.scheme) (hf:u.scheme≠bM) (hu:u.port= -1) (jR:u.user=[]) (qM:u.pass=[]) (ho:u.opq=false) (hp:u.path=[]):
  MU v/\v.scheme=u.scheme/\v.hasQuery=u.hasQuery/\v.query=u.query/\v.hasFragment=u.hasFragment/\v.fragment=u.fragment:=by
 unfold bT at e;obtain⟨w,hw,e⟩:=gZ e;obtain⟨us,pa,h,p,rfl,n1,n2,n3,n4,n5,n6,n7⟩:=xF hw hu jR qM;injection e with e
 have hpn:eJ u.scheme (ai u.scheme) u.path:=by rw[hp];exact pj _ _
 have key:∀(path:List Bs),eJ u.scheme (ai u.scheme) path->(ai u.scheme=true->path≠[])->
   MU {u with user:=us,pass:=pa,host:=h,hasHost:=true,port:=p,path:=path}:=by
  intro path Up gT
  exact{
   s1:=hs.1,s2:=hs.2.1,s3:=hs.2.2.1,s4:=hs.2.2.2,user:=n1,pass:=n2
   special:=fun hq=>⟨rfl,ho,gT hq⟩
   bare:=fun hh=>by cases hh
   opaqueN:=fun hq=>by rw[show u.opq=false from ho]at hq;cases hq
   path:=fun _=>⟨Up.1,fun hh=>by cases hh⟩
   drive:=Up.2
   host:=fun _=>Or.inl n3
   empty:=n7
   needed:=fun hq _=>n6 hq
   file:=fun hq=>absurd hq hf
   port:=n5}
 split at e
 ·rename_i hc;rw[<-e];have Ui:=oo (u:={u with user:=us,pass:=pa,host:=h,hasHost:=true,port:=p}) (t:=(dI (ai u.scheme) r).2.1) hpn;exact⟨key _ Ui.1 (fun _=>Ui.2),rfl,rfl,rfl,rfl,rfl⟩
 ·rename_i hc;rw[<-e];refine⟨key u.path hpn (fun hq=>?_),rfl,rfl,rfl,rfl,rfl⟩
  exfalso
  apply hc
  show((dI (ai u.scheme) r).2.2||ai u.scheme)=true;rw[hq,Bool.or_true]
theorem zJ {u b:ag} (hb:MU b) (hs:u.scheme=b.scheme) (hf:u.scheme≠bM) (ho:u.opq=false) {path:List Bs} (hp:eJ u.scheme (ai u.scheme) path) (ed:(ai u.scheme=true\/b.hasHost=false)->path≠[]) (q:Bs) (hq:Bool):
  MU {u with user:=b.user,pass:=b.pass,hasHost:=b.hasHost,host:=b.host,port:=b.port,path:=path,query:=q,hasQuery:=hq}:=by
 exact{
  s1:=by show u.scheme≠[];rw[hs];exact hb.s1
  s2:=by show ∀c,u.scheme.head? =some c->_;rw[hs];exact hb.s2
  s3:=by show u.scheme.all dM=true;rw[hs];exact hb.s3
  s4:=by show low u.scheme=u.scheme;rw[hs];exact hb.s4
  user:=hb.user
  pass:=hb.pass
  special:=fun h=>⟨by have:=(hb.special (by rw[<-hs];exact h)).1;exact this,ho,ed (Or.inl h)⟩
  bare:=hb.bare
  opaqueN:=fun h=>by rw[show u.opq=false from ho]at h;cases h
  path:=fun _=>⟨hp.1,fun hh=>ed (Or.inr hh)⟩
  drive:=hp.2
  host:=fun h=>by show pU (ai u.scheme) b.host\/(u.scheme=bM/\b.host=[]);rw[hs];exact hb.host h
  empty:=hb.empty
  needed:=fun h _=>by show b.host≠[];exact hb.needed (by rw[<-hs];exact h) (by rw[<-hs];exact hf)
  file:=fun h=>absurd h hf
  port:=by show Dy u.scheme b.port;rw[hs];exact hb.port}
theorem ED {u b:ag} (hb:MU b) (hs:u.scheme=b.scheme) (hbo:b.opq=false):eJ u.scheme (ai u.scheme) b.path/\((ai u.scheme=true\/b.hasHost=false)->b.path≠[]):=by
 rw[hs];refine⟨⟨(hb.path hbo).1,hb.drive⟩,fun h=>?_⟩;rcases h with h|h
 ·exact(hb.special h).2.2
 ·exact(hb.path hbo).2 h
structure nM (u:ag):Prop where
 user:u.user=[]
 pass:u.pass=[]
 hasHost:u.hasHost=false
 host:u.host=[]
 port:u.port= -1
 opq:u.opq=false
 path:u.path=[]
def QN (u:ag):Prop:=u.hasQuery=false->u.query=[]
theorem Gz {u b w:ag} (r:Bs) (hw:w.scheme=u.scheme/\w.user=b.user/\w.pass=b.pass/\w.hasHost=b.hasHost/\w.host=b.host/\w.port=b.port/\w.opq=u.opq/\w.hasQuery=u.hasQuery/\w.query=u.query/\w.hasFragment=u.hasFragment/\w.fragment=u.fragment) (hp:eJ u.scheme (ai u.scheme) b.path) (ed:(ai u.scheme=true\/b.hasHost=false)->b.path≠[]) (hq:QN u) (nW:QN b):
  ∃path q Xu,ek w b r={u with user:=b.user,pass:=b.pass,hasHost:=b.hasHost,host:=b.host,port:=b.port,path:=path,query:=q,hasQuery:=Xu}/\eJ u.scheme (ai u.scheme) path/\((ai u.scheme=true\/b.hasHost=false)->path≠[])/\(Xu=false->q=[]):=by
 obtain⟨w1,w2,w3,w4,w5,w6,w7,w8,w9,Sf,Ly⟩:=hw;unfold ek;by_cases hr:r=[]
 ·rw[if_neg (fun h=>h hr)];cases hx:w.hasQuery
  ·rw[if_neg (by decide)];exact⟨b.path,b.query,b.hasQuery,rE w1 w2 w3 w4 w5 w6 w7 rfl rfl Sf rfl Ly,hp,ed,nW⟩
  ·rw[if_pos rfl];exact⟨b.path,u.query,u.hasQuery,rE w1 w2 w3 w4 w5 w6 w7 rfl (hx.symm.trans w8) Sf w9 Ly,hp,ed,hq⟩
 ·rw[if_pos hr];have hp':eJ w.scheme (ai w.scheme) (bu w.scheme b.path):=by rw[w1];exact lH hp
  obtain⟨h1,h2⟩:=oo (u:={w with path:=bu w.scheme b.path}) (t:=r) hp';have h1:eJ w.scheme (ai w.scheme) (onP {w with path:=bu w.scheme b.path} r).path:=h1;rw[w1]at h1;exact⟨(onP {w with path:=bu w.scheme b.path} r).path,u.query,u.hasQuery,rE w1 w2 w3 w4 w5 w6 w7 rfl w8 Sf w9 Ly,by rw[w1];exact h1,fun _=>h2,hq⟩
theorem zX {u b v:ag} {r:Bs} (e:mj u b r=.ok v) (hb:MU b) (hs:u.scheme=b.scheme) (hf:u.scheme≠bM) (hu:nM u) (hbo:b.opq=false) (hq:QN u) (nW:QN b):
  MU v/\QN v/\v.hasFragment=u.hasFragment/\v.fragment=u.fragment:=by
 have xZ:J5 u.scheme:=by rw[hs];exact⟨hb.s1,hb.s2,hb.s3,hb.s4⟩
 obtain⟨hpn,abY⟩:=ED hb hs hbo;unfold mj at e;simp only at e;split at e
 ·obtain⟨h1,h2,h3,h4,h5,h6⟩:=rP e xZ hf hu.port hu.user hu.pass hu.opq hu.path;exact⟨h1,fun h=>by rw[h4];exact hq (h3▸h),h5,h6⟩
 ·split at e
  ·injection e with e
   have yz:eJ (jh u b).scheme (ai (jh u b).scheme) (jh u b).path:=by
    show eJ u.scheme (ai u.scheme) u.path;rw[hu.path];exact pj _ _
   obtain⟨h1,h2⟩:=oo (u:=jh u b) (t:=r.drop 1) yz;have hm:=zJ hb hs hf hu.opq (path:=(onP (jh u b) (r.drop 1)).path) h1 (fun _=>h2) u.query u.hasQuery;rw[<-e];exact⟨hm,hq,rfl,rfl⟩
  ·injection e with e
   obtain⟨path,q,Xu,he,p1,p2,p3⟩:=Gz (u:=u) (b:=b) (w:=jh u b) r ⟨rfl,rfl,rfl,rfl,rfl,rfl,rfl,rfl,rfl,rfl,rfl⟩ hpn abY hq nW;rw[<-e,he];exact⟨zJ hb hs hf hu.opq p1 p2 q Xu,p3,rfl,rfl⟩
theorem tE {u:ag} (hf:u.scheme=bM) (hu:nM u) {host:Bs} {path:List Bs} (hN:pU true host\/host=[]) (hl:host≠iI) (hd:bL host=false) (hp:eJ u.scheme (ai u.scheme) path) (ed:path≠[]) (q:Bs) (hq:Bool):
  MU {u with hasHost:=true,host:=host,path:=path,query:=q,hasQuery:=hq}:=by
 have gT:ai u.scheme=true:=by rw[hf];rfl
 exact{
  s1:=by show u.scheme≠[];rw[hf];decide
  s2:=by show ∀c,u.scheme.head? =some c->_;rw[hf];intro c hc;cases hc;rfl
  s3:=by show u.scheme.all dM=true;rw[hf];decide
  s4:=by show low u.scheme=u.scheme;rw[hf];decide
  user:=by show u.user.all _=true;rw[hu.user];rfl
  pass:=by show u.pass.all _=true;rw[hu.pass];rfl
  special:=fun _=>⟨rfl,hu.opq,ed⟩
  bare:=fun h=>by cases h
  opaqueN:=fun h=>by rw[show u.opq=false from hu.opq]at h;cases h
  path:=fun _=>⟨hp.1,fun _=>ed⟩
  drive:=hp.2
  host:=fun _=>by
   show pU (ai u.scheme) host\/(u.scheme=bM/\host=[]);rw[gT];rcases hN with h|h
   ·exact Or.inl h
   ·exact Or.inr ⟨hf,h⟩
  empty:=fun _=>⟨hu.user,hu.pass,hu.port⟩
  needed:=fun _ h=>absurd hf h
  file:=fun _=>⟨hu.user,hu.pass,hu.port,hl,hd⟩
  port:=Or.inl hu.port}
theorem iN:([]:Bs)≠iI/\bL []=false:=⟨by decide,rfl⟩
theorem uF {u v:ag} {b:Option ag} {r:Bs} (e:em u b r=.ok v) (hf:u.scheme=bM) (hu:nM u) (hb:∀x,b=some x->MU x/\QN x) (hq:QN u):
  MU v/\QN v/\v.hasFragment=u.hasFragment/\v.fragment=u.fragment:=by
 have gT:ai u.scheme=true:=by rw[hf];rfl
 have yz:eJ u.scheme (ai u.scheme) u.path:=by rw[hu.path];exact pj _ _
 have lp:∀(w:ag) (t host:Bs),w.scheme=u.scheme->w.user=u.user->w.pass=u.pass->w.hasHost=true->w.host=host->w.port=u.port->w.opq=u.opq->eJ u.scheme (ai u.scheme) w.path->w.hasQuery=u.hasQuery->w.query=u.query->w.hasFragment=u.hasFragment->w.fragment=u.fragment->(pU true host\/host=[])->host≠iI->bL host=false->
   MU (onP w t)/\QN (onP w t)/\(onP w t).hasFragment=u.hasFragment/\(onP w t).fragment=u.fragment:=by
  intro w t host w1 w2 w3 w4 w5 w6 w7 w8 w9 Sf Ly VG hN hl hd;have XP:eJ w.scheme (ai w.scheme) w.path:=by rw[w1];exact w8
  obtain⟨h1,h2⟩:=oo (u:=w) (t:=t) XP;rw[w1]at h1;have hm:=tE hf hu hN hl hd (path:=(onP w t).path) h1 h2 u.query u.hasQuery;have he:onP w t={u with hasHost:=true,host:=host,path:=(onP w t).path,query:=u.query,hasQuery:=u.hasQuery}:=rE w1 w2 w3 w4 w5 w6 w7 rfl w9 Ly Sf VG;rw[he];exact⟨hm,hq,rfl,rfl⟩
 unfold em at e;simp only at e;split at e
 ·split at e
  ·injection e with e
   rw[<-e];exact lp _ _ [] rfl rfl rfl rfl hu.host rfl rfl yz rfl rfl rfl rfl (Or.inr rfl) iN.1 iN.2
  ·rename_i zu;have ac8:bL (dI true (r.drop 2)).1=false:=by simpa using zu
   obtain⟨w,hw,e⟩:=gZ e;injection e with e
   rw[<-e];split at hw
   ·injection hw with hw
    have hh:w.host=[]:=by rw[<-hw];exact hu.host
    rw[if_neg (by rw[hh];decide),<-hw];exact lp _ _ [] rfl rfl rfl rfl hu.host rfl rfl yz rfl rfl rfl rfl (Or.inr rfl) iN.1 iN.2
   ·obtain⟨h,rfl,hh⟩:=lg hw;have hh:aN (dI true (r.drop 2)).1 (ai u.scheme)=.ok h:=hh;rw[gT]at hh;obtain⟨n1,n2,_,_⟩:=FX hh;split
    ·exact lp _ _ [] rfl rfl rfl rfl rfl rfl rfl yz rfl rfl rfl rfl (Or.inr rfl) iN.1 iN.2
    ·rename_i hl;exact lp _ _ h rfl rfl rfl rfl rfl rfl rfl yz rfl rfl rfl rfl (Or.inl n1) hl n2
 ·have fA:∀x,b=some x->x.scheme=bM->(pU true x.host\/x.host=[])/\x.host≠iI/\bL x.host=false/\eJ u.scheme (ai u.scheme) x.path/\x.path≠[]/\QN x:=by
   intro x hx O2;obtain⟨hm,Iz⟩:=hb x hx;have hs:ai x.scheme=true:=by rw[O2];rfl
   obtain⟨s1,s2,s3⟩:=hm.special hs;obtain⟨_,_,_,f4,f5⟩:=hm.file O2;refine⟨?_,f4,f5,?_,s3,Iz⟩
   ·rcases hm.host s1 with h|⟨_,h⟩
    ·rw[hs]at h;exact Or.inl h
    ·exact Or.inr h
   ·have:=ED (u:=u) hm (hf.trans O2.symm) s2;exact this.1
  split at e
  ·injection e with e
   rw[<-e];cases b with
   | none=>exact lp _ _ [] rfl rfl rfl rfl hu.host rfl rfl yz rfl rfl rfl rfl (Or.inr rfl) iN.1 iN.2
   | some x=>
     simp only;split
     ·rename_i O2;obtain⟨b1,b2,b3,b4,b5,b6⟩:=fA x rfl O2;split
      ·have hpt:eJ u.scheme (ai u.scheme) (x.path.take 1):=by
        refine⟨fun p hp=>b4.1 p (List.mem_of_mem_take hp),fun hfs p hp hd=>?_⟩;refine b4.2 hfs p ?_ hd;cases hx:x.path with
        | nil=>rw[hx]at hp;cases hp
        | cons a t=>rw[hx]at hp;exact hp
       exact lp _ _ x.host rfl rfl rfl rfl rfl rfl rfl hpt rfl rfl rfl rfl b1 b2 b3
      ·exact lp _ _ x.host rfl rfl rfl rfl rfl rfl rfl yz rfl rfl rfl rfl b1 b2 b3
     ·exact lp _ _ [] rfl rfl rfl rfl hu.host rfl rfl yz rfl rfl rfl rfl (Or.inr rfl) iN.1 iN.2
  ·cases b with
   | none=>
     injection e with e
     rw[<-e];exact lp _ _ [] rfl rfl rfl rfl hu.host rfl rfl yz rfl rfl rfl rfl (Or.inr rfl) iN.1 iN.2
   | some x=>
     simp only at e;split at e
     ·rename_i O2;obtain⟨b1,b2,b3,b4,b5,b6⟩:=fA x rfl O2;split at e
      ·injection e with e
       rw[<-e];exact lp _ _ x.host rfl rfl rfl rfl rfl rfl rfl yz rfl rfl rfl rfl b1 b2 b3
      ·injection e with e
       rw[<-e];unfold ek;by_cases hr:r=[]
       ·rw[if_neg (fun h=>h hr)];cases hx:u.hasQuery
        ·rw[if_neg (show ¬((false:Bool)=true) by decide)];exact⟨tE hf hu b1 b2 b3 b4 b5 x.query x.hasQuery,b6,rfl,rfl⟩
        ·rw[if_pos rfl];have hm:=tE hf hu b1 b2 b3 b4 b5 u.query true;exact⟨hm,(fun h=>by cases h),rfl,rfl⟩
       ·rw[if_pos hr];exact lp _ _ x.host rfl rfl rfl rfl rfl rfl rfl (lH b4) rfl rfl rfl rfl b1 b2 b3
     ·injection e with e
      rw[<-e];exact lp _ _ [] rfl rfl rfl rfl hu.host rfl rfl yz rfl rfl rfl rfl (Or.inr rfl) iN.1 iN.2
theorem tR {k:UInt8}:∀{s:Bs},k∈s->∃a b,s=a++k::b/\k∉a
 | [],h=>by cases h
 | c::r,h=>by
   by_cases hc:c=k
   ·exact⟨[],r,by rw[hc];rfl,by simp⟩
   ·have hr:k∈r:=by
     rcases List.mem_cons.1 h with h|h
     ·exact absurd h.symm hc
     ·exact h
    obtain⟨a,b,rfl,ha⟩:=tR hr
    exact⟨c::a,b,rfl,fun hh=>by
     rcases List.mem_cons.1 hh with hh|hh
     ·exact hc hh.symm
     ·exact ha hh⟩
theorem eB (k:UInt8) (s:Bs):k∉(Lib.cut s [k]).1/\((Lib.cut s [k]).2.2=false->(Lib.cut s [k]).1=s/\(Lib.cut s [k]).2.1=[])/\(∀x∈(Lib.cut s [k]).1,x∈s)/\((Lib.cut s [k]).2.2=true->s=(Lib.cut s [k]).1++k::(Lib.cut s [k]).2.1):=by
 by_cases h:k∈s
 ·obtain⟨a,b,rfl,ha⟩:=tR h;rw[Gi b ha];exact⟨ha,(fun hh=>by cases hh),fun x hx=>List.mem_append_left _ hx,fun _=>rfl⟩
 ·rw[F0 h];exact⟨h,fun _=>⟨rfl,rfl⟩,fun x hx=>hx,(fun hh=>by cases hh)⟩
theorem rq:∀c:UInt8,low1 (low1 c)=low1 c/\(dM c=true->dM (low1 c)=true)/\(bG c=true->bG (low1 c)=true):=aJ (by decide +kernel)
def oj (c:Bs×Bs×Bool):Bool:=c.2.2&& !c.1.isEmpty&&(match c.1 with|a::_=>bG a|[]=>false)&&c.1.all dM
theorem uk (s:Bs):aQ s=if oj (Lib.cut s [58])=true then(low (Lib.cut s [58]).1,(Lib.cut s [58]).2.1,true)else([],s,false):=rfl
theorem EU {s:Bs} (h:(aQ s).2.2=true):J5 (aQ s).1/\∃a,s=a++58::(aQ s).2.1:=by
 have hc:=eB 58 s;rw[uk]at h⊢;by_cases hh:oj (Lib.cut s [58])=true
 ·rw[if_pos hh]at h⊢;unfold oj at hh;simp only[Bool.and_eq_true,Bool.not_eq_true']at hh;obtain⟨⟨⟨h1,h2⟩,h3⟩,h4⟩:=hh;refine⟨⟨?_,?_,?_,vD _⟩,(Lib.cut s [58]).1,hc.2.2.2 h1⟩
  ·cases hx:(Lib.cut s [58]).1 with
   | nil=>rw[hx]at h2;cases h2
   | cons a r=>intro e;cases e
  ·intro c hcc;cases hx:(Lib.cut s [58]).1 with
   | nil=>rw[hx]at h2;cases h2
   | cons a r=>
     rw[hx]at h3 hcc;have:low1 a=c:=by simpa [low]using hcc
     rw[<-this];exact(rq a).2.2 h3
  ·rw[List.all_eq_true];intro c hcc;obtain⟨a,ha,rfl⟩:=List.mem_map.1 hcc;exact(rq a).2.1 (List.all_eq_true.1 h4 a ha)
 ·rw[if_neg hh]at h;cases h
theorem qH {s:Bs} {d:UInt8} (h:(bK s).getLast? =some d):pD d=false:=by
 rw[DU,List.getLast?_reverse]at h
 have:∀l:Bs,(l.dropWhile pD).head? =some d->pD d=false:=by
  intro l
  induction l with
  | nil=>intro hh;cases hh
  | cons c r ih=>
    intro hh;rw[List.dropWhile_cons]at hh;cases hc:pD c
    ·rw[hc]at hh;have:c=d:=by simpa using hh
     rw[<-this];exact hc
    ·rw[hc]at hh;exact ih (by simpa using hh)
 exact this _ h
theorem IU {k:UInt8} (hk:k≠37/\∀d:Fin 16,dP d.val≠k) {of s:Bs} (h:k∉s):k∉aj of s:=by
 intro hc;unfold aj at hc;obtain⟨x,hx,hc⟩:=List.mem_flatMap.1 hc;split at hc
 ·simp only[List.mem_cons,List.not_mem_nil,or_false]at hc;rcases hc with hc|hc|hc
  ·exact hk.1 hc
  ·exact hk.2 ⟨x.toNat / 16,by have:=x.toNat_lt;omega⟩ hc.symm
  ·exact hk.2 ⟨x.toNat%16,Nat.mod_lt _ (by omega)⟩ hc.symm
 ·rw[List.mem_singleton.1 hc]at h;exact h hx
theorem MW {s:Bs} (h:s.getLast? ≠some 32):(aj [] s).getLast? ≠some 32:=by
 rcases List.eq_nil_or_concat s with rfl|⟨r,c,rfl⟩
 ·intro hh;cases hh
 ·rw[List.concat_eq_append]at h⊢
  have hc:c≠32:=by
   intro e;apply h;rw[e];simp
  unfold aj;rw[List.flatMap_append];intro hh
  have hx:([c]:Bs).flatMap (fun c=>if c<32||126<c||([]:Bs).contains c then[37,dP (c.toNat / 16),dP (c.toNat%16)]else[c])≠[]:=by
   rw[List.flatMap_cons];split<;>simp
  rw[List.getLast?_append]at hh;have hd:∀d:Fin 16,dP d.val≠32:=by decide +kernel
  rw[List.flatMap_cons,List.flatMap_nil,List.append_nil]at hh;split at hh
  ·have:dP (c.toNat%16)=32:=by simpa using hh
   exact hd ⟨c.toNat%16,Nat.mod_lt _ (by omega)⟩ this
  ·have:c=32:=by simpa using hh
   exact hc this
theorem Oc {s:Bs} (h:s[0]? ≠some 47):(aj [] s).head? ≠some 47:=by
 cases s with
 | nil=>intro hh;cases hh
 | cons c r=>
   unfold aj;rw[List.flatMap_cons];split
   ·intro hh;cases hh
   ·intro hh
    apply h
    exact hh
theorem wT {s:Bs} (h:ai s=false):s≠bM:=fun e=>by rw[e]at h;cases h
theorem Ky {u:ag} (hu:nM u) (hs:J5 u.scheme) (gT:ai u.scheme=false) {path:List Bs} (hp:eJ u.scheme (ai u.scheme) path) (ed:path≠[]):MU {u with path:=path}:=by
 exact{
  s1:=hs.1,s2:=hs.2.1,s3:=hs.2.2.1,s4:=hs.2.2.2
  user:=by show u.user.all _=true;rw[hu.user];rfl
  pass:=by show u.pass.all _=true;rw[hu.pass];rfl
  special:=fun h=>by rw[show ai u.scheme=false from gT]at h;cases h
  bare:=fun _=>⟨hu.user,hu.pass,hu.host,hu.port⟩
  opaqueN:=fun h=>by rw[show u.opq=false from hu.opq]at h;cases h
  path:=fun _=>⟨hp.1,fun _=>ed⟩
  drive:=hp.2
  host:=fun h=>by rw[show u.hasHost=false from hu.hasHost]at h;cases h
  empty:=fun _=>⟨hu.user,hu.pass,hu.port⟩
  needed:=fun h=>by rw[show ai u.scheme=false from gT]at h;cases h
  file:=fun h=>absurd h (wT gT)
  port:=Or.inl hu.port}
theorem uy {u:ag} (hu:nM u) (hs:J5 u.scheme) (gT:ai u.scheme=false) {p:Bs} (h1:p.all (okE [])=true) (h2:(35:UInt8)∉p) (h3:(63:UInt8)∉p) (h4:p.head? ≠some 47) (q:Bs) (hq:Bool) (h5:hq=false->u.hasFragment=false->p.getLast? ≠some 32):
  MU {u with opq:=true,path:=[p],query:=q,hasQuery:=hq}:=by
 exact{
  s1:=hs.1,s2:=hs.2.1,s3:=hs.2.2.1,s4:=hs.2.2.2
  user:=by show u.user.all _=true;rw[hu.user];rfl
  pass:=by show u.pass.all _=true;rw[hu.pass];rfl
  special:=fun h=>by rw[show ai u.scheme=false from gT]at h;cases h
  bare:=fun _=>⟨hu.user,hu.pass,hu.host,hu.port⟩
  opaqueN:=fun _=>⟨hu.hasHost,p,rfl,h1,h2,h3,h4,h5⟩
  path:=fun h=>by cases h
  drive:=fun h=>absurd h (wT gT)
  host:=fun h=>by rw[show u.hasHost=false from hu.hasHost]at h;cases h
  empty:=fun _=>⟨hu.user,hu.pass,hu.port⟩
  needed:=fun h=>by rw[show ai u.scheme=false from gT]at h;cases h
  file:=fun h=>absurd h (wT gT)
  port:=Or.inl hu.port}
theorem k35:(35:UInt8)≠37/\∀d:Fin 16,dP d.val≠35:=by decide +kernel
theorem k63:(63:UInt8)≠37/\∀d:Fin 16,dP d.val≠63:=by decide +kernel
theorem qL {u v:ag} {s:Bs} {b:Option ag} (e:iH u s b=.ok v) (hu:nM u) (h35:(35:UInt8)∉s) (LC:(63:UInt8)∉s) (jl:u.hasQuery=false->u.hasFragment=false->s.getLast? ≠some 32) (hq:QN u) (hb:∀x,b=some x->NU x):
  MU v/\QN v/\v.hasFragment=u.hasFragment/\v.fragment=u.fragment:=by
 have Pt:∀x,b=some x->MU x/\QN x:=fun x hx=>⟨(hb x hx).toMU,(hb x hx).noQuery⟩;have lX:∀sch,nM {u with scheme:=sch}:=fun sch=>⟨hu.user,hu.pass,hu.hasHost,hu.host,hu.port,hu.opq,hu.path⟩;unfold iH at e;simp only at e;cases nV:(aQ s).2.2 with
 | true=>
   obtain⟨xZ,a,ha⟩:=EU nV;rw[nV,if_pos rfl]at e;have aaz:(35:UInt8)∉(aQ s).2.1:=fun h=>h35 (by rw[ha];exact List.mem_append_right _ (List.mem_cons_of_mem _ h));have aaq:(63:UInt8)∉(aQ s).2.1:=fun h=>LC (by rw[ha];exact List.mem_append_right _ (List.mem_cons_of_mem _ h))
   have PV:(aQ s).2.1.getLast? =some 32->s.getLast? =some 32:=by
    intro h;rw[ha,List.getLast?_append,List.getLast?_cons,h];rfl
   generalize (aQ s).1=sch at e xZ;generalize (aQ s).2.1=r at e aaz aaq PV
   have yl:∀{t:Bs},bT {u with scheme:=sch} t=.ok v->sch≠bM->MU v/\QN v/\v.hasFragment=u.hasFragment/\v.fragment=u.fragment:=by
    intro t et hf;obtain⟨h1,h2,h3,h4,h5,h6⟩:=rP et xZ hf hu.port hu.user hu.pass hu.opq hu.path;exact⟨h1,fun h=>by rw[h4];exact hq (h3▸h),h5,h6⟩
   split at e
   ·rename_i hf;exact uF (u:={u with scheme:=sch}) e hf (lX sch) Pt hq
   ·rename_i hf;split at e
    ·rename_i gT;cases b with
     | none=>exact yl e hf
     | some x=>
       simp only at e;split at e
       ·rename_i hh;have hx:=hb x rfl;refine zX (u:={u with scheme:=sch}) e hx.toMU hh.1.symm hf (lX sch) ?_ hq hx.noQuery;exact(hx.special (by rw[hh.1];exact gT)).2.1
       ·exact yl e hf
    ·rename_i gT;have ZI:ai sch=false:=by simpa using gT
     split at e
     ·exact yl e hf
     ·rename_i pZ;split at e
      ·injection e with e
       rw[<-e];have yz:eJ sch (ai sch) u.path:=by rw[hu.path];exact pj _ _
       obtain⟨h1,h2⟩:=oo (u:={u with scheme:=sch}) (t:=r.drop 1) yz;exact⟨Ky (lX sch) xZ ZI h1 h2,hq,rfl,rfl⟩
      ·rename_i yj;injection e with e
       rw[<-e]
       have hh:r[0]? ≠some 47:=by
        intro h
        apply yj
        rw[yW,h];rfl
       exact⟨uy (lX sch) xZ ZI (is 0 (by omega) r) (IU k35 aaz) (IU k63 aaq) (Oc hh) u.query u.hasQuery (fun h1 h2=>MW (fun h=>jl h1 h2 (PV h))),hq,rfl,rfl⟩
 | false=>
   rw[nV,if_neg (by decide)]at e;cases b with
   | none=>cases e
   | some x=>
     simp only at e;have hx:=hb x rfl;have xZ:J5 x.scheme:=⟨hx.s1,hx.s2,hx.s3,hx.s4⟩;split at e
     ·cases e
     ·rename_i hc;split at e
      ·rename_i ho;injection e with e
       rw[ho,Bool.true_and]at hc;have Ch:(!s.isEmpty||u.hasQuery|| !u.hasFragment)=false:=by simpa using hc
       simp only[Bool.or_eq_false_iff,Bool.not_eq_false']at Ch;obtain⟨⟨_,c2⟩,c3⟩:=Ch;obtain⟨_,p,hp,p1,p2,p3,p4,_⟩:=hx.opaqueN ho
       have gT:ai x.scheme=false:=by
        cases hh:ai x.scheme
        ·rfl
        ·have:=(hx.special hh).2.1;rw[ho]at this;cases this
       have he:ek {u with scheme:=x.scheme,opq:=true} x []={u with scheme:=x.scheme,opq:=true,path:=[p],query:=x.query,hasQuery:=x.hasQuery}:=by
        unfold ek;rw[if_neg (fun h=>h rfl)];show(if u.hasQuery=true then _ else _)=_;rw[c2,if_neg (by decide),hp]
       rw[<-e];have he2:ek {({u with scheme:=x.scheme}:ag)with opq:=true} x []={u with scheme:=x.scheme,opq:=true,path:=[p],query:=x.query,hasQuery:=x.hasQuery}:=he;rw[he2];exact⟨uy (lX x.scheme) xZ gT p1 p2 p3 p4 x.query x.hasQuery (fun _ h=>by rw[show u.hasFragment=true from c3]at h;cases h),hx.noQuery,rfl,rfl⟩
      ·rename_i ho;have ho':x.opq=false:=by simpa using ho
       split at e
       ·rename_i hf;exact uF (u:={u with scheme:=x.scheme}) e hf (lX x.scheme) Pt hq
       ·rename_i hf;exact zX (u:={u with scheme:=x.scheme}) e hx.toMU rfl hf (lX x.scheme) ho' hq hx.noQuery
theorem nr {s:Bs} {b:Option ag} {u:ag} (e:gE s b=.ok u) (hb:∀x,b=some x->NU x):NU u:=by
 unfold gE at e;simp only at e;obtain⟨v,hv,e⟩:=gZ e;injection e with e
 have f:=eB 35 (bK s);have q:=eB 63 (Lib.cut (bK s) [35]).1;have hl:= @qH s;generalize Lib.cut (bK s) [35]=F at hv f q;generalize Lib.cut F.1 [63]=G at hv q;obtain⟨f1,f2,f3,_⟩:=f;obtain⟨q1,q2,q3,_⟩:=q
 obtain⟨m,m2,m3,m4⟩:=qL hv ⟨rfl,rfl,rfl,rfl,rfl,rfl,rfl⟩ (fun h=>f1 (q3 _ h)) q1
  (fun h1 h2 h=>by
   have e1:=(q2 h1).1;have e2:=(f2 h2).1;rw[e1,e2]at h;have:=hl h;cases this)
  (fun h=>(q2 h).2) hb
 rw[<-e];have hz:∀of,aj of []=[]:=fun _=>rfl
 exact{
  s1:=m.s1,s2:=m.s2,s3:=m.s3,s4:=m.s4,user:=m.user,pass:=m.pass,special:=m.special,bare:=m.bare
  opaqueN:=m.opaqueN,path:=m.path,drive:=m.drive,host:=m.host,empty:=m.empty,needed:=m.needed,file:=m.file,port:=m.port
  query:=by
   show(aj (cm (if ai v.scheme then 3 else 2)) v.query).all (okE (cm (if ai v.scheme then 3 else 2)))=true;split
   ·exact is 3 (by omega) _
   ·exact is 2 (by omega) _
  noQuery:=fun h=>by show aj _ v.query=[];rw[m2 h];rfl
  fragment:=is 1 (by omega) _
  noFragment:=fun h=>by
   show aj _ v.fragment=[];rw[m4];have:F.2.2=false:=m3.symm.trans h;rw[show F.2.1=[]from(f2 this).2];rfl}
theorem qA {s:Bs} {b:Option ag} {u:ag} (e:dg s b=.ok u):NU u:=by
 unfold dg at e;split at e
 ·cases e
 ·cases b with
  | none=>exact nr e (fun x hx=>by cases hx)
  | some x=>
    simp only at e;split at e
    ·rename_i hx;exact nr e (fun y hy=>by cases hy;exact nr hx (fun z hz=>by cases hz))
    ·cases e
theorem iP (of:Bs):∀s:Bs,(aj of s).length<=3*s.length
 | []=>Nat.zero_le _
 | c::r=>by
   have ih:=iP of r;unfold aj at ih⊢;rw[List.flatMap_cons,List.length_append,List.length_cons]
   have:(if c<32||126<c||of.contains c then[37,dP (c.toNat / 16),dP (c.toNat%16)]else[c]:Bs).length<=3:=by
    split
    ·exact Nat.le_refl 3
    ·exact Nat.le_add_left 1 2
   omega
def pl (l:List Bs):Nat:=(NS l).length
theorem VD:pl []=0:=rfl
theorem tt (a b:List Bs):pl (a++b)=pl a+pl b:=by simp[pl,NS]
theorem tB (p:Bs):pl [p]=p.length+1:=by simp[pl,NS]
theorem wk (scheme:Bs) (l:List Bs):pl (bu scheme l)<=pl l:=by
 unfold bu;split
 ·exact Nat.le_refl _
 ·rcases List.eq_nil_or_concat l with rfl|⟨r,p,rfl⟩
  ·exact Nat.le_refl _
  ·rw[List.concat_eq_append,List.dropLast_concat,tt];omega
theorem Qt (l:List Bs):pl (l.take 1)<=pl l:=by
 cases l with
 | nil=>exact Nat.le_refl _
 | cons p r=>
   show pl [p]<=pl ([p]++r);rw[tt];omega
def pw (l:List Bs):Nat:=(l.map fun p=>3*p.length+1).sum
theorem vK (p:Bs) (l:List Bs):pw (p::l)=3*p.length+1+pw l:=by simp[pw]
theorem IV (scheme:Bs):∀(ps jS:List Bs),pl (onL scheme jS ps)<=pl jS+pw ps
 | [],jS=>Nat.le_refl _
 | p::r,jS=>by
   have ih:=fun a=>IV scheme r a;have he:=iP (cm 4) p;have hs:=wk scheme jS;have h1:∀a:List Bs,pl (a++[[]])=pl a+1:=fun a=>by rw[tt,tB];rfl
   rw[onL,vK]
   try simp only
   generalize aj (cm 4) p=q at he;split
   ·split
    ·have:=ih (bu scheme jS++[[]]);rw[h1]at this;omega
    ·have:=ih (bu scheme jS);omega
   ·split
    ·split
     ·have:=ih (jS++[[]]);rw[h1]at this;omega
     ·have:=ih jS;omega
    ·have h2:(if scheme=bM/\jS=[]/\bL q=true then q.take 1++[58]else q).length<=q.length:=by
      split
      ·rename_i hh
       match q,hh.2.2 with
       | [a,b],_=>exact Nat.le_refl _
      ·exact Nat.le_refl _
     have:=ih (jS++[if scheme=bM/\jS=[]/\bL q=true then q.take 1++[58]else q]);rw[tt,tB]at this;omega
theorem wP (sp:Bool):∀s:Bs,pw (fP sp s)<=3*s.length+1
 | []=>Nat.le_refl _
 | c::r=>by
   have ih:=wP sp r;rw[fP];split
   ·rw[vK,List.length_cons];simp;omega
   ·cases he:fP sp r with
    | nil=>exact absurd he (sC r)
    | cons x t=>
      rw[he,vK]at ih;show pw ((c::x)::t)<=_;rw[vK,List.length_cons,List.length_cons];omega
theorem ri (u:ag) (t:Bs):pl (onP u t).path<=pl u.path+3*t.length+1:=by
 have h1:=IV u.scheme (fP (ai u.scheme) t) u.path;have h2:=wP (ai u.scheme) t;show pl (onL u.scheme u.path (fP (ai u.scheme) t))<=_;omega
theorem kG (k:UInt8) (s:Bs):(Lib.cut s [k]).1.length+(Lib.cut s [k]).2.1.length<=s.length:=by
 have h:=eB k s;cases hc:(Lib.cut s [k]).2.2 with
 | true=>
   have:=congrArg List.length (h.2.2.2 hc);rw[List.length_append,List.length_cons]at this;omega
 | false=>
   obtain⟨h1,h2⟩:=h.2.1 hc;rw[h1,h2];simp
theorem oz (sp:Bool) (s:Bs):(dI sp s).1.length+(dI sp s).2.1.length<=s.length:=by
 have h:∀s:Bs,(s.takeWhile fun c=> !bz sp c).length+(s.dropWhile fun c=> !bz sp c).length=s.length:=by
  intro s;have:=congrArg List.length (List.takeWhile_append_dropWhile (p:=fun c=> !bz sp c) (l:=s))
  rwa [List.length_append]at this
 have:=h s;unfold dI;simp only[List.length_drop];omega
theorem qt:∀{s x y:Bs},eQ s=some (x,y)->x.length+y.length+1=s.length
 | [],_,_,h=>by cases h
 | c::r,x,y,h=>by
   rw[eQ]at h;cases hl:eQ r with
   | some xy=>
     obtain⟨a,b⟩:=xy;rw[hl]at h;have:=qt hl;simp only[Option.some.injEq,Prod.mk.injEq]at h;obtain⟨rfl,rfl⟩:=h;rw[List.length_cons,List.length_cons];omega
   | none=>
     rw[hl]at h;simp only at h;split at h
     ·simp only[Option.some.injEq,Prod.mk.injEq]at h;obtain⟨rfl,rfl⟩:=h
      simp
     ·cases h
theorem sH (sep:Bs) (m:Nat):∀ls:List Bs,(∀x,x∈ls->x.length<=m)->(gi sep ls).length<=ls.length*(m+sep.length)
 | [],_=>by simp[gi]
 | [x],h=>by
   have hx:=h x (by simp)
   simp[gi];omega
 | x::y::r,h=>by
   have hx:=h x (by simp);have hr:=sH sep m (y::r) (fun z hz=>h z (by simp[hz]));rw[gi,List.length_append,List.length_append,List.length_cons,Nat.succ_mul];omega
theorem En:∀l:Bs,(aw l).length<=l.length:=by
 intro l
 induction h:l.length using Nat.strongRecOn generalizing l with
 | ind n ih=>
   cases l with
   | nil=>rw[aw];simp
   | cons c r=>
     rw[aw];simp only[List.length_cons]at h;split
     ·have:=ih (r.drop 2).length (by simp;omega) (r.drop 2) rfl
      simp at this⊢;omega
     ·have:=ih r.length (by omega) r rfl
      simp;omega
theorem sQ (l:List Nat) (h:∀n∈l,n<65536) (h8:l.length<=8):(cl l).length<=40:=by
 have hj:=sH [58] 4 (l.map iz) (by
  intro x hx;obtain⟨n,hn,rfl⟩:=List.mem_map.1 hx;exact wI 3 n (by simpa using h n hn))
 rw[List.length_map]at hj;unfold cl
 simp at hj;omega
theorem JP (a:List Nat) (h8:a.length=8) (hl:∀n∈a,n<65536):(fv a).length<=100:=by
 unfold fv;have h1:=sQ a hl (by omega);have h2:=sQ (a.take (iA 0 a (0,0)).1) (fun n hn=>hl n (List.mem_of_mem_take hn)) (by rw[List.length_take];omega);have h3:=sQ (a.drop (iA 0 a (0,0)).2) (fun n hn=>hl n (List.mem_of_mem_drop hn)) (by rw[List.length_drop];omega);split
 ·omega
 ·rw[List.length_append,List.length_append];show _+2+_<=_;omega
theorem pV:∀(k m:Nat),m<10^(k+1)->(Lib.decDigits m).length<=k+1:=by
 intro k
 induction k with
 | zero=>intro m h;rw[Lib.decDigits,dif_pos (by simpa using h)];simp
 | succ k ih=>
   intro m h;rw[Lib.decDigits];split
   ·simp
   ·have:=ih (m / 10) (by rw[Nat.pow_succ]at h;omega)
    simp;omega
theorem Eg (b:List Nat) (h:b.length=4) (hl:∀n∈b,n<256):(fH b).length<=16:=by
 have hj:=sH [46] 3 (b.map fun x=>Lib.decDigits x) (by
  intro x hx;obtain⟨n,hn,rfl⟩:=List.mem_map.1 hx;exact pV 2 n (by have:=hl n hn;simp;omega))
 rw[List.length_map,h]at hj;exact hj
theorem sI (s h:Bs) (b:Bool) (e:aN s b=.ok h):h.length<=3*s.length+110:=by
 unfold aN at e;split at e
 ·split at e
  ·cases e
  ·cases ha:kD ((s.drop 1).dropLast)with
   | none=>rw[ha]at e;cases e
   | some a=>
     rw[ha]at e;simp only[Option.map_some,ofO]at e;injection e with e
     obtain⟨h8,hl⟩:=Bn ha;have:=JP a h8 hl;rw[<-e,List.length_append,List.length_append];show 1+_+1<=_;omega
 ·split at e
  ·unfold eV at e;simp only at e;split at e
   ·cases e
   ·split at e
    ·cases hf:gd (dz (low (aw s)))with
     | none=>rw[hf]at e;cases e
     | some t=>
       rw[hf]at e;simp only[ofO]at e;injection e with e
       obtain⟨b4,h4,hl,rfl⟩:=Jd (zE _) hf;have:=Eg b4 h4 hl;rw[<-e];omega
    ·injection e with e
     have:=En s;rw[<-e];show(low (aw s)).length<=_;unfold low;rw[List.length_map];omega
  ·split at e
   ·cases e
   ·injection e with e
    have:=iP [] s;rw[<-e];omega
def wt (u:ag):Nat:=u.scheme.length+u.user.length+u.pass.length+u.host.length+pl u.path
theorem we {u v:ag} {a:Bs} (e:eZ u a=.ok v):v.host.length<=3*a.length+110:=by
 unfold eZ at e
 have hp:∀{w v:ag} {s:Bs},ey w s=.ok v->v.host=w.host:=by
  intro w v s h;unfold ey at h;cases hn:lx 0 s with
  | none=>rw[hn]at h;cases h
  | some n=>
    rw[hn]at h;simp only at h;split at h
    ·cases h
    ·injection h with h
     rw[<-h];split<;>rfl
 cases hc:ep false a with
 | some i=>
   rw[hc]at e;simp only at e;split at e
   ·cases e
   ·obtain⟨w,hw,e⟩:=gZ e;obtain⟨h,rfl,hh⟩:=lg hw;have h1:=sI _ _ _ hh;rw[hp e];rw[List.length_take]at h1;show h.length<=_;omega
 | none=>
   rw[hc]at e;simp only at e;split at e
   ·cases e
   ·obtain⟨w,hw,e⟩:=gZ e;obtain⟨h,rfl,hh⟩:=lg hw;have h1:=sI _ _ _ hh;rw[hp e];exact h1
theorem Ll {u v:ag} {a:Bs} (e:jj u a=.ok v) (hu:u.port= -1) (jR:u.user=[]) (qM:u.pass=[]):v.user.length+v.pass.length+v.host.length<=3*a.length+110:=by
 unfold jj at e;cases hl:eQ a with
 | some xy=>
   obtain⟨x,y⟩:=xy;rw[hl]at e;simp only at e;split at e
   ·cases e
   ·have ba:=qt hl;have h1:=we e;obtain⟨h,p,rfl,_⟩:=pi e (show(CG u x).port= -1 from hu);have h2:=kG 58 x;have h3:=iP (cm 5) (Lib.cut x [58]).1;have h4:=iP (cm 5) (Lib.cut x [58]).2.1;show(aj (cm 5) (Lib.cut x [58]).1).length+(aj (cm 5) (Lib.cut x [58]).2.1).length+h.length<=_;have h1:h.length<=3*y.length+110:=h1;omega
 | none=>
   rw[hl]at e;have h1:=we e;obtain⟨h,p,rfl,_⟩:=pi e hu;show u.user.length+u.pass.length+h.length<=_;have h1:h.length<=3*a.length+110:=h1;rw[jR,qM]
   simp;omega
theorem tY {u v:ag} {r:Bs} (e:bT u r=.ok v) (hu:u.port= -1) (jR:u.user=[]) (qM:u.pass=[]) (hp:u.path=[]):wt v<=u.scheme.length+3*r.length+111:=by
 unfold bT at e;obtain⟨w,hw,e⟩:=gZ e;have h1:=Ll hw hu jR qM;obtain⟨us,pa,h,p,rfl,_⟩:=xF hw hu jR qM;injection e with e
 have hc:=oz (ai u.scheme) r;have h1:us.length+pa.length+h.length<=3*(dI (ai u.scheme) r).1.length+110:=h1;split at e
 ·have h2:=ri {u with user:=us,pass:=pa,host:=h,hasHost:=true,port:=p} (dI (ai u.scheme) r).2.1;have h2:pl (onP {u with user:=us,pass:=pa,host:=h,hasHost:=true,port:=p} (dI (ai u.scheme) r).2.1).path<=pl u.path+3*(dI (ai u.scheme) r).2.1.length+1:=h2;have h0:pl u.path=0:=by rw[hp];rfl
  rw[<-e];show u.scheme.length+us.length+pa.length+h.length+pl _<=_;omega
 ·rw[<-e];show u.scheme.length+us.length+pa.length+h.length+pl u.path<=_;rw[hp,VD];omega
def bw:Option ag->Nat
 | some x=>wt x
 | none=>0
theorem El {u b v:ag} {r:Bs} (e:mj u b r=.ok v) (hs:u.scheme=b.scheme) (hu:nM u):wt v<=wt b+3*r.length+111:=by
 have zr:u.scheme.length=b.scheme.length:=by rw[hs]
 unfold mj at e;simp only at e;split at e
 ·have h1:=tY e hu.port hu.user hu.pass hu.path
  have h2:(if ai u.scheme=true then r.drop (fg (ai u.scheme) r)else r.drop 2).length<=r.length:=by
   split
   ·rw[List.length_drop];omega
   ·rw[List.length_drop];omega
  have h3:b.scheme.length<=wt b:=by unfold wt;omega
  omega
 ·split at e
  ·injection e with e
   have h1:=ri (jh u b) (r.drop 1);have h0:pl (jh u b).path=0:=by show pl u.path=0;rw[hu.path];rfl
   have h2:(r.drop 1).length<=r.length:=by rw[List.length_drop];omega
   rw[<-e];show u.scheme.length+b.user.length+b.pass.length+b.host.length+pl (onP (jh u b) (r.drop 1)).path<=_;unfold wt;omega
  ·injection e with e
   rw[<-e];unfold ek;have aU:=wk u.scheme b.path;split
   ·have h1:∀w:ag,w.path=bu u.scheme b.path->pl (onP w r).path<=pl (bu u.scheme b.path)+3*r.length+1:=by
     intro w hw;have h2:=ri w r;rw[show pl w.path=pl (bu u.scheme b.path) by rw[hw]]at h2;exact h2
    show u.scheme.length+b.user.length+b.pass.length+b.host.length+pl _<=_;refine Nat.le_trans (Nat.add_le_add_left (h1 _ rfl) _) ?_;unfold wt;omega
   ·split
    ·show u.scheme.length+b.user.length+b.pass.length+b.host.length+pl b.path<=_;unfold wt;omega
    ·show u.scheme.length+b.user.length+b.pass.length+b.host.length+pl b.path<=_;unfold wt;omega
theorem xB {u v:ag} {b:Option ag} {r:Bs} (e:em u b r=.ok v) (hu:nM u):wt v<=u.scheme.length+bw b+3*r.length+111:=by
 have hz:pl u.path=0:=by rw[hu.path];rfl
 have lp:∀(w:ag) (t:Bs) (k:Nat),w.scheme=u.scheme->w.user=[]->w.pass=[]->w.host.length+pl w.path+3*t.length<=k->wt (onP w t)<=u.scheme.length+k+1:=by
  intro w t k h1 h2 h3 h4;have h5:=ri w t;show w.scheme.length+w.user.length+w.pass.length+w.host.length+pl (onP w t).path<=_;rw[h1,h2,h3];simp only[List.length_nil];omega
 have PJ:(r.drop 2).length<=r.length:=by rw[List.length_drop];omega
 have Jz:(r.drop 1).length<=r.length:=by rw[List.length_drop];omega
 have hh0:u.host.length=0:=by rw[hu.host];rfl
 have hc:=oz true (r.drop 2);unfold em at e;simp only at e;split at e
 ·split at e
  ·injection e with e
   rw[<-e];have:=lp {u with hasHost:=true} (r.drop 2) (3*r.length) rfl hu.user hu.pass (by show u.host.length+pl u.path+_<=_;omega);omega
  ·obtain⟨w,hw,e⟩:=gZ e;injection e with e
   rw[<-e];split at hw
   ·injection hw with hw
    have hh:w.host=[]:=by rw[<-hw];exact hu.host
    rw[if_neg (by rw[hh];decide),<-hw];have:=lp {u with hasHost:=true} (dI true (r.drop 2)).2.1 (3*r.length) rfl hu.user hu.pass (by show u.host.length+pl u.path+_<=_;omega);omega
   ·obtain⟨h,rfl,hh⟩:=lg hw;have hl:=sI _ _ _ hh;split
    ·have:=lp {u with hasHost:=true,host:=[]} (dI true (r.drop 2)).2.1 (3*r.length) rfl hu.user hu.pass (by show 0+pl u.path+_<=_;omega);refine Nat.le_trans this ?_;omega
    ·have:=lp {u with hasHost:=true,host:=h} (dI true (r.drop 2)).2.1 (3*r.length+110) rfl hu.user hu.pass (by show h.length+pl u.path+_<=_;omega);refine Nat.le_trans this ?_;omega
 ·have hb:∀x,b=some x->x.host.length+pl x.path<=bw b:=by
   rintro x rfl;show _<=wt x;unfold wt;omega
  split at e
  ·injection e with e
   rw[<-e];cases b with
   | none=>
     have:=lp {u with hasHost:=true} (r.drop 1) (3*r.length) rfl hu.user hu.pass (by show u.host.length+pl u.path+_<=_;omega);refine Nat.le_trans this ?_;omega
   | some x=>
     have lW:=hb x rfl;have ht:=Qt x.path;simp only;split
     ·split
      ·have:=lp {u with hasHost:=true,host:=x.host,path:=x.path.take 1} (r.drop 1) (bw (some x)+3*r.length) rfl hu.user hu.pass (by show x.host.length+pl (x.path.take 1)+_<=_;omega);refine Nat.le_trans this ?_;omega
      ·have:=lp {u with hasHost:=true,host:=x.host} (r.drop 1) (bw (some x)+3*r.length) rfl hu.user hu.pass (by show x.host.length+pl u.path+_<=_;omega);refine Nat.le_trans this ?_;omega
     ·have:=lp {u with hasHost:=true} (r.drop 1) (3*r.length) rfl hu.user hu.pass (by show u.host.length+pl u.path+_<=_;omega);refine Nat.le_trans this ?_;omega
  ·cases b with
   | none=>
     injection e with e
     rw[<-e];have:=lp {u with hasHost:=true} r (3*r.length) rfl hu.user hu.pass (by show u.host.length+pl u.path+_<=_;omega);refine Nat.le_trans this ?_;omega
   | some x=>
     have lW:=hb x rfl;simp only at e;split at e
     ·split at e
      ·injection e with e
       rw[<-e];have:=lp {u with hasHost:=true,host:=x.host} r (bw (some x)+3*r.length) rfl hu.user hu.pass (by show x.host.length+pl u.path+_<=_;omega);refine Nat.le_trans this ?_;omega
      ·injection e with e
       rw[<-e];have aU:=wk u.scheme x.path;have h00:u.user.length=0/\u.pass.length=0:=by rw[hu.user,hu.pass];exact⟨rfl,rfl⟩
       unfold ek;split
       ·have:=lp {({({u with hasHost:=true}:ag)with host:=x.host}:ag)with path:=bu u.scheme x.path} r (bw (some x)+3*r.length) rfl hu.user hu.pass (by show x.host.length+pl (bu u.scheme x.path)+_<=_;omega);refine Nat.le_trans this ?_;omega
       ·split
        ·show u.scheme.length+u.user.length+u.pass.length+x.host.length+pl x.path<=_;omega
        ·show u.scheme.length+u.user.length+u.pass.length+x.host.length+pl x.path<=_;omega
     ·injection e with e
      rw[<-e];have:=lp {u with hasHost:=true} r (3*r.length) rfl hu.user hu.pass (by show u.host.length+pl u.path+_<=_;omega);refine Nat.le_trans this ?_;omega
theorem zy {u v:ag} {r:Bs} (e:bT u r=.ok v) (hu:u.port= -1) (jR:u.user=[]) (qM:u.pass=[]):v.scheme=u.scheme/\v.query=u.query:=by
 unfold bT at e;obtain⟨w,hw,e⟩:=gZ e;obtain⟨us,pa,h,p,rfl,_⟩:=xF hw hu jR qM;injection e with e
 rw[<-e];split<;>exact⟨rfl,rfl⟩
theorem AZ (w b:ag) (r:Bs):(ek w b r).scheme=w.scheme/\((ek w b r).query=w.query\/(ek w b r).query=b.query):=by
 unfold ek;split
 ·exact⟨rfl,Or.inl rfl⟩
 ·split
  ·exact⟨rfl,Or.inl rfl⟩
  ·exact⟨rfl,Or.inr rfl⟩
theorem MP {u b v:ag} {r:Bs} (e:mj u b r=.ok v) (hu:nM u):v.scheme=u.scheme/\(v.query=u.query\/v.query=b.query):=by
 unfold mj at e;simp only at e;split at e
 ·have:=zy e hu.port hu.user hu.pass;exact⟨this.1,Or.inl this.2⟩
 ·split at e
  ·injection e with e
   rw[<-e];exact⟨rfl,Or.inl rfl⟩
  ·injection e with e
   rw[<-e];exact AZ (jh u b) b r
theorem DP {u v:ag} {b:Option ag} {r:Bs} (e:em u b r=.ok v):v.scheme=u.scheme/\(v.query=u.query\/∃x,b=some x/\x.scheme=bM/\v.query=x.query):=by
 unfold em at e;simp only at e;split at e
 ·split at e
  ·injection e with e
   rw[<-e];exact⟨rfl,Or.inl rfl⟩
  ·obtain⟨w,hw,e⟩:=gZ e;injection e with e
   rw[<-e];split at hw
   ·injection hw with hw
    rw[<-hw];split<;>exact⟨rfl,Or.inl rfl⟩
   ·obtain⟨h,rfl,hh⟩:=lg hw;split<;>exact⟨rfl,Or.inl rfl⟩
 ·split at e
  ·injection e with e
   rw[<-e];cases b with
   | none=>exact⟨rfl,Or.inl rfl⟩
   | some x=>
     simp only;split
     ·split<;>exact⟨rfl,Or.inl rfl⟩
     ·exact⟨rfl,Or.inl rfl⟩
  ·cases b with
   | none=>
     injection e with e
     rw[<-e];exact⟨rfl,Or.inl rfl⟩
   | some x=>
     simp only at e;split at e
     ·rename_i hx;split at e
      ·injection e with e
       rw[<-e];exact⟨rfl,Or.inl rfl⟩
      ·injection e with e
       rw[<-e];obtain⟨h1,h2⟩:=AZ {({u with hasHost:=true}:ag)with host:=x.host} x r;refine⟨h1,?_⟩;rcases h2 with h2|h2
       ·exact Or.inl h2
       ·exact Or.inr ⟨x,rfl,hx,h2⟩
     ·injection e with e
      rw[<-e];exact⟨rfl,Or.inl rfl⟩
theorem uE {s:Bs} (h:(aQ s).2.2=true):(aQ s).1.length+1+(aQ s).2.1.length=s.length:=by
 have hc:=eB 58 s;rw[uk]at h⊢;by_cases hh:oj (Lib.cut s [58])=true
 ·rw[if_pos hh]
  have h1:(Lib.cut s [58]).2.2=true:=by
   unfold oj at hh;simp only[Bool.and_eq_true]at hh;exact hh.1.1.1
  have:=congrArg List.length (hc.2.2.2 h1);rw[List.length_append,List.length_cons]at this;show(low (Lib.cut s [58]).1).length+1+(Lib.cut s [58]).2.1.length=_;unfold low;rw[List.length_map];omega
 ·rw[if_neg hh]at h;cases h
theorem zC {u v:ag} {s:Bs} {b:Option ag} (e:iH u s b=.ok v) (hu:nM u) (hb:∀x,b=some x->NU x):wt v<=bw b+3*s.length+120/\(v.query=u.query\/∃x,b=some x/\v.scheme=x.scheme/\v.query=x.query):=by
 have lX:∀sch,nM {u with scheme:=sch}:=fun sch=>⟨hu.user,hu.pass,hu.hasHost,hu.host,hu.port,hu.opq,hu.path⟩;have hz:u.user.length=0/\u.pass.length=0/\u.host.length=0/\pl u.path=0:=by rw[hu.user,hu.pass,hu.host,hu.path];exact⟨rfl,rfl,rfl,rfl⟩
 unfold iH at e;simp only at e;cases nV:(aQ s).2.2 with
 | true=>
   have ba:=uE nV;rw[nV,if_pos rfl]at e;generalize (aQ s).1=sch at e ba;generalize (aQ s).2.1=r at e ba
   have yl:∀{t:Bs},bT {u with scheme:=sch} t=.ok v->t.length<=r.length->wt v<=bw b+3*s.length+120/\(v.query=u.query\/∃x,b=some x/\v.scheme=x.scheme/\v.query=x.query):=by
    intro t et ht;have h1:=tY et hu.port hu.user hu.pass hu.path;have h1:wt v<=sch.length+3*t.length+111:=h1;exact⟨by omega,Or.inl (zy et hu.port hu.user hu.pass).2⟩
   have zu:∀n,(r.drop n).length<=r.length:=fun n=>by rw[List.length_drop];omega
   split at e
   ·rename_i hf;have h1:=xB (u:={u with scheme:=sch}) e (lX sch);have h1:wt v<=sch.length+bw b+3*r.length+111:=h1;obtain⟨h2,h3⟩:=DP (u:={u with scheme:=sch}) e;refine⟨by omega,?_⟩;rcases h3 with h3|⟨x,hx,O2,h3⟩
    ·exact Or.inl h3
    ·exact Or.inr ⟨x,hx,h2.trans (hf.trans O2.symm),h3⟩
   ·split at e
    ·cases b with
     | none=>exact yl e (zu _)
     | some x=>
       simp only at e;split at e
       ·rename_i hh;have h1:=El (u:={u with scheme:=sch}) e hh.1.symm (lX sch);obtain⟨h2,h3⟩:=MP (u:={u with scheme:=sch}) e (lX sch);refine⟨?_,?_⟩
        ·show wt v<=wt x+3*s.length+120;omega
        ·rcases h3 with h3|h3
         ·exact Or.inl h3
         ·exact Or.inr ⟨x,rfl,h2.trans hh.1.symm,h3⟩
       ·exact yl e (zu _)
    ·split at e
     ·exact yl e (zu _)
     ·split at e
      ·injection e with e
       rw[<-e];have h1:=ri {u with scheme:=sch} (r.drop 1);have h1:pl (onP {u with scheme:=sch} (r.drop 1)).path<=pl u.path+3*(r.drop 1).length+1:=h1;have h2:=zu 1;refine⟨?_,Or.inl rfl⟩;show sch.length+u.user.length+u.pass.length+u.host.length+pl _<=_;omega
      ·injection e with e
       rw[<-e];have h1:=iP [] r;refine⟨?_,Or.inl rfl⟩;show sch.length+u.user.length+u.pass.length+u.host.length+pl [aj [] r]<=_;rw[tB];omega
 | false=>
   rw[nV,if_neg (by decide)]at e;cases b with
   | none=>cases e
   | some x=>
     simp only at e;split at e
     ·cases e
     ·split at e
      ·injection e with e
       rw[<-e];obtain⟨h1,h2⟩:=AZ {({u with scheme:=x.scheme}:ag)with opq:=true} x [];refine⟨?_,?_⟩
       ·have hp:(ek {({u with scheme:=x.scheme}:ag)with opq:=true} x []).path=x.path/\(ek {({u with scheme:=x.scheme}:ag)with opq:=true} x []).user=u.user/\(ek {({u with scheme:=x.scheme}:ag)with opq:=true} x []).pass=u.pass/\(ek {({u with scheme:=x.scheme}:ag)with opq:=true} x []).host=u.host:=by
         unfold ek;rw[if_neg (fun h=>h rfl)];split<;>exact⟨rfl,rfl,rfl,rfl⟩
        show wt _<=wt x+3*s.length+120;unfold wt;rw[h1,hp.1,hp.2.1,hp.2.2.1,hp.2.2.2];show x.scheme.length+_+_+_+_<=_;omega
       ·rcases h2 with h2|h2
        ·exact Or.inl h2
        ·exact Or.inr ⟨x,rfl,h1,h2⟩
      ·split at e
       ·rename_i hf;have h1:=xB (u:={u with scheme:=x.scheme}) e (lX x.scheme);obtain⟨h2,h3⟩:=DP (u:={u with scheme:=x.scheme}) e;have h1:wt v<=x.scheme.length+wt x+3*s.length+111:=h1;have h4:x.scheme.length=4:=by rw[hf];rfl
        refine⟨?_,?_⟩
        ·show wt v<=wt x+3*s.length+120;omega
        ·rcases h3 with h3|⟨y,hy,_,h3⟩
         ·exact Or.inl h3
         ·cases hy;exact Or.inr ⟨x,rfl,h2,h3⟩
       ·have h1:=El (u:={u with scheme:=x.scheme}) e rfl (lX x.scheme);obtain⟨h2,h3⟩:=MP (u:={u with scheme:=x.scheme}) e (lX x.scheme);refine⟨?_,?_⟩
        ·show wt v<=wt x+3*s.length+120;omega
        ·rcases h3 with h3|h3
         ·exact Or.inl h3
         ·exact Or.inr ⟨x,rfl,h2,h3⟩
theorem sN (s:Bs):(bK s).length<=s.length:=by
 rw[DU,List.length_reverse];have h1:∀l:Bs,(l.dropWhile pD).length<=l.length:=fun l=>(List.dropWhile_sublist pD).length_le;refine Nat.le_trans (h1 _) ?_;rw[List.length_reverse];refine Nat.le_trans (h1 _) ?_;exact List.length_filter_le _ _
def wq (u:ag):Nat:=wt u+u.query.length+u.fragment.length
def bq:Option ag->Nat
 | some x=>wq x
 | none=>0
theorem pu {s:Bs} {b:Option ag} {u:ag} (e:gE s b=.ok u) (hb:∀x,b=some x->NU x):wq u<=bq b+3*s.length+120:=by
 unfold gE at e;simp only at e;obtain⟨v,hv,e⟩:=gZ e;injection e with e
 have hc:=sN s;have f:=kG 35 (bK s);have q:=kG 63 (Lib.cut (bK s) [35]).1;have f':=eB 35 (bK s);have q':=eB 63 (Lib.cut (bK s) [35]).1;have hl:= @qH s;generalize Lib.cut (bK s) [35]=F at hv f q f' q';generalize Lib.cut F.1 [63]=G at hv q q';obtain⟨f1,f2,f3,_⟩:=f';obtain⟨q1,q2,q3,_⟩:=q';obtain⟨h1,h2⟩:=zC hv ⟨rfl,rfl,rfl,rfl,rfl,rfl,rfl⟩ hb
 have lX:v.fragment=F.2.1:=(qL hv ⟨rfl,rfl,rfl,rfl,rfl,rfl,rfl⟩ (fun h=>f1 (q3 _ h)) q1
  (fun h1 h2 h=>by
   have e1:=(q2 h1).1;have e2:=(f2 h2).1;rw[e1,e2]at h;have:=hl h;cases this)
  (fun h=>(q2 h).2) hb).2.2.2
 have hfl:=iP (cm 1) F.2.1;rw[<-e];show wt v+(aj (cm (if ai v.scheme then 3 else 2)) v.query).length+(aj (cm 1) v.fragment).length<=_;rw[lX]
 have aK:bw b<=bq b:=by
  cases b with
  | none=>exact Nat.le_refl _
  | some x=>show wt x<=wq x;unfold wq;omega
 rcases h2 with h2|⟨x,rfl,h3,h4⟩
 ·rw[h2];have hql:=iP (cm (if ai v.scheme then 3 else 2)) G.2.1;have hql:(aj (cm (if ai v.scheme then 3 else 2)) ({query:=G.2.1,hasQuery:=G.2.2,fragment:=F.2.1,hasFragment:=F.2.2}:ag).query).length<=3*G.2.1.length:=hql;omega
 ·rw[h4,h3,KY (hb x rfl).query];have h1:wt v<=wt x+3*G.1.length+120:=h1;show wt v+x.query.length+_<=wq x+3*s.length+120;unfold wq;omega
theorem J6 {u:ag} (hp:Dy u.scheme u.port):(nY u).length<=wq u+20:=by
 have h1:(atU u).length<=u.host.length+6:=by
  unfold atU;rcases hp with h|⟨n,h,hn,_⟩
  ·rw[if_pos h];omega
  ·rw[if_neg (by omega),h,Mo,List.length_append,List.length_append];have:=pV 4 n (by omega);show u.host.length+1+_<=_;omega
 have h2:(if u.opq=true then u.path.headD []else u.path.flatMap fun p=>47::p).length<=pl u.path:=by
  split
  ·cases u.path with
   | nil=>exact Nat.zero_le _
   | cons p r=>
     show p.length<=pl ([p]++r);rw[tt,tB];omega
  ·exact Nat.le_refl _
 have h3:(if u.hasHost=true then[47,47]++u.user++(if u.pass=[]then[]else[58]++u.pass)++(if u.user=[]/\u.pass=[]then[]else[64])++atU u else if u.opq=false/\1<u.path.length/\u.path.head? =some []then[47,46]else[]:Bs).length<=10+u.user.length+u.pass.length+u.host.length:=by
  split
  ·have e1:(if u.pass=[]then[]else[58]++u.pass:Bs).length<=u.pass.length+1:=by
    split
    ·exact Nat.zero_le _
    ·rw[List.length_append];show 1+_<=_;omega
   have e2:(if u.user=[]/\u.pass=[]then[]else[64]:Bs).length<=1:=by split<;>simp
   rw[List.length_append,List.length_append,List.length_append,List.length_append];show 2+_+_+_+_<=_;omega
  ·split
   ·show 2<=_;omega
   ·exact Nat.zero_le _
 have h4:(if u.hasQuery=true then 63::u.query else[]:Bs).length<=u.query.length+1:=by split<;>simp
 have h5:(if u.hasFragment=true then 35::u.fragment else[]:Bs).length<=u.fragment.length+1:=by split<;>simp
 unfold nY;rw[List.length_append,List.length_append,List.length_append,List.length_append,List.length_append];unfold wq wt;show u.scheme.length+1+_+_+_+_<=_;omega
def jJ (scheme:Bs) (path:List Bs) (p:Bs) (gu:Bool):List Bs:=
 let q:=aj (cm 4) p
 if eR q=2 then(if gu=false then bu scheme path++[[]]else bu scheme path)
 else if eR q=1 then(if gu=false then path++[[]]else path)
 else path++[if scheme=bM/\path=[]/\bL q=true then q.take 1++[58]else q]
theorem vW (sp:Bool):∀s:Bs,fP sp s=(dI sp s).1::(if(dI sp s).2.2 then fP sp (dI sp s).2.1 else[])
 | []=>rfl
 | c::r=>by
   have ih:=vW sp r;rw[fP];by_cases h:bz sp c=true
   ·have h1:(dI sp (c::r))=([],r,true):=by simp[dI,h]
    rw[if_pos h,h1]
    simp
   ·have h2:bz sp c=false:=by simpa using h
    have h1:(dI sp (c::r))=(c::(dI sp r).1,(dI sp r).2.1,(dI sp r).2.2):=by simp[dI,h2]
    rw[if_neg h,h1,ih]
theorem Mp (scheme:Bs) (path:List Bs) (p:Bs) (r:List Bs):onL scheme path (p::r)=onL scheme (jJ scheme path p (!decide (r=[]))) r:=by
 rw[onL,jJ];by_cases hr:r=[]
 ·simp only[hr];by_cases h2:eR (aj (cm 4) p)=2
  ·simp[h2]
  ·by_cases h1:eR (aj (cm 4) p)=1<;>simp[h1,h2]
 ·simp only[hr];by_cases h2:eR (aj (cm 4) p)=2
  ·simp[h2]
  ·by_cases h1:eR (aj (cm 4) p)=1<;>simp[h1,h2]
theorem RV (scheme:Bs) (path:List Bs):onL scheme path []=path:=by rw[onL]
theorem MF (u:ag) (t:Bs):onP u t=if(dI (ai u.scheme) t).2.2 then onP {u with path:=jJ u.scheme u.path (dI (ai u.scheme) t).1 true} (dI (ai u.scheme) t).2.1 else{u with path:=jJ u.scheme u.path (dI (ai u.scheme) t).1 false}:=by
 unfold onP;rw[vW,Mp];cases h:(dI (ai u.scheme) t).2.2
 ·simp[RV]
 ·simp[sC]
theorem oq (scheme:Bs) (path:List Bs) (p:Bs) (gu:Bool) (h:eR (aj (cm 4) p)=2):jJ scheme path p gu=if gu=false then bu scheme path++[[]]else bu scheme path:=by simp[jJ,h]
theorem oh (scheme:Bs) (path:List Bs) (p:Bs) (gu:Bool) (h:eR (aj (cm 4) p)=1):jJ scheme path p gu=if gu=false then path++[[]]else path:=by simp[jJ,h]
theorem oa (scheme:Bs) (path:List Bs) (p:Bs) (gu:Bool) (h:eR (aj (cm 4) p)=0):jJ scheme path p gu=path++[if scheme=bM/\path=[]/\bL (aj (cm 4) p)=true then(aj (cm 4) p).take 1++[58]else aj (cm 4) p]:=by simp[jJ,h]
theorem uu (p:Bs):eR p=0\/eR p=1\/eR p=2:=by
 unfold eR;split
 ·exact .inr (.inl rfl)
 ·split
  ·exact .inr (.inr rfl)
  ·exact .inl rfl
def plQ (q:UInt8->Bool) (l:Bs):Option Nat:=l.findIdx? q
theorem OJ {q:UInt8->Bool} {l:Bs} (h:plQ q l=none):l.takeWhile (fun c=> !q c)=l/\l.dropWhile (fun c=> !q c)=[]/\l.any q=false:=by
 induction l with
 | nil=>exact⟨rfl,rfl,rfl⟩
 | cons c r ih=>
   rw[plQ,List.findIdx?_cons]at h;cases hc:q c with
   | true=>rw[hc]at h;simp at h
   | false=>
     rw[hc]at h;obtain⟨h1,h2,h3⟩:=ih (by simpa [plQ]using h)
     simp[hc,h1,h2,h3]
theorem D7 {q:UInt8->Bool} {l:Bs} {i:Nat} (h:plQ q l=some i):i<l.length/\l.takeWhile (fun c=> !q c)=l.take i/\(l.dropWhile (fun c=> !q c)).drop 1=l.drop (i+1)/\l.any q=true:=by
 induction l generalizing i with
 | nil=>cases h
 | cons c r ih=>
   rw[plQ,List.findIdx?_cons]at h;cases hc:q c with
   | true=>
     rw[hc]at h;obtain rfl:0=i:=by simpa using h
     simp[hc]
   | false=>
     rw[hc]at h;simp only[Bool.false_eq_true,if_false,Option.map_eq_some_iff]at h;obtain⟨k,hk,rfl⟩:=h;obtain⟨h1,h2,h3,h4⟩:=ih hk;exact⟨by simp;omega,by simp[hc,h2],by simp[hc,h3],by simp[hc,h4]⟩
theorem Ai {sp:Bool} {s:Bs} (h:plQ (bz sp) s=none):dI sp s=(s,[],false):=by
 obtain⟨h1,h2,h3⟩:=OJ h
 simp[dI,h1,h2,h3]
theorem Ag {sp:Bool} {s:Bs} {i:Nat} (h:plQ (bz sp) s=some i):dI sp s=(s.take i,s.drop (i+1),true):=by
 obtain⟨h0,h1,h2,h3⟩:=D7 h;unfold dI;rw[h1,h2,h3]
theorem NO {q:UInt8->Bool} {l:Bs} {i:Nat} (h:plQ q l=some i):i<l.length:=(D7 h).1
theorem DQ (q:UInt8->Bool) (l:Bs) (pos:Nat):∀k,(∀j b,pos<=j->j<pos+k->l[j]? =some b->q b=false)->(plQ q (l.drop pos)).map (·+pos)=(plQ q (l.drop (pos+k))).map (·+(pos+k))
 | 0,_=>rfl
 | k+1,h=>by
   rw[DQ q l pos k fun j b h1 h2 hj=>h j b h1 (by omega) hj];by_cases hl:pos+k<l.length
   ·rw[List.drop_eq_getElem_cons hl,plQ,List.findIdx?_cons,h (pos+k) l[pos+k] (by omega) (by omega) (List.getElem?_eq_getElem hl)];show _=Option.map _ (plQ q (l.drop (pos+k+1)));rw[plQ];cases List.findIdx? q (l.drop (pos+k+1))with
    | none=>rfl
    | some n=>simp;omega
   ·rw[List.drop_eq_nil_of_le (by omega),List.drop_eq_nil_of_le (by omega)];rfl
theorem Ku (scheme:Bs) (path:List Bs) (p:Bs) (gu:Bool):(jJ scheme path p gu).length<=path.length+1:=by
 have hs:(bu scheme path).length<=path.length:=by
  unfold bu;split
  ·exact Nat.le_refl _
  ·simp
 rcases uu (aj (cm 4) p)with h|h|h
 ·rw[oa _ _ _ _ h];simp
 ·rw[oh _ _ _ _ h];split<;>simp
 ·rw[oq _ _ _ _ h];split<;>simp<;>omega
theorem zc {sp:Bool} {s:Bs} (h:(dI sp s).2.2=true):(dI sp s).1.length+(dI sp s).2.1.length+1=s.length:=by
 cases hp:plQ (bz sp) s with
 | none=>rw[Ai hp]at h;cases h
 | some i=>
   have:=NO hp;rw[Ag hp]
   simp;omega
theorem lf (sp:Bool):(if sp then([47,92]:Bs)else[47]).contains=bz sp:=by
 funext c
 cases sp<;>(rw[Bool.eq_iff_iff];simp[bz])
end Lz
namespace Go.Proofs.YtecoeebjaleeiaaGreatDoor
open Go.RowKit
theorem rS (s:ByteArray) (k:List UInt8):(s.toList==k)=decide (s.data.toList=k):=by
 rw[Lib.toList_data,Bool.eq_iff_iff];simp
theorem bg {s:ByteArray} {k:List UInt8} (h:s.data.toList=k):(s.toList==k)=true:=(rS s k).trans (decide_eq_true h)
theorem bN {s:ByteArray} {k:List UInt8} (h:¬s.data.toList=k):(s.toList==k)=false:=(rS s k).trans (decide_eq_false h)
theorem fu (s:ByteArray) (w:World):Calls Tryz.prog 133 #[.string s] w fun e w'=>e=.returned (.int .i64 (Lz.gI s.data.toList))/\w=w':=by
 by_cases h0:s.data.toList=[104,116,116,112]
 ·have g0:=bg h0;have HV:Hid (Lz.gI s.data.toList=80):=by show _=_;rw[h0];rfl
  clear h0;go_enter Tryz.func133,Tryz.ntmps133
  go_wp2_with fail
  go_ret;rw[HV.out];exact⟨rfl,rfl⟩
 ·have g0:=bN h0;by_cases h1:s.data.toList=[119,115]
  ·have g1:=bg h1;have HV:Hid (Lz.gI s.data.toList=80):=by show _=_;rw[h1];rfl
   clear h0 h1;go_enter Tryz.func133,Tryz.ntmps133
   go_wp2_with fail
   go_ret;rw[HV.out];exact⟨rfl,rfl⟩
  ·have g1:=bN h1;by_cases h2:s.data.toList=[104,116,116,112,115]
   ·have g2:=bg h2;have HV:Hid (Lz.gI s.data.toList=443):=by show _=_;rw[h2];rfl
    clear h0 h1 h2;go_enter Tryz.func133,Tryz.ntmps133
    go_wp2_with fail
    go_ret;rw[HV.out];exact⟨rfl,rfl⟩
   ·have g2:=bN h2;by_cases h3:s.data.toList=[119,115,115]
    ·have g3:=bg h3;have HV:Hid (Lz.gI s.data.toList=443):=by show _=_;rw[h3];rfl
     clear h0 h1 h2 h3;go_enter Tryz.func133,Tryz.ntmps133
     go_wp2_with fail
     go_ret;rw[HV.out];exact⟨rfl,rfl⟩
    ·have g3:=bN h3;by_cases h4:s.data.toList=[102,116,112]
     ·have g4:=bg h4;have HV:Hid (Lz.gI s.data.toList=21):=by show _=_;rw[h4];rfl
      clear h0 h1 h2 h3 h4;go_enter Tryz.func133,Tryz.ntmps133
      go_wp2_with fail
      go_ret;rw[HV.out];exact⟨rfl,rfl⟩
     ·have g4:=bN h4
      have HV:Hid (Lz.gI s.data.toList= -1):=by
       show _=_;unfold Lz.gI;rw[if_neg (fun h=>h.elim h0 h1),if_neg (fun h=>h.elim h2 h3),if_neg (show ¬s.data.toList=Lz.Zj from h4)]
      clear h0 h1 h2 h3 h4;go_enter Tryz.func133,Tryz.ntmps133
      go_wp2_with fail
      go_ret;rw[HV.out];exact⟨rfl,rfl⟩
theorem DA (s:ByteArray) (w:World):Calls Tryz.prog 92 #[.string s] w fun e w'=>e=.returned (.bool (Lz.ai s.data.toList))/\w=w':=by
 by_cases h0:s.data.toList=[102,105,108,101]
 ·have g0:=bg h0;have HV:Hid (Lz.ai s.data.toList=true):=by show _=_;rw[h0];rfl
  clear h0;go_enter Tryz.func92,Tryz.ntmps92
  go_wp2_with fail
  go_ret;rw[HV.out];exact⟨rfl,rfl⟩
 ·have g0:=bN h0;have cD:=fu s w;obtain⟨d,hd⟩:∃d,d=Lz.gI s.data.toList:=⟨_,rfl⟩
  have HV:Hid (Lz.ai s.data.toList= !(d== -1)):=by
   show _=_;unfold Lz.ai;have:(s.data.toList==Lz.bM)=false:=by rw[beq_eq_false_iff_ne];exact h0
   rw[this,Bool.false_or,hd]
  rw[<-hd]at cD;have CD:=Ih cD;have ed:(d != -1)= !(d== -1):=rfl;clear h0 cD hd;go_enter Tryz.func92,Tryz.ntmps92
  go_wp2_with fail
  refine CD.out.mono ?_;rintro e w1 ⟨rfl,rfl⟩
  go_wp2_with fail
  go_ret;rw[HV.out];exact⟨by first |rfl|rw[ed],rfl⟩
def nS:Option Nat->Int
 | some n=>n
 | none=> -1
theorem yR (a b:UInt8):((a.toNat:Int)==(b.toNat:Int))=(a==b):=Kr a b
theorem UF {s:ByteArray} (h:s.size=2):s.data.toList=[s[0],s[1]]:=by
 have h0:=aB (s:=s) (n:=0) (by omega);have h1:=aB (s:=s) (n:=1) (by omega);have hl:s.data.toList.length=2:=h;generalize s.data.toList=l at h0 h1 hl
 match l,hl with
 | [a,b],_=>
   have e0:a=s[0]:=by simpa using h0
   have e1:b=s[1]:=by simpa using h1
   rw[e0,e1]
theorem pk (s:ByteArray) (w:World):Calls Tryz.prog 95 #[.string s] w fun e w'=>e=.returned (.bool (Lz.bL s.data.toList))/\w=w':=by
 by_cases h2:s.size=2
 ·have X3:((s.size:Int)==2)=true:=by simp;omega
  have yz:0<s.size:=by omega
  have Ul:1<s.size:=by omega
  have acZ:(0:Int)<(s.size:Int):=by omega
  have abL:(1:Int)<(s.size:Int):=by omega
  have hl:=UF h2;obtain⟨a,ha⟩:∃a,a=s[0]:=⟨_,rfl⟩;obtain⟨b,hb⟩:∃b,b=s[1]:=⟨_,rfl⟩;have haI:(s[0].toNat:Int)=(a.toNat:Int):=by rw[ha]
  have hbI:(s[1].toNat:Int)=(b.toNat:Int):=by rw[hb]
  rw[<-ha,<-hb]at hl;have HV:Hid (Lz.bL s.data.toList=(Lz.bG a&&(b==58||b==124))):=by show _=_;rw[hl];rfl
  have cA:=lY a w;have b1:((b.toNat:Int)==58)=(b==58):=yR b 58;have b2:((b.toNat:Int)==124)=(b==124):=yR b 124;generalize Lz.bG a=p at cA HV;generalize (b==58)=q at b1 HV;generalize (b==124)=r at b2 HV;have CA:=Ih cA;have H2:=Ih h2;clear hl ha hb cA h2;cases p
  ·go_enter Tryz.func95,Tryz.ntmps95
   go_wp2_with fail
   refine CA.out.mono ?_;rintro e w1 ⟨rfl,rfl⟩
   go_wp2_with fail
   go_ret;rw[HV.out];exact⟨rfl,rfl⟩
  ·cases q
   ·go_enter Tryz.func95,Tryz.ntmps95
    go_wp2_with fail
    refine CA.out.mono ?_;rintro e w1 ⟨rfl,rfl⟩
    go_wp2_with fail
    go_ret;rw[HV.out];exact⟨by cases r<;>first |rfl|(rw[b2];rfl),rfl⟩
   ·go_enter Tryz.func95,Tryz.ntmps95
    go_wp2_with fail
    refine CA.out.mono ?_;rintro e w1 ⟨rfl,rfl⟩
    go_wp2_with fail
    go_ret;rw[HV.out];exact⟨rfl,rfl⟩
 ·have X3:((s.size:Int)==2)=false:=by simp;omega
  have HV:Hid (Lz.bL s.data.toList=false):=by
   show _=_;have hl:s.data.toList.length≠2:=h2;generalize s.data.toList=l at hl
   match l,hl with
   | [],_=>rfl
   | [_],_=>rfl
   | [_,_],hl=>exact absurd rfl hl
   | _::_::_::_,_=>rfl
  go_enter Tryz.func95,Tryz.ntmps95
  go_wp2_with fail
  go_ret;rw[HV.out];exact⟨rfl,rfl⟩
theorem JR (s:ByteArray) (hs:s.size<=1048576) (w:World):Calls Tryz.prog 137 #[.string s] w fun e w'=>e=.returned (.int .i64 (nS (Lz.ep false s.data.toList)))/\w=w':=by
 obtain⟨o,ho⟩:∃o,o=Lz.ep false s.data.toList:=⟨_,rfl⟩;have Ho:=Ih ho;rw[<-ho];clear ho;go_enter Tryz.func137,Tryz.ntmps137
 go_wp2_with fail
 go_loopw [3,7] (fun i k wr=>∃(b:Bool) (j:Nat),i=.bool b/\k=.int .i64 j/\j<=s.size/\Hid (o=(Lz.ep b (s.data.toList.drop j)).map (·+j))/\w=wr) (fun _ k _=>s.size-(intOf k).toNat)
 case atStart=>exact⟨false,0,rfl,rfl,Nat.zero_le _,by show _=_;rw[Ho.out,List.drop_zero];simp,rfl⟩
 case round=>
  obtain⟨b,j,rfl,rfl,hj,hO,rfl⟩:=hrel;by_cases aV:j<s.size
  ·have bW:(j:Int)<(s.size:Int):=by omega
   have tM:(0:Int)<=(j:Int):=by omega
   obtain⟨c,hc⟩:∃c,c=s[j]:=⟨_,rfl⟩;have TH:(s[j].toNat:Int)=(c.toNat:Int):=by rw[hc]
   have hst:Hid (o=(if c==91 then(Lz.ep true (s.data.toList.drop (j+1))).map (·+1)else if c==93 then(Lz.ep false (s.data.toList.drop (j+1))).map (·+1)else if c==58&& !b then some 0 else(Lz.ep b (s.data.toList.drop (j+1))).map (·+1)).map (·+j)):=by
    show _=_;rw[hO.out,List.drop_eq_getElem_cons (show j<s.data.toList.length from aV),Lz.ep,hc];rfl
   have hmm:∀x:Option Nat,(x.map (·+1)).map (·+j)=x.map (·+(j+1)):=by
    intro x;cases x with
    | none=>rfl
    | some n=>simp;omega
   have b1:((c.toNat:Int)==91)=(c==91):=yR c 91;have b2:((c.toNat:Int)==93)=(c==93):=yR c 93;have b3:((c.toNat:Int)==58)=(c==58):=yR c 58;generalize (c==91)=q1 at b1 hst;generalize (c==93)=q2 at b2 hst;generalize (c==58)=q3 at b3 hst;have Hmm:=Ih hmm;clear hc hO hmm;cases q1
   ·cases q2
    ·cases q3
     ·have HN:Hid (o=(Lz.ep b (s.data.toList.drop (j+1))).map (·+(j+1))):=by show _=_;rw[hst.out,<-Hmm.out];rfl
      go_wp2_with fail
      go_roundw
      case rel=>exact⟨b,j+1,rfl,by go_num,by omega,HN,trivial⟩
      case measure=>simp[intOf];omega
     ·cases b
      ·have HN:Hid (o=some j):=by show _=_;rw[hst.out];simp
       go_wp2_with fail
       go_ret;rw[HN.out];exact⟨rfl,rfl⟩
      ·have HN:Hid (o=(Lz.ep true (s.data.toList.drop (j+1))).map (·+(j+1))):=by show _=_;rw[hst.out,<-Hmm.out];rfl
       go_wp2_with fail
       go_roundw
       case rel=>exact⟨true,j+1,rfl,by go_num,by omega,HN,trivial⟩
       case measure=>simp[intOf];omega
    ·have HN:Hid (o=(Lz.ep false (s.data.toList.drop (j+1))).map (·+(j+1))):=by show _=_;rw[hst.out,<-Hmm.out];rfl
     go_wp2_with fail
     go_roundw
     case rel=>exact⟨false,j+1,rfl,by go_num,by omega,HN,trivial⟩
     case measure=>simp[intOf];omega
   ·have HN:Hid (o=(Lz.ep true (s.data.toList.drop (j+1))).map (·+(j+1))):=by show _=_;rw[hst.out,<-Hmm.out];rfl
    go_wp2_with fail
    go_roundw
    case rel=>exact⟨true,j+1,rfl,by go_num,by omega,HN,trivial⟩
    case measure=>simp[intOf];omega
  ·have bW:¬(j:Int)<(s.size:Int):=by omega
   have HN:Hid (o=none):=by
    show _=_;rw[hO.out,List.drop_eq_nil_of_le (show s.data.toList.length<=j by rw[aa];omega)];rfl
   go_wp2_with fail
   go_ret;rw[HN.out];exact⟨rfl,rfl⟩
theorem fN (s:ByteArray) (k:Nat):(s.extract 0 k).data.toList=s.data.toList.take k:=by
 rw[Lib.extract_data];rfl
theorem BT {l:List UInt8} (h:l.length<2):Lz.gz l=false:=by
 match l,h with
 | [],_=>rfl
 | [_],_=>rfl
theorem Gh {l:List UInt8} (h:l.length=2):Lz.gz l=Lz.bL (l.take 2):=by
 match l,h with
 | [_,_],_=>rfl
theorem EB {l:List UInt8} {c:UInt8} (h:l[2]? =some c):Lz.gz l=(Lz.bL (l.take 2)&&(c==47||c==92)):=by
 match l,h with
 | a::b::d::r,h=>
   have:d=c:=by simpa using h
   rw[<-this];rfl
theorem wS (s:ByteArray) (w:World):Calls Tryz.prog 97 #[.string s] w fun e w'=>e=.returned (.bool (Lz.gz s.data.toList))/\w=w':=by
 by_cases h2:2<=s.size
 ·have X3:(2:Int)<=(s.size:Int):=by omega
  have cD:=pk (s.extract 0 2) w;rw[fN]at cD;obtain⟨q,hq⟩:∃q,q=Lz.bL (s.data.toList.take 2):=⟨_,rfl⟩;rw[<-hq]at cD;have CD:=Ih cD;clear cD;by_cases he:s.size=2
  ·have heI:((s.size:Int)==2)=true:=by simp;omega
   have HV:Hid (Lz.gz s.data.toList=q):=by show _=_;rw[Gh (show s.data.toList.length=2 from he),hq]
   have He:=Ih he;clear he hq;cases q
   ·go_enter Tryz.func97,Tryz.ntmps97
    go_wp2_with fail
    refine CD.out.mono ?_;rintro e w1 ⟨rfl,rfl⟩
    go_wp2_with fail
    go_ret;rw[HV.out];exact⟨rfl,rfl⟩
   ·go_enter Tryz.func97,Tryz.ntmps97
    go_wp2_with fail
    refine CD.out.mono ?_;rintro e w1 ⟨rfl,rfl⟩
    go_wp2_with fail
    go_ret;rw[HV.out];exact⟨rfl,rfl⟩
  ·have heI:((s.size:Int)==2)=false:=by simp;omega
   have AM:2<s.size:=by omega
   have acT:(2:Int)<(s.size:Int):=by omega
   obtain⟨c,hc⟩:∃c,c=s[2]:=⟨_,rfl⟩;have TH:(s[2].toNat:Int)=(c.toNat:Int):=by rw[hc]
   have HV:Hid (Lz.gz s.data.toList=(q&&(c==47||c==92))):=by show _=_;rw[EB (c:=c) (by rw[aB AM,hc]),hq]
   have b1:((c.toNat:Int)==47)=(c==47):=yR c 47;have b2:((c.toNat:Int)==92)=(c==92):=yR c 92;generalize (c==47)=p1 at b1 HV;generalize (c==92)=p2 at b2 HV;clear hq hc he;cases q
   ·go_enter Tryz.func97,Tryz.ntmps97
    go_wp2_with fail
    refine CD.out.mono ?_;rintro e w1 ⟨rfl,rfl⟩
    go_wp2_with fail
    go_ret;rw[HV.out];exact⟨rfl,rfl⟩
   ·cases p1
    ·go_enter Tryz.func97,Tryz.ntmps97
     go_wp2_with fail
     refine CD.out.mono ?_;rintro e w1 ⟨rfl,rfl⟩
     go_wp2_with fail
     go_ret;rw[HV.out];exact⟨by cases p2<;>first |rfl|(rw[b2];rfl),rfl⟩
    ·go_enter Tryz.func97,Tryz.ntmps97
     go_wp2_with fail
     refine CD.out.mono ?_;rintro e w1 ⟨rfl,rfl⟩
     go_wp2_with fail
     go_ret;rw[HV.out];exact⟨rfl,rfl⟩
 ·have X3:¬(2:Int)<=(s.size:Int):=by omega
  have HV:Hid (Lz.gz s.data.toList=false):=by show _=_;rw[BT (show s.data.toList.length<2 by rw[aa];omega)]
  go_enter Tryz.func97,Tryz.ntmps97
  go_wp2_with fail
  go_ret;rw[HV.out];exact⟨rfl,rfl⟩
def bd (w:World) (v:Value) (l:List (List UInt8)):Prop:=
 ∃(a:Option Addr) (c:Nat) (xs:List ByteArray),v=.slice a xs.length c/\xs.map (fun x:ByteArray=>x.data.toList)=l/\∀(j:Nat) (x:ByteArray),xs[j]? =some x->∃B off,a=some ⟨B,off,none⟩/\B<w.heap.size/\w.cell? ⟨B,off+j,none⟩=some (.string x)
theorem bd.below {w w':World} {v:Value} {l:List (List UInt8)} (h:bd w v l) (hb:Below w.heap.size w w'):bd w' v l:=by
 obtain⟨a,c,xs,h1,h2,h3⟩:=h;refine⟨a,c,xs,h1,h2,fun j x hj=>?_⟩;obtain⟨B,off,e1,e2,e3⟩:=h3 j x hj;exact⟨B,off,e1,Nat.lt_of_lt_of_le e2 hb.size,by rw[hb.cell (p:=⟨B,off+j,none⟩) e2];exact e3⟩
theorem wU {l:List UInt8} (h:Lz.bL l=true):l.length=2:=by
 match l,h with
 | [_,_],_=>rfl
theorem xe (v:Value) (l:List (List UInt8)) (w:World) (h:bd w v l):Calls Tryz.prog 98 #[v] w fun e w'=>e=.returned (.bool (Lz.iS l))/\w=w':=by
 obtain⟨a,c,xs,rfl,rfl,hx⟩:=h;cases xs with
 | nil=>
   go_enter Tryz.func98,Tryz.ntmps98
   go_wp2_with fail
   go_ret;exact⟨rfl,rfl⟩
 | cons x r=>
   obtain⟨B,off,rfl,hB,hc⟩:=hx 0 x rfl;rw[Nat.add_zero]at hc;have yB:(0:Int)<((x::r).length:Int):=by rw[List.length_cons];omega
   have Cj:(0:Int)<(r.length:Int)+1:=by omega
   have cD:=pk x w;have HV:Hid (Lz.iS ((x::r).map fun x:ByteArray=>x.data.toList)=(Lz.bL x.data.toList&&(x.data.toList[1]? ==some 58))):=rfl;cases hq:Lz.bL x.data.toList with
   | false=>
     rw[hq]at cD;have WL:Hid (Lz.iS ((x::r).map fun x:ByteArray=>x.data.toList)=false):=by show _=_;rw[HV.out,hq];rfl
     have CD:=Ih cD;clear cD hq hx;go_enter Tryz.func98,Tryz.ntmps98
     go_wp2_with fail
     refine CD.out.mono ?_;rintro e w1 ⟨rfl,rfl⟩
     go_wp2_with fail
     go_ret;rw[WL.out];exact⟨rfl,rfl⟩
   | true=>
     rw[hq]at cD;have hz:x.size=2:=wU hq;have Ul:1<x.size:=by omega
     have abL:(1:Int)<(x.size:Int):=by omega
     obtain⟨d,hd⟩:∃d,d=x[1]:=⟨_,rfl⟩;have hdI:(x[1].toNat:Int)=(d.toNat:Int):=by rw[hd]
     have b1:((d.toNat:Int)==58)=(d==58):=yR d 58
     have WL:Hid (Lz.iS ((x::r).map fun x:ByteArray=>x.data.toList)=(d==58)):=by
      show _=_;rw[HV.out,hq,aB Ul,<-hd];rfl
     have CD:=Ih cD;have Hz:=Ih hz;clear cD hq hx hd hz;go_enter Tryz.func98,Tryz.ntmps98
     go_wp2_with fail
     refine CD.out.mono ?_;rintro e w1 ⟨rfl,rfl⟩
     go_wp2_with fail
     go_ret;rw[WL.out];exact⟨by first |rfl|rw[b1]|(rw[<-b1];rfl),rfl⟩
theorem dG {B M:Nat} {w:World} {x:MkV} {sp:Bool} {sl:ByteArray} (h:nT B M w x sp sl) (k:Nat) (v:Value) (x':MkV) (sp':Bool) (sl':ByteArray)
  (hc:(#[.string x.sch,.string x.usr,.string x.pas,.bool x.hh,.string x.hst,.int .i64 x.prt,.bool x.opq,x.pv,.bool x.hq,.bool x.hf,.string x.qry,.string x.frg,.bool sp,.string sl]:Array Value).setIfInBounds k v= #[.string x'.sch,.string x'.usr,.string x'.pas,.bool x'.hh,.string x'.hst,.int .i64 x'.prt,.bool x'.opq,x'.pv,.bool x'.hq,.bool x'.hf,.string x'.qry,.string x'.frg,.bool sp',.string sl'])
  (ho:∀w',aL w' B x.pv x.xs->(aL w' B x'.pv x'.xs)):nT B M (w.setCell ⟨M,k,none⟩ v) x' sp' sl':=
 ⟨g9 h.row k v hc,ho _ (h.own.setCell h.row rY k v),h.le⟩
theorem G3 (B M:Nat) (x:MkV) (sp:Bool) (sl s:ByteArray) (w:World) (hm:nT B M w x sp sl):
  Calls Tryz.prog 55 #[.pointer (some ⟨M,0,none⟩),.string s] w fun e w'=>e=.returned (.tuple #[])/\Below B w w'/\nT B M w' {x with sch:=s} (Lz.ai s.data.toList) (bp (Lz.ai s.data.toList)):=by
 obtain⟨sch,usr,pas,hh,hst,prt,opq,pv,xs,hq,hf,qry,frg⟩:=x;have pI:=hm.le;have cS:=Ih (fun W=>DA s W);obtain⟨q,Xu⟩:∃q,q=Lz.ai s.data.toList:=⟨_,rfl⟩;rw[<-Xu]at cS⊢;clear Xu;have m1:=dG hm 0 (.string s) {sch:=s,usr:=usr,pas:=pas,hh:=hh,hst:=hst,prt:=prt,opq:=opq,pv:=pv,xs:=xs,hq:=hq,hf:=hf,qry:=qry,frg:=frg} sp sl (by simp) (fun _ h=>h);have m2:=dG m1 12 (.bool q) {sch:=s,usr:=usr,pas:=pas,hh:=hh,hst:=hst,prt:=prt,opq:=opq,pv:=pv,xs:=xs,hq:=hq,hf:=hf,qry:=qry,frg:=frg} q sl (by simp) (fun _ h=>h);have m3:=dG m2 13 (.string ⟨#[47]⟩) {sch:=s,usr:=usr,pas:=pas,hh:=hh,hst:=hst,prt:=prt,opq:=opq,pv:=pv,xs:=xs,hq:=hq,hf:=hf,qry:=qry,frg:=frg} q ⟨#[47]⟩ (by simp) (fun _ h=>h);have m4:=dG m3 13 (.string ⟨#[47,92]⟩) {sch:=s,usr:=usr,pas:=pas,hh:=hh,hst:=hst,prt:=prt,opq:=opq,pv:=pv,xs:=xs,hq:=hq,hf:=hf,qry:=qry,frg:=frg} q ⟨#[47,92]⟩ (by simp) (fun _ h=>h);have b3:Below B w (((w.setCell ⟨M,0,none⟩ (.string s)).setCell ⟨M,12,none⟩ (.bool q)).setCell ⟨M,13,none⟩ (.string ⟨#[47]⟩)):=(((Below.refl B w).setCell (p:=⟨M,0,none⟩) pI _).setCell (p:=⟨M,12,none⟩) pI _).setCell (p:=⟨M,13,none⟩) pI _;have b4:=b3.setCell (p:=⟨M,13,none⟩) pI (.string ⟨#[47,92]⟩)
 have c0:=rowAt hm.row 0 (.string sch) rfl;have f0:=bE hm.row 0;have c12:=rowAt hm.row 12 (.bool sp) rfl;have f12:=bE hm.row 12;have c13:=rowAt hm.row 13 (.string sl) rfl;have f13:=bE hm.row 13;have e12:=rowAt m3.row 12 (.bool q) rfl;have M3:=Ih m3;have M4:=Ih m4;have B3:=Ih b3;have B4:=Ih b4;clear m1 m2 m3 m4 b3 b4 hm;cases q
 ·go_enter Tryz.func55,Tryz.ntmps55
  go_wp2_with fail
  refine(cS.out _).mono ?_;rintro e w1 ⟨rfl,rfl⟩
  go_wp2_with fail
  go_end0
  exact⟨rfl,B3.out,M3.out⟩
 ·go_enter Tryz.func55,Tryz.ntmps55
  go_wp2_with fail
  refine(cS.out _).mono ?_;rintro e w1 ⟨rfl,rfl⟩
  go_wp2_with fail
  go_end0
  exact⟨rfl,B4.out,M4.out⟩
theorem FV (s:List UInt8):Lz.bu s []=[]:=by unfold Lz.bu;split<;>rfl
theorem Dt {s:List UInt8} {l:List (List UInt8)} (h:¬(s=Lz.bM/\l.length=1/\Lz.iS l=true)):Lz.bu s l=l.dropLast:=by unfold Lz.bu;rw[if_neg h]
theorem Gt {B M:Nat} {w:World} {sch usr pas:ByteArray} {hh:Bool} {hst:ByteArray} {prt:Int} {opq:Bool} {a:Option Addr} {k c:Nat} {xs:List ByteArray} {hq hf:Bool} {qry frg:ByteArray} {sp:Bool} {sl:ByteArray}
  (hm:nT B M w ⟨sch,usr,pas,hh,hst,prt,opq,.slice a (k+1) c,xs,hq,hf,qry,frg⟩ sp sl) (hn:xs.length=k+1):
  Below B w (w.setCell ⟨M,7,none⟩ (.slice a k k))/\nT B M (w.setCell ⟨M,7,none⟩ (.slice a k k)) ⟨sch,usr,pas,hh,hst,prt,opq,.slice a k k,xs.dropLast,hq,hf,qry,frg⟩ sp sl:=
 ⟨(Below.refl B w).setCell (p:=⟨M,7,none⟩) hm.le _,dG hm 7 (.slice a k k) ⟨sch,usr,pas,hh,hst,prt,opq,.slice a k k,xs.dropLast,hq,hf,qry,frg⟩ sp sl (by simp) (fun _ h=>h.pop (by show 1<=xs.length;omega))⟩
theorem map_dropLast (xs:List ByteArray):xs.dropLast.map (fun x:ByteArray=>x.data.toList)=(xs.map (fun x:ByteArray=>x.data.toList)).dropLast:=by rw[List.map_dropLast]
theorem ug (B M:Nat) (u:Lz.ag) (w:World) (hm:dS B M w u) (hl:u.path.length<=1000000000):
  Calls Tryz.prog 93 #[.pointer (some ⟨M,0,none⟩)] w (RMk B M {u with path:=Lz.bu u.scheme u.path} w):=by
 obtain⟨sch,usr,pas,hh,hst,prt,opq,a,c,xs,hq,hf,qry,frg,hk,rfl,hc,aA⟩:=hm.form;have sx:=hm;have Cq:xs.length<=1000000000:=by simpa using hl
 have c7:=rowAt hk.row 7 (.slice a xs.length c) rfl;have c0:=rowAt hk.row 0 (.string sch) rfl;have f7:=bE hk.row 7;have Yo:bd w (.slice a xs.length c) (xs.map (fun x:ByteArray=>x.data.toList)):=⟨a,c,xs,rfl,rfl,aA⟩;have cR:=xe _ _ w Yo;obtain⟨n,hn⟩:∃n,n=xs.length:=⟨_,rfl⟩;rw[<-hn]at c7 cR hc Cq hk;clear aA hl Yo;cases n with
 | zero=>
   have hx:xs=[]:=List.length_eq_zero_iff.1 hn.symm;subst hx
   have HF:Hid (dS B M w ⟨sch.data.toList,usr.data.toList,pas.data.toList,hh,hst.data.toList,prt,opq,Lz.bu sch.data.toList [],hq,hf,qry.data.toList,frg.data.toList⟩):=by
    rw[FV];exact sx
   clear hm sx hk cR hn;go_enter Tryz.func93,Tryz.ntmps93
   go_wp2_with fail
   go_end0
   exact⟨rfl,Below.refl _ _,HF.out⟩
 | succ k=>
   have yx:(0:Int)<(((k+1:Nat)):Int):=by omega
   have AJ:=Gt hk hn.symm
   have HD:Hid ((¬(sch.data.toList=Lz.bM/\k=0/\Lz.iS (xs.map (fun x:ByteArray=>x.data.toList))=true))->RMk B M ⟨sch.data.toList,usr.data.toList,pas.data.toList,hh,hst.data.toList,prt,opq,Lz.bu sch.data.toList (xs.map (fun x:ByteArray=>x.data.toList)),hq,hf,qry.data.toList,frg.data.toList⟩ w (.returned (.tuple #[])) (w.setCell ⟨M,7,none⟩ (.slice a k k))):=by
    intro AL;refine⟨rfl,AJ.1,_,AJ.2,Ih ?_⟩;rw[Dt (by rw[List.length_map,<-hn];intro h;exact AL ⟨h.1,by omega,h.2.2⟩),<-map_dropLast];rfl
   have WU:((k+1:Nat):Int)-1=(k:Int):=by omega
   have Ig:k<=1000000000:=by omega
   have hkc:k<=c:=by omega
   by_cases tL:sch.data.toList=Lz.bM
   ·have g0:=bg (k:=[102,105,108,101]) tL;by_cases zo:k=0
    ·subst zo;cases hr:Lz.iS (xs.map (fun x:ByteArray=>x.data.toList))with
     | true=>
       have HF:Hid (dS B M w ⟨sch.data.toList,usr.data.toList,pas.data.toList,hh,hst.data.toList,prt,opq,Lz.bu sch.data.toList (xs.map (fun x:ByteArray=>x.data.toList)),hq,hf,qry.data.toList,frg.data.toList⟩):=by
        have:Lz.bu sch.data.toList (xs.map (fun x:ByteArray=>x.data.toList))=xs.map (fun x:ByteArray=>x.data.toList):=by unfold Lz.bu;rw[if_pos ⟨tL,by rw[List.length_map,<-hn],hr⟩]
        rw[this];exact sx
       rw[hr]at cR;have CR:=Ih cR;clear hm sx hk cR hn AJ hr tL;go_enter Tryz.func93,Tryz.ntmps93
       go_wp2_with fail
       refine CR.out.mono ?_;rintro e w1 ⟨rfl,rfl⟩
       go_wp2_with fail
       go_end0
       exact⟨rfl,Below.refl _ _,HF.out⟩
     | false=>
       rw[hr]at cR;have HE:=Ih (HD.out (fun h=>by rw[hr]at h;exact absurd h.2.2 (by simp)));have CR:=Ih cR;clear hm sx hk cR hn AJ hr tL;go_enter Tryz.func93,Tryz.ntmps93
       go_wp2_with fail
       refine CR.out.mono ?_;rintro e w1 ⟨rfl,rfl⟩
       go_wp2_with fail
       go_end0
       exact HE.out
    ·have XY:(1:Int)<(((k+1:Nat)):Int):=by omega
     have hk3:(1:Int)<(k:Int)+1:=by omega
     have HE:=Ih (HD.out (fun h=>zo h.2.1));clear hm sx hk cR hn AJ tL;go_enter Tryz.func93,Tryz.ntmps93
     go_wp2_with fail
     go_end0
     exact HE.out
   ·have g0:=bN (k:=[102,105,108,101]) tL;have HE:=Ih (HD.out (fun h=>tL h.1));clear hm sx hk cR hn AJ tL;go_enter Tryz.func93,Tryz.ntmps93
    go_wp2_with fail
    go_end0
    exact HE.out
theorem dQ.at {B:Nat} {w w':World} (h:dQ w) (hb:Below B w w') (hB:15<=B):dQ w':=by
 have hz:=h.size;have hc:∀b o,b<15->w'.cell? ⟨b,o,none⟩=w.cell? ⟨b,o,none⟩:=fun b o aV=>hb.cell (p:=⟨b,o,none⟩) (by show b<_;omega);obtain⟨h1,h2,h3,h4,h5,h6,h7,h8⟩:=h;refine⟨?_,?_,?_,?_,?_,?_,?_,Nat.le_trans hz hb.size⟩
 ·obtain⟨m,hm⟩:=h1;exact⟨m,by rw[hc _ _ (by decide)];exact hm⟩
 ·exact var?_below hb RC (by have:7<15:=(by decide);omega) h2
 ·obtain⟨a,b,hm⟩:=h3;exact⟨a,b,by rw[hc _ _ (by decide)];exact hm⟩
 ·obtain⟨a,b,hm⟩:=h4;exact⟨a,b,by rw[hc _ _ (by decide)];exact hm⟩
 ·rw[hc _ _ (by decide)];exact h5
 ·rw[hc _ _ (by decide)];exact h6
 ·rw[hc _ _ (by decide)];exact h7
theorem MV (s:ByteArray) (hs:s.size<=1000000000) (w:World) (hE:dQ w):Calls Tryz.prog 106 #[.string s] w (D3 (Lz.eR s.data.toList:Nat) w):=by
 have cL:=Ih (fun W=>kv s (by omega) W);go_enter Tryz.func106,Tryz.ntmps106
 go_wp2_with fail
 refine(cL.out _).mono ?_;rintro e w1 ⟨u,rfl,hu,ar⟩;have uH:u.size=s.size:=by rw[<-aa,hu.out,ij,aa]
 obtain⟨m,hm⟩:=(hE.below ar).ml
 have cR:=Tryz.strings_ReplaceAll u ⟨#[37,50,101]⟩ ⟨#[46]⟩ m w1 (by omega) hm (by decide) (by
  have:=Lib.countB_le ⟨#[37,50,101]⟩ (by decide) u.size u (Nat.le_refl _);have h1:(⟨#[46]⟩:ByteArray).size=1:=rfl;rw[h1];omega)
 have aap:Lib.replaceAll u.data.toList (⟨#[37,50,101]⟩:ByteArray).data.toList (⟨#[46]⟩:ByteArray).data.toList=Lz.unE (Lz.low s.data.toList):=by
  rw[hu.out];exact Lz.EG _
 rw[aap]at cR;have CR:=Ih cR;obtain⟨r,hr⟩:∃r:ByteArray,r=⟨(Lz.unE (Lz.low s.data.toList)).toArray⟩:=⟨_,rfl⟩;have Yc:r.data.toList=Lz.unE (Lz.low s.data.toList):=by rw[hr]
 rw[<-hr]at CR;clear cR aap hr hm;by_cases h1:r.data.toList=[46]
 ·have g1:=bg h1;have hz:r.size=1:=by rw[<-aa,h1];rfl
  have HV:Hid (Lz.eR s.data.toList=1):=by show _=_;unfold Lz.eR;rw[<-Yc,if_pos h1]
  clear Yc h1
  go_wp2_with fail
  refine CR.out.mono ?_;rintro e w2 ⟨rfl,az⟩
  go_wp2_with fail
  go_ret;rw[HV.out];exact⟨by first |rfl|(rw[hz];rfl),ac ar az⟩
 ·have g1:=bN h1;by_cases h2:r.data.toList=[46,46]
  ·have g2:=bg h2;have hz:r.size=2:=by rw[<-aa,h2];rfl
   have HV:Hid (Lz.eR s.data.toList=2):=by show _=_;unfold Lz.eR;rw[<-Yc,if_neg h1,if_pos h2]
   clear Yc h1 h2
   go_wp2_with fail
   refine CR.out.mono ?_;rintro e w2 ⟨rfl,az⟩
   go_wp2_with fail
   go_ret;rw[HV.out];exact⟨by first |rfl|(rw[hz];rfl),ac ar az⟩
  ·have g2:=bN h2;have HV:Hid (Lz.eR s.data.toList=0):=by show _=_;unfold Lz.eR;rw[<-Yc,if_neg h1,if_neg h2]
   clear Yc h1 h2
   go_wp2_with fail
   refine CR.out.mono ?_;rintro e w2 ⟨rfl,az⟩
   go_wp2_with fail
   go_ret;rw[HV.out];exact⟨rfl,ac ar az⟩
theorem pr {B M:Nat} {w w5:World} {x:MkV} {sp:Bool} {sl:ByteArray} {o:Obj} {row:Option Nat} (hm:nT B M w x sp sl) (hB:B<=w.heap.size) (hg:(w.alloc o).grownBy w5 row)
  (hr:IN B (w.alloc o) row):
  Below B w w5/\w5.heap[M]? =some (.cells #[.string x.sch,.string x.usr,.string x.pas,.bool x.hh,.string x.hst,.int .i64 x.prt,.bool x.opq,x.pv,.bool x.hq,.bool x.hf,.string x.qry,.string x.frg,.bool sp,.string sl] 69 (0,0)):=
 ⟨BS ((Below.refl B w).alloc hB o) hg (by simp;omega) hr,Gw (by rw[Below.heap_alloc w o M (af hm.row)];exact hm.row) hg hr⟩
theorem mm {B M:Nat} {w w5:World} {sch usr pas:ByteArray} {hh:Bool} {hst:ByteArray} {prt:Int} {opq:Bool} {pv:Value} {xs:List ByteArray} {hq hf:Bool} {qry frg:ByteArray} {sp:Bool} {sl:ByteArray} {v':Value} {p:ByteArray}
  (hb:Below B w w5) (hM:w5.heap[M]? =some (.cells #[.string sch,.string usr,.string pas,.bool hh,.string hst,.int .i64 prt,.bool opq,pv,.bool hq,.bool hf,.string qry,.string frg,.bool sp,.string sl] 69 (0,0)))
  (pI:B<=M) (au:aL w5 B v' (xs++[p])):
  Below B w (w5.setCell ⟨M,7,none⟩ v')/\nT B M (w5.setCell ⟨M,7,none⟩ v') ⟨sch,usr,pas,hh,hst,prt,opq,v',xs++[p],hq,hf,qry,frg⟩ sp sl:=
 ⟨hb.setCell (p:=⟨M,7,none⟩) pI _,⟨g9 hM 7 v' (by simp),au.setCell hM rY 7 v',pI⟩⟩
end Go.Proofs.YtecoeebjaleeiaaGreatDoor
namespace Lz
open Go
theorem GZ {s:Bs} {b:Option ag} {v:ag} (hv:iH {query:=(Lib.cut (Lib.cut (bK s) [35]).1 [63]).2.1,hasQuery:=(Lib.cut (Lib.cut (bK s) [35]).1 [63]).2.2,fragment:=(Lib.cut (bK s) [35]).2.1,hasFragment:=(Lib.cut (bK s) [35]).2.2} (Lib.cut (Lib.cut (bK s) [35]).1 [63]).1 b=.ok v)
  (hb:∀x,b=some x->NU x):v.query.length<=s.length+bq b/\v.fragment.length<=s.length:=by
 have hc:=sN s;have f:=kG 35 (bK s);have q:=kG 63 (Lib.cut (bK s) [35]).1;have f':=eB 35 (bK s);have q':=eB 63 (Lib.cut (bK s) [35]).1;have hl:= @qH s;generalize Lib.cut (bK s) [35]=F at hv f q f' q';generalize Lib.cut F.1 [63]=G at hv q q';obtain⟨f1,f2,f3,_⟩:=f';obtain⟨q1,q2,q3,_⟩:=q';obtain⟨h1,h2⟩:=zC hv ⟨rfl,rfl,rfl,rfl,rfl,rfl,rfl⟩ hb
 have lX:v.fragment=F.2.1:=(qL hv ⟨rfl,rfl,rfl,rfl,rfl,rfl,rfl⟩ (fun h=>f1 (q3 _ h)) q1
  (fun h1 h2 h=>by
   have e1:=(q2 h1).1;have e2:=(f2 h2).1;rw[e1,e2]at h;have:=hl h;cases this)
  (fun h=>(q2 h).2) hb).2.2.2
 refine⟨?_,by rw[lX];omega⟩;rcases h2 with h2|⟨x,rfl,h3,h4⟩
 ·have LB:v.query=G.2.1:=h2;rw[LB];omega
 ·rw[h4];show x.query.length<=_+wq x;unfold wq;omega
theorem Bb (u:ag):u.path.length<=wq u:=by
 have h:∀l:List Bs,l.length<=pl l:=by
  intro l
  induction l with
  | nil=>simp
  | cons p r ih=>
    have h1:=tt [p] r;rw[tB]at h1;rw[show p::r=[p]++r from rfl,h1]
    simp;omega
 have:=h u.path;unfold wq wt;omega
end Lz
