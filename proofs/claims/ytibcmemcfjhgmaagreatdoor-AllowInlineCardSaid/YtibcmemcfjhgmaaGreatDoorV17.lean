/-
  Package urls: as, shorten, dots, on.
-/
import Derived.Test.YtibcmemcfjhgmaaGreatDoorV12
import Derived.Test.YtibcmemcfjhgmaaGreatDoorV07
import Derived.Test.YtibcmemcfjhgmaaGreatDoorV13
set_option maxRecDepth 100000
namespace Lz
open Go
theorem Ao:∀c:UInt8,ei.contains c=false->(c<32||126<c)=false->zm c=true/\c≠64/\bE true c=false/\c<127/\c≠58/\c≠91/\c≠93/\c≠124:=aA (by decide +kernel)
theorem MH:∀c:UInt8,pd c=true->zm c=true/\c≠64/\bE true c=false/\c<127/\c≠93:=aA (by decide +kernel)
theorem Lv {h:Bs} (hc:∀c∈h,c≠58/\c≠124):cz h=false:=by
 match h,hc with
 | [],_=>rfl
 | [_],_=>rfl
 | [a,b],hc=>
   obtain⟨h1,h2⟩:=hc b (by simp);show(bn a&&(b==58||b==124))=false;have e1:(b==58)=false:=by rw[beq_eq_false_iff_ne];exact h1
   have e2:(b==124)=false:=by rw[beq_eq_false_iff_ne];exact h2
   rw[e1,e2];simp
 | _::_::_::_,_=>rfl
theorem Ki (a:List Nat):∀c∈eN a,pd c=true\/c=58:=by
 have ht:∀l:List Nat,∀c∈bW l,pd c=true\/c=58:=by
  intro l c hc;unfold bW at hc;rcases rp hc with h|⟨x,hx,h⟩
  ·exact Or.inr (List.mem_singleton.1 h)
  ·obtain⟨n,_,rfl⟩:=List.mem_map.1 hx;exact Or.inl (vG n c h)
 intro c hc;unfold eN at hc;split at hc
 ·exact ht _ c hc
 ·rcases List.mem_append.1 hc with hc|hc
  ·rcases List.mem_append.1 hc with hc|hc
   ·exact ht _ c hc
   ·right;simpa using hc
  ·exact ht _ c hc
theorem B9 {sp:Bool} {h:Bs} (ha:aX h sp=.ok h) (hc:∀c∈h,ei.contains c=false/\(c<32||126<c)=false):oq sp h/\cz h=false:=by
 refine⟨⟨ha,fun c tj=>?_,Or.inl fun c tj=>?_⟩,Lv fun c tj=>?_⟩
 ·obtain⟨h1,h2,h3,h4,_⟩:=Ao c (hc c tj).1 (hc c tj).2;exact⟨h1,h2,h3,h4⟩
 ·obtain⟨_,_,_,_,h5,h6,h7,_⟩:=Ao c (hc c tj).1 (hc c tj).2;exact⟨h5,h6,h7⟩
 ·obtain⟨_,_,_,_,h5,_,_,h8⟩:=Ao c (hc c tj).1 (hc c tj).2;exact⟨h5,h8⟩
theorem Gb {s h:Bs} {sp:Bool} (e:aX s sp=.ok h):oq sp h/\cz h=false/\(h=[]->s=[])/\(sp=true->h≠[]):=by
 have hag:aX h sp=.ok h:=by
  cases sp
  ·exact rD e
  ·exact(l6 e).1
 have du:sp=true->h≠[]:=by
  rintro rfl;exact(l6 e).2.2
 unfold aX at e;split at e
 ·split at e
  ·cases e
  ·cases ha:jw ((s.drop 1).dropLast)with
   | none=>rw[ha]at e;cases e
   | some a=>
     rw[ha]at e;have e:([91]++eN a++[93]:Bs)=h:=by simpa [ofO]using e
     have hx:∀c∈eN a,c≠93/\zm c=true/\c≠64/\bE true c=false/\c<127:=by
      intro c hc;rcases Ki a c hc with h|rfl
      ·obtain⟨h1,h2,h3,h4,h5⟩:=MH c h;exact⟨h5,h1,h2,h3,h4⟩
      ·decide
     subst e;refine⟨⟨hag,?_,Or.inr ⟨eN a,by simp,fun hc=>(hx 93 hc).1 rfl⟩⟩,?_,fun h=>by simp at h,du⟩
     ·intro c hc;rcases List.mem_append.1 hc with hc|hc
      ·rcases List.mem_append.1 hc with hc|hc
       ·rw[List.mem_singleton.1 hc];decide
       ·exact(hx c hc).2
      ·rw[List.mem_singleton.1 hc];decide
     ·cases ht:eN a with
      | nil=>rfl
      | cons b r=>cases r<;>rfl
 ·split at e
  ·have hd:=Mp e
   have:=B9 (sp:=sp) hag (fun c hc=>by
    have ho:=qx c (q9 hd.2.1 c hc);exact⟨ho.2.2.1,ho.2.2.2⟩)
   exact⟨this.1,this.2,fun h=>absurd h hd.1,du⟩
  ·split at e
   ·cases e
   ·rename_i hb;have hb':s.any ei.contains=false:=by simpa using hb
    have e:aq [] s=h:=by injection e
    subst e;have:=B9 (sp:=sp) hag (N7 hb');refine⟨this.1,this.2,fun h=>?_,du⟩;cases s with
    | nil=>rfl
    | cons c r=>
      exfalso
      unfold aq at h;rw[List.flatMap_cons]at h;have:=(List.append_eq_nil_iff.1 h).1;split at this<;>cases this
theorem KG {sp:Bool} {k:Nat} {s:Bs} (h:∀c∈s,bE sp c=false):∀c∈aq (dw k) s,bE sp c=false:=by
 have hd:∀d:Fin 16,bE true (dC d.val)=false:=by decide +kernel
 intro c hc;unfold aq at hc;obtain⟨x,hx,hc⟩:=List.mem_flatMap.1 hc;split at hc
 ·simp only[List.mem_cons,List.not_mem_nil,or_false]at hc;rcases hc with rfl|rfl|rfl
  ·cases sp<;>rfl
  ·exact ru (hd ⟨x.toNat / 16,by have:=x.toNat_lt;omega⟩)
  ·exact ru (hd ⟨x.toNat%16,Nat.mod_lt _ (by omega)⟩)
 ·rw[List.mem_singleton.1 hc];exact h x hx
def ec (scheme:Bs) (sp:Bool) (l:List Bs):Prop:=(∀p∈l,Am sp p)/\(scheme=cJ->∀p,l.head? =some p->cz p=true->p.take 1++[58]=p)
theorem nM (scheme:Bs) (sp:Bool):ec scheme sp []:=⟨(by intro p hp;cases hp),(by intro _ p hp;cases hp)⟩
theorem EK (sp:Bool):Am sp []:=⟨rfl,by decide +kernel,fun c hc=>by cases hc⟩
theorem oZ {scheme:Bs} {sp:Bool} {l:List Bs} {p:Bs} (h:ec scheme sp l) (hp:Am sp p) (hd:scheme=cJ->l=[]->cz p=true->p.take 1++[58]=p):ec scheme sp (l++[p]):=by
 refine⟨fun q hq=>?_,fun hf q hq Sj=>?_⟩
 ·rcases List.mem_append.1 hq with hq|hq
  ·exact h.1 q hq
  ·rw[List.mem_singleton.1 hq];exact hp
 ·cases l with
  | nil=>
    have:p=q:=by simpa using hq
    subst this;exact hd hf rfl Sj
  | cons a r=>
    have:a=q:=by simpa using hq
    subst this;exact h.2 hf a rfl Sj
theorem km {scheme:Bs} {sp:Bool} {l:List Bs} (h:ec scheme sp l):ec scheme sp (bI scheme l):=by
 unfold bI;split
 ·exact h
 ·refine⟨fun p hp=>h.1 p ((List.dropLast_sublist l).subset hp),fun hf p hp hd=>?_⟩;cases l with
  | nil=>cases hp
  | cons a r=>
    cases r with
    | nil=>cases hp
    | cons b t=>
      have:a=p:=by simpa using hp
      subst this;exact h.2 hf a rfl hd
theorem Bf:∀a:UInt8,bn a=true->okE (dw 4) a=true/\ez [a,58]=0/\bE true a=false:=aA (by decide +kernel)
theorem Ck (scheme:Bs) (sp:Bool):∀(ps j8:List Bs),ec scheme sp j8->(∀p∈ps,∀c∈p,bE sp c=false)->ec scheme sp (onL scheme j8 ps)
 | [],j8,h,_=>h
 | p::r,j8,h,hs=>by
   have ih:=fun j8 ha=>Ck scheme sp r j8 ha (fun q hq=>hs q (List.mem_cons_of_mem _ hq));have K8:=KG (k:=4) (hs p (by simp));have lV:=ld 4 (by omega) p;rw[onL]
   try simp only
   generalize aq (dw 4) p=q at K8 lV;have rL:∀a,ec scheme sp a->ec scheme sp (a++[[]]):=fun a ha=>oZ ha (EK sp) (fun _ _ hd=>by cases hd);split
   ·apply ih
    split
    ·exact rL _ (km h)
    ·exact km h
   ·rename_i h2;split
    ·apply ih
     split
     ·exact rL _ h
     ·exact h
    ·rename_i h1
     apply ih
     have h0:ez q=0:=by
      unfold ez at h1 h2⊢;split at h1
      ·exact absurd rfl h1
      ·rename_i hn;rw[if_neg hn]at h2⊢;split at h2
       ·exact absurd rfl h2
       ·rename_i y6;rw[if_neg y6]
     split
     ·rename_i hh;obtain⟨hf,ha,hd⟩:=hh
      match q,hd with
      | [a,b],hd=>
        unfold cz at hd;rw[Bool.and_eq_true]at hd;obtain⟨d1,d2,d3⟩:=Bf a hd.1;refine oZ h ⟨?_,d2,?_⟩ (fun _ _ _=>rfl)
        ·show(okE (dw 4) a&&(okE (dw 4) 58&&true))=true;rw[d1];rfl
        ·intro c hc;rcases List.mem_cons.1 hc with rfl|hc
         ·exact ru d3
         ·rw[List.mem_singleton.1 hc];cases sp<;>rfl
     ·rename_i hh;exact oZ h ⟨lV,h0,K8⟩ (fun hf ha hd=>absurd ⟨hf,ha,hd⟩ hh)
theorem LF (scheme:Bs):∀(ps j8:List Bs),ps≠[]->onL scheme j8 ps≠[]
 | [],_,h=>absurd rfl h
 | p::r,j8,_=>by
   by_cases hr:r=[]
   ·subst hr;simp only[onL];split
    ·simp
    ·split
     ·simp
     ·simp
   ·have ih:=fun j8=>LF scheme r j8 hr;rw[onL]
    try simp only
    split
    ·exact ih _
    ·split
     ·exact ih _
     ·exact ih _
theorem vt {sp:Bool}:∀(s:Bs),∀p∈eW sp s,∀c∈p,bE sp c=false
 | [],p,hp,c,hc=>by
   rw[eW]at hp;rw[List.mem_singleton.1 hp]at hc;cases hc
 | a::r,p,hp,c,hc=>by
   have ih:=vt (sp:=sp) r;rw[eW]at hp;cases ha:bE sp a with
   | true=>
     rw[ha,if_pos rfl]at hp;rcases List.mem_cons.1 hp with rfl|hp
     ·cases hc
     ·exact ih p hp c hc
   | false=>
     rw[ha]at hp;simp only[Bool.false_eq_true,if_false]at hp;cases he:eW sp r with
     | nil=>
       rw[he]at hp;rw[List.mem_singleton.1 hp]at hc;rw[List.mem_singleton.1 hc];exact ha
     | cons x t=>
       rw[he]at hp;rcases List.mem_cons.1 hp with rfl|hp
       ·rcases List.mem_cons.1 hc with rfl|hc
        ·exact ha
        ·exact ih x (by rw[he];simp) c hc
       ·exact ih p (by rw[he];exact List.mem_cons_of_mem _ hp) c hc
theorem rE {sp:Bool} (s:Bs):eW sp s≠[]:=by
 cases s with
 | nil=>simp[eW]
 | cons a r=>
   rw[eW];split
   ·simp
   ·split<;>simp
theorem iX {r:UR} {f:au->UR} {v:au} (h:r.bind f=.ok v):∃u,r=.ok u/\f u=.ok v:=by
 cases r with
 | ok u=>exact⟨u,rfl,h⟩
 | er n=>cases h
def Io (s:Bs) (p:Int):Prop:=p= -1\/∃n:Nat,p=n/\n<=65535/\(n:Int)≠kC s
theorem BI {u v:au} {s:Bs} (e:ew u s=.ok v) (hu:u.port= -1):∃p,v={u with port:=p}/\Io u.scheme p/\(s=[]->p= -1):=by
 unfold ew at e;cases hn:ko 0 s with
 | none=>rw[hn]at e;cases e
 | some n=>
   rw[hn]at e;simp only at e;split at e
   ·cases e
   ·rename_i h6;split at e
    ·rename_i hh;injection e with e
     exact⟨n,e.symm,Or.inr ⟨n,rfl,by omega,hh.2⟩,fun h=>absurd h hh.1⟩
    ·injection e with e
     refine⟨-1,?_,Or.inl rfl,fun _=>rfl⟩;rw[<-e,<-hu]
theorem jQ {u v:au} {s:Bs} (e:gn u s=.ok v):∃h,v={u with host:=h,hasHost:=true}/\aX s (aj u.scheme)=.ok h:=by
 unfold gn at e;cases hp:aX s (aj u.scheme)with
 | er n=>rw[hp]at e;cases e
 | ok h=>
   rw[hp]at e;injection e with e
   exact⟨h,e.symm,rfl⟩
theorem nV {u v:au} {a:Bs} (e:eV u a=.ok v) (hu:u.port= -1):
  ∃h p,v={u with host:=h,hasHost:=true,port:=p}/\oq (aj u.scheme) h/\cz h=false/\Io u.scheme p/\(aj u.scheme=true->h≠[])/\(h=[]->a=[]/\p= -1):=by
 unfold eV at e;cases hc:dR false a with
 | some i=>
   rw[hc]at e;simp only at e;split at e
   ·cases e
   ·rename_i du;obtain⟨w,hw,e⟩:=iX e;obtain⟨h,rfl,hh⟩:=jQ hw;obtain⟨p,rfl,hp,_⟩:=BI e hu;obtain⟨n1,n2,n3,n4⟩:=Gb hh;exact⟨h,p,rfl,n1,n2,hp,n4,fun h0=>absurd (n3 h0) du⟩
 | none=>
   rw[hc]at e;simp only at e;split at e
   ·cases e
   ·obtain⟨w,hw,e⟩:=iX e;obtain⟨h,rfl,hh⟩:=jQ hw;obtain⟨p,rfl,hp,Az⟩:=BI e hu;obtain⟨n1,n2,n3,n4⟩:=Gb hh;exact⟨h,p,rfl,n1,n2,hp,n4,fun h0=>⟨n3 h0,Az rfl⟩⟩
theorem u5 {u v:au} {a:Bs} (e:jk u a=.ok v) (hu:u.port= -1) (tP:u.user=[]) (qG:u.pass=[]):
  ∃us pa h p,v={u with user:=us,pass:=pa,host:=h,hasHost:=true,port:=p}/\us.all (okE (dw 5))=true/\pa.all (okE (dw 5))=true/\oq (aj u.scheme) h/\cz h=false/\Io u.scheme p/\(aj u.scheme=true->h≠[])/\(h=[]->us=[]/\pa=[]/\p= -1):=by
 unfold jk at e;cases hl:ek a with
 | some xy=>
   obtain⟨x,y⟩:=xy;rw[hl]at e;simp only at e;split at e
   ·cases e
   ·rename_i hy;obtain⟨h,p,rfl,n1,n2,n3,n4,n5⟩:=nV e (show(BX u x).port= -1 from hu);exact⟨_,_,h,p,rfl,ld 5 (by omega) _,ld 5 (by omega) _,n1,n2,n3,n4,fun h0=>absurd (n5 h0).1 hy⟩
 | none=>
   rw[hl]at e;obtain⟨h,p,rfl,n1,n2,n3,n4,n5⟩:=nV e hu;refine⟨[],[],h,p,?_,rfl,rfl,n1,n2,n3,n4,fun h0=>⟨rfl,rfl,(n5 h0).2⟩⟩;exact qw rfl tP qG rfl rfl rfl rfl rfl rfl rfl rfl rfl
def I0 (s:Bs):Prop:=s≠[]/\(∀c,s.head? =some c->bn c=true)/\s.all dA=true/\low s=s
theorem nl {u:au} {t:Bs} (h:ec u.scheme (aj u.scheme) u.path):ec u.scheme (aj u.scheme) (onP u t).path/\(onP u t).path≠[]:=
 ⟨Ck u.scheme (aj u.scheme) _ _ h (vt t),LF u.scheme _ _ (rE t)⟩
theorem pN {u v:au} {r:Bs} (e:dK u r=.ok v) (hs:I0 u.scheme) (hf:u.scheme≠cJ) (hu:u.port= -1) (tP:u.user=[]) (qG:u.pass=[]) (ho:u.opq=false) (hp:u.path=[]):
  MU v/\v.scheme=u.scheme/\v.hasQuery=u.hasQuery/\v.query=u.query/\v.hasFragment=u.hasFragment/\v.fragment=u.fragment:=by
 unfold dK at e;obtain⟨w,hw,e⟩:=iX e;obtain⟨us,pa,h,p,rfl,n1,n2,n3,n4,n5,n6,n7⟩:=u5 hw hu tP qG;injection e with e
 have hpn:ec u.scheme (aj u.scheme) u.path:=by rw[hp];exact nM _ _
 have key:∀(path:List Bs),ec u.scheme (aj u.scheme) path->(aj u.scheme=true->path≠[])->
   MU {u with user:=us,pass:=pa,host:=h,hasHost:=true,port:=p,path:=path}:=by
  intro path TS iB
  exact{
   s1:=hs.1,s2:=hs.2.1,s3:=hs.2.2.1,s4:=hs.2.2.2,user:=n1,pass:=n2
   special:=fun hq=>⟨rfl,ho,iB hq⟩
   bare:=fun hh=>by cases hh
   opaqueN:=fun hq=>by rw[show u.opq=false from ho]at hq;cases hq
   path:=fun _=>⟨TS.1,fun hh=>by cases hh⟩
   drive:=TS.2
   host:=fun _=>Or.inl n3
   empty:=n7
   needed:=fun hq _=>n6 hq
   file:=fun hq=>absurd hq hf
   port:=n5}
 split at e
 ·rename_i hc;rw[<-e];have TI:=nl (u:={u with user:=us,pass:=pa,host:=h,hasHost:=true,port:=p}) (t:=(dN (aj u.scheme) r).2.1) hpn;exact⟨key _ TI.1 (fun _=>TI.2),rfl,rfl,rfl,rfl,rfl⟩
 ·rename_i hc;rw[<-e];refine⟨key u.path hpn (fun hq=>?_),rfl,rfl,rfl,rfl,rfl⟩
  exfalso
  apply hc
  show((dN (aj u.scheme) r).2.2||aj u.scheme)=true;rw[hq,Bool.or_true]
theorem xP {u b:au} (hb:MU b) (hs:u.scheme=b.scheme) (hf:u.scheme≠cJ) (ho:u.opq=false) {path:List Bs} (hp:ec u.scheme (aj u.scheme) path) (du:(aj u.scheme=true\/b.hasHost=false)->path≠[]) (q:Bs) (hq:Bool):
  MU {u with user:=b.user,pass:=b.pass,hasHost:=b.hasHost,host:=b.host,port:=b.port,path:=path,query:=q,hasQuery:=hq}:=by
 exact{
  s1:=by show u.scheme≠[];rw[hs];exact hb.s1
  s2:=by show ∀c,u.scheme.head? =some c->_;rw[hs];exact hb.s2
  s3:=by show u.scheme.all dA=true;rw[hs];exact hb.s3
  s4:=by show low u.scheme=u.scheme;rw[hs];exact hb.s4
  user:=hb.user
  pass:=hb.pass
  special:=fun h=>⟨by have:=(hb.special (by rw[<-hs];exact h)).1;exact this,ho,du (Or.inl h)⟩
  bare:=hb.bare
  opaqueN:=fun h=>by rw[show u.opq=false from ho]at h;cases h
  path:=fun _=>⟨hp.1,fun hh=>du (Or.inr hh)⟩
  drive:=hp.2
  host:=fun h=>by show oq (aj u.scheme) b.host\/(u.scheme=cJ/\b.host=[]);rw[hs];exact hb.host h
  empty:=hb.empty
  needed:=fun h _=>by show b.host≠[];exact hb.needed (by rw[<-hs];exact h) (by rw[<-hs];exact hf)
  file:=fun h=>absurd h hf
  port:=by show Io u.scheme b.port;rw[hs];exact hb.port}
theorem Bx {u b:au} (hb:MU b) (hs:u.scheme=b.scheme) (hbo:b.opq=false):ec u.scheme (aj u.scheme) b.path/\((aj u.scheme=true\/b.hasHost=false)->b.path≠[]):=by
 rw[hs];refine⟨⟨(hb.path hbo).1,hb.drive⟩,fun h=>?_⟩;rcases h with h|h
 ·exact(hb.special h).2.2
 ·exact(hb.path hbo).2 h
structure l5 (u:au):Prop where
 user:u.user=[]
 pass:u.pass=[]
 hasHost:u.hasHost=false
 host:u.host=[]
 port:u.port= -1
 opq:u.opq=false
 path:u.path=[]
def QN (u:au):Prop:=u.hasQuery=false->u.query=[]
theorem Ft {u b w:au} (r:Bs) (hw:w.scheme=u.scheme/\w.user=b.user/\w.pass=b.pass/\w.hasHost=b.hasHost/\w.host=b.host/\w.port=b.port/\w.opq=u.opq/\w.hasQuery=u.hasQuery/\w.query=u.query/\w.hasFragment=u.hasFragment/\w.fragment=u.fragment) (hp:ec u.scheme (aj u.scheme) b.path) (du:(aj u.scheme=true\/b.hasHost=false)->b.path≠[]) (hq:QN u) (xG:QN b):
  ∃path q WV,gR w b r={u with user:=b.user,pass:=b.pass,hasHost:=b.hasHost,host:=b.host,port:=b.port,path:=path,query:=q,hasQuery:=WV}/\ec u.scheme (aj u.scheme) path/\((aj u.scheme=true\/b.hasHost=false)->path≠[])/\(WV=false->q=[]):=by
 obtain⟨w1,w2,w3,w4,w5,w6,w7,w8,w9,Wa,Sa⟩:=hw;unfold gR;by_cases hr:r=[]
 ·rw[if_neg (fun h=>h hr)];cases hx:w.hasQuery
  ·rw[if_neg (by decide)];exact⟨b.path,b.query,b.hasQuery,qw w1 w2 w3 w4 w5 w6 w7 rfl rfl Wa rfl Sa,hp,du,xG⟩
  ·rw[if_pos rfl];exact⟨b.path,u.query,u.hasQuery,qw w1 w2 w3 w4 w5 w6 w7 rfl (hx.symm.trans w8) Wa w9 Sa,hp,du,hq⟩
 ·rw[if_pos hr];have hp':ec w.scheme (aj w.scheme) (bI w.scheme b.path):=by rw[w1];exact km hp
  obtain⟨h1,h2⟩:=nl (u:={w with path:=bI w.scheme b.path}) (t:=r) hp';have h1:ec w.scheme (aj w.scheme) (onP {w with path:=bI w.scheme b.path} r).path:=h1;rw[w1]at h1;exact⟨(onP {w with path:=bI w.scheme b.path} r).path,u.query,u.hasQuery,qw w1 w2 w3 w4 w5 w6 w7 rfl w8 Wa w9 Sa,by rw[w1];exact h1,fun _=>h2,hq⟩
theorem yw {u b v:au} {r:Bs} (e:Ae u b r=.ok v) (hb:MU b) (hs:u.scheme=b.scheme) (hf:u.scheme≠cJ) (hu:l5 u) (hbo:b.opq=false) (hq:QN u) (xG:QN b):
  MU v/\QN v/\v.hasFragment=u.hasFragment/\v.fragment=u.fragment:=by
 have Dp:I0 u.scheme:=by rw[hs];exact⟨hb.s1,hb.s2,hb.s3,hb.s4⟩
 obtain⟨hpn,abH⟩:=Bx hb hs hbo;unfold Ae at e;simp only at e;split at e
 ·obtain⟨h1,h2,h3,h4,h5,h6⟩:=pN e Dp hf hu.port hu.user hu.pass hu.opq hu.path;exact⟨h1,fun h=>by rw[h4];exact hq (h3▸h),h5,h6⟩
 ·split at e
  ·injection e with e
   have Az:ec (ma u b).scheme (aj (ma u b).scheme) (ma u b).path:=by
    show ec u.scheme (aj u.scheme) u.path;rw[hu.path];exact nM _ _
   obtain⟨h1,h2⟩:=nl (u:=ma u b) (t:=r.drop 1) Az;have hm:=xP hb hs hf hu.opq (path:=(onP (ma u b) (r.drop 1)).path) h1 (fun _=>h2) u.query u.hasQuery;rw[<-e];exact⟨hm,hq,rfl,rfl⟩
  ·injection e with e
   obtain⟨path,q,WV,he,p1,p2,p3⟩:=Ft (u:=u) (b:=b) (w:=ma u b) r ⟨rfl,rfl,rfl,rfl,rfl,rfl,rfl,rfl,rfl,rfl,rfl⟩ hpn abH hq xG;rw[<-e,he];exact⟨xP hb hs hf hu.opq p1 p2 q WV,p3,rfl,rfl⟩
theorem rn {u:au} (hf:u.scheme=cJ) (hu:l5 u) {host:Bs} {path:List Bs} (hN:oq true host\/host=[]) (hl:host≠qS) (hd:cz host=false) (hp:ec u.scheme (aj u.scheme) path) (du:path≠[]) (q:Bs) (hq:Bool):
  MU {u with hasHost:=true,host:=host,path:=path,query:=q,hasQuery:=hq}:=by
 have iB:aj u.scheme=true:=by rw[hf];rfl
 exact{
  s1:=by show u.scheme≠[];rw[hf];decide
  s2:=by show ∀c,u.scheme.head? =some c->_;rw[hf];intro c hc;cases hc;rfl
  s3:=by show u.scheme.all dA=true;rw[hf];decide
  s4:=by show low u.scheme=u.scheme;rw[hf];decide
  user:=by show u.user.all _=true;rw[hu.user];rfl
  pass:=by show u.pass.all _=true;rw[hu.pass];rfl
  special:=fun _=>⟨rfl,hu.opq,du⟩
  bare:=fun h=>by cases h
  opaqueN:=fun h=>by rw[show u.opq=false from hu.opq]at h;cases h
  path:=fun _=>⟨hp.1,fun _=>du⟩
  drive:=hp.2
  host:=fun _=>by
   show oq (aj u.scheme) host\/(u.scheme=cJ/\host=[]);rw[iB];rcases hN with h|h
   ·exact Or.inl h
   ·exact Or.inr ⟨hf,h⟩
  empty:=fun _=>⟨hu.user,hu.pass,hu.port⟩
  needed:=fun _ h=>absurd hf h
  file:=fun _=>⟨hu.user,hu.pass,hu.port,hl,hd⟩
  port:=Or.inl hu.port}
theorem iq:([]:Bs)≠qS/\cz []=false:=⟨by decide,rfl⟩
theorem sL {u v:au} {b:Option au} {r:Bs} (e:lK u b r=.ok v) (hf:u.scheme=cJ) (hu:l5 u) (hb:∀x,b=some x->MU x/\QN x) (hq:QN u):
  MU v/\QN v/\v.hasFragment=u.hasFragment/\v.fragment=u.fragment:=by
 have iB:aj u.scheme=true:=by rw[hf];rfl
 have Az:ec u.scheme (aj u.scheme) u.path:=by rw[hu.path];exact nM _ _
 have nY:∀(w:au) (t host:Bs),w.scheme=u.scheme->w.user=u.user->w.pass=u.pass->w.hasHost=true->w.host=host->w.port=u.port->w.opq=u.opq->ec u.scheme (aj u.scheme) w.path->w.hasQuery=u.hasQuery->w.query=u.query->w.hasFragment=u.hasFragment->w.fragment=u.fragment->(oq true host\/host=[])->host≠qS->cz host=false->
   MU (onP w t)/\QN (onP w t)/\(onP w t).hasFragment=u.hasFragment/\(onP w t).fragment=u.fragment:=by
  intro w t host w1 w2 w3 w4 w5 w6 w7 w8 w9 Wa Sa w12 hN hl hd;have X0:ec w.scheme (aj w.scheme) w.path:=by rw[w1];exact w8
  obtain⟨h1,h2⟩:=nl (u:=w) (t:=t) X0;rw[w1]at h1;have hm:=rn hf hu hN hl hd (path:=(onP w t).path) h1 h2 u.query u.hasQuery;have he:onP w t={u with hasHost:=true,host:=host,path:=(onP w t).path,query:=u.query,hasQuery:=u.hasQuery}:=qw w1 w2 w3 w4 w5 w6 w7 rfl w9 Sa Wa w12;rw[he];exact⟨hm,hq,rfl,rfl⟩
 unfold lK at e;simp only at e;split at e
 ·split at e
  ·injection e with e
   rw[<-e];exact nY _ _ [] rfl rfl rfl rfl hu.host rfl rfl Az rfl rfl rfl rfl (Or.inr rfl) iq.1 iq.2
  ·rename_i AO;have acL:cz (dN true (r.drop 2)).1=false:=by simpa using AO
   obtain⟨w,hw,e⟩:=iX e;injection e with e
   rw[<-e];split at hw
   ·injection hw with hw
    have hh:w.host=[]:=by rw[<-hw];exact hu.host
    rw[if_neg (by rw[hh];decide),<-hw];exact nY _ _ [] rfl rfl rfl rfl hu.host rfl rfl Az rfl rfl rfl rfl (Or.inr rfl) iq.1 iq.2
   ·obtain⟨h,rfl,hh⟩:=jQ hw;have hh:aX (dN true (r.drop 2)).1 (aj u.scheme)=.ok h:=hh;rw[iB]at hh;obtain⟨n1,n2,_,_⟩:=Gb hh;split
    ·exact nY _ _ [] rfl rfl rfl rfl rfl rfl rfl Az rfl rfl rfl rfl (Or.inr rfl) iq.1 iq.2
    ·rename_i hl;exact nY _ _ h rfl rfl rfl rfl rfl rfl rfl Az rfl rfl rfl rfl (Or.inl n1) hl n2
 ·have fk:∀x,b=some x->x.scheme=cJ->(oq true x.host\/x.host=[])/\x.host≠qS/\cz x.host=false/\ec u.scheme (aj u.scheme) x.path/\x.path≠[]/\QN x:=by
   intro x hx RW;obtain⟨hm,Ub⟩:=hb x hx;have hs:aj x.scheme=true:=by rw[RW];rfl
   obtain⟨s1,s2,s3⟩:=hm.special hs;obtain⟨_,_,_,f4,f5⟩:=hm.file RW;refine⟨?_,f4,f5,?_,s3,Ub⟩
   ·rcases hm.host s1 with h|⟨_,h⟩
    ·rw[hs]at h;exact Or.inl h
    ·exact Or.inr h
   ·have:=Bx (u:=u) hm (hf.trans RW.symm) s2;exact this.1
  split at e
  ·injection e with e
   rw[<-e];cases b with
   | none=>exact nY _ _ [] rfl rfl rfl rfl hu.host rfl rfl Az rfl rfl rfl rfl (Or.inr rfl) iq.1 iq.2
   | some x=>
     simp only;split
     ·rename_i RW;obtain⟨b1,b2,b3,b4,b5,b6⟩:=fk x rfl RW;split
      ·have hpt:ec u.scheme (aj u.scheme) (x.path.take 1):=by
        refine⟨fun p hp=>b4.1 p (List.mem_of_mem_take hp),fun hfs p hp hd=>?_⟩;refine b4.2 hfs p ?_ hd;cases hx:x.path with
        | nil=>rw[hx]at hp;cases hp
        | cons a t=>rw[hx]at hp;exact hp
       exact nY _ _ x.host rfl rfl rfl rfl rfl rfl rfl hpt rfl rfl rfl rfl b1 b2 b3
      ·exact nY _ _ x.host rfl rfl rfl rfl rfl rfl rfl Az rfl rfl rfl rfl b1 b2 b3
     ·exact nY _ _ [] rfl rfl rfl rfl hu.host rfl rfl Az rfl rfl rfl rfl (Or.inr rfl) iq.1 iq.2
  ·cases b with
   | none=>
     injection e with e
     rw[<-e];exact nY _ _ [] rfl rfl rfl rfl hu.host rfl rfl Az rfl rfl rfl rfl (Or.inr rfl) iq.1 iq.2
   | some x=>
     simp only at e;split at e
     ·rename_i RW;obtain⟨b1,b2,b3,b4,b5,b6⟩:=fk x rfl RW;split at e
      ·injection e with e
       rw[<-e];exact nY _ _ x.host rfl rfl rfl rfl rfl rfl rfl Az rfl rfl rfl rfl b1 b2 b3
      ·injection e with e
       rw[<-e];unfold gR;by_cases hr:r=[]
       ·rw[if_neg (fun h=>h hr)];cases hx:u.hasQuery
        ·rw[if_neg (show ¬((false:Bool)=true) by decide)];exact⟨rn hf hu b1 b2 b3 b4 b5 x.query x.hasQuery,b6,rfl,rfl⟩
        ·rw[if_pos rfl];have hm:=rn hf hu b1 b2 b3 b4 b5 u.query true;exact⟨hm,(fun h=>by cases h),rfl,rfl⟩
       ·rw[if_pos hr];exact nY _ _ x.host rfl rfl rfl rfl rfl rfl rfl (km b4) rfl rfl rfl rfl b1 b2 b3
     ·injection e with e
      rw[<-e];exact nY _ _ [] rfl rfl rfl rfl hu.host rfl rfl Az rfl rfl rfl rfl (Or.inr rfl) iq.1 iq.2
theorem rQ {k:UInt8}:∀{s:Bs},k∈s->∃a b,s=a++k::b/\k∉a
 | [],h=>by cases h
 | c::r,h=>by
   by_cases hc:c=k
   ·exact⟨[],r,by rw[hc];rfl,by simp⟩
   ·have hr:k∈r:=by
     rcases List.mem_cons.1 h with h|h
     ·exact absurd h.symm hc
     ·exact h
    obtain⟨a,b,rfl,ha⟩:=rQ hr
    exact⟨c::a,b,rfl,fun hh=>by
     rcases List.mem_cons.1 hh with hh|hh
     ·exact hc hh.symm
     ·exact ha hh⟩
theorem gS (k:UInt8) (s:Bs):k∉(Lib.cut s [k]).1/\((Lib.cut s [k]).2.2=false->(Lib.cut s [k]).1=s/\(Lib.cut s [k]).2.1=[])/\(∀x∈(Lib.cut s [k]).1,x∈s)/\((Lib.cut s [k]).2.2=true->s=(Lib.cut s [k]).1++k::(Lib.cut s [k]).2.1):=by
 by_cases h:k∈s
 ·obtain⟨a,b,rfl,ha⟩:=rQ h;rw[FA b ha];exact⟨ha,(fun hh=>by cases hh),fun x hx=>List.mem_append_left _ hx,fun _=>rfl⟩
 ·rw[En h];exact⟨h,fun _=>⟨rfl,rfl⟩,fun x hx=>hx,(fun hh=>by cases hh)⟩
theorem pP:∀c:UInt8,low1 (low1 c)=low1 c/\(dA c=true->dA (low1 c)=true)/\(bn c=true->bn (low1 c)=true):=aA (by decide +kernel)
def mG (c:Bs×Bs×Bool):Bool:=c.2.2&& !c.1.isEmpty&&(match c.1 with|a::_=>bn a|[]=>false)&&c.1.all dA
theorem rX (s:Bs):aI s=if mG (Lib.cut s [58])=true then(low (Lib.cut s [58]).1,(Lib.cut s [58]).2.1,true)else([],s,false):=rfl
theorem Br {s:Bs} (h:(aI s).2.2=true):I0 (aI s).1/\∃a,s=a++58::(aI s).2.1:=by
 have hc:=gS 58 s;rw[rX]at h⊢;by_cases hh:mG (Lib.cut s [58])=true
 ·rw[if_pos hh]at h⊢;unfold mG at hh;simp only[Bool.and_eq_true,Bool.not_eq_true']at hh;obtain⟨⟨⟨h1,h2⟩,h3⟩,h4⟩:=hh;refine⟨⟨?_,?_,?_,tF _⟩,(Lib.cut s [58]).1,hc.2.2.2 h1⟩
  ·cases hx:(Lib.cut s [58]).1 with
   | nil=>rw[hx]at h2;cases h2
   | cons a r=>intro e;cases e
  ·intro c hcc;cases hx:(Lib.cut s [58]).1 with
   | nil=>rw[hx]at h2;cases h2
   | cons a r=>
     rw[hx]at h3 hcc;have:low1 a=c:=by simpa [low]using hcc
     rw[<-this];exact(pP a).2.2 h3
  ·rw[List.all_eq_true];intro c hcc;obtain⟨a,ha,rfl⟩:=List.mem_map.1 hcc;exact(pP a).2.1 (List.all_eq_true.1 h4 a ha)
 ·rw[if_neg hh]at h;cases h
theorem ER {s:Bs} {d:UInt8} (h:(bB s).getLast? =some d):n9 d=false:=by
 rw[Cs,List.getLast?_reverse]at h
 have:∀l:Bs,(l.dropWhile n9).head? =some d->n9 d=false:=by
  intro l
  induction l with
  | nil=>intro hh;cases hh
  | cons c r ih=>
    intro hh;rw[List.dropWhile_cons]at hh;cases hc:n9 c
    ·rw[hc]at hh;have:c=d:=by simpa using hh
     rw[<-this];exact hc
    ·rw[hc]at hh;exact ih (by simpa using hh)
 exact this _ h
theorem G6 {k:UInt8} (hk:k≠37/\∀d:Fin 16,dC d.val≠k) {of s:Bs} (h:k∉s):k∉aq of s:=by
 intro hc;unfold aq at hc;obtain⟨x,hx,hc⟩:=List.mem_flatMap.1 hc;split at hc
 ·simp only[List.mem_cons,List.not_mem_nil,or_false]at hc;rcases hc with hc|hc|hc
  ·exact hk.1 hc
  ·exact hk.2 ⟨x.toNat / 16,by have:=x.toNat_lt;omega⟩ hc.symm
  ·exact hk.2 ⟨x.toNat%16,Nat.mod_lt _ (by omega)⟩ hc.symm
 ·rw[List.mem_singleton.1 hc]at h;exact h hx
theorem N9 {s:Bs} (h:s.getLast? ≠some 32):(aq [] s).getLast? ≠some 32:=by
 rcases List.eq_nil_or_concat s with rfl|⟨r,c,rfl⟩
 ·intro hh;cases hh
 ·rw[List.concat_eq_append]at h⊢
  have hc:c≠32:=by
   intro e;apply h;rw[e];simp
  unfold aq;rw[List.flatMap_append];intro hh
  have hx:([c]:Bs).flatMap (fun c=>if c<32||126<c||([]:Bs).contains c then[37,dC (c.toNat / 16),dC (c.toNat%16)]else[c])≠[]:=by
   rw[List.flatMap_cons];split<;>simp
  rw[List.getLast?_append]at hh;have hd:∀d:Fin 16,dC d.val≠32:=by decide +kernel
  rw[List.flatMap_cons,List.flatMap_nil,List.append_nil]at hh;split at hh
  ·have:dC (c.toNat%16)=32:=by simpa using hh
   exact hd ⟨c.toNat%16,Nat.mod_lt _ (by omega)⟩ this
  ·have:c=32:=by simpa using hh
   exact hc this
theorem Md {s:Bs} (h:s[0]? ≠some 47):(aq [] s).head? ≠some 47:=by
 cases s with
 | nil=>intro hh;cases hh
 | cons c r=>
   unfold aq;rw[List.flatMap_cons];split
   ·intro hh;cases hh
   ·intro hh
    apply h
    exact hh
theorem tX {s:Bs} (h:aj s=false):s≠cJ:=fun e=>by rw[e]at h;cases h
theorem Kj {u:au} (hu:l5 u) (hs:I0 u.scheme) (iB:aj u.scheme=false) {path:List Bs} (hp:ec u.scheme (aj u.scheme) path) (du:path≠[]):MU {u with path:=path}:=by
 exact{
  s1:=hs.1,s2:=hs.2.1,s3:=hs.2.2.1,s4:=hs.2.2.2
  user:=by show u.user.all _=true;rw[hu.user];rfl
  pass:=by show u.pass.all _=true;rw[hu.pass];rfl
  special:=fun h=>by rw[show aj u.scheme=false from iB]at h;cases h
  bare:=fun _=>⟨hu.user,hu.pass,hu.host,hu.port⟩
  opaqueN:=fun h=>by rw[show u.opq=false from hu.opq]at h;cases h
  path:=fun _=>⟨hp.1,fun _=>du⟩
  drive:=hp.2
  host:=fun h=>by rw[show u.hasHost=false from hu.hasHost]at h;cases h
  empty:=fun _=>⟨hu.user,hu.pass,hu.port⟩
  needed:=fun h=>by rw[show aj u.scheme=false from iB]at h;cases h
  file:=fun h=>absurd h (tX iB)
  port:=Or.inl hu.port}
theorem sC {u:au} (hu:l5 u) (hs:I0 u.scheme) (iB:aj u.scheme=false) {p:Bs} (h1:p.all (okE [])=true) (h2:(35:UInt8)∉p) (h3:(63:UInt8)∉p) (h4:p.head? ≠some 47) (q:Bs) (hq:Bool) (h5:hq=false->u.hasFragment=false->p.getLast? ≠some 32):
  MU {u with opq:=true,path:=[p],query:=q,hasQuery:=hq}:=by
 exact{
  s1:=hs.1,s2:=hs.2.1,s3:=hs.2.2.1,s4:=hs.2.2.2
  user:=by show u.user.all _=true;rw[hu.user];rfl
  pass:=by show u.pass.all _=true;rw[hu.pass];rfl
  special:=fun h=>by rw[show aj u.scheme=false from iB]at h;cases h
  bare:=fun _=>⟨hu.user,hu.pass,hu.host,hu.port⟩
  opaqueN:=fun _=>⟨hu.hasHost,p,rfl,h1,h2,h3,h4,h5⟩
  path:=fun h=>by cases h
  drive:=fun h=>absurd h (tX iB)
  host:=fun h=>by rw[show u.hasHost=false from hu.hasHost]at h;cases h
  empty:=fun _=>⟨hu.user,hu.pass,hu.port⟩
  needed:=fun h=>by rw[show aj u.scheme=false from iB]at h;cases h
  file:=fun h=>absurd h (tX iB)
  port:=Or.inl hu.port}
theorem k35:(35:UInt8)≠37/\∀d:Fin 16,dC d.val≠35:=by decide +kernel
theorem k63:(63:UInt8)≠37/\∀d:Fin 16,dC d.val≠63:=by decide +kernel
theorem EF {u v:au} {s:Bs} {b:Option au} (e:jL u s b=.ok v) (hu:l5 u) (h35:(35:UInt8)∉s) (KQ:(63:UInt8)∉s) (iK:u.hasQuery=false->u.hasFragment=false->s.getLast? ≠some 32) (hq:QN u) (hb:∀x,b=some x->NU x):
  MU v/\QN v/\v.hasFragment=u.hasFragment/\v.fragment=u.fragment:=by
 have hb':∀x,b=some x->MU x/\QN x:=fun x hx=>⟨(hb x hx).toMU,(hb x hx).noQuery⟩;have mo:∀sch,l5 {u with scheme:=sch}:=fun sch=>⟨hu.user,hu.pass,hu.hasHost,hu.host,hu.port,hu.opq,hu.path⟩;unfold jL at e;simp only at e;cases lV:(aI s).2.2 with
 | true=>
   obtain⟨Dp,a,ha⟩:=Br lV;rw[lV,if_pos rfl]at e;have Zv:(35:UInt8)∉(aI s).2.1:=fun h=>h35 (by rw[ha];exact List.mem_append_right _ (List.mem_cons_of_mem _ h));have Zz:(63:UInt8)∉(aI s).2.1:=fun h=>KQ (by rw[ha];exact List.mem_append_right _ (List.mem_cons_of_mem _ h))
   have OS:(aI s).2.1.getLast? =some 32->s.getLast? =some 32:=by
    intro h;rw[ha,List.getLast?_append,List.getLast?_cons,h];rfl
   generalize (aI s).1=sch at e Dp;generalize (aI s).2.1=r at e Zv Zz OS
   have wv:∀{t:Bs},dK {u with scheme:=sch} t=.ok v->sch≠cJ->MU v/\QN v/\v.hasFragment=u.hasFragment/\v.fragment=u.fragment:=by
    intro t et hf;obtain⟨h1,h2,h3,h4,h5,h6⟩:=pN et Dp hf hu.port hu.user hu.pass hu.opq hu.path;exact⟨h1,fun h=>by rw[h4];exact hq (h3▸h),h5,h6⟩
   split at e
   ·rename_i hf;exact sL (u:={u with scheme:=sch}) e hf (mo sch) hb' hq
   ·rename_i hf;split at e
    ·rename_i iB;cases b with
     | none=>exact wv e hf
     | some x=>
       simp only at e;split at e
       ·rename_i hh;have hx:=hb x rfl;refine yw (u:={u with scheme:=sch}) e hx.toMU hh.1.symm hf (mo sch) ?_ hq hx.noQuery;exact(hx.special (by rw[hh.1];exact iB)).2.1
       ·exact wv e hf
    ·rename_i iB;have aag:aj sch=false:=by simpa using iB
     split at e
     ·exact wv e hf
     ·rename_i y6;split at e
      ·injection e with e
       rw[<-e];have Az:ec sch (aj sch) u.path:=by rw[hu.path];exact nM _ _
       obtain⟨h1,h2⟩:=nl (u:={u with scheme:=sch}) (t:=r.drop 1) Az;exact⟨Kj (mo sch) Dp aag h1 h2,hq,rfl,rfl⟩
      ·rename_i DN;injection e with e
       rw[<-e]
       have hh:r[0]? ≠some 47:=by
        intro h
        apply DN
        rw[xj,h];rfl
       exact⟨sC (mo sch) Dp aag (ld 0 (by omega) r) (G6 k35 Zv) (G6 k63 Zz) (Md hh) u.query u.hasQuery (fun h1 h2=>N9 (fun h=>iK h1 h2 (OS h))),hq,rfl,rfl⟩
 | false=>
   rw[lV,if_neg (by decide)]at e;cases b with
   | none=>cases e
   | some x=>
     simp only at e;have hx:=hb x rfl;have Dp:I0 x.scheme:=⟨hx.s1,hx.s2,hx.s3,hx.s4⟩;split at e
     ·cases e
     ·rename_i hc;split at e
      ·rename_i ho;injection e with e
       rw[ho,Bool.true_and]at hc;have AN:(!s.isEmpty||u.hasQuery|| !u.hasFragment)=false:=by simpa using hc
       simp only[Bool.or_eq_false_iff,Bool.not_eq_false']at AN;obtain⟨⟨_,c2⟩,c3⟩:=AN;obtain⟨_,p,hp,p1,p2,p3,p4,_⟩:=hx.opaqueN ho
       have iB:aj x.scheme=false:=by
        cases hh:aj x.scheme
        ·rfl
        ·have:=(hx.special hh).2.1;rw[ho]at this;cases this
       have he:gR {u with scheme:=x.scheme,opq:=true} x []={u with scheme:=x.scheme,opq:=true,path:=[p],query:=x.query,hasQuery:=x.hasQuery}:=by
        unfold gR;rw[if_neg (fun h=>h rfl)];show(if u.hasQuery=true then _ else _)=_;rw[c2,if_neg (by decide),hp]
       rw[<-e];have he2:gR {({u with scheme:=x.scheme}:au)with opq:=true} x []={u with scheme:=x.scheme,opq:=true,path:=[p],query:=x.query,hasQuery:=x.hasQuery}:=he;rw[he2];exact⟨sC (mo x.scheme) Dp iB p1 p2 p3 p4 x.query x.hasQuery (fun _ h=>by rw[show u.hasFragment=true from c3]at h;cases h),hx.noQuery,rfl,rfl⟩
      ·rename_i ho;have ho':x.opq=false:=by simpa using ho
       split at e
       ·rename_i hf;exact sL (u:={u with scheme:=x.scheme}) e hf (mo x.scheme) hb' hq
       ·rename_i hf;exact yw (u:={u with scheme:=x.scheme}) e hx.toMU rfl hf (mo x.scheme) ho' hq hx.noQuery
theorem jX (of:Bs):∀s:Bs,(aq of s).length<=3*s.length
 | []=>Nat.zero_le _
 | c::r=>by
   have ih:=jX of r;unfold aq at ih⊢;rw[List.flatMap_cons,List.length_append,List.length_cons]
   have:(if c<32||126<c||of.contains c then[37,dC (c.toNat / 16),dC (c.toNat%16)]else[c]:Bs).length<=3:=by
    split
    ·exact Nat.le_refl 3
    ·exact Nat.le_add_left 1 2
   omega
def pl (l:List Bs):Nat:=(MA l).length
theorem UB:pl []=0:=rfl
theorem An (a b:List Bs):pl (a++b)=pl a+pl b:=by simp[pl,MA]
theorem Fl (p:Bs):pl [p]=p.length+1:=by simp[pl,MA]
theorem tR (scheme:Bs) (l:List Bs):pl (bI scheme l)<=pl l:=by
 unfold bI;split
 ·exact Nat.le_refl _
 ·rcases List.eq_nil_or_concat l with rfl|⟨r,p,rfl⟩
  ·exact Nat.le_refl _
  ·rw[List.concat_eq_append,List.dropLast_concat,An];omega
theorem PP (l:List Bs):pl (l.take 1)<=pl l:=by
 cases l with
 | nil=>exact Nat.le_refl _
 | cons p r=>
   show pl [p]<=pl ([p]++r);rw[An];omega
def pw (l:List Bs):Nat:=(l.map fun p=>3*p.length+1).sum
theorem tt (p:Bs) (l:List Bs):pw (p::l)=3*p.length+1+pw l:=by simp[pw]
theorem Iy (scheme:Bs):∀(ps j8:List Bs),pl (onL scheme j8 ps)<=pl j8+pw ps
 | [],j8=>Nat.le_refl _
 | p::r,j8=>by
   have ih:=fun a=>Iy scheme r a;have he:=jX (dw 4) p;have hs:=tR scheme j8;have h1:∀a:List Bs,pl (a++[[]])=pl a+1:=fun a=>by rw[An,Fl];rfl
   rw[onL,tt]
   try simp only
   generalize aq (dw 4) p=q at he;split
   ·split
    ·have:=ih (bI scheme j8++[[]]);rw[h1]at this;omega
    ·have:=ih (bI scheme j8);omega
   ·split
    ·split
     ·have:=ih (j8++[[]]);rw[h1]at this;omega
     ·have:=ih j8;omega
    ·have h2:(if scheme=cJ/\j8=[]/\cz q=true then q.take 1++[58]else q).length<=q.length:=by
      split
      ·rename_i hh
       match q,hh.2.2 with
       | [a,b],_=>exact Nat.le_refl _
      ·exact Nat.le_refl _
     have:=ih (j8++[if scheme=cJ/\j8=[]/\cz q=true then q.take 1++[58]else q]);rw[An,Fl]at this;omega
theorem uS (sp:Bool):∀s:Bs,pw (eW sp s)<=3*s.length+1
 | []=>Nat.le_refl _
 | c::r=>by
   have ih:=uS sp r;rw[eW];split
   ·rw[tt,List.length_cons];simp;omega
   ·cases he:eW sp r with
    | nil=>exact absurd he (rE r)
    | cons x t=>
      rw[he,tt]at ih;show pw ((c::x)::t)<=_;rw[tt,List.length_cons,List.length_cons];omega
theorem qB (u:au) (t:Bs):pl (onP u t).path<=pl u.path+3*t.length+1:=by
 have h1:=Iy u.scheme (eW (aj u.scheme) t) u.path;have h2:=uS (aj u.scheme) t;show pl (onL u.scheme u.path (eW (aj u.scheme) t))<=_;omega
theorem lz (k:UInt8) (s:Bs):(Lib.cut s [k]).1.length+(Lib.cut s [k]).2.1.length<=s.length:=by
 have h:=gS k s;cases hc:(Lib.cut s [k]).2.2 with
 | true=>
   have:=congrArg List.length (h.2.2.2 hc);rw[List.length_append,List.length_cons]at this;omega
 | false=>
   obtain⟨h1,h2⟩:=h.2.1 hc;rw[h1,h2];simp
theorem pW (sp:Bool) (s:Bs):(dN sp s).1.length+(dN sp s).2.1.length<=s.length:=by
 have h:∀s:Bs,(s.takeWhile fun c=> !bE sp c).length+(s.dropWhile fun c=> !bE sp c).length=s.length:=by
  intro s;have:=congrArg List.length (List.takeWhile_append_dropWhile (p:=fun c=> !bE sp c) (l:=s))
  rwa [List.length_append]at this
 have:=h s;unfold dN;simp only[List.length_drop];omega
theorem pi:∀{s x y:Bs},ek s=some (x,y)->x.length+y.length+1=s.length
 | [],_,_,h=>by cases h
 | c::r,x,y,h=>by
   rw[ek]at h;cases hl:ek r with
   | some xy=>
     obtain⟨a,b⟩:=xy;rw[hl]at h;have:=pi hl;simp only[Option.some.injEq,Prod.mk.injEq]at h;obtain⟨rfl,rfl⟩:=h;rw[List.length_cons,List.length_cons];omega
   | none=>
     rw[hl]at h;simp only at h;split at h
     ·simp only[Option.some.injEq,Prod.mk.injEq]at h;obtain⟨rfl,rfl⟩:=h
      simp
     ·cases h
theorem rh (sep:Bs) (m:Nat):∀ls:List Bs,(∀x,x∈ls->x.length<=m)->(fE sep ls).length<=ls.length*(m+sep.length)
 | [],_=>by simp[fE]
 | [x],h=>by
   have hx:=h x (by simp)
   simp[fE];omega
 | x::y::r,h=>by
   have hx:=h x (by simp);have hr:=rh sep m (y::r) (fun z hz=>h z (by simp[hz]));rw[fE,List.length_append,List.length_append,List.length_cons,Nat.succ_mul];omega
theorem BY:∀l:Bs,(a7 l).length<=l.length:=by
 intro l
 induction h:l.length using Nat.strongRecOn generalizing l with
 | ind n ih=>
   cases l with
   | nil=>rw[a7];simp
   | cons c r=>
     rw[a7];simp only[List.length_cons]at h;split
     ·have:=ih (r.drop 2).length (by simp;omega) (r.drop 2) rfl
      simp at this⊢;omega
     ·have:=ih r.length (by omega) r rfl
      simp;omega
theorem qV (l:List Nat) (h:∀n∈l,n<65536) (h8:l.length<=8):(bW l).length<=40:=by
 have hj:=rh [58] 4 (l.map gW) (by
  intro x hx;obtain⟨n,hn,rfl⟩:=List.mem_map.1 hx;exact uC 3 n (by simpa using h n hn))
 rw[List.length_map]at hj;unfold bW
 simp at hj;omega
theorem I4 (a:List Nat) (h8:a.length=8) (hl:∀n∈a,n<65536):(eN a).length<=100:=by
 unfold eN;have h1:=qV a hl (by omega);have h2:=qV (a.take (gV 0 a (0,0)).1) (fun n hn=>hl n (List.mem_of_mem_take hn)) (by rw[List.length_take];omega);have h3:=qV (a.drop (gV 0 a (0,0)).2) (fun n hn=>hl n (List.mem_of_mem_drop hn)) (by rw[List.length_drop];omega);split
 ·omega
 ·rw[List.length_append,List.length_append];show _+2+_<=_;omega
theorem xe:∀(k m:Nat),m<10^(k+1)->(Lib.decDigits m).length<=k+1:=by
 intro k
 induction k with
 | zero=>intro m h;rw[Lib.decDigits,dif_pos (by simpa using h)];simp
 | succ k ih=>
   intro m h;rw[Lib.decDigits];split
   ·simp
   ·have:=ih (m / 10) (by rw[Nat.pow_succ]at h;omega)
    simp;omega
theorem BN (b:List Nat) (h:b.length=4) (hl:∀n∈b,n<256):(eR b).length<=16:=by
 have hj:=rh [46] 3 (b.map fun x=>Lib.decDigits x) (by
  intro x hx;obtain⟨n,hn,rfl⟩:=List.mem_map.1 hx;exact xe 2 n (by have:=hl n hn;simp;omega))
 rw[List.length_map,h]at hj;exact hj
theorem rk (s h:Bs) (b:Bool) (e:aX s b=.ok h):h.length<=3*s.length+110:=by
 unfold aX at e;split at e
 ·split at e
  ·cases e
  ·cases ha:jw ((s.drop 1).dropLast)with
   | none=>rw[ha]at e;cases e
   | some a=>
     rw[ha]at e;simp only[Option.map_some,ofO]at e;injection e with e
     obtain⟨h8,hl⟩:=zF ha;have:=I4 a h8 hl;rw[<-e,List.length_append,List.length_append];show 1+_+1<=_;omega
 ·split at e
  ·unfold eE at e;simp only at e;split at e
   ·cases e
   ·split at e
    ·cases hf:fK (dn (low (a7 s)))with
     | none=>rw[hf]at e;cases e
     | some t=>
       rw[hf]at e;simp only[ofO]at e;injection e with e
       obtain⟨b4,h4,hl,rfl⟩:=Ic (xL _) hf;have:=BN b4 h4 hl;rw[<-e];omega
    ·injection e with e
     have:=BY s;rw[<-e];show(low (a7 s)).length<=_;unfold low;rw[List.length_map];omega
  ·split at e
   ·cases e
   ·injection e with e
    have:=jX [] s;rw[<-e];omega
def wt (u:au):Nat:=u.scheme.length+u.user.length+u.pass.length+u.host.length+pl u.path
theorem vN {u v:au} {a:Bs} (e:eV u a=.ok v):v.host.length<=3*a.length+110:=by
 unfold eV at e
 have hp:∀{w v:au} {s:Bs},ew w s=.ok v->v.host=w.host:=by
  intro w v s h;unfold ew at h;cases hn:ko 0 s with
  | none=>rw[hn]at h;cases h
  | some n=>
    rw[hn]at h;simp only at h;split at h
    ·cases h
    ·injection h with h
     rw[<-h];split<;>rfl
 cases hc:dR false a with
 | some i=>
   rw[hc]at e;simp only at e;split at e
   ·cases e
   ·obtain⟨w,hw,e⟩:=iX e;obtain⟨h,rfl,hh⟩:=jQ hw;have h1:=rk _ _ _ hh;rw[hp e];rw[List.length_take]at h1;show h.length<=_;omega
 | none=>
   rw[hc]at e;simp only at e;split at e
   ·cases e
   ·obtain⟨w,hw,e⟩:=iX e;obtain⟨h,rfl,hh⟩:=jQ hw;have h1:=rk _ _ _ hh;rw[hp e];exact h1
theorem Jr {u v:au} {a:Bs} (e:jk u a=.ok v) (hu:u.port= -1) (tP:u.user=[]) (qG:u.pass=[]):v.user.length+v.pass.length+v.host.length<=3*a.length+110:=by
 unfold jk at e;cases hl:ek a with
 | some xy=>
   obtain⟨x,y⟩:=xy;rw[hl]at e;simp only at e;split at e
   ·cases e
   ·have aO:=pi hl;have h1:=vN e;obtain⟨h,p,rfl,_⟩:=nV e (show(BX u x).port= -1 from hu);have h2:=lz 58 x;have h3:=jX (dw 5) (Lib.cut x [58]).1;have h4:=jX (dw 5) (Lib.cut x [58]).2.1;show(aq (dw 5) (Lib.cut x [58]).1).length+(aq (dw 5) (Lib.cut x [58]).2.1).length+h.length<=_;have h1:h.length<=3*y.length+110:=h1;omega
 | none=>
   rw[hl]at e;have h1:=vN e;obtain⟨h,p,rfl,_⟩:=nV e hu;show u.user.length+u.pass.length+h.length<=_;have h1:h.length<=3*a.length+110:=h1;rw[tP,qG]
   simp;omega
theorem su {u v:au} {r:Bs} (e:dK u r=.ok v) (hu:u.port= -1) (tP:u.user=[]) (qG:u.pass=[]) (hp:u.path=[]):wt v<=u.scheme.length+3*r.length+111:=by
 unfold dK at e;obtain⟨w,hw,e⟩:=iX e;have h1:=Jr hw hu tP qG;obtain⟨us,pa,h,p,rfl,_⟩:=u5 hw hu tP qG;injection e with e
 have hc:=pW (aj u.scheme) r;have h1:us.length+pa.length+h.length<=3*(dN (aj u.scheme) r).1.length+110:=h1;split at e
 ·have h2:=qB {u with user:=us,pass:=pa,host:=h,hasHost:=true,port:=p} (dN (aj u.scheme) r).2.1;have h2:pl (onP {u with user:=us,pass:=pa,host:=h,hasHost:=true,port:=p} (dN (aj u.scheme) r).2.1).path<=pl u.path+3*(dN (aj u.scheme) r).2.1.length+1:=h2;have h0:pl u.path=0:=by rw[hp];rfl
  rw[<-e];show u.scheme.length+us.length+pa.length+h.length+pl _<=_;omega
 ·rw[<-e];show u.scheme.length+us.length+pa.length+h.length+pl u.path<=_;rw[hp,UB];omega
def bw:Option au->Nat
 | some x=>wt x
 | none=>0
theorem CQ {u b v:au} {r:Bs} (e:Ae u b r=.ok v) (hs:u.scheme=b.scheme) (hu:l5 u):wt v<=wt b+3*r.length+111:=by
 have K8:u.scheme.length=b.scheme.length:=by rw[hs]
 unfold Ae at e;simp only at e;split at e
 ·have h1:=su e hu.port hu.user hu.pass hu.path
  have h2:(if aj u.scheme=true then r.drop (kh (aj u.scheme) r)else r.drop 2).length<=r.length:=by
   split
   ·rw[List.length_drop];omega
   ·rw[List.length_drop];omega
  have h3:b.scheme.length<=wt b:=by unfold wt;omega
  omega
 ·split at e
  ·injection e with e
   have h1:=qB (ma u b) (r.drop 1);have h0:pl (ma u b).path=0:=by show pl u.path=0;rw[hu.path];rfl
   have h2:(r.drop 1).length<=r.length:=by rw[List.length_drop];omega
   rw[<-e];show u.scheme.length+b.user.length+b.pass.length+b.host.length+pl (onP (ma u b) (r.drop 1)).path<=_;unfold wt;omega
  ·injection e with e
   rw[<-e];unfold gR;have iz:=tR u.scheme b.path;split
   ·have h1:∀w:au,w.path=bI u.scheme b.path->pl (onP w r).path<=pl (bI u.scheme b.path)+3*r.length+1:=by
     intro w hw;have h2:=qB w r;rw[show pl w.path=pl (bI u.scheme b.path) by rw[hw]]at h2;exact h2
    show u.scheme.length+b.user.length+b.pass.length+b.host.length+pl _<=_;refine Nat.le_trans (Nat.add_le_add_left (h1 _ rfl) _) ?_;unfold wt;omega
   ·split
    ·show u.scheme.length+b.user.length+b.pass.length+b.host.length+pl b.path<=_;unfold wt;omega
    ·show u.scheme.length+b.user.length+b.pass.length+b.host.length+pl b.path<=_;unfold wt;omega
theorem vR {u v:au} {b:Option au} {r:Bs} (e:lK u b r=.ok v) (hu:l5 u):wt v<=u.scheme.length+bw b+3*r.length+111:=by
 have hz:pl u.path=0:=by rw[hu.path];rfl
 have nY:∀(w:au) (t:Bs) (k:Nat),w.scheme=u.scheme->w.user=[]->w.pass=[]->w.host.length+pl w.path+3*t.length<=k->wt (onP w t)<=u.scheme.length+k+1:=by
  intro w t k h1 h2 h3 h4;have h5:=qB w t;show w.scheme.length+w.user.length+w.pass.length+w.host.length+pl (onP w t).path<=_;rw[h1,h2,h3];simp only[List.length_nil];omega
 have hd2:(r.drop 2).length<=r.length:=by rw[List.length_drop];omega
 have hd1:(r.drop 1).length<=r.length:=by rw[List.length_drop];omega
 have hh0:u.host.length=0:=by rw[hu.host];rfl
 have hc:=pW true (r.drop 2);unfold lK at e;simp only at e;split at e
 ·split at e
  ·injection e with e
   rw[<-e];have:=nY {u with hasHost:=true} (r.drop 2) (3*r.length) rfl hu.user hu.pass (by show u.host.length+pl u.path+_<=_;omega);omega
  ·obtain⟨w,hw,e⟩:=iX e;injection e with e
   rw[<-e];split at hw
   ·injection hw with hw
    have hh:w.host=[]:=by rw[<-hw];exact hu.host
    rw[if_neg (by rw[hh];decide),<-hw];have:=nY {u with hasHost:=true} (dN true (r.drop 2)).2.1 (3*r.length) rfl hu.user hu.pass (by show u.host.length+pl u.path+_<=_;omega);omega
   ·obtain⟨h,rfl,hh⟩:=jQ hw;have hl:=rk _ _ _ hh;split
    ·have:=nY {u with hasHost:=true,host:=[]} (dN true (r.drop 2)).2.1 (3*r.length) rfl hu.user hu.pass (by show 0+pl u.path+_<=_;omega);refine Nat.le_trans this ?_;omega
    ·have:=nY {u with hasHost:=true,host:=h} (dN true (r.drop 2)).2.1 (3*r.length+110) rfl hu.user hu.pass (by show h.length+pl u.path+_<=_;omega);refine Nat.le_trans this ?_;omega
 ·have hb:∀x,b=some x->x.host.length+pl x.path<=bw b:=by
   rintro x rfl;show _<=wt x;unfold wt;omega
  split at e
  ·injection e with e
   rw[<-e];cases b with
   | none=>
     have:=nY {u with hasHost:=true} (r.drop 1) (3*r.length) rfl hu.user hu.pass (by show u.host.length+pl u.path+_<=_;omega);refine Nat.le_trans this ?_;omega
   | some x=>
     have qL:=hb x rfl;have ht:=PP x.path;simp only;split
     ·split
      ·have:=nY {u with hasHost:=true,host:=x.host,path:=x.path.take 1} (r.drop 1) (bw (some x)+3*r.length) rfl hu.user hu.pass (by show x.host.length+pl (x.path.take 1)+_<=_;omega);refine Nat.le_trans this ?_;omega
      ·have:=nY {u with hasHost:=true,host:=x.host} (r.drop 1) (bw (some x)+3*r.length) rfl hu.user hu.pass (by show x.host.length+pl u.path+_<=_;omega);refine Nat.le_trans this ?_;omega
     ·have:=nY {u with hasHost:=true} (r.drop 1) (3*r.length) rfl hu.user hu.pass (by show u.host.length+pl u.path+_<=_;omega);refine Nat.le_trans this ?_;omega
  ·cases b with
   | none=>
     injection e with e
     rw[<-e];have:=nY {u with hasHost:=true} r (3*r.length) rfl hu.user hu.pass (by show u.host.length+pl u.path+_<=_;omega);refine Nat.le_trans this ?_;omega
   | some x=>
     have qL:=hb x rfl;simp only at e;split at e
     ·split at e
      ·injection e with e
       rw[<-e];have:=nY {u with hasHost:=true,host:=x.host} r (bw (some x)+3*r.length) rfl hu.user hu.pass (by show x.host.length+pl u.path+_<=_;omega);refine Nat.le_trans this ?_;omega
      ·injection e with e
       rw[<-e];have iz:=tR u.scheme x.path;have h00:u.user.length=0/\u.pass.length=0:=by rw[hu.user,hu.pass];exact⟨rfl,rfl⟩
       unfold gR;split
       ·have:=nY {({({u with hasHost:=true}:au)with host:=x.host}:au)with path:=bI u.scheme x.path} r (bw (some x)+3*r.length) rfl hu.user hu.pass (by show x.host.length+pl (bI u.scheme x.path)+_<=_;omega);refine Nat.le_trans this ?_;omega
       ·split
        ·show u.scheme.length+u.user.length+u.pass.length+x.host.length+pl x.path<=_;omega
        ·show u.scheme.length+u.user.length+u.pass.length+x.host.length+pl x.path<=_;omega
     ·injection e with e
      rw[<-e];have:=nY {u with hasHost:=true} r (3*r.length) rfl hu.user hu.pass (by show u.host.length+pl u.path+_<=_;omega);refine Nat.le_trans this ?_;omega
theorem LC {b:UInt8} {l:Bs} (h:([37,50,101]:Bs).isPrefixOf (b::l)=false):unE (b::l)=b::unE l:=by
 conv=>lhs;unfold unE
 split
 ·rename_i r he;rw[he]at h
  simp[List.isPrefixOf]at h
 ·rename_i c r _ he;injection he with h1 h2
  rw[h1,h2]
 ·rename_i he;cases he
theorem PO (r:Bs):unE (37::50::101::r)=46::unE r:=by
 conv=>lhs;unfold unE
 rfl
theorem Nk {s:Bs} (h:([37,50,101]:Bs).isPrefixOf s=true):∃r,s=37::50::101::r:=by
 match s,h with
 | a::b::c::r,h=>
   simp only[List.isPrefixOf,Bool.and_true,Bool.and_eq_true,beq_iff_eq]at h;obtain⟨h1,h2,h3⟩:=h;exact⟨r,by rw[<-h1,<-h2,<-h3]⟩
 | [],h=>simp[List.isPrefixOf]at h
 | [_],h=>simp[List.isPrefixOf]at h
 | [_,_],h=>simp[List.isPrefixOf]at h
theorem xJ:∀s:Bs,(Lib.index s [37,50,101]= -1->unE s=s)/\(∀i:Nat,Lib.index s [37,50,101]=i->unE s=s.take i++46::unE (s.drop (i+3)))
 | []=>⟨fun _=>by unfold unE;rfl,fun i h=>by
  have:Lib.index [] ([37,50,101]:Bs)= -1:=rfl;rw[this]at h;omega⟩
 | b::l=>by
   obtain⟨WC,XK⟩:=xJ l;rw[Lib.index];cases hp:([37,50,101]:Bs).isPrefixOf (b::l)with
   | true=>
     obtain⟨r,hr⟩:=Nk hp;simp only[if_true];refine⟨fun h=>by omega,fun i h=>?_⟩;have hi:i=0:=by omega
     subst hi;rw[hr,PO];rfl
   | false=>
     simp only[Bool.false_eq_true,if_false];have AS:=Lib.index_ge l [37,50,101];by_cases h1:Lib.index l [37,50,101]= -1
     ·rw[h1];refine⟨fun _=>by rw[LC hp,WC h1],fun i h=>?_⟩;have:((-1:Int)== -1)=true:=rfl;rw[this,if_pos rfl]at h;omega
     ·have hb:(Lib.index l [37,50,101]== -1)=false:=by rw[beq_eq_false_iff_ne];exact h1
      rw[hb];simp only[Bool.false_eq_true,if_false];refine⟨fun h=>by omega,fun i h=>?_⟩;obtain⟨j,rfl⟩:∃j,i=j+1:=⟨i-1,by omega⟩;rw[LC hp,XK j (by omega)];rfl
theorem pU:∀(f:Nat) (s:Bs),s.length<f->Lib.replaceK [37,50,101] [46] (Lib.countFrom [37,50,101] f s) s=unE s
 | 0,s,h=>by omega
 | f+1,s,h=>by
   obtain⟨h1,h2⟩:=xJ s;rw[Lib.countFrom];by_cases hi:Lib.index s [37,50,101]= -1
   ·rw[hi];show Lib.replaceK _ _ 0 s=_;rw[h1 hi];rfl
   ·have AS:=Lib.index_ge s [37,50,101];obtain⟨i,AA⟩:∃i:Nat,Lib.index s [37,50,101]=i:=⟨(Lib.index s [37,50,101]).toNat,by omega⟩;have hb:(Lib.index s [37,50,101]== -1)=false:=by rw[beq_eq_false_iff_ne];exact hi
    rw[hb];simp only[Bool.false_eq_true,if_false];rw[Nat.add_comm 1,Lib.replaceK_hit _ _ _ _ i AA,AA]
    have hd:(s.drop (i+([37,50,101]:Bs).length)).length<f:=by
     have hs:s≠[]:=by
      rintro rfl;exact hi rfl
     have hl:0<s.length:=by
      cases s with
      | nil=>exact absurd rfl hs
      | cons _ _=>simp
     rw[List.length_drop];show s.length-(i+3)<f;omega
    have ih:=pU f (s.drop (i+([37,50,101]:Bs).length)) hd;have e:((i:Int)).toNat=i:=by omega
    rw[e,ih,h2 i AA]
    simp
theorem BW (s:Bs):Lib.replaceAll s [37,50,101] [46]=unE s:=by
 unfold Lib.replaceAll Lib.replace;rw[if_neg (by decide)];unfold Lib.replaceNum;rw[if_pos (Or.inl (by decide))];exact pU (s.length+1) s (by omega)
def i5 (scheme:Bs) (path:List Bs) (p:Bs) (gd:Bool):List Bs:=
 let q:=aq (dw 4) p
 if ez q=2 then(if gd=false then bI scheme path++[[]]else bI scheme path)
 else if ez q=1 then(if gd=false then path++[[]]else path)
 else path++[if scheme=cJ/\path=[]/\cz q=true then q.take 1++[58]else q]
theorem tS (sp:Bool):∀s:Bs,eW sp s=(dN sp s).1::(if(dN sp s).2.2 then eW sp (dN sp s).2.1 else[])
 | []=>rfl
 | c::r=>by
   have ih:=tS sp r;rw[eW];by_cases h:bE sp c=true
   ·have h1:(dN sp (c::r))=([],r,true):=by simp[dN,h]
    rw[if_pos h,h1]
    simp
   ·have h2:bE sp c=false:=by simpa using h
    have h1:(dN sp (c::r))=(c::(dN sp r).1,(dN sp r).2.1,(dN sp r).2.2):=by simp[dN,h2]
    rw[if_neg h,h1,ih]
theorem MT (scheme:Bs) (path:List Bs) (p:Bs) (r:List Bs):onL scheme path (p::r)=onL scheme (i5 scheme path p (!decide (r=[]))) r:=by
 rw[onL,i5];by_cases hr:r=[]
 ·simp only[hr];by_cases h2:ez (aq (dw 4) p)=2
  ·simp[h2]
  ·by_cases h1:ez (aq (dw 4) p)=1<;>simp[h1,h2]
 ·simp only[hr];by_cases h2:ez (aq (dw 4) p)=2
  ·simp[h2]
  ·by_cases h1:ez (aq (dw 4) p)=1<;>simp[h1,h2]
theorem QJ (scheme:Bs) (path:List Bs):onL scheme path []=path:=by rw[onL]
theorem LZ (u:au) (t:Bs):onP u t=if(dN (aj u.scheme) t).2.2 then onP {u with path:=i5 u.scheme u.path (dN (aj u.scheme) t).1 true} (dN (aj u.scheme) t).2.1 else{u with path:=i5 u.scheme u.path (dN (aj u.scheme) t).1 false}:=by
 unfold onP;rw[tS,MT];cases h:(dN (aj u.scheme) t).2.2
 ·simp[QJ]
 ·simp[rE]
theorem my (scheme:Bs) (path:List Bs) (p:Bs) (gd:Bool) (h:ez (aq (dw 4) p)=2):i5 scheme path p gd=if gd=false then bI scheme path++[[]]else bI scheme path:=by simp[i5,h]
theorem mR (scheme:Bs) (path:List Bs) (p:Bs) (gd:Bool) (h:ez (aq (dw 4) p)=1):i5 scheme path p gd=if gd=false then path++[[]]else path:=by simp[i5,h]
theorem mX (scheme:Bs) (path:List Bs) (p:Bs) (gd:Bool) (h:ez (aq (dw 4) p)=0):i5 scheme path p gd=path++[if scheme=cJ/\path=[]/\cz (aq (dw 4) p)=true then(aq (dw 4) p).take 1++[58]else aq (dw 4) p]:=by simp[i5,h]
theorem rZ (p:Bs):ez p=0\/ez p=1\/ez p=2:=by
 unfold ez;split
 ·exact .inr (.inl rfl)
 ·split
  ·exact .inr (.inr rfl)
  ·exact .inl rfl
def plQ (q:UInt8->Bool) (l:Bs):Option Nat:=l.findIdx? q
theorem Mj {q:UInt8->Bool} {l:Bs} (h:plQ q l=none):l.takeWhile (fun c=> !q c)=l/\l.dropWhile (fun c=> !q c)=[]/\l.any q=false:=by
 induction l with
 | nil=>exact⟨rfl,rfl,rfl⟩
 | cons c r ih=>
   rw[plQ,List.findIdx?_cons]at h;cases hc:q c with
   | true=>rw[hc]at h;simp at h
   | false=>
     rw[hc]at h;obtain⟨h1,h2,h3⟩:=ih (by simpa [plQ]using h)
     simp[hc,h1,h2,h3]
theorem Be {q:UInt8->Bool} {l:Bs} {i:Nat} (h:plQ q l=some i):i<l.length/\l.takeWhile (fun c=> !q c)=l.take i/\(l.dropWhile (fun c=> !q c)).drop 1=l.drop (i+1)/\l.any q=true:=by
 induction l generalizing i with
 | nil=>cases h
 | cons c r ih=>
   rw[plQ,List.findIdx?_cons]at h;cases hc:q c with
   | true=>
     rw[hc]at h;obtain rfl:0=i:=by simpa using h
     simp[hc]
   | false=>
     rw[hc]at h;simp only[Bool.false_eq_true,if_false,Option.map_eq_some_iff]at h;obtain⟨k,hk,rfl⟩:=h;obtain⟨h1,h2,h3,h4⟩:=ih hk;exact⟨by simp;omega,by simp[hc,h2],by simp[hc,h3],by simp[hc,h4]⟩
theorem yk {sp:Bool} {s:Bs} (h:plQ (bE sp) s=none):dN sp s=(s,[],false):=by
 obtain⟨h1,h2,h3⟩:=Mj h
 simp[dN,h1,h2,h3]
theorem yU {sp:Bool} {s:Bs} {i:Nat} (h:plQ (bE sp) s=some i):dN sp s=(s.take i,s.drop (i+1),true):=by
 obtain⟨h0,h1,h2,h3⟩:=Be h;unfold dN;rw[h1,h2,h3]
theorem Nl {q:UInt8->Bool} {l:Bs} {i:Nat} (h:plQ q l=some i):i<l.length:=(Be h).1
theorem Cc (q:UInt8->Bool) (l:Bs) (pos:Nat):∀k,(∀j b,pos<=j->j<pos+k->l[j]? =some b->q b=false)->(plQ q (l.drop pos)).map (·+pos)=(plQ q (l.drop (pos+k))).map (·+(pos+k))
 | 0,_=>rfl
 | k+1,h=>by
   rw[Cc q l pos k fun j b h1 h2 hj=>h j b h1 (by omega) hj];by_cases hl:pos+k<l.length
   ·rw[List.drop_eq_getElem_cons hl,plQ,List.findIdx?_cons,h (pos+k) l[pos+k] (by omega) (by omega) (List.getElem?_eq_getElem hl)];show _=Option.map _ (plQ q (l.drop (pos+k+1)));rw[plQ];cases List.findIdx? q (l.drop (pos+k+1))with
    | none=>rfl
    | some n=>simp;omega
   ·rw[List.drop_eq_nil_of_le (by omega),List.drop_eq_nil_of_le (by omega)];rfl
theorem Ks (scheme:Bs) (path:List Bs) (p:Bs) (gd:Bool):(i5 scheme path p gd).length<=path.length+1:=by
 have hs:(bI scheme path).length<=path.length:=by
  unfold bI;split
  ·exact Nat.le_refl _
  ·simp
 rcases rZ (aq (dw 4) p)with h|h|h
 ·rw[mX _ _ _ _ h];simp
 ·rw[mR _ _ _ _ h];split<;>simp
 ·rw[my _ _ _ _ h];split<;>simp<;>omega
theorem xq {sp:Bool} {s:Bs} (h:(dN sp s).2.2=true):(dN sp s).1.length+(dN sp s).2.1.length+1=s.length:=by
 cases hp:plQ (bE sp) s with
 | none=>rw[yk hp]at h;cases h
 | some i=>
   have:=Nl hp;rw[yU hp]
   simp;omega
theorem jZ (sp:Bool):(if sp then([47,92]:Bs)else[47]).contains=bE sp:=by
 funext c
 cases sp<;>(rw[Bool.eq_iff_iff];simp[bE])
end Lz
namespace Go.Proofs.YtibcmemcfjhgmaaGreatDoor
open Go.RowKit
def eY (w:World) (v:Value) (l:List (List UInt8)):Prop:=
 ∃(a:Option Addr) (c:Nat) (xs:List ByteArray),v=.slice a xs.length c/\xs.map (fun x:ByteArray=>x.data.toList)=l/\∀(j:Nat) (x:ByteArray),xs[j]? =some x->∃B off,a=some ⟨B,off,none⟩/\B<w.heap.size/\w.cell? ⟨B,off+j,none⟩=some (.string x)
theorem eY.below {w w':World} {v:Value} {l:List (List UInt8)} (h:eY w v l) (hb:Below w.heap.size w w'):eY w' v l:=by
 obtain⟨a,c,xs,h1,h2,h3⟩:=h;refine⟨a,c,xs,h1,h2,fun j x hj=>?_⟩;obtain⟨B,off,e1,e2,e3⟩:=h3 j x hj;exact⟨B,off,e1,Nat.lt_of_lt_of_le e2 hb.size,by rw[hb.cell (p:=⟨B,off+j,none⟩) e2];exact e3⟩
theorem vK {l:List UInt8} (h:Lz.cz l=true):l.length=2:=by
 match l,h with
 | [_,_],_=>rfl
theorem E9 (v:Value) (l:List (List UInt8)) (w:World) (h:eY w v l):Calls Tryz.prog 182 #[v] w fun e w'=>e=.returned (.bool (Lz.jy l))/\w=w':=by
 obtain⟨a,c,xs,rfl,rfl,hx⟩:=h;cases xs with
 | nil=>
   go_enter Tryz.func182,Tryz.ntmps182
   go_wp2_with fail
   go_ret;exact⟨rfl,rfl⟩
 | cons x r=>
   obtain⟨B,off,rfl,hB,hc⟩:=hx 0 x rfl;rw[Nat.add_zero]at hc;have XV:(0:Int)<((x::r).length:Int):=by rw[List.length_cons];omega
   have XQ:(0:Int)<(r.length:Int)+1:=by omega
   have cD:=yT x w;have HV:Hid (Lz.jy ((x::r).map fun x:ByteArray=>x.data.toList)=(Lz.cz x.data.toList&&(x.data.toList[1]? ==some 58))):=rfl;cases hq:Lz.cz x.data.toList with
   | false=>
     rw[hq]at cD;have y5:Hid (Lz.jy ((x::r).map fun x:ByteArray=>x.data.toList)=false):=by show _=_;rw[HV.out,hq];rfl
     have CD:=Ih cD;clear cD hq hx;go_enter Tryz.func182,Tryz.ntmps182
     go_wp2_with fail
     refine CD.out.mono ?_;rintro e w1 ⟨rfl,rfl⟩
     go_wp2_with fail
     go_ret;rw[y5.out];exact⟨rfl,rfl⟩
   | true=>
     rw[hq]at cD;have hz:x.size=2:=vK hq;have SE:1<x.size:=by omega
     have abP:(1:Int)<(x.size:Int):=by omega
     obtain⟨d,hd⟩:∃d,d=x[1]:=⟨_,rfl⟩;have hdI:(x[1].toNat:Int)=(d.toNat:Int):=by rw[hd]
     have b1:((d.toNat:Int)==58)=(d==58):=Bl d 58
     have y5:Hid (Lz.jy ((x::r).map fun x:ByteArray=>x.data.toList)=(d==58)):=by
      show _=_;rw[HV.out,hq,aB SE,<-hd];rfl
     have CD:=Ih cD;have Hz:=Ih hz;clear cD hq hx hd hz;go_enter Tryz.func182,Tryz.ntmps182
     go_wp2_with fail
     refine CD.out.mono ?_;rintro e w1 ⟨rfl,rfl⟩
     go_wp2_with fail
     go_ret;rw[y5.out];exact⟨by first |rfl|rw[b1]|(rw[<-b1];rfl),rfl⟩
theorem gv {B M:Nat} {w:World} {x:MkV} {sp:Bool} {sl:ByteArray} (h:mQ B M w x sp sl) (k:Nat) (v:Value) (x':MkV) (sp':Bool) (sl':ByteArray)
  (hc:(#[.string x.sch,.string x.usr,.string x.pas,.bool x.hh,.string x.hst,.int .i64 x.prt,.bool x.opq,x.pv,.bool x.hq,.bool x.hf,.string x.qry,.string x.frg,.bool sp,.string sl]:Array Value).setIfInBounds k v= #[.string x'.sch,.string x'.usr,.string x'.pas,.bool x'.hh,.string x'.hst,.int .i64 x'.prt,.bool x'.opq,x'.pv,.bool x'.hq,.bool x'.hf,.string x'.qry,.string x'.frg,.bool sp',.string sl'])
  (ho:∀w',bG w' B x.pv x.xs->(bG w' B x'.pv x'.xs)):mQ B M (w.setCell ⟨M,k,none⟩ v) x' sp' sl':=
 ⟨jc h.row k v hc,ho _ (h.own.setCell h.row tQ k v),h.le⟩
theorem Uz (B M:Nat) (x:MkV) (sp:Bool) (sl s:ByteArray) (w:World) (hm:mQ B M w x sp sl):
  Calls Tryz.prog 120 #[.pointer (some ⟨M,0,none⟩),.string s] w fun e w'=>e=.returned (.tuple #[])/\Below B w w'/\mQ B M w' {x with sch:=s} (Lz.aj s.data.toList) (dk (Lz.aj s.data.toList)):=by
 obtain⟨sch,usr,pas,hh,hst,prt,opq,pv,xs,hq,hf,qry,frg⟩:=x;have oh:=hm.le;have cS:=Ih (fun W=>Cq s W);obtain⟨q,WV⟩:∃q,q=Lz.aj s.data.toList:=⟨_,rfl⟩;rw[<-WV]at cS⊢;clear WV;have m1:=gv hm 0 (.string s) {sch:=s,usr:=usr,pas:=pas,hh:=hh,hst:=hst,prt:=prt,opq:=opq,pv:=pv,xs:=xs,hq:=hq,hf:=hf,qry:=qry,frg:=frg} sp sl (by simp) (fun _ h=>h);have m2:=gv m1 12 (.bool q) {sch:=s,usr:=usr,pas:=pas,hh:=hh,hst:=hst,prt:=prt,opq:=opq,pv:=pv,xs:=xs,hq:=hq,hf:=hf,qry:=qry,frg:=frg} q sl (by simp) (fun _ h=>h);have m3:=gv m2 13 (.string ⟨#[47]⟩) {sch:=s,usr:=usr,pas:=pas,hh:=hh,hst:=hst,prt:=prt,opq:=opq,pv:=pv,xs:=xs,hq:=hq,hf:=hf,qry:=qry,frg:=frg} q ⟨#[47]⟩ (by simp) (fun _ h=>h);have m4:=gv m3 13 (.string ⟨#[47,92]⟩) {sch:=s,usr:=usr,pas:=pas,hh:=hh,hst:=hst,prt:=prt,opq:=opq,pv:=pv,xs:=xs,hq:=hq,hf:=hf,qry:=qry,frg:=frg} q ⟨#[47,92]⟩ (by simp) (fun _ h=>h);have b3:Below B w (((w.setCell ⟨M,0,none⟩ (.string s)).setCell ⟨M,12,none⟩ (.bool q)).setCell ⟨M,13,none⟩ (.string ⟨#[47]⟩)):=(((Below.refl B w).setCell (p:=⟨M,0,none⟩) oh _).setCell (p:=⟨M,12,none⟩) oh _).setCell (p:=⟨M,13,none⟩) oh _;have b4:=b3.setCell (p:=⟨M,13,none⟩) oh (.string ⟨#[47,92]⟩)
 have c0:=rowAt hm.row 0 (.string sch) rfl;have f0:=bX hm.row 0;have c12:=rowAt hm.row 12 (.bool sp) rfl;have f12:=bX hm.row 12;have c13:=rowAt hm.row 13 (.string sl) rfl;have f13:=bX hm.row 13;have e12:=rowAt m3.row 12 (.bool q) rfl;have M3:=Ih m3;have M4:=Ih m4;have B3:=Ih b3;have B4:=Ih b4;clear m1 m2 m3 m4 b3 b4 hm;cases q
 ·go_enter Tryz.func120,Tryz.ntmps120
  go_wp2_with fail
  refine(cS.out _).mono ?_;rintro e w1 ⟨rfl,rfl⟩
  go_wp2_with fail
  go_end0
  exact⟨rfl,B3.out,M3.out⟩
 ·go_enter Tryz.func120,Tryz.ntmps120
  go_wp2_with fail
  refine(cS.out _).mono ?_;rintro e w1 ⟨rfl,rfl⟩
  go_wp2_with fail
  go_end0
  exact⟨rfl,B4.out,M4.out⟩
theorem Et (s:List UInt8):Lz.bI s []=[]:=by unfold Lz.bI;split<;>rfl
theorem Bj {s:List UInt8} {l:List (List UInt8)} (h:¬(s=Lz.cJ/\l.length=1/\Lz.jy l=true)):Lz.bI s l=l.dropLast:=by unfold Lz.bI;rw[if_neg h]
theorem FK {B M:Nat} {w:World} {sch usr pas:ByteArray} {hh:Bool} {hst:ByteArray} {prt:Int} {opq:Bool} {a:Option Addr} {k c:Nat} {xs:List ByteArray} {hq hf:Bool} {qry frg:ByteArray} {sp:Bool} {sl:ByteArray}
  (hm:mQ B M w ⟨sch,usr,pas,hh,hst,prt,opq,.slice a (k+1) c,xs,hq,hf,qry,frg⟩ sp sl) (hn:xs.length=k+1):
  Below B w (w.setCell ⟨M,7,none⟩ (.slice a k k))/\mQ B M (w.setCell ⟨M,7,none⟩ (.slice a k k)) ⟨sch,usr,pas,hh,hst,prt,opq,.slice a k k,xs.dropLast,hq,hf,qry,frg⟩ sp sl:=
 ⟨(Below.refl B w).setCell (p:=⟨M,7,none⟩) hm.le _,gv hm 7 (.slice a k k) ⟨sch,usr,pas,hh,hst,prt,opq,.slice a k k,xs.dropLast,hq,hf,qry,frg⟩ sp sl (by simp) (fun _ h=>h.pop (by show 1<=xs.length;omega))⟩
theorem map_dropLast (xs:List ByteArray):xs.dropLast.map (fun x:ByteArray=>x.data.toList)=(xs.map (fun x:ByteArray=>x.data.toList)).dropLast:=by rw[List.map_dropLast]
theorem Dj (B M:Nat) (u:Lz.au) (w:World) (hm:fQ B M w u) (hl:u.path.length<=1000000000):
  Calls Tryz.prog 177 #[.pointer (some ⟨M,0,none⟩)] w (RMk B M {u with path:=Lz.bI u.scheme u.path} w):=by
 obtain⟨sch,usr,pas,hh,hst,prt,opq,a,c,xs,hq,hf,qry,frg,hk,rfl,hc,aW⟩:=hm.form;have wF:=hm;have AR:xs.length<=1000000000:=by simpa using hl
 have c7:=rowAt hk.row 7 (.slice a xs.length c) rfl;have c0:=rowAt hk.row 0 (.string sch) rfl;have f7:=bX hk.row 7;have hpa:eY w (.slice a xs.length c) (xs.map (fun x:ByteArray=>x.data.toList)):=⟨a,c,xs,rfl,rfl,aW⟩;have cR:=E9 _ _ w hpa;obtain⟨n,hn⟩:∃n,n=xs.length:=⟨_,rfl⟩;rw[<-hn]at c7 cR hc AR hk;clear aW hl hpa;cases n with
 | zero=>
   have hx:xs=[]:=List.length_eq_zero_iff.1 hn.symm;subst hx
   have HF:Hid (fQ B M w ⟨sch.data.toList,usr.data.toList,pas.data.toList,hh,hst.data.toList,prt,opq,Lz.bI sch.data.toList [],hq,hf,qry.data.toList,frg.data.toList⟩):=by
    rw[Et];exact wF
   clear hm wF hk cR hn;go_enter Tryz.func177,Tryz.ntmps177
   go_wp2_with fail
   go_end0
   exact⟨rfl,Below.refl _ _,HF.out⟩
 | succ k=>
   have AI:(0:Int)<(((k+1:Nat)):Int):=by omega
   have Gl:=FK hk hn.symm
   have HD:Hid ((¬(sch.data.toList=Lz.cJ/\k=0/\Lz.jy (xs.map (fun x:ByteArray=>x.data.toList))=true))->RMk B M ⟨sch.data.toList,usr.data.toList,pas.data.toList,hh,hst.data.toList,prt,opq,Lz.bI sch.data.toList (xs.map (fun x:ByteArray=>x.data.toList)),hq,hf,qry.data.toList,frg.data.toList⟩ w (.returned (.tuple #[])) (w.setCell ⟨M,7,none⟩ (.slice a k k))):=by
    intro nx;refine⟨rfl,Gl.1,_,Gl.2,Ih ?_⟩;rw[Bj (by rw[List.length_map,<-hn];intro h;exact nx ⟨h.1,by omega,h.2.2⟩),<-map_dropLast];rfl
   have Lf:((k+1:Nat):Int)-1=(k:Int):=by omega
   have DK:k<=1000000000:=by omega
   have hkc:k<=c:=by omega
   by_cases wL:sch.data.toList=Lz.cJ
   ·have g0:=eS (k:=[102,105,108,101]) wL;by_cases tM:k=0
    ·subst tM;cases hr:Lz.jy (xs.map (fun x:ByteArray=>x.data.toList))with
     | true=>
       have HF:Hid (fQ B M w ⟨sch.data.toList,usr.data.toList,pas.data.toList,hh,hst.data.toList,prt,opq,Lz.bI sch.data.toList (xs.map (fun x:ByteArray=>x.data.toList)),hq,hf,qry.data.toList,frg.data.toList⟩):=by
        have:Lz.bI sch.data.toList (xs.map (fun x:ByteArray=>x.data.toList))=xs.map (fun x:ByteArray=>x.data.toList):=by unfold Lz.bI;rw[if_pos ⟨wL,by rw[List.length_map,<-hn],hr⟩]
        rw[this];exact wF
       rw[hr]at cR;have CR:=Ih cR;clear hm wF hk cR hn Gl hr wL;go_enter Tryz.func177,Tryz.ntmps177
       go_wp2_with fail
       refine CR.out.mono ?_;rintro e w1 ⟨rfl,rfl⟩
       go_wp2_with fail
       go_end0
       exact⟨rfl,Below.refl _ _,HF.out⟩
     | false=>
       rw[hr]at cR;have HE:=Ih (HD.out (fun h=>by rw[hr]at h;exact absurd h.2.2 (by simp)));have CR:=Ih cR;clear hm wF hk cR hn Gl hr wL;go_enter Tryz.func177,Tryz.ntmps177
       go_wp2_with fail
       refine CR.out.mono ?_;rintro e w1 ⟨rfl,rfl⟩
       go_wp2_with fail
       go_end0
       exact HE.out
    ·have cf:(1:Int)<(((k+1:Nat)):Int):=by omega
     have TW:(1:Int)<(k:Int)+1:=by omega
     have HE:=Ih (HD.out (fun h=>tM h.2.1));clear hm wF hk cR hn Gl wL;go_enter Tryz.func177,Tryz.ntmps177
     go_wp2_with fail
     go_end0
     exact HE.out
   ·have g0:=fU (k:=[102,105,108,101]) wL;have HE:=Ih (HD.out (fun h=>wL h.1));clear hm wF hk cR hn Gl wL;go_enter Tryz.func177,Tryz.ntmps177
    go_wp2_with fail
    go_end0
    exact HE.out
theorem eU.at {B:Nat} {w w':World} (h:eU w) (hb:Below B w w') (hB:15<=B):eU w':=by
 have hz:=h.size;have hc:∀b o,b<15->w'.cell? ⟨b,o,none⟩=w.cell? ⟨b,o,none⟩:=fun b o aL=>hb.cell (p:=⟨b,o,none⟩) (by show b<_;omega);obtain⟨h1,h2,h3,h4,h5,h6,h7,h8⟩:=h;refine⟨?_,?_,?_,?_,?_,?_,?_,Nat.le_trans hz hb.size⟩
 ·obtain⟨m,hm⟩:=h1;exact⟨m,by rw[hc _ _ (by decide)];exact hm⟩
 ·exact var?_below hb PF (by have:10<15:=(by decide);omega) h2
 ·obtain⟨a,b,hm⟩:=h3;exact⟨a,b,by rw[hc _ _ (by decide)];exact hm⟩
 ·obtain⟨a,b,hm⟩:=h4;exact⟨a,b,by rw[hc _ _ (by decide)];exact hm⟩
 ·rw[hc _ _ (by decide)];exact h5
 ·rw[hc _ _ (by decide)];exact h6
 ·rw[hc _ _ (by decide)];exact h7
theorem Mf (s:ByteArray) (hs:s.size<=1000000000) (w:World) (hE:eU w):Calls Tryz.prog 190 #[.string s] w (Jp (Lz.ez s.data.toList:Nat) w):=by
 have cL:=Ih (fun W=>kp s (by omega) W);go_enter Tryz.func190,Tryz.ntmps190
 go_wp2_with fail
 refine(cL.out _).mono ?_;rintro e w1 ⟨u,rfl,hu,av⟩;have xD:u.size=s.size:=by rw[<-ac,hu.out,gK,ac]
 obtain⟨m,hm⟩:=(hE.below av).ml
 have cR:=Tryz.strings_ReplaceAll u ⟨#[37,50,101]⟩ ⟨#[46]⟩ m w1 (by omega) hm (by decide) (by
  have:=Lib.countB_le ⟨#[37,50,101]⟩ (by decide) u.size u (Nat.le_refl _);have h1:(⟨#[46]⟩:ByteArray).size=1:=rfl;rw[h1];omega)
 have aaJ:Lib.replaceAll u.data.toList (⟨#[37,50,101]⟩:ByteArray).data.toList (⟨#[46]⟩:ByteArray).data.toList=Lz.unE (Lz.low s.data.toList):=by
  rw[hu.out];exact Lz.BW _
 rw[aaJ]at cR;have CR:=Ih cR;obtain⟨r,hr⟩:∃r:ByteArray,r=⟨(Lz.unE (Lz.low s.data.toList)).toArray⟩:=⟨_,rfl⟩;have Pp:r.data.toList=Lz.unE (Lz.low s.data.toList):=by rw[hr]
 rw[<-hr]at CR;clear cR aaJ hr hm;by_cases h1:r.data.toList=[46]
 ·have g1:=eS h1;have hz:r.size=1:=by rw[<-ac,h1];rfl
  have HV:Hid (Lz.ez s.data.toList=1):=by show _=_;unfold Lz.ez;rw[<-Pp,if_pos h1]
  clear Pp h1
  go_wp2_with fail
  refine CR.out.mono ?_;rintro e w2 ⟨rfl,aE⟩
  go_wp2_with fail
  go_ret;rw[HV.out];exact⟨by first |rfl|(rw[hz];rfl),ae av aE⟩
 ·have g1:=fU h1;by_cases h2:r.data.toList=[46,46]
  ·have g2:=eS h2;have hz:r.size=2:=by rw[<-ac,h2];rfl
   have HV:Hid (Lz.ez s.data.toList=2):=by show _=_;unfold Lz.ez;rw[<-Pp,if_neg h1,if_pos h2]
   clear Pp h1 h2
   go_wp2_with fail
   refine CR.out.mono ?_;rintro e w2 ⟨rfl,aE⟩
   go_wp2_with fail
   go_ret;rw[HV.out];exact⟨by first |rfl|(rw[hz];rfl),ae av aE⟩
  ·have g2:=fU h2;have HV:Hid (Lz.ez s.data.toList=0):=by show _=_;unfold Lz.ez;rw[<-Pp,if_neg h1,if_neg h2]
   clear Pp h1 h2
   go_wp2_with fail
   refine CR.out.mono ?_;rintro e w2 ⟨rfl,aE⟩
   go_wp2_with fail
   go_ret;rw[HV.out];exact⟨rfl,ae av aE⟩
theorem nN {B M:Nat} {w w5:World} {x:MkV} {sp:Bool} {sl:ByteArray} {o:Obj} {row:Option Nat} (hm:mQ B M w x sp sl) (hB:B<=w.heap.size) (hg:(w.alloc o).grownBy w5 row)
  (hr:IH B (w.alloc o) row):
  Below B w w5/\w5.heap[M]? =some (.cells #[.string x.sch,.string x.usr,.string x.pas,.bool x.hh,.string x.hst,.int .i64 x.prt,.bool x.opq,x.pv,.bool x.hq,.bool x.hf,.string x.qry,.string x.frg,.bool sp,.string sl] 96 (0,0)):=
 ⟨Af ((Below.refl B w).alloc hB o) hg (by simp;omega) hr,Ff (by rw[Below.heap_alloc w o M (aZ hm.row)];exact hm.row) hg hr⟩
theorem kV {B M:Nat} {w w5:World} {sch usr pas:ByteArray} {hh:Bool} {hst:ByteArray} {prt:Int} {opq:Bool} {pv:Value} {xs:List ByteArray} {hq hf:Bool} {qry frg:ByteArray} {sp:Bool} {sl:ByteArray} {v':Value} {p:ByteArray}
  (hb:Below B w w5) (hM:w5.heap[M]? =some (.cells #[.string sch,.string usr,.string pas,.bool hh,.string hst,.int .i64 prt,.bool opq,pv,.bool hq,.bool hf,.string qry,.string frg,.bool sp,.string sl] 96 (0,0)))
  (oh:B<=M) (ai:bG w5 B v' (xs++[p])):
  Below B w (w5.setCell ⟨M,7,none⟩ v')/\mQ B M (w5.setCell ⟨M,7,none⟩ v') ⟨sch,usr,pas,hh,hst,prt,opq,v',xs++[p],hq,hf,qry,frg⟩ sp sl:=
 ⟨hb.setCell (p:=⟨M,7,none⟩) oh _,⟨jc hM 7 v' (by simp),ai.setCell hM tQ 7 v',oh⟩⟩
end Go.Proofs.YtibcmemcfjhgmaaGreatDoor
