/-
  Plain laws on what package urls reads: what the parts' lengths are.
-/
import Derived.Test.YtjhccadmmnjpeaaGreatDoorT10
import Derived.Test.YtjhccadmmnjpeaaGreatDoorT06
import Derived.Deep.AppendLies
import Derived.Deep.DrawnRows
import Derived.Lib.QuoteLoop
import Derived.Lib.RuneCountTail
import Derived.Shelf.Spec.DecodeLastRune8
import Derived.Lib.TrimAscii
set_option maxHeartbeats 2000000
set_option maxRecDepth 100000
namespace Lz
open Go
theorem bind_ok {r:UR} {f:UrlL->UR} {v:UrlL} (h:r.bind f=.ok v):∃u,r=.ok u/\f u=.ok v:=by
 cases r with
 | ok u=>exact⟨u,rfl,h⟩
 | er n=>cases h
def PortN (s:Bs) (p:Int):Prop:=p= -1\/∃n:Nat,p=n/\n<=65535/\(n:Int)≠defP s
theorem portU_ok {u v:UrlL} {s:Bs} (e:portU u s=.ok v) (hu:u.port= -1):∃p,v={u with port:=p}/\PortN u.scheme p/\(s=[]->p= -1):=by
 unfold portU at e;cases hn:portN 0 s with
 | none=>rw[hn]at e;cases e
 | some n=>
   rw[hn]at e;simp only at e;split at e
   ·cases e
   ·rename_i h6;split at e
    ·rename_i hh;injection e with e
     exact⟨n,e.symm,Or.inr ⟨n,rfl,by omega,hh.2⟩,fun h=>absurd h hh.1⟩
    ·injection e with e
     refine⟨-1,?_,Or.inl rfl,fun _=>rfl⟩;rw[<-e,<-hu]
theorem hostU_ok {u v:UrlL} {s:Bs} (e:hostU u s=.ok v):∃h,v={u with host:=h,hasHost:=true}/\hostPr s (specP u.scheme)=.ok h:=by
 unfold hostU at e;cases hp:hostPr s (specP u.scheme)with
 | er n=>rw[hp]at e;cases e
 | ok h=>
   rw[hp]at e;injection e with e
   exact⟨h,e.symm,rfl⟩
theorem placeU_ok {u v:UrlL} {a:Bs} (e:placeU u a=.ok v) (hu:u.port= -1):
  ∃h p,v={u with host:=h,hasHost:=true,port:=p}/\HostN (specP u.scheme) h/\driveP h=false/\PortN u.scheme p/\(specP u.scheme=true->h≠[])/\(h=[]->a=[]/\p= -1):=by
 unfold placeU at e;cases hc:colonP false a with
 | some i=>
   rw[hc]at e;simp only at e;split at e
   ·cases e
   ·rename_i hne;obtain⟨w,hw,e⟩:=bind_ok e;obtain⟨h,rfl,hh⟩:=hostU_ok hw;obtain⟨p,rfl,hp,_⟩:=portU_ok e hu;obtain⟨n1,n2,n3,n4⟩:=host_N hh;exact⟨h,p,rfl,n1,n2,hp,n4,fun h0=>absurd (n3 h0) hne⟩
 | none=>
   rw[hc]at e;simp only at e;split at e
   ·cases e
   ·obtain⟨w,hw,e⟩:=bind_ok e;obtain⟨h,rfl,hh⟩:=hostU_ok hw;obtain⟨p,rfl,hp,hp0⟩:=portU_ok e hu;obtain⟨n1,n2,n3,n4⟩:=host_N hh;exact⟨h,p,rfl,n1,n2,hp,n4,fun h0=>⟨n3 h0,hp0 rfl⟩⟩
theorem authU_ok {u v:UrlL} {a:Bs} (e:authU u a=.ok v) (hu:u.port= -1) (hu1:u.user=[]) (hu2:u.pass=[]):
  ∃us pa h p,v={u with user:=us,pass:=pa,host:=h,hasHost:=true,port:=p}/\us.all (okE (setU 5))=true/\pa.all (okE (setU 5))=true/\HostN (specP u.scheme) h/\driveP h=false/\PortN u.scheme p/\(specP u.scheme=true->h≠[])/\(h=[]->us=[]/\pa=[]/\p= -1):=by
 unfold authU at e;cases hl:lastAt a with
 | some xy=>
   obtain⟨x,y⟩:=xy;rw[hl]at e;simp only at e;split at e
   ·cases e
   ·rename_i hy;obtain⟨h,p,rfl,n1,n2,n3,n4,n5⟩:=placeU_ok e (show(whoU u x).port= -1 from hu);exact⟨_,_,h,p,rfl,encode_ok 5 (by omega) _,encode_ok 5 (by omega) _,n1,n2,n3,n4,fun h0=>absurd (n5 h0).1 hy⟩
 | none=>
   rw[hl]at e;obtain⟨h,p,rfl,n1,n2,n3,n4,n5⟩:=placeU_ok e hu;refine⟨[],[],h,p,?_,rfl,rfl,n1,n2,n3,n4,fun h0=>⟨rfl,rfl,(n5 h0).2⟩⟩;exact url_ext rfl hu1 hu2 rfl rfl rfl rfl rfl rfl rfl rfl rfl
def SchN (s:Bs):Prop:=s≠[]/\(∀c,s.head? =some c->isAlpha c=true)/\s.all schemeC=true/\low s=s
theorem onP_form {u:UrlL} {t:Bs} (h:PathN u.scheme (specP u.scheme) u.path):PathN u.scheme (specP u.scheme) (onP u t).path/\(onP u t).path≠[]:=
 ⟨onL_form u.scheme (specP u.scheme) _ _ h (splitS_mem t),onL_ne u.scheme _ _ (splitS_ne t)⟩
theorem hostedU_form {u v:UrlL} {r:Bs} (e:hostedU u r=.ok v) (hs:SchN u.scheme) (hf:u.scheme≠fileS) (hu:u.port= -1) (hu1:u.user=[]) (hu2:u.pass=[]) (ho:u.opq=false) (hp:u.path=[]):
  MU v/\v.scheme=u.scheme/\v.hasQuery=u.hasQuery/\v.query=u.query/\v.hasFragment=u.hasFragment/\v.fragment=u.fragment:=by
 unfold hostedU at e;obtain⟨w,hw,e⟩:=bind_ok e;obtain⟨us,pa,h,p,rfl,n1,n2,n3,n4,n5,n6,n7⟩:=authU_ok hw hu hu1 hu2;injection e with e
 have hpn:PathN u.scheme (specP u.scheme) u.path:=by rw[hp];exact pathN_nil _ _
 have key:∀(path:List Bs),PathN u.scheme (specP u.scheme) path->(specP u.scheme=true->path≠[])->
   MU {u with user:=us,pass:=pa,host:=h,hasHost:=true,port:=p,path:=path}:=by
  intro path hpath hsp
  exact{
   s1:=hs.1,s2:=hs.2.1,s3:=hs.2.2.1,s4:=hs.2.2.2,user:=n1,pass:=n2
   special:=fun hq=>⟨rfl,ho,hsp hq⟩
   bare:=fun hh=>by cases hh
   opaqueN:=fun hq=>by rw[show u.opq=false from ho]at hq;cases hq
   path:=fun _=>⟨hpath.1,fun hh=>by cases hh⟩
   drive:=hpath.2
   host:=fun _=>Or.inl n3
   empty:=n7
   needed:=fun hq _=>n6 hq
   file:=fun hq=>absurd hq hf
   port:=n5}
 split at e
 ·rename_i hc;rw[<-e];have hform:=onP_form (u:={u with user:=us,pass:=pa,host:=h,hasHost:=true,port:=p}) (t:=(cutS (specP u.scheme) r).2.1) hpn;exact⟨key _ hform.1 (fun _=>hform.2),rfl,rfl,rfl,rfl,rfl⟩
 ·rename_i hc;rw[<-e];refine⟨key u.path hpn (fun hq=>?_),rfl,rfl,rfl,rfl,rfl⟩
  exfalso
  apply hc
  show((cutS (specP u.scheme) r).2.2||specP u.scheme)=true;rw[hq,Bool.or_true]
theorem base_form {u b:UrlL} (hb:MU b) (hs:u.scheme=b.scheme) (hf:u.scheme≠fileS) (ho:u.opq=false) {path:List Bs} (hp:PathN u.scheme (specP u.scheme) path) (hne:(specP u.scheme=true\/b.hasHost=false)->path≠[]) (q:Bs) (hq:Bool):
  MU {u with user:=b.user,pass:=b.pass,hasHost:=b.hasHost,host:=b.host,port:=b.port,path:=path,query:=q,hasQuery:=hq}:=by
 exact{
  s1:=by show u.scheme≠[];rw[hs];exact hb.s1
  s2:=by show ∀c,u.scheme.head? =some c->_;rw[hs];exact hb.s2
  s3:=by show u.scheme.all schemeC=true;rw[hs];exact hb.s3
  s4:=by show low u.scheme=u.scheme;rw[hs];exact hb.s4
  user:=hb.user
  pass:=hb.pass
  special:=fun h=>⟨by have:=(hb.special (by rw[<-hs];exact h)).1;exact this,ho,hne (Or.inl h)⟩
  bare:=hb.bare
  opaqueN:=fun h=>by rw[show u.opq=false from ho]at h;cases h
  path:=fun _=>⟨hp.1,fun hh=>hne (Or.inr hh)⟩
  drive:=hp.2
  host:=fun h=>by show HostN (specP u.scheme) b.host\/(u.scheme=fileS/\b.host=[]);rw[hs];exact hb.host h
  empty:=hb.empty
  needed:=fun h _=>by show b.host≠[];exact hb.needed (by rw[<-hs];exact h) (by rw[<-hs];exact hf)
  file:=fun h=>absurd h hf
  port:=by show PortN u.scheme b.port;rw[hs];exact hb.port}
theorem basePath {u b:UrlL} (hb:MU b) (hs:u.scheme=b.scheme) (hbo:b.opq=false):PathN u.scheme (specP u.scheme) b.path/\((specP u.scheme=true\/b.hasHost=false)->b.path≠[]):=by
 rw[hs];refine⟨⟨(hb.path hbo).1,hb.drive⟩,fun h=>?_⟩;rcases h with h|h
 ·exact(hb.special h).2.2
 ·exact(hb.path hbo).2 h
structure Fresh (u:UrlL):Prop where
 user:u.user=[]
 pass:u.pass=[]
 hasHost:u.hasHost=false
 host:u.host=[]
 port:u.port= -1
 opq:u.opq=false
 path:u.path=[]
def QN (u:UrlL):Prop:=u.hasQuery=false->u.query=[]
theorem pathU_form {u b w:UrlL} (r:Bs) (hw:w.scheme=u.scheme/\w.user=b.user/\w.pass=b.pass/\w.hasHost=b.hasHost/\w.host=b.host/\w.port=b.port/\w.opq=u.opq/\w.hasQuery=u.hasQuery/\w.query=u.query/\w.hasFragment=u.hasFragment/\w.fragment=u.fragment) (hp:PathN u.scheme (specP u.scheme) b.path) (hne:(specP u.scheme=true\/b.hasHost=false)->b.path≠[]) (hq:QN u) (hbq:QN b):
  ∃path q hq',pathU w b r={u with user:=b.user,pass:=b.pass,hasHost:=b.hasHost,host:=b.host,port:=b.port,path:=path,query:=q,hasQuery:=hq'}/\PathN u.scheme (specP u.scheme) path/\((specP u.scheme=true\/b.hasHost=false)->path≠[])/\(hq'=false->q=[]):=by
 obtain⟨w1,w2,w3,w4,w5,w6,w7,w8,w9,w10,w11⟩:=hw;unfold pathU;by_cases hr:r=[]
 ·rw[if_neg (fun h=>h hr)];cases hx:w.hasQuery
  ·rw[if_neg (by decide)];exact⟨b.path,b.query,b.hasQuery,url_ext w1 w2 w3 w4 w5 w6 w7 rfl rfl w10 rfl w11,hp,hne,hbq⟩
  ·rw[if_pos rfl];exact⟨b.path,u.query,u.hasQuery,url_ext w1 w2 w3 w4 w5 w6 w7 rfl (hx.symm.trans w8) w10 w9 w11,hp,hne,hq⟩
 ·rw[if_pos hr];have hp':PathN w.scheme (specP w.scheme) (shortP w.scheme b.path):=by rw[w1];exact pathN_short hp
  obtain⟨h1,h2⟩:=onP_form (u:={w with path:=shortP w.scheme b.path}) (t:=r) hp';have h1:PathN w.scheme (specP w.scheme) (onP {w with path:=shortP w.scheme b.path} r).path:=h1;rw[w1]at h1;exact⟨(onP {w with path:=shortP w.scheme b.path} r).path,u.query,u.hasQuery,url_ext w1 w2 w3 w4 w5 w6 w7 rfl w8 w10 w9 w11,by rw[w1];exact h1,fun _=>h2,hq⟩
theorem relU_form {u b v:UrlL} {r:Bs} (e:relU u b r=.ok v) (hb:MU b) (hs:u.scheme=b.scheme) (hf:u.scheme≠fileS) (hu:Fresh u) (hbo:b.opq=false) (hq:QN u) (hbq:QN b):
  MU v/\QN v/\v.hasFragment=u.hasFragment/\v.fragment=u.fragment:=by
 have hsch:SchN u.scheme:=by rw[hs];exact⟨hb.s1,hb.s2,hb.s3,hb.s4⟩
 obtain⟨hpn,hpne⟩:=basePath hb hs hbo;unfold relU at e;simp only at e;split at e
 ·obtain⟨h1,h2,h3,h4,h5,h6⟩:=hostedU_form e hsch hf hu.port hu.user hu.pass hu.opq hu.path;exact⟨h1,fun h=>by rw[h4];exact hq (h3▸h),h5,h6⟩
 ·split at e
  ·injection e with e
   have hp0:PathN (restU u b).scheme (specP (restU u b).scheme) (restU u b).path:=by
    show PathN u.scheme (specP u.scheme) u.path;rw[hu.path];exact pathN_nil _ _
   obtain⟨h1,h2⟩:=onP_form (u:=restU u b) (t:=r.drop 1) hp0;have hm:=base_form hb hs hf hu.opq (path:=(onP (restU u b) (r.drop 1)).path) h1 (fun _=>h2) u.query u.hasQuery;rw[<-e];exact⟨hm,hq,rfl,rfl⟩
  ·injection e with e
   obtain⟨path,q,hq',he,p1,p2,p3⟩:=pathU_form (u:=u) (b:=b) (w:=restU u b) r ⟨rfl,rfl,rfl,rfl,rfl,rfl,rfl,rfl,rfl,rfl,rfl⟩ hpn hpne hq hbq;rw[<-e,he];exact⟨base_form hb hs hf hu.opq p1 p2 q hq',p3,rfl,rfl⟩
theorem file_form {u:UrlL} (hf:u.scheme=fileS) (hu:Fresh u) {host:Bs} {path:List Bs} (hN:HostN true host\/host=[]) (hl:host≠localS) (hd:driveP host=false) (hp:PathN u.scheme (specP u.scheme) path) (hne:path≠[]) (q:Bs) (hq:Bool):
  MU {u with hasHost:=true,host:=host,path:=path,query:=q,hasQuery:=hq}:=by
 have hsp:specP u.scheme=true:=by rw[hf];rfl
 exact{
  s1:=by show u.scheme≠[];rw[hf];decide
  s2:=by show ∀c,u.scheme.head? =some c->_;rw[hf];intro c hc;cases hc;rfl
  s3:=by show u.scheme.all schemeC=true;rw[hf];decide
  s4:=by show low u.scheme=u.scheme;rw[hf];decide
  user:=by show u.user.all _=true;rw[hu.user];rfl
  pass:=by show u.pass.all _=true;rw[hu.pass];rfl
  special:=fun _=>⟨rfl,hu.opq,hne⟩
  bare:=fun h=>by cases h
  opaqueN:=fun h=>by rw[show u.opq=false from hu.opq]at h;cases h
  path:=fun _=>⟨hp.1,fun _=>hne⟩
  drive:=hp.2
  host:=fun _=>by
   show HostN (specP u.scheme) host\/(u.scheme=fileS/\host=[]);rw[hsp];rcases hN with h|h
   ·exact Or.inl h
   ·exact Or.inr ⟨hf,h⟩
  empty:=fun _=>⟨hu.user,hu.pass,hu.port⟩
  needed:=fun _ h=>absurd hf h
  file:=fun _=>⟨hu.user,hu.pass,hu.port,hl,hd⟩
  port:=Or.inl hu.port}
theorem noHost:([]:Bs)≠localS/\driveP []=false:=⟨by decide,rfl⟩
theorem filesU_form {u v:UrlL} {b:Option UrlL} {r:Bs} (e:filesU u b r=.ok v) (hf:u.scheme=fileS) (hu:Fresh u) (hb:∀x,b=some x->MU x/\QN x) (hq:QN u):
  MU v/\QN v/\v.hasFragment=u.hasFragment/\v.fragment=u.fragment:=by
 have hsp:specP u.scheme=true:=by rw[hf];rfl
 have hp0:PathN u.scheme (specP u.scheme) u.path:=by rw[hu.path];exact pathN_nil _ _
 have hmk:∀(w:UrlL) (t host:Bs),w.scheme=u.scheme->w.user=u.user->w.pass=u.pass->w.hasHost=true->w.host=host->w.port=u.port->w.opq=u.opq->PathN u.scheme (specP u.scheme) w.path->w.hasQuery=u.hasQuery->w.query=u.query->w.hasFragment=u.hasFragment->w.fragment=u.fragment->(HostN true host\/host=[])->host≠localS->driveP host=false->
   MU (onP w t)/\QN (onP w t)/\(onP w t).hasFragment=u.hasFragment/\(onP w t).fragment=u.fragment:=by
  intro w t host w1 w2 w3 w4 w5 w6 w7 w8 w9 w10 w11 w12 hN hl hd;have hw8:PathN w.scheme (specP w.scheme) w.path:=by rw[w1];exact w8
  obtain⟨h1,h2⟩:=onP_form (u:=w) (t:=t) hw8;rw[w1]at h1;have hm:=file_form hf hu hN hl hd (path:=(onP w t).path) h1 h2 u.query u.hasQuery;have he:onP w t={u with hasHost:=true,host:=host,path:=(onP w t).path,query:=u.query,hasQuery:=u.hasQuery}:=url_ext w1 w2 w3 w4 w5 w6 w7 rfl w9 w11 w10 w12;rw[he];exact⟨hm,hq,rfl,rfl⟩
 unfold filesU at e;simp only at e;split at e
 ·split at e
  ·injection e with e
   rw[<-e];exact hmk _ _ [] rfl rfl rfl rfl hu.host rfl rfl hp0 rfl rfl rfl rfl (Or.inr rfl) noHost.1 noHost.2
  ·rename_i hdr;have hdr':driveP (cutS true (r.drop 2)).1=false:=by simpa using hdr
   obtain⟨w,hw,e⟩:=bind_ok e;injection e with e
   rw[<-e];split at hw
   ·injection hw with hw
    have hh:w.host=[]:=by rw[<-hw];exact hu.host
    rw[if_neg (by rw[hh];decide),<-hw];exact hmk _ _ [] rfl rfl rfl rfl hu.host rfl rfl hp0 rfl rfl rfl rfl (Or.inr rfl) noHost.1 noHost.2
   ·obtain⟨h,rfl,hh⟩:=hostU_ok hw;have hh:hostPr (cutS true (r.drop 2)).1 (specP u.scheme)=.ok h:=hh;rw[hsp]at hh;obtain⟨n1,n2,_,_⟩:=host_N hh;split
    ·exact hmk _ _ [] rfl rfl rfl rfl rfl rfl rfl hp0 rfl rfl rfl rfl (Or.inr rfl) noHost.1 noHost.2
    ·rename_i hl;exact hmk _ _ h rfl rfl rfl rfl rfl rfl rfl hp0 rfl rfl rfl rfl (Or.inl n1) hl n2
 ·have hbase:∀x,b=some x->x.scheme=fileS->(HostN true x.host\/x.host=[])/\x.host≠localS/\driveP x.host=false/\PathN u.scheme (specP u.scheme) x.path/\x.path≠[]/\QN x:=by
   intro x hx hxf;obtain⟨hm,hqx⟩:=hb x hx;have hs:specP x.scheme=true:=by rw[hxf];rfl
   obtain⟨s1,s2,s3⟩:=hm.special hs;obtain⟨_,_,_,f4,f5⟩:=hm.file hxf;refine⟨?_,f4,f5,?_,s3,hqx⟩
   ·rcases hm.host s1 with h|⟨_,h⟩
    ·rw[hs]at h;exact Or.inl h
    ·exact Or.inr h
   ·have:=basePath (u:=u) hm (hf.trans hxf.symm) s2;exact this.1
  split at e
  ·injection e with e
   rw[<-e];cases b with
   | none=>exact hmk _ _ [] rfl rfl rfl rfl hu.host rfl rfl hp0 rfl rfl rfl rfl (Or.inr rfl) noHost.1 noHost.2
   | some x=>
     simp only;split
     ·rename_i hxf;obtain⟨b1,b2,b3,b4,b5,b6⟩:=hbase x rfl hxf;split
      ·have hpt:PathN u.scheme (specP u.scheme) (x.path.take 1):=by
        refine⟨fun p hp=>b4.1 p (List.mem_of_mem_take hp),fun hfs p hp hd=>?_⟩;refine b4.2 hfs p ?_ hd;cases hx:x.path with
        | nil=>rw[hx]at hp;cases hp
        | cons a t=>rw[hx]at hp;exact hp
       exact hmk _ _ x.host rfl rfl rfl rfl rfl rfl rfl hpt rfl rfl rfl rfl b1 b2 b3
      ·exact hmk _ _ x.host rfl rfl rfl rfl rfl rfl rfl hp0 rfl rfl rfl rfl b1 b2 b3
     ·exact hmk _ _ [] rfl rfl rfl rfl hu.host rfl rfl hp0 rfl rfl rfl rfl (Or.inr rfl) noHost.1 noHost.2
  ·cases b with
   | none=>
     injection e with e
     rw[<-e];exact hmk _ _ [] rfl rfl rfl rfl hu.host rfl rfl hp0 rfl rfl rfl rfl (Or.inr rfl) noHost.1 noHost.2
   | some x=>
     simp only at e;split at e
     ·rename_i hxf;obtain⟨b1,b2,b3,b4,b5,b6⟩:=hbase x rfl hxf;split at e
      ·injection e with e
       rw[<-e];exact hmk _ _ x.host rfl rfl rfl rfl rfl rfl rfl hp0 rfl rfl rfl rfl b1 b2 b3
      ·injection e with e
       rw[<-e];unfold pathU;by_cases hr:r=[]
       ·rw[if_neg (fun h=>h hr)];cases hx:u.hasQuery
        ·rw[if_neg (show ¬((false:Bool)=true) by decide)];exact⟨file_form hf hu b1 b2 b3 b4 b5 x.query x.hasQuery,b6,rfl,rfl⟩
        ·rw[if_pos rfl];have hm:=file_form hf hu b1 b2 b3 b4 b5 u.query true;exact⟨hm,(fun h=>by cases h),rfl,rfl⟩
       ·rw[if_pos hr];exact hmk _ _ x.host rfl rfl rfl rfl rfl rfl rfl (pathN_short b4) rfl rfl rfl rfl b1 b2 b3
     ·injection e with e
      rw[<-e];exact hmk _ _ [] rfl rfl rfl rfl hu.host rfl rfl hp0 rfl rfl rfl rfl (Or.inr rfl) noHost.1 noHost.2
theorem split_first {k:UInt8}:∀{s:Bs},k∈s->∃a b,s=a++k::b/\k∉a
 | [],h=>by cases h
 | c::r,h=>by
   by_cases hc:c=k
   ·exact⟨[],r,by rw[hc];rfl,by simp⟩
   ·have hr:k∈r:=by
     rcases List.mem_cons.1 h with h|h
     ·exact absurd h.symm hc
     ·exact h
    obtain⟨a,b,rfl,ha⟩:=split_first hr
    exact⟨c::a,b,rfl,fun hh=>by
     rcases List.mem_cons.1 hh with hh|hh
     ·exact hc hh.symm
     ·exact ha hh⟩
theorem cut_facts (k:UInt8) (s:Bs):k∉(Lib.cut s [k]).1/\((Lib.cut s [k]).2.2=false->(Lib.cut s [k]).1=s/\(Lib.cut s [k]).2.1=[])/\(∀x∈(Lib.cut s [k]).1,x∈s)/\((Lib.cut s [k]).2.2=true->s=(Lib.cut s [k]).1++k::(Lib.cut s [k]).2.1):=by
 by_cases h:k∈s
 ·obtain⟨a,b,rfl,ha⟩:=split_first h;rw[cut_one_at b ha];exact⟨ha,(fun hh=>by cases hh),fun x hx=>List.mem_append_left _ hx,fun _=>rfl⟩
 ·rw[cut_one_no h];exact⟨h,fun _=>⟨rfl,rfl⟩,fun x hx=>hx,(fun hh=>by cases hh)⟩
theorem scheme_lower:∀c:UInt8,low1 (low1 c)=low1 c/\(schemeC c=true->schemeC (low1 c)=true)/\(isAlpha c=true->isAlpha (low1 c)=true):=byte_all (by decide +kernel)
def schemeOk (c:Bs×Bs×Bool):Bool:=c.2.2&& !c.1.isEmpty&&(match c.1 with|a::_=>isAlpha a|[]=>false)&&c.1.all schemeC
theorem schemedP_eq (s:Bs):schemedP s=if schemeOk (Lib.cut s [58])=true then(low (Lib.cut s [58]).1,(Lib.cut s [58]).2.1,true)else([],s,false):=rfl
theorem schemed_inv {s:Bs} (h:(schemedP s).2.2=true):SchN (schemedP s).1/\∃a,s=a++58::(schemedP s).2.1:=by
 have hc:=cut_facts 58 s;rw[schemedP_eq]at h⊢;by_cases hh:schemeOk (Lib.cut s [58])=true
 ·rw[if_pos hh]at h⊢;unfold schemeOk at hh;simp only[Bool.and_eq_true,Bool.not_eq_true']at hh;obtain⟨⟨⟨h1,h2⟩,h3⟩,h4⟩:=hh;refine⟨⟨?_,?_,?_,low_low _⟩,(Lib.cut s [58]).1,hc.2.2.2 h1⟩
  ·cases hx:(Lib.cut s [58]).1 with
   | nil=>rw[hx]at h2;cases h2
   | cons a r=>intro e;cases e
  ·intro c hcc;cases hx:(Lib.cut s [58]).1 with
   | nil=>rw[hx]at h2;cases h2
   | cons a r=>
     rw[hx]at h3 hcc;have:low1 a=c:=by simpa [low]using hcc
     rw[<-this];exact(scheme_lower a).2.2 h3
  ·rw[List.all_eq_true];intro c hcc;obtain⟨a,ha,rfl⟩:=List.mem_map.1 hcc;exact(scheme_lower a).2.1 (List.all_eq_true.1 h4 a ha)
 ·rw[if_neg hh]at h;cases h
theorem clean_last {s:Bs} {d:UInt8} (h:(cleanP s).getLast? =some d):lowQ d=false:=by
 rw[clean_eq,List.getLast?_reverse]at h
 have:∀l:Bs,(l.dropWhile lowQ).head? =some d->lowQ d=false:=by
  intro l
  induction l with
  | nil=>intro hh;cases hh
  | cons c r ih=>
    intro hh;rw[List.dropWhile_cons]at hh;cases hc:lowQ c
    ·rw[hc]at hh;have:c=d:=by simpa using hh
     rw[<-this];exact hc
    ·rw[hc]at hh;exact ih (by simpa using hh)
 exact this _ h
theorem enc_not {k:UInt8} (hk:k≠37/\∀d:Fin 16,digitU d.val≠k) {of s:Bs} (h:k∉s):k∉encodeP of s:=by
 intro hc;unfold encodeP at hc;obtain⟨x,hx,hc⟩:=List.mem_flatMap.1 hc;split at hc
 ·simp only[List.mem_cons,List.not_mem_nil,or_false]at hc;rcases hc with hc|hc|hc
  ·exact hk.1 hc
  ·exact hk.2 ⟨x.toNat / 16,by have:=x.toNat_lt;omega⟩ hc.symm
  ·exact hk.2 ⟨x.toNat%16,Nat.mod_lt _ (by omega)⟩ hc.symm
 ·rw[List.mem_singleton.1 hc]at h;exact h hx
theorem enc_last {s:Bs} (h:s.getLast? ≠some 32):(encodeP [] s).getLast? ≠some 32:=by
 rcases List.eq_nil_or_concat s with rfl|⟨r,c,rfl⟩
 ·intro hh;cases hh
 ·rw[List.concat_eq_append]at h⊢
  have hc:c≠32:=by
   intro e;apply h;rw[e];simp
  unfold encodeP;rw[List.flatMap_append];intro hh
  have hx:([c]:Bs).flatMap (fun c=>if c<32||126<c||([]:Bs).contains c then[37,digitU (c.toNat / 16),digitU (c.toNat%16)]else[c])≠[]:=by
   rw[List.flatMap_cons];split<;>simp
  rw[List.getLast?_append]at hh;have hd:∀d:Fin 16,digitU d.val≠32:=by decide +kernel
  rw[List.flatMap_cons,List.flatMap_nil,List.append_nil]at hh;split at hh
  ·have:digitU (c.toNat%16)=32:=by simpa using hh
   exact hd ⟨c.toNat%16,Nat.mod_lt _ (by omega)⟩ this
  ·have:c=32:=by simpa using hh
   exact hc this
theorem enc_head {s:Bs} (h:s[0]? ≠some 47):(encodeP [] s).head? ≠some 47:=by
 cases s with
 | nil=>intro hh;cases hh
 | cons c r=>
   unfold encodeP;rw[List.flatMap_cons];split
   ·intro hh;cases hh
   ·intro hh
    apply h
    exact hh
theorem sp_plain {s:Bs} (h:specP s=false):s≠fileS:=fun e=>by rw[e]at h;cases h
theorem bare_form {u:UrlL} (hu:Fresh u) (hs:SchN u.scheme) (hsp:specP u.scheme=false) {path:List Bs} (hp:PathN u.scheme (specP u.scheme) path) (hne:path≠[]):MU {u with path:=path}:=by
 exact{
  s1:=hs.1,s2:=hs.2.1,s3:=hs.2.2.1,s4:=hs.2.2.2
  user:=by show u.user.all _=true;rw[hu.user];rfl
  pass:=by show u.pass.all _=true;rw[hu.pass];rfl
  special:=fun h=>by rw[show specP u.scheme=false from hsp]at h;cases h
  bare:=fun _=>⟨hu.user,hu.pass,hu.host,hu.port⟩
  opaqueN:=fun h=>by rw[show u.opq=false from hu.opq]at h;cases h
  path:=fun _=>⟨hp.1,fun _=>hne⟩
  drive:=hp.2
  host:=fun h=>by rw[show u.hasHost=false from hu.hasHost]at h;cases h
  empty:=fun _=>⟨hu.user,hu.pass,hu.port⟩
  needed:=fun h=>by rw[show specP u.scheme=false from hsp]at h;cases h
  file:=fun h=>absurd h (sp_plain hsp)
  port:=Or.inl hu.port}
theorem opaque_form {u:UrlL} (hu:Fresh u) (hs:SchN u.scheme) (hsp:specP u.scheme=false) {p:Bs} (h1:p.all (okE [])=true) (h2:(35:UInt8)∉p) (h3:(63:UInt8)∉p) (h4:p.head? ≠some 47) (q:Bs) (hq:Bool) (h5:hq=false->u.hasFragment=false->p.getLast? ≠some 32):
  MU {u with opq:=true,path:=[p],query:=q,hasQuery:=hq}:=by
 exact{
  s1:=hs.1,s2:=hs.2.1,s3:=hs.2.2.1,s4:=hs.2.2.2
  user:=by show u.user.all _=true;rw[hu.user];rfl
  pass:=by show u.pass.all _=true;rw[hu.pass];rfl
  special:=fun h=>by rw[show specP u.scheme=false from hsp]at h;cases h
  bare:=fun _=>⟨hu.user,hu.pass,hu.host,hu.port⟩
  opaqueN:=fun _=>⟨hu.hasHost,p,rfl,h1,h2,h3,h4,h5⟩
  path:=fun h=>by cases h
  drive:=fun h=>absurd h (sp_plain hsp)
  host:=fun h=>by rw[show u.hasHost=false from hu.hasHost]at h;cases h
  empty:=fun _=>⟨hu.user,hu.pass,hu.port⟩
  needed:=fun h=>by rw[show specP u.scheme=false from hsp]at h;cases h
  file:=fun h=>absurd h (sp_plain hsp)
  port:=Or.inl hu.port}
theorem k35:(35:UInt8)≠37/\∀d:Fin 16,digitU d.val≠35:=by decide +kernel
theorem k63:(63:UInt8)≠37/\∀d:Fin 16,digitU d.val≠63:=by decide +kernel
theorem mainU_form {u v:UrlL} {s:Bs} {b:Option UrlL} (e:mainU u s b=.ok v) (hu:Fresh u) (h35:(35:UInt8)∉s) (h63:(63:UInt8)∉s) (hlast:u.hasQuery=false->u.hasFragment=false->s.getLast? ≠some 32) (hq:QN u) (hb:∀x,b=some x->NU x):
  MU v/\QN v/\v.hasFragment=u.hasFragment/\v.fragment=u.fragment:=by
 have hb':∀x,b=some x->MU x/\QN x:=fun x hx=>⟨(hb x hx).toMU,(hb x hx).noQuery⟩;have hfr:∀sch,Fresh {u with scheme:=sch}:=fun sch=>⟨hu.user,hu.pass,hu.hasHost,hu.host,hu.port,hu.opq,hu.path⟩;unfold mainU at e;simp only at e;cases hok:(schemedP s).2.2 with
 | true=>
   obtain⟨hsch,a,ha⟩:=schemed_inv hok;rw[hok,if_pos rfl]at e;have hr35:(35:UInt8)∉(schemedP s).2.1:=fun h=>h35 (by rw[ha];exact List.mem_append_right _ (List.mem_cons_of_mem _ h));have hr63:(63:UInt8)∉(schemedP s).2.1:=fun h=>h63 (by rw[ha];exact List.mem_append_right _ (List.mem_cons_of_mem _ h))
   have hrl:(schemedP s).2.1.getLast? =some 32->s.getLast? =some 32:=by
    intro h;rw[ha,List.getLast?_append,List.getLast?_cons,h];rfl
   generalize (schemedP s).1=sch at e hsch;generalize (schemedP s).2.1=r at e hr35 hr63 hrl
   have hhost:∀{t:Bs},hostedU {u with scheme:=sch} t=.ok v->sch≠fileS->MU v/\QN v/\v.hasFragment=u.hasFragment/\v.fragment=u.fragment:=by
    intro t et hf;obtain⟨h1,h2,h3,h4,h5,h6⟩:=hostedU_form et hsch hf hu.port hu.user hu.pass hu.opq hu.path;exact⟨h1,fun h=>by rw[h4];exact hq (h3▸h),h5,h6⟩
   split at e
   ·rename_i hf;exact filesU_form (u:={u with scheme:=sch}) e hf (hfr sch) hb' hq
   ·rename_i hf;split at e
    ·rename_i hsp;cases b with
     | none=>exact hhost e hf
     | some x=>
       simp only at e;split at e
       ·rename_i hh;have hx:=hb x rfl;refine relU_form (u:={u with scheme:=sch}) e hx.toMU hh.1.symm hf (hfr sch) ?_ hq hx.noQuery;exact(hx.special (by rw[hh.1];exact hsp)).2.1
       ·exact hhost e hf
    ·rename_i hsp;have hsp':specP sch=false:=by simpa using hsp
     split at e
     ·exact hhost e hf
     ·rename_i hn2;split at e
      ·injection e with e
       rw[<-e];have hp0:PathN sch (specP sch) u.path:=by rw[hu.path];exact pathN_nil _ _
       obtain⟨h1,h2⟩:=onP_form (u:={u with scheme:=sch}) (t:=r.drop 1) hp0;exact⟨bare_form (hfr sch) hsch hsp' h1 h2,hq,rfl,rfl⟩
      ·rename_i hn1;injection e with e
       rw[<-e]
       have hh:r[0]? ≠some 47:=by
        intro h
        apply hn1
        rw[hasPrefix_one,h];rfl
       exact⟨opaque_form (hfr sch) hsch hsp' (encode_ok 0 (by omega) r) (enc_not k35 hr35) (enc_not k63 hr63) (enc_head hh) u.query u.hasQuery (fun h1 h2=>enc_last (fun h=>hlast h1 h2 (hrl h))),hq,rfl,rfl⟩
 | false=>
   rw[hok,if_neg (by decide)]at e;cases b with
   | none=>cases e
   | some x=>
     simp only at e;have hx:=hb x rfl;have hsch:SchN x.scheme:=⟨hx.s1,hx.s2,hx.s3,hx.s4⟩;split at e
     ·cases e
     ·rename_i hc;split at e
      ·rename_i ho;injection e with e
       rw[ho,Bool.true_and]at hc;have hc':(!s.isEmpty||u.hasQuery|| !u.hasFragment)=false:=by simpa using hc
       simp only[Bool.or_eq_false_iff,Bool.not_eq_false']at hc';obtain⟨⟨_,c2⟩,c3⟩:=hc';obtain⟨_,p,hp,p1,p2,p3,p4,_⟩:=hx.opaqueN ho
       have hsp:specP x.scheme=false:=by
        cases hh:specP x.scheme
        ·rfl
        ·have:=(hx.special hh).2.1;rw[ho]at this;cases this
       have he:pathU {u with scheme:=x.scheme,opq:=true} x []={u with scheme:=x.scheme,opq:=true,path:=[p],query:=x.query,hasQuery:=x.hasQuery}:=by
        unfold pathU;rw[if_neg (fun h=>h rfl)];show(if u.hasQuery=true then _ else _)=_;rw[c2,if_neg (by decide),hp]
       rw[<-e];have he2:pathU {({u with scheme:=x.scheme}:UrlL)with opq:=true} x []={u with scheme:=x.scheme,opq:=true,path:=[p],query:=x.query,hasQuery:=x.hasQuery}:=he;rw[he2];exact⟨opaque_form (hfr x.scheme) hsch hsp p1 p2 p3 p4 x.query x.hasQuery (fun _ h=>by rw[show u.hasFragment=true from c3]at h;cases h),hx.noQuery,rfl,rfl⟩
      ·rename_i ho;have ho':x.opq=false:=by simpa using ho
       split at e
       ·rename_i hf;exact filesU_form (u:={u with scheme:=x.scheme}) e hf (hfr x.scheme) hb' hq
       ·rename_i hf;exact relU_form (u:={u with scheme:=x.scheme}) e hx.toMU rfl hf (hfr x.scheme) ho' hq hx.noQuery
theorem readU_form {s:Bs} {b:Option UrlL} {u:UrlL} (e:readU s b=.ok u) (hb:∀x,b=some x->NU x):NU u:=by
 unfold readU at e;simp only at e;obtain⟨v,hv,e⟩:=bind_ok e;injection e with e
 have f:=cut_facts 35 (cleanP s);have q:=cut_facts 63 (Lib.cut (cleanP s) [35]).1;have hl:= @clean_last s;generalize Lib.cut (cleanP s) [35]=F at hv f q;generalize Lib.cut F.1 [63]=G at hv q;obtain⟨f1,f2,f3,_⟩:=f;obtain⟨q1,q2,q3,_⟩:=q
 obtain⟨m,m2,m3,m4⟩:=mainU_form hv ⟨rfl,rfl,rfl,rfl,rfl,rfl,rfl⟩ (fun h=>f1 (q3 _ h)) q1
  (fun h1 h2 h=>by
   have e1:=(q2 h1).1;have e2:=(f2 h2).1;rw[e1,e2]at h;have:=hl h;cases this)
  (fun h=>(q2 h).2) hb
 rw[<-e];have hz:∀of,encodeP of []=[]:=fun _=>rfl
 exact{
  s1:=m.s1,s2:=m.s2,s3:=m.s3,s4:=m.s4,user:=m.user,pass:=m.pass,special:=m.special,bare:=m.bare
  opaqueN:=m.opaqueN,path:=m.path,drive:=m.drive,host:=m.host,empty:=m.empty,needed:=m.needed,file:=m.file,port:=m.port
  query:=by
   show(encodeP (setU (if specP v.scheme then 3 else 2)) v.query).all (okE (setU (if specP v.scheme then 3 else 2)))=true;split
   ·exact encode_ok 3 (by omega) _
   ·exact encode_ok 2 (by omega) _
  noQuery:=fun h=>by show encodeP _ v.query=[];rw[m2 h];rfl
  fragment:=encode_ok 1 (by omega) _
  noFragment:=fun h=>by
   show encodeP _ v.fragment=[];rw[m4];have:F.2.2=false:=m3.symm.trans h;rw[show F.2.1=[]from(f2 this).2];rfl}
theorem parse_form {s:Bs} {b:Option UrlL} {u:UrlL} (e:parseU s b=.ok u):NU u:=by
 unfold parseU at e;split at e
 ·cases e
 ·cases b with
  | none=>exact readU_form e (fun x hx=>by cases hx)
  | some x=>
    simp only at e;split at e
    ·rename_i hx;exact readU_form e (fun y hy=>by cases hy;exact readU_form hx (fun z hz=>by cases hz))
    ·cases e
theorem enc_len3 (of:Bs):∀s:Bs,(encodeP of s).length<=3*s.length
 | []=>Nat.zero_le _
 | c::r=>by
   have ih:=enc_len3 of r;unfold encodeP at ih⊢;rw[List.flatMap_cons,List.length_append,List.length_cons]
   have:(if c<32||126<c||of.contains c then[37,digitU (c.toNat / 16),digitU (c.toNat%16)]else[c]:Bs).length<=3:=by
    split
    ·exact Nat.le_refl 3
    ·exact Nat.le_add_left 1 2
   omega
def pl (l:List Bs):Nat:=(pathT l).length
theorem pl_nil:pl []=0:=rfl
theorem pl_app (a b:List Bs):pl (a++b)=pl a+pl b:=by simp[pl,pathT]
theorem pl_one (p:Bs):pl [p]=p.length+1:=by simp[pl,pathT]
theorem pl_short (scheme:Bs) (l:List Bs):pl (shortP scheme l)<=pl l:=by
 unfold shortP;split
 ·exact Nat.le_refl _
 ·rcases List.eq_nil_or_concat l with rfl|⟨r,p,rfl⟩
  ·exact Nat.le_refl _
  ·rw[List.concat_eq_append,List.dropLast_concat,pl_app];omega
theorem pl_take (l:List Bs):pl (l.take 1)<=pl l:=by
 cases l with
 | nil=>exact Nat.le_refl _
 | cons p r=>
   show pl [p]<=pl ([p]++r);rw[pl_app];omega
def pw (l:List Bs):Nat:=(l.map fun p=>3*p.length+1).sum
theorem pw_cons (p:Bs) (l:List Bs):pw (p::l)=3*p.length+1+pw l:=by simp[pw]
theorem onL_len (scheme:Bs):∀(ps acc:List Bs),pl (onL scheme acc ps)<=pl acc+pw ps
 | [],acc=>Nat.le_refl _
 | p::r,acc=>by
   have ih:=fun a=>onL_len scheme r a;have he:=enc_len3 (setU 4) p;have hs:=pl_short scheme acc;have h1:∀a:List Bs,pl (a++[[]])=pl a+1:=fun a=>by rw[pl_app,pl_one];rfl
   rw[onL,pw_cons]
   try simp only
   generalize encodeP (setU 4) p=q at he;split
   ·split
    ·have:=ih (shortP scheme acc++[[]]);rw[h1]at this;omega
    ·have:=ih (shortP scheme acc);omega
   ·split
    ·split
     ·have:=ih (acc++[[]]);rw[h1]at this;omega
     ·have:=ih acc;omega
    ·have h2:(if scheme=fileS/\acc=[]/\driveP q=true then q.take 1++[58]else q).length<=q.length:=by
      split
      ·rename_i hh
       match q,hh.2.2 with
       | [a,b],_=>exact Nat.le_refl _
      ·exact Nat.le_refl _
     have:=ih (acc++[if scheme=fileS/\acc=[]/\driveP q=true then q.take 1++[58]else q]);rw[pl_app,pl_one]at this;omega
theorem splitS_len (sp:Bool):∀s:Bs,pw (splitS sp s)<=3*s.length+1
 | []=>Nat.le_refl _
 | c::r=>by
   have ih:=splitS_len sp r;rw[splitS];split
   ·rw[pw_cons,List.length_cons];simp;omega
   ·cases he:splitS sp r with
    | nil=>exact absurd he (splitS_ne r)
    | cons x t=>
      rw[he,pw_cons]at ih;show pw ((c::x)::t)<=_;rw[pw_cons,List.length_cons,List.length_cons];omega
theorem onP_len (u:UrlL) (t:Bs):pl (onP u t).path<=pl u.path+3*t.length+1:=by
 have h1:=onL_len u.scheme (splitS (specP u.scheme) t) u.path;have h2:=splitS_len (specP u.scheme) t;show pl (onL u.scheme u.path (splitS (specP u.scheme) t))<=_;omega
theorem cut_len (k:UInt8) (s:Bs):(Lib.cut s [k]).1.length+(Lib.cut s [k]).2.1.length<=s.length:=by
 have h:=cut_facts k s;cases hc:(Lib.cut s [k]).2.2 with
 | true=>
   have:=congrArg List.length (h.2.2.2 hc);rw[List.length_append,List.length_cons]at this;omega
 | false=>
   obtain⟨h1,h2⟩:=h.2.1 hc;rw[h1,h2];simp
theorem cutS_len (sp:Bool) (s:Bs):(cutS sp s).1.length+(cutS sp s).2.1.length<=s.length:=by
 have h:∀s:Bs,(s.takeWhile fun c=> !slashQ sp c).length+(s.dropWhile fun c=> !slashQ sp c).length=s.length:=by
  intro s;have:=congrArg List.length (List.takeWhile_append_dropWhile (p:=fun c=> !slashQ sp c) (l:=s))
  rwa [List.length_append]at this
 have:=h s;unfold cutS;simp only[List.length_drop];omega
theorem lastAt_len:∀{s x y:Bs},lastAt s=some (x,y)->x.length+y.length+1=s.length
 | [],_,_,h=>by cases h
 | c::r,x,y,h=>by
   rw[lastAt]at h;cases hl:lastAt r with
   | some xy=>
     obtain⟨a,b⟩:=xy;rw[hl]at h;have:=lastAt_len hl;simp only[Option.some.injEq,Prod.mk.injEq]at h;obtain⟨rfl,rfl⟩:=h;rw[List.length_cons,List.length_cons];omega
   | none=>
     rw[hl]at h;simp only at h;split at h
     ·simp only[Option.some.injEq,Prod.mk.injEq]at h;obtain⟨rfl,rfl⟩:=h
      simp
     ·cases h
theorem joinP_len (sep:Bs) (m:Nat):∀ls:List Bs,(∀x,x∈ls->x.length<=m)->(joinP sep ls).length<=ls.length*(m+sep.length)
 | [],_=>by simp[joinP]
 | [x],h=>by
   have hx:=h x (by simp)
   simp[joinP];omega
 | x::y::r,h=>by
   have hx:=h x (by simp);have hr:=joinP_len sep m (y::r) (fun z hz=>h z (by simp[hz]));rw[joinP,List.length_append,List.length_append,List.length_cons,Nat.succ_mul];omega
theorem decode_lenU:∀l:Bs,(decodeP l).length<=l.length:=by
 intro l
 induction h:l.length using Nat.strongRecOn generalizing l with
 | ind n ih=>
   cases l with
   | nil=>rw[decodeP];simp
   | cons c r=>
     rw[decodeP];simp only[List.length_cons]at h;split
     ·have:=ih (r.drop 2).length (by simp;omega) (r.drop 2) rfl
      simp at this⊢;omega
     ·have:=ih r.length (by omega) r rfl
      simp;omega
theorem told_lenU (l:List Nat) (h:∀n∈l,n<65536) (h8:l.length<=8):(toldP l).length<=40:=by
 have hj:=joinP_len [58] 4 (l.map hexD) (by
  intro x hx;obtain⟨n,hn,rfl⟩:=List.mem_map.1 hx;exact hexD_len 3 n (by simpa using h n hn))
 rw[List.length_map]at hj;unfold toldP
 simp at hj;omega
theorem textP_len (a:List Nat) (h8:a.length=8) (hl:∀n∈a,n<65536):(textP a).length<=100:=by
 unfold textP;have h1:=told_lenU a hl (by omega);have h2:=told_lenU (a.take (runP 0 a (0,0)).1) (fun n hn=>hl n (List.mem_of_mem_take hn)) (by rw[List.length_take];omega);have h3:=told_lenU (a.drop (runP 0 a (0,0)).2) (fun n hn=>hl n (List.mem_of_mem_drop hn)) (by rw[List.length_drop];omega);split
 ·omega
 ·rw[List.length_append,List.length_append];show _+2+_<=_;omega
theorem decDigits_len:∀(k m:Nat),m<10^(k+1)->(Lib.decDigits m).length<=k+1:=by
 intro k
 induction k with
 | zero=>intro m h;rw[Lib.decDigits,dif_pos (by simpa using h)];simp
 | succ k ih=>
   intro m h;rw[Lib.decDigits];split
   ·simp
   ·have:=ih (m / 10) (by rw[Nat.pow_succ]at h;omega)
    simp;omega
theorem dottedP_len (b:List Nat) (h:b.length=4) (hl:∀n∈b,n<256):(dottedP b).length<=16:=by
 have hj:=joinP_len [46] 3 (b.map fun x=>Lib.decDigits x) (by
  intro x hx;obtain⟨n,hn,rfl⟩:=List.mem_map.1 hx;exact decDigits_len 2 n (by have:=hl n hn;simp;omega))
 rw[List.length_map,h]at hj;exact hj
theorem host_lenU (s h:Bs) (b:Bool) (e:hostPr s b=.ok h):h.length<=3*s.length+110:=by
 unfold hostPr at e;split at e
 ·split at e
  ·cases e
  ·cases ha:sixP ((s.drop 1).dropLast)with
   | none=>rw[ha]at e;cases e
   | some a=>
     rw[ha]at e;simp only[Option.map_some,ofO]at e;injection e with e
     obtain⟨h8,hl⟩:=six_ok ha;have:=textP_len a h8 hl;rw[<-e,List.length_append,List.length_append];show 1+_+1<=_;omega
 ·split at e
  ·unfold domainP at e;simp only at e;split at e
   ·cases e
   ·split at e
    ·cases hf:fourP (labelsP (low (decodeP s)))with
     | none=>rw[hf]at e;cases e
     | some t=>
       rw[hf]at e;simp only[ofO]at e;injection e with e
       obtain⟨b4,h4,hl,rfl⟩:=four_ok (labels_ne _) hf;have:=dottedP_len b4 h4 hl;rw[<-e];omega
    ·injection e with e
     have:=decode_lenU s;rw[<-e];show(low (decodeP s)).length<=_;unfold low;rw[List.length_map];omega
  ·split at e
   ·cases e
   ·injection e with e
    have:=enc_len3 [] s;rw[<-e];omega
def wt (u:UrlL):Nat:=u.scheme.length+u.user.length+u.pass.length+u.host.length+pl u.path
theorem placeU_len {u v:UrlL} {a:Bs} (e:placeU u a=.ok v):v.host.length<=3*a.length+110:=by
 unfold placeU at e
 have hp:∀{w v:UrlL} {s:Bs},portU w s=.ok v->v.host=w.host:=by
  intro w v s h;unfold portU at h;cases hn:portN 0 s with
  | none=>rw[hn]at h;cases h
  | some n=>
    rw[hn]at h;simp only at h;split at h
    ·cases h
    ·injection h with h
     rw[<-h];split<;>rfl
 cases hc:colonP false a with
 | some i=>
   rw[hc]at e;simp only at e;split at e
   ·cases e
   ·obtain⟨w,hw,e⟩:=bind_ok e;obtain⟨h,rfl,hh⟩:=hostU_ok hw;have h1:=host_lenU _ _ _ hh;rw[hp e];rw[List.length_take]at h1;show h.length<=_;omega
 | none=>
   rw[hc]at e;simp only at e;split at e
   ·cases e
   ·obtain⟨w,hw,e⟩:=bind_ok e;obtain⟨h,rfl,hh⟩:=hostU_ok hw;have h1:=host_lenU _ _ _ hh;rw[hp e];exact h1
theorem authU_len {u v:UrlL} {a:Bs} (e:authU u a=.ok v) (hu:u.port= -1) (hu1:u.user=[]) (hu2:u.pass=[]):v.user.length+v.pass.length+v.host.length<=3*a.length+110:=by
 unfold authU at e;cases hl:lastAt a with
 | some xy=>
   obtain⟨x,y⟩:=xy;rw[hl]at e;simp only at e;split at e
   ·cases e
   ·have hlen:=lastAt_len hl;have h1:=placeU_len e;obtain⟨h,p,rfl,_⟩:=placeU_ok e (show(whoU u x).port= -1 from hu);have h2:=cut_len 58 x;have h3:=enc_len3 (setU 5) (Lib.cut x [58]).1;have h4:=enc_len3 (setU 5) (Lib.cut x [58]).2.1;show(encodeP (setU 5) (Lib.cut x [58]).1).length+(encodeP (setU 5) (Lib.cut x [58]).2.1).length+h.length<=_;have h1:h.length<=3*y.length+110:=h1;omega
 | none=>
   rw[hl]at e;have h1:=placeU_len e;obtain⟨h,p,rfl,_⟩:=placeU_ok e hu;show u.user.length+u.pass.length+h.length<=_;have h1:h.length<=3*a.length+110:=h1;rw[hu1,hu2]
   simp;omega
theorem hostedU_len {u v:UrlL} {r:Bs} (e:hostedU u r=.ok v) (hu:u.port= -1) (hu1:u.user=[]) (hu2:u.pass=[]) (hp:u.path=[]):wt v<=u.scheme.length+3*r.length+111:=by
 unfold hostedU at e;obtain⟨w,hw,e⟩:=bind_ok e;have h1:=authU_len hw hu hu1 hu2;obtain⟨us,pa,h,p,rfl,_⟩:=authU_ok hw hu hu1 hu2;injection e with e
 have hc:=cutS_len (specP u.scheme) r;have h1:us.length+pa.length+h.length<=3*(cutS (specP u.scheme) r).1.length+110:=h1;split at e
 ·have h2:=onP_len {u with user:=us,pass:=pa,host:=h,hasHost:=true,port:=p} (cutS (specP u.scheme) r).2.1;have h2:pl (onP {u with user:=us,pass:=pa,host:=h,hasHost:=true,port:=p} (cutS (specP u.scheme) r).2.1).path<=pl u.path+3*(cutS (specP u.scheme) r).2.1.length+1:=h2;have h0:pl u.path=0:=by rw[hp];rfl
  rw[<-e];show u.scheme.length+us.length+pa.length+h.length+pl _<=_;omega
 ·rw[<-e];show u.scheme.length+us.length+pa.length+h.length+pl u.path<=_;rw[hp,pl_nil];omega
def bw:Option UrlL->Nat
 | some x=>wt x
 | none=>0
theorem relU_len {u b v:UrlL} {r:Bs} (e:relU u b r=.ok v) (hs:u.scheme=b.scheme) (hu:Fresh u):wt v<=wt b+3*r.length+111:=by
 have hsl:u.scheme.length=b.scheme.length:=by rw[hs]
 unfold relU at e;simp only at e;split at e
 ·have h1:=hostedU_len e hu.port hu.user hu.pass hu.path
  have h2:(if specP u.scheme=true then r.drop (leadS (specP u.scheme) r)else r.drop 2).length<=r.length:=by
   split
   ·rw[List.length_drop];omega
   ·rw[List.length_drop];omega
  have h3:b.scheme.length<=wt b:=by unfold wt;omega
  omega
 ·split at e
  ·injection e with e
   have h1:=onP_len (restU u b) (r.drop 1);have h0:pl (restU u b).path=0:=by show pl u.path=0;rw[hu.path];rfl
   have h2:(r.drop 1).length<=r.length:=by rw[List.length_drop];omega
   rw[<-e];show u.scheme.length+b.user.length+b.pass.length+b.host.length+pl (onP (restU u b) (r.drop 1)).path<=_;unfold wt;omega
  ·injection e with e
   rw[<-e];unfold pathU;have hs1:=pl_short u.scheme b.path;split
   ·have h1:∀w:UrlL,w.path=shortP u.scheme b.path->pl (onP w r).path<=pl (shortP u.scheme b.path)+3*r.length+1:=by
     intro w hw;have h2:=onP_len w r;rw[show pl w.path=pl (shortP u.scheme b.path) by rw[hw]]at h2;exact h2
    show u.scheme.length+b.user.length+b.pass.length+b.host.length+pl _<=_;refine Nat.le_trans (Nat.add_le_add_left (h1 _ rfl) _) ?_;unfold wt;omega
   ·split
    ·show u.scheme.length+b.user.length+b.pass.length+b.host.length+pl b.path<=_;unfold wt;omega
    ·show u.scheme.length+b.user.length+b.pass.length+b.host.length+pl b.path<=_;unfold wt;omega
theorem filesU_len {u v:UrlL} {b:Option UrlL} {r:Bs} (e:filesU u b r=.ok v) (hu:Fresh u):wt v<=u.scheme.length+bw b+3*r.length+111:=by
 have hz:pl u.path=0:=by rw[hu.path];rfl
 have hmk:∀(w:UrlL) (t:Bs) (k:Nat),w.scheme=u.scheme->w.user=[]->w.pass=[]->w.host.length+pl w.path+3*t.length<=k->wt (onP w t)<=u.scheme.length+k+1:=by
  intro w t k h1 h2 h3 h4;have h5:=onP_len w t;show w.scheme.length+w.user.length+w.pass.length+w.host.length+pl (onP w t).path<=_;rw[h1,h2,h3];simp only[List.length_nil];omega
 have hd2:(r.drop 2).length<=r.length:=by rw[List.length_drop];omega
 have hd1:(r.drop 1).length<=r.length:=by rw[List.length_drop];omega
 have hh0:u.host.length=0:=by rw[hu.host];rfl
 have hc:=cutS_len true (r.drop 2);unfold filesU at e;simp only at e;split at e
 ·split at e
  ·injection e with e
   rw[<-e];have:=hmk {u with hasHost:=true} (r.drop 2) (3*r.length) rfl hu.user hu.pass (by show u.host.length+pl u.path+_<=_;omega);omega
  ·obtain⟨w,hw,e⟩:=bind_ok e;injection e with e
   rw[<-e];split at hw
   ·injection hw with hw
    have hh:w.host=[]:=by rw[<-hw];exact hu.host
    rw[if_neg (by rw[hh];decide),<-hw];have:=hmk {u with hasHost:=true} (cutS true (r.drop 2)).2.1 (3*r.length) rfl hu.user hu.pass (by show u.host.length+pl u.path+_<=_;omega);omega
   ·obtain⟨h,rfl,hh⟩:=hostU_ok hw;have hl:=host_lenU _ _ _ hh;split
    ·have:=hmk {u with hasHost:=true,host:=[]} (cutS true (r.drop 2)).2.1 (3*r.length) rfl hu.user hu.pass (by show 0+pl u.path+_<=_;omega);refine Nat.le_trans this ?_;omega
    ·have:=hmk {u with hasHost:=true,host:=h} (cutS true (r.drop 2)).2.1 (3*r.length+110) rfl hu.user hu.pass (by show h.length+pl u.path+_<=_;omega);refine Nat.le_trans this ?_;omega
 ·have hb:∀x,b=some x->x.host.length+pl x.path<=bw b:=by
   rintro x rfl;show _<=wt x;unfold wt;omega
  split at e
  ·injection e with e
   rw[<-e];cases b with
   | none=>
     have:=hmk {u with hasHost:=true} (r.drop 1) (3*r.length) rfl hu.user hu.pass (by show u.host.length+pl u.path+_<=_;omega);refine Nat.le_trans this ?_;omega
   | some x=>
     have hbx:=hb x rfl;have ht:=pl_take x.path;simp only;split
     ·split
      ·have:=hmk {u with hasHost:=true,host:=x.host,path:=x.path.take 1} (r.drop 1) (bw (some x)+3*r.length) rfl hu.user hu.pass (by show x.host.length+pl (x.path.take 1)+_<=_;omega);refine Nat.le_trans this ?_;omega
      ·have:=hmk {u with hasHost:=true,host:=x.host} (r.drop 1) (bw (some x)+3*r.length) rfl hu.user hu.pass (by show x.host.length+pl u.path+_<=_;omega);refine Nat.le_trans this ?_;omega
     ·have:=hmk {u with hasHost:=true} (r.drop 1) (3*r.length) rfl hu.user hu.pass (by show u.host.length+pl u.path+_<=_;omega);refine Nat.le_trans this ?_;omega
  ·cases b with
   | none=>
     injection e with e
     rw[<-e];have:=hmk {u with hasHost:=true} r (3*r.length) rfl hu.user hu.pass (by show u.host.length+pl u.path+_<=_;omega);refine Nat.le_trans this ?_;omega
   | some x=>
     have hbx:=hb x rfl;simp only at e;split at e
     ·split at e
      ·injection e with e
       rw[<-e];have:=hmk {u with hasHost:=true,host:=x.host} r (bw (some x)+3*r.length) rfl hu.user hu.pass (by show x.host.length+pl u.path+_<=_;omega);refine Nat.le_trans this ?_;omega
      ·injection e with e
       rw[<-e];have hs1:=pl_short u.scheme x.path;have h00:u.user.length=0/\u.pass.length=0:=by rw[hu.user,hu.pass];exact⟨rfl,rfl⟩
       unfold pathU;split
       ·have:=hmk {({({u with hasHost:=true}:UrlL)with host:=x.host}:UrlL)with path:=shortP u.scheme x.path} r (bw (some x)+3*r.length) rfl hu.user hu.pass (by show x.host.length+pl (shortP u.scheme x.path)+_<=_;omega);refine Nat.le_trans this ?_;omega
       ·split
        ·show u.scheme.length+u.user.length+u.pass.length+x.host.length+pl x.path<=_;omega
        ·show u.scheme.length+u.user.length+u.pass.length+x.host.length+pl x.path<=_;omega
     ·injection e with e
      rw[<-e];have:=hmk {u with hasHost:=true} r (3*r.length) rfl hu.user hu.pass (by show u.host.length+pl u.path+_<=_;omega);refine Nat.le_trans this ?_;omega
theorem hostedU_q {u v:UrlL} {r:Bs} (e:hostedU u r=.ok v) (hu:u.port= -1) (hu1:u.user=[]) (hu2:u.pass=[]):v.scheme=u.scheme/\v.query=u.query:=by
 unfold hostedU at e;obtain⟨w,hw,e⟩:=bind_ok e;obtain⟨us,pa,h,p,rfl,_⟩:=authU_ok hw hu hu1 hu2;injection e with e
 rw[<-e];split<;>exact⟨rfl,rfl⟩
theorem pathU_q (w b:UrlL) (r:Bs):(pathU w b r).scheme=w.scheme/\((pathU w b r).query=w.query\/(pathU w b r).query=b.query):=by
 unfold pathU;split
 ·exact⟨rfl,Or.inl rfl⟩
 ·split
  ·exact⟨rfl,Or.inl rfl⟩
  ·exact⟨rfl,Or.inr rfl⟩
theorem relU_q {u b v:UrlL} {r:Bs} (e:relU u b r=.ok v) (hu:Fresh u):v.scheme=u.scheme/\(v.query=u.query\/v.query=b.query):=by
 unfold relU at e;simp only at e;split at e
 ·have:=hostedU_q e hu.port hu.user hu.pass;exact⟨this.1,Or.inl this.2⟩
 ·split at e
  ·injection e with e
   rw[<-e];exact⟨rfl,Or.inl rfl⟩
  ·injection e with e
   rw[<-e];exact pathU_q (restU u b) b r
theorem filesU_q {u v:UrlL} {b:Option UrlL} {r:Bs} (e:filesU u b r=.ok v):v.scheme=u.scheme/\(v.query=u.query\/∃x,b=some x/\x.scheme=fileS/\v.query=x.query):=by
 unfold filesU at e;simp only at e;split at e
 ·split at e
  ·injection e with e
   rw[<-e];exact⟨rfl,Or.inl rfl⟩
  ·obtain⟨w,hw,e⟩:=bind_ok e;injection e with e
   rw[<-e];split at hw
   ·injection hw with hw
    rw[<-hw];split<;>exact⟨rfl,Or.inl rfl⟩
   ·obtain⟨h,rfl,hh⟩:=hostU_ok hw;split<;>exact⟨rfl,Or.inl rfl⟩
 ·split at e
  ·injection e with e
   rw[<-e];cases b with
   | none=>exact⟨rfl,Or.inl rfl⟩
   | some x=>
     simp only;split
     ·split<;>exact⟨rfl,Or.inl rfl⟩
     ·exact⟨rfl,Or.inl rfl⟩
  ·cases b with
   | none=>
     injection e with e
     rw[<-e];exact⟨rfl,Or.inl rfl⟩
   | some x=>
     simp only at e;split at e
     ·rename_i hx;split at e
      ·injection e with e
       rw[<-e];exact⟨rfl,Or.inl rfl⟩
      ·injection e with e
       rw[<-e];obtain⟨h1,h2⟩:=pathU_q {({u with hasHost:=true}:UrlL)with host:=x.host} x r;refine⟨h1,?_⟩;rcases h2 with h2|h2
       ·exact Or.inl h2
       ·exact Or.inr ⟨x,rfl,hx,h2⟩
     ·injection e with e
      rw[<-e];exact⟨rfl,Or.inl rfl⟩
theorem schemed_len {s:Bs} (h:(schemedP s).2.2=true):(schemedP s).1.length+1+(schemedP s).2.1.length=s.length:=by
 have hc:=cut_facts 58 s;rw[schemedP_eq]at h⊢;by_cases hh:schemeOk (Lib.cut s [58])=true
 ·rw[if_pos hh]
  have h1:(Lib.cut s [58]).2.2=true:=by
   unfold schemeOk at hh;simp only[Bool.and_eq_true]at hh;exact hh.1.1.1
  have:=congrArg List.length (hc.2.2.2 h1);rw[List.length_append,List.length_cons]at this;show(low (Lib.cut s [58]).1).length+1+(Lib.cut s [58]).2.1.length=_;unfold low;rw[List.length_map];omega
 ·rw[if_neg hh]at h;cases h
theorem mainU_all {u v:UrlL} {s:Bs} {b:Option UrlL} (e:mainU u s b=.ok v) (hu:Fresh u) (hb:∀x,b=some x->NU x):wt v<=bw b+3*s.length+120/\(v.query=u.query\/∃x,b=some x/\v.scheme=x.scheme/\v.query=x.query):=by
 have hfr:∀sch,Fresh {u with scheme:=sch}:=fun sch=>⟨hu.user,hu.pass,hu.hasHost,hu.host,hu.port,hu.opq,hu.path⟩;have hz:u.user.length=0/\u.pass.length=0/\u.host.length=0/\pl u.path=0:=by rw[hu.user,hu.pass,hu.host,hu.path];exact⟨rfl,rfl,rfl,rfl⟩
 unfold mainU at e;simp only at e;cases hok:(schemedP s).2.2 with
 | true=>
   have hlen:=schemed_len hok;rw[hok,if_pos rfl]at e;generalize (schemedP s).1=sch at e hlen;generalize (schemedP s).2.1=r at e hlen
   have hhost:∀{t:Bs},hostedU {u with scheme:=sch} t=.ok v->t.length<=r.length->wt v<=bw b+3*s.length+120/\(v.query=u.query\/∃x,b=some x/\v.scheme=x.scheme/\v.query=x.query):=by
    intro t et ht;have h1:=hostedU_len et hu.port hu.user hu.pass hu.path;have h1:wt v<=sch.length+3*t.length+111:=h1;exact⟨by omega,Or.inl (hostedU_q et hu.port hu.user hu.pass).2⟩
   have hdr:∀n,(r.drop n).length<=r.length:=fun n=>by rw[List.length_drop];omega
   split at e
   ·rename_i hf;have h1:=filesU_len (u:={u with scheme:=sch}) e (hfr sch);have h1:wt v<=sch.length+bw b+3*r.length+111:=h1;obtain⟨h2,h3⟩:=filesU_q (u:={u with scheme:=sch}) e;refine⟨by omega,?_⟩;rcases h3 with h3|⟨x,hx,hxf,h3⟩
    ·exact Or.inl h3
    ·exact Or.inr ⟨x,hx,h2.trans (hf.trans hxf.symm),h3⟩
   ·split at e
    ·cases b with
     | none=>exact hhost e (hdr _)
     | some x=>
       simp only at e;split at e
       ·rename_i hh;have h1:=relU_len (u:={u with scheme:=sch}) e hh.1.symm (hfr sch);obtain⟨h2,h3⟩:=relU_q (u:={u with scheme:=sch}) e (hfr sch);refine⟨?_,?_⟩
        ·show wt v<=wt x+3*s.length+120;omega
        ·rcases h3 with h3|h3
         ·exact Or.inl h3
         ·exact Or.inr ⟨x,rfl,h2.trans hh.1.symm,h3⟩
       ·exact hhost e (hdr _)
    ·split at e
     ·exact hhost e (hdr _)
     ·split at e
      ·injection e with e
       rw[<-e];have h1:=onP_len {u with scheme:=sch} (r.drop 1);have h1:pl (onP {u with scheme:=sch} (r.drop 1)).path<=pl u.path+3*(r.drop 1).length+1:=h1;have h2:=hdr 1;refine⟨?_,Or.inl rfl⟩;show sch.length+u.user.length+u.pass.length+u.host.length+pl _<=_;omega
      ·injection e with e
       rw[<-e];have h1:=enc_len3 [] r;refine⟨?_,Or.inl rfl⟩;show sch.length+u.user.length+u.pass.length+u.host.length+pl [encodeP [] r]<=_;rw[pl_one];omega
 | false=>
   rw[hok,if_neg (by decide)]at e;cases b with
   | none=>cases e
   | some x=>
     simp only at e;split at e
     ·cases e
     ·split at e
      ·injection e with e
       rw[<-e];obtain⟨h1,h2⟩:=pathU_q {({u with scheme:=x.scheme}:UrlL)with opq:=true} x [];refine⟨?_,?_⟩
       ·have hp:(pathU {({u with scheme:=x.scheme}:UrlL)with opq:=true} x []).path=x.path/\(pathU {({u with scheme:=x.scheme}:UrlL)with opq:=true} x []).user=u.user/\(pathU {({u with scheme:=x.scheme}:UrlL)with opq:=true} x []).pass=u.pass/\(pathU {({u with scheme:=x.scheme}:UrlL)with opq:=true} x []).host=u.host:=by
         unfold pathU;rw[if_neg (fun h=>h rfl)];split<;>exact⟨rfl,rfl,rfl,rfl⟩
        show wt _<=wt x+3*s.length+120;unfold wt;rw[h1,hp.1,hp.2.1,hp.2.2.1,hp.2.2.2];show x.scheme.length+_+_+_+_<=_;omega
       ·rcases h2 with h2|h2
        ·exact Or.inl h2
        ·exact Or.inr ⟨x,rfl,h1,h2⟩
      ·split at e
       ·rename_i hf;have h1:=filesU_len (u:={u with scheme:=x.scheme}) e (hfr x.scheme);obtain⟨h2,h3⟩:=filesU_q (u:={u with scheme:=x.scheme}) e;have h1:wt v<=x.scheme.length+wt x+3*s.length+111:=h1;have h4:x.scheme.length=4:=by rw[hf];rfl
        refine⟨?_,?_⟩
        ·show wt v<=wt x+3*s.length+120;omega
        ·rcases h3 with h3|⟨y,hy,_,h3⟩
         ·exact Or.inl h3
         ·cases hy;exact Or.inr ⟨x,rfl,h2,h3⟩
       ·have h1:=relU_len (u:={u with scheme:=x.scheme}) e rfl (hfr x.scheme);obtain⟨h2,h3⟩:=relU_q (u:={u with scheme:=x.scheme}) e (hfr x.scheme);refine⟨?_,?_⟩
        ·show wt v<=wt x+3*s.length+120;omega
        ·rcases h3 with h3|h3
         ·exact Or.inl h3
         ·exact Or.inr ⟨x,rfl,h2,h3⟩
theorem clean_len (s:Bs):(cleanP s).length<=s.length:=by
 rw[clean_eq,List.length_reverse];have h1:∀l:Bs,(l.dropWhile lowQ).length<=l.length:=fun l=>(List.dropWhile_sublist lowQ).length_le;refine Nat.le_trans (h1 _) ?_;rw[List.length_reverse];refine Nat.le_trans (h1 _) ?_;exact List.length_filter_le _ _
def wq (u:UrlL):Nat:=wt u+u.query.length+u.fragment.length
def bq:Option UrlL->Nat
 | some x=>wq x
 | none=>0
theorem readU_len {s:Bs} {b:Option UrlL} {u:UrlL} (e:readU s b=.ok u) (hb:∀x,b=some x->NU x):wq u<=bq b+3*s.length+120:=by
 unfold readU at e;simp only at e;obtain⟨v,hv,e⟩:=bind_ok e;injection e with e
 have hc:=clean_len s;have f:=cut_len 35 (cleanP s);have q:=cut_len 63 (Lib.cut (cleanP s) [35]).1;have f':=cut_facts 35 (cleanP s);have q':=cut_facts 63 (Lib.cut (cleanP s) [35]).1;have hl:= @clean_last s;generalize Lib.cut (cleanP s) [35]=F at hv f q f' q';generalize Lib.cut F.1 [63]=G at hv q q';obtain⟨f1,f2,f3,_⟩:=f';obtain⟨q1,q2,q3,_⟩:=q';obtain⟨h1,h2⟩:=mainU_all hv ⟨rfl,rfl,rfl,rfl,rfl,rfl,rfl⟩ hb
 have hfr:v.fragment=F.2.1:=(mainU_form hv ⟨rfl,rfl,rfl,rfl,rfl,rfl,rfl⟩ (fun h=>f1 (q3 _ h)) q1
  (fun h1 h2 h=>by
   have e1:=(q2 h1).1;have e2:=(f2 h2).1;rw[e1,e2]at h;have:=hl h;cases this)
  (fun h=>(q2 h).2) hb).2.2.2
 have hfl:=enc_len3 (setU 1) F.2.1;rw[<-e];show wt v+(encodeP (setU (if specP v.scheme then 3 else 2)) v.query).length+(encodeP (setU 1) v.fragment).length<=_;rw[hfr]
 have hbw:bw b<=bq b:=by
  cases b with
  | none=>exact Nat.le_refl _
  | some x=>show wt x<=wq x;unfold wq;omega
 rcases h2 with h2|⟨x,rfl,h3,h4⟩
 ·rw[h2];have hql:=enc_len3 (setU (if specP v.scheme then 3 else 2)) G.2.1;have hql:(encodeP (setU (if specP v.scheme then 3 else 2)) ({query:=G.2.1,hasQuery:=G.2.2,fragment:=F.2.1,hasFragment:=F.2.2}:UrlL).query).length<=3*G.2.1.length:=hql;omega
 ·rw[h4,h3,encode_id (hb x rfl).query];have h1:wt v<=wt x+3*G.1.length+120:=h1;show wt v+x.query.length+_<=wq x+3*s.length+120;unfold wq;omega
theorem textU_len {u:UrlL} (hp:PortN u.scheme u.port):(textU u).length<=wq u+20:=by
 have h1:(atU u).length<=u.host.length+6:=by
  unfold atU;rcases hp with h|⟨n,h,hn,_⟩
  ·rw[if_pos h];omega
  ·rw[if_neg (by omega),h,itoa_nat,List.length_append,List.length_append];have:=decDigits_len 4 n (by omega);show u.host.length+1+_<=_;omega
 have h2:(if u.opq=true then u.path.headD []else u.path.flatMap fun p=>47::p).length<=pl u.path:=by
  split
  ·cases u.path with
   | nil=>exact Nat.zero_le _
   | cons p r=>
     show p.length<=pl ([p]++r);rw[pl_app,pl_one];omega
  ·exact Nat.le_refl _
 have h3:(if u.hasHost=true then[47,47]++u.user++(if u.pass=[]then[]else[58]++u.pass)++(if u.user=[]/\u.pass=[]then[]else[64])++atU u else if u.opq=false/\1<u.path.length/\u.path.head? =some []then[47,46]else[]:Bs).length<=10+u.user.length+u.pass.length+u.host.length:=by
  split
  ·have e1:(if u.pass=[]then[]else[58]++u.pass:Bs).length<=u.pass.length+1:=by
    split
    ·exact Nat.zero_le _
    ·rw[List.length_append];show 1+_<=_;omega
   have e2:(if u.user=[]/\u.pass=[]then[]else[64]:Bs).length<=1:=by split<;>simp
   rw[List.length_append,List.length_append,List.length_append,List.length_append];show 2+_+_+_+_<=_;omega
  ·split
   ·show 2<=_;omega
   ·exact Nat.zero_le _
 have h4:(if u.hasQuery=true then 63::u.query else[]:Bs).length<=u.query.length+1:=by split<;>simp
 have h5:(if u.hasFragment=true then 35::u.fragment else[]:Bs).length<=u.fragment.length+1:=by split<;>simp
 unfold textU;rw[List.length_append,List.length_append,List.length_append,List.length_append,List.length_append];unfold wq wt;show u.scheme.length+1+_+_+_+_<=_;omega
def stepL (scheme:Bs) (path:List Bs) (p:Bs) (more:Bool):List Bs:=
 let q:=encodeP (setU 4) p
 if dotsP q=2 then(if more=false then shortP scheme path++[[]]else shortP scheme path)
 else if dotsP q=1 then(if more=false then path++[[]]else path)
 else path++[if scheme=fileS/\path=[]/\driveP q=true then q.take 1++[58]else q]
theorem splitS_cut (sp:Bool):∀s:Bs,splitS sp s=(cutS sp s).1::(if(cutS sp s).2.2 then splitS sp (cutS sp s).2.1 else[])
 | []=>rfl
 | c::r=>by
   have ih:=splitS_cut sp r;rw[splitS];by_cases h:slashQ sp c=true
   ·have h1:(cutS sp (c::r))=([],r,true):=by simp[cutS,h]
    rw[if_pos h,h1]
    simp
   ·have h2:slashQ sp c=false:=by simpa using h
    have h1:(cutS sp (c::r))=(c::(cutS sp r).1,(cutS sp r).2.1,(cutS sp r).2.2):=by simp[cutS,h2]
    rw[if_neg h,h1,ih]
theorem onL_step (scheme:Bs) (path:List Bs) (p:Bs) (r:List Bs):onL scheme path (p::r)=onL scheme (stepL scheme path p (!decide (r=[]))) r:=by
 rw[onL,stepL];by_cases hr:r=[]
 ·simp only[hr];by_cases h2:dotsP (encodeP (setU 4) p)=2
  ·simp[h2]
  ·by_cases h1:dotsP (encodeP (setU 4) p)=1<;>simp[h1,h2]
 ·simp only[hr];by_cases h2:dotsP (encodeP (setU 4) p)=2
  ·simp[h2]
  ·by_cases h1:dotsP (encodeP (setU 4) p)=1<;>simp[h1,h2]
theorem onL_nil (scheme:Bs) (path:List Bs):onL scheme path []=path:=by rw[onL]
theorem onP_step (u:UrlL) (t:Bs):onP u t=if(cutS (specP u.scheme) t).2.2 then onP {u with path:=stepL u.scheme u.path (cutS (specP u.scheme) t).1 true} (cutS (specP u.scheme) t).2.1 else{u with path:=stepL u.scheme u.path (cutS (specP u.scheme) t).1 false}:=by
 unfold onP;rw[splitS_cut,onL_step];cases h:(cutS (specP u.scheme) t).2.2
 ·simp[onL_nil]
 ·simp[splitS_ne]
theorem stepL_dots2 (scheme:Bs) (path:List Bs) (p:Bs) (more:Bool) (h:dotsP (encodeP (setU 4) p)=2):stepL scheme path p more=if more=false then shortP scheme path++[[]]else shortP scheme path:=by simp[stepL,h]
theorem stepL_dots1 (scheme:Bs) (path:List Bs) (p:Bs) (more:Bool) (h:dotsP (encodeP (setU 4) p)=1):stepL scheme path p more=if more=false then path++[[]]else path:=by simp[stepL,h]
theorem stepL_dots0 (scheme:Bs) (path:List Bs) (p:Bs) (more:Bool) (h:dotsP (encodeP (setU 4) p)=0):stepL scheme path p more=path++[if scheme=fileS/\path=[]/\driveP (encodeP (setU 4) p)=true then(encodeP (setU 4) p).take 1++[58]else encodeP (setU 4) p]:=by simp[stepL,h]
theorem dotsP_cases (p:Bs):dotsP p=0\/dotsP p=1\/dotsP p=2:=by
 unfold dotsP;split
 ·exact .inr (.inl rfl)
 ·split
  ·exact .inr (.inr rfl)
  ·exact .inl rfl
def plQ (q:UInt8->Bool) (l:Bs):Option Nat:=l.findIdx? q
theorem plQ_none {q:UInt8->Bool} {l:Bs} (h:plQ q l=none):l.takeWhile (fun c=> !q c)=l/\l.dropWhile (fun c=> !q c)=[]/\l.any q=false:=by
 induction l with
 | nil=>exact⟨rfl,rfl,rfl⟩
 | cons c r ih=>
   rw[plQ,List.findIdx?_cons]at h;cases hc:q c with
   | true=>rw[hc]at h;simp at h
   | false=>
     rw[hc]at h;obtain⟨h1,h2,h3⟩:=ih (by simpa [plQ]using h)
     simp[hc,h1,h2,h3]
theorem plQ_some {q:UInt8->Bool} {l:Bs} {i:Nat} (h:plQ q l=some i):i<l.length/\l.takeWhile (fun c=> !q c)=l.take i/\(l.dropWhile (fun c=> !q c)).drop 1=l.drop (i+1)/\l.any q=true:=by
 induction l generalizing i with
 | nil=>cases h
 | cons c r ih=>
   rw[plQ,List.findIdx?_cons]at h;cases hc:q c with
   | true=>
     rw[hc]at h;obtain rfl:0=i:=by simpa using h
     simp[hc]
   | false=>
     rw[hc]at h;simp only[Bool.false_eq_true,if_false,Option.map_eq_some_iff]at h;obtain⟨k,hk,rfl⟩:=h;obtain⟨h1,h2,h3,h4⟩:=ih hk;exact⟨by simp;omega,by simp[hc,h2],by simp[hc,h3],by simp[hc,h4]⟩
theorem cutS_none {sp:Bool} {s:Bs} (h:plQ (slashQ sp) s=none):cutS sp s=(s,[],false):=by
 obtain⟨h1,h2,h3⟩:=plQ_none h
 simp[cutS,h1,h2,h3]
theorem cutS_some {sp:Bool} {s:Bs} {i:Nat} (h:plQ (slashQ sp) s=some i):cutS sp s=(s.take i,s.drop (i+1),true):=by
 obtain⟨h0,h1,h2,h3⟩:=plQ_some h;unfold cutS;rw[h1,h2,h3]
theorem plQ_lt {q:UInt8->Bool} {l:Bs} {i:Nat} (h:plQ q l=some i):i<l.length:=(plQ_some h).1
theorem plQ_skip (q:UInt8->Bool) (l:Bs) (pos:Nat):∀k,(∀j b,pos<=j->j<pos+k->l[j]? =some b->q b=false)->(plQ q (l.drop pos)).map (·+pos)=(plQ q (l.drop (pos+k))).map (·+(pos+k))
 | 0,_=>rfl
 | k+1,h=>by
   rw[plQ_skip q l pos k fun j b h1 h2 hj=>h j b h1 (by omega) hj];by_cases hl:pos+k<l.length
   ·rw[List.drop_eq_getElem_cons hl,plQ,List.findIdx?_cons,h (pos+k) l[pos+k] (by omega) (by omega) (List.getElem?_eq_getElem hl)];show _=Option.map _ (plQ q (l.drop (pos+k+1)));rw[plQ];cases List.findIdx? q (l.drop (pos+k+1))with
    | none=>rfl
    | some n=>simp;omega
   ·rw[List.drop_eq_nil_of_le (by omega),List.drop_eq_nil_of_le (by omega)];rfl
theorem stepL_len (scheme:Bs) (path:List Bs) (p:Bs) (more:Bool):(stepL scheme path p more).length<=path.length+1:=by
 have hs:(shortP scheme path).length<=path.length:=by
  unfold shortP;split
  ·exact Nat.le_refl _
  ·simp
 rcases dotsP_cases (encodeP (setU 4) p)with h|h|h
 ·rw[stepL_dots0 _ _ _ _ h];simp
 ·rw[stepL_dots1 _ _ _ _ h];split<;>simp
 ·rw[stepL_dots2 _ _ _ _ h];split<;>simp<;>omega
theorem cutS_more_len {sp:Bool} {s:Bs} (h:(cutS sp s).2.2=true):(cutS sp s).1.length+(cutS sp s).2.1.length+1=s.length:=by
 cases hp:plQ (slashQ sp) s with
 | none=>rw[cutS_none hp]at h;cases h
 | some i=>
   have:=plQ_lt hp;rw[cutS_some hp]
   simp;omega
theorem slash_contains (sp:Bool):(if sp then([47,92]:Bs)else[47]).contains=slashQ sp:=by
 funext c
 cases sp<;>(rw[Bool.eq_iff_iff];simp[slashQ])
def spQ (c:UInt8):Bool:=decide (c<=32)
def pSp (x:Nat):Bool:=decide (x<=32)
theorem pSp_byte (c:UInt8):pSp c.toNat=spQ c:=by
 unfold pSp spQ;congr 1
theorem pSp_hi {x:Nat} (h:128<=x):pSp x=false:=by unfold pSp;rw[decide_eq_false];omega
theorem spQ_hi {c:UInt8} (h:128<=c.toNat):spQ c=false:=by rw[<-pSp_byte];exact pSp_hi h
theorem idx_sp (s:ByteArray):∀f pos,s.size<=pos+f->Lib.idxFuncFrom pSp false s f pos=if(s.data.toList.drop pos).all spQ then -1 else((pos+((s.data.toList.drop pos).takeWhile spQ).length:Nat):Int)
 | 0,pos,h=>by
   rw[List.drop_eq_nil_of_le (by show s.size<=pos;omega)];rfl
 | f+1,pos,h=>by
   rw[Lib.idxFuncFrom];by_cases hps:pos<s.size
   ·rw[if_pos hps]
    have hd:s.data.toList.drop pos=s[pos]::s.data.toList.drop (pos+1):=by
     rw[List.drop_eq_getElem_cons (show pos<s.data.toList.length from hps)];rfl
    rw[hd,List.all_cons];rcases Nat.lt_or_ge (s[pos]'hps).toNat 128 with h1|h1
    ·rw[decode_ascii s pos hps h1,pSp_byte];cases hq:spQ s[pos]with
     | false=>simp[hq]
     | true=>
       simp only[Bool.true_and,Bool.true_eq_false,if_false];rw[idx_sp s f (pos+1) (by omega)];split
       ·rfl
       ·rw[List.takeWhile_cons,hq];simp;omega
    ·rw[pSp_hi (rune_hi s pos hps h1),spQ_hi h1]
     simp[spQ_hi h1]
   ·rw[if_neg hps,List.drop_eq_nil_of_le (by show s.size<=pos;omega)];rfl
theorem drop_takeWhile (q:UInt8->Bool) (l:Bs):l.drop (l.takeWhile q).length=l.dropWhile q:=by
 induction l with
 | nil=>rfl
 | cons c r ih=>
   rw[List.takeWhile_cons,List.dropWhile_cons];split
   ·simpa using ih
   ·rfl
theorem all_dropWhile {q:UInt8->Bool} {l:Bs} (h:l.all q=true):l.dropWhile q=[]:=by
 induction l with
 | nil=>rfl
 | cons c r ih=>
   rw[List.all_cons,Bool.and_eq_true]at h;rw[List.dropWhile_cons,if_pos h.1];exact ih h.2
theorem trimLeft_sp (s:ByteArray):(Lib.trimLeftF pSp s).data.toList=s.data.toList.dropWhile spQ:=by
 unfold Lib.trimLeftF Lib.idxFunc;rw[idx_sp s s.size 0 (by omega),List.drop_zero];by_cases h:s.data.toList.all spQ=true
 ·rw[if_pos h,if_pos rfl,all_dropWhile h]
 ·rw[if_neg h,if_neg (by omega)];rw[Lib.extract_data,Nat.zero_add];rw[show((((s.data.toList.takeWhile spQ).length:Nat):Int)).toNat=(s.data.toList.takeWhile spQ).length from rfl,drop_takeWhile,List.take_of_length_le];rw[<-drop_takeWhile,List.length_drop];show s.size-_<=_;exact Nat.le_refl _
theorem dec_more {n n' b0 b1 b2 b3 c1 c2 c3:Nat} (h0:128<=b0) (hw:(Lib.decodeN n b0 b1 b2 b3).2=n) (hn:n<=n') (h1:1<n->c1=b1) (h2:2<n->c2=b2) (h3:3<n->c3=b3) (he:n=1->n'=1\/c1 / 64≠2):(Lib.decodeN n' b0 c1 c2 c3).2=n:=by
 rcases Lib.decodeN_shape n b0 b1 b2 b3 with⟨h,_⟩|⟨ha,hb,hc,hd,h⟩|⟨ha,hb,hc,hd,he1,hf,h⟩|⟨ha,hb,hc,hd,he1,hf,hg,h⟩|h
 ·omega
 ·rw[h]at hw;obtain rfl:n=2:=hw.symm;rw[h1 (by omega)];unfold Lib.decodeN;rw[if_neg (by omega),if_pos ⟨ha,by omega,hc⟩,if_pos hd]
 ·rw[h]at hw;obtain rfl:n=3:=hw.symm;rw[h1 (by omega),h2 (by omega)];unfold Lib.decodeN;rw[if_neg (by omega),if_neg (by omega),if_pos ⟨ha,⟨by omega,hc⟩,⟨by omega,hd⟩⟩,if_pos ⟨he1,by omega⟩]
 ·rw[h]at hw;obtain rfl:n=4:=hw.symm;rw[h1 (by omega),h2 (by omega),h3 (by omega)];unfold Lib.decodeN;rw[if_neg (by omega),if_neg (by omega),if_neg (by omega),if_pos ⟨ha,⟨by omega,hc⟩,⟨by omega,hd⟩,⟨by omega,he1⟩⟩,if_pos ⟨hf,by omega⟩]
 ·rw[h]at hw;obtain rfl:n=1:=hw.symm;have:=he rfl;unfold Lib.decodeN;rw[if_neg (by omega),if_neg (by omega),if_neg (by omega),if_neg (by omega)]
theorem dec_hi {n b0 b1 b2 b3:Nat} (h0:128<=b0):128<=(Lib.decodeN n b0 b1 b2 b3).1:=by
 rcases Lib.decodeN_shape n b0 b1 b2 b3 with⟨h,_⟩|⟨ha,hb,hc,hd,h⟩|⟨ha,hb,hc,hd,he1,hf,h⟩|⟨ha,hb,hc,hd,he1,hf,hg,h⟩|h
 ·omega
 ·rw[h];exact hd
 ·rw[h];show 128<=_;omega
 ·rw[h];show 128<=_;omega
 ·rw[h];show 128<=65533;omega
theorem get_nat' (s:ByteArray) (j:Nat) (h:j<s.size):s.get! j=s[j]'h:=by
 show s.data[j]! =_;rw[getElem!_pos s.data j h];rfl
theorem last_dec (s:ByteArray) (i:Nat) (hi0:0<i) (hi:i<=s.size) (hhi:128<=(s[i-1]'(by omega)).toNat) (hend:∀h:i<s.size,(s[i]'h).toNat<=32):
  128<=(Lib.decodeLastL (s.data.toList.take i)).1/\(Lib.decodeLastL (s.data.toList.take i)).2<=i/\(Utf8.decode s (i-(Lib.decodeLastL (s.data.toList.take i)).2)).2=(Lib.decodeLastL (s.data.toList.take i)).2:=by
 obtain⟨t,ht⟩:∃t:ByteArray,t=s.extract 0 i:=⟨_,rfl⟩;have htd:t.data.toList=s.data.toList.take i:=by rw[ht,Lib.extract_data];rfl
 have htz:t.size=i:=by
  show t.data.toList.length=i;rw[htd,List.length_take];show min i s.size=i;omega
 have hg:∀j,j<i->t.get! j=s.get! j:=fun j hj=>by rw[ht,Go.Proofs.get!_extract' s 0 i j (by omega) hi,Nat.zero_add]
 have hlast:(s.get! (i-1)).toNat=(s[i-1]'(by omega)).toNat:=by rw[get_nat' s (i-1) (by omega)]
 have hone:(Utf8.decode s (i-1)).2=1:=by
  rw[Lib.decode_at,show i-1+1=i by omega];refine dec_more (n:=1) (n':=s.size-(i-1)) (b1:=0) (b2:=0) (b3:=0) (by omega) ?_ (by omega) (by omega) (by omega) (by omega) (fun _=>?_)
  ·rcases Lib.decodeN_shape 1 (s.get! (i-1)).toNat 0 0 0 with⟨h,_⟩|⟨_,h,_⟩|⟨_,h,_⟩|⟨_,h,_⟩|h
   ·omega
   ·omega
   ·omega
   ·omega
   ·rw[h]
  ·by_cases h:i<s.size
   ·right;have:=hend h;rw[get_nat' s i h];omega
   ·left;omega
 rw[<-htd,Lib.decodeLastL_eq t (by omega) (by rw[htz,hg (i-1) (by omega),hlast];exact hhi)]
 have hls:=Lib.lastStart_lt t.data.toList (fun h=>by
  have h0:t.data.toList.length=0:=by rw[h];rfl
  have h1:t.data.toList.length=i:=htz;omega)
 have hls':Lib.lastStart t.data.toList<i:=by rw[<-htz];exact hls
 unfold Lib.lastOf;obtain⟨k,hk⟩:∃k,k=Lib.lastStart t.data.toList:=⟨_,rfl⟩;rw[<-hk]at hls'⊢
 have hgo:Lib.decodeGo (t.extract k t.size)=Utf8.decode t k:=by
  unfold Lib.decodeGo;rw[if_neg (by rw[ByteArray.size_extract];omega),Lib.tail_decode];rfl
 rw[hgo,htz];by_cases he:k+(Utf8.decode t k).2=i
 ·rw[if_pos he]
  have hd:Utf8.decode t k=Lib.decodeN (i-k) (s.get! k).toNat (t.get! (k+1)).toNat (t.get! (k+2)).toNat (t.get! (k+3)).toNat:=by
   rw[Lib.decode_at,htz,hg k hls']
  have hb0:128<=(s.get! k).toNat:=by
   rcases Nat.lt_or_ge (s.get! k).toNat 128 with h|h
   ·exfalso
    have h1:(Utf8.decode t k).2=1:=by
     rw[hd];unfold Lib.decodeN;rw[if_pos h]
    have:k=i-1:=by omega
    rw[this]at h;omega
   ·exact h
  refine⟨by rw[hd];exact dec_hi hb0,by omega,?_⟩;rw[show i-(Utf8.decode t k).2=k by omega,Lib.decode_at s k];have hw:(Lib.decodeN (i-k) (s.get! k).toNat (t.get! (k+1)).toNat (t.get! (k+2)).toNat (t.get! (k+3)).toNat).2=i-k:=by rw[<-hd];omega
  rw[dec_more hb0 hw (by omega) (fun h=>by rw[hg (k+1) (by omega)]) (fun h=>by rw[hg (k+2) (by omega)]) (fun h=>by rw[hg (k+3) (by omega)]) (fun h=>by
   by_cases h2:i<s.size
   ·right;have:=hend h2;rw[show k+1=i by omega,get_nat' s i h2];omega
   ·left;omega)]
  omega
 ·rw[if_neg he];exact⟨by show 128<=Utf8.runeError;decide,by show 1<=i;omega,by show(Utf8.decode s (i-1)).2=1;exact hone⟩
def lenR (l:Bs) (i:Nat):Nat:=((l.take i).reverse.dropWhile spQ).length
theorem lenR_succ {l:Bs} {i:Nat} {b:UInt8} (h:l[i]? =some b):lenR l (i+1)=if spQ b then lenR l i else i+1:=by
 obtain⟨hi,he⟩:=List.getElem?_eq_some_iff.1 h;unfold lenR;rw[List.take_succ_eq_append_getElem hi,he,List.reverse_append,List.reverse_singleton,List.singleton_append,List.dropWhile_cons];split
 ·rfl
 ·simp;omega
theorem right_sp (s:ByteArray):∀f i,i<=f->i<=s.size->(∀j,i<=j->∀h:j<s.size,(s[j]'h).toNat<=32)->
  (if 0<=Lib.lastIdxFuncFrom pSp false s f i then(Lib.lastIdxFuncFrom pSp false s f i).toNat+(Utf8.decode s (Lib.lastIdxFuncFrom pSp false s f i).toNat).2 else 0)=lenR s.data.toList i
 | 0,i,hf,hi,_=>by
   obtain rfl:i=0:=by omega
   rfl
 | f+1,i,hf,hi,ht=>by
   cases i with
   | zero=>rw[Lib.lastIdxFuncFrom];rfl
   | succ m=>
     have hm:m<s.size:=by omega
     have hstep:Lib.lastIdxFuncFrom pSp false s (f+1) (m+1)=if pSp (Lib.decodeLastL (s.data.toList.take (m+1))).1=false then(((m+1)-(Lib.decodeLastL (s.data.toList.take (m+1))).2:Nat):Int)else Lib.lastIdxFuncFrom pSp false s f ((m+1)-(Lib.decodeLastL (s.data.toList.take (m+1))).2):=by
      rw[Lib.lastIdxFuncFrom,if_pos (Nat.succ_pos m)]
     rw[hstep]
     have hcg:s.data.toList[m]? =some (s[m]'hm):=by
      rw[List.getElem?_eq_getElem (show m<s.data.toList.length from hm)];rfl
     rw[lenR_succ hcg];rcases Nat.lt_or_ge (s[m]'hm).toNat 128 with h1|h1
     ·have hd:Lib.decodeLastL (s.data.toList.take (m+1))=((s[m]'hm).toNat,1):=by
       obtain⟨hml,hme⟩:=List.getElem?_eq_some_iff.1 hcg;rw[List.take_succ_eq_append_getElem hml,hme];exact Lib.decodeLastL_ascii _ _ h1
      rw[hd,pSp_byte];cases hq:spQ (s[m]'hm)with
      | false=>
        simp only[if_true,Bool.false_eq_true,if_false];rw[show m+1-1=m by omega,if_pos (by omega),show((m:Int)).toNat=m from rfl,decode_ascii s m hm h1]
      | true=>
        simp only[Bool.true_eq_false,if_false,if_true];rw[show m+1-1=m by omega];refine right_sp s f m (by omega) (by omega) fun j hj hjl=>?_;rcases Nat.eq_or_lt_of_le hj with e|e
        ·subst e;have:spQ (s[m]'hm)=true:=hq;unfold spQ at this;have h2:=of_decide_eq_true this;exact h2
        ·exact ht j e hjl
     ·obtain⟨hd1,hd2,hd3⟩:=last_dec s (m+1) (by omega) hi (by simpa using h1) (fun h=>ht (m+1) (Nat.le_refl _) h);rw[pSp_hi hd1,spQ_hi h1];simp only[if_true,Bool.false_eq_true,if_false];rw[if_pos (by omega),Int.toNat_natCast,hd3];omega
theorem last_lt (s:ByteArray):∀f i,i<=s.size->Lib.lastIdxFuncFrom pSp false s f i<0\/Lib.lastIdxFuncFrom pSp false s f i<s.size
 | 0,_,_=>.inl (by rw[Lib.lastIdxFuncFrom];omega)
 | f+1,i,hi=>by
   rw[Lib.lastIdxFuncFrom];by_cases h:0<i
   ·rw[if_pos h];have hw:=(Lib.decodeLastL_width (s.data.toList.take i) (by rw[List.length_take];show 0<min i s.size;omega)).1;split
    ·right;omega
    ·exact last_lt s f _ (by omega)
   ·rw[if_neg h];left;omega
theorem trimRight_sp (s:ByteArray):(Lib.trimRightF pSp s).data.toList=(s.data.toList.reverse.dropWhile spQ).reverse:=by
 have h:=right_sp s s.size s.size (Nat.le_refl _) (Nat.le_refl _) (fun j hj hjl=>by omega)
 have hend:Lib.rightEndF pSp s=lenR s.data.toList s.size:=by
  rw[<-h];unfold Lib.rightEndF Lib.lastIdxFunc;split
  ·rename_i h0;have hlt:=last_lt s s.size s.size (Nat.le_refl _);congr 1;unfold Lib.decodeGoB;by_cases hz:(s.extract (Lib.lastIdxFuncFrom pSp false s s.size s.size).toNat s.size).size=0
   ·exfalso
    rw[ByteArray.size_extract]at hz;omega
   ·rw[if_neg hz,Lib.tail_decode];rfl
  ·rfl
 unfold Lib.trimRightF;rw[hend,Lib.extract_data];show(s.data.toList.drop 0).take (lenR s.data.toList s.size-0)=_;unfold lenR;rw[show s.data.toList.take s.size=s.data.toList from List.take_of_length_le (Nat.le_refl _),List.drop_zero,Nat.sub_zero]
 have hp:(s.data.toList.reverse.dropWhile spQ).reverse<+:s.data.toList:=by
  have:=(List.dropWhile_suffix spQ (l:=s.data.toList.reverse)).reverse
  rwa [List.reverse_reverse]at this
 have:=List.prefix_iff_eq_take.1 hp;rw[List.length_reverse]at this;exact this.symm
theorem trim_sp (s:ByteArray):(Lib.trimF pSp s).data.toList=((s.data.toList.dropWhile spQ).reverse.dropWhile spQ).reverse:=by
 unfold Lib.trimF;rw[trimRight_sp,trimLeft_sp]
end Lz
namespace Go.Proofs.YtjhccadmmnjpeaaGreatDoor
open Go.RowKit
theorem text_is (s:ByteArray) (k:List UInt8):(s.toList==k)=decide (s.data.toList=k):=by
 rw[Lib.toList_data,Bool.eq_iff_iff];simp
theorem text_yes {s:ByteArray} {k:List UInt8} (h:s.data.toList=k):(s.toList==k)=true:=(text_is s k).trans (decide_eq_true h)
theorem text_no {s:ByteArray} {k:List UInt8} (h:¬s.data.toList=k):(s.toList==k)=false:=(text_is s k).trans (decide_eq_false h)
theorem Default_any (s:ByteArray) (w:World):Calls Tryz.prog 175 #[.string s] w fun e w'=>e=.returned (.int .i64 (Lz.defP s.data.toList))/\w=w':=by
 by_cases h0:s.data.toList=[104,116,116,112]
 ·have g0:=text_yes h0;have HV:Hid (Lz.defP s.data.toList=80):=by show _=_;rw[h0];rfl
  clear h0;go_enter Tryz.func175,Tryz.ntmps175
  go_wp2_with fail
  go_ret;rw[HV.out];exact⟨rfl,rfl⟩
 ·have g0:=text_no h0;by_cases h1:s.data.toList=[119,115]
  ·have g1:=text_yes h1;have HV:Hid (Lz.defP s.data.toList=80):=by show _=_;rw[h1];rfl
   clear h0 h1;go_enter Tryz.func175,Tryz.ntmps175
   go_wp2_with fail
   go_ret;rw[HV.out];exact⟨rfl,rfl⟩
  ·have g1:=text_no h1;by_cases h2:s.data.toList=[104,116,116,112,115]
   ·have g2:=text_yes h2;have HV:Hid (Lz.defP s.data.toList=443):=by show _=_;rw[h2];rfl
    clear h0 h1 h2;go_enter Tryz.func175,Tryz.ntmps175
    go_wp2_with fail
    go_ret;rw[HV.out];exact⟨rfl,rfl⟩
   ·have g2:=text_no h2;by_cases h3:s.data.toList=[119,115,115]
    ·have g3:=text_yes h3;have HV:Hid (Lz.defP s.data.toList=443):=by show _=_;rw[h3];rfl
     clear h0 h1 h2 h3;go_enter Tryz.func175,Tryz.ntmps175
     go_wp2_with fail
     go_ret;rw[HV.out];exact⟨rfl,rfl⟩
    ·have g3:=text_no h3;by_cases h4:s.data.toList=[102,116,112]
     ·have g4:=text_yes h4;have HV:Hid (Lz.defP s.data.toList=21):=by show _=_;rw[h4];rfl
      clear h0 h1 h2 h3 h4;go_enter Tryz.func175,Tryz.ntmps175
      go_wp2_with fail
      go_ret;rw[HV.out];exact⟨rfl,rfl⟩
     ·have g4:=text_no h4
      have HV:Hid (Lz.defP s.data.toList= -1):=by
       show _=_;unfold Lz.defP;rw[if_neg (fun h=>h.elim h0 h1),if_neg (fun h=>h.elim h2 h3),if_neg (show ¬s.data.toList=Lz.ftpS from h4)]
      clear h0 h1 h2 h3 h4;go_enter Tryz.func175,Tryz.ntmps175
      go_wp2_with fail
      go_ret;rw[HV.out];exact⟨rfl,rfl⟩
theorem Special_any (s:ByteArray) (w:World):Calls Tryz.prog 155 #[.string s] w fun e w'=>e=.returned (.bool (Lz.specP s.data.toList))/\w=w':=by
 by_cases h0:s.data.toList=[102,105,108,101]
 ·have g0:=text_yes h0;have HV:Hid (Lz.specP s.data.toList=true):=by show _=_;rw[h0];rfl
  clear h0;go_enter Tryz.func155,Tryz.ntmps155
  go_wp2_with fail
  go_ret;rw[HV.out];exact⟨rfl,rfl⟩
 ·have g0:=text_no h0;have cD:=Default_any s w;obtain⟨d,hd⟩:∃d,d=Lz.defP s.data.toList:=⟨_,rfl⟩
  have HV:Hid (Lz.specP s.data.toList= !(d== -1)):=by
   show _=_;unfold Lz.specP;have:(s.data.toList==Lz.fileS)=false:=by rw[beq_eq_false_iff_ne];exact h0
   rw[this,Bool.false_or,hd]
  rw[<-hd]at cD;have CD:=Ih cD;have hne:(d != -1)= !(d== -1):=rfl;clear h0 cD hd;go_enter Tryz.func155,Tryz.ntmps155
  go_wp2_with fail
  refine CD.out.mono ?_;rintro e w1 ⟨rfl,rfl⟩
  go_wp2_with fail
  go_ret;rw[HV.out];exact⟨by first |rfl|rw[hne],rfl⟩
def intO:Option Nat->Int
 | some n=>n
 | none=> -1
theorem beqU (a b:UInt8):((a.toNat:Int)==(b.toNat:Int))=(a==b):=beqI a b
theorem two_of {s:ByteArray} (h:s.size=2):s.data.toList=[s[0],s[1]]:=by
 have h0:=get_of_lt (s:=s) (n:=0) (by omega);have h1:=get_of_lt (s:=s) (n:=1) (by omega);have hl:s.data.toList.length=2:=h;generalize s.data.toList=l at h0 h1 hl
 match l,hl with
 | [a,b],_=>
   have e0:a=s[0]:=by simpa using h0
   have e1:b=s[1]:=by simpa using h1
   rw[e0,e1]
theorem drive_any (s:ByteArray) (w:World):Calls Tryz.prog 159 #[.string s] w fun e w'=>e=.returned (.bool (Lz.driveP s.data.toList))/\w=w':=by
 by_cases h2:s.size=2
 ·have h2I:((s.size:Int)==2)=true:=by simp;omega
  have hp0:0<s.size:=by omega
  have hp1:1<s.size:=by omega
  have hp0I:(0:Int)<(s.size:Int):=by omega
  have hp1I:(1:Int)<(s.size:Int):=by omega
  have hl:=two_of h2;obtain⟨a,ha⟩:∃a,a=s[0]:=⟨_,rfl⟩;obtain⟨b,hb⟩:∃b,b=s[1]:=⟨_,rfl⟩;have haI:(s[0].toNat:Int)=(a.toNat:Int):=by rw[ha]
  have hbI:(s[1].toNat:Int)=(b.toNat:Int):=by rw[hb]
  rw[<-ha,<-hb]at hl;have HV:Hid (Lz.driveP s.data.toList=(Lz.isAlpha a&&(b==58||b==124))):=by show _=_;rw[hl];rfl
  have cA:=Alpha_any a w;have b1:((b.toNat:Int)==58)=(b==58):=beqU b 58;have b2:((b.toNat:Int)==124)=(b==124):=beqU b 124;generalize Lz.isAlpha a=p at cA HV;generalize (b==58)=q at b1 HV;generalize (b==124)=r at b2 HV;have CA:=Ih cA;have H2:=Ih h2;clear hl ha hb cA h2;cases p
  ·go_enter Tryz.func159,Tryz.ntmps159
   go_wp2_with fail
   refine CA.out.mono ?_;rintro e w1 ⟨rfl,rfl⟩
   go_wp2_with fail
   go_ret;rw[HV.out];exact⟨rfl,rfl⟩
  ·cases q
   ·go_enter Tryz.func159,Tryz.ntmps159
    go_wp2_with fail
    refine CA.out.mono ?_;rintro e w1 ⟨rfl,rfl⟩
    go_wp2_with fail
    go_ret;rw[HV.out];exact⟨by cases r<;>first |rfl|(rw[b2];rfl),rfl⟩
   ·go_enter Tryz.func159,Tryz.ntmps159
    go_wp2_with fail
    refine CA.out.mono ?_;rintro e w1 ⟨rfl,rfl⟩
    go_wp2_with fail
    go_ret;rw[HV.out];exact⟨rfl,rfl⟩
 ·have h2I:((s.size:Int)==2)=false:=by simp;omega
  have HV:Hid (Lz.driveP s.data.toList=false):=by
   show _=_;have hl:s.data.toList.length≠2:=h2;generalize s.data.toList=l at hl
   match l,hl with
   | [],_=>rfl
   | [_],_=>rfl
   | [_,_],hl=>exact absurd rfl hl
   | _::_::_::_,_=>rfl
  go_enter Tryz.func159,Tryz.ntmps159
  go_wp2_with fail
  go_ret;rw[HV.out];exact⟨rfl,rfl⟩
theorem colon_any (s:ByteArray) (hs:s.size<=1048576) (w:World):Calls Tryz.prog 211 #[.string s] w fun e w'=>e=.returned (.int .i64 (intO (Lz.colonP false s.data.toList)))/\w=w':=by
 obtain⟨o,ho⟩:∃o,o=Lz.colonP false s.data.toList:=⟨_,rfl⟩;have Ho:=Ih ho;rw[<-ho];clear ho;go_enter Tryz.func211,Tryz.ntmps211
 go_wp2_with fail
 go_loopw [3,7] (fun i k wr=>∃(b:Bool) (j:Nat),i=.bool b/\k=.int .i64 j/\j<=s.size/\Hid (o=(Lz.colonP b (s.data.toList.drop j)).map (·+j))/\w=wr) (fun _ k _=>s.size-(intOf k).toNat)
 case atStart=>exact⟨false,0,rfl,rfl,Nat.zero_le _,by show _=_;rw[Ho.out,List.drop_zero];simp,rfl⟩
 case round=>
  obtain⟨b,j,rfl,rfl,hj,hO,rfl⟩:=hrel;by_cases hlt:j<s.size
  ·have hltI:(j:Int)<(s.size:Int):=by omega
   have hj0:(0:Int)<=(j:Int):=by omega
   obtain⟨c,hc⟩:∃c,c=s[j]:=⟨_,rfl⟩;have hcI:(s[j].toNat:Int)=(c.toNat:Int):=by rw[hc]
   have hst:Hid (o=(if c==91 then(Lz.colonP true (s.data.toList.drop (j+1))).map (·+1)else if c==93 then(Lz.colonP false (s.data.toList.drop (j+1))).map (·+1)else if c==58&& !b then some 0 else(Lz.colonP b (s.data.toList.drop (j+1))).map (·+1)).map (·+j)):=by
    show _=_;rw[hO.out,List.drop_eq_getElem_cons (show j<s.data.toList.length from hlt),Lz.colonP,hc];rfl
   have hmm:∀x:Option Nat,(x.map (·+1)).map (·+j)=x.map (·+(j+1)):=by
    intro x;cases x with
    | none=>rfl
    | some n=>simp;omega
   have b1:((c.toNat:Int)==91)=(c==91):=beqU c 91;have b2:((c.toNat:Int)==93)=(c==93):=beqU c 93;have b3:((c.toNat:Int)==58)=(c==58):=beqU c 58;generalize (c==91)=q1 at b1 hst;generalize (c==93)=q2 at b2 hst;generalize (c==58)=q3 at b3 hst;have Hmm:=Ih hmm;clear hc hO hmm;cases q1
   ·cases q2
    ·cases q3
     ·have HN:Hid (o=(Lz.colonP b (s.data.toList.drop (j+1))).map (·+(j+1))):=by show _=_;rw[hst.out,<-Hmm.out];rfl
      go_wp2_with fail
      go_roundw
      case rel=>exact⟨b,j+1,rfl,by go_num,by omega,HN,trivial⟩
      case measure=>simp[intOf];omega
     ·cases b
      ·have HN:Hid (o=some j):=by show _=_;rw[hst.out];simp
       go_wp2_with fail
       go_ret;rw[HN.out];exact⟨rfl,rfl⟩
      ·have HN:Hid (o=(Lz.colonP true (s.data.toList.drop (j+1))).map (·+(j+1))):=by show _=_;rw[hst.out,<-Hmm.out];rfl
       go_wp2_with fail
       go_roundw
       case rel=>exact⟨true,j+1,rfl,by go_num,by omega,HN,trivial⟩
       case measure=>simp[intOf];omega
    ·have HN:Hid (o=(Lz.colonP false (s.data.toList.drop (j+1))).map (·+(j+1))):=by show _=_;rw[hst.out,<-Hmm.out];rfl
     go_wp2_with fail
     go_roundw
     case rel=>exact⟨false,j+1,rfl,by go_num,by omega,HN,trivial⟩
     case measure=>simp[intOf];omega
   ·have HN:Hid (o=(Lz.colonP true (s.data.toList.drop (j+1))).map (·+(j+1))):=by show _=_;rw[hst.out,<-Hmm.out];rfl
    go_wp2_with fail
    go_roundw
    case rel=>exact⟨true,j+1,rfl,by go_num,by omega,HN,trivial⟩
    case measure=>simp[intOf];omega
  ·have hltI:¬(j:Int)<(s.size:Int):=by omega
   have HN:Hid (o=none):=by
    show _=_;rw[hO.out,List.drop_eq_nil_of_le (show s.data.toList.length<=j by rw[len_of_size];omega)];rfl
   go_wp2_with fail
   go_ret;rw[HN.out];exact⟨rfl,rfl⟩
theorem extract_head2 (s:ByteArray) (k:Nat):(s.extract 0 k).data.toList=s.data.toList.take k:=by
 rw[Lib.extract_data];rfl
theorem driven_short {l:List UInt8} (h:l.length<2):Lz.drivenP l=false:=by
 match l,h with
 | [],_=>rfl
 | [_],_=>rfl
theorem driven_two {l:List UInt8} (h:l.length=2):Lz.drivenP l=Lz.driveP (l.take 2):=by
 match l,h with
 | [_,_],_=>rfl
theorem driven_more {l:List UInt8} {c:UInt8} (h:l[2]? =some c):Lz.drivenP l=(Lz.driveP (l.take 2)&&(c==47||c==92)):=by
 match l,h with
 | a::b::d::r,h=>
   have:d=c:=by simpa using h
   rw[<-this];rfl
theorem driven_any (s:ByteArray) (w:World):Calls Tryz.prog 161 #[.string s] w fun e w'=>e=.returned (.bool (Lz.drivenP s.data.toList))/\w=w':=by
 by_cases h2:2<=s.size
 ·have h2I:(2:Int)<=(s.size:Int):=by omega
  have cD:=drive_any (s.extract 0 2) w;rw[extract_head2]at cD;obtain⟨q,hq⟩:∃q,q=Lz.driveP (s.data.toList.take 2):=⟨_,rfl⟩;rw[<-hq]at cD;have CD:=Ih cD;clear cD;by_cases he:s.size=2
  ·have heI:((s.size:Int)==2)=true:=by simp;omega
   have HV:Hid (Lz.drivenP s.data.toList=q):=by show _=_;rw[driven_two (show s.data.toList.length=2 from he),hq]
   have He:=Ih he;clear he hq;cases q
   ·go_enter Tryz.func161,Tryz.ntmps161
    go_wp2_with fail
    refine CD.out.mono ?_;rintro e w1 ⟨rfl,rfl⟩
    go_wp2_with fail
    go_ret;rw[HV.out];exact⟨rfl,rfl⟩
   ·go_enter Tryz.func161,Tryz.ntmps161
    go_wp2_with fail
    refine CD.out.mono ?_;rintro e w1 ⟨rfl,rfl⟩
    go_wp2_with fail
    go_ret;rw[HV.out];exact⟨rfl,rfl⟩
  ·have heI:((s.size:Int)==2)=false:=by simp;omega
   have hp2:2<s.size:=by omega
   have hp2I:(2:Int)<(s.size:Int):=by omega
   obtain⟨c,hc⟩:∃c,c=s[2]:=⟨_,rfl⟩;have hcI:(s[2].toNat:Int)=(c.toNat:Int):=by rw[hc]
   have HV:Hid (Lz.drivenP s.data.toList=(q&&(c==47||c==92))):=by show _=_;rw[driven_more (c:=c) (by rw[get_of_lt hp2,hc]),hq]
   have b1:((c.toNat:Int)==47)=(c==47):=beqU c 47;have b2:((c.toNat:Int)==92)=(c==92):=beqU c 92;generalize (c==47)=p1 at b1 HV;generalize (c==92)=p2 at b2 HV;clear hq hc he;cases q
   ·go_enter Tryz.func161,Tryz.ntmps161
    go_wp2_with fail
    refine CD.out.mono ?_;rintro e w1 ⟨rfl,rfl⟩
    go_wp2_with fail
    go_ret;rw[HV.out];exact⟨rfl,rfl⟩
   ·cases p1
    ·go_enter Tryz.func161,Tryz.ntmps161
     go_wp2_with fail
     refine CD.out.mono ?_;rintro e w1 ⟨rfl,rfl⟩
     go_wp2_with fail
     go_ret;rw[HV.out];exact⟨by cases p2<;>first |rfl|(rw[b2];rfl),rfl⟩
    ·go_enter Tryz.func161,Tryz.ntmps161
     go_wp2_with fail
     refine CD.out.mono ?_;rintro e w1 ⟨rfl,rfl⟩
     go_wp2_with fail
     go_ret;rw[HV.out];exact⟨rfl,rfl⟩
 ·have h2I:¬(2:Int)<=(s.size:Int):=by omega
  have HV:Hid (Lz.drivenP s.data.toList=false):=by show _=_;rw[driven_short (show s.data.toList.length<2 by rw[len_of_size];omega)]
  go_enter Tryz.func161,Tryz.ntmps161
  go_wp2_with fail
  go_ret;rw[HV.out];exact⟨rfl,rfl⟩
def PathAt (w:World) (v:Value) (l:List (List UInt8)):Prop:=
 ∃(a:Option Addr) (c:Nat) (xs:List ByteArray),v=.slice a xs.length c/\xs.map (fun x:ByteArray=>x.data.toList)=l/\∀(j:Nat) (x:ByteArray),xs[j]? =some x->∃B off,a=some ⟨B,off,none⟩/\B<w.heap.size/\w.cell? ⟨B,off+j,none⟩=some (.string x)
theorem PathAt.below {w w':World} {v:Value} {l:List (List UInt8)} (h:PathAt w v l) (hb:Below w.heap.size w w'):PathAt w' v l:=by
 obtain⟨a,c,xs,h1,h2,h3⟩:=h;refine⟨a,c,xs,h1,h2,fun j x hj=>?_⟩;obtain⟨B,off,e1,e2,e3⟩:=h3 j x hj;exact⟨B,off,e1,Nat.lt_of_lt_of_le e2 hb.size,by rw[hb.cell (p:=⟨B,off+j,none⟩) e2];exact e3⟩
theorem drive_size {l:List UInt8} (h:Lz.driveP l=true):l.length=2:=by
 match l,h with
 | [_,_],_=>rfl
theorem rooted_any (v:Value) (l:List (List UInt8)) (w:World) (h:PathAt w v l):Calls Tryz.prog 162 #[v] w fun e w'=>e=.returned (.bool (Lz.rootedP l))/\w=w':=by
 obtain⟨a,c,xs,rfl,rfl,hx⟩:=h;cases xs with
 | nil=>
   go_enter Tryz.func162,Tryz.ntmps162
   go_wp2_with fail
   go_ret;exact⟨rfl,rfl⟩
 | cons x r=>
   obtain⟨B,off,rfl,hB,hc⟩:=hx 0 x rfl;rw[Nat.add_zero]at hc;have hl0:(0:Int)<((x::r).length:Int):=by rw[List.length_cons];omega
   have hl1:(0:Int)<(r.length:Int)+1:=by omega
   have cD:=drive_any x w;have HV:Hid (Lz.rootedP ((x::r).map fun x:ByteArray=>x.data.toList)=(Lz.driveP x.data.toList&&(x.data.toList[1]? ==some 58))):=rfl;cases hq:Lz.driveP x.data.toList with
   | false=>
     rw[hq]at cD;have HV2:Hid (Lz.rootedP ((x::r).map fun x:ByteArray=>x.data.toList)=false):=by show _=_;rw[HV.out,hq];rfl
     have CD:=Ih cD;clear cD hq hx;go_enter Tryz.func162,Tryz.ntmps162
     go_wp2_with fail
     refine CD.out.mono ?_;rintro e w1 ⟨rfl,rfl⟩
     go_wp2_with fail
     go_ret;rw[HV2.out];exact⟨rfl,rfl⟩
   | true=>
     rw[hq]at cD;have hz:x.size=2:=drive_size hq;have hp1:1<x.size:=by omega
     have hp1I:(1:Int)<(x.size:Int):=by omega
     obtain⟨d,hd⟩:∃d,d=x[1]:=⟨_,rfl⟩;have hdI:(x[1].toNat:Int)=(d.toNat:Int):=by rw[hd]
     have b1:((d.toNat:Int)==58)=(d==58):=beqU d 58
     have HV2:Hid (Lz.rootedP ((x::r).map fun x:ByteArray=>x.data.toList)=(d==58)):=by
      show _=_;rw[HV.out,hq,get_of_lt hp1,<-hd];rfl
     have CD:=Ih cD;have Hz:=Ih hz;clear cD hq hx hd hz;go_enter Tryz.func162,Tryz.ntmps162
     go_wp2_with fail
     refine CD.out.mono ?_;rintro e w1 ⟨rfl,rfl⟩
     go_wp2_with fail
     go_ret;rw[HV2.out];exact⟨by first |rfl|rw[b1]|(rw[<-b1];rfl),rfl⟩
theorem mk_set {B M:Nat} {w:World} {x:MkV} {sp:Bool} {sl:ByteArray} (h:MkAt B M w x sp sl) (k:Nat) (v:Value) (x':MkV) (sp':Bool) (sl':ByteArray)
  (hc:(#[.string x.sch,.string x.usr,.string x.pas,.bool x.hh,.string x.hst,.int .i64 x.prt,.bool x.opq,x.pv,.bool x.hq,.bool x.hf,.string x.qry,.string x.frg,.bool sp,.string sl]:Array Value).setIfInBounds k v= #[.string x'.sch,.string x'.usr,.string x'.pas,.bool x'.hh,.string x'.hst,.int .i64 x'.prt,.bool x'.opq,x'.pv,.bool x'.hq,.bool x'.hf,.string x'.qry,.string x'.frg,.bool sp',.string sl'])
  (ho:∀w',PathOwn w' B x.pv x.xs->(PathOwn w' B x'.pv x'.xs)):MkAt B M (w.setCell ⟨M,k,none⟩ v) x' sp' sl':=
 ⟨rowSet h.row k v hc,ho _ (h.own.setCell h.row maker_ne k v),h.le⟩
theorem as_any (B M:Nat) (x:MkV) (sp:Bool) (sl s:ByteArray) (w:World) (hm:MkAt B M w x sp sl):
  Calls Tryz.prog 102 #[.pointer (some ⟨M,0,none⟩),.string s] w fun e w'=>e=.returned (.tuple #[])/\Below B w w'/\MkAt B M w' {x with sch:=s} (Lz.specP s.data.toList) (slashB (Lz.specP s.data.toList)):=by
 obtain⟨sch,usr,pas,hh,hst,prt,opq,pv,xs,hq,hf,qry,frg⟩:=x;have hle:=hm.le;have cS:=Ih (fun W=>Special_any s W);obtain⟨q,hq'⟩:∃q,q=Lz.specP s.data.toList:=⟨_,rfl⟩;rw[<-hq']at cS⊢;clear hq';have m1:=mk_set hm 0 (.string s) {sch:=s,usr:=usr,pas:=pas,hh:=hh,hst:=hst,prt:=prt,opq:=opq,pv:=pv,xs:=xs,hq:=hq,hf:=hf,qry:=qry,frg:=frg} sp sl (by simp) (fun _ h=>h);have m2:=mk_set m1 12 (.bool q) {sch:=s,usr:=usr,pas:=pas,hh:=hh,hst:=hst,prt:=prt,opq:=opq,pv:=pv,xs:=xs,hq:=hq,hf:=hf,qry:=qry,frg:=frg} q sl (by simp) (fun _ h=>h);have m3:=mk_set m2 13 (.string ⟨#[47]⟩) {sch:=s,usr:=usr,pas:=pas,hh:=hh,hst:=hst,prt:=prt,opq:=opq,pv:=pv,xs:=xs,hq:=hq,hf:=hf,qry:=qry,frg:=frg} q ⟨#[47]⟩ (by simp) (fun _ h=>h);have m4:=mk_set m3 13 (.string ⟨#[47,92]⟩) {sch:=s,usr:=usr,pas:=pas,hh:=hh,hst:=hst,prt:=prt,opq:=opq,pv:=pv,xs:=xs,hq:=hq,hf:=hf,qry:=qry,frg:=frg} q ⟨#[47,92]⟩ (by simp) (fun _ h=>h);have b3:Below B w (((w.setCell ⟨M,0,none⟩ (.string s)).setCell ⟨M,12,none⟩ (.bool q)).setCell ⟨M,13,none⟩ (.string ⟨#[47]⟩)):=(((Below.refl B w).setCell (p:=⟨M,0,none⟩) hle _).setCell (p:=⟨M,12,none⟩) hle _).setCell (p:=⟨M,13,none⟩) hle _;have b4:=b3.setCell (p:=⟨M,13,none⟩) hle (.string ⟨#[47,92]⟩)
 have c0:=rowAt hm.row 0 (.string sch) rfl;have f0:=rowFz hm.row 0;have c12:=rowAt hm.row 12 (.bool sp) rfl;have f12:=rowFz hm.row 12;have c13:=rowAt hm.row 13 (.string sl) rfl;have f13:=rowFz hm.row 13;have e12:=rowAt m3.row 12 (.bool q) rfl;have M3:=Ih m3;have M4:=Ih m4;have B3:=Ih b3;have B4:=Ih b4;clear m1 m2 m3 m4 b3 b4 hm;cases q
 ·go_enter Tryz.func102,Tryz.ntmps102
  go_wp2_with fail
  refine(cS.out _).mono ?_;rintro e w1 ⟨rfl,rfl⟩
  go_wp2_with fail
  go_end0
  exact⟨rfl,B3.out,M3.out⟩
 ·go_enter Tryz.func102,Tryz.ntmps102
  go_wp2_with fail
  refine(cS.out _).mono ?_;rintro e w1 ⟨rfl,rfl⟩
  go_wp2_with fail
  go_end0
  exact⟨rfl,B4.out,M4.out⟩
theorem shortP_nil (s:List UInt8):Lz.shortP s []=[]:=by unfold Lz.shortP;split<;>rfl
theorem shortP_drop {s:List UInt8} {l:List (List UInt8)} (h:¬(s=Lz.fileS/\l.length=1/\Lz.rootedP l=true)):Lz.shortP s l=l.dropLast:=by unfold Lz.shortP;rw[if_neg h]
theorem short_done {B M:Nat} {w:World} {sch usr pas:ByteArray} {hh:Bool} {hst:ByteArray} {prt:Int} {opq:Bool} {a:Option Addr} {k c:Nat} {xs:List ByteArray} {hq hf:Bool} {qry frg:ByteArray} {sp:Bool} {sl:ByteArray}
  (hm:MkAt B M w ⟨sch,usr,pas,hh,hst,prt,opq,.slice a (k+1) c,xs,hq,hf,qry,frg⟩ sp sl) (hn:xs.length=k+1):
  Below B w (w.setCell ⟨M,7,none⟩ (.slice a k k))/\MkAt B M (w.setCell ⟨M,7,none⟩ (.slice a k k)) ⟨sch,usr,pas,hh,hst,prt,opq,.slice a k k,xs.dropLast,hq,hf,qry,frg⟩ sp sl:=
 ⟨(Below.refl B w).setCell (p:=⟨M,7,none⟩) hm.le _,mk_set hm 7 (.slice a k k) ⟨sch,usr,pas,hh,hst,prt,opq,.slice a k k,xs.dropLast,hq,hf,qry,frg⟩ sp sl (by simp) (fun _ h=>h.pop (by show 1<=xs.length;omega))⟩
theorem map_dropLast (xs:List ByteArray):xs.dropLast.map (fun x:ByteArray=>x.data.toList)=(xs.map (fun x:ByteArray=>x.data.toList)).dropLast:=by rw[List.map_dropLast]
theorem shorten_any (B M:Nat) (u:Lz.UrlL) (w:World) (hm:MkIs B M w u) (hl:u.path.length<=1000000000):
  Calls Tryz.prog 157 #[.pointer (some ⟨M,0,none⟩)] w (RMk B M {u with path:=Lz.shortP u.scheme u.path} w):=by
 obtain⟨sch,usr,pas,hh,hst,prt,opq,a,c,xs,hq,hf,qry,frg,hk,rfl,hc,hcells⟩:=hm.form;have hm0:=hm;have hlx:xs.length<=1000000000:=by simpa using hl
 have c7:=rowAt hk.row 7 (.slice a xs.length c) rfl;have c0:=rowAt hk.row 0 (.string sch) rfl;have f7:=rowFz hk.row 7;have hpa:PathAt w (.slice a xs.length c) (xs.map (fun x:ByteArray=>x.data.toList)):=⟨a,c,xs,rfl,rfl,hcells⟩;have cR:=rooted_any _ _ w hpa;obtain⟨n,hn⟩:∃n,n=xs.length:=⟨_,rfl⟩;rw[<-hn]at c7 cR hc hlx hk;clear hcells hl hpa;cases n with
 | zero=>
   have hx:xs=[]:=List.length_eq_zero_iff.1 hn.symm;subst hx
   have HF:Hid (MkIs B M w ⟨sch.data.toList,usr.data.toList,pas.data.toList,hh,hst.data.toList,prt,opq,Lz.shortP sch.data.toList [],hq,hf,qry.data.toList,frg.data.toList⟩):=by
    rw[shortP_nil];exact hm0
   clear hm hm0 hk cR hn;go_enter Tryz.func157,Tryz.ntmps157
   go_wp2_with fail
   go_end0
   exact⟨rfl,Below.refl _ _,HF.out⟩
 | succ k=>
   have hk0:(0:Int)<(((k+1:Nat)):Int):=by omega
   have hsd:=short_done hk hn.symm
   have HD:Hid ((¬(sch.data.toList=Lz.fileS/\k=0/\Lz.rootedP (xs.map (fun x:ByteArray=>x.data.toList))=true))->RMk B M ⟨sch.data.toList,usr.data.toList,pas.data.toList,hh,hst.data.toList,prt,opq,Lz.shortP sch.data.toList (xs.map (fun x:ByteArray=>x.data.toList)),hq,hf,qry.data.toList,frg.data.toList⟩ w (.returned (.tuple #[])) (w.setCell ⟨M,7,none⟩ (.slice a k k))):=by
    intro hno;refine⟨rfl,hsd.1,_,hsd.2,Ih ?_⟩;rw[shortP_drop (by rw[List.length_map,<-hn];intro h;exact hno ⟨h.1,by omega,h.2.2⟩),<-map_dropLast];rfl
   have hks:((k+1:Nat):Int)-1=(k:Int):=by omega
   have hkb:k<=1000000000:=by omega
   have hkc:k<=c:=by omega
   by_cases hf0:sch.data.toList=Lz.fileS
   ·have g0:=text_yes (k:=[102,105,108,101]) hf0;by_cases hk1:k=0
    ·subst hk1;cases hr:Lz.rootedP (xs.map (fun x:ByteArray=>x.data.toList))with
     | true=>
       have HF:Hid (MkIs B M w ⟨sch.data.toList,usr.data.toList,pas.data.toList,hh,hst.data.toList,prt,opq,Lz.shortP sch.data.toList (xs.map (fun x:ByteArray=>x.data.toList)),hq,hf,qry.data.toList,frg.data.toList⟩):=by
        have:Lz.shortP sch.data.toList (xs.map (fun x:ByteArray=>x.data.toList))=xs.map (fun x:ByteArray=>x.data.toList):=by unfold Lz.shortP;rw[if_pos ⟨hf0,by rw[List.length_map,<-hn],hr⟩]
        rw[this];exact hm0
       rw[hr]at cR;have CR:=Ih cR;clear hm hm0 hk cR hn hsd hr hf0;go_enter Tryz.func157,Tryz.ntmps157
       go_wp2_with fail
       refine CR.out.mono ?_;rintro e w1 ⟨rfl,rfl⟩
       go_wp2_with fail
       go_end0
       exact⟨rfl,Below.refl _ _,HF.out⟩
     | false=>
       rw[hr]at cR;have HE:=Ih (HD.out (fun h=>by rw[hr]at h;exact absurd h.2.2 (by simp)));have CR:=Ih cR;clear hm hm0 hk cR hn hsd hr hf0;go_enter Tryz.func157,Tryz.ntmps157
       go_wp2_with fail
       refine CR.out.mono ?_;rintro e w1 ⟨rfl,rfl⟩
       go_wp2_with fail
       go_end0
       exact HE.out
    ·have hk2:(1:Int)<(((k+1:Nat)):Int):=by omega
     have hk3:(1:Int)<(k:Int)+1:=by omega
     have HE:=Ih (HD.out (fun h=>hk1 h.2.1));clear hm hm0 hk cR hn hsd hf0;go_enter Tryz.func157,Tryz.ntmps157
     go_wp2_with fail
     go_end0
     exact HE.out
   ·have g0:=text_no (k:=[102,105,108,101]) hf0;have HE:=Ih (HD.out (fun h=>hf0 h.1));clear hm hm0 hk cR hn hsd hf0;go_enter Tryz.func157,Tryz.ntmps157
    go_wp2_with fail
    go_end0
    exact HE.out
theorem EnvH.at {B:Nat} {w w':World} (h:EnvH w) (hb:Below B w w') (hB:13<=B):EnvH w':=by
 have hz:=h.size;have hc:∀b o,b<13->w'.cell? ⟨b,o,none⟩=w.cell? ⟨b,o,none⟩:=fun b o hlt=>hb.cell (p:=⟨b,o,none⟩) (by show b<_;omega);obtain⟨h1,h2,h3,h4,h5,h6,h7,h8⟩:=h;refine⟨?_,?_,?_,?_,?_,?_,?_,Nat.le_trans hz hb.size⟩
 ·obtain⟨m,hm⟩:=h1;exact⟨m,by rw[hc _ _ (by decide)];exact hm⟩
 ·exact var?_below hb gPow (by have:8<13:=by decide
                               omega) h2
 ·obtain⟨a,b,hm⟩:=h3;exact⟨a,b,by rw[hc _ _ (by decide)];exact hm⟩
 ·obtain⟨a,b,hm⟩:=h4;exact⟨a,b,by rw[hc _ _ (by decide)];exact hm⟩
 ·rw[hc _ _ (by decide)];exact h5
 ·rw[hc _ _ (by decide)];exact h6
 ·rw[hc _ _ (by decide)];exact h7
theorem dots_any (s:ByteArray) (hs:s.size<=1000000000) (w:World) (hE:EnvH w):Calls Tryz.prog 170 #[.string s] w (RInt (Lz.dotsP s.data.toList:Nat) w):=by
 have cL:=Ih (fun W=>Lower_c s (by omega) W);go_enter Tryz.func170,Tryz.ntmps170
 go_wp2_with fail
 refine(cL.out _).mono ?_;rintro e w1 ⟨u,rfl,hu,hb1⟩;have hus:u.size=s.size:=by rw[<-len_of_size,hu.out,low_length,len_of_size]
 obtain⟨m,hm⟩:=(hE.below hb1).ml
 have cR:=Tryz.strings_ReplaceAll u ⟨#[37,50,101]⟩ ⟨#[46]⟩ m w1 (by omega) hm (by decide) (by
  have:=Lib.countB_le ⟨#[37,50,101]⟩ (by decide) u.size u (Nat.le_refl _);have h1:(⟨#[46]⟩:ByteArray).size=1:=rfl;rw[h1];omega)
 have hrep:Lib.replaceAll u.data.toList (⟨#[37,50,101]⟩:ByteArray).data.toList (⟨#[46]⟩:ByteArray).data.toList=Lz.unE (Lz.low s.data.toList):=by
  rw[hu.out];exact Lz.replace_unE _
 rw[hrep]at cR;have CR:=Ih cR;obtain⟨r,hr⟩:∃r:ByteArray,r=⟨(Lz.unE (Lz.low s.data.toList)).toArray⟩:=⟨_,rfl⟩;have hrd:r.data.toList=Lz.unE (Lz.low s.data.toList):=by rw[hr]
 rw[<-hr]at CR;clear cR hrep hr hm;by_cases h1:r.data.toList=[46]
 ·have g1:=text_yes h1;have hz:r.size=1:=by rw[<-len_of_size,h1];rfl
  have HV:Hid (Lz.dotsP s.data.toList=1):=by show _=_;unfold Lz.dotsP;rw[<-hrd,if_pos h1]
  clear hrd h1
  go_wp2_with fail
  refine CR.out.mono ?_;rintro e w2 ⟨rfl,hb2⟩
  go_wp2_with fail
  go_ret;rw[HV.out];exact⟨by first |rfl|(rw[hz];rfl),below_call hb1 hb2⟩
 ·have g1:=text_no h1;by_cases h2:r.data.toList=[46,46]
  ·have g2:=text_yes h2;have hz:r.size=2:=by rw[<-len_of_size,h2];rfl
   have HV:Hid (Lz.dotsP s.data.toList=2):=by show _=_;unfold Lz.dotsP;rw[<-hrd,if_neg h1,if_pos h2]
   clear hrd h1 h2
   go_wp2_with fail
   refine CR.out.mono ?_;rintro e w2 ⟨rfl,hb2⟩
   go_wp2_with fail
   go_ret;rw[HV.out];exact⟨by first |rfl|(rw[hz];rfl),below_call hb1 hb2⟩
  ·have g2:=text_no h2;have HV:Hid (Lz.dotsP s.data.toList=0):=by show _=_;unfold Lz.dotsP;rw[<-hrd,if_neg h1,if_neg h2]
   clear hrd h1 h2
   go_wp2_with fail
   refine CR.out.mono ?_;rintro e w2 ⟨rfl,hb2⟩
   go_wp2_with fail
   go_ret;rw[HV.out];exact⟨rfl,below_call hb1 hb2⟩
theorem app_mid {B M:Nat} {w w5:World} {x:MkV} {sp:Bool} {sl:ByteArray} {o:Obj} {row:Option Nat} (hm:MkAt B M w x sp sl) (hB:B<=w.heap.size) (hg:(w.alloc o).grownBy w5 row)
  (hr:RowOk B (w.alloc o) row):
  Below B w w5/\w5.heap[M]? =some (.cells #[.string x.sch,.string x.usr,.string x.pas,.bool x.hh,.string x.hst,.int .i64 x.prt,.bool x.opq,x.pv,.bool x.hq,.bool x.hf,.string x.qry,.string x.frg,.bool sp,.string sl] 91 (0,0)):=
 ⟨below_grownP ((Below.refl B w).alloc hB o) hg (by simp;omega) hr,row_grownP (by rw[Below.heap_alloc w o M (row_lt hm.row)];exact hm.row) hg hr⟩
theorem app_done {B M:Nat} {w w5:World} {sch usr pas:ByteArray} {hh:Bool} {hst:ByteArray} {prt:Int} {opq:Bool} {pv:Value} {xs:List ByteArray} {hq hf:Bool} {qry frg:ByteArray} {sp:Bool} {sl:ByteArray} {v':Value} {p:ByteArray}
  (hb:Below B w w5) (hM:w5.heap[M]? =some (.cells #[.string sch,.string usr,.string pas,.bool hh,.string hst,.int .i64 prt,.bool opq,pv,.bool hq,.bool hf,.string qry,.string frg,.bool sp,.string sl] 91 (0,0)))
  (hle:B<=M) (hown:PathOwn w5 B v' (xs++[p])):
  Below B w (w5.setCell ⟨M,7,none⟩ v')/\MkAt B M (w5.setCell ⟨M,7,none⟩ v') ⟨sch,usr,pas,hh,hst,prt,opq,v',xs++[p],hq,hf,qry,frg⟩ sp sl:=
 ⟨hb.setCell (p:=⟨M,7,none⟩) hle _,⟨rowSet hM 7 v' (by simp),hown.setCell hM maker_ne 7 v',hle⟩⟩
end Go.Proofs.YtjhccadmmnjpeaaGreatDoor
namespace Lz
open Go
theorem bind_path {r:UR} {f:UrlL->UR} {u v:UrlL} (hr:∀x,r=.ok x->x.path=u.path/\x.scheme=u.scheme) (hf:∀x y,f x=.ok y->y.path=x.path/\y.scheme=x.scheme) (h:r.bind f=.ok v):v.path=u.path/\v.scheme=u.scheme:=by
 cases r with
 | er n=>cases h
 | ok x=>exact⟨((hf x v h).1).trans (hr x rfl).1,((hf x v h).2).trans (hr x rfl).2⟩
theorem hostU_path {u v:UrlL} {s:Bs} (h:hostU u s=.ok v):v.path=u.path/\v.scheme=u.scheme:=by
 unfold hostU at h;split at h
 ·cases h
 ·injection h with h;subst h;exact⟨rfl,rfl⟩
theorem portU_path {u v:UrlL} {s:Bs} (h:portU u s=.ok v):v.path=u.path/\v.scheme=u.scheme:=by
 unfold portU at h;split at h
 ·cases h
 ·split at h
  ·cases h
  ·split at h<;>(injection h with h;subst h;exact⟨rfl,rfl⟩)
theorem placeU_path {u v:UrlL} {s:Bs} (h:placeU u s=.ok v):v.path=u.path/\v.scheme=u.scheme:=by
 unfold placeU at h;split at h
 ·split at h
  ·cases h
  ·exact bind_path (fun x hx=>hostU_path hx) (fun x y hy=>portU_path hy) h
 ·split at h
  ·cases h
  ·exact bind_path (fun x hx=>hostU_path hx) (fun x y hy=>portU_path hy) h
theorem authU_path {u v:UrlL} {s:Bs} (h:authU u s=.ok v):v.path=u.path/\v.scheme=u.scheme:=by
 unfold authU at h;split at h
 ·split at h
  ·cases h
  ·exact⟨(placeU_path h).1,(placeU_path h).2⟩
 ·exact placeU_path h
end Lz
namespace Go.Proofs.YtjhccadmmnjpeaaGreatDoor
open Go.RowKit
theorem disableO (w:World):(callFunc 260 #[]).run Tryz.prog w=.ok (.value (.tuple #[])) w:=run_call_mark0 Tryz.func260 (by kernel_rfl) (by kernel_rfl) (by kernel_rfl) .disable (by kernel_rfl) w
theorem enableO (w:World):(callFunc 262 #[]).run Tryz.prog w=.ok (.value (.tuple #[])) w:=run_call_mark0 Tryz.func262 (by kernel_rfl) (by kernel_rfl) (by kernel_rfl) .enable (by kernel_rfl) w
theorem acquireO (a:Addr) (w:World):(callFunc 263 #[.pointer (some a)]).run Tryz.prog w=.ok (.value (.tuple #[])) w:=run_call_marked Tryz.func263 (by kernel_rfl) (by kernel_rfl) (by kernel_rfl) .acquire (by kernel_rfl) a w
theorem releaseO (a:Addr) (w:World):(callFunc 265 #[.pointer (some a)]).run Tryz.prog w=.ok (.value (.tuple #[])) w:=run_call_marked Tryz.func265 (by kernel_rfl) (by kernel_rfl) (by kernel_rfl) .releaseMerge (by kernel_rfl) a w
theorem storeO (a:Addr) (x:Value) (u:FrameMode) (w:World) (hc:w.cell? a=some x) (hz:w.frozen? a=false):
  CallsD Tryz.prog 195 #[.pointer (some a),.bool true] u w fun e u' w'=>u'=u/\(e=.returned (.tuple #[])/\w'=w.drew.setCell a (.int .u32 1)):=by
 have hc':w.drew.cell? a=some x:=by go_simp
 have hz':w.drew.frozen? a=false:=by go_simp
 have hst:=run_call_store (P:=Tryz.prog) Tryz.func234 (by kernel_rfl) (by kernel_rfl) (by kernel_rfl) (by kernel_rfl) (k:=.u32) (y:=1) hc' hz'
 go_enter_d Tryz.func195,Tryz.ntmps195
 go_wp2
 go_region_calls
 all_goals (go_end0;exact⟨rfl,rfl⟩)
theorem unlockO (a:Addr) (u:FrameMode) (w:World) (hc:w.cell? a=some (.int .i32 1)) (hz:w.frozen? a=false):
  CallsD Tryz.prog 194 #[.pointer (some a)] u w fun e u' w'=>u'=u/\(e=.returned (.tuple #[])/\w'=w.setCell a (.int .i32 0)):=by
 have hd:=disableO;have he:=enableO;have hr:=releaseO;have hadd:=run_call_add (P:=Tryz.prog) Tryz.func266 (by kernel_rfl) (by kernel_rfl) (by kernel_rfl) .i32 (by kernel_rfl) (y:= -1) (s:=0) hc hz (by simp[go_sem];rfl);have hcv:=run_convert_to_unsafe (P:=Tryz.prog) (src:=279) (dst:=159) Tryz.underlying279 Tryz.underlying159 (by kernel_rfl) hc
 go_enter_d Tryz.func194,Tryz.ntmps194
 go_wp2
 go_end0
 go_wp2
 go_end0
 exact⟨rfl,rfl⟩
theorem lockO (a:Addr) (w:World) (hc:w.cell? a=some (.int .i32 0)) (hz:w.frozen? a=false):
  Calls Tryz.prog 193 #[.pointer (some a)] w fun e w'=>e=.returned (.tuple #[])/\w'=w.setCell a (.int .i32 1):=by
 have hd:=disableO;have he:=enableO;have ha:=acquireO;have hcas:=run_call_cas_hit (P:=Tryz.prog) Tryz.func261 (by kernel_rfl) (by kernel_rfl) (by kernel_rfl) .i32 (by kernel_rfl) (y:=1) hc hz;have hc':(w.setCell a (.int .i32 1)).cell? a=some (.int .i32 1):=World.cell?_setCell_same w a _ hc;have hcv:=run_convert_to_unsafe (P:=Tryz.prog) (src:=279) (dst:=159) Tryz.underlying279 Tryz.underlying159 (by kernel_rfl) hc';go_enter Tryz.func193,Tryz.ntmps193
 go_wp2
 first |go_end0|(simp only[Exit.inBlock,Exit.then];refine bodyPost_ret (results_none rfl _ _ _) rfl ?_)|refine bodyPost_ret (results_none rfl _ _ _) rfl ?_
 go_wp2
 go_end0
 exact⟨rfl,rfl⟩
structure BsRep (w:World) (g:Nat):Prop where
 row:∃cs:Array Value,w.heap[g]? =some (.cells cs 231 (0,0))/\(∀k:Nat,k<256->(if k=9\/k=10\/k=13 then ∃A c,cs[k]? =some (.slice (some A) 0 c)else cs[k]? =some (.slice none 0 0)))/\
  ∃G c cs2,cs[256]? =some (.slice (some ⟨G,0,none⟩) 3 c)/\w.heap[G]? =some (.cells cs2 9 (0,0))/\cs2[0]? =some (.string ⟨#[13]⟩)/\cs2[1]? =some (.string ⟨#[10]⟩)/\cs2[2]? =some (.string ⟨#[9]⟩)
theorem BsRep.kept {w w':World} {g:Nat} (h:BsRep w g) (hk:∀(k:Nat) (cs:Array Value) (t:TypeId),w.heap[k]? =some (.cells cs t (0,0))->t=231\/t=9->w'.heap[k]? =w.heap[k]?):BsRep w' g:=by
 obtain⟨cs,h1,h2,G,c,cs2,h3,h4,h5⟩:=h.row;exact⟨cs,by rw[hk g cs _ h1 (.inl rfl)];exact h1,h2,G,c,cs2,h3,by rw[hk G cs2 _ h4 (.inr rfl)];exact h4,h5⟩
def RepRow (w:World) (b:Nat) (d s e:Int) (rv ov:Value):Prop:=w.heap[b]? =some (.cells #[.int .u32 d,.int .i32 s,.int .u32 e,rv,ov] 120 (0,0))
theorem BsRep.set {w:World} {g b:Nat} {d s e:Int} {rv ov:Value} (h:BsRep w g) (hr:RepRow w b d s e rv ov) (k:Nat) (v:Value):BsRep (w.setCell ⟨b,k,none⟩ v) g:=
 h.kept fun j _ _ hj ht=>setCell_other (fun e=>by
  have e':j=b:=e;rw[e',show w.heap[b]? =_ from hr]at hj;injection hj with hj
  injection hj with _ h2 _
  rcases ht with ht|ht<;>(rw[ht]at h2;exact absurd h2 (by decide))) v
theorem BsRep.below {w w':World} {g:Nat} (h:BsRep w g) (hb:Below w.heap.size w w'):BsRep w' g:=h.kept fun j _ _ hj _=>hb.block j (row_lt hj)
theorem RepRow.set {w:World} {b:Nat} {d s e:Int} {rv ov:Value} (h:RepRow w b d s e rv ov) (k:Nat) (v:Value) {d' s':Int} {rv' ov':Value} (hc:(#[.int .u32 d,.int .i32 s,.int .u32 e,rv,ov]:Array Value).setIfInBounds k v= #[.int .u32 d',.int .i32 s',.int .u32 e,rv',ov']):RepRow (w.setCell ⟨b,k,none⟩ v) b d' s' e rv' ov':=rowSet h k v hc
def RBuilt1 (B b:Nat) (d s e:Int) (w:World) (w':World):Prop:=Below B w w'/\∃g,RepRow w' b d s e (.iface 232 (.pointer (some ⟨g,0,none⟩))) (.slice none 0 0)/\BsRep w' g
theorem slowO (B b:Nat) (e:Int) (rv ov:Value) (w:World) (hBb:B<=b) (hrow:RepRow w b 0 0 e rv ov)
  (cB:∀W,Below B w W->W=w.setCell ⟨b,1,none⟩ (.int .i32 1)->Calls Tryz.prog 81 #[.pointer (some ⟨b,0,none⟩)] W fun e' W'=>e'=.returned (.tuple #[])/\RBuilt1 B b 0 1 e W W'):
  Calls Tryz.prog 130 #[.pointer (some ⟨b,0,none⟩),.func (.func 81) #[.pointer (some ⟨b,0,none⟩)] #[]] w fun e' w'=>e'=.returned (.tuple #[])/\RBuilt1 B b 1 0 e w w':=by
 have c0:=rowAt hrow 0 (.int .u32 0) rfl;have c1:=rowAt hrow 1 (.int .i32 0) rfl;have f0:=rowFz hrow 0;have f1:=rowFz hrow 1;have hl:=run_call_load (P:=Tryz.prog) Tryz.func192 (by kernel_rfl) (by kernel_rfl) (by kernel_rfl) .u32 (by kernel_rfl) (w:=w.setCell ⟨b,1,none⟩ (.int .i32 1)) (a:=⟨b,0,none⟩) (x:=0) ((World.cell?_setCell_other _ ⟨b,1,none⟩ ⟨b,0,none⟩ _ (by simp)).trans c0);have hnot:∀(x:Bool) (w:World),(Op.unary .not (.bool x)).run Tryz.prog w=.ok (.bool (!x)) w:=fun _ _=>rfl;have hb1:Below B w (w.setCell ⟨b,1,none⟩ (.int .i32 1)):=(Below.refl B w).setCell (p:=⟨b,1,none⟩) hBb _;have CB:=Ih (cB _ hb1 rfl);have Hb1:=Ih hb1;clear cB hb1
 go_enter_defers Tryz.func130,Tryz.ntmps130
 go_wp2_with (first |(go_at_call 193;refine(lockO ⟨b,1,none⟩ _ (by go_simp) (by go_simp)).mono ?_;rintro e w' ⟨rfl,rfl⟩)|(go_at_call 129;go_in)|(go_at_call 81;refine CB.out.mono ?_;rintro e2 w2 ⟨rfl,hw2⟩))
 obtain⟨hbw,g,hr2,hbs⟩:=hw2;have d0:=rowAt hr2 0 (.int .u32 0) rfl;have d1:=rowAt hr2 1 (.int .i32 1) rfl;have z0:=rowFz hr2 0;have z1:=rowFz hr2 1;have hr3:RepRow (w2.drew.setCell ⟨b,0,none⟩ (.int .u32 1)) b 1 1 e (.iface 232 (.pointer (some ⟨g,0,none⟩))) (.slice none 0 0):=RepRow.set (w:=w2.drew) hr2 0 (.int .u32 1) (by simp);have hbs3:BsRep (w2.drew.setCell ⟨b,0,none⟩ (.int .u32 1)) g:=BsRep.set (w:=w2.drew) (hbs.kept fun _ _ _ _ _=>rfl) hr2 0 _;have hr4:=RepRow.set hr3 1 (.int .i32 0) (d':=1) (s':=0) (rv':=.iface 232 (.pointer (some ⟨g,0,none⟩))) (ov':=.slice none 0 0) (by simp);have hbs4:=BsRep.set hbs3 hr3 1 (.int .i32 0);refine leaves_cons (f:=195) (args:= #[.pointer (some ⟨b,0,none⟩),.bool true]) (by simp) (by simp[go_sem]) ?_;refine(storeO ⟨b,0,none⟩ (.int .u32 0) .returning _ d0 z0).mono ?_;rintro e3 u3 w3 ⟨rfl,rfl,rfl⟩;refine leaves_cons (f:=194) (args:= #[.pointer (some ⟨b,1,none⟩)]) (by simp[settle]) (by simp[go_sem]) ?_;refine(unlockO ⟨b,1,none⟩ _ _ (rowAt hr3 1 _ rfl) (rowFz hr3 1)).mono ?_;rintro e3 u3 w3 ⟨rfl,rfl,rfl⟩
 have hB4:Below B w ((w2.drew.setCell ⟨b,0,none⟩ (.int .u32 1)).setCell ⟨b,1,none⟩ (.int .i32 0)):=((Hb1.out.trans hbw).drew.setCell (p:=⟨b,0,none⟩) hBb _).setCell (p:=⟨b,1,none⟩) hBb _;have HF:Hid (RBuilt1 B b 1 0 e w ((w2.drew.setCell ⟨b,0,none⟩ (.int .u32 1)).setCell ⟨b,1,none⟩ (.int .i32 0))):=⟨hB4,g,hr4,hbs4⟩;clear hr2 hr3 hr4 hbs hbs3 hbs4 hB4
 simp[Leaves,settle,results,Tryz.results130]
 exact HF.out
theorem doO (B b:Nat) (e:Int) (rv ov:Value) (w:World) (hBb:B<=b) (hrow:RepRow w b 0 0 e rv ov)
  (cB:∀W,Below B w W->W=w.setCell ⟨b,1,none⟩ (.int .i32 1)->Calls Tryz.prog 81 #[.pointer (some ⟨b,0,none⟩)] W fun e' W'=>e'=.returned (.tuple #[])/\RBuilt1 B b 0 1 e W W'):
  Calls Tryz.prog 80 #[.pointer (some ⟨b,0,none⟩),.func (.func 81) #[.pointer (some ⟨b,0,none⟩)] #[]] w fun e' w'=>e'=.returned (.tuple #[])/\RBuilt1 B b 1 0 e w w':=by
 have c0:=rowAt hrow 0 (.int .u32 0) rfl;have hl:=run_call_load (P:=Tryz.prog) Tryz.func192 (by kernel_rfl) (by kernel_rfl) (by kernel_rfl) .u32 (by kernel_rfl) c0;have hnot:∀(x:Bool) (w:World),(Op.unary .not (.bool x)).run Tryz.prog w=.ok (.bool (!x)) w:=fun _ _=>rfl;have cS:=Ih (slowO B b e rv ov w hBb hrow cB);clear cB;go_enter Tryz.func80,Tryz.ntmps80
 go_wp2_with (first |(go_at_call 130;refine cS.out.mono ?_;rintro e w' ⟨rfl,hw2⟩)|(go_at_call 129;go_in))
 go_end0
 exact⟨rfl,hw2⟩
end Go.Proofs.YtjhccadmmnjpeaaGreatDoor
namespace Go.Proofs
open Go.Shelf
def Tryz.lays138_ren:Go.Shelf.Ren:=⟨fun|138=>274|195=>304|218=>305|143=>275|219=>147|217=>171|225=>201|224=>202|267=>203|266=>215|314=>238|n=>n,fun|9=>9|3=>3|4=>4|5=>5|0=>0|46=>74|146=>264|51=>73|n=>n,fun|1=>5|n=>n⟩
theorem Tryz.lays138:Go.Proofs.Lays.n138 Tryz.prog Tryz.lays138_ren:=by repeat' first |kernel_rfl|(intro w;rfl)|(intro w;kernel_rfl)|decide|constructor
open Go.RowKit Go.Lib in
theorem Tryz.strings_Count_one (s:ByteArray) (c:UInt8) (w:World):
 Calls Tryz.prog 274 #[.string s,.string ⟨#[c]⟩] w fun e w'=>e=.returned (.int .i64 (Lib.countByte s.data.toList c))/\w'=w:=Any.strings_Count_one Tryz.lays138 s c w
end Go.Proofs
namespace Go.Proofs.YtjhccadmmnjpeaaGreatDoor
open Go.RowKit
theorem Count_c (s:ByteArray) (c:UInt8) (w:World):Calls Tryz.prog 274 #[.string s,.string ⟨#[c]⟩] w fun e w'=>e=.returned (.int .i64 ((s.data.toList.count c:Nat):Int))/\w=w':=
 (Tryz.strings_Count_one s c w).mono fun _ _ ⟨h1,h2⟩=>⟨h1,h2.symm⟩
end Go.Proofs.YtjhccadmmnjpeaaGreatDoor
namespace Lz
open Go
theorem main_parts {s:Bs} {b:Option UrlL} {v:UrlL} (hv:mainU {query:=(Lib.cut (Lib.cut (cleanP s) [35]).1 [63]).2.1,hasQuery:=(Lib.cut (Lib.cut (cleanP s) [35]).1 [63]).2.2,fragment:=(Lib.cut (cleanP s) [35]).2.1,hasFragment:=(Lib.cut (cleanP s) [35]).2.2} (Lib.cut (Lib.cut (cleanP s) [35]).1 [63]).1 b=.ok v)
  (hb:∀x,b=some x->NU x):v.query.length<=s.length+bq b/\v.fragment.length<=s.length:=by
 have hc:=clean_len s;have f:=cut_len 35 (cleanP s);have q:=cut_len 63 (Lib.cut (cleanP s) [35]).1;have f':=cut_facts 35 (cleanP s);have q':=cut_facts 63 (Lib.cut (cleanP s) [35]).1;have hl:= @clean_last s;generalize Lib.cut (cleanP s) [35]=F at hv f q f' q';generalize Lib.cut F.1 [63]=G at hv q q';obtain⟨f1,f2,f3,_⟩:=f';obtain⟨q1,q2,q3,_⟩:=q';obtain⟨h1,h2⟩:=mainU_all hv ⟨rfl,rfl,rfl,rfl,rfl,rfl,rfl⟩ hb
 have hfr:v.fragment=F.2.1:=(mainU_form hv ⟨rfl,rfl,rfl,rfl,rfl,rfl,rfl⟩ (fun h=>f1 (q3 _ h)) q1
  (fun h1 h2 h=>by
   have e1:=(q2 h1).1;have e2:=(f2 h2).1;rw[e1,e2]at h;have:=hl h;cases this)
  (fun h=>(q2 h).2) hb).2.2.2
 refine⟨?_,by rw[hfr];omega⟩;rcases h2 with h2|⟨x,rfl,h3,h4⟩
 ·have h2':v.query=G.2.1:=h2;rw[h2'];omega
 ·rw[h4];show x.query.length<=_+wq x;unfold wq;omega
theorem path_wq (u:UrlL):u.path.length<=wq u:=by
 have h:∀l:List Bs,l.length<=pl l:=by
  intro l
  induction l with
  | nil=>simp
  | cons p r ih=>
    have h1:=pl_app [p] r;rw[pl_one]at h1;rw[show p::r=[p]++r from rfl,h1]
    simp;omega
 have:=h u.path;unfold wq wt;omega
end Lz
