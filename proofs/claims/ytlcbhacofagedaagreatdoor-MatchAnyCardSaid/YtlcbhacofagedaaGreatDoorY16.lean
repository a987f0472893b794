/-
  Plain laws: a document's own URLs, those of other hosts, ports and schemes. No condition.
-/
import Derived.Test.YtlcbhacofagedaaGreatDoorY15
set_option maxHeartbeats 4000000
set_option maxRecDepth 100000
namespace Lz
open Go
def iw (s:Bs):List Bs:=if s=iy then[iK]else if s=wsS then[Bz,iy,iK]else if s=Bz then[iK]else[]
def eo (p u:Bs):Bool:=p==u||(iw p).contains u
def yN (s:Bs):Bool:=s==iy||s==iK
def yk:Bs:=[49,50,55,46,48,46,48,46,49]
def uH:Bs:=[115,101,108,102]
def AO:Bs:=[39,110,111,110,101,39]
def gN:Bs:=[110,117,108,108]
def rX (x:Src) (name:Bs):Bool:=
 if x.wild then x.host==[]||Lib.hasSuffix name (46::x.host)
 else if x.host != yk&&ipP x.host then false else x.host==name
def kv (u:af):Int:=if 0<=u.port then u.port else dr u.scheme
def tN (x:Src) (u:af):Bool:=if x.port= -2 then true else if x.port= -1 then decide (u.port<0)||u.port==dr u.scheme else x.port==kv u
def mj (p u:Bs):Bool:=
 if p=[]\/(p=[47]/\u=[])then true
 else if Lib.hasSuffix p [47]=true/\(ag 47 p).length<=(ag 47 u).length then(ag 47 p).dropLast.map an==((ag 47 u).take ((ag 47 p).length-1)).map an
 else(ag 47 p).map an==(ag 47 u).map an
def ew (u:af):Bs:=if u.opq then u.path.flatten else u.path.flatMap fun p=>47::p
def j0 (u:af) (x:Src) (own:af) (red:Bool):Bool:=
 u.hasHost&&(u.host != []&&(eo (if x.scheme=[]then own.scheme else x.scheme) u.scheme&&(rX x u.host&&(tN x u&&(red||mj x.path (ew u))))))
def uq (u own:af):Bool:=u.port==own.port||(kv u==dr u.scheme&&kv own==dr own.scheme)
def uk (u own:af):Bool:=u.scheme==iK||(u.scheme==Bz||(own.scheme==iy&&u.scheme==wsS))
def oa (u own:af):Bool:=
 (bT own != gN&&bT own==bT u)||(u.hasHost&&(own.hasHost&&(u.host==own.host&&(uq u own&&uk u own))))
def lJ:Src:=⟨3,[],0,[],[],true,-1,[]⟩
def jr (u:af) (x:Src) (own:af) (red:Bool):Bool:=
 if x.kind=1 then x.text==uH&&oa u own
 else if x.kind=2 then eo x.scheme u.scheme
 else if x.kind=3 then(if x=lJ then yN u.scheme||u.scheme==own.scheme else j0 u x own red)
 else false
def mq (l:List Bs):Bool:=l.isEmpty||(l.length==1&&low (l.headD [])==AO)
def dW (l:List Bs):List Src:=l.filterMap bR
def anyM (u:af) (l:List Bs) (own:af) (red:Bool):Bool:= !mq l&&(dW l).any fun x=>jr u x own red
def fU (s v:Bs):Bool:=
 match du [104,116,116,112,115,58,47,47,97,46,98,47] none,du s none with
 | .ok own,.ok u=>anyM u [v] own false
 | _,_=>false
theorem nE {s:Bs} {b:Option af} {n:Nat} (e:du s b=.er n):n=3\/n=2\/n=70\/n=71\/n=72\/n=81\/n=82:=by
 unfold du at e;split at e
 ·injection e with e;omega
 ·cases b with
  | none=>have:=rz e;omega
  | some x=>
    simp only at e;split at e
    ·have:=rz e;omega
    ·injection e with e;omega
def qfU (t:Bs) (u:af):af:={u with query:=(Lib.cut (Lib.cut t [35]).1 [63]).2.1,hasQuery:=(Lib.cut (Lib.cut t [35]).1 [63]).2.2,fragment:=(Lib.cut t [35]).2.1,hasFragment:=(Lib.cut t [35]).2.2}
def mpU (t:Bs):Bs:=(Lib.cut (Lib.cut t [35]).1 [63]).1
theorem gH (k:UInt8):Lib.cut [] [k]=([],[],false):=by unfold Lib.cut;rfl
theorem mf (k:UInt8) (t:Bs):Lib.cut (k::t) [k]=([],t,true):=by
 have:=fi k (k::t);obtain⟨h1,h2,h3,h4⟩:=this;generalize Lib.cut (k::t) [k]=z at h1 h2 h3 h4;obtain⟨a,b,q⟩:=z;cases q with
 | false=>obtain⟨rfl,_⟩:=h2 rfl;simp at h1
 | true=>
   have:=h4 rfl;cases a with
   | nil=>simp at this;subst this;rfl
   | cons x r=>simp at this;obtain⟨rfl,_⟩:=this;simp at h1
theorem em {k c:UInt8} (h:c≠k) (t:Bs):Lib.cut (c::t) [k]=(c::(Lib.cut t [k]).1,(Lib.cut t [k]).2.1,(Lib.cut t [k]).2.2):=by
 have f1:=fi k (c::t);have f2:=fi k t;obtain⟨h1,h2,h3,h4⟩:=f1;obtain⟨g1,g2,g3,g4⟩:=f2;generalize Lib.cut (c::t) [k]=z at h1 h2 h3 h4;generalize Lib.cut t [k]=y at g1 g2 g3 g4;obtain⟨a,b,q⟩:=z;obtain⟨a',b',q'⟩:=y
 have split:∀(x x':Bs) (r r':Bs),k∉x->k∉x'->x++k::r=x'++k::r'->x=x'/\r=r':=by
  intro x
  induction x with
  | nil=>
    intro x' r r' _ h' e;cases x' with
    | nil=>simp at e;exact⟨rfl,e⟩
    | cons y s=>simp at e;obtain⟨rfl,_⟩:=e;simp at h'
  | cons y s ih=>
    intro x' r r' hx h' e;cases x' with
    | nil=>simp at e;obtain⟨rfl,_⟩:=e;simp at hx
    | cons z s'=>
      simp only[List.cons_append,List.cons.injEq]at e;obtain⟨rfl,e⟩:=e;obtain⟨rfl,rfl⟩:=ih s' r r' (fun hm=>hx (by simp[hm])) (fun hm=>h' (by simp[hm])) e;exact⟨rfl,rfl⟩
 cases q with
 | false=>
   obtain⟨rfl,rfl⟩:=h2 rfl;cases q' with
   | false=>obtain⟨rfl,rfl⟩:=g2 rfl;rfl
   | true=>
     have e:=g4 rfl;exact absurd (by rw[show t=_ from e];simp) h1
 | true=>
   have e:=h4 rfl;cases q' with
   | false=>
     obtain⟨rfl,rfl⟩:=g2 rfl;have hm:k∈c::a':=by rw[show c::a'=_ from e];simp
     rcases List.mem_cons.1 hm with hm|hm
     ·exact absurd hm.symm h
     ·exact absurd hm g1
   | true=>
     have e':=g4 rfl
     obtain⟨rfl,rfl⟩:=split a (c::a') b b' h1 (by simp only[List.mem_cons,not_or];exact⟨fun x=>h x.symm,g1⟩) (by
      show a++k::b=(c::a')++k::b';rw[List.cons_append];exact e.symm.trans (congrArg (c::·) e'))
     rfl
theorem gG:mpU []=[]:=by unfold mpU;rw[gH];show(Lib.cut [] [63]).1=_;rw[gH]
theorem nS (t:Bs):mpU (63::t)=[]:=by unfold mpU;rw[em (by decide)];show(Lib.cut (63::_) [63]).1=_;rw[mf]
theorem og (t:Bs):mpU (35::t)=[]:=by unfold mpU;rw[mf];show(Lib.cut [] [63]).1=_;rw[gH]
theorem fp {c:UInt8} (h1:c≠63) (h2:c≠35) (t:Bs):mpU (c::t)=c::mpU t:=by
 unfold mpU;rw[em h2];show(Lib.cut (c::_) [63]).1=_;rw[em h1]
theorem RE (u:af):qfU [] u={u with query:=[],hasQuery:=false,fragment:=[],hasFragment:=false}:=by
 unfold qfU;rw[gH];simp only[gH]
theorem XY (t:Bs) (u:af):qfU (63::t) u={u with query:=(Lib.cut t [35]).1,hasQuery:=true,fragment:=(Lib.cut t [35]).2.1,hasFragment:=(Lib.cut t [35]).2.2}:=by
 unfold qfU;rw[em (by decide)];simp only[mf]
theorem XZ (t:Bs) (u:af):qfU (35::t) u={u with query:=[],hasQuery:=false,fragment:=t,hasFragment:=true}:=by
 unfold qfU;rw[mf];simp only[gH]
theorem iC {c:UInt8} (h1:c≠63) (h2:c≠35) (t:Bs) (u:af):qfU (c::t) u=qfU t u:=by
 unfold qfU;rw[em h2];simp only[em h1]
theorem it (of a b:Bs):ah of (a++b)=ah of a++ah of b:=by simp[ah]
theorem gI (of:Bs) (c:UInt8) (b:Bs):ah of (c::b)=ah of [c]++ah of b:=it of [c] b
theorem eT (of:Bs):ah of []=[]:=rfl
def iG (u:af):Prop:=u.query=[]/\u.hasQuery=false/\u.fragment=[]/\u.hasFragment=false
theorem QO {u:af} (h:iG u):qfU [] u=u:=by
 rw[RE];obtain⟨h1,h2,h3,h4⟩:=h;cases u;simp only at h1 h2 h3 h4
 simp[h1,h2,h3,h4]
theorem My {u:af} (h:iG u):eZ u=.ok u:=by
 unfold eZ;obtain⟨h1,h2,h3,h4⟩:=h;cases u;simp only at h1 h2 h3 h4;subst h1 h3;rfl
def ks (u:af) (t:Bs):UR:=.ok {u with fragment:=u.fragment++ah (bc 1) t}
theorem Kh (u:af):ks u []=.ok u:=by unfold ks;rw[eT,List.append_nil]
theorem ED (u:af) (c:UInt8) (t:Bs):ks u (c::t)=ks {u with fragment:=u.fragment++ah (bc 1) [c]} t:=by
 unfold ks;rw[gI,List.append_assoc]
def zw (u:af):Bs:=bc (if ae u.scheme then 3 else 2)
def ip (u:af) (t:Bs):UR:=.ok {u with query:=u.query++ah (zw u) (Lib.cut t [35]).1,hasFragment:=(Lib.cut t [35]).2.2,fragment:=ah (bc 1) (Lib.cut t [35]).2.1}
theorem EQ (u:af) (h1:u.fragment=[]) (h2:u.hasFragment=false):ip u []=.ok u:=by
 unfold ip;rw[gH,eT,List.append_nil];cases u;simp only at h1 h2
 simp[h1,h2,eT]
theorem Ng (u:af) (h1:u.fragment=[]) (t:Bs):ip u (35::t)=ks {u with hasFragment:=true} t:=by
 unfold ip ks;rw[mf,eT,List.append_nil,h1,List.nil_append]
theorem Cn (u:af) (c:UInt8) (hc:c≠35) (t:Bs):ip u (c::t)=ip {u with query:=u.query++ah (zw u) [c]} t:=by
 unfold ip;rw[em hc,gI,List.append_assoc];rfl
theorem zR (u:af) (h:iG u):eZ (qfU [] u)=.ok u:=by rw[QO h,My h]
theorem Nl (u:af) (h:iG u) (t:Bs):eZ (qfU (63::t) u)=ip {u with hasQuery:=true} t:=by
 obtain⟨h1,h2,h3,h4⟩:=h;rw[XY];unfold eZ ip zw;simp only[h1,List.nil_append]
theorem Nt (u:af) (h:iG u) (t:Bs):eZ (qfU (35::t) u)=ks {u with hasFragment:=true} t:=by
 obtain⟨h1,h2,h3,h4⟩:=h;rw[XZ];unfold eZ ks;cases u;simp only at h1 h2 h3 h4
 simp[h1,h2,h3,eT]
def ve (u:af) (t:Bs):UR:=eZ (qfU t {u with path:=[u.path.headD []++ah [] (mpU t)]})
theorem MQ {u:af} (h:iG u) {x:Bs} (hx:u.path=[x]):ve u []=.ok u:=by
 unfold ve;rw[gG,eT,List.append_nil];have:({u with path:=[u.path.headD []]}:af)=u:=by cases u;simp only at hx;subst hx;rfl
 rw[this];exact zR u h
theorem Vw {u:af} (h:iG u) {x:Bs} (hx:u.path=[x]) (t:Bs):ve u (63::t)=ip {u with hasQuery:=true} t:=by
 unfold ve;rw[nS,eT,List.append_nil];have:({u with path:=[u.path.headD []]}:af)=u:=by cases u;simp only at hx;subst hx;rfl
 rw[this];exact Nl u h t
theorem Vs {u:af} (h:iG u) {x:Bs} (hx:u.path=[x]) (t:Bs):ve u (35::t)=ks {u with hasFragment:=true} t:=by
 unfold ve;rw[og,eT,List.append_nil];have:({u with path:=[u.path.headD []]}:af)=u:=by cases u;simp only at hx;subst hx;rfl
 rw[this];exact Nt u h t
theorem J1 {u:af} {x:Bs} (hx:u.path=[x]) {c:UInt8} (h1:c≠63) (h2:c≠35) (t:Bs):ve u (c::t)=ve {u with path:=[x++ah [] [c]]} t:=by
 unfold ve;rw[fp h1 h2,gI,iC h1 h2,hx];simp only[List.headD_cons,List.append_assoc]
def fc (scheme:Bs) (path:List Bs) (q:Bs) (fg:Bool):List Bs:=
 if dN q=2 then(if fg=false then bJ scheme path++[[]]else bJ scheme path)
 else if dN q=1 then(if fg=false then path++[[]]else path)
 else path++[if scheme=fileS/\path=[]/\bu q=true then q.take 1++[58]else q]
def onQ (scheme:Bs):List Bs->Bs->List Bs->List Bs
 | path,buf,[]=>fc scheme path buf false
 | path,buf,[p]=>fc scheme path (buf++ah (bc 4) p) false
 | path,buf,p::q::r=>onQ scheme (fc scheme path (buf++ah (bc 4) p) true) [] (q::r)
theorem zQ (scheme:Bs):∀(ps:List Bs) (path:List Bs),ps≠[]->onQ scheme path [] ps=onL scheme path ps
 | [],_,h=>absurd rfl h
 | [p],path,_=>by rw[tV,GQ];rfl
 | p::q::r,path,_=>by
   rw[tV,onQ,zQ scheme (q::r) _ (by simp)];rfl
def eh (u:af) (buf:Bs) (t:Bs):UR:=eZ (qfU t {u with path:=onQ u.scheme u.path buf (bD (ae u.scheme) (mpU t))})
theorem JP {u:af} (h:iG u) (buf:Bs):eh u buf []=.ok {u with path:=fc u.scheme u.path buf false}:=by
 unfold eh;rw[gG,show bD (ae u.scheme) []=[[]]from rfl,onQ,eT,List.append_nil];exact zR _ h
theorem Rn {u:af} (h:iG u) (buf t:Bs):eh u buf (63::t)=ip {u with path:=fc u.scheme u.path buf false,hasQuery:=true} t:=by
 unfold eh;rw[nS,show bD (ae u.scheme) []=[[]]from rfl,onQ,eT,List.append_nil];exact Nl {u with path:=fc u.scheme u.path buf false} h t
theorem Qk {u:af} (h:iG u) (buf t:Bs):eh u buf (35::t)=ks {u with path:=fc u.scheme u.path buf false,hasFragment:=true} t:=by
 unfold eh;rw[og,show bD (ae u.scheme) []=[[]]from rfl,onQ,eT,List.append_nil];exact Nt {u with path:=fc u.scheme u.path buf false} h t
theorem ku {sp:Bool} {c:UInt8} (h:aG sp c=true):c≠63/\c≠35:=by
 constructor
 ·rintro rfl;cases sp<;>simp[aG]at h
 ·rintro rfl;cases sp<;>simp[aG]at h
theorem jw (sp:Bool) (s:Bs):bD sp s≠[]:=by rw[oI];simp
theorem B6 {u:af} {c:UInt8} (hc:aG (ae u.scheme) c=true) (buf t:Bs):eh u buf (c::t)=eh {u with path:=fc u.scheme u.path buf true} [] t:=by
 obtain⟨h1,h2⟩:=ku hc;unfold eh;rw[fp h1 h2,iC h1 h2];have:bD (ae u.scheme) (c::mpU t)=[]::bD (ae u.scheme) (mpU t):=by rw[bD,if_pos hc]
 rw[this];have dG:=jw (ae u.scheme) (mpU t);cases hs:bD (ae u.scheme) (mpU t)with
 | nil=>exact absurd hs dG
 | cons q r=>rw[onQ,eT,List.append_nil]
theorem BO (scheme:Bs) (path:List Bs) (buf p:Bs) (r:List Bs) (c:UInt8):onQ scheme path buf ((c::p)::r)=onQ scheme path (buf++ah (bc 4) [c]) (p::r):=by
 cases r with
 | nil=>rw[onQ,onQ,gI,List.append_assoc]
 | cons q r=>rw[onQ,onQ,gI,List.append_assoc]
theorem Ey {u:af} {c:UInt8} (hc:aG (ae u.scheme) c=false) (h1:c≠63) (h2:c≠35) (buf t:Bs):eh u buf (c::t)=eh u (buf++ah (bc 4) [c]) t:=by
 unfold eh;rw[fp h1 h2,iC h1 h2];have dG:=jw (ae u.scheme) (mpU t)
 have:bD (ae u.scheme) (c::mpU t)=match bD (ae u.scheme) (mpU t)with
   | h::t=>(c::h)::t
   | []=>[[c]]:=by
  rw[bD,if_neg (by rw[hc];simp)];generalize bD (ae u.scheme) (mpU t)=z;cases z<;>rfl
 rw[this];cases hs:bD (ae u.scheme) (mpU t)with
 | nil=>exact absurd hs dG
 | cons q r=>simp only[BO]
theorem Ql (t:Bs) (u:af) (p:List Bs):qfU t {u with path:=p}={qfU t u with path:=p}:=rfl
theorem gu (u:af) (t:Bs):eh u [] t=eZ (onP (qfU t u) (mpU t)):=by
 unfold eh onP;rw[zQ _ _ _ (jw _ _)];rfl
def nsl (sp:Bool) (c:UInt8):Bool:= !aG sp c
def l7 (sp:Bool):Bs->Bs
 | c::r=>if aG sp c then r else c::r
 | []=>[]
def PS (v:af) (m:Bs):UR:=eZ (if m=[]/\ae v.scheme=false then v else onP v (l7 (ae v.scheme) m))
def dPS (u:af) (t:Bs):UR:=PS (qfU t u) (mpU t)
theorem dU (t:Bs) (u:af):(qfU t u).scheme=u.scheme:=rfl
theorem yM {u:af} (hs:ae u.scheme=true) {c:UInt8} (hc:aG true c=true) (t:Bs):dPS u (c::t)=eh u [] t:=by
 obtain⟨h1,h2⟩:=ku hc;unfold dPS PS;rw[gu,fp h1 h2,iC h1 h2,if_neg (by simp),dU,hs,l7,if_pos hc]
theorem N8 {sp:Bool} {t:Bs} (h:∀c,t.head? =some c->aG sp c=false):l7 sp (mpU t)=mpU t:=by
 cases t with
 | nil=>rw[gG];rfl
 | cons c r=>
   have hc:=h c rfl;by_cases h1:c=63
   ·subst h1;rw[nS];rfl
   ·by_cases h2:c=35
    ·subst h2;rw[og];rfl
    ·rw[fp h1 h2,l7,if_neg (by rw[hc];simp)]
theorem IV {u:af} (hs:ae u.scheme=true) {t:Bs} (h:∀c,t.head? =some c->aG true c=false):dPS u t=eh u [] t:=by
 unfold dPS PS;rw[gu,dU,hs,if_neg (by simp),N8 h]
theorem RC {u:af} (hs:ae u.scheme=false) (h:iG u):dPS u []=.ok u:=by
 unfold dPS PS;rw[gG,dU,if_pos ⟨rfl,hs⟩];exact zR u h
theorem YC {u:af} (hs:ae u.scheme=false) (h:iG u) (t:Bs):dPS u (63::t)=ip {u with hasQuery:=true} t:=by
 unfold dPS PS;rw[nS,dU,if_pos ⟨rfl,hs⟩];exact Nl u h t
theorem Yp {u:af} (hs:ae u.scheme=false) (h:iG u) (t:Bs):dPS u (35::t)=ks {u with hasFragment:=true} t:=by
 unfold dPS PS;rw[og,dU,if_pos ⟨rfl,hs⟩];exact Nt u h t
theorem Kw {u:af} (hs:ae u.scheme=false) (t:Bs):dPS u (47::t)=eh u [] t:=by
 unfold dPS PS;rw[gu,fp (by decide) (by decide),iC (by decide) (by decide),if_neg (by simp),dU,hs];rfl
theorem Oc {u:af} (hs:ae u.scheme=false) {c:UInt8} (h0:c≠47) (h1:c≠63) (h2:c≠35) (t:Bs):dPS u (c::t)=eh u [] (c::t):=by
 unfold dPS PS;rw[gu,fp h1 h2,iC h1 h2,if_neg (by simp),dU,hs,l7,if_neg (by simp[aG,h0])]
def dO (sp:Bool) (c:UInt8):Bool:=aG sp c||c==63||c==35
theorem my {sp:Bool} {c:UInt8} (h:dO sp c=false):aG sp c=false/\c≠63/\c≠35:=by
 unfold dO at h;simp only[Bool.or_eq_false_iff,beq_eq_false_iff_ne]at h;exact⟨h.1.1,h.1.2,h.2⟩
def tw (sp:Bool) (t:Bs):Bs:=(mpU t).takeWhile (nsl sp)
def dw (sp:Bool) (t:Bs):Bs:=(mpU t).dropWhile (nsl sp)
def lq (sp:Bool) (t:Bs):Prop:=∀c,t.head? =some c->dO sp c=true
theorem pE {sp:Bool} {t:Bs} (h:lq sp t):tw sp t=[]/\dw sp t=mpU t:=by
 unfold tw dw;cases t with
 | nil=>rw[gG];exact⟨rfl,rfl⟩
 | cons c r=>
   have hc:=h c rfl;by_cases h1:c=63
   ·subst h1;rw[nS];exact⟨rfl,rfl⟩
   ·by_cases h2:c=35
    ·subst h2;rw[og];exact⟨rfl,rfl⟩
    ·have hs:aG sp c=true:=by
      unfold dO at hc;simpa [h1,h2]using hc
     rw[fp h1 h2]
     simp[nsl,hs]
theorem jT {sp:Bool} {c:UInt8} (h:dO sp c=false) (t:Bs):tw sp (c::t)=c::tw sp t/\dw sp (c::t)=dw sp t:=by
 obtain⟨h0,h1,h2⟩:=my h;unfold tw dw;rw[fp h1 h2]
 simp[nsl,h0]
theorem nD {sp:Bool} {c:UInt8} (h:dO sp c=false) (t:Bs) (u:af):qfU (c::t) u=qfU t u:=by
 obtain⟨h0,h1,h2⟩:=my h;exact iC h1 h2 t u
theorem LG {sp:Bool}:∀{b:Bs} (t:Bs),(∀c∈b,dO sp c=false)->tw sp (b++t)=b++tw sp t/\dw sp (b++t)=dw sp t/\∀u,qfU (b++t) u=qfU t u
 | [],t,_=>⟨rfl,rfl,fun _=>rfl⟩
 | c::r,t,h=>by
   obtain⟨i1,i2,i3⟩:=LG (b:=r) t (fun x hx=>h x (List.mem_cons_of_mem _ hx));have hc:=h c (by simp);obtain⟨j1,j2⟩:=jT hc (r++t);rw[List.cons_append];exact⟨by rw[j1,i1];rfl,by rw[j2,i2],fun u=>by rw[nD hc,i3]⟩
def l9 (u:af) (buf t:Bs):UR:=(ck (qfU t u) (buf++tw (ae u.scheme) t)).bind fun v=>PS v (dw (ae u.scheme) t)
theorem GV (t:Bs) (u:af) (s:Bs):ck (qfU t u) s=match ck u s with
  | .ok v=>.ok (qfU t v)
  | .er n=>.er n:=by
 unfold ck;rw[dU];cases fY 0 s with
 | none=>rfl
 | some n=>
   simp only;split
   ·rfl
   ·split<;>rfl
theorem uS {u:af} {t:Bs} (h:lq (ae u.scheme) t) (buf:Bs):l9 u buf t=match ck u buf with
  | .ok v=>dPS v t
  | .er n=>.er n:=by
 unfold l9;obtain⟨h1,h2⟩:=pE h;rw[h1,h2,List.append_nil,GV];cases ck u buf<;>rfl
theorem EO {u:af} {c:UInt8} (h:dO (ae u.scheme) c=false) (buf t:Bs):l9 u buf (c::t)=l9 u (buf++[c]) t:=by
 unfold l9;obtain⟨h1,h2⟩:=jT h t;rw[h1,h2,nD h,List.append_assoc];rfl
theorem xh {c:UInt8} (hc:aA c=false) (r:Bs):∀(b:Bs) (n:Nat),fY n (b++c::r)=none
 | [],n=>by rw[List.nil_append,fY,if_neg (by rw[hc];simp)]
 | x::b,n=>by
   rw[List.cons_append,fY];split
   ·exact xh hc r b _
   ·rfl
theorem I7 {u:af} {c:UInt8} (h:dO (ae u.scheme) c=false) (hc:aA c=false) (buf t:Bs):l9 u buf (c::t)=.er 81:=by
 unfold l9;rw[(jT h t).1];unfold ck;rw[xh hc];rfl
def De (inside:Bool) (buf:Bs):Prop:=∀r:Bs,cW false (buf++r)=(cW inside r).map (·+buf.length)
theorem LF:De false []:=fun r=>by rw[List.nil_append];cases cW false r<;>rfl
theorem I5 {inside:Bool} {buf:Bs} (h:De inside buf) {c:UInt8} (hc:¬(c=58/\inside=false)):
  De (if c=93 then false else if c=91 then true else inside) (buf++[c]):=by
 intro r;rw[List.append_assoc,h,List.singleton_append,List.length_append];rw[cW];by_cases h1:c=91
 ·subst h1;rw[if_pos (by rfl)];simp only[show ¬(91:UInt8)=93 by decide,if_false,if_true];cases cW true r<;>simp;omega
 ·rw[if_neg (by simpa using h1)];by_cases h2:c=93
  ·subst h2;rw[if_pos (by rfl)];simp only[if_true];cases cW false r<;>simp;omega
  ·rw[if_neg (by simpa using h2),if_neg (by intro hh;simp at hh;exact hc ⟨hh.1,hh.2⟩),if_neg h2,if_neg h1];cases cW inside r<;>simp;omega
def me (u:af) (buf t:Bs):UR:=(dZ (qfU t u) (buf++tw (ae u.scheme) t)).bind fun v=>PS v (dw (ae u.scheme) t)
theorem H5 (t:Bs) (u:af) (s:Bs):bQ (qfU t u) s=match bQ u s with
  | .ok v=>.ok (qfU t v)
  | .er n=>.er n:=by
 unfold bQ;rw[dU];cases aD s (ae u.scheme)<;>rfl
theorem lr (r:UR) (f g:af->UR):(r.bind f).bind g=r.bind fun u=>(f u).bind g:=by cases r<;>rfl
theorem zK {u v:af} {s:Bs} (e:bQ u s=.ok v):v.scheme=u.scheme:=by
 obtain⟨h,rfl,_⟩:=uR e;rfl
theorem ER {u:af} {inside:Bool} {buf t:Bs} (hX:De inside buf) (h:lq (ae u.scheme) t):me u buf t=
  if buf=[]/\ae u.scheme=true then .er 70 else match bQ u buf with
   | .ok v=>match ck v []with
     | .ok x=>dPS x t
     | .er n=>.er n
   | .er n=>.er n:=by
 unfold me;obtain⟨h1,h2⟩:=pE h
 have hc:cW false buf=none:=by
  have:=hX [];rw[List.append_nil]at this;rw[this];rfl
 rw[h1,h2,List.append_nil];unfold dZ;rw[hc,dU];simp only;split
 ·rfl
 ·rw[lr,H5];cases bQ u buf with
  | er n=>rfl
  | ok v=>
    show(ck (qfU t v) []).bind _=_;rw[GV];cases hp:ck v []<;>simp only[hp]<;>rfl
theorem mr {u:af} {inside:Bool} {buf t:Bs} (hX:De inside buf) (h:lq (ae u.scheme) t):me u buf t=
  if buf=[]/\ae u.scheme=true then .er 70 else match bQ u buf with
   | .ok v=>dPS v t
   | .er n=>.er n:=by
 rw[ER hX h];split
 ·rfl
 ·cases bQ u buf<;>rfl
theorem mM {u:af} {buf:Bs} (hX:De false buf) (t:Bs):me u buf (58::t)=
  if buf=[]then .er 70 else match bQ u buf with
   | .ok v=>l9 v [] t
   | .er n=>.er n:=by
 have ho:dO (ae u.scheme) 58=false:=by cases ae u.scheme<;>rfl
 unfold me;obtain⟨h1,h2⟩:=jT ho t;rw[h1,h2,nD ho]
 have hc:cW false (buf++58::tw (ae u.scheme) t)=some buf.length:=by
  rw[hX];show(if(58:UInt8)==91 then _ else if(58:UInt8)==93 then _ else if((58:UInt8)==58&& !false)=true then some 0 else _).map _=_
  simp
 unfold dZ;rw[hc];simp only;have h3:(buf++58::tw (ae u.scheme) t).take buf.length=buf:=by simp
 have h4:(buf++58::tw (ae u.scheme) t).drop (buf.length+1)=tw (ae u.scheme) t:=by
  rw[<-List.drop_drop];simp
 rw[h3,h4];split
 ·rfl
 ·rw[lr,H5];cases hv:bQ u buf with
  | er n=>rfl
  | ok v=>
    have hs:=zK hv;show(ck (qfU t v) _).bind _=l9 v [] t;unfold l9;rw[List.nil_append,hs]
theorem FK {u:af} {c:UInt8} (h:dO (ae u.scheme) c=false) (buf t:Bs):me u buf (c::t)=me u (buf++[c]) t:=by
 unfold me;obtain⟨h1,h2⟩:=jT h t;rw[h1,h2,nD h,List.append_assoc];rfl
def jN (a:Bool) (x:Bs):Bs:=if a then 64::x else x
def ki (u:af) (a pass:Bool) (x:Bs):af:=
 if pass then{u with pass:=u.pass++ah (bc 5) (jN a x)}
 else{u with user:=u.user++ah (bc 5) (Lib.cut (jN a x) [58]).1,pass:=u.pass++ah (bc 5) (Lib.cut (jN a x) [58]).2.1}
def Fu (a pass:Bool) (x:Bs):Bool:=pass||(Lib.cut (jN a x) [58]).2.2
def iQ (u:af) (a pass:Bool) (buf t:Bs):UR:=
 (match cz (buf++tw (ae u.scheme) t)with
  | some (x,y)=>if y=[]then UR.er 70 else dZ (qfU t (ki u a pass x)) y
  | none=>if a=true/\buf++tw (ae u.scheme) t=[]then .er 70 else dZ (qfU t u) (buf++tw (ae u.scheme) t)).bind fun v=>PS v (dw (ae u.scheme) t)
theorem E0 {u:af} {c:UInt8} (h:dO (ae u.scheme) c=false) (a pass:Bool) (buf t:Bs):iQ u a pass buf (c::t)=iQ u a pass (buf++[c]) t:=by
 unfold iQ;obtain⟨h1,h2⟩:=jT h t;have h3:buf++c::tw (ae u.scheme) t=buf++[c]++tw (ae u.scheme) t:=by simp
 have e1:∀v,qfU (c::t) v=qfU t v:=fun v=>nD h t v;rw[h1,h2,h3];simp only[e1]
theorem Aa {s:Bs} (h:(64:UInt8)∉s):cz s=none:=by
 induction s with
 | nil=>rfl
 | cons c r ih=>
   simp only[List.mem_cons,not_or]at h;rw[cz,ih h.2];simp only;rw[if_neg (by simpa using fun e:c=64=>h.1 e.symm)]
theorem AV {b:Bs} (h:(64:UInt8)∉b) (r:Bs):cz (b++64::r)=match cz r with
  | some (x,y)=>some (b++64::x,y)
  | none=>some (b,r):=by
 induction b with
 | nil=>
   rw[List.nil_append,cz];cases cz r with
   | none=>rfl
   | some z=>obtain⟨x,y⟩:=z;rfl
 | cons c b ih=>
   simp only[List.mem_cons,not_or]at h;rw[List.cons_append,cz,ih h.2];cases cz r with
   | none=>rfl
   | some z=>obtain⟨x,y⟩:=z;rfl
theorem UL:ah (bc 5) [64]=[37,52,48]:=by decide +kernel
theorem tr {k:UInt8} (a b:Bs):Lib.cut (a++b) [k]=if(Lib.cut a [k]).2.2 then((Lib.cut a [k]).1,(Lib.cut a [k]).2.1++b,true)else(a++(Lib.cut b [k]).1,(Lib.cut b [k]).2.1,(Lib.cut b [k]).2.2):=by
 induction a with
 | nil=>rw[gH];rfl
 | cons c r ih=>
   by_cases hc:c=k
   ·subst hc;rw[List.cons_append,mf,mf];rfl
   ·rw[List.cons_append,em hc,em hc,ih];cases (Lib.cut r [k]).2.2<;>simp
theorem Rh (u:af) (a pass:Bool) (b x:Bs):ki (ki u a pass b) true (Fu a pass b) x=ki u a pass (b++64::x):=by
 have hz:jN a (b++64::x)=jN a b++jN true x:=by unfold jN;cases a<;>rfl
 cases pass with
 | true=>
   unfold ki Fu;rw[hz];simp only[Bool.true_or,if_true,it,List.append_assoc]
 | false=>
   unfold ki Fu;rw[hz,tr,Bool.false_or];have f:=fi 58 (jN a b);obtain⟨_,f2,_,_⟩:=f;cases hq:(Lib.cut (jN a b) [58]).2.2 with
   | true=>simp[it]
   | false=>
     obtain⟨g1,g2⟩:=f2 hq
     simp[it,g1,g2,eT]
theorem MM {u:af} {a pass:Bool} {buf:Bs} (h:(64:UInt8)∉buf) (t:Bs):iQ u a pass buf (64::t)=iQ (ki u a pass buf) true (Fu a pass buf) [] t:=by
 have ho:dO (ae u.scheme) 64=false:=by cases ae u.scheme<;>rfl
 have hs:(ki u a pass buf).scheme=u.scheme:=by unfold ki;cases pass<;>rfl
 unfold iQ;obtain⟨h1,h2⟩:=jT ho t;have e1:∀v,qfU (64::t) v=qfU t v:=fun v=>nD ho t v;rw[hs,h1,h2,AV h,List.nil_append];simp only[e1];cases cz (tw (ae u.scheme) t)with
 | none=>
   simp only;by_cases hy:tw (ae u.scheme) t=[]
   ·rw[if_pos hy,if_pos ⟨trivial,hy⟩]
   ·rw[if_neg hy,if_neg (fun e=>hy e.2)]
 | some z=>
   obtain⟨x,y⟩:=z;simp only[Rh]
theorem uB {u:af} {a pass:Bool} {buf t:Bs} (h:(64:UInt8)∉buf) (hb:∀c∈buf,dO (ae u.scheme) c=false) (ho:lq (ae u.scheme) t):
  iQ u a pass buf t=if a=true/\buf=[]then .er 70 else me u [] (buf++t):=by
 unfold iQ me;obtain⟨h1,h2⟩:=pE ho;obtain⟨k1,k2,k3⟩:=LG t hb;rw[h1,List.append_nil,Aa h,k1,k2,k3,h1,List.append_nil,List.nil_append];simp only;split
 ·rfl
 ·rfl
theorem BJ (u:af) (hu:u.user=[]) (hp:u.pass=[]) (t:Bs):iQ u false false [] t=(gB (qfU t u) (tw (ae u.scheme) t)).bind fun v=>PS v (dw (ae u.scheme) t):=by
 unfold iQ gB;rw[List.nil_append];cases cz (tw (ae u.scheme) t)with
 | none=>simp
 | some z=>
   obtain⟨x,y⟩:=z;simp only
   have:qfU t (ki u false false x)=Cu (qfU t u) x:=by
    unfold ki jN Cu qfU
    simp[hu,hp]
   rw[this]
theorem UZ (v:af) (m:Bs) (h:l7 (ae v.scheme) (m.dropWhile (nsl (ae v.scheme)))=(dn (ae v.scheme) m).2.1):
  PS v (m.dropWhile (nsl (ae v.scheme)))=eZ (if(dn (ae v.scheme) m).2.2||ae v.scheme then onP v (dn (ae v.scheme) m).2.1 else v):=by
 unfold PS;rw[h]
 have abR:(dn (ae v.scheme) m).2.2= !decide (m.dropWhile (nsl (ae v.scheme))=[]):=by
  show m.any _=_;clear h
  induction m with
  | nil=>rfl
  | cons c r ih=>
    rw[List.any_cons,List.dropWhile_cons];cases hc:aG (ae v.scheme) c
    ·simp[nsl,hc];simpa [nsl]using ih
    ·simp[nsl,hc]
 rw[abR];by_cases he:m.dropWhile (nsl (ae v.scheme))=[]
 ·cases hs:ae v.scheme
  ·rw[hs]at he;rw[if_pos ⟨he,rfl⟩,if_neg];simp[he]
  ·rw[if_neg (by simp),if_pos (by simp)]
 ·rw[if_neg (fun e=>he e.1),if_pos (by simp[he])]
theorem AT (sp:Bool) (m:Bs):l7 sp (m.dropWhile (nsl sp))=(dn sp m).2.1:=by
 show _=(m.dropWhile (nsl sp)).drop 1
 induction m with
 | nil=>rfl
 | cons c r ih=>
   rw[List.dropWhile_cons];cases hc:aG sp c
   ·rw[if_pos (by simp[nsl,hc])];exact ih
   ·rw[if_neg (by simp[nsl,hc])];rw[l7,if_pos hc];rfl
theorem qn (u:af) (hu:u.user=[]) (hp:u.pass=[]) (t:Bs):iQ u false false [] t=(df (qfU t u) (mpU t)).bind eZ:=by
 rw[BJ u hu hp];unfold df;simp only;rw[lr,dU];show(gB (qfU t u) (tw (ae u.scheme) t)).bind _=(gB (qfU t u) (tw (ae u.scheme) t)).bind _;cases hv:gB (qfU t u) (tw (ae u.scheme) t)with
 | er n=>rfl
 | ok v=>
   have hs:v.scheme=u.scheme:=(uY hv).2;show PS v _=eZ _;have:=UZ v (mpU t) (AT _ _);rw[hs]at this;rw[hs];exact this
theorem nG {sp:Bool} {c:UInt8} (hc:aG sp c=true) (r:Bs):dM sp (c::r)=dM sp r+1:=by
 unfold dM;rw[List.takeWhile_cons,if_pos hc];rfl
theorem rf {sp:Bool} {r:Bs} (h:∀c,r.head? =some c->aG sp c=false):dM sp r=0:=by
 unfold dM;cases r with
 | nil=>rfl
 | cons c r=>rw[List.takeWhile_cons,if_neg (by rw[h c rfl];simp)];rfl
theorem yS {sp:Bool} {t:Bs} (h:∀c,t.head? =some c->aG sp c=false):∀c,(mpU t).head? =some c->aG sp c=false:=by
 cases t with
 | nil=>rw[gG];intro c hc;cases hc
 | cons x r=>
   have hx:=h x rfl;by_cases h1:x=63
   ·subst h1;rw[nS];intro c hc;cases hc
   ·by_cases h2:x=35
    ·subst h2;rw[og];intro c hc;cases hc
    ·rw[fp h1 h2];intro c hc;cases hc;exact hx
def pX (u:af) (t:Bs):UR:=(df (qfU t u) ((mpU t).drop (dM (ae u.scheme) (mpU t)))).bind eZ
theorem oO {u:af} {c:UInt8} (hc:aG (ae u.scheme) c=true) (t:Bs):pX u (c::t)=pX u t:=by
 obtain⟨h1,h2⟩:=ku hc;unfold pX;rw[fp h1 h2,iC h1 h2,nG hc,List.drop_succ_cons]
theorem Ry {u:af} (hu:u.user=[]) (hp:u.pass=[]) {t:Bs} (h:∀c,t.head? =some c->aG (ae u.scheme) c=false):pX u t=iQ u false false [] t:=by
 rw[qn u hu hp];unfold pX;rw[rf (yS h)];rfl
theorem LZ {u:af} (t:Bs):pX u (47::47::t)=pX u t:=by
 have hc:aG (ae u.scheme) 47=true:=rfl;rw[oO hc,oO hc]
def dPA (u:af) (t:Bs):UR:=match t with
 | c::r=>if c=47 then iQ u false false [] r else eh u [] (c::r)
 | []=>eh u [] []
def YE (u x:af) (t:Bs):UR:=(yY (qfU t u) x (mpU t)).bind eZ
def XS (u x:af):Bs->UR
 | c::r=>if aG (ae u.scheme) c=true then(if ae u.scheme then pX u r else iQ u false false [] r)else eh (GY u x) [] (c::r)
 | []=>eh (GY u x) [] []
theorem GC (sp:Bool):aG sp 63=false/\aG sp 35=false:=by cases sp<;>exact⟨rfl,rfl⟩
def Vc (u x:af) (t:Bs):UR:=if Lib.hasPrefix (mpU t) [47,47]=false then YE u x t else pX u t
theorem No (t:Bs):Lib.hasPrefix (mpU t) [47,47]=(t[0]? ==some 47&&t[1]? ==some 47):=by
 rw[wA];cases t with
 | nil=>rw[gG]
 | cons c r=>
   by_cases h1:c=63
   ·subst h1;rw[nS];rfl
   ·by_cases h2:c=35
    ·subst h2;rw[og];rfl
    ·rw[fp h1 h2];cases r with
     | nil=>rw[gG]
     | cons d r=>
       by_cases k1:d=63
       ·subst k1;rw[nS];simp
       ·by_cases k2:d=35
        ·subst k2;rw[og];simp
        ·rw[fp k1 k2];simp
theorem NP (t:Bs):Lib.hasPrefix (mpU t) [47]=(t[0]? ==some 47):=by
 rw[wg];cases t with
 | nil=>rw[gG]
 | cons c r=>
   by_cases h1:c=63
   ·subst h1;rw[nS];rfl
   ·by_cases h2:c=35
    ·subst h2;rw[og];rfl
    ·rw[fp h1 h2];simp
def ua (u:af):af:={u with hasHost:=true}
theorem BA (u:af) (b:Option af) (r:Bs) (h:1<dM true r):da u b r=
  if bu (dn true (r.drop 2)).1 then .ok (onP {u with hasHost:=true} (r.drop 2))
  else(if(dn true (r.drop 2)).1=[]then UR.ok {u with hasHost:=true} else bQ {u with hasHost:=true} (dn true (r.drop 2)).1).bind fun u=>.ok (onP (if u.host=eE then{u with host:=[]} else u) (dn true (r.drop 2)).2.1):=by
 unfold da;simp only;rw[if_pos h]
theorem A5 (u:af) (b:Option af) (r:Bs) (h:dM true r=1):da u b r=
  .ok (onP (match b with
   | some x=>if x.scheme=fileS then(if lg (r.drop 1)=false/\fL x.path=true then{u with hasHost:=true,host:=x.host,path:=x.path.take 1} else{u with hasHost:=true,host:=x.host})else{u with hasHost:=true}
   | none=>{u with hasHost:=true}) (r.drop 1)):=by
 unfold da;simp only;rw[if_neg (by omega),if_pos h];cases b<;>rfl
theorem zU (u:af) (b:Option af) (r:Bs) (h:dM true r=0):da u b r=match b with
  | some x=>if x.scheme=fileS then(if lg r then .ok (onP {u with hasHost:=true,host:=x.host} r)else .ok (uQ {u with hasHost:=true,host:=x.host} x r))else .ok (onP {u with hasHost:=true} r)
  | none=>.ok (onP {u with hasHost:=true} r):=by
 unfold da;simp only;rw[if_neg (by omega),if_neg (by omega)];cases b<;>rfl
def yl (u:af) (b:Option af) (t:Bs):UR:=(da (qfU t u) b (mpU t)).bind eZ
def fb:Option af->Option af
 | some x=>if x.scheme=fileS then some x else none
 | none=>none
theorem xj (u:af) (b:Option af) (r:Bs):da u b r=da u (fb b) r:=by
 unfold da fb;cases b with
 | none=>rfl
 | some x=>
   by_cases h:x.scheme=fileS
   ·simp[h]
   ·simp[h]
def kh (u:af) (buf t:Bs):UR:=
 if bu (buf++tw true t)then eZ {qfU t u with path:=onL u.scheme u.path (bD true (buf++mpU t))}
 else(if buf++tw true t=[]then UR.ok (qfU t u)else bQ (qfU t u) (buf++tw true t)).bind fun v=>eZ (onP (if v.host=eE then{v with host:=[]} else v) (l7 true (dw true t)))
def pS (u:af):Option af->Bs->af
 | some x,t=>if lg (mpU t)=false/\fL x.path=true then{u with host:=x.host,path:=x.path.take 1} else{u with host:=x.host}
 | none,_=>u
def Ex (u:af) (b:Option af) (t:Bs):UR:=match t with
 | c::r=>if aG true c=true then kh u [] r else eh (pS u (fb b) (c::r)) [] (c::r)
 | []=>eh (pS u (fb b) []) [] []
theorem G6:ae fileS=true:=rfl
theorem C3 {u:af} (hs:u.scheme=fileS) (b:Option af) {c:UInt8} (hc:aG true c=true) (t:Bs):yl u b (c::t)=Ex (ua u) b t:=by
 obtain⟨h1,h2⟩:=ku hc;unfold yl;rw[xj,fp h1 h2,iC h1 h2];have d5:ae u.scheme=true:=by rw[hs];rfl
 have one:∀t',(∀d,t'.head? =some d->aG true d=false)->(da (qfU t' u) (fb b) (c::mpU t')).bind eZ=eh (pS (ua u) (fb b) t') [] t':=by
  intro t' Sl;have h0:dM true (mpU t')=0:=rf (yS Sl);rw[A5 _ _ _ (by rw[nG hc,h0]),gu];show eZ _=_;unfold pS ua;cases hb:fb b with
  | none=>rfl
  | some x=>
    have hx:x.scheme=fileS:=by
     unfold fb at hb;cases b with
     | none=>cases hb
     | some y=>
       simp only at hb;split at hb
       ·cases hb;assumption
       ·cases hb
    simp only[hx,if_true,List.drop_one,List.tail_cons];split<;>rfl
 cases t with
 | nil=>exact one [] (by intro d hd;cases hd)
 | cons d r=>
   unfold Ex;simp only;by_cases hd:aG true d=true
   ·obtain⟨d1,d2⟩:=ku hd;rw[if_pos hd,fp d1 d2,iC d1 d2];rw[BA _ _ _ (by rw[nG hc,nG hd];omega)];simp only[List.drop_succ_cons,List.drop_zero];unfold kh;simp only[List.nil_append];have htw:tw true r=(dn true (mpU r)).1:=rfl;have hdw:l7 true (dw true r)=(dn true (mpU r)).2.1:=AT true (mpU r);rw[htw,hdw];split
    ·show eZ _=_;unfold onP;show eZ {qfU r u with hasHost:=true,path:=onL u.scheme u.path (bD (ae u.scheme) (mpU r))}=_;rw[d5];rfl
    ·rw[lr];rfl
   ·rw[if_neg hd];exact one (d::r) (by intro x hx;cases hx;simpa using hd)
theorem Ep {u:af} {b:Option af} (hb:fb b=none) {t:Bs} (h:∀c,t.head? =some c->aG true c=false):yl u b t=eh (ua u) [] t:=by
 unfold yl;rw[xj,hb,zU _ _ _ (rf (yS h)),gu];rfl
theorem AN {u:af} {c:UInt8} (h:dO true c=false) (buf t:Bs):kh u buf (c::t)=kh u (buf++[c]) t:=by
 obtain⟨h0,h1,h2⟩:=my h;obtain⟨k1,k2⟩:=jT h t;unfold kh;rw[k1,k2,fp h1 h2];have e1:buf++c::tw true t=buf++[c]++tw true t:=by simp
 have e2:buf++c::mpU t=buf++[c]++mpU t:=by simp
 rw[e1,e2,iC h1 h2]
theorem JZ {p:Bs} (h:bu p=true):ah (bc 4) p=p/\∀c∈p,dO true c=false:=by
 match p,h with
 | [a,b],h=>
   simp only[bu,Bool.and_eq_true,Bool.or_eq_true,beq_iff_eq]at h;obtain⟨ha,hb⟩:=h
   have f1:∀c:UInt8,aW c=true->ah (bc 4) [c]=[c]/\dO true c=false:=by
    have:∀c:UInt8,aW c=true->okE (bc 4) c=true/\dO true c=false:=au (by decide +kernel);intro c hc;exact⟨Ke (by rw[List.all_cons,(this c hc).1];rfl),(this c hc).2⟩
   rw[gI,(f1 a ha).1];rcases hb with rfl|rfl
   ·exact⟨rfl,by intro c hc;simp at hc;rcases hc with rfl|rfl;exact(f1 _ ha).2;rfl⟩
   ·exact⟨rfl,by intro c hc;simp at hc;rcases hc with rfl|rfl;exact(f1 _ ha).2;rfl⟩
theorem If (scheme:Bs) (sp:Bool):∀(b:Bs) (pre s:Bs) (path:List Bs),(∀c∈b,aG sp c=false)->onQ scheme path pre (bD sp (b++s))=onQ scheme path (pre++ah (bc 4) b) (bD sp s)
 | [],pre,s,path,_=>by rw[List.nil_append,eT,List.append_nil]
 | c::b,pre,s,path,h=>by
   have ih:=If scheme sp b (pre++ah (bc 4) [c]) s path (fun x hx=>h x (List.mem_cons_of_mem _ hx));rw[gI,<-List.append_assoc,<-ih,List.cons_append];have dG:=jw sp (b++s)
   have:bD sp (c::(b++s))=match bD sp (b++s)with
     | h::t=>(c::h)::t
     | []=>[[c]]:=by
    rw[bD,if_neg (by rw[h c (by simp)];simp)];generalize bD sp (b++s)=z;cases z<;>rfl
   rw[this];cases hs:bD sp (b++s)with
   | nil=>exact absurd hs dG
   | cons q r=>exact BO _ _ _ _ _ _
theorem zZ {u:af} (hs:u.scheme=fileS) {buf t:Bs} (ho:lq true t) (hd:bu buf=true):kh u buf t=eh u buf t:=by
 obtain⟨h1,h2⟩:=pE ho;unfold kh eh;rw[h1,List.append_nil,if_pos hd,Ql];obtain⟨e1,e2⟩:=JZ hd;have d5:ae u.scheme=true:=by rw[hs];rfl
 rw[<-zQ _ _ _ (jw _ _),If u.scheme true buf [] (mpU t) u.path (fun c hc=>(my (e2 c hc)).1),e1,List.nil_append,d5];rfl
theorem BW {u:af} (hs:u.scheme=fileS) (hh:u.host=[]) (hb:u.hasHost=true) {buf t:Bs} (ho:lq true t) (hd:bu buf=false):kh u buf t=
  if buf=[]then dPS u t else match aD buf true with
   | .er n=>.er n
   | .ok h=>dPS (if h=eE then u else{u with host:=h}) t:=by
 obtain⟨h1,h2⟩:=pE ho;have d5:ae u.scheme=true:=by rw[hs];rfl
 unfold kh;rw[h1,h2,List.append_nil,if_neg (by rw[hd];simp)]
 have ps:∀v:af,v.scheme=fileS->dPS v t=eZ (onP (qfU t v) (l7 true (mpU t))):=by
  intro v hv;unfold dPS PS;rw[dU,hv,G6,if_neg (by simp)]
 split
 ·rename_i rJ;show eZ (onP (if(qfU t u).host=eE then _ else _) _)=_;rw[if_neg (by show ¬u.host=eE;rw[hh];decide),ps u hs]
 ·rename_i rJ;unfold bQ;rw[dU,d5];cases aD buf true with
  | er n=>rfl
  | ok h=>
    simp only;rw[ps _ (by split<;>exact hs)];show eZ (onP (if h=eE then _ else _) _)=_;by_cases hl:h=eE
    ·rw[if_pos hl,if_pos hl]
     have:({qfU t u with host:=[],hasHost:=true}:af)=qfU t u:=by
      unfold qfU;cases u;simp only at hh hb;subst hh hb;rfl
     show eZ (onP {qfU t u with host:=[],hasHost:=true} _)=_;rw[this]
    ·rw[if_neg hl,if_neg hl]
     have:({qfU t u with host:=h,hasHost:=true}:af)=qfU t {u with host:=h}:=by
      unfold qfU;cases u;simp only at hb;subst hb;rfl
     rw[<-this];rfl
end Lz
namespace Go.Proofs.YtlcbhacofagedaaGreatDoor
open Go.RowKit
theorem L3 (c:UInt8):(decide ((65:Int)<=(c.toNat:Int))&&decide ((c.toNat:Int)<=90)||decide ((97:Int)<=(c.toNat:Int))&&decide ((c.toNat:Int)<=122))=Lz.aW c:=by
 revert c
 exact Lz.au (by decide +kernel)
theorem LR (c:UInt8):(decide ((48:Int)<=(c.toNat:Int))&&decide ((c.toNat:Int)<=57))=Lz.aA c:=by
 revert c
 exact Lz.au (by decide +kernel)
theorem nd (c:UInt8) (w:World):Calls Tryz.prog 23 #[.int .u8 c.toNat] w fun e w'=>e=.returned (.bool (Lz.aW c))/\w=w':=by
 rw[<-L3];obtain⟨q1,h1⟩:∃q,decide ((65:Int)<=(c.toNat:Int))=q:=⟨_,rfl⟩;obtain⟨q2,h2⟩:∃q,decide ((c.toNat:Int)<=90)=q:=⟨_,rfl⟩;obtain⟨q3,h3⟩:∃q,decide ((97:Int)<=(c.toNat:Int))=q:=⟨_,rfl⟩;obtain⟨q4,h4⟩:∃q,decide ((c.toNat:Int)<=122)=q:=⟨_,rfl⟩;rw[h1,h2,h3,h4];cases q1<;>cases q2<;>cases q3<;>cases q4
 all_goals
  go_enter Tryz.func23,Tryz.ntmps23
  go_wp2_with fail
  go_ret
  first |exact⟨rfl,rfl⟩|exact⟨by simp_all,rfl⟩
theorem sq (c:UInt8) (w:World):Calls Tryz.prog 25 #[.int .u8 c.toNat] w fun e w'=>e=.returned (.bool (Lz.aA c))/\w=w':=by
 rw[<-LR];obtain⟨q1,h1⟩:∃q,decide ((48:Int)<=(c.toNat:Int))=q:=⟨_,rfl⟩;obtain⟨q2,h2⟩:∃q,decide ((c.toNat:Int)<=57)=q:=⟨_,rfl⟩;rw[h1,h2];cases q1<;>cases q2
 all_goals
  go_enter Tryz.func25,Tryz.ntmps25
  go_wp2_with fail
  go_ret
  first |exact⟨rfl,rfl⟩|exact⟨by simp_all,rfl⟩
theorem mS (s:ByteArray) (w:World):Calls Tryz.prog 32 #[.string s] w fun e w'=>e=.returned (.bool (Lz.bu s.data.toList))/\w=w':=by
 by_cases h2:s.size=2
 ·have RM:((s.size:Int)==2)=true:=by simp;omega
  have Z3:0<s.size:=by omega
  have XH:1<s.size:=by omega
  have abo:(0:Int)<(s.size:Int):=by omega
  have V8:(1:Int)<(s.size:Int):=by omega
  have hl:=L6 h2;obtain⟨a,ha⟩:∃a,a=s[0]:=⟨_,rfl⟩;obtain⟨b,hb⟩:∃b,b=s[1]:=⟨_,rfl⟩;have WA:(s[0].toNat:Int)=(a.toNat:Int):=by rw[ha]
  have hbI:(s[1].toNat:Int)=(b.toNat:Int):=by rw[hb]
  rw[<-ha,<-hb]at hl;have HV:Hid (Lz.bu s.data.toList=(Lz.aW a&&(b==58||b==124))):=by show _=_;rw[hl];rfl
  have cA:=nd a w;have b1:((b.toNat:Int)==58)=(b==58):=jx b 58;have b2:((b.toNat:Int)==124)=(b==124):=jx b 124;generalize Lz.aW a=p at cA HV;generalize (b==58)=q at b1 HV;generalize (b==124)=r at b2 HV;have CA:=Ih cA;have H2:=Ih h2;clear hl ha hb cA h2;cases p
  ·go_enter Tryz.func32,Tryz.ntmps32
   go_wp2_with fail
   refine CA.out.mono ?_;rintro e w1 ⟨rfl,rfl⟩
   go_wp2_with fail
   go_ret;rw[HV.out];exact⟨rfl,rfl⟩
  ·cases q
   ·go_enter Tryz.func32,Tryz.ntmps32
    go_wp2_with fail
    refine CA.out.mono ?_;rintro e w1 ⟨rfl,rfl⟩
    go_wp2_with fail
    go_ret;rw[HV.out];exact⟨by cases r<;>first |rfl|(rw[b2];rfl),rfl⟩
   ·go_enter Tryz.func32,Tryz.ntmps32
    go_wp2_with fail
    refine CA.out.mono ?_;rintro e w1 ⟨rfl,rfl⟩
    go_wp2_with fail
    go_ret;rw[HV.out];exact⟨rfl,rfl⟩
 ·have RM:((s.size:Int)==2)=false:=by simp;omega
  have HV:Hid (Lz.bu s.data.toList=false):=by
   show _=_;have hl:s.data.toList.length≠2:=h2;generalize s.data.toList=l at hl
   match l,hl with
   | [],_=>rfl
   | [_],_=>rfl
   | [_,_],hl=>exact absurd rfl hl
   | _::_::_::_,_=>rfl
  go_enter Tryz.func32,Tryz.ntmps32
  go_wp2_with fail
  go_ret;rw[HV.out];exact⟨rfl,rfl⟩
theorem EH (s:ByteArray) (w:World):Calls Tryz.prog 31 #[.string s] w fun e w'=>e=.returned (.bool (Lz.bu s.data.toList&&s.data.toList[1]? ==some 58))/\w=w':=by
 have cD:=mS s w;cases hq:Lz.bu s.data.toList with
 | false=>
   rw[hq]at cD;have CD:=Ih cD;clear cD hq;go_enter Tryz.func31,Tryz.ntmps31
   go_wp2_with fail
   refine CD.out.mono ?_;rintro e w1 ⟨rfl,rfl⟩
   go_wp2_with fail
   go_ret;exact⟨rfl,rfl⟩
 | true=>
   rw[hq]at cD
   have h2:s.size=2:=by
    rw[<-aa];generalize s.data.toList=l at hq
    match l,hq with
    | [_,_],_=>rfl
   have XH:1<s.size:=by omega
   have V8:(1:Int)<(s.size:Int):=by omega
   obtain⟨b,hb⟩:∃b,b=s[1]:=⟨_,rfl⟩;have hbI:(s[1].toNat:Int)=(b.toNat:Int):=by rw[hb]
   have b1:((b.toNat:Int)==58)=(b==58):=jx b 58;have HV:Hid ((s.data.toList[1]? ==some 58)=(b==58)):=by show _=_;rw[aw XH,<-hb];rfl
   generalize (b==58)=q at b1 HV;have CD:=Ih cD;clear cD hq hb h2;go_enter Tryz.func31,Tryz.ntmps31
   go_wp2_with fail
   refine CD.out.mono ?_;rintro e w1 ⟨rfl,rfl⟩
   go_wp2_with fail
   go_ret;rw[HV.out];exact⟨by first |rfl|(rw[b1];rfl)|simp[b1],rfl⟩
end Go.Proofs.YtlcbhacofagedaaGreatDoor
namespace Lz
open Go
def u0:af:={}
def NW (u:af) (s:Bs) (b:Option af):UR:=match b with
 | none=>.er 82
 | some x=>if x.opq&&(!s.isEmpty||u.hasQuery|| !u.hasFragment)then .er 82
   else if x.opq then .ok (uQ {u with scheme:=x.scheme,opq:=true} x [])
   else if x.scheme=fileS then da {u with scheme:=x.scheme} b s
   else yY {u with scheme:=x.scheme} x s
def nR (b:Option af) (t:Bs):UR:=(NW (qfU t u0) (mpU t) b).bind eZ
theorem FJ (t:Bs):nR none t=.er 82:=rfl
def okL (u:af) (a r:Bs) (b:Option af):UR:=
 if a=fileS then da u b r
 else if ae a then(match b with
  | some x=>if x.scheme=a/\Lib.hasPrefix r [47,47]=false then yY u x r else df u (r.drop (dM true r))
  | none=>df u (r.drop (dM true r)))
 else if Lib.hasPrefix r [47,47]then df u (r.drop 2)
 else if Lib.hasPrefix r [47]then .ok (onP u (r.drop 1))
 else .ok {u with opq:=true,path:=[ah [] r]}
theorem Jj (u:af) (s:Bs) (b:Option af) {a r:Bs} (h:bp s=(a,r,true)):fN u s b=okL {u with scheme:=a} a r b:=by
 unfold fN okL;rw[h];cases b<;>rfl
theorem rj (u:af) (s:Bs) (b:Option af) (h:(bp s).2.2=false):fN u s b=NW u s b:=by
 unfold fN NW;simp only[h];cases b<;>rfl
def okD (b:Option af) (a t:Bs):UR:=(okL (qfU t {u0 with scheme:=a}) a (mpU t) b).bind eZ
theorem M2 (b:Option af) (t:Bs):okD b fileS t=yl {u0 with scheme:=fileS} b t:=by
 unfold okD okL;rw[if_pos rfl];rfl
theorem NS {b:Option af} {a:Bs} (h1:a≠fileS) (h2:ae a=true) (h3:∀x,b=some x->x.scheme≠a) (t:Bs):okD b a t=pX {u0 with scheme:=a} t:=by
 unfold okD okL;rw[if_neg h1,if_pos h2]
 have e:pX {u0 with scheme:=a} t=(df (qfU t {u0 with scheme:=a}) ((mpU t).drop (dM true (mpU t)))).bind eZ:=by
  unfold pX;show(df _ (List.drop (dM (ae a) _) _)).bind eZ=_;rw[h2]
 rw[e];cases b with
 | none=>rfl
 | some x=>
   simp only;rw[if_neg (fun e=>h3 x rfl e.1)]
theorem Ku {b:Option af} {a:Bs} (h1:a≠fileS) (h2:ae a=false) (t:Bs):okD b a (47::t)=dPA {u0 with scheme:=a} t:=by
 unfold okD okL;rw[if_neg h1,if_neg (by rw[h2];simp),No,NP];cases t with
 | nil=>
   rw[if_neg (by simp),if_pos (by simp),dPA,gu,fp (by decide) (by decide),iC (by decide) (by decide)];rfl
 | cons c r=>
   unfold dPA;simp only;by_cases hc:c=47
   ·subst hc;rw[if_pos (by simp),if_pos rfl,qn _ rfl rfl,fp (by decide) (by decide),iC (by decide) (by decide),fp (by decide) (by decide),iC (by decide) (by decide)];rfl
   ·rw[if_neg (by simp[hc]),if_pos (by simp),if_neg hc,gu,fp (by decide) (by decide),iC (by decide) (by decide)];rfl
theorem QC {b:Option af} {a:Bs} (h1:a≠fileS) (h2:ae a=false) {t:Bs} (ht:t.head? ≠some 47):okD b a t=ve {u0 with scheme:=a,opq:=true,path:=[[]]} t:=by
 unfold okD okL;have h0:¬(t[0]? =some 47):=by rw[<-List.head?_eq_getElem?];exact ht
 rw[if_neg h1,if_neg (by rw[h2];simp),No,NP,if_neg (by simp[h0]),if_neg (by simp[h0])];rfl
def qK (b:Option af) (s0 buf t:Bs):UR:=match t.dropWhile be with
 | c::r=>if c=58 then okD b (buf++low (t.takeWhile be)) r else nR b s0
 | []=>nR b s0
theorem yd (b:Option af) (s0 buf:Bs) {c:UInt8} (hc:be c=true) (t:Bs):qK b s0 buf (c::t)=qK b s0 (buf++[low1 c]) t:=by
 unfold qK;rw[List.dropWhile_cons,List.takeWhile_cons,if_pos hc,if_pos hc];cases t.dropWhile be with
 | nil=>rfl
 | cons d r=>simp[low]
theorem Eo (b:Option af) (s0 buf t:Bs):qK b s0 buf (58::t)=okD b buf t:=by
 unfold qK;rw[List.dropWhile_cons,List.takeWhile_cons,if_neg (by decide),if_neg (by decide)]
 simp[low]
theorem Mk (b:Option af) (s0 buf:Bs) {c:UInt8} (hc:be c=false) (h:c≠58) (t:Bs):qK b s0 buf (c::t)=nR b s0:=by
 unfold qK;rw[List.dropWhile_cons,if_neg (by rw[hc];simp)];simp only;rw[if_neg h]
theorem LD (b:Option af) (s0 buf:Bs):qK b s0 buf []=nR b s0:=rfl
theorem NQ:∀c:UInt8,be c=true->c≠63/\c≠35/\c≠58:=au (by decide +kernel)
theorem LJ:∀(k r:Bs),k.all be=true->mpU (k++r)=k++mpU r/\∀u,qfU (k++r) u=qfU r u
 | [],r,_=>⟨rfl,fun _=>rfl⟩
 | c::k,r,h=>by
   rw[List.all_cons,Bool.and_eq_true]at h;obtain⟨i1,i2⟩:=LJ k r h.2;obtain⟨h1,h2,_⟩:=NQ c h.1;rw[List.cons_append,fp h1 h2,i1];exact⟨rfl,fun u=>by rw[iC h1 h2,i2]⟩
theorem sy {k m:Bs} (hk:k.all be=true) (hm:∀c,m.head? =some c->be c=false/\c≠58):(bp (k++m)).2.2=false:=by
 rw[mz];split
 ·rename_i h
  exfalso
  unfold mx at h;simp only[Bool.and_eq_true]at h;obtain⟨⟨⟨h1,h2⟩,h3⟩,h4⟩:=h;obtain⟨f1,f2,f3,f4⟩:=fi 58 (k++m);generalize Lib.cut (k++m) [58]=z at h1 h2 h3 h4 f1 f2 f3 f4;have e:=f4 h1
  have d1:(k++m).dropWhile be=m:=by
   rw[List.dropWhile_append_of_pos (by intro a ha;exact List.all_eq_true.1 hk a ha)];cases m with
   | nil=>rfl
   | cons c r=>rw[List.dropWhile_cons,if_neg (by rw[(hm c rfl).1];simp)]
  rw[e,List.dropWhile_append_of_pos (by intro a ha;exact List.all_eq_true.1 h4 a ha),List.dropWhile_cons,if_neg (by decide)]at d1;exact(hm 58 (by rw[<-d1];rfl)).2 rfl
 ·rfl
theorem zr {m:Bs} (hm:∀c,m.head? =some c->aW c=false):(bp m).2.2=false:=by
 rw[mz];split
 ·rename_i h
  exfalso
  unfold mx at h;simp only[Bool.and_eq_true]at h;obtain⟨⟨⟨h1,h2⟩,h3⟩,h4⟩:=h;obtain⟨f1,f2,f3,f4⟩:=fi 58 m;generalize Lib.cut m [58]=z at h1 h2 h3 h4 f1 f2 f3 f4;have e:=f4 h1;obtain⟨a,b,q⟩:=z;cases a with
  | nil=>simp at h2
  | cons c r=>
    have:=hm c (by rw[e];rfl);simp only at h3;rw[this]at h3;cases h3
 ·rfl
theorem Da {p:UInt8->Prop} {t:Bs} (h:∀c,t.head? =some c->p c):∀c,(mpU t).head? =some c->p c:=by
 cases t with
 | nil=>rw[gG];intro c hc;cases hc
 | cons x r=>
   have hx:=h x rfl;by_cases h1:x=63
   ·subst h1;rw[nS];intro c hc;cases hc
   ·by_cases h2:x=35
    ·subst h2;rw[og];intro c hc;cases hc
    ·rw[fp h1 h2];intro c hc;cases hc;exact hx
theorem sO (p:UInt8->Bool) (t:Bs):t.takeWhile p++t.dropWhile p=t:=List.takeWhile_append_dropWhile
theorem all_takeWhile (p:UInt8->Bool) (t:Bs):(t.takeWhile p).all p=true:=by
 induction t with
 | nil=>rfl
 | cons c r ih=>
   rw[List.takeWhile_cons];split
   ·rename_i h;rw[List.all_cons,h,ih];rfl
   ·rfl
theorem vq (p:UInt8->Bool) (t:Bs):∀c,(t.dropWhile p).head? =some c->p c=false:=by
 induction t with
 | nil=>intro c hc;cases hc
 | cons x r ih=>
   rw[List.dropWhile_cons];split
   ·exact ih
   ·rename_i h;intro c hc;cases hc;simpa using h
def lG (b:Option af) (t:Bs):UR:=(fN (qfU t u0) (mpU t) b).bind eZ
theorem Db (s:Bs) (b:Option af):lT s b=lG b (cf s):=rfl
theorem Jy (b:Option af) {t:Bs} (h:∀c,t.head? =some c->aW c=false):lG b t=nR b t:=by
 unfold lG nR;rw[rj _ _ _ (zr (Da h))]
theorem By (b:Option af) {c:UInt8} (hc:aW c=true) (t:Bs):lG b (c::t)=qK b (c::t) [low1 c] t:=by
 have Lq:be c=true:=by unfold be;rw[hc];rfl
 rw[show qK b (c::t) [low1 c] t=qK b (c::t) [] (c::t) by rw[yd b _ [] Lq];rfl];unfold lG qK;have e:=sO be (c::t);have ha:=all_takeWhile be (c::t);have hd:=vq be (c::t);have hk:((c::t).takeWhile be).head? =some c:=by rw[List.takeWhile_cons,if_pos Lq];rfl
 generalize hx:(c::t).takeWhile be=k at e ha hk⊢;generalize hy:(c::t).dropWhile be=r at e hd⊢;obtain⟨m1,m2⟩:=LJ k r ha;rw[e]at m1 m2;rw[m1,m2];have VW:k≠[]:=by intro h;rw[h]at hk;cases hk
 have hka:∀d,k.head? =some d->aW d=true:=by intro d hd;rw[hk]at hd;cases hd;exact hc
 cases r with
 | nil=>
   simp only;rw[rj _ _ _ (sy ha (by rw[gG];intro d hd;cases hd))];unfold nR;rw[m1,m2]
 | cons d r=>
   simp only;by_cases iU:d=58
   ·subst iU;rw[if_pos rfl,fp (by decide) (by decide),iC (by decide) (by decide),Jj _ _ _ (Fa VW hka ha (mpU r))];rfl
   ·rw[if_neg iU,rj _ _ _ (sy ha (Da (by intro x hx;cases hx;exact⟨hd _ rfl,iU⟩)))];unfold nR;rw[m1,m2]
inductive Stt where
 | start|scheme|none|spRel|pa|rel|relS|spSl|ign|auth|host|port|file|fileS|fileH|pStart|path|opq|query|frag
structure RV where
 buf:Bs:=[]
 a:Bool:=false
 pass:Bool:=false
 inside:Bool:=false
 u:af:=u0
def rk:Stt->Nat
 | .start=>13| .scheme=>12| .none=>11| .spRel=>10| .rel=>9| .file=>9| .relS=>8| .spSl=>8| .fileS=>8| .ign=>7| .pa=>7| .fileH=>7
 | .auth=>6| .host=>5| .port=>4| .pStart=>3| .path=>2| .opq=>2| .query=>1| .frag=>0
def nO (u:af):Prop:=u={u0 with scheme:=u.scheme}
theorem nO.bare {u:af} (h:nO u):iG u:=by rw[show u=_ from h];exact⟨rfl,rfl,rfl,rfl⟩
theorem nO.parts {u:af} (h:nO u):u.user=[]/\u.pass=[]/\u.hasHost=false/\u.host=[]/\u.port= -1/\u.opq=false/\u.path=[]:=by rw[show u=_ from h];exact⟨rfl,rfl,rfl,rfl,rfl,rfl,rfl⟩
def xX (u:af):Prop:=iG u/\u.path=[]/\u.port= -1
theorem nO.early {u:af} (h:nO u):xX u:=⟨h.bare,h.parts.2.2.2.2.2.2,h.parts.2.2.2.2.1⟩
def cl (u:af):RV:={u:=u}
def stM (b:Option af) (s:Bs) (goal:UR) (v:RV) (i:Nat):Stt->Prop
 | .start=>i=0/\v=cl u0/\goal=lG b s
 | .scheme=>v.buf.length<=i/\v={cl u0 with buf:=v.buf}/\goal=qK b s v.buf (s.drop i)
 | .none=>i=0/\v=cl u0/\goal=nR b s
 | .spRel=>nO v.u/\v=cl v.u/\∃x,b=some x/\v.u.scheme=x.scheme/\goal=Vc v.u x (s.drop i)
 | .pa=>nO v.u/\v=cl v.u/\goal=dPA v.u (s.drop i)
 | .rel=>nO v.u/\v=cl v.u/\∃x,b=some x/\v.u.scheme=x.scheme/\goal=YE v.u x (s.drop i)
 | .relS=>nO v.u/\v=cl v.u/\∃x,b=some x/\v.u.scheme=x.scheme/\goal=XS v.u x (s.drop i)
 | .spSl=>nO v.u/\v=cl v.u/\goal=pX v.u (s.drop i)
 | .ign=>nO v.u/\v=cl v.u/\goal=pX v.u (s.drop i)
 | .auth=>xX v.u/\v.inside=false/\v.buf.length<=i/\s.drop (i-v.buf.length)=v.buf++s.drop i/\v.u.user.length+v.u.pass.length+3*v.buf.length<=12*i/\(64:UInt8)∉v.buf/\(∀c∈v.buf,dO (ae v.u.scheme) c=false)/\goal=iQ v.u v.a v.pass v.buf (s.drop i)
 | .host=>xX v.u/\v.buf.length<=i/\De v.inside v.buf/\goal=me v.u v.buf (s.drop i)
 | .port=>xX v.u/\v.buf.length<=i/\v.buf.all aA=true/\goal=l9 v.u v.buf (s.drop i)
 | .file=>nO v.u/\v=cl v.u/\v.u.scheme=fileS/\goal=yl v.u b (s.drop i)
 | .fileS=>(v.u={u0 with scheme:=fileS,hasHost:=true})/\v=cl v.u/\goal=Ex v.u b (s.drop i)
 | .fileH=>(v.u={u0 with scheme:=fileS,hasHost:=true})/\v.buf.length<=i/\goal=kh v.u v.buf (s.drop i)
 | .pStart=>iG v.u/\v.buf=[]/\v.u.path=[]/\goal=dPS v.u (s.drop i)
 | .path=>iG v.u/\v.u.path.length<=1000000+i/\v.buf.length<=3*i/\goal=eh v.u v.buf (s.drop i)
 | .opq=>iG v.u/\(∃x,v.u.path=[x]/\x.length<=3*i)/\goal=ve v.u (s.drop i)
 | .query=>v.u.fragment=[]/\v.u.hasFragment=false/\v.u.query.length<=3*i/\goal=ip v.u (s.drop i)
 | .frag=>v.u.fragment.length<=3*i/\goal=ks v.u (s.drop i)
def bS (b:Option af) (s:Bs) (goal:UR) (v:RV) (i:Nat) (st:Stt):Prop:=i<=s.length/\stM b s goal v i st
def aB (b:Option af) (s:Bs) (goal:UR) (o9:Stt) (i0:Nat) (st:Stt) (v:RV) (j:Int):Prop:=
 ((s.length:Int)<=j/\goal=.ok v.u)\/(j<(s.length:Int)/\∃i:Nat,j+1=(i:Int)/\bS b s goal v i st/\(rk st<rk o9\/st=o9/\i0<i))
def muM (s:Bs) (i:Nat) (st:Stt):Nat:=rk st*(s.length+2)+(s.length-i)
theorem GO {s:Bs} {i0 i:Nat} {o9 st:Stt} (h0:i0<=s.length) (h:i<=s.length) (hr:rk st<rk o9\/st=o9/\i0<i):muM s i st<muM s i0 o9:=by
 unfold muM;rcases hr with hr|⟨rfl,hr⟩
 ·have:rk st*(s.length+2)+(s.length+2)<=rk o9*(s.length+2):=by rw[<-Nat.succ_mul];exact Nat.mul_le_mul_right _ hr
  omega
 ·omega
def Rd (s:Bs) (sp:Bool) (i:Nat) (e:Bool) (c nx:UInt8) (sl ov:Bool):Prop:=
 (e=true/\i=s.length/\s.drop i=[]/\c=0/\nx=0/\sl=false/\ov=true)\/
 (e=false/\i<s.length/\s.drop i=c::s.drop (i+1)/\nx=(s.drop (i+1)).headD 0/\sl=aG sp c/\ov=dO sp c)
section
variable {b:Option af} {s:Bs} {goal:UR} {v:RV} {i:Nat} {sp e:Bool} {c nx:UInt8} {sl ov:Bool}
theorem bI {o9 st:Stt} {v':RV} (hi:i<s.length) (h:stM b s goal v' (i+1) st) (hr:rk st<rk o9\/st=o9):aB b s goal o9 i st v' (i:Int):=
 .inr ⟨by omega,i+1,by omega,⟨by omega,h⟩,hr.imp id (fun h=>⟨h,by omega⟩)⟩
theorem fo {o9 st:Stt} {v':RV} (hi:i<=s.length) (h:stM b s goal v' i st) (hr:rk st<rk o9):aB b s goal o9 i st v' ((i:Int)-1):=
 .inr ⟨by omega,i,by omega,⟨hi,h⟩,.inl hr⟩
theorem L5 {o9 st:Stt} {v':RV} (hi:i+1<s.length) (h:stM b s goal v' (i+2) st) (hr:rk st<rk o9):aB b s goal o9 i st v' ((i:Int)+1):=
 .inr ⟨by omega,i+2,by omega,⟨by omega,h⟩,.inl hr⟩
theorem uP {o9 st:Stt} {v':RV} (hi:i=s.length) (h:goal=.ok v'.u):aB b s goal o9 i st v' (i:Int):=.inl ⟨by omega,h⟩
theorem Rd.some (h:Rd s sp i e c nx sl ov) (hc:c≠0):e=false/\i<s.length/\s.drop i=c::s.drop (i+1)/\nx=(s.drop (i+1)).headD 0/\sl=aG sp c/\ov=dO sp c:=by
 rcases h with h|h
 ·exact absurd h.2.2.2.1 hc
 ·exact h
theorem Rd.no (h:Rd s sp i e c nx sl ov) (he:e=false):i<s.length/\s.drop i=c::s.drop (i+1)/\nx=(s.drop (i+1)).headD 0/\sl=aG sp c/\ov=dO sp c:=by
 rcases h with h|h
 ·rw[he]at h;exact absurd h.1 (by simp)
 ·exact h.2
theorem Rd.yes (h:Rd s sp i e c nx sl ov) (he:e=true):i=s.length/\s.drop i=[]:=by
 rcases h with h|h
 ·exact⟨h.2.1,h.2.2.1⟩
 ·rw[he]at h;exact absurd h.1 (by simp)
theorem Rd.le (h:Rd s sp i e c nx sl ov):i<=s.length:=by rcases h with h|h<;>omega
theorem Rd.nover (h:Rd s sp i e c nx sl ov) (ho:ov=false):e=false/\i<s.length/\s.drop i=c::s.drop (i+1)/\dO sp c=false:=by
 rcases h with h|h
 ·rw[ho]at h;exact absurd h.2.2.2.2.2.2 (by simp)
 ·exact⟨h.1,h.2.1,h.2.2.1,by rw[<-h.2.2.2.2.2,ho]⟩
theorem Rd.over (h:Rd s sp i e c nx sl ov) (ho:ov=true):lq sp (s.drop i):=by
 rcases h with h|h
 ·rw[h.2.2.1];intro d hd;cases hd
 ·rw[h.2.2.1];intro d hd;cases hd;rw[<-h.2.2.2.2.2,ho]
theorem Rd.slash (h:Rd s sp i e c nx sl ov) (ho:sl=true):e=false/\i<s.length/\s.drop i=c::s.drop (i+1)/\aG sp c=true:=by
 rcases h with h|h
 ·rw[ho]at h;exact absurd h.2.2.2.2.2.1 (by simp)
 ·exact⟨h.1,h.2.1,h.2.2.1,by rw[<-h.2.2.2.2.1,ho]⟩
theorem Rd.nslash (h:Rd s sp i e c nx sl ov) (ho:sl=false):∀d,(s.drop i).head? =Option.some d->aG sp d=false:=by
 rcases h with h|h
 ·rw[h.2.2.1];intro d hd;cases hd
 ·rw[h.2.2.1];intro d hd;cases hd;rw[<-h.2.2.2.2.1,ho]
theorem xP {j:Nat} {k:UInt8} (hk:k≠0) (h:k=(s.drop j).headD 0):j<s.length/\s.drop j=k::s.drop (j+1):=by
 cases hd:s.drop j with
 | nil=>rw[hd]at h;exact absurd h hk
 | cons x r=>
   rw[hd]at h
   have hl:j<s.length:=by
    rcases Nat.lt_or_ge j s.length with h|h
    ·exact h
    ·rw[List.drop_eq_nil_of_le h]at hd;cases hd
   refine⟨hl,?_⟩;have:k=x:=h;rw[this];rw[List.drop_eq_getElem_cons hl]at hd;injection hd with h1 h2
   rw[h2]
end
section
variable {b:Option af} {s:Bs} {goal:UR} {v:RV} {i:Nat} {sp e:Bool} {c nx:UInt8} {sl ov:Bool}
theorem JB (hI:bS b s goal v i .start) (hR:Rd s sp i e c nx sl ov) (he:e=false) (hc:aW c=true):aB b s goal .start i .scheme {v with buf:=[low1 c]} (i:Int):=by
 obtain⟨_,rfl,rfl,hg⟩:=hI;obtain⟨h1,h2,_⟩:=hR.no he;refine bI h1 ⟨by simp,rfl,?_⟩ (.inl (by decide));rw[List.drop_zero]at h2;rw[hg]
 conv=>lhs;rw[h2]
 rw[By b hc,<-h2]
theorem xB (hI:bS b s goal v i .start) (hR:Rd s sp i e c nx sl ov) (hc:e=false->aW c=false):aB b s goal .start i .none v ((i:Int)-1):=by
 obtain⟨_,rfl,rfl,hg⟩:=hI;refine fo (Nat.zero_le _) ⟨rfl,rfl,?_⟩ (by decide);rw[hg];refine Jy b ?_;rcases hR with h|h
 ·have:=h.2.2.1;rw[List.drop_zero]at this;rw[this];intro d hd;cases hd
 ·have:=h.2.2.1;rw[List.drop_zero]at this;rw[this];intro d hd;cases hd;exact hc h.1
theorem PU (hI:bS b s goal v i .scheme) (hR:Rd s sp i e c nx sl ov) (he:e=false) (hc:be c=true):aB b s goal .scheme i .scheme {v with buf:=v.buf++[low1 c]} (i:Int):=by
 obtain⟨_,h0,hv,hg⟩:=hI;obtain⟨h1,h2,_⟩:=hR.no he;refine bI h1 ⟨by simp;omega,?_,?_⟩ (.inr rfl)
 ·rw[hv]
 ·rw[hg,h2,yd b s _ hc]
theorem tH (hI:bS b s goal v i .scheme) (hR:Rd s sp i e c nx sl ov) (hc:c=58):i<s.length/\goal=okD b v.buf (s.drop (i+1))/\nx=(s.drop (i+1)).headD 0:=by
 obtain⟨_,h0,hv,hg⟩:=hI;subst hc;obtain⟨_,h1,h2,h3,_⟩:=hR.some (by decide);exact⟨h1,by rw[hg,h2,Eo],h3⟩
theorem GI (hI:bS b s goal v i .scheme):({v with buf:=[],u:={v.u with scheme:=v.buf}}:RV)=cl {u0 with scheme:=v.buf}/\({v with buf:=[],u:={v.u with scheme:=v.buf,opq:=true,path:=[[]]}}:RV)=cl {u0 with scheme:=v.buf,opq:=true,path:=[[]]}:=by
 obtain⟨_,h0,hv,hg⟩:=hI;obtain⟨bf,a,p,n,u⟩:=v;injection hv with _ h1 h2 h3 h4
 subst h1 h2 h3 h4;exact⟨rfl,rfl⟩
theorem D7 (hI:bS b s goal v i .scheme) (hR:Rd s sp i e c nx sl ov) (hc:c=58) (hf:v.buf=fileS):aB b s goal .scheme i .file {v with buf:=[],u:={v.u with scheme:=v.buf}} (i:Int):=by
 obtain⟨h1,h2,_⟩:=tH hI hR hc;rw[(GI hI).1];exact bI h1 ⟨rfl,rfl,hf,by rw[h2,hf,M2];rfl⟩ (.inl (by decide))
theorem Mq (hI:bS b s goal v i .scheme) (hR:Rd s sp i e c nx sl ov) (hc:c=58) (hf:v.buf≠fileS) (hs:ae v.buf=true) (hb:∀x,b=some x->x.scheme≠v.buf):aB b s goal .scheme i .spSl {v with buf:=[],u:={v.u with scheme:=v.buf}} (i:Int):=by
 obtain⟨h1,h2,_⟩:=tH hI hR hc;rw[(GI hI).1];exact bI h1 ⟨rfl,rfl,by rw[h2,NS hf hs hb];rfl⟩ (.inl (by decide))
theorem NG (hI:bS b s goal v i .scheme) (hR:Rd s sp i e c nx sl ov) (hc:c=58) (hf:v.buf≠fileS) (hs:ae v.buf=false) (hn:nx=47):aB b s goal .scheme i .pa {v with buf:=[],u:={v.u with scheme:=v.buf}} ((i:Int)+1):=by
 obtain⟨h1,h2,h3⟩:=tH hI hR hc;rw[(GI hI).1];subst hn;obtain⟨h4,h5⟩:=xP (by decide) h3;exact L5 h4 ⟨rfl,rfl,by rw[h2,h5,Ku hf hs];rfl⟩ (by decide)
theorem IF (hI:bS b s goal v i .scheme) (hR:Rd s sp i e c nx sl ov) (hc:c=58) (hf:v.buf≠fileS) (hs:ae v.buf=false) (hn:nx≠47):aB b s goal .scheme i .opq {v with buf:=[],u:={v.u with scheme:=v.buf,opq:=true,path:=[[]]}} (i:Int):=by
 obtain⟨h1,h2,h3⟩:=tH hI hR hc;rw[(GI hI).2];refine bI h1 ⟨⟨rfl,rfl,rfl,rfl⟩,⟨[],rfl,by simp⟩,?_⟩ (.inl (by decide));rw[h2,QC hf hs ?_]
 ·rfl
 ·intro h;cases hd:s.drop (i+1)with
  | nil=>rw[hd]at h;cases h
  | cons y r=>rw[hd]at h h3;cases h;exact hn h3
theorem Q2 (hI:bS b s goal v i .scheme) (hR:Rd s sp i e c nx sl ov) (hc:e=false->be c=false) (iU:c≠58):aB b s goal .scheme i .none {v with buf:=[]} (-1):=by
 obtain⟨_,h0,hv,hg⟩:=hI;refine .inr ⟨by omega,0,by omega,⟨Nat.zero_le _,rfl,?_,?_⟩,.inl (by decide)⟩
 ·rw[hv];rfl
 ·rcases hR with h|h
  ·rw[hg,h.2.2.1,LD]
  ·rw[hg,h.2.2.1,Mk b s _ (hc h.1) iU]
theorem JS (hI:bS none s goal v i .none):goal=.er 82:=by
 obtain⟨_,_,_,hg⟩:=hI;rw[hg,FJ]
theorem IS (hI:bS b s goal v i .pa) (hR:Rd s sp i e c nx sl ov) (hc:c=47):aB b s goal .pa i .auth v (i:Int):=by
 obtain⟨_,hF,hv,hg⟩:=hI;subst hc;obtain⟨_,h1,h2,_⟩:=hR.some (by decide);have hp:=hF.parts;rw[hv];refine bI h1 ⟨hF.early,rfl,Nat.zero_le _,rfl,?_,by simp[cl],fun d hd=>by simp[cl]at hd,?_⟩ (.inl (by decide))
 ·show v.u.user.length+v.u.pass.length+0<=_;rw[hp.1,hp.2.1];simp
 ·rw[hg,h2];rfl
theorem Kv (hI:bS b s goal v i .pa) (hR:Rd s sp i e c nx sl ov) (hc:c≠47):aB b s goal .pa i .path v ((i:Int)-1):=by
 obtain⟨_,hF,hv,hg⟩:=hI;rw[hv];refine fo hR.le ⟨hF.bare,?_,Nat.zero_le _,?_⟩ (by decide)
 ·show v.u.path.length<=_;rw[hF.parts.2.2.2.2.2.2];simp
 ·rw[hg];rcases hR with h|h
  ·rw[h.2.2.1];rfl
  ·rw[h.2.2.1];show(if c=47 then _ else _)=_;rw[if_neg hc];rfl
theorem Fx (hI:bS b s goal v i .spSl) (hR:Rd s sp i e c nx sl ov) (hc:c=47) (hn:nx=47):aB b s goal .spSl i .ign v ((i:Int)+1):=by
 obtain⟨_,hF,hv,hg⟩:=hI;subst hc;subst hn;obtain⟨_,h1,h2,h3,_⟩:=hR.some (by decide);obtain⟨h4,h5⟩:=xP (by decide) h3;exact L5 h4 ⟨hF,hv,by rw[hg,h2,h5,LZ]⟩ (by decide)
theorem yt (hI:bS b s goal v i .spSl) (hR:Rd s sp i e c nx sl ov):aB b s goal .spSl i .ign v ((i:Int)-1):=by
 obtain⟨_,hF,hv,hg⟩:=hI;exact fo hR.le ⟨hF,hv,hg⟩ (by decide)
theorem Cm (hI:bS b s goal v i .ign) (hR:Rd s (ae v.u.scheme) i e c nx sl ov) (hs:sl=true):aB b s goal .ign i .ign v (i:Int):=by
 obtain⟨_,hF,hv,hg⟩:=hI;obtain⟨_,h1,h2,h3⟩:=hR.slash hs;exact bI h1 ⟨hF,hv,by rw[hg,h2,oO h3]⟩ (.inr rfl)
theorem Ej (hF:nO v.u) (hv:v=cl v.u) (hg:goal=iQ v.u false false [] (s.drop i)):stM b s goal v i .auth:=by
 have hp:=hF.parts;rw[hv];refine⟨hF.early,rfl,Nat.zero_le _,rfl,?_,by simp[cl],fun d hd=>by simp[cl]at hd,hg⟩;show v.u.user.length+v.u.pass.length+0<=_;rw[hp.1,hp.2.1];simp
theorem Ek (hI:bS b s goal v i .ign) (hR:Rd s (ae v.u.scheme) i e c nx sl ov) (hs:sl=false):aB b s goal .ign i .auth v ((i:Int)-1):=by
 obtain⟨_,hF,hv,hg⟩:=hI;refine fo hR.le (Ej hF hv ?_) (by decide);rw[hg,Ry hF.parts.1 hF.parts.2.1 (hR.nslash hs)]
theorem yj (sc:Bs) (p:List Bs):(bJ sc p).length<=p.length:=by
 unfold bJ;split<;>simp
theorem PQ (u:af) (a pass:Bool) (x:Bs):(ki u a pass x).user.length+(ki u a pass x).pass.length<=u.user.length+u.pass.length+3*x.length+6:=by
 have hz:(jN a x).length<=x.length+1:=by unfold jN;split<;>simp
 unfold ki;split
 ·have:=dD (bc 5) (jN a x);simp only[List.length_append];omega
 ·have h1:=dD (bc 5) (Lib.cut (jN a x) [58]).1;have h2:=dD (bc 5) (Lib.cut (jN a x) [58]).2.1;have hf:=fi 58 (jN a x);obtain⟨f1,f2,f3,f4⟩:=hf
  have hl:(Lib.cut (jN a x) [58]).1.length+(Lib.cut (jN a x) [58]).2.1.length<=(jN a x).length:=by
   generalize Lib.cut (jN a x) [58]=z at f1 f2 f3 f4;obtain⟨p,q,r⟩:=z;cases r with
   | false=>obtain⟨e1,e2⟩:=f2 rfl;simp only at e1 e2⊢;rw[e1,e2];simp
   | true=>have:=f4 rfl;simp only at this⊢;rw[this];simp
  simp only[List.length_append];omega
theorem JG {u:af} (h:xX u) (a pass:Bool) (x:Bs):xX (ki u a pass x):=by
 unfold ki;split<;>exact h
theorem Kc (hI:bS b s goal v i .auth) (hR:Rd s (ae v.u.scheme) i e c nx sl ov) (hc:c=64):aB b s goal .auth i .auth {v with buf:=[],a:=true,pass:=Fu v.a v.pass v.buf,u:=ki v.u v.a v.pass v.buf} (i:Int):=by
 obtain⟨_,h1,h2,h3,h4,h5,h6,h7,hg⟩:=hI;subst hc;obtain⟨_,k1,k2,_⟩:=hR.some (by decide);refine bI k1 ⟨JG h1 _ _ _,h2,Nat.zero_le _,rfl,?_,by simp,by simp,?_⟩ (.inr rfl)
 ·have:=PQ v.u v.a v.pass v.buf;show(ki v.u v.a v.pass v.buf).user.length+(ki v.u v.a v.pass v.buf).pass.length+3*0<=_;omega
 ·rw[hg,k2,MM h6]
theorem Jh (hI:bS b s goal v i .auth) (hR:Rd s (ae v.u.scheme) i e c nx sl ov) (ho:ov=true) (ha:v.a=true) (hb:v.buf=[]):goal=.er 70:=by
 obtain⟨_,h1,h2,h3,h4,h5,h6,h7,hg⟩:=hI;rw[hg,uB h6 h7 (hR.over ho),if_pos ⟨ha,hb⟩]
theorem AR (hI:bS b s goal v i .auth) (hR:Rd s (ae v.u.scheme) i e c nx sl ov) (ho:ov=true) (hn:¬(v.a=true/\v.buf=[])):aB b s goal .auth i .host {v with buf:=[]} ((i:Int)-(v.buf.length:Int)-1):=by
 obtain⟨h0,h1,h2,h3,h4,h5,h6,h7,hg⟩:=hI;refine .inr ⟨by omega,i-v.buf.length,by omega,⟨by omega,h1,Nat.zero_le _,?_,?_⟩,.inl (by decide)⟩
 ·show De v.inside [];rw[h2];exact LF
 ·rw[hg,uB h6 h7 (hR.over ho),if_neg hn,h4]
theorem Ii (sp:Bool):dO sp 58=false:=by cases sp<;>rfl
theorem MW (hI:bS b s goal v i .auth) (hR:Rd s (ae v.u.scheme) i e c nx sl ov) (ho:ov=false) (hc:c≠64):aB b s goal .auth i .auth {v with buf:=v.buf++[c]} (i:Int):=by
 obtain⟨h0,h1,h2,h3,h4,h5,h6,h7,hg⟩:=hI;obtain⟨_,k1,k2,k3⟩:=hR.nover ho;refine bI k1 ⟨h1,h2,?_,?_,?_,?_,?_,?_⟩ (.inr rfl)
 ·simp;omega
 ·show s.drop (i+1-(v.buf++[c]).length)=(v.buf++[c])++s.drop (i+1);rw[List.length_append,List.length_singleton,show i+1-(v.buf.length+1)=i-v.buf.length by omega,h4,k2];simp
 ·simp only[List.length_append,List.length_singleton];omega
 ·simp only[List.mem_append,List.mem_singleton,not_or];exact⟨h6,fun h=>hc h.symm⟩
 ·intro d hd;simp only[List.mem_append,List.mem_singleton]at hd;rcases hd with hd|rfl
  ·exact h7 d hd
  ·exact k3
 ·rw[hg,k2,E0 k3]
theorem xl (hI:bS b s goal v i .host) (hR:Rd s (ae v.u.scheme) i e c nx sl ov) (hc:(c=58/\v.inside=false)\/ov=true) (hb:v.buf=[]) (hs:c=58\/ae v.u.scheme=true):goal=.er 70:=by
 obtain⟨h0,h1,h2,h3,hg⟩:=hI;rcases hc with⟨rfl,hi⟩|ho
 ·obtain⟨_,k1,k2,_⟩:=hR.some (by decide);rw[hi]at h3;rw[hg,k2,mM h3,if_pos hb]
 ·rcases hs with rfl|hs
  ·rcases hR with h|h
   ·exact absurd h.2.2.2.1 (by decide)
   ·have:=h.2.2.2.2.2;rw[ho]at this;rw[Ii]at this;exact absurd this (by decide)
  ·rw[hg,mr h3 (hR.over ho),if_pos ⟨hb,hs⟩]
theorem oD {n:Nat} (hI:bS b s goal v i .host) (hR:Rd s (ae v.u.scheme) i e c nx sl ov) (hc:(c=58/\v.inside=false)\/ov=true) (hb:¬(v.buf=[]/\(c=58\/ae v.u.scheme=true))) (hh:aD v.buf (ae v.u.scheme)=.er n):goal=.er n:=by
 obtain⟨h0,h1,h2,h3,hg⟩:=hI;rcases hc with⟨rfl,hi⟩|ho
 ·obtain⟨_,k1,k2,_⟩:=hR.some (by decide);rw[hi]at h3;rw[hg,k2,mM h3,if_neg (fun h=>hb ⟨h,.inl rfl⟩),bQ,hh]
 ·rw[hg,mr h3 (hR.over ho),if_neg (fun h=>hb ⟨h.1,.inr h.2⟩),bQ,hh]
theorem BF {h:Bs} (hI:bS b s goal v i .host) (hR:Rd s (ae v.u.scheme) i e c nx sl ov) (hc:c=58) (hi:v.inside=false\/ov=true) (hb:v.buf≠[]) (hh:aD v.buf (ae v.u.scheme)=.ok h):
  aB b s goal .host i .port {v with buf:=[],u:={v.u with host:=h,hasHost:=true}} (i:Int):=by
 obtain⟨h0,h1,h2,h3,hg⟩:=hI;subst hc;obtain⟨_,k1,k2,_,_,k3⟩:=hR.some (by decide)
 have yG:v.inside=false:=by
  rcases hi with hi|hi
  ·exact hi
  ·rw[hi,Ii]at k3;exact absurd k3 (by decide)
 rw[yG]at h3;refine bI k1 ⟨h1,Nat.zero_le _,rfl,?_⟩ (.inl (by decide));rw[hg,k2,mM h3,if_neg hb,bQ,hh]
theorem xw {h:Bs} (hI:bS b s goal v i .host) (hR:Rd s (ae v.u.scheme) i e c nx sl ov) (ho:ov=true) (hb:¬(v.buf=[]/\ae v.u.scheme=true)) (hh:aD v.buf (ae v.u.scheme)=.ok h):
  aB b s goal .host i .pStart {v with buf:=[],u:={v.u with host:=h,hasHost:=true}} ((i:Int)-1):=by
 obtain⟨h0,h1,h2,h3,hg⟩:=hI;refine fo hR.le ⟨h1.1,rfl,h1.2.1,?_⟩ (by decide);rw[hg,mr h3 (hR.over ho),if_neg hb,bQ,hh]
theorem NT (hI:bS b s goal v i .host) (hR:Rd s (ae v.u.scheme) i e c nx sl ov) (ho:ov=false) (hc:¬(c=58/\v.inside=false)):aB b s goal .host i .host {v with buf:=v.buf++[c],inside:=if c=93 then false else if c=91 then true else v.inside} (i:Int):=by
 obtain⟨h0,h1,h2,h3,hg⟩:=hI;obtain⟨_,k1,k2,k3⟩:=hR.nover ho;refine bI k1 ⟨h1,by simp;omega,I5 h3 hc,?_⟩ (.inr rfl);rw[hg,k2,FK k3]
theorem Jm (hI:bS b s goal v i .port) (hR:Rd s (ae v.u.scheme) i e c nx sl ov) (ho:ov=true) (hp:lR v.u.scheme v.buf< -1):goal=.er 81:=by
 obtain⟨h0,h1,h2,h3,hg⟩:=hI;obtain⟨p1,p2,p3,p4⟩:=Nd h1.2.2 h3;rw[hg,uS (hR.over ho),p1 (by omega)]
theorem IG (hI:bS b s goal v i .port) (hR:Rd s (ae v.u.scheme) i e c nx sl ov) (ho:ov=true) (hp:¬lR v.u.scheme v.buf< -1):aB b s goal .port i .pStart {v with buf:=[],u:={v.u with port:=lR v.u.scheme v.buf}} ((i:Int)-1):=by
 obtain⟨h0,h1,h2,h3,hg⟩:=hI;obtain⟨p1,p2,p3,p4⟩:=Nd h1.2.2 h3;refine fo hR.le ⟨h1.1,rfl,h1.2.1,?_⟩ (by decide);rw[hg,uS (hR.over ho),p2 (by omega)]
theorem NF (hI:bS b s goal v i .port) (hR:Rd s (ae v.u.scheme) i e c nx sl ov) (ho:ov=false) (hc:aA c=true):aB b s goal .port i .port {v with buf:=v.buf++[c]} (i:Int):=by
 obtain⟨h0,h1,h2,h3,hg⟩:=hI;obtain⟨_,k1,k2,k3⟩:=hR.nover ho;refine bI k1 ⟨h1,by simp;omega,by simp[h3,hc],?_⟩ (.inr rfl);rw[hg,k2,EO k3]
theorem EF (hI:bS b s goal v i .port) (hR:Rd s (ae v.u.scheme) i e c nx sl ov) (ho:ov=false) (hc:aA c=false):goal=.er 81:=by
 obtain⟨h0,h1,h2,h3,hg⟩:=hI;obtain⟨_,k1,k2,k3⟩:=hR.nover ho;rw[hg,k2,I7 k3 hc]
end
section
variable {b:Option af} {s:Bs} {goal:UR} {v:RV} {i:Nat} {sp e:Bool} {c nx:UInt8} {sl ov:Bool}
theorem nO.file {u:af} (h:nO u) (hs:u.scheme=fileS):ua u={u0 with scheme:=fileS,hasHost:=true}:=by
 rw[show u=_ from h,hs];rfl
theorem pA (hI:bS b s goal v i .file) (hR:Rd s sp i e c nx sl ov) (hc:aG true c=true):aB b s goal .file i .fileS {v with u:=ua v.u} (i:Int):=by
 obtain⟨_,hF,hv,hs,hg⟩:=hI;have h0:c≠0:=by rintro rfl;exact absurd hc (by decide)
 obtain⟨_,h1,h2,_⟩:=hR.some h0;refine bI h1 ⟨hF.file hs,by rw[hv];rfl,?_⟩ (.inl (by decide));rw[hg,h2,C3 hs b hc]
theorem aaq (hR:Rd s sp i e c nx sl ov) (hc:aG true c=false):∀d,(s.drop i).head? =some d->aG true d=false:=by
 rcases hR with h|h
 ·rw[h.2.2.1];intro d hd;cases hd
 ·rw[h.2.2.1];intro d hd;cases hd;exact hc
theorem IE (hI:bS b s goal v i .file) (hR:Rd s sp i e c nx sl ov) (hc:aG true c=false) (hb:fb b=none):aB b s goal .file i .path {v with u:=ua v.u} ((i:Int)-1):=by
 obtain⟨_,hF,hv,hs,hg⟩:=hI;have rJ:v.buf=[]:=by rw[hv];rfl
 refine fo hR.le ⟨?_,?_,?_,?_⟩ (by decide)
 ·exact hF.bare
 ·show v.u.path.length<=_;rw[hF.parts.2.2.2.2.2.2];simp
 ·rw[rJ];exact Nat.zero_le _
 ·rw[hg,rJ,Ep hb (aaq hR hc)]
theorem Ff (hI:bS b s goal v i .fileS) (hR:Rd s (ae v.u.scheme) i e c nx sl ov) (hs:sl=true):aB b s goal .fileS i .fileH v (i:Int):=by
 obtain⟨_,hF,hv,hg⟩:=hI;obtain⟨_,h1,h2,h3⟩:=hR.slash hs;rw[show v.u.scheme=fileS by rw[hF]]at h3;have rJ:v.buf=[]:=by rw[hv];rfl
 refine bI h1 ⟨hF,by rw[rJ];exact Nat.zero_le _,?_⟩ (.inl (by decide));rw[hg,h2,rJ];exact if_pos h3
theorem JI (hI:bS b s goal v i .fileS) (hR:Rd s (ae v.u.scheme) i e c nx sl ov) (hs:sl=false):aB b s goal .fileS i .path {v with u:=pS v.u (fb b) (s.drop i)} ((i:Int)-1):=by
 obtain⟨_,hF,hv,hg⟩:=hI;have rJ:v.buf=[]:=by rw[hv];rfl
 have ic:=hR.nslash hs;rw[show v.u.scheme=fileS by rw[hF]]at ic;have hp:v.u.path=[]:=by rw[hF];rfl
 have SC:iG v.u:=by rw[hF];exact⟨rfl,rfl,rfl,rfl⟩
 refine fo hR.le ⟨?_,?_,?_,?_⟩ (by decide)
 ·show iG (pS v.u (fb b) (s.drop i));unfold pS;split
  ·split<;>exact SC
  ·exact SC
 ·show(pS v.u (fb b) (s.drop i)).path.length<=_;unfold pS;split
  ·split
   ·simp;omega
   ·simp[hp]
  ·simp[hp]
 ·rw[rJ];exact Nat.zero_le _
 ·rw[hg,rJ];cases hd:s.drop i with
  | nil=>rfl
  | cons d r=>
    show(if _ then _ else _)=_;exact if_neg (by have:=ic d (by rw[hd];rfl);rw[G6]at this;rw[this];simp)
theorem Uh (hI:bS b s goal v i .fileH) (hR:Rd s (ae v.u.scheme) i e c nx sl ov) (ho:ov=false):aB b s goal .fileH i .fileH {v with buf:=v.buf++[c]} (i:Int):=by
 obtain⟨_,hF,hl,hg⟩:=hI;obtain⟨_,h1,h2,h3⟩:=hR.nover ho;rw[show v.u.scheme=fileS by rw[hF]]at h3;refine bI h1 ⟨hF,by simp;omega,?_⟩ (.inr rfl);rw[hg,h2,AN h3]
theorem GN (hF:v.u={u0 with scheme:=fileS,hasHost:=true}) (hR:Rd s (ae v.u.scheme) i e c nx sl ov) (ho:ov=true):lq true (s.drop i):=by
 have:=hR.over ho;rw[show v.u.scheme=fileS by rw[hF]]at this;exact this
theorem Eu (hI:bS b s goal v i .fileH) (hR:Rd s (ae v.u.scheme) i e c nx sl ov) (ho:ov=true) (hd:bu v.buf=true):aB b s goal .fileH i .path v ((i:Int)-1):=by
 obtain⟨_,hF,hl,hg⟩:=hI;have VM:=GN hF hR ho;refine fo hR.le ⟨?_,?_,by omega,?_⟩ (by decide)
 ·rw[hF];exact⟨rfl,rfl,rfl,rfl⟩
 ·rw[hF];simp[u0]
 ·rw[hg,zZ (by rw[hF]) VM hd]
theorem Gt (hI:bS b s goal v i .fileH) (hR:Rd s (ae v.u.scheme) i e c nx sl ov) (ho:ov=true) (hd:bu v.buf=false):goal=if v.buf=[]then dPS v.u (s.drop i)else match aD v.buf true with
  | .er n=>.er n
  | .ok h=>dPS (if h=eE then v.u else{v.u with host:=h}) (s.drop i):=by
 obtain⟨_,hF,hl,hg⟩:=hI;rw[hg,BW (by rw[hF]) (by rw[hF];rfl) (by rw[hF]) (GN hF hR ho) hd]
 try (cases aD v.buf true<;>rfl)
theorem J0 (hI:bS b s goal v i .fileH) (hR:Rd s (ae v.u.scheme) i e c nx sl ov) (ho:ov=true) (hd:bu v.buf=false) (hb:v.buf=[]):aB b s goal .fileH i .pStart {v with buf:=[]} ((i:Int)-1):=by
 have hg:=Gt hI hR ho hd;obtain⟨_,hF,hl,_⟩:=hI;rw[if_pos hb]at hg;refine fo hR.le ⟨?_,rfl,?_,hg⟩ (by decide)
 ·show iG v.u;rw[hF];exact⟨rfl,rfl,rfl,rfl⟩
 ·show v.u.path=[];rw[hF];rfl
theorem QS {n:Nat} (hI:bS b s goal v i .fileH) (hR:Rd s (ae v.u.scheme) i e c nx sl ov) (ho:ov=true) (hd:bu v.buf=false) (hb:v.buf≠[]) (hh:aD v.buf true=.er n):goal=.er n:=by
 have hg:=Gt hI hR ho hd;rw[if_neg hb,hh]at hg;exact hg
theorem N1 {h:Bs} (hI:bS b s goal v i .fileH) (hR:Rd s (ae v.u.scheme) i e c nx sl ov) (ho:ov=true) (hd:bu v.buf=false) (hb:v.buf≠[]) (hh:aD v.buf true=.ok h) (hl:h=eE):aB b s goal .fileH i .pStart {v with buf:=[]} ((i:Int)-1):=by
 have hg:=Gt hI hR ho hd;rw[if_neg hb,hh]at hg;simp only[hl,if_true]at hg;obtain⟨_,hF,_,_⟩:=hI;refine fo hR.le ⟨?_,rfl,?_,hg⟩ (by decide)
 ·show iG v.u;rw[hF];exact⟨rfl,rfl,rfl,rfl⟩
 ·show v.u.path=[];rw[hF];rfl
theorem Jl {h:Bs} (hI:bS b s goal v i .fileH) (hR:Rd s (ae v.u.scheme) i e c nx sl ov) (ho:ov=true) (hd:bu v.buf=false) (hb:v.buf≠[]) (hh:aD v.buf true=.ok h) (hl:h≠eE):aB b s goal .fileH i .pStart {v with buf:=[],u:={v.u with host:=h}} ((i:Int)-1):=by
 have hg:=Gt hI hR ho hd;rw[if_neg hb,hh]at hg;simp only[hl,if_false]at hg;obtain⟨_,hF,_,_⟩:=hI;refine fo hR.le ⟨?_,rfl,?_,hg⟩ (by decide)
 ·show iG v.u;rw[hF];exact⟨rfl,rfl,rfl,rfl⟩
 ·show v.u.path=[];rw[hF];rfl
theorem Gv (hb:iG v.u) (rJ:v.buf=[]) (hp:v.u.path=[]) {k:Nat} (hg:goal=eh v.u [] (s.drop k)):stM b s goal v k .path:=
 ⟨hb,by rw[hp];simp,by rw[rJ];exact Nat.zero_le _,by rw[hg,rJ]⟩
theorem P3 (hI:bS b s goal v i .pStart) (hR:Rd s (ae v.u.scheme) i e c nx sl ov) (hs:ae v.u.scheme=true) (hl:sl=true):aB b s goal .pStart i .path v (i:Int):=by
 obtain⟨_,h1,h2,h3,hg⟩:=hI;obtain⟨_,k1,k2,k3⟩:=hR.slash hl;refine bI k1 (Gv h1 h2 h3 ?_) (.inl (by decide));rw[hs]at k3;rw[hg,k2,yM hs k3]
theorem QU (hI:bS b s goal v i .pStart) (hR:Rd s (ae v.u.scheme) i e c nx sl ov) (hs:ae v.u.scheme=true) (hl:sl=false):aB b s goal .pStart i .path v ((i:Int)-1):=by
 obtain⟨_,h1,h2,h3,hg⟩:=hI;have k3:=hR.nslash hl;refine fo hR.le (Gv h1 h2 h3 ?_) (by decide);rw[hs]at k3;rw[hg,IV hs k3]
theorem UX (hI:bS b s goal v i .pStart) (hR:Rd s (ae v.u.scheme) i e c nx sl ov) (hs:ae v.u.scheme=false) (hc:c=63):aB b s goal .pStart i .query {v with u:={v.u with hasQuery:=true}} (i:Int):=by
 obtain⟨_,h1,h2,h3,hg⟩:=hI;subst hc;obtain⟨_,k1,k2,_⟩:=hR.some (by decide);refine bI k1 ⟨h1.2.2.1,h1.2.2.2,?_,?_⟩ (.inl (by decide))
 ·show v.u.query.length<=_;rw[h1.1];exact Nat.zero_le _
 ·rw[hg,k2,YC hs h1]
theorem UV (hI:bS b s goal v i .pStart) (hR:Rd s (ae v.u.scheme) i e c nx sl ov) (hs:ae v.u.scheme=false) (hc:c=35):aB b s goal .pStart i .frag {v with u:={v.u with hasFragment:=true}} (i:Int):=by
 obtain⟨_,h1,h2,h3,hg⟩:=hI;subst hc;obtain⟨_,k1,k2,_⟩:=hR.some (by decide);refine bI k1 ⟨?_,?_⟩ (.inl (by decide))
 ·show v.u.fragment.length<=_;rw[h1.2.2.1];exact Nat.zero_le _
 ·rw[hg,k2,Yp hs h1]
theorem Mg (hI:bS b s goal v i .pStart) (hR:Rd s (ae v.u.scheme) i e c nx sl ov) (hs:ae v.u.scheme=false) (he:e=true) {st:Stt}:aB b s goal .pStart i st v (i:Int):=by
 obtain⟨_,h1,h2,h3,hg⟩:=hI;obtain⟨k1,k2⟩:=hR.yes he;exact uP k1 (by rw[hg,k2,RC hs h1])
theorem IC (hI:bS b s goal v i .pStart) (hR:Rd s (ae v.u.scheme) i e c nx sl ov) (hs:ae v.u.scheme=false) (hc:c=47):aB b s goal .pStart i .path v (i:Int):=by
 obtain⟨_,h1,h2,h3,hg⟩:=hI;subst hc;obtain⟨_,k1,k2,_⟩:=hR.some (by decide);exact bI k1 (Gv h1 h2 h3 (by rw[hg,k2,Kw hs])) (.inl (by decide))
theorem Ud (hI:bS b s goal v i .pStart) (hR:Rd s (ae v.u.scheme) i e c nx sl ov) (hs:ae v.u.scheme=false) (he:e=false) (hc:c≠47) (kV:c≠63) (km:c≠35):aB b s goal .pStart i .path v ((i:Int)-1):=by
 obtain⟨_,h1,h2,h3,hg⟩:=hI;obtain⟨k1,k2,_⟩:=hR.no he;exact fo hR.le (Gv h1 h2 h3 (by rw[hg,k2,Oc hs hc kV km])) (by decide)
theorem MS (sc:Bs) (p:List Bs) (q:Bs) (m:Bool):(fc sc p q m).length<=p.length+1:=by
 unfold fc;have:=yj sc p;split
 ·split
  ·simp;omega
  ·omega
 ·split
  ·split
   ·simp
   ·omega
  ·simp
theorem MI (hI:bS b s goal v i .path) (hR:Rd s (ae v.u.scheme) i e c nx sl ov) (hc:c=63):aB b s goal .path i .query {v with buf:=[],u:={v.u with path:=fc v.u.scheme v.u.path v.buf false,hasQuery:=true}} (i:Int):=by
 obtain⟨_,h1,h2,h3,hg⟩:=hI;subst hc;obtain⟨_,k1,k2,_⟩:=hR.some (by decide);refine bI k1 ⟨h1.2.2.1,h1.2.2.2,?_,?_⟩ (.inl (by decide))
 ·show v.u.query.length<=_;rw[h1.1];exact Nat.zero_le _
 ·rw[hg,k2,Rn h1]
theorem Nc (hI:bS b s goal v i .path) (hR:Rd s (ae v.u.scheme) i e c nx sl ov) (hc:c=35):aB b s goal .path i .frag {v with buf:=[],u:={v.u with path:=fc v.u.scheme v.u.path v.buf false,hasFragment:=true}} (i:Int):=by
 obtain⟨_,h1,h2,h3,hg⟩:=hI;subst hc;obtain⟨_,k1,k2,_⟩:=hR.some (by decide);refine bI k1 ⟨?_,?_⟩ (.inl (by decide))
 ·show v.u.fragment.length<=_;rw[h1.2.2.1];exact Nat.zero_le _
 ·rw[hg,k2,Qk h1]
theorem IB (hI:bS b s goal v i .path) (hR:Rd s (ae v.u.scheme) i e c nx sl ov) (hs:sl=true):aB b s goal .path i .path {v with buf:=[],u:={v.u with path:=fc v.u.scheme v.u.path v.buf true}} (i:Int):=by
 obtain⟨_,h1,h2,h3,hg⟩:=hI;obtain⟨_,k1,k2,k3⟩:=hR.slash hs;refine bI k1 ⟨h1,?_,Nat.zero_le _,?_⟩ (.inr rfl)
 ·have:=MS v.u.scheme v.u.path v.buf true;show(fc v.u.scheme v.u.path v.buf true).length<=_;omega
 ·rw[hg,k2,B6 k3]
theorem Ew (hI:bS b s goal v i .path) (hR:Rd s (ae v.u.scheme) i e c nx sl ov) (he:e=true) {st:Stt}:aB b s goal .path i st {v with buf:=[],u:={v.u with path:=fc v.u.scheme v.u.path v.buf false}} (i:Int):=by
 obtain⟨_,h1,h2,h3,hg⟩:=hI;obtain⟨k1,k2⟩:=hR.yes he;exact uP k1 (by rw[hg,k2,JP h1])
theorem NR (hI:bS b s goal v i .path) (hR:Rd s (ae v.u.scheme) i e c nx sl ov) (ho:ov=false):aB b s goal .path i .path {v with buf:=v.buf++ah (bc 4) [c]} (i:Int):=by
 obtain⟨_,h1,h2,h3,hg⟩:=hI;obtain⟨_,k1,k2,k3⟩:=hR.nover ho;obtain⟨q1,q2,q3⟩:=my k3;refine bI k1 ⟨h1,by show v.u.path.length<=_;omega,?_,?_⟩ (.inr rfl)
 ·have:=dD (bc 4) [c];simp only[List.length_append,List.length_singleton]at *;omega
 ·rw[hg,k2,Ey q1 q2 q3]
theorem P5 (hI:bS b s goal v i .opq) (hR:Rd s sp i e c nx sl ov) (hc:c=63):aB b s goal .opq i .query {v with u:={v.u with hasQuery:=true}} (i:Int):=by
 obtain⟨_,h1,⟨x,h2,h3⟩,hg⟩:=hI;subst hc;obtain⟨_,k1,k2,_⟩:=hR.some (by decide);refine bI k1 ⟨h1.2.2.1,h1.2.2.2,?_,?_⟩ (.inl (by decide))
 ·show v.u.query.length<=_;rw[h1.1];exact Nat.zero_le _
 ·rw[hg,k2,Vw h1 h2]
theorem QP (hI:bS b s goal v i .opq) (hR:Rd s sp i e c nx sl ov) (hc:c=35):aB b s goal .opq i .frag {v with u:={v.u with hasFragment:=true}} (i:Int):=by
 obtain⟨_,h1,⟨x,h2,h3⟩,hg⟩:=hI;subst hc;obtain⟨_,k1,k2,_⟩:=hR.some (by decide);refine bI k1 ⟨?_,?_⟩ (.inl (by decide))
 ·show v.u.fragment.length<=_;rw[h1.2.2.1];exact Nat.zero_le _
 ·rw[hg,k2,Vs h1 h2]
theorem I9 (hI:bS b s goal v i .opq) (hR:Rd s sp i e c nx sl ov) (he:e=true) {st:Stt}:aB b s goal .opq i st v (i:Int):=by
 obtain⟨_,h1,⟨x,h2,h3⟩,hg⟩:=hI;obtain⟨k1,k2⟩:=hR.yes he;exact uP k1 (by rw[hg,k2,MQ h1 h2])
theorem RA {x:Bs} (hx:v.u.path=[x]) (hI:bS b s goal v i .opq) (hR:Rd s sp i e c nx sl ov) (he:e=false) (kV:c≠63) (km:c≠35):aB b s goal .opq i .opq {v with u:={v.u with path:=[x++ah [] [c]]}} (i:Int):=by
 obtain⟨_,h1,⟨y,h2,h3⟩,hg⟩:=hI;obtain rfl:x=y:=by rw[hx]at h2;injection h2
 obtain⟨k1,k2,_⟩:=hR.no he;refine bI k1 ⟨h1,⟨_,rfl,?_⟩,?_⟩ (.inr rfl)
 ·have:=dD [] [c];simp only[List.length_append,List.length_singleton]at *;omega
 ·rw[hg,k2,J1 hx kV km]
theorem Jp (hI:bS b s goal v i .query) (hR:Rd s sp i e c nx sl ov) (hc:c=35):aB b s goal .query i .frag {v with u:={v.u with hasFragment:=true}} (i:Int):=by
 obtain⟨_,h1,h2,h3,hg⟩:=hI;subst hc;obtain⟨_,k1,k2,_⟩:=hR.some (by decide);refine bI k1 ⟨?_,?_⟩ (.inl (by decide))
 ·show v.u.fragment.length<=_;rw[h1];exact Nat.zero_le _
 ·rw[hg,k2,Ng _ h1]
theorem Co (hI:bS b s goal v i .query) (hR:Rd s sp i e c nx sl ov) (he:e=true) {st:Stt}:aB b s goal .query i st v (i:Int):=by
 obtain⟨_,h1,h2,h3,hg⟩:=hI;obtain⟨k1,k2⟩:=hR.yes he;exact uP k1 (by rw[hg,k2,EQ _ h1 h2])
theorem xf (hI:bS b s goal v i .query) (hR:Rd s sp i e c nx sl ov) (he:e=false) (km:c≠35):aB b s goal .query i .query {v with u:={v.u with query:=v.u.query++ah (zw v.u) [c]}} (i:Int):=by
 obtain⟨_,h1,h2,h3,hg⟩:=hI;obtain⟨k1,k2,_⟩:=hR.no he;refine bI k1 ⟨h1,h2,?_,?_⟩ (.inr rfl)
 ·have:=dD (zw v.u) [c];simp only[List.length_append,List.length_singleton]at *;omega
 ·rw[hg,k2,Cn _ _ km]
theorem FE (hI:bS b s goal v i .frag) (hR:Rd s sp i e c nx sl ov) (he:e=true) {st:Stt}:aB b s goal .frag i st v (i:Int):=by
 obtain⟨_,h1,hg⟩:=hI;obtain⟨k1,k2⟩:=hR.yes he;exact uP k1 (by rw[hg,k2,Kh])
theorem BE (hI:bS b s goal v i .frag) (hR:Rd s sp i e c nx sl ov) (he:e=false):aB b s goal .frag i .frag {v with u:={v.u with fragment:=v.u.fragment++ah (bc 1) [c]}} (i:Int):=by
 obtain⟨_,h1,hg⟩:=hI;obtain⟨k1,k2,_⟩:=hR.no he;refine bI k1 ⟨?_,?_⟩ (.inr rfl)
 ·have:=dD (bc 1) [c];simp only[List.length_append,List.length_singleton]at *;omega
 ·rw[hg,k2,ED]
end
end Lz
namespace Go.Proofs.YtlcbhacofagedaaGreatDoor
open Go.RowKit
theorem XT (c:UInt8):(false)=(Lz.bc 0).contains c:=by
 revert c
 exact Lz.au (by decide +kernel)
theorem YT (c:UInt8):(((c.toNat:Int)==32)||(((c.toNat:Int)==34)||(((c.toNat:Int)==60)||(((c.toNat:Int)==62)||(((c.toNat:Int)==96))))))=(Lz.bc 1).contains c:=by
 revert c
 exact Lz.au (by decide +kernel)
theorem XN (c:UInt8):(((c.toNat:Int)==32)||(((c.toNat:Int)==34)||(((c.toNat:Int)==35)||(((c.toNat:Int)==60)||(((c.toNat:Int)==62))))))=(Lz.bc 2).contains c:=by
 revert c
 exact Lz.au (by decide +kernel)
theorem YR (c:UInt8):((((c.toNat:Int)==32)||(((c.toNat:Int)==34)||(((c.toNat:Int)==35)||(((c.toNat:Int)==60)||(((c.toNat:Int)==62))))))||((c.toNat:Int)==39))=(Lz.bc 3).contains c:=by
 revert c
 exact Lz.au (by decide +kernel)
theorem Yc (c:UInt8):((((c.toNat:Int)==32)||(((c.toNat:Int)==34)||(((c.toNat:Int)==35)||(((c.toNat:Int)==60)||(((c.toNat:Int)==62))))))||(((c.toNat:Int)==63)||(((c.toNat:Int)==94)||(((c.toNat:Int)==96)||(((c.toNat:Int)==123)||(((c.toNat:Int)==125)))))))=(Lz.bc 4).contains c:=by
 revert c
 exact Lz.au (by decide +kernel)
theorem Ys (c:UInt8):(((((c.toNat:Int)==32)||(((c.toNat:Int)==34)||(((c.toNat:Int)==35)||(((c.toNat:Int)==60)||(((c.toNat:Int)==62))))))||(((c.toNat:Int)==63)||(((c.toNat:Int)==94)||(((c.toNat:Int)==96)||(((c.toNat:Int)==123)||(((c.toNat:Int)==125)))))))||(((c.toNat:Int)==47)||(((c.toNat:Int)==58)||(((c.toNat:Int)==59)||(((c.toNat:Int)==61)||(((c.toNat:Int)==64)||(((c.toNat:Int)==91)||(((c.toNat:Int)==92)||(((c.toNat:Int)==93)||(((c.toNat:Int)==124)))))))))))=(Lz.bc 5).contains c:=by
 revert c
 exact Lz.au (by decide +kernel)
theorem YS (c:UInt8):(decide ((c.toNat:Int)<32)||decide ((126:Int)<(c.toNat:Int)))=(decide (c<32)||decide (126<c)):=by
 revert c
 exact Lz.au (by decide +kernel)
def inE (k:Nat) (c:UInt8):Bool:=decide (c<32)||decide (126<c)||(Lz.bc k).contains c
theorem LU (k:Nat) (hk:k<=5) (c:UInt8) (w:World):Calls Tryz.prog 55 #[.int .i64 (k:Int),.int .u8 c.toNat] w fun e w'=>e=.returned (.bool (inE k c))/\w=w':=by
 obtain⟨goal,hg⟩:∃goal,goal=inE k c:=⟨_,rfl⟩;rw[<-hg];have s0:=XT c;have s1:=YT c;have s2:=XN c;have s3:=YR c;have s4:=Yc c;have s5:=Ys c;have se:=YS c;unfold inE at hg;rw[<-se]at hg;obtain⟨p1,h1⟩:∃p,decide ((c.toNat:Int)<32)=p:=⟨_,rfl⟩;obtain⟨p2,h2⟩:∃p,decide ((126:Int)<(c.toNat:Int))=p:=⟨_,rfl⟩;obtain⟨q32,e32⟩:∃q,((c.toNat:Int)==32)=q:=⟨_,rfl⟩;obtain⟨q34,e34⟩:∃q,((c.toNat:Int)==34)=q:=⟨_,rfl⟩;obtain⟨q35,e35⟩:∃q,((c.toNat:Int)==35)=q:=⟨_,rfl⟩;obtain⟨q39,e39⟩:∃q,((c.toNat:Int)==39)=q:=⟨_,rfl⟩;obtain⟨q47,e47⟩:∃q,((c.toNat:Int)==47)=q:=⟨_,rfl⟩;obtain⟨q58,e58⟩:∃q,((c.toNat:Int)==58)=q:=⟨_,rfl⟩;obtain⟨q59,e59⟩:∃q,((c.toNat:Int)==59)=q:=⟨_,rfl⟩;obtain⟨q60,e60⟩:∃q,((c.toNat:Int)==60)=q:=⟨_,rfl⟩;obtain⟨q61,e61⟩:∃q,((c.toNat:Int)==61)=q:=⟨_,rfl⟩;obtain⟨q62,e62⟩:∃q,((c.toNat:Int)==62)=q:=⟨_,rfl⟩;obtain⟨q63,e63⟩:∃q,((c.toNat:Int)==63)=q:=⟨_,rfl⟩;obtain⟨q64,e64⟩:∃q,((c.toNat:Int)==64)=q:=⟨_,rfl⟩;obtain⟨q91,e91⟩:∃q,((c.toNat:Int)==91)=q:=⟨_,rfl⟩;obtain⟨q92,e92⟩:∃q,((c.toNat:Int)==92)=q:=⟨_,rfl⟩;obtain⟨q93,e93⟩:∃q,((c.toNat:Int)==93)=q:=⟨_,rfl⟩;obtain⟨q94,e94⟩:∃q,((c.toNat:Int)==94)=q:=⟨_,rfl⟩;obtain⟨q96,e96⟩:∃q,((c.toNat:Int)==96)=q:=⟨_,rfl⟩
 obtain⟨aai,e123⟩:∃q,((c.toNat:Int)==123)=q:=⟨_,rfl⟩;obtain⟨ZQ,e124⟩:∃q,((c.toNat:Int)==124)=q:=⟨_,rfl⟩;obtain⟨aal,e125⟩:∃q,((c.toNat:Int)==125)=q:=⟨_,rfl⟩;rw[h1,h2]at hg;rw[e32,e34,e60,e62,e96]at s1;rw[e32,e34,e35,e60,e62]at s2;rw[e32,e34,e35,e60,e62,e39]at s3;rw[e32,e34,e35,e60,e62,e63,e94,e96,e123,e125]at s4;rw[e32,e34,e35,e60,e62,e63,e94,e96,e123,e125,e47,e58,e59,e61,e64,e91,e92,e93,e124]at s5;obtain⟨qu,hqu⟩:∃qu,qu=(q32||(q34||(q35||(q60||(q62))))):=⟨_,rfl⟩;obtain⟨pa,Xe⟩:∃pa,pa=(qu||(q63||(q94||(q96||(aai||(aal)))))):=⟨_,rfl⟩;obtain⟨us,jn⟩:∃us,us=(pa||(q47||(q58||(q59||(q61||(q64||(q91||(q92||(q93||(ZQ)))))))))):=⟨_,rfl⟩;obtain⟨on,hon⟩:∃on,on=(q32||(q34||(q60||(q62||(q96))))):=⟨_,rfl⟩;rw[<-hon]at s1;rw[<-hqu]at s2 s3 s4 s5;rw[<-Xe]at s4 s5;rw[<-jn]at s5;have Hs0:=Ih s0;have Hs1:=Ih s1;have Hs2:=Ih s2;have Hs3:=Ih s3;have Hs4:=Ih s4;have Hs5:=Ih s5;have Wd:=Ih hg;have K3:=Ih hqu;have Gf:=Ih Xe;have vQ:=Ih jn;have La:=Ih hon;clear s0 s1 s2 s3 s4 s5 hg hqu Xe jn hon se;by_cases hp:p1=true\/p2=true
 ·have HG:Hid (goal=true):=Ih (by rw[Wd.out];rcases hp with rfl|rfl<;>simp);cases p1 with
  | true=>
    clear hp;go_enter Tryz.func55,Tryz.ntmps55
    go_wp2_with fail
    go_ret;rw[HG.out];exact⟨rfl,rfl⟩
  | false=>
    obtain rfl:p2=true:=by simpa using hp
    clear hp;go_enter Tryz.func55,Tryz.ntmps55
    go_wp2_with fail
    go_ret;rw[HG.out];exact⟨rfl,rfl⟩
 ·obtain⟨rfl,rfl⟩:p1=false/\p2=false:=by simpa using hp
  clear hp;go_enter Tryz.func55,Tryz.ntmps55
  go_upto_region 3 with fail
  go_cut [5] (fun s wx=>s=.bool qu/\w=wx)
  case first=>
   cases q32 with
   | true=>
     go_wp2_with fail
     go_meet;exact⟨by rw[K3.out];rfl,rfl⟩
   | false=>
     cases q34 with
     | true=>
       go_wp2_with fail
       go_meet;exact⟨by rw[K3.out];rfl,rfl⟩
     | false=>
       cases q35 with
       | true=>
         go_wp2_with fail
         go_meet;exact⟨by rw[K3.out];rfl,rfl⟩
       | false=>
         cases q60 with
         | true=>
           go_wp2_with fail
           go_meet;exact⟨by rw[K3.out];rfl,rfl⟩
         | false=>
           cases q62 with
           | true=>
             go_wp2_with fail
             go_meet;exact⟨by rw[K3.out];rfl,rfl⟩
           | false=>
             go_wp2_with fail
             go_meet;exact⟨by rw[K3.out];rfl,rfl⟩
  case rest=>
  obtain⟨rfl,rfl⟩:=hcut
  go_upto_region 4 with fail
  go_cut [6] (fun s wx=>s=.bool pa/\w=wx)
  case first=>
   cases qu with
   | true=>
     go_wp2_with fail
     go_meet;exact⟨by rw[Gf.out];rfl,rfl⟩
   | false=>
     cases q63 with
     | true=>
       go_wp2_with fail
       go_meet;exact⟨by rw[Gf.out];rfl,rfl⟩
     | false=>
       cases q94 with
       | true=>
         go_wp2_with fail
         go_meet;exact⟨by rw[Gf.out];rfl,rfl⟩
       | false=>
         cases q96 with
         | true=>
           go_wp2_with fail
           go_meet;exact⟨by rw[Gf.out];rfl,rfl⟩
         | false=>
           cases aai with
           | true=>
             go_wp2_with fail
             go_meet;exact⟨by rw[Gf.out];rfl,rfl⟩
           | false=>
             cases aal with
             | true=>
               go_wp2_with fail
               go_meet;exact⟨by rw[Gf.out];rfl,rfl⟩
             | false=>
               go_wp2_with fail
               go_meet;exact⟨by rw[Gf.out];rfl,rfl⟩
  case rest=>
  obtain⟨rfl,rfl⟩:=hcut
  go_upto_region 5 with fail
  go_cut [7] (fun s wx=>s=.bool us/\w=wx)
  case first=>
   cases pa with
   | true=>
     go_wp2_with fail
     go_meet;exact⟨by rw[vQ.out];rfl,rfl⟩
   | false=>
     cases q47 with
     | true=>
       go_wp2_with fail
       go_meet;exact⟨by rw[vQ.out];rfl,rfl⟩
     | false=>
       cases q58 with
       | true=>
         go_wp2_with fail
         go_meet;exact⟨by rw[vQ.out];rfl,rfl⟩
       | false=>
         cases q59 with
         | true=>
           go_wp2_with fail
           go_meet;exact⟨by rw[vQ.out];rfl,rfl⟩
         | false=>
           cases q61 with
           | true=>
             go_wp2_with fail
             go_meet;exact⟨by rw[vQ.out];rfl,rfl⟩
           | false=>
             cases q64 with
             | true=>
               go_wp2_with fail
               go_meet;exact⟨by rw[vQ.out];rfl,rfl⟩
             | false=>
               cases q91 with
               | true=>
                 go_wp2_with fail
                 go_meet;exact⟨by rw[vQ.out];rfl,rfl⟩
               | false=>
                 cases q92 with
                 | true=>
                   go_wp2_with fail
                   go_meet;exact⟨by rw[vQ.out];rfl,rfl⟩
                 | false=>
                   cases q93 with
                   | true=>
                     go_wp2_with fail
                     go_meet;exact⟨by rw[vQ.out];rfl,rfl⟩
                   | false=>
                     cases ZQ with
                     | true=>
                       go_wp2_with fail
                       go_meet;exact⟨by rw[vQ.out];rfl,rfl⟩
                     | false=>
                       go_wp2_with fail
                       go_meet;exact⟨by rw[vQ.out];rfl,rfl⟩
  case rest=>
  obtain⟨rfl,rfl⟩:=hcut;rcases(show k=0\/k=1\/k=2\/k=3\/k=4\/k=5 by omega)with rfl|rfl|rfl|rfl|rfl|rfl
  ·go_wp2_with fail
   go_ret;exact⟨by rw[Wd.out,<-Hs0.out];rfl,rfl⟩
  ·have HG:Hid (goal=on):=Ih (by rw[Wd.out,<-Hs1.out];rfl);cases q32 with
   | true=>
     go_wp2_with fail
     go_ret;exact⟨by rw[HG.out,La.out];rfl,rfl⟩
   | false=>
     cases q34 with
     | true=>
       go_wp2_with fail
       go_ret;exact⟨by rw[HG.out,La.out];rfl,rfl⟩
     | false=>
       cases q60 with
       | true=>
         go_wp2_with fail
         go_ret;exact⟨by rw[HG.out,La.out];rfl,rfl⟩
       | false=>
         cases q62 with
         | true=>
           go_wp2_with fail
           go_ret;exact⟨by rw[HG.out,La.out];rfl,rfl⟩
         | false=>
           cases q96 with
           | true=>
             go_wp2_with fail
             go_ret;exact⟨by rw[HG.out,La.out];rfl,rfl⟩
           | false=>
             go_wp2_with fail
             go_ret;exact⟨by rw[HG.out,La.out];rfl,rfl⟩
  ·have HG:Hid (goal=qu):=Ih (by rw[Wd.out,<-Hs2.out];rfl)
   go_wp2_with fail
   go_ret;rw[HG.out];exact⟨rfl,rfl⟩
  ·have HG:Hid (goal=(qu||q39)):=Ih (by rw[Wd.out,<-Hs3.out];rfl);cases qu with
   | true=>
     go_wp2_with fail
     go_ret;exact⟨by rw[HG.out];rfl,rfl⟩
   | false=>
     go_wp2_with fail
     go_ret;exact⟨by rw[HG.out];rfl,rfl⟩
  ·have HG:Hid (goal=pa):=Ih (by rw[Wd.out,<-Hs4.out];rfl)
   go_wp2_with fail
   go_ret;rw[HG.out];exact⟨rfl,rfl⟩
  ·have HG:Hid (goal=us):=Ih (by rw[Wd.out,<-Hs5.out];rfl)
   go_wp2_with fail
   go_ret;rw[HG.out];exact⟨rfl,rfl⟩
theorem aaR (k:Nat) (c:UInt8):Lz.ah (Lz.bc k) [c]=if inE k c then[37,Lz.gm (c.toNat / 16),Lz.gm (c.toNat%16)]else[c]:=by
 unfold Lz.ah inE;rw[List.flatMap_cons,List.flatMap_nil,List.append_nil]
def nN:ByteArray:=⟨#[48,49,50,51,52,53,54,55,56,57,65,66,67,68,69,70]⟩
theorem tB:∀h:Fin 16,(nN.extract h.val (h.val+1)).data.toList=[Lz.gm h.val]:=by decide +kernel
theorem NB (k:Nat) (s:ByteArray) (i:Nat) (hi:i<s.size):Lz.ah (Lz.bc k) (s.data.toList.take (i+1))=Lz.ah (Lz.bc k) (s.data.toList.take i)++Lz.ah (Lz.bc k) [s[i]]:=by
 rw[List.take_succ_eq_append_getElem (by rw[aa];exact hi),Lz.it];rfl
theorem eS (s:ByteArray) (k:Nat) (hk:k<=5) (hs:s.size<=1000000000) (w:World):Calls Tryz.prog 27 #[.string s,.int .i64 (k:Int)] w (gl (Lz.ah (Lz.bc k) s.data.toList) w):=by
 have k0:(0:Int)<=(k:Int):=by omega
 have k6:(k:Int)<=6:=by omega
 have VA:=Below.refl w.heap.size w;go_enter Tryz.func27,Tryz.ntmps27
 go_wp2_with fail
 go_loopw [5,7] (fun t n wr=>∃(u:ByteArray) (i:Nat),t=.string u/\n=.int .i64 i/\i<=s.size/\u.size<=3*i/\Hid (u.data.toList=Lz.ah (Lz.bc k) (s.data.toList.take i))/\Below w.heap.size w wr) (fun _ n _=>s.size-(intOf n).toNat)
 case atStart=>exact⟨⟨#[]⟩,0,rfl,rfl,Nat.zero_le _,Nat.zero_le _,Ih rfl,VA⟩
 case round=>
  obtain⟨u,i,rfl,rfl,hi,jn,HU,bi⟩:=hrel;by_cases aN:i<s.size
  ·have dH:(i:Int)<(s.size:Int):=by omega
   have nP:(0:Int)<=(i:Int):=by omega
   obtain⟨c,hc⟩:∃c,c=s[i]:=⟨_,rfl⟩;have yI:(s[i].toNat:Int)=(c.toNat:Int):=by rw[hc]
   have cI:=Ih (LU k hk c wr);have cw:=NB k s i aN;rw[<-hc,aaR]at cw;have o7:(s.extract i (i+1)).size=1:=by rw[<-aa,rL s i aN];rfl
   have KB:(s.extract i (i+1)).data.toList=[c]:=by rw[rL s i aN,hc]
   have n1:¬(9223372036854775807<u.size+1):=by omega
   have n2:¬(9223372036854775807<u.size+1+1):=by omega
   have n3:¬(9223372036854775807<u.size+1+1+1):=by omega
   have HX:=Ih KB;have HS:=Ih cw;cases hq:inE k c with
   | false=>
     rw[hq]at cI;have HN:Hid ((u++s.extract i (i+1)).data.toList=Lz.ah (Lz.bc k) (s.data.toList.take (i+1))):=Ih (by rw[ai,HU.out,HX.out,HS.out,hq];rfl);clear hq KB cw hc HU HS
     go_wp2_with fail
     refine cI.out.mono ?_;rintro e w1 ⟨rfl,rfl⟩
     go_wp2_with fail
     go_roundw
     case rel=>exact⟨_,i+1,rfl,by go_num,by omega,by rw[ByteArray.size_append,o7];omega,HN,bi⟩
     case measure=>simp[intOf];omega
   | true=>
     rw[hq]at cI;obtain⟨h,hh⟩:∃h,h=c.toNat / 16:=⟨_,rfl⟩;obtain⟨r,hr⟩:∃r,r=c.toNat%16:=⟨_,rfl⟩;have qA:=c.toNat_lt;have h16:h<16:=by omega
     have r16:r<16:=by omega
     have a1:(c.toNat:Int) / 16=(h:Int):=by omega
     have a2:Int.tdiv (c.toNat:Int) 16=(h:Int):=by rw[Int.tdiv_eq_ediv_of_nonneg (by omega)];exact a1
     have a3:(c.toNat:Int)%16=(r:Int):=by omega
     have a4:Int.tmod (c.toNat:Int) 16=(r:Int):=by rw[Int.tmod_eq_emod_of_nonneg (by omega)];exact a3
     have b1:IntKind.u8.wrap (h:Int)=(h:Int):=IntWalk.u8_in _ (by omega);have b2:IntKind.u8.wrap ((h:Int)+1)=(h:Int)+1:=IntWalk.u8_in _ (by omega);have b3:IntKind.u8.wrap (r:Int)=(r:Int):=IntWalk.u8_in _ (by omega);have b4:IntKind.u8.wrap ((r:Int)+1)=(r:Int)+1:=IntWalk.u8_in _ (by omega);have d1:(0:Int)<=(h:Int):=by omega
     have d2:(h:Int)+1<=16:=by omega
     have d3:(0:Int)<=(r:Int):=by omega
     have d4:(r:Int)+1<=16:=by omega
     have z1:(nN.extract h (h+1)).size=1:=by rw[<-aa,tB ⟨h,h16⟩];rfl
     have z2:(nN.extract r (r+1)).size=1:=by rw[<-aa,tB ⟨r,r16⟩];rfl
     have HN:Hid ((u++⟨#[37]⟩++nN.extract h (h+1)++nN.extract r (r+1)).data.toList=Lz.ah (Lz.bc k) (s.data.toList.take (i+1))):=Ih (by rw[ai,ai,ai,tB ⟨h,h16⟩,tB ⟨r,r16⟩,HU.out,HS.out,hq,if_pos rfl,<-hh,<-hr];simp);clear hq KB cw hc HU HS hh hr
     go_wp2_with fail
     refine cI.out.mono ?_;rintro e w1 ⟨rfl,rfl⟩
     go_wp2_with fail
     go_quiet (fail)
     have pd:=below_drewN bi nq;generalize wr.drewN nq=wq at pd⊢
     go_wp2_with fail
     go_roundw
     case rel=>exact⟨_,i+1,rfl,by go_num,by omega,by rw[ByteArray.size_append,ByteArray.size_append,ByteArray.size_append];have e1:(⟨#[37]⟩:ByteArray).size=1:=rfl;simp only[nN]at z1 z2;omega,HN,pd⟩
     case measure=>simp[intOf];omega
  ·have dH:¬(i:Int)<(s.size:Int):=by omega
   have hu:u.data.toList=Lz.ah (Lz.bc k) s.data.toList:=by rw[HU.out,List.take_of_length_le (by rw[aa];omega)]
   have Hu:=Ih hu;clear hu HU
   go_wp2_with fail
   go_ret;exact⟨u,rfl,Hu,bi⟩
def Bj (n:Nat):Option Nat->Nat
 | some m=>n+m
 | none=>0
def lz:Value->Nat
 | .string s=>s.size
 | _=>0
theorem xo (n:Nat) (o:Option Nat):Bj n (o.map (·+1))=Bj (n+1) o:=by
 cases o<;>simp[Bj];omega
theorem G9 {s:ByteArray} (h:0<s.size):s.data.toList=s[0]::s.data.toList.drop 1:=by
 have:=List.drop_eq_getElem_cons (l:=s.data.toList) (i:=0) (by rw[aa];exact h);rw[List.drop_zero]at this;exact this
theorem FM (p:ByteArray) (hp:p.size<=1000000000) (w:World):Calls Tryz.prog 33 #[.string p] w (wj (Lz.Cq p.data.toList:Int) w):=by
 obtain⟨goal,hg⟩:∃goal,goal=Lz.Cq p.data.toList:=⟨_,rfl⟩;rw[<-hg];have HG:Hid (goal=Bj 0 (Lz.dlN p.data.toList)):=Ih (by rw[hg];unfold Lz.Cq Bj;cases Lz.dlN p.data.toList<;>simp);have VA:=Below.refl w.heap.size w;clear hg;go_enter Tryz.func33,Tryz.ntmps33
 go_wp2_with fail
 go_loopw [0,3] (fun pv nv wr=>∃(t:ByteArray) (n:Nat),pv=.string t/\nv=.int .i64 n/\n+t.size<=p.size/\Hid (goal=Bj n (Lz.dlN t.data.toList))/\Below w.heap.size w wr) (fun pv _ _=>lz pv)
 case atStart=>exact⟨p,0,rfl,rfl,by omega,HG,VA⟩
 case round=>
  obtain⟨t,n,rfl,rfl,hn,HR,bi⟩:=hrel;by_cases hz:t.size=0
  ·have he:t.toList.isEmpty=true:=ak hz;have AG:t.data.toList=[]:=List.eq_nil_of_length_eq_zero (by rw[aa];exact hz);have HN:Hid (goal=n):=Ih (by rw[HR.out,AG];rfl);clear HR HG hz AG
   go_wp2_with fail
   go_ret;exact⟨by rw[HN.out];rfl,bi⟩
  ·have ei:0<t.size:=by omega
   have In:(0:Int)<(t.size:Int):=by omega
   have he:t.toList.isEmpty=false:=aj ei;obtain⟨c,hc⟩:∃c,c=t[0]:=⟨_,rfl⟩;have yI:(t[0].toNat:Int)=(c.toNat:Int):=by rw[hc]
   have hd:=G9 ei;rw[<-hc]at hd;have e46:((c.toNat:Int)==46)=(c==46):=jx c 46;by_cases Gq:c=46
   ·have abv:((c.toNat:Int)==46)=true:=by rw[e46,Gq];rfl
    have h1I:(1:Int)<=(t.size:Int):=by omega
    have fF:(t.extract 1 t.size).size+1=t.size:=by rw[<-aa,aP,List.length_drop,aa];omega
    have HN:Hid (goal=Bj (n+1) (Lz.dlN (t.extract 1 t.size).data.toList)):=Ih (by rw[HR.out,hd,Gq,Lz.UO,xo,aP]);clear HR HG hd hc Gq e46 hz
    go_wp2_with fail
    go_roundw
    case rel=>exact⟨t.extract 1 t.size,n+1,rfl,by go_num,by omega,HN,bi⟩
    case measure=>simp only[lz];omega
   ·have abv:((c.toNat:Int)==46)=false:=by rw[e46];exact beq_eq_false_iff_ne.2 Gq
    by_cases h3:3<=t.size
    ·have h3I:(3:Int)<=(t.size:Int):=by omega
     have nL:(t.extract 3 t.size).size+3=t.size:=by rw[<-aa,aP,List.length_drop,aa];omega
     have d7:=aJ t 0 3;have cL:=Ih (fh (t.extract 0 3) (by omega) wr);have Oz:=fun h3'=>(Lz.S1 (c:=c) (r:=t.data.toList.drop 1) Gq h3')
     have Ap:∀h:Lz.low (t.data.toList.take 3)=[37,50,101],Lz.dlN t.data.toList=(Lz.dlN (t.data.toList.drop 3)).map (·+1):=by
      intro h;have hl:t.data.toList.length>=3:=by rw[aa];exact h3
      generalize t.data.toList=l at h hl
      match l,hl with
      | a::b::d::r,_=>exact Lz.Je h r
     rw[<-hd]at Oz;rw[dC]at cL;have Pz:=Ih Oz;have HYe:=Ih Ap;clear hd hc e46 hz Oz Ap
     go_upto_region 5 with fail
     go_cut [19] (fun s wx=>s=.bool (decide (Lz.low (t.data.toList.take 3)=[37,50,101]))/\Below w.heap.size w wx)
     case first=>
      go_wp2_with fail
      refine cL.out.mono ?_;rintro e w2 ⟨u,rfl,hu,aU⟩;have hq:=lB u [37,50,101];rw[hu.out]at hq
      go_wp2_with fail
      go_meet;exact⟨by first |rfl|rw[hq],ac bi aU⟩
     case rest=>
      obtain⟨rfl,aU⟩:=hcut;by_cases hq:Lz.low (t.data.toList.take 3)=[37,50,101]
      ·have HN:Hid (goal=Bj (n+1) (Lz.dlN (t.extract 3 t.size).data.toList)):=Ih (by rw[HR.out,HYe.out hq,xo,aP]);have KG:=decide_eq_true hq;rw[KG];clear hq KG HR HG Pz HYe
       go_wp2_with fail
       go_roundw
       case rel=>exact⟨t.extract 3 t.size,n+1,rfl,by go_num,by omega,HN,aU⟩
       case measure=>simp only[lz];omega
      ·have HN:Hid (goal=0):=Ih (by rw[HR.out,Pz.out hq];rfl);have KG:=decide_eq_false hq;rw[KG];clear hq KG HR HG Pz HYe
       go_wp2_with fail
       go_ret;exact⟨by rw[HN.out];rfl,aU⟩
    ·have h3I:¬(3:Int)<=(t.size:Int):=by omega
     have h3b:decide ((3:Int)<=(t.size:Int))=false:=decide_eq_false h3I
     have HN:Hid (goal=0):=Ih (by
      rw[HR.out,hd,Lz.S1 Gq ?_]
      ·rfl
      ·intro h;have:=congrArg List.length h;rw[<-hd]at this;simp only[Lz.low,List.length_map,List.length_take,aa]at this
       simp at this
       omega)
     clear HR HG hd hc Gq e46 hz
     go_wp2_with fail
     go_ret;exact⟨by rw[HN.out];rfl,bi⟩
end Go.Proofs.YtlcbhacofagedaaGreatDoor
namespace Lz
open Go
def exU (u:af) (pass:Bool) (z:Bs):af:=
 if pass then{u with pass:=u.pass++ah (bc 5) z}
 else{u with user:=u.user++ah (bc 5) (Lib.cut z [58]).1,pass:=u.pass++ah (bc 5) (Lib.cut z [58]).2.1}
def exP (pass:Bool) (z:Bs):Bool:=pass||(Lib.cut z [58]).2.2
theorem QJ (u:af) (pass:Bool):exU u pass []=u:=by
 unfold exU;rw[gH,eT,List.append_nil,List.append_nil];split<;>rfl
theorem Rg (pass:Bool):exP pass []=pass:=by unfold exP;rw[gH];simp
theorem BI {z:Bs} (h:(Lib.cut z [58]).2.2=false):(Lib.cut z [58]).1=z/\(Lib.cut z [58]).2.1=[]:=by
 obtain⟨f1,f2,f3,f4⟩:=fi 58 z;exact f2 h
theorem Ig {u:af} {pass:Bool} {z:Bs} (h:exP pass z=true) (c:UInt8):
  exU u pass (z++[c])={exU u pass z with pass:=(exU u pass z).pass++ah (bc 5) [c]}/\exP pass (z++[c])=true:=by
 unfold exU exP at *;cases pass with
 | true=>simp only[if_true,Bool.true_or,and_true];rw[it,List.append_assoc]
 | false=>
   rw[Bool.false_or]at h;rw[tr,if_pos h];simp only[if_false,Bool.false_or,and_true,Bool.false_eq_true];rw[it,List.append_assoc]
theorem Oa {u:af} {pass:Bool} {z:Bs} (h:exP pass z=false):exU u pass (z++[58])=exU u pass z/\exP pass (z++[58])=true:=by
 unfold exU exP at *;rw[Bool.or_eq_false_iff]at h;obtain⟨rfl,h⟩:=h;obtain⟨k1,k2⟩:=BI h;rw[tr,h,k1,k2];simp only[if_false,Bool.false_eq_true,Bool.false_or];rw[mf,List.append_nil];exact⟨rfl,rfl⟩
theorem Ro {u:af} {pass:Bool} {z:Bs} (h:exP pass z=false) {c:UInt8} (hc:c≠58):
  exU u pass (z++[c])={exU u pass z with user:=(exU u pass z).user++ah (bc 5) [c]}/\exP pass (z++[c])=false:=by
 unfold exU exP at *;rw[Bool.or_eq_false_iff]at h;obtain⟨rfl,h⟩:=h;obtain⟨k1,k2⟩:=BI h;rw[tr,h,k1,k2];simp only[if_false,Bool.false_eq_true,Bool.false_or];rw[em hc,gH];refine⟨?_,rfl⟩;rw[it,List.append_assoc]
def B8 (a:Bool) (x:Bs):Bs:=if a then[37,52,48]++x else x
theorem N5 (u:af) (a pass:Bool) (x:Bs):exU u pass (B8 a x)=ki u a pass x/\exP pass (B8 a x)=Fu a pass x:=by
 unfold exU exP ki Fu B8 jN;cases a with
 | false=>exact⟨rfl,rfl⟩
 | true=>
   simp only[if_true]
   have e1:Lib.cut ([37,52,48]++x) [58]=([37,52,48]++(Lib.cut x [58]).1,(Lib.cut x [58]).2.1,(Lib.cut x [58]).2.2):=by
    show Lib.cut (37::52::48::x) [58]=_;rw[em (by decide),em (by decide),em (by decide)];rfl
   have e2:Lib.cut (64::x) [58]=(64::(Lib.cut x [58]).1,(Lib.cut x [58]).2.1,(Lib.cut x [58]).2.2):=em (by decide) x;have e3:ah (bc 5) [37,52,48]=[37,52,48]:=by decide +kernel
   rw[e1,e2];simp only;rw[it,it,e3,gI _ 64 x,gI _ 64 (Lib.cut x [58]).1,UL]
   simp
theorem Ub:fU [104,116,116,112,115,58,47,47,97,46,98,47,120] [39,115,101,108,102,39]=true:=by decide +kernel
theorem Uj:fU [104,116,116,112,58,47,47,97,46,98,47,120] [39,115,101,108,102,39]=false:=by decide +kernel
theorem Vi:fU [104,116,116,112,115,58,47,47,97,46,98,58,52,52,52,47] [39,115,101,108,102,39]=false:=by decide +kernel
theorem Uk:fU [104,116,116,112,115,58,47,47,99,46,97,46,98,47] [42,46,97,46,98]=true:=by decide +kernel
theorem UY:fU [104,116,116,112,115,58,47,47,97,46,98,47] [42,46,97,46,98]=false:=by decide +kernel
theorem T9:fU [104,116,116,112,58,47,47,120,47] [42]=true:=by decide +kernel
theorem UI:fU [100,97,116,97,58,49] [42]=false:=by decide +kernel
theorem UQ:fU [104,116,116,112,115,58,47,47,120,47,112,47,113] [120,47,112,47]=true:=by decide +kernel
theorem Vl:fU [104,116,116,112,115,58,47,47,120,47,112] [120,47,112,47]=false:=by decide +kernel
theorem Vj:fU [104,116,116,112,115,58,47,47,49,50,55,46,48,46,48,46,49,47] [49,50,55,46,48,46,48,46,49]=true:=by decide +kernel
theorem QR:fU [104,116,116,112,115,58,47,47,49,50,55,46,48,46,48,46,50,47] [49,50,55,46,48,46,48,46,50]=false:=by decide +kernel
end Lz
