/-
  Plain laws: an IPv4 address as lazaretref07.four reckons it. No program in sight.
-/
import Derived.Test.YtipndhbgehdeoaaGreatDoorQ12
import Derived.Test.YtipndhbgehdeoaaGreatDoorQ13
set_option maxHeartbeats 4000000
set_option maxRecDepth 100000
namespace Lz
open Go
theorem byte_dec1:∀n:Fin 256,byteP (Lib.decDigits n.val)=some n.val:=by decide +kernel
theorem byte_dec {n:Nat} (h:n<256):byteP (Lib.decDigits n)=some n:=byte_dec1 ⟨n,h⟩
theorem joinC_snoc:∀ls:List Bs,ls≠[]->∀x:Bs,joinP [58] (ls++[x])=joinP [58] ls++[58]++x
 | [],h,_=>absurd rfl h
 | [y],_,x=>rfl
 | y::z::r,_,x=>by
   have:=joinC_snoc (z::r) (by simp) x;show joinP [58] (y::z::(r++[x]))=_;rw[joinP,show(z::(r++[x]):List Bs)=(z::r)++[x]from rfl,this]
   simp[joinP]
def erQ:UR->Prop
 | .ok _=>True
 | .er n=>n=70\/n=71\/n=72\/n=81\/n=82
theorem erQ_bind {r:UR} {f:UrlL->UR} (h:erQ r) (hf:∀u,erQ (f u)):erQ (r.bind f):=by
 cases r with
 | ok u=>exact hf u
 | er n=>exact h
theorem erQ_host (u:UrlL) (s:Bs):erQ (hostU u s):=by
 unfold hostU;split
 ·rename_i n e;cases hsp:specP u.scheme with
  | true=>rw[hsp]at e;rcases host_err_true _ _ e with h|h|h<;>simp[erQ,h]
  | false=>rw[hsp]at e;rcases host_err_false _ _ e with h|h<;>simp[erQ,h]
 ·trivial
theorem erQ_port (u:UrlL) (s:Bs):erQ (portU u s):=by
 unfold portU;split
 ·simp[erQ]
 ·split<;>simp[erQ]
theorem erQ_place (u:UrlL) (a:Bs):erQ (placeU u a):=by
 unfold placeU;split
 ·split
  ·simp[erQ]
  ·exact erQ_bind (erQ_host _ _) fun u=>erQ_port _ _
 ·split
  ·simp[erQ]
  ·exact erQ_bind (erQ_host _ _) fun u=>erQ_port _ _
theorem erQ_auth (u:UrlL) (a:Bs):erQ (authU u a):=by
 unfold authU;split
 ·split
  ·simp[erQ]
  ·exact erQ_place _ _
 ·exact erQ_place _ _
theorem erQ_hosted (u:UrlL) (r:Bs):erQ (hostedU u r):=erQ_bind (erQ_auth _ _) fun _=>trivial
theorem erQ_rel (u b:UrlL) (r:Bs):erQ (relU u b r):=by
 unfold relU;simp only;split
 ·exact erQ_hosted _ _
 ·split<;>trivial
theorem erQ_files (u:UrlL) (b:Option UrlL) (r:Bs):erQ (filesU u b r):=by
 unfold filesU;simp only;split
 ·split
  ·trivial
  ·refine erQ_bind ?_ fun _=>trivial;split
   ·trivial
   ·exact erQ_host _ _
 ·split
  ·trivial
  ·split
   ·split
    ·split<;>trivial
    ·trivial
   ·trivial
theorem erQ_main (u:UrlL) (s:Bs) (b:Option UrlL):erQ (mainU u s b):=by
 unfold mainU;simp only;split
 ·split
  ·exact erQ_files _ _ _
  ·split
   ·split
    ·split
     ·exact erQ_rel _ _ _
     ·exact erQ_hosted _ _
    ·exact erQ_hosted _ _
   ·split
    ·exact erQ_hosted _ _
    ·split<;>trivial
 ·split
  ·simp[erQ]
  ·split
   ·simp[erQ]
   ·split
    ·trivial
    ·split
     ·exact erQ_files _ _ _
     ·exact erQ_rel _ _ _
theorem readU_err {s:Bs} {b:Option UrlL} {n:Nat} (e:readU s b=.er n):n=70\/n=71\/n=72\/n=81\/n=82:=by
 have h:erQ (readU s b):=erQ_bind (erQ_main _ _ _) fun _=>trivial;rw[e]at h;exact h
def qfU (t:Bs) (u:UrlL):UrlL:={u with query:=(Lib.cut (Lib.cut t [35]).1 [63]).2.1,hasQuery:=(Lib.cut (Lib.cut t [35]).1 [63]).2.2,fragment:=(Lib.cut t [35]).2.1,hasFragment:=(Lib.cut t [35]).2.2}
def mpU (t:Bs):Bs:=(Lib.cut (Lib.cut t [35]).1 [63]).1
theorem cut_nil (k:UInt8):Lib.cut [] [k]=([],[],false):=by unfold Lib.cut;rfl
theorem cut_at (k:UInt8) (t:Bs):Lib.cut (k::t) [k]=([],t,true):=by
 have:=cut_facts k (k::t);obtain⟨h1,h2,h3,h4⟩:=this;generalize Lib.cut (k::t) [k]=z at h1 h2 h3 h4;obtain⟨a,b,q⟩:=z;cases q with
 | false=>obtain⟨rfl,_⟩:=h2 rfl;simp at h1
 | true=>
   have:=h4 rfl;cases a with
   | nil=>simp at this;subst this;rfl
   | cons x r=>simp at this;obtain⟨rfl,_⟩:=this;simp at h1
theorem cut_skip {k c:UInt8} (h:c≠k) (t:Bs):Lib.cut (c::t) [k]=(c::(Lib.cut t [k]).1,(Lib.cut t [k]).2.1,(Lib.cut t [k]).2.2):=by
 have f1:=cut_facts k (c::t);have f2:=cut_facts k t;obtain⟨h1,h2,h3,h4⟩:=f1;obtain⟨g1,g2,g3,g4⟩:=f2;generalize Lib.cut (c::t) [k]=z at h1 h2 h3 h4;generalize Lib.cut t [k]=y at g1 g2 g3 g4;obtain⟨a,b,q⟩:=z;obtain⟨a',b',q'⟩:=y
 have split:∀(x x':Bs) (r r':Bs),k∉x->k∉x'->x++k::r=x'++k::r'->x=x'/\r=r':=by
  intro x
  induction x with
  | nil=>
    intro x' r r' _ h' e;cases x' with
    | nil=>simp at e;exact⟨rfl,e⟩
    | cons y s=>simp at e;obtain⟨rfl,_⟩:=e;simp at h'
  | cons y s ih=>
    intro x' r r' hx h' e;cases x' with
    | nil=>simp at e;obtain⟨rfl,_⟩:=e;simp at hx
    | cons z s'=>
      simp only[List.cons_append,List.cons.injEq]at e;obtain⟨rfl,e⟩:=e;obtain⟨rfl,rfl⟩:=ih s' r r' (fun hm=>hx (by simp[hm])) (fun hm=>h' (by simp[hm])) e;exact⟨rfl,rfl⟩
 cases q with
 | false=>
   obtain⟨rfl,rfl⟩:=h2 rfl;cases q' with
   | false=>obtain⟨rfl,rfl⟩:=g2 rfl;rfl
   | true=>
     have e:=g4 rfl;exact absurd (by rw[show t=_ from e];simp) h1
 | true=>
   have e:=h4 rfl;cases q' with
   | false=>
     obtain⟨rfl,rfl⟩:=g2 rfl;have hm:k∈c::a':=by rw[show c::a'=_ from e];simp
     rcases List.mem_cons.1 hm with hm|hm
     ·exact absurd hm.symm h
     ·exact absurd hm g1
   | true=>
     have e':=g4 rfl
     obtain⟨rfl,rfl⟩:=split a (c::a') b b' h1 (by simp only[List.mem_cons,not_or];exact⟨fun x=>h x.symm,g1⟩) (by
      show a++k::b=(c::a')++k::b';rw[List.cons_append];exact e.symm.trans (congrArg (c::·) e'))
     rfl
theorem mpU_nil:mpU []=[]:=by unfold mpU;rw[cut_nil];show(Lib.cut [] [63]).1=_;rw[cut_nil]
theorem mpU_q (t:Bs):mpU (63::t)=[]:=by unfold mpU;rw[cut_skip (by decide)];show(Lib.cut (63::_) [63]).1=_;rw[cut_at]
theorem mpU_f (t:Bs):mpU (35::t)=[]:=by unfold mpU;rw[cut_at];show(Lib.cut [] [63]).1=_;rw[cut_nil]
theorem mpU_c {c:UInt8} (h1:c≠63) (h2:c≠35) (t:Bs):mpU (c::t)=c::mpU t:=by
 unfold mpU;rw[cut_skip h2];show(Lib.cut (c::_) [63]).1=_;rw[cut_skip h1]
theorem qfU_nil (u:UrlL):qfU [] u={u with query:=[],hasQuery:=false,fragment:=[],hasFragment:=false}:=by
 unfold qfU;rw[cut_nil];simp only[cut_nil]
theorem qfU_q (t:Bs) (u:UrlL):qfU (63::t) u={u with query:=(Lib.cut t [35]).1,hasQuery:=true,fragment:=(Lib.cut t [35]).2.1,hasFragment:=(Lib.cut t [35]).2.2}:=by
 unfold qfU;rw[cut_skip (by decide)];simp only[cut_at]
theorem qfU_f (t:Bs) (u:UrlL):qfU (35::t) u={u with query:=[],hasQuery:=false,fragment:=t,hasFragment:=true}:=by
 unfold qfU;rw[cut_at];simp only[cut_nil]
theorem qfU_c {c:UInt8} (h1:c≠63) (h2:c≠35) (t:Bs) (u:UrlL):qfU (c::t) u=qfU t u:=by
 unfold qfU;rw[cut_skip h2];simp only[cut_skip h1]
theorem enc_app (of a b:Bs):encodeP of (a++b)=encodeP of a++encodeP of b:=by simp[encodeP]
theorem enc_cons (of:Bs) (c:UInt8) (b:Bs):encodeP of (c::b)=encodeP of [c]++encodeP of b:=enc_app of [c] b
theorem enc_nil (of:Bs):encodeP of []=[]:=rfl
def Bare (u:UrlL):Prop:=u.query=[]/\u.hasQuery=false/\u.fragment=[]/\u.hasFragment=false
theorem bare_qf {u:UrlL} (h:Bare u):qfU [] u=u:=by
 rw[qfU_nil];obtain⟨h1,h2,h3,h4⟩:=h;cases u;simp only at h1 h2 h3 h4
 simp[h1,h2,h3,h4]
theorem fin_bare {u:UrlL} (h:Bare u):finU u=.ok u:=by
 unfold finU;obtain⟨h1,h2,h3,h4⟩:=h;cases u;simp only at h1 h2 h3 h4;subst h1 h3;rfl
def dFrag (u:UrlL) (t:Bs):UR:=.ok {u with fragment:=u.fragment++encodeP (setU 1) t}
theorem dFrag_nil (u:UrlL):dFrag u []=.ok u:=by unfold dFrag;rw[enc_nil,List.append_nil]
theorem dFrag_cons (u:UrlL) (c:UInt8) (t:Bs):dFrag u (c::t)=dFrag {u with fragment:=u.fragment++encodeP (setU 1) [c]} t:=by
 unfold dFrag;rw[enc_cons,List.append_assoc]
def qset (u:UrlL):Bs:=setU (if specP u.scheme then 3 else 2)
def dQuery (u:UrlL) (t:Bs):UR:=.ok {u with query:=u.query++encodeP (qset u) (Lib.cut t [35]).1,hasFragment:=(Lib.cut t [35]).2.2,fragment:=encodeP (setU 1) (Lib.cut t [35]).2.1}
theorem dQuery_nil (u:UrlL) (h1:u.fragment=[]) (h2:u.hasFragment=false):dQuery u []=.ok u:=by
 unfold dQuery;rw[cut_nil,enc_nil,List.append_nil];cases u;simp only at h1 h2
 simp[h1,h2,enc_nil]
theorem dQuery_f (u:UrlL) (h1:u.fragment=[]) (t:Bs):dQuery u (35::t)=dFrag {u with hasFragment:=true} t:=by
 unfold dQuery dFrag;rw[cut_at,enc_nil,List.append_nil,h1,List.nil_append]
theorem dQuery_cons (u:UrlL) (c:UInt8) (hc:c≠35) (t:Bs):dQuery u (c::t)=dQuery {u with query:=u.query++encodeP (qset u) [c]} t:=by
 unfold dQuery;rw[cut_skip hc,enc_cons,List.append_assoc];rfl
theorem fin_end (u:UrlL) (h:Bare u):finU (qfU [] u)=.ok u:=by rw[bare_qf h,fin_bare h]
theorem fin_q (u:UrlL) (h:Bare u) (t:Bs):finU (qfU (63::t) u)=dQuery {u with hasQuery:=true} t:=by
 obtain⟨h1,h2,h3,h4⟩:=h;rw[qfU_q];unfold finU dQuery qset;simp only[h1,List.nil_append]
theorem fin_f (u:UrlL) (h:Bare u) (t:Bs):finU (qfU (35::t) u)=dFrag {u with hasFragment:=true} t:=by
 obtain⟨h1,h2,h3,h4⟩:=h;rw[qfU_f];unfold finU dFrag;cases u;simp only at h1 h2 h3 h4
 simp[h1,h2,h3,enc_nil]
def dOpq (u:UrlL) (t:Bs):UR:=finU (qfU t {u with path:=[u.path.headD []++encodeP [] (mpU t)]})
theorem dOpq_nil {u:UrlL} (h:Bare u) {x:Bs} (hx:u.path=[x]):dOpq u []=.ok u:=by
 unfold dOpq;rw[mpU_nil,enc_nil,List.append_nil];have:({u with path:=[u.path.headD []]}:UrlL)=u:=by cases u;simp only at hx;subst hx;rfl
 rw[this];exact fin_end u h
theorem dOpq_q {u:UrlL} (h:Bare u) {x:Bs} (hx:u.path=[x]) (t:Bs):dOpq u (63::t)=dQuery {u with hasQuery:=true} t:=by
 unfold dOpq;rw[mpU_q,enc_nil,List.append_nil];have:({u with path:=[u.path.headD []]}:UrlL)=u:=by cases u;simp only at hx;subst hx;rfl
 rw[this];exact fin_q u h t
theorem dOpq_f {u:UrlL} (h:Bare u) {x:Bs} (hx:u.path=[x]) (t:Bs):dOpq u (35::t)=dFrag {u with hasFragment:=true} t:=by
 unfold dOpq;rw[mpU_f,enc_nil,List.append_nil];have:({u with path:=[u.path.headD []]}:UrlL)=u:=by cases u;simp only at hx;subst hx;rfl
 rw[this];exact fin_f u h t
theorem dOpq_cons {u:UrlL} {x:Bs} (hx:u.path=[x]) {c:UInt8} (h1:c≠63) (h2:c≠35) (t:Bs):dOpq u (c::t)=dOpq {u with path:=[x++encodeP [] [c]]} t:=by
 unfold dOpq;rw[mpU_c h1 h2,enc_cons,qfU_c h1 h2,hx];simp only[List.headD_cons,List.append_assoc]
def stepQ (scheme:Bs) (path:List Bs) (q:Bs) (more:Bool):List Bs:=
 if dotsP q=2 then(if more=false then shortP scheme path++[[]]else shortP scheme path)
 else if dotsP q=1 then(if more=false then path++[[]]else path)
 else path++[if scheme=fileS/\path=[]/\driveP q=true then q.take 1++[58]else q]
def onQ (scheme:Bs):List Bs->Bs->List Bs->List Bs
 | path,buf,[]=>stepQ scheme path buf false
 | path,buf,[p]=>stepQ scheme path (buf++encodeP (setU 4) p) false
 | path,buf,p::q::r=>onQ scheme (stepQ scheme path (buf++encodeP (setU 4) p) true) [] (q::r)
theorem onQ_onL (scheme:Bs):∀(ps:List Bs) (path:List Bs),ps≠[]->onQ scheme path [] ps=onL scheme path ps
 | [],_,h=>absurd rfl h
 | [p],path,_=>by rw[onL_step,onL_nil];rfl
 | p::q::r,path,_=>by
   rw[onL_step,onQ,onQ_onL scheme (q::r) _ (by simp)];rfl
def dPath (u:UrlL) (buf:Bs) (t:Bs):UR:=finU (qfU t {u with path:=onQ u.scheme u.path buf (splitS (specP u.scheme) (mpU t))})
theorem dPath_nil {u:UrlL} (h:Bare u) (buf:Bs):dPath u buf []=.ok {u with path:=stepQ u.scheme u.path buf false}:=by
 unfold dPath;rw[mpU_nil,show splitS (specP u.scheme) []=[[]]from rfl,onQ,enc_nil,List.append_nil];exact fin_end _ h
theorem dPath_q {u:UrlL} (h:Bare u) (buf t:Bs):dPath u buf (63::t)=dQuery {u with path:=stepQ u.scheme u.path buf false,hasQuery:=true} t:=by
 unfold dPath;rw[mpU_q,show splitS (specP u.scheme) []=[[]]from rfl,onQ,enc_nil,List.append_nil];exact fin_q {u with path:=stepQ u.scheme u.path buf false} h t
theorem dPath_f {u:UrlL} (h:Bare u) (buf t:Bs):dPath u buf (35::t)=dFrag {u with path:=stepQ u.scheme u.path buf false,hasFragment:=true} t:=by
 unfold dPath;rw[mpU_f,show splitS (specP u.scheme) []=[[]]from rfl,onQ,enc_nil,List.append_nil];exact fin_f {u with path:=stepQ u.scheme u.path buf false} h t
theorem slash_not {sp:Bool} {c:UInt8} (h:slashQ sp c=true):c≠63/\c≠35:=by
 constructor
 ·rintro rfl;cases sp<;>simp[slashQ]at h
 ·rintro rfl;cases sp<;>simp[slashQ]at h
theorem splitS_ne2 (sp:Bool) (s:Bs):splitS sp s≠[]:=by rw[splitS_cut];simp
theorem dPath_slash {u:UrlL} {c:UInt8} (hc:slashQ (specP u.scheme) c=true) (buf t:Bs):dPath u buf (c::t)=dPath {u with path:=stepQ u.scheme u.path buf true} [] t:=by
 obtain⟨h1,h2⟩:=slash_not hc;unfold dPath;rw[mpU_c h1 h2,qfU_c h1 h2];have:splitS (specP u.scheme) (c::mpU t)=[]::splitS (specP u.scheme) (mpU t):=by rw[splitS,if_pos hc]
 rw[this];have hne:=splitS_ne2 (specP u.scheme) (mpU t);cases hs:splitS (specP u.scheme) (mpU t)with
 | nil=>exact absurd hs hne
 | cons q r=>rw[onQ,enc_nil,List.append_nil]
theorem onQ_head (scheme:Bs) (path:List Bs) (buf p:Bs) (r:List Bs) (c:UInt8):onQ scheme path buf ((c::p)::r)=onQ scheme path (buf++encodeP (setU 4) [c]) (p::r):=by
 cases r with
 | nil=>rw[onQ,onQ,enc_cons,List.append_assoc]
 | cons q r=>rw[onQ,onQ,enc_cons,List.append_assoc]
theorem dPath_cons {u:UrlL} {c:UInt8} (hc:slashQ (specP u.scheme) c=false) (h1:c≠63) (h2:c≠35) (buf t:Bs):dPath u buf (c::t)=dPath u (buf++encodeP (setU 4) [c]) t:=by
 unfold dPath;rw[mpU_c h1 h2,qfU_c h1 h2];have hne:=splitS_ne2 (specP u.scheme) (mpU t)
 have:splitS (specP u.scheme) (c::mpU t)=match splitS (specP u.scheme) (mpU t)with
   | h::t=>(c::h)::t
   | []=>[[c]]:=by
  rw[splitS,if_neg (by rw[hc];simp)];generalize splitS (specP u.scheme) (mpU t)=z;cases z<;>rfl
 rw[this];cases hs:splitS (specP u.scheme) (mpU t)with
 | nil=>exact absurd hs hne
 | cons q r=>simp only[onQ_head]
theorem qf_path (t:Bs) (u:UrlL) (p:List Bs):qfU t {u with path:=p}={qfU t u with path:=p}:=rfl
theorem dPath_onP (u:UrlL) (t:Bs):dPath u [] t=finU (onP (qfU t u) (mpU t)):=by
 unfold dPath onP;rw[onQ_onL _ _ _ (splitS_ne2 _ _)];rfl
def nsl (sp:Bool) (c:UInt8):Bool:= !slashQ sp c
def dropS (sp:Bool):Bs->Bs
 | c::r=>if slashQ sp c then r else c::r
 | []=>[]
def PS (v:UrlL) (m:Bs):UR:=finU (if m=[]/\specP v.scheme=false then v else onP v (dropS (specP v.scheme) m))
def dPS (u:UrlL) (t:Bs):UR:=PS (qfU t u) (mpU t)
theorem qf_scheme (t:Bs) (u:UrlL):(qfU t u).scheme=u.scheme:=rfl
theorem dPS_sp_slash {u:UrlL} (hs:specP u.scheme=true) {c:UInt8} (hc:slashQ true c=true) (t:Bs):dPS u (c::t)=dPath u [] t:=by
 obtain⟨h1,h2⟩:=slash_not hc;unfold dPS PS;rw[dPath_onP,mpU_c h1 h2,qfU_c h1 h2,if_neg (by simp),qf_scheme,hs,dropS,if_pos hc]
theorem dropS_no {sp:Bool} {t:Bs} (h:∀c,t.head? =some c->slashQ sp c=false):dropS sp (mpU t)=mpU t:=by
 cases t with
 | nil=>rw[mpU_nil];rfl
 | cons c r=>
   have hc:=h c rfl;by_cases h1:c=63
   ·subst h1;rw[mpU_q];rfl
   ·by_cases h2:c=35
    ·subst h2;rw[mpU_f];rfl
    ·rw[mpU_c h1 h2,dropS,if_neg (by rw[hc];simp)]
theorem dPS_sp_no {u:UrlL} (hs:specP u.scheme=true) {t:Bs} (h:∀c,t.head? =some c->slashQ true c=false):dPS u t=dPath u [] t:=by
 unfold dPS PS;rw[dPath_onP,qf_scheme,hs,if_neg (by simp),dropS_no h]
theorem dPS_nil {u:UrlL} (hs:specP u.scheme=false) (h:Bare u):dPS u []=.ok u:=by
 unfold dPS PS;rw[mpU_nil,qf_scheme,if_pos ⟨rfl,hs⟩];exact fin_end u h
theorem dPS_q {u:UrlL} (hs:specP u.scheme=false) (h:Bare u) (t:Bs):dPS u (63::t)=dQuery {u with hasQuery:=true} t:=by
 unfold dPS PS;rw[mpU_q,qf_scheme,if_pos ⟨rfl,hs⟩];exact fin_q u h t
theorem dPS_f {u:UrlL} (hs:specP u.scheme=false) (h:Bare u) (t:Bs):dPS u (35::t)=dFrag {u with hasFragment:=true} t:=by
 unfold dPS PS;rw[mpU_f,qf_scheme,if_pos ⟨rfl,hs⟩];exact fin_f u h t
theorem dPS_slash {u:UrlL} (hs:specP u.scheme=false) (t:Bs):dPS u (47::t)=dPath u [] t:=by
 unfold dPS PS;rw[dPath_onP,mpU_c (by decide) (by decide),qfU_c (by decide) (by decide),if_neg (by simp),qf_scheme,hs];rfl
theorem dPS_cons {u:UrlL} (hs:specP u.scheme=false) {c:UInt8} (h0:c≠47) (h1:c≠63) (h2:c≠35) (t:Bs):dPS u (c::t)=dPath u [] (c::t):=by
 unfold dPS PS;rw[dPath_onP,mpU_c h1 h2,qfU_c h1 h2,if_neg (by simp),qf_scheme,hs,dropS,if_neg (by simp[slashQ,h0])]
def overQ (sp:Bool) (c:UInt8):Bool:=slashQ sp c||c==63||c==35
theorem over_not {sp:Bool} {c:UInt8} (h:overQ sp c=false):slashQ sp c=false/\c≠63/\c≠35:=by
 unfold overQ at h;simp only[Bool.or_eq_false_iff,beq_eq_false_iff_ne]at h;exact⟨h.1.1,h.1.2,h.2⟩
def tw (sp:Bool) (t:Bs):Bs:=(mpU t).takeWhile (nsl sp)
def dw (sp:Bool) (t:Bs):Bs:=(mpU t).dropWhile (nsl sp)
def isOver (sp:Bool) (t:Bs):Prop:=∀c,t.head? =some c->overQ sp c=true
theorem tw_over {sp:Bool} {t:Bs} (h:isOver sp t):tw sp t=[]/\dw sp t=mpU t:=by
 unfold tw dw;cases t with
 | nil=>rw[mpU_nil];exact⟨rfl,rfl⟩
 | cons c r=>
   have hc:=h c rfl;by_cases h1:c=63
   ·subst h1;rw[mpU_q];exact⟨rfl,rfl⟩
   ·by_cases h2:c=35
    ·subst h2;rw[mpU_f];exact⟨rfl,rfl⟩
    ·have hs:slashQ sp c=true:=by
      unfold overQ at hc;simpa [h1,h2]using hc
     rw[mpU_c h1 h2]
     simp[nsl,hs]
theorem tw_cons {sp:Bool} {c:UInt8} (h:overQ sp c=false) (t:Bs):tw sp (c::t)=c::tw sp t/\dw sp (c::t)=dw sp t:=by
 obtain⟨h0,h1,h2⟩:=over_not h;unfold tw dw;rw[mpU_c h1 h2]
 simp[nsl,h0]
theorem qf_cons {sp:Bool} {c:UInt8} (h:overQ sp c=false) (t:Bs) (u:UrlL):qfU (c::t) u=qfU t u:=by
 obtain⟨h0,h1,h2⟩:=over_not h;exact qfU_c h1 h2 t u
theorem tw_app {sp:Bool}:∀{b:Bs} (t:Bs),(∀c∈b,overQ sp c=false)->tw sp (b++t)=b++tw sp t/\dw sp (b++t)=dw sp t/\∀u,qfU (b++t) u=qfU t u
 | [],t,_=>⟨rfl,rfl,fun _=>rfl⟩
 | c::r,t,h=>by
   obtain⟨i1,i2,i3⟩:=tw_app (b:=r) t (fun x hx=>h x (List.mem_cons_of_mem _ hx));have hc:=h c (by simp);obtain⟨j1,j2⟩:=tw_cons hc (r++t);rw[List.cons_append];exact⟨by rw[j1,i1];rfl,by rw[j2,i2],fun u=>by rw[qf_cons hc,i3]⟩
def dPort (u:UrlL) (buf t:Bs):UR:=(portU (qfU t u) (buf++tw (specP u.scheme) t)).bind fun v=>PS v (dw (specP u.scheme) t)
theorem port_qf (t:Bs) (u:UrlL) (s:Bs):portU (qfU t u) s=match portU u s with
  | .ok v=>.ok (qfU t v)
  | .er n=>.er n:=by
 unfold portU;rw[qf_scheme];cases portN 0 s with
 | none=>rfl
 | some n=>
   simp only;split
   ·rfl
   ·split<;>rfl
theorem dPort_over {u:UrlL} {t:Bs} (h:isOver (specP u.scheme) t) (buf:Bs):dPort u buf t=match portU u buf with
  | .ok v=>dPS v t
  | .er n=>.er n:=by
 unfold dPort;obtain⟨h1,h2⟩:=tw_over h;rw[h1,h2,List.append_nil,port_qf];cases portU u buf<;>rfl
theorem dPort_cons {u:UrlL} {c:UInt8} (h:overQ (specP u.scheme) c=false) (buf t:Bs):dPort u buf (c::t)=dPort u (buf++[c]) t:=by
 unfold dPort;obtain⟨h1,h2⟩:=tw_cons h t;rw[h1,h2,qf_cons h,List.append_assoc];rfl
theorem portN_bad {c:UInt8} (hc:isDigit c=false) (r:Bs):∀(b:Bs) (n:Nat),portN n (b++c::r)=none
 | [],n=>by rw[List.nil_append,portN,if_neg (by rw[hc];simp)]
 | x::b,n=>by
   rw[List.cons_append,portN];split
   ·exact portN_bad hc r b _
   ·rfl
theorem dPort_bad {u:UrlL} {c:UInt8} (h:overQ (specP u.scheme) c=false) (hc:isDigit c=false) (buf t:Bs):dPort u buf (c::t)=.er 81:=by
 unfold dPort;rw[(tw_cons h t).1];unfold portU;rw[portN_bad hc];rfl
def colX (inside:Bool) (buf:Bs):Prop:=∀r:Bs,colonP false (buf++r)=(colonP inside r).map (·+buf.length)
theorem colX_nil:colX false []:=fun r=>by rw[List.nil_append];cases colonP false r<;>rfl
theorem colX_step {inside:Bool} {buf:Bs} (h:colX inside buf) {c:UInt8} (hc:¬(c=58/\inside=false)):
  colX (if c=93 then false else if c=91 then true else inside) (buf++[c]):=by
 intro r;rw[List.append_assoc,h,List.singleton_append,List.length_append];rw[colonP];by_cases h1:c=91
 ·subst h1;rw[if_pos (by rfl)];simp only[show ¬(91:UInt8)=93 by decide,if_false,if_true];cases colonP true r<;>simp;omega
 ·rw[if_neg (by simpa using h1)];by_cases h2:c=93
  ·subst h2;rw[if_pos (by rfl)];simp only[if_true];cases colonP false r<;>simp;omega
  ·rw[if_neg (by simpa using h2),if_neg (by intro hh;simp at hh;exact hc ⟨hh.1,hh.2⟩),if_neg h2,if_neg h1];cases colonP inside r<;>simp;omega
def dHost (u:UrlL) (buf t:Bs):UR:=(placeU (qfU t u) (buf++tw (specP u.scheme) t)).bind fun v=>PS v (dw (specP u.scheme) t)
theorem host_qf (t:Bs) (u:UrlL) (s:Bs):hostU (qfU t u) s=match hostU u s with
  | .ok v=>.ok (qfU t v)
  | .er n=>.er n:=by
 unfold hostU;rw[qf_scheme];cases hostPr s (specP u.scheme)<;>rfl
theorem bind_assoc (r:UR) (f g:UrlL->UR):(r.bind f).bind g=r.bind fun u=>(f u).bind g:=by cases r<;>rfl
theorem hostU_scheme {u v:UrlL} {s:Bs} (e:hostU u s=.ok v):v.scheme=u.scheme:=by
 obtain⟨h,rfl,_⟩:=hostU_ok e;rfl
theorem dHost_over {u:UrlL} {inside:Bool} {buf t:Bs} (hX:colX inside buf) (h:isOver (specP u.scheme) t):dHost u buf t=
  if buf=[]/\specP u.scheme=true then .er 70 else match hostU u buf with
   | .ok v=>match portU v []with
     | .ok x=>dPS x t
     | .er n=>.er n
   | .er n=>.er n:=by
 unfold dHost;obtain⟨h1,h2⟩:=tw_over h
 have hc:colonP false buf=none:=by
  have:=hX [];rw[List.append_nil]at this;rw[this];rfl
 rw[h1,h2,List.append_nil];unfold placeU;rw[hc,qf_scheme];simp only;split
 ·rfl
 ·rw[bind_assoc,host_qf];cases hostU u buf with
  | er n=>rfl
  | ok v=>
    show(portU (qfU t v) []).bind _=_;rw[port_qf];cases hp:portU v []<;>simp only[hp]<;>rfl
theorem dHost_over2 {u:UrlL} {inside:Bool} {buf t:Bs} (hX:colX inside buf) (h:isOver (specP u.scheme) t):dHost u buf t=
  if buf=[]/\specP u.scheme=true then .er 70 else match hostU u buf with
   | .ok v=>dPS v t
   | .er n=>.er n:=by
 rw[dHost_over hX h];split
 ·rfl
 ·cases hostU u buf<;>rfl
theorem dHost_colon {u:UrlL} {buf:Bs} (hX:colX false buf) (t:Bs):dHost u buf (58::t)=
  if buf=[]then .er 70 else match hostU u buf with
   | .ok v=>dPort v [] t
   | .er n=>.er n:=by
 have ho:overQ (specP u.scheme) 58=false:=by cases specP u.scheme<;>rfl
 unfold dHost;obtain⟨h1,h2⟩:=tw_cons ho t;rw[h1,h2,qf_cons ho]
 have hc:colonP false (buf++58::tw (specP u.scheme) t)=some buf.length:=by
  rw[hX];show(if(58:UInt8)==91 then _ else if(58:UInt8)==93 then _ else if((58:UInt8)==58&& !false)=true then some 0 else _).map _=_
  simp
 unfold placeU;rw[hc];simp only;have h3:(buf++58::tw (specP u.scheme) t).take buf.length=buf:=by simp
 have h4:(buf++58::tw (specP u.scheme) t).drop (buf.length+1)=tw (specP u.scheme) t:=by
  rw[<-List.drop_drop];simp
 rw[h3,h4];split
 ·rfl
 ·rw[bind_assoc,host_qf];cases hv:hostU u buf with
  | er n=>rfl
  | ok v=>
    have hs:=hostU_scheme hv;show(portU (qfU t v) _).bind _=dPort v [] t;unfold dPort;rw[List.nil_append,hs]
theorem dHost_cons {u:UrlL} {c:UInt8} (h:overQ (specP u.scheme) c=false) (buf t:Bs):dHost u buf (c::t)=dHost u (buf++[c]) t:=by
 unfold dHost;obtain⟨h1,h2⟩:=tw_cons h t;rw[h1,h2,qf_cons h,List.append_assoc];rfl
def extZ (a:Bool) (x:Bs):Bs:=if a then 64::x else x
def extU (u:UrlL) (a pass:Bool) (x:Bs):UrlL:=
 if pass then{u with pass:=u.pass++encodeP (setU 5) (extZ a x)}
 else{u with user:=u.user++encodeP (setU 5) (Lib.cut (extZ a x) [58]).1,pass:=u.pass++encodeP (setU 5) (Lib.cut (extZ a x) [58]).2.1}
def extP (a pass:Bool) (x:Bs):Bool:=pass||(Lib.cut (extZ a x) [58]).2.2
def dAuth (u:UrlL) (a pass:Bool) (buf t:Bs):UR:=
 (match lastAt (buf++tw (specP u.scheme) t)with
  | some (x,y)=>if y=[]then UR.er 70 else placeU (qfU t (extU u a pass x)) y
  | none=>if a=true/\buf++tw (specP u.scheme) t=[]then .er 70 else placeU (qfU t u) (buf++tw (specP u.scheme) t)).bind fun v=>PS v (dw (specP u.scheme) t)
theorem dAuth_cons {u:UrlL} {c:UInt8} (h:overQ (specP u.scheme) c=false) (a pass:Bool) (buf t:Bs):dAuth u a pass buf (c::t)=dAuth u a pass (buf++[c]) t:=by
 unfold dAuth;obtain⟨h1,h2⟩:=tw_cons h t;have h3:buf++c::tw (specP u.scheme) t=buf++[c]++tw (specP u.scheme) t:=by simp
 have e1:∀v,qfU (c::t) v=qfU t v:=fun v=>qf_cons h t v;rw[h1,h2,h3];simp only[e1]
theorem lastAt_none2 {s:Bs} (h:(64:UInt8)∉s):lastAt s=none:=by
 induction s with
 | nil=>rfl
 | cons c r ih=>
   simp only[List.mem_cons,not_or]at h;rw[lastAt,ih h.2];simp only;rw[if_neg (by simpa using fun e:c=64=>h.1 e.symm)]
theorem lastAt_over {b:Bs} (h:(64:UInt8)∉b) (r:Bs):lastAt (b++64::r)=match lastAt r with
  | some (x,y)=>some (b++64::x,y)
  | none=>some (b,r):=by
 induction b with
 | nil=>
   rw[List.nil_append,lastAt];cases lastAt r with
   | none=>rfl
   | some z=>obtain⟨x,y⟩:=z;rfl
 | cons c b ih=>
   simp only[List.mem_cons,not_or]at h;rw[List.cons_append,lastAt,ih h.2];cases lastAt r with
   | none=>rfl
   | some z=>obtain⟨x,y⟩:=z;rfl
theorem enc_at:encodeP (setU 5) [64]=[37,52,48]:=by decide +kernel
theorem cut_app {k:UInt8} (a b:Bs):Lib.cut (a++b) [k]=if(Lib.cut a [k]).2.2 then((Lib.cut a [k]).1,(Lib.cut a [k]).2.1++b,true)else(a++(Lib.cut b [k]).1,(Lib.cut b [k]).2.1,(Lib.cut b [k]).2.2):=by
 induction a with
 | nil=>rw[cut_nil];rfl
 | cons c r ih=>
   by_cases hc:c=k
   ·subst hc;rw[List.cons_append,cut_at,cut_at];rfl
   ·rw[List.cons_append,cut_skip hc,cut_skip hc,ih];cases (Lib.cut r [k]).2.2<;>simp
theorem ext_two (u:UrlL) (a pass:Bool) (b x:Bs):extU (extU u a pass b) true (extP a pass b) x=extU u a pass (b++64::x):=by
 have hz:extZ a (b++64::x)=extZ a b++extZ true x:=by unfold extZ;cases a<;>rfl
 cases pass with
 | true=>
   unfold extU extP;rw[hz];simp only[Bool.true_or,if_true,enc_app,List.append_assoc]
 | false=>
   unfold extU extP;rw[hz,cut_app,Bool.false_or];have f:=cut_facts 58 (extZ a b);obtain⟨_,f2,_,_⟩:=f;cases hq:(Lib.cut (extZ a b) [58]).2.2 with
   | true=>simp[enc_app]
   | false=>
     obtain⟨g1,g2⟩:=f2 hq
     simp[enc_app,g1,g2,enc_nil]
theorem dAuth_at {u:UrlL} {a pass:Bool} {buf:Bs} (h:(64:UInt8)∉buf) (t:Bs):dAuth u a pass buf (64::t)=dAuth (extU u a pass buf) true (extP a pass buf) [] t:=by
 have ho:overQ (specP u.scheme) 64=false:=by cases specP u.scheme<;>rfl
 have hs:(extU u a pass buf).scheme=u.scheme:=by unfold extU;cases pass<;>rfl
 unfold dAuth;obtain⟨h1,h2⟩:=tw_cons ho t;have e1:∀v,qfU (64::t) v=qfU t v:=fun v=>qf_cons ho t v;rw[hs,h1,h2,lastAt_over h,List.nil_append];simp only[e1];cases lastAt (tw (specP u.scheme) t)with
 | none=>
   simp only;by_cases hy:tw (specP u.scheme) t=[]
   ·rw[if_pos hy,if_pos ⟨trivial,hy⟩]
   ·rw[if_neg hy,if_neg (fun e=>hy e.2)]
 | some z=>
   obtain⟨x,y⟩:=z;simp only[ext_two]
theorem dAuth_over {u:UrlL} {a pass:Bool} {buf t:Bs} (h:(64:UInt8)∉buf) (hb:∀c∈buf,overQ (specP u.scheme) c=false) (ho:isOver (specP u.scheme) t):
  dAuth u a pass buf t=if a=true/\buf=[]then .er 70 else dHost u [] (buf++t):=by
 unfold dAuth dHost;obtain⟨h1,h2⟩:=tw_over ho;obtain⟨k1,k2,k3⟩:=tw_app t hb;rw[h1,List.append_nil,lastAt_none2 h,k1,k2,k3,h1,List.append_nil,List.nil_append];simp only;split
 ·rfl
 ·rfl
theorem dAuth_fresh (u:UrlL) (hu:u.user=[]) (hp:u.pass=[]) (t:Bs):dAuth u false false [] t=(authU (qfU t u) (tw (specP u.scheme) t)).bind fun v=>PS v (dw (specP u.scheme) t):=by
 unfold dAuth authU;rw[List.nil_append];cases lastAt (tw (specP u.scheme) t)with
 | none=>simp
 | some z=>
   obtain⟨x,y⟩:=z;simp only
   have:qfU t (extU u false false x)=whoU (qfU t u) x:=by
    unfold extU extZ whoU qfU
    simp[hu,hp]
   rw[this]
theorem PS_cut (v:UrlL) (m:Bs) (h:dropS (specP v.scheme) (m.dropWhile (nsl (specP v.scheme)))=(cutS (specP v.scheme) m).2.1):
  PS v (m.dropWhile (nsl (specP v.scheme)))=finU (if(cutS (specP v.scheme) m).2.2||specP v.scheme then onP v (cutS (specP v.scheme) m).2.1 else v):=by
 unfold PS;rw[h]
 have hany:(cutS (specP v.scheme) m).2.2= !decide (m.dropWhile (nsl (specP v.scheme))=[]):=by
  show m.any _=_;clear h
  induction m with
  | nil=>rfl
  | cons c r ih=>
    rw[List.any_cons,List.dropWhile_cons];cases hc:slashQ (specP v.scheme) c
    ·simp[nsl,hc];simpa [nsl]using ih
    ·simp[nsl,hc]
 rw[hany];by_cases he:m.dropWhile (nsl (specP v.scheme))=[]
 ·cases hs:specP v.scheme
  ·rw[hs]at he;rw[if_pos ⟨he,rfl⟩,if_neg];simp[he]
  ·rw[if_neg (by simp),if_pos (by simp)]
 ·rw[if_neg (fun e=>he e.1),if_pos (by simp[he])]
theorem drop_cut (sp:Bool) (m:Bs):dropS sp (m.dropWhile (nsl sp))=(cutS sp m).2.1:=by
 show _=(m.dropWhile (nsl sp)).drop 1
 induction m with
 | nil=>rfl
 | cons c r ih=>
   rw[List.dropWhile_cons];cases hc:slashQ sp c
   ·rw[if_pos (by simp[nsl,hc])];exact ih
   ·rw[if_neg (by simp[nsl,hc])];rw[dropS,if_pos hc];rfl
theorem dAuth_hosted (u:UrlL) (hu:u.user=[]) (hp:u.pass=[]) (t:Bs):dAuth u false false [] t=(hostedU (qfU t u) (mpU t)).bind finU:=by
 rw[dAuth_fresh u hu hp];unfold hostedU;simp only;rw[bind_assoc,qf_scheme];show(authU (qfU t u) (tw (specP u.scheme) t)).bind _=(authU (qfU t u) (tw (specP u.scheme) t)).bind _;cases hv:authU (qfU t u) (tw (specP u.scheme) t)with
 | er n=>rfl
 | ok v=>
   have hs:v.scheme=u.scheme:=(authU_path hv).2;show PS v _=finU _;have:=PS_cut v (mpU t) (drop_cut _ _);rw[hs]at this;rw[hs];exact this
theorem lead_cons {sp:Bool} {c:UInt8} (hc:slashQ sp c=true) (r:Bs):leadS sp (c::r)=leadS sp r+1:=by
 unfold leadS;rw[List.takeWhile_cons,if_pos hc];rfl
theorem lead_zero {sp:Bool} {r:Bs} (h:∀c,r.head? =some c->slashQ sp c=false):leadS sp r=0:=by
 unfold leadS;cases r with
 | nil=>rfl
 | cons c r=>rw[List.takeWhile_cons,if_neg (by rw[h c rfl];simp)];rfl
theorem mp_head {sp:Bool} {t:Bs} (h:∀c,t.head? =some c->slashQ sp c=false):∀c,(mpU t).head? =some c->slashQ sp c=false:=by
 cases t with
 | nil=>rw[mpU_nil];intro c hc;cases hc
 | cons x r=>
   have hx:=h x rfl;by_cases h1:x=63
   ·subst h1;rw[mpU_q];intro c hc;cases hc
   ·by_cases h2:x=35
    ·subst h2;rw[mpU_f];intro c hc;cases hc
    ·rw[mpU_c h1 h2];intro c hc;cases hc;exact hx
def dIgn (u:UrlL) (t:Bs):UR:=(hostedU (qfU t u) ((mpU t).drop (leadS (specP u.scheme) (mpU t)))).bind finU
theorem dIgn_slash {u:UrlL} {c:UInt8} (hc:slashQ (specP u.scheme) c=true) (t:Bs):dIgn u (c::t)=dIgn u t:=by
 obtain⟨h1,h2⟩:=slash_not hc;unfold dIgn;rw[mpU_c h1 h2,qfU_c h1 h2,lead_cons hc,List.drop_succ_cons]
theorem dIgn_no {u:UrlL} (hu:u.user=[]) (hp:u.pass=[]) {t:Bs} (h:∀c,t.head? =some c->slashQ (specP u.scheme) c=false):dIgn u t=dAuth u false false [] t:=by
 rw[dAuth_hosted u hu hp];unfold dIgn;rw[lead_zero (mp_head h)];rfl
theorem dIgn_two {u:UrlL} (t:Bs):dIgn u (47::47::t)=dIgn u t:=by
 have hc:slashQ (specP u.scheme) 47=true:=rfl;rw[dIgn_slash hc,dIgn_slash hc]
def dPA (u:UrlL) (t:Bs):UR:=match t with
 | c::r=>if c=47 then dAuth u false false [] r else dPath u [] (c::r)
 | []=>dPath u [] []
theorem relU_two (u b:UrlL) (r:Bs) (h:1<leadS (specP u.scheme) r):relU u b r=hostedU u (if specP u.scheme then r.drop (leadS (specP u.scheme) r)else r.drop 2):=by
 unfold relU;simp only;rw[if_pos h]
theorem relU_one (u b:UrlL) (r:Bs) (h:leadS (specP u.scheme) r=1):relU u b r=.ok (onP (restU u b) (r.drop 1)):=by
 unfold relU;simp only;rw[if_neg (by omega),if_pos h]
theorem relU_zero (u b:UrlL) (r:Bs) (h:leadS (specP u.scheme) r=0):relU u b r=.ok (pathU (restU u b) b r):=by
 unfold relU;simp only;rw[if_neg (by omega),if_neg (by omega)]
def dRel (u x:UrlL) (t:Bs):UR:=(relU (qfU t u) x (mpU t)).bind finU
def dRelS (u x:UrlL):Bs->UR
 | c::r=>if slashQ (specP u.scheme) c=true then(if specP u.scheme then dIgn u r else dAuth u false false [] r)else dPath (restU u x) [] (c::r)
 | []=>dPath (restU u x) [] []
theorem dRel_one {u:UrlL} (x:UrlL) {c:UInt8} (hc:slashQ (specP u.scheme) c=true) {t:Bs} (h:∀d,t.head? =some d->slashQ (specP u.scheme) d=false):(relU (qfU t u) x (c::mpU t)).bind finU=dPath (restU u x) [] t:=by
 have h0:=lead_zero (mp_head h);rw[relU_one _ _ _ (by rw[qf_scheme,lead_cons hc,h0]),dPath_onP];rfl
theorem dRel_slash {u:UrlL} (hu:u.user=[]) (hp:u.pass=[]) (x:UrlL) {c:UInt8} (hc:slashQ (specP u.scheme) c=true) (t:Bs):dRel u x (c::t)=dRelS u x t:=by
 obtain⟨h1,h2⟩:=slash_not hc;unfold dRel;rw[qfU_c h1 h2,mpU_c h1 h2];cases t with
 | nil=>exact dRel_one x hc (by intro d hd;cases hd)
 | cons d r=>
   by_cases hd:slashQ (specP u.scheme) d=true
   ·obtain⟨d1,d2⟩:=slash_not hd;rw[dRelS,if_pos hd,mpU_c d1 d2,qfU_c d1 d2];have hl:leadS (specP u.scheme) (c::d::mpU r)=leadS (specP u.scheme) (mpU r)+2:=by rw[lead_cons hc,lead_cons hd]
    rw[relU_two _ _ _ (by rw[qf_scheme,hl];omega),qf_scheme,hl];cases hs:specP u.scheme
    ·rw[if_neg (by simp),if_neg (by simp),dAuth_hosted u hu hp];rfl
    ·rw[if_pos rfl,if_pos rfl];unfold dIgn;rw[hs];rfl
   ·have hd':slashQ (specP u.scheme) d=false:=by simpa using hd
    rw[dRelS,if_neg hd];exact dRel_one x hc (by intro y hy;cases hy;exact hd')
def relB (u x:UrlL):UrlL:={restU u x with path:=x.path,query:=x.query,hasQuery:=x.hasQuery}
theorem dRel_none {u x:UrlL} {t:Bs} (h:∀c,t.head? =some c->slashQ (specP u.scheme) c=false):dRel u x t=finU (pathU (restU (qfU t u) x) x (mpU t)):=by
 unfold dRel;rw[relU_zero _ _ _ (by rw[qf_scheme];exact lead_zero (mp_head h))];rfl
theorem slash_q (sp:Bool):slashQ sp 63=false/\slashQ sp 35=false:=by cases sp<;>exact⟨rfl,rfl⟩
theorem fin_base {x:UrlL} (hx:NU x) {u:UrlL} (hs:u.scheme=x.scheme) (hq:u.query=x.query):finU u=.ok {u with fragment:=encodeP (setU 1) u.fragment}:=by
 unfold finU;rw[hs,hq,encode_id hx.query,<-hq]
theorem pathU_be {u x:UrlL} (h:u.hasQuery=false):pathU u x []={u with path:=x.path,query:=x.query,hasQuery:=x.hasQuery}:=by
 unfold pathU;simp[h]
theorem pathU_bq {u x:UrlL} (h:u.hasQuery=true):pathU u x []={u with path:=x.path}:=by
 unfold pathU;simp[h]
theorem dRel_nil {u x:UrlL} (hx:NU x) (hs:u.scheme=x.scheme) (h:Bare u):dRel u x []=.ok (relB u x):=by
 rw[dRel_none (by intro c hc;cases hc),mpU_nil,bare_qf h];obtain⟨h1,h2,h3,h4⟩:=h;rw[pathU_be (by show u.hasQuery=false;exact h2)];refine Eq.trans (fin_base hx ?_ ?_) ?_
 ·exact hs
 ·rfl
 unfold relB restU;simp only[h3,enc_nil]
theorem dRel_f {u x:UrlL} (hx:NU x) (hs:u.scheme=x.scheme) (h:Bare u) (t:Bs):dRel u x (35::t)=dFrag {relB u x with hasFragment:=true} t:=by
 rw[dRel_none (by intro c hc;cases hc;exact(slash_q _).2),mpU_f,qfU_f];obtain⟨h1,h2,h3,h4⟩:=h;rw[pathU_be rfl];refine Eq.trans (fin_base hx ?_ ?_) ?_
 ·exact hs
 ·rfl
 unfold dFrag relB restU;simp only[h3,List.nil_append]
theorem dRel_q {u x:UrlL} (h:Bare u) (t:Bs):dRel u x (63::t)=dQuery {relB u x with query:=[],hasQuery:=true} t:=by
 rw[dRel_none (by intro c hc;cases hc;exact(slash_q _).1),mpU_q,pathU_bq (by rw[qfU_q];rfl)];have:({restU (qfU (63::t) u) x with path:=x.path}:UrlL)=qfU (63::t) {restU u x with path:=x.path}:=by rw[qfU_q,qfU_q];rfl
 rw[this];refine Eq.trans (fin_q _ ?_ t) ?_
 ·exact h
 unfold relB restU dQuery qset;obtain⟨h1,h2,h3,h4⟩:=h
 simp[h1]
theorem dRel_cons {u x:UrlL} {c:UInt8} (hc:slashQ (specP u.scheme) c=false) (h1:c≠63) (h2:c≠35) (t:Bs):dRel u x (c::t)=dPath {restU u x with path:=shortP u.scheme x.path} [] (c::t):=by
 rw[dRel_none (by intro d hd;cases hd;exact hc),dPath_onP,mpU_c h1 h2];unfold pathU;rw[if_pos (by simp)];rfl
def dSpRel (u x:UrlL) (t:Bs):UR:=if Lib.hasPrefix (mpU t) [47,47]=false then dRel u x t else dIgn u t
theorem mp_two (t:Bs):Lib.hasPrefix (mpU t) [47,47]=(t[0]? ==some 47&&t[1]? ==some 47):=by
 rw[hasPrefix_two];cases t with
 | nil=>rw[mpU_nil]
 | cons c r=>
   by_cases h1:c=63
   ·subst h1;rw[mpU_q];rfl
   ·by_cases h2:c=35
    ·subst h2;rw[mpU_f];rfl
    ·rw[mpU_c h1 h2];cases r with
     | nil=>rw[mpU_nil]
     | cons d r=>
       by_cases k1:d=63
       ·subst k1;rw[mpU_q];simp
       ·by_cases k2:d=35
        ·subst k2;rw[mpU_f];simp
        ·rw[mpU_c k1 k2];simp
theorem mp_one (t:Bs):Lib.hasPrefix (mpU t) [47]=(t[0]? ==some 47):=by
 rw[hasPrefix_one];cases t with
 | nil=>rw[mpU_nil]
 | cons c r=>
   by_cases h1:c=63
   ·subst h1;rw[mpU_q];rfl
   ·by_cases h2:c=35
    ·subst h2;rw[mpU_f];rfl
    ·rw[mpU_c h1 h2];simp
theorem dSpRel_two (u x:UrlL) (t:Bs):dSpRel u x (47::47::t)=dIgn u t:=by
 unfold dSpRel;rw[mp_two,if_neg (by simp),dIgn_two]
theorem dSpRel_no {u x:UrlL} {t:Bs} (h:¬(t[0]? =some 47/\t[1]? =some 47)):dSpRel u x t=dRel u x t:=by
 unfold dSpRel;rw[mp_two,if_pos];rw[Bool.and_eq_false_iff];by_cases h0:t[0]? =some 47
 ·right;simp;exact fun h1=>h ⟨h0,h1⟩
 ·left;simp[h0]
def fileV (u:UrlL):UrlL:={u with hasHost:=true}
theorem filesU_two' (u:UrlL) (b:Option UrlL) (r:Bs) (h:1<leadS true r):filesU u b r=
  if driveP (cutS true (r.drop 2)).1 then .ok (onP {u with hasHost:=true} (r.drop 2))
  else(if(cutS true (r.drop 2)).1=[]then UR.ok {u with hasHost:=true} else hostU {u with hasHost:=true} (cutS true (r.drop 2)).1).bind fun u=>.ok (onP (if u.host=localS then{u with host:=[]} else u) (cutS true (r.drop 2)).2.1):=by
 unfold filesU;simp only;rw[if_pos h]
theorem filesU_one' (u:UrlL) (b:Option UrlL) (r:Bs) (h:leadS true r=1):filesU u b r=
  .ok (onP (match b with
   | some x=>if x.scheme=fileS then(if drivenP (r.drop 1)=false/\rootedP x.path=true then{u with hasHost:=true,host:=x.host,path:=x.path.take 1} else{u with hasHost:=true,host:=x.host})else{u with hasHost:=true}
   | none=>{u with hasHost:=true}) (r.drop 1)):=by
 unfold filesU;simp only;rw[if_neg (by omega),if_pos h];cases b<;>rfl
theorem filesU_none' (u:UrlL) (b:Option UrlL) (r:Bs) (h:leadS true r=0):filesU u b r=match b with
  | some x=>if x.scheme=fileS then(if drivenP r then .ok (onP {u with hasHost:=true,host:=x.host} r)else .ok (pathU {u with hasHost:=true,host:=x.host} x r))else .ok (onP {u with hasHost:=true} r)
  | none=>.ok (onP {u with hasHost:=true} r):=by
 unfold filesU;simp only;rw[if_neg (by omega),if_neg (by omega)];cases b<;>rfl
def dFile (u:UrlL) (b:Option UrlL) (t:Bs):UR:=(filesU (qfU t u) b (mpU t)).bind finU
def fb:Option UrlL->Option UrlL
 | some x=>if x.scheme=fileS then some x else none
 | none=>none
theorem filesU_fb (u:UrlL) (b:Option UrlL) (r:Bs):filesU u b r=filesU u (fb b) r:=by
 unfold filesU fb;cases b with
 | none=>rfl
 | some x=>
   by_cases h:x.scheme=fileS
   ·simp[h]
   ·simp[h]
def dFileH (u:UrlL) (buf t:Bs):UR:=
 if driveP (buf++tw true t)then finU {qfU t u with path:=onL u.scheme u.path (splitS true (buf++mpU t))}
 else(if buf++tw true t=[]then UR.ok (qfU t u)else hostU (qfU t u) (buf++tw true t)).bind fun v=>finU (onP (if v.host=localS then{v with host:=[]} else v) (dropS true (dw true t)))
def fileN (u:UrlL):Option UrlL->Bs->UrlL
 | some x,t=>if drivenP (mpU t)=false/\rootedP x.path=true then{u with host:=x.host,path:=x.path.take 1} else{u with host:=x.host}
 | none,_=>u
def dFileS (u:UrlL) (b:Option UrlL) (t:Bs):UR:=match t with
 | c::r=>if slashQ true c=true then dFileH u [] r else dPath (fileN u (fb b) (c::r)) [] (c::r)
 | []=>dPath (fileN u (fb b) []) [] []
theorem sp_file:specP fileS=true:=rfl
theorem dFile_slash {u:UrlL} (hs:u.scheme=fileS) (b:Option UrlL) {c:UInt8} (hc:slashQ true c=true) (t:Bs):dFile u b (c::t)=dFileS (fileV u) b t:=by
 obtain⟨h1,h2⟩:=slash_not hc;unfold dFile;rw[filesU_fb,mpU_c h1 h2,qfU_c h1 h2];have hsp:specP u.scheme=true:=by rw[hs];rfl
 have one:∀t',(∀d,t'.head? =some d->slashQ true d=false)->(filesU (qfU t' u) (fb b) (c::mpU t')).bind finU=dPath (fileN (fileV u) (fb b) t') [] t':=by
  intro t' ht';have h0:leadS true (mpU t')=0:=lead_zero (mp_head ht');rw[filesU_one' _ _ _ (by rw[lead_cons hc,h0]),dPath_onP];show finU _=_;unfold fileN fileV;cases hb:fb b with
  | none=>rfl
  | some x=>
    have hx:x.scheme=fileS:=by
     unfold fb at hb;cases b with
     | none=>cases hb
     | some y=>
       simp only at hb;split at hb
       ·cases hb;assumption
       ·cases hb
    simp only[hx,if_true,List.drop_one,List.tail_cons];split<;>rfl
 cases t with
 | nil=>exact one [] (by intro d hd;cases hd)
 | cons d r=>
   unfold dFileS;simp only;by_cases hd:slashQ true d=true
   ·obtain⟨d1,d2⟩:=slash_not hd;rw[if_pos hd,mpU_c d1 d2,qfU_c d1 d2];rw[filesU_two' _ _ _ (by rw[lead_cons hc,lead_cons hd];omega)];simp only[List.drop_succ_cons,List.drop_zero];unfold dFileH;simp only[List.nil_append];have htw:tw true r=(cutS true (mpU r)).1:=rfl;have hdw:dropS true (dw true r)=(cutS true (mpU r)).2.1:=drop_cut true (mpU r);rw[htw,hdw];split
    ·show finU _=_;unfold onP;show finU {qfU r u with hasHost:=true,path:=onL u.scheme u.path (splitS (specP u.scheme) (mpU r))}=_;rw[hsp];rfl
    ·rw[bind_assoc];rfl
   ·rw[if_neg hd];exact one (d::r) (by intro x hx;cases hx;simpa using hd)
theorem dFile_none {u:UrlL} {b:Option UrlL} (hb:fb b=none) {t:Bs} (h:∀c,t.head? =some c->slashQ true c=false):dFile u b t=dPath (fileV u) [] t:=by
 unfold dFile;rw[filesU_fb,hb,filesU_none' _ _ _ (lead_zero (mp_head h)),dPath_onP];rfl
def fileB (u x:UrlL):UrlL:={u with hasHost:=true,host:=x.host,path:=x.path,query:=x.query,hasQuery:=x.hasQuery}
theorem fb_file {b:Option UrlL} {x:UrlL} (hb:fb b=some x):x.scheme=fileS:=by
 unfold fb at hb;cases b with
 | none=>cases hb
 | some y=>
   simp only at hb;split at hb
   ·cases hb;assumption
   ·cases hb
theorem dFile_some {u:UrlL} {b:Option UrlL} {x:UrlL} (hb:fb b=some x) {t:Bs} (h:∀c,t.head? =some c->slashQ true c=false):
  dFile u b t=finU (if drivenP (mpU t)then onP {fileV (qfU t u)with host:=x.host} (mpU t)else pathU {fileV (qfU t u)with host:=x.host} x (mpU t)):=by
 unfold dFile;rw[filesU_fb,hb,filesU_none' _ _ _ (lead_zero (mp_head h))];simp only[fb_file hb,if_true];split<;>rfl
theorem dFile_nil {u x:UrlL} {b:Option UrlL} (hb:fb b=some x) (hx:NU x) (hs:u.scheme=fileS) (h:Bare u):dFile u b []=.ok (fileB u x):=by
 rw[dFile_some hb (by intro c hc;cases hc),mpU_nil,if_neg (by simp[drivenP]),bare_qf h];obtain⟨h1,h2,h3,h4⟩:=h;rw[pathU_be (by show u.hasQuery=false;exact h2)];refine Eq.trans (fin_base hx ?_ ?_) ?_
 ·show u.scheme=_;rw[hs,fb_file hb]
 ·rfl
 unfold fileB fileV;simp only[h3,enc_nil]
theorem dFile_f {u x:UrlL} {b:Option UrlL} (hb:fb b=some x) (hx:NU x) (hs:u.scheme=fileS) (h:Bare u) (t:Bs):dFile u b (35::t)=dFrag {fileB u x with hasFragment:=true} t:=by
 rw[dFile_some hb (by intro c hc;cases hc;rfl),mpU_f,if_neg (by simp[drivenP]),qfU_f];obtain⟨h1,h2,h3,h4⟩:=h;rw[pathU_be rfl];refine Eq.trans (fin_base hx ?_ ?_) ?_
 ·show u.scheme=_;rw[hs,fb_file hb]
 ·rfl
 unfold dFrag fileB fileV;simp only[h3,List.nil_append]
theorem dFile_q {u x:UrlL} {b:Option UrlL} (hb:fb b=some x) (h:Bare u) (t:Bs):dFile u b (63::t)=dQuery {fileB u x with query:=[],hasQuery:=true} t:=by
 rw[dFile_some hb (by intro c hc;cases hc;rfl),mpU_q,if_neg (by simp[drivenP]),pathU_bq (by rw[qfU_q];rfl)];have:({fileV (qfU (63::t) u)with host:=x.host,path:=x.path}:UrlL)=qfU (63::t) {fileV u with host:=x.host,path:=x.path}:=by rw[qfU_q,qfU_q];rfl
 rw[this];refine Eq.trans (fin_q _ ?_ t) ?_
 ·exact h
 unfold fileB fileV dQuery qset;obtain⟨h1,h2,h3,h4⟩:=h
 simp[h1]
def drivenR (t:Bs):Bool:=drivenP (mpU t)
theorem dFile_cons {u x:UrlL} {b:Option UrlL} (hb:fb b=some x) (hs:u.scheme=fileS) {c:UInt8} (hc:slashQ true c=false) (h1:c≠63) (h2:c≠35) (hp:u.path=[]) (t:Bs):
  dFile u b (c::t)=dPath {fileV u with host:=x.host,path:=if drivenR (c::t)then[]else shortP fileS x.path} [] (c::t):=by
 rw[dFile_some hb (by intro d hd;cases hd;exact hc),dPath_onP];unfold drivenR;split
 ·have:({fileV u with host:=x.host,path:=[]}:UrlL)={fileV u with host:=x.host}:=by
   unfold fileV;rw[hp]
  rw[this];rfl
 ·rw[mpU_c h1 h2];unfold pathU;rw[if_pos (by simp)];show finU (onP {fileV (qfU (c::t) u)with host:=x.host,path:=shortP u.scheme x.path} _)=_;rw[hs];rfl
theorem drivenR_eq (t:Bs):drivenR t=match t with
  | [a,b]=>isAlpha a&&(b==58||b==124)
  | a::b::c::_=>isAlpha a&&(b==58||b==124)&&(c==47||c==92||c==63||c==35)
  | _=>false:=by
 unfold drivenR;have hal:∀c:UInt8,isAlpha c=true->c≠63/\c≠35:=byte_all (by decide +kernel)
 match t with
 | []=>rw[mpU_nil];rfl
 | [a]=>
   by_cases a1:a=63
   ·subst a1;rw[mpU_q];rfl
   ·by_cases a2:a=35
    ·subst a2;rw[mpU_f];rfl
    ·rw[mpU_c a1 a2,mpU_nil];rfl
 | a::b::r=>
   by_cases a1:a=63
   ·subst a1;rw[mpU_q];cases r<;>rfl
   ·by_cases a2:a=35
    ·subst a2;rw[mpU_f];cases r<;>rfl
    ·rw[mpU_c a1 a2];by_cases b1:b=63
     ·subst b1;rw[mpU_q];cases r<;>simp[drivenP]
     ·by_cases b2:b=35
      ·subst b2;rw[mpU_f];cases r<;>simp[drivenP]
      ·rw[mpU_c b1 b2];cases r with
       | nil=>rw[mpU_nil];rfl
       | cons c r=>
         by_cases c1:c=63
         ·subst c1;rw[mpU_q];simp[drivenP]
         ·by_cases c2:c=35
          ·subst c2;rw[mpU_f];simp[drivenP]
          ·rw[mpU_c c1 c2];have e1:(c==63)=false:=beq_eq_false_iff_ne.2 c1;have e2:(c==35)=false:=beq_eq_false_iff_ne.2 c2;show(isAlpha a&&(b==58||b==124)&&(c==47||c==92))=(isAlpha a&&(b==58||b==124)&&(c==47||c==92||c==63||c==35));rw[e1,e2,Bool.or_false,Bool.or_false]
theorem dFileH_cons {u:UrlL} {c:UInt8} (h:overQ true c=false) (buf t:Bs):dFileH u buf (c::t)=dFileH u (buf++[c]) t:=by
 obtain⟨h0,h1,h2⟩:=over_not h;obtain⟨k1,k2⟩:=tw_cons h t;unfold dFileH;rw[k1,k2,mpU_c h1 h2];have e1:buf++c::tw true t=buf++[c]++tw true t:=by simp
 have e2:buf++c::mpU t=buf++[c]++mpU t:=by simp
 rw[e1,e2,qfU_c h1 h2]
theorem drive_enc {p:Bs} (h:driveP p=true):encodeP (setU 4) p=p/\∀c∈p,overQ true c=false:=by
 match p,h with
 | [a,b],h=>
   simp only[driveP,Bool.and_eq_true,Bool.or_eq_true,beq_iff_eq]at h;obtain⟨ha,hb⟩:=h
   have f1:∀c:UInt8,isAlpha c=true->encodeP (setU 4) [c]=[c]/\overQ true c=false:=by
    have:∀c:UInt8,isAlpha c=true->okE (setU 4) c=true/\overQ true c=false:=byte_all (by decide +kernel);intro c hc;exact⟨encode_id (by rw[List.all_cons,(this c hc).1];rfl),(this c hc).2⟩
   rw[enc_cons,(f1 a ha).1];rcases hb with rfl|rfl
   ·exact⟨rfl,by intro c hc;simp at hc;rcases hc with rfl|rfl;exact(f1 _ ha).2;rfl⟩
   ·exact⟨rfl,by intro c hc;simp at hc;rcases hc with rfl|rfl;exact(f1 _ ha).2;rfl⟩
theorem onQ_buf (scheme:Bs) (sp:Bool):∀(b:Bs) (pre s:Bs) (path:List Bs),(∀c∈b,slashQ sp c=false)->onQ scheme path pre (splitS sp (b++s))=onQ scheme path (pre++encodeP (setU 4) b) (splitS sp s)
 | [],pre,s,path,_=>by rw[List.nil_append,enc_nil,List.append_nil]
 | c::b,pre,s,path,h=>by
   have ih:=onQ_buf scheme sp b (pre++encodeP (setU 4) [c]) s path (fun x hx=>h x (List.mem_cons_of_mem _ hx));rw[enc_cons,<-List.append_assoc,<-ih,List.cons_append];have hne:=splitS_ne2 sp (b++s)
   have:splitS sp (c::(b++s))=match splitS sp (b++s)with
     | h::t=>(c::h)::t
     | []=>[[c]]:=by
    rw[splitS,if_neg (by rw[h c (by simp)];simp)];generalize splitS sp (b++s)=z;cases z<;>rfl
   rw[this];cases hs:splitS sp (b++s)with
   | nil=>exact absurd hs hne
   | cons q r=>exact onQ_head _ _ _ _ _ _
theorem dFileH_drive {u:UrlL} (hs:u.scheme=fileS) {buf t:Bs} (ho:isOver true t) (hd:driveP buf=true):dFileH u buf t=dPath u buf t:=by
 obtain⟨h1,h2⟩:=tw_over ho;unfold dFileH dPath;rw[h1,List.append_nil,if_pos hd,qf_path];obtain⟨e1,e2⟩:=drive_enc hd;have hsp:specP u.scheme=true:=by rw[hs];rfl
 rw[<-onQ_onL _ _ _ (splitS_ne2 _ _),onQ_buf u.scheme true buf [] (mpU t) u.path (fun c hc=>(over_not (e2 c hc)).1),e1,List.nil_append,hsp];rfl
theorem dFileH_over {u:UrlL} (hs:u.scheme=fileS) (hh:u.host=[]) (hb:u.hasHost=true) {buf t:Bs} (ho:isOver true t) (hd:driveP buf=false):dFileH u buf t=
  if buf=[]then dPS u t else match hostPr buf true with
   | .er n=>.er n
   | .ok h=>dPS (if h=localS then u else{u with host:=h}) t:=by
 obtain⟨h1,h2⟩:=tw_over ho;have hsp:specP u.scheme=true:=by rw[hs];rfl
 unfold dFileH;rw[h1,h2,List.append_nil,if_neg (by rw[hd];simp)]
 have ps:∀v:UrlL,v.scheme=fileS->dPS v t=finU (onP (qfU t v) (dropS true (mpU t))):=by
  intro v hv;unfold dPS PS;rw[qf_scheme,hv,sp_file,if_neg (by simp)]
 split
 ·rename_i hbuf;show finU (onP (if(qfU t u).host=localS then _ else _) _)=_;rw[if_neg (by show ¬u.host=localS;rw[hh];decide),ps u hs]
 ·rename_i hbuf;unfold hostU;rw[qf_scheme,hsp];cases hostPr buf true with
  | er n=>rfl
  | ok h=>
    simp only;rw[ps _ (by split<;>exact hs)];show finU (onP (if h=localS then _ else _) _)=_;by_cases hl:h=localS
    ·rw[if_pos hl,if_pos hl]
     have:({qfU t u with host:=[],hasHost:=true}:UrlL)=qfU t u:=by
      unfold qfU;cases u;simp only at hh hb;subst hh hb;rfl
     show finU (onP {qfU t u with host:=[],hasHost:=true} _)=_;rw[this]
    ·rw[if_neg hl,if_neg hl]
     have:({qfU t u with host:=h,hasHost:=true}:UrlL)=qfU t {u with host:=h}:=by
      unfold qfU;cases u;simp only at hb;subst hb;rfl
     rw[<-this];rfl
def dlN:Bs->Option Nat
 | []=>some 0
 | 46::r=>(dlN r).map (·+1)
 | 37::50::101::r=>(dlN r).map (·+1)
 | 37::50::69::r=>(dlN r).map (·+1)
 | _=>none
theorem low_dot:∀c:UInt8,(low1 c=46↔c=46)/\(low1 c=37↔c=37)/\(low1 c=50↔c=50)/\(low1 c=101↔(c=101\/c=69)):=byte_all (by decide +kernel)
theorem low_cons (c:UInt8) (r:Bs):low (c::r)=low1 c::low r:=rfl
def dotC (p:Bs):Nat:=(dlN p).getD 0
theorem unE_dl:∀(n:Nat) (p:Bs),p.length<=n->(∀m,dlN p=some m->unE (low p)=List.replicate m 46)/\(dlN p=none->∃x∈unE (low p),x≠46)
 | 0,[],_=>⟨fun m h=>by cases h;rfl,fun h=>by cases h⟩
 | n+1,[],_=>⟨fun m h=>by cases h;rfl,fun h=>by cases h⟩
 | n+1,c::r,hn=>by
   simp only[List.length_cons]at hn;by_cases h46:c=46
   ·subst h46;have ih:=unE_dl n r (by omega);have e1:dlN (46::r)=(dlN r).map (·+1):=rfl;have e2:unE (low (46::r))=46::unE (low r):=by rw[low_cons];rw[show low1 46=46 from rfl,unE_no (by rfl)]
    rw[e1,e2];cases hd:dlN r with
    | none=>
      obtain⟨x,hx,hne⟩:=ih.2 hd;exact⟨fun m h=>(by cases h),fun _=>⟨x,List.mem_cons_of_mem _ hx,hne⟩⟩
    | some k=>
      refine⟨fun m h=>?_,fun h=>by cases h⟩;simp only[Option.map_some,Option.some.injEq]at h;rw[ih.1 k hd,<-h];rfl
   ·by_cases h3:∃d r',r=50::d::r'/\c=37/\(d=101\/d=69)
    ·obtain⟨d,r',rfl,rfl,hd3⟩:=h3;have ih:=unE_dl n r' (by simp at hn;omega);have e1:dlN (37::50::d::r')=(dlN r').map (·+1):=by rcases hd3 with rfl|rfl<;>rfl
     have e2:unE (low (37::50::d::r'))=46::unE (low r'):=by
      rw[low_cons,low_cons,low_cons];rcases hd3 with rfl|rfl<;>exact unE_yes _
     rw[e1,e2];cases hd:dlN r' with
     | none=>
       obtain⟨x,hx,hne⟩:=ih.2 hd;exact⟨fun m h=>(by cases h),fun _=>⟨x,List.mem_cons_of_mem _ hx,hne⟩⟩
     | some k=>
       refine⟨fun m h=>?_,fun h=>by cases h⟩;simp only[Option.map_some,Option.some.injEq]at h;rw[ih.1 k hd,<-h];rfl
    ·have e1:dlN (c::r)=none:=by
      unfold dlN;split
      ·rename_i h;cases h
      ·rename_i h;injection h with h1 _;exact absurd h1 h46
      ·rename_i h;injection h with h1 h2;exact absurd ⟨_,_,h2,h1,Or.inl rfl⟩ h3
      ·rename_i h;injection h with h1 h2;exact absurd ⟨_,_,h2,h1,Or.inr rfl⟩ h3
      ·rfl
     have hpre:([37,50,101]:Bs).isPrefixOf (low1 c::low r)=false:=by
      cases hp:([37,50,101]:Bs).isPrefixOf (low1 c::low r)with
      | false=>rfl
      | true=>
        exfalso
        obtain⟨q,hq⟩:=pre_form hp;injection hq with h1 h2
        cases r with
        | nil=>cases h2
        | cons d r1=>
          rw[low_cons]at h2;injection h2 with h2 h4
          cases r1 with
          | nil=>cases h4
          | cons e r2=>
            rw[low_cons]at h4;injection h4 with h4 _
            obtain⟨_,k1,_,_⟩:=low_dot c;obtain⟨_,_,k2,_⟩:=low_dot d;obtain⟨_,_,_,k3⟩:=low_dot e;have:=k2.1 h2;subst this;exact h3 ⟨e,r2,rfl,k1.1 h1,k3.1 h4⟩
     rw[e1,low_cons,unE_no hpre];exact⟨fun m h=>(by cases h),fun _=>⟨low1 c,by simp,fun h=>h46 ((low_dot c).1.1 h)⟩⟩
theorem dotC_eq (p:Bs):(dotC p=1↔dotsP p=1)/\(dotC p=2↔dotsP p=2):=by
 obtain⟨h1,h2⟩:=unE_dl p.length p (Nat.le_refl _);unfold dotC dotsP;cases hd:dlN p with
 | none=>
   obtain⟨x,hx,hne⟩:=h2 hd;have n1:¬unE (low p)=[46]:=fun e=>by rw[e]at hx;simp at hx;exact hne hx
   have n2:¬unE (low p)=[46,46]:=fun e=>by rw[e]at hx;simp at hx;exact hne hx
   rw[if_neg n1,if_neg n2]
   simp
 | some m=>
   rw[h1 m hd];have r1:(List.replicate m (46:UInt8)=[46])↔m=1:=⟨fun h=>by have:=congrArg List.length h;simpa using this,fun h=>by rw[h];rfl⟩;have r2:(List.replicate m (46:UInt8)=[46,46])↔m=2:=⟨fun h=>by have:=congrArg List.length h;simpa using this,fun h=>by rw[h];rfl⟩;simp only[r1,r2,Option.getD_some];by_cases k1:m=1
   ·simp[k1]
   ·by_cases k2:m=2
    ·simp[k2]
    ·simp[k1,k2]
theorem dl_dot (r:Bs):dlN (46::r)=(dlN r).map (·+1):=rfl
theorem dl_triple {a b c:UInt8} (h:low [a,b,c]=[37,50,101]) (r:Bs):dlN (a::b::c::r)=(dlN r).map (·+1):=by
 simp only[low,List.map_cons,List.map_nil,List.cons.injEq,and_true]at h;obtain⟨h1,h2,h3⟩:=h;have:=(low_dot a).2.1.1 h1;have:=(low_dot b).2.2.1.1 h2;subst a b;rcases(low_dot c).2.2.2.1 h3 with rfl|rfl<;>rfl
theorem dl_no {c:UInt8} {r:Bs} (h46:c≠46) (h3:low ((c::r).take 3)≠[37,50,101]):dlN (c::r)=none:=by
 unfold dlN;split
 ·rename_i h;cases h
 ·rename_i h;injection h with h1 _;exact absurd h1 h46
 ·rename_i h;rw[h]at h3;exact absurd rfl h3
 ·rename_i h;rw[h]at h3;exact absurd rfl h3
 ·rfl
def capN:Nat->Bs->Nat
 | n,[]=>n
 | n,c::r=>capN (min (10*n+(c.toNat-48)) 100000) r
def portI (scheme s:Bs):Int:=if 65535<capN 0 s then -2 else if s=[]\/(capN 0 s:Int)=defP scheme then -1 else(capN 0 s:Int)
theorem cap_port (s:Bs) (hd:s.all isDigit=true):∀(n m:Nat),(n=m/\n<=65535)\/(65535<n/\65535<m/\n<=1048576)->∃k,portN n s=some k/\((k=capN m s/\k<=65535)\/(65535<k/\65535<capN m s)):=by
 induction s with
 | nil=>
   intro n m h;refine⟨n,rfl,?_⟩;have e:capN m []=m:=rfl;rw[e];omega
 | cons c r ih=>
   intro n m h;rw[List.all_cons,Bool.and_eq_true]at hd;have e1:portN n (c::r)=portN (min (10*n+(c.toNat-48)) 1048576) r:=by rw[portN,if_pos hd.1]
   have e2:capN m (c::r)=capN (min (10*m+(c.toNat-48)) 100000) r:=rfl;rw[e1,e2];generalize c.toNat-48=x;refine ih hd.2 _ _ ?_;rcases h with⟨h1,h2⟩|⟨h1,h2,h3⟩
   ·subst h1;by_cases hx:10*n+x<=65535
    ·left;rw[Nat.min_eq_left (by omega),Nat.min_eq_left (by omega)];exact⟨rfl,hx⟩
    ·right;refine⟨?_,?_,Nat.min_le_right _ _⟩
     ·rw[Nat.lt_min];omega
     ·rw[Nat.lt_min];omega
   ·right;refine⟨?_,?_,Nat.min_le_right _ _⟩
    ·rw[Nat.lt_min];omega
    ·rw[Nat.lt_min];omega
theorem port_I {u:UrlL} (hu:u.port= -1) {s:Bs} (hd:s.all isDigit=true):(portI u.scheme s= -2->portU u s=.er 81)/\(portI u.scheme s≠ -2->portU u s=.ok {u with port:=portI u.scheme s})/\ -2<=portI u.scheme s/\portI u.scheme s<=65535:=by
 obtain⟨k,hk,h⟩:=cap_port s hd 0 0 (Or.inl ⟨rfl,by omega⟩);unfold portI portU;rw[hk];simp only;rcases h with⟨h1,h2⟩|⟨h1,h2⟩
 ·rw[<-h1];have n1:¬65535<k:=by omega
  simp only[n1,if_false];by_cases he:s=[]\/(k:Int)=defP u.scheme
  ·have n2:¬(s≠[]/\(k:Int)≠defP u.scheme):=fun h=>he.elim h.1 h.2;simp only[he,if_true,n2,if_false];refine⟨fun h=>by omega,fun _=>?_,by omega,by omega⟩;rw[<-hu]
  ·have n2:s≠[]/\(k:Int)≠defP u.scheme:=⟨fun h=>he (Or.inl h),fun h=>he (Or.inr h)⟩;rw[if_neg he,if_pos n2];exact⟨fun h=>by omega,fun _=>rfl,by omega,by omega⟩
 ·rw[if_pos h2,if_pos h1];exact⟨fun _=>rfl,fun h=>absurd rfl h,by omega,by omega⟩
end Lz
namespace Go.Proofs.YtipndhbgehdeoaaGreatDoor
open Go.RowKit
theorem setI0 (c:UInt8):(false)=(Lz.setU 0).contains c:=by
 revert c
 exact Lz.byte_all (by decide +kernel)
theorem setI1 (c:UInt8):(((c.toNat:Int)==32)||(((c.toNat:Int)==34)||(((c.toNat:Int)==60)||(((c.toNat:Int)==62)||(((c.toNat:Int)==96))))))=(Lz.setU 1).contains c:=by
 revert c
 exact Lz.byte_all (by decide +kernel)
theorem setI2 (c:UInt8):(((c.toNat:Int)==32)||(((c.toNat:Int)==34)||(((c.toNat:Int)==35)||(((c.toNat:Int)==60)||(((c.toNat:Int)==62))))))=(Lz.setU 2).contains c:=by
 revert c
 exact Lz.byte_all (by decide +kernel)
theorem setI3 (c:UInt8):((((c.toNat:Int)==32)||(((c.toNat:Int)==34)||(((c.toNat:Int)==35)||(((c.toNat:Int)==60)||(((c.toNat:Int)==62))))))||((c.toNat:Int)==39))=(Lz.setU 3).contains c:=by
 revert c
 exact Lz.byte_all (by decide +kernel)
theorem setI4 (c:UInt8):((((c.toNat:Int)==32)||(((c.toNat:Int)==34)||(((c.toNat:Int)==35)||(((c.toNat:Int)==60)||(((c.toNat:Int)==62))))))||(((c.toNat:Int)==63)||(((c.toNat:Int)==94)||(((c.toNat:Int)==96)||(((c.toNat:Int)==123)||(((c.toNat:Int)==125)))))))=(Lz.setU 4).contains c:=by
 revert c
 exact Lz.byte_all (by decide +kernel)
theorem setI5 (c:UInt8):(((((c.toNat:Int)==32)||(((c.toNat:Int)==34)||(((c.toNat:Int)==35)||(((c.toNat:Int)==60)||(((c.toNat:Int)==62))))))||(((c.toNat:Int)==63)||(((c.toNat:Int)==94)||(((c.toNat:Int)==96)||(((c.toNat:Int)==123)||(((c.toNat:Int)==125)))))))||(((c.toNat:Int)==47)||(((c.toNat:Int)==58)||(((c.toNat:Int)==59)||(((c.toNat:Int)==61)||(((c.toNat:Int)==64)||(((c.toNat:Int)==91)||(((c.toNat:Int)==92)||(((c.toNat:Int)==93)||(((c.toNat:Int)==124)))))))))))=(Lz.setU 5).contains c:=by
 revert c
 exact Lz.byte_all (by decide +kernel)
theorem edgeI (c:UInt8):(decide ((c.toNat:Int)<32)||decide ((126:Int)<(c.toNat:Int)))=(decide (c<32)||decide (126<c)):=by
 revert c
 exact Lz.byte_all (by decide +kernel)
def inE (k:Nat) (c:UInt8):Bool:=decide (c<32)||decide (126<c)||(Lz.setU k).contains c
theorem In06_any (k:Nat) (hk:k<=5) (c:UInt8) (w:World):Calls Tryz.prog 66 #[.int .i64 (k:Int),.int .u8 c.toNat] w fun e w'=>e=.returned (.bool (inE k c))/\w=w':=by
 obtain⟨goal,hg⟩:∃goal,goal=inE k c:=⟨_,rfl⟩;rw[<-hg];have s0:=setI0 c;have s1:=setI1 c;have s2:=setI2 c;have s3:=setI3 c;have s4:=setI4 c;have s5:=setI5 c;have se:=edgeI c;unfold inE at hg;rw[<-se]at hg;obtain⟨p1,h1⟩:∃p,decide ((c.toNat:Int)<32)=p:=⟨_,rfl⟩;obtain⟨p2,h2⟩:∃p,decide ((126:Int)<(c.toNat:Int))=p:=⟨_,rfl⟩;obtain⟨q32,e32⟩:∃q,((c.toNat:Int)==32)=q:=⟨_,rfl⟩;obtain⟨q34,e34⟩:∃q,((c.toNat:Int)==34)=q:=⟨_,rfl⟩;obtain⟨q35,e35⟩:∃q,((c.toNat:Int)==35)=q:=⟨_,rfl⟩;obtain⟨q39,e39⟩:∃q,((c.toNat:Int)==39)=q:=⟨_,rfl⟩;obtain⟨q47,e47⟩:∃q,((c.toNat:Int)==47)=q:=⟨_,rfl⟩;obtain⟨q58,e58⟩:∃q,((c.toNat:Int)==58)=q:=⟨_,rfl⟩;obtain⟨q59,e59⟩:∃q,((c.toNat:Int)==59)=q:=⟨_,rfl⟩;obtain⟨q60,e60⟩:∃q,((c.toNat:Int)==60)=q:=⟨_,rfl⟩;obtain⟨q61,e61⟩:∃q,((c.toNat:Int)==61)=q:=⟨_,rfl⟩;obtain⟨q62,e62⟩:∃q,((c.toNat:Int)==62)=q:=⟨_,rfl⟩;obtain⟨q63,e63⟩:∃q,((c.toNat:Int)==63)=q:=⟨_,rfl⟩;obtain⟨q64,e64⟩:∃q,((c.toNat:Int)==64)=q:=⟨_,rfl⟩;obtain⟨q91,e91⟩:∃q,((c.toNat:Int)==91)=q:=⟨_,rfl⟩;obtain⟨q92,e92⟩:∃q,((c.toNat:Int)==92)=q:=⟨_,rfl⟩;obtain⟨q93,e93⟩:∃q,((c.toNat:Int)==93)=q:=⟨_,rfl⟩;obtain⟨q94,e94⟩:∃q,((c.toNat:Int)==94)=q:=⟨_,rfl⟩;obtain⟨q96,e96⟩:∃q,((c.toNat:Int)==96)=q:=⟨_,rfl⟩
 obtain⟨q123,e123⟩:∃q,((c.toNat:Int)==123)=q:=⟨_,rfl⟩;obtain⟨q124,e124⟩:∃q,((c.toNat:Int)==124)=q:=⟨_,rfl⟩;obtain⟨q125,e125⟩:∃q,((c.toNat:Int)==125)=q:=⟨_,rfl⟩;rw[h1,h2]at hg;rw[e32,e34,e60,e62,e96]at s1;rw[e32,e34,e35,e60,e62]at s2;rw[e32,e34,e35,e60,e62,e39]at s3;rw[e32,e34,e35,e60,e62,e63,e94,e96,e123,e125]at s4;rw[e32,e34,e35,e60,e62,e63,e94,e96,e123,e125,e47,e58,e59,e61,e64,e91,e92,e93,e124]at s5;obtain⟨qu,hqu⟩:∃qu,qu=(q32||(q34||(q35||(q60||(q62))))):=⟨_,rfl⟩;obtain⟨pa,hpa⟩:∃pa,pa=(qu||(q63||(q94||(q96||(q123||(q125)))))):=⟨_,rfl⟩;obtain⟨us,hus⟩:∃us,us=(pa||(q47||(q58||(q59||(q61||(q64||(q91||(q92||(q93||(q124)))))))))):=⟨_,rfl⟩;obtain⟨on,hon⟩:∃on,on=(q32||(q34||(q60||(q62||(q96))))):=⟨_,rfl⟩;rw[<-hon]at s1;rw[<-hqu]at s2 s3 s4 s5;rw[<-hpa]at s4 s5;rw[<-hus]at s5;have Hs0:=Ih s0;have Hs1:=Ih s1;have Hs2:=Ih s2;have Hs3:=Ih s3;have Hs4:=Ih s4;have Hs5:=Ih s5;have Hhg:=Ih hg;have Hhqu:=Ih hqu;have Hhpa:=Ih hpa;have Hhus:=Ih hus;have Hhon:=Ih hon;clear s0 s1 s2 s3 s4 s5 hg hqu hpa hus hon se;by_cases hp:p1=true\/p2=true
 ·have HG:Hid (goal=true):=Ih (by rw[Hhg.out];rcases hp with rfl|rfl<;>simp);cases p1 with
  | true=>
    clear hp;go_enter Tryz.func66,Tryz.ntmps66
    go_wp2_with fail
    go_ret;rw[HG.out];exact⟨rfl,rfl⟩
  | false=>
    obtain rfl:p2=true:=by simpa using hp
    clear hp;go_enter Tryz.func66,Tryz.ntmps66
    go_wp2_with fail
    go_ret;rw[HG.out];exact⟨rfl,rfl⟩
 ·obtain⟨rfl,rfl⟩:p1=false/\p2=false:=by simpa using hp
  clear hp;go_enter Tryz.func66,Tryz.ntmps66
  go_upto_region 3 with fail
  go_cut [5] (fun s wx=>s=.bool qu/\w=wx)
  case first=>
   cases q32 with
   | true=>
     go_wp2_with fail
     go_meet;exact⟨by rw[Hhqu.out];rfl,rfl⟩
   | false=>
     cases q34 with
     | true=>
       go_wp2_with fail
       go_meet;exact⟨by rw[Hhqu.out];rfl,rfl⟩
     | false=>
       cases q35 with
       | true=>
         go_wp2_with fail
         go_meet;exact⟨by rw[Hhqu.out];rfl,rfl⟩
       | false=>
         cases q60 with
         | true=>
           go_wp2_with fail
           go_meet;exact⟨by rw[Hhqu.out];rfl,rfl⟩
         | false=>
           cases q62 with
           | true=>
             go_wp2_with fail
             go_meet;exact⟨by rw[Hhqu.out];rfl,rfl⟩
           | false=>
             go_wp2_with fail
             go_meet;exact⟨by rw[Hhqu.out];rfl,rfl⟩
  case rest=>
  obtain⟨rfl,rfl⟩:=hcut
  go_upto_region 4 with fail
  go_cut [6] (fun s wx=>s=.bool pa/\w=wx)
  case first=>
   cases qu with
   | true=>
     go_wp2_with fail
     go_meet;exact⟨by rw[Hhpa.out];rfl,rfl⟩
   | false=>
     cases q63 with
     | true=>
       go_wp2_with fail
       go_meet;exact⟨by rw[Hhpa.out];rfl,rfl⟩
     | false=>
       cases q94 with
       | true=>
         go_wp2_with fail
         go_meet;exact⟨by rw[Hhpa.out];rfl,rfl⟩
       | false=>
         cases q96 with
         | true=>
           go_wp2_with fail
           go_meet;exact⟨by rw[Hhpa.out];rfl,rfl⟩
         | false=>
           cases q123 with
           | true=>
             go_wp2_with fail
             go_meet;exact⟨by rw[Hhpa.out];rfl,rfl⟩
           | false=>
             cases q125 with
             | true=>
               go_wp2_with fail
               go_meet;exact⟨by rw[Hhpa.out];rfl,rfl⟩
             | false=>
               go_wp2_with fail
               go_meet;exact⟨by rw[Hhpa.out];rfl,rfl⟩
  case rest=>
  obtain⟨rfl,rfl⟩:=hcut
  go_upto_region 5 with fail
  go_cut [7] (fun s wx=>s=.bool us/\w=wx)
  case first=>
   cases pa with
   | true=>
     go_wp2_with fail
     go_meet;exact⟨by rw[Hhus.out];rfl,rfl⟩
   | false=>
     cases q47 with
     | true=>
       go_wp2_with fail
       go_meet;exact⟨by rw[Hhus.out];rfl,rfl⟩
     | false=>
       cases q58 with
       | true=>
         go_wp2_with fail
         go_meet;exact⟨by rw[Hhus.out];rfl,rfl⟩
       | false=>
         cases q59 with
         | true=>
           go_wp2_with fail
           go_meet;exact⟨by rw[Hhus.out];rfl,rfl⟩
         | false=>
           cases q61 with
           | true=>
             go_wp2_with fail
             go_meet;exact⟨by rw[Hhus.out];rfl,rfl⟩
           | false=>
             cases q64 with
             | true=>
               go_wp2_with fail
               go_meet;exact⟨by rw[Hhus.out];rfl,rfl⟩
             | false=>
               cases q91 with
               | true=>
                 go_wp2_with fail
                 go_meet;exact⟨by rw[Hhus.out];rfl,rfl⟩
               | false=>
                 cases q92 with
                 | true=>
                   go_wp2_with fail
                   go_meet;exact⟨by rw[Hhus.out];rfl,rfl⟩
                 | false=>
                   cases q93 with
                   | true=>
                     go_wp2_with fail
                     go_meet;exact⟨by rw[Hhus.out];rfl,rfl⟩
                   | false=>
                     cases q124 with
                     | true=>
                       go_wp2_with fail
                       go_meet;exact⟨by rw[Hhus.out];rfl,rfl⟩
                     | false=>
                       go_wp2_with fail
                       go_meet;exact⟨by rw[Hhus.out];rfl,rfl⟩
  case rest=>
  obtain⟨rfl,rfl⟩:=hcut;rcases(show k=0\/k=1\/k=2\/k=3\/k=4\/k=5 by omega)with rfl|rfl|rfl|rfl|rfl|rfl
  ·go_wp2_with fail
   go_ret;exact⟨by rw[Hhg.out,<-Hs0.out];rfl,rfl⟩
  ·have HG:Hid (goal=on):=Ih (by rw[Hhg.out,<-Hs1.out];rfl);cases q32 with
   | true=>
     go_wp2_with fail
     go_ret;exact⟨by rw[HG.out,Hhon.out];rfl,rfl⟩
   | false=>
     cases q34 with
     | true=>
       go_wp2_with fail
       go_ret;exact⟨by rw[HG.out,Hhon.out];rfl,rfl⟩
     | false=>
       cases q60 with
       | true=>
         go_wp2_with fail
         go_ret;exact⟨by rw[HG.out,Hhon.out];rfl,rfl⟩
       | false=>
         cases q62 with
         | true=>
           go_wp2_with fail
           go_ret;exact⟨by rw[HG.out,Hhon.out];rfl,rfl⟩
         | false=>
           cases q96 with
           | true=>
             go_wp2_with fail
             go_ret;exact⟨by rw[HG.out,Hhon.out];rfl,rfl⟩
           | false=>
             go_wp2_with fail
             go_ret;exact⟨by rw[HG.out,Hhon.out];rfl,rfl⟩
  ·have HG:Hid (goal=qu):=Ih (by rw[Hhg.out,<-Hs2.out];rfl)
   go_wp2_with fail
   go_ret;rw[HG.out];exact⟨rfl,rfl⟩
  ·have HG:Hid (goal=(qu||q39)):=Ih (by rw[Hhg.out,<-Hs3.out];rfl);cases qu with
   | true=>
     go_wp2_with fail
     go_ret;exact⟨by rw[HG.out];rfl,rfl⟩
   | false=>
     go_wp2_with fail
     go_ret;exact⟨by rw[HG.out];rfl,rfl⟩
  ·have HG:Hid (goal=pa):=Ih (by rw[Hhg.out,<-Hs4.out];rfl)
   go_wp2_with fail
   go_ret;rw[HG.out];exact⟨rfl,rfl⟩
  ·have HG:Hid (goal=us):=Ih (by rw[Hhg.out,<-Hs5.out];rfl)
   go_wp2_with fail
   go_ret;rw[HG.out];exact⟨rfl,rfl⟩
theorem low25I (c:UInt8):((Lz.low1 c).toNat:Int)=if 65<=(c.toNat:Int)/\(c.toNat:Int)<=90 then(c.toNat:Int)+32 else c.toNat:=by
 revert c
 exact Lz.byte_all (by decide +kernel)
theorem Lower02_any (s:ByteArray) (hs:s.size<=1073741824) (w:World):Calls Tryz.prog 35 #[.string s] w fun e w'=>e=.returned (.string ⟨(Lz.low s.data.toList).toArray⟩)/\Below w.heap.size w w':=by
 obtain⟨i0,hi,hz0,hz1,hz2⟩:=info_parts Tryz.infoU8;go_enter Tryz.func35,Tryz.ntmps35
 go_wp2
 go_loopw [3,4] (fun v i wr=>∃k:Nat,k<=s.size/\i=.int .i64 k/\wr.ownsRow w.heap.size 5 1 v k (u8s (Lz.low (s.data.toList.take k)))/\Below w.heap.size w wr) (fun _ i _=>s.size-(intOf i).toNat)
 case atStart=>exact⟨0,Nat.zero_le _,rfl,World.ownsRow_nil _ _ _ _,Below.refl _ _⟩
 case round=>
  obtain⟨k,hk,rfl,hown,hb⟩:=hrel;have Hown:=Ih hown;have hsz:=hb.size;by_cases hlt:k<s.size
  ·have hc:=byte_lt s[k];have hl:=low25I s[k]
   have hst:u8s (Lz.low (s.data.toList.take k))++[.int .u8 ((Lz.low1 s[k]).toNat:Int)]=u8s (Lz.low (s.data.toList.take (k+1))):=by
    rw[u8s_snoc,List.take_succ_eq_append_getElem (by rw[len_of_size];exact hlt)]
    simp[Lz.low]
    rfl
   have Hst:=Ih hst;clear hst hown;by_cases hup:65<=(s[k].toNat:Int)/\(s[k].toNat:Int)<=90
   ·rw[if_pos hup]at hl;obtain⟨h1,h2⟩:=hup;have Hl:=Ih hl;clear hl
    go_wp2_with (at_builtin;refine wpList_append_own _ rfl (.tmp 23) (.tmp 25) 44 rfl w.heap.size 5 i0 (.int .u8 0) 1 1 Tryz.underlying44 hi hz0 hz1 hz2 rfl (by decide) _ _ _ rfl (Hown.out.alloc _) ⟨wr.heap.size,0,none⟩ 1 1 [.int .u8 ((s[k].toNat:Int)+32)] rfl rfl (cell_one _ _ _) (by simp[Value.oneCell']) (by unfold maxLen;omega) (by omega) (by simp;omega) ?_)
    intro v' w1 hown' hgrow _;have hb1:=Below.grown1 hb Hown.out hgrow hsz (Nat.le_refl _);rw[<-Hl.out,Hst.out]at hown';have Hown1:=Ih hown';clear hown' hgrow Hst Hl hb
    go_wp2
    go_roundw
    case rel=>exact⟨k+1,by omega,by go_num,Hown1.out,hb1⟩
    case measure=>simp[intOf];omega
   ·rw[if_neg hup]at hl;have hcase:(s[k].toNat:Int)<65\/(65<=(s[k].toNat:Int)/\90<(s[k].toNat:Int)):=by omega
    have Hl:=Ih hl;clear hl hup;rcases hcase with h1|⟨h1,h2⟩
    all_goals
     go_wp2_with (at_builtin;refine wpList_append_own _ rfl (.tmp 23) (.tmp 25) 44 rfl w.heap.size 5 i0 (.int .u8 0) 1 1 Tryz.underlying44 hi hz0 hz1 hz2 rfl (by decide) _ _ _ rfl (Hown.out.alloc _) ⟨wr.heap.size,0,none⟩ 1 1 [.int .u8 (s[k].toNat:Int)] rfl rfl (cell_one _ _ _) (by simp[Value.oneCell']) (by unfold maxLen;omega) (by omega) (by simp;omega) ?_)
     intro v' w1 hown' hgrow _;have hb1:=Below.grown1 hb Hown.out hgrow hsz (Nat.le_refl _);rw[<-Hl.out,Hst.out]at hown';have Hown1:=Ih hown';clear hown' hgrow Hst Hl hb
     go_wp2
     go_roundw
     case rel=>exact⟨k+1,by omega,by go_num,Hown1.out,hb1⟩
     case measure=>simp[intOf];omega
  ·have hcv:=conv_own hown;rw[List.take_of_length_le (by rw[len_of_size];omega)]at hcv;clear hown Hown
   go_wp2
   go_ret;exact⟨rfl,hb⟩
theorem Lower02_c (s:ByteArray) (hs:s.size<=1073741824) (w:World):Calls Tryz.prog 35 #[.string s] w fun e w'=>∃u:ByteArray,e=.returned (.string u)/\Hid (u.data.toList=Lz.low s.data.toList)/\Below w.heap.size w w':=
 (Lower02_any s hs w).mono fun _ _ ⟨he,hb⟩=>⟨_,he,rfl,hb⟩
def dotM (n:Nat):Option Nat->Nat
 | some m=>n+m
 | none=>0
def strSize:Value->Nat
 | .string s=>s.size
 | _=>0
theorem dotM_succ (n:Nat) (o:Option Nat):dotM n (o.map (·+1))=dotM (n+1) o:=by
 cases o<;>simp[dotM];omega
theorem head_of {s:ByteArray} (h:0<s.size):s.data.toList=s[0]::s.data.toList.drop 1:=by
 have:=List.drop_eq_getElem_cons (l:=s.data.toList) (i:=0) (by rw[len_of_size];exact h);rw[List.drop_zero]at this;exact this
theorem dots08_any (p:ByteArray) (hp:p.size<=1000000000) (w:World):Calls Tryz.prog 44 #[.string p] w (RInt (Lz.dotC p.data.toList:Int) w):=by
 obtain⟨goal,hg⟩:∃goal,goal=Lz.dotC p.data.toList:=⟨_,rfl⟩;rw[<-hg];have HG:Hid (goal=dotM 0 (Lz.dlN p.data.toList)):=Ih (by rw[hg];unfold Lz.dotC dotM;cases Lz.dlN p.data.toList<;>simp);have hb00:=Below.refl w.heap.size w;clear hg;go_enter Tryz.func44,Tryz.ntmps44
 go_wp2_with fail
 go_loopw [0,3] (fun pv nv wr=>∃(t:ByteArray) (n:Nat),pv=.string t/\nv=.int .i64 n/\n+t.size<=p.size/\Hid (goal=dotM n (Lz.dlN t.data.toList))/\Below w.heap.size w wr) (fun pv _ _=>strSize pv)
 case atStart=>exact⟨p,0,rfl,rfl,by omega,HG,hb00⟩
 case round=>
  obtain⟨t,n,rfl,rfl,hn,HR,hbw⟩:=hrel;by_cases hz:t.size=0
  ·have he:t.toList.isEmpty=true:=isEmpty_of_size hz;have htz:t.data.toList=[]:=List.eq_nil_of_length_eq_zero (by rw[len_of_size];exact hz);have HN:Hid (goal=n):=Ih (by rw[HR.out,htz];rfl);clear HR HG hz htz
   go_wp2_with fail
   go_ret;exact⟨by rw[HN.out];rfl,hbw⟩
  ·have hpos:0<t.size:=by omega
   have hposI:(0:Int)<(t.size:Int):=by omega
   have he:t.toList.isEmpty=false:=isEmpty_of_pos hpos;obtain⟨c,hc⟩:∃c,c=t[0]:=⟨_,rfl⟩;have hcI:(t[0].toNat:Int)=(c.toNat:Int):=by rw[hc]
   have hd:=head_of hpos;rw[<-hc]at hd;have e46:((c.toNat:Int)==46)=(c==46):=beqU c 46;by_cases h46:c=46
   ·have e46b:((c.toNat:Int)==46)=true:=by rw[e46,h46];rfl
    have h1I:(1:Int)<=(t.size:Int):=by omega
    have hx1:(t.extract 1 t.size).size+1=t.size:=by rw[<-len_of_size,extract_tail',List.length_drop,len_of_size];omega
    have HN:Hid (goal=dotM (n+1) (Lz.dlN (t.extract 1 t.size).data.toList)):=Ih (by rw[HR.out,hd,h46,Lz.dl_dot,dotM_succ,extract_tail']);clear HR HG hd hc h46 e46 hz
    go_wp2_with fail
    go_roundw
    case rel=>exact⟨t.extract 1 t.size,n+1,rfl,by go_num,by omega,HN,hbw⟩
    case measure=>simp only[strSize];omega
   ·have e46b:((c.toNat:Int)==46)=false:=by rw[e46];exact beq_eq_false_iff_ne.2 h46
    by_cases h3:3<=t.size
    ·have h3I:(3:Int)<=(t.size:Int):=by omega
     have hx3:(t.extract 3 t.size).size+3=t.size:=by rw[<-len_of_size,extract_tail',List.length_drop,len_of_size];omega
     have hxs:=extract_size_le' t 0 3;have cL:=Ih (Lower02_c (t.extract 0 3) (by omega) wr);have hnone:=fun h3'=>(Lz.dl_no (c:=c) (r:=t.data.toList.drop 1) h46 h3')
     have hyes:∀h:Lz.low (t.data.toList.take 3)=[37,50,101],Lz.dlN t.data.toList=(Lz.dlN (t.data.toList.drop 3)).map (·+1):=by
      intro h;have hl:t.data.toList.length>=3:=by rw[len_of_size];exact h3
      generalize t.data.toList=l at h hl
      match l,hl with
      | a::b::d::r,_=>exact Lz.dl_triple h r
     rw[<-hd]at hnone;rw[extract_head2]at cL;have HNo:=Ih hnone;have HYe:=Ih hyes;clear hd hc e46 hz hnone hyes
     go_upto_region 5 with fail
     go_cut [19] (fun s wx=>s=.bool (decide (Lz.low (t.data.toList.take 3)=[37,50,101]))/\Below w.heap.size w wx)
     case first=>
      go_wp2_with fail
      refine cL.out.mono ?_;rintro e w2 ⟨u,rfl,hu,hb2⟩;have hq:=text_is u [37,50,101];rw[hu.out]at hq
      go_wp2_with fail
      go_meet;exact⟨by first |rfl|rw[hq],below_call hbw hb2⟩
     case rest=>
      obtain⟨rfl,hb2⟩:=hcut;by_cases hq:Lz.low (t.data.toList.take 3)=[37,50,101]
      ·have HN:Hid (goal=dotM (n+1) (Lz.dlN (t.extract 3 t.size).data.toList)):=Ih (by rw[HR.out,HYe.out hq,dotM_succ,extract_tail']);have hqb:=decide_eq_true hq;rw[hqb];clear hq hqb HR HG HNo HYe
       go_wp2_with fail
       go_roundw
       case rel=>exact⟨t.extract 3 t.size,n+1,rfl,by go_num,by omega,HN,hb2⟩
       case measure=>simp only[strSize];omega
      ·have HN:Hid (goal=0):=Ih (by rw[HR.out,HNo.out hq];rfl);have hqb:=decide_eq_false hq;rw[hqb];clear hq hqb HR HG HNo HYe
       go_wp2_with fail
       go_ret;exact⟨by rw[HN.out];rfl,hb2⟩
    ·have h3I:¬(3:Int)<=(t.size:Int):=by omega
     have h3b:decide ((3:Int)<=(t.size:Int))=false:=decide_eq_false h3I
     have HN:Hid (goal=0):=Ih (by
      rw[HR.out,hd,Lz.dl_no h46 ?_]
      ·rfl
      ·intro h;have:=congrArg List.length h;rw[<-hd]at this;simp only[Lz.low,List.length_map,List.length_take,len_of_size]at this
       simp at this
       omega)
     clear HR HG hd hc h46 e46 hz
     go_wp2_with fail
     go_ret;exact⟨by rw[HN.out];rfl,hbw⟩
end Go.Proofs.YtipndhbgehdeoaaGreatDoor
namespace Lz
open Go
def allR (n:Nat):Nat->List Bs->Option Nat
 | all,[]=>some all
 | all,s::r=>match numP s with
   | none=>none
   | some v=>if(if r=[]then 256^(5-n)else 256)<=v then none else allR n (all*(if r=[]then 256^(5-n)else 256)+v) r
def valB (b:List Nat):Nat:=b.foldl (fun a x=>a*256+x) 0
theorem valB_from:∀(b:List Nat) (a:Nat),b.foldl (fun a x=>a*256+x) a=a*256^b.length+valB b
 | [],a=>by simp[valB]
 | x::r,a=>by
   have h1:=valB_from r (a*256+x);have h2:=valB_from r x;have e:valB (x::r)=r.foldl (fun a x=>a*256+x) x:=by simp[valB]
   rw[List.foldl_cons,h1,e,h2,List.length_cons,Nat.pow_succ,Nat.add_mul,Nat.add_assoc];congr 1;rw[Nat.mul_assoc,Nat.mul_comm 256]
theorem valB_append (b t:List Nat):valB (b++t)=valB b*256^t.length+valB t:=by
 have:valB (b++t)=t.foldl (fun a x=>a*256+x) (valB b):=by unfold valB;rw[List.foldl_append]
 rw[this,valB_from]
def digB (v:Nat):Nat->List Nat
 | 0=>[]
 | m+1=>v / 256^m%256::digB v m
theorem digB_eq (v m:Nat):((List.range m).reverse.map fun k=>v / 256^k%256)=digB v m:=by
 induction m with
 | zero=>rfl
 | succ m ih=>rw[List.range_succ,List.reverse_append,List.map_append,ih];rfl
theorem digB_len (v m:Nat):(digB v m).length=m:=by
 induction m with
 | zero=>rfl
 | succ m ih=>simp[digB,ih]
theorem digB_val (v m:Nat):valB (digB v m)=v%256^m:=by
 induction m with
 | zero=>simp[digB,valB,Nat.mod_one]
 | succ m ih=>
   have e:digB v (m+1)=[v / 256^m%256]++digB v m:=rfl;rw[e,valB_append,ih,digB_len,show valB [v / 256^m%256]=v / 256^m%256 by simp[valB],Nat.pow_succ];rw[Nat.mod_mul,Nat.mul_comm,Nat.add_comm]
theorem digB_lt (v m:Nat):∀x∈digB v m,x<256:=by
 induction m with
 | zero=>intro x h;cases h
 | succ m ih=>
   intro x h;rcases List.mem_cons.1 h with rfl|h
   ·exact Nat.mod_lt _ (by omega)
   ·exact ih x h
theorem four_all (n:Nat) (hn:n<=4):∀(l:List Bs) (all:Nat),match fourB n l with
  | none=>allR n all l=none
  | some b=>allR n all l=some (all*256^b.length+valB b)/\(∀x∈b,x<256)/\(l≠[]->b.length+n=l.length+4)
 | [],all=>by simp[fourB,allR,valB]
 | s::r,all=>by
   have e1:fourB n (s::r)=match numP s with
    | none=>none
    | some v=>if 0<v / 256^(if r=[]then 5-n else 1)then none else(fourB n r).map fun t=>((List.range (if r=[]then 5-n else 1)).reverse.map fun k=>v / 256^k%256)++t:=by
    rw[fourB];cases numP s<;>rfl
   have e2:allR n all (s::r)=match numP s with
    | none=>none
    | some v=>if(if r=[]then 256^(5-n)else 256)<=v then none else allR n (all*(if r=[]then 256^(5-n)else 256)+v) r:=by
    rw[allR]
   rw[e1,e2];cases numP s with
   | none=>rfl
   | some v=>
     simp only;obtain⟨m,hm⟩:∃m,m=(if r=[]then 5-n else 1):=⟨_,rfl⟩;have hp:(if r=[]then 256^(5-n)else 256)=256^m:=by rw[hm];split<;>rfl
     rw[<-hm,hp];have hpos:0<256^m:=Nat.pow_pos (by omega);by_cases hv:256^m<=v
     ·rw[if_pos ((Nat.div_pos_iff).2 ⟨hpos,hv⟩),if_pos hv]
     ·rw[if_neg (by rw[Nat.div_pos_iff];omega),if_neg hv];have ih:=four_all n hn r (all*256^m+v);cases hf:fourB n r with
      | none=>rw[hf]at ih;exact ih
      | some t=>
        rw[hf]at ih;obtain⟨h1,h2,h3⟩:=ih;simp only[Option.map_some];rw[digB_eq];refine⟨?_,?_,?_⟩
        ·rw[h1,valB_append,digB_val,List.length_append,digB_len,Nat.mod_eq_of_lt (by omega),Nat.add_mul,Nat.pow_add,Nat.mul_assoc,Nat.add_assoc]
        ·intro x hx;rcases List.mem_append.1 hx with h|h
         ·exact digB_lt v m x h
         ·exact h2 x h
        ·intro _;rw[List.length_append,digB_len,List.length_cons];by_cases hr:r=[]
         ·rw[hm,if_pos hr];subst hr;have:t=[]:=by simpa [fourB]using hf.symm
          rw[this];simp;omega
         ·have:=h3 hr;rw[hm,if_neg hr];omega
theorem val4 {a b c d:Nat} (ha:a<256) (hb:b<256) (hc:c<256) (hd:d<256):
  valB [a,b,c,d] / 2^24%256=a/\valB [a,b,c,d] / 2^16%256=b/\valB [a,b,c,d] / 2^8%256=c/\valB [a,b,c,d] / 2^0%256=d/\valB [a,b,c,d]<4294967296:=by
 have e:valB [a,b,c,d]=((a*256+b)*256+c)*256+d:=by simp[valB]
 rw[e];refine⟨?_,?_,?_,?_,?_⟩<;>omega
theorem four_list:∀{b:List Nat},b.length=4->∃x y z t,b=[x,y,z,t]
 | [x,y,z,t],_=>⟨x,y,z,t,rfl⟩
theorem fourP_all (l:List Bs) (hl:l≠[]) (h4:l.length<=4):fourP l=(allR l.length 0 l).map fun v=>dottedP [v / 2^24%256,v / 2^16%256,v / 2^8%256,v / 2^0%256]:=by
 have h:=four_all l.length h4 l 0;unfold fourP;rw[if_neg (by omega)];cases hf:fourB l.length l with
 | none=>rw[hf]at h;rw[h];rfl
 | some b=>
   rw[hf]at h;obtain⟨h1,h2,h3⟩:=h;have hb:b.length=4:=by have:=h3 hl;omega
   rw[Nat.zero_mul,Nat.zero_add]at h1;rw[h1];obtain⟨x,y,z,t,rfl⟩:=four_list hb;obtain⟨k1,k2,k3,k4,_⟩:=val4 (h2 x (by simp)) (h2 y (by simp)) (h2 z (by simp)) (h2 t (by simp));rw[Option.map_some,Option.map_some,k1,k2,k3,k4]
end Lz
