/-
  append of a path to nothing: a new path of one's own.
-/
import Derived.Test.YtipndhbgehdeoaaGreatDoorQ14
import Derived.Test.YtipndhbgehdeoaaGreatDoorQ20
import Derived.Test.YtipndhbgehdeoaaGreatDoorQ16
set_option maxHeartbeats 2000000
set_option maxRecDepth 100000
namespace Go.Proofs.YtipndhbgehdeoaaGreatDoor
open Go.RowKit
theorem Default08_any (s:ByteArray) (w:World):Calls Tryz.prog 26 #[.string s] w fun e w'=>e=.returned (.int .i64 (Lz.defP s.data.toList))/\w=w':=by
 by_cases h0:s.data.toList=[104,116,116,112]
 ·have g0:=text_yes h0;have HV:Hid (Lz.defP s.data.toList=80):=by show _=_;rw[h0];rfl
  clear h0;go_enter Tryz.func26,Tryz.ntmps26
  go_wp2_with fail
  go_ret;rw[HV.out];exact⟨rfl,rfl⟩
 ·have g0:=text_no h0;by_cases h1:s.data.toList=[119,115]
  ·have g1:=text_yes h1;have HV:Hid (Lz.defP s.data.toList=80):=by show _=_;rw[h1];rfl
   clear h0 h1;go_enter Tryz.func26,Tryz.ntmps26
   go_wp2_with fail
   go_ret;rw[HV.out];exact⟨rfl,rfl⟩
  ·have g1:=text_no h1;by_cases h2:s.data.toList=[104,116,116,112,115]
   ·have g2:=text_yes h2;have HV:Hid (Lz.defP s.data.toList=443):=by show _=_;rw[h2];rfl
    clear h0 h1 h2;go_enter Tryz.func26,Tryz.ntmps26
    go_wp2_with fail
    go_ret;rw[HV.out];exact⟨rfl,rfl⟩
   ·have g2:=text_no h2;by_cases h3:s.data.toList=[119,115,115]
    ·have g3:=text_yes h3;have HV:Hid (Lz.defP s.data.toList=443):=by show _=_;rw[h3];rfl
     clear h0 h1 h2 h3;go_enter Tryz.func26,Tryz.ntmps26
     go_wp2_with fail
     go_ret;rw[HV.out];exact⟨rfl,rfl⟩
    ·have g3:=text_no h3;by_cases h4:s.data.toList=[102,116,112]
     ·have g4:=text_yes h4;have HV:Hid (Lz.defP s.data.toList=21):=by show _=_;rw[h4];rfl
      clear h0 h1 h2 h3 h4;go_enter Tryz.func26,Tryz.ntmps26
      go_wp2_with fail
      go_ret;rw[HV.out];exact⟨rfl,rfl⟩
     ·have g4:=text_no h4
      have HV:Hid (Lz.defP s.data.toList= -1):=by
       show _=_;unfold Lz.defP;rw[if_neg (fun h=>h.elim h0 h1),if_neg (fun h=>h.elim h2 h3),if_neg (show ¬s.data.toList=Lz.ftpS from h4)]
      clear h0 h1 h2 h3 h4;go_enter Tryz.func26,Tryz.ntmps26
      go_wp2_with fail
      go_ret;rw[HV.out];exact⟨rfl,rfl⟩
theorem spec_ge (s:List UInt8) (h0:¬s=Lz.fileS):Lz.specP s=decide (0<=Lz.defP s):=by
 unfold Lz.specP;have:(s==Lz.fileS)=false:=by rw[beq_eq_false_iff_ne];exact h0
 rw[this,Bool.false_or];unfold Lz.defP;split
 ·rfl
 ·split
  ·rfl
  ·split<;>rfl
theorem Special08_any (s:ByteArray) (w:World):Calls Tryz.prog 33 #[.string s] w fun e w'=>e=.returned (.bool (Lz.specP s.data.toList))/\w=w':=by
 by_cases h0:s.data.toList=[102,105,108,101]
 ·have g0:=text_yes h0;have HV:Hid (Lz.specP s.data.toList=true):=by show _=_;rw[h0];rfl
  clear h0;go_enter Tryz.func33,Tryz.ntmps33
  go_wp2_with fail
  go_ret;rw[HV.out];exact⟨rfl,rfl⟩
 ·have g0:=text_no h0;have cD:=Default08_any s w;have hsp:=spec_ge _ h0;obtain⟨d,hd⟩:∃d,d=Lz.defP s.data.toList:=⟨_,rfl⟩;rw[<-hd]at cD hsp;have CD:=Ih cD;by_cases hge:0<=d
  ·have HV:Hid (Lz.specP s.data.toList=true):=Ih (hsp.trans (decide_eq_true hge));clear h0 cD hd hsp;go_enter Tryz.func33,Tryz.ntmps33
   go_wp2_with fail
   refine CD.out.mono ?_;rintro e w1 ⟨rfl,rfl⟩
   go_wp2_with fail
   go_ret;rw[HV.out];exact⟨rfl,rfl⟩
  ·have HV:Hid (Lz.specP s.data.toList=false):=Ih (hsp.trans (decide_eq_false hge));clear h0 cD hd hsp;go_enter Tryz.func33,Tryz.ntmps33
   go_wp2_with fail
   refine CD.out.mono ?_;rintro e w1 ⟨rfl,rfl⟩
   go_wp2_with fail
   go_ret;rw[HV.out];exact⟨by simp[hge],rfl⟩
theorem alpha02I (c:UInt8):(decide ((65:Int)<=(c.toNat:Int))&&decide ((c.toNat:Int)<=90)||decide ((97:Int)<=(c.toNat:Int))&&decide ((c.toNat:Int)<=122))=Lz.isAlpha c:=by
 revert c
 exact Lz.byte_all (by decide +kernel)
theorem digit02I (c:UInt8):(decide ((48:Int)<=(c.toNat:Int))&&decide ((c.toNat:Int)<=57))=Lz.isDigit c:=by
 revert c
 exact Lz.byte_all (by decide +kernel)
theorem Alpha02_any (c:UInt8) (w:World):Calls Tryz.prog 34 #[.int .u8 c.toNat] w fun e w'=>e=.returned (.bool (Lz.isAlpha c))/\w=w':=by
 rw[<-alpha02I];obtain⟨q1,h1⟩:∃q,decide ((65:Int)<=(c.toNat:Int))=q:=⟨_,rfl⟩;obtain⟨q2,h2⟩:∃q,decide ((c.toNat:Int)<=90)=q:=⟨_,rfl⟩;obtain⟨q3,h3⟩:∃q,decide ((97:Int)<=(c.toNat:Int))=q:=⟨_,rfl⟩;obtain⟨q4,h4⟩:∃q,decide ((c.toNat:Int)<=122)=q:=⟨_,rfl⟩;rw[h1,h2,h3,h4];cases q1<;>cases q2<;>cases q3<;>cases q4
 all_goals
  go_enter Tryz.func34,Tryz.ntmps34
  go_wp2_with fail
  go_ret
  first |exact⟨rfl,rfl⟩|exact⟨by simp_all,rfl⟩
theorem Digit02_any (c:UInt8) (w:World):Calls Tryz.prog 36 #[.int .u8 c.toNat] w fun e w'=>e=.returned (.bool (Lz.isDigit c))/\w=w':=by
 rw[<-digit02I];obtain⟨q1,h1⟩:∃q,decide ((48:Int)<=(c.toNat:Int))=q:=⟨_,rfl⟩;obtain⟨q2,h2⟩:∃q,decide ((c.toNat:Int)<=57)=q:=⟨_,rfl⟩;rw[h1,h2];cases q1<;>cases q2
 all_goals
  go_enter Tryz.func36,Tryz.ntmps36
  go_wp2_with fail
  go_ret
  first |exact⟨rfl,rfl⟩|exact⟨by simp_all,rfl⟩
theorem drive08_any (s:ByteArray) (w:World):Calls Tryz.prog 43 #[.string s] w fun e w'=>e=.returned (.bool (Lz.driveP s.data.toList))/\w=w':=by
 by_cases h2:s.size=2
 ·have h2I:((s.size:Int)==2)=true:=by simp;omega
  have hp0:0<s.size:=by omega
  have hp1:1<s.size:=by omega
  have hp0I:(0:Int)<(s.size:Int):=by omega
  have hp1I:(1:Int)<(s.size:Int):=by omega
  have hl:=two_of h2;obtain⟨a,ha⟩:∃a,a=s[0]:=⟨_,rfl⟩;obtain⟨b,hb⟩:∃b,b=s[1]:=⟨_,rfl⟩;have haI:(s[0].toNat:Int)=(a.toNat:Int):=by rw[ha]
  have hbI:(s[1].toNat:Int)=(b.toNat:Int):=by rw[hb]
  rw[<-ha,<-hb]at hl;have HV:Hid (Lz.driveP s.data.toList=(Lz.isAlpha a&&(b==58||b==124))):=by show _=_;rw[hl];rfl
  have cA:=Alpha02_any a w;have b1:((b.toNat:Int)==58)=(b==58):=beqU b 58;have b2:((b.toNat:Int)==124)=(b==124):=beqU b 124;generalize Lz.isAlpha a=p at cA HV;generalize (b==58)=q at b1 HV;generalize (b==124)=r at b2 HV;have CA:=Ih cA;have H2:=Ih h2;clear hl ha hb cA h2;cases p
  ·go_enter Tryz.func43,Tryz.ntmps43
   go_wp2_with fail
   refine CA.out.mono ?_;rintro e w1 ⟨rfl,rfl⟩
   go_wp2_with fail
   go_ret;rw[HV.out];exact⟨rfl,rfl⟩
  ·cases q
   ·go_enter Tryz.func43,Tryz.ntmps43
    go_wp2_with fail
    refine CA.out.mono ?_;rintro e w1 ⟨rfl,rfl⟩
    go_wp2_with fail
    go_ret;rw[HV.out];exact⟨by cases r<;>first |rfl|(rw[b2];rfl),rfl⟩
   ·go_enter Tryz.func43,Tryz.ntmps43
    go_wp2_with fail
    refine CA.out.mono ?_;rintro e w1 ⟨rfl,rfl⟩
    go_wp2_with fail
    go_ret;rw[HV.out];exact⟨rfl,rfl⟩
 ·have h2I:((s.size:Int)==2)=false:=by simp;omega
  have HV:Hid (Lz.driveP s.data.toList=false):=by
   show _=_;have hl:s.data.toList.length≠2:=h2;generalize s.data.toList=l at hl
   match l,hl with
   | [],_=>rfl
   | [_],_=>rfl
   | [_,_],hl=>exact absurd rfl hl
   | _::_::_::_,_=>rfl
  go_enter Tryz.func43,Tryz.ntmps43
  go_wp2_with fail
  go_ret;rw[HV.out];exact⟨rfl,rfl⟩
theorem root08_any (s:ByteArray) (w:World):Calls Tryz.prog 42 #[.string s] w fun e w'=>e=.returned (.bool (Lz.driveP s.data.toList&&s.data.toList[1]? ==some 58))/\w=w':=by
 have cD:=drive08_any s w;cases hq:Lz.driveP s.data.toList with
 | false=>
   rw[hq]at cD;have CD:=Ih cD;clear cD hq;go_enter Tryz.func42,Tryz.ntmps42
   go_wp2_with fail
   refine CD.out.mono ?_;rintro e w1 ⟨rfl,rfl⟩
   go_wp2_with fail
   go_ret;exact⟨rfl,rfl⟩
 | true=>
   rw[hq]at cD
   have h2:s.size=2:=by
    rw[<-len_of_size];generalize s.data.toList=l at hq
    match l,hq with
    | [_,_],_=>rfl
   have hp1:1<s.size:=by omega
   have hp1I:(1:Int)<(s.size:Int):=by omega
   obtain⟨b,hb⟩:∃b,b=s[1]:=⟨_,rfl⟩;have hbI:(s[1].toNat:Int)=(b.toNat:Int):=by rw[hb]
   have b1:((b.toNat:Int)==58)=(b==58):=beqU b 58;have HV:Hid ((s.data.toList[1]? ==some 58)=(b==58)):=by show _=_;rw[get_of_lt hp1,<-hb];rfl
   generalize (b==58)=q at b1 HV;have CD:=Ih cD;clear cD hq hb h2;go_enter Tryz.func42,Tryz.ntmps42
   go_wp2_with fail
   refine CD.out.mono ?_;rintro e w1 ⟨rfl,rfl⟩
   go_wp2_with fail
   go_ret;rw[HV.out];exact⟨by first |rfl|(rw[b1];rfl)|simp[b1],rfl⟩
theorem drivenR_short {l:List UInt8} (h:l.length<2):Lz.drivenR l=false:=by
 rw[Lz.drivenR_eq]
 match l,h with
 | [],_=>rfl
 | [_],_=>rfl
theorem drivenR_two {l:List UInt8} (h:l.length=2):Lz.drivenR l=Lz.driveP (l.take 2):=by
 rw[Lz.drivenR_eq]
 match l,h with
 | [_,_],_=>rfl
theorem drivenR_more {l:List UInt8} {c:UInt8} (h:l[2]? =some c):Lz.drivenR l=(Lz.driveP (l.take 2)&&(c==47||c==92||c==63||c==35)):=by
 rw[Lz.drivenR_eq]
 match l,h with
 | a::b::d::r,h=>
   have:d=c:=by simpa using h
   rw[<-this];rfl
theorem driven08_any (s:ByteArray) (w:World):Calls Tryz.prog 41 #[.string s] w fun e w'=>e=.returned (.bool (Lz.drivenR s.data.toList))/\w=w':=by
 by_cases h2:2<=s.size
 ·have h2I:(2:Int)<=(s.size:Int):=by omega
  have cD:=drive08_any (s.extract 0 2) w;rw[extract_head2]at cD;obtain⟨q,hq⟩:∃q,q=Lz.driveP (s.data.toList.take 2):=⟨_,rfl⟩;rw[<-hq]at cD;have CD:=Ih cD;clear cD;by_cases he:s.size=2
  ·have heI:((s.size:Int)==2)=true:=by simp;omega
   have HV:Hid (Lz.drivenR s.data.toList=q):=by show _=_;rw[drivenR_two (show s.data.toList.length=2 from he),hq]
   clear he hq;cases q
   all_goals
    go_enter Tryz.func41,Tryz.ntmps41
    go_wp2_with fail
    refine CD.out.mono ?_;rintro e w1 ⟨rfl,rfl⟩
    go_wp2_with fail
    go_ret;rw[HV.out];exact⟨rfl,rfl⟩
  ·have heI:((s.size:Int)==2)=false:=by simp;omega
   have hp2:2<s.size:=by omega
   have hp2I:(2:Int)<(s.size:Int):=by omega
   obtain⟨c,hc⟩:∃c,c=s[2]:=⟨_,rfl⟩;have hcI:(s[2].toNat:Int)=(c.toNat:Int):=by rw[hc]
   have HV:Hid (Lz.drivenR s.data.toList=(q&&(c==47||c==92||c==63||c==35))):=by show _=_;rw[drivenR_more (c:=c) (by rw[get_of_lt hp2,hc]),hq]
   have b1:((c.toNat:Int)==47)=(c==47):=beqU c 47;have b2:((c.toNat:Int)==92)=(c==92):=beqU c 92;have b3:((c.toNat:Int)==63)=(c==63):=beqU c 63;have b4:((c.toNat:Int)==35)=(c==35):=beqU c 35;generalize (c==47)=p1 at b1 HV;generalize (c==92)=p2 at b2 HV;generalize (c==63)=p3 at b3 HV;generalize (c==35)=p4 at b4 HV;clear hq hc he;cases q
   ·go_enter Tryz.func41,Tryz.ntmps41
    go_wp2_with fail
    refine CD.out.mono ?_;rintro e w1 ⟨rfl,rfl⟩
    go_wp2_with fail
    go_ret;rw[HV.out];exact⟨rfl,rfl⟩
   ·cases p1<;>cases p2<;>cases p3<;>cases p4
    all_goals
     go_enter Tryz.func41,Tryz.ntmps41
     go_wp2_with fail
     refine CD.out.mono ?_;rintro e w1 ⟨rfl,rfl⟩
     go_wp2_with fail
     go_ret;rw[HV.out];exact⟨rfl,rfl⟩
 ·have h2I:¬(2:Int)<=(s.size:Int):=by omega
  have h2b:decide ((2:Int)<=(s.size:Int))=false:=decide_eq_false h2I;have HV:Hid (Lz.drivenR s.data.toList=false):=by show _=_;rw[drivenR_short (show s.data.toList.length<2 by rw[len_of_size];omega)]
  go_enter Tryz.func41,Tryz.ntmps41
  go_wp2_with fail
  go_ret;rw[HV.out];exact⟨by first |rfl|simp,rfl⟩
end Go.Proofs.YtipndhbgehdeoaaGreatDoor
namespace Lz
open Go
def u0:UrlL:={}
def noneL (u:UrlL) (s:Bs) (b:Option UrlL):UR:=match b with
 | none=>.er 82
 | some x=>if x.opq&&(!s.isEmpty||u.hasQuery|| !u.hasFragment)then .er 82
   else if x.opq then .ok (pathU {u with scheme:=x.scheme,opq:=true} x [])
   else if x.scheme=fileS then filesU {u with scheme:=x.scheme} b s
   else relU {u with scheme:=x.scheme} x s
def dNone (b:Option UrlL) (t:Bs):UR:=(noneL (qfU t u0) (mpU t) b).bind finU
theorem dNone_none (t:Bs):dNone none t=.er 82:=rfl
theorem dNone_opq {x:UrlL} (h:x.opq=true) {t:Bs} (ht:t.head? ≠some 35):dNone (some x) t=.er 82:=by
 unfold dNone noneL;simp only;rw[if_pos]
 ·rfl
 ·rw[h,Bool.true_and];cases t with
  | nil=>rw[mpU_nil,qfU_nil];rfl
  | cons c r=>
    by_cases h1:c=63
    ·subst h1;rw[mpU_q,qfU_q];rfl
    ·by_cases h2:c=35
     ·subst h2;exact absurd rfl ht
     ·rw[mpU_c h1 h2];rfl
theorem dNone_opqf {x:UrlL} (hx:NU x) (h:x.opq=true) (t:Bs):dNone (some x) (35::t)=dFrag {u0 with scheme:=x.scheme,opq:=true,path:=x.path,query:=x.query,hasQuery:=x.hasQuery,hasFragment:=true} t:=by
 unfold dNone noneL;simp only;rw[mpU_f,qfU_f,if_neg (by simp),if_pos h,pathU_be rfl];refine Eq.trans (fin_base hx ?_ ?_) ?_
 ·rfl
 ·rfl
 ·rfl
theorem dNone_file {x:UrlL} (h:x.opq=false) (hs:x.scheme=fileS) (t:Bs):dNone (some x) t=dFile {u0 with scheme:=x.scheme} (some x) t:=by
 unfold dNone noneL;simp only;rw[if_neg (by rw[h];simp),if_neg (by rw[h];simp),if_pos hs];rfl
theorem dNone_rel {x:UrlL} (h:x.opq=false) (hs:x.scheme≠fileS) (t:Bs):dNone (some x) t=dRel {u0 with scheme:=x.scheme} x t:=by
 unfold dNone noneL;simp only;rw[if_neg (by rw[h];simp),if_neg (by rw[h];simp),if_neg hs];rfl
def okL (u:UrlL) (a r:Bs) (b:Option UrlL):UR:=
 if a=fileS then filesU u b r
 else if specP a then(match b with
  | some x=>if x.scheme=a/\Lib.hasPrefix r [47,47]=false then relU u x r else hostedU u (r.drop (leadS true r))
  | none=>hostedU u (r.drop (leadS true r)))
 else if Lib.hasPrefix r [47,47]then hostedU u (r.drop 2)
 else if Lib.hasPrefix r [47]then .ok (onP u (r.drop 1))
 else .ok {u with opq:=true,path:=[encodeP [] r]}
theorem mainU_okL (u:UrlL) (s:Bs) (b:Option UrlL) {a r:Bs} (h:schemedP s=(a,r,true)):mainU u s b=okL {u with scheme:=a} a r b:=by
 unfold mainU okL;rw[h];cases b<;>rfl
theorem mainU_noL (u:UrlL) (s:Bs) (b:Option UrlL) (h:(schemedP s).2.2=false):mainU u s b=noneL u s b:=by
 unfold mainU noneL;simp only[h];cases b<;>rfl
def okD (b:Option UrlL) (a t:Bs):UR:=(okL (qfU t {u0 with scheme:=a}) a (mpU t) b).bind finU
theorem okD_file (b:Option UrlL) (t:Bs):okD b fileS t=dFile {u0 with scheme:=fileS} b t:=by
 unfold okD okL;rw[if_pos rfl];rfl
theorem okD_base {x:UrlL} {a:Bs} (h1:a≠fileS) (h2:specP a=true) (h3:x.scheme=a) (t:Bs):okD (some x) a t=dSpRel {u0 with scheme:=a} x t:=by
 unfold okD okL;simp only;rw[if_neg h1,if_pos h2];unfold dSpRel;by_cases h:Lib.hasPrefix (mpU t) [47,47]=false
 ·rw[if_pos ⟨h3,h⟩,if_pos h];rfl
 ·rw[if_neg (fun e=>h e.2),if_neg h];unfold dIgn;show _=(hostedU _ (List.drop (leadS (specP a) _) _)).bind finU;rw[h2]
theorem okD_spec {b:Option UrlL} {a:Bs} (h1:a≠fileS) (h2:specP a=true) (h3:∀x,b=some x->x.scheme≠a) (t:Bs):okD b a t=dIgn {u0 with scheme:=a} t:=by
 unfold okD okL;rw[if_neg h1,if_pos h2]
 have e:dIgn {u0 with scheme:=a} t=(hostedU (qfU t {u0 with scheme:=a}) ((mpU t).drop (leadS true (mpU t)))).bind finU:=by
  unfold dIgn;show(hostedU _ (List.drop (leadS (specP a) _) _)).bind finU=_;rw[h2]
 rw[e];cases b with
 | none=>rfl
 | some x=>
   simp only;rw[if_neg (fun e=>h3 x rfl e.1)]
theorem okD_slash {b:Option UrlL} {a:Bs} (h1:a≠fileS) (h2:specP a=false) (t:Bs):okD b a (47::t)=dPA {u0 with scheme:=a} t:=by
 unfold okD okL;rw[if_neg h1,if_neg (by rw[h2];simp),mp_two,mp_one];cases t with
 | nil=>
   rw[if_neg (by simp),if_pos (by simp),dPA,dPath_onP,mpU_c (by decide) (by decide),qfU_c (by decide) (by decide)];rfl
 | cons c r=>
   unfold dPA;simp only;by_cases hc:c=47
   ·subst hc;rw[if_pos (by simp),if_pos rfl,dAuth_hosted _ rfl rfl,mpU_c (by decide) (by decide),qfU_c (by decide) (by decide),mpU_c (by decide) (by decide),qfU_c (by decide) (by decide)];rfl
   ·rw[if_neg (by simp[hc]),if_pos (by simp),if_neg hc,dPath_onP,mpU_c (by decide) (by decide),qfU_c (by decide) (by decide)];rfl
theorem okD_opq {b:Option UrlL} {a:Bs} (h1:a≠fileS) (h2:specP a=false) {t:Bs} (ht:t.head? ≠some 47):okD b a t=dOpq {u0 with scheme:=a,opq:=true,path:=[[]]} t:=by
 unfold okD okL;have h0:¬(t[0]? =some 47):=by rw[<-List.head?_eq_getElem?];exact ht
 rw[if_neg h1,if_neg (by rw[h2];simp),mp_two,mp_one,if_neg (by simp[h0]),if_neg (by simp[h0])];rfl
def dSch (b:Option UrlL) (s0 buf t:Bs):UR:=match t.dropWhile schemeC with
 | c::r=>if c=58 then okD b (buf++low (t.takeWhile schemeC)) r else dNone b s0
 | []=>dNone b s0
theorem dSch_cons (b:Option UrlL) (s0 buf:Bs) {c:UInt8} (hc:schemeC c=true) (t:Bs):dSch b s0 buf (c::t)=dSch b s0 (buf++[low1 c]) t:=by
 unfold dSch;rw[List.dropWhile_cons,List.takeWhile_cons,if_pos hc,if_pos hc];cases t.dropWhile schemeC with
 | nil=>rfl
 | cons d r=>simp[low]
theorem dSch_colon (b:Option UrlL) (s0 buf t:Bs):dSch b s0 buf (58::t)=okD b buf t:=by
 unfold dSch;rw[List.dropWhile_cons,List.takeWhile_cons,if_neg (by decide),if_neg (by decide)]
 simp[low]
theorem dSch_bad (b:Option UrlL) (s0 buf:Bs) {c:UInt8} (hc:schemeC c=false) (h:c≠58) (t:Bs):dSch b s0 buf (c::t)=dNone b s0:=by
 unfold dSch;rw[List.dropWhile_cons,if_neg (by rw[hc];simp)];simp only;rw[if_neg h]
theorem dSch_nil (b:Option UrlL) (s0 buf:Bs):dSch b s0 buf []=dNone b s0:=rfl
theorem sch_keep:∀c:UInt8,schemeC c=true->c≠63/\c≠35/\c≠58:=byte_all (by decide +kernel)
theorem mp_pre:∀(k r:Bs),k.all schemeC=true->mpU (k++r)=k++mpU r/\∀u,qfU (k++r) u=qfU r u
 | [],r,_=>⟨rfl,fun _=>rfl⟩
 | c::k,r,h=>by
   rw[List.all_cons,Bool.and_eq_true]at h;obtain⟨i1,i2⟩:=mp_pre k r h.2;obtain⟨h1,h2,_⟩:=sch_keep c h.1;rw[List.cons_append,mpU_c h1 h2,i1];exact⟨rfl,fun u=>by rw[qfU_c h1 h2,i2]⟩
theorem schemed_bad {k m:Bs} (hk:k.all schemeC=true) (hm:∀c,m.head? =some c->schemeC c=false/\c≠58):(schemedP (k++m)).2.2=false:=by
 rw[schemedP_eq];split
 ·rename_i h
  exfalso
  unfold schemeOk at h;simp only[Bool.and_eq_true]at h;obtain⟨⟨⟨h1,h2⟩,h3⟩,h4⟩:=h;obtain⟨f1,f2,f3,f4⟩:=cut_facts 58 (k++m);generalize Lib.cut (k++m) [58]=z at h1 h2 h3 h4 f1 f2 f3 f4;have e:=f4 h1
  have d1:(k++m).dropWhile schemeC=m:=by
   rw[List.dropWhile_append_of_pos (by intro a ha;exact List.all_eq_true.1 hk a ha)];cases m with
   | nil=>rfl
   | cons c r=>rw[List.dropWhile_cons,if_neg (by rw[(hm c rfl).1];simp)]
  rw[e,List.dropWhile_append_of_pos (by intro a ha;exact List.all_eq_true.1 h4 a ha),List.dropWhile_cons,if_neg (by decide)]at d1;exact(hm 58 (by rw[<-d1];rfl)).2 rfl
 ·rfl
theorem schemed_bad2 {m:Bs} (hm:∀c,m.head? =some c->isAlpha c=false):(schemedP m).2.2=false:=by
 rw[schemedP_eq];split
 ·rename_i h
  exfalso
  unfold schemeOk at h;simp only[Bool.and_eq_true]at h;obtain⟨⟨⟨h1,h2⟩,h3⟩,h4⟩:=h;obtain⟨f1,f2,f3,f4⟩:=cut_facts 58 m;generalize Lib.cut m [58]=z at h1 h2 h3 h4 f1 f2 f3 f4;have e:=f4 h1;obtain⟨a,b,q⟩:=z;cases a with
  | nil=>simp at h2
  | cons c r=>
    have:=hm c (by rw[e];rfl);simp only at h3;rw[this]at h3;cases h3
 ·rfl
theorem mp_headP {p:UInt8->Prop} {t:Bs} (h:∀c,t.head? =some c->p c):∀c,(mpU t).head? =some c->p c:=by
 cases t with
 | nil=>rw[mpU_nil];intro c hc;cases hc
 | cons x r=>
   have hx:=h x rfl;by_cases h1:x=63
   ·subst h1;rw[mpU_q];intro c hc;cases hc
   ·by_cases h2:x=35
    ·subst h2;rw[mpU_f];intro c hc;cases hc
    ·rw[mpU_c h1 h2];intro c hc;cases hc;exact hx
theorem take_drop_while (p:UInt8->Bool) (t:Bs):t.takeWhile p++t.dropWhile p=t:=List.takeWhile_append_dropWhile
theorem all_takeWhile (p:UInt8->Bool) (t:Bs):(t.takeWhile p).all p=true:=by
 induction t with
 | nil=>rfl
 | cons c r ih=>
   rw[List.takeWhile_cons];split
   ·rename_i h;rw[List.all_cons,h,ih];rfl
   ·rfl
theorem head_dropWhile (p:UInt8->Bool) (t:Bs):∀c,(t.dropWhile p).head? =some c->p c=false:=by
 induction t with
 | nil=>intro c hc;cases hc
 | cons x r ih=>
   rw[List.dropWhile_cons];split
   ·exact ih
   ·rename_i h;intro c hc;cases hc;simpa using h
def startD (b:Option UrlL) (t:Bs):UR:=(mainU (qfU t u0) (mpU t) b).bind finU
theorem readU_start (s:Bs) (b:Option UrlL):readU s b=startD b (cleanP s):=rfl
theorem start_not (b:Option UrlL) {t:Bs} (h:∀c,t.head? =some c->isAlpha c=false):startD b t=dNone b t:=by
 unfold startD dNone;rw[mainU_noL _ _ _ (schemed_bad2 (mp_headP h))]
theorem start_alpha (b:Option UrlL) {c:UInt8} (hc:isAlpha c=true) (t:Bs):startD b (c::t)=dSch b (c::t) [low1 c] t:=by
 have hsc:schemeC c=true:=by unfold schemeC;rw[hc];rfl
 rw[show dSch b (c::t) [low1 c] t=dSch b (c::t) [] (c::t) by rw[dSch_cons b _ [] hsc];rfl];unfold startD dSch;have e:=take_drop_while schemeC (c::t);have ha:=all_takeWhile schemeC (c::t);have hd:=head_dropWhile schemeC (c::t);have hk:((c::t).takeWhile schemeC).head? =some c:=by rw[List.takeWhile_cons,if_pos hsc];rfl
 generalize hx:(c::t).takeWhile schemeC=k at e ha hk⊢;generalize hy:(c::t).dropWhile schemeC=r at e hd⊢;obtain⟨m1,m2⟩:=mp_pre k r ha;rw[e]at m1 m2;rw[m1,m2];have hkn:k≠[]:=by intro h;rw[h]at hk;cases hk
 have hka:∀d,k.head? =some d->isAlpha d=true:=by intro d hd;rw[hk]at hd;cases hd;exact hc
 cases r with
 | nil=>
   simp only;rw[mainU_noL _ _ _ (schemed_bad ha (by rw[mpU_nil];intro d hd;cases hd))];unfold dNone;rw[m1,m2]
 | cons d r=>
   simp only;by_cases h58:d=58
   ·subst h58;rw[if_pos rfl,mpU_c (by decide) (by decide),qfU_c (by decide) (by decide),mainU_okL _ _ _ (schemed_of hkn hka ha (mpU r))];rfl
   ·rw[if_neg h58,mainU_noL _ _ _ (schemed_bad ha (mp_headP (by intro x hx;cases hx;exact⟨hd _ rfl,h58⟩)))];unfold dNone;rw[m1,m2]
inductive Stt where
 | start|scheme|none|spRel|pa|rel|relS|spSl|ign|auth|host|port|file|fileS|fileH|pStart|path|opq|query|frag
structure RV where
 buf:Bs:=[]
 a:Bool:=false
 pass:Bool:=false
 inside:Bool:=false
 u:UrlL:=u0
def rk:Stt->Nat
 | .start=>13| .scheme=>12| .none=>11| .spRel=>10| .rel=>9| .file=>9| .relS=>8| .spSl=>8| .fileS=>8| .ign=>7| .pa=>7| .fileH=>7
 | .auth=>6| .host=>5| .port=>4| .pStart=>3| .path=>2| .opq=>2| .query=>1| .frag=>0
def Sole (u:UrlL):Prop:=u={u0 with scheme:=u.scheme}
theorem Sole.bare {u:UrlL} (h:Sole u):Bare u:=by rw[show u=_ from h];exact⟨rfl,rfl,rfl,rfl⟩
theorem Sole.parts {u:UrlL} (h:Sole u):u.user=[]/\u.pass=[]/\u.hasHost=false/\u.host=[]/\u.port= -1/\u.opq=false/\u.path=[]:=by rw[show u=_ from h];exact⟨rfl,rfl,rfl,rfl,rfl,rfl,rfl⟩
def Early (u:UrlL):Prop:=Bare u/\u.path=[]/\u.port= -1
theorem Sole.early {u:UrlL} (h:Sole u):Early u:=⟨h.bare,h.parts.2.2.2.2.2.2,h.parts.2.2.2.2.1⟩
def cl (u:UrlL):RV:={u:=u}
def stM (b:Option UrlL) (s:Bs) (goal:UR) (v:RV) (i:Nat):Stt->Prop
 | .start=>i=0/\v=cl u0/\goal=startD b s
 | .scheme=>v.buf.length<=i/\v={cl u0 with buf:=v.buf}/\goal=dSch b s v.buf (s.drop i)
 | .none=>i=0/\v=cl u0/\goal=dNone b s
 | .spRel=>Sole v.u/\v=cl v.u/\∃x,b=some x/\v.u.scheme=x.scheme/\goal=dSpRel v.u x (s.drop i)
 | .pa=>Sole v.u/\v=cl v.u/\goal=dPA v.u (s.drop i)
 | .rel=>Sole v.u/\v=cl v.u/\∃x,b=some x/\v.u.scheme=x.scheme/\goal=dRel v.u x (s.drop i)
 | .relS=>Sole v.u/\v=cl v.u/\∃x,b=some x/\v.u.scheme=x.scheme/\goal=dRelS v.u x (s.drop i)
 | .spSl=>Sole v.u/\v=cl v.u/\goal=dIgn v.u (s.drop i)
 | .ign=>Sole v.u/\v=cl v.u/\goal=dIgn v.u (s.drop i)
 | .auth=>Early v.u/\v.inside=false/\v.buf.length<=i/\s.drop (i-v.buf.length)=v.buf++s.drop i/\v.u.user.length+v.u.pass.length+3*v.buf.length<=12*i/\(64:UInt8)∉v.buf/\(∀c∈v.buf,overQ (specP v.u.scheme) c=false)/\goal=dAuth v.u v.a v.pass v.buf (s.drop i)
 | .host=>Early v.u/\v.buf.length<=i/\colX v.inside v.buf/\goal=dHost v.u v.buf (s.drop i)
 | .port=>Early v.u/\v.buf.length<=i/\v.buf.all isDigit=true/\goal=dPort v.u v.buf (s.drop i)
 | .file=>Sole v.u/\v=cl v.u/\v.u.scheme=fileS/\goal=dFile v.u b (s.drop i)
 | .fileS=>(v.u={u0 with scheme:=fileS,hasHost:=true})/\v=cl v.u/\goal=dFileS v.u b (s.drop i)
 | .fileH=>(v.u={u0 with scheme:=fileS,hasHost:=true})/\v.buf.length<=i/\goal=dFileH v.u v.buf (s.drop i)
 | .pStart=>Bare v.u/\v.buf=[]/\v.u.path=[]/\goal=dPS v.u (s.drop i)
 | .path=>Bare v.u/\v.u.path.length<=1000000+i/\v.buf.length<=3*i/\goal=dPath v.u v.buf (s.drop i)
 | .opq=>Bare v.u/\(∃x,v.u.path=[x]/\x.length<=3*i)/\goal=dOpq v.u (s.drop i)
 | .query=>v.u.fragment=[]/\v.u.hasFragment=false/\v.u.query.length<=3*i/\goal=dQuery v.u (s.drop i)
 | .frag=>v.u.fragment.length<=3*i/\goal=dFrag v.u (s.drop i)
def InvM (b:Option UrlL) (s:Bs) (goal:UR) (v:RV) (i:Nat) (st:Stt):Prop:=i<=s.length/\stM b s goal v i st
def After (b:Option UrlL) (s:Bs) (goal:UR) (st0:Stt) (i0:Nat) (st:Stt) (v:RV) (j:Int):Prop:=
 ((s.length:Int)<=j/\goal=.ok v.u)\/(j<(s.length:Int)/\∃i:Nat,j+1=(i:Int)/\InvM b s goal v i st/\(rk st<rk st0\/st=st0/\i0<i))
def muM (s:Bs) (i:Nat) (st:Stt):Nat:=rk st*(s.length+2)+(s.length-i)
theorem mu_less {s:Bs} {i0 i:Nat} {st0 st:Stt} (h0:i0<=s.length) (h:i<=s.length) (hr:rk st<rk st0\/st=st0/\i0<i):muM s i st<muM s i0 st0:=by
 unfold muM;rcases hr with hr|⟨rfl,hr⟩
 ·have:rk st*(s.length+2)+(s.length+2)<=rk st0*(s.length+2):=by rw[<-Nat.succ_mul];exact Nat.mul_le_mul_right _ hr
  omega
 ·omega
def Rd (s:Bs) (sp:Bool) (i:Nat) (e:Bool) (c nx:UInt8) (sl ov:Bool):Prop:=
 (e=true/\i=s.length/\s.drop i=[]/\c=0/\nx=0/\sl=false/\ov=true)\/
 (e=false/\i<s.length/\s.drop i=c::s.drop (i+1)/\nx=(s.drop (i+1)).headD 0/\sl=slashQ sp c/\ov=overQ sp c)
section
variable {b:Option UrlL} {s:Bs} {goal:UR} {v:RV} {i:Nat} {sp e:Bool} {c nx:UInt8} {sl ov:Bool}
theorem on_next {st0 st:Stt} {v':RV} (hi:i<s.length) (h:stM b s goal v' (i+1) st) (hr:rk st<rk st0\/st=st0):After b s goal st0 i st v' (i:Int):=
 .inr ⟨by omega,i+1,by omega,⟨by omega,h⟩,hr.imp id (fun h=>⟨h,by omega⟩)⟩
theorem on_same {st0 st:Stt} {v':RV} (hi:i<=s.length) (h:stM b s goal v' i st) (hr:rk st<rk st0):After b s goal st0 i st v' ((i:Int)-1):=
 .inr ⟨by omega,i,by omega,⟨hi,h⟩,.inl hr⟩
theorem on_two {st0 st:Stt} {v':RV} (hi:i+1<s.length) (h:stM b s goal v' (i+2) st) (hr:rk st<rk st0):After b s goal st0 i st v' ((i:Int)+1):=
 .inr ⟨by omega,i+2,by omega,⟨by omega,h⟩,.inl hr⟩
theorem on_end {st0 st:Stt} {v':RV} (hi:i=s.length) (h:goal=.ok v'.u):After b s goal st0 i st v' (i:Int):=.inl ⟨by omega,h⟩
theorem Rd.some (h:Rd s sp i e c nx sl ov) (hc:c≠0):e=false/\i<s.length/\s.drop i=c::s.drop (i+1)/\nx=(s.drop (i+1)).headD 0/\sl=slashQ sp c/\ov=overQ sp c:=by
 rcases h with h|h
 ·exact absurd h.2.2.2.1 hc
 ·exact h
theorem Rd.no (h:Rd s sp i e c nx sl ov) (he:e=false):i<s.length/\s.drop i=c::s.drop (i+1)/\nx=(s.drop (i+1)).headD 0/\sl=slashQ sp c/\ov=overQ sp c:=by
 rcases h with h|h
 ·rw[he]at h;exact absurd h.1 (by simp)
 ·exact h.2
theorem Rd.yes (h:Rd s sp i e c nx sl ov) (he:e=true):i=s.length/\s.drop i=[]:=by
 rcases h with h|h
 ·exact⟨h.2.1,h.2.2.1⟩
 ·rw[he]at h;exact absurd h.1 (by simp)
theorem Rd.no47 (h:Rd s sp i e c nx sl ov) (hs:sl=false):c≠47:=by
 rintro rfl;rcases h with h|h
 ·exact absurd h.2.2.2.1 (by decide)
 ·have:=h.2.2.2.2.1;rw[hs]at this;exact absurd this (by simp[slashQ])
theorem Rd.is47 (h:Rd s false i e c nx sl ov) (hs:sl=true):c=47:=by
 obtain⟨_,_,_,h1⟩:e=false/\i<s.length/\s.drop i=c::s.drop (i+1)/\slashQ false c=true:=by
  rcases h with h|h
  ·rw[hs]at h;exact absurd h.2.2.2.2.2.1 (by simp)
  ·exact⟨h.1,h.2.1,h.2.2.1,by rw[<-h.2.2.2.2.1,hs]⟩
 simpa [slashQ]using h1
theorem Rd.le (h:Rd s sp i e c nx sl ov):i<=s.length:=by rcases h with h|h<;>omega
theorem Rd.nover (h:Rd s sp i e c nx sl ov) (ho:ov=false):e=false/\i<s.length/\s.drop i=c::s.drop (i+1)/\overQ sp c=false:=by
 rcases h with h|h
 ·rw[ho]at h;exact absurd h.2.2.2.2.2.2 (by simp)
 ·exact⟨h.1,h.2.1,h.2.2.1,by rw[<-h.2.2.2.2.2,ho]⟩
theorem Rd.over (h:Rd s sp i e c nx sl ov) (ho:ov=true):isOver sp (s.drop i):=by
 rcases h with h|h
 ·rw[h.2.2.1];intro d hd;cases hd
 ·rw[h.2.2.1];intro d hd;cases hd;rw[<-h.2.2.2.2.2,ho]
theorem Rd.slash (h:Rd s sp i e c nx sl ov) (ho:sl=true):e=false/\i<s.length/\s.drop i=c::s.drop (i+1)/\slashQ sp c=true:=by
 rcases h with h|h
 ·rw[ho]at h;exact absurd h.2.2.2.2.2.1 (by simp)
 ·exact⟨h.1,h.2.1,h.2.2.1,by rw[<-h.2.2.2.2.1,ho]⟩
theorem Rd.nslash (h:Rd s sp i e c nx sl ov) (ho:sl=false):∀d,(s.drop i).head? =Option.some d->slashQ sp d=false:=by
 rcases h with h|h
 ·rw[h.2.2.1];intro d hd;cases hd
 ·rw[h.2.2.1];intro d hd;cases hd;rw[<-h.2.2.2.2.1,ho]
theorem Rd.head (h:Rd s sp i e c nx sl ov) {k:UInt8} (hk:c≠k):(s.drop i).head? ≠Option.some k:=by
 rcases h with h|h
 ·rw[h.2.2.1];simp
 ·rw[h.2.2.1];simpa using hk
theorem next_drop {j:Nat} {k:UInt8} (hk:k≠0) (h:k=(s.drop j).headD 0):j<s.length/\s.drop j=k::s.drop (j+1):=by
 cases hd:s.drop j with
 | nil=>rw[hd]at h;exact absurd h hk
 | cons x r=>
   rw[hd]at h
   have hl:j<s.length:=by
    rcases Nat.lt_or_ge j s.length with h|h
    ·exact h
    ·rw[List.drop_eq_nil_of_le h]at hd;cases hd
   refine⟨hl,?_⟩;have:k=x:=h;rw[this];rw[List.drop_eq_getElem_cons hl]at hd;injection hd with h1 h2
   rw[h2]
end
section
variable {b:Option UrlL} {s:Bs} {goal:UR} {v:RV} {i:Nat} {sp e:Bool} {c nx:UInt8} {sl ov:Bool}
theorem w_start_a (hI:InvM b s goal v i .start) (hR:Rd s sp i e c nx sl ov) (he:e=false) (hc:isAlpha c=true):After b s goal .start i .scheme {v with buf:=[low1 c]} (i:Int):=by
 obtain⟨_,rfl,rfl,hg⟩:=hI;obtain⟨h1,h2,_⟩:=hR.no he;refine on_next h1 ⟨by simp,rfl,?_⟩ (.inl (by decide));rw[List.drop_zero]at h2;rw[hg]
 conv=>lhs;rw[h2]
 rw[start_alpha b hc,<-h2]
theorem w_start_n (hI:InvM b s goal v i .start) (hR:Rd s sp i e c nx sl ov) (hc:e=false->isAlpha c=false):After b s goal .start i .none v ((i:Int)-1):=by
 obtain⟨_,rfl,rfl,hg⟩:=hI;refine on_same (Nat.zero_le _) ⟨rfl,rfl,?_⟩ (by decide);rw[hg];refine start_not b ?_;rcases hR with h|h
 ·have:=h.2.2.1;rw[List.drop_zero]at this;rw[this];intro d hd;cases hd
 ·have:=h.2.2.1;rw[List.drop_zero]at this;rw[this];intro d hd;cases hd;exact hc h.1
theorem w_sch_a (hI:InvM b s goal v i .scheme) (hR:Rd s sp i e c nx sl ov) (he:e=false) (hc:schemeC c=true):After b s goal .scheme i .scheme {v with buf:=v.buf++[low1 c]} (i:Int):=by
 obtain⟨_,h0,hv,hg⟩:=hI;obtain⟨h1,h2,_⟩:=hR.no he;refine on_next h1 ⟨by simp;omega,?_,?_⟩ (.inr rfl)
 ·rw[hv]
 ·rw[hg,h2,dSch_cons b s _ hc]
theorem sch_okD (hI:InvM b s goal v i .scheme) (hR:Rd s sp i e c nx sl ov) (hc:c=58):i<s.length/\goal=okD b v.buf (s.drop (i+1))/\nx=(s.drop (i+1)).headD 0:=by
 obtain⟨_,h0,hv,hg⟩:=hI;subst hc;obtain⟨_,h1,h2,h3,_⟩:=hR.some (by decide);exact⟨h1,by rw[hg,h2,dSch_colon],h3⟩
theorem sch_v (hI:InvM b s goal v i .scheme):({v with buf:=[],u:={v.u with scheme:=v.buf}}:RV)=cl {u0 with scheme:=v.buf}/\({v with buf:=[],u:={v.u with scheme:=v.buf,opq:=true,path:=[[]]}}:RV)=cl {u0 with scheme:=v.buf,opq:=true,path:=[[]]}:=by
 obtain⟨_,h0,hv,hg⟩:=hI;obtain⟨bf,a,p,n,u⟩:=v;injection hv with _ h1 h2 h3 h4
 subst h1 h2 h3 h4;exact⟨rfl,rfl⟩
theorem w_sch_file (hI:InvM b s goal v i .scheme) (hR:Rd s sp i e c nx sl ov) (hc:c=58) (hf:v.buf=fileS):After b s goal .scheme i .file {v with buf:=[],u:={v.u with scheme:=v.buf}} (i:Int):=by
 obtain⟨h1,h2,_⟩:=sch_okD hI hR hc;rw[(sch_v hI).1];exact on_next h1 ⟨rfl,rfl,hf,by rw[h2,hf,okD_file];rfl⟩ (.inl (by decide))
theorem w_sch_base {x:UrlL} (hI:InvM b s goal v i .scheme) (hR:Rd s sp i e c nx sl ov) (hc:c=58) (hf:v.buf≠fileS) (hs:specP v.buf=true) (hb:b=some x) (hx:x.scheme=v.buf):After b s goal .scheme i .spRel {v with buf:=[],u:={v.u with scheme:=v.buf}} (i:Int):=by
 obtain⟨h1,h2,_⟩:=sch_okD hI hR hc;rw[(sch_v hI).1];exact on_next h1 ⟨rfl,rfl,x,hb,hx.symm,by rw[h2,hb,okD_base hf hs hx];rfl⟩ (.inl (by decide))
theorem w_sch_sp (hI:InvM b s goal v i .scheme) (hR:Rd s sp i e c nx sl ov) (hc:c=58) (hf:v.buf≠fileS) (hs:specP v.buf=true) (hb:∀x,b=some x->x.scheme≠v.buf):After b s goal .scheme i .spSl {v with buf:=[],u:={v.u with scheme:=v.buf}} (i:Int):=by
 obtain⟨h1,h2,_⟩:=sch_okD hI hR hc;rw[(sch_v hI).1];exact on_next h1 ⟨rfl,rfl,by rw[h2,okD_spec hf hs hb];rfl⟩ (.inl (by decide))
theorem w_sch_pa (hI:InvM b s goal v i .scheme) (hR:Rd s sp i e c nx sl ov) (hc:c=58) (hf:v.buf≠fileS) (hs:specP v.buf=false) (hn:nx=47):After b s goal .scheme i .pa {v with buf:=[],u:={v.u with scheme:=v.buf}} ((i:Int)+1):=by
 obtain⟨h1,h2,h3⟩:=sch_okD hI hR hc;rw[(sch_v hI).1];subst hn;obtain⟨h4,h5⟩:=next_drop (by decide) h3;exact on_two h4 ⟨rfl,rfl,by rw[h2,h5,okD_slash hf hs];rfl⟩ (by decide)
theorem w_sch_opq (hI:InvM b s goal v i .scheme) (hR:Rd s sp i e c nx sl ov) (hc:c=58) (hf:v.buf≠fileS) (hs:specP v.buf=false) (hn:nx≠47):After b s goal .scheme i .opq {v with buf:=[],u:={v.u with scheme:=v.buf,opq:=true,path:=[[]]}} (i:Int):=by
 obtain⟨h1,h2,h3⟩:=sch_okD hI hR hc;rw[(sch_v hI).2];refine on_next h1 ⟨⟨rfl,rfl,rfl,rfl⟩,⟨[],rfl,by simp⟩,?_⟩ (.inl (by decide));rw[h2,okD_opq hf hs ?_]
 ·rfl
 ·intro h;cases hd:s.drop (i+1)with
  | nil=>rw[hd]at h;cases h
  | cons y r=>rw[hd]at h h3;cases h;exact hn h3
theorem w_sch_n (hI:InvM b s goal v i .scheme) (hR:Rd s sp i e c nx sl ov) (hc:e=false->schemeC c=false) (h58:c≠58):After b s goal .scheme i .none {v with buf:=[]} (-1):=by
 obtain⟨_,h0,hv,hg⟩:=hI;refine .inr ⟨by omega,0,by omega,⟨Nat.zero_le _,rfl,?_,?_⟩,.inl (by decide)⟩
 ·rw[hv];rfl
 ·rcases hR with h|h
  ·rw[hg,h.2.2.1,dSch_nil]
  ·rw[hg,h.2.2.1,dSch_bad b s _ (hc h.1) h58]
theorem w_none_er (hI:InvM none s goal v i .none):goal=.er 82:=by
 obtain⟨_,_,_,hg⟩:=hI;rw[hg,dNone_none]
theorem w_none_opq {x:UrlL} (hI:InvM (some x) s goal v i .none) (hR:Rd s sp i e c nx sl ov) (ho:x.opq=true) (hc:c≠35):goal=.er 82:=by
 obtain⟨_,rfl,_,hg⟩:=hI;have:=hR.head hc;rw[List.drop_zero]at this;rw[hg,dNone_opq ho this]
theorem w_none_opqf {x:UrlL} (hx:NU x) (hI:InvM (some x) s goal v i .none) (hR:Rd s sp i e c nx sl ov) (ho:x.opq=true) (hc:c=35):
  After (some x) s goal .none i .frag {v with u:={v.u with scheme:=x.scheme,opq:=true,path:=x.path,query:=x.query,hasQuery:=x.hasQuery,hasFragment:=true}} (i:Int):=by
 obtain⟨_,rfl,rfl,hg⟩:=hI;subst hc;obtain⟨_,h1,h2,_⟩:=hR.some (by decide);rw[List.drop_zero]at h2
 exact on_next h1 ⟨by show(0:Nat)<=_;omega,by rw[hg];conv=>lhs;rw[h2]
                                              rw[dNone_opqf hx ho];rfl⟩ (.inl (by decide))
theorem w_none_file {x:UrlL} (hI:InvM (some x) s goal v i .none) (ho:x.opq=false) (hs:x.scheme=fileS):After (some x) s goal .none i .file {v with u:={v.u with scheme:=x.scheme}} ((i:Int)-1):=by
 obtain⟨_,rfl,rfl,hg⟩:=hI;refine on_same (Nat.zero_le _) ⟨rfl,rfl,hs,?_⟩ (by decide);rw[hg,dNone_file ho hs];rfl
theorem w_none_rel {x:UrlL} (hI:InvM (some x) s goal v i .none) (ho:x.opq=false) (hs:x.scheme≠fileS):After (some x) s goal .none i .rel {v with u:={v.u with scheme:=x.scheme}} ((i:Int)-1):=by
 obtain⟨_,rfl,rfl,hg⟩:=hI;refine on_same (Nat.zero_le _) ⟨rfl,rfl,x,rfl,rfl,?_⟩ (by decide);rw[hg,dNone_rel ho hs];rfl
theorem w_spr_ign (hI:InvM b s goal v i .spRel) (hR:Rd s sp i e c nx sl ov) (hc:c=47) (hn:nx=47):After b s goal .spRel i .ign v ((i:Int)+1):=by
 obtain⟨_,hF,hv,x,_,_,hg⟩:=hI;subst hc;subst hn;obtain⟨_,h1,h2,h3,_⟩:=hR.some (by decide);obtain⟨h4,h5⟩:=next_drop (by decide) h3;exact on_two h4 ⟨hF,hv,by rw[hg,h2,h5,dSpRel_two]⟩ (by decide)
theorem w_spr_rel (hI:InvM b s goal v i .spRel) (hR:Rd s sp i e c nx sl ov) (hc:¬(c=47/\nx=47)):After b s goal .spRel i .rel v ((i:Int)-1):=by
 obtain⟨_,hF,hv,x,h1,h2,hg⟩:=hI;refine on_same hR.le ⟨hF,hv,x,h1,h2,?_⟩ (by decide);rw[hg,dSpRel_no];rintro⟨h3,h4⟩;rcases hR with h|h
 ·rw[h.2.2.1]at h3;cases h3
 ·rw[h.2.2.1]at h3 h4;refine hc ⟨by simpa using h3,?_⟩;rw[h.2.2.2.1,List.headD_eq_head?_getD,List.head?_eq_getElem?];simp only[List.getElem?_cons_succ]at h4;rw[h4];rfl
theorem w_pa_auth (hI:InvM b s goal v i .pa) (hR:Rd s sp i e c nx sl ov) (hc:c=47):After b s goal .pa i .auth v (i:Int):=by
 obtain⟨_,hF,hv,hg⟩:=hI;subst hc;obtain⟨_,h1,h2,_⟩:=hR.some (by decide);have hp:=hF.parts;rw[hv];refine on_next h1 ⟨hF.early,rfl,Nat.zero_le _,rfl,?_,by simp[cl],fun d hd=>by simp[cl]at hd,?_⟩ (.inl (by decide))
 ·show v.u.user.length+v.u.pass.length+0<=_;rw[hp.1,hp.2.1];simp
 ·rw[hg,h2];rfl
theorem w_pa_path (hI:InvM b s goal v i .pa) (hR:Rd s sp i e c nx sl ov) (hc:c≠47):After b s goal .pa i .path v ((i:Int)-1):=by
 obtain⟨_,hF,hv,hg⟩:=hI;rw[hv];refine on_same hR.le ⟨hF.bare,?_,Nat.zero_le _,?_⟩ (by decide)
 ·show v.u.path.length<=_;rw[hF.parts.2.2.2.2.2.2];simp
 ·rw[hg];rcases hR with h|h
  ·rw[h.2.2.1];rfl
  ·rw[h.2.2.1];show(if c=47 then _ else _)=_;rw[if_neg hc];rfl
theorem w_spsl_two (hI:InvM b s goal v i .spSl) (hR:Rd s sp i e c nx sl ov) (hc:c=47) (hn:nx=47):After b s goal .spSl i .ign v ((i:Int)+1):=by
 obtain⟨_,hF,hv,hg⟩:=hI;subst hc;subst hn;obtain⟨_,h1,h2,h3,_⟩:=hR.some (by decide);obtain⟨h4,h5⟩:=next_drop (by decide) h3;exact on_two h4 ⟨hF,hv,by rw[hg,h2,h5,dIgn_two]⟩ (by decide)
theorem w_spsl_no (hI:InvM b s goal v i .spSl) (hR:Rd s sp i e c nx sl ov):After b s goal .spSl i .ign v ((i:Int)-1):=by
 obtain⟨_,hF,hv,hg⟩:=hI;exact on_same hR.le ⟨hF,hv,hg⟩ (by decide)
theorem w_ign_slash (hI:InvM b s goal v i .ign) (hR:Rd s (specP v.u.scheme) i e c nx sl ov) (hs:sl=true):After b s goal .ign i .ign v (i:Int):=by
 obtain⟨_,hF,hv,hg⟩:=hI;obtain⟨_,h1,h2,h3⟩:=hR.slash hs;exact on_next h1 ⟨hF,hv,by rw[hg,h2,dIgn_slash h3]⟩ (.inr rfl)
theorem auth_fresh (hF:Sole v.u) (hv:v=cl v.u) (hg:goal=dAuth v.u false false [] (s.drop i)):stM b s goal v i .auth:=by
 have hp:=hF.parts;rw[hv];refine⟨hF.early,rfl,Nat.zero_le _,rfl,?_,by simp[cl],fun d hd=>by simp[cl]at hd,hg⟩;show v.u.user.length+v.u.pass.length+0<=_;rw[hp.1,hp.2.1];simp
theorem w_ign_auth (hI:InvM b s goal v i .ign) (hR:Rd s (specP v.u.scheme) i e c nx sl ov) (hs:sl=false):After b s goal .ign i .auth v ((i:Int)-1):=by
 obtain⟨_,hF,hv,hg⟩:=hI;refine on_same hR.le (auth_fresh hF hv ?_) (by decide);rw[hg,dIgn_no hF.parts.1 hF.parts.2.1 (hR.nslash hs)]
theorem w_rel_slash (hI:InvM b s goal v i .rel) (hR:Rd s (specP v.u.scheme) i e c nx sl ov) (hs:sl=true):After b s goal .rel i .relS v (i:Int):=by
 obtain⟨_,hF,hv,x,h1,h2,hg⟩:=hI;obtain⟨_,h3,h4,h5⟩:=hR.slash hs;exact on_next h3 ⟨hF,hv,x,h1,h2,by rw[hg,h4,dRel_slash hF.parts.1 hF.parts.2.1 x h5]⟩ (.inl (by decide))
theorem w_rel_q {x:UrlL} (hI:InvM (some x) s goal v i .rel) (hR:Rd s (specP v.u.scheme) i e c nx sl ov) (hc:c=63):After (some x) s goal .rel i .query {v with u:={relB v.u x with query:=[],hasQuery:=true}} (i:Int):=by
 obtain⟨_,hF,hv,y,h1,h2,hg⟩:=hI;obtain rfl:=Option.some.inj h1;subst hc;obtain⟨_,h3,h4,_⟩:=hR.some (by decide);refine on_next h3 ⟨?_,?_,Nat.zero_le _,?_⟩ (.inl (by decide))
 ·exact hF.bare.2.2.1
 ·exact hF.bare.2.2.2
 ·rw[hg,h4,dRel_q hF.bare]
theorem w_rel_f {x:UrlL} (hx:NU x) (hI:InvM (some x) s goal v i .rel) (hR:Rd s (specP v.u.scheme) i e c nx sl ov) (hc:c=35):After (some x) s goal .rel i .frag {v with u:={relB v.u x with hasFragment:=true}} (i:Int):=by
 obtain⟨_,hF,hv,y,h1,h2,hg⟩:=hI;obtain rfl:=Option.some.inj h1;subst hc;obtain⟨_,h3,h4,_⟩:=hR.some (by decide);refine on_next h3 ⟨?_,?_⟩ (.inl (by decide))
 ·show(relB v.u x).fragment.length<=_;rw[show(relB v.u x).fragment=v.u.fragment from rfl,hF.bare.2.2.1];exact Nat.zero_le _
 ·rw[hg,h4,dRel_f hx h2 hF.bare]
theorem w_rel_end {x:UrlL} (hx:NU x) (hI:InvM (some x) s goal v i .rel) (hR:Rd s (specP v.u.scheme) i e c nx sl ov) (he:e=true) {st:Stt}:After (some x) s goal .rel i st {v with u:=relB v.u x} (i:Int):=by
 obtain⟨_,hF,hv,y,h1,h2,hg⟩:=hI;obtain rfl:=Option.some.inj h1;obtain⟨h3,h4⟩:=hR.yes he;refine on_end h3 ?_;rw[hg,h4,dRel_nil hx h2 hF.bare]
theorem short_len (sc:Bs) (p:List Bs):(shortP sc p).length<=p.length:=by
 unfold shortP;split<;>simp
theorem w_rel_path {x:UrlL} (hL:x.path.length<=1000000) (hI:InvM (some x) s goal v i .rel) (hR:Rd s (specP v.u.scheme) i e c nx sl ov) (he:e=false) (hs:sl=false) (h63:c≠63) (h35:c≠35):
  After (some x) s goal .rel i .path {v with u:={relB v.u x with query:=[],hasQuery:=false,path:=shortP v.u.scheme x.path}} ((i:Int)-1):=by
 obtain⟨_,hF,hv,y,h1,h2,hg⟩:=hI;obtain rfl:=Option.some.inj h1;obtain⟨h3,h4,_,h5,_⟩:=hR.no he;have hbuf:v.buf=[]:=by rw[hv];rfl
 have hb:=hF.bare
 have hu:({relB v.u x with query:=[],hasQuery:=false,path:=shortP v.u.scheme x.path}:UrlL)={restU v.u x with path:=shortP v.u.scheme x.path}:=by
  obtain⟨q1,q2,_⟩:=hb;unfold relB restU;simp only[q1,q2]
 refine on_same hR.le ⟨⟨rfl,rfl,hb.2.2.1,hb.2.2.2⟩,?_,?_,?_⟩ (by decide)
 ·show(shortP v.u.scheme x.path).length<=_;exact Nat.le_trans (short_len _ _) (by omega)
 ·rw[hbuf];exact Nat.zero_le _
 ·rw[hg,hbuf,hu,h4,dRel_cons (by rw[<-h5,hs]) h63 h35]
theorem w_rels_ign (hI:InvM b s goal v i .relS) (hR:Rd s (specP v.u.scheme) i e c nx sl ov) (hs:sl=true) (hp:specP v.u.scheme=true):After b s goal .relS i .ign v (i:Int):=by
 obtain⟨_,hF,hv,x,h1,h2,hg⟩:=hI;obtain⟨_,h3,h4,h5⟩:=hR.slash hs;refine on_next h3 ⟨hF,hv,?_⟩ (.inl (by decide));rw[hg,h4];show(if _ then _ else _)=_;rw[if_pos h5,if_pos hp]
theorem w_rels_auth (hI:InvM b s goal v i .relS) (hR:Rd s (specP v.u.scheme) i e c nx sl ov) (hc:c=47) (hp:specP v.u.scheme=false):After b s goal .relS i .auth v (i:Int):=by
 obtain⟨_,hF,hv,x,h1,h2,hg⟩:=hI;subst hc;obtain⟨_,h3,h4,_⟩:=hR.some (by decide);refine on_next h3 (auth_fresh hF hv ?_) (.inl (by decide));rw[hg,h4,dRelS,if_pos (by unfold slashQ;rfl),if_neg (by rw[hp];simp)]
theorem w_rels_path {x:UrlL} (hI:InvM (some x) s goal v i .relS) (hR:Rd s (specP v.u.scheme) i e c nx sl ov) (hs:sl=false):After (some x) s goal .relS i .path {v with u:=restU v.u x} ((i:Int)-1):=by
 obtain⟨_,hF,hv,y,h1,h2,hg⟩:=hI;obtain rfl:=Option.some.inj h1;have hbuf:v.buf=[]:=by rw[hv];rfl
 refine on_same hR.le ⟨hF.bare,?_,?_,?_⟩ (by decide)
 ·show v.u.path.length<=_;rw[hF.parts.2.2.2.2.2.2];simp
 ·rw[hbuf];exact Nat.zero_le _
 ·rw[hg,hbuf];rcases hR with h|h
  ·rw[h.2.2.1];rfl
  ·rw[h.2.2.1];show(if _ then _ else _)=_;rw[if_neg (by rw[<-h.2.2.2.2.1,hs];simp)]
theorem ext_len (u:UrlL) (a pass:Bool) (x:Bs):(extU u a pass x).user.length+(extU u a pass x).pass.length<=u.user.length+u.pass.length+3*x.length+6:=by
 have hz:(extZ a x).length<=x.length+1:=by unfold extZ;split<;>simp
 unfold extU;split
 ·have:=enc_len3 (setU 5) (extZ a x);simp only[List.length_append];omega
 ·have h1:=enc_len3 (setU 5) (Lib.cut (extZ a x) [58]).1;have h2:=enc_len3 (setU 5) (Lib.cut (extZ a x) [58]).2.1;have hf:=cut_facts 58 (extZ a x);obtain⟨f1,f2,f3,f4⟩:=hf
  have hl:(Lib.cut (extZ a x) [58]).1.length+(Lib.cut (extZ a x) [58]).2.1.length<=(extZ a x).length:=by
   generalize Lib.cut (extZ a x) [58]=z at f1 f2 f3 f4;obtain⟨p,q,r⟩:=z;cases r with
   | false=>obtain⟨e1,e2⟩:=f2 rfl;simp only at e1 e2⊢;rw[e1,e2];simp
   | true=>have:=f4 rfl;simp only at this⊢;rw[this];simp
  simp only[List.length_append];omega
theorem ext_early {u:UrlL} (h:Early u) (a pass:Bool) (x:Bs):Early (extU u a pass x):=by
 unfold extU;split<;>exact h
theorem w_auth_at (hI:InvM b s goal v i .auth) (hR:Rd s (specP v.u.scheme) i e c nx sl ov) (hc:c=64):After b s goal .auth i .auth {v with buf:=[],a:=true,pass:=extP v.a v.pass v.buf,u:=extU v.u v.a v.pass v.buf} (i:Int):=by
 obtain⟨_,h1,h2,h3,h4,h5,h6,h7,hg⟩:=hI;subst hc;obtain⟨_,k1,k2,_⟩:=hR.some (by decide);refine on_next k1 ⟨ext_early h1 _ _ _,h2,Nat.zero_le _,rfl,?_,by simp,by simp,?_⟩ (.inr rfl)
 ·have:=ext_len v.u v.a v.pass v.buf;show(extU v.u v.a v.pass v.buf).user.length+(extU v.u v.a v.pass v.buf).pass.length+3*0<=_;omega
 ·rw[hg,k2,dAuth_at h6]
theorem w_auth_er (hI:InvM b s goal v i .auth) (hR:Rd s (specP v.u.scheme) i e c nx sl ov) (ho:ov=true) (ha:v.a=true) (hb:v.buf=[]):goal=.er 70:=by
 obtain⟨_,h1,h2,h3,h4,h5,h6,h7,hg⟩:=hI;rw[hg,dAuth_over h6 h7 (hR.over ho),if_pos ⟨ha,hb⟩]
theorem w_auth_host (hI:InvM b s goal v i .auth) (hR:Rd s (specP v.u.scheme) i e c nx sl ov) (ho:ov=true) (hn:¬(v.a=true/\v.buf=[])):After b s goal .auth i .host {v with buf:=[]} ((i:Int)-(v.buf.length:Int)-1):=by
 obtain⟨h0,h1,h2,h3,h4,h5,h6,h7,hg⟩:=hI;refine .inr ⟨by omega,i-v.buf.length,by omega,⟨by omega,h1,Nat.zero_le _,?_,?_⟩,.inl (by decide)⟩
 ·show colX v.inside [];rw[h2];exact colX_nil
 ·rw[hg,dAuth_over h6 h7 (hR.over ho),if_neg hn,h4]
theorem over_58 (sp:Bool):overQ sp 58=false:=by cases sp<;>rfl
theorem w_auth_c (hI:InvM b s goal v i .auth) (hR:Rd s (specP v.u.scheme) i e c nx sl ov) (ho:ov=false) (hc:c≠64):After b s goal .auth i .auth {v with buf:=v.buf++[c]} (i:Int):=by
 obtain⟨h0,h1,h2,h3,h4,h5,h6,h7,hg⟩:=hI;obtain⟨_,k1,k2,k3⟩:=hR.nover ho;refine on_next k1 ⟨h1,h2,?_,?_,?_,?_,?_,?_⟩ (.inr rfl)
 ·simp;omega
 ·show s.drop (i+1-(v.buf++[c]).length)=(v.buf++[c])++s.drop (i+1);rw[List.length_append,List.length_singleton,show i+1-(v.buf.length+1)=i-v.buf.length by omega,h4,k2];simp
 ·simp only[List.length_append,List.length_singleton];omega
 ·simp only[List.mem_append,List.mem_singleton,not_or];exact⟨h6,fun h=>hc h.symm⟩
 ·intro d hd;simp only[List.mem_append,List.mem_singleton]at hd;rcases hd with hd|rfl
  ·exact h7 d hd
  ·exact k3
 ·rw[hg,k2,dAuth_cons k3]
theorem w_host_er (hI:InvM b s goal v i .host) (hR:Rd s (specP v.u.scheme) i e c nx sl ov) (hc:(c=58/\v.inside=false)\/ov=true) (hb:v.buf=[]) (hs:c=58\/specP v.u.scheme=true):goal=.er 70:=by
 obtain⟨h0,h1,h2,h3,hg⟩:=hI;rcases hc with⟨rfl,hi⟩|ho
 ·obtain⟨_,k1,k2,_⟩:=hR.some (by decide);rw[hi]at h3;rw[hg,k2,dHost_colon h3,if_pos hb]
 ·rcases hs with rfl|hs
  ·rcases hR with h|h
   ·exact absurd h.2.2.2.1 (by decide)
   ·have:=h.2.2.2.2.2;rw[ho]at this;rw[over_58]at this;exact absurd this (by decide)
  ·rw[hg,dHost_over2 h3 (hR.over ho),if_pos ⟨hb,hs⟩]
theorem w_host_bad {n:Nat} (hI:InvM b s goal v i .host) (hR:Rd s (specP v.u.scheme) i e c nx sl ov) (hc:(c=58/\v.inside=false)\/ov=true) (hb:¬(v.buf=[]/\(c=58\/specP v.u.scheme=true))) (hh:hostPr v.buf (specP v.u.scheme)=.er n):goal=.er n:=by
 obtain⟨h0,h1,h2,h3,hg⟩:=hI;rcases hc with⟨rfl,hi⟩|ho
 ·obtain⟨_,k1,k2,_⟩:=hR.some (by decide);rw[hi]at h3;rw[hg,k2,dHost_colon h3,if_neg (fun h=>hb ⟨h,.inl rfl⟩),hostU,hh]
 ·rw[hg,dHost_over2 h3 (hR.over ho),if_neg (fun h=>hb ⟨h.1,.inr h.2⟩),hostU,hh]
theorem w_host_port {h:Bs} (hI:InvM b s goal v i .host) (hR:Rd s (specP v.u.scheme) i e c nx sl ov) (hc:c=58) (hi:v.inside=false\/ov=true) (hb:v.buf≠[]) (hh:hostPr v.buf (specP v.u.scheme)=.ok h):
  After b s goal .host i .port {v with buf:=[],u:={v.u with host:=h,hasHost:=true}} (i:Int):=by
 obtain⟨h0,h1,h2,h3,hg⟩:=hI;subst hc;obtain⟨_,k1,k2,_,_,k3⟩:=hR.some (by decide)
 have hin:v.inside=false:=by
  rcases hi with hi|hi
  ·exact hi
  ·rw[hi,over_58]at k3;exact absurd k3 (by decide)
 rw[hin]at h3;refine on_next k1 ⟨h1,Nat.zero_le _,rfl,?_⟩ (.inl (by decide));rw[hg,k2,dHost_colon h3,if_neg hb,hostU,hh]
theorem w_host_ps {h:Bs} (hI:InvM b s goal v i .host) (hR:Rd s (specP v.u.scheme) i e c nx sl ov) (ho:ov=true) (hb:¬(v.buf=[]/\specP v.u.scheme=true)) (hh:hostPr v.buf (specP v.u.scheme)=.ok h):
  After b s goal .host i .pStart {v with buf:=[],u:={v.u with host:=h,hasHost:=true}} ((i:Int)-1):=by
 obtain⟨h0,h1,h2,h3,hg⟩:=hI;refine on_same hR.le ⟨h1.1,rfl,h1.2.1,?_⟩ (by decide);rw[hg,dHost_over2 h3 (hR.over ho),if_neg hb,hostU,hh]
theorem w_host_c (hI:InvM b s goal v i .host) (hR:Rd s (specP v.u.scheme) i e c nx sl ov) (ho:ov=false) (hc:¬(c=58/\v.inside=false)):After b s goal .host i .host {v with buf:=v.buf++[c],inside:=if c=93 then false else if c=91 then true else v.inside} (i:Int):=by
 obtain⟨h0,h1,h2,h3,hg⟩:=hI;obtain⟨_,k1,k2,k3⟩:=hR.nover ho;refine on_next k1 ⟨h1,by simp;omega,colX_step h3 hc,?_⟩ (.inr rfl);rw[hg,k2,dHost_cons k3]
theorem w_port_er (hI:InvM b s goal v i .port) (hR:Rd s (specP v.u.scheme) i e c nx sl ov) (ho:ov=true) (hp:portI v.u.scheme v.buf< -1):goal=.er 81:=by
 obtain⟨h0,h1,h2,h3,hg⟩:=hI;obtain⟨p1,p2,p3,p4⟩:=port_I h1.2.2 h3;rw[hg,dPort_over (hR.over ho),p1 (by omega)]
theorem w_port_ps (hI:InvM b s goal v i .port) (hR:Rd s (specP v.u.scheme) i e c nx sl ov) (ho:ov=true) (hp:¬portI v.u.scheme v.buf< -1):After b s goal .port i .pStart {v with buf:=[],u:={v.u with port:=portI v.u.scheme v.buf}} ((i:Int)-1):=by
 obtain⟨h0,h1,h2,h3,hg⟩:=hI;obtain⟨p1,p2,p3,p4⟩:=port_I h1.2.2 h3;refine on_same hR.le ⟨h1.1,rfl,h1.2.1,?_⟩ (by decide);rw[hg,dPort_over (hR.over ho),p2 (by omega)]
theorem w_port_c (hI:InvM b s goal v i .port) (hR:Rd s (specP v.u.scheme) i e c nx sl ov) (ho:ov=false) (hc:isDigit c=true):After b s goal .port i .port {v with buf:=v.buf++[c]} (i:Int):=by
 obtain⟨h0,h1,h2,h3,hg⟩:=hI;obtain⟨_,k1,k2,k3⟩:=hR.nover ho;refine on_next k1 ⟨h1,by simp;omega,by simp[h3,hc],?_⟩ (.inr rfl);rw[hg,k2,dPort_cons k3]
theorem w_port_bad (hI:InvM b s goal v i .port) (hR:Rd s (specP v.u.scheme) i e c nx sl ov) (ho:ov=false) (hc:isDigit c=false):goal=.er 81:=by
 obtain⟨h0,h1,h2,h3,hg⟩:=hI;obtain⟨_,k1,k2,k3⟩:=hR.nover ho;rw[hg,k2,dPort_bad k3 hc]
end
section
variable {b:Option UrlL} {s:Bs} {goal:UR} {v:RV} {i:Nat} {sp e:Bool} {c nx:UInt8} {sl ov:Bool}
theorem Sole.file {u:UrlL} (h:Sole u) (hs:u.scheme=fileS):fileV u={u0 with scheme:=fileS,hasHost:=true}:=by
 rw[show u=_ from h,hs];rfl
theorem w_file_slash (hI:InvM b s goal v i .file) (hR:Rd s sp i e c nx sl ov) (hc:slashQ true c=true):After b s goal .file i .fileS {v with u:=fileV v.u} (i:Int):=by
 obtain⟨_,hF,hv,hs,hg⟩:=hI;have h0:c≠0:=by rintro rfl;exact absurd hc (by decide)
 obtain⟨_,h1,h2,_⟩:=hR.some h0;refine on_next h1 ⟨hF.file hs,by rw[hv];rfl,?_⟩ (.inl (by decide));rw[hg,h2,dFile_slash hs b hc]
theorem noSl (hR:Rd s sp i e c nx sl ov) (hc:slashQ true c=false):∀d,(s.drop i).head? =some d->slashQ true d=false:=by
 rcases hR with h|h
 ·rw[h.2.2.1];intro d hd;cases hd
 ·rw[h.2.2.1];intro d hd;cases hd;exact hc
theorem w_file_no (hI:InvM b s goal v i .file) (hR:Rd s sp i e c nx sl ov) (hc:slashQ true c=false) (hb:fb b=none):After b s goal .file i .path {v with u:=fileV v.u} ((i:Int)-1):=by
 obtain⟨_,hF,hv,hs,hg⟩:=hI;have hbuf:v.buf=[]:=by rw[hv];rfl
 refine on_same hR.le ⟨?_,?_,?_,?_⟩ (by decide)
 ·exact hF.bare
 ·show v.u.path.length<=_;rw[hF.parts.2.2.2.2.2.2];simp
 ·rw[hbuf];exact Nat.zero_le _
 ·rw[hg,hbuf,dFile_none hb (noSl hR hc)]
theorem w_file_q {x:UrlL} (hI:InvM b s goal v i .file) (hR:Rd s sp i e c nx sl ov) (hb:fb b=some x) (hc:c=63):After b s goal .file i .query {v with u:={fileB v.u x with query:=[],hasQuery:=true}} (i:Int):=by
 obtain⟨_,hF,hv,hs,hg⟩:=hI;subst hc;obtain⟨_,h3,h4,_⟩:=hR.some (by decide);refine on_next h3 ⟨hF.bare.2.2.1,hF.bare.2.2.2,Nat.zero_le _,?_⟩ (.inl (by decide));rw[hg,h4,dFile_q hb hF.bare]
theorem w_file_f {x:UrlL} (hx:NU x) (hI:InvM b s goal v i .file) (hR:Rd s sp i e c nx sl ov) (hb:fb b=some x) (hc:c=35):After b s goal .file i .frag {v with u:={fileB v.u x with hasFragment:=true}} (i:Int):=by
 obtain⟨_,hF,hv,hs,hg⟩:=hI;subst hc;obtain⟨_,h3,h4,_⟩:=hR.some (by decide);refine on_next h3 ⟨?_,?_⟩ (.inl (by decide))
 ·show(fileB v.u x).fragment.length<=_;rw[show(fileB v.u x).fragment=v.u.fragment from rfl,hF.bare.2.2.1];exact Nat.zero_le _
 ·rw[hg,h4,dFile_f hb hx hs hF.bare]
theorem w_file_end {x:UrlL} (hx:NU x) (hI:InvM b s goal v i .file) (hR:Rd s sp i e c nx sl ov) (hb:fb b=some x) (he:e=true) {st:Stt}:After b s goal .file i st {v with u:=fileB v.u x} (i:Int):=by
 obtain⟨_,hF,hv,hs,hg⟩:=hI;obtain⟨h3,h4⟩:=hR.yes he;refine on_end h3 ?_;rw[hg,h4,dFile_nil hb hx hs hF.bare]
theorem w_file_path {x:UrlL} (hL:x.path.length<=1000000) (hI:InvM b s goal v i .file) (hR:Rd s sp i e c nx sl ov) (hb:fb b=some x) (hc:slashQ true c=false) (he:e=false) (h63:c≠63) (h35:c≠35):
  After b s goal .file i .path {v with u:={fileB v.u x with query:=[],hasQuery:=false,path:=if drivenR (s.drop i)then[]else shortP fileS x.path}} ((i:Int)-1):=by
 obtain⟨_,hF,hv,hs,hg⟩:=hI;obtain⟨h3,h4,_,h5,_⟩:=hR.no he;have hbuf:v.buf=[]:=by rw[hv];rfl
 have hb0:=hF.bare
 have hu:∀p,({fileB v.u x with query:=[],hasQuery:=false,path:=p}:UrlL)={fileV v.u with host:=x.host,path:=p}:=by
  intro p;obtain⟨q1,q2,_⟩:=hb0;unfold fileB fileV;simp only[q1,q2]
 refine on_same hR.le ⟨⟨rfl,rfl,hb0.2.2.1,hb0.2.2.2⟩,?_,?_,?_⟩ (by decide)
 ·show(if drivenR (s.drop i)then[]else shortP fileS x.path).length<=_;split
  ·simp
  ·exact Nat.le_trans (short_len _ _) (by omega)
 ·rw[hbuf];exact Nat.zero_le _
 ·rw[hg,hbuf];rw[hu,h4,dFile_cons hb hs hc h63 h35 hF.parts.2.2.2.2.2.2]
theorem w_fs_slash (hI:InvM b s goal v i .fileS) (hR:Rd s (specP v.u.scheme) i e c nx sl ov) (hs:sl=true):After b s goal .fileS i .fileH v (i:Int):=by
 obtain⟨_,hF,hv,hg⟩:=hI;obtain⟨_,h1,h2,h3⟩:=hR.slash hs;rw[show v.u.scheme=fileS by rw[hF]]at h3;have hbuf:v.buf=[]:=by rw[hv];rfl
 refine on_next h1 ⟨hF,by rw[hbuf];exact Nat.zero_le _,?_⟩ (.inl (by decide));rw[hg,h2,hbuf];exact if_pos h3
theorem w_fs_path (hI:InvM b s goal v i .fileS) (hR:Rd s (specP v.u.scheme) i e c nx sl ov) (hs:sl=false):After b s goal .fileS i .path {v with u:=fileN v.u (fb b) (s.drop i)} ((i:Int)-1):=by
 obtain⟨_,hF,hv,hg⟩:=hI;have hbuf:v.buf=[]:=by rw[hv];rfl
 have hno:=hR.nslash hs;rw[show v.u.scheme=fileS by rw[hF]]at hno;have hp:v.u.path=[]:=by rw[hF];rfl
 have hbr:Bare v.u:=by rw[hF];exact⟨rfl,rfl,rfl,rfl⟩
 refine on_same hR.le ⟨?_,?_,?_,?_⟩ (by decide)
 ·show Bare (fileN v.u (fb b) (s.drop i));unfold fileN;split
  ·split<;>exact hbr
  ·exact hbr
 ·show(fileN v.u (fb b) (s.drop i)).path.length<=_;unfold fileN;split
  ·split
   ·simp;omega
   ·simp[hp]
  ·simp[hp]
 ·rw[hbuf];exact Nat.zero_le _
 ·rw[hg,hbuf];cases hd:s.drop i with
  | nil=>rfl
  | cons d r=>
    show(if _ then _ else _)=_;exact if_neg (by have:=hno d (by rw[hd];rfl);rw[sp_file]at this;rw[this];simp)
theorem w_fh_c (hI:InvM b s goal v i .fileH) (hR:Rd s (specP v.u.scheme) i e c nx sl ov) (ho:ov=false):After b s goal .fileH i .fileH {v with buf:=v.buf++[c]} (i:Int):=by
 obtain⟨_,hF,hl,hg⟩:=hI;obtain⟨_,h1,h2,h3⟩:=hR.nover ho;rw[show v.u.scheme=fileS by rw[hF]]at h3;refine on_next h1 ⟨hF,by simp;omega,?_⟩ (.inr rfl);rw[hg,h2,dFileH_cons h3]
theorem fh_over (hF:v.u={u0 with scheme:=fileS,hasHost:=true}) (hR:Rd s (specP v.u.scheme) i e c nx sl ov) (ho:ov=true):isOver true (s.drop i):=by
 have:=hR.over ho;rw[show v.u.scheme=fileS by rw[hF]]at this;exact this
theorem w_fh_drive (hI:InvM b s goal v i .fileH) (hR:Rd s (specP v.u.scheme) i e c nx sl ov) (ho:ov=true) (hd:driveP v.buf=true):After b s goal .fileH i .path v ((i:Int)-1):=by
 obtain⟨_,hF,hl,hg⟩:=hI;have hov:=fh_over hF hR ho;refine on_same hR.le ⟨?_,?_,by omega,?_⟩ (by decide)
 ·rw[hF];exact⟨rfl,rfl,rfl,rfl⟩
 ·rw[hF];simp[u0]
 ·rw[hg,dFileH_drive (by rw[hF]) hov hd]
theorem fh_eq (hI:InvM b s goal v i .fileH) (hR:Rd s (specP v.u.scheme) i e c nx sl ov) (ho:ov=true) (hd:driveP v.buf=false):goal=if v.buf=[]then dPS v.u (s.drop i)else match hostPr v.buf true with
  | .er n=>.er n
  | .ok h=>dPS (if h=localS then v.u else{v.u with host:=h}) (s.drop i):=by
 obtain⟨_,hF,hl,hg⟩:=hI;rw[hg,dFileH_over (by rw[hF]) (by rw[hF];rfl) (by rw[hF]) (fh_over hF hR ho) hd]
 (cases hostPr v.buf true<;>rfl)
theorem w_fh_none (hI:InvM b s goal v i .fileH) (hR:Rd s (specP v.u.scheme) i e c nx sl ov) (ho:ov=true) (hd:driveP v.buf=false) (hb:v.buf=[]):After b s goal .fileH i .pStart {v with buf:=[]} ((i:Int)-1):=by
 have hg:=fh_eq hI hR ho hd;obtain⟨_,hF,hl,_⟩:=hI;rw[if_pos hb]at hg;refine on_same hR.le ⟨?_,rfl,?_,hg⟩ (by decide)
 ·show Bare v.u;rw[hF];exact⟨rfl,rfl,rfl,rfl⟩
 ·show v.u.path=[];rw[hF];rfl
theorem w_fh_er {n:Nat} (hI:InvM b s goal v i .fileH) (hR:Rd s (specP v.u.scheme) i e c nx sl ov) (ho:ov=true) (hd:driveP v.buf=false) (hb:v.buf≠[]) (hh:hostPr v.buf true=.er n):goal=.er n:=by
 have hg:=fh_eq hI hR ho hd;rw[if_neg hb,hh]at hg;exact hg
theorem w_fh_loc {h:Bs} (hI:InvM b s goal v i .fileH) (hR:Rd s (specP v.u.scheme) i e c nx sl ov) (ho:ov=true) (hd:driveP v.buf=false) (hb:v.buf≠[]) (hh:hostPr v.buf true=.ok h) (hl:h=localS):After b s goal .fileH i .pStart {v with buf:=[]} ((i:Int)-1):=by
 have hg:=fh_eq hI hR ho hd;rw[if_neg hb,hh]at hg;simp only[hl,if_true]at hg;obtain⟨_,hF,_,_⟩:=hI;refine on_same hR.le ⟨?_,rfl,?_,hg⟩ (by decide)
 ·show Bare v.u;rw[hF];exact⟨rfl,rfl,rfl,rfl⟩
 ·show v.u.path=[];rw[hF];rfl
theorem w_fh_host {h:Bs} (hI:InvM b s goal v i .fileH) (hR:Rd s (specP v.u.scheme) i e c nx sl ov) (ho:ov=true) (hd:driveP v.buf=false) (hb:v.buf≠[]) (hh:hostPr v.buf true=.ok h) (hl:h≠localS):After b s goal .fileH i .pStart {v with buf:=[],u:={v.u with host:=h}} ((i:Int)-1):=by
 have hg:=fh_eq hI hR ho hd;rw[if_neg hb,hh]at hg;simp only[hl,if_false]at hg;obtain⟨_,hF,_,_⟩:=hI;refine on_same hR.le ⟨?_,rfl,?_,hg⟩ (by decide)
 ·show Bare v.u;rw[hF];exact⟨rfl,rfl,rfl,rfl⟩
 ·show v.u.path=[];rw[hF];rfl
theorem path0 (hb:Bare v.u) (hbuf:v.buf=[]) (hp:v.u.path=[]) {k:Nat} (hg:goal=dPath v.u [] (s.drop k)):stM b s goal v k .path:=
 ⟨hb,by rw[hp];simp,by rw[hbuf];exact Nat.zero_le _,by rw[hg,hbuf]⟩
theorem w_ps_sl (hI:InvM b s goal v i .pStart) (hR:Rd s (specP v.u.scheme) i e c nx sl ov) (hs:specP v.u.scheme=true) (hl:sl=true):After b s goal .pStart i .path v (i:Int):=by
 obtain⟨_,h1,h2,h3,hg⟩:=hI;obtain⟨_,k1,k2,k3⟩:=hR.slash hl;refine on_next k1 (path0 h1 h2 h3 ?_) (.inl (by decide));rw[hs]at k3;rw[hg,k2,dPS_sp_slash hs k3]
theorem w_ps_sp (hI:InvM b s goal v i .pStart) (hR:Rd s (specP v.u.scheme) i e c nx sl ov) (hs:specP v.u.scheme=true) (hl:sl=false):After b s goal .pStart i .path v ((i:Int)-1):=by
 obtain⟨_,h1,h2,h3,hg⟩:=hI;have k3:=hR.nslash hl;refine on_same hR.le (path0 h1 h2 h3 ?_) (by decide);rw[hs]at k3;rw[hg,dPS_sp_no hs k3]
theorem w_ps_q (hI:InvM b s goal v i .pStart) (hR:Rd s (specP v.u.scheme) i e c nx sl ov) (hs:specP v.u.scheme=false) (hc:c=63):After b s goal .pStart i .query {v with u:={v.u with hasQuery:=true}} (i:Int):=by
 obtain⟨_,h1,h2,h3,hg⟩:=hI;subst hc;obtain⟨_,k1,k2,_⟩:=hR.some (by decide);refine on_next k1 ⟨h1.2.2.1,h1.2.2.2,?_,?_⟩ (.inl (by decide))
 ·show v.u.query.length<=_;rw[h1.1];exact Nat.zero_le _
 ·rw[hg,k2,dPS_q hs h1]
theorem w_ps_f (hI:InvM b s goal v i .pStart) (hR:Rd s (specP v.u.scheme) i e c nx sl ov) (hs:specP v.u.scheme=false) (hc:c=35):After b s goal .pStart i .frag {v with u:={v.u with hasFragment:=true}} (i:Int):=by
 obtain⟨_,h1,h2,h3,hg⟩:=hI;subst hc;obtain⟨_,k1,k2,_⟩:=hR.some (by decide);refine on_next k1 ⟨?_,?_⟩ (.inl (by decide))
 ·show v.u.fragment.length<=_;rw[h1.2.2.1];exact Nat.zero_le _
 ·rw[hg,k2,dPS_f hs h1]
theorem w_ps_end (hI:InvM b s goal v i .pStart) (hR:Rd s (specP v.u.scheme) i e c nx sl ov) (hs:specP v.u.scheme=false) (he:e=true) {st:Stt}:After b s goal .pStart i st v (i:Int):=by
 obtain⟨_,h1,h2,h3,hg⟩:=hI;obtain⟨k1,k2⟩:=hR.yes he;exact on_end k1 (by rw[hg,k2,dPS_nil hs h1])
theorem w_ps_path (hI:InvM b s goal v i .pStart) (hR:Rd s (specP v.u.scheme) i e c nx sl ov) (hs:specP v.u.scheme=false) (hc:c=47):After b s goal .pStart i .path v (i:Int):=by
 obtain⟨_,h1,h2,h3,hg⟩:=hI;subst hc;obtain⟨_,k1,k2,_⟩:=hR.some (by decide);exact on_next k1 (path0 h1 h2 h3 (by rw[hg,k2,dPS_slash hs])) (.inl (by decide))
theorem w_ps_c (hI:InvM b s goal v i .pStart) (hR:Rd s (specP v.u.scheme) i e c nx sl ov) (hs:specP v.u.scheme=false) (he:e=false) (hc:c≠47) (h63:c≠63) (h35:c≠35):After b s goal .pStart i .path v ((i:Int)-1):=by
 obtain⟨_,h1,h2,h3,hg⟩:=hI;obtain⟨k1,k2,_⟩:=hR.no he;exact on_same hR.le (path0 h1 h2 h3 (by rw[hg,k2,dPS_cons hs hc h63 h35])) (by decide)
theorem step_len (sc:Bs) (p:List Bs) (q:Bs) (m:Bool):(stepQ sc p q m).length<=p.length+1:=by
 unfold stepQ;have:=short_len sc p;split
 ·split
  ·simp;omega
  ·omega
 ·split
  ·split
   ·simp
   ·omega
  ·simp
theorem w_path_q (hI:InvM b s goal v i .path) (hR:Rd s (specP v.u.scheme) i e c nx sl ov) (hc:c=63):After b s goal .path i .query {v with buf:=[],u:={v.u with path:=stepQ v.u.scheme v.u.path v.buf false,hasQuery:=true}} (i:Int):=by
 obtain⟨_,h1,h2,h3,hg⟩:=hI;subst hc;obtain⟨_,k1,k2,_⟩:=hR.some (by decide);refine on_next k1 ⟨h1.2.2.1,h1.2.2.2,?_,?_⟩ (.inl (by decide))
 ·show v.u.query.length<=_;rw[h1.1];exact Nat.zero_le _
 ·rw[hg,k2,dPath_q h1]
theorem w_path_f (hI:InvM b s goal v i .path) (hR:Rd s (specP v.u.scheme) i e c nx sl ov) (hc:c=35):After b s goal .path i .frag {v with buf:=[],u:={v.u with path:=stepQ v.u.scheme v.u.path v.buf false,hasFragment:=true}} (i:Int):=by
 obtain⟨_,h1,h2,h3,hg⟩:=hI;subst hc;obtain⟨_,k1,k2,_⟩:=hR.some (by decide);refine on_next k1 ⟨?_,?_⟩ (.inl (by decide))
 ·show v.u.fragment.length<=_;rw[h1.2.2.1];exact Nat.zero_le _
 ·rw[hg,k2,dPath_f h1]
theorem w_path_sl (hI:InvM b s goal v i .path) (hR:Rd s (specP v.u.scheme) i e c nx sl ov) (hs:sl=true):After b s goal .path i .path {v with buf:=[],u:={v.u with path:=stepQ v.u.scheme v.u.path v.buf true}} (i:Int):=by
 obtain⟨_,h1,h2,h3,hg⟩:=hI;obtain⟨_,k1,k2,k3⟩:=hR.slash hs;refine on_next k1 ⟨h1,?_,Nat.zero_le _,?_⟩ (.inr rfl)
 ·have:=step_len v.u.scheme v.u.path v.buf true;show(stepQ v.u.scheme v.u.path v.buf true).length<=_;omega
 ·rw[hg,k2,dPath_slash k3]
theorem w_path_end (hI:InvM b s goal v i .path) (hR:Rd s (specP v.u.scheme) i e c nx sl ov) (he:e=true) {st:Stt}:After b s goal .path i st {v with buf:=[],u:={v.u with path:=stepQ v.u.scheme v.u.path v.buf false}} (i:Int):=by
 obtain⟨_,h1,h2,h3,hg⟩:=hI;obtain⟨k1,k2⟩:=hR.yes he;exact on_end k1 (by rw[hg,k2,dPath_nil h1])
theorem w_path_c (hI:InvM b s goal v i .path) (hR:Rd s (specP v.u.scheme) i e c nx sl ov) (ho:ov=false):After b s goal .path i .path {v with buf:=v.buf++encodeP (setU 4) [c]} (i:Int):=by
 obtain⟨_,h1,h2,h3,hg⟩:=hI;obtain⟨_,k1,k2,k3⟩:=hR.nover ho;obtain⟨q1,q2,q3⟩:=over_not k3;refine on_next k1 ⟨h1,by show v.u.path.length<=_;omega,?_,?_⟩ (.inr rfl)
 ·have:=enc_len3 (setU 4) [c];simp only[List.length_append,List.length_singleton]at *;omega
 ·rw[hg,k2,dPath_cons q1 q2 q3]
theorem w_opq_q (hI:InvM b s goal v i .opq) (hR:Rd s sp i e c nx sl ov) (hc:c=63):After b s goal .opq i .query {v with u:={v.u with hasQuery:=true}} (i:Int):=by
 obtain⟨_,h1,⟨x,h2,h3⟩,hg⟩:=hI;subst hc;obtain⟨_,k1,k2,_⟩:=hR.some (by decide);refine on_next k1 ⟨h1.2.2.1,h1.2.2.2,?_,?_⟩ (.inl (by decide))
 ·show v.u.query.length<=_;rw[h1.1];exact Nat.zero_le _
 ·rw[hg,k2,dOpq_q h1 h2]
theorem w_opq_f (hI:InvM b s goal v i .opq) (hR:Rd s sp i e c nx sl ov) (hc:c=35):After b s goal .opq i .frag {v with u:={v.u with hasFragment:=true}} (i:Int):=by
 obtain⟨_,h1,⟨x,h2,h3⟩,hg⟩:=hI;subst hc;obtain⟨_,k1,k2,_⟩:=hR.some (by decide);refine on_next k1 ⟨?_,?_⟩ (.inl (by decide))
 ·show v.u.fragment.length<=_;rw[h1.2.2.1];exact Nat.zero_le _
 ·rw[hg,k2,dOpq_f h1 h2]
theorem w_opq_end (hI:InvM b s goal v i .opq) (hR:Rd s sp i e c nx sl ov) (he:e=true) {st:Stt}:After b s goal .opq i st v (i:Int):=by
 obtain⟨_,h1,⟨x,h2,h3⟩,hg⟩:=hI;obtain⟨k1,k2⟩:=hR.yes he;exact on_end k1 (by rw[hg,k2,dOpq_nil h1 h2])
theorem w_opq_c {x:Bs} (hx:v.u.path=[x]) (hI:InvM b s goal v i .opq) (hR:Rd s sp i e c nx sl ov) (he:e=false) (h63:c≠63) (h35:c≠35):After b s goal .opq i .opq {v with u:={v.u with path:=[x++encodeP [] [c]]}} (i:Int):=by
 obtain⟨_,h1,⟨y,h2,h3⟩,hg⟩:=hI;obtain rfl:x=y:=by rw[hx]at h2;injection h2
 obtain⟨k1,k2,_⟩:=hR.no he;refine on_next k1 ⟨h1,⟨_,rfl,?_⟩,?_⟩ (.inr rfl)
 ·have:=enc_len3 [] [c];simp only[List.length_append,List.length_singleton]at *;omega
 ·rw[hg,k2,dOpq_cons hx h63 h35]
theorem w_query_f (hI:InvM b s goal v i .query) (hR:Rd s sp i e c nx sl ov) (hc:c=35):After b s goal .query i .frag {v with u:={v.u with hasFragment:=true}} (i:Int):=by
 obtain⟨_,h1,h2,h3,hg⟩:=hI;subst hc;obtain⟨_,k1,k2,_⟩:=hR.some (by decide);refine on_next k1 ⟨?_,?_⟩ (.inl (by decide))
 ·show v.u.fragment.length<=_;rw[h1];exact Nat.zero_le _
 ·rw[hg,k2,dQuery_f _ h1]
theorem w_query_end (hI:InvM b s goal v i .query) (hR:Rd s sp i e c nx sl ov) (he:e=true) {st:Stt}:After b s goal .query i st v (i:Int):=by
 obtain⟨_,h1,h2,h3,hg⟩:=hI;obtain⟨k1,k2⟩:=hR.yes he;exact on_end k1 (by rw[hg,k2,dQuery_nil _ h1 h2])
theorem w_query_c (hI:InvM b s goal v i .query) (hR:Rd s sp i e c nx sl ov) (he:e=false) (h35:c≠35):After b s goal .query i .query {v with u:={v.u with query:=v.u.query++encodeP (qset v.u) [c]}} (i:Int):=by
 obtain⟨_,h1,h2,h3,hg⟩:=hI;obtain⟨k1,k2,_⟩:=hR.no he;refine on_next k1 ⟨h1,h2,?_,?_⟩ (.inr rfl)
 ·have:=enc_len3 (qset v.u) [c];simp only[List.length_append,List.length_singleton]at *;omega
 ·rw[hg,k2,dQuery_cons _ _ h35]
theorem w_frag_end (hI:InvM b s goal v i .frag) (hR:Rd s sp i e c nx sl ov) (he:e=true) {st:Stt}:After b s goal .frag i st v (i:Int):=by
 obtain⟨_,h1,hg⟩:=hI;obtain⟨k1,k2⟩:=hR.yes he;exact on_end k1 (by rw[hg,k2,dFrag_nil])
theorem w_frag_c (hI:InvM b s goal v i .frag) (hR:Rd s sp i e c nx sl ov) (he:e=false):After b s goal .frag i .frag {v with u:={v.u with fragment:=v.u.fragment++encodeP (setU 1) [c]}} (i:Int):=by
 obtain⟨_,h1,hg⟩:=hI;obtain⟨k1,k2,_⟩:=hR.no he;refine on_next k1 ⟨?_,?_⟩ (.inr rfl)
 ·have:=enc_len3 (setU 1) [c];simp only[List.length_append,List.length_singleton]at *;omega
 ·rw[hg,k2,dFrag_cons]
end
theorem parse_read {s:Bs} {b:Option UrlL} {u:UrlL} (e:parseU s b=.ok u):s.length<=4000/\readU s b=.ok u:=by
 unfold parseU at e;split at e
 ·cases e
 ·refine⟨by omega,?_⟩;cases b with
  | none=>exact e
  | some x=>
    simp only at e;split at e
    ·exact e
    ·cases e
theorem parse_wq0 {s:Bs} {u:UrlL} (e:parseU s none=.ok u):wq u<=12120:=by
 obtain⟨h1,h2⟩:=parse_read e;have h3:=readU_len h2 (fun _ h=>by cases h);have h4:bq none=0:=rfl;omega
theorem parse_wq {s:Bs} {b:Option UrlL} {u:UrlL} (e:parseU s b=.ok u) (hb:∀x,b=some x->∃t,parseU t none=.ok x):wq u<=24240:=by
 cases b with
 | none=>have:=parse_wq0 e;omega
 | some x=>
   obtain⟨t,ht⟩:=hb x rfl;obtain⟨h1,h2⟩:=parse_read e;have h3:=readU_len h2 (fun y h=>by cases h;exact parse_form ht);have h4:bq (some x)=wq x:=rfl;have h5:=parse_wq0 ht;omega
theorem parse_err {s:Bs} {b:Option UrlL} {n:Nat} (e:parseU s b=.er n):n=3\/n=2\/n=70\/n=71\/n=72\/n=81\/n=82:=by
 unfold parseU at e;split at e
 ·injection e with e;omega
 ·cases b with
  | none=>have:=readU_err e;omega
  | some x=>
    simp only at e;split at e
    ·have:=readU_err e;omega
    ·injection e with e;omega
def trimL (t:Bs):Bs:=t.dropWhile spQ
def trimR (t:Bs):Bs:=(t.reverse.dropWhile spQ).reverse
theorem trimL_yes {c:UInt8} {r:Bs} (h:spQ c=true):trimL (c::r)=trimL r:=by simp[trimL,h]
theorem trimL_no {c:UInt8} {r:Bs} (h:spQ c=false):trimL (c::r)=c::r:=by simp[trimL,h]
theorem trimR_yes {c:UInt8} {r:Bs} (h:spQ c=true):trimR (r++[c])=trimR r:=by simp[trimR,h]
theorem trimR_no {c:UInt8} {r:Bs} (h:spQ c=false):trimR (r++[c])=r++[c]:=by simp[trimR,h]
theorem clean_tr (s:Bs):cleanP s=keepB (trimR (trimL s)):=rfl
theorem spQ_le (c:UInt8):spQ c=decide (c.toNat<=32):=by revert c;exact byte_all (by decide +kernel)
theorem keepB_at (c:UInt8) (r:Bs):keepB (c::r)=(if !(c==9)&& !(c==10)&& !(c==13)then[c]else[])++keepB r:=by
 unfold keepB;rw[List.filter_cons];cases h1:c==9<;>cases h2:c==10<;>cases h3:c==13<;>simp_all
end Lz
namespace Go.Proofs.YtipndhbgehdeoaaGreatDoor
open Go.RowKit
theorem extract_at (s:ByteArray) (i:Nat) (h:i<s.size):(s.extract i (i+1)).data.toList=[s[i]]:=by
 have hs:(s.extract i (i+1)).data.toList=(s.data.toList.drop i).take 1:=by simp
 rw[hs,List.drop_eq_getElem_cons (show i<s.data.toList.length by rw[len_of_size];exact h)];rfl
theorem last_split (s:ByteArray) (h:0<s.size):s.data.toList=(s.extract 0 (s.size-1)).data.toList++[s[s.size-1]]:=by
 rw[extract_head2];have hl:s.size-1<s.data.toList.length:=by rw[len_of_size];omega
 have:=List.take_succ_eq_append_getElem hl;rw[<-show s[s.size-1]=s.data.toList[s.size-1]from rfl,show s.size-1+1=s.data.toList.length by rw[len_of_size];omega,List.take_length]at this;exact this
theorem trimL_q (t:ByteArray):∃q:Bool,(q=true->0<t.size/\Lz.trimL t.data.toList=Lz.trimL (t.extract 1 t.size).data.toList)/\(q=false->Lz.trimL t.data.toList=t.data.toList)/\(t.size=0->q=false)/\(∀h:0<t.size,q=decide (t[0].toNat<=32)):=by
 by_cases hz:t.size=0
 ·have htz:t.data.toList=[]:=List.eq_nil_of_length_eq_zero (by rw[len_of_size];exact hz);exact⟨false,fun h=>(by cases h),fun _=>by rw[htz];rfl,fun _=>rfl,fun h=>absurd h (by omega)⟩
 ·have hpos:0<t.size:=by omega
  have hd:=head_of hpos;refine⟨decide (t[0].toNat<=32),fun h=>⟨hpos,?_⟩,fun h=>?_,fun h=>absurd h hz,fun _=>rfl⟩
  ·rw[extract_tail',hd,List.drop_succ_cons,List.drop_zero];exact Lz.trimL_yes (by rw[Lz.spQ_le,h])
  ·rw[hd];exact Lz.trimL_no (by rw[Lz.spQ_le,h])
theorem trimR_q (t:ByteArray):∃q:Bool,(q=true->0<t.size/\Lz.trimR t.data.toList=Lz.trimR (t.extract 0 (t.size-1)).data.toList)/\(q=false->Lz.trimR t.data.toList=t.data.toList)/\(t.size=0->q=false)/\(∀h:0<t.size,q=decide (t[t.size-1].toNat<=32)):=by
 by_cases hz:t.size=0
 ·have htz:t.data.toList=[]:=List.eq_nil_of_length_eq_zero (by rw[len_of_size];exact hz);exact⟨false,fun h=>(by cases h),fun _=>by rw[htz];rfl,fun _=>rfl,fun h=>absurd h (by omega)⟩
 ·have hpos:0<t.size:=by omega
  have hd:=last_split t hpos;refine⟨decide (t[t.size-1].toNat<=32),fun h=>⟨hpos,?_⟩,fun h=>?_,fun h=>absurd h hz,fun _=>rfl⟩
  ·conv=>lhs;rw[hd]
   exact Lz.trimR_yes (by rw[Lz.spQ_le,h])
  ·rw[hd];exact Lz.trimR_no (by rw[Lz.spQ_le,h])
theorem clean08_any (s:ByteArray) (hs:s.size<=1000000000) (w:World):Calls Tryz.prog 20 #[.string s] w (RStr (Lz.cleanP s.data.toList) w):=by
 obtain⟨goal,hgl⟩:∃goal,goal=Lz.cleanP s.data.toList:=⟨_,rfl⟩;have HG:Hid (goal=Lz.keepB (Lz.trimR (Lz.trimL s.data.toList))):=Ih (by rw[hgl,Lz.clean_tr]);have hb0:=Below.refl w.heap.size w;rw[<-hgl];clear hgl;go_enter Tryz.func20,Tryz.ntmps20
 go_wp2_with fail
 go_loopw [0] (fun v wr=>∃t:ByteArray,v=.string t/\t.size<=s.size/\Hid (goal=Lz.keepB (Lz.trimR (Lz.trimL t.data.toList)))/\Below w.heap.size w wr) (fun v _=>strSize v)
 case atStart=>exact⟨s,rfl,Nat.le_refl _,HG,hb0⟩
 case round=>
  obtain⟨t,rfl,ht,HR,hbw⟩:=hrel;clear HG hb0;obtain⟨q,hq1,hq2,hq3,hq4⟩:=trimL_q t;have Hq1:=Ih hq1;have Hq2:=Ih hq2;clear hq1 hq2
  go_upto_region 1 with fail
  go_cut [12] (fun s wx=>s=.bool q/\Below w.heap.size w wx)
  case first=>
   by_cases hz:t.size=0
   ·have hzI:¬(0:Int)<(t.size:Int):=by omega
    have hq:=hq3 hz;clear hq3 hq4
    go_wp2_with fail
    go_meet;exact⟨by rw[hq],hbw⟩
   ·have hpos:0<t.size:=by omega
    have hposI:(0:Int)<(t.size:Int):=by omega
    have hq:=hq4 hpos;obtain⟨c,hc⟩:∃c,c=t[0]:=⟨_,rfl⟩;have hcI:(t[0].toNat:Int)=(c.toNat:Int):=by rw[hc]
    rw[<-hc]at hq;have hqI:decide ((c.toNat:Int)<=32)=q:=by rw[hq];exact decide_eq_decide.2 (by omega)
    clear hq3 hq4 hq hc
    go_wp2_with fail
    go_meet;exact⟨by first |rfl|rw[hqI],hbw⟩
  case rest=>
   obtain⟨rfl,hb2⟩:=hcut;clear hbw hq3 hq4;cases q with
   | true=>
     obtain⟨hpos,hst⟩:=Hq1.out rfl;have h1I:(1:Int)<=(t.size:Int):=by omega
     have hx1:(t.extract 1 t.size).size+1=t.size:=by rw[<-len_of_size,extract_tail',List.length_drop,len_of_size];omega
     have HN:Hid (goal=Lz.keepB (Lz.trimR (Lz.trimL (t.extract 1 t.size).data.toList))):=Ih (by rw[HR.out,hst]);clear HR hst Hq1 Hq2
     go_wp2_with fail
     go_roundw
     case rel=>exact⟨t.extract 1 t.size,rfl,by omega,HN,hb2⟩
     case measure=>simp only[strSize];omega
   | false=>
     have HN:Hid (goal=Lz.keepB (Lz.trimR t.data.toList)):=Ih (by rw[HR.out,Hq2.out rfl]);clear HR Hq1 Hq2
     go_wp2_with fail
     go_loopw [0] (fun v wr=>∃t:ByteArray,v=.string t/\t.size<=s.size/\Hid (goal=Lz.keepB (Lz.trimR t.data.toList))/\Below w.heap.size w wr) (fun v _=>strSize v)
     case atStart=>exact⟨t,rfl,ht,HN,hb2⟩
     case round=>
      clear HN hb2 ht;obtain⟨t,rfl,ht,HR,hbw⟩:=hrel;obtain⟨q,hq1,hq2,hq3,hq4⟩:=trimR_q t;have Hq1:=Ih hq1;have Hq2:=Ih hq2;clear hq1 hq2
      go_upto_region 3 with fail
      go_cut [25] (fun s wx=>s=.bool q/\Below w.heap.size w wx)
      case first=>
       by_cases hz:t.size=0
       ·have hzI:¬(0:Int)<(t.size:Int):=by omega
        have hq:=hq3 hz;clear hq3 hq4
        go_wp2_with fail
        go_meet;exact⟨by rw[hq],hbw⟩
       ·have hpos:0<t.size:=by omega
        have hposI:(0:Int)<(t.size:Int):=by omega
        have hq:=hq4 hpos;obtain⟨m,hm⟩:∃m,t.size=m+1:=⟨t.size-1,by omega⟩;have hmI:(t.size:Int)-1=(m:Int):=by omega
        have hm0:(0:Int)<=(m:Int):=by omega
        have hml:(m:Int)<(t.size:Int):=by omega
        have hmN:m<t.size:=by omega
        obtain⟨c,hc⟩:∃c,c=t[m]:=⟨_,rfl⟩;have hcI:(t[m].toNat:Int)=(c.toNat:Int):=by rw[hc]
        have hqc:q=decide (c.toNat<=32):=by rw[hq,hc];simp only[hm,Nat.add_sub_cancel]
        have hqI:decide ((c.toNat:Int)<=32)=q:=by rw[hqc];exact decide_eq_decide.2 (by omega)
        have Hm:=Ih hm;clear hq3 hq4 hq hqc hc hm
        go_wp2_with fail
        go_meet;exact⟨by first |rfl|rw[hqI],hbw⟩
      case rest=>
       obtain⟨rfl,hb2⟩:=hcut;clear hbw hq3 hq4;cases q with
       | true=>
         obtain⟨hpos,hst⟩:=Hq1.out rfl;obtain⟨m,hm⟩:∃m,t.size=m+1:=⟨t.size-1,by omega⟩;have hmI:(t.size:Int)-1=(m:Int):=by omega
         have hm0:(0:Int)<=(m:Int):=by omega
         have hml:(m:Int)<=(t.size:Int):=by omega
         have hx1:(t.extract 0 m).size=m:=by rw[<-len_of_size,extract_head2,List.length_take,len_of_size];omega
         have HN:Hid (goal=Lz.keepB (Lz.trimR (t.extract 0 m).data.toList)):=Ih (by rw[HR.out,hst,hm,Nat.add_sub_cancel]);have hmt:m<t.size:=by omega
         clear HR hst Hq1 Hq2 hm
         go_wp2_with fail
         go_roundw
         case rel=>exact⟨t.extract 0 m,rfl,by omega,HN,hb2⟩
         case measure=>simp only[strSize];omega
       | false=>
         have HN:Hid (goal=Lz.keepB t.data.toList):=Ih (by rw[HR.out,Hq2.out rfl]);clear HR Hq1 Hq2
         go_wp2_with fail
         go_loopw [3,4] (fun o v wr=>∃(u:ByteArray) (i:Nat),o=.string u/\v=.int .i64 i/\i<=t.size/\u.size<=i/\Hid (goal=u.data.toList++Lz.keepB (t.data.toList.drop i))/\Below w.heap.size w wr) (fun _ v _=>t.size-(intOf v).toNat)
         case atStart=>exact⟨⟨#[]⟩,0,rfl,rfl,Nat.zero_le _,Nat.le_refl _,Ih (by rw[HN.out];rfl),hb2⟩
         case round=>
          clear HN hb2;obtain⟨u,i,rfl,rfl,hi,hu,HR,hbw⟩:=hrel;by_cases hlt:i<t.size
          ·have hltI:(i:Int)<(t.size:Int):=by omega
           have hi0:(0:Int)<=(i:Int):=by omega
           have hi1:(i:Int)+1<=(t.size:Int):=by omega
           obtain⟨c,hc⟩:∃c,c=t[i]:=⟨_,rfl⟩;have hcI:(t[i].toNat:Int)=(c.toNat:Int):=by rw[hc]
           have hne:∀k:UInt8,((c.toNat:Int) != (k.toNat:Int))= !(c==k):=fun k=>by rw[bne,beqU c k]
           have n9:((c.toNat:Int) != 9)= !(c==9):=hne 9;have n10:((c.toNat:Int) != 10)= !(c==10):=hne 10;have n13:((c.toNat:Int) != 13)= !(c==13):=hne 13
           have hst:Lz.keepB (t.data.toList.drop i)=(if !(c==9)&& !(c==10)&& !(c==13)then[c]else[])++Lz.keepB (t.data.toList.drop (i+1)):=by
            rw[List.drop_eq_getElem_cons (show i<t.data.toList.length from hlt),Lz.keepB_at,hc];rfl
           have hxt:=extract_at t i hlt;rw[<-hc]at hxt;have hx1:(t.extract i (i+1)).size=1:=by rw[<-len_of_size,hxt];rfl
           have hua:(u++t.extract i (i+1)).size=u.size+1:=by rw[ByteArray.size_append,hx1]
           cases h9:c==9<;>cases h10:c==10<;>cases h13:c==13<;>rw[h9]at n9 hst<;>rw[h10]at n10 hst<;>rw[h13]at n13 hst
           case false.false.false=>
            have HN:Hid (goal=(u++t.extract i (i+1)).data.toList++Lz.keepB (t.data.toList.drop (i+1))):=Ih (by rw[HR.out,hst,append_data',hxt];simp);clear HR hst hxt hc hne h9 h10 h13
            go_wp2_with fail
            go_roundw
            case rel=>exact⟨u++t.extract i (i+1),i+1,by first |rfl|(congr 1),by go_num,by omega,by omega,HN,hbw⟩
            case measure=>simp[intOf];omega
           all_goals
            have HN:Hid (goal=u.data.toList++Lz.keepB (t.data.toList.drop (i+1))):=Ih (by rw[HR.out,hst];rfl);clear HR hst hxt hc hne h9 h10 h13
            go_wp2_with fail
            go_roundw
            case rel=>exact⟨u,i+1,rfl,by go_num,by omega,by omega,HN,hbw⟩
            case measure=>simp[intOf];omega
          ·have hltI:¬(i:Int)<(t.size:Int):=by omega
           have HN:Hid (u.data.toList=goal):=Ih (by
            rw[HR.out,List.drop_eq_nil_of_le (show t.data.toList.length<=i by rw[len_of_size];omega)]
            simp[Lz.keepB])
           clear HR
           go_wp2_with fail
           go_ret;exact⟨u,rfl,HN,hbw⟩
end Go.Proofs.YtipndhbgehdeoaaGreatDoor
namespace Lz
open Go
def decP (x:Bs):Option Nat:=(numF 10 0 x).bind fun n=>if n<=255/\Lib.decDigits n=x then some n else none
theorem decP_dec1:∀n:Fin 256,decP (Lib.decDigits n.val)=some n.val:=by decide +kernel
theorem decP_iff {x:Bs} {n:Nat}:decP x=some n↔n<256/\x=Lib.decDigits n:=by
 constructor
 ·intro h;unfold decP at h;rw[Option.bind_eq_some_iff]at h;obtain⟨m,_,hm⟩:=h;split at hm
  ·rename_i hh;obtain rfl:=Option.some.inj hm;exact⟨by omega,hh.2.symm⟩
  ·cases hm
 ·rintro⟨h,rfl⟩;exact decP_dec1 ⟨n,h⟩
theorem join_split (k:UInt8):∀s:Bs,joinP [k] (splitC k s)=s
 | []=>rfl
 | b::l=>by
   have ih:=join_split k l;unfold splitC;by_cases h:(b==k)=true
   ·rw[if_pos h];have hb:b=k:=by simpa using h
    cases e:splitC k l with
    | nil=>
      rw[e]at ih;cases l with
      | nil=>simp[splitC]at e
      | cons c r=>
        simp only[splitC]at e;split at e
        ·cases e
        ·split at e<;>cases e
    | cons x r=>
      rw[e]at ih;rw[joinP,ih,hb];rfl
   ·rw[if_neg h];cases e:splitC k l with
    | nil=>
      rw[e]at ih;show b::[]=b::l;rw[<-ih];rfl
    | cons x r=>
      rw[e]at ih;show joinP [k] ((b::x)::r)=b::l;cases r with
      | nil=>rw[joinP]at ih⊢;rw[ih]
      | cons y z=>rw[joinP]at ih⊢;rw[<-ih];rfl
def ip4R (s:Bs):Bool:=(splitC 46 s).all (fun x=>(decP x).isSome)&&(splitC 46 s).length==4
theorem ip4R_iff (s:Bs):ip4R s=true↔∃b:List Nat,b.length=4/\(∀x∈b,x<256)/\s=dottedP b:=by
 unfold ip4R;simp only[Bool.and_eq_true,List.all_eq_true,beq_iff_eq];constructor
 ·rintro⟨h,h4⟩;refine⟨(splitC 46 s).map fun x=>(decP x).getD 0,by simpa using h4,?_,?_⟩
  ·intro x hx;obtain⟨y,hy,rfl⟩:=List.mem_map.1 hx;obtain⟨n,hn⟩:=Option.isSome_iff_exists.1 (h y hy);rw[hn];exact(decP_iff.1 hn).1
  ·unfold dottedP;rw[List.map_map]
   have:(splitC 46 s).map ((fun x=>Lib.decDigits x)∘fun x=>(decP x).getD 0)=splitC 46 s:=by
    conv=>rhs;rw[<-List.map_id (splitC 46 s)]
    apply List.map_congr_left
    intro y hy;obtain⟨n,hn⟩:=Option.isSome_iff_exists.1 (h y hy);show Lib.decDigits ((decP y).getD 0)=id y;rw[hn];exact(decP_iff.1 hn).2.symm
   rw[this,join_split]
 ·rintro⟨b,h4,hl,rfl⟩;have hb:b≠[]:=by intro h;rw[h]at h4;cases h4
  rw[dotted_split hb];refine⟨?_,by simpa using h4⟩;intro x hx;obtain⟨n,hn,rfl⟩:=List.mem_map.1 hx;rw[decP_iff.2 ⟨hl n hn,rfl⟩];rfl
theorem parseUintM_le (M:Nat):∀(l:Bs) (acc n:Nat),acc<=M->Lib.parseUintM M acc l=.ok n->n<=M
 | [],acc,n,ha,h=>by
   simp only[Lib.parseUintM]at h;cases h;exact ha
 | c::r,acc,n,ha,h=>by
   simp only[Lib.parseUintM]at h;split at h
   ·split at h
    ·cases h
    ·split at h
     ·cases h
     ·exact parseUintM_le M r _ n (by omega) h
   ·cases h
theorem mapM_length (f:Bs->Option Nat):∀(l:List Bs) (b:List Nat),l.mapM f=some b->b.length=l.length
 | [],b,h=>by simp at h;subst h;rfl
 | x::r,b,h=>by
   rw[List.mapM_cons]at h;simp only[bind,Option.bind_eq_some_iff,pure,Option.some.injEq]at h;obtain⟨y,_,t,ht,rfl⟩:=h;rw[List.length_cons,List.length_cons,mapM_length f r t ht]
theorem byteP_eq (x:Bs):byteP x=decP x:=by
 cases e:decP x with
 | some n=>
   obtain⟨h,rfl⟩:=decP_iff.1 e;exact byte_dec h
 | none=>
   unfold byteP;split
   ·rename_i n hn;split
    ·rename_i hx
     exfalso
     have hlt:n<256:=by
      unfold Lib.parseUintB at hn;split at hn
      ·cases hn
      ·have:=parseUintM_le _ _ _ _ (by omega) hn;omega
     rw[decP_iff.2 ⟨hlt,hx.symm⟩]at e;cases e
    ·rfl
   ·rfl
def pieceR (x:Bs):Option Nat:=if x=[]\/4<x.length then none else numF 16 0 x
theorem numF_fold:∀(l:Bs) (n:Nat),(n+1)*16^l.length<=65536->numF 16 n l=l.foldlM hexF n
 | [],n,_=>rfl
 | c::r,n,h=>by
   rw[List.foldlM_cons];show(match hexV c with|none=>none|some d=>if 16<=d then none else numF 16 (min (n*16+d) 1099511627776) r)=_;unfold hexF;cases hc:hexV c with
   | none=>rfl
   | some d=>
     have hd:=hexV_lt16 c d hc;rw[List.length_cons,Nat.pow_succ,Nat.mul_comm (16^r.length) 16,<-Nat.mul_assoc]at h;have h2:(n*16+d+1)*16^r.length<=(n+1)*16*16^r.length:=Nat.mul_le_mul_right _ (by omega);have h3:1<=16^r.length:=Nat.pow_pos (by omega);have h4:n*16+d+1<=(n*16+d+1)*16^r.length:=Nat.le_mul_of_pos_right _ h3;show(if 16<=d then none else numF 16 (min (n*16+d) 1099511627776) r)=List.foldlM hexF (n*16+d) r;rw[if_neg (by omega),Nat.min_eq_left (by omega),numF_fold r (n*16+d) (by omega)]
theorem pieceR_eq (x:Bs):pieceR x=pieceP x:=by
 unfold pieceR pieceP;split
 ·rfl
 ·rename_i h;have:(16:Nat)^x.length<=16^4:=Nat.pow_le_pow_right (by omega) (by omega);exact numF_fold x 0 (by omega)
def rowR (last:Bool):List Bs->Option (List Nat)
 | []=>some []
 | x::r=>if last&&r.isEmpty&&(splitC 46 x).length==4 then((splitC 46 x).mapM decP).map fun b=>[b.getD 0 0*256+b.getD 1 0,b.getD 2 0*256+b.getD 3 0]
   else match pieceR x with
    | none=>none
    | some n=>(rowR last r).map (n::·)
theorem split_one (k:UInt8) {x:Bs} (h:x.contains k=false):splitC k x=[x]:=splitC_free k x (by
 intro c hc e;subst e;rw[Bool.eq_false_iff]at h;exact h (by simpa using hc))
theorem rowR_eq (last:Bool):∀l:List Bs,rowR last l=rowP last l
 | []=>rfl
 | x::r=>by
   have ih:=rowR_eq last r;have hm:(fun x=>byteP x)=decP:=funext byteP_eq;unfold rowR rowP;rw[ih,pieceR_eq];by_cases h1:(last&&r.isEmpty)=true
   ·rw[h1];simp only[Bool.true_and,beq_iff_eq];by_cases h2:x.contains 46=true
    ·rw[if_pos h2];unfold bytesP;rw[show byteP=decP from hm];by_cases h4:(splitC 46 x).length=4
     ·rw[if_pos h4];cases e:(splitC 46 x).mapM decP with
      | none=>rfl
      | some b=>
        have hl:b.length=4:=by
         have:=mapM_length _ _ _ e;omega
        simp[hl]
     ·rw[if_neg h4,piece_none (c:=46) (by simpa using h2) (by decide)];cases e:(splitC 46 x).mapM decP with
      | none=>rfl
      | some b=>
        have hl:b.length≠4:=by
         have:=mapM_length _ _ _ e;omega
        simp[hl]
    ·have h2':x.contains 46=false:=by simpa using h2
     rw[if_neg h2,split_one 46 h2']
     simp
     cases pieceP x<;>rfl
   ·have h1':(last&&r.isEmpty)=false:=by simpa using h1
    rw[h1']
    simp
    cases pieceP x<;>rfl
def rowSR (s:Bs) (last:Bool):Option (List Nat):=if s=[]then some []else rowR last (splitC 58 s)
theorem rowSR_eq (s:Bs) (last:Bool):rowSR s last=rowS s last:=by
 unfold rowSR rowS;rw[rowR_eq]
def sixR (s:Bs):Option (List Nat):=
 match rowSR (Lib.cut s [58,58]).1 (!(Lib.cut s [58,58]).2.2),rowSR (Lib.cut s [58,58]).2.1 true with
 | some x,some y=>if(Lib.cut s [58,58]).2.2 then(if 7<x.length+y.length then none else some (x++List.replicate (8-x.length-y.length) 0++y))else(if x.length=8 then some x else none)
 | _,_=>none
theorem rowS_colon (t:Bs):rowS (58::t) true=none:=by
 unfold rowS;rw[if_neg (by simp)];have hs:splitC 58 (58::t)=[]::splitC 58 t:=by simp[splitC]
 rw[hs]
 have hne:(splitC 58 t).isEmpty=false:=by
  cases t with
  | nil=>rfl
  | cons c r=>
    simp only[splitC];split
    ·rfl
    ·split<;>rfl
 unfold rowP;rw[hne]
 simp[pieceP]
theorem cut_no {s:Bs} (h:(Lib.cut s [58,58]).2.2=false):(Lib.cut s [58,58]).1=s/\(Lib.cut s [58,58]).2.1=[]:=by
 unfold Lib.cut at h⊢;split at h
 ·cases h
 ·rename_i hh;rw[if_neg hh];exact⟨rfl,rfl⟩
theorem sixR_eq (s:Bs):sixR s=sixP s:=by
 have hno:= @cut_no s;unfold sixR sixP;simp only[rowSR_eq];generalize Lib.cut s [58,58]=c at hno;obtain⟨f,b,q⟩:=c;simp only at hno⊢;cases q
 ·obtain⟨rfl,rfl⟩:=hno rfl;by_cases h0:f=[]
  ·subst h0
   simp[rowS]
  ·have he:f.isEmpty=false:=by cases f<;>simp_all
   rw[he]
   simp[rowS,Lib.hasPrefix]
   cases hx:rowP true (splitC 58 f)with
   | none=>simp[h0]
   | some x=>simp[h0]
 ·by_cases hp:Lib.hasPrefix b [58]=true
  ·have hb:∃t,b=58::t:=by
    cases b with
    | nil=>simp[Lib.hasPrefix]at hp
    | cons c r=>
      have:c=58:=by
       simp only[Lib.hasPrefix,List.isPrefixOf,Bool.and_true,beq_iff_eq]at hp;exact hp.symm
      exact⟨r,by rw[this]⟩
   obtain⟨t,rfl⟩:=hb;rw[rowS_colon,hp];cases rowS f (!true)<;>rfl
  ·have hp':Lib.hasPrefix b [58]=false:=by simpa using hp
   rw[hp'];cases hx:rowS f (!true)with
   | none=>simp
   | some x=>
     cases hy:rowS b true with
     | none=>simp
     | some y=>
       simp
       by_cases h8:8<=x.length+y.length
       ·rw[if_pos h8,if_pos (by omega)]
       ·rw[if_neg h8,if_neg (by omega)]
def runF (x:List Nat):Nat->Nat×Nat
 | 0=>(0,0)
 | i+1=>if max ((runF x i).2-(runF x i).1) 1<zerosP (x.drop i)then(i,i+zerosP (x.drop i))else runF x i
theorem runF_runP (x:List Nat):∀m i:Nat,i+m=x.length->runP i (x.drop i) (runF x i)=runF x x.length
 | 0,i,h=>by
   rw[List.drop_eq_nil_of_le (by omega),show i=x.length by omega];rfl
 | m+1,i,h=>by
   have hi:i<x.length:=by omega
   have ih:=runF_runP x m (i+1) (by omega);rw[<-ih]
   conv=>lhs;rw[List.drop_eq_getElem_cons hi]
   rw[runP,<-List.drop_eq_getElem_cons hi];rfl
theorem runF_all (x:List Nat):runP 0 x (0,0)=runF x x.length:=by
 have:=runF_runP x x.length 0 (by omega)
 rwa [List.drop_zero]at this
theorem runF_ok (x:List Nat):∀i,i<=x.length->((runF x i).1=0/\(runF x i).2=0)\/((runF x i).1+2<=(runF x i).2/\(runF x i).1<i/\(runF x i).2<=x.length)
 | 0,_=>Or.inl ⟨rfl,rfl⟩
 | i+1,h=>by
   have ih:=runF_ok x i (by omega);rw[runF];split
   ·rename_i hh;right;have hz:zerosP (x.drop i)<=(x.drop i).length:=by unfold zerosP;exact(List.takeWhile_prefix _).length_le
    rw[List.length_drop]at hz;have h2:1<zerosP (x.drop i):=Nat.lt_of_le_of_lt (Nat.le_max_right _ _) hh;simp only;omega
   ·rcases ih with h1|h1
    ·exact Or.inl h1
    ·right;omega
def colQ (s:Bs):Bool:= !s.isEmpty&& !(s.getLast? ==some 58)
theorem hexD_last (n:Nat) (s:Bs):(s++hexD n).getLast? ≠some 58:=by
 intro h;rw[List.getLast?_append]at h;cases e:(hexD n).getLast? with
 | none=>exact hexD_ne n (List.getLast?_eq_none_iff.1 e)
 | some c=>
   rw[e]at h;have hc:c=58:=Option.some.inj h;subst hc;exact(isHexD_not 58 (hexD_chars n 58 (List.mem_of_getLast? e))).1 rfl
theorem told_snoc (l:List Nat) (n:Nat):toldP (l++[n])=(if l=[]then[]else toldP l++[58])++hexD n:=by
 unfold toldP;rw[List.map_append,List.map_singleton];split
 ·rename_i h;subst h;rfl
 ·rename_i h;rw[joinC_snoc _ (by simpa using h)]
theorem colQ_told (s:Bs) (hs:s=[]\/s.getLast? =some 58) (l:List Nat):colQ (s++toldP l)= !l.isEmpty:=by
 rcases List.eq_nil_or_concat l with rfl|⟨r,n,rfl⟩
 ·rw[show toldP []=[]from rfl,List.append_nil];unfold colQ;rcases hs with rfl|h
  ·rfl
  ·rw[h];simp
 ·rw[List.concat_eq_append,told_snoc,<-List.append_assoc];unfold colQ;have h1:=hexD_last n (s++(if r=[]then[]else toldP r++[58]))
  have h2:(s++(if r=[]then[]else toldP r++[58])++hexD n).isEmpty=false:=by
   cases e:(s++(if r=[]then[]else toldP r++[58])++hexD n)with
   | nil=>exact absurd (List.append_eq_nil_iff.1 e).2 (hexD_ne n)
   | cons _ _=>rfl
  rw[h2];have h3:((s++(if r=[]then[]else toldP r++[58])++hexD n).getLast? ==some 58)=false:=by simpa using h1
  rw[h3]
  simp
def outAt (a:List Nat) (p q i:Nat):Bs:=if p=q\/i<=p then toldP (a.take i)else toldP (a.take p)++[58,58]++toldP ((a.drop q).take (i-q))
theorem outAt_zero (a:List Nat) (p q:Nat):outAt a p q 0=[]:=by
 unfold outAt;rw[if_pos (Or.inr (Nat.zero_le _))];rfl
theorem outAt_step {a:List Nat} {p q i:Nat} (hi:i<a.length) (h:p=q\/i<p\/(p<q/\q<=i)):outAt a p q (i+1)=outAt a p q i++(if colQ (outAt a p q i)then[58]else[])++hexD (a.getD i 0):=by
 have hg:a.getD i 0=a[i]:=by simp[List.getD,List.getElem?_eq_getElem hi]
 by_cases h1:p=q\/i<p
 ·have e1:outAt a p q (i+1)=toldP (a.take i++[a[i]]):=by
   unfold outAt;rw[if_pos (by omega),List.take_add_one,List.getElem?_eq_getElem hi];rfl
  have e2:outAt a p q i=toldP (a.take i):=by
   unfold outAt;rw[if_pos (by omega)]
  have hc:=colQ_told [] (Or.inl rfl) (a.take i);rw[List.nil_append]at hc;rw[e1,e2,hc,told_snoc,hg];cases hl:a.take i with
  | nil=>simp[toldP,joinP]
  | cons x r=>simp
 ·have hq:p<q/\q<=i:=by omega
  have e1:outAt a p q (i+1)=toldP (a.take p)++[58,58]++toldP ((a.drop q).take (i-q)++[a[i]]):=by
   unfold outAt;rw[if_neg (by omega),show i+1-q=(i-q)+1 by omega,List.take_add_one,List.getElem?_drop,show q+(i-q)=i by omega,List.getElem?_eq_getElem hi];rfl
  have e2:outAt a p q i=toldP (a.take p)++[58,58]++toldP ((a.drop q).take (i-q)):=by
   unfold outAt;rw[if_neg (by omega)]
  have hc:=colQ_told (toldP (a.take p)++[58,58]) (Or.inr (by simp)) ((a.drop q).take (i-q));rw[e1,e2,hc,told_snoc,hg];cases hl:(a.drop q).take (i-q)with
  | nil=>simp[toldP,joinP]
  | cons x r=>simp
theorem outAt_skip {a:List Nat} {p q:Nat} (h:p<q):outAt a p q q=outAt a p q p++[58,58]:=by
 unfold outAt;rw[if_neg (by omega),if_pos (by omega),Nat.sub_self,List.take_zero]
 simp[toldP,joinP]
theorem outAt_all (a:List Nat):outAt a (runF a a.length).1 (runF a a.length).2 a.length=textP a:=by
 unfold outAt textP;rw[runF_all];rcases runF_ok a a.length (Nat.le_refl _)with h|h
 ·rw[if_pos (Or.inl (by omega)),if_pos (by omega),List.take_length]
 ·have e:(a.drop (runF a a.length).2).take (a.length-(runF a a.length).2)=a.drop (runF a a.length).2:=List.take_of_length_le (by rw[List.length_drop];omega);rw[if_neg (by omega),if_neg (by omega),e]
theorem pre2 (a:UInt8) (l:Bs):([58,58]:Bs).isPrefixOf (a::l)=(a==58&&l[0]? ==some 58):=by
 rw[Bool.eq_iff_iff];cases l with
 | nil=>simp[List.isPrefixOf]
 | cons b r=>
   simp only[List.isPrefixOf,Bool.and_true,Bool.and_eq_true,beq_iff_eq,List.getElem?_cons_zero,Option.some.injEq];constructor
   ·rintro⟨h1,h2⟩;exact⟨h1.symm,h2.symm⟩
   ·rintro⟨h1,h2⟩;exact⟨h1.symm,h2.symm⟩
theorem index2_nil:Lib.index [] ([58,58]:Bs)= -1:=rfl
theorem index2_cons (a:UInt8) (l:Bs):Lib.index (a::l) [58,58]=if(a==58&&l[0]? ==some 58)=true then 0 else if Lib.index l [58,58]= -1 then -1 else Lib.index l [58,58]+1:=by
 rw[Lib.index,pre2];split
 ·rfl
 ·by_cases h:Lib.index l [58,58]= -1
  ·rw[h];rfl
  ·rw[if_neg h,if_neg (by simpa using h)]
theorem index2_le:∀s:Bs,Lib.index s [58,58]= -1\/∃p:Nat,Lib.index s [58,58]=p/\p+2<=s.length
 | []=>Or.inl index2_nil
 | a::l=>by
   rw[index2_cons];split
   ·rename_i h;right;refine⟨0,rfl,?_⟩;cases l with
    | nil=>simp at h
    | cons b r=>simp
   ·rcases index2_le l with h|⟨p,h,hp⟩
    ·left;rw[if_pos h]
    ·right;refine⟨p+1,?_,by simp;omega⟩;rw[if_neg (by omega),h];simp
def atF (s:Bs) (k:Nat):Int:=if Lib.index (s.drop k) [58,58]= -1 then -1 else Lib.index (s.drop k) [58,58]+k
theorem atF_end {s:Bs} {k:Nat} (h:s.length<=k+1):atF s k= -1:=by
 unfold atF;rw[if_pos];rcases index2_le (s.drop k)with h1|⟨p,_,hp⟩
 ·exact h1
 ·rw[List.length_drop]at hp;omega
theorem atF_step {s:Bs} {k:Nat} (h:k+1<s.length):atF s k=if(s[k]==58&&s[k+1]==58)=true then(k:Int)else atF s (k+1):=by
 have e:s.drop k=s[k]::s.drop (k+1):=List.drop_eq_getElem_cons (by omega);have g:(s.drop (k+1))[0]? =some s[k+1]:=by rw[List.getElem?_drop];exact List.getElem?_eq_getElem h
 unfold atF;rw[e,index2_cons,g];have hb:(some s[k+1]==some (58:UInt8))=(s[k+1]==58):=rfl;rw[hb];by_cases hh:(s[k]==58&&s[k+1]==58)=true
 ·rw[if_pos hh,if_pos hh,if_neg (by decide)];simp
 ·rw[if_neg hh,if_neg hh];by_cases h1:Lib.index (s.drop (k+1)) [58,58]= -1
  ·rw[if_pos h1,if_pos h1,if_pos rfl]
  ·have h2:0<=Lib.index (s.drop (k+1)) [58,58]:=by
    rcases index2_le (s.drop (k+1))with h3|⟨p,h3,_⟩
    ·exact absurd h3 h1
    ·omega
   rw[if_neg h1,if_neg h1,if_neg (by omega)];omega
theorem cut_at2 (s:Bs):(atF s 0= -1/\Lib.cut s [58,58]=(s,[],false))\/∃p:Nat,atF s 0=p/\p+2<=s.length/\Lib.cut s [58,58]=(s.take p,s.drop (p+2),true):=by
 unfold atF Lib.cut;rw[List.drop_zero];rcases index2_le s with h|⟨p,h,hp⟩
 ·left;rw[if_pos h,h];exact⟨rfl,rfl⟩
 ·right;refine⟨p,?_,hp,?_⟩
  ·rw[if_neg (by omega),h];simp
  ·rw[h,if_pos (by omega)];rfl
theorem zerosP_cons (a:Nat) (r:List Nat):zerosP (a::r)=if a=0 then zerosP r+1 else 0:=by
 unfold zerosP;rw[List.takeWhile_cons];by_cases h:a=0
 ·simp[h]
 ·simp[h]
theorem zeros_lt0:∀(l:List Nat) (k:Nat),k<=zerosP l->l[k]? =some 0->k+1<=zerosP l
 | [],k,_,h=>by simp at h
 | a::r,0,_,h=>by
   rw[zerosP_cons,if_pos (by simpa using h)];omega
 | a::r,k+1,hk,h=>by
   rw[zerosP_cons]at hk⊢;split at hk
   ·rename_i h0;rw[if_pos h0];have:=zeros_lt0 r k (by omega) (by simpa using h);omega
   ·omega
theorem zeros_end0:∀(l:List Nat) (k n:Nat),k<=zerosP l->l[k]? =some n->n≠0->zerosP l=k
 | [],k,_,_,h,_=>by simp at h
 | a::r,0,n,_,h,hn=>by
   have:a=n:=by simpa using h
   rw[zerosP_cons,if_neg (by omega)]
 | a::r,k+1,n,hk,h,hn=>by
   rw[zerosP_cons]at hk⊢;split at hk
   ·rename_i h0;rw[if_pos h0,zeros_end0 r k n (by omega) (by simpa using h) hn]
   ·omega
theorem zeros_lt {x:List Nat} {i k:Nat} (hk:k<=zerosP (x.drop i)) (hg:x[i+k]? =some 0):k+1<=zerosP (x.drop i):=zeros_lt0 _ _ hk (by rw[List.getElem?_drop];exact hg)
theorem zeros_end {x:List Nat} {i k n:Nat} (hk:k<=zerosP (x.drop i)) (hg:x[i+k]? =some n) (hn:n≠0):zerosP (x.drop i)=k:=zeros_end0 _ _ n hk (by rw[List.getElem?_drop];exact hg) hn
theorem zeros_le (l:List Nat):zerosP l<=l.length:=by unfold zerosP;exact(List.takeWhile_prefix _).length_le
theorem zeros_past {x:List Nat} {i k:Nat} (hk:k<=zerosP (x.drop i)) (h:x.length<=i+k):zerosP (x.drop i)=k:=by
 have:=zeros_le (x.drop i);rw[List.length_drop]at this;omega
theorem decs_cons (x:Bs) (r:List Bs):(x::r).mapM decP=match decP x with|none=>none|some n=>(r.mapM decP).map (n::·):=by
 rw[List.mapM_cons];cases decP x with
 | none=>rfl
 | some n=>cases r.mapM decP<;>rfl
theorem decP_le {x:Bs} {n:Nat} (h:decP x=some n):n<=255:=by
 have:=(decP_iff.1 h).1;omega
theorem numR_le (b:Nat):∀(l:Bs) (n m:Nat),n<=1099511627776->numF b n l=some m->m<=1099511627776
 | [],n,m,hn,h=>by
   have:n=m:=by simpa [numF]using h
   omega
 | c::r,n,m,hn,h=>by
   rw[numF]at h;cases hc:hexV c with
   | none=>rw[hc]at h;cases h
   | some d=>
     rw[hc]at h;simp only at h;split at h
     ·cases h
     ·exact numR_le b r _ m (Nat.min_le_right _ _) h
theorem pieceR_le {x:Bs} {n:Nat} (h:pieceR x=some n):n<=1099511627776:=by
 unfold pieceR at h;split at h
 ·cases h
 ·exact numR_le 16 x 0 n (by omega) h
theorem rowR_ok (last:Bool):∀(l:List Bs) (a:List Nat),rowR last l=some a->a.length<=l.length+1/\∀n∈a,n<=1099511627776
 | [],a,h=>by
   have:a=[]:=by simpa [rowR]using h.symm
   subst this;simp
 | x::r,a,h=>by
   unfold rowR at h;split at h
   ·cases hm:(splitC 46 x).mapM decP with
    | none=>rw[hm]at h;cases h
    | some b=>
      rw[hm]at h;obtain rfl:=Option.some.inj h
      have hb:∀(l:List Bs) (b:List Nat),l.mapM decP=some b->∀n∈b,n<=255:=by
       intro l
       induction l with
       | nil=>intro b hb;have:b=[]:=by simpa using hb.symm
              subst this;simp
       | cons y t ih=>
         intro b hb;rw[decs_cons]at hb;cases hy:decP y with
         | none=>rw[hy]at hb;cases hb
         | some v=>
           rw[hy]at hb;simp only[Option.map_eq_some_iff]at hb;obtain⟨c,hc,rfl⟩:=hb;intro n hn;rcases List.mem_cons.1 hn with rfl|hn
           ·exact decP_le hy
           ·exact ih c hc n hn
      have hg:∀i,b.getD i 0<=255:=by
       intro i;rw[List.getD_eq_getElem?_getD];cases hi:b[i]? with
       | none=>simp
       | some v=>exact hb _ _ hm v (List.mem_of_getElem? hi)
      refine⟨by simp,?_⟩;intro n hn;have h0:=hg 0;have h1:=hg 1;have h2:=hg 2;have h3:=hg 3;simp only[List.mem_cons,List.not_mem_nil,or_false]at hn;rcases hn with rfl|rfl<;>omega
   ·cases hp:pieceR x with
    | none=>rw[hp]at h;cases h
    | some n=>
      rw[hp]at h;simp only[Option.map_eq_some_iff]at h;obtain⟨c,hc,rfl⟩:=h;obtain⟨h1,h2⟩:=rowR_ok last r c hc;refine⟨by simp;omega,?_⟩;intro m hm;rcases List.mem_cons.1 hm with rfl|hm
      ·exact pieceR_le hp
      ·exact h2 m hm
theorem rowSR_ok {s:Bs} {last:Bool} {a:List Nat} (h:rowSR s last=some a):a.length<=s.length+2/\∀n∈a,n<=1099511627776:=by
 unfold rowSR at h;split at h
 ·obtain rfl:=Option.some.inj h;simp
 ·obtain⟨h1,h2⟩:=rowR_ok last _ a h;have:=splitC_len 58 s;exact⟨by omega,h2⟩
theorem rowR_four {x:Bs} {r:List Bs} {last:Bool} (h:(last&&r.isEmpty&&(splitC 46 x).length==4)=true):rowR last (x::r)=((splitC 46 x).mapM decP).map fun b=>[b.getD 0 0*256+b.getD 1 0,b.getD 2 0*256+b.getD 3 0]:=by
 rw[rowR,if_pos h]
theorem rowR_one {x:Bs} {r:List Bs} {last:Bool} (h:(last&&r.isEmpty&&(splitC 46 x).length==4)=false):rowR last (x::r)=match pieceR x with|none=>none|some n=>(rowR last r).map (n::·):=by
 (rw[rowR,if_neg (by rw[h];decide)])<;>cases pieceR x<;>rfl
def hexDigs:Bs:=[48,49,50,51,52,53,54,55,56,57,97,98,99,100,101,102]
def hexHit (k:Nat) (c:UInt8):Bool:=hexDigs.getD k 0==c||(65<=c&&c<=90&&hexDigs.getD k 0==c+32)
theorem hexV_find:∀c:UInt8,hexV c=(List.range 16).find? fun k=>hexHit k c:=byte_all (by decide +kernel)
theorem hexV_at {c:UInt8} {k:Nat} (hk:k<16) (h:hexHit k c=true) (hno:∀i,i<k->hexHit i c=false):hexV c=some k:=by
 rw[hexV_find,List.find?_eq_some_iff_getElem];refine⟨h,k,by simpa using hk,by simp,fun j hj=>?_⟩
 simp[hno j hj]
theorem hexV_no {c:UInt8} (hno:∀i,i<16->hexHit i c=false):hexV c=none:=by
 rw[hexV_find,List.find?_eq_none];intro i hi;have:=hno i (by simpa using hi)
 simp[this]
end Lz
namespace Go.Proofs.YtipndhbgehdeoaaGreatDoor
open Go.RowKit
def RHex02 (o:Option Nat) (w:World) (e:Ending) (w':World):Prop:=e=.returned (.tuple #[.int .i64 ((o.getD 0:Nat):Int),.bool o.isSome])/\w=w'
theorem digAt:∀k:Fin 16,(⟨#[48,49,50,51,52,53,54,55,56,57,97,98,99,100,101,102]⟩:ByteArray)[k.val]'(show k.val<16 from k.isLt)=Lz.hexDigs.getD k.val 0:=by decide +kernel
theorem digAtN (k:Nat) (h:k<16) {h':k<(⟨#[48,49,50,51,52,53,54,55,56,57,97,98,99,100,101,102]⟩:ByteArray).size}:(⟨#[48,49,50,51,52,53,54,55,56,57,97,98,99,100,101,102]⟩:ByteArray)[k]'h'=Lz.hexDigs.getD k 0:=digAt ⟨k,h⟩
theorem Hex02_any (c:UInt8) (w:World):Calls Tryz.prog 104 #[.int .u8 (c.toNat:Int)] w (RHex02 (Lz.hexV c) w):=by
 have hcb:=byte_lt c;go_enter Tryz.func104,Tryz.ntmps104
 go_wp2_with fail
 go_loopw [5] (fun i wr=>∃k:Nat,i=.int .i64 k/\k<=16/\Hid (∀j,j<k->Lz.hexHit j c=false)/\w=wr) (fun i _=>16-(intOf i).toNat)
 case atStart=>exact⟨0,rfl,by omega,Ih (fun j hj=>absurd hj (by omega)),rfl⟩
 case round=>
  obtain⟨k,rfl,hk,hno,rfl⟩:=hrel;by_cases hlt:k<16
  ·have hltI:(k:Int)<16:=by omega
   have hk0:(0:Int)<=(k:Int):=by omega
   obtain⟨e,he⟩:∃e,e=Lz.hexDigs.getD k 0:=⟨_,rfl⟩;have hdg:∀h',((⟨#[48,49,50,51,52,53,54,55,56,57,97,98,99,100,101,102]⟩:ByteArray)[k]'h')=e:=fun h'=>by rw[he];exact digAtN k hlt
   obtain⟨q,hq⟩:∃q,q=Lz.hexHit k c:=⟨_,rfl⟩;have Hq:=Ih (show q=(e==c||(65<=c&&c<=90&&e==c+32)) by rw[hq,he];rfl);have Hq2:=Ih hq;have h1:=beqI e c;clear he hq
   go_upto_region 5 with fail
   go_cut [32] (fun s wx=>s=.bool q/\w=wx)
   case first=>
    by_cases hb1:e=c
    ·have hb1I:((e.toNat:Int)==(c.toNat:Int))=true:=h1.trans (by simp[hb1]);have HQ:Hid (q=true):=by show _=_;rw[Hq.out,hb1];simp
     clear hb1 h1
     go_wp2_with fail
     go_meet;exact⟨by rw[HQ.out],rfl⟩
    ·have hb1I:((e.toNat:Int)==(c.toNat:Int))=false:=h1.trans (by simpa using hb1);have hb1B:(e==c)=false:=by simpa using hb1
     clear hb1 h1;by_cases h65:65<=(c.toNat:Int)
     ·have d65:decide ((65:UInt8)<=c)=true:=by rw[decide_eq_true_eq,UInt8.le_iff_toNat_le];show 65<=_;omega
      have e65:=decide_eq_true h65;by_cases h90:(c.toNat:Int)<=90
      ·have d90:decide (c<=(90:UInt8))=true:=by rw[decide_eq_true_eq,UInt8.le_iff_toNat_le];show _<=90;omega
       have e90:=decide_eq_true h90;have hcn:(c+32).toNat=c.toNat+32:=by rw[UInt8.toNat_add];show(c.toNat+32)%256=_;omega
       have hw:IntKind.u8.wrap ((c.toNat:Int)+32)=((c+32:UInt8).toNat:Int):=by rw[hcn,IntWalk.u8_in _ (by omega)];omega
       have hw2:(c.toNat:Int)+32=((c+32:UInt8).toNat:Int):=by rw[hcn];omega
       obtain⟨c2,hc2⟩:∃c2,c2=c+32:=⟨_,rfl⟩;rw[<-hc2]at hw hw2;have h2:=beqI e c2;have hcb2:=byte_lt c2;have HQ:Hid (q=(e==c2)):=by show _=_;rw[Hq.out,hb1B,d65,d90,<-hc2];simp
       clear hc2 hcn;cases hx:(e==c2)
       ·rw[hx]at h2;have HQ2:Hid (q=false):=by show _=_;rw[HQ.out,hx]
        clear hx
        go_wp2_with fail
        go_meet;exact⟨by rw[HQ2.out],rfl⟩
       ·rw[hx]at h2;have HQ2:Hid (q=true):=by show _=_;rw[HQ.out,hx]
        clear hx
        go_wp2_with fail
        go_meet;exact⟨by rw[HQ2.out],rfl⟩
      ·have e90:=decide_eq_false h90
       have HQ:Hid (q=false):=by
        show _=_;rw[Hq.out,hb1B,show decide (c<=(90:UInt8))=false by rw[decide_eq_false_iff_not,UInt8.le_iff_toNat_le];show ¬_<=90;omega];simp
       go_wp2_with fail
       go_meet;exact⟨by rw[HQ.out],rfl⟩
     ·have e65:=decide_eq_false h65
      have HQ:Hid (q=false):=by
       show _=_;rw[Hq.out,hb1B,show decide ((65:UInt8)<=c)=false by rw[decide_eq_false_iff_not,UInt8.le_iff_toNat_le];show ¬65<=_;omega];simp
      go_wp2_with fail
      go_meet;exact⟨by rw[HQ.out],rfl⟩
   case rest=>
   obtain⟨rfl,rfl⟩:=hcut;cases q
   ·go_wp2_with fail
    go_roundw
    case rel=>
     refine⟨k+1,by go_num,by omega,?_,trivial⟩;show ∀j,j<k+1->_;intro j hj;rcases Nat.lt_or_ge j k with h|h
     ·exact hno.out j h
     ·rw[show j=k by omega];exact Hq2.out.symm
    case measure=>simp[intOf];omega
   ·have HV:Hid (Lz.hexV c=some k):=Ih (Lz.hexV_at hlt Hq2.out.symm hno.out)
    go_wp2_with fail
    go_ret2
    rw[HV.out];exact⟨rfl,rfl⟩
  ·have hltI:¬(k:Int)<16:=by omega
   have HV:Hid (Lz.hexV c=none):=Ih (Lz.hexV_no (fun i hi=>hno.out i (by omega)))
   go_wp2_with fail
   go_ret2
   rw[HV.out];exact⟨rfl,rfl⟩
attribute [local go_sem ↓] Go.wp_at_zero Go.wp_at_succ
def RDig (o:Option Nat) (w:World) (e:Ending) (w':World):Prop:=e=.returned (.tuple #[.int .i64 ((o.getD 0:Nat):Int),.bool o.isSome])/\w=w'
theorem numF_cons (b n:Nat) (c:UInt8) (r:List UInt8):Lz.numF b n (c::r)=match Lz.hexV c with|none=>none|some d=>if b<=d then none else Lz.numF b (min (n*b+d) 1099511627776) r:=by
 rw[Lz.numF];cases Lz.hexV c<;>rfl
theorem Hex02_none {c:UInt8} (h:Lz.hexV c=none) (w:World):Calls Tryz.prog 104 #[.int .u8 (c.toNat:Int)] w fun e w'=>e=.returned (.tuple #[.int .i64 0,.bool false])/\w=w':=by
 have:=Hex02_any c w;rw[h]at this;exact this
theorem Hex02_some {c:UInt8} {d:Nat} (h:Lz.hexV c=some d) (w:World):Calls Tryz.prog 104 #[.int .u8 (c.toNat:Int)] w fun e w'=>e=.returned (.tuple #[.int .i64 (d:Int),.bool true])/\w=w':=by
 have:=Hex02_any c w;rw[h]at this;exact this
theorem digits07_any (s:ByteArray) (b:Nat) (hb:b<=16) (hs:s.size<=1048576) (w:World):Calls Tryz.prog 105 #[.string s,.int .i64 (b:Int)] w (RDig (Lz.numF b 0 s.data.toList) w):=by
 obtain⟨o,ho⟩:∃o,o=Lz.numF b 0 s.data.toList:=⟨_,rfl⟩;rw[<-ho];have Ho:=Ih ho;clear ho;go_enter Tryz.func105,Tryz.ntmps105
 go_wp2_with fail
 go_loopw [6,7] (fun n i wr=>∃k m:Nat,i=.int .i64 k/\n=.int .i64 m/\k<=s.size/\m<=1099511627776/\Hid (o=Lz.numF b m (s.data.toList.drop k))/\w=wr) (fun _ i _=>s.size-(intOf i).toNat)
 case atStart=>exact⟨0,0,rfl,rfl,Nat.zero_le _,Nat.zero_le _,by show _=_;rw[Ho.out];rfl,rfl⟩
 case round=>
  obtain⟨k,m,rfl,rfl,hk,hm,hN,rfl⟩:=hrel;by_cases hlt:k<s.size
  ·have hltI:(k:Int)<(s.size:Int):=by omega
   have hk0:(0:Int)<=(k:Int):=by omega
   obtain⟨c,hc⟩:∃c,c=s[k]:=⟨_,rfl⟩;have hcI:(s[k].toNat:Int)=(c.toNat:Int):=by rw[hc]
   have hN2:Hid (o=match Lz.hexV c with|none=>none|some d=>if b<=d then none else Lz.numF b (min (m*b+d) 1099511627776) (s.data.toList.drop (k+1))):=by
    show _=_;rw[hN.out,List.drop_eq_getElem_cons (show k<s.data.toList.length by rw[len_of_size];exact hlt),numF_cons,hc];rfl
   clear hc hN;cases hv:Lz.hexV c with
   | none=>
     have cH:=Ih (Hex02_none hv w);have HO:Hid (o=none):=by show _=_;rw[hN2.out,hv]
     clear hv hN2
     go_wp2_with fail
     refine cH.out.mono ?_;rintro e w1 ⟨rfl,rfl⟩
     go_wp2_with fail
     go_ret2
     rw[HO.out];exact⟨rfl,rfl⟩
   | some d=>
     have cH:=Ih (Hex02_some hv w);have hd:=Lz.hexV_lt16 c d hv;by_cases hbd:b<=d
     ·have HO:Hid (o=none):=by show _=_;rw[hN2.out,hv];exact if_pos hbd
      have hbdI:(b:Int)<=(d:Int):=by omega
      clear hv hN2
      go_wp2_with fail
      refine cH.out.mono ?_;rintro e w1 ⟨rfl,rfl⟩
      go_wp2_with fail
      go_ret2
      rw[HO.out];exact⟨rfl,rfl⟩
     ·have HN:Hid (o=Lz.numF b (min (m*b+d) 1099511627776) (s.data.toList.drop (k+1))):=by show _=_;rw[hN2.out,hv];exact if_neg hbd
      have hbdI:¬(b:Int)<=(d:Int):=by omega
      obtain⟨mb,hmb⟩:∃mb,mb=m*b:=⟨_,rfl⟩;have hmbl:mb<=1099511627776*16:=by rw[hmb];exact Nat.mul_le_mul hm hb
      have hmbI:(m:Int)*(b:Int)=(mb:Int):=by rw[hmb];simp
      have hw1:IntKind.i64.wrap (mb:Int)=(mb:Int):=IntWalk.i64_in _ (by omega);have hw2:IntKind.i64.wrap ((mb:Int)+(d:Int))=(mb:Int)+(d:Int):=IntWalk.i64_in _ (by omega);rw[<-hmb]at HN;clear hv hN2 hmb
      go_wp2_with fail
      refine cH.out.mono ?_;rintro e w1 ⟨rfl,rfl⟩
      go_wp2_with fail
      go_roundw
      case rel=>
       refine⟨k+1,min (mb+d) 1099511627776,by go_num,?_,by omega,Nat.min_le_right _ _,HN,trivial⟩
       go_num
      case measure=>simp[intOf];omega
  ·have hltI:¬(k:Int)<(s.size:Int):=by omega
   have HO:Hid (o=some m):=by show _=_;rw[hN.out,List.drop_eq_nil_of_le (by rw[len_of_size];omega)];rfl
   go_wp2_with fail
   go_ret2
   rw[HO.out];exact⟨rfl,rfl⟩
attribute [local go_sem ↓] Go.wp_at_zero Go.wp_at_succ
def RDec (s:List UInt8) (w:World) (e:Ending) (w':World):Prop:=e=.returned (.tuple #[.int .i64 (((Lz.numF 10 0 s).getD 0:Nat):Int),.bool (Lz.decP s).isSome])/\Below w.heap.size w w'
theorem decimal07_any (s:ByteArray) (hs:s.size<=1048576) (w:World) (hE:EnvH w):Calls Tryz.prog 128 #[.string s] w (RDec s.data.toList w):=by
 have cD:=digits07_any s 10 (by omega) hs w;obtain⟨o,ho⟩:∃o,o=Lz.numF 10 0 s.data.toList:=⟨_,rfl⟩;rw[<-ho]at cD;have Ho:=Ih ho;clear ho;cases o with
 | none=>
   have CD:=Ih (show Calls Tryz.prog 105 #[.string s,.int .i64 10] w (fun e w'=>e=.returned (.tuple #[.int .i64 0,.bool false])/\w=w')from cD);have HV:Hid (Lz.decP s.data.toList=none):=by show _=_;unfold Lz.decP;rw[<-Ho.out];rfl
   clear cD;have hb:=Below.refl w.heap.size w;go_enter Tryz.func128,Tryz.ntmps128
   go_wp2_with fail
   refine CD.out.mono ?_;rintro e w1 ⟨rfl,rfl⟩
   go_wp2_with fail
   go_ret2
   refine⟨?_,hb⟩;rw[<-Ho.out,HV.out];rfl
 | some n=>
   have CD:=Ih (show Calls Tryz.prog 105 #[.string s,.int .i64 10] w (fun e w'=>e=.returned (.tuple #[.int .i64 (n:Int),.bool true])/\w=w')from cD);clear cD;have hb:=Below.refl w.heap.size w;by_cases h255:n<=255
   ·have h255I:(n:Int)<=255:=by omega
    have h255d:=decide_eq_true h255I;have hn0:(0:Int)<=(n:Int):=by omega
    obtain⟨q,hq⟩:∃q:Bool,q=decide (Lib.decDigits n=s.data.toList):=⟨_,rfl⟩
    have HV:Hid ((Lz.decP s.data.toList).isSome=q):=by
     show _=_;unfold Lz.decP;rw[<-Ho.out,hq];show(if n<=255/\Lib.decDigits n=s.data.toList then some n else none).isSome=_;by_cases h:Lib.decDigits n=s.data.toList
     ·rw[if_pos ⟨h255,h⟩,decide_eq_true h];rfl
     ·rw[if_neg (fun hh=>h hh.2),decide_eq_false h];rfl
    have Hq:=Ih hq;clear hq;go_enter Tryz.func128,Tryz.ntmps128
    go_wp2_with fail
    refine CD.out.mono ?_;rintro e w1 ⟨rfl,rfl⟩
    go_wp2_with fail
    refine(Itoa_h (n:Int) (by omega) (by omega) w hE).mono ?_;rintro e w2 ⟨t,rfl,ht,hb2⟩
    have hteq:(t.toList==s.toList)=q:=by
     rw[Hq.out,Bool.eq_iff_iff,decide_eq_true_eq,beq_iff_eq,Lib.toList_data,Lib.toList_data,ht.out,Lib.itoa_nonneg]
    clear ht
    go_wp2_with fail
    go_ret2
    refine⟨?_,hb2⟩;rw[<-Ho.out,HV.out];rfl
   ·have h255I:¬(n:Int)<=255:=by omega
    have h255d:=decide_eq_false h255I
    have HV:Hid (Lz.decP s.data.toList=none):=by
     show _=_;unfold Lz.decP;rw[<-Ho.out];exact if_neg (fun h=>h255 h.1)
    go_enter Tryz.func128,Tryz.ntmps128
    go_wp2_with fail
    refine CD.out.mono ?_;rintro e w1 ⟨rfl,rfl⟩
    go_wp2_with fail
    go_ret2
    refine⟨?_,hb⟩;rw[<-Ho.out,HV.out];rfl
end Go.Proofs.YtipndhbgehdeoaaGreatDoor
namespace Lz
open Go
theorem splitC_ht (k:UInt8) (l:Bs):∃h t,splitC k l=h::t:=by
 cases l with
 | nil=>exact⟨[],[],rfl⟩
 | cons b r=>
   simp only[splitC];split
   ·exact⟨_,_,rfl⟩
   ·split
    ·exact⟨_,_,rfl⟩
    ·exact⟨_,_,rfl⟩
theorem splitC_snoc (k c:UInt8):∀p:Bs,splitC k (p++[c])=if c==k then splitC k p++[[]]else(splitC k p).dropLast++[(splitC k p).getLastD []++[c]]
 | []=>by
   show splitC k [c]=_;simp only[splitC];split<;>rfl
 | b::l=>by
   have ih:=splitC_snoc k c l;obtain⟨h,t,e⟩:=splitC_ht k l;rw[e]at ih;show splitC k (b::(l++[c]))=_;by_cases hb:(b==k)=true
   ·rw[splitC,if_pos hb,ih,splitC,if_pos hb,e];split
    ·rfl
    ·cases t<;>rfl
   ·rw[splitC,if_neg hb,ih,splitC,if_neg hb,e];by_cases hc:(c==k)=true
    ·rw[if_pos hc,if_pos hc];rfl
    ·rw[if_neg hc,if_neg hc];cases t<;>rfl
theorem set_last {xs:List ByteArray} {m:Nat} {y z:ByteArray} {c:UInt8} (hm:xs.length=m+1) (hy:xs[m]? =some y) (hz:z.data.toList=y.data.toList++[c]):
  (xs.set m z).map (·.data.toList)=(xs.map (·.data.toList)).dropLast++[(xs.map (·.data.toList)).getLastD []++[c]]:=by
 rcases List.eq_nil_or_concat xs with rfl|⟨r,x,rfl⟩
 ·simp at hm
 ·rw[List.concat_eq_append]at hm hy⊢;have hr:m=r.length:=by simp at hm;omega
  subst hr;have hx:x=y:=by simpa using hy
  subst hx
  simp[hz]
end Lz
namespace Go.Proofs.YtipndhbgehdeoaaGreatDoor
open Go.RowKit
attribute [local go_sem ↓] Go.wp_at_zero Go.wp_at_succ
theorem extract_oneM {s:ByteArray} {j:Nat} (h:j<s.size):(s.extract j (j+1)).data.toList=[s[j]]:=by
 have hg:=get_of_lt h;have hl:j<s.data.toList.length:=h;rw[Lib.extract_data,show j+1-j=1 by omega,List.drop_eq_getElem_cons hl];rw[List.getElem?_eq_getElem hl]at hg;rw[Option.some.inj hg];rfl
def RCut (l:List (List UInt8)) (w:World) (e:Ending) (w':World):Prop:=
 ∃(v:Value) (xs:List ByteArray),e=.returned v/\Hid (xs.map (·.data.toList)=l)/\w'.ownsRow w.heap.size 9 1 v xs.length (xs.map Value.string)/\Below w.heap.size w w'
theorem Cut07_any (s:ByteArray) (k:UInt8) (hs:s.size<=1000000) (w:World):Calls Tryz.prog 107 #[.string s,.int .u8 (k.toNat:Int)] w (RCut (Lz.splitC k s.data.toList) w):=by
 obtain⟨i0,hi,hz0,hz1,hz2⟩:=info_parts infoStr;have hkb:=byte_lt k
 have h0:(w.alloc (.cells #[.string ⟨#[]⟩] 9)).ownsRow w.heap.size 9 1 (.slice (some ⟨w.heap.size,0,none⟩) 1 1) 1 (([⟨#[]⟩]:List ByteArray).map Value.string):=
  World.ownsRow_lit w #[.string ⟨#[]⟩] 1 (Nat.le_refl _) (by unfold maxLen;omega) rfl
 have hb0:Below w.heap.size w (w.alloc (.cells #[.string ⟨#[]⟩] 9)):=(Below.refl _ w).alloc (Nat.le_refl _) _;have H0:=Ih h0;have HB0:=Ih hb0;clear h0 hb0;go_enter Tryz.func107,Tryz.ntmps107
 go_wp2_with fail
 go_loopw [5,6] (fun v i wr=>∃(j:Nat) (xs:List ByteArray),j<=s.size/\i=.int .i64 j/\Hid (xs.map (·.data.toList)=Lz.splitC k (s.data.toList.take j))/\wr.ownsRow w.heap.size 9 1 v xs.length (xs.map Value.string)/\xs.length<=j+1/\(∀x∈xs,x.size<=j)/\Below w.heap.size w wr) (fun _ i _=>s.size-(intOf i).toNat)
 case atStart=>exact⟨0,[⟨#[]⟩],Nat.zero_le _,rfl,Ih rfl,H0.out,Nat.le_refl _,by intro x hx;rw[List.mem_singleton.1 hx];exact Nat.le_refl _,HB0.out⟩
 case round=>
  obtain⟨j,xs,hj,rfl,hxs,hown,hxl,hxz,hb⟩:=hrel;by_cases hlt:j<s.size
  ·have hltI:(j:Int)<(s.size:Int):=by omega
   have hj0:(0:Int)<=(j:Int):=by omega
   obtain⟨c,hc⟩:∃c,c=s[j]:=⟨_,rfl⟩;have hcI:(s[j].toNat:Int)=(c.toNat:Int):=by rw[hc]
   have hst:=Lz.splitC_snoc k c (s.data.toList.take j);have htk:s.data.toList.take (j+1)=s.data.toList.take j++[c]:=by rw[List.take_add_one,get_of_lt hlt,<-hc];rfl
   rw[<-htk,<-hxs.out]at hst;have Hst:=Ih hst;have hck:=beqI c k;have Hown:=Ih hown;have Hxz:=Ih hxz;have hsz:=hb.size;have Hc:=Ih hc;clear hc htk hst hown hxz;cases hq:(c==k)
   ·rw[hq]at hck;have HN:=Ih hq;clear hq
    have HN2:Hid (Lz.splitC k (s.data.toList.take (j+1))=(xs.map (·.data.toList)).dropLast++[(xs.map (·.data.toList)).getLastD []++[c]]):=by
     show _=_;rw[Hst.out,HN.out,if_neg (by decide)]
    obtain⟨m,hm⟩:∃m,xs.length=m+1:=by
     obtain⟨h',t,e⟩:=Lz.splitC_ht k (s.data.toList.take j);have h:=congrArg List.length hxs.out;rw[e,List.length_map,List.length_cons]at h;exact⟨_,h⟩
    obtain⟨y,hy⟩:∃y,xs[m]? =some y:=⟨_,List.getElem?_eq_getElem (by omega)⟩;have hyz:=Hxz.out y (List.mem_of_getElem? hy)
    obtain⟨g,cap,rfl⟩:∃g cap,u5=.slice (some ⟨g,0,none⟩) xs.length cap:=by
     rcases Hown.out.2 with⟨_,h0⟩|⟨g,cap,cur,h,_⟩
     ·omega
     ·exact⟨g,cap,h⟩
    have hcell:wr.cell? ⟨g,m,none⟩=some (.string y):=by
     rw[Hown.out.cellAt m (by omega),List.getElem?_map,hy];rfl
    have hcD:wr.drew.cell? ⟨g,m,none⟩=some (.string y):=hcell;have hfr:wr.drew.frozen? ⟨g,m,none⟩=false:=Hown.out.frozenAt m;have hset:=(Hown.out.drew.stored m (.string (y++s.extract j (j+1)))).1;rw[<-List.map_set]at hset;have hgl:=(Hown.out.lt g rfl).1;have hzs:(y++s.extract j (j+1)).size<=j+1:=by rw[<-len_of_size,append_data',extract_oneM hlt];simp;omega
    have hxset:Hid ((xs.set m (y++s.extract j (j+1))).map (·.data.toList)=Lz.splitC k (s.data.toList.take (j+1))):=by
     show _=_;rw[HN2.out];exact Lz.set_last hm hy (by rw[append_data',extract_oneM hlt,<-Hc.out])
    have Hset:=Ih hset;have hw1:IntKind.i64.wrap ((xs.length:Int)-1)=(m:Int):=by rw[show(xs.length:Int)-1=(m:Int) by omega];exact IntWalk.i64_in _ (by omega)
    have hm0:(0:Int)<=(m:Int):=by omega
    have hmn:(m:Int)<(xs.length:Int):=by omega
    have hno:¬(9223372036854775807<y.size+(min (j+1) s.size-j)):=by omega
    have hw2:IntKind.i64.wrap ((j:Int)+1)=(j:Int)+1:=IntWalk.i64_in _ (by omega);have hj1:(j:Int)+1<=(s.size:Int):=by omega
    have hj2:(j:Int)<=(j:Int)+1:=by omega
    have hj3:(0:Int)<=(j:Int)+1:=by omega
    have Hm:=Ih hm;have Hy:=Ih hy;clear hset HN2 hm hy hxs hcell
    go_upto_region 7 with fail
    go_still_tail 17,(by kernel_rfl)
    change wpList _ _ _ _ _ wr.drew;have hbD:=hb.drew;generalize wr.drew=w2 at hcD hfr Hset hbD⊢;generalize y++s.extract j (j+1)=z at hxset Hset hzs⊢
    go_wp2_with fail
    go_roundw
    case rel=>
     refine⟨j+1,xs.set m z,by omega,by go_num,hxset.out,?_,by simp;omega,?_,hbD.setCell hgl _⟩
     ·have:=Hset.out
      rwa [List.length_set]
     ·intro x hx;rcases List.mem_or_eq_of_mem_set hx with h|h
      ·exact Nat.le_succ_of_le (Hxz.out x h)
      ·rw[h];exact hzs
    case measure=>simp[intOf];omega
   ·rw[hq]at hck
    have HN:Hid (Lz.splitC k (s.data.toList.take (j+1))=(xs++[(⟨#[]⟩:ByteArray)]).map (fun x:ByteArray=>x.data.toList)):=by
     show _=_;rw[Hst.out,hq,if_pos rfl,List.map_append];rfl
    clear hq;have hst2:xs.map Value.string++[Value.string ⟨#[]⟩]=(xs++[(⟨#[]⟩:ByteArray)]).map Value.string:=by simp
    have Hst2:=Ih hst2;clear hst2
    go_wp2_with (at_builtin;refine wpList_append_own _ rfl (.tmp 19) (.tmp 20) 23 rfl w.heap.size 9 i0 (.string ⟨#[]⟩) 1 16 Tryz.underlying23 hi hz0 hz1 hz2 rfl (by decide) _ _ _ rfl (Hown.out.alloc _) ⟨wr.heap.size,0,none⟩ 1 1 [.string ⟨#[]⟩] rfl rfl (cell_one _ _ _) (by simp[Value.oneCell']) (by unfold maxLen;omega) (by omega) (by simp;omega) ?_)
    intro v' w3 hown' hgrow _;have hb3:=Below.grown1 hb Hown.out hgrow hsz (Nat.le_refl _);rw[Hst2.out]at hown';have Hown3:=Ih hown';clear hown' hgrow
    go_wp2
    go_roundw
    case rel=>
     refine⟨j+1,xs++[⟨#[]⟩],by omega,by go_num,by show _=_;rw[HN.out],?_,?_,?_,hb3⟩
     ·have:=Hown3.out
      rwa [show(xs++[(⟨#[]⟩:ByteArray)]).length=xs.length+1 by simp]
     ·simp;omega
     ·intro x hx;rcases List.mem_append.1 hx with h|h
      ·exact Nat.le_succ_of_le (Hxz.out x h)
      ·rw[List.mem_singleton.1 h];exact Nat.zero_le _
    case measure=>simp[intOf];omega
  ·have hjl:j=s.size:=by omega
   have hltI:¬(j:Int)<(s.size:Int):=by omega
   have HX:Hid (xs.map (·.data.toList)=Lz.splitC k s.data.toList):=by
    show _=_;rw[hxs.out,List.take_of_length_le (by rw[len_of_size];omega)]
   have Hown:=Ih hown;clear hown hjl hlt hxs
   go_wp2_with fail
   go_ret;exact⟨_,xs,rfl,HX,Hown.out,hb⟩
attribute [local go_sem ↓] Go.wp_at_zero Go.wp_at_succ
theorem own_weaken {w:World} {base base':Nat} {e:TypeId} {size n:Nat} {v:Value} {xs:List Value} (h:w.ownsRow base e size v n xs) (hb:base'<=base):w.ownsRow base' e size v n xs:=
 ⟨h.1,h.2.imp id (fun⟨g,cap,cur,a,b,c⟩=>⟨g,cap,cur,a,Nat.le_trans hb b,c⟩)⟩
def intn (l:List Nat):List Value:=l.map fun n:Nat=>Value.int .i64 (n:Int)
theorem intn_snoc (l:List Nat) (n:Nat):intn l++[.int .i64 (n:Int)]=intn (l++[n]):=by simp[intn]
theorem infoI64:(Tryz.prog.info? 3).map (fun i=>(i.zero,i.size,i.bytes))=some (some (.int .i64 0),1,8):=by kernel_rfl
def IntRow (w:World) (b:Nat) (l:List Nat):Prop:=∀(j n:Nat),l[j]? =some n->w.cell? ⟨b,j,none⟩=some (.int .i64 (n:Int))/\w.frozen? ⟨b,j,none⟩=false
theorem IntRow.set {w:World} {b:Nat} {l:List Nat} (h:IntRow w b l) (k:Nat) (c:Nat):IntRow (w.setCell ⟨b,k,none⟩ (.int .i64 (c:Int))) b (l.set k c):=by
 intro j d hd;rw[List.getElem?_set]at hd;by_cases hjk:k=j
 ·subst hjk;rw[if_pos rfl]at hd;split at hd
  ·rename_i hlt;obtain⟨h1,h2⟩:=h k _ (List.getElem?_eq_getElem hlt);obtain rfl:=Option.some.inj hd;refine⟨?_,?_⟩
   ·exact World.cell?_setCell_same _ _ _ h1
   ·rw[World.frozen?_setCell];exact h2
  ·cases hd
 ·rw[if_neg hjk]at hd;obtain⟨h1,h2⟩:=h j d hd;refine⟨?_,?_⟩
  ·rw[World.cell?_setCell_other _ _ _ _ (by intro e;injection e with _ e2 _;exact hjk e2)];exact h1
  ·rw[World.frozen?_setCell];exact h2
theorem IntRow.below {w w':World} {b B:Nat} {l:List Nat} (h:IntRow w b l) (hb:Below B w w') (hB:b<B):IntRow w' b l:=by
 intro j n hj;obtain⟨h1,h2⟩:=h j n hj;exact⟨(hb.cell (p:=⟨b,j,none⟩) hB).trans h1,(hb.frozen (p:=⟨b,j,none⟩) hB).trans h2⟩
theorem intRow_zero (w:World) (T:TypeId):IntRow (w.alloc (.cells #[.int .i64 0,.int .i64 0,.int .i64 0,.int .i64 0] T)) w.heap.size [0,0,0,0]:=by
 intro j n h;have hz:(#[.int .i64 0,.int .i64 0,.int .i64 0,.int .i64 0]:Array Value)=(intn [0,0,0,0]).toArray:=rfl;have hj:j<4:=(List.getElem?_eq_some_iff.1 h).1;refine⟨?_,?_⟩
 ·rw[World.cell?_alloc_mark,hz];simp only[intn,List.getElem?_toArray,List.getElem?_map,h,Option.map_some]
 ·have hb:(w.alloc (.cells #[.int .i64 0,.int .i64 0,.int .i64 0,.int .i64 0] T)).heap[w.heap.size]? =some (.cells #[.int .i64 0,.int .i64 0,.int .i64 0,.int .i64 0] T):=by
   show(w.heap.push _)[w.heap.size]? =_
   simp
  simp only[World.frozen?,hb]
  simp
theorem decimal07_none {y:ByteArray} (hs:y.size<=1048576) (h:Lz.decP y.data.toList=none) (w:World) (hE:EnvH w):Calls Tryz.prog 128 #[.string y] w fun e w'=>(∃z:Nat,e=.returned (.tuple #[.int .i64 (z:Int),.bool false]))/\Below w.heap.size w w':=by
 refine(decimal07_any y hs w hE).mono ?_;rintro e w' ⟨rfl,hb⟩;refine⟨⟨(Lz.numF 10 0 y.data.toList).getD 0,?_⟩,hb⟩;rw[h];rfl
theorem decimal07_some {y:ByteArray} {n:Nat} (hs:y.size<=1048576) (h:Lz.decP y.data.toList=some n) (w:World) (hE:EnvH w):Calls Tryz.prog 128 #[.string y] w fun e w'=>e=.returned (.tuple #[.int .i64 (n:Int),.bool true])/\Below w.heap.size w w':=by
 refine(decimal07_any y hs w hE).mono ?_;rintro e w' ⟨rfl,hb⟩;refine⟨?_,hb⟩
 have h2:Lz.numF 10 0 y.data.toList=some n:=by
  unfold Lz.decP at h;rw[Option.bind_eq_some_iff]at h;obtain⟨m,hm,hh⟩:=h;split at hh
  ·rw[hm,Option.some.inj hh]
  ·cases hh
 rw[h,h2];rfl
theorem cell_two' (w:World) (v v2:Value) (T:TypeId) (j:Nat) (u:Value) (h:[v,v2][j]? =some u):(w.alloc (.cells #[v,v2] T)).cell? ((⟨w.heap.size,0,none⟩:Addr).add j)=some u:=by
 rw[addr_add,World.cell?_alloc_mark];simpa using h
theorem set_next (vs:List Nat) (k n:Nat) (hk:k<4) (hv:vs.length=k):(vs++List.replicate (4-k) 0).set k n=(vs++[n])++List.replicate (4-(k+1)) 0:=by
 rw[show 4-k=(4-(k+1))+1 by omega,List.replicate_succ,List.set_append_right _ _ (by omega),hv,Nat.sub_self,List.set_cons_zero,List.append_assoc];rfl
def RPcs (o:Option (List Nat)) (w:World) (e:Ending) (w':World):Prop:=
 ∃v,e=.returned (.tuple #[v,.bool o.isSome])/\w'.ownsRow w.heap.size 3 1 v (o.getD []).length (intn (o.getD []))/\Below w.heap.size w w'
theorem rpcs_fail {w wx:World} (hb:Below w.heap.size w wx):RPcs none w (.returned (.tuple #[.slice none 0 0,.bool false])) wx:=
 ⟨_,rfl,World.ownsRow_nil wx w.heap.size 3 1,hb⟩
theorem pieces07_any (s:ByteArray) (last:Bool) (hs:s.size<=100000) (w:World) (hE:EnvH w):Calls Tryz.prog 102 #[.string s,.bool last] w (RPcs (Lz.rowSR s.data.toList last) w):=by
 obtain⟨i0,hi,hz0,hz1,hz2⟩:=info_parts infoI64;by_cases hz:s.size=0
 ·have he:=isEmpty_of_size hz
  have HS:Hid (Lz.rowSR s.data.toList last=some []):=by
   show _=_;unfold Lz.rowSR;rw[if_pos (List.length_eq_zero_iff.1 (show s.data.toList.length=0 by rw[len_of_size];exact hz))]
  go_enter Tryz.func102,Tryz.ntmps102
  go_wp2
  go_ret2
  rw[HS.out];exact⟨_,rfl,World.ownsRow_nil w w.heap.size 3 1,Below.refl _ _⟩
 ·have he:=isEmpty_of_pos (s:=s) (by omega)
  have HS:Hid (Lz.rowSR s.data.toList last=Lz.rowR last (Lz.splitC 58 s.data.toList)):=by
   show _=_;unfold Lz.rowSR;rw[if_neg];intro h;exact hz (by rw[<-len_of_size,h];rfl)
  have cS:=Ih (Cut07_any s 58 (by omega) w);go_enter Tryz.func102,Tryz.ntmps102
  go_wp2_with fail
  refine(cS.out).mono ?_;rintro e w1 ⟨v1,xs,rfl,hxs,hown1,hb1⟩
  have hlen:xs.length<=s.size+1:=by
   have h:=Lz.splitC_len 58 s.data.toList;rw[<-hxs.out,List.length_map,len_of_size]at h;omega
  have hlen1:1<=xs.length:=by
   obtain⟨h',t,e⟩:=Lz.splitC_ht 58 s.data.toList;have h:=congrArg List.length hxs.out;rw[e,List.length_map,List.length_cons]at h;omega
  obtain⟨b1,cap1,rfl,hcap1,hT⟩:=texts_own hown1 hlen1;have hsz:∀x,x∈xs->x.size<=s.size:=fun x hx=>piece_size hxs.out hx;have HT:=Ih hT;have Hsz:=Ih hsz
  have hB:Hid (Lz.rowSR s.data.toList last=Lz.rowR last (xs.map (·.data.toList))):=by
   show _=_;rw[HS.out,hxs.out]
  have hbs1:=hb1.size;clear cS hT hsz HS hxs he hown1;have hst:=World.ownsRow_nil w1 w1.heap.size 3 1
  go_wp2_with fail
  go_loopw [6,8] (fun a i wr=>∃(j:Nat) (ls:List Nat),j<=xs.length/\i=.int .i64 j/\ls.length=j/\Hid (Lz.rowR last (xs.map (·.data.toList))=(Lz.rowR last ((xs.drop j).map (·.data.toList))).map (ls++·))/\wr.ownsRow w1.heap.size 3 1 a j (intn ls)/\Below w1.heap.size w1 wr) (fun _ i _=>xs.length-(intOf i).toNat)
  case atStart=>exact⟨0,[],Nat.zero_le _,rfl,rfl,by show _=_;simp,hst,Below.refl _ w1⟩
  case round=>
   clear hst;obtain⟨j,ls,hj,rfl,hlj,hF,hown,hb⟩:=hrel;have hbw:=below_call hb1 hb;have hsz:=hb.size;have Hown:=Ih hown;by_cases hlt:j<xs.length
   ·obtain⟨x,hx⟩:∃x,xs[j]? =some x:=⟨_,List.getElem?_eq_getElem hlt⟩;have hcx:=(HT.out.below hb).cells _ _ hx;have hxz:=Hsz.out x (List.mem_of_getElem? hx)
    have hdrop:xs.drop j=x::xs.drop (j+1):=by
     rw[List.drop_eq_getElem_cons hlt];congr 1;have:=List.getElem?_eq_getElem hlt;rw[hx]at this;exact(Option.some.inj this).symm
    have cX:=Ih (Cut07_any x 46 (by omega) wr);have hmap:(xs.drop j).map (·.data.toList)=x.data.toList::(xs.drop (j+1)).map (·.data.toList):=by rw[hdrop];rfl
    have hemp:((xs.drop (j+1)).map (·.data.toList)).isEmpty=decide (j+1=xs.length):=by
     rw[Bool.eq_iff_iff,List.isEmpty_iff,List.map_eq_nil_iff,List.drop_eq_nil_iff,decide_eq_true_eq];omega
    rw[hmap]at hF;have Hemp:=Ih hemp;clear hx hdrop hown hmap hemp
    go_wp2_with fail
    refine(cX.out).mono ?_;rintro e w2 ⟨v2,ys,rfl,hys,hown2,hb2⟩
    have hyl1:1<=ys.length:=by
     obtain⟨h',t,e⟩:=Lz.splitC_ht 46 x.data.toList;have h:=congrArg List.length hys.out;rw[e,List.length_map,List.length_cons]at h;omega
    obtain⟨b2,cap2,rfl,hcap2,hT2⟩:=texts_own hown2 hyl1;have hysz:∀y,y∈ys->y.size<=x.size:=fun y hy=>piece_size hys.out hy;have HT2:=Ih hT2;have Hysz:=Ih hysz;have hb12:Below w1.heap.size w1 w2:=below_call hb hb2;have hbw2:=below_call hb1 hb12;have Hown2:=Ih (own_below Hown.out hb2);have hcx2:w2.cell? ⟨b1,j,none⟩=some (.string x):=by rw[hb2.cell (p:=⟨b1,j,none⟩) (World.block_lt_of_cell? _ _ hcx)];exact hcx
    have hsz2:=hb12.size;have hbsz2:=hbw2.size;obtain⟨q,hq⟩:∃q,q=(last&&decide (j+1=xs.length)&&(ys.length==4)):=⟨_,rfl⟩
    have hq2:Hid ((last&&((xs.drop (j+1)).map (·.data.toList)).isEmpty&&(Lz.splitC 46 x.data.toList).length==4)=q):=by
     show _=_;rw[Hemp.out,hq,<-hys.out,List.length_map]
    have Hq:=Ih hq;clear hT2 hysz hown2 cX hq Hemp hb2 hcx Hown hsz hbw
    go_upto_region 9 with fail
    go_cut [43] (fun s43 wx=>s43=.bool q/\w2=wx)
    case first=>
     cases last
     ·have HQ:Hid (q=false):=by show _=_;rw[Hq.out];rfl
      go_wp2_with fail
      go_meet;exact⟨by rw[HQ.out],rfl⟩
     ·by_cases hjn:j+1=xs.length
      ·have hjb:((j:Int)==(xs.length:Int)-1)=true:=by simp;omega
       have HQ:Hid (q=(ys.length==4)):=by show _=_;rw[Hq.out,decide_eq_true hjn];rfl
       have h4:((ys.length:Int)==4)=(ys.length==4):=by rw[Bool.eq_iff_iff];simp;omega
       go_wp2_with fail
       go_meet;exact⟨by rw[HQ.out],rfl⟩
      ·have hjb:((j:Int)==(xs.length:Int)-1)=false:=by simp;omega
       have HQ:Hid (q=false):=by show _=_;rw[Hq.out,decide_eq_false hjn];simp
       go_wp2_with fail
       go_meet;exact⟨by rw[HQ.out],rfl⟩
    case rest=>
     obtain⟨rfl,rfl⟩:=hcut;cases q
     ·have hcons:=Lz.rowR_one hq2.out;obtain⟨o,ho⟩:∃o,o=Lz.numF 16 0 x.data.toList:=⟨_,rfl⟩
      have hpc:Lz.pieceR x.data.toList=if x.size=0\/4<x.size then none else o:=by
       unfold Lz.pieceR;rw[ho,len_of_size];have:(x.data.toList=[])↔x.size=0:=by rw[<-len_of_size,List.length_eq_zero_iff]
       simp only[this]
      rw[hpc]at hcons
      have hcons2:Hid (Lz.rowSR s.data.toList last=(match (if x.size=0\/4<x.size then none else o)with|none=>none|some n=>(Lz.rowR last ((xs.drop (j+1)).map (fun x:ByteArray=>x.data.toList))).map (n::·)).map (ls++·)):=by
       show _=_
       (rw[hB.out,hF.out,hcons])<;>(generalize (if x.size=0\/4<x.size then none else o)=oo;cases oo<;>rfl)
      have hF2:Hid (Lz.rowR last (xs.map (·.data.toList))=(match (if x.size=0\/4<x.size then none else o)with|none=>none|some n=>(Lz.rowR last ((xs.drop (j+1)).map (fun x:ByteArray=>x.data.toList))).map (n::·)).map (ls++·)):=by
       show _=_
       (rw[hF.out,hcons])<;>(generalize (if x.size=0\/4<x.size then none else o)=oo;cases oo<;>rfl)
      have cD:=digits07_any x 16 (by omega) (by omega) w2;rw[<-ho]at cD;have hol:∀n,o=some n->n<=1099511627776:=fun n hn=>Lz.numR_le 16 x.data.toList 0 n (by omega) (by rw[<-ho];exact hn);have Hol:=Ih hol;clear hcons hpc hq2 Hq ho hF hys hol;cases o with
      | none=>
        have CD:=Ih (show Calls Tryz.prog 105 #[.string x,.int .i64 16] w2 (fun e w'=>e=.returned (.tuple #[.int .i64 0,.bool false])/\w2=w')from cD)
        have HN:Hid (Lz.rowSR s.data.toList last=none):=by
         show _=_;rw[hcons2.out,ite_self];rfl
        clear cD hcons2 hF2
        go_wp2_with fail
        refine CD.out.mono ?_;rintro e w3 ⟨rfl,rfl⟩
        go_wp2_with fail
        go_ret2
        rw[HN.out];exact rpcs_fail hbw2
      | some n=>
        have CD:=Ih (show Calls Tryz.prog 105 #[.string x,.int .i64 16] w2 (fun e w'=>e=.returned (.tuple #[.int .i64 (n:Int),.bool true])/\w2=w')from cD);clear cD;by_cases hx0:x.size=0\/4<x.size
        ·have HN:Hid (Lz.rowSR s.data.toList last=none):=by
          show _=_;rw[hcons2.out,if_pos hx0];rfl
         clear hcons2 hF2;rcases hx0 with hx0|hx0
         ·have hx0I:(x.size:Int)<1:=by omega
          have Hx0:=Ih hx0;clear hx0
          go_wp2_with fail
          refine CD.out.mono ?_;rintro e w3 ⟨rfl,rfl⟩
          go_wp2_with fail
          go_ret2
          rw[HN.out];exact rpcs_fail hbw2
         ·have hx1I:¬(x.size:Int)<1:=by omega
          have hx0I:4<(x.size:Int):=by omega
          go_wp2_with fail
          refine CD.out.mono ?_;rintro e w3 ⟨rfl,rfl⟩
          go_wp2_with fail
          go_ret2
          rw[HN.out];exact rpcs_fail hbw2
        ·have hx1I:¬(x.size:Int)<1:=by omega
         have hx0I:¬4<(x.size:Int):=by omega
         have hF3:Hid (Lz.rowR last (xs.map (·.data.toList))=(Lz.rowR last ((xs.drop (j+1)).map (·.data.toList))).map ((ls++[n])++·)):=by
          show _=_;rw[hF2.out,if_neg hx0];simp only;cases Lz.rowR last ((xs.drop (j+1)).map (·.data.toList))<;>simp
         clear hcons2 hF2 hx0
         go_wp2_with fail
         refine CD.out.mono ?_;rintro e w3 ⟨rfl,rfl⟩
         go_wp2_with (at_builtin;refine wpList_append_own _ rfl (.tmp 102) (.tmp 104) 133 rfl w1.heap.size 3 i0 (.int .i64 0) 1 8 Tryz.underlying133 hi hz0 hz1 hz2 rfl (by decide) _ _ _ rfl (Hown2.out.alloc _) ⟨w2.heap.size,0,none⟩ 1 1 [.int .i64 (n:Int)] rfl rfl (cell_one _ _ _) (by simp[Value.oneCell']) (by unfold maxLen;omega) (by omega) (by simp;omega) ?_)
         intro v' w4 hown' hgrow _;have hb4:Below w1.heap.size w1 w4:=Below.grown1 hb12 Hown2.out hgrow hsz2 (Nat.le_refl _);rw[intn_snoc]at hown';have Hown4:=Ih hown';clear hown' hgrow
         go_wp2
         go_roundw
         case rel=>exact⟨j+1,ls++[n],by omega,by go_num,by simp[hlj],hF3.out,Hown4.out,hb4⟩
         case measure=>simp[intOf];omega
     ·have hcons:=Lz.rowR_four hq2.out
      have h4:ys.length=4:=by
       have h:=Hq.out;cases hh:(ys.length==4)
       ·rw[hh]at h;simp at h
       ·simpa using hh
      have HR:Hid (Lz.rowSR s.data.toList last=(((ys.map (fun y:ByteArray=>y.data.toList)).mapM Lz.decP).map fun b=>[b.getD 0 0*256+b.getD 1 0,b.getD 2 0*256+b.getD 3 0]).map (ls++·)):=by
       show _=_;rw[hB.out,hF.out,hcons,<-hys.out]
      have Hi4:=Ih (intRow_zero w2 151);have H4:=Ih h4;have hx2:=HT2.out.lt;clear hcons h4 hq2 hys hF hB Hq
      go_wp2_with fail
      go_loopw [11] (fun k wr2=>∃(k':Nat) (vs:List Nat),k'<=4/\k=.int .i64 k'/\vs.length=k'/\Hid (∀n∈vs,n<=255)/\Hid ((ys.map (fun y:ByteArray=>y.data.toList)).mapM Lz.decP=(((ys.drop k').map (fun y:ByteArray=>y.data.toList)).mapM Lz.decP).map (vs++·))/\IntRow wr2 w2.heap.size (vs++List.replicate (4-k') 0)/\Below w2.heap.size w2 wr2) (fun k _=>4-(intOf k).toNat)
      case atStart=>exact⟨0,[],Nat.zero_le _,rfl,rfl,Ih (by simp),by show _=_;simp,Hi4.out,(Below.refl _ w2).alloc (Nat.le_refl _) _⟩
      case round=>
       clear Hi4;obtain⟨k',vs,hk',rfl,hvl,hvb,hD,hrow,hb3⟩:=hrel;have hbw3:=below_call hbw2 hb3;have hE3:=hE.below hbw3;by_cases hk4:k'<4
       ·obtain⟨y,hy⟩:∃y,ys[k']? =some y:=⟨_,List.getElem?_eq_getElem (by rw[H4.out];exact hk4)⟩;have hcy:=(HT2.out.below hb3).cells _ _ hy;have hyz:=Hysz.out y (List.mem_of_getElem? hy);have hkl:k'<ys.length:=by rw[H4.out];exact hk4
        have hkI:(k':Int)<4:=by omega
        have hk0:(0:Int)<=(k':Int):=by omega
        have hdrop:ys.drop k'=y::ys.drop (k'+1):=by
         rw[List.drop_eq_getElem_cons hkl];congr 1;have:=List.getElem?_eq_getElem hkl;rw[hy]at this;exact(Option.some.inj this).symm
        rw[hdrop,List.map_cons,Lz.decs_cons]at hD;cases ho:Lz.decP y.data.toList with
        | none=>
          have cD:=Ih (decimal07_none (y:=y) (by omega) ho wr hE3)
          have HN:Hid (Lz.rowSR s.data.toList last=none):=by
           show _=_;rw[HR.out,hD.out,ho];rfl
          clear ho hD HR hrow hy hdrop
          go_wp2_with fail
          refine cD.out.mono ?_;rintro e w4 ⟨⟨z,rfl⟩,hb4⟩
          go_wp2_with fail
          go_ret2
          rw[HN.out];exact rpcs_fail (below_call hbw3 hb4)
        | some n=>
          have cD:=Ih (decimal07_some (y:=y) (by omega) ho wr hE3);have hn255:=Lz.decP_le ho
          have hD2:Hid ((ys.map (fun y:ByteArray=>y.data.toList)).mapM Lz.decP=(((ys.drop (k'+1)).map (fun y:ByteArray=>y.data.toList)).mapM Lz.decP).map ((vs++[n])++·)):=by
           show _=_;rw[hD.out,ho];simp only;cases ((ys.drop (k'+1)).map (fun y:ByteArray=>y.data.toList)).mapM Lz.decP<;>simp
          obtain⟨hcz,_⟩:=hrow k' 0 (by rw[List.getElem?_append_right (by omega),hvl,Nat.sub_self,show 4-k'=(4-(k'+1))+1 by omega,List.replicate_succ];rfl);have hRl:=World.block_lt_of_cell? _ _ hcz;have Hrow:=Ih hrow;clear ho hD hrow hy hdrop hcz
          go_wp2_with fail
          refine cD.out.mono ?_;rintro e w4 ⟨rfl,hb4⟩;have hrow4:=Hrow.out.below hb4 hRl;have hb24:Below w2.heap.size w2 w4:=below_call hb3 hb4;obtain⟨hc4,hf4⟩:=hrow4 k' 0 (by rw[List.getElem?_append_right (by omega),hvl,Nat.sub_self,show 4-k'=(4-(k'+1))+1 by omega,List.replicate_succ];rfl);have hset:=hrow4.set k' n;rw[set_next vs k' n hk4 hvl]at hset;have Hset:=Ih hset;clear hset hrow4
          go_wp2_with fail
          go_roundw
          case rel=>
           refine⟨k'+1,vs++[n],by omega,by go_num,by simp[hvl],Ih ?_,hD2.out,Hset.out,hb24.setCell (Nat.le_refl _) _⟩;intro m hm;rcases List.mem_append.1 hm with h|h
           ·exact hvb.out m h
           ·rw[List.mem_singleton.1 h];exact hn255
          case measure=>simp[intOf];omega
       ·have hk4':k'=4:=by omega
        have hkI:¬(k':Int)<4:=by omega
        obtain⟨a,b,c,d,rfl⟩:=Lz.four_form (hvl.trans hk4')
        have hrow':IntRow wr w2.heap.size [a,b,c,d]:=by
         have:=hrow;rw[hk4']at this;simpa using this
        obtain⟨hca,_⟩:=hrow' 0 a rfl;obtain⟨hcb,_⟩:=hrow' 1 b rfl;obtain⟨hcc,_⟩:=hrow' 2 c rfl;obtain⟨hcd,_⟩:=hrow' 3 d rfl;have hba:=hvb.out a (by simp);have hbb:=hvb.out b (by simp);have hbc:=hvb.out c (by simp);have hbd:=hvb.out d (by simp)
        have HF:Hid (Lz.rowSR s.data.toList last=some (ls++[a*256+b,c*256+d])):=by
         show _=_;rw[HR.out,hD.out,hk4',List.drop_eq_nil_of_le (by rw[H4.out];exact Nat.le_refl _)];rfl
        have hm1:IntKind.i64.wrap ((a:Int)*256)=(a:Int)*256:=IntWalk.i64_in _ (by omega);have hm2:IntKind.i64.wrap ((c:Int)*256)=(c:Int)*256:=IntWalk.i64_in _ (by omega);have hm3:IntKind.i64.wrap ((a:Int)*256+(b:Int))=((a*256+b:Nat):Int):=by rw[show(a:Int)*256+(b:Int)=((a*256+b:Nat):Int) by omega];exact IntWalk.i64_in _ (by omega)
        have hm4:IntKind.i64.wrap ((c:Int)*256+(d:Int))=((c*256+d:Nat):Int):=by rw[show(c:Int)*256+(d:Int)=((c*256+d:Nat):Int) by omega];exact IntWalk.i64_in _ (by omega)
        obtain⟨z1,hz1'⟩:∃z,z=a*256+b:=⟨_,rfl⟩;obtain⟨z2,hz2'⟩:∃z,z=c*256+d:=⟨_,rfl⟩;rw[<-hz1']at hm3;rw[<-hz2']at hm4;rw[<-hz1',<-hz2']at HF;have Hown3:=Ih (own_below Hown2.out hb3);have hb13:Below w1.heap.size w1 wr:=below_call hb12 hb3;have hsz3:=hb13.size;clear hk4' hrow hrow' hD HR hz1' hz2' hvb hvl hk4
        go_wp2_with (at_builtin;refine wpList_append_own _ rfl (.tmp 61) (.tmp 74) 133 rfl w1.heap.size 3 i0 (.int .i64 0) 1 8 Tryz.underlying133 hi hz0 hz1 hz2 rfl (by decide) _ _ _ rfl (Hown3.out.alloc _) ⟨wr.heap.size,0,none⟩ 2 2 [.int .i64 (z1:Int),.int .i64 (z2:Int)] rfl rfl (cell_two' _ _ _ _) (by simp[Value.oneCell']) (by unfold maxLen;omega) (by omega) (by simp;omega) ?_)
        intro v' w4 hown' hgrow _;have hb4:Below w1.heap.size w1 w4:=Below.grown1 hb13 Hown3.out hgrow hsz3 (Nat.le_refl _);have Hown4:=Ih hown';clear hown' hgrow
        go_wp2
        go_ret2
        rw[HF.out];refine⟨_,rfl,?_,below_call hb1 hb4⟩;have h5:=own_weaken Hown4.out hbs1;rw[show intn ls++[.int .i64 (z1:Int),.int .i64 (z2:Int)]=intn (ls++[z1,z2]) by simp[intn],show j+2=(ls++[z1,z2]).length by simp[hlj]]at h5;exact h5
   ·have hjl:j=xs.length:=by omega
    have HR:Hid (Lz.rowSR s.data.toList last=some ls):=by
     show _=_;rw[hB.out,hF.out,hjl,List.drop_length]
     simp[Lz.rowR]
    have hlt':¬j<xs.length:=hlt;clear hlt hjl hown hF
    go_wp2
    go_ret2
    rw[HR.out];exact⟨_,rfl,by rw[Option.getD_some,hlj];exact own_weaken Hown.out hbs1,hbw⟩
end Go.Proofs.YtipndhbgehdeoaaGreatDoor
namespace Lz
open Go
def exU (u:UrlL) (pass:Bool) (z:Bs):UrlL:=
 if pass then{u with pass:=u.pass++encodeP (setU 5) z}
 else{u with user:=u.user++encodeP (setU 5) (Lib.cut z [58]).1,pass:=u.pass++encodeP (setU 5) (Lib.cut z [58]).2.1}
def exP (pass:Bool) (z:Bs):Bool:=pass||(Lib.cut z [58]).2.2
theorem exU_nil (u:UrlL) (pass:Bool):exU u pass []=u:=by
 unfold exU;rw[cut_nil,enc_nil,List.append_nil,List.append_nil];split<;>rfl
theorem exP_nil (pass:Bool):exP pass []=pass:=by unfold exP;rw[cut_nil];simp
theorem cut_58no {z:Bs} (h:(Lib.cut z [58]).2.2=false):(Lib.cut z [58]).1=z/\(Lib.cut z [58]).2.1=[]:=by
 obtain⟨f1,f2,f3,f4⟩:=cut_facts 58 z;exact f2 h
theorem ex_pass {u:UrlL} {pass:Bool} {z:Bs} (h:exP pass z=true) (c:UInt8):
  exU u pass (z++[c])={exU u pass z with pass:=(exU u pass z).pass++encodeP (setU 5) [c]}/\exP pass (z++[c])=true:=by
 unfold exU exP at *;cases pass with
 | true=>simp only[if_true,Bool.true_or,and_true];rw[enc_app,List.append_assoc]
 | false=>
   rw[Bool.false_or]at h;rw[cut_app,if_pos h];simp only[if_false,Bool.false_or,and_true,Bool.false_eq_true];rw[enc_app,List.append_assoc]
theorem ex_colon {u:UrlL} {pass:Bool} {z:Bs} (h:exP pass z=false):exU u pass (z++[58])=exU u pass z/\exP pass (z++[58])=true:=by
 unfold exU exP at *;rw[Bool.or_eq_false_iff]at h;obtain⟨rfl,h⟩:=h;obtain⟨k1,k2⟩:=cut_58no h;rw[cut_app,h,k1,k2];simp only[if_false,Bool.false_eq_true,Bool.false_or];rw[cut_at,List.append_nil];exact⟨rfl,rfl⟩
theorem ex_user {u:UrlL} {pass:Bool} {z:Bs} (h:exP pass z=false) {c:UInt8} (hc:c≠58):
  exU u pass (z++[c])={exU u pass z with user:=(exU u pass z).user++encodeP (setU 5) [c]}/\exP pass (z++[c])=false:=by
 unfold exU exP at *;rw[Bool.or_eq_false_iff]at h;obtain⟨rfl,h⟩:=h;obtain⟨k1,k2⟩:=cut_58no h;rw[cut_app,h,k1,k2];simp only[if_false,Bool.false_eq_true,Bool.false_or];rw[cut_skip hc,cut_nil];refine⟨?_,rfl⟩;rw[enc_app,List.append_assoc]
def bufAt (a:Bool) (x:Bs):Bs:=if a then[37,52,48]++x else x
theorem ext_ex (u:UrlL) (a pass:Bool) (x:Bs):exU u pass (bufAt a x)=extU u a pass x/\exP pass (bufAt a x)=extP a pass x:=by
 unfold exU exP extU extP bufAt extZ;cases a with
 | false=>exact⟨rfl,rfl⟩
 | true=>
   simp only[if_true]
   have e1:Lib.cut ([37,52,48]++x) [58]=([37,52,48]++(Lib.cut x [58]).1,(Lib.cut x [58]).2.1,(Lib.cut x [58]).2.2):=by
    show Lib.cut (37::52::48::x) [58]=_;rw[cut_skip (by decide),cut_skip (by decide),cut_skip (by decide)];rfl
   have e2:Lib.cut (64::x) [58]=(64::(Lib.cut x [58]).1,(Lib.cut x [58]).2.1,(Lib.cut x [58]).2.2):=cut_skip (by decide) x;have e3:encodeP (setU 5) [37,52,48]=[37,52,48]:=by decide +kernel
   rw[e1,e2];simp only;rw[enc_app,enc_app,e3,enc_cons _ 64 x,enc_cons _ 64 (Lib.cut x [58]).1,enc_at]
   simp
end Lz
namespace Go.Proofs.YtipndhbgehdeoaaGreatDoor
open Go.RowKit
theorem run_append_nn (w:World) (ty:TypeId) (c:Nat):(Builtin.append_ #[23,23] ty #[.slice none 0 0,.slice none 0 c]).run Tryz.prog w=.ok (.slice none 0 0) w:=by
 obtain⟨i0,hi,hz0,hz1,hz2⟩:=info_parts infoTxt
 simp[Builtin.append_,run_underlying Tryz.underlying23,sizeOf,typeInfo,hi,Builtin.lenOf,Builtin.firstCells]
theorem run_append_nil (w:World) (B:Nat) (ty:TypeId) (a:Option Addr) (c:Nat) (xs:List ByteArray) (h:∀(j:Nat) (x:ByteArray),xs[j]? =some x->∃G off,a=some ⟨G,off,none⟩/\w.cell? ⟨G,off+j,none⟩=some (.string x)) (hL:xs.length<=1000000000) (hB:B<=w.heap.size):
  ∃a' n' c' w',(Builtin.append_ #[23,23] ty #[.slice none 0 0,.slice a xs.length c]).run Tryz.prog w=.ok (.slice a' n' c') w'/\PathOwn w' B (.slice a' n' c') xs/\Below w.heap.size w w':=by
 obtain⟨i0,hi,hz0,hz1,hz2⟩:=info_parts infoTxt;cases a with
 | none=>
   have hxs:xs=[]:=by
    cases xs with
    | nil=>rfl
    | cons x r=>obtain⟨G,off,h,_⟩:=h 0 x rfl;cases h
   subst hxs;exact⟨none,0,0,w,run_append_nn w ty c,PathOwn.nil _ _,Below.refl _ _⟩
 | some p=>
   have hnews:∀(j:Nat) (u:Value),(xs.map Value.string)[j]? =some u->w.cell? (p.add j)=some u:=by
    intro j u hj;rw[List.getElem?_map,Option.map_eq_some_iff]at hj;obtain⟨x,hj,rfl⟩:=hj;obtain⟨G,off,hp,hc⟩:=h j x hj;obtain rfl:p=⟨G,off,none⟩:=Option.some.inj hp;rw[show(⟨G,off,none⟩:Addr).add j=⟨G,off+j,none⟩ by simp[Addr.add]];exact hc
   obtain⟨v',w',hr,hown,hg,_⟩:=run_append_own (P:=Tryz.prog) (w:=w) B 23 ty 9 i0 (.string ⟨#[]⟩) 1 16 Tryz.underlying23 hi hz0 hz1 hz2 rfl (by decide) (.slice none 0 0) 0 [] (World.ownsRow_nil _ B _ _) p xs.length c (xs.map Value.string) (by simp) hnews (by simp[Value.oneCell']) (by unfold maxLen;omega) (by omega) hB;have hb:Below w.heap.size w w':=(Below.refl _ w).grown hg (Nat.le_refl _) (fun k hk=>by simp[Value.ownBlock]at hk);rw[Nat.zero_add,List.nil_append]at hown;have hP:PathOwn w' B v' xs:=.inl hown;obtain⟨a',c',rfl,_,_⟩:=hP.form;exact⟨a',_,c',w',hr,hP,hb⟩
theorem wp_append_nil {o:Oper} {act:Act} {K:Act->World->Prop} {Q:Exit->Act->World->Prop} {w:World} (B:Nat) (a:Option Addr) (c:Nat) (xs:List ByteArray) (x:Operand)
  (ho:o.op=.call {callee:=.builtin .append,args:= #[.const (.slice none 0 0),x],argTypes:= #[23,23]}) (hx:act.eval x=.slice a xs.length c)
  (h:∀(j:Nat) (x:ByteArray),xs[j]? =some x->∃G off,a=some ⟨G,off,none⟩/\w.cell? ⟨G,off+j,none⟩=some (.string x)) (hL:xs.length<=1000000000) (hB:B<=w.heap.size)
  (hK:∀a' n' c' w',PathOwn w' B (.slice a' n' c') xs->Below w.heap.size w w'->K (act.put o.dst (.slice a' n' c')) w'):o.wp Tryz.prog act w K Q:=by
 obtain⟨a',n',c',w',hr,h2,h3⟩:=run_append_nil w B o.type a c xs h hL hB;unfold Oper.wp execOp;simp only[ho,resolve,invoke,builtin,Sem.run_bind,Sem.run_pure,Result.andThen_ok,List.map_toArray,List.map_cons,List.map_nil,hx]
 erw [hr]
 exact hK _ _ _ _ h2 h3
end Go.Proofs.YtipndhbgehdeoaaGreatDoor
