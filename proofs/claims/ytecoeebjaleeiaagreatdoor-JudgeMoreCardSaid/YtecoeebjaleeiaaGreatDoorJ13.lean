/-
  strings.Count at one byte.
-/
import Derived.Test.YtecoeebjaleeiaaGreatDoorJ08
import Derived.Deep.RegionHeld3
import Derived.Deep.DeepCutAuto
import Derived.Stop.Asserts
import Derived.RowKitTokens
import Derived.StillTailTactics
import Derived.Shelf.Strings.SlTrimAscii
import Derived.Deep.AppendLies
import Derived.Deep.DrawnRows
import Derived.Lib.MapLaws
import Derived.Lib.QuoteLoop
set_option maxHeartbeats 2000000
set_option maxRecDepth 100000
namespace Lz
open Go
structure ag where
 scheme:Bs:=[]
 user:Bs:=[]
 pass:Bs:=[]
 hasHost:Bool:=false
 host:Bs:=[]
 port:Int:= -1
 opq:Bool:=false
 path:List Bs:=[]
 hasQuery:Bool:=false
 hasFragment:Bool:=false
 query:Bs:=[]
 fragment:Bs:=[]
 deriving DecidableEq,Repr
inductive UR where
 | ok (u:ag)
 | er (n:Nat)
 deriving DecidableEq,Repr
def UR.bind:UR->(ag->UR)->UR
 | .ok u,f=>f u
 | .er n,_=>.er n
def nK:Bs:=[104,116,116,112]
def lQ:Bs:=[104,116,116,112,115]
def wsS:Bs:=[119,115]
def Mq:Bs:=[119,115,115]
def Zj:Bs:=[102,116,112]
def bM:Bs:=[102,105,108,101]
def I2:Bs:=[98,108,111,98]
def gI (s:Bs):Int:=if s=nK\/s=wsS then 80 else if s=lQ\/s=Mq then 443 else if s=Zj then 21 else -1
def ai (s:Bs):Bool:=s==bM|| !(gI s== -1)
def bz (sp:Bool) (c:UInt8):Bool:=c==47||(sp&&c==92)
def cm:Nat->Bs
 | 1=>[32,34,60,62,96]
 | 2=>[32,34,35,60,62]
 | 3=>[32,34,35,60,62,39]
 | 4=>[32,34,35,60,62,63,94,96,123,125]
 | 5=>[32,34,35,60,62,63,94,96,123,125,47,58,59,61,64,91,92,93,124]
 | _=>[]
def bL:Bs->Bool
 | [a,b]=>bG a&&(b==58||b==124)
 | _=>false
def gz:Bs->Bool
 | [a,b]=>bG a&&(b==58||b==124)
 | a::b::c::_=>bG a&&(b==58||b==124)&&(c==47||c==92)
 | _=>false
def iS:List Bs->Bool
 | p::_=>bL p&&p[1]? ==some 58
 | []=>false
def bu (scheme:Bs) (l:List Bs):List Bs:=if scheme=bM/\l.length=1/\iS l=true then l else l.dropLast
def unE:Bs->Bs
 | 37::50::101::r=>46::unE r
 | c::r=>c::unE r
 | []=>[]
def eR (p:Bs):Nat:=if unE (low p)=[46]then 1 else if unE (low p)=[46,46]then 2 else 0
def dI (sp:Bool) (s:Bs):Bs×Bs×Bool:=(s.takeWhile fun c=> !bz sp c,(s.dropWhile fun c=> !bz sp c).drop 1,s.any (bz sp))
def fP (sp:Bool):Bs->List Bs
 | []=>[[]]
 | c::r=>if bz sp c then[]::fP sp r else match fP sp r with
   | h::t=>(c::h)::t
   | []=>[[c]]
def onL (scheme:Bs):List Bs->List Bs->List Bs
 | path,[]=>path
 | path,p::r=>
   let q:=aj (cm 4) p
   if eR q=2 then onL scheme (if r=[]then bu scheme path++[[]]else bu scheme path) r
   else if eR q=1 then onL scheme (if r=[]then path++[[]]else path) r
   else onL scheme (path++[if scheme=bM/\path=[]/\bL q=true then q.take 1++[58]else q]) r
def onP (u:ag) (t:Bs):ag:={u with path:=onL u.scheme u.path (fP (ai u.scheme) t)}
def ep:Bool->Bs->Option Nat
 | _,[]=>none
 | i,c::r=>if c==91 then(ep true r).map (·+1)else if c==93 then(ep false r).map (·+1)else if c==58&& !i then some 0 else(ep i r).map (·+1)
def lx:Nat->Bs->Option Nat
 | n,[]=>some n
 | n,c::r=>if bj c then lx (min (10*n+(c.toNat-48)) 1048576) r else none
def ey (u:ag) (s:Bs):UR:=match lx 0 s with
 | none=>.er 81
 | some n=>if 65535<n then .er 81 else .ok (if s≠[]/\(n:Int)≠gI u.scheme then{u with port:=n} else u)
def eI (u:ag) (s:Bs):UR:=match aN s (ai u.scheme)with
 | .er n=>.er n
 | .ok h=>.ok {u with host:=h,hasHost:=true}
def eQ:Bs->Option (Bs×Bs)
 | []=>none
 | c::r=>match eQ r with
   | some (x,y)=>some (c::x,y)
   | none=>if c==64 then some ([],r)else none
def CG (u:ag) (a:Bs):ag:={u with user:=aj (cm 5) (Lib.cut a [58]).1,pass:=aj (cm 5) (Lib.cut a [58]).2.1}
def eZ (u:ag) (a:Bs):UR:=match ep false a with
 | some i=>if a.take i=[]then .er 70 else(eI u (a.take i)).bind fun u=>ey u (a.drop (i+1))
 | none=>if a=[]/\ai u.scheme=true then .er 70 else(eI u a).bind fun u=>ey u []
def jj (u:ag) (a:Bs):UR:=match eQ a with
 | some (x,y)=>if y=[]then .er 70 else eZ (CG u x) y
 | none=>eZ u a
def bT (u:ag) (r:Bs):UR:=
 let c:=dI (ai u.scheme) r
 (jj u c.1).bind fun u=>.ok (if c.2.2||ai u.scheme then onP u c.2.1 else u)
def jh (u b:ag):ag:={u with user:=b.user,pass:=b.pass,hasHost:=b.hasHost,host:=b.host,port:=b.port}
def ek (u b:ag) (r:Bs):ag:=
 if r≠[]then onP {u with path:=bu u.scheme b.path} r
 else if u.hasQuery then{u with path:=b.path} else{u with path:=b.path,query:=b.query,hasQuery:=b.hasQuery}
def fg (sp:Bool) (r:Bs):Nat:=(r.takeWhile (bz sp)).length
def mj (u b:ag) (r:Bs):UR:=
 let n:=fg (ai u.scheme) r
 if 1<n then bT u (if ai u.scheme then r.drop n else r.drop 2)
 else if n=1 then .ok (onP (jh u b) (r.drop 1))
 else .ok (ek (jh u b) b r)
def iI:Bs:=[108,111,99,97,108,104,111,115,116]
def em (u:ag) (b:Option ag) (r:Bs):UR:=
 let u:ag:={u with hasHost:=true}
 let n:=fg true r
 if 1<n then
  let c:=dI true (r.drop 2)
  if bL c.1 then .ok (onP u (r.drop 2))
  else(if c.1=[]then UR.ok u else eI u c.1).bind fun u=>.ok (onP (if u.host=iI then{u with host:=[]} else u) c.2.1)
 else if n=1 then
  .ok (onP (match b with
   | some x=>if x.scheme=bM then(if gz (r.drop 1)=false/\iS x.path=true then{u with host:=x.host,path:=x.path.take 1} else{u with host:=x.host})else u
   | none=>u) (r.drop 1))
 else match b with
  | some x=>if x.scheme=bM then(if gz r then .ok (onP {u with host:=x.host} r)else .ok (ek {u with host:=x.host} x r))else .ok (onP u r)
  | none=>.ok (onP u r)
def dM (c:UInt8):Bool:=bG c||bj c||c==43||c==45||c==46
def aQ (s:Bs):Bs×Bs×Bool:=
 let c:=Lib.cut s [58]
 if c.2.2&& !c.1.isEmpty&&(match c.1 with|a::_=>bG a|[]=>false)&&c.1.all dM then(low c.1,c.2.1,true)else([],s,false)
def bK (s:Bs):Bs:=(((s.dropWhile (·<=32)).reverse.dropWhile (·<=32)).reverse).filter fun c=> !(c==9||c==10||c==13)
def iH (u:ag) (s:Bs) (b:Option ag):UR:=
 let c:=aQ s
 if c.2.2 then
  let u:ag:={u with scheme:=c.1}
  if c.1=bM then em u b c.2.1
  else if ai c.1 then(match b with
   | some x=>if x.scheme=c.1/\Lib.hasPrefix c.2.1 [47,47]=false then mj u x c.2.1 else bT u (c.2.1.drop (fg true c.2.1))
   | none=>bT u (c.2.1.drop (fg true c.2.1)))
  else if Lib.hasPrefix c.2.1 [47,47]then bT u (c.2.1.drop 2)
  else if Lib.hasPrefix c.2.1 [47]then .ok (onP u (c.2.1.drop 1))
  else .ok {u with opq:=true,path:=[aj [] c.2.1]}
 else match b with
  | none=>.er 82
  | some x=>
    if x.opq&&(!s.isEmpty||u.hasQuery|| !u.hasFragment)then .er 82
    else
     let u:ag:={u with scheme:=x.scheme}
     if x.opq then .ok (ek {u with opq:=true} x [])
     else if x.scheme=bM then em u b s
     else mj u x s
def gE (s:Bs) (b:Option ag):UR:=
 let f:=Lib.cut (bK s) [35]
 let q:=Lib.cut f.1 [63]
 (iH {query:=q.2.1,hasQuery:=q.2.2,fragment:=f.2.1,hasFragment:=f.2.2} q.1 b).bind fun u=>
  .ok {u with query:=aj (cm (if ai u.scheme then 3 else 2)) u.query,fragment:=aj (cm 1) u.fragment}
def atU (u:ag):Bs:=if u.port= -1 then u.host else u.host++[58]++Lib.itoa u.port
def nY (u:ag):Bs:=
 u.scheme++[58]++
 (if u.hasHost then[47,47]++u.user++(if u.pass=[]then[]else[58]++u.pass)++(if u.user=[]/\u.pass=[]then[]else[64])++atU u
  else if u.opq=false/\1<u.path.length/\u.path.head? =some []then[47,46]else[])++
 (if u.opq then u.path.headD []else u.path.flatMap fun p=>47::p)++
 (if u.hasQuery then 63::u.query else[])++(if u.hasFragment then 35::u.fragment else[])
def dg (s:Bs) (b:Option ag):UR:=
 if 4000<s.length then .er 3
 else match b with
  | some x=>if gE (nY x) none=.ok x then gE s b else .er 2
  | none=>gE s none
def eF (u:ag):Bs:=
 if gI u.scheme≠ -1 then u.scheme++[58,47,47]++atU u
 else if u.scheme=I2/\u.opq=true/\u.path≠[]then(match dg (u.path.headD []) none with
  | .ok x=>if x.scheme=nK\/x.scheme=lQ then x.scheme++[58,47,47]++atU x else[110,117,108,108]
  | .er _=>[110,117,108,108])
 else[110,117,108,108]
def pD (c:UInt8):Bool:=decide (c<=32)
def Ar (c:UInt8):Bool:= !(c==9||c==10||c==13)
theorem Nd {c:UInt8} (h:pD c=false):Ar c=true:=by
 unfold pD at h;unfold Ar;have Ua:¬c<=32:=of_decide_eq_false h;cases h9:(c==9)
 ·cases Me:(c==10)
  ·cases sw:(c==13)
   ·rfl
   ·exact absurd (by rw[eq_of_beq sw];decide) Ua
  ·exact absurd (by rw[eq_of_beq Me];decide) Ua
 ·exact absurd (by rw[eq_of_beq h9];decide) Ua
theorem oF:∀l:Bs,(l.dropWhile pD).filter Ar=(l.filter Ar).dropWhile pD
 | []=>rfl
 | c::r=>by
   rw[List.dropWhile_cons];cases h:pD c
   ·simp only[Bool.false_eq_true,if_false];rw[List.filter_cons,if_pos (Nd h),List.dropWhile_cons,h]
    simp
   ·simp only[if_true];rw[oF r,List.filter_cons];split
    ·rw[List.dropWhile_cons,if_pos h]
    ·rfl
theorem DU (s:Bs):bK s=(((s.filter Ar).dropWhile pD).reverse.dropWhile pD).reverse:=by
 show(((s.dropWhile pD).reverse.dropWhile pD).reverse).filter Ar=_;rw[List.filter_reverse,oF,List.filter_reverse,oF]
def okE (of:Bs) (c:UInt8):Bool:= !(c<32||126<c||of.contains c)
theorem KY {of l:Bs} (h:l.all (okE of)=true):aj of l=l:=by
 induction l with
 | nil=>rfl
 | cons c r ih=>
   rw[List.all_cons,Bool.and_eq_true]at h;unfold aj at ih⊢;rw[List.flatMap_cons,ih h.2,if_neg]
   ·rfl
   ·have:=h.1;unfold okE at this;intro hh;rw[hh]at this;cases this
theorem zA:∀k:Fin 6,∀d:Fin 16,okE (cm k.val) (dP d.val)=true:=by decide +kernel
theorem Vs:∀k:Fin 6,okE (cm k.val) 37=true:=by decide +kernel
theorem is (k:Nat) (hk:k<6):∀s:Bs,(aj (cm k) s).all (okE (cm k))=true
 | []=>rfl
 | c::r=>by
   have ih:=is k hk r;unfold aj at ih⊢;rw[List.flatMap_cons,List.all_append,ih,Bool.and_true];split
   ·have h1:=zA ⟨k,hk⟩ ⟨c.toNat / 16,by have:=c.toNat_lt;omega⟩;have h2:=zA ⟨k,hk⟩ ⟨c.toNat%16,Nat.mod_lt _ (by omega)⟩;rw[List.all_cons,List.all_cons,List.all_cons,Vs ⟨k,hk⟩,h1,h2];rfl
   ·rename_i h;rw[List.all_cons];unfold okE;simp only[List.all_nil,Bool.and_true];cases hh:(decide (c<32)||decide (126<c)||(cm k).contains c)
    ·rfl
    ·exact absurd hh h
theorem oR {k:UInt8}:∀{s:Bs},k∉s->Lib.index s [k]= -1
 | [],_=>rfl
 | c::r,h=>by
   have hc:([k]:Bs).isPrefixOf (c::r)=false:=by
    simp only[List.isPrefixOf,Bool.and_true];rw[beq_eq_false_iff_ne];intro e;exact h (by rw[e];simp)
   rw[Lib.index,hc,if_neg (by decide),oR (fun hh=>h (List.mem_cons_of_mem _ hh))];rfl
theorem qY {k:UInt8}:∀{a:Bs} (b:Bs),k∉a->Lib.index (a++k::b) [k]=a.length
 | [],b,_=>by
   show Lib.index (k::b) [k]=_;have hc:([k]:Bs).isPrefixOf (k::b)=true:=by simp[List.isPrefixOf]
   rw[Lib.index,hc,if_pos rfl];rfl
 | c::r,b,h=>by
   have hc:([k]:Bs).isPrefixOf (c::(r++k::b))=false:=by
    simp only[List.isPrefixOf,Bool.and_true];rw[beq_eq_false_iff_ne];intro e;exact h (by rw[e];simp)
   have ih:=qY (a:=r) b (fun hh=>h (List.mem_cons_of_mem _ hh));rw[List.cons_append,Lib.index,hc,if_neg (by decide),ih,if_neg]
   ·simp
   ·intro hh;have h0:=eq_of_beq hh;omega
theorem F0 {k:UInt8} {s:Bs} (h:k∉s):Lib.cut s [k]=(s,[],false):=by
 unfold Lib.cut;rw[oR h];rfl
theorem Gi {k:UInt8} {a:Bs} (b:Bs) (h:k∉a):Lib.cut (a++k::b) [k]=(a,b,true):=by
 unfold Lib.cut;rw[qY b h,if_pos (by omega)]
 simp
theorem tr:∀{s:Bs},(64:UInt8)∉s->eQ s=none
 | [],_=>rfl
 | c::r,h=>by
   have hc:(c==64)=false:=by rw[beq_eq_false_iff_ne];intro e;exact h (by rw[e];simp)
   rw[eQ,tr (fun hh=>h (List.mem_cons_of_mem _ hh)),hc];rfl
theorem zK:∀(a:Bs) {b:Bs},(64:UInt8)∉b->eQ (a++64::b)=some (a,b)
 | [],b,h=>by
   show eQ (64::b)=_;rw[eQ,tr h];rfl
 | c::r,b,h=>by
   rw[List.cons_append,eQ,zK r h]
def BI (c:UInt8):Bool:= !pD c&& !(c==35)&& !(c==63)
def Gy (u:ag):UR:=.ok {u with query:=aj (cm (if ai u.scheme then 3 else 2)) u.query,fragment:=aj (cm 1) u.fragment}
theorem Mo (n:Nat):Lib.itoa (n:Int)=Lib.decDigits n:=by
 unfold Lib.itoa;rw[if_neg (by omega)];rfl
def AV (sp:Bool) (p:Bs):Prop:=p.all (okE (cm 4))=true/\eR p=0/\∀c∈p,bz sp c=false
structure pU (sp:Bool) (h:Bs):Prop where
 again:aN h sp=.ok h
 chars:∀c∈h,BI c=true/\c≠64/\bz true c=false/\c<127
 colon:(∀c∈h,c≠58/\c≠91/\c≠93)\/∃x,h=91::(x++[93])/\(93:UInt8)∉x
structure MU (u:ag):Prop where
 s1:u.scheme≠[]
 s2:∀c,u.scheme.head? =some c->bG c=true
 s3:u.scheme.all dM=true
 s4:low u.scheme=u.scheme
 user:u.user.all (okE (cm 5))=true
 pass:u.pass.all (okE (cm 5))=true
 special:ai u.scheme=true->u.hasHost=true/\u.opq=false/\u.path≠[]
 bare:u.hasHost=false->u.user=[]/\u.pass=[]/\u.host=[]/\u.port= -1
 opaqueN:u.opq=true->u.hasHost=false/\∃p:Bs,u.path=[p]/\p.all (okE [])=true/\(35:UInt8)∉p/\(63:UInt8)∉p/\p.head? ≠some 47/\(u.hasQuery=false->u.hasFragment=false->p.getLast? ≠some 32)
 path:u.opq=false->(∀p∈u.path,AV (ai u.scheme) p)/\(u.hasHost=false->u.path≠[])
 drive:u.scheme=bM->∀p,u.path.head? =some p->bL p=true->p.take 1++[58]=p
 host:u.hasHost=true->pU (ai u.scheme) u.host\/(u.scheme=bM/\u.host=[])
 empty:u.host=[]->u.user=[]/\u.pass=[]/\u.port= -1
 needed:ai u.scheme=true->u.scheme≠bM->u.host≠[]
 file:u.scheme=bM->u.user=[]/\u.pass=[]/\u.port= -1/\u.host≠iI/\bL u.host=false
 port:u.port= -1\/∃n:Nat,u.port=n/\n<=65535/\(n:Int)≠gI u.scheme
structure NU (u:ag):Prop extends MU u where
 query:u.query.all (okE (cm (if ai u.scheme then 3 else 2)))=true
 noQuery:u.hasQuery=false->u.query=[]
 fragment:u.fragment.all (okE (cm 1))=true
 noFragment:u.hasFragment=false->u.fragment=[]
theorem rE {a b:ag} (h1:a.scheme=b.scheme) (h2:a.user=b.user) (h3:a.pass=b.pass) (h4:a.hasHost=b.hasHost) (h5:a.host=b.host) (h6:a.port=b.port) (h7:a.opq=b.opq) (h8:a.path=b.path) (h9:a.hasQuery=b.hasQuery) (Me:a.hasFragment=b.hasFragment) (h11:a.query=b.query) (h12:a.fragment=b.fragment):a=b:=by
 cases a;cases b;simp_all
theorem sZ {sp:Bool} {c:UInt8} (h:bz true c=false):bz sp c=false:=by
 cases sp
 ·unfold bz at h⊢;simp only[Bool.true_and,Bool.or_eq_false_iff]at h;rw[h.1];rfl
 ·exact h
def NS (l:List Bs):Bs:=l.flatMap fun p=>47::p
theorem OM (x:UInt8):((47:UInt8)==x)=(some x==some (47:UInt8)):=by
 rw[Bool.eq_iff_iff];simp only[beq_iff_eq,Option.some.injEq];exact eq_comm
theorem yW (s:Bs):Lib.hasPrefix s [47]=(s[0]? ==some 47):=by
 cases s with
 | nil=>rfl
 | cons a r=>
   show((47:UInt8)==a&&true)=(some a==some 47);rw[OM,Bool.and_true]
theorem MR {b:UInt8} {l:Bs} (h:([37,50,101]:Bs).isPrefixOf (b::l)=false):unE (b::l)=b::unE l:=by
 conv=>lhs;unfold unE
 split
 ·rename_i r he;rw[he]at h
  simp[List.isPrefixOf]at h
 ·rename_i c r _ he;injection he with h1 h2
  rw[h1,h2]
 ·rename_i he;cases he
theorem RS (r:Bs):unE (37::50::101::r)=46::unE r:=by
 conv=>lhs;unfold unE
 rfl
theorem NK {s:Bs} (h:([37,50,101]:Bs).isPrefixOf s=true):∃r,s=37::50::101::r:=by
 match s,h with
 | a::b::c::r,h=>
   simp only[List.isPrefixOf,Bool.and_true,Bool.and_eq_true,beq_iff_eq]at h;obtain⟨h1,h2,h3⟩:=h;exact⟨r,by rw[<-h1,<-h2,<-h3]⟩
 | [],h=>simp[List.isPrefixOf]at h
 | [_],h=>simp[List.isPrefixOf]at h
 | [_,_],h=>simp[List.isPrefixOf]at h
theorem zY:∀s:Bs,(Lib.index s [37,50,101]= -1->unE s=s)/\(∀i:Nat,Lib.index s [37,50,101]=i->unE s=s.take i++46::unE (s.drop (i+3)))
 | []=>⟨fun _=>by unfold unE;rfl,fun i h=>by
  have:Lib.index [] ([37,50,101]:Bs)= -1:=rfl;rw[this]at h;omega⟩
 | b::l=>by
   obtain⟨Wy,Yi⟩:=zY l;rw[Lib.index];cases hp:([37,50,101]:Bs).isPrefixOf (b::l)with
   | true=>
     obtain⟨r,hr⟩:=NK hp;simp only[if_true];refine⟨fun h=>by omega,fun i h=>?_⟩;have hi:i=0:=by omega
     subst hi;rw[hr,RS];rfl
   | false=>
     simp only[Bool.false_eq_true,if_false];have Iv:=Lib.index_ge l [37,50,101];by_cases h1:Lib.index l [37,50,101]= -1
     ·rw[h1];refine⟨fun _=>by rw[MR hp,Wy h1],fun i h=>?_⟩;have:((-1:Int)== -1)=true:=rfl;rw[this,if_pos rfl]at h;omega
     ·have hb:(Lib.index l [37,50,101]== -1)=false:=by rw[beq_eq_false_iff_ne];exact h1
      rw[hb];simp only[Bool.false_eq_true,if_false];refine⟨fun h=>by omega,fun i h=>?_⟩;obtain⟨j,rfl⟩:∃j,i=j+1:=⟨i-1,by omega⟩;rw[MR hp,Yi j (by omega)];rfl
theorem rM:∀(f:Nat) (s:Bs),s.length<f->Lib.replaceK [37,50,101] [46] (Lib.countFrom [37,50,101] f s) s=unE s
 | 0,s,h=>by omega
 | f+1,s,h=>by
   obtain⟨h1,h2⟩:=zY s;rw[Lib.countFrom];by_cases hi:Lib.index s [37,50,101]= -1
   ·rw[hi];show Lib.replaceK _ _ 0 s=_;rw[h1 hi];rfl
   ·have Iv:=Lib.index_ge s [37,50,101];obtain⟨i,OX⟩:∃i:Nat,Lib.index s [37,50,101]=i:=⟨(Lib.index s [37,50,101]).toNat,by omega⟩;have hb:(Lib.index s [37,50,101]== -1)=false:=by rw[beq_eq_false_iff_ne];exact hi
    rw[hb];simp only[Bool.false_eq_true,if_false];rw[Nat.add_comm 1,Lib.replaceK_hit _ _ _ _ i OX,OX]
    have hd:(s.drop (i+([37,50,101]:Bs).length)).length<f:=by
     have hs:s≠[]:=by
      rintro rfl;exact hi rfl
     have hl:0<s.length:=by
      cases s with
      | nil=>exact absurd rfl hs
      | cons _ _=>simp
     rw[List.length_drop];show s.length-(i+3)<f;omega
    have ih:=rM f (s.drop (i+([37,50,101]:Bs).length)) hd;have e:((i:Int)).toNat=i:=by omega
    rw[e,ih,h2 i OX]
    simp
theorem EG (s:Bs):Lib.replaceAll s [37,50,101] [46]=unE s:=by
 unfold Lib.replaceAll Lib.replace;rw[if_neg (by decide)];unfold Lib.replaceNum;rw[if_pos (Or.inl (by decide))];exact rM (s.length+1) s (by omega)
end Lz
namespace Go.Proofs.YtecoeebjaleeiaaGreatDoor
open Go.RowKit
theorem rowAt {w:World} {R:Nat} {cs:Array Value} {t:TypeId} {fr:Nat×Nat} (h:w.heap[R]? =some (.cells cs t fr)) (k:Nat) (v:Value) (hv:cs[k]? =some v):w.cell? ⟨R,k,none⟩=some v:=by
 rw[cell_of_row w R k _ _ _ h];exact hv
theorem af {w:World} {R:Nat} {o:Obj} (h:w.heap[R]? =some o):R<w.heap.size:=(Array.getElem?_eq_some_iff.1 h).1
theorem ah (w:World) (o:Obj):(w.alloc o).heap[w.heap.size]? =some o:=by show(w.heap.push _)[w.heap.size]? =_;simp
theorem dm (w:World) (o o2:Obj):((w.alloc o).alloc o2).heap[w.heap.size+1]? =some o2:=by
 have:=ah (w.alloc o) o2
 rwa [show(w.alloc o).heap.size=w.heap.size+1 by simp]at this
theorem aH {B g:Nat} {a w:World} (h:Below B a w) {cs:Array Value} (hg:B<=g):Below B a (w.setRow g cs):=
 ⟨h.os,h.tape,h.output,by rw[show(w.setRow g cs).heap.size=w.heap.size by simp[World.setRow]];exact h.size,fun k hk=>by rw[setRow_other _ _ _ _ (by omega)];exact h.block k hk⟩
theorem fF {w:World} {R:Nat} {cs:Array Value} {t:TypeId} {fr:Nat×Nat} (h:w.heap[R]? =some (.cells cs t fr)) (k:Nat) (v:Value):(w.setCell ⟨R,k,none⟩ v).heap[R]? =some (.cells (cs.setIfInBounds k v) t fr):=by
 rw[setCell_eq_setRow w R k cs _ _ v h];exact setRow_heap _ _ _ _ _ _ h
theorem TkD {P:Program} {md:Region.Mode} {ops:Array Oper} {Q:Exit->Act->World->Prop} {S:World->Prop} {fuel:Nat} {listed:Array Bool} {a:Act} {w:World} (i:Nat) (d:Option Tmp) {oi:Oper} {v:Value} (hi:ops[i]? =some oi) (hd:oi.dst=d) (hy:∀w,S w->(execOp a.eval oi).run P w=.ok (.value v) w) (h:wpAnyH P md ops Q S fuel (listed.setIfInBounds i true) (a.put d v) w) (hs:Region.noSelect ops=true:=by kernel_rfl) (hf:Region.free md ops listed i=true:=by kernel_rfl) (hr:(Region.ready md ops listed).contains i=true:=by kernel_rfl) (hQ:∀c a w,Q (.panic c) (a.put oi.dst v) w->Q (.panic c) a w:=by exact fun _ _ _ h=>h) (hw:Region.wanted oi (yielded ops a.tmps)=true:=by rfl) (hS:S w:=by assumption):wpAnyH P md ops Q S (fuel+1) listed a w:=
 wpAnyH_take hi hs hf hr hQ (Or.inl ⟨hw,hy⟩) hS (by rw[hd];exact h)
theorem TkE {P:Program} {md:Region.Mode} {ops:Array Oper} {Q:Exit->Act->World->Prop} {S:World->Prop} {fuel:Nat} {listed:Array Bool} {a:Act} {w:World} {oi:Oper} {v:Value} (hQ:∀ c a a' w, Q (.panic c) a w->Q (.panic c) a' w) (i d:Nat) (h:wpAnyH P md ops Q S fuel (listed.setIfInBounds i true) (a.put (some d) v) w) (hy:∀ w, S w->(execOp a.eval oi).run P w=.ok (.value v) w) (hi:ops[i]?=some oi:=by rfl) (hd:oi.dst=some d:=by rfl) (hs:Region.noSelect ops=true:=by kernel_rfl) (hf:Region.free md ops listed i=true:=by kernel_rfl) (hr:(Region.ready md ops listed).contains i=true:=by kernel_rfl) (hw:Region.wanted oi (yielded ops a.tmps)=true:=by rfl) (hS:S w:=by assumption):wpAnyH P md ops Q S (fuel+1) listed a w :=TkD i (some d) hi hd hy h hs hf hr (fun _ _ _ h=>hQ _ _ _ _ h) hw hS
theorem TkG {P:Program} {md:Region.Mode} {ops:Array Oper} {Q:Exit->Act->World->Prop} {S:World->Prop} {fuel:Nat} {listed:Array Bool} {a:Act} {w:World} {oi:Oper} {v:Value} (i d:Nat) (h:wpAnyH P md ops Q S fuel (listed.setIfInBounds i true) (a.put (some d) v) w) (hy:∀ w, S w->(execOp a.eval oi).run P w=.ok (.value v) w) (hi:ops[i]?=some oi:=by rfl) (hd:oi.dst=some d:=by rfl) (hs:Region.noSelect ops=true:=by kernel_rfl) (hf:Region.free md ops listed i=true:=by kernel_rfl) (hr:(Region.ready md ops listed).contains i=true:=by kernel_rfl) (hQ:∀ c a w, Q (.panic c) (a.put oi.dst v) w->Q (.panic c) a w:=by exact fun _ _ _ h=>h) (hw:Region.wanted oi (yielded ops a.tmps)=true:=by rfl) (hS:S w:=by assumption):wpAnyH P md ops Q S (fuel+1) listed a w :=TkD i (some d) hi hd hy h hs hf hr hQ hw hS
theorem TnD {P:Program} {md:Region.Mode} {ops:Array Oper} {Q:Exit->Act->World->Prop} {S:World->Prop} {fuel:Nat} {listed:Array Bool} {a:Act} {w:World} (i:Nat) (d:Option Tmp) {oi:Oper} (hi:ops[i]? =some oi) (hd:oi.dst=d) (h:wpAnyH P md ops Q S fuel (listed.setIfInBounds i true) (a.put d undef) w) (hs:Region.noSelect ops=true:=by kernel_rfl) (hf:Region.free md ops listed i=true:=by kernel_rfl) (hr:(Region.ready md ops listed).contains i=true:=by kernel_rfl) (hQ:∀c a w,Q (.panic c) (a.put oi.dst undef) w->Q (.panic c) a w:=by exact fun _ _ _ h=>h) (hw:Region.wanted oi (yielded ops a.tmps)=false:=by rfl) (hS:S w:=by assumption):wpAnyH P md ops Q S (fuel+1) listed a w:=
 wpAnyH_take hi hs hf hr hQ (Or.inr ⟨hw,rfl⟩) hS (by rw[hd];exact h)
theorem bE {w:World} {R:Nat} {cs:Array Value} {t:TypeId} (h:w.heap[R]? =some (.cells cs t (0,0))) (k:Nat):w.frozen? ⟨R,k,none⟩=false:=by simp[World.frozen?,h]
theorem g9 {w:World} {R:Nat} {cs:Array Value} {t:TypeId} {fr:Nat×Nat} (h:w.heap[R]? =some (.cells cs t fr)) (k:Nat) (v:Value) {cs':Array Value} (hc:cs.setIfInBounds k v=cs'):(w.setCell ⟨R,k,none⟩ v).heap[R]? =some (.cells cs' t fr):=by
 rw[setCell_eq_setRow w R k cs _ _ v h,<-hc];exact setRow_heap _ _ _ _ _ _ h
theorem dE {w:World} {p:Addr} {k:Nat} (h:k≠p.block) (v:Value):(w.setCell p v).heap[k]? =w.heap[k]? :=Below.heap_setCell w p v k h
theorem bS (w:World) (p:Addr) (v:Value):w.grownBy (w.setCell p v) (some p.block):=
 ⟨rfl,rfl,rfl,by simp,fun k _ hk=>dE (fun e=>hk (by rw[e])) v⟩
theorem Ln (a:Addr) (j:Nat) (hs:a.spot=none):(a.add j).block=a.block:=by
 obtain⟨G,off,Ip⟩:=a;obtain rfl:Ip=none:=hs;unfold Addr.add;split<;>rfl
theorem fS:(Tryz.prog.info? 9).map (fun i=>(i.zero,i.size,i.bytes))=some (some (.string ⟨#[]⟩),1,16):=by kernel_rfl
def aL (w:World) (B:Nat) (v:Value) (xs:List ByteArray):Prop:=
 w.ownsRow B 9 1 v xs.length (xs.map Value.string)\/
 ∃a:Addr,v=.slice (some a) xs.length xs.length/\a.spot=none/\(∀j u,(xs.map Value.string)[j]? =some u->w.cell? (a.add j)=some u)/\(xs≠[]->∃dB fz,w.heap[a.block]? =some (.cells dB 9 fz))
theorem aL.nil (w:World) (B:Nat):aL w B (.slice none 0 0) []:=.inl (World.ownsRow_nil w B _ _)
theorem aL.kept {w w':World} {B:Nat} {v:Value} {xs:List ByteArray} {row:Option Nat} (h:aL w B v xs) (hg:w.grownBy w' row)
  (hr:∀k,row=some k->∃cs t fr,w.heap[k]? =some (.cells cs t fr)/\t≠9):aL w' B v xs:=by
 rcases h with h|⟨a,rfl,hs,hc,hb⟩
 ·refine .inl (h.kept hg ?_);rcases h.2 with⟨rfl,_⟩|⟨g,cap,dB,rfl,_,hgb,_⟩
  ·exact .inl rfl
  ·refine .inr fun e=>?_;obtain⟨cs,t,fr,h1,h2⟩:=hr g e.symm;rw[hgb]at h1;injection h1 with h1
   injection h1 with _ h3 _
   exact h2 h3.symm
 ·by_cases hx:xs=[]
  ·subst hx;exact .inr ⟨a,rfl,hs,fun j u hj=>by simp at hj,fun h=>absurd rfl h⟩
  ·obtain⟨dB,fz,VX⟩:=hb hx
   have ed:some a.block≠row:=fun e=>by
    obtain⟨cs,t,fr,h1,h2⟩:=hr a.block e.symm;rw[VX]at h1;injection h1 with h1
    injection h1 with _ h3 _
    exact h2 h3.symm
   have hk:=hg.block a.block (af VX) ed;exact .inr ⟨a,rfl,hs,fun j u hj=>(World.cell?_of_block (a:=a.add j) (by rw[Ln a j hs];exact hk)).trans (hc j u hj),fun _=>⟨dB,fz,by rw[hk];exact VX⟩⟩
theorem uf {w w':World} (hb:Below w.heap.size w w'):w.grownBy w' none:=⟨hb.os,hb.tape,hb.output,hb.size,fun k hk _=>hb.block k hk⟩
theorem aL.below {w w':World} {B:Nat} {v:Value} {xs:List ByteArray} (h:aL w B v xs) (hb:Below w.heap.size w w'):aL w' B v xs:=
 h.kept (uf hb) (fun k hk=>by cases hk)
theorem aL.setCell {w:World} {B M:Nat} {v:Value} {xs:List ByteArray} {cs:Array Value} {t:TypeId} {fr:Nat×Nat} (h:aL w B v xs) (hM:w.heap[M]? =some (.cells cs t fr)) (ht:t≠9) (k:Nat) (u:Value):aL (w.setCell ⟨M,k,none⟩ u) B v xs:=
 h.kept (bS w ⟨M,k,none⟩ u) (fun k hk=>by injection hk with hk;subst hk;exact⟨cs,t,fr,hM,ht⟩)
theorem aL.form {w:World} {B:Nat} {v:Value} {xs:List ByteArray} (h:aL w B v xs):∃a c,v=.slice a xs.length c/\xs.length<=c/\∀(j:Nat) (x:ByteArray),xs[j]? =some x->∃G off,a=some ⟨G,off,none⟩/\G<w.heap.size/\w.cell? ⟨G,off+j,none⟩=some (.string x):=by
 rcases h with h|⟨a,rfl,hs,hc,hb⟩
 ·rcases h.2 with⟨rfl,h0⟩|⟨g,cap,dB,rfl,hgb,hg,hn,gL,iZ,gH⟩
  ·refine⟨none,0,by rw[h0],by omega,fun j x hj=>?_⟩;rw[List.eq_nil_of_length_eq_zero h0]at hj
   simp at hj
  ·refine⟨_,cap,rfl,hn,fun j x hj=>⟨g,0,rfl,af hg,?_⟩⟩;have:=h.cells (g:=g) rfl j (.string x) (by rw[List.getElem?_map,hj];rfl);rw[bV]at this;rw[Nat.zero_add];exact this
 ·refine⟨some a,xs.length,rfl,Nat.le_refl _,fun j x hj=>?_⟩;obtain⟨G,off,Ip⟩:=a;obtain rfl:Ip=none:=hs;have:=hc j (.string x) (by rw[List.getElem?_map,hj];rfl);rw[show(⟨G,off,none⟩:Addr).add j=⟨G,off+j,none⟩ by simp[Addr.add]]at this;exact⟨G,off,rfl,World.block_lt_of_cell? _ _ this,this⟩
theorem aL.pop {w:World} {B:Nat} {a:Option Addr} {n c:Nat} {xs:List ByteArray} (h:aL w B (.slice a n c) xs) (hn:1<=xs.length):aL w B (.slice a (n-1) (n-1)) xs.dropLast:=by
 have hl:xs.dropLast.length=n-1:=by
  obtain⟨a',c',e,_⟩:=h.form;injection e with _ e2 _
  rw[List.length_dropLast,e2]
 have Sh:∀(j:Nat) (u:Value),(xs.dropLast.map Value.string)[j]? =some u->(xs.map Value.string)[j]? =some u:=by
  intro j u hj;rw[List.getElem?_map,Option.map_eq_some_iff]at hj;obtain⟨x,hx,rfl⟩:=hj;have nP:=(List.getElem?_eq_some_iff.1 hx).1;rw[List.length_dropLast]at nP;rw[List.getElem?_map,<-List.getElem?_take_of_lt (show j<xs.length-1 from nP),<-List.dropLast_eq_take,hx];rfl
 rcases h with h|⟨p,e,hs,hc,hb⟩
 ·rcases h.2 with⟨e,h0⟩|⟨g,cap,dB,e,hgb,hg,TW,gL,iZ,gH⟩
  ·omega
  ·injection e with e1 e2 e3
   subst e1;exact .inr ⟨⟨g,0,none⟩,by rw[hl],rfl,fun j u hj=>h.cells (g:=g) (by rw[Value.ownBlock]) j u (Sh j u hj),fun _=>⟨dB,(0,0),hg⟩⟩
 ·injection e with e1 e2 e3
  subst e1;exact .inr ⟨p,by rw[hl],hs,fun j u hj=>hc j u (Sh j u hj),fun _=>hb (fun e=>by rw[e]at hn;simp at hn)⟩
section
variable {P:Program} (w:World)
theorem uU (base:Nat) (t ty e:TypeId) (i:TypeInfo) (z:Value) (bytes:Nat) (ht:P.underlying t=some (.slice e)) (hi:P.info? e=some i) (hz:i.zero=some z)
  (TR:i.size=1) (Qc:i.bytes=bytes) (Xc:z.cells.size=1)
  (p:Addr) (n:Nat) (xs:List Value) (Cq:xs.length=n) (Cf:∀j u,xs[j]? =some u->w.cell? (p.add j)=some u)
  (a:Addr) (c:Nat) (x:Value) (hx:w.cell? (a.add 0)=some x)
  (LC:n+1<=maxLen) (VU:(n+1)*bytes<=140737488355328) (fA:base<=w.heap.size):
  ∃v' w',(Builtin.append_ #[t,t] ty #[.slice (some p) n n,.slice (some a) 1 c]).run P w=.ok v' w'/\w'.ownsRow base e 1 v' (n+1) (xs++[x])/\w.grownBy w' none:=by
 have acA:n+1<=9223372036854775807:=by simp only[maxLen]at LC;omega
 have hr:=run_append_grow (P:=P) w t ty e i z ht hi hz p n n xs (by rw[TR,Nat.mul_one];exact Cq) Cf a 1 c [x] (by rw[TR];rfl) (fun j u hj=>by
  have:j<1:=by simpa using(List.getElem?_eq_some_iff.1 hj).1
  obtain rfl:j=0:=by omega
  obtain rfl:x=u:=by simpa using hj
  exact hx) (by omega) (by omega) (growslice_fits (by omega) (by rw[Qc];exact VU))
 refine⟨_,_,hr,⟨by simp[Cq],.inr ⟨w.heap.size,_,_,rfl,fA,heap_alloc_new w.drew _,grownCap_ge _ _ _ _,grownCap_le_maxLen w (n+1) n e LC,?_,?_⟩⟩,⟨rfl,rfl,rfl,by simp,fun k hk _=>Below.heap_alloc w.drew _ k hk⟩⟩
 ·have Iv:=grownCap_ge w (n+1) n e;simp only[Array.size_append,List.size_toArray,size_zeroCells,Xc,Cq,List.length_singleton];omega
 ·simp only[Array.toList_append,List.append_assoc];rw[<-List.append_assoc,show(n+1)*1=(xs++[x]).length by simp[Cq]];exact List.take_left
end
theorem uY (w:World) (base:Nat) (ty:TypeId) (v:Value) (xs:List ByteArray) (au:aL w base v xs) (a:Addr) (c:Nat) (p:ByteArray) (hp:w.cell? (a.add 0)=some (.string p))
  (ba:xs.length<=1000000000) (fA:base<=w.heap.size):
  ∃v' w' row,(Builtin.append_ #[30,30] ty #[v,.slice (some a) 1 c]).run Tryz.prog w=.ok v' w'/\aL w' base v' (xs++[p])/\w.grownBy w' row/\(∀k,row=some k->base<=k/\∃dB fr,w.heap[k]? =some (.cells dB 9 fr)):=by
 obtain⟨i0,hi,fI,ei,eM⟩:=info_parts fS;have hm:(xs++[p]).map Value.string=xs.map Value.string++[.string p]:=by simp
 rcases au with h|⟨q,rfl,hs,hc,hb⟩
 ·have yj:∀j u,[Value.string p][j]? =some u->w.cell? (a.add j)=some u:=fun j u hj=>by
   have:j<1:=by simpa using(List.getElem?_eq_some_iff.1 hj).1
   obtain rfl:j=0:=by omega
   obtain rfl:Value.string p=u:=by simpa using hj
   exact hp
  obtain⟨v',w',hr,h2,h3,_⟩:=run_append_own (P:=Tryz.prog) w base 30 ty 9 i0 (.string ⟨#[]⟩) 1 16 Tryz.underlying30 hi fI ei eM rfl (by decide) v xs.length (xs.map Value.string) h a 1 c [.string p] rfl yj (by simp[Value.oneCell']) (by unfold maxLen;omega) (by omega) fA;refine⟨v',w',v.ownBlock,hr,.inl ?_,h3,fun k hk=>?_⟩
  ·rw[hm,List.length_append];exact h2
  ·rcases h.2 with⟨rfl,_⟩|⟨g,cap,dB,rfl,hgb,hg,_⟩
   ·cases hk
   ·injection hk with hk;subst hk;exact⟨hgb,dB,_,hg⟩
 ·obtain⟨v',w',hr,h2,h3⟩:=uU (P:=Tryz.prog) w base 30 ty 9 i0 (.string ⟨#[]⟩) 16 Tryz.underlying30 hi fI ei eM rfl q xs.length (xs.map Value.string) (by simp) hc a c (.string p) hp (by unfold maxLen;omega) (by omega) fA;refine⟨v',w',none,hr,.inl ?_,h3,fun k hk=>by cases hk⟩;rw[hm,List.length_append];exact h2
def IN (B:Nat) (w:World) (row:Option Nat):Prop:=∀k,row=some k->B<=k/\∃dB fr,w.heap[k]? =some (.cells dB 9 fr)
theorem dC (w:World) {ops:Array Oper} {rest:List Oper} {o:Oper} {a:Act} {Q:Exit->Act->World->Prop} (L4:o.guard=none) (s x:Operand)
  (ho:o.op=.call {callee:=.builtin .append,args:= #[s,x],argTypes:= #[30,30]})
  (base:Nat) (v:Value) (xs:List ByteArray) (hs:a.eval s=v) (au:aL w base v xs) (ad:Addr) (c:Nat) (p:ByteArray) (hx:a.eval x=.slice (some ad) 1 c) (hp:w.cell? (ad.add 0)=some (.string p))
  (ba:xs.length<=1000000000) (fA:base<=w.heap.size)
  (h:∀g n' c' w' row,aL w' base (.slice (some g) n' c') (xs++[p])->w.grownBy w' row->IN base w row->wpList Tryz.prog ops Q rest (a.put o.dst (.slice (some g) n' c')) w'):
  wpList Tryz.prog ops Q (o::rest) a w:=by
 refine wpList_plain L4 fun K hK=>?_;obtain⟨v',w',row,hr,h2,h3,h4⟩:=uY w base o.type v xs au ad c p hp ba fA;obtain⟨g,c',rfl,_,aA⟩:=h2.form;obtain⟨G,off,rfl,_,_⟩:=aA xs.length p (by simp);unfold Oper.wp execOp;simp only[ho,resolve,invoke,builtin,Sem.run_bind,Sem.run_pure,Result.andThen_ok,List.map_toArray,List.map_cons,List.map_nil,hs,hx,hr];exact hK _ _ (h _ _ _ w' row h2 h3 h4)
structure MkV where
 sch:ByteArray
 usr:ByteArray
 pas:ByteArray
 hh:Bool
 hst:ByteArray
 prt:Int
 opq:Bool
 pv:Value
 xs:List ByteArray
 hq:Bool
 hf:Bool
 qry:ByteArray
 frg:ByteArray
def MkV.url (x:MkV):Lz.ag:=⟨x.sch.data.toList,x.usr.data.toList,x.pas.data.toList,x.hh,x.hst.data.toList,x.prt,x.opq,x.xs.map (·.data.toList),x.hq,x.hf,x.qry.data.toList,x.frg.data.toList⟩
def bp (sp:Bool):ByteArray:=if sp then⟨#[47,92]⟩else⟨#[47]⟩
structure nT (B M:Nat) (w:World) (x:MkV) (sp:Bool) (sl:ByteArray):Prop where
 row:w.heap[M]? =some (.cells #[.string x.sch,.string x.usr,.string x.pas,.bool x.hh,.string x.hst,.int .i64 x.prt,.bool x.opq,x.pv,.bool x.hq,.bool x.hf,.string x.qry,.string x.frg,.bool sp,.string sl] 69 (0,0))
 own:aL w B x.pv x.xs
 le:B<=M
def dS (B M:Nat) (w:World) (u:Lz.ag):Prop:=∃x,nT B M w x (Lz.ai x.sch.data.toList) (bp (Lz.ai x.sch.data.toList))/\Hid (x.url=u)
theorem nT.below {B M:Nat} {w w':World} {x:MkV} {sp:Bool} {sl:ByteArray} (h:nT B M w x sp sl) (hb:Below w.heap.size w w'):nT B M w' x sp sl:=
 ⟨by rw[hb.block M (af h.row)];exact h.row,h.own.below hb,h.le⟩
theorem dS.below {B M:Nat} {w w':World} {u:Lz.ag} (h:dS B M w u) (hb:Below w.heap.size w w'):dS B M w' u:=by
 obtain⟨x,hx,hu⟩:=h;exact⟨x,hx.below hb,hu⟩
theorem dS.form {B M:Nat} {w:World} {u:Lz.ag} (h:dS B M w u):∃(sch usr pas:ByteArray) (hh:Bool) (hst:ByteArray) (prt:Int) (opq:Bool) (a:Option Addr) (c:Nat) (xs:List ByteArray) (hq hf:Bool) (qry frg:ByteArray),
  nT B M w ⟨sch,usr,pas,hh,hst,prt,opq,.slice a xs.length c,xs,hq,hf,qry,frg⟩ (Lz.ai sch.data.toList) (bp (Lz.ai sch.data.toList))/\
  u=⟨sch.data.toList,usr.data.toList,pas.data.toList,hh,hst.data.toList,prt,opq,xs.map (fun x:ByteArray=>x.data.toList),hq,hf,qry.data.toList,frg.data.toList⟩/\xs.length<=c/\
  ∀(j:Nat) (x:ByteArray),xs[j]? =some x->∃G off,a=some ⟨G,off,none⟩/\G<w.heap.size/\w.cell? ⟨G,off+j,none⟩=some (.string x):=by
 obtain⟨⟨sch,usr,pas,hh,hst,prt,opq,pv,xs,hq,hf,qry,frg⟩,hm,hu⟩:=h;obtain⟨a,c,Ma,hc,aA⟩:=hm.own.form;have Wv:pv=.slice a xs.length c:=Ma;subst Wv;exact⟨sch,usr,pas,hh,hst,prt,opq,a,c,xs,hq,hf,qry,frg,hm,hu.out.symm,hc,aA⟩
def RMk (B M:Nat) (u:Lz.ag) (w:World) (e:Ending) (w':World):Prop:=e=.returned (.tuple #[])/\Below B w w'/\dS B M w' u
theorem rY:69≠9:=by decide
theorem BS {B:Nat} {a w w':World} {row:Option Nat} (h:Below B a w) (hg:w.grownBy w' row) (hB:B<=w.heap.size) (hr:IN B w row):Below B a w':=
 h.grown hg hB fun k hk=>(hr k hk).1
theorem Gw {w w':World} {row:Option Nat} {B M:Nat} {cs:Array Value} (hM:w.heap[M]? =some (.cells cs 69 (0,0))) (hg:w.grownBy w' row) (hr:IN B w row):w'.heap[M]? =some (.cells cs 69 (0,0)):=by
 rw[hg.block M (af hM) (fun e=>?_)]
 ·exact hM
 ·obtain⟨_,dB,fr,h1⟩:=hr M e.symm;rw[hM]at h1;injection h1 with h1
  injection h1 with _ h2 _
  exact rY h2
end Go.Proofs.YtecoeebjaleeiaaGreatDoor
namespace Lz
open Go
theorem Af {r:UR} {f:ag->UR} {u v:ag} (hr:∀x,r=.ok x->x.path=u.path/\x.scheme=u.scheme) (hf:∀x y,f x=.ok y->y.path=x.path/\y.scheme=x.scheme) (h:r.bind f=.ok v):v.path=u.path/\v.scheme=u.scheme:=by
 cases r with
 | er n=>cases h
 | ok x=>exact⟨((hf x v h).1).trans (hr x rfl).1,((hf x v h).2).trans (hr x rfl).2⟩
theorem qo {u v:ag} {s:Bs} (h:eI u s=.ok v):v.path=u.path/\v.scheme=u.scheme:=by
 unfold eI at h;split at h
 ·cases h
 ·injection h with h;subst h;exact⟨rfl,rfl⟩
theorem xp {u v:ag} {s:Bs} (h:ey u s=.ok v):v.path=u.path/\v.scheme=u.scheme:=by
 unfold ey at h;split at h
 ·cases h
 ·split at h
  ·cases h
  ·split at h<;>(injection h with h;subst h;exact⟨rfl,rfl⟩)
theorem oB {u v:ag} {s:Bs} (h:eZ u s=.ok v):v.path=u.path/\v.scheme=u.scheme:=by
 unfold eZ at h;split at h
 ·split at h
  ·cases h
  ·exact Af (fun x hx=>qo hx) (fun x y hy=>xp hy) h
 ·split at h
  ·cases h
  ·exact Af (fun x hx=>qo hx) (fun x y hy=>xp hy) h
theorem GM {u v:ag} {s:Bs} (h:jj u s=.ok v):v.path=u.path/\v.scheme=u.scheme:=by
 unfold jj at h;split at h
 ·split at h
  ·cases h
  ·exact⟨(oB h).1,(oB h).2⟩
 ·exact oB h
end Lz
namespace Go.Proofs.YtecoeebjaleeiaaGreatDoor
open Go.RowKit
theorem EP (w:World):(callFunc 233 #[]).run Tryz.prog w=.ok (.value (.tuple #[])) w:=run_call_mark0 Tryz.func233 (by kernel_rfl) (by kernel_rfl) (by kernel_rfl) .disable (by kernel_rfl) w
theorem I9 (w:World):(callFunc 235 #[]).run Tryz.prog w=.ok (.value (.tuple #[])) w:=run_call_mark0 Tryz.func235 (by kernel_rfl) (by kernel_rfl) (by kernel_rfl) .enable (by kernel_rfl) w
theorem Nk (a:Addr) (w:World):(callFunc 236 #[.pointer (some a)]).run Tryz.prog w=.ok (.value (.tuple #[])) w:=run_call_marked Tryz.func236 (by kernel_rfl) (by kernel_rfl) (by kernel_rfl) .acquire (by kernel_rfl) a w
theorem On (a:Addr) (w:World):(callFunc 238 #[.pointer (some a)]).run Tryz.prog w=.ok (.value (.tuple #[])) w:=run_call_marked Tryz.func238 (by kernel_rfl) (by kernel_rfl) (by kernel_rfl) .releaseMerge (by kernel_rfl) a w
theorem Nv (a:Addr) (x:Value) (u:FrameMode) (w:World) (hc:w.cell? a=some x) (hz:w.frozen? a=false):
  CallsD Tryz.prog 163 #[.pointer (some a),.bool true] u w fun e u' w'=>u'=u/\(e=.returned (.tuple #[])/\w'=w.drew.setCell a (.int .u32 1)):=by
 have Ch:w.drew.cell? a=some x:=by go_simp
 have hz':w.drew.frozen? a=false:=by go_simp
 have hst:=run_call_store (P:=Tryz.prog) Tryz.func198 (by kernel_rfl) (by kernel_rfl) (by kernel_rfl) (by kernel_rfl) (k:=.u32) (y:=1) Ch hz'
 go_enter_d Tryz.func163,Tryz.ntmps163
 go_wp2
 go_region_calls
 all_goals (go_end0;exact⟨rfl,rfl⟩)
theorem Jh (a:Addr) (u:FrameMode) (w:World) (hc:w.cell? a=some (.int .i32 1)) (hz:w.frozen? a=false):
  CallsD Tryz.prog 162 #[.pointer (some a)] u w fun e u' w'=>u'=u/\(e=.returned (.tuple #[])/\w'=w.setCell a (.int .i32 0)):=by
 have hd:=EP;have he:=I9;have hr:=On;have aai:=run_call_add (P:=Tryz.prog) Tryz.func239 (by kernel_rfl) (by kernel_rfl) (by kernel_rfl) .i32 (by kernel_rfl) (y:= -1) (s:=0) hc hz (by simp[go_sem];rfl);have pJ:=run_convert_to_unsafe (P:=Tryz.prog) (src:=296) (dst:=160) Tryz.underlying296 Tryz.underlying160 (by kernel_rfl) hc
 go_enter_d Tryz.func162,Tryz.ntmps162
 go_wp2
 go_end0
 go_wp2
 go_end0
 exact⟨rfl,rfl⟩
theorem SW (a:Addr) (w:World) (hc:w.cell? a=some (.int .i32 0)) (hz:w.frozen? a=false):
  Calls Tryz.prog 161 #[.pointer (some a)] w fun e w'=>e=.returned (.tuple #[])/\w'=w.setCell a (.int .i32 1):=by
 have hd:=EP;have he:=I9;have ha:=Nk;have ac0:=run_call_cas_hit (P:=Tryz.prog) Tryz.func234 (by kernel_rfl) (by kernel_rfl) (by kernel_rfl) .i32 (by kernel_rfl) (y:=1) hc hz;have Ch:(w.setCell a (.int .i32 1)).cell? a=some (.int .i32 1):=World.cell?_setCell_same w a _ hc;have pJ:=run_convert_to_unsafe (P:=Tryz.prog) (src:=296) (dst:=160) Tryz.underlying296 Tryz.underlying160 (by kernel_rfl) Ch;go_enter Tryz.func161,Tryz.ntmps161
 go_wp2
 first |go_end0|(simp only[Exit.inBlock,Exit.then];refine bodyPost_ret (results_none rfl _ _ _) rfl ?_)|refine bodyPost_ret (results_none rfl _ _ _) rfl ?_
 go_wp2
 go_end0
 exact⟨rfl,rfl⟩
structure jk (w:World) (g:Nat):Prop where
 row:∃cs:Array Value,w.heap[g]? =some (.cells cs 215 (0,0))/\(∀k:Nat,k<256->(if k=9\/k=10\/k=13 then ∃A c,cs[k]? =some (.slice (some A) 0 c)else cs[k]? =some (.slice none 0 0)))/\
  ∃G c LY,cs[256]? =some (.slice (some ⟨G,0,none⟩) 3 c)/\w.heap[G]? =some (.cells LY 9 (0,0))/\LY[0]? =some (.string ⟨#[13]⟩)/\LY[1]? =some (.string ⟨#[10]⟩)/\LY[2]? =some (.string ⟨#[9]⟩)
theorem jk.kept {w w':World} {g:Nat} (h:jk w g) (hk:∀(k:Nat) (cs:Array Value) (t:TypeId),w.heap[k]? =some (.cells cs t (0,0))->t=215\/t=9->w'.heap[k]? =w.heap[k]?):jk w' g:=by
 obtain⟨cs,h1,h2,G,c,LY,h3,h4,h5⟩:=h.row;exact⟨cs,by rw[hk g cs _ h1 (.inl rfl)];exact h1,h2,G,c,LY,h3,by rw[hk G LY _ h4 (.inr rfl)];exact h4,h5⟩
def bP (w:World) (b:Nat) (d s e:Int) (rv ov:Value):Prop:=w.heap[b]? =some (.cells #[.int .u32 d,.int .i32 s,.int .u32 e,rv,ov] 147 (0,0))
theorem jk.set {w:World} {g b:Nat} {d s e:Int} {rv ov:Value} (h:jk w g) (hr:bP w b d s e rv ov) (k:Nat) (v:Value):jk (w.setCell ⟨b,k,none⟩ v) g:=
 h.kept fun j _ _ hj ht=>dE (fun e=>by
  have e':j=b:=e;rw[e',show w.heap[b]? =_ from hr]at hj;injection hj with hj
  injection hj with _ h2 _
  rcases ht with ht|ht<;>(rw[ht]at h2;exact absurd h2 (by decide))) v
theorem jk.below {w w':World} {g:Nat} (h:jk w g) (hb:Below w.heap.size w w'):jk w' g:=h.kept fun j _ _ hj _=>hb.block j (af hj)
theorem bP.set {w:World} {b:Nat} {d s e:Int} {rv ov:Value} (h:bP w b d s e rv ov) (k:Nat) (v:Value) {d' s':Int} {rv' ov':Value} (hc:(#[.int .u32 d,.int .i32 s,.int .u32 e,rv,ov]:Array Value).setIfInBounds k v= #[.int .u32 d',.int .i32 s',.int .u32 e,rv',ov']):bP (w.setCell ⟨b,k,none⟩ v) b d' s' e rv' ov':=g9 h k v hc
def mZ (B b:Nat) (d s e:Int) (w:World) (w':World):Prop:=Below B w w'/\∃g,bP w' b d s e (.iface 216 (.pointer (some ⟨g,0,none⟩))) (.slice none 0 0)/\jk w' g
theorem YF (B b:Nat) (e:Int) (rv ov:Value) (w:World) (tK:B<=b) (aZ:bP w b 0 0 e rv ov)
  (cB:∀W,Below B w W->W=w.setCell ⟨b,1,none⟩ (.int .i32 1)->Calls Tryz.prog 86 #[.pointer (some ⟨b,0,none⟩)] W fun e' W'=>e'=.returned (.tuple #[])/\mZ B b 0 1 e W W'):
  Calls Tryz.prog 130 #[.pointer (some ⟨b,0,none⟩),.func (.func 86) #[.pointer (some ⟨b,0,none⟩)] #[]] w fun e' w'=>e'=.returned (.tuple #[])/\mZ B b 1 0 e w w':=by
 have c0:=rowAt aZ 0 (.int .u32 0) rfl;have c1:=rowAt aZ 1 (.int .i32 0) rfl;have f0:=bE aZ 0;have f1:=bE aZ 1;have hl:=run_call_load (P:=Tryz.prog) Tryz.func160 (by kernel_rfl) (by kernel_rfl) (by kernel_rfl) .u32 (by kernel_rfl) (w:=w.setCell ⟨b,1,none⟩ (.int .i32 1)) (a:=⟨b,0,none⟩) (x:=0) ((World.cell?_setCell_other _ ⟨b,1,none⟩ ⟨b,0,none⟩ _ (by simp)).trans c0);have Xa:∀(x:Bool) (w:World),(Op.unary .not (.bool x)).run Tryz.prog w=.ok (.bool (!x)) w:=fun _ _=>rfl;have ar:Below B w (w.setCell ⟨b,1,none⟩ (.int .i32 1)):=(Below.refl B w).setCell (p:=⟨b,1,none⟩) tK _;have CB:=Ih (cB _ ar rfl);have Hb1:=Ih ar;clear cB ar
 go_enter_defers Tryz.func130,Tryz.ntmps130
 go_wp2_with (first |(go_at_call 161;refine(SW ⟨b,1,none⟩ _ (by go_simp) (by go_simp)).mono ?_;rintro e w' ⟨rfl,rfl⟩)|(go_at_call 129;go_in)|(go_at_call 86;refine CB.out.mono ?_;rintro e2 w2 ⟨rfl,uM⟩))
 obtain⟨aK,g,bB,vq⟩:=uM;have d0:=rowAt bB 0 (.int .u32 0) rfl;have d1:=rowAt bB 1 (.int .i32 1) rfl;have z0:=bE bB 0;have z1:=bE bB 1;have oZ:bP (w2.drew.setCell ⟨b,0,none⟩ (.int .u32 1)) b 1 1 e (.iface 216 (.pointer (some ⟨g,0,none⟩))) (.slice none 0 0):=bP.set (w:=w2.drew) bB 0 (.int .u32 1) (by simp);have o8:jk (w2.drew.setCell ⟨b,0,none⟩ (.int .u32 1)) g:=jk.set (w:=w2.drew) (vq.kept fun _ _ _ _ _=>rfl) bB 0 _;have Co:=bP.set oZ 1 (.int .i32 0) (d':=1) (s':=0) (rv':=.iface 216 (.pointer (some ⟨g,0,none⟩))) (ov':=.slice none 0 0) (by simp);have Pn:=jk.set o8 oZ 1 (.int .i32 0);refine leaves_cons (f:=163) (args:= #[.pointer (some ⟨b,0,none⟩),.bool true]) (by simp) (by simp[go_sem]) ?_;refine(Nv ⟨b,0,none⟩ (.int .u32 0) .returning _ d0 z0).mono ?_;rintro e3 u3 w3 ⟨rfl,rfl,rfl⟩;refine leaves_cons (f:=162) (args:= #[.pointer (some ⟨b,1,none⟩)]) (by simp[settle]) (by simp[go_sem]) ?_;refine(Jh ⟨b,1,none⟩ _ _ (rowAt oZ 1 _ rfl) (bE oZ 1)).mono ?_;rintro e3 u3 w3 ⟨rfl,rfl,rfl⟩
 have Wa:Below B w ((w2.drew.setCell ⟨b,0,none⟩ (.int .u32 1)).setCell ⟨b,1,none⟩ (.int .i32 0)):=((Hb1.out.trans aK).drew.setCell (p:=⟨b,0,none⟩) tK _).setCell (p:=⟨b,1,none⟩) tK _;have HF:Hid (mZ B b 1 0 e w ((w2.drew.setCell ⟨b,0,none⟩ (.int .u32 1)).setCell ⟨b,1,none⟩ (.int .i32 0))):=⟨Wa,g,Co,Pn⟩;clear bB oZ Co vq o8 Pn Wa
 simp[Leaves,settle,results,Tryz.results130]
 exact HF.out
theorem doO (B b:Nat) (e:Int) (rv ov:Value) (w:World) (tK:B<=b) (aZ:bP w b 0 0 e rv ov)
  (cB:∀W,Below B w W->W=w.setCell ⟨b,1,none⟩ (.int .i32 1)->Calls Tryz.prog 86 #[.pointer (some ⟨b,0,none⟩)] W fun e' W'=>e'=.returned (.tuple #[])/\mZ B b 0 1 e W W'):
  Calls Tryz.prog 85 #[.pointer (some ⟨b,0,none⟩),.func (.func 86) #[.pointer (some ⟨b,0,none⟩)] #[]] w fun e' w'=>e'=.returned (.tuple #[])/\mZ B b 1 0 e w w':=by
 have c0:=rowAt aZ 0 (.int .u32 0) rfl;have hl:=run_call_load (P:=Tryz.prog) Tryz.func160 (by kernel_rfl) (by kernel_rfl) (by kernel_rfl) .u32 (by kernel_rfl) c0;have Xa:∀(x:Bool) (w:World),(Op.unary .not (.bool x)).run Tryz.prog w=.ok (.bool (!x)) w:=fun _ _=>rfl;have cS:=Ih (YF B b e rv ov w tK aZ cB);clear cB;go_enter Tryz.func85,Tryz.ntmps85
 go_wp2_with (first |(go_at_call 130;refine cS.out.mono ?_;rintro e w' ⟨rfl,uM⟩)|(go_at_call 129;go_in))
 go_end0
 exact⟨rfl,uM⟩
end Go.Proofs.YtecoeebjaleeiaaGreatDoor
namespace Go.Proofs
open Go.Shelf
def Tryz.lays138_ren:Go.Shelf.Ren:=⟨fun|138=>80|195=>121|218=>123|143=>81|219=>82|217=>107|225=>124|224=>125|267=>126|266=>141|314=>158|n=>n,fun|9=>9|3=>3|4=>4|5=>5|0=>0|46=>113|146=>200|51=>135|n=>n,fun|1=>2|n=>n⟩
theorem Tryz.lays138:Go.Proofs.Lays.n138 Tryz.prog Tryz.lays138_ren:=by repeat' first |kernel_rfl|(intro w;rfl)|(intro w;kernel_rfl)|decide|constructor
open Go.RowKit Go.Lib in
theorem Tryz.strings_Count_one (s:ByteArray) (c:UInt8) (w:World):
 Calls Tryz.prog 80 #[.string s,.string ⟨#[c]⟩] w fun e w'=>e=.returned (.int .i64 (Lib.countByte s.data.toList c))/\w'=w:=Any.strings_Count_one Tryz.lays138 s c w
end Go.Proofs
namespace Go.Proofs.YtecoeebjaleeiaaGreatDoor
open Go.RowKit
theorem BC (s:ByteArray) (c:UInt8) (w:World):Calls Tryz.prog 80 #[.string s,.string ⟨#[c]⟩] w fun e w'=>e=.returned (.int .i64 ((s.data.toList.count c:Nat):Int))/\w=w':=
 (Tryz.strings_Count_one s c w).mono fun _ _ ⟨h1,h2⟩=>⟨h1,h2.symm⟩
end Go.Proofs.YtecoeebjaleeiaaGreatDoor
