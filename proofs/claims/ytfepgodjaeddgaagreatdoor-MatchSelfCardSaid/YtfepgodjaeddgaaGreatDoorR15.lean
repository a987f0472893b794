/-
  strings.Count at one byte.
-/
import Derived.Test.YtfepgodjaeddgaaGreatDoorR14
import Derived.Test.YtfepgodjaeddgaaGreatDoorR06
import Derived.Deep.RegionHeld3
import Derived.Deep.AppendLies
import Derived.Deep.DrawnRows
import Derived.Lib.QuoteLoop
set_option maxHeartbeats 2000000
set_option maxRecDepth 100000
namespace Lz
open Go
structure UrlL where
 scheme:Bs:=[]
 user:Bs:=[]
 pass:Bs:=[]
 hasHost:Bool:=false
 host:Bs:=[]
 port:Int:= -1
 opq:Bool:=false
 path:List Bs:=[]
 hasQuery:Bool:=false
 hasFragment:Bool:=false
 query:Bs:=[]
 fragment:Bs:=[]
 deriving DecidableEq,Repr
inductive UR where
 | ok (u:UrlL)
 | er (n:Nat)
 deriving DecidableEq,Repr
def UR.bind:UR->(UrlL->UR)->UR
 | .ok u,f=>f u
 | .er n,_=>.er n
def httpS:Bs:=[104,116,116,112]
def httpsS:Bs:=[104,116,116,112,115]
def wsS:Bs:=[119,115]
def wssS:Bs:=[119,115,115]
def ftpS:Bs:=[102,116,112]
def fileS:Bs:=[102,105,108,101]
def blobS:Bs:=[98,108,111,98]
def defP (s:Bs):Int:=if s=httpS\/s=wsS then 80 else if s=httpsS\/s=wssS then 443 else if s=ftpS then 21 else -1
def specP (s:Bs):Bool:=s==fileS|| !(defP s== -1)
def slashQ (sp:Bool) (c:UInt8):Bool:=c==47||(sp&&c==92)
def setU:Nat->Bs
 | 1=>[32,34,60,62,96]
 | 2=>[32,34,35,60,62]
 | 3=>[32,34,35,60,62,39]
 | 4=>[32,34,35,60,62,63,94,96,123,125]
 | 5=>[32,34,35,60,62,63,94,96,123,125,47,58,59,61,64,91,92,93,124]
 | _=>[]
def driveP:Bs->Bool
 | [a,b]=>isAlpha a&&(b==58||b==124)
 | _=>false
def drivenP:Bs->Bool
 | [a,b]=>isAlpha a&&(b==58||b==124)
 | a::b::c::_=>isAlpha a&&(b==58||b==124)&&(c==47||c==92)
 | _=>false
def rootedP:List Bs->Bool
 | p::_=>driveP p&&p[1]? ==some 58
 | []=>false
def shortP (scheme:Bs) (l:List Bs):List Bs:=if scheme=fileS/\l.length=1/\rootedP l=true then l else l.dropLast
def unE:Bs->Bs
 | 37::50::101::r=>46::unE r
 | c::r=>c::unE r
 | []=>[]
def dotsP (p:Bs):Nat:=if unE (low p)=[46]then 1 else if unE (low p)=[46,46]then 2 else 0
def cutS (sp:Bool) (s:Bs):Bs×Bs×Bool:=(s.takeWhile fun c=> !slashQ sp c,(s.dropWhile fun c=> !slashQ sp c).drop 1,s.any (slashQ sp))
def splitS (sp:Bool):Bs->List Bs
 | []=>[[]]
 | c::r=>if slashQ sp c then[]::splitS sp r else match splitS sp r with
   | h::t=>(c::h)::t
   | []=>[[c]]
def onL (scheme:Bs):List Bs->List Bs->List Bs
 | path,[]=>path
 | path,p::r=>
   let q:=encodeP (setU 4) p
   if dotsP q=2 then onL scheme (if r=[]then shortP scheme path++[[]]else shortP scheme path) r
   else if dotsP q=1 then onL scheme (if r=[]then path++[[]]else path) r
   else onL scheme (path++[if scheme=fileS/\path=[]/\driveP q=true then q.take 1++[58]else q]) r
def onP (u:UrlL) (t:Bs):UrlL:={u with path:=onL u.scheme u.path (splitS (specP u.scheme) t)}
def colonP:Bool->Bs->Option Nat
 | _,[]=>none
 | i,c::r=>if c==91 then(colonP true r).map (·+1)else if c==93 then(colonP false r).map (·+1)else if c==58&& !i then some 0 else(colonP i r).map (·+1)
def portN:Nat->Bs->Option Nat
 | n,[]=>some n
 | n,c::r=>if isDigit c then portN (min (10*n+(c.toNat-48)) 1048576) r else none
def portU (u:UrlL) (s:Bs):UR:=match portN 0 s with
 | none=>.er 81
 | some n=>if 65535<n then .er 81 else .ok (if s≠[]/\(n:Int)≠defP u.scheme then{u with port:=n} else u)
def hostU (u:UrlL) (s:Bs):UR:=match hostPr s (specP u.scheme)with
 | .er n=>.er n
 | .ok h=>.ok {u with host:=h,hasHost:=true}
def lastAt:Bs->Option (Bs×Bs)
 | []=>none
 | c::r=>match lastAt r with
   | some (x,y)=>some (c::x,y)
   | none=>if c==64 then some ([],r)else none
def whoU (u:UrlL) (a:Bs):UrlL:={u with user:=encodeP (setU 5) (Lib.cut a [58]).1,pass:=encodeP (setU 5) (Lib.cut a [58]).2.1}
def placeU (u:UrlL) (a:Bs):UR:=match colonP false a with
 | some i=>if a.take i=[]then .er 70 else(hostU u (a.take i)).bind fun u=>portU u (a.drop (i+1))
 | none=>if a=[]/\specP u.scheme=true then .er 70 else(hostU u a).bind fun u=>portU u []
def authU (u:UrlL) (a:Bs):UR:=match lastAt a with
 | some (x,y)=>if y=[]then .er 70 else placeU (whoU u x) y
 | none=>placeU u a
def hostedU (u:UrlL) (r:Bs):UR:=
 let c:=cutS (specP u.scheme) r
 (authU u c.1).bind fun u=>.ok (if c.2.2||specP u.scheme then onP u c.2.1 else u)
def restU (u b:UrlL):UrlL:={u with user:=b.user,pass:=b.pass,hasHost:=b.hasHost,host:=b.host,port:=b.port}
def pathU (u b:UrlL) (r:Bs):UrlL:=
 if r≠[]then onP {u with path:=shortP u.scheme b.path} r
 else if u.hasQuery then{u with path:=b.path} else{u with path:=b.path,query:=b.query,hasQuery:=b.hasQuery}
def leadS (sp:Bool) (r:Bs):Nat:=(r.takeWhile (slashQ sp)).length
def relU (u b:UrlL) (r:Bs):UR:=
 let n:=leadS (specP u.scheme) r
 if 1<n then hostedU u (if specP u.scheme then r.drop n else r.drop 2)
 else if n=1 then .ok (onP (restU u b) (r.drop 1))
 else .ok (pathU (restU u b) b r)
def localS:Bs:=[108,111,99,97,108,104,111,115,116]
def filesU (u:UrlL) (b:Option UrlL) (r:Bs):UR:=
 let u:UrlL:={u with hasHost:=true}
 let n:=leadS true r
 if 1<n then
  let c:=cutS true (r.drop 2)
  if driveP c.1 then .ok (onP u (r.drop 2))
  else(if c.1=[]then UR.ok u else hostU u c.1).bind fun u=>.ok (onP (if u.host=localS then{u with host:=[]} else u) c.2.1)
 else if n=1 then
  .ok (onP (match b with
   | some x=>if x.scheme=fileS then(if drivenP (r.drop 1)=false/\rootedP x.path=true then{u with host:=x.host,path:=x.path.take 1} else{u with host:=x.host})else u
   | none=>u) (r.drop 1))
 else match b with
  | some x=>if x.scheme=fileS then(if drivenP r then .ok (onP {u with host:=x.host} r)else .ok (pathU {u with host:=x.host} x r))else .ok (onP u r)
  | none=>.ok (onP u r)
def schemeC (c:UInt8):Bool:=isAlpha c||isDigit c||c==43||c==45||c==46
def schemedP (s:Bs):Bs×Bs×Bool:=
 let c:=Lib.cut s [58]
 if c.2.2&& !c.1.isEmpty&&(match c.1 with|a::_=>isAlpha a|[]=>false)&&c.1.all schemeC then(low c.1,c.2.1,true)else([],s,false)
def cleanP (s:Bs):Bs:=(((s.dropWhile (·<=32)).reverse.dropWhile (·<=32)).reverse).filter fun c=> !(c==9||c==10||c==13)
def mainU (u:UrlL) (s:Bs) (b:Option UrlL):UR:=
 let c:=schemedP s
 if c.2.2 then
  let u:UrlL:={u with scheme:=c.1}
  if c.1=fileS then filesU u b c.2.1
  else if specP c.1 then(match b with
   | some x=>if x.scheme=c.1/\Lib.hasPrefix c.2.1 [47,47]=false then relU u x c.2.1 else hostedU u (c.2.1.drop (leadS true c.2.1))
   | none=>hostedU u (c.2.1.drop (leadS true c.2.1)))
  else if Lib.hasPrefix c.2.1 [47,47]then hostedU u (c.2.1.drop 2)
  else if Lib.hasPrefix c.2.1 [47]then .ok (onP u (c.2.1.drop 1))
  else .ok {u with opq:=true,path:=[encodeP [] c.2.1]}
 else match b with
  | none=>.er 82
  | some x=>
    if x.opq&&(!s.isEmpty||u.hasQuery|| !u.hasFragment)then .er 82
    else
     let u:UrlL:={u with scheme:=x.scheme}
     if x.opq then .ok (pathU {u with opq:=true} x [])
     else if x.scheme=fileS then filesU u b s
     else relU u x s
def readU (s:Bs) (b:Option UrlL):UR:=
 let f:=Lib.cut (cleanP s) [35]
 let q:=Lib.cut f.1 [63]
 (mainU {query:=q.2.1,hasQuery:=q.2.2,fragment:=f.2.1,hasFragment:=f.2.2} q.1 b).bind fun u=>
  .ok {u with query:=encodeP (setU (if specP u.scheme then 3 else 2)) u.query,fragment:=encodeP (setU 1) u.fragment}
def atU (u:UrlL):Bs:=if u.port= -1 then u.host else u.host++[58]++Lib.itoa u.port
def textU (u:UrlL):Bs:=
 u.scheme++[58]++
 (if u.hasHost then[47,47]++u.user++(if u.pass=[]then[]else[58]++u.pass)++(if u.user=[]/\u.pass=[]then[]else[64])++atU u
  else if u.opq=false/\1<u.path.length/\u.path.head? =some []then[47,46]else[])++
 (if u.opq then u.path.headD []else u.path.flatMap fun p=>47::p)++
 (if u.hasQuery then 63::u.query else[])++(if u.hasFragment then 35::u.fragment else[])
def parseU (s:Bs) (b:Option UrlL):UR:=
 if 4000<s.length then .er 3
 else match b with
  | some x=>if readU (textU x) none=.ok x then readU s b else .er 2
  | none=>readU s none
def originU (u:UrlL):Bs:=
 if defP u.scheme≠ -1 then u.scheme++[58,47,47]++atU u
 else if u.scheme=blobS/\u.opq=true/\u.path≠[]then(match parseU (u.path.headD []) none with
  | .ok x=>if x.scheme=httpS\/x.scheme=httpsS then x.scheme++[58,47,47]++atU x else[110,117,108,108]
  | .er _=>[110,117,108,108])
 else[110,117,108,108]
def lowQ (c:UInt8):Bool:=decide (c<=32)
def keepQ (c:UInt8):Bool:= !(c==9||c==10||c==13)
theorem low_keep {c:UInt8} (h:lowQ c=false):keepQ c=true:=by
 unfold lowQ at h;unfold keepQ;have h32:¬c<=32:=of_decide_eq_false h;cases h9:(c==9)
 ·cases h10:(c==10)
  ·cases h13:(c==13)
   ·rfl
   ·exact absurd (by rw[eq_of_beq h13];decide) h32
  ·exact absurd (by rw[eq_of_beq h10];decide) h32
 ·exact absurd (by rw[eq_of_beq h9];decide) h32
theorem filter_drop:∀l:Bs,(l.dropWhile lowQ).filter keepQ=(l.filter keepQ).dropWhile lowQ
 | []=>rfl
 | c::r=>by
   rw[List.dropWhile_cons];cases h:lowQ c
   ·simp only[Bool.false_eq_true,if_false];rw[List.filter_cons,if_pos (low_keep h),List.dropWhile_cons,h]
    simp
   ·simp only[if_true];rw[filter_drop r,List.filter_cons];split
    ·rw[List.dropWhile_cons,if_pos h]
    ·rfl
theorem clean_eq (s:Bs):cleanP s=(((s.filter keepQ).dropWhile lowQ).reverse.dropWhile lowQ).reverse:=by
 show(((s.dropWhile lowQ).reverse.dropWhile lowQ).reverse).filter keepQ=_;rw[List.filter_reverse,filter_drop,List.filter_reverse,filter_drop]
def okE (of:Bs) (c:UInt8):Bool:= !(c<32||126<c||of.contains c)
theorem encode_id {of l:Bs} (h:l.all (okE of)=true):encodeP of l=l:=by
 induction l with
 | nil=>rfl
 | cons c r ih=>
   rw[List.all_cons,Bool.and_eq_true]at h;unfold encodeP at ih⊢;rw[List.flatMap_cons,ih h.2,if_neg]
   ·rfl
   ·have:=h.1;unfold okE at this;intro hh;rw[hh]at this;cases this
theorem triple_ok:∀k:Fin 6,∀d:Fin 16,okE (setU k.val) (digitU d.val)=true:=by decide +kernel
theorem pct_ok:∀k:Fin 6,okE (setU k.val) 37=true:=by decide +kernel
theorem encode_ok (k:Nat) (hk:k<6):∀s:Bs,(encodeP (setU k) s).all (okE (setU k))=true
 | []=>rfl
 | c::r=>by
   have ih:=encode_ok k hk r;unfold encodeP at ih⊢;rw[List.flatMap_cons,List.all_append,ih,Bool.and_true];split
   ·have h1:=triple_ok ⟨k,hk⟩ ⟨c.toNat / 16,by have:=c.toNat_lt;omega⟩;have h2:=triple_ok ⟨k,hk⟩ ⟨c.toNat%16,Nat.mod_lt _ (by omega)⟩;rw[List.all_cons,List.all_cons,List.all_cons,pct_ok ⟨k,hk⟩,h1,h2];rfl
   ·rename_i h;rw[List.all_cons];unfold okE;simp only[List.all_nil,Bool.and_true];cases hh:(decide (c<32)||decide (126<c)||(setU k).contains c)
    ·rfl
    ·exact absurd hh h
theorem clean_id {s:Bs} (h:∀c∈s,lowQ c=false):cleanP s=s:=by
 rw[clean_eq];have hf:s.filter keepQ=s:=List.filter_eq_self.2 (fun c hc=>low_keep (h c hc))
 have hd:∀l:Bs,(∀c∈l,lowQ c=false)->l.dropWhile lowQ=l:=by
  intro l hl;cases l with
  | nil=>rfl
  | cons c r=>rw[List.dropWhile_cons,hl c (by simp)];rfl
 rw[hf,hd s h,hd s.reverse (fun c hc=>h c (List.mem_reverse.1 hc)),List.reverse_reverse]
theorem index_one_none {k:UInt8}:∀{s:Bs},k∉s->Lib.index s [k]= -1
 | [],_=>rfl
 | c::r,h=>by
   have hc:([k]:Bs).isPrefixOf (c::r)=false:=by
    simp only[List.isPrefixOf,Bool.and_true];rw[beq_eq_false_iff_ne];intro e;exact h (by rw[e];simp)
   rw[Lib.index,hc,if_neg (by decide),index_one_none (fun hh=>h (List.mem_cons_of_mem _ hh))];rfl
theorem index_one_at {k:UInt8}:∀{a:Bs} (b:Bs),k∉a->Lib.index (a++k::b) [k]=a.length
 | [],b,_=>by
   show Lib.index (k::b) [k]=_;have hc:([k]:Bs).isPrefixOf (k::b)=true:=by simp[List.isPrefixOf]
   rw[Lib.index,hc,if_pos rfl];rfl
 | c::r,b,h=>by
   have hc:([k]:Bs).isPrefixOf (c::(r++k::b))=false:=by
    simp only[List.isPrefixOf,Bool.and_true];rw[beq_eq_false_iff_ne];intro e;exact h (by rw[e];simp)
   have ih:=index_one_at (a:=r) b (fun hh=>h (List.mem_cons_of_mem _ hh));rw[List.cons_append,Lib.index,hc,if_neg (by decide),ih,if_neg]
   ·simp
   ·intro hh;have h0:=eq_of_beq hh;omega
theorem cut_one_no {k:UInt8} {s:Bs} (h:k∉s):Lib.cut s [k]=(s,[],false):=by
 unfold Lib.cut;rw[index_one_none h];rfl
theorem cut_one_at {k:UInt8} {a:Bs} (b:Bs) (h:k∉a):Lib.cut (a++k::b) [k]=(a,b,true):=by
 unfold Lib.cut;rw[index_one_at b h,if_pos (by omega)]
 simp
theorem lastAt_no:∀{s:Bs},(64:UInt8)∉s->lastAt s=none
 | [],_=>rfl
 | c::r,h=>by
   have hc:(c==64)=false:=by rw[beq_eq_false_iff_ne];intro e;exact h (by rw[e];simp)
   rw[lastAt,lastAt_no (fun hh=>h (List.mem_cons_of_mem _ hh)),hc];rfl
theorem lastAt_at:∀(a:Bs) {b:Bs},(64:UInt8)∉b->lastAt (a++64::b)=some (a,b)
 | [],b,h=>by
   show lastAt (64::b)=_;rw[lastAt,lastAt_no h];rfl
 | c::r,b,h=>by
   rw[List.cons_append,lastAt,lastAt_at r h]
theorem cutS_at {sp:Bool} {a:Bs} (b:Bs) (h:∀c∈a,slashQ sp c=false):cutS sp (a++47::b)=(a,b,true):=by
 unfold cutS;have h47:slashQ sp 47=true:=rfl
 induction a with
 | nil=>
   rw[List.nil_append,List.takeWhile_cons,List.dropWhile_cons,List.any_cons,h47];rfl
 | cons c r ih=>
   have hc:=h c (by simp);have ih:=ih (fun x hx=>h x (List.mem_cons_of_mem _ hx));simp only[Prod.mk.injEq]at ih;rw[List.cons_append,List.takeWhile_cons,List.dropWhile_cons,List.any_cons,hc];simp only[Bool.not_false,if_true,Bool.false_or];rw[ih.1,ih.2.1,ih.2.2]
theorem colonP_at:∀{a:Bs} (b:Bs),(∀c∈a,c≠58/\c≠91/\c≠93)->colonP false (a++58::b)=some a.length
 | [],b,_=>rfl
 | c::r,b,h=>by
   obtain⟨h1,h2,h3⟩:=h c (by simp);have ih:=colonP_at (a:=r) b (fun x hx=>h x (List.mem_cons_of_mem _ hx));rw[List.cons_append,colonP,if_neg (by simpa using h2),if_neg (by simpa using h3),if_neg (by simpa using h1),ih];rfl
def plainQ (c:UInt8):Bool:= !lowQ c&& !(c==35)&& !(c==63)
def finU (u:UrlL):UR:=.ok {u with query:=encodeP (setU (if specP u.scheme then 3 else 2)) u.query,fragment:=encodeP (setU 1) u.fragment}
theorem read_plain {s:Bs} (h:s.all plainQ=true) (b:Option UrlL):readU s b=(mainU {} s b).bind finU:=by
 have h1:∀c∈s,plainQ c=true:=List.all_eq_true.1 h
 have hl:∀c∈s,lowQ c=false:=by
  intro c hc;have:=h1 c hc;unfold plainQ at this;cases hq:lowQ c
  ·rfl
  ·rw[hq]at this;cases this
 have h35:(35:UInt8)∉s:=fun hc=>by have:=h1 35 hc;cases this
 have h63:(63:UInt8)∉s:=fun hc=>by have:=h1 63 hc;cases this
 unfold readU;rw[clean_id hl,cut_one_no h35];simp only;rw[cut_one_no h63];rfl
theorem schemed_of {a:Bs} (h1:a≠[]) (h2:∀c,a.head? =some c->isAlpha c=true) (h3:a.all schemeC=true) (r:Bs):schemedP (a++58::r)=(low a,r,true):=by
 have h58:(58:UInt8)∉a:=fun hc=>by have:=List.all_eq_true.1 h3 58 hc;cases this
 unfold schemedP;rw[cut_one_at r h58];simp only;cases a with
 | nil=>exact absurd rfl h1
 | cons c t=>
   have:=h2 c rfl;simp only[List.isEmpty_cons,Bool.not_false,Bool.true_and,this,h3,if_true]
def schemeAt (k:Nat):Bs:=[httpS,httpsS,wsS,wssS,ftpS].getD k httpS
def ownAt (k:Nat):Nat:=[80,443,80,443,21].getD k 80
theorem five {P:Nat->Prop} (h0:P 0) (h1:P 1) (h2:P 2) (h3:P 3) (h4:P 4) (k:Nat) (hk:k<5):P k:=by
 obtain rfl|rfl|rfl|rfl|rfl:k=0\/k=1\/k=2\/k=3\/k=4:=by omega
 all_goals assumption
theorem scheme_def (k:Nat) (hk:k<5):defP (schemeAt k)=ownAt k:=five (P:=fun k=>defP (schemeAt k)=ownAt k) rfl rfl rfl rfl rfl k hk
theorem scheme_spec (k:Nat) (hk:k<5):specP (schemeAt k)=true:=five (P:=fun k=>specP (schemeAt k)=true) rfl rfl rfl rfl rfl k hk
theorem scheme_file (k:Nat) (hk:k<5):¬schemeAt k=fileS:=five (P:=fun k=>¬schemeAt k=fileS) (by decide) (by decide) (by decide) (by decide) (by decide) k hk
theorem scheme_low (k:Nat) (hk:k<5):low (schemeAt k)=schemeAt k:=five (P:=fun k=>low (schemeAt k)=schemeAt k) rfl rfl rfl rfl rfl k hk
theorem scheme_ok (k:Nat) (hk:k<5) (r:Bs):schemedP (schemeAt k++58::r)=(schemeAt k,r,true):=by
 have h:=five (P:=fun k=>schemeAt k≠[]/\(∀c,(schemeAt k).head? =some c->isAlpha c=true)/\(schemeAt k).all schemeC=true)
  ⟨by decide,by intro c h;cases h;rfl,rfl⟩ ⟨by decide,by intro c h;cases h;rfl,rfl⟩ ⟨by decide,by intro c h;cases h;rfl,rfl⟩ ⟨by decide,by intro c h;cases h;rfl,rfl⟩ ⟨by decide,by intro c h;cases h;rfl,rfl⟩ k hk
 rw[schemed_of h.1 h.2.1 h.2.2,scheme_low k hk]
theorem scheme_plain (k:Nat) (hk:k<5):(schemeAt k).all plainQ=true:=five (P:=fun k=>(schemeAt k).all plainQ=true) (by decide) (by decide) (by decide) (by decide) (by decide) k hk
theorem scheme_len (k:Nat) (hk:k<5):(schemeAt k).length<=5:=five (P:=fun k=>(schemeAt k).length<=5) (by decide) (by decide) (by decide) (by decide) (by decide) k hk
theorem main_special (k:Nat) (hk:k<5) (r:Bs) (hr:∀c,r.head? =some c->slashQ true c=false):mainU {} (schemeAt k++58::47::47::r) none=hostedU {scheme:=schemeAt k} r:=by
 unfold mainU;rw[scheme_ok k hk];simp only[if_true,if_neg (scheme_file k hk),scheme_spec k hk]
 have hl:leadS true (47::47::r)=2:=by
  unfold leadS;rw[List.takeWhile_cons,List.takeWhile_cons];have h47:slashQ true 47=true:=rfl;rw[h47];simp only[if_true];cases r with
  | nil=>rfl
  | cons c t=>rw[List.takeWhile_cons,hr c rfl];rfl
 rw[hl];rfl
theorem itoa_nat (n:Nat):Lib.itoa (n:Int)=Lib.decDigits n:=by
 unfold Lib.itoa;rw[if_neg (by omega)];rfl
theorem portN_app (c:UInt8):∀(l:Bs) (n:Nat),portN n (l++[c])=(portN n l).bind fun m=>if isDigit c then some (min (10*m+(c.toNat-48)) 1048576)else none
 | [],n=>by
   simp only[List.nil_append,portN,Option.bind_some]
 | d::r,n=>by
   rw[List.cons_append,portN,portN];split
   ·exact portN_app c r _
   ·rfl
theorem digit_val:∀d:Fin 10,isDigit (UInt8.ofNat (48+d.val))=true/\(UInt8.ofNat (48+d.val)).toNat-48=d.val:=by decide +kernel
theorem portN_dec (n:Nat):n<=104857->portN 0 (Lib.decDigits n)=some n:=by
 induction n using Nat.strongRecOn with
 | _ n ih=>
   intro hn;rw[Lib.decDigits];split
   ·rename_i h;obtain⟨h1,h2⟩:=digit_val ⟨n,h⟩;simp only at h1 h2;rw[portN,h1,h2];simp only[if_true,portN];congr 1;omega
   ·rename_i h;obtain⟨h1,h2⟩:=digit_val ⟨n%10,Nat.mod_lt _ (by omega)⟩;simp only at h1 h2;rw[portN_app,ih (n / 10) (by omega) (by omega),h1,h2];simp only[if_true,Option.bind_some];congr 1;omega
theorem digit_plain:∀c:UInt8,isDigit c=true->plainQ c=true/\c≠64/\slashQ true c=false:=byte_all (by decide +kernel)
def pieceN (sp:Bool) (p:Bs):Prop:=p.all (okE (setU 4))=true/\dotsP p=0/\∀c∈p,slashQ sp c=false
structure HostN (sp:Bool) (h:Bs):Prop where
 again:hostPr h sp=.ok h
 chars:∀c∈h,plainQ c=true/\c≠64/\slashQ true c=false/\c<127
 colon:(∀c∈h,c≠58/\c≠91/\c≠93)\/∃x,h=91::(x++[93])/\(93:UInt8)∉x
structure MU (u:UrlL):Prop where
 s1:u.scheme≠[]
 s2:∀c,u.scheme.head? =some c->isAlpha c=true
 s3:u.scheme.all schemeC=true
 s4:low u.scheme=u.scheme
 user:u.user.all (okE (setU 5))=true
 pass:u.pass.all (okE (setU 5))=true
 special:specP u.scheme=true->u.hasHost=true/\u.opq=false/\u.path≠[]
 bare:u.hasHost=false->u.user=[]/\u.pass=[]/\u.host=[]/\u.port= -1
 opaqueN:u.opq=true->u.hasHost=false/\∃p:Bs,u.path=[p]/\p.all (okE [])=true/\(35:UInt8)∉p/\(63:UInt8)∉p/\p.head? ≠some 47/\(u.hasQuery=false->u.hasFragment=false->p.getLast? ≠some 32)
 path:u.opq=false->(∀p∈u.path,pieceN (specP u.scheme) p)/\(u.hasHost=false->u.path≠[])
 drive:u.scheme=fileS->∀p,u.path.head? =some p->driveP p=true->p.take 1++[58]=p
 host:u.hasHost=true->HostN (specP u.scheme) u.host\/(u.scheme=fileS/\u.host=[])
 empty:u.host=[]->u.user=[]/\u.pass=[]/\u.port= -1
 needed:specP u.scheme=true->u.scheme≠fileS->u.host≠[]
 file:u.scheme=fileS->u.user=[]/\u.pass=[]/\u.port= -1/\u.host≠localS/\driveP u.host=false
 port:u.port= -1\/∃n:Nat,u.port=n/\n<=65535/\(n:Int)≠defP u.scheme
structure NU (u:UrlL):Prop extends MU u where
 query:u.query.all (okE (setU (if specP u.scheme then 3 else 2)))=true
 noQuery:u.hasQuery=false->u.query=[]
 fragment:u.fragment.all (okE (setU 1))=true
 noFragment:u.hasFragment=false->u.fragment=[]
theorem url_ext {a b:UrlL} (h1:a.scheme=b.scheme) (h2:a.user=b.user) (h3:a.pass=b.pass) (h4:a.hasHost=b.hasHost) (h5:a.host=b.host) (h6:a.port=b.port) (h7:a.opq=b.opq) (h8:a.path=b.path) (h9:a.hasQuery=b.hasQuery) (h10:a.hasFragment=b.hasFragment) (h11:a.query=b.query) (h12:a.fragment=b.fragment):a=b:=by
 cases a;cases b;simp_all
theorem slash_sub {sp:Bool} {c:UInt8} (h:slashQ true c=false):slashQ sp c=false:=by
 cases sp
 ·unfold slashQ at h⊢;simp only[Bool.true_and,Bool.or_eq_false_iff]at h;rw[h.1];rfl
 ·exact h
def pathT (l:List Bs):Bs:=l.flatMap fun p=>47::p
theorem beq_swap (x:UInt8):((47:UInt8)==x)=(some x==some (47:UInt8)):=by
 rw[Bool.eq_iff_iff];simp only[beq_iff_eq,Option.some.injEq];exact eq_comm
theorem hasPrefix_one (s:Bs):Lib.hasPrefix s [47]=(s[0]? ==some 47):=by
 cases s with
 | nil=>rfl
 | cons a r=>
   show((47:UInt8)==a&&true)=(some a==some 47);rw[beq_swap,Bool.and_true]
theorem ban_not:∀c:UInt8,banned.contains c=false->(c<32||126<c)=false->plainQ c=true/\c≠64/\slashQ true c=false/\c<127/\c≠58/\c≠91/\c≠93/\c≠124:=byte_all (by decide +kernel)
theorem hexc_not:∀c:UInt8,isHexD c=true->plainQ c=true/\c≠64/\slashQ true c=false/\c<127/\c≠93:=byte_all (by decide +kernel)
theorem drive_no {h:Bs} (hc:∀c∈h,c≠58/\c≠124):driveP h=false:=by
 match h,hc with
 | [],_=>rfl
 | [_],_=>rfl
 | [a,b],hc=>
   obtain⟨h1,h2⟩:=hc b (by simp);show(isAlpha a&&(b==58||b==124))=false;have e1:(b==58)=false:=by rw[beq_eq_false_iff_ne];exact h1
   have e2:(b==124)=false:=by rw[beq_eq_false_iff_ne];exact h2
   rw[e1,e2];simp
 | _::_::_::_,_=>rfl
theorem textP_mem (a:List Nat):∀c∈textP a,isHexD c=true\/c=58:=by
 have ht:∀l:List Nat,∀c∈toldP l,isHexD c=true\/c=58:=by
  intro l c hc;unfold toldP at hc;rcases joinP_mem hc with h|⟨x,hx,h⟩
  ·exact Or.inr (List.mem_singleton.1 h)
  ·obtain⟨n,_,rfl⟩:=List.mem_map.1 hx;exact Or.inl (hexD_chars n c h)
 intro c hc;unfold textP at hc;split at hc
 ·exact ht _ c hc
 ·rcases List.mem_append.1 hc with hc|hc
  ·rcases List.mem_append.1 hc with hc|hc
   ·exact ht _ c hc
   ·right;simpa using hc
  ·exact ht _ c hc
theorem hostN_of {sp:Bool} {h:Bs} (ha:hostPr h sp=.ok h) (hc:∀c∈h,banned.contains c=false/\(c<32||126<c)=false):HostN sp h/\driveP h=false:=by
 refine⟨⟨ha,fun c hcm=>?_,Or.inl fun c hcm=>?_⟩,drive_no fun c hcm=>?_⟩
 ·obtain⟨h1,h2,h3,h4,_⟩:=ban_not c (hc c hcm).1 (hc c hcm).2;exact⟨h1,h2,h3,h4⟩
 ·obtain⟨_,_,_,_,h5,h6,h7,_⟩:=ban_not c (hc c hcm).1 (hc c hcm).2;exact⟨h5,h6,h7⟩
 ·obtain⟨_,_,_,_,h5,_,_,h8⟩:=ban_not c (hc c hcm).1 (hc c hcm).2;exact⟨h5,h8⟩
theorem host_N {s h:Bs} {sp:Bool} (e:hostPr s sp=.ok h):HostN sp h/\driveP h=false/\(h=[]->s=[])/\(sp=true->h≠[]):=by
 have hag:hostPr h sp=.ok h:=by
  cases sp
  ·exact host_again_false e
  ·exact(host_again_true e).1
 have hne:sp=true->h≠[]:=by
  rintro rfl;exact(host_again_true e).2.2
 unfold hostPr at e;split at e
 ·split at e
  ·cases e
  ·cases ha:sixP ((s.drop 1).dropLast)with
   | none=>rw[ha]at e;cases e
   | some a=>
     rw[ha]at e;have e:([91]++textP a++[93]:Bs)=h:=by simpa [ofO]using e
     have hx:∀c∈textP a,c≠93/\plainQ c=true/\c≠64/\slashQ true c=false/\c<127:=by
      intro c hc;rcases textP_mem a c hc with h|rfl
      ·obtain⟨h1,h2,h3,h4,h5⟩:=hexc_not c h;exact⟨h5,h1,h2,h3,h4⟩
      ·decide
     subst e;refine⟨⟨hag,?_,Or.inr ⟨textP a,by simp,fun hc=>(hx 93 hc).1 rfl⟩⟩,?_,fun h=>by simp at h,hne⟩
     ·intro c hc;rcases List.mem_append.1 hc with hc|hc
      ·rcases List.mem_append.1 hc with hc|hc
       ·rw[List.mem_singleton.1 hc];decide
       ·exact(hx c hc).2
      ·rw[List.mem_singleton.1 hc];decide
     ·cases ht:textP a with
      | nil=>rfl
      | cons b r=>cases r<;>rfl
 ·split at e
  ·have hd:=dom_ok e
   have:=hostN_of (sp:=sp) hag (fun c hc=>by
    have ho:=odd_not c (any_false hd.2.1 c hc);exact⟨ho.2.2.1,ho.2.2.2⟩)
   exact⟨this.1,this.2,fun h=>absurd h hd.1,hne⟩
  ·split at e
   ·cases e
   ·rename_i hb;have hb':s.any banned.contains=false:=by simpa using hb
    have e:encodeP [] s=h:=by injection e
    subst e;have:=hostN_of (sp:=sp) hag (enc_ok hb');refine⟨this.1,this.2,fun h=>?_,hne⟩;cases s with
    | nil=>rfl
    | cons c r=>
      exfalso
      unfold encodeP at h;rw[List.flatMap_cons]at h;have:=(List.append_eq_nil_iff.1 h).1;split at this<;>cases this
theorem enc_slash {sp:Bool} {k:Nat} {s:Bs} (h:∀c∈s,slashQ sp c=false):∀c∈encodeP (setU k) s,slashQ sp c=false:=by
 have hd:∀d:Fin 16,slashQ true (digitU d.val)=false:=by decide +kernel
 intro c hc;unfold encodeP at hc;obtain⟨x,hx,hc⟩:=List.mem_flatMap.1 hc;split at hc
 ·simp only[List.mem_cons,List.not_mem_nil,or_false]at hc;rcases hc with rfl|rfl|rfl
  ·cases sp<;>rfl
  ·exact slash_sub (hd ⟨x.toNat / 16,by have:=x.toNat_lt;omega⟩)
  ·exact slash_sub (hd ⟨x.toNat%16,Nat.mod_lt _ (by omega)⟩)
 ·rw[List.mem_singleton.1 hc];exact h x hx
def PathN (scheme:Bs) (sp:Bool) (l:List Bs):Prop:=(∀p∈l,pieceN sp p)/\(scheme=fileS->∀p,l.head? =some p->driveP p=true->p.take 1++[58]=p)
theorem pathN_nil (scheme:Bs) (sp:Bool):PathN scheme sp []:=⟨(by intro p hp;cases hp),(by intro _ p hp;cases hp)⟩
theorem pieceN_nil (sp:Bool):pieceN sp []:=⟨rfl,by decide +kernel,fun c hc=>by cases hc⟩
theorem pathN_snoc {scheme:Bs} {sp:Bool} {l:List Bs} {p:Bs} (h:PathN scheme sp l) (hp:pieceN sp p) (hd:scheme=fileS->l=[]->driveP p=true->p.take 1++[58]=p):PathN scheme sp (l++[p]):=by
 refine⟨fun q hq=>?_,fun hf q hq hdq=>?_⟩
 ·rcases List.mem_append.1 hq with hq|hq
  ·exact h.1 q hq
  ·rw[List.mem_singleton.1 hq];exact hp
 ·cases l with
  | nil=>
    have:p=q:=by simpa using hq
    subst this;exact hd hf rfl hdq
  | cons a r=>
    have:a=q:=by simpa using hq
    subst this;exact h.2 hf a rfl hdq
theorem pathN_short {scheme:Bs} {sp:Bool} {l:List Bs} (h:PathN scheme sp l):PathN scheme sp (shortP scheme l):=by
 unfold shortP;split
 ·exact h
 ·refine⟨fun p hp=>h.1 p ((List.dropLast_sublist l).subset hp),fun hf p hp hd=>?_⟩;cases l with
  | nil=>cases hp
  | cons a r=>
    cases r with
    | nil=>cases hp
    | cons b t=>
      have:a=p:=by simpa using hp
      subst this;exact h.2 hf a rfl hd
theorem drive_piece:∀a:UInt8,isAlpha a=true->okE (setU 4) a=true/\dotsP [a,58]=0/\slashQ true a=false:=byte_all (by decide +kernel)
theorem onL_form (scheme:Bs) (sp:Bool):∀(ps acc:List Bs),PathN scheme sp acc->(∀p∈ps,∀c∈p,slashQ sp c=false)->PathN scheme sp (onL scheme acc ps)
 | [],acc,h,_=>h
 | p::r,acc,h,hs=>by
   have ih:=fun acc ha=>onL_form scheme sp r acc ha (fun q hq=>hs q (List.mem_cons_of_mem _ hq));have hsl:=enc_slash (k:=4) (hs p (by simp));have hok:=encode_ok 4 (by omega) p;rw[onL]
   try simp only
   generalize encodeP (setU 4) p=q at hsl hok;have hnil:∀a,PathN scheme sp a->PathN scheme sp (a++[[]]):=fun a ha=>pathN_snoc ha (pieceN_nil sp) (fun _ _ hd=>by cases hd);split
   ·apply ih
    split
    ·exact hnil _ (pathN_short h)
    ·exact pathN_short h
   ·rename_i h2;split
    ·apply ih
     split
     ·exact hnil _ h
     ·exact h
    ·rename_i h1
     apply ih
     have h0:dotsP q=0:=by
      unfold dotsP at h1 h2⊢;split at h1
      ·exact absurd rfl h1
      ·rename_i hn;rw[if_neg hn]at h2⊢;split at h2
       ·exact absurd rfl h2
       ·rename_i hn2;rw[if_neg hn2]
     split
     ·rename_i hh;obtain⟨hf,ha,hd⟩:=hh
      match q,hd with
      | [a,b],hd=>
        unfold driveP at hd;rw[Bool.and_eq_true]at hd;obtain⟨d1,d2,d3⟩:=drive_piece a hd.1;refine pathN_snoc h ⟨?_,d2,?_⟩ (fun _ _ _=>rfl)
        ·show(okE (setU 4) a&&(okE (setU 4) 58&&true))=true;rw[d1];rfl
        ·intro c hc;rcases List.mem_cons.1 hc with rfl|hc
         ·exact slash_sub d3
         ·rw[List.mem_singleton.1 hc];cases sp<;>rfl
     ·rename_i hh;exact pathN_snoc h ⟨hok,h0,hsl⟩ (fun hf ha hd=>absurd ⟨hf,ha,hd⟩ hh)
theorem onL_ne (scheme:Bs):∀(ps acc:List Bs),ps≠[]->onL scheme acc ps≠[]
 | [],_,h=>absurd rfl h
 | p::r,acc,_=>by
   by_cases hr:r=[]
   ·subst hr;simp only[onL];split
    ·simp
    ·split
     ·simp
     ·simp
   ·have ih:=fun acc=>onL_ne scheme r acc hr;rw[onL]
    try simp only
    split
    ·exact ih _
    ·split
     ·exact ih _
     ·exact ih _
theorem splitS_mem {sp:Bool}:∀(s:Bs),∀p∈splitS sp s,∀c∈p,slashQ sp c=false
 | [],p,hp,c,hc=>by
   rw[splitS]at hp;rw[List.mem_singleton.1 hp]at hc;cases hc
 | a::r,p,hp,c,hc=>by
   have ih:=splitS_mem (sp:=sp) r;rw[splitS]at hp;cases ha:slashQ sp a with
   | true=>
     rw[ha,if_pos rfl]at hp;rcases List.mem_cons.1 hp with rfl|hp
     ·cases hc
     ·exact ih p hp c hc
   | false=>
     rw[ha]at hp;simp only[Bool.false_eq_true,if_false]at hp;cases he:splitS sp r with
     | nil=>
       rw[he]at hp;rw[List.mem_singleton.1 hp]at hc;rw[List.mem_singleton.1 hc];exact ha
     | cons x t=>
       rw[he]at hp;rcases List.mem_cons.1 hp with rfl|hp
       ·rcases List.mem_cons.1 hc with rfl|hc
        ·exact ha
        ·exact ih x (by rw[he];simp) c hc
       ·exact ih p (by rw[he];exact List.mem_cons_of_mem _ hp) c hc
theorem splitS_ne {sp:Bool} (s:Bs):splitS sp s≠[]:=by
 cases s with
 | nil=>simp[splitS]
 | cons a r=>
   rw[splitS];split
   ·simp
   ·split<;>simp
theorem bind_ok {r:UR} {f:UrlL->UR} {v:UrlL} (h:r.bind f=.ok v):∃u,r=.ok u/\f u=.ok v:=by
 cases r with
 | ok u=>exact⟨u,rfl,h⟩
 | er n=>cases h
def PortN (s:Bs) (p:Int):Prop:=p= -1\/∃n:Nat,p=n/\n<=65535/\(n:Int)≠defP s
theorem portU_ok {u v:UrlL} {s:Bs} (e:portU u s=.ok v) (hu:u.port= -1):∃p,v={u with port:=p}/\PortN u.scheme p/\(s=[]->p= -1):=by
 unfold portU at e;cases hn:portN 0 s with
 | none=>rw[hn]at e;cases e
 | some n=>
   rw[hn]at e;simp only at e;split at e
   ·cases e
   ·rename_i h6;split at e
    ·rename_i hh;injection e with e
     exact⟨n,e.symm,Or.inr ⟨n,rfl,by omega,hh.2⟩,fun h=>absurd h hh.1⟩
    ·injection e with e
     refine⟨-1,?_,Or.inl rfl,fun _=>rfl⟩;rw[<-e,<-hu]
theorem hostU_ok {u v:UrlL} {s:Bs} (e:hostU u s=.ok v):∃h,v={u with host:=h,hasHost:=true}/\hostPr s (specP u.scheme)=.ok h:=by
 unfold hostU at e;cases hp:hostPr s (specP u.scheme)with
 | er n=>rw[hp]at e;cases e
 | ok h=>
   rw[hp]at e;injection e with e
   exact⟨h,e.symm,rfl⟩
theorem placeU_ok {u v:UrlL} {a:Bs} (e:placeU u a=.ok v) (hu:u.port= -1):
  ∃h p,v={u with host:=h,hasHost:=true,port:=p}/\HostN (specP u.scheme) h/\driveP h=false/\PortN u.scheme p/\(specP u.scheme=true->h≠[])/\(h=[]->a=[]/\p= -1):=by
 unfold placeU at e;cases hc:colonP false a with
 | some i=>
   rw[hc]at e;simp only at e;split at e
   ·cases e
   ·rename_i hne;obtain⟨w,hw,e⟩:=bind_ok e;obtain⟨h,rfl,hh⟩:=hostU_ok hw;obtain⟨p,rfl,hp,_⟩:=portU_ok e hu;obtain⟨n1,n2,n3,n4⟩:=host_N hh;exact⟨h,p,rfl,n1,n2,hp,n4,fun h0=>absurd (n3 h0) hne⟩
 | none=>
   rw[hc]at e;simp only at e;split at e
   ·cases e
   ·obtain⟨w,hw,e⟩:=bind_ok e;obtain⟨h,rfl,hh⟩:=hostU_ok hw;obtain⟨p,rfl,hp,hp0⟩:=portU_ok e hu;obtain⟨n1,n2,n3,n4⟩:=host_N hh;exact⟨h,p,rfl,n1,n2,hp,n4,fun h0=>⟨n3 h0,hp0 rfl⟩⟩
theorem authU_ok {u v:UrlL} {a:Bs} (e:authU u a=.ok v) (hu:u.port= -1) (hu1:u.user=[]) (hu2:u.pass=[]):
  ∃us pa h p,v={u with user:=us,pass:=pa,host:=h,hasHost:=true,port:=p}/\us.all (okE (setU 5))=true/\pa.all (okE (setU 5))=true/\HostN (specP u.scheme) h/\driveP h=false/\PortN u.scheme p/\(specP u.scheme=true->h≠[])/\(h=[]->us=[]/\pa=[]/\p= -1):=by
 unfold authU at e;cases hl:lastAt a with
 | some xy=>
   obtain⟨x,y⟩:=xy;rw[hl]at e;simp only at e;split at e
   ·cases e
   ·rename_i hy;obtain⟨h,p,rfl,n1,n2,n3,n4,n5⟩:=placeU_ok e (show(whoU u x).port= -1 from hu);exact⟨_,_,h,p,rfl,encode_ok 5 (by omega) _,encode_ok 5 (by omega) _,n1,n2,n3,n4,fun h0=>absurd (n5 h0).1 hy⟩
 | none=>
   rw[hl]at e;obtain⟨h,p,rfl,n1,n2,n3,n4,n5⟩:=placeU_ok e hu;refine⟨[],[],h,p,?_,rfl,rfl,n1,n2,n3,n4,fun h0=>⟨rfl,rfl,(n5 h0).2⟩⟩;exact url_ext rfl hu1 hu2 rfl rfl rfl rfl rfl rfl rfl rfl rfl
def SchN (s:Bs):Prop:=s≠[]/\(∀c,s.head? =some c->isAlpha c=true)/\s.all schemeC=true/\low s=s
theorem onP_form {u:UrlL} {t:Bs} (h:PathN u.scheme (specP u.scheme) u.path):PathN u.scheme (specP u.scheme) (onP u t).path/\(onP u t).path≠[]:=
 ⟨onL_form u.scheme (specP u.scheme) _ _ h (splitS_mem t),onL_ne u.scheme _ _ (splitS_ne t)⟩
theorem hostedU_form {u v:UrlL} {r:Bs} (e:hostedU u r=.ok v) (hs:SchN u.scheme) (hf:u.scheme≠fileS) (hu:u.port= -1) (hu1:u.user=[]) (hu2:u.pass=[]) (ho:u.opq=false) (hp:u.path=[]):
  MU v/\v.scheme=u.scheme/\v.hasQuery=u.hasQuery/\v.query=u.query/\v.hasFragment=u.hasFragment/\v.fragment=u.fragment:=by
 unfold hostedU at e;obtain⟨w,hw,e⟩:=bind_ok e;obtain⟨us,pa,h,p,rfl,n1,n2,n3,n4,n5,n6,n7⟩:=authU_ok hw hu hu1 hu2;injection e with e
 have hpn:PathN u.scheme (specP u.scheme) u.path:=by rw[hp];exact pathN_nil _ _
 have key:∀(path:List Bs),PathN u.scheme (specP u.scheme) path->(specP u.scheme=true->path≠[])->
   MU {u with user:=us,pass:=pa,host:=h,hasHost:=true,port:=p,path:=path}:=by
  intro path hpath hsp
  exact{
   s1:=hs.1,s2:=hs.2.1,s3:=hs.2.2.1,s4:=hs.2.2.2,user:=n1,pass:=n2
   special:=fun hq=>⟨rfl,ho,hsp hq⟩
   bare:=fun hh=>by cases hh
   opaqueN:=fun hq=>by rw[show u.opq=false from ho]at hq;cases hq
   path:=fun _=>⟨hpath.1,fun hh=>by cases hh⟩
   drive:=hpath.2
   host:=fun _=>Or.inl n3
   empty:=n7
   needed:=fun hq _=>n6 hq
   file:=fun hq=>absurd hq hf
   port:=n5}
 split at e
 ·rename_i hc;rw[<-e];have hform:=onP_form (u:={u with user:=us,pass:=pa,host:=h,hasHost:=true,port:=p}) (t:=(cutS (specP u.scheme) r).2.1) hpn;exact⟨key _ hform.1 (fun _=>hform.2),rfl,rfl,rfl,rfl,rfl⟩
 ·rename_i hc;rw[<-e];refine⟨key u.path hpn (fun hq=>?_),rfl,rfl,rfl,rfl,rfl⟩
  exfalso
  apply hc
  show((cutS (specP u.scheme) r).2.2||specP u.scheme)=true;rw[hq,Bool.or_true]
theorem base_form {u b:UrlL} (hb:MU b) (hs:u.scheme=b.scheme) (hf:u.scheme≠fileS) (ho:u.opq=false) {path:List Bs} (hp:PathN u.scheme (specP u.scheme) path) (hne:(specP u.scheme=true\/b.hasHost=false)->path≠[]) (q:Bs) (hq:Bool):
  MU {u with user:=b.user,pass:=b.pass,hasHost:=b.hasHost,host:=b.host,port:=b.port,path:=path,query:=q,hasQuery:=hq}:=by
 exact{
  s1:=by show u.scheme≠[];rw[hs];exact hb.s1
  s2:=by show ∀c,u.scheme.head? =some c->_;rw[hs];exact hb.s2
  s3:=by show u.scheme.all schemeC=true;rw[hs];exact hb.s3
  s4:=by show low u.scheme=u.scheme;rw[hs];exact hb.s4
  user:=hb.user
  pass:=hb.pass
  special:=fun h=>⟨by have:=(hb.special (by rw[<-hs];exact h)).1;exact this,ho,hne (Or.inl h)⟩
  bare:=hb.bare
  opaqueN:=fun h=>by rw[show u.opq=false from ho]at h;cases h
  path:=fun _=>⟨hp.1,fun hh=>hne (Or.inr hh)⟩
  drive:=hp.2
  host:=fun h=>by show HostN (specP u.scheme) b.host\/(u.scheme=fileS/\b.host=[]);rw[hs];exact hb.host h
  empty:=hb.empty
  needed:=fun h _=>by show b.host≠[];exact hb.needed (by rw[<-hs];exact h) (by rw[<-hs];exact hf)
  file:=fun h=>absurd h hf
  port:=by show PortN u.scheme b.port;rw[hs];exact hb.port}
theorem basePath {u b:UrlL} (hb:MU b) (hs:u.scheme=b.scheme) (hbo:b.opq=false):PathN u.scheme (specP u.scheme) b.path/\((specP u.scheme=true\/b.hasHost=false)->b.path≠[]):=by
 rw[hs];refine⟨⟨(hb.path hbo).1,hb.drive⟩,fun h=>?_⟩;rcases h with h|h
 ·exact(hb.special h).2.2
 ·exact(hb.path hbo).2 h
structure Fresh (u:UrlL):Prop where
 user:u.user=[]
 pass:u.pass=[]
 hasHost:u.hasHost=false
 host:u.host=[]
 port:u.port= -1
 opq:u.opq=false
 path:u.path=[]
def QN (u:UrlL):Prop:=u.hasQuery=false->u.query=[]
theorem pathU_form {u b w:UrlL} (r:Bs) (hw:w.scheme=u.scheme/\w.user=b.user/\w.pass=b.pass/\w.hasHost=b.hasHost/\w.host=b.host/\w.port=b.port/\w.opq=u.opq/\w.hasQuery=u.hasQuery/\w.query=u.query/\w.hasFragment=u.hasFragment/\w.fragment=u.fragment) (hp:PathN u.scheme (specP u.scheme) b.path) (hne:(specP u.scheme=true\/b.hasHost=false)->b.path≠[]) (hq:QN u) (hbq:QN b):
  ∃path q hq',pathU w b r={u with user:=b.user,pass:=b.pass,hasHost:=b.hasHost,host:=b.host,port:=b.port,path:=path,query:=q,hasQuery:=hq'}/\PathN u.scheme (specP u.scheme) path/\((specP u.scheme=true\/b.hasHost=false)->path≠[])/\(hq'=false->q=[]):=by
 obtain⟨w1,w2,w3,w4,w5,w6,w7,w8,w9,w10,w11⟩:=hw;unfold pathU;by_cases hr:r=[]
 ·rw[if_neg (fun h=>h hr)];cases hx:w.hasQuery
  ·rw[if_neg (by decide)];exact⟨b.path,b.query,b.hasQuery,url_ext w1 w2 w3 w4 w5 w6 w7 rfl rfl w10 rfl w11,hp,hne,hbq⟩
  ·rw[if_pos rfl];exact⟨b.path,u.query,u.hasQuery,url_ext w1 w2 w3 w4 w5 w6 w7 rfl (hx.symm.trans w8) w10 w9 w11,hp,hne,hq⟩
 ·rw[if_pos hr];have hp':PathN w.scheme (specP w.scheme) (shortP w.scheme b.path):=by rw[w1];exact pathN_short hp
  obtain⟨h1,h2⟩:=onP_form (u:={w with path:=shortP w.scheme b.path}) (t:=r) hp';have h1:PathN w.scheme (specP w.scheme) (onP {w with path:=shortP w.scheme b.path} r).path:=h1;rw[w1]at h1;exact⟨(onP {w with path:=shortP w.scheme b.path} r).path,u.query,u.hasQuery,url_ext w1 w2 w3 w4 w5 w6 w7 rfl w8 w10 w9 w11,by rw[w1];exact h1,fun _=>h2,hq⟩
theorem relU_form {u b v:UrlL} {r:Bs} (e:relU u b r=.ok v) (hb:MU b) (hs:u.scheme=b.scheme) (hf:u.scheme≠fileS) (hu:Fresh u) (hbo:b.opq=false) (hq:QN u) (hbq:QN b):
  MU v/\QN v/\v.hasFragment=u.hasFragment/\v.fragment=u.fragment:=by
 have hsch:SchN u.scheme:=by rw[hs];exact⟨hb.s1,hb.s2,hb.s3,hb.s4⟩
 obtain⟨hpn,hpne⟩:=basePath hb hs hbo;unfold relU at e;simp only at e;split at e
 ·obtain⟨h1,h2,h3,h4,h5,h6⟩:=hostedU_form e hsch hf hu.port hu.user hu.pass hu.opq hu.path;exact⟨h1,fun h=>by rw[h4];exact hq (h3▸h),h5,h6⟩
 ·split at e
  ·injection e with e
   have hp0:PathN (restU u b).scheme (specP (restU u b).scheme) (restU u b).path:=by
    show PathN u.scheme (specP u.scheme) u.path;rw[hu.path];exact pathN_nil _ _
   obtain⟨h1,h2⟩:=onP_form (u:=restU u b) (t:=r.drop 1) hp0;have hm:=base_form hb hs hf hu.opq (path:=(onP (restU u b) (r.drop 1)).path) h1 (fun _=>h2) u.query u.hasQuery;rw[<-e];exact⟨hm,hq,rfl,rfl⟩
  ·injection e with e
   obtain⟨path,q,hq',he,p1,p2,p3⟩:=pathU_form (u:=u) (b:=b) (w:=restU u b) r ⟨rfl,rfl,rfl,rfl,rfl,rfl,rfl,rfl,rfl,rfl,rfl⟩ hpn hpne hq hbq;rw[<-e,he];exact⟨base_form hb hs hf hu.opq p1 p2 q hq',p3,rfl,rfl⟩
theorem file_form {u:UrlL} (hf:u.scheme=fileS) (hu:Fresh u) {host:Bs} {path:List Bs} (hN:HostN true host\/host=[]) (hl:host≠localS) (hd:driveP host=false) (hp:PathN u.scheme (specP u.scheme) path) (hne:path≠[]) (q:Bs) (hq:Bool):
  MU {u with hasHost:=true,host:=host,path:=path,query:=q,hasQuery:=hq}:=by
 have hsp:specP u.scheme=true:=by rw[hf];rfl
 exact{
  s1:=by show u.scheme≠[];rw[hf];decide
  s2:=by show ∀c,u.scheme.head? =some c->_;rw[hf];intro c hc;cases hc;rfl
  s3:=by show u.scheme.all schemeC=true;rw[hf];decide
  s4:=by show low u.scheme=u.scheme;rw[hf];decide
  user:=by show u.user.all _=true;rw[hu.user];rfl
  pass:=by show u.pass.all _=true;rw[hu.pass];rfl
  special:=fun _=>⟨rfl,hu.opq,hne⟩
  bare:=fun h=>by cases h
  opaqueN:=fun h=>by rw[show u.opq=false from hu.opq]at h;cases h
  path:=fun _=>⟨hp.1,fun _=>hne⟩
  drive:=hp.2
  host:=fun _=>by
   show HostN (specP u.scheme) host\/(u.scheme=fileS/\host=[]);rw[hsp];rcases hN with h|h
   ·exact Or.inl h
   ·exact Or.inr ⟨hf,h⟩
  empty:=fun _=>⟨hu.user,hu.pass,hu.port⟩
  needed:=fun _ h=>absurd hf h
  file:=fun _=>⟨hu.user,hu.pass,hu.port,hl,hd⟩
  port:=Or.inl hu.port}
theorem noHost:([]:Bs)≠localS/\driveP []=false:=⟨by decide,rfl⟩
theorem filesU_form {u v:UrlL} {b:Option UrlL} {r:Bs} (e:filesU u b r=.ok v) (hf:u.scheme=fileS) (hu:Fresh u) (hb:∀x,b=some x->MU x/\QN x) (hq:QN u):
  MU v/\QN v/\v.hasFragment=u.hasFragment/\v.fragment=u.fragment:=by
 have hsp:specP u.scheme=true:=by rw[hf];rfl
 have hp0:PathN u.scheme (specP u.scheme) u.path:=by rw[hu.path];exact pathN_nil _ _
 have hmk:∀(w:UrlL) (t host:Bs),w.scheme=u.scheme->w.user=u.user->w.pass=u.pass->w.hasHost=true->w.host=host->w.port=u.port->w.opq=u.opq->PathN u.scheme (specP u.scheme) w.path->w.hasQuery=u.hasQuery->w.query=u.query->w.hasFragment=u.hasFragment->w.fragment=u.fragment->(HostN true host\/host=[])->host≠localS->driveP host=false->
   MU (onP w t)/\QN (onP w t)/\(onP w t).hasFragment=u.hasFragment/\(onP w t).fragment=u.fragment:=by
  intro w t host w1 w2 w3 w4 w5 w6 w7 w8 w9 w10 w11 w12 hN hl hd;have hw8:PathN w.scheme (specP w.scheme) w.path:=by rw[w1];exact w8
  obtain⟨h1,h2⟩:=onP_form (u:=w) (t:=t) hw8;rw[w1]at h1;have hm:=file_form hf hu hN hl hd (path:=(onP w t).path) h1 h2 u.query u.hasQuery;have he:onP w t={u with hasHost:=true,host:=host,path:=(onP w t).path,query:=u.query,hasQuery:=u.hasQuery}:=url_ext w1 w2 w3 w4 w5 w6 w7 rfl w9 w11 w10 w12;rw[he];exact⟨hm,hq,rfl,rfl⟩
 unfold filesU at e;simp only at e;split at e
 ·split at e
  ·injection e with e
   rw[<-e];exact hmk _ _ [] rfl rfl rfl rfl hu.host rfl rfl hp0 rfl rfl rfl rfl (Or.inr rfl) noHost.1 noHost.2
  ·rename_i hdr;have hdr':driveP (cutS true (r.drop 2)).1=false:=by simpa using hdr
   obtain⟨w,hw,e⟩:=bind_ok e;injection e with e
   rw[<-e];split at hw
   ·injection hw with hw
    have hh:w.host=[]:=by rw[<-hw];exact hu.host
    rw[if_neg (by rw[hh];decide),<-hw];exact hmk _ _ [] rfl rfl rfl rfl hu.host rfl rfl hp0 rfl rfl rfl rfl (Or.inr rfl) noHost.1 noHost.2
   ·obtain⟨h,rfl,hh⟩:=hostU_ok hw;have hh:hostPr (cutS true (r.drop 2)).1 (specP u.scheme)=.ok h:=hh;rw[hsp]at hh;obtain⟨n1,n2,_,_⟩:=host_N hh;split
    ·exact hmk _ _ [] rfl rfl rfl rfl rfl rfl rfl hp0 rfl rfl rfl rfl (Or.inr rfl) noHost.1 noHost.2
    ·rename_i hl;exact hmk _ _ h rfl rfl rfl rfl rfl rfl rfl hp0 rfl rfl rfl rfl (Or.inl n1) hl n2
 ·have hbase:∀x,b=some x->x.scheme=fileS->(HostN true x.host\/x.host=[])/\x.host≠localS/\driveP x.host=false/\PathN u.scheme (specP u.scheme) x.path/\x.path≠[]/\QN x:=by
   intro x hx hxf;obtain⟨hm,hqx⟩:=hb x hx;have hs:specP x.scheme=true:=by rw[hxf];rfl
   obtain⟨s1,s2,s3⟩:=hm.special hs;obtain⟨_,_,_,f4,f5⟩:=hm.file hxf;refine⟨?_,f4,f5,?_,s3,hqx⟩
   ·rcases hm.host s1 with h|⟨_,h⟩
    ·rw[hs]at h;exact Or.inl h
    ·exact Or.inr h
   ·have:=basePath (u:=u) hm (hf.trans hxf.symm) s2;exact this.1
  split at e
  ·injection e with e
   rw[<-e];cases b with
   | none=>exact hmk _ _ [] rfl rfl rfl rfl hu.host rfl rfl hp0 rfl rfl rfl rfl (Or.inr rfl) noHost.1 noHost.2
   | some x=>
     simp only;split
     ·rename_i hxf;obtain⟨b1,b2,b3,b4,b5,b6⟩:=hbase x rfl hxf;split
      ·have hpt:PathN u.scheme (specP u.scheme) (x.path.take 1):=by
        refine⟨fun p hp=>b4.1 p (List.mem_of_mem_take hp),fun hfs p hp hd=>?_⟩;refine b4.2 hfs p ?_ hd;cases hx:x.path with
        | nil=>rw[hx]at hp;cases hp
        | cons a t=>rw[hx]at hp;exact hp
       exact hmk _ _ x.host rfl rfl rfl rfl rfl rfl rfl hpt rfl rfl rfl rfl b1 b2 b3
      ·exact hmk _ _ x.host rfl rfl rfl rfl rfl rfl rfl hp0 rfl rfl rfl rfl b1 b2 b3
     ·exact hmk _ _ [] rfl rfl rfl rfl hu.host rfl rfl hp0 rfl rfl rfl rfl (Or.inr rfl) noHost.1 noHost.2
  ·cases b with
   | none=>
     injection e with e
     rw[<-e];exact hmk _ _ [] rfl rfl rfl rfl hu.host rfl rfl hp0 rfl rfl rfl rfl (Or.inr rfl) noHost.1 noHost.2
   | some x=>
     simp only at e;split at e
     ·rename_i hxf;obtain⟨b1,b2,b3,b4,b5,b6⟩:=hbase x rfl hxf;split at e
      ·injection e with e
       rw[<-e];exact hmk _ _ x.host rfl rfl rfl rfl rfl rfl rfl hp0 rfl rfl rfl rfl b1 b2 b3
      ·injection e with e
       rw[<-e];unfold pathU;by_cases hr:r=[]
       ·rw[if_neg (fun h=>h hr)];cases hx:u.hasQuery
        ·rw[if_neg (show ¬((false:Bool)=true) by decide)];exact⟨file_form hf hu b1 b2 b3 b4 b5 x.query x.hasQuery,b6,rfl,rfl⟩
        ·rw[if_pos rfl];have hm:=file_form hf hu b1 b2 b3 b4 b5 u.query true;exact⟨hm,(fun h=>by cases h),rfl,rfl⟩
       ·rw[if_pos hr];exact hmk _ _ x.host rfl rfl rfl rfl rfl rfl rfl (pathN_short b4) rfl rfl rfl rfl b1 b2 b3
     ·injection e with e
      rw[<-e];exact hmk _ _ [] rfl rfl rfl rfl hu.host rfl rfl hp0 rfl rfl rfl rfl (Or.inr rfl) noHost.1 noHost.2
theorem split_first {k:UInt8}:∀{s:Bs},k∈s->∃a b,s=a++k::b/\k∉a
 | [],h=>by cases h
 | c::r,h=>by
   by_cases hc:c=k
   ·exact⟨[],r,by rw[hc];rfl,by simp⟩
   ·have hr:k∈r:=by
     rcases List.mem_cons.1 h with h|h
     ·exact absurd h.symm hc
     ·exact h
    obtain⟨a,b,rfl,ha⟩:=split_first hr
    exact⟨c::a,b,rfl,fun hh=>by
     rcases List.mem_cons.1 hh with hh|hh
     ·exact hc hh.symm
     ·exact ha hh⟩
theorem cut_facts (k:UInt8) (s:Bs):k∉(Lib.cut s [k]).1/\((Lib.cut s [k]).2.2=false->(Lib.cut s [k]).1=s/\(Lib.cut s [k]).2.1=[])/\(∀x∈(Lib.cut s [k]).1,x∈s)/\((Lib.cut s [k]).2.2=true->s=(Lib.cut s [k]).1++k::(Lib.cut s [k]).2.1):=by
 by_cases h:k∈s
 ·obtain⟨a,b,rfl,ha⟩:=split_first h;rw[cut_one_at b ha];exact⟨ha,(fun hh=>by cases hh),fun x hx=>List.mem_append_left _ hx,fun _=>rfl⟩
 ·rw[cut_one_no h];exact⟨h,fun _=>⟨rfl,rfl⟩,fun x hx=>hx,(fun hh=>by cases hh)⟩
theorem scheme_lower:∀c:UInt8,low1 (low1 c)=low1 c/\(schemeC c=true->schemeC (low1 c)=true)/\(isAlpha c=true->isAlpha (low1 c)=true):=byte_all (by decide +kernel)
def schemeOk (c:Bs×Bs×Bool):Bool:=c.2.2&& !c.1.isEmpty&&(match c.1 with|a::_=>isAlpha a|[]=>false)&&c.1.all schemeC
theorem schemedP_eq (s:Bs):schemedP s=if schemeOk (Lib.cut s [58])=true then(low (Lib.cut s [58]).1,(Lib.cut s [58]).2.1,true)else([],s,false):=rfl
theorem schemed_inv {s:Bs} (h:(schemedP s).2.2=true):SchN (schemedP s).1/\∃a,s=a++58::(schemedP s).2.1:=by
 have hc:=cut_facts 58 s;rw[schemedP_eq]at h⊢;by_cases hh:schemeOk (Lib.cut s [58])=true
 ·rw[if_pos hh]at h⊢;unfold schemeOk at hh;simp only[Bool.and_eq_true,Bool.not_eq_true']at hh;obtain⟨⟨⟨h1,h2⟩,h3⟩,h4⟩:=hh;refine⟨⟨?_,?_,?_,low_low _⟩,(Lib.cut s [58]).1,hc.2.2.2 h1⟩
  ·cases hx:(Lib.cut s [58]).1 with
   | nil=>rw[hx]at h2;cases h2
   | cons a r=>intro e;cases e
  ·intro c hcc;cases hx:(Lib.cut s [58]).1 with
   | nil=>rw[hx]at h2;cases h2
   | cons a r=>
     rw[hx]at h3 hcc;have:low1 a=c:=by simpa [low]using hcc
     rw[<-this];exact(scheme_lower a).2.2 h3
  ·rw[List.all_eq_true];intro c hcc;obtain⟨a,ha,rfl⟩:=List.mem_map.1 hcc;exact(scheme_lower a).2.1 (List.all_eq_true.1 h4 a ha)
 ·rw[if_neg hh]at h;cases h
theorem clean_last {s:Bs} {d:UInt8} (h:(cleanP s).getLast? =some d):lowQ d=false:=by
 rw[clean_eq,List.getLast?_reverse]at h
 have:∀l:Bs,(l.dropWhile lowQ).head? =some d->lowQ d=false:=by
  intro l
  induction l with
  | nil=>intro hh;cases hh
  | cons c r ih=>
    intro hh;rw[List.dropWhile_cons]at hh;cases hc:lowQ c
    ·rw[hc]at hh;have:c=d:=by simpa using hh
     rw[<-this];exact hc
    ·rw[hc]at hh;exact ih (by simpa using hh)
 exact this _ h
theorem enc_not {k:UInt8} (hk:k≠37/\∀d:Fin 16,digitU d.val≠k) {of s:Bs} (h:k∉s):k∉encodeP of s:=by
 intro hc;unfold encodeP at hc;obtain⟨x,hx,hc⟩:=List.mem_flatMap.1 hc;split at hc
 ·simp only[List.mem_cons,List.not_mem_nil,or_false]at hc;rcases hc with hc|hc|hc
  ·exact hk.1 hc
  ·exact hk.2 ⟨x.toNat / 16,by have:=x.toNat_lt;omega⟩ hc.symm
  ·exact hk.2 ⟨x.toNat%16,Nat.mod_lt _ (by omega)⟩ hc.symm
 ·rw[List.mem_singleton.1 hc]at h;exact h hx
theorem enc_last {s:Bs} (h:s.getLast? ≠some 32):(encodeP [] s).getLast? ≠some 32:=by
 rcases List.eq_nil_or_concat s with rfl|⟨r,c,rfl⟩
 ·intro hh;cases hh
 ·rw[List.concat_eq_append]at h⊢
  have hc:c≠32:=by
   intro e;apply h;rw[e];simp
  unfold encodeP;rw[List.flatMap_append];intro hh
  have hx:([c]:Bs).flatMap (fun c=>if c<32||126<c||([]:Bs).contains c then[37,digitU (c.toNat / 16),digitU (c.toNat%16)]else[c])≠[]:=by
   rw[List.flatMap_cons];split<;>simp
  rw[List.getLast?_append]at hh;have hd:∀d:Fin 16,digitU d.val≠32:=by decide +kernel
  rw[List.flatMap_cons,List.flatMap_nil,List.append_nil]at hh;split at hh
  ·have:digitU (c.toNat%16)=32:=by simpa using hh
   exact hd ⟨c.toNat%16,Nat.mod_lt _ (by omega)⟩ this
  ·have:c=32:=by simpa using hh
   exact hc this
theorem enc_head {s:Bs} (h:s[0]? ≠some 47):(encodeP [] s).head? ≠some 47:=by
 cases s with
 | nil=>intro hh;cases hh
 | cons c r=>
   unfold encodeP;rw[List.flatMap_cons];split
   ·intro hh;cases hh
   ·intro hh
    apply h
    exact hh
theorem sp_plain {s:Bs} (h:specP s=false):s≠fileS:=fun e=>by rw[e]at h;cases h
theorem bare_form {u:UrlL} (hu:Fresh u) (hs:SchN u.scheme) (hsp:specP u.scheme=false) {path:List Bs} (hp:PathN u.scheme (specP u.scheme) path) (hne:path≠[]):MU {u with path:=path}:=by
 exact{
  s1:=hs.1,s2:=hs.2.1,s3:=hs.2.2.1,s4:=hs.2.2.2
  user:=by show u.user.all _=true;rw[hu.user];rfl
  pass:=by show u.pass.all _=true;rw[hu.pass];rfl
  special:=fun h=>by rw[show specP u.scheme=false from hsp]at h;cases h
  bare:=fun _=>⟨hu.user,hu.pass,hu.host,hu.port⟩
  opaqueN:=fun h=>by rw[show u.opq=false from hu.opq]at h;cases h
  path:=fun _=>⟨hp.1,fun _=>hne⟩
  drive:=hp.2
  host:=fun h=>by rw[show u.hasHost=false from hu.hasHost]at h;cases h
  empty:=fun _=>⟨hu.user,hu.pass,hu.port⟩
  needed:=fun h=>by rw[show specP u.scheme=false from hsp]at h;cases h
  file:=fun h=>absurd h (sp_plain hsp)
  port:=Or.inl hu.port}
theorem opaque_form {u:UrlL} (hu:Fresh u) (hs:SchN u.scheme) (hsp:specP u.scheme=false) {p:Bs} (h1:p.all (okE [])=true) (h2:(35:UInt8)∉p) (h3:(63:UInt8)∉p) (h4:p.head? ≠some 47) (q:Bs) (hq:Bool) (h5:hq=false->u.hasFragment=false->p.getLast? ≠some 32):
  MU {u with opq:=true,path:=[p],query:=q,hasQuery:=hq}:=by
 exact{
  s1:=hs.1,s2:=hs.2.1,s3:=hs.2.2.1,s4:=hs.2.2.2
  user:=by show u.user.all _=true;rw[hu.user];rfl
  pass:=by show u.pass.all _=true;rw[hu.pass];rfl
  special:=fun h=>by rw[show specP u.scheme=false from hsp]at h;cases h
  bare:=fun _=>⟨hu.user,hu.pass,hu.host,hu.port⟩
  opaqueN:=fun _=>⟨hu.hasHost,p,rfl,h1,h2,h3,h4,h5⟩
  path:=fun h=>by cases h
  drive:=fun h=>absurd h (sp_plain hsp)
  host:=fun h=>by rw[show u.hasHost=false from hu.hasHost]at h;cases h
  empty:=fun _=>⟨hu.user,hu.pass,hu.port⟩
  needed:=fun h=>by rw[show specP u.scheme=false from hsp]at h;cases h
  file:=fun h=>absurd h (sp_plain hsp)
  port:=Or.inl hu.port}
theorem k35:(35:UInt8)≠37/\∀d:Fin 16,digitU d.val≠35:=by decide +kernel
theorem k63:(63:UInt8)≠37/\∀d:Fin 16,digitU d.val≠63:=by decide +kernel
theorem mainU_form {u v:UrlL} {s:Bs} {b:Option UrlL} (e:mainU u s b=.ok v) (hu:Fresh u) (h35:(35:UInt8)∉s) (h63:(63:UInt8)∉s) (hlast:u.hasQuery=false->u.hasFragment=false->s.getLast? ≠some 32) (hq:QN u) (hb:∀x,b=some x->NU x):
  MU v/\QN v/\v.hasFragment=u.hasFragment/\v.fragment=u.fragment:=by
 have hb':∀x,b=some x->MU x/\QN x:=fun x hx=>⟨(hb x hx).toMU,(hb x hx).noQuery⟩;have hfr:∀sch,Fresh {u with scheme:=sch}:=fun sch=>⟨hu.user,hu.pass,hu.hasHost,hu.host,hu.port,hu.opq,hu.path⟩;unfold mainU at e;simp only at e;cases hok:(schemedP s).2.2 with
 | true=>
   obtain⟨hsch,a,ha⟩:=schemed_inv hok;rw[hok,if_pos rfl]at e;have hr35:(35:UInt8)∉(schemedP s).2.1:=fun h=>h35 (by rw[ha];exact List.mem_append_right _ (List.mem_cons_of_mem _ h));have hr63:(63:UInt8)∉(schemedP s).2.1:=fun h=>h63 (by rw[ha];exact List.mem_append_right _ (List.mem_cons_of_mem _ h))
   have hrl:(schemedP s).2.1.getLast? =some 32->s.getLast? =some 32:=by
    intro h;rw[ha,List.getLast?_append,List.getLast?_cons,h];rfl
   generalize (schemedP s).1=sch at e hsch;generalize (schemedP s).2.1=r at e hr35 hr63 hrl
   have hhost:∀{t:Bs},hostedU {u with scheme:=sch} t=.ok v->sch≠fileS->MU v/\QN v/\v.hasFragment=u.hasFragment/\v.fragment=u.fragment:=by
    intro t et hf;obtain⟨h1,h2,h3,h4,h5,h6⟩:=hostedU_form et hsch hf hu.port hu.user hu.pass hu.opq hu.path;exact⟨h1,fun h=>by rw[h4];exact hq (h3▸h),h5,h6⟩
   split at e
   ·rename_i hf;exact filesU_form (u:={u with scheme:=sch}) e hf (hfr sch) hb' hq
   ·rename_i hf;split at e
    ·rename_i hsp;cases b with
     | none=>exact hhost e hf
     | some x=>
       simp only at e;split at e
       ·rename_i hh;have hx:=hb x rfl;refine relU_form (u:={u with scheme:=sch}) e hx.toMU hh.1.symm hf (hfr sch) ?_ hq hx.noQuery;exact(hx.special (by rw[hh.1];exact hsp)).2.1
       ·exact hhost e hf
    ·rename_i hsp;have hsp':specP sch=false:=by simpa using hsp
     split at e
     ·exact hhost e hf
     ·rename_i hn2;split at e
      ·injection e with e
       rw[<-e];have hp0:PathN sch (specP sch) u.path:=by rw[hu.path];exact pathN_nil _ _
       obtain⟨h1,h2⟩:=onP_form (u:={u with scheme:=sch}) (t:=r.drop 1) hp0;exact⟨bare_form (hfr sch) hsch hsp' h1 h2,hq,rfl,rfl⟩
      ·rename_i hn1;injection e with e
       rw[<-e]
       have hh:r[0]? ≠some 47:=by
        intro h
        apply hn1
        rw[hasPrefix_one,h];rfl
       exact⟨opaque_form (hfr sch) hsch hsp' (encode_ok 0 (by omega) r) (enc_not k35 hr35) (enc_not k63 hr63) (enc_head hh) u.query u.hasQuery (fun h1 h2=>enc_last (fun h=>hlast h1 h2 (hrl h))),hq,rfl,rfl⟩
 | false=>
   rw[hok,if_neg (by decide)]at e;cases b with
   | none=>cases e
   | some x=>
     simp only at e;have hx:=hb x rfl;have hsch:SchN x.scheme:=⟨hx.s1,hx.s2,hx.s3,hx.s4⟩;split at e
     ·cases e
     ·rename_i hc;split at e
      ·rename_i ho;injection e with e
       rw[ho,Bool.true_and]at hc;have hc':(!s.isEmpty||u.hasQuery|| !u.hasFragment)=false:=by simpa using hc
       simp only[Bool.or_eq_false_iff,Bool.not_eq_false']at hc';obtain⟨⟨_,c2⟩,c3⟩:=hc';obtain⟨_,p,hp,p1,p2,p3,p4,_⟩:=hx.opaqueN ho
       have hsp:specP x.scheme=false:=by
        cases hh:specP x.scheme
        ·rfl
        ·have:=(hx.special hh).2.1;rw[ho]at this;cases this
       have he:pathU {u with scheme:=x.scheme,opq:=true} x []={u with scheme:=x.scheme,opq:=true,path:=[p],query:=x.query,hasQuery:=x.hasQuery}:=by
        unfold pathU;rw[if_neg (fun h=>h rfl)];show(if u.hasQuery=true then _ else _)=_;rw[c2,if_neg (by decide),hp]
       rw[<-e];have he2:pathU {({u with scheme:=x.scheme}:UrlL)with opq:=true} x []={u with scheme:=x.scheme,opq:=true,path:=[p],query:=x.query,hasQuery:=x.hasQuery}:=he;rw[he2];exact⟨opaque_form (hfr x.scheme) hsch hsp p1 p2 p3 p4 x.query x.hasQuery (fun _ h=>by rw[show u.hasFragment=true from c3]at h;cases h),hx.noQuery,rfl,rfl⟩
      ·rename_i ho;have ho':x.opq=false:=by simpa using ho
       split at e
       ·rename_i hf;exact filesU_form (u:={u with scheme:=x.scheme}) e hf (hfr x.scheme) hb' hq
       ·rename_i hf;exact relU_form (u:={u with scheme:=x.scheme}) e hx.toMU rfl hf (hfr x.scheme) ho' hq hx.noQuery
theorem readU_form {s:Bs} {b:Option UrlL} {u:UrlL} (e:readU s b=.ok u) (hb:∀x,b=some x->NU x):NU u:=by
 unfold readU at e;simp only at e;obtain⟨v,hv,e⟩:=bind_ok e;injection e with e
 have f:=cut_facts 35 (cleanP s);have q:=cut_facts 63 (Lib.cut (cleanP s) [35]).1;have hl:= @clean_last s;generalize Lib.cut (cleanP s) [35]=F at hv f q;generalize Lib.cut F.1 [63]=G at hv q;obtain⟨f1,f2,f3,_⟩:=f;obtain⟨q1,q2,q3,_⟩:=q
 obtain⟨m,m2,m3,m4⟩:=mainU_form hv ⟨rfl,rfl,rfl,rfl,rfl,rfl,rfl⟩ (fun h=>f1 (q3 _ h)) q1
  (fun h1 h2 h=>by
   have e1:=(q2 h1).1;have e2:=(f2 h2).1;rw[e1,e2]at h;have:=hl h;cases this)
  (fun h=>(q2 h).2) hb
 rw[<-e];have hz:∀of,encodeP of []=[]:=fun _=>rfl
 exact{
  s1:=m.s1,s2:=m.s2,s3:=m.s3,s4:=m.s4,user:=m.user,pass:=m.pass,special:=m.special,bare:=m.bare
  opaqueN:=m.opaqueN,path:=m.path,drive:=m.drive,host:=m.host,empty:=m.empty,needed:=m.needed,file:=m.file,port:=m.port
  query:=by
   show(encodeP (setU (if specP v.scheme then 3 else 2)) v.query).all (okE (setU (if specP v.scheme then 3 else 2)))=true;split
   ·exact encode_ok 3 (by omega) _
   ·exact encode_ok 2 (by omega) _
  noQuery:=fun h=>by show encodeP _ v.query=[];rw[m2 h];rfl
  fragment:=encode_ok 1 (by omega) _
  noFragment:=fun h=>by
   show encodeP _ v.fragment=[];rw[m4];have:F.2.2=false:=m3.symm.trans h;rw[show F.2.1=[]from(f2 this).2];rfl}
theorem parse_form {s:Bs} {b:Option UrlL} {u:UrlL} (e:parseU s b=.ok u):NU u:=by
 unfold parseU at e;split at e
 ·cases e
 ·cases b with
  | none=>exact readU_form e (fun x hx=>by cases hx)
  | some x=>
    simp only at e;split at e
    ·rename_i hx;exact readU_form e (fun y hy=>by cases hy;exact readU_form hx (fun z hz=>by cases hz))
    ·cases e
theorem enc_len3 (of:Bs):∀s:Bs,(encodeP of s).length<=3*s.length
 | []=>Nat.zero_le _
 | c::r=>by
   have ih:=enc_len3 of r;unfold encodeP at ih⊢;rw[List.flatMap_cons,List.length_append,List.length_cons]
   have:(if c<32||126<c||of.contains c then[37,digitU (c.toNat / 16),digitU (c.toNat%16)]else[c]:Bs).length<=3:=by
    split
    ·exact Nat.le_refl 3
    ·exact Nat.le_add_left 1 2
   omega
def pl (l:List Bs):Nat:=(pathT l).length
theorem pl_nil:pl []=0:=rfl
theorem pl_app (a b:List Bs):pl (a++b)=pl a+pl b:=by simp[pl,pathT]
theorem pl_one (p:Bs):pl [p]=p.length+1:=by simp[pl,pathT]
theorem pl_short (scheme:Bs) (l:List Bs):pl (shortP scheme l)<=pl l:=by
 unfold shortP;split
 ·exact Nat.le_refl _
 ·rcases List.eq_nil_or_concat l with rfl|⟨r,p,rfl⟩
  ·exact Nat.le_refl _
  ·rw[List.concat_eq_append,List.dropLast_concat,pl_app];omega
theorem pl_take (l:List Bs):pl (l.take 1)<=pl l:=by
 cases l with
 | nil=>exact Nat.le_refl _
 | cons p r=>
   show pl [p]<=pl ([p]++r);rw[pl_app];omega
def pw (l:List Bs):Nat:=(l.map fun p=>3*p.length+1).sum
theorem pw_cons (p:Bs) (l:List Bs):pw (p::l)=3*p.length+1+pw l:=by simp[pw]
theorem onL_len (scheme:Bs):∀(ps acc:List Bs),pl (onL scheme acc ps)<=pl acc+pw ps
 | [],acc=>Nat.le_refl _
 | p::r,acc=>by
   have ih:=fun a=>onL_len scheme r a;have he:=enc_len3 (setU 4) p;have hs:=pl_short scheme acc;have h1:∀a:List Bs,pl (a++[[]])=pl a+1:=fun a=>by rw[pl_app,pl_one];rfl
   rw[onL,pw_cons]
   try simp only
   generalize encodeP (setU 4) p=q at he;split
   ·split
    ·have:=ih (shortP scheme acc++[[]]);rw[h1]at this;omega
    ·have:=ih (shortP scheme acc);omega
   ·split
    ·split
     ·have:=ih (acc++[[]]);rw[h1]at this;omega
     ·have:=ih acc;omega
    ·have h2:(if scheme=fileS/\acc=[]/\driveP q=true then q.take 1++[58]else q).length<=q.length:=by
      split
      ·rename_i hh
       match q,hh.2.2 with
       | [a,b],_=>exact Nat.le_refl _
      ·exact Nat.le_refl _
     have:=ih (acc++[if scheme=fileS/\acc=[]/\driveP q=true then q.take 1++[58]else q]);rw[pl_app,pl_one]at this;omega
theorem splitS_len (sp:Bool):∀s:Bs,pw (splitS sp s)<=3*s.length+1
 | []=>Nat.le_refl _
 | c::r=>by
   have ih:=splitS_len sp r;rw[splitS];split
   ·rw[pw_cons,List.length_cons];simp;omega
   ·cases he:splitS sp r with
    | nil=>exact absurd he (splitS_ne r)
    | cons x t=>
      rw[he,pw_cons]at ih;show pw ((c::x)::t)<=_;rw[pw_cons,List.length_cons,List.length_cons];omega
theorem onP_len (u:UrlL) (t:Bs):pl (onP u t).path<=pl u.path+3*t.length+1:=by
 have h1:=onL_len u.scheme (splitS (specP u.scheme) t) u.path;have h2:=splitS_len (specP u.scheme) t;show pl (onL u.scheme u.path (splitS (specP u.scheme) t))<=_;omega
theorem cut_len (k:UInt8) (s:Bs):(Lib.cut s [k]).1.length+(Lib.cut s [k]).2.1.length<=s.length:=by
 have h:=cut_facts k s;cases hc:(Lib.cut s [k]).2.2 with
 | true=>
   have:=congrArg List.length (h.2.2.2 hc);rw[List.length_append,List.length_cons]at this;omega
 | false=>
   obtain⟨h1,h2⟩:=h.2.1 hc;rw[h1,h2];simp
theorem cutS_len (sp:Bool) (s:Bs):(cutS sp s).1.length+(cutS sp s).2.1.length<=s.length:=by
 have h:∀s:Bs,(s.takeWhile fun c=> !slashQ sp c).length+(s.dropWhile fun c=> !slashQ sp c).length=s.length:=by
  intro s;have:=congrArg List.length (List.takeWhile_append_dropWhile (p:=fun c=> !slashQ sp c) (l:=s))
  rwa [List.length_append]at this
 have:=h s;unfold cutS;simp only[List.length_drop];omega
theorem lastAt_len:∀{s x y:Bs},lastAt s=some (x,y)->x.length+y.length+1=s.length
 | [],_,_,h=>by cases h
 | c::r,x,y,h=>by
   rw[lastAt]at h;cases hl:lastAt r with
   | some xy=>
     obtain⟨a,b⟩:=xy;rw[hl]at h;have:=lastAt_len hl;simp only[Option.some.injEq,Prod.mk.injEq]at h;obtain⟨rfl,rfl⟩:=h;rw[List.length_cons,List.length_cons];omega
   | none=>
     rw[hl]at h;simp only at h;split at h
     ·simp only[Option.some.injEq,Prod.mk.injEq]at h;obtain⟨rfl,rfl⟩:=h
      simp
     ·cases h
theorem joinP_len (sep:Bs) (m:Nat):∀ls:List Bs,(∀x,x∈ls->x.length<=m)->(joinP sep ls).length<=ls.length*(m+sep.length)
 | [],_=>by simp[joinP]
 | [x],h=>by
   have hx:=h x (by simp)
   simp[joinP];omega
 | x::y::r,h=>by
   have hx:=h x (by simp);have hr:=joinP_len sep m (y::r) (fun z hz=>h z (by simp[hz]));rw[joinP,List.length_append,List.length_append,List.length_cons,Nat.succ_mul];omega
theorem decode_lenU:∀l:Bs,(decodeP l).length<=l.length:=by
 intro l
 induction h:l.length using Nat.strongRecOn generalizing l with
 | ind n ih=>
   cases l with
   | nil=>rw[decodeP];simp
   | cons c r=>
     rw[decodeP];simp only[List.length_cons]at h;split
     ·have:=ih (r.drop 2).length (by simp;omega) (r.drop 2) rfl
      simp at this⊢;omega
     ·have:=ih r.length (by omega) r rfl
      simp;omega
theorem told_lenU (l:List Nat) (h:∀n∈l,n<65536) (h8:l.length<=8):(toldP l).length<=40:=by
 have hj:=joinP_len [58] 4 (l.map hexD) (by
  intro x hx;obtain⟨n,hn,rfl⟩:=List.mem_map.1 hx;exact hexD_len 3 n (by simpa using h n hn))
 rw[List.length_map]at hj;unfold toldP
 simp at hj;omega
theorem textP_len (a:List Nat) (h8:a.length=8) (hl:∀n∈a,n<65536):(textP a).length<=100:=by
 unfold textP;have h1:=told_lenU a hl (by omega);have h2:=told_lenU (a.take (runP 0 a (0,0)).1) (fun n hn=>hl n (List.mem_of_mem_take hn)) (by rw[List.length_take];omega);have h3:=told_lenU (a.drop (runP 0 a (0,0)).2) (fun n hn=>hl n (List.mem_of_mem_drop hn)) (by rw[List.length_drop];omega);split
 ·omega
 ·rw[List.length_append,List.length_append];show _+2+_<=_;omega
theorem decDigits_len:∀(k m:Nat),m<10^(k+1)->(Lib.decDigits m).length<=k+1:=by
 intro k
 induction k with
 | zero=>intro m h;rw[Lib.decDigits,dif_pos (by simpa using h)];simp
 | succ k ih=>
   intro m h;rw[Lib.decDigits];split
   ·simp
   ·have:=ih (m / 10) (by rw[Nat.pow_succ]at h;omega)
    simp;omega
theorem dottedP_len (b:List Nat) (h:b.length=4) (hl:∀n∈b,n<256):(dottedP b).length<=16:=by
 have hj:=joinP_len [46] 3 (b.map fun x=>Lib.decDigits x) (by
  intro x hx;obtain⟨n,hn,rfl⟩:=List.mem_map.1 hx;exact decDigits_len 2 n (by have:=hl n hn;simp;omega))
 rw[List.length_map,h]at hj;exact hj
theorem host_lenU (s h:Bs) (b:Bool) (e:hostPr s b=.ok h):h.length<=3*s.length+110:=by
 unfold hostPr at e;split at e
 ·split at e
  ·cases e
  ·cases ha:sixP ((s.drop 1).dropLast)with
   | none=>rw[ha]at e;cases e
   | some a=>
     rw[ha]at e;simp only[Option.map_some,ofO]at e;injection e with e
     obtain⟨h8,hl⟩:=six_ok ha;have:=textP_len a h8 hl;rw[<-e,List.length_append,List.length_append];show 1+_+1<=_;omega
 ·split at e
  ·unfold domainP at e;simp only at e;split at e
   ·cases e
   ·split at e
    ·cases hf:fourP (labelsP (low (decodeP s)))with
     | none=>rw[hf]at e;cases e
     | some t=>
       rw[hf]at e;simp only[ofO]at e;injection e with e
       obtain⟨b4,h4,hl,rfl⟩:=four_ok (labels_ne _) hf;have:=dottedP_len b4 h4 hl;rw[<-e];omega
    ·injection e with e
     have:=decode_lenU s;rw[<-e];show(low (decodeP s)).length<=_;unfold low;rw[List.length_map];omega
  ·split at e
   ·cases e
   ·injection e with e
    have:=enc_len3 [] s;rw[<-e];omega
def wt (u:UrlL):Nat:=u.scheme.length+u.user.length+u.pass.length+u.host.length+pl u.path
theorem placeU_len {u v:UrlL} {a:Bs} (e:placeU u a=.ok v):v.host.length<=3*a.length+110:=by
 unfold placeU at e
 have hp:∀{w v:UrlL} {s:Bs},portU w s=.ok v->v.host=w.host:=by
  intro w v s h;unfold portU at h;cases hn:portN 0 s with
  | none=>rw[hn]at h;cases h
  | some n=>
    rw[hn]at h;simp only at h;split at h
    ·cases h
    ·injection h with h
     rw[<-h];split<;>rfl
 cases hc:colonP false a with
 | some i=>
   rw[hc]at e;simp only at e;split at e
   ·cases e
   ·obtain⟨w,hw,e⟩:=bind_ok e;obtain⟨h,rfl,hh⟩:=hostU_ok hw;have h1:=host_lenU _ _ _ hh;rw[hp e];rw[List.length_take]at h1;show h.length<=_;omega
 | none=>
   rw[hc]at e;simp only at e;split at e
   ·cases e
   ·obtain⟨w,hw,e⟩:=bind_ok e;obtain⟨h,rfl,hh⟩:=hostU_ok hw;have h1:=host_lenU _ _ _ hh;rw[hp e];exact h1
theorem authU_len {u v:UrlL} {a:Bs} (e:authU u a=.ok v) (hu:u.port= -1) (hu1:u.user=[]) (hu2:u.pass=[]):v.user.length+v.pass.length+v.host.length<=3*a.length+110:=by
 unfold authU at e;cases hl:lastAt a with
 | some xy=>
   obtain⟨x,y⟩:=xy;rw[hl]at e;simp only at e;split at e
   ·cases e
   ·have hlen:=lastAt_len hl;have h1:=placeU_len e;obtain⟨h,p,rfl,_⟩:=placeU_ok e (show(whoU u x).port= -1 from hu);have h2:=cut_len 58 x;have h3:=enc_len3 (setU 5) (Lib.cut x [58]).1;have h4:=enc_len3 (setU 5) (Lib.cut x [58]).2.1;show(encodeP (setU 5) (Lib.cut x [58]).1).length+(encodeP (setU 5) (Lib.cut x [58]).2.1).length+h.length<=_;have h1:h.length<=3*y.length+110:=h1;omega
 | none=>
   rw[hl]at e;have h1:=placeU_len e;obtain⟨h,p,rfl,_⟩:=placeU_ok e hu;show u.user.length+u.pass.length+h.length<=_;have h1:h.length<=3*a.length+110:=h1;rw[hu1,hu2]
   simp;omega
theorem hostedU_len {u v:UrlL} {r:Bs} (e:hostedU u r=.ok v) (hu:u.port= -1) (hu1:u.user=[]) (hu2:u.pass=[]) (hp:u.path=[]):wt v<=u.scheme.length+3*r.length+111:=by
 unfold hostedU at e;obtain⟨w,hw,e⟩:=bind_ok e;have h1:=authU_len hw hu hu1 hu2;obtain⟨us,pa,h,p,rfl,_⟩:=authU_ok hw hu hu1 hu2;injection e with e
 have hc:=cutS_len (specP u.scheme) r;have h1:us.length+pa.length+h.length<=3*(cutS (specP u.scheme) r).1.length+110:=h1;split at e
 ·have h2:=onP_len {u with user:=us,pass:=pa,host:=h,hasHost:=true,port:=p} (cutS (specP u.scheme) r).2.1;have h2:pl (onP {u with user:=us,pass:=pa,host:=h,hasHost:=true,port:=p} (cutS (specP u.scheme) r).2.1).path<=pl u.path+3*(cutS (specP u.scheme) r).2.1.length+1:=h2;have h0:pl u.path=0:=by rw[hp];rfl
  rw[<-e];show u.scheme.length+us.length+pa.length+h.length+pl _<=_;omega
 ·rw[<-e];show u.scheme.length+us.length+pa.length+h.length+pl u.path<=_;rw[hp,pl_nil];omega
def bw:Option UrlL->Nat
 | some x=>wt x
 | none=>0
theorem relU_len {u b v:UrlL} {r:Bs} (e:relU u b r=.ok v) (hs:u.scheme=b.scheme) (hu:Fresh u):wt v<=wt b+3*r.length+111:=by
 have hsl:u.scheme.length=b.scheme.length:=by rw[hs]
 unfold relU at e;simp only at e;split at e
 ·have h1:=hostedU_len e hu.port hu.user hu.pass hu.path
  have h2:(if specP u.scheme=true then r.drop (leadS (specP u.scheme) r)else r.drop 2).length<=r.length:=by
   split
   ·rw[List.length_drop];omega
   ·rw[List.length_drop];omega
  have h3:b.scheme.length<=wt b:=by unfold wt;omega
  omega
 ·split at e
  ·injection e with e
   have h1:=onP_len (restU u b) (r.drop 1);have h0:pl (restU u b).path=0:=by show pl u.path=0;rw[hu.path];rfl
   have h2:(r.drop 1).length<=r.length:=by rw[List.length_drop];omega
   rw[<-e];show u.scheme.length+b.user.length+b.pass.length+b.host.length+pl (onP (restU u b) (r.drop 1)).path<=_;unfold wt;omega
  ·injection e with e
   rw[<-e];unfold pathU;have hs1:=pl_short u.scheme b.path;split
   ·have h1:∀w:UrlL,w.path=shortP u.scheme b.path->pl (onP w r).path<=pl (shortP u.scheme b.path)+3*r.length+1:=by
     intro w hw;have h2:=onP_len w r;rw[show pl w.path=pl (shortP u.scheme b.path) by rw[hw]]at h2;exact h2
    show u.scheme.length+b.user.length+b.pass.length+b.host.length+pl _<=_;refine Nat.le_trans (Nat.add_le_add_left (h1 _ rfl) _) ?_;unfold wt;omega
   ·split
    ·show u.scheme.length+b.user.length+b.pass.length+b.host.length+pl b.path<=_;unfold wt;omega
    ·show u.scheme.length+b.user.length+b.pass.length+b.host.length+pl b.path<=_;unfold wt;omega
theorem filesU_len {u v:UrlL} {b:Option UrlL} {r:Bs} (e:filesU u b r=.ok v) (hu:Fresh u):wt v<=u.scheme.length+bw b+3*r.length+111:=by
 have hz:pl u.path=0:=by rw[hu.path];rfl
 have hmk:∀(w:UrlL) (t:Bs) (k:Nat),w.scheme=u.scheme->w.user=[]->w.pass=[]->w.host.length+pl w.path+3*t.length<=k->wt (onP w t)<=u.scheme.length+k+1:=by
  intro w t k h1 h2 h3 h4;have h5:=onP_len w t;show w.scheme.length+w.user.length+w.pass.length+w.host.length+pl (onP w t).path<=_;rw[h1,h2,h3];simp only[List.length_nil];omega
 have hd2:(r.drop 2).length<=r.length:=by rw[List.length_drop];omega
 have hd1:(r.drop 1).length<=r.length:=by rw[List.length_drop];omega
 have hh0:u.host.length=0:=by rw[hu.host];rfl
 have hc:=cutS_len true (r.drop 2);unfold filesU at e;simp only at e;split at e
 ·split at e
  ·injection e with e
   rw[<-e];have:=hmk {u with hasHost:=true} (r.drop 2) (3*r.length) rfl hu.user hu.pass (by show u.host.length+pl u.path+_<=_;omega);omega
  ·obtain⟨w,hw,e⟩:=bind_ok e;injection e with e
   rw[<-e];split at hw
   ·injection hw with hw
    have hh:w.host=[]:=by rw[<-hw];exact hu.host
    rw[if_neg (by rw[hh];decide),<-hw];have:=hmk {u with hasHost:=true} (cutS true (r.drop 2)).2.1 (3*r.length) rfl hu.user hu.pass (by show u.host.length+pl u.path+_<=_;omega);omega
   ·obtain⟨h,rfl,hh⟩:=hostU_ok hw;have hl:=host_lenU _ _ _ hh;split
    ·have:=hmk {u with hasHost:=true,host:=[]} (cutS true (r.drop 2)).2.1 (3*r.length) rfl hu.user hu.pass (by show 0+pl u.path+_<=_;omega);refine Nat.le_trans this ?_;omega
    ·have:=hmk {u with hasHost:=true,host:=h} (cutS true (r.drop 2)).2.1 (3*r.length+110) rfl hu.user hu.pass (by show h.length+pl u.path+_<=_;omega);refine Nat.le_trans this ?_;omega
 ·have hb:∀x,b=some x->x.host.length+pl x.path<=bw b:=by
   rintro x rfl;show _<=wt x;unfold wt;omega
  split at e
  ·injection e with e
   rw[<-e];cases b with
   | none=>
     have:=hmk {u with hasHost:=true} (r.drop 1) (3*r.length) rfl hu.user hu.pass (by show u.host.length+pl u.path+_<=_;omega);refine Nat.le_trans this ?_;omega
   | some x=>
     have hbx:=hb x rfl;have ht:=pl_take x.path;simp only;split
     ·split
      ·have:=hmk {u with hasHost:=true,host:=x.host,path:=x.path.take 1} (r.drop 1) (bw (some x)+3*r.length) rfl hu.user hu.pass (by show x.host.length+pl (x.path.take 1)+_<=_;omega);refine Nat.le_trans this ?_;omega
      ·have:=hmk {u with hasHost:=true,host:=x.host} (r.drop 1) (bw (some x)+3*r.length) rfl hu.user hu.pass (by show x.host.length+pl u.path+_<=_;omega);refine Nat.le_trans this ?_;omega
     ·have:=hmk {u with hasHost:=true} (r.drop 1) (3*r.length) rfl hu.user hu.pass (by show u.host.length+pl u.path+_<=_;omega);refine Nat.le_trans this ?_;omega
  ·cases b with
   | none=>
     injection e with e
     rw[<-e];have:=hmk {u with hasHost:=true} r (3*r.length) rfl hu.user hu.pass (by show u.host.length+pl u.path+_<=_;omega);refine Nat.le_trans this ?_;omega
   | some x=>
     have hbx:=hb x rfl;simp only at e;split at e
     ·split at e
      ·injection e with e
       rw[<-e];have:=hmk {u with hasHost:=true,host:=x.host} r (bw (some x)+3*r.length) rfl hu.user hu.pass (by show x.host.length+pl u.path+_<=_;omega);refine Nat.le_trans this ?_;omega
      ·injection e with e
       rw[<-e];have hs1:=pl_short u.scheme x.path;have h00:u.user.length=0/\u.pass.length=0:=by rw[hu.user,hu.pass];exact⟨rfl,rfl⟩
       unfold pathU;split
       ·have:=hmk {({({u with hasHost:=true}:UrlL)with host:=x.host}:UrlL)with path:=shortP u.scheme x.path} r (bw (some x)+3*r.length) rfl hu.user hu.pass (by show x.host.length+pl (shortP u.scheme x.path)+_<=_;omega);refine Nat.le_trans this ?_;omega
       ·split
        ·show u.scheme.length+u.user.length+u.pass.length+x.host.length+pl x.path<=_;omega
        ·show u.scheme.length+u.user.length+u.pass.length+x.host.length+pl x.path<=_;omega
     ·injection e with e
      rw[<-e];have:=hmk {u with hasHost:=true} r (3*r.length) rfl hu.user hu.pass (by show u.host.length+pl u.path+_<=_;omega);refine Nat.le_trans this ?_;omega
theorem unE_no {b:UInt8} {l:Bs} (h:([37,50,101]:Bs).isPrefixOf (b::l)=false):unE (b::l)=b::unE l:=by
 conv=>lhs;unfold unE
 split
 ·rename_i r he;rw[he]at h
  simp[List.isPrefixOf]at h
 ·rename_i c r _ he;injection he with h1 h2
  rw[h1,h2]
 ·rename_i he;cases he
theorem unE_yes (r:Bs):unE (37::50::101::r)=46::unE r:=by
 conv=>lhs;unfold unE
 rfl
theorem pre_form {s:Bs} (h:([37,50,101]:Bs).isPrefixOf s=true):∃r,s=37::50::101::r:=by
 match s,h with
 | a::b::c::r,h=>
   simp only[List.isPrefixOf,Bool.and_true,Bool.and_eq_true,beq_iff_eq]at h;obtain⟨h1,h2,h3⟩:=h;exact⟨r,by rw[<-h1,<-h2,<-h3]⟩
 | [],h=>simp[List.isPrefixOf]at h
 | [_],h=>simp[List.isPrefixOf]at h
 | [_,_],h=>simp[List.isPrefixOf]at h
theorem unE_index:∀s:Bs,(Lib.index s [37,50,101]= -1->unE s=s)/\(∀i:Nat,Lib.index s [37,50,101]=i->unE s=s.take i++46::unE (s.drop (i+3)))
 | []=>⟨fun _=>by unfold unE;rfl,fun i h=>by
  have:Lib.index [] ([37,50,101]:Bs)= -1:=rfl;rw[this]at h;omega⟩
 | b::l=>by
   obtain⟨ih1,ih2⟩:=unE_index l;rw[Lib.index];cases hp:([37,50,101]:Bs).isPrefixOf (b::l)with
   | true=>
     obtain⟨r,hr⟩:=pre_form hp;simp only[if_true];refine⟨fun h=>by omega,fun i h=>?_⟩;have hi:i=0:=by omega
     subst hi;rw[hr,unE_yes];rfl
   | false=>
     simp only[Bool.false_eq_true,if_false];have hge:=Lib.index_ge l [37,50,101];by_cases h1:Lib.index l [37,50,101]= -1
     ·rw[h1];refine⟨fun _=>by rw[unE_no hp,ih1 h1],fun i h=>?_⟩;have:((-1:Int)== -1)=true:=rfl;rw[this,if_pos rfl]at h;omega
     ·have hb:(Lib.index l [37,50,101]== -1)=false:=by rw[beq_eq_false_iff_ne];exact h1
      rw[hb];simp only[Bool.false_eq_true,if_false];refine⟨fun h=>by omega,fun i h=>?_⟩;obtain⟨j,rfl⟩:∃j,i=j+1:=⟨i-1,by omega⟩;rw[unE_no hp,ih2 j (by omega)];rfl
theorem replaceK_unE:∀(f:Nat) (s:Bs),s.length<f->Lib.replaceK [37,50,101] [46] (Lib.countFrom [37,50,101] f s) s=unE s
 | 0,s,h=>by omega
 | f+1,s,h=>by
   obtain⟨h1,h2⟩:=unE_index s;rw[Lib.countFrom];by_cases hi:Lib.index s [37,50,101]= -1
   ·rw[hi];show Lib.replaceK _ _ 0 s=_;rw[h1 hi];rfl
   ·have hge:=Lib.index_ge s [37,50,101];obtain⟨i,hin⟩:∃i:Nat,Lib.index s [37,50,101]=i:=⟨(Lib.index s [37,50,101]).toNat,by omega⟩;have hb:(Lib.index s [37,50,101]== -1)=false:=by rw[beq_eq_false_iff_ne];exact hi
    rw[hb];simp only[Bool.false_eq_true,if_false];rw[Nat.add_comm 1,Lib.replaceK_hit _ _ _ _ i hin,hin]
    have hd:(s.drop (i+([37,50,101]:Bs).length)).length<f:=by
     have hs:s≠[]:=by
      rintro rfl;exact hi rfl
     have hl:0<s.length:=by
      cases s with
      | nil=>exact absurd rfl hs
      | cons _ _=>simp
     rw[List.length_drop];show s.length-(i+3)<f;omega
    have ih:=replaceK_unE f (s.drop (i+([37,50,101]:Bs).length)) hd;have e:((i:Int)).toNat=i:=by omega
    rw[e,ih,h2 i hin]
    simp
theorem replace_unE (s:Bs):Lib.replaceAll s [37,50,101] [46]=unE s:=by
 unfold Lib.replaceAll Lib.replace;rw[if_neg (by decide)];unfold Lib.replaceNum;rw[if_pos (Or.inl (by decide))];exact replaceK_unE (s.length+1) s (by omega)
def stepL (scheme:Bs) (path:List Bs) (p:Bs) (more:Bool):List Bs:=
 let q:=encodeP (setU 4) p
 if dotsP q=2 then(if more=false then shortP scheme path++[[]]else shortP scheme path)
 else if dotsP q=1 then(if more=false then path++[[]]else path)
 else path++[if scheme=fileS/\path=[]/\driveP q=true then q.take 1++[58]else q]
theorem splitS_cut (sp:Bool):∀s:Bs,splitS sp s=(cutS sp s).1::(if(cutS sp s).2.2 then splitS sp (cutS sp s).2.1 else[])
 | []=>rfl
 | c::r=>by
   have ih:=splitS_cut sp r;rw[splitS];by_cases h:slashQ sp c=true
   ·have h1:(cutS sp (c::r))=([],r,true):=by simp[cutS,h]
    rw[if_pos h,h1]
    simp
   ·have h2:slashQ sp c=false:=by simpa using h
    have h1:(cutS sp (c::r))=(c::(cutS sp r).1,(cutS sp r).2.1,(cutS sp r).2.2):=by simp[cutS,h2]
    rw[if_neg h,h1,ih]
theorem onL_step (scheme:Bs) (path:List Bs) (p:Bs) (r:List Bs):onL scheme path (p::r)=onL scheme (stepL scheme path p (!decide (r=[]))) r:=by
 rw[onL,stepL];by_cases hr:r=[]
 ·simp only[hr];by_cases h2:dotsP (encodeP (setU 4) p)=2
  ·simp[h2]
  ·by_cases h1:dotsP (encodeP (setU 4) p)=1<;>simp[h1,h2]
 ·simp only[hr];by_cases h2:dotsP (encodeP (setU 4) p)=2
  ·simp[h2]
  ·by_cases h1:dotsP (encodeP (setU 4) p)=1<;>simp[h1,h2]
theorem onL_nil (scheme:Bs) (path:List Bs):onL scheme path []=path:=by rw[onL]
theorem onP_step (u:UrlL) (t:Bs):onP u t=if(cutS (specP u.scheme) t).2.2 then onP {u with path:=stepL u.scheme u.path (cutS (specP u.scheme) t).1 true} (cutS (specP u.scheme) t).2.1 else{u with path:=stepL u.scheme u.path (cutS (specP u.scheme) t).1 false}:=by
 unfold onP;rw[splitS_cut,onL_step];cases h:(cutS (specP u.scheme) t).2.2
 ·simp[onL_nil]
 ·simp[splitS_ne]
theorem stepL_dots2 (scheme:Bs) (path:List Bs) (p:Bs) (more:Bool) (h:dotsP (encodeP (setU 4) p)=2):stepL scheme path p more=if more=false then shortP scheme path++[[]]else shortP scheme path:=by simp[stepL,h]
theorem stepL_dots1 (scheme:Bs) (path:List Bs) (p:Bs) (more:Bool) (h:dotsP (encodeP (setU 4) p)=1):stepL scheme path p more=if more=false then path++[[]]else path:=by simp[stepL,h]
theorem stepL_dots0 (scheme:Bs) (path:List Bs) (p:Bs) (more:Bool) (h:dotsP (encodeP (setU 4) p)=0):stepL scheme path p more=path++[if scheme=fileS/\path=[]/\driveP (encodeP (setU 4) p)=true then(encodeP (setU 4) p).take 1++[58]else encodeP (setU 4) p]:=by simp[stepL,h]
theorem dotsP_cases (p:Bs):dotsP p=0\/dotsP p=1\/dotsP p=2:=by
 unfold dotsP;split
 ·exact .inr (.inl rfl)
 ·split
  ·exact .inr (.inr rfl)
  ·exact .inl rfl
def plQ (q:UInt8->Bool) (l:Bs):Option Nat:=l.findIdx? q
theorem plQ_none {q:UInt8->Bool} {l:Bs} (h:plQ q l=none):l.takeWhile (fun c=> !q c)=l/\l.dropWhile (fun c=> !q c)=[]/\l.any q=false:=by
 induction l with
 | nil=>exact⟨rfl,rfl,rfl⟩
 | cons c r ih=>
   rw[plQ,List.findIdx?_cons]at h;cases hc:q c with
   | true=>rw[hc]at h;simp at h
   | false=>
     rw[hc]at h;obtain⟨h1,h2,h3⟩:=ih (by simpa [plQ]using h)
     simp[hc,h1,h2,h3]
theorem plQ_some {q:UInt8->Bool} {l:Bs} {i:Nat} (h:plQ q l=some i):i<l.length/\l.takeWhile (fun c=> !q c)=l.take i/\(l.dropWhile (fun c=> !q c)).drop 1=l.drop (i+1)/\l.any q=true:=by
 induction l generalizing i with
 | nil=>cases h
 | cons c r ih=>
   rw[plQ,List.findIdx?_cons]at h;cases hc:q c with
   | true=>
     rw[hc]at h;obtain rfl:0=i:=by simpa using h
     simp[hc]
   | false=>
     rw[hc]at h;simp only[Bool.false_eq_true,if_false,Option.map_eq_some_iff]at h;obtain⟨k,hk,rfl⟩:=h;obtain⟨h1,h2,h3,h4⟩:=ih hk;exact⟨by simp;omega,by simp[hc,h2],by simp[hc,h3],by simp[hc,h4]⟩
theorem cutS_none {sp:Bool} {s:Bs} (h:plQ (slashQ sp) s=none):cutS sp s=(s,[],false):=by
 obtain⟨h1,h2,h3⟩:=plQ_none h
 simp[cutS,h1,h2,h3]
theorem cutS_some {sp:Bool} {s:Bs} {i:Nat} (h:plQ (slashQ sp) s=some i):cutS sp s=(s.take i,s.drop (i+1),true):=by
 obtain⟨h0,h1,h2,h3⟩:=plQ_some h;unfold cutS;rw[h1,h2,h3]
theorem plQ_lt {q:UInt8->Bool} {l:Bs} {i:Nat} (h:plQ q l=some i):i<l.length:=(plQ_some h).1
theorem plQ_skip (q:UInt8->Bool) (l:Bs) (pos:Nat):∀k,(∀j b,pos<=j->j<pos+k->l[j]? =some b->q b=false)->(plQ q (l.drop pos)).map (·+pos)=(plQ q (l.drop (pos+k))).map (·+(pos+k))
 | 0,_=>rfl
 | k+1,h=>by
   rw[plQ_skip q l pos k fun j b h1 h2 hj=>h j b h1 (by omega) hj];by_cases hl:pos+k<l.length
   ·rw[List.drop_eq_getElem_cons hl,plQ,List.findIdx?_cons,h (pos+k) l[pos+k] (by omega) (by omega) (List.getElem?_eq_getElem hl)];show _=Option.map _ (plQ q (l.drop (pos+k+1)));rw[plQ];cases List.findIdx? q (l.drop (pos+k+1))with
    | none=>rfl
    | some n=>simp;omega
   ·rw[List.drop_eq_nil_of_le (by omega),List.drop_eq_nil_of_le (by omega)];rfl
theorem stepL_len (scheme:Bs) (path:List Bs) (p:Bs) (more:Bool):(stepL scheme path p more).length<=path.length+1:=by
 have hs:(shortP scheme path).length<=path.length:=by
  unfold shortP;split
  ·exact Nat.le_refl _
  ·simp
 rcases dotsP_cases (encodeP (setU 4) p)with h|h|h
 ·rw[stepL_dots0 _ _ _ _ h];simp
 ·rw[stepL_dots1 _ _ _ _ h];split<;>simp
 ·rw[stepL_dots2 _ _ _ _ h];split<;>simp<;>omega
theorem cutS_more_len {sp:Bool} {s:Bs} (h:(cutS sp s).2.2=true):(cutS sp s).1.length+(cutS sp s).2.1.length+1=s.length:=by
 cases hp:plQ (slashQ sp) s with
 | none=>rw[cutS_none hp]at h;cases h
 | some i=>
   have:=plQ_lt hp;rw[cutS_some hp]
   simp;omega
theorem slash_contains (sp:Bool):(if sp then([47,92]:Bs)else[47]).contains=slashQ sp:=by
 funext c
 cases sp<;>(rw[Bool.eq_iff_iff];simp[slashQ])
end Lz
namespace Go.Proofs.YtfepgodjaeddgaaGreatDoor
open Go.RowKit
theorem text_is (s:ByteArray) (k:List UInt8):(s.toList==k)=decide (s.data.toList=k):=by
 rw[Lib.toList_data,Bool.eq_iff_iff];simp
theorem text_yes {s:ByteArray} {k:List UInt8} (h:s.data.toList=k):(s.toList==k)=true:=(text_is s k).trans (decide_eq_true h)
theorem text_no {s:ByteArray} {k:List UInt8} (h:¬s.data.toList=k):(s.toList==k)=false:=(text_is s k).trans (decide_eq_false h)
theorem Default_any (s:ByteArray) (w:World):Calls Tryz.prog 113 #[.string s] w fun e w'=>e=.returned (.int .i64 (Lz.defP s.data.toList))/\w=w':=by
 by_cases h0:s.data.toList=[104,116,116,112]
 ·have g0:=text_yes h0;have HV:Hid (Lz.defP s.data.toList=80):=by show _=_;rw[h0];rfl
  clear h0;go_enter Tryz.func113,Tryz.ntmps113
  go_wp2_with fail
  go_ret;rw[HV.out];exact⟨rfl,rfl⟩
 ·have g0:=text_no h0;by_cases h1:s.data.toList=[119,115]
  ·have g1:=text_yes h1;have HV:Hid (Lz.defP s.data.toList=80):=by show _=_;rw[h1];rfl
   clear h0 h1;go_enter Tryz.func113,Tryz.ntmps113
   go_wp2_with fail
   go_ret;rw[HV.out];exact⟨rfl,rfl⟩
  ·have g1:=text_no h1;by_cases h2:s.data.toList=[104,116,116,112,115]
   ·have g2:=text_yes h2;have HV:Hid (Lz.defP s.data.toList=443):=by show _=_;rw[h2];rfl
    clear h0 h1 h2;go_enter Tryz.func113,Tryz.ntmps113
    go_wp2_with fail
    go_ret;rw[HV.out];exact⟨rfl,rfl⟩
   ·have g2:=text_no h2;by_cases h3:s.data.toList=[119,115,115]
    ·have g3:=text_yes h3;have HV:Hid (Lz.defP s.data.toList=443):=by show _=_;rw[h3];rfl
     clear h0 h1 h2 h3;go_enter Tryz.func113,Tryz.ntmps113
     go_wp2_with fail
     go_ret;rw[HV.out];exact⟨rfl,rfl⟩
    ·have g3:=text_no h3;by_cases h4:s.data.toList=[102,116,112]
     ·have g4:=text_yes h4;have HV:Hid (Lz.defP s.data.toList=21):=by show _=_;rw[h4];rfl
      clear h0 h1 h2 h3 h4;go_enter Tryz.func113,Tryz.ntmps113
      go_wp2_with fail
      go_ret;rw[HV.out];exact⟨rfl,rfl⟩
     ·have g4:=text_no h4
      have HV:Hid (Lz.defP s.data.toList= -1):=by
       show _=_;unfold Lz.defP;rw[if_neg (fun h=>h.elim h0 h1),if_neg (fun h=>h.elim h2 h3),if_neg (show ¬s.data.toList=Lz.ftpS from h4)]
      clear h0 h1 h2 h3 h4;go_enter Tryz.func113,Tryz.ntmps113
      go_wp2_with fail
      go_ret;rw[HV.out];exact⟨rfl,rfl⟩
theorem Special_any (s:ByteArray) (w:World):Calls Tryz.prog 143 #[.string s] w fun e w'=>e=.returned (.bool (Lz.specP s.data.toList))/\w=w':=by
 by_cases h0:s.data.toList=[102,105,108,101]
 ·have g0:=text_yes h0;have HV:Hid (Lz.specP s.data.toList=true):=by show _=_;rw[h0];rfl
  clear h0;go_enter Tryz.func143,Tryz.ntmps143
  go_wp2_with fail
  go_ret;rw[HV.out];exact⟨rfl,rfl⟩
 ·have g0:=text_no h0;have cD:=Default_any s w;obtain⟨d,hd⟩:∃d,d=Lz.defP s.data.toList:=⟨_,rfl⟩
  have HV:Hid (Lz.specP s.data.toList= !(d== -1)):=by
   show _=_;unfold Lz.specP;have:(s.data.toList==Lz.fileS)=false:=by rw[beq_eq_false_iff_ne];exact h0
   rw[this,Bool.false_or,hd]
  rw[<-hd]at cD;have CD:=Ih cD;have hne:(d != -1)= !(d== -1):=rfl;clear h0 cD hd;go_enter Tryz.func143,Tryz.ntmps143
  go_wp2_with fail
  refine CD.out.mono ?_;rintro e w1 ⟨rfl,rfl⟩
  go_wp2_with fail
  go_ret;rw[HV.out];exact⟨by first |rfl|rw[hne],rfl⟩
def intO:Option Nat->Int
 | some n=>n
 | none=> -1
theorem beqU (a b:UInt8):((a.toNat:Int)==(b.toNat:Int))=(a==b):=beqI a b
theorem two_of {s:ByteArray} (h:s.size=2):s.data.toList=[s[0],s[1]]:=by
 have h0:=get_of_lt (s:=s) (n:=0) (by omega);have h1:=get_of_lt (s:=s) (n:=1) (by omega);have hl:s.data.toList.length=2:=h;generalize s.data.toList=l at h0 h1 hl
 match l,hl with
 | [a,b],_=>
   have e0:a=s[0]:=by simpa using h0
   have e1:b=s[1]:=by simpa using h1
   rw[e0,e1]
theorem drive_any (s:ByteArray) (w:World):Calls Tryz.prog 147 #[.string s] w fun e w'=>e=.returned (.bool (Lz.driveP s.data.toList))/\w=w':=by
 by_cases h2:s.size=2
 ·have h2I:((s.size:Int)==2)=true:=by simp;omega
  have hp0:0<s.size:=by omega
  have hp1:1<s.size:=by omega
  have hp0I:(0:Int)<(s.size:Int):=by omega
  have hp1I:(1:Int)<(s.size:Int):=by omega
  have hl:=two_of h2;obtain⟨a,ha⟩:∃a,a=s[0]:=⟨_,rfl⟩;obtain⟨b,hb⟩:∃b,b=s[1]:=⟨_,rfl⟩;have haI:(s[0].toNat:Int)=(a.toNat:Int):=by rw[ha]
  have hbI:(s[1].toNat:Int)=(b.toNat:Int):=by rw[hb]
  rw[<-ha,<-hb]at hl;have HV:Hid (Lz.driveP s.data.toList=(Lz.isAlpha a&&(b==58||b==124))):=by show _=_;rw[hl];rfl
  have cA:=Alpha_any a w;have b1:((b.toNat:Int)==58)=(b==58):=beqU b 58;have b2:((b.toNat:Int)==124)=(b==124):=beqU b 124;generalize Lz.isAlpha a=p at cA HV;generalize (b==58)=q at b1 HV;generalize (b==124)=r at b2 HV;have CA:=Ih cA;have H2:=Ih h2;clear hl ha hb cA h2;cases p
  ·go_enter Tryz.func147,Tryz.ntmps147
   go_wp2_with fail
   refine CA.out.mono ?_;rintro e w1 ⟨rfl,rfl⟩
   go_wp2_with fail
   go_ret;rw[HV.out];exact⟨rfl,rfl⟩
  ·cases q
   ·go_enter Tryz.func147,Tryz.ntmps147
    go_wp2_with fail
    refine CA.out.mono ?_;rintro e w1 ⟨rfl,rfl⟩
    go_wp2_with fail
    go_ret;rw[HV.out];exact⟨by cases r<;>first |rfl|(rw[b2];rfl),rfl⟩
   ·go_enter Tryz.func147,Tryz.ntmps147
    go_wp2_with fail
    refine CA.out.mono ?_;rintro e w1 ⟨rfl,rfl⟩
    go_wp2_with fail
    go_ret;rw[HV.out];exact⟨rfl,rfl⟩
 ·have h2I:((s.size:Int)==2)=false:=by simp;omega
  have HV:Hid (Lz.driveP s.data.toList=false):=by
   show _=_;have hl:s.data.toList.length≠2:=h2;generalize s.data.toList=l at hl
   match l,hl with
   | [],_=>rfl
   | [_],_=>rfl
   | [_,_],hl=>exact absurd rfl hl
   | _::_::_::_,_=>rfl
  go_enter Tryz.func147,Tryz.ntmps147
  go_wp2_with fail
  go_ret;rw[HV.out];exact⟨rfl,rfl⟩
theorem colon_any (s:ByteArray) (hs:s.size<=1048576) (w:World):Calls Tryz.prog 198 #[.string s] w fun e w'=>e=.returned (.int .i64 (intO (Lz.colonP false s.data.toList)))/\w=w':=by
 obtain⟨o,ho⟩:∃o,o=Lz.colonP false s.data.toList:=⟨_,rfl⟩;have Ho:=Ih ho;rw[<-ho];clear ho;go_enter Tryz.func198,Tryz.ntmps198
 go_wp2_with fail
 go_loopw [3,7] (fun i k wr=>∃(b:Bool) (j:Nat),i=.bool b/\k=.int .i64 j/\j<=s.size/\Hid (o=(Lz.colonP b (s.data.toList.drop j)).map (·+j))/\w=wr) (fun _ k _=>s.size-(intOf k).toNat)
 case atStart=>exact⟨false,0,rfl,rfl,Nat.zero_le _,by show _=_;rw[Ho.out,List.drop_zero];simp,rfl⟩
 case round=>
  obtain⟨b,j,rfl,rfl,hj,hO,rfl⟩:=hrel;by_cases hlt:j<s.size
  ·have hltI:(j:Int)<(s.size:Int):=by omega
   have hj0:(0:Int)<=(j:Int):=by omega
   obtain⟨c,hc⟩:∃c,c=s[j]:=⟨_,rfl⟩;have hcI:(s[j].toNat:Int)=(c.toNat:Int):=by rw[hc]
   have hst:Hid (o=(if c==91 then(Lz.colonP true (s.data.toList.drop (j+1))).map (·+1)else if c==93 then(Lz.colonP false (s.data.toList.drop (j+1))).map (·+1)else if c==58&& !b then some 0 else(Lz.colonP b (s.data.toList.drop (j+1))).map (·+1)).map (·+j)):=by
    show _=_;rw[hO.out,List.drop_eq_getElem_cons (show j<s.data.toList.length from hlt),Lz.colonP,hc];rfl
   have hmm:∀x:Option Nat,(x.map (·+1)).map (·+j)=x.map (·+(j+1)):=by
    intro x;cases x with
    | none=>rfl
    | some n=>simp;omega
   have b1:((c.toNat:Int)==91)=(c==91):=beqU c 91;have b2:((c.toNat:Int)==93)=(c==93):=beqU c 93;have b3:((c.toNat:Int)==58)=(c==58):=beqU c 58;generalize (c==91)=q1 at b1 hst;generalize (c==93)=q2 at b2 hst;generalize (c==58)=q3 at b3 hst;have Hmm:=Ih hmm;clear hc hO hmm;cases q1
   ·cases q2
    ·cases q3
     ·have HN:Hid (o=(Lz.colonP b (s.data.toList.drop (j+1))).map (·+(j+1))):=by show _=_;rw[hst.out,<-Hmm.out];rfl
      go_wp2_with fail
      go_roundw
      case rel=>exact⟨b,j+1,rfl,by go_num,by omega,HN,trivial⟩
      case measure=>simp[intOf];omega
     ·cases b
      ·have HN:Hid (o=some j):=by show _=_;rw[hst.out];simp
       go_wp2_with fail
       go_ret;rw[HN.out];exact⟨rfl,rfl⟩
      ·have HN:Hid (o=(Lz.colonP true (s.data.toList.drop (j+1))).map (·+(j+1))):=by show _=_;rw[hst.out,<-Hmm.out];rfl
       go_wp2_with fail
       go_roundw
       case rel=>exact⟨true,j+1,rfl,by go_num,by omega,HN,trivial⟩
       case measure=>simp[intOf];omega
    ·have HN:Hid (o=(Lz.colonP false (s.data.toList.drop (j+1))).map (·+(j+1))):=by show _=_;rw[hst.out,<-Hmm.out];rfl
     go_wp2_with fail
     go_roundw
     case rel=>exact⟨false,j+1,rfl,by go_num,by omega,HN,trivial⟩
     case measure=>simp[intOf];omega
   ·have HN:Hid (o=(Lz.colonP true (s.data.toList.drop (j+1))).map (·+(j+1))):=by show _=_;rw[hst.out,<-Hmm.out];rfl
    go_wp2_with fail
    go_roundw
    case rel=>exact⟨true,j+1,rfl,by go_num,by omega,HN,trivial⟩
    case measure=>simp[intOf];omega
  ·have hltI:¬(j:Int)<(s.size:Int):=by omega
   have HN:Hid (o=none):=by
    show _=_;rw[hO.out,List.drop_eq_nil_of_le (show s.data.toList.length<=j by rw[len_of_size];omega)];rfl
   go_wp2_with fail
   go_ret;rw[HN.out];exact⟨rfl,rfl⟩
theorem extract_head2 (s:ByteArray) (k:Nat):(s.extract 0 k).data.toList=s.data.toList.take k:=by
 rw[Lib.extract_data];rfl
theorem driven_short {l:List UInt8} (h:l.length<2):Lz.drivenP l=false:=by
 match l,h with
 | [],_=>rfl
 | [_],_=>rfl
theorem driven_two {l:List UInt8} (h:l.length=2):Lz.drivenP l=Lz.driveP (l.take 2):=by
 match l,h with
 | [_,_],_=>rfl
theorem driven_more {l:List UInt8} {c:UInt8} (h:l[2]? =some c):Lz.drivenP l=(Lz.driveP (l.take 2)&&(c==47||c==92)):=by
 match l,h with
 | a::b::d::r,h=>
   have:d=c:=by simpa using h
   rw[<-this];rfl
theorem driven_any (s:ByteArray) (w:World):Calls Tryz.prog 149 #[.string s] w fun e w'=>e=.returned (.bool (Lz.drivenP s.data.toList))/\w=w':=by
 by_cases h2:2<=s.size
 ·have h2I:(2:Int)<=(s.size:Int):=by omega
  have cD:=drive_any (s.extract 0 2) w;rw[extract_head2]at cD;obtain⟨q,hq⟩:∃q,q=Lz.driveP (s.data.toList.take 2):=⟨_,rfl⟩;rw[<-hq]at cD;have CD:=Ih cD;clear cD;by_cases he:s.size=2
  ·have heI:((s.size:Int)==2)=true:=by simp;omega
   have HV:Hid (Lz.drivenP s.data.toList=q):=by show _=_;rw[driven_two (show s.data.toList.length=2 from he),hq]
   have He:=Ih he;clear he hq;cases q
   ·go_enter Tryz.func149,Tryz.ntmps149
    go_wp2_with fail
    refine CD.out.mono ?_;rintro e w1 ⟨rfl,rfl⟩
    go_wp2_with fail
    go_ret;rw[HV.out];exact⟨rfl,rfl⟩
   ·go_enter Tryz.func149,Tryz.ntmps149
    go_wp2_with fail
    refine CD.out.mono ?_;rintro e w1 ⟨rfl,rfl⟩
    go_wp2_with fail
    go_ret;rw[HV.out];exact⟨rfl,rfl⟩
  ·have heI:((s.size:Int)==2)=false:=by simp;omega
   have hp2:2<s.size:=by omega
   have hp2I:(2:Int)<(s.size:Int):=by omega
   obtain⟨c,hc⟩:∃c,c=s[2]:=⟨_,rfl⟩;have hcI:(s[2].toNat:Int)=(c.toNat:Int):=by rw[hc]
   have HV:Hid (Lz.drivenP s.data.toList=(q&&(c==47||c==92))):=by show _=_;rw[driven_more (c:=c) (by rw[get_of_lt hp2,hc]),hq]
   have b1:((c.toNat:Int)==47)=(c==47):=beqU c 47;have b2:((c.toNat:Int)==92)=(c==92):=beqU c 92;generalize (c==47)=p1 at b1 HV;generalize (c==92)=p2 at b2 HV;clear hq hc he;cases q
   ·go_enter Tryz.func149,Tryz.ntmps149
    go_wp2_with fail
    refine CD.out.mono ?_;rintro e w1 ⟨rfl,rfl⟩
    go_wp2_with fail
    go_ret;rw[HV.out];exact⟨rfl,rfl⟩
   ·cases p1
    ·go_enter Tryz.func149,Tryz.ntmps149
     go_wp2_with fail
     refine CD.out.mono ?_;rintro e w1 ⟨rfl,rfl⟩
     go_wp2_with fail
     go_ret;rw[HV.out];exact⟨by cases p2<;>first |rfl|(rw[b2];rfl),rfl⟩
    ·go_enter Tryz.func149,Tryz.ntmps149
     go_wp2_with fail
     refine CD.out.mono ?_;rintro e w1 ⟨rfl,rfl⟩
     go_wp2_with fail
     go_ret;rw[HV.out];exact⟨rfl,rfl⟩
 ·have h2I:¬(2:Int)<=(s.size:Int):=by omega
  have HV:Hid (Lz.drivenP s.data.toList=false):=by show _=_;rw[driven_short (show s.data.toList.length<2 by rw[len_of_size];omega)]
  go_enter Tryz.func149,Tryz.ntmps149
  go_wp2_with fail
  go_ret;rw[HV.out];exact⟨rfl,rfl⟩
def PathAt (w:World) (v:Value) (l:List (List UInt8)):Prop:=
 ∃(a:Option Addr) (c:Nat) (xs:List ByteArray),v=.slice a xs.length c/\xs.map (fun x:ByteArray=>x.data.toList)=l/\∀(j:Nat) (x:ByteArray),xs[j]? =some x->∃B off,a=some ⟨B,off,none⟩/\B<w.heap.size/\w.cell? ⟨B,off+j,none⟩=some (.string x)
theorem PathAt.below {w w':World} {v:Value} {l:List (List UInt8)} (h:PathAt w v l) (hb:Below w.heap.size w w'):PathAt w' v l:=by
 obtain⟨a,c,xs,h1,h2,h3⟩:=h;refine⟨a,c,xs,h1,h2,fun j x hj=>?_⟩;obtain⟨B,off,e1,e2,e3⟩:=h3 j x hj;exact⟨B,off,e1,Nat.lt_of_lt_of_le e2 hb.size,by rw[hb.cell (p:=⟨B,off+j,none⟩) e2];exact e3⟩
theorem drive_size {l:List UInt8} (h:Lz.driveP l=true):l.length=2:=by
 match l,h with
 | [_,_],_=>rfl
theorem rooted_any (v:Value) (l:List (List UInt8)) (w:World) (h:PathAt w v l):Calls Tryz.prog 150 #[v] w fun e w'=>e=.returned (.bool (Lz.rootedP l))/\w=w':=by
 obtain⟨a,c,xs,rfl,rfl,hx⟩:=h;cases xs with
 | nil=>
   go_enter Tryz.func150,Tryz.ntmps150
   go_wp2_with fail
   go_ret;exact⟨rfl,rfl⟩
 | cons x r=>
   obtain⟨B,off,rfl,hB,hc⟩:=hx 0 x rfl;rw[Nat.add_zero]at hc;have hl0:(0:Int)<((x::r).length:Int):=by rw[List.length_cons];omega
   have hl1:(0:Int)<(r.length:Int)+1:=by omega
   have cD:=drive_any x w;have HV:Hid (Lz.rootedP ((x::r).map fun x:ByteArray=>x.data.toList)=(Lz.driveP x.data.toList&&(x.data.toList[1]? ==some 58))):=rfl;cases hq:Lz.driveP x.data.toList with
   | false=>
     rw[hq]at cD;have HV2:Hid (Lz.rootedP ((x::r).map fun x:ByteArray=>x.data.toList)=false):=by show _=_;rw[HV.out,hq];rfl
     have CD:=Ih cD;clear cD hq hx;go_enter Tryz.func150,Tryz.ntmps150
     go_wp2_with fail
     refine CD.out.mono ?_;rintro e w1 ⟨rfl,rfl⟩
     go_wp2_with fail
     go_ret;rw[HV2.out];exact⟨rfl,rfl⟩
   | true=>
     rw[hq]at cD;have hz:x.size=2:=drive_size hq;have hp1:1<x.size:=by omega
     have hp1I:(1:Int)<(x.size:Int):=by omega
     obtain⟨d,hd⟩:∃d,d=x[1]:=⟨_,rfl⟩;have hdI:(x[1].toNat:Int)=(d.toNat:Int):=by rw[hd]
     have b1:((d.toNat:Int)==58)=(d==58):=beqU d 58
     have HV2:Hid (Lz.rootedP ((x::r).map fun x:ByteArray=>x.data.toList)=(d==58)):=by
      show _=_;rw[HV.out,hq,get_of_lt hp1,<-hd];rfl
     have CD:=Ih cD;have Hz:=Ih hz;clear cD hq hx hd hz;go_enter Tryz.func150,Tryz.ntmps150
     go_wp2_with fail
     refine CD.out.mono ?_;rintro e w1 ⟨rfl,rfl⟩
     go_wp2_with fail
     go_ret;rw[HV2.out];exact⟨by first |rfl|rw[b1]|(rw[<-b1];rfl),rfl⟩
theorem rowAt {w:World} {R:Nat} {cs:Array Value} {t:TypeId} {fr:Nat×Nat} (h:w.heap[R]? =some (.cells cs t fr)) (k:Nat) (v:Value) (hv:cs[k]? =some v):w.cell? ⟨R,k,none⟩=some v:=by
 rw[cell_of_row w R k _ _ _ h];exact hv
theorem rowFz {w:World} {R:Nat} {cs:Array Value} {t:TypeId} (h:w.heap[R]? =some (.cells cs t (0,0))) (k:Nat):w.frozen? ⟨R,k,none⟩=false:=by simp[World.frozen?,h]
theorem rowSet {w:World} {R:Nat} {cs:Array Value} {t:TypeId} {fr:Nat×Nat} (h:w.heap[R]? =some (.cells cs t fr)) (k:Nat) (v:Value) {cs':Array Value} (hc:cs.setIfInBounds k v=cs'):(w.setCell ⟨R,k,none⟩ v).heap[R]? =some (.cells cs' t fr):=by
 rw[setCell_eq_setRow w R k cs _ _ v h,<-hc];exact setRow_heap _ _ _ _ _ _ h
theorem row_lt {w:World} {R:Nat} {o:Obj} (h:w.heap[R]? =some o):R<w.heap.size:=(Array.getElem?_eq_some_iff.1 h).1
theorem setCell_other {w:World} {p:Addr} {k:Nat} (h:k≠p.block) (v:Value):(w.setCell p v).heap[k]? =w.heap[k]? :=Below.heap_setCell w p v k h
theorem grown_setCell (w:World) (p:Addr) (v:Value):w.grownBy (w.setCell p v) (some p.block):=
 ⟨rfl,rfl,rfl,by simp,fun k _ hk=>setCell_other (fun e=>hk (by rw[e])) v⟩
theorem add_block (a:Addr) (j:Nat) (hs:a.spot=none):(a.add j).block=a.block:=by
 obtain⟨G,off,spot⟩:=a;obtain rfl:spot=none:=hs;unfold Addr.add;split<;>rfl
theorem infoTxt:(Tryz.prog.info? 9).map (fun i=>(i.zero,i.size,i.bytes))=some (some (.string ⟨#[]⟩),1,16):=by kernel_rfl
def PathOwn (w:World) (B:Nat) (v:Value) (xs:List ByteArray):Prop:=
 w.ownsRow B 9 1 v xs.length (xs.map Value.string)\/
 ∃a:Addr,v=.slice (some a) xs.length xs.length/\a.spot=none/\(∀j u,(xs.map Value.string)[j]? =some u->w.cell? (a.add j)=some u)/\(xs≠[]->∃cur fz,w.heap[a.block]? =some (.cells cur 9 fz))
theorem PathOwn.nil (w:World) (B:Nat):PathOwn w B (.slice none 0 0) []:=.inl (World.ownsRow_nil w B _ _)
theorem PathOwn.kept {w w':World} {B:Nat} {v:Value} {xs:List ByteArray} {row:Option Nat} (h:PathOwn w B v xs) (hg:w.grownBy w' row)
  (hr:∀k,row=some k->∃cs t fr,w.heap[k]? =some (.cells cs t fr)/\t≠9):PathOwn w' B v xs:=by
 rcases h with h|⟨a,rfl,hs,hc,hb⟩
 ·refine .inl (h.kept hg ?_);rcases h.2 with⟨rfl,_⟩|⟨g,cap,cur,rfl,_,hgb,_⟩
  ·exact .inl rfl
  ·refine .inr fun e=>?_;obtain⟨cs,t,fr,h1,h2⟩:=hr g e.symm;rw[hgb]at h1;injection h1 with h1
   injection h1 with _ h3 _
   exact h2 h3.symm
 ·by_cases hx:xs=[]
  ·subst hx;exact .inr ⟨a,rfl,hs,fun j u hj=>by simp at hj,fun h=>absurd rfl h⟩
  ·obtain⟨cur,fz,hcur⟩:=hb hx
   have hne:some a.block≠row:=fun e=>by
    obtain⟨cs,t,fr,h1,h2⟩:=hr a.block e.symm;rw[hcur]at h1;injection h1 with h1
    injection h1 with _ h3 _
    exact h2 h3.symm
   have hk:=hg.block a.block (row_lt hcur) hne;exact .inr ⟨a,rfl,hs,fun j u hj=>(World.cell?_of_block (a:=a.add j) (by rw[add_block a j hs];exact hk)).trans (hc j u hj),fun _=>⟨cur,fz,by rw[hk];exact hcur⟩⟩
theorem below_grown {w w':World} (hb:Below w.heap.size w w'):w.grownBy w' none:=⟨hb.os,hb.tape,hb.output,hb.size,fun k hk _=>hb.block k hk⟩
theorem PathOwn.below {w w':World} {B:Nat} {v:Value} {xs:List ByteArray} (h:PathOwn w B v xs) (hb:Below w.heap.size w w'):PathOwn w' B v xs:=
 h.kept (below_grown hb) (fun k hk=>by cases hk)
theorem PathOwn.setCell {w:World} {B M:Nat} {v:Value} {xs:List ByteArray} {cs:Array Value} {t:TypeId} {fr:Nat×Nat} (h:PathOwn w B v xs) (hM:w.heap[M]? =some (.cells cs t fr)) (ht:t≠9) (k:Nat) (u:Value):PathOwn (w.setCell ⟨M,k,none⟩ u) B v xs:=
 h.kept (grown_setCell w ⟨M,k,none⟩ u) (fun k hk=>by injection hk with hk;subst hk;exact⟨cs,t,fr,hM,ht⟩)
theorem PathOwn.form {w:World} {B:Nat} {v:Value} {xs:List ByteArray} (h:PathOwn w B v xs):∃a c,v=.slice a xs.length c/\xs.length<=c/\∀(j:Nat) (x:ByteArray),xs[j]? =some x->∃G off,a=some ⟨G,off,none⟩/\G<w.heap.size/\w.cell? ⟨G,off+j,none⟩=some (.string x):=by
 rcases h with h|⟨a,rfl,hs,hc,hb⟩
 ·rcases h.2 with⟨rfl,h0⟩|⟨g,cap,cur,rfl,hgb,hg,hn,hcm,hcs,htk⟩
  ·refine⟨none,0,by rw[h0],by omega,fun j x hj=>?_⟩;rw[List.eq_nil_of_length_eq_zero h0]at hj
   simp at hj
  ·refine⟨_,cap,rfl,hn,fun j x hj=>⟨g,0,rfl,row_lt hg,?_⟩⟩;have:=h.cells (g:=g) rfl j (.string x) (by rw[List.getElem?_map,hj];rfl);rw[addr_add]at this;rw[Nat.zero_add];exact this
 ·refine⟨some a,xs.length,rfl,Nat.le_refl _,fun j x hj=>?_⟩;obtain⟨G,off,spot⟩:=a;obtain rfl:spot=none:=hs;have:=hc j (.string x) (by rw[List.getElem?_map,hj];rfl);rw[show(⟨G,off,none⟩:Addr).add j=⟨G,off+j,none⟩ by simp[Addr.add]]at this;exact⟨G,off,rfl,World.block_lt_of_cell? _ _ this,this⟩
theorem PathOwn.pop {w:World} {B:Nat} {a:Option Addr} {n c:Nat} {xs:List ByteArray} (h:PathOwn w B (.slice a n c) xs) (hn:1<=xs.length):PathOwn w B (.slice a (n-1) (n-1)) xs.dropLast:=by
 have hl:xs.dropLast.length=n-1:=by
  obtain⟨a',c',e,_⟩:=h.form;injection e with _ e2 _
  rw[List.length_dropLast,e2]
 have hsub:∀(j:Nat) (u:Value),(xs.dropLast.map Value.string)[j]? =some u->(xs.map Value.string)[j]? =some u:=by
  intro j u hj;rw[List.getElem?_map,Option.map_eq_some_iff]at hj;obtain⟨x,hx,rfl⟩:=hj;have hjl:=(List.getElem?_eq_some_iff.1 hx).1;rw[List.length_dropLast]at hjl;rw[List.getElem?_map,<-List.getElem?_take_of_lt (show j<xs.length-1 from hjl),<-List.dropLast_eq_take,hx];rfl
 rcases h with h|⟨p,e,hs,hc,hb⟩
 ·rcases h.2 with⟨e,h0⟩|⟨g,cap,cur,e,hgb,hg,hnc,hcm,hcs,htk⟩
  ·omega
  ·injection e with e1 e2 e3
   subst e1;exact .inr ⟨⟨g,0,none⟩,by rw[hl],rfl,fun j u hj=>h.cells (g:=g) (by rw[Value.ownBlock]) j u (hsub j u hj),fun _=>⟨cur,(0,0),hg⟩⟩
 ·injection e with e1 e2 e3
  subst e1;exact .inr ⟨p,by rw[hl],hs,fun j u hj=>hc j u (hsub j u hj),fun _=>hb (fun e=>by rw[e]at hn;simp at hn)⟩
section
variable {P:Program} (w:World)
theorem run_append_full (base:Nat) (t ty e:TypeId) (i:TypeInfo) (z:Value) (bytes:Nat) (ht:P.underlying t=some (.slice e)) (hi:P.info? e=some i) (hz:i.zero=some z)
  (hsize:i.size=1) (hby:i.bytes=bytes) (hzs:z.cells.size=1)
  (p:Addr) (n:Nat) (xs:List Value) (hlx:xs.length=n) (hcx:∀j u,xs[j]? =some u->w.cell? (p.add j)=some u)
  (a:Addr) (c:Nat) (x:Value) (hx:w.cell? (a.add 0)=some x)
  (h63:n+1<=maxLen) (hbytes:(n+1)*bytes<=140737488355328) (hbase:base<=w.heap.size):
  ∃v' w',(Builtin.append_ #[t,t] ty #[.slice (some p) n n,.slice (some a) 1 c]).run P w=.ok v' w'/\w'.ownsRow base e 1 v' (n+1) (xs++[x])/\w.grownBy w' none:=by
 have hsmall:n+1<=9223372036854775807:=by simp only[maxLen]at h63;omega
 have hr:=run_append_grow (P:=P) w t ty e i z ht hi hz p n n xs (by rw[hsize,Nat.mul_one];exact hlx) hcx a 1 c [x] (by rw[hsize];rfl) (fun j u hj=>by
  have:j<1:=by simpa using(List.getElem?_eq_some_iff.1 hj).1
  obtain rfl:j=0:=by omega
  obtain rfl:x=u:=by simpa using hj
  exact hx) (by omega) (by omega) (growslice_fits (by omega) (by rw[hby];exact hbytes))
 refine⟨_,_,hr,⟨by simp[hlx],.inr ⟨w.heap.size,_,_,rfl,hbase,heap_alloc_new w.drew _,grownCap_ge _ _ _ _,grownCap_le_maxLen w (n+1) n e h63,?_,?_⟩⟩,⟨rfl,rfl,rfl,by simp,fun k hk _=>Below.heap_alloc w.drew _ k hk⟩⟩
 ·have hge:=grownCap_ge w (n+1) n e;simp only[Array.size_append,List.size_toArray,size_zeroCells,hzs,hlx,List.length_singleton];omega
 ·simp only[Array.toList_append,List.append_assoc];rw[<-List.append_assoc,show(n+1)*1=(xs++[x]).length by simp[hlx]];exact List.take_left
end
theorem run_append_path (w:World) (base:Nat) (ty:TypeId) (v:Value) (xs:List ByteArray) (hown:PathOwn w base v xs) (a:Addr) (c:Nat) (p:ByteArray) (hp:w.cell? (a.add 0)=some (.string p))
  (hlen:xs.length<=1000000000) (hbase:base<=w.heap.size):
  ∃v' w' row,(Builtin.append_ #[22,22] ty #[v,.slice (some a) 1 c]).run Tryz.prog w=.ok v' w'/\PathOwn w' base v' (xs++[p])/\w.grownBy w' row/\(∀k,row=some k->base<=k/\∃cur fr,w.heap[k]? =some (.cells cur 9 fr)):=by
 obtain⟨i0,hi,hz0,hz1,hz2⟩:=info_parts infoTxt;have hm:(xs++[p]).map Value.string=xs.map Value.string++[.string p]:=by simp
 rcases hown with h|⟨q,rfl,hs,hc,hb⟩
 ·have hn1:∀j u,[Value.string p][j]? =some u->w.cell? (a.add j)=some u:=fun j u hj=>by
   have:j<1:=by simpa using(List.getElem?_eq_some_iff.1 hj).1
   obtain rfl:j=0:=by omega
   obtain rfl:Value.string p=u:=by simpa using hj
   exact hp
  obtain⟨v',w',hr,h2,h3,_⟩:=run_append_own (P:=Tryz.prog) w base 22 ty 9 i0 (.string ⟨#[]⟩) 1 16 Tryz.underlying22 hi hz0 hz1 hz2 rfl (by decide) v xs.length (xs.map Value.string) h a 1 c [.string p] rfl hn1 (by simp[Value.oneCell']) (by unfold maxLen;omega) (by omega) hbase;refine⟨v',w',v.ownBlock,hr,.inl ?_,h3,fun k hk=>?_⟩
  ·rw[hm,List.length_append];exact h2
  ·rcases h.2 with⟨rfl,_⟩|⟨g,cap,cur,rfl,hgb,hg,_⟩
   ·cases hk
   ·injection hk with hk;subst hk;exact⟨hgb,cur,_,hg⟩
 ·obtain⟨v',w',hr,h2,h3⟩:=run_append_full (P:=Tryz.prog) w base 22 ty 9 i0 (.string ⟨#[]⟩) 16 Tryz.underlying22 hi hz0 hz1 hz2 rfl q xs.length (xs.map Value.string) (by simp) hc a c (.string p) hp (by unfold maxLen;omega) (by omega) hbase;refine⟨v',w',none,hr,.inl ?_,h3,fun k hk=>by cases hk⟩;rw[hm,List.length_append];exact h2
def RowOk (B:Nat) (w:World) (row:Option Nat):Prop:=∀k,row=some k->B<=k/\∃cur fr,w.heap[k]? =some (.cells cur 9 fr)
theorem wpList_append_path (w:World) {ops:Array Oper} {rest:List Oper} {o:Oper} {a:Act} {Q:Exit->Act->World->Prop} (hgd:o.guard=none) (s x:Operand)
  (ho:o.op=.call {callee:=.builtin .append,args:= #[s,x],argTypes:= #[22,22]})
  (base:Nat) (v:Value) (xs:List ByteArray) (hs:a.eval s=v) (hown:PathOwn w base v xs) (ad:Addr) (c:Nat) (p:ByteArray) (hx:a.eval x=.slice (some ad) 1 c) (hp:w.cell? (ad.add 0)=some (.string p))
  (hlen:xs.length<=1000000000) (hbase:base<=w.heap.size)
  (h:∀g n' c' w' row,PathOwn w' base (.slice (some g) n' c') (xs++[p])->w.grownBy w' row->RowOk base w row->wpList Tryz.prog ops Q rest (a.put o.dst (.slice (some g) n' c')) w'):
  wpList Tryz.prog ops Q (o::rest) a w:=by
 refine wpList_plain hgd fun K hK=>?_;obtain⟨v',w',row,hr,h2,h3,h4⟩:=run_append_path w base o.type v xs hown ad c p hp hlen hbase;obtain⟨g,c',rfl,_,hcells⟩:=h2.form;obtain⟨G,off,rfl,_,_⟩:=hcells xs.length p (by simp);unfold Oper.wp execOp;simp only[ho,resolve,invoke,builtin,Sem.run_bind,Sem.run_pure,Result.andThen_ok,List.map_toArray,List.map_cons,List.map_nil,hs,hx,hr];exact hK _ _ (h _ _ _ w' row h2 h3 h4)
structure MkV where
 sch:ByteArray
 usr:ByteArray
 pas:ByteArray
 hh:Bool
 hst:ByteArray
 prt:Int
 opq:Bool
 pv:Value
 xs:List ByteArray
 hq:Bool
 hf:Bool
 qry:ByteArray
 frg:ByteArray
def MkV.url (x:MkV):Lz.UrlL:=⟨x.sch.data.toList,x.usr.data.toList,x.pas.data.toList,x.hh,x.hst.data.toList,x.prt,x.opq,x.xs.map (·.data.toList),x.hq,x.hf,x.qry.data.toList,x.frg.data.toList⟩
def slashB (sp:Bool):ByteArray:=if sp then⟨#[47,92]⟩else⟨#[47]⟩
structure MkAt (B M:Nat) (w:World) (x:MkV) (sp:Bool) (sl:ByteArray):Prop where
 row:w.heap[M]? =some (.cells #[.string x.sch,.string x.usr,.string x.pas,.bool x.hh,.string x.hst,.int .i64 x.prt,.bool x.opq,x.pv,.bool x.hq,.bool x.hf,.string x.qry,.string x.frg,.bool sp,.string sl] 77 (0,0))
 own:PathOwn w B x.pv x.xs
 le:B<=M
def MkIs (B M:Nat) (w:World) (u:Lz.UrlL):Prop:=∃x,MkAt B M w x (Lz.specP x.sch.data.toList) (slashB (Lz.specP x.sch.data.toList))/\Hid (x.url=u)
theorem MkAt.below {B M:Nat} {w w':World} {x:MkV} {sp:Bool} {sl:ByteArray} (h:MkAt B M w x sp sl) (hb:Below w.heap.size w w'):MkAt B M w' x sp sl:=
 ⟨by rw[hb.block M (row_lt h.row)];exact h.row,h.own.below hb,h.le⟩
theorem MkIs.below {B M:Nat} {w w':World} {u:Lz.UrlL} (h:MkIs B M w u) (hb:Below w.heap.size w w'):MkIs B M w' u:=by
 obtain⟨x,hx,hu⟩:=h;exact⟨x,hx.below hb,hu⟩
theorem MkIs.form {B M:Nat} {w:World} {u:Lz.UrlL} (h:MkIs B M w u):∃(sch usr pas:ByteArray) (hh:Bool) (hst:ByteArray) (prt:Int) (opq:Bool) (a:Option Addr) (c:Nat) (xs:List ByteArray) (hq hf:Bool) (qry frg:ByteArray),
  MkAt B M w ⟨sch,usr,pas,hh,hst,prt,opq,.slice a xs.length c,xs,hq,hf,qry,frg⟩ (Lz.specP sch.data.toList) (slashB (Lz.specP sch.data.toList))/\
  u=⟨sch.data.toList,usr.data.toList,pas.data.toList,hh,hst.data.toList,prt,opq,xs.map (fun x:ByteArray=>x.data.toList),hq,hf,qry.data.toList,frg.data.toList⟩/\xs.length<=c/\
  ∀(j:Nat) (x:ByteArray),xs[j]? =some x->∃G off,a=some ⟨G,off,none⟩/\G<w.heap.size/\w.cell? ⟨G,off+j,none⟩=some (.string x):=by
 obtain⟨⟨sch,usr,pas,hh,hst,prt,opq,pv,xs,hq,hf,qry,frg⟩,hm,hu⟩:=h;obtain⟨a,c,hpv,hc,hcells⟩:=hm.own.form;have hpv':pv=.slice a xs.length c:=hpv;subst hpv';exact⟨sch,usr,pas,hh,hst,prt,opq,a,c,xs,hq,hf,qry,frg,hm,hu.out.symm,hc,hcells⟩
def RMk (B M:Nat) (u:Lz.UrlL) (w:World) (e:Ending) (w':World):Prop:=e=.returned (.tuple #[])/\Below B w w'/\MkIs B M w' u
theorem maker_ne:77≠9:=by decide
theorem below_grownP {B:Nat} {a w w':World} {row:Option Nat} (h:Below B a w) (hg:w.grownBy w' row) (hB:B<=w.heap.size) (hr:RowOk B w row):Below B a w':=
 h.grown hg hB fun k hk=>(hr k hk).1
theorem row_grownP {w w':World} {row:Option Nat} {B M:Nat} {cs:Array Value} (hM:w.heap[M]? =some (.cells cs 77 (0,0))) (hg:w.grownBy w' row) (hr:RowOk B w row):w'.heap[M]? =some (.cells cs 77 (0,0)):=by
 rw[hg.block M (row_lt hM) (fun e=>?_)]
 ·exact hM
 ·obtain⟨_,cur,fr,h1⟩:=hr M e.symm;rw[hM]at h1;injection h1 with h1
  injection h1 with _ h2 _
  exact maker_ne h2
theorem mk_set {B M:Nat} {w:World} {x:MkV} {sp:Bool} {sl:ByteArray} (h:MkAt B M w x sp sl) (k:Nat) (v:Value) (x':MkV) (sp':Bool) (sl':ByteArray)
  (hc:(#[.string x.sch,.string x.usr,.string x.pas,.bool x.hh,.string x.hst,.int .i64 x.prt,.bool x.opq,x.pv,.bool x.hq,.bool x.hf,.string x.qry,.string x.frg,.bool sp,.string sl]:Array Value).setIfInBounds k v= #[.string x'.sch,.string x'.usr,.string x'.pas,.bool x'.hh,.string x'.hst,.int .i64 x'.prt,.bool x'.opq,x'.pv,.bool x'.hq,.bool x'.hf,.string x'.qry,.string x'.frg,.bool sp',.string sl'])
  (ho:∀w',PathOwn w' B x.pv x.xs->(PathOwn w' B x'.pv x'.xs)):MkAt B M (w.setCell ⟨M,k,none⟩ v) x' sp' sl':=
 ⟨rowSet h.row k v hc,ho _ (h.own.setCell h.row maker_ne k v),h.le⟩
theorem as_any (B M:Nat) (x:MkV) (sp:Bool) (sl s:ByteArray) (w:World) (hm:MkAt B M w x sp sl):
  Calls Tryz.prog 96 #[.pointer (some ⟨M,0,none⟩),.string s] w fun e w'=>e=.returned (.tuple #[])/\Below B w w'/\MkAt B M w' {x with sch:=s} (Lz.specP s.data.toList) (slashB (Lz.specP s.data.toList)):=by
 obtain⟨sch,usr,pas,hh,hst,prt,opq,pv,xs,hq,hf,qry,frg⟩:=x;have hle:=hm.le;have cS:=Ih (fun W=>Special_any s W);obtain⟨q,hq'⟩:∃q,q=Lz.specP s.data.toList:=⟨_,rfl⟩;rw[<-hq']at cS⊢;clear hq';have m1:=mk_set hm 0 (.string s) {sch:=s,usr:=usr,pas:=pas,hh:=hh,hst:=hst,prt:=prt,opq:=opq,pv:=pv,xs:=xs,hq:=hq,hf:=hf,qry:=qry,frg:=frg} sp sl (by simp) (fun _ h=>h);have m2:=mk_set m1 12 (.bool q) {sch:=s,usr:=usr,pas:=pas,hh:=hh,hst:=hst,prt:=prt,opq:=opq,pv:=pv,xs:=xs,hq:=hq,hf:=hf,qry:=qry,frg:=frg} q sl (by simp) (fun _ h=>h);have m3:=mk_set m2 13 (.string ⟨#[47]⟩) {sch:=s,usr:=usr,pas:=pas,hh:=hh,hst:=hst,prt:=prt,opq:=opq,pv:=pv,xs:=xs,hq:=hq,hf:=hf,qry:=qry,frg:=frg} q ⟨#[47]⟩ (by simp) (fun _ h=>h);have m4:=mk_set m3 13 (.string ⟨#[47,92]⟩) {sch:=s,usr:=usr,pas:=pas,hh:=hh,hst:=hst,prt:=prt,opq:=opq,pv:=pv,xs:=xs,hq:=hq,hf:=hf,qry:=qry,frg:=frg} q ⟨#[47,92]⟩ (by simp) (fun _ h=>h);have b3:Below B w (((w.setCell ⟨M,0,none⟩ (.string s)).setCell ⟨M,12,none⟩ (.bool q)).setCell ⟨M,13,none⟩ (.string ⟨#[47]⟩)):=(((Below.refl B w).setCell (p:=⟨M,0,none⟩) hle _).setCell (p:=⟨M,12,none⟩) hle _).setCell (p:=⟨M,13,none⟩) hle _;have b4:=b3.setCell (p:=⟨M,13,none⟩) hle (.string ⟨#[47,92]⟩)
 have c0:=rowAt hm.row 0 (.string sch) rfl;have f0:=rowFz hm.row 0;have c12:=rowAt hm.row 12 (.bool sp) rfl;have f12:=rowFz hm.row 12;have c13:=rowAt hm.row 13 (.string sl) rfl;have f13:=rowFz hm.row 13;have e12:=rowAt m3.row 12 (.bool q) rfl;have M3:=Ih m3;have M4:=Ih m4;have B3:=Ih b3;have B4:=Ih b4;clear m1 m2 m3 m4 b3 b4 hm;cases q
 ·go_enter Tryz.func96,Tryz.ntmps96
  go_wp2_with fail
  refine(cS.out _).mono ?_;rintro e w1 ⟨rfl,rfl⟩
  go_wp2_with fail
  go_end0
  exact⟨rfl,B3.out,M3.out⟩
 ·go_enter Tryz.func96,Tryz.ntmps96
  go_wp2_with fail
  refine(cS.out _).mono ?_;rintro e w1 ⟨rfl,rfl⟩
  go_wp2_with fail
  go_end0
  exact⟨rfl,B4.out,M4.out⟩
theorem shortP_nil (s:List UInt8):Lz.shortP s []=[]:=by unfold Lz.shortP;split<;>rfl
theorem shortP_drop {s:List UInt8} {l:List (List UInt8)} (h:¬(s=Lz.fileS/\l.length=1/\Lz.rootedP l=true)):Lz.shortP s l=l.dropLast:=by unfold Lz.shortP;rw[if_neg h]
theorem short_done {B M:Nat} {w:World} {sch usr pas:ByteArray} {hh:Bool} {hst:ByteArray} {prt:Int} {opq:Bool} {a:Option Addr} {k c:Nat} {xs:List ByteArray} {hq hf:Bool} {qry frg:ByteArray} {sp:Bool} {sl:ByteArray}
  (hm:MkAt B M w ⟨sch,usr,pas,hh,hst,prt,opq,.slice a (k+1) c,xs,hq,hf,qry,frg⟩ sp sl) (hn:xs.length=k+1):
  Below B w (w.setCell ⟨M,7,none⟩ (.slice a k k))/\MkAt B M (w.setCell ⟨M,7,none⟩ (.slice a k k)) ⟨sch,usr,pas,hh,hst,prt,opq,.slice a k k,xs.dropLast,hq,hf,qry,frg⟩ sp sl:=
 ⟨(Below.refl B w).setCell (p:=⟨M,7,none⟩) hm.le _,mk_set hm 7 (.slice a k k) ⟨sch,usr,pas,hh,hst,prt,opq,.slice a k k,xs.dropLast,hq,hf,qry,frg⟩ sp sl (by simp) (fun _ h=>h.pop (by show 1<=xs.length;omega))⟩
theorem map_dropLast (xs:List ByteArray):xs.dropLast.map (fun x:ByteArray=>x.data.toList)=(xs.map (fun x:ByteArray=>x.data.toList)).dropLast:=by rw[List.map_dropLast]
theorem shorten_any (B M:Nat) (u:Lz.UrlL) (w:World) (hm:MkIs B M w u) (hl:u.path.length<=1000000000):
  Calls Tryz.prog 145 #[.pointer (some ⟨M,0,none⟩)] w (RMk B M {u with path:=Lz.shortP u.scheme u.path} w):=by
 obtain⟨sch,usr,pas,hh,hst,prt,opq,a,c,xs,hq,hf,qry,frg,hk,rfl,hc,hcells⟩:=hm.form;have hm0:=hm;have hlx:xs.length<=1000000000:=by simpa using hl
 have c7:=rowAt hk.row 7 (.slice a xs.length c) rfl;have c0:=rowAt hk.row 0 (.string sch) rfl;have f7:=rowFz hk.row 7;have hpa:PathAt w (.slice a xs.length c) (xs.map (fun x:ByteArray=>x.data.toList)):=⟨a,c,xs,rfl,rfl,hcells⟩;have cR:=rooted_any _ _ w hpa;obtain⟨n,hn⟩:∃n,n=xs.length:=⟨_,rfl⟩;rw[<-hn]at c7 cR hc hlx hk;clear hcells hl hpa;cases n with
 | zero=>
   have hx:xs=[]:=List.length_eq_zero_iff.1 hn.symm;subst hx
   have HF:Hid (MkIs B M w ⟨sch.data.toList,usr.data.toList,pas.data.toList,hh,hst.data.toList,prt,opq,Lz.shortP sch.data.toList [],hq,hf,qry.data.toList,frg.data.toList⟩):=by
    rw[shortP_nil];exact hm0
   clear hm hm0 hk cR hn;go_enter Tryz.func145,Tryz.ntmps145
   go_wp2_with fail
   go_end0
   exact⟨rfl,Below.refl _ _,HF.out⟩
 | succ k=>
   have hk0:(0:Int)<(((k+1:Nat)):Int):=by omega
   have hsd:=short_done hk hn.symm
   have HD:Hid ((¬(sch.data.toList=Lz.fileS/\k=0/\Lz.rootedP (xs.map (fun x:ByteArray=>x.data.toList))=true))->RMk B M ⟨sch.data.toList,usr.data.toList,pas.data.toList,hh,hst.data.toList,prt,opq,Lz.shortP sch.data.toList (xs.map (fun x:ByteArray=>x.data.toList)),hq,hf,qry.data.toList,frg.data.toList⟩ w (.returned (.tuple #[])) (w.setCell ⟨M,7,none⟩ (.slice a k k))):=by
    intro hno;refine⟨rfl,hsd.1,_,hsd.2,Ih ?_⟩;rw[shortP_drop (by rw[List.length_map,<-hn];intro h;exact hno ⟨h.1,by omega,h.2.2⟩),<-map_dropLast];rfl
   have hks:((k+1:Nat):Int)-1=(k:Int):=by omega
   have hkb:k<=1000000000:=by omega
   have hkc:k<=c:=by omega
   by_cases hf0:sch.data.toList=Lz.fileS
   ·have g0:=text_yes (k:=[102,105,108,101]) hf0;by_cases hk1:k=0
    ·subst hk1;cases hr:Lz.rootedP (xs.map (fun x:ByteArray=>x.data.toList))with
     | true=>
       have HF:Hid (MkIs B M w ⟨sch.data.toList,usr.data.toList,pas.data.toList,hh,hst.data.toList,prt,opq,Lz.shortP sch.data.toList (xs.map (fun x:ByteArray=>x.data.toList)),hq,hf,qry.data.toList,frg.data.toList⟩):=by
        have:Lz.shortP sch.data.toList (xs.map (fun x:ByteArray=>x.data.toList))=xs.map (fun x:ByteArray=>x.data.toList):=by unfold Lz.shortP;rw[if_pos ⟨hf0,by rw[List.length_map,<-hn],hr⟩]
        rw[this];exact hm0
       rw[hr]at cR;have CR:=Ih cR;clear hm hm0 hk cR hn hsd hr hf0;go_enter Tryz.func145,Tryz.ntmps145
       go_wp2_with fail
       refine CR.out.mono ?_;rintro e w1 ⟨rfl,rfl⟩
       go_wp2_with fail
       go_end0
       exact⟨rfl,Below.refl _ _,HF.out⟩
     | false=>
       rw[hr]at cR;have HE:=Ih (HD.out (fun h=>by rw[hr]at h;exact absurd h.2.2 (by simp)));have CR:=Ih cR;clear hm hm0 hk cR hn hsd hr hf0;go_enter Tryz.func145,Tryz.ntmps145
       go_wp2_with fail
       refine CR.out.mono ?_;rintro e w1 ⟨rfl,rfl⟩
       go_wp2_with fail
       go_end0
       exact HE.out
    ·have hk2:(1:Int)<(((k+1:Nat)):Int):=by omega
     have hk3:(1:Int)<(k:Int)+1:=by omega
     have HE:=Ih (HD.out (fun h=>hk1 h.2.1));clear hm hm0 hk cR hn hsd hf0;go_enter Tryz.func145,Tryz.ntmps145
     go_wp2_with fail
     go_end0
     exact HE.out
   ·have g0:=text_no (k:=[102,105,108,101]) hf0;have HE:=Ih (HD.out (fun h=>hf0 h.1));clear hm hm0 hk cR hn hsd hf0;go_enter Tryz.func145,Tryz.ntmps145
    go_wp2_with fail
    go_end0
    exact HE.out
theorem EnvH.at {B:Nat} {w w':World} (h:EnvH w) (hb:Below B w w') (hB:11<=B):EnvH w':=by
 have hz:=h.size;have hc:∀b o,b<11->w'.cell? ⟨b,o,none⟩=w.cell? ⟨b,o,none⟩:=fun b o hlt=>hb.cell (p:=⟨b,o,none⟩) (by show b<_;omega);obtain⟨h1,h2,h3,h4,h5,h6,h7,h8⟩:=h;refine⟨?_,?_,?_,?_,?_,?_,?_,Nat.le_trans hz hb.size⟩
 ·obtain⟨m,hm⟩:=h1;exact⟨m,by rw[hc _ _ (by decide)];exact hm⟩
 ·exact var?_below hb gPow (by have:6<11:=by decide
                               omega) h2
 ·obtain⟨a,b,hm⟩:=h3;exact⟨a,b,by rw[hc _ _ (by decide)];exact hm⟩
 ·obtain⟨a,b,hm⟩:=h4;exact⟨a,b,by rw[hc _ _ (by decide)];exact hm⟩
 ·rw[hc _ _ (by decide)];exact h5
 ·rw[hc _ _ (by decide)];exact h6
 ·rw[hc _ _ (by decide)];exact h7
theorem dots_any (s:ByteArray) (hs:s.size<=1000000000) (w:World) (hE:EnvH w):Calls Tryz.prog 158 #[.string s] w (RInt (Lz.dotsP s.data.toList:Nat) w):=by
 have cL:=Ih (fun W=>Lower_c s (by omega) W);go_enter Tryz.func158,Tryz.ntmps158
 go_wp2_with fail
 refine(cL.out _).mono ?_;rintro e w1 ⟨u,rfl,hu,hb1⟩;have hus:u.size=s.size:=by rw[<-len_of_size,hu.out,low_length,len_of_size]
 obtain⟨m,hm⟩:=(hE.below hb1).ml
 have cR:=Tryz.strings_ReplaceAll u ⟨#[37,50,101]⟩ ⟨#[46]⟩ m w1 (by omega) hm (by decide) (by
  have:=Lib.countB_le ⟨#[37,50,101]⟩ (by decide) u.size u (Nat.le_refl _);have h1:(⟨#[46]⟩:ByteArray).size=1:=rfl;rw[h1];omega)
 have hrep:Lib.replaceAll u.data.toList (⟨#[37,50,101]⟩:ByteArray).data.toList (⟨#[46]⟩:ByteArray).data.toList=Lz.unE (Lz.low s.data.toList):=by
  rw[hu.out];exact Lz.replace_unE _
 rw[hrep]at cR;have CR:=Ih cR;obtain⟨r,hr⟩:∃r:ByteArray,r=⟨(Lz.unE (Lz.low s.data.toList)).toArray⟩:=⟨_,rfl⟩;have hrd:r.data.toList=Lz.unE (Lz.low s.data.toList):=by rw[hr]
 rw[<-hr]at CR;clear cR hrep hr hm;by_cases h1:r.data.toList=[46]
 ·have g1:=text_yes h1;have hz:r.size=1:=by rw[<-len_of_size,h1];rfl
  have HV:Hid (Lz.dotsP s.data.toList=1):=by show _=_;unfold Lz.dotsP;rw[<-hrd,if_pos h1]
  clear hrd h1
  go_wp2_with fail
  refine CR.out.mono ?_;rintro e w2 ⟨rfl,hb2⟩
  go_wp2_with fail
  go_ret;rw[HV.out];exact⟨by first |rfl|(rw[hz];rfl),below_call hb1 hb2⟩
 ·have g1:=text_no h1;by_cases h2:r.data.toList=[46,46]
  ·have g2:=text_yes h2;have hz:r.size=2:=by rw[<-len_of_size,h2];rfl
   have HV:Hid (Lz.dotsP s.data.toList=2):=by show _=_;unfold Lz.dotsP;rw[<-hrd,if_neg h1,if_pos h2]
   clear hrd h1 h2
   go_wp2_with fail
   refine CR.out.mono ?_;rintro e w2 ⟨rfl,hb2⟩
   go_wp2_with fail
   go_ret;rw[HV.out];exact⟨by first |rfl|(rw[hz];rfl),below_call hb1 hb2⟩
  ·have g2:=text_no h2;have HV:Hid (Lz.dotsP s.data.toList=0):=by show _=_;unfold Lz.dotsP;rw[<-hrd,if_neg h1,if_neg h2]
   clear hrd h1 h2
   go_wp2_with fail
   refine CR.out.mono ?_;rintro e w2 ⟨rfl,hb2⟩
   go_wp2_with fail
   go_ret;rw[HV.out];exact⟨rfl,below_call hb1 hb2⟩
theorem app_mid {B M:Nat} {w w5:World} {x:MkV} {sp:Bool} {sl:ByteArray} {o:Obj} {row:Option Nat} (hm:MkAt B M w x sp sl) (hB:B<=w.heap.size) (hg:(w.alloc o).grownBy w5 row)
  (hr:RowOk B (w.alloc o) row):
  Below B w w5/\w5.heap[M]? =some (.cells #[.string x.sch,.string x.usr,.string x.pas,.bool x.hh,.string x.hst,.int .i64 x.prt,.bool x.opq,x.pv,.bool x.hq,.bool x.hf,.string x.qry,.string x.frg,.bool sp,.string sl] 77 (0,0)):=
 ⟨below_grownP ((Below.refl B w).alloc hB o) hg (by simp;omega) hr,row_grownP (by rw[Below.heap_alloc w o M (row_lt hm.row)];exact hm.row) hg hr⟩
theorem app_done {B M:Nat} {w w5:World} {sch usr pas:ByteArray} {hh:Bool} {hst:ByteArray} {prt:Int} {opq:Bool} {pv:Value} {xs:List ByteArray} {hq hf:Bool} {qry frg:ByteArray} {sp:Bool} {sl:ByteArray} {v':Value} {p:ByteArray}
  (hb:Below B w w5) (hM:w5.heap[M]? =some (.cells #[.string sch,.string usr,.string pas,.bool hh,.string hst,.int .i64 prt,.bool opq,pv,.bool hq,.bool hf,.string qry,.string frg,.bool sp,.string sl] 77 (0,0)))
  (hle:B<=M) (hown:PathOwn w5 B v' (xs++[p])):
  Below B w (w5.setCell ⟨M,7,none⟩ v')/\MkAt B M (w5.setCell ⟨M,7,none⟩ v') ⟨sch,usr,pas,hh,hst,prt,opq,v',xs++[p],hq,hf,qry,frg⟩ sp sl:=
 ⟨hb.setCell (p:=⟨M,7,none⟩) hle _,⟨rowSet hM 7 v' (by simp),hown.setCell hM maker_ne 7 v',hle⟩⟩
end Go.Proofs.YtfepgodjaeddgaaGreatDoor
namespace Lz
open Go
theorem bind_path {r:UR} {f:UrlL->UR} {u v:UrlL} (hr:∀x,r=.ok x->x.path=u.path/\x.scheme=u.scheme) (hf:∀x y,f x=.ok y->y.path=x.path/\y.scheme=x.scheme) (h:r.bind f=.ok v):v.path=u.path/\v.scheme=u.scheme:=by
 cases r with
 | er n=>cases h
 | ok x=>exact⟨((hf x v h).1).trans (hr x rfl).1,((hf x v h).2).trans (hr x rfl).2⟩
theorem hostU_path {u v:UrlL} {s:Bs} (h:hostU u s=.ok v):v.path=u.path/\v.scheme=u.scheme:=by
 unfold hostU at h;split at h
 ·cases h
 ·injection h with h;subst h;exact⟨rfl,rfl⟩
theorem portU_path {u v:UrlL} {s:Bs} (h:portU u s=.ok v):v.path=u.path/\v.scheme=u.scheme:=by
 unfold portU at h;split at h
 ·cases h
 ·split at h
  ·cases h
  ·split at h<;>(injection h with h;subst h;exact⟨rfl,rfl⟩)
theorem placeU_path {u v:UrlL} {s:Bs} (h:placeU u s=.ok v):v.path=u.path/\v.scheme=u.scheme:=by
 unfold placeU at h;split at h
 ·split at h
  ·cases h
  ·exact bind_path (fun x hx=>hostU_path hx) (fun x y hy=>portU_path hy) h
 ·split at h
  ·cases h
  ·exact bind_path (fun x hx=>hostU_path hx) (fun x y hy=>portU_path hy) h
theorem authU_path {u v:UrlL} {s:Bs} (h:authU u s=.ok v):v.path=u.path/\v.scheme=u.scheme:=by
 unfold authU at h;split at h
 ·split at h
  ·cases h
  ·exact⟨(placeU_path h).1,(placeU_path h).2⟩
 ·exact placeU_path h
end Lz
namespace Go.Proofs.YtfepgodjaeddgaaGreatDoor
open Go.RowKit
theorem disableO (w:World):(callFunc 268 #[]).run Tryz.prog w=.ok (.value (.tuple #[])) w:=run_call_mark0 Tryz.func268 (by kernel_rfl) (by kernel_rfl) (by kernel_rfl) .disable (by kernel_rfl) w
theorem enableO (w:World):(callFunc 270 #[]).run Tryz.prog w=.ok (.value (.tuple #[])) w:=run_call_mark0 Tryz.func270 (by kernel_rfl) (by kernel_rfl) (by kernel_rfl) .enable (by kernel_rfl) w
theorem acquireO (a:Addr) (w:World):(callFunc 271 #[.pointer (some a)]).run Tryz.prog w=.ok (.value (.tuple #[])) w:=run_call_marked Tryz.func271 (by kernel_rfl) (by kernel_rfl) (by kernel_rfl) .acquire (by kernel_rfl) a w
theorem releaseO (a:Addr) (w:World):(callFunc 273 #[.pointer (some a)]).run Tryz.prog w=.ok (.value (.tuple #[])) w:=run_call_marked Tryz.func273 (by kernel_rfl) (by kernel_rfl) (by kernel_rfl) .releaseMerge (by kernel_rfl) a w
theorem storeO (a:Addr) (x:Value) (u:FrameMode) (w:World) (hc:w.cell? a=some x) (hz:w.frozen? a=false):
  CallsD Tryz.prog 223 #[.pointer (some a),.bool true] u w fun e u' w'=>u'=u/\(e=.returned (.tuple #[])/\w'=w.drew.setCell a (.int .u32 1)):=by
 have hc':w.drew.cell? a=some x:=by go_simp
 have hz':w.drew.frozen? a=false:=by go_simp
 have hst:=run_call_store (P:=Tryz.prog) Tryz.func249 (by kernel_rfl) (by kernel_rfl) (by kernel_rfl) (by kernel_rfl) (k:=.u32) (y:=1) hc' hz'
 go_enter_d Tryz.func223,Tryz.ntmps223
 go_wp2
 go_region_calls
 all_goals (go_end0;exact⟨rfl,rfl⟩)
theorem unlockO (a:Addr) (u:FrameMode) (w:World) (hc:w.cell? a=some (.int .i32 1)) (hz:w.frozen? a=false):
  CallsD Tryz.prog 222 #[.pointer (some a)] u w fun e u' w'=>u'=u/\(e=.returned (.tuple #[])/\w'=w.setCell a (.int .i32 0)):=by
 have hd:=disableO;have he:=enableO;have hr:=releaseO;have hadd:=run_call_add (P:=Tryz.prog) Tryz.func274 (by kernel_rfl) (by kernel_rfl) (by kernel_rfl) .i32 (by kernel_rfl) (y:= -1) (s:=0) hc hz (by simp[go_sem];rfl);have hcv:=run_convert_to_unsafe (P:=Tryz.prog) (src:=276) (dst:=133) Tryz.underlying276 Tryz.underlying133 (by kernel_rfl) hc
 go_enter_d Tryz.func222,Tryz.ntmps222
 go_wp2
 go_end0
 go_wp2
 go_end0
 exact⟨rfl,rfl⟩
theorem lockO (a:Addr) (w:World) (hc:w.cell? a=some (.int .i32 0)) (hz:w.frozen? a=false):
  Calls Tryz.prog 221 #[.pointer (some a)] w fun e w'=>e=.returned (.tuple #[])/\w'=w.setCell a (.int .i32 1):=by
 have hd:=disableO;have he:=enableO;have ha:=acquireO;have hcas:=run_call_cas_hit (P:=Tryz.prog) Tryz.func269 (by kernel_rfl) (by kernel_rfl) (by kernel_rfl) .i32 (by kernel_rfl) (y:=1) hc hz;have hc':(w.setCell a (.int .i32 1)).cell? a=some (.int .i32 1):=World.cell?_setCell_same w a _ hc;have hcv:=run_convert_to_unsafe (P:=Tryz.prog) (src:=276) (dst:=133) Tryz.underlying276 Tryz.underlying133 (by kernel_rfl) hc';go_enter Tryz.func221,Tryz.ntmps221
 go_wp2
 first |go_end0|(simp only[Exit.inBlock,Exit.then];refine bodyPost_ret (results_none rfl _ _ _) rfl ?_)|refine bodyPost_ret (results_none rfl _ _ _) rfl ?_
 go_wp2
 go_end0
 exact⟨rfl,rfl⟩
structure BsRep (w:World) (g:Nat):Prop where
 row:∃cs:Array Value,w.heap[g]? =some (.cells cs 230 (0,0))/\(∀k:Nat,k<256->(if k=9\/k=10\/k=13 then ∃A c,cs[k]? =some (.slice (some A) 0 c)else cs[k]? =some (.slice none 0 0)))/\
  ∃G c cs2,cs[256]? =some (.slice (some ⟨G,0,none⟩) 3 c)/\w.heap[G]? =some (.cells cs2 9 (0,0))/\cs2[0]? =some (.string ⟨#[13]⟩)/\cs2[1]? =some (.string ⟨#[10]⟩)/\cs2[2]? =some (.string ⟨#[9]⟩)
theorem BsRep.kept {w w':World} {g:Nat} (h:BsRep w g) (hk:∀(k:Nat) (cs:Array Value) (t:TypeId),w.heap[k]? =some (.cells cs t (0,0))->t=230\/t=9->w'.heap[k]? =w.heap[k]?):BsRep w' g:=by
 obtain⟨cs,h1,h2,G,c,cs2,h3,h4,h5⟩:=h.row;exact⟨cs,by rw[hk g cs _ h1 (.inl rfl)];exact h1,h2,G,c,cs2,h3,by rw[hk G cs2 _ h4 (.inr rfl)];exact h4,h5⟩
def RepRow (w:World) (b:Nat) (d s e:Int) (rv ov:Value):Prop:=w.heap[b]? =some (.cells #[.int .u32 d,.int .i32 s,.int .u32 e,rv,ov] 150 (0,0))
theorem BsRep.set {w:World} {g b:Nat} {d s e:Int} {rv ov:Value} (h:BsRep w g) (hr:RepRow w b d s e rv ov) (k:Nat) (v:Value):BsRep (w.setCell ⟨b,k,none⟩ v) g:=
 h.kept fun j _ _ hj ht=>setCell_other (fun e=>by
  have e':j=b:=e;rw[e',show w.heap[b]? =_ from hr]at hj;injection hj with hj
  injection hj with _ h2 _
  rcases ht with ht|ht<;>(rw[ht]at h2;exact absurd h2 (by decide))) v
theorem BsRep.below {w w':World} {g:Nat} (h:BsRep w g) (hb:Below w.heap.size w w'):BsRep w' g:=h.kept fun j _ _ hj _=>hb.block j (row_lt hj)
theorem RepRow.set {w:World} {b:Nat} {d s e:Int} {rv ov:Value} (h:RepRow w b d s e rv ov) (k:Nat) (v:Value) {d' s':Int} {rv' ov':Value} (hc:(#[.int .u32 d,.int .i32 s,.int .u32 e,rv,ov]:Array Value).setIfInBounds k v= #[.int .u32 d',.int .i32 s',.int .u32 e,rv',ov']):RepRow (w.setCell ⟨b,k,none⟩ v) b d' s' e rv' ov':=rowSet h k v hc
def RBuilt1 (B b:Nat) (d s e:Int) (w:World) (w':World):Prop:=Below B w w'/\∃g,RepRow w' b d s e (.iface 231 (.pointer (some ⟨g,0,none⟩))) (.slice none 0 0)/\BsRep w' g
theorem slowO (B b:Nat) (e:Int) (rv ov:Value) (w:World) (hBb:B<=b) (hrow:RepRow w b 0 0 e rv ov)
  (cB:∀W,Below B w W->W=w.setCell ⟨b,1,none⟩ (.int .i32 1)->Calls Tryz.prog 137 #[.pointer (some ⟨b,0,none⟩)] W fun e' W'=>e'=.returned (.tuple #[])/\RBuilt1 B b 0 1 e W W'):
  Calls Tryz.prog 192 #[.pointer (some ⟨b,0,none⟩),.func (.func 137) #[.pointer (some ⟨b,0,none⟩)] #[]] w fun e' w'=>e'=.returned (.tuple #[])/\RBuilt1 B b 1 0 e w w':=by
 have c0:=rowAt hrow 0 (.int .u32 0) rfl;have c1:=rowAt hrow 1 (.int .i32 0) rfl;have f0:=rowFz hrow 0;have f1:=rowFz hrow 1;have hl:=run_call_load (P:=Tryz.prog) Tryz.func220 (by kernel_rfl) (by kernel_rfl) (by kernel_rfl) .u32 (by kernel_rfl) (w:=w.setCell ⟨b,1,none⟩ (.int .i32 1)) (a:=⟨b,0,none⟩) (x:=0) ((World.cell?_setCell_other _ ⟨b,1,none⟩ ⟨b,0,none⟩ _ (by simp)).trans c0);have hnot:∀(x:Bool) (w:World),(Op.unary .not (.bool x)).run Tryz.prog w=.ok (.bool (!x)) w:=fun _ _=>rfl;have hb1:Below B w (w.setCell ⟨b,1,none⟩ (.int .i32 1)):=(Below.refl B w).setCell (p:=⟨b,1,none⟩) hBb _;have CB:=Ih (cB _ hb1 rfl);have Hb1:=Ih hb1;clear cB hb1
 go_enter_defers Tryz.func192,Tryz.ntmps192
 go_wp2_with (first |(go_at_call 221;refine(lockO ⟨b,1,none⟩ _ (by go_simp) (by go_simp)).mono ?_;rintro e w' ⟨rfl,rfl⟩)|(go_at_call 191;go_in)|(go_at_call 137;refine CB.out.mono ?_;rintro e2 w2 ⟨rfl,hw2⟩))
 obtain⟨hbw,g,hr2,hbs⟩:=hw2;have d0:=rowAt hr2 0 (.int .u32 0) rfl;have d1:=rowAt hr2 1 (.int .i32 1) rfl;have z0:=rowFz hr2 0;have z1:=rowFz hr2 1;have hr3:RepRow (w2.drew.setCell ⟨b,0,none⟩ (.int .u32 1)) b 1 1 e (.iface 231 (.pointer (some ⟨g,0,none⟩))) (.slice none 0 0):=RepRow.set (w:=w2.drew) hr2 0 (.int .u32 1) (by simp);have hbs3:BsRep (w2.drew.setCell ⟨b,0,none⟩ (.int .u32 1)) g:=BsRep.set (w:=w2.drew) (hbs.kept fun _ _ _ _ _=>rfl) hr2 0 _;have hr4:=RepRow.set hr3 1 (.int .i32 0) (d':=1) (s':=0) (rv':=.iface 231 (.pointer (some ⟨g,0,none⟩))) (ov':=.slice none 0 0) (by simp);have hbs4:=BsRep.set hbs3 hr3 1 (.int .i32 0);refine leaves_cons (f:=223) (args:= #[.pointer (some ⟨b,0,none⟩),.bool true]) (by simp) (by simp[go_sem]) ?_;refine(storeO ⟨b,0,none⟩ (.int .u32 0) .returning _ d0 z0).mono ?_;rintro e3 u3 w3 ⟨rfl,rfl,rfl⟩;refine leaves_cons (f:=222) (args:= #[.pointer (some ⟨b,1,none⟩)]) (by simp[settle]) (by simp[go_sem]) ?_;refine(unlockO ⟨b,1,none⟩ _ _ (rowAt hr3 1 _ rfl) (rowFz hr3 1)).mono ?_;rintro e3 u3 w3 ⟨rfl,rfl,rfl⟩
 have hB4:Below B w ((w2.drew.setCell ⟨b,0,none⟩ (.int .u32 1)).setCell ⟨b,1,none⟩ (.int .i32 0)):=((Hb1.out.trans hbw).drew.setCell (p:=⟨b,0,none⟩) hBb _).setCell (p:=⟨b,1,none⟩) hBb _;have HF:Hid (RBuilt1 B b 1 0 e w ((w2.drew.setCell ⟨b,0,none⟩ (.int .u32 1)).setCell ⟨b,1,none⟩ (.int .i32 0))):=⟨hB4,g,hr4,hbs4⟩;clear hr2 hr3 hr4 hbs hbs3 hbs4 hB4
 simp[Leaves,settle,results,Tryz.results192]
 exact HF.out
theorem doO (B b:Nat) (e:Int) (rv ov:Value) (w:World) (hBb:B<=b) (hrow:RepRow w b 0 0 e rv ov)
  (cB:∀W,Below B w W->W=w.setCell ⟨b,1,none⟩ (.int .i32 1)->Calls Tryz.prog 137 #[.pointer (some ⟨b,0,none⟩)] W fun e' W'=>e'=.returned (.tuple #[])/\RBuilt1 B b 0 1 e W W'):
  Calls Tryz.prog 136 #[.pointer (some ⟨b,0,none⟩),.func (.func 137) #[.pointer (some ⟨b,0,none⟩)] #[]] w fun e' w'=>e'=.returned (.tuple #[])/\RBuilt1 B b 1 0 e w w':=by
 have c0:=rowAt hrow 0 (.int .u32 0) rfl;have hl:=run_call_load (P:=Tryz.prog) Tryz.func220 (by kernel_rfl) (by kernel_rfl) (by kernel_rfl) .u32 (by kernel_rfl) c0;have hnot:∀(x:Bool) (w:World),(Op.unary .not (.bool x)).run Tryz.prog w=.ok (.bool (!x)) w:=fun _ _=>rfl;have cS:=Ih (slowO B b e rv ov w hBb hrow cB);clear cB;go_enter Tryz.func136,Tryz.ntmps136
 go_wp2_with (first |(go_at_call 192;refine cS.out.mono ?_;rintro e w' ⟨rfl,hw2⟩)|(go_at_call 191;go_in))
 go_end0
 exact⟨rfl,hw2⟩
end Go.Proofs.YtfepgodjaeddgaaGreatDoor
namespace Go.Proofs
open Go.Shelf
def Tryz.lays138_ren:Go.Shelf.Ren:=⟨fun|138=>86|195=>128|218=>130|143=>87|219=>131|217=>159|225=>186|224=>187|267=>188|266=>202|314=>218|n=>n,fun|9=>9|3=>3|4=>4|5=>5|0=>0|46=>100|146=>216|51=>138|n=>n,fun|1=>2|n=>n⟩
theorem Tryz.lays138:Go.Proofs.Lays.n138 Tryz.prog Tryz.lays138_ren:=by repeat' first |kernel_rfl|(intro w;rfl)|(intro w;kernel_rfl)|decide|constructor
open Go.RowKit Go.Lib in
theorem Tryz.strings_Count_one (s:ByteArray) (c:UInt8) (w:World):
 Calls Tryz.prog 86 #[.string s,.string ⟨#[c]⟩] w fun e w'=>e=.returned (.int .i64 (Lib.countByte s.data.toList c))/\w'=w:=Any.strings_Count_one Tryz.lays138 s c w
end Go.Proofs
namespace Go.Proofs.YtfepgodjaeddgaaGreatDoor
open Go.RowKit
theorem Count_c (s:ByteArray) (c:UInt8) (w:World):Calls Tryz.prog 86 #[.string s,.string ⟨#[c]⟩] w fun e w'=>e=.returned (.int .i64 ((s.data.toList.count c:Nat):Int))/\w=w':=
 (Tryz.strings_Count_one s c w).mono fun _ _ ⟨h1,h2⟩=>⟨h1,h2.symm⟩
end Go.Proofs.YtfepgodjaeddgaaGreatDoor
