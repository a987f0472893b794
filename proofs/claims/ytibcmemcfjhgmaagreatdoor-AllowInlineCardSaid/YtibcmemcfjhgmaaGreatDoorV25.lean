/-
  lazaretref04.Sum: its code's region 38, over a frame that is a letter.
-/
import Derived.Test.YtibcmemcfjhgmaaGreatDoorV23
import Derived.Test.YtibcmemcfjhgmaaGreatDoorV24
set_option maxHeartbeats 4000000
set_option maxRecDepth 100000
namespace Lz
open Go
section
variable (kM:Int->Bs->Bs)
def dm (b:Int) (t:Bs):Bs:=bR (kM b t)
def fC (k:Nat) (t:Bs):Bs:=39::(i2 k++dm kM (im k) t++[39])
def nL:Bs:=39::(fX++[39])
def hJ:Bs:=39::(i3++[39])
def gE:Bs:=39::(fW++[39])
theorem zG:a8 nL=some (EC fX):=by decide +kernel
theorem oN (a:Bs) (l:List Bs):aM (a::l)=(a8 a).toList++aM l:=by
 unfold aM;rw[List.filterMap_cons];cases a8 a<;>rfl
theorem Ji (l:Bs):low (39::l)=39::low l:=rfl
theorem MZ (k:Nat) (v:Bs):eQ [39::(i2 k++v)]=false:=by
 unfold eQ
 have:(low (39::(i2 k++v))==xQ)=false:=by
  rw[beq_eq_false_iff_ne,Ji]
  match k with
  | 0=>intro h;injection h with _ h;injection h with h _;revert h;decide
  | 1=>intro h;injection h with _ h;injection h with h _;revert h;decide
  | n+2=>intro h;injection h with _ h;injection h with h _;revert h;decide
 simp[this]
theorem Nz (a b:Bs) (l:List Bs):eQ (a::b::l)=false:=by simp[eQ]
variable {kM}
theorem nO (hd:∀b t,kM b t≠[]) (k:Nat) (t:Bs):aM [fC kM k t]=[ig (dm kM (im k) t) (im k)]:=by
 unfold fC dm;rw[oN,EH k _ (LR (hd _ _))];rfl
theorem LB (hd:∀b t,kM b t≠[]) (k:Nat) (t:Bs):gl (dm kM) [fC kM k t] t=true:=by
 unfold gl;rw[nO hd]
 simp[ig,dm,yG]
theorem vp {vs:List Bs} {x:Src} (h:x∈aM vs) {kind:Int} (hb:qs kind x=true):kA kind vs=false:=by
 unfold kA;rw[List.any_eq_true.2 ⟨x,h,hb⟩];rfl
theorem sE (hd:∀b t,kM b t≠[]) (k:Nat) (t:Bs) (kind:Int) (h1:1<=kind) (h5:kind<=5):cw (dm kM) kind [fC kM k t] [] t=vU kind:=by
 unfold cw;have hn:eQ [fC kM k t]=false:=by unfold fC;rw[List.append_assoc];exact MZ k _
 rw[if_neg (by rw[hn];simp;omega),vp (x:=ig (dm kM (im k) t) (im k)) (by rw[nO hd];simp) (by simp[qs,ig]),LB hd];have:lc (aM [fC kM k t]) fX=false:=by rw[nO hd];simp[lc,kwS,ig]
 rw[this]
 simp[dQ]
end
end Lz
namespace Go.Proofs.YtibcmemcfjhgmaaGreatDoor
open Go.RowKit
attribute [local go_sem ↓] Go.wp_at_zero Go.wp_at_succ
theorem JZ (s t:ByteArray) (hs:s.size<=140737488355328) (w:World):Calls Tryz.prog 58 #[.string s,.string t] w (a5 (decide (Lz.low s.data.toList=Lz.low t.data.toList)) w):=by
 obtain⟨q,hq⟩:∃q,q=decide (Lz.low s.data.toList=Lz.low t.data.toList):=⟨_,rfl⟩;rw[<-hq];have Hq:=Ih hq;clear hq;by_cases hl:s.size=t.size
 ·have hlI:((s.size:Int) != (t.size:Int))=false:=by rw[hl];simp
  have Hl:=Ih hl;clear hl;go_enter Tryz.func58,Tryz.ntmps58
  go_wp2_with fail
  go_loopw [13] (fun k wr=>∃i:Nat,k=.int .i64 i/\i<=s.size/\Hid ((Lz.low s.data.toList).take i=(Lz.low t.data.toList).take i)/\Below w.heap.size w wr) (fun k _=>s.size-(intOf k).toNat)
  case atStart=>exact⟨0,rfl,Nat.zero_le _,Ih (by simp),Below.refl _ _⟩
  case round=>
   obtain⟨i,rfl,hi,hT,aC⟩:=hrel;by_cases aL:i<s.size
   ·have aK:(i:Int)<(s.size:Int):=by omega
    have tk:i<t.size:=by rw[<-Hl.out];exact aL
    have TC:(i:Int)<(t.size:Int):=by omega
    have j6:(0:Int)<=(i:Int):=by omega
    obtain⟨a,ha⟩:∃a,a=s[i]:=⟨_,rfl⟩;obtain⟨b,hb⟩:∃b,b=t[i]:=⟨_,rfl⟩;have haI:(s[i].toNat:Int)=(a.toNat:Int):=by rw[ha]
    have hbI:(t[i].toNat:Int)=(b.toNat:Int):=by rw[hb]
    have dB:(Lz.low s.data.toList).take (i+1)=(Lz.low s.data.toList).take i++[Lz.low1 a]/\(Lz.low t.data.toList).take (i+1)=(Lz.low t.data.toList).take i++[Lz.low1 b]:=by
     constructor
     ·rw[List.take_add_one,show(Lz.low s.data.toList)[i]? =some (Lz.low1 a) by unfold Lz.low;rw[List.getElem?_map,aB aL,ha];rfl];rfl
     ·rw[List.take_add_one,show(Lz.low t.data.toList)[i]? =some (Lz.low1 b) by unfold Lz.low;rw[List.getElem?_map,aB tk,hb];rfl];rfl
    have c1:=fun W=>rA a W;have c2:=fun W=>rA b W;have C1:Hid (∀W,Calls Tryz.prog 90 #[.int .u8 a.toNat] W fun e w'=>e=.returned (.int .u8 (Lz.low1 a).toNat)/\w'=W):=Ih (fun W=>(c1 W).mono fun _ _ ⟨h1,h2⟩=>⟨h1,h2.symm⟩);have C2:Hid (∀W,Calls Tryz.prog 90 #[.int .u8 b.toNat] W fun e w'=>e=.returned (.int .u8 (Lz.low1 b).toNat)/\w'=W):=Ih (fun W=>(c2 W).mono fun _ _ ⟨h1,h2⟩=>⟨h1,h2.symm⟩);have TV:(((Lz.low1 a).toNat:Int) != ((Lz.low1 b).toNat:Int))= !(Lz.low1 a==Lz.low1 b):=by rw[bne,Bl]
    clear ha hb c1 c2;by_cases he:Lz.low1 a=Lz.low1 b
    ·rw[beq_iff_eq.2 he]at TV;have act:(((Lz.low1 a).toNat:Int) != ((Lz.low1 b).toNat:Int))=false:=TV;have nt:Hid ((Lz.low s.data.toList).take (i+1)=(Lz.low t.data.toList).take (i+1)):=by show _=_;rw[dB.1,dB.2,hT.out,he]
     clear he dB hT TV
     go_wp2_with fail
     go_quiet (first |(go_at_call_of 90 (Value.int .u8 (a.toNat:Int));exact Calls.quiet_of_same (C1.out _))|(go_at_call_of 90 (Value.int .u8 (b.toNat:Int));exact Calls.quiet_of_same (C2.out _)))
     have xG:Below w.heap.size w (wr.drewN nq):=below_drewN aC nq;generalize wr.drewN nq=wq at xG⊢
     go_wp2_with fail
     go_roundw
     case rel=>exact⟨i+1,by go_num,by omega,nt,xG⟩
     case measure=>simp[intOf];omega
    ·rw[beq_eq_false_iff_ne.2 he]at TV;have act:(((Lz.low1 a).toNat:Int) != ((Lz.low1 b).toNat:Int))=true:=TV
     have HQ:Hid (q=false):=by
      show _=_;rw[Hq.out];refine decide_eq_false fun e=>he ?_;have h1:=congrArg (List.take (i+1)) e;rw[dB.1,dB.2,hT.out]at h1;simpa using List.append_cancel_left h1
     clear he dB hT TV
     go_wp2_with fail
     go_quiet (first |(go_at_call_of 90 (Value.int .u8 (a.toNat:Int));exact Calls.quiet_of_same (C1.out _))|(go_at_call_of 90 (Value.int .u8 (b.toNat:Int));exact Calls.quiet_of_same (C2.out _)))
     have xG:Below w.heap.size w (wr.drewN nq):=below_drewN aC nq;generalize wr.drewN nq=wq at xG⊢
     go_wp2_with fail
     go_ret;exact⟨by rw[HQ.out];rfl,xG⟩
   ·have aK:¬(i:Int)<(s.size:Int):=by omega
    have HQ:Hid (q=true):=by
     show _=_;rw[Hq.out];refine decide_eq_true ?_;have h1:=hT.out;rw[List.take_of_length_le (by rw[gK,ac];omega),List.take_of_length_le (by rw[gK,ac];have:=Hl.out;omega)]at h1;exact h1
    clear hT
    go_wp2_with fail
    go_ret;exact⟨by rw[HQ.out];rfl,aC⟩
 ·have hlI:((s.size:Int) != (t.size:Int))=true:=by simp;omega
  have HQ:Hid (q=false):=by
   show _=_;rw[Hq.out];refine decide_eq_false fun e=>hl ?_;have:=congrArg List.length e;rw[gK,gK,ac,ac]at this;exact this
  clear hl;go_enter Tryz.func58,Tryz.ntmps58
  go_wp2_with fail
  go_ret;exact⟨by rw[HQ.out];rfl,Below.refl _ _⟩
theorem J4 (v:Value) (l:List (List UInt8)) (w:World) (h:eY w v l) (hL:l.length<=1000000) (hZ:∀x,x∈l->x.length<=140737488355328):Calls Tryz.prog 26 #[v] w (a5 (Lz.eQ l) w):=by
 obtain⟨a,c,xs,rfl,rfl,hx⟩:=h
 match xs,hx,hZ,hL with
 | [],_,_,_=>
   have HV:Hid (Lz.eQ (([]:List ByteArray).map fun x:ByteArray=>x.data.toList)=true):=rfl;go_enter Tryz.func26,Tryz.ntmps26
   go_wp2_with fail
   go_ret;exact⟨by rw[HV.out];rfl,Below.refl _ _⟩
 | [x],hx,hZ,_=>
   obtain⟨B,off,rfl,hB,hc⟩:=hx 0 x rfl;rw[Nat.add_zero]at hc;have Py:x.size<=140737488355328:=by rw[<-ac];exact hZ _ (by simp)
   obtain⟨q,hq⟩:∃q,q=decide (Lz.low x.data.toList=Lz.xQ):=⟨_,rfl⟩
   have HV:Hid (Lz.eQ ([x].map fun x:ByteArray=>x.data.toList)=q):=by
    show _=_;rw[hq];show(false||(true&&(Lz.low x.data.toList==Lz.xQ)))=_;rw[Bool.false_or,Bool.true_and,Bool.eq_iff_iff];simp
   have cS:Hid (Calls Tryz.prog 58 #[.string x,.string ⟨#[39,110,111,110,101,39]⟩] w (a5 q w)):=Ih (by
    have:=JZ x ⟨#[39,110,111,110,101,39]⟩ Py w;rw[show Lz.low (⟨#[39,110,111,110,101,39]⟩:ByteArray).data.toList=Lz.xQ by decide,<-hq]at this;exact this)
   clear hx hq hZ;go_enter Tryz.func26,Tryz.ntmps26
   go_wp2_with fail
   refine cS.out.mono ?_;rintro e w5 ⟨rfl,bv⟩
   go_wp2_with fail
   go_ret;exact⟨by rw[HV.out];rfl,bv⟩
 | x::y::r,hx,_,hL=>
   have HV:Hid (Lz.eQ ((x::y::r).map fun x:ByteArray=>x.data.toList)=false):=rfl;obtain⟨n,hn⟩:∃n,n=(x::y::r).length:=⟨_,rfl⟩;have y6:2<=n:=by rw[hn,List.length_cons,List.length_cons];omega
   have e0:((n:Int)==0)=false:=beq_eq_false_iff_ne.2 (by omega);have e1:((n:Int)==1)=false:=beq_eq_false_iff_ne.2 (by omega);rw[<-hn];clear hx hn hL;go_enter Tryz.func26,Tryz.ntmps26
   go_wp2_with fail
   go_ret;exact⟨by rw[HV.out];rfl,Below.refl _ _⟩
end Go.Proofs.YtibcmemcfjhgmaaGreatDoor
namespace Lz
open Go
def kY (vs:List Bs) (k:Int) (t:Bs):Bool:=(aM vs).any fun x=>x.kind==k&&x.text==t
def ip (vs:List Bs) (k:Int):Bool:=(aM vs).any fun x=>x.kind==k
def RM (kind:Int) (vs:List Bs):Bool:=kY vs 1 i3&&(!ip vs 4&&(!ip vs 5&&(decide (3<kind)|| !kY vs 1 fW)))
theorem MW {α:Type} (l:List α) (p q:α->Bool):l.any (fun x=>p x||q x)=(l.any p||l.any q):=by
 induction l with
 | nil=>rfl
 | cons a r ih=>
   simp only[List.any_cons,ih];cases p a<;>cases q a<;>cases r.any p<;>cases r.any q<;>rfl
theorem xh {α:Type} (l:List α) (p:α->Bool) (c:Bool):l.any (fun x=>p x&&c)=(l.any p&&c):=by
 induction l with
 | nil=>rfl
 | cons a r ih=>
   simp only[List.any_cons,ih];cases p a<;>cases r.any p<;>cases c<;>rfl
theorem zi (kind:Int) (vs:List Bs):RM kind vs=kA kind vs:=by
 unfold RM kA
 have h:(aM vs).any (qs kind)=(ip vs 4||(ip vs 5||(kY vs 1 fW&&decide (kind<4)))):=by
  unfold qs ip kY;rw[MW,MW,xh];rfl
 rw[h];have h2:lc (aM vs) i3=kY vs 1 i3:=rfl
 have h3:decide (kind<4)= !decide (3<kind):=by
  by_cases e:kind<4
  ·rw[decide_eq_true e,decide_eq_false (by omega)];rfl
  ·rw[decide_eq_false e,decide_eq_true (by omega)];rfl
 rw[h2,h3];cases kY vs 1 i3<;>cases ip vs 4<;>cases ip vs 5<;>cases kY vs 1 fW<;>cases decide (3<kind)<;>rfl
theorem JP (vs:List Bs) (n:Bs):(n != []&&kY vs 4 n)=dQ vs n:=rfl
theorem Kk {vs:List Bs} {x:Src} (h:x∈aM vs) (hk:x.kind=5):x.bits=256\/x.bits=384\/x.bits=512:=by
 unfold aM at h;obtain⟨l,_,h⟩:=List.mem_filterMap.1 h;unfold a8 at h;split at h
 ·rcases lL h with⟨_,rfl⟩|⟨v,rfl,_,_⟩|⟨v,b,rfl,hb,_,_⟩
  ·cases hk
  ·cases hk
  ·exact hb
 ·split at h
  ·rw[<-Option.some.inj h]at hk;cases hk
  ·obtain⟨sch,host,wild,port,path,rfl,_⟩:=lu h;cases hk
def yJ (bits:Int):Int:=Int.tdiv (Int.tdiv bits 8+2) 3*4
def B5 (sum:Int->Bs->Bs) (vs:List Bs) (t:Bs):Bool:=(aM vs).any fun x=>x.kind==5&&((x.text.length:Int)==yJ x.bits&&bd x.text==sum x.bits t)
theorem uG:∀s:Bs,(bR s).length=(s.length+2) / 3*4
 | []=>by simp[bR]
 | [a]=>by simp[bR,dD]
 | [a,b]=>by simp[bR,dD]
 | a::b::c::r=>by
   have:=uG r;rw[bR,List.length_append,this]
   simp[dD]
   omega
theorem Mk (kM:Int->Bs->Bs) (h1:∀t,(kM 256 t).length=32) (h2:∀t,(kM 384 t).length=48) (h3:∀t,(kM 512 t).length=64) (vs:List Bs) (t:Bs):B5 (dm kM) vs t=gl (dm kM) vs t:=by
 unfold B5 gl
 have:∀x∈aM vs,(x.kind==5&&((x.text.length:Int)==yJ x.bits&&bd x.text==dm kM x.bits t))=(x.kind==5&&bd x.text==dm kM x.bits t):=by
  intro x hx;by_cases hk:x.kind=5
  ·rw[hk];cases he:bd x.text==dm kM x.bits t with
   | false=>simp
   | true=>
     have e:=congrArg List.length (beq_iff_eq.1 he);unfold bd dm at e;rw[List.length_map,uG]at e
     have:(x.text.length:Int)=yJ x.bits:=by
      rcases Kk hx hk with hb|hb|hb
      ·rw[hb,h1]at e;rw[hb,e];decide
      ·rw[hb,h2]at e;rw[hb,e];decide
      ·rw[hb,h3]at e;rw[hb,e];decide
     rw[beq_iff_eq.2 this];rfl
  ·rw[beq_eq_false_iff_ne.2 hk];rfl
 rw[Bool.eq_iff_iff,List.any_eq_true,List.any_eq_true];exact⟨fun⟨x,hx,h⟩=>⟨x,hx,by rw[<-this x hx];exact h⟩,fun⟨x,hx,h⟩=>⟨x,hx,by rw[this x hx];exact h⟩⟩
def zw (sum:Int->Bs->Bs) (kind:Int) (vs:List Bs) (n t:Bs):Bool:=
 if kind<1\/5<kind\/eQ vs=true then false
 else if RM kind vs=true then true
 else if kind=1\/kind=4 then dQ vs n||gl sum vs t
 else kY vs 1 fX&&gl sum vs t
theorem EV (sum:Int->Bs->Bs) (kind:Int) (vs:List Bs) (n t:Bs):zw sum kind vs n t=cw sum kind vs n t:=by
 unfold zw cw;rw[zi];split
 ·rfl
 ·have hk:lc (aM vs) fX=kY vs 1 fX:=rfl;rw[hk];cases kA kind vs with
  | true=>simp
  | false=>
    rw[Bool.false_or,if_neg (by decide)];by_cases he:kind=1\/kind=4
    ·have:vU kind=true:=by rcases he with rfl|rfl<;>rfl
     rw[if_pos he,this];cases dQ vs n<;>simp
    ·have:vU kind=false:=by
      unfold vU;rw[beq_eq_false_iff_ne.2 (fun e=>he (Or.inl e)),beq_eq_false_iff_ne.2 (fun e=>he (Or.inr e))];rfl
     rw[if_neg he,this]
     simp
end Lz
namespace Go.Proofs.YtibcmemcfjhgmaaGreatDoor
open Go.RowKit
attribute [local go_sem ↓] Go.wp_at_zero Go.wp_at_succ
theorem RC (A:Act) (w0 w:World) (Q:Exit->Act->World->Prop) (nZ x7 s0 s1:UInt32) (xs:List UInt32) (g L c i y9 m7:Nat)
  (hs:A.tmps.size=323) (t10:A.tmps[10]? =some (.slice (some ⟨g,0,none⟩) L c)) (t11:A.tmps[11]? =some (.int .i64 (i:Int))) (t13:A.tmps[13]? =some (.int .u32 (N32 s0))) (t14:A.tmps[14]? =some (.int .u32 (N32 s1)))
  (f16:IntKind.i64.wrap ((i:Int)-16)=(y9:Int)) (q16:(0:Int)<=(y9:Int)/\(y9:Int)<(L:Int)) (f7:IntKind.i64.wrap ((i:Int)-7)=(m7:Int)) (q7:(0:Int)<=(m7:Int)/\(m7:Int)<(L:Int))
  (Gk:w.cell? ⟨g,y9,none⟩=some (.int .u32 (N32 nZ))) (WE:w.cell? ⟨g,m7,none⟩=some (.int .u32 (N32 x7)))
  (ai:bZ w w0.heap.size (.slice (some ⟨g,0,none⟩) L c) xs) (aO:xs.length<=1000000) (aC:Below w0.heap.size w0 w)
  (ak:∀c a a' w,Q (.panic c) a w->Q (.panic c) a' w)
  (hQ:∀A' w' v',A'.tmps.size=323->A'.defers=A.defers->eI 10 143 160 A A'->A'.tmps[10]? =some v'->bZ w' w0.heap.size v' (xs++[((nZ+s0)+x7)+s1])->Below w0.heap.size w0 w'->Q .normal A' w'):
  Code.wp Tryz.prog (dn2 (dn2 (dn2 (xR Tryz.f67.body)))) Q A w:=by
 obtain⟨Lr,e10⟩:=ag t10;obtain⟨IS,e11⟩:=ag t11;obtain⟨Xb,e13⟩:=ag t13;obtain⟨b14,e14⟩:=ag t14;have o1:=jx nZ s0;have o2:=jx (nZ+s0) x7;have o3:=jx ((nZ+s0)+x7) s1;have HQ:=Ih hQ;clear t10 t11 t13 t14 hQ
 conv=>arg 2;whnf
 refine wp_region_held_drew (S:=fun V=>Below w0.heap.size w0 V) (by kernel_rfl) aC.drew (fun af=>?_);have nv:bZ w.drew w0.heap.size (.slice (some ⟨g,0,none⟩) L c) xs:=ai;have c16:w.drew.cell? ⟨g,y9,none⟩=some (.int .u32 (N32 nZ)):=Gk;have c7:w.drew.cell? ⟨g,m7,none⟩=some (.int .u32 (N32 x7)):=WE;clear ai Gk WE;generalize w.drew=W0 at af nv c16 c7⊢;apply TkE ak 0 143;apply TkE ak 1 144;apply TkE ak 2 145;apply TkE ak 3 146;apply TkE ak 4 147;apply TkE ak 6 149
 iterate 6 (rotate_right 2;(·(intro W ar;(try dsimp only at ar);(try simp only[Act.put]);go_simp;try with_reducible rfl)))
 (try simp only[Act.put])
 apply TkE ak 8 151;apply TkE ak 9 152;apply TkE ak 10 153;apply TkE ak 11 154;apply TkE ak 14 157
 iterate 5 (rotate_right 2;(·(intro W ar;(try dsimp only at ar);(try simp only[Act.put]);go_simp;try with_reducible rfl)))
 (try simp only[Act.put])
 refine wpAnyH_ready (rs:=[5,12]) (by kernel_rfl) (by simp) ?_;refine AllReadyH.cons rfl (fun K hK=>?_) (AllReadyH.cons rfl (fun K hK=>?_) AllReadyH.nil)
 ·go_simp;refine hK.out _ _ af (fun af=>?_);clear hK K
  (try simp only[Act.put])
  apply TkE ak 7 150
  iterate 1 (rotate_right 2;(·(intro W ar;(try dsimp only at ar);(try simp only[Act.put]);go_simp;try with_reducible rfl)))
  (try simp only[Act.put])
  refine wpAnyH_ready (rs:=[12]) (by kernel_rfl) (by simp) ?_;refine AllReadyH.cons rfl (fun K hK=>?_) AllReadyH.nil;go_simp;refine hK.out _ _ af (fun af=>?_);clear hK K
  (try simp only[Act.put])
  apply TkE ak 13 156;apply TkE ak 15 158
  iterate 2 (rotate_right 2;(·(intro W ar;(try dsimp only at ar);(try simp only[Act.put]);go_simp;try with_reducible rfl)))
  (try simp only[Act.put])
  refine wpAnyH_ready (rs:=[16]) (by kernel_rfl) (by simp) ?_;refine AllReadyH.cons rfl (fun K hK=>?_) AllReadyH.nil;have gr:=nv.below ((Below.refl W0.heap.size W0).alloc (Nat.le_refl _) (.cells #[.int .u32 (N32 (((nZ+s0)+x7)+s1))] 123));have iw:(W0.alloc (.cells #[.int .u32 (N32 (((nZ+s0)+x7)+s1))] 123)).cell? ⟨W0.heap.size,0,none⟩=some (.int .u32 (N32 (((nZ+s0)+x7)+s1))):=rowAt (an W0 _) 0 _ rfl;go_simp;refine hK.out _ _ (af.alloc af.size _) (fun af=>?_);clear hK K
  (try simp only[Act.put])
  refine wpAnyH_ready (rs:=[17]) (by kernel_rfl) (by simp) ?_;refine AllReadyH.cons rfl (fun K hK=>?_) AllReadyH.nil;rw[if_pos (by rfl)];refine mx (.tmp 143) (.tmp 159) rfl rfl (some 160) rfl w0.heap.size (.slice (some ⟨g,0,none⟩) L c) xs ?_ gr W0.heap.size 1 (((nZ+s0)+x7)+s1) ?_ iw aO af.size ?_
  ·simp[Act.eval,hs]
  ·simp[Act.eval,hs]
  intro v' w' de iy;have aE:Below w0.heap.size w0 w':=af.grown iy af.size (fun k hk=>(World.ownsRow.lt gr k hk).1);clear af;refine hK.out _ _ aE (fun af=>?_);clear hK K gr iw iy
  (try simp only[Act.put])
  refine TkD 18 (some 10) (v:=v') rfl rfl ?_ ?_ (hQ:=fun _ _ _ h=>ak _ _ _ _ h)
  ·intro W ar;simp[Act.eval,hs,execOp]
  (try simp only[Act.put])
  refine wpAnyH_done (by kernel_rfl) ?_ _
  go_wp2_with fail
  refine HQ.out _ _ v' ?_ ?_ ?_ ?_ de af
  ·simp only[Array.size_setIfInBounds];exact hs
  ·rfl
  ·intro k hk cf
   simp(disch:=exact bf k hk cf _ (by decide)) only[Array.getElem?_setIfInBounds_ne]
  ·rw[Array.getElem?_setIfInBounds_self_of_lt (by simp only[Array.size_setIfInBounds];rw[hs];decide)]
 ·go_simp;refine hK.out _ _ af (fun af=>?_);clear hK K
  (try simp only[Act.put])
  refine wpAnyH_ready (rs:=[5]) (by kernel_rfl) (by simp) ?_;refine AllReadyH.cons rfl (fun K hK=>?_) AllReadyH.nil;go_simp;refine hK.out _ _ af (fun af=>?_);clear hK K
  (try simp only[Act.put])
  apply TkE ak 7 150;apply TkE ak 13 156;apply TkE ak 15 158
  iterate 3 (rotate_right 2;(·(intro W ar;(try dsimp only at ar);(try simp only[Act.put]);go_simp;try with_reducible rfl)))
  (try simp only[Act.put])
  refine wpAnyH_ready (rs:=[16]) (by kernel_rfl) (by simp) ?_;refine AllReadyH.cons rfl (fun K hK=>?_) AllReadyH.nil;have gr:=nv.below ((Below.refl W0.heap.size W0).alloc (Nat.le_refl _) (.cells #[.int .u32 (N32 (((nZ+s0)+x7)+s1))] 123));have iw:(W0.alloc (.cells #[.int .u32 (N32 (((nZ+s0)+x7)+s1))] 123)).cell? ⟨W0.heap.size,0,none⟩=some (.int .u32 (N32 (((nZ+s0)+x7)+s1))):=rowAt (an W0 _) 0 _ rfl;go_simp;refine hK.out _ _ (af.alloc af.size _) (fun af=>?_);clear hK K
  (try simp only[Act.put])
  refine wpAnyH_ready (rs:=[17]) (by kernel_rfl) (by simp) ?_;refine AllReadyH.cons rfl (fun K hK=>?_) AllReadyH.nil;rw[if_pos (by rfl)];refine mx (.tmp 143) (.tmp 159) rfl rfl (some 160) rfl w0.heap.size (.slice (some ⟨g,0,none⟩) L c) xs ?_ gr W0.heap.size 1 (((nZ+s0)+x7)+s1) ?_ iw aO af.size ?_
  ·simp[Act.eval,hs]
  ·simp[Act.eval,hs]
  intro v' w' de iy;have aE:Below w0.heap.size w0 w':=af.grown iy af.size (fun k hk=>(World.ownsRow.lt gr k hk).1);clear af;refine hK.out _ _ aE (fun af=>?_);clear hK K gr iw iy
  (try simp only[Act.put])
  refine TkD 18 (some 10) (v:=v') rfl rfl ?_ ?_ (hQ:=fun _ _ _ h=>ak _ _ _ _ h)
  ·intro W ar;simp[Act.eval,hs,execOp]
  (try simp only[Act.put])
  refine wpAnyH_done (by kernel_rfl) ?_ _
  go_wp2_with fail
  refine HQ.out _ _ v' ?_ ?_ ?_ ?_ de af
  ·simp only[Array.size_setIfInBounds];exact hs
  ·rfl
  ·intro k hk cf
   simp(disch:=exact bf k hk cf _ (by decide)) only[Array.getElem?_setIfInBounds_ne]
  ·rw[Array.getElem?_setIfInBounds_self_of_lt (by simp only[Array.size_setIfInBounds];rw[hs];decide)]
attribute [local go_sem ↓] Go.wp_at_zero Go.wp_at_succ
theorem MO (A:Act) (w0 w:World) (Q:Exit->Act->World->Prop) (bb:List UInt8) (i:Nat) (v:Value) (tN:16<=i) (WZ:i<64)
  (hs:A.tmps.size=323) (t10:A.tmps[10]? =some v) (t11:A.tmps[11]? =some (.int .i64 (i:Int)))
  (ai:bZ w w0.heap.size v (Lz.aY bb i)) (aO:(Lz.aY bb i).length=i) (aC:Below w0.heap.size w0 w)
  (ak:∀c a a' w,Q (.panic c) a w->Q (.panic c) a' w)
  (hQ:∀A' w' v',A'.tmps.size=323->A'.defers=A.defers->oA A A'->A'.tmps[11]? =A.tmps[11]? ->A'.tmps[10]? =some v'->bZ w' w0.heap.size v' (Lz.aY bb (i+1))->Below w0.heap.size w0 w'->Q .normal A' w'):
  Code.wp Tryz.prog (xR Tryz.f67.body) Q A w:=by
 have hst:Lz.aY bb (i+1)=Lz.aY bb i++[(((Lz.aY bb i).getD (i-16) 0+((Lz.aH ((Lz.aY bb i).getD (i-15) 0) 7 ^^^ Lz.aH ((Lz.aY bb i).getD (i-15) 0) 18) ^^^ ((Lz.aY bb i).getD (i-15) 0>>>3)))+(Lz.aY bb i).getD (i-7) 0)+((Lz.aH ((Lz.aY bb i).getD (i-2) 0) 17 ^^^ Lz.aH ((Lz.aY bb i).getD (i-2) 0) 19) ^^^ ((Lz.aY bb i).getD (i-2) 0>>>10))]:=by
  rw[Lz.aY,if_neg (by omega)];simp only[Lz.tW]
 generalize Lz.aY bb i=xs at ai aO hst;obtain⟨g,c,rfl,wJ⟩:=bZ.form ai (by omega);obtain⟨IS,e11⟩:=ag t11;have DL:¬((i:Int)<16):=by omega
 have dd:∀n:Nat,n<=i->0<n->IntKind.i64.wrap ((i:Int)-(n:Int))=((i-n:Nat):Int):=fun n hn h0=>by rw[IntWalk.i64_in _ (by omega)];omega
 have qq:∀n:Nat,n<=i->0<n->(0:Int)<=((i-n:Nat):Int)/\((i-n:Nat):Int)<(xs.length:Int):=fun n hn h0=>by omega
 have O4:xs.length<=1000000:=by omega
 have F15:=Ih (dd 15 (by omega) (by decide));have F2:=Ih (dd 2 (by omega) (by decide));have F16:=Ih (dd 16 (by omega) (by decide));have F7:=Ih (dd 7 (by omega) (by decide));have Q15:=Ih (qq 15 (by omega) (by decide));have Q2:=Ih (qq 2 (by omega) (by decide));have Q16:=Ih (qq 16 (by omega) (by decide));have Q7:=Ih (qq 7 (by omega) (by decide));have L15:i-15<xs.length:=by omega
 have L2:i-2<xs.length:=by omega
 have L16:i-16<xs.length:=by omega
 have L7:i-7<xs.length:=by omega
 have iA:=Ih hst;have HQ:=Ih hQ;have R6:=Ih wJ;have bi:=Ih ai;have eu:=Ih aO;clear dd qq hst hQ wJ ai aO
 conv=>arg 2;whnf
 go_wp2_with fail
 refine wp_cond_false (by simp[Act.eval,hs]) ?_
 go_wp2_with fail
 refine aw (fun A1 bc=>?_);have g0:A1.tmps.size=323:=by rw[bc];simp only[Array.size_setIfInBounds];exact hs
 have K1:∀k,k≠69->k≠70->A1.tmps[k]? =A.tmps[k]? :=fun k hk cf=>by
  rw[bc];simp(disch:=first |exact hk.symm|exact cf.symm) only[Array.getElem?_setIfInBounds_ne]
 have D1:A1.defers=A.defers:=by rw[bc]
 clear bc e11;have om:=(K1 10 (by decide) (by decide)).trans t10;have tp:=(K1 11 (by decide) (by decide)).trans t11;refine Rv A1 w _ (xs.getD (i-15) 0) g xs.length c i (i-15) g0 om tp F15.out Q15.out (R6.out _ L15) (fun c a a' w h=>ak c a a' w h) (fun A2 w2 z2 D2 K2 r2 b2=>?_);have p10:=(K2 10 (by decide) (by decide)).trans om;have p11:=(K2 11 (by decide) (by decide)).trans tp;have OW:=Ih (R6.out.below b2);have bF:=Ih (bi.out.below b2);have eC:=aC.trans (b2.mono aC.size)
 go_wp2_with fail
 refine Q8 A2 w2 _ (xs.getD (i-2) 0) g xs.length c i (i-2) z2 p10 p11 F2.out Q2.out (OW.out _ L2) (fun c a a' w h=>ak c a a' w h) (fun A3 w3 z3 D3 K3 r3 b3=>?_);have u10:=(K3 10 (by decide) (by decide)).trans p10;have u11:=(K3 11 (by decide) (by decide)).trans p11;have u13:=(K3 13 (by decide) (by decide)).trans r2;have O5:=OW.out.below b3;have dZ:=bF.out.below b3;have gw:=eC.trans (b3.mono eC.size)
 go_wp2_with fail
 refine RC A3 w0 w3 _ (xs.getD (i-16) 0) (xs.getD (i-7) 0) _ _ xs g xs.length c i (i-16) (i-7) z3 u10 u11 u13 r3 F16.out Q16.out F7.out Q7.out (O5 _ L16) (O5 _ L7) dZ O4 gw (fun c a a' w h=>ak c a a' w h) (fun A4 w4 v4 z4 D4 K4 r4 own4 b4=>?_);refine HQ.out A4 w4 v4 z4 (D4.trans (D3.trans (D2.trans D1))) ?_ ?_ r4 (by rw[iA.out];exact own4) b4
 ·intro k hk;rw[K4 k (by omega) (by omega),K3 k (by omega) (by omega),K2 k (by omega) (by omega),K1 k (by omega) (by omega)]
 ·rw[K4 11 (by decide) (by decide),K3 11 (by decide) (by decide),K2 11 (by decide) (by decide),K1 11 (by decide) (by decide)]
attribute [local go_sem ↓] Go.wp_at_zero Go.wp_at_succ
theorem LY:uV Tryz.f67.body=.seq (dn1 (uV Tryz.f67.body)) (.seq (.block 7 (xR Tryz.f67.body)) (dn2 (dn2 (uV Tryz.f67.body)))):=by kernel_rfl
theorem oA.trans {A B C:Act} (h:oA A B) (k:oA B C):oA A C:=fun i hi=>(k i hi).trans (h i hi)
def Ep (A:Act):Nat:=(intOf ((A.tmps[11]?).getD (.bool false))).toNat
theorem zX {A:Act} {i:Nat} (h:A.tmps[11]? =some (.int .i64 (i:Int))):Ep A=i:=by unfold Ep;rw[h];rfl
def VO (A0:Act) (w0:World) (bb:List UInt8) (A:Act) (w:World):Prop:=∃(i:Nat) (v:Value),i<=64/\A.tmps.size=323/\A.defers=A0.defers/\oA A0 A/\A.tmps[11]? =some (.int .i64 (i:Int))/\A.tmps[10]? =some v/\bZ w w0.heap.size v (Lz.aY bb i)/\Below w0.heap.size w0 w
theorem Ir (A:Act) (w:World) (Q:Exit->Act->World->Prop) (i:Nat) (hi:i<64) (hs:A.tmps.size=323) (t11:A.tmps[11]? =some (.int .i64 (i:Int)))
  (hQ:∀A',A'.tmps.size=323->A'.defers=A.defers->eI 11 67 68 A A'->A'.tmps[11]? =some (.int .i64 ((i+1:Nat):Int))->Q .normal A' w):
  Code.wp Tryz.prog (dn2 (dn2 (uV Tryz.f67.body))) Q A w:=by
 obtain⟨IS,e11⟩:=ag t11;have f1:IntKind.i64.wrap ((i:Int)+1)=((i+1:Nat):Int):=by rw[IntWalk.i64_in _ (by omega)];omega
 have HQ:=Ih hQ;have F1:=Ih f1;clear hQ f1
 conv=>arg 2;whnf
 go_wp2_with fail
 refine HQ.out _ ?_ ?_ ?_ ?_
 ·simp only[Array.size_setIfInBounds];exact hs
 ·rfl
 ·intro k hk cf
  simp(disch:=exact bf k hk cf _ (by decide)) only[Array.getElem?_setIfInBounds_ne]
 ·rw[Array.getElem?_setIfInBounds_self_of_lt (by simp only[Array.size_setIfInBounds];rw[hs];decide)];rw[show((i+1:Nat):Int)=(i:Int)+1 by omega]
theorem Mn (A0:Act) (w0 w:World) (Q:Exit->Act->World->Prop) (m:ByteArray) (bb:List UInt8) (a0:Nat) (Lb:a0<=1073742000) (sN:Hid (∀x,x<64->∃h:a0+x<m.size,bb.getD x 0=m[a0+x])) (v0:Value)
  (hs:A0.tmps.size=323) (t8:A0.tmps[8]? =some (.string m)) (t9:A0.tmps[9]? =some (.int .i64 (a0:Int))) (t10:A0.tmps[10]? =some v0) (t11:A0.tmps[11]? =some (.int .i64 0))
  (ai:bZ w w0.heap.size v0 []) (aC:Below w0.heap.size w0 w) (aO:∀i,(Lz.aY bb i).length=i)
  (ak:∀c a a' w,Q (.panic c) a w->Q (.panic c) a' w)
  (hQ:∀A' w' v',A'.tmps.size=323->A'.defers=A0.defers->oA A0 A'->A'.tmps[10]? =some v'->bZ w' w0.heap.size v' (Lz.aY bb 64)->Below w0.heap.size w0 w'->Q .normal A' w'):
  Code.wp Tryz.prog (.block 6 (.loop (uV Tryz.f67.body))) Q A0 w:=by
 refine wp_block (wp_loop (VO A0 w0 bb) (fun a _=>64-Ep a) ⟨0,v0,by decide,hs,rfl,fun _ _=>rfl,t11,t10,ai,aC⟩ ?_);rintro A w ⟨i,v,hi,hs,hd,hk,t11,t10,ai,aC⟩;have t8:=(hk 8 (by decide)).trans t8;have t9:=(hk 9 (by decide)).trans t9;obtain⟨IS,e11⟩:=ag t11;have HI:Hid (∀A' w',VO A0 w0 bb A' w'->64-Ep A'<64-Ep A->Exit.then (fun a' w'=>VO A0 w0 bb a' w'/\64-Ep a'<64-Ep A) (Exit.inBlock 6 Q) .normal A' w'):=Ih (fun A' w' h1 h2=>⟨h1,h2⟩);have qH:=Ih ak;have HQ:=Ih hQ;have M:=zX t11;rw[LY];refine wp_seq ?_
 conv=>arg 2;whnf
 go_wp2_with fail
 by_cases aL:i<64
 ·have aK:(i:Int)<64:=by omega
  refine wp_cond_true (by simp[Act.eval,hs,aK]) ?_;refine aw (fun A1 bc=>?_);have g0:A1.tmps.size=323:=by rw[bc];simp only[Array.size_setIfInBounds];exact hs
  have K1:∀k,k≠65->k≠66->A1.tmps[k]? =A.tmps[k]? :=fun k hk cf=>by
   rw[bc];simp(disch:=first |exact hk.symm|exact cf.symm) only[Array.getElem?_setIfInBounds_ne]
  have D1:A1.defers=A0.defers:=by rw[bc]
  clear bc e11 aK;have g8:=(K1 8 (by decide) (by decide)).trans t8;have g9:=(K1 9 (by decide) (by decide)).trans t9;have om:=(K1 10 (by decide) (by decide)).trans t10;have tp:=(K1 11 (by decide) (by decide)).trans t11;have HK:oA A0 A1:=hk.trans (fun k hk=>K1 k (by omega) (by omega));clear K1 hk t8 t9 t10 t11
  go_wp2_with fail
  by_cases tN:i<16
  ·refine Qf A1 w0 w _ m bb a0 i v Lb tN sN g0 g8 g9 om tp ai (aO i) aC (fun c a a' w h=>qH.out c a a' w h) (fun A2 w2 v2 z2 d2 k2 r2 p2 o2 b2=>?_)
   go_wp2_with fail
   refine Ir A2 w2 _ i aL z2 (r2.trans tp) (fun A3 z3 d3 k3 r3=>?_);exact HI.out A3 w2 ⟨i+1,v2,by omega,z3,d3.trans (d2.trans D1),HK.trans (k2.trans (fun k hk=>k3 k (by omega) (by omega))),r3,(k3 10 (by decide) (by decide)).trans p2,o2,b2⟩ (by rw[zX r3,M];omega)
  ·refine MO A1 w0 w _ bb i v (by omega) aL g0 om tp ai (aO i) aC (fun c a a' w h=>qH.out c a a' w h) (fun A2 w2 v2 z2 d2 k2 r2 p2 o2 b2=>?_)
   go_wp2_with fail
   refine Ir A2 w2 _ i aL z2 (r2.trans tp) (fun A3 z3 d3 k3 r3=>?_);exact HI.out A3 w2 ⟨i+1,v2,by omega,z3,d3.trans (d2.trans D1),HK.trans (k2.trans (fun k hk=>k3 k (by omega) (by omega))),r3,(k3 10 (by decide) (by decide)).trans p2,o2,b2⟩ (by rw[zX r3,M];omega)
 ·have aK:¬((i:Int)<64):=by omega
  obtain rfl:i=64:=by omega
  refine wp_cond_false (by simp[Act.eval,hs]) ?_;refine aw (fun A1 bc=>?_);have g0:A1.tmps.size=323:=by rw[bc];simp only[Array.size_setIfInBounds];exact hs
  have K1:∀k,k≠65->k≠66->A1.tmps[k]? =A.tmps[k]? :=fun k hk cf=>by
   rw[bc];simp(disch:=first |exact hk.symm|exact cf.symm) only[Array.getElem?_setIfInBounds_ne]
  have D1:A1.defers=A0.defers:=by rw[bc]
  clear bc e11 aK;have HK:oA A0 A1:=hk.trans (fun k hk=>K1 k (by omega) (by omega));have om:=(K1 10 (by decide) (by decide)).trans t10
  go_wp2_with fail
  exact HQ.out A1 w v g0 D1 HK om ai aC
attribute [local go_sem ↓] Go.wp_at_zero Go.wp_at_succ
def UC (A A':Act):Prop:=∀k,(k<15\/k=23\/k=24\/(25<k/\k<218)\/249<k)->A'.tmps[k]? =A.tmps[k]?
theorem Kn (k:Nat) (hk:k<15\/k=23\/k=24\/(25<k/\k<218)\/249<k) (s:Nat) (hs:(15<=s/\s<=22)\/s=25\/(218<=s/\s<=249)):s≠k:=by omega
theorem PC (A:Act) (w:World) (Q:Exit->Act->World->Prop) (s:Lz.St8 UInt32) (t:UInt32)
  (hs:A.tmps.size=323) (h8:uy A s) (t24:A.tmps[24]? =some (.int .u32 (N32 t)))
  (hQ:∀A' w',A'.tmps.size=323->A'.defers=A.defers->UC A A'->uy A' ⟨t+Lz.NV s,s.a,s.b,s.c,s.d+t,s.e,s.f,s.g⟩->Below w.heap.size w w'->Q .normal A' w'):
  Code.wp Tryz.prog (dn2 (Ig Tryz.f67.body)) Q A w:=by
 obtain⟨t15,t16,t17,t18,t19,t20,t21,t22⟩:=h8;obtain⟨b15,e15⟩:=ag t15;obtain⟨b16,e16⟩:=ag t16;obtain⟨b17,e17⟩:=ag t17;obtain⟨b18,e18⟩:=ag t18;obtain⟨b19,e19⟩:=ag t19;obtain⟨b20,e20⟩:=ag t20;obtain⟨ZO,e21⟩:=ag t21;obtain⟨ZX,e22⟩:=ag t22;obtain⟨b24,e24⟩:=ag t24;unfold Lz.NV at hQ;clear t15 t16 t17 t18 t19 t20 t21 t22 t24;obtain⟨a,b,c,d,e,f,gg,z⟩:=s
 dsimp only at e15 e16 e17 e18 e19 e20 e21 e22 hQ
 have o1:=rq (Lz.aH a 2) (Lz.aH a 13);have o2:=rq (Lz.aH a 2 ^^^ Lz.aH a 13) (Lz.aH a 22);have o3:=KA a b;have o4:=KA a c;have o5:=KA b c;have o6:=rq (a&&& b) (a&&& c);have o7:=rq ((a&&& b) ^^^ (a&&& c)) (b&&& c);have o8:=jx ((Lz.aH a 2 ^^^ Lz.aH a 13) ^^^ Lz.aH a 22) (((a&&& b) ^^^ (a&&& c)) ^^^ (b&&& c));have o9:=jx t (((Lz.aH a 2 ^^^ Lz.aH a 13) ^^^ Lz.aH a 22)+(((a&&& b) ^^^ (a&&& c)) ^^^ (b&&& c)));have Wf:=jx d t;have k1:=Ih (fun w=>dM a 2 (by decide) (by decide) w);have k2:=Ih (fun w=>dM a 13 (by decide) (by decide) w);have k3:=Ih (fun w=>dM a 22 (by decide) (by decide) w);have HQ:=Ih hQ;clear hQ
 conv=>arg 2;whnf
 go_wp2_with fail
 go_at_call 113
 refine((k1.out _).mono ?_);rintro r1 w1 ⟨rfl,av⟩
 go_wp2_with fail
 go_at_call 113
 refine((k2.out _).mono ?_);rintro r2 w2 ⟨rfl,aE⟩
 go_wp2_with fail
 go_at_call 113
 refine((k3.out _).mono ?_);rintro r3 w3 ⟨rfl,bj⟩
 go_wp2_with fail
 refine HQ.out _ _ ?_ ?_ ?_ ?_ ((av.trans (aE.mono av.size)).trans (bj.mono (Nat.le_trans av.size aE.size)))
 ·simp only[Array.size_setIfInBounds];exact hs
 ·rfl
 ·intro k hk
  simp(disch:=exact Kn k hk _ (by decide)) only[Array.getElem?_setIfInBounds_ne]
 ·refine⟨?_,?_,?_,?_,?_,?_,?_,?_⟩<;>(simp(disch:=decide) only[Array.getElem?_setIfInBounds_ne];rw[Array.getElem?_setIfInBounds_self_of_lt (by simp only[Array.size_setIfInBounds];rw[hs];decide)])
attribute [local go_sem ↓] Go.wp_at_zero Go.wp_at_succ
theorem Qs:vW Tryz.f67.body=.seq (dn1 (vW Tryz.f67.body)) (.seq (.block 9 (.seq (dn1 (Ig Tryz.f67.body)) (dn2 (Ig Tryz.f67.body)))) (dn2 (dn2 (vW Tryz.f67.body)))):=by kernel_rfl
def rN (A A':Act):Prop:=∀k,(k<15\/(25<k/\k<185)\/249<k)->A'.tmps[k]? =A.tmps[k]?
theorem rN.trans {A B C:Act} (h:rN A B) (k:rN B C):rN A C:=fun i hi=>(k i hi).trans (h i hi)
def Gc (A:Act):Nat:=(intOf ((A.tmps[23]?).getD (.bool false))).toNat
theorem GP {A:Act} {i:Nat} (h:A.tmps[23]? =some (.int .i64 (i:Int))):Gc A=i:=by unfold Gc;rw[h];rfl
def L5I (A0:Act) (w0:World) (aP:List UInt32) (bb:List UInt8) (h:Lz.St8 UInt32) (A:Act) (w:World):Prop:=∃i:Nat,i<=64/\A.tmps.size=323/\A.defers=A0.defers/\rN A0 A/\A.tmps[23]? =some (.int .i64 (i:Int))/\uy A (Lz.eT aP bb h i)/\Below w0.heap.size w0 w
theorem uy.kept {A B:Act} {s:Lz.St8 UInt32} (h:uy A s) (k:∀j,15<=j->j<=22->B.tmps[j]? =A.tmps[j]?):uy B s:=by
 obtain⟨a,b,c,d,e,f,g,z⟩:=h;exact⟨(k 15 (by decide) (by decide)).trans a,(k 16 (by decide) (by decide)).trans b,(k 17 (by decide) (by decide)).trans c,(k 18 (by decide) (by decide)).trans d,(k 19 (by decide) (by decide)).trans e,(k 20 (by decide) (by decide)).trans f,(k 21 (by decide) (by decide)).trans g,(k 22 (by decide) (by decide)).trans z⟩
theorem Vc (A:Act) (w:World) (Q:Exit->Act->World->Prop) (i:Nat) (hi:i<64) (hs:A.tmps.size=323) (t23:A.tmps[23]? =some (.int .i64 (i:Int)))
  (hQ:∀A',A'.tmps.size=323->A'.defers=A.defers->eI 23 187 188 A A'->A'.tmps[23]? =some (.int .i64 ((i+1:Nat):Int))->Q .normal A' w):
  Code.wp Tryz.prog (dn2 (dn2 (vW Tryz.f67.body))) Q A w:=by
 obtain⟨b23,e23⟩:=ag t23;have f1:IntKind.i64.wrap ((i:Int)+1)=((i+1:Nat):Int):=by rw[IntWalk.i64_in _ (by omega)];omega
 have HQ:=Ih hQ;clear hQ f1
 conv=>arg 2;whnf
 go_wp2_with fail
 refine HQ.out _ ?_ ?_ ?_ ?_
 ·simp only[Array.size_setIfInBounds];exact hs
 ·rfl
 ·intro k hk cf
  simp(disch:=exact bf k hk cf _ (by decide)) only[Array.getElem?_setIfInBounds_ne]
 ·rw[Array.getElem?_setIfInBounds_self_of_lt (by simp only[Array.size_setIfInBounds];rw[hs];decide)];rw[show((i+1:Nat):Int)=(i:Int)+1 by omega]
theorem PR (A0:Act) (w0:World) (Q:Exit->Act->World->Prop) (aP:List UInt32) (bb:List UInt8) (h:Lz.St8 UInt32) (g4 c4 g c:Nat)
  (hs:A0.tmps.size=323) (t4:A0.tmps[4]? =some (.slice (some ⟨g4,0,none⟩) 64 c4)) (t10:A0.tmps[10]? =some (.slice (some ⟨g,0,none⟩) 64 c)) (t23:A0.tmps[23]? =some (.int .i64 0)) (h8:uy A0 h)
  (sR:∀i,i<64->w0.cell? ⟨g4,i,none⟩=some (.int .u32 (N32 (aP.getD i 0)))) (hc:∀i,i<64->w0.cell? ⟨g,i,none⟩=some (.int .u32 (N32 ((Lz.bu bb 64).getD i 0))))
  (ak:∀c a a' w,Q (.panic c) a w->Q (.panic c) a' w)
  (hQ:∀A' w',A'.tmps.size=323->A'.defers=A0.defers->rN A0 A'->uy A' (Lz.eT aP bb h 64)->Below w0.heap.size w0 w'->Q .normal A' w'):
  Code.wp Tryz.prog (.block 8 (.loop (vW Tryz.f67.body))) Q A0 w0:=by
 refine wp_block (wp_loop (L5I A0 w0 aP bb h) (fun a _=>64-Gc a) ⟨0,by decide,hs,rfl,fun _ _=>rfl,t23,h8,Below.refl _ _⟩ ?_);rintro A w ⟨i,hi,hs,hd,hk,t23,h8,aC⟩;have t4:=(hk 4 (by decide)).trans t4;have t10:=(hk 10 (by decide)).trans t10;obtain⟨b23,e23⟩:=ag t23;have HI:Hid (∀A' w',L5I A0 w0 aP bb h A' w'->64-Gc A'<64-Gc A->Exit.then (fun a' w'=>L5I A0 w0 aP bb h a' w'/\64-Gc a'<64-Gc A) (Exit.inBlock 8 Q) .normal A' w'):=Ih (fun A' w' h1 h2=>⟨h1,h2⟩);have qH:=Ih ak;have HQ:=Ih hQ;have M:=GP t23;have yZ:=Ih sR;have HC:=Ih hc;clear sR hc hQ ak;rw[Qs];refine wp_seq ?_
 conv=>arg 2;whnf
 go_wp2_with fail
 by_cases aL:i<64
 ·have aK:(i:Int)<64:=by omega
  refine wp_cond_true (by simp[Act.eval,hs,aK]) ?_;refine aw (fun A1 bc=>?_);have g0:A1.tmps.size=323:=by rw[bc];simp only[Array.size_setIfInBounds];exact hs
  have K1:∀k,k≠185->k≠186->A1.tmps[k]? =A.tmps[k]? :=fun k hk cf=>by
   rw[bc];simp(disch:=first |exact hk.symm|exact cf.symm) only[Array.getElem?_setIfInBounds_ne]
  have D1:A1.defers=A0.defers:=by rw[bc]
  clear bc e23 aK;have g4':=(K1 4 (by decide) (by decide)).trans t4;have om:=(K1 10 (by decide) (by decide)).trans t10;have R7:=(K1 23 (by decide) (by decide)).trans t23;have g8:=h8.kept (fun j h1 h2=>K1 j (by omega) (by omega));have HK:rN A0 A1:=hk.trans (fun k hk=>K1 k (by omega) (by omega));have kO:∀p:Addr,p.block<w0.heap.size->w.cell? p=w0.cell? p:=fun p hp=>aC.cell hp;have d4:=(kO ⟨g4,i,none⟩ (World.block_lt_of_cell? _ _ (yZ.out i aL))).trans (yZ.out i aL);have ZE:=(kO ⟨g,i,none⟩ (World.block_lt_of_cell? _ _ (HC.out i aL))).trans (HC.out i aL);clear K1 hk t4 t10 t23 h8 kO
  go_wp2_with fail
  refine Qy A1 w _ _ (aP.getD i 0) ((Lz.bu bb 64).getD i 0) g4 64 c4 g 64 c i g0 g4' om R7 g8 (by omega) (by omega) d4 ZE (fun c a a' w h=>qH.out c a a' w h) (fun A2 w2 z2 d2 k2 r2 b2=>?_)
  go_wp2_with fail
  refine PC A2 w2 _ _ _ z2 (g8.kept (fun j h1 h2=>k2 j (by omega) (by omega))) r2 (fun A3 w3 z3 d3 k3 r3 b3=>?_)
  go_wp2_with fail
  refine Vc A3 w3 _ i aL z3 ((k3 23 (by decide)).trans ((k2 23 (by decide) (by decide)).trans R7)) (fun A4 z4 d4 k4 r4=>?_);exact HI.out A4 w3 ⟨i+1,by omega,z4,d4.trans (d3.trans (d2.trans D1)),HK.trans (fun k hk=>(k4 k (by omega) (by omega)).trans ((k3 k (by omega)).trans (k2 k (by omega) (by omega)))),r4,r3.kept (fun j h1 h2=>k4 j (by omega) (by omega)),(aC.trans (b2.mono aC.size)).trans (b3.mono (Nat.le_trans aC.size b2.size))⟩ (by rw[GP r4,M];omega)
 ·have aK:¬((i:Int)<64):=by omega
  obtain rfl:i=64:=by omega
  refine wp_cond_false (by simp[Act.eval,hs]) ?_;refine aw (fun A1 bc=>?_);have g0:A1.tmps.size=323:=by rw[bc];simp only[Array.size_setIfInBounds];exact hs
  have K1:∀k,k≠185->k≠186->A1.tmps[k]? =A.tmps[k]? :=fun k hk cf=>by
   rw[bc];simp(disch:=first |exact hk.symm|exact cf.symm) only[Array.getElem?_setIfInBounds_ne]
  have D1:A1.defers=A0.defers:=by rw[bc]
  clear bc e23 aK;have HK:rN A0 A1:=hk.trans (fun k hk=>K1 k (by omega) (by omega));have g8:=h8.kept (fun j h1 h2=>K1 j (by omega) (by omega))
  go_wp2_with fail
  exact HQ.out A1 w g0 D1 HK g8 aC
attribute [local go_sem ↓] Go.wp_at_zero Go.wp_at_succ
theorem F6 (w:World) (s:Lz.St8 UInt32):fG (w.alloc (.cells #[.int .u32 (N32 s.a),.int .u32 (N32 s.b),.int .u32 (N32 s.c),.int .u32 (N32 s.d),.int .u32 (N32 s.e),.int .u32 (N32 s.f),.int .u32 (N32 s.g),.int .u32 (N32 s.z)] 123)) w.heap.size s:=
 ⟨rowAt (an w _) 0 _ rfl,rowAt (an w _) 1 _ rfl,rowAt (an w _) 2 _ rfl,rowAt (an w _) 3 _ rfl,rowAt (an w _) 4 _ rfl,rowAt (an w _) 5 _ rfl,rowAt (an w _) 6 _ rfl,rowAt (an w _) 7 _ rfl⟩
theorem Qr (A:Act) (w:World) (Q:Exit->Act->World->Prop) (p q:Lz.St8 UInt32) (g c:Nat)
  (hs:A.tmps.size=323) (t6:A.tmps[6]? =some (.slice (some ⟨g,0,none⟩) 8 c)) (hc:fG w g p) (h8:uy A q)
  (ak:∀c a a' w,Q (.panic c) a w->Q (.panic c) a' w)
  (hQ:∀A' w' G,A'.tmps.size=323->A'.defers=A.defers->eI 6 250 290 A A'->A'.tmps[6]? =some (.slice (some ⟨G,0,none⟩) 8 8)->fG w' G (Lz.xc p q)->Below w.heap.size w w'->Q .normal A' w'):
  Code.wp Tryz.prog (dn2 (dn2 (dn2 (dn2 (uh Tryz.f67.body))))) Q A w:=by
 obtain⟨b6,e6⟩:=ag t6;obtain⟨c0,c1,c2,c3,c4,c5,c6,c7⟩:=hc;obtain⟨t15,t16,t17,t18,t19,t20,t21,t22⟩:=h8;obtain⟨b15,e15⟩:=ag t15;obtain⟨b16,e16⟩:=ag t16;obtain⟨b17,e17⟩:=ag t17;obtain⟨b18,e18⟩:=ag t18;obtain⟨b19,e19⟩:=ag t19;obtain⟨b20,e20⟩:=ag t20;obtain⟨ZO,e21⟩:=ag t21;obtain⟨ZX,e22⟩:=ag t22;have oa:=jx p.a q.a;have ob:=jx p.b q.b;have oc:=jx p.c q.c;have od:=jx p.d q.d;have oe:=jx p.e q.e;have of:=jx p.f q.f;have og:=jx p.g q.g;have oz:=jx p.z q.z;have HQ:=Ih hQ;clear t6 hQ t15 t16 t17 t18 t19 t20 t21 t22
 conv=>arg 2;whnf
 refine wp_region_held_drew (S:=fun V=>Below w.heap.size w V) (by kernel_rfl) (Below.refl _ w).drew (fun af=>?_);generalize w.drew=W0 at af⊢;apply TkE ak 0 250;apply TkE ak 1 251;apply TkE ak 2 252;apply TkE ak 3 253;apply TkE ak 4 254;apply TkE ak 5 255;apply TkE ak 6 256;apply TkE ak 7 257
 iterate 8 (rotate_right 2;(·(intro W ar;(try dsimp only at ar);have d0:=(ar.cell (World.block_lt_of_cell? _ _ c0)).trans c0;have d1:=(ar.cell (World.block_lt_of_cell? _ _ c1)).trans c1;have d2:=(ar.cell (World.block_lt_of_cell? _ _ c2)).trans c2;have d3:=(ar.cell (World.block_lt_of_cell? _ _ c3)).trans c3;have d4:=(ar.cell (World.block_lt_of_cell? _ _ c4)).trans c4;have d5:=(ar.cell (World.block_lt_of_cell? _ _ c5)).trans c5;have d6:=(ar.cell (World.block_lt_of_cell? _ _ c6)).trans c6;have d7:=(ar.cell (World.block_lt_of_cell? _ _ c7)).trans c7;(try simp only[Act.put]);go_simp;try with_reducible rfl)))
 (try simp only[Act.put])
 apply TkE ak 8 258;apply TkE ak 9 259;apply TkE ak 10 260;apply TkE ak 11 261;apply TkE ak 12 262;apply TkE ak 13 263;apply TkE ak 14 264;apply TkE ak 15 265
 iterate 8 (rotate_right 2;(·(intro W ar;(try dsimp only at ar);have d0:=(ar.cell (World.block_lt_of_cell? _ _ c0)).trans c0;have d1:=(ar.cell (World.block_lt_of_cell? _ _ c1)).trans c1;have d2:=(ar.cell (World.block_lt_of_cell? _ _ c2)).trans c2;have d3:=(ar.cell (World.block_lt_of_cell? _ _ c3)).trans c3;have d4:=(ar.cell (World.block_lt_of_cell? _ _ c4)).trans c4;have d5:=(ar.cell (World.block_lt_of_cell? _ _ c5)).trans c5;have d6:=(ar.cell (World.block_lt_of_cell? _ _ c6)).trans c6;have d7:=(ar.cell (World.block_lt_of_cell? _ _ c7)).trans c7;(try simp only[Act.put]);go_simp;try with_reducible rfl)))
 (try simp only[Act.put])
 apply TkE ak 16 266;apply TkE ak 17 267;apply TkE ak 18 268;apply TkE ak 19 269;apply TkE ak 20 270;apply TkE ak 21 271;apply TkE ak 22 272;apply TkE ak 23 273
 iterate 8 (rotate_right 2;(·(intro W ar;(try dsimp only at ar);have d0:=(ar.cell (World.block_lt_of_cell? _ _ c0)).trans c0;have d1:=(ar.cell (World.block_lt_of_cell? _ _ c1)).trans c1;have d2:=(ar.cell (World.block_lt_of_cell? _ _ c2)).trans c2;have d3:=(ar.cell (World.block_lt_of_cell? _ _ c3)).trans c3;have d4:=(ar.cell (World.block_lt_of_cell? _ _ c4)).trans c4;have d5:=(ar.cell (World.block_lt_of_cell? _ _ c5)).trans c5;have d6:=(ar.cell (World.block_lt_of_cell? _ _ c6)).trans c6;have d7:=(ar.cell (World.block_lt_of_cell? _ _ c7)).trans c7;(try simp only[Act.put]);go_simp;try with_reducible rfl)))
 (try simp only[Act.put])
 apply TkE ak 24 274;apply TkE ak 25 275;apply TkE ak 26 276;apply TkE ak 27 277;apply TkE ak 28 278;apply TkE ak 29 279;apply TkE ak 30 280;apply TkE ak 31 281
 iterate 8 (rotate_right 2;(·(intro W ar;(try dsimp only at ar);have d0:=(ar.cell (World.block_lt_of_cell? _ _ c0)).trans c0;have d1:=(ar.cell (World.block_lt_of_cell? _ _ c1)).trans c1;have d2:=(ar.cell (World.block_lt_of_cell? _ _ c2)).trans c2;have d3:=(ar.cell (World.block_lt_of_cell? _ _ c3)).trans c3;have d4:=(ar.cell (World.block_lt_of_cell? _ _ c4)).trans c4;have d5:=(ar.cell (World.block_lt_of_cell? _ _ c5)).trans c5;have d6:=(ar.cell (World.block_lt_of_cell? _ _ c6)).trans c6;have d7:=(ar.cell (World.block_lt_of_cell? _ _ c7)).trans c7;(try simp only[Act.put]);go_simp;try with_reducible rfl)))
 (try simp only[Act.put])
 apply TkE ak 32 282;apply TkE ak 33 283;apply TkE ak 34 284;apply TkE ak 35 285;apply TkE ak 36 286;apply TkE ak 37 287;apply TkE ak 38 288;apply TkE ak 39 289
 iterate 8 (rotate_right 2;(·(intro W ar;(try dsimp only at ar);have d0:=(ar.cell (World.block_lt_of_cell? _ _ c0)).trans c0;have d1:=(ar.cell (World.block_lt_of_cell? _ _ c1)).trans c1;have d2:=(ar.cell (World.block_lt_of_cell? _ _ c2)).trans c2;have d3:=(ar.cell (World.block_lt_of_cell? _ _ c3)).trans c3;have d4:=(ar.cell (World.block_lt_of_cell? _ _ c4)).trans c4;have d5:=(ar.cell (World.block_lt_of_cell? _ _ c5)).trans c5;have d6:=(ar.cell (World.block_lt_of_cell? _ _ c6)).trans c6;have d7:=(ar.cell (World.block_lt_of_cell? _ _ c7)).trans c7;(try simp only[Act.put]);go_simp;try with_reducible rfl)))
 (try simp only[Act.put])
 refine wpAnyH_ready (rs:=[40]) (by kernel_rfl) (by simp) ?_;refine AllReadyH.cons rfl (fun K hK=>?_) AllReadyH.nil;go_simp;refine hK.out _ _ (af.alloc af.size _) (fun af=>?_);clear hK K
 (try simp only[Act.put])
 apply TkE ak 41 6
 iterate 1 (rotate_right 2;(·(intro W ar;(try dsimp only at ar);(try simp only[Act.put]);go_simp;try with_reducible rfl)))
 (try simp only[Act.put])
 refine wpAnyH_done (by kernel_rfl) ?_ _
 go_wp2_with fail
 refine HQ.out _ _ W0.heap.size ?_ ?_ ?_ ?_ (F6 W0 (Lz.xc p q)) af
 ·simp only[Array.size_setIfInBounds];exact hs
 ·rfl
 ·intro k hk cf
  simp(disch:=exact bf k hk cf _ (by decide)) only[Array.getElem?_setIfInBounds_ne]
 ·rw[Array.getElem?_setIfInBounds_self_of_lt (by simp only[Array.size_setIfInBounds];rw[hs];decide)]
attribute [local go_sem ↓] Go.wp_at_zero Go.wp_at_succ
theorem zY (a b c d:UInt8) (W:World) (B:Nat) (h0:W.cell? ⟨B,0,none⟩=some (.int .u8 a.toNat)) (h1:W.cell? ⟨B,1,none⟩=some (.int .u8 b.toNat)) (h2:W.cell? ⟨B,2,none⟩=some (.int .u8 c.toNat)) (h3:W.cell? ⟨B,3,none⟩=some (.int .u8 d.toNat)):(convert 93 9 (.slice (some ⟨B,0,none⟩) 4 4)).run Tryz.prog W=.ok (.string ⟨#[a,b,c,d]⟩) W:=
 run_convert_bytes_back (P:=Tryz.prog) W 93 9 5 ⟨B,0,none⟩ 4 [a,b,c,d] Tryz.underlying93 Tryz.underlying5 Tryz.underlying9 (by
  intro j hj
  match j,hj with
  | 0,_=>rw[bD];exact h0
  | 1,_=>rw[bD];exact h1
  | 2,_=>rw[bD];exact h2
  | 3,_=>rw[bD];exact h3)
theorem Ej {md:Region.Mode} {ops:Array Oper} {Q:Exit->Act->World->Prop} {S:World->Prop} {fuel:Nat} {listed:Array Bool} {a:Act} {w:World} {i:Nat} {o:Oper} (x:Operand) (ho:ops[i]? =some o) (hop:o.op=.convert 93 9 x) (hg:o.guard=none)
  (dst:Option Nat) (hd:o.dst=dst) (v out:Value) (hs:a.eval x=v) (hr:(convert 93 9 v).run Tryz.prog w=.ok out w) (hS:S w)
  (h:S w->wpAnyH Tryz.prog md ops Q S fuel (listed.setIfInBounds i true) (a.put dst out) w):AllReadyH Tryz.prog md ops Q S fuel listed a w [i]:=by
 refine AllReadyH.cons ho (fun K hK=>?_) AllReadyH.nil;rw[if_pos (by unfold Region.wanted;rw[hg])];subst hd;unfold Oper.wp execOp;rw[hop]
 dsimp only
 simp only[Sem.run_bind,hs,hr,Result.andThen_ok,Sem.run_pure];exact hK.out _ _ hS h
theorem Qe (y:UInt32):IntKind.u8.wrap (N32 y)=(y.toUInt8.toNat:Int):=by
 show N32 y%256=_;unfold N32;rw[UInt32.toNat_toUInt8];omega
def ug (b:Option Code):Code:=dnl (dnb (dn2 (dn1 (dn2 (dn2 (dn2 (dn2 (dn2 (dn2 (dn2 (dn2 (dn2 (dno b)))))))))))))
def N4 (b:Option Code):Code:=dnb (dn1 (dn2 (ug b)))
theorem QP (A:Act) (w:World) (Q:Exit->Act->World->Prop) (x:UInt32) (r:ByteArray) (g L c i:Nat)
  (hr:r.size<=1000) (hs:A.tmps.size=323) (t6:A.tmps[6]? =some (.slice (some ⟨g,0,none⟩) L c)) (t26:A.tmps[26]? =some (.string r)) (t27:A.tmps[27]? =some (.int .i64 (i:Int)))
  (q:(0:Int)<=(i:Int)/\(i:Int)<(L:Int)) (hc:w.cell? ⟨g,i,none⟩=some (.int .u32 (N32 x)))
  (ak:∀c a a' w,Q (.panic c) a w->Q (.panic c) a' w)
  (hQ:∀A' w',A'.tmps.size=323->A'.defers=A.defers->eI 26 295 321 A A'->A'.tmps[26]? =some (.string (r++⟨(Lz.ik x).toArray⟩))->Below w.heap.size w w'->Q .normal A' w'):
  Code.wp Tryz.prog (N4 Tryz.f67.body) Q A w:=by
 obtain⟨b6,e6⟩:=ag t6;obtain⟨b26,e26⟩:=ag t26;obtain⟨b27,e27⟩:=ag t27;have s24:N32 x / (16777216:Int)=N32 (x>>>24):=sZ x 24 (by omega);have s16:N32 x / (65536:Int)=N32 (x>>>16):=sZ x 16 (by omega);have s8:N32 x / (256:Int)=N32 (x>>>8):=sZ x 8 (by omega);have l24:=Qe (x>>>24);have l16:=Qe (x>>>16);have l8:=Qe (x>>>8);have l0:=Qe x;obtain⟨k0,AI⟩:∃k,k=(x>>>24).toUInt8:=⟨_,rfl⟩;obtain⟨k1,tM⟩:∃k,k=(x>>>16).toUInt8:=⟨_,rfl⟩;obtain⟨k2,cf⟩:∃k,k=(x>>>8).toUInt8:=⟨_,rfl⟩;obtain⟨k3,TW⟩:∃k,k=x.toUInt8:=⟨_,rfl⟩;have HB:Hid (Lz.ik x=[k0,k1,k2,k3]):=Ih (by rw[AI,tM,cf,TW];rfl);rw[<-AI]at l24;rw[<-tM]at l16;rw[<-cf]at l8;rw[<-TW]at l0;have Xi:¬(9223372036854775807<r.size+4):=by omega
 have HQ:=Ih hQ;clear t6 t26 t27 hQ AI tM cf TW
 conv=>arg 2;whnf
 refine wp_region_held_drew (S:=fun V=>Below w.heap.size w V) (by kernel_rfl) (Below.refl _ w).drew (fun af=>?_);generalize w.drew=W0 at af⊢;apply TkE ak 0 295;apply TkE ak 1 296;apply TkE ak 2 297;apply TkE ak 3 298;apply TkE ak 4 299;apply TkE ak 5 300;apply TkE ak 6 301;apply TkE ak 7 302
 iterate 8 (rotate_right 2;(·(intro W ar;(try dsimp only at ar);have d0:=(ar.cell (World.block_lt_of_cell? _ _ hc)).trans hc;(try simp only[Act.put]);go_simp;try with_reducible rfl)))
 (try simp only[Act.put])
 apply TkE ak 8 303;apply TkE ak 9 304;apply TkE ak 10 305;apply TkE ak 11 306;apply TkE ak 12 307;apply TkE ak 13 308;apply TkE ak 14 309;apply TkE ak 15 310
 iterate 8 (rotate_right 2;(·(intro W ar;(try dsimp only at ar);have d0:=(ar.cell (World.block_lt_of_cell? _ _ hc)).trans hc;(try simp only[Act.put]);go_simp;try with_reducible rfl)))
 (try simp only[Act.put])
 apply TkE ak 16 311;apply TkE ak 17 312;apply TkE ak 18 313;apply TkE ak 19 314;apply TkE ak 20 315;apply TkE ak 21 316;apply TkE ak 22 317;apply TkE ak 23 318
 iterate 8 (rotate_right 2;(·(intro W ar;(try dsimp only at ar);have d0:=(ar.cell (World.block_lt_of_cell? _ _ hc)).trans hc;(try simp only[Act.put]);go_simp;try with_reducible rfl)))
 (try simp only[Act.put])
 refine wpAnyH_ready (rs:=[24]) (by kernel_rfl) (by simp) ?_;refine AllReadyH.cons rfl (fun K hK=>?_) AllReadyH.nil;go_simp;refine hK.out _ _ (af.alloc af.size _) (fun af=>?_);clear hK K
 (try simp only[Act.put])
 have kL:=zY k0 k1 k2 k3 (W0.alloc (.cells #[.int .u8 (k0.toNat:Int),.int .u8 (k1.toNat:Int),.int .u8 (k2.toNat:Int),.int .u8 (k3.toNat:Int)] 5)) W0.heap.size (rowAt (an _ _) 0 _ rfl) (rowAt (an _ _) 1 _ rfl) (rowAt (an _ _) 2 _ rfl) (rowAt (an _ _) 3 _ rfl);refine wpAnyH_ready (rs:=[25]) (by kernel_rfl) (by simp) (Ej (.tmp 319) rfl rfl rfl (some 320) rfl _ _ ?_ kL af (fun af=>?_))
 ·simp[Act.eval,hs]
 clear kL
 (try simp only[Act.put])
 apply TkE ak 26 321;apply TkE ak 27 26
 iterate 2 (rotate_right 2;(·(intro W ar;(try dsimp only at ar);(try simp only[Act.put]);go_simp;try with_reducible rfl)))
 (try simp only[Act.put])
 refine wpAnyH_done (by kernel_rfl) ?_ _
 go_wp2_with fail
 refine HQ.out _ _ ?_ ?_ ?_ ?_ af
 ·simp only[Array.size_setIfInBounds];exact hs
 ·rfl
 ·intro k hk cf
  simp(disch:=exact bf k hk cf _ (by decide)) only[Array.getElem?_setIfInBounds_ne]
 ·rw[Array.getElem?_setIfInBounds_self_of_lt (by simp only[Array.size_setIfInBounds];rw[hs];decide)];rw[HB.out];try rfl
end Go.Proofs.YtibcmemcfjhgmaaGreatDoor
