/-
  lazaretref05: rows of numbers of 64 bits; roots.
-/
import Derived.Test.YtibcmemcfjhgmaaGreatDoorV19
import Derived.Test.YtibcmemcfjhgmaaGreatDoorV22
set_option maxHeartbeats 8000000
set_option maxRecDepth 100000
namespace Lz
open Go
def i3:Bs:=[117,110,115,97,102,101,45,105,110,108,105,110,101]
def fW:Bs:=[115,116,114,105,99,116,45,100,121,110,97,109,105,99]
def fX:Bs:=[117,110,115,97,102,101,45,104,97,115,104,101,115]
def kwS (n:Bs) (x:Src):Bool:=x.kind==1&&x.text==n
def lc (l:List Src) (n:Bs):Bool:=l.any (kwS n)
def qs (kind:Int) (x:Src):Bool:=x.kind==4||(x.kind==5||(kwS fW x&&decide (kind<4)))
def kA (kind:Int) (vs:List Bs):Bool:= !((aM vs).any (qs kind))&&lc (aM vs) i3
def dQ (vs:List Bs) (n:Bs):Bool:=n != []&&(aM vs).any fun x=>x.kind==4&&x.text==n
def gI (c:UInt8):UInt8:=if c=45 then 43 else if c=95 then 47 else c
def bd (l:Bs):Bs:=l.map gI
def gl (sum:Int->Bs->Bs) (vs:List Bs) (t:Bs):Bool:=(aM vs).any fun x=>x.kind==5&&bd x.text==sum x.bits t
def vU (kind:Int):Bool:=kind==1||kind==4
def cw (sum:Int->Bs->Bs) (kind:Int) (vs:List Bs) (n t:Bs):Bool:=
 if kind<1\/5<kind\/eQ vs=true then false
 else if(kA kind vs||(vU kind&&dQ vs n))=true then true
 else(vU kind||lc (aM vs) fX)&&gl sum vs t
def qj (c:UInt8):Bool:=c==32||c==9||c==10||c==12||c==13
def jb (w:Bs):Option Src:=
 match a8 (39::(w.takeWhile (·!= 63)++[39]))with
 | some x=>if x.kind=5 then some x else none
 | none=>none
def kZ (jj:Bs->List Bs) (s:Bs):List Src:=(jj s).filterMap jb
def lh (x y:Src):Bool:=y.kind==5&&(y.bits==x.bits&&bd y.text==bd x.text)
def fD (jj:Bs->List Bs) (vs:List Bs) (s:Bs):Bool:=(kZ jj s).all (fun x=>(aM vs).any (lh x))&& !(kZ jj s).isEmpty
def oR (jj:Bs->List Bs) (vs:List Bs) (u own:au) (n s:Bs):Bool:=
 if eQ vs=true then false
 else if(dQ vs n||fD jj vs s)=true then true
 else if lc (aM vs) fW=true then false
 else anyM u vs own false
def b64:Bs:=[65,66,67,68,69,70,71,72,73,74,75,76,77,78,79,80,81,82,83,84,85,86,87,88,89,90,97,98,99,100,101,102,103,104,105,106,107,108,109,110,111,112,113,114,115,116,117,118,119,120,121,122,48,49,50,51,52,53,54,55,56,57,43,47]
def bA (n:Nat):UInt8:=b64.getD (n%64) 0
def dD (n k:Nat):Bs:=[bA (n / 262144),bA (n / 4096),if 2<=k then bA (n / 64)else 61,if 3<=k then bA n else 61]
def bR:Bs->Bs
 | []=>[]
 | [a]=>dD (a.toNat*65536) 1
 | [a,b]=>dD (a.toNat*65536+b.toNat*256) 2
 | a::b::c::r=>dD (a.toNat*65536+b.toNat*256+c.toNat) 3++bR r
def tw (c:UInt8):Bool:=ea c&&(c != 45&&c != 95)
theorem lf (n:Nat):tw (bA n)=true:=by
 unfold bA;have h:=Nat.mod_lt n (show 64>0 by decide);generalize n%64=k at h;exact(by decide +kernel:∀k:Fin 64,tw (b64.getD k.val 0)=true) ⟨k,h⟩
theorem pg:∀s:Bs,∃v e:Bs,bR s=v++e/\(∀c∈v,tw c=true)/\(s≠[]->v≠[])/\(e=[]\/e=[61]\/e=[61,61])
 | []=>⟨[],[],rfl,by simp,by simp,Or.inl rfl⟩
 | [a]=>⟨[bA (a.toNat*65536 / 262144),bA (a.toNat*65536 / 4096)],[61,61],rfl,by
  intro c hc;simp only[List.mem_cons,List.not_mem_nil,or_false]at hc;rcases hc with rfl|rfl<;>exact lf _,by simp,Or.inr (Or.inr rfl)⟩
 | [a,b]=>⟨[bA ((a.toNat*65536+b.toNat*256) / 262144),bA ((a.toNat*65536+b.toNat*256) / 4096),bA ((a.toNat*65536+b.toNat*256) / 64)],[61],rfl,by
  intro c hc;simp only[List.mem_cons,List.not_mem_nil,or_false]at hc;rcases hc with rfl|rfl|rfl<;>exact lf _,by simp,Or.inr (Or.inl rfl)⟩
 | a::b::c::r=>by
   obtain⟨v,e,h1,h2,h3,h4⟩:=pg r;refine⟨dD (a.toNat*65536+b.toNat*256+c.toNat) 3++v,e,?_,?_,?_,h4⟩
   ·rw[bR,h1,List.append_assoc]
   ·intro x hx;rcases List.mem_append.1 hx with hx|hx
    ·unfold dD at hx;simp only[List.mem_cons,List.not_mem_nil,or_false]at hx;rcases hx with rfl|rfl|rfl|rfl
     ·exact lf _
     ·exact lf _
     ·rw[if_pos (by omega)];exact lf _
     ·rw[if_pos (by omega)];exact lf _
    ·exact h2 x hx
   ·intro _;simp[dD]
theorem qQ:∀s:Bs,(bR s).length<=4*s.length+4
 | []=>by simp[bR]
 | [a]=>by simp[bR,dD]
 | [a,b]=>by simp[bR,dD]
 | a::b::c::r=>by
   have:=qQ r
   simp[bR,dD];omega
theorem zz (v:Bs) (h:∀c∈v,c≠61) (n:Nat):Lib.trimRightB (v++List.replicate n 61) 61=v:=by
 have:=Lib.trimRightB_take (v++List.replicate n 61) 61 v.length (by simp) (by
  intro j b hj hb;rw[List.getElem?_append_right hj]at hb;have:=List.mem_of_getElem? hb;exact(List.mem_replicate.1 this).2) (by
  intro b h0 hb;rw[List.getElem?_append_left (by omega)]at hb;exact h b (List.mem_of_getElem? hb))
 rw[this];simp
theorem Kb (v e:Bs) (h:∀c∈v,ea c=true) (hn:v≠[]) (he:e=[]\/e=[61]\/e=[61,61]):dF (v++e)=true:=by
 have h61:∀c∈v,c≠61:=fun c hc=>Cy (h c hc)
 have hv:dj ea v=true:=by
  unfold dj;rw[List.all_eq_true.2 h];cases v with
  | nil=>exact absurd rfl hn
  | cons _ _=>rfl
 have hr:∃n,n<=2/\e=List.replicate n 61:=by
  rcases he with rfl|rfl|rfl
  ·exact⟨0,by omega,rfl⟩
  ·exact⟨1,by omega,rfl⟩
  ·exact⟨2,by omega,rfl⟩
 obtain⟨n,y6,rfl⟩:=hr;unfold dF;rw[zz v h61 n,hv]
 simp;omega
def LV (c:UInt8):UInt8:=if c=43 then 45 else if c=47 then 95 else c
theorem pT:∀c:UInt8,tw c=true->ea (LV c)=true/\gI (LV c)=c/\gI c=c/\ea c=true:=aA (by decide +kernel)
theorem yG (s:Bs):bd (bR s)=bR s:=by
 obtain⟨v,e,h1,h2,_,h4⟩:=pg s;rw[h1];unfold bd;rw[List.map_append];congr 1
 ·conv=>rhs;rw[<-List.map_id v]
  exact List.map_congr_left fun c hc=>(pT c (h2 c hc)).2.2.1
 ·rcases h4 with rfl|rfl|rfl<;>rfl
theorem LR {s:Bs} (h:s≠[]):dF (bR s)=true:=by
 obtain⟨v,e,h1,h2,h3,h4⟩:=pg s;rw[h1];exact Kb v e (fun c hc=>(pT c (h2 c hc)).2.2.2) (h3 h) h4
def i2:Nat->Bs
 | 0=>[115,104,97,50,53,54,45]
 | 1=>[115,104,97,51,56,52,45]
 | _=>[115,104,97,53,49,50,45]
def im:Nat->Int
 | 0=>256
 | 1=>384
 | _=>512
theorem EH (k:Nat) (v:Bs) (h:dF v=true):a8 (39::(i2 k++v++[39]))=some (ig v (im k)):=by
 rw[show(39::(i2 k++v++[39]):Bs)=39::((i2 k++v)++[39]) by simp,FO]
 match k with
 | 0=>rw[show i2 0=[115,104,97,50,53,54,45]from rfl,MG _ v 256 (by simp) (by rw[D6];decide) rfl,if_pos h];rfl
 | 1=>rw[show i2 1=[115,104,97,51,56,52,45]from rfl,MG _ v 384 (by simp) (by rw[Ec];decide) rfl,if_pos h];rfl
 | n+2=>rw[show i2 (n+2)=[115,104,97,53,49,50,45]from rfl,MG _ v 512 (by simp) (by rw[EQ];decide) rfl,if_pos h];rfl
def mh (r:Bs):Nat->Nat
 | 0=>0
 | k+1=>mh r k*256+(r.getD k 0).toNat
theorem ID (r:Bs):∀k,mh r k<256^k
 | 0=>by simp[mh]
 | k+1=>by
   have h:=ID r k;have h2:=(r.getD k 0).toNat_lt;rw[mh,Nat.pow_succ];omega
def EL (r:Bs) (j:Nat):UInt8:=if r.length<j then 61 else bA (mh r 3 / 2^(18-6*j))
def lx (r:Bs) (j:Nat):Bs:=(List.range j).map (EL r)
theorem yy (r:Bs) (j:Nat):lx r (j+1)=lx r j++[EL r j]:=by
 unfold lx;rw[List.range_succ,List.map_append];rfl
theorem CM (r:Bs) (h:r≠[]):bR r=lx r 4++bR (r.drop 3):=by
 match r,h with
 | [a],_=>
   have e:mh [a] 3=a.toNat*65536:=by simp[mh];omega
   simp[bR,dD,lx,EL,e,List.range,List.range.loop]
 | [a,b],_=>
   have e:mh [a,b] 3=a.toNat*65536+b.toNat*256:=by simp[mh];omega
   simp[bR,dD,lx,EL,e,List.range,List.range.loop]
 | a::b::c::r,_=>
   have e:mh (a::b::c::r) 3=a.toNat*65536+b.toNat*256+c.toNat:=by simp[mh];omega
   have h2:¬(a::b::c::r).length<2:=by simp
   have h3:¬(a::b::c::r).length<3:=by simp
   have h1:¬(a::b::c::r).length<1:=by simp
   have h0:¬(a::b::c::r).length<0:=by simp
   rw[bR];unfold lx;simp only[List.range,List.range.loop,List.map_cons,List.map_nil];unfold EL;rw[if_neg h0,if_neg h1,if_neg h2,if_neg h3,e]
   simp[dD]
theorem pf:∀s:Bs,(bR s).length=(s.length+2) / 3*4
 | []=>rfl
 | [a]=>by simp[bR,dD]
 | [a,b]=>by simp[bR,dD]
 | a::b::c::r=>by
   have h:=pf r;rw[bR,List.length_append,h]
   simp[dD]
   omega
end Lz
namespace Go.Proofs.YtibcmemcfjhgmaaGreatDoor
open Go.RowKit
def Uq:ByteArray:=⟨#[65,66,67,68,69,70,71,72,73,74,75,76,77,78,79,80,81,82,83,84,85,86,87,88,89,90,97,98,99,100,101,102,103,104,105,106,107,108,109,110,111,112,113,114,115,116,117,118,119,120,121,122,48,49,50,51,52,53,54,55,56,57,43,47]⟩
theorem Qv:∀d:Fin 64,Uq[d.val]'(Nat.lt_of_lt_of_le d.isLt (by decide))=Lz.b64.getD d.val 0:=by decide +kernel
theorem Vq (d:Nat) (h:d<64) {h':d<Uq.size}:Uq[d]'h'=Lz.b64.getD d 0:=Qv ⟨d,h⟩
theorem UV (p c:Nat) (hp:p%256=0) (Ay:p<16777216) (hc:c<256):bits .or .u32 (p:Int) (c:Int)=((p+c:Nat):Int):=by
 have h:=Zp (UInt32.ofNat p) (UInt32.ofNat c);rw[UInt32.toNat_ofNat',UInt32.toNat_ofNat',Nat.mod_eq_of_lt (by omega),Nat.mod_eq_of_lt (by omega),UInt32.toNat_or,UInt32.toNat_ofNat',UInt32.toNat_ofNat',Nat.mod_eq_of_lt (by omega),Nat.mod_eq_of_lt (by omega)]at h;rw[h];obtain⟨q,rfl⟩:∃q,p=2^8*q:=⟨p / 256,by omega⟩;rw[Nat.two_pow_add_eq_or_of_lt hc]
theorem VC (x:Nat) (hx:x<4294967296):bits .and .u32 (x:Int) 63=((x%64:Nat):Int):=by
 have h:=Tj (UInt32.ofNat x) 63;rw[UInt32.toNat_ofNat',Nat.mod_eq_of_lt (by omega),UInt32.toNat_and,UInt32.toNat_ofNat',Nat.mod_eq_of_lt (by omega)]at h;rw[show((63:Int))=(((63:UInt32).toNat:Nat):Int) by rfl,h];rw[show(63:UInt32).toNat=2^6-1 by rfl,Nat.and_two_pow_sub_one_eq_mod]
theorem pS (s:ByteArray) (hs:s.size<=1073741824) (w:World):Calls Tryz.prog 52 #[.string s] w (dX (Lz.bR s.data.toList) w):=by
 have Xd:=Lib.fresh_isBuilder 103 5 w;have HS:=Ih hs;go_enter Tryz.func52,Tryz.ntmps52
 go_wp2_with fail
 go_loopw [0,4,5,6,7,15,31] (fun sv _ _ _ _ _ _ wr=>∃(r:ByteArray) (out:List UInt8),sv=.string r/\Hid (out++Lz.bR r.data.toList=Lz.bR s.data.toList)/\Lib.IsBuilder 103 5 w.heap.size w.heap.size (Lib.byteCells out) wr/\Below w.heap.size w wr) (fun sv _ _ _ _ _ _ _=>match sv with| .string r=>r.size|_=>0)
 case atStart=>exact⟨s,[],rfl,rfl,Xd,(Below.refl _ w).alloc (Nat.le_refl _) _⟩
 case round=>
  obtain⟨r,out,rfl,HO,hB,hb⟩:=hrel
  have aO:out.length+(r.size+2) / 3*4=(s.size+2) / 3*4:=by
   have:=congrArg List.length HO.out;rw[List.length_append,Lz.pf,Lz.pf,ac,ac]at this;exact this
  have fu:=HS.out;have Ls:out.length<=1500000000:=by omega
  clear aO fu;by_cases h0:0<r.size
  ·have du:r.toList.isEmpty=false:=lE h0
   go_wp2_with fail
   go_loop [4,5,15] (fun n _ k=>∃j:Nat,k=.int .i64 (j:Int)/\j<=3/\n=.int .u32 ((Lz.mh r.data.toList j:Nat):Int)) (fun _ _ k=>3-(intOf k).toNat)
   case atStart=>exact⟨0,rfl,by omega,rfl⟩
   case round=>
    obtain⟨j,rfl,hj,rfl⟩:=hrel;obtain⟨x,hx⟩:∃x,x=Lz.mh r.data.toList j:=⟨_,rfl⟩;have DH:=Lz.ID r.data.toList j;rw[<-hx]at DH⊢;by_cases aL:j<3
    ·have aK:(j:Int)<3:=by omega
     have tJ:x<65536:=by
      obtain rfl|rfl|rfl:j=0\/j=1\/j=2:=by omega
      all_goals omega
     obtain⟨y0,hy0⟩:∃y,y=x*256:=⟨_,rfl⟩;have fw:IntKind.u32.wrap ((x:Int)*256)=(y0:Int):=by rw[show(x:Int)*256=(y0:Int) by omega];exact IntWalk.u32_in _ (by omega)
     by_cases V7:j<r.size
     ·have hjI:(j:Int)<(r.size:Int):=by omega
      obtain⟨c,hc⟩:∃c,c=r[j]:=⟨_,rfl⟩;have kL:(r[j].toNat:Int)=(c.toNat:Int):=by rw[hc]
      have wB:=c.toNat_lt;have fc:IntKind.u32.wrap (c.toNat:Int)=(c.toNat:Int):=IntWalk.u32_in _ (by omega);obtain⟨y,hy⟩:∃y,y=y0+c.toNat:=⟨_,rfl⟩;have fo:bits .or .u32 (y0:Int) (c.toNat:Int)=(y:Int):=by rw[hy];exact UV y0 c.toNat (by omega) (by omega) (by omega)
      have HN:Hid (Lz.mh r.data.toList (j+1)=y):=by
       show _=_;rw[Lz.mh,<-hx,hy,hy0,hc,List.getD_eq_getElem?_getD,aB V7];rfl
      clear hx hc hy hy0
      go_wp2_with fail
      go_round
      case rel=>exact⟨j+1,by go_num,by omega,by rw[HN.out]⟩
      case measure=>simp[intOf];omega
     ·have hjI:¬(j:Int)<(r.size:Int):=by omega
      have HN:Hid (Lz.mh r.data.toList (j+1)=y0):=by
       show _=_;rw[Lz.mh,<-hx,hy0,List.getD_eq_getElem?_getD,List.getElem?_eq_none (by rw[ac];omega)];rfl
      clear hx hy0
      go_wp2_with fail
      go_round
      case rel=>exact⟨j+1,by go_num,by omega,by rw[HN.out]⟩
      case measure=>simp[intOf];omega
    ·obtain rfl:j=3:=by omega
     have Hx:=Ih hx;clear hx
     go_wp2_with fail
     go_loopw [6,7,31] (fun _ _ k wx=>∃j:Nat,k=.int .i64 (j:Int)/\j<=4/\Lib.IsBuilder 103 5 w.heap.size w.heap.size (Lib.byteCells (out++Lz.lx r.data.toList j)) wx/\Below w.heap.size w wx) (fun _ _ k _=>4-(intOf k).toNat)
     case atStart=>exact⟨0,rfl,by omega,by rw[show Lz.lx r.data.toList 0=[]from rfl,List.append_nil];exact hB,hb⟩
     case round=>
      obtain⟨j,rfl,hj,hB,hb⟩:=hrel;by_cases aL:j<4
      ·have aK:(j:Int)<4:=by omega
       have hEl:(Lz.lx r.data.toList j).length=j:=by unfold Lz.lx;rw[List.length_map,List.length_range]
       obtain⟨d,hd⟩:∃d,d=x / 2^(18-6*j)%64:=⟨_,rfl⟩;have aco:d<64:=by rw[hd];exact Nat.mod_lt _ (by decide)
       have hdI:(0:Int)<=(d:Int)/\(d:Int)<64:=by omega
       have fa:bits .and .u32 ((x:Int) / 2^(18-6*j)) 63=(d:Int):=by
        rw[hd,<-VC _ (Nat.lt_of_le_of_lt (Nat.div_le_self _ _) (by omega))]
        simp
       obtain⟨lt,tk⟩:∃c,c=Lz.b64.getD d 0:=⟨_,rfl⟩;have xx:∀h',(⟨#[65,66,67,68,69,70,71,72,73,74,75,76,77,78,79,80,81,82,83,84,85,86,87,88,89,90,97,98,99,100,101,102,103,104,105,106,107,108,109,110,111,112,113,114,115,116,117,118,119,120,121,122,48,49,50,51,52,53,54,55,56,57,43,47]⟩:ByteArray)[d]'h'=lt:=fun h'=>by rw[tk];exact Vq d aco
       have HC:Hid (lt=Lz.bA (Lz.mh r.data.toList 3 / 2^(18-6*j))):=by
        show _=_;rw[<-Hx.out,tk,hd];rfl
       clear hd tk;by_cases hgt:r.size<j
       ·have HE:Hid (Lz.lx r.data.toList (j+1)=Lz.lx r.data.toList j++[61]):=by
         show _=_;rw[Lz.yy];unfold Lz.EL;rw[if_pos (by rw[ac];exact hgt)]
        clear hdI
        go_wp2_with fail
        refine(gB w.heap.size w.heap.size _ _ wr hB (by simp[Lib.byteCells];omega) hb.size).mono ?_;rintro e w2 ⟨rfl,hm,aE⟩
        have tL:Lib.IsBuilder 103 5 w.heap.size w.heap.size (Lib.byteCells (out++Lz.lx r.data.toList (j+1))) w2:=by
         rw[HE.out,<-List.append_assoc,<-fN];exact hm
        have bj:=hb.trans aE;clear hm aE hB hb
        go_wp2_with fail
        go_roundw
        case rel=>exact⟨j+1,by go_num,by omega,tL,bj⟩
        case measure=>simp[intOf];omega
       ·have HE:Hid (Lz.lx r.data.toList (j+1)=Lz.lx r.data.toList j++[lt]):=by
         show _=_;rw[Lz.yy];unfold Lz.EL;rw[if_neg (by rw[ac];exact hgt)];rw[HC.out]
        clear HC
        go_wp2_with fail
        refine(gB w.heap.size w.heap.size _ _ wr hB (by simp[Lib.byteCells];omega) hb.size).mono ?_;rintro e w2 ⟨rfl,hm,aE⟩
        have tL:Lib.IsBuilder 103 5 w.heap.size w.heap.size (Lib.byteCells (out++Lz.lx r.data.toList (j+1))) w2:=by
         rw[HE.out,<-List.append_assoc,<-fN];exact hm
        have bj:=hb.trans aE;clear hm aE hB hb
        go_wp2_with fail
        go_roundw
        case rel=>exact⟨j+1,by go_num,by omega,tL,bj⟩
        case measure=>simp[intOf];omega
      ·obtain rfl:j=4:=by omega
       have hd3:(r.extract (min 3 (r.size:Int)).toNat r.size).data.toList=r.data.toList.drop 3:=by
        have hl:=ac r;by_cases h3:3<=r.size
        ·rw[show(min 3 (r.size:Int)).toNat=3 by omega]
         simp[ByteArray.data_extract]
         rw[List.take_of_length_le (by rw[List.length_drop,hl];exact Nat.le_refl _)]
        ·rw[show(min 3 (r.size:Int)).toNat=r.size by omega,List.drop_eq_nil_iff.2 (by omega)]
         simp
       have hHE:(out++Lz.lx r.data.toList 4)++Lz.bR (r.extract (min 3 (r.size:Int)).toNat r.size).data.toList=Lz.bR s.data.toList:=by
        rw[hd3,List.append_assoc,<-Lz.CM _ (fun e=>by have:=ac r;rw[e]at this;simp at this;omega),HO.out]
       have hme:(r.extract (min 3 (r.size:Int)).toNat r.size).size<r.size:=by rw[ByteArray.size_extract];omega
       have HHE:=Ih hHE;have Hme:=Ih hme;clear hd3 hHE hme
       go_wp2_with fail
       exact⟨⟨_,out++Lz.lx r.data.toList 4,rfl,HHE,hB,hb⟩,Hme.out⟩
  ·have du:r.toList.isEmpty=true:=kv (by omega)
   have HF:Hid (out=Lz.bR s.data.toList):=by
    show _=_;rw[<-HO.out,List.length_eq_zero_iff.1 (show r.data.toList.length=0 by rw[ac];omega)]
    simp[Lz.bR]
   go_wp2_with fail
   refine(Tryz.Builder_String_any _ _ _ _ hB hb.size).mono ?_;rintro e w5 ⟨rfl,bv⟩
   go_wp2_with fail
   go_ret;exact⟨_,rfl,Ih HF.out,hb.trans bv⟩
end Go.Proofs.YtibcmemcfjhgmaaGreatDoor
namespace Lz
open Go
def kf (s:Bs) (k:Nat):Nat:=if k<8*s.length then(s.getD (k / 8) 0).toNat / 2^(7-k%8)%2 else 0
def fg (s:Bs) (at_:Nat):Nat->Nat
 | 0=>0
 | n+1=>2*fg s at_ n+kf s (at_+n)
def six (s:Bs) (at_:Nat):Nat:=fg s at_ 6
def bY (s:Bs) (m:Nat):Bs:=(List.range m).map fun i=>bA (six s (6*i))
def rP (l:Bs):Bs:=l++List.replicate ((4-l.length%4)%4) 61
def zD (s:Bs):Bs:=rP (bY s ((8*s.length+5) / 6))
theorem Fy (a b c:UInt8) (r:Bs) (k:Nat):kf (a::b::c::r) (24+k)=kf r k:=by
 unfold kf;have e1:(24+k) / 8=k / 8+1+1+1:=by omega
 have e2:(24+k)%8=k%8:=by omega
 rw[e1,e2];by_cases h:k<8*r.length
 ·rw[if_pos h,if_pos (by simp;omega)];rfl
 ·rw[if_neg h,if_neg (by simp;omega)]
theorem si (a b c:UInt8) (r:Bs) (k:Nat):∀n,fg (a::b::c::r) (24+k) n=fg r k n
 | 0=>rfl
 | n+1=>by rw[fg,fg,si a b c r k n,Nat.add_assoc,Fy]
theorem wR (a b c:UInt8) (r:Bs) (m:Nat):bY (a::b::c::r) (m+4)=bY (a::b::c::r) 4++bY r m:=by
 unfold bY;rw[show m+4=4+m by omega,List.range_add,List.map_append,List.map_map]
 have:(List.range m).map ((fun i=>bA (six (a::b::c::r) (6*i)))∘fun x=>4+x)=(List.range m).map fun i=>bA (six r (6*i)):=by
  refine List.map_congr_left fun i _=>?_;rw[Function.comp_apply];unfold six;rw[show 6*(4+i)=24+6*i by omega,si]
 rw[this]
theorem fY {n m:Nat} (h:n%64=m%64):bA n=bA m:=by unfold bA;rw[h]
theorem lF (s:Bs) (k:Nat) (c:UInt8) (h:s[k / 8]? =some c):kf s k=c.toNat / 2^(7-k%8)%2:=by
 have hl:=(List.getElem?_eq_some_iff.1 h).1;unfold kf;rw[if_pos (by omega),List.getD_eq_getElem?_getD,h];rfl
theorem Dl (s:Bs) (k:Nat) (h:s[k / 8]? =none):kf s k=0:=by
 have hl:=List.getElem?_eq_none_iff.1 h;unfold kf;rw[if_neg (by omega)]
theorem Ad (a b c:UInt8) (r:Bs):bY (a::b::c::r) 4=dD (a.toNat*65536+b.toNat*256+c.toNat) 3:=by
 have ha:=a.toNat_lt;have hb:=b.toNat_lt;have hc:=c.toNat_lt;have hr:bY (a::b::c::r) 4=[bA (six (a::b::c::r) 0),bA (six (a::b::c::r) 6),bA (six (a::b::c::r) 12),bA (six (a::b::c::r) 18)]:=by simp[bY,List.range_succ]
 rw[hr];unfold dD;rw[if_pos (by omega),if_pos (by omega)];have b0:∀k,k<8->kf (a::b::c::r) k=a.toNat / 2^(7-k%8)%2:=fun k hk=>lF _ k a (by rw[show k / 8=0 by omega];rfl);have b1:∀k,8<=k->k<16->kf (a::b::c::r) k=b.toNat / 2^(7-k%8)%2:=fun k hk cf=>lF _ k b (by rw[show k / 8=1 by omega];rfl);have b2:∀k,16<=k->k<24->kf (a::b::c::r) k=c.toNat / 2^(7-k%8)%2:=fun k hk cf=>lF _ k c (by rw[show k / 8=2 by omega];rfl)
 have h0:bA (six (a::b::c::r) 0)=bA ((a.toNat*65536+b.toNat*256+c.toNat) / 262144):=by
  refine fY ?_;unfold six;simp only[fg,Nat.zero_add,Nat.add_zero];rw[b0 0 (by omega),b0 1 (by omega),b0 2 (by omega),b0 3 (by omega),b0 4 (by omega),b0 5 (by omega)];simp only[Nat.reduceMod,Nat.reduceSub,Nat.reducePow];omega
 have h1:bA (six (a::b::c::r) 6)=bA ((a.toNat*65536+b.toNat*256+c.toNat) / 4096):=by
  refine fY ?_;unfold six;simp only[fg,Nat.reduceAdd,Nat.add_zero];rw[b0 6 (by omega),b0 7 (by omega),b1 8 (by omega) (by omega),b1 9 (by omega) (by omega),b1 10 (by omega) (by omega),b1 11 (by omega) (by omega)];simp only[Nat.reduceMod,Nat.reduceSub,Nat.reducePow];omega
 have h2:bA (six (a::b::c::r) 12)=bA ((a.toNat*65536+b.toNat*256+c.toNat) / 64):=by
  refine fY ?_;unfold six;simp only[fg,Nat.reduceAdd,Nat.add_zero];rw[b1 12 (by omega) (by omega),b1 13 (by omega) (by omega),b1 14 (by omega) (by omega),b1 15 (by omega) (by omega),b2 16 (by omega) (by omega),b2 17 (by omega) (by omega)];simp only[Nat.reduceMod,Nat.reduceSub,Nat.reducePow];omega
 have h3:bA (six (a::b::c::r) 18)=bA (a.toNat*65536+b.toNat*256+c.toNat):=by
  refine fY ?_;unfold six;simp only[fg,Nat.reduceAdd,Nat.add_zero];rw[b2 18 (by omega) (by omega),b2 19 (by omega) (by omega),b2 20 (by omega) (by omega),b2 21 (by omega) (by omega),b2 22 (by omega) (by omega),b2 23 (by omega) (by omega)];simp only[Nat.reduceMod,Nat.reduceSub,Nat.reducePow];omega
 rw[h0,h1,h2,h3]
theorem JF (x l:Bs) (h:x.length=4):rP (x++l)=x++rP l:=by
 unfold rP;rw[List.length_append,h,show(4+l.length)%4=l.length%4 by omega,List.append_assoc]
theorem G5:∀s:Bs,zD s=bR s
 | []=>by simp[zD,bY,rP,bR]
 | [a]=>by
   have ha:=a.toNat_lt;have b0:∀k,k<8->kf [a] k=a.toNat / 2^(7-k%8)%2:=fun k hk=>lF _ k a (by rw[show k / 8=0 by omega];rfl);have b1:∀k,8<=k->kf [a] k=0:=fun k hk=>Dl _ k (List.getElem?_eq_none_iff.2 (by simp;omega));have he:bR [a]=dD (a.toNat*65536) 1:=by simp[bR]
   have hr:zD [a]=[bA (six [a] 0),bA (six [a] 6),61,61]:=by simp[zD,bY,rP,List.range_succ,List.replicate]
   rw[he,hr];unfold dD;rw[if_neg (by omega),if_neg (by omega)]
   have h0:bA (six [a] 0)=bA (a.toNat*65536 / 262144):=by
    refine fY ?_;unfold six;simp only[fg,Nat.zero_add,Nat.add_zero];rw[b0 0 (by omega),b0 1 (by omega),b0 2 (by omega),b0 3 (by omega),b0 4 (by omega),b0 5 (by omega)];simp only[Nat.reduceMod,Nat.reduceSub,Nat.reducePow];omega
   have h1:bA (six [a] 6)=bA (a.toNat*65536 / 4096):=by
    refine fY ?_;unfold six;simp only[fg,Nat.reduceAdd,Nat.add_zero];rw[b0 6 (by omega),b0 7 (by omega),b1 8 (by omega),b1 9 (by omega),b1 10 (by omega),b1 11 (by omega)];simp only[Nat.reduceMod,Nat.reduceSub,Nat.reducePow];omega
   rw[h0,h1]
 | [a,b]=>by
   have ha:=a.toNat_lt;have hb:=b.toNat_lt;have b0:∀k,k<8->kf [a,b] k=a.toNat / 2^(7-k%8)%2:=fun k hk=>lF _ k a (by rw[show k / 8=0 by omega];rfl);have b1:∀k,8<=k->k<16->kf [a,b] k=b.toNat / 2^(7-k%8)%2:=fun k hk cf=>lF _ k b (by rw[show k / 8=1 by omega];rfl);have b2:∀k,16<=k->kf [a,b] k=0:=fun k hk=>Dl _ k (List.getElem?_eq_none_iff.2 (by simp;omega));have he:bR [a,b]=dD (a.toNat*65536+b.toNat*256) 2:=by simp[bR]
   have hr:zD [a,b]=[bA (six [a,b] 0),bA (six [a,b] 6),bA (six [a,b] 12),61]:=by simp[zD,bY,rP,List.range_succ]
   rw[he,hr];unfold dD;rw[if_pos (by omega),if_neg (by omega)]
   have h0:bA (six [a,b] 0)=bA ((a.toNat*65536+b.toNat*256) / 262144):=by
    refine fY ?_;unfold six;simp only[fg,Nat.zero_add,Nat.add_zero];rw[b0 0 (by omega),b0 1 (by omega),b0 2 (by omega),b0 3 (by omega),b0 4 (by omega),b0 5 (by omega)];simp only[Nat.reduceMod,Nat.reduceSub,Nat.reducePow];omega
   have h1:bA (six [a,b] 6)=bA ((a.toNat*65536+b.toNat*256) / 4096):=by
    refine fY ?_;unfold six;simp only[fg,Nat.reduceAdd,Nat.add_zero];rw[b0 6 (by omega),b0 7 (by omega),b1 8 (by omega) (by omega),b1 9 (by omega) (by omega),b1 10 (by omega) (by omega),b1 11 (by omega) (by omega)];simp only[Nat.reduceMod,Nat.reduceSub,Nat.reducePow];omega
   have h2:bA (six [a,b] 12)=bA ((a.toNat*65536+b.toNat*256) / 64):=by
    refine fY ?_;unfold six;simp only[fg,Nat.reduceAdd,Nat.add_zero];rw[b1 12 (by omega) (by omega),b1 13 (by omega) (by omega),b1 14 (by omega) (by omega),b1 15 (by omega) (by omega),b2 16 (by omega),b2 17 (by omega)];simp only[Nat.reduceMod,Nat.reduceSub,Nat.reducePow];omega
   rw[h0,h1,h2]
 | a::b::c::r=>by
   have ih:=G5 r;have he:bR (a::b::c::r)=dD (a.toNat*65536+b.toNat*256+c.toNat) 3++bR r:=by rw[bR]
   rw[he,<-ih];unfold zD;rw[show(8*(a::b::c::r).length+5) / 6=(8*r.length+5) / 6+4 by simp;omega,wR,Ad,JF _ _ rfl]
def i6:Bs->List Bs
 | []=>[[]]
 | c::r=>if qj c then[]::i6 r else match i6 r with
   | []=>[[c]]
   | h::t=>(c::h)::t
theorem Q9:∀l:Bs,i6 l≠[]
 | []=>by simp[i6]
 | c::r=>by
   rw[i6];split
   ·simp
   ·split<;>simp
theorem re (c:UInt8):∀l:Bs,i6 (l++[c])=if qj c then i6 l++[[]]else(i6 l).dropLast++[(i6 l).getLastD []++[c]]
 | []=>by
   by_cases h:qj c=true
   ·rw[if_pos h];simp[i6,h]
   ·rw[if_neg h];simp[i6,h]
 | b::r=>by
   have ih:=re c r
   obtain⟨h,t,hr⟩:∃h t,i6 r=h::t:=by
    cases e:i6 r with
    | nil=>exact absurd e (Q9 r)
    | cons h t=>exact⟨h,t,rfl⟩
   rw[List.cons_append,i6,ih,hr];rw[show i6 (b::r)=if qj b then[]::i6 r else match i6 r with|[]=>[[b]]|h::t=>(b::h)::t from i6.eq_2 b r,hr];by_cases hb:qj b=true
   ·rw[if_pos hb,if_pos hb];by_cases hc:qj c=true
    ·rw[if_pos hc,if_pos hc];rfl
    ·rw[if_neg hc,if_neg hc]
     simp[List.dropLast,List.getLastD]
   ·rw[if_neg hb,if_neg hb];by_cases hc:qj c=true
    ·rw[if_pos hc,if_pos hc];rfl
    ·rw[if_neg hc,if_neg hc];cases t with
     | nil=>simp
     | cons x y=>simp[List.dropLast,List.getLastD]
def cn (s:Bs):List Bs:=(i6 s).filter fun w=> !w.isEmpty
theorem E8:cn []=[]:=rfl
structure ud (l:Bs) (D:List Bs) (dx:Bs):Prop where
 seg:i6 l=D++[dx]
 tail:∃pre,l=pre++dx
theorem KL:ud [] [] []:=⟨rfl,[],rfl⟩
theorem J3 {l:Bs} {D:List Bs} {dx:Bs} {c:UInt8} (h:ud l D dx) (hc:qj c=true):ud (l++[c]) (D++[dx]) []:=
 ⟨by rw[re,if_pos hc,h.seg],l++[c],by simp⟩
theorem M7 {l:Bs} {D:List Bs} {dx:Bs} {c:UInt8} (h:ud l D dx) (hc:qj c=false):ud (l++[c]) D (dx++[c]):=
 ⟨by rw[re,if_neg (by rw[hc];simp),h.seg];simp,by obtain⟨pre,e⟩:=h.tail;exact⟨pre,by rw[e,List.append_assoc]⟩⟩
theorem Qx {l:Bs} {D:List Bs} {dx:Bs} (h:ud l D dx):cn l=(D.filter fun w=> !w.isEmpty)++(if dx.isEmpty then[]else[dx]):=by
 unfold cn;rw[h.seg,List.filter_append];cases dx<;>rfl
end Lz
namespace Lz
def uQ (d p:Nat):UInt64:=UInt64.ofNat (lZ p d)
def eX (f m d:Nat):List UInt64:=((a4.take (f+m)).drop f).map (uQ d)
end Lz
namespace Go.Proofs.YtibcmemcfjhgmaaGreatDoor
open Go.RowKit
attribute [local go_sem ↓] Go.wp_at_zero Go.wp_at_succ
theorem DY:(Tryz.prog.info? 131).map (fun i=>(i.zero,i.size,i.bytes))=some (some (.int .u64 0),1,8):=by kernel_rfl
def dt (w:World) (B:Nat) (v:Value) (l:List UInt64):Prop:=w.ownsRow B 131 1 v l.length (dG l)
theorem dt.below {w w':World} {B:Nat} {v:Value} {l:List UInt64} (h:dt w B v l) (hb:Below w.heap.size w w'):dt w' B v l:=dh h hb
def uB (w:World) (g:Nat) (l:List UInt64):Prop:=∀j,j<l.length->w.cell? ⟨g,j,none⟩=some (.int .u64 (N64 (l.getD j 0)))
theorem uB.below {w w':World} {g:Nat} {l:List UInt64} (h:uB w g l) (hb:Below w.heap.size w w'):uB w' g l:=fun j hj=>by
 rw[hb.cell (p:=⟨g,j,none⟩) (World.block_lt_of_cell? _ _ (h j hj))];exact h j hj
theorem dt.form {w:World} {B:Nat} {v:Value} {l:List UInt64} (h:dt w B v l) (hl:0<l.length):∃g c,v=.slice (some ⟨g,0,none⟩) l.length c/\uB w g l:=by
 rcases h.2 with⟨rfl,h0⟩|⟨g,cap,dx,rfl,hgb,hg,hn,tj,iF,gu⟩
 ·omega
 ·refine⟨g,cap,rfl,fun j hj=>?_⟩
  have:=World.ownsRow.cells h (g:=g) rfl j (.int .u64 (N64 (l.getD j 0))) (by
   unfold dG;rw[List.getElem?_map,List.getElem?_eq_getElem hj,List.getD_eq_getElem?_getD,List.getElem?_eq_getElem hj];rfl)
  rw[bD]at this;exact this
theorem abo (c:UInt8):IntKind.u64.wrap (c.toNat:Int)=N64 c.toUInt64:=w64 c.toUInt64
theorem abe (a:UInt64):IntKind.u64.wrap (N64 a*256)=N64 (a*256):=by
 unfold N64;rw[IntKind.wrap_u64,UInt64.toNat_mul,show(256:UInt64).toNat=256 from rfl];omega
theorem Fw (d p:Nat):((Lz.lZ p d:Nat):Int)=N64 (Lz.uQ d p):=by
 have:=Lz.BC p d;unfold N64 Lz.uQ;rw[UInt64.toNat_ofNat'];omega
theorem ua (f m d:Nat) (h:f+m<=80):(Lz.eX f m d).length=m:=by
 unfold Lz.eX;have:Lz.a4.length=80:=rfl;rw[List.length_map,List.length_drop,List.length_take];omega
theorem Jy (f m d j:Nat) (h:f+m<=80) (hj:j<m):(Lz.eX f m d)[j]? =some (Lz.uQ d ((Lz.a4.take (f+m)).getD (f+j) 0)):=by
 have hl:f+j<(Lz.a4.take (f+m)).length:=by rw[List.length_take];have:Lz.a4.length=80:=rfl;omega
 unfold Lz.eX;rw[List.getElem?_map,List.getElem?_drop,List.getElem?_eq_getElem hl,List.getD_eq_getElem?_getD,List.getElem?_eq_getElem hl];rfl
def zM (m:Nat) (l:List UInt64) (w:World) (e:Ending) (w':World):Prop:=∃g c,e=.returned (.slice (some ⟨g,0,none⟩) m c)/\uB w' g l/\Below w.heap.size w w'
theorem ro (f m d:Nat) (hf:f+m<=80) (hm:0<m) (hd:d=2\/d=3) (w:World):Calls Tryz.prog 115 #[.int .i64 (f:Int),.int .i64 (m:Int),.int .i64 (d:Int)] w (zM m (Lz.eX f m d) w):=by
 obtain⟨i0,hi,eZ,d9,eo⟩:=info_parts DY;obtain⟨n,hn⟩:∃n,n=f+m:=⟨_,rfl⟩;have fn:IntKind.i64.wrap ((f:Int)+(m:Int))=(n:Int):=by rw[IntWalk.i64_in _ (by omega)];omega
 have cP:=Ih (uo n (by omega) w);have cR:=Ih (fun p hp W=>vo p d hp hd W);have abu:Lz.a4.length=80:=rfl;have oj:(Lz.a4.take n).length=n:=by rw[List.length_take];omega
 have HL:=Ih (ua f m d hf);have HAT:=Ih (fun j (hj:j<m)=>Jy f m d j hf hj);rw[<-hn]at HAT;have Hn:=Ih hn;have ac9:n<=80:=by omega
 clear hn abu;go_enter Tryz.func115,Tryz.ntmps115
 go_wp2_with fail
 refine cP.out.mono ?_;rintro e w1 ⟨pv,rfl,hpr,av⟩;obtain⟨pa,pc,rfl,SI⟩:=hpr;rw[oj]at SI⊢;have HP:=Ih SI;have AI:dt w1 w1.heap.size (.slice none 0 0) ((Lz.eX f m d).take 0):=World.ownsRow_nil w1 _ _ _;clear SI oj cP
 go_wp2_with fail
 go_loopw [8,9] (fun v k wr=>∃j i:Nat,k=.int .i64 (i:Int)/\Hid (i=f+j)/\j<=m/\dt wr w1.heap.size v ((Lz.eX f m d).take j)/\Below w1.heap.size w1 wr) (fun _ k _=>n-(intOf k).toNat)
 case atStart=>exact⟨0,f,rfl,Ih rfl,by omega,AI,Below.refl _ _⟩
 case round=>
  clear AI;obtain⟨j,i,rfl,hij,hjm,ai,WS⟩:=hrel;have aO:((Lz.eX f m d).take j).length=j:=by rw[List.length_take,HL.out];omega
  by_cases aL:j<m
  ·have aK:(i:Int)<(n:Int):=by have:=hij.out;have:=Hn.out;omega
   have j6:(0:Int)<=(i:Int):=by omega
   have AA:i<n:=by omega
   obtain⟨g,o,rfl,hc⟩:=HP.out i AA;have iE:wr.cell? ⟨g,o+i,none⟩=some (.int .i64 (((Lz.a4.take n).getD i 0:Nat):Int)):=by rw[WS.cell (p:=⟨g,o+i,none⟩) (World.block_lt_of_cell? _ _ hc)];exact hc
   have jE:=qN (HAT.out j aL);rw[<-hij.out]at jE;have Lc:=Fw d ((Lz.a4.take n).getD i 0);have oj:=v8 n i;generalize (Lz.a4.take n).getD i 0=p at iE jE Lc oj;have TZ:=Ih (cR.out p oj wr);generalize Lz.lZ p d=X at TZ Lc;generalize Lz.uQ d p=y at jE Lc;have bi:=Ih ai;have II:=Ih jE;have eu:=Ih aO;clear hc jE aO ai oj
   go_wp2_with fail
   refine TZ.out.mono ?_;rintro e w2 ⟨rfl,aE⟩;have bF:=Ih (bi.out.below aE);have eC:=ae WS aE;have ns:=eC.size;unfold dt at bF;rw[eu.out]at bF;rw[Lc]
   go_wp2_with (at_builtin;refine wpList_append_own _ rfl (.tmp 22) (.tmp 29) 167 rfl w1.heap.size 131 i0 (.int .u64 0) 1 8 Tryz.underlying167 hi eZ d9 eo rfl (by decide) _ _ _ rfl (bF.out.alloc _) ⟨w2.heap.size,0,none⟩ 1 1 [.int .u64 (N64 y)] rfl rfl (aJ _ _ _) (by simp[Value.oneCell']) (by unfold maxLen;omega) (by omega) (by simp;omega) ?_)
   intro v3 w3 ba oI _;have bj:=Below.grown1 eC bF.out oI ns (Nat.le_refl _)
   have wI:dt w3 w1.heap.size v3 ((Lz.eX f m d).take (j+1)):=by
    unfold dt;rw[II.out,List.length_append,eu.out];unfold dG at ba⊢;rw[List.map_append];exact ba
   have O8:=Ih wI;clear ba oI wI bF
   go_wp2_with fail
   go_roundw
   case rel=>exact⟨j+1,i+1,by go_num,Ih (by rw[hij.out];omega),by omega,O8.out,bj⟩
   case measure=>simp[intOf];omega
  ·have aK:¬(i:Int)<(n:Int):=by have:=hij.out;have:=Hn.out;omega
   have XC:j=m:=by omega
   have Xe:(Lz.eX f m d).take j=Lz.eX f m d:=by rw[XC];exact List.take_of_length_le (by rw[HL.out];exact Nat.le_refl _)
   obtain⟨gk,ck,rfl,hK⟩:=ai.form (by rw[aO];omega);rw[aO,XC];rw[Xe]at hK;have aE:Below w.heap.size w wr:=ae av WS;clear aO ai Xe XC
   go_wp2_with fail
   go_ret;exact⟨gk,ck,rfl,hK,aE⟩
end Go.Proofs.YtibcmemcfjhgmaaGreatDoor
