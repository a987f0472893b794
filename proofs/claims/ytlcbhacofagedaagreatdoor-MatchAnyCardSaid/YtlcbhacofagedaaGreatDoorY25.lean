/-
  lazaretref06: Decode.
-/
import Derived.Test.YtlcbhacofagedaaGreatDoorY23
import Derived.Test.YtlcbhacofagedaaGreatDoorY20
import Derived.Test.YtlcbhacofagedaaGreatDoorY16
import Derived.Test.YtlcbhacofagedaaGreatDoorY21
import Derived.Laws.AppendOwnNone
set_option maxHeartbeats 4000000
set_option maxRecDepth 100000
namespace Go.Proofs.YtlcbhacofagedaaGreatDoor
open Go.RowKit Go.Extern.Stop Go.Stop Go.Extern
theorem tyE (v:Value) (w:World):(ReflectliteType.typeOf #[.iface 27 v]).run Tryz.prog w=.ok (.iface 149 (.agg #[.pointer (some ⟨11,27,none⟩)])) w:=by kernel_rfl
def cmF:Array Value->Sem Value:=ReflectliteType.method (fun t=>do Rtype.noPackHeld "Comparable" t;pure (.bool (<-typeInfo t).comparable))
theorem cmE (w:World):(cmF #[.agg #[.pointer (some ⟨11,27,none⟩)]]).run Tryz.prog w=.ok (.bool true) w:=by kernel_rfl
theorem mCm (h:Value) (w:World):(Go.method 448 149 (.agg #[h]) "Comparable").run Tryz.prog w=.ok (329,.agg #[h]) w:=by kernel_rfl
theorem XW (v:Value) (xT:TypeId) (w:World):(Instr.typeAssert (.iface 129 v) xT 194 true).run Tryz.prog w=.ok (.tuple #[.nilIface,.bool false]) w:=run_typeAssert_lacksB Tryz.underlying194 (by kernel_rfl) (by kernel_rfl) v xT w
theorem Up (v:Value) (xT:TypeId) (w:World):(Instr.typeAssert (.iface 129 v) xT 156 true).run Tryz.prog w=.ok (.tuple #[.iface 129 v,.bool true]) w:=run_typeAssert_hasB Tryz.underlying156 (by kernel_rfl) v xT w
theorem YF (v:Value) (xT:TypeId) (w:World):(Instr.typeAssert (.iface 27 v) xT 194 true).run Tryz.prog w=.ok (.tuple #[.nilIface,.bool false]) w:=run_typeAssert_lacksB Tryz.underlying194 (by kernel_rfl) (by kernel_rfl) v xT w
theorem XV (v:Value) (xT:TypeId) (w:World):(Instr.typeAssert (.iface 27 v) xT 156 true).run Tryz.prog w=.ok (.tuple #[.nilIface,.bool false]) w:=run_typeAssert_lacksB Tryz.underlying156 (by kernel_rfl) (by kernel_rfl) v xT w
theorem UT (v:Value) (xT:TypeId) (w:World):(Instr.typeAssert (.iface 27 v) xT 158 true).run Tryz.prog w=.ok (.tuple #[.nilIface,.bool false]) w:=run_typeAssert_lacksB Tryz.underlying158 (by kernel_rfl) (by kernel_rfl) v xT w
theorem eqF (p v:Value) (m:Int) (w:World):(binOp .eql 59 (.iface 129 (.agg #[p,v])) (.iface 27 (.int .i64 m))).run Tryz.prog w=.ok (.bool false) w:=by kernel_rfl
theorem eqE (n m:Int) (w:World):(binOp .eql 59 (.iface 27 (.int .i64 n)) (.iface 27 (.int .i64 m))).run Tryz.prog w=.ok (.bool (n==m)) w:=by kernel_rfl
theorem UW (p:ByteArray) (n m:Int) (w:World):Calls Tryz.prog 141 #[.iface 129 (.agg #[.string p,.iface 27 (.int .i64 n)]),.iface 27 (.int .i64 m),.bool true] w (cn (decide (n=m)) w):=by
 have q1:=eqF;have q2:=eqE;have i1:=XW;have i2:=Up;have i3:=YF;have i4:=XV;have i5:=UT;have nu:∀w,(nilAhead 448 129 (.agg #[.string p,.iface 27 (.int .i64 n)]) "Unwrap").run Tryz.prog w=.ok (some false) w:=fun _=>by kernel_rfl
 have mU:∀w,(Go.method 448 129 (.agg #[.string p,.iface 27 (.int .i64 n)]) "Unwrap").run Tryz.prog w=.ok (326,.agg #[.string p,.iface 27 (.int .i64 n)]) w:=fun _=>by kernel_rfl
 by_cases h:n=m
 ·have hb:(n==m)=true:=by simp[h]
  have HD:Hid (decide (n=m)=true):=Ih (decide_eq_true h);clear h;go_enter Tryz.func141,Tryz.ntmps141
  go_wp2
  refine wp_loop_rounds 3 ?_;rw[rounds_succ]
  go_wp2
  rw[rounds_succ]
  go_wp2
  go_ret;exact⟨by rw[HD.out];rfl,by first |exact Below.refl _ _|exact(Below.refl _ _).alloc (Nat.le_refl _) _⟩
 ·have hb:(n==m)=false:=by simp[h]
  have HD:Hid (decide (n=m)=false):=Ih (decide_eq_false h);clear h;go_enter Tryz.func141,Tryz.ntmps141
  go_wp2
  refine wp_loop_rounds 3 ?_;rw[rounds_succ]
  go_wp2
  rw[rounds_succ]
  go_wp2
  go_ret;exact⟨by rw[HD.out];rfl,by first |exact Below.refl _ _|exact(Below.refl _ _).alloc (Nat.le_refl _) _⟩
theorem Ut (p:ByteArray) (n m:Int) (w:World):Calls Tryz.prog 88 #[.iface 129 (.agg #[.string p,.iface 27 (.int .i64 n)]),.iface 27 (.int .i64 m)] w (cn (decide (n=m)) w):=by
 have Zk:= @run_callFunc_extern Tryz.prog 140 _ ReflectliteType.typeOf Tryz.func140 (by kernel_rfl) (by kernel_rfl) (by kernel_rfl) (by kernel_rfl);have hCm:= @run_callFunc_extern Tryz.prog 329 _ cmF Tryz.func329 (by kernel_rfl) (by kernel_rfl) (by kernel_rfl) (by kernel_rfl);have t1:=tyE;have t2:=cmE;have t3:=mCm;have cI:=Ih (fun W=>UW p n m W);generalize decide (n=m)=q at cI⊢;go_enter Tryz.func88,Tryz.ntmps88
 go_wp2_with fail
 refine(cI.out _).mono ?_;rintro e w1 ⟨rfl,hb⟩
 go_wp2_with fail
 go_ret;exact⟨rfl,hb⟩
theorem eqN (v:Value) (w:World):(binOp .eql 59 .nilIface (.iface 27 v)).run Tryz.prog w=.ok (.bool false) w:=by kernel_rfl
theorem Vu (m:Int) (w:World):Calls Tryz.prog 88 #[.nilIface,.iface 27 (.int .i64 m)] w (cn false w):=by
 have q1:=eqN;go_enter Tryz.func88,Tryz.ntmps88
 go_wp2
 go_ret;exact⟨rfl,Below.refl _ _⟩
def Hf (f:Int->Bool):Int:=if f 70 then 70 else if f 71 then 71 else if f 72 then 72 else if f 81 then 81 else if f 82 then 82 else 0
theorem CQ (v:Value) (f:Int->Bool) (w:World) (h:∀(m:Int) (W:World),Below w.heap.size w W->Calls Tryz.prog 88 #[v,.iface 27 (.int .i64 m)] W (cn (f m) W)):
  Calls Tryz.prog 54 #[v] w (wj (Hf f) w):=by
 obtain⟨W,hW⟩:∃W,W=w.alloc (.cells #[.int .i64 70,.int .i64 71,.int .i64 72,.int .i64 81,.int .i64 82] 27):=⟨_,rfl⟩;have bg:Below w.heap.size w W:=by rw[hW];exact(Below.refl _ w).alloc (Nat.le_refl _) _
 have bN:W.heap[w.heap.size]? =some (.cells #[.int .i64 70,.int .i64 71,.int .i64 72,.int .i64 81,.int .i64 82] 27 (0,0)):=by rw[hW];exact aK _ _
 have aN:=aI bN;have HH:=Ih h;have HQ:Hid (Hf f=if f 70 then 70 else if f 71 then 71 else if f 72 then 72 else if f 81 then 81 else if f 82 then 82 else 0):=Ih rfl;have HW:=Ih hW;have HR:=Ih bN;generalize Hf f=z at HQ⊢;clear h hW bN;go_enter Tryz.func54,Tryz.ntmps54
 go_wp2_with (rw[<-HW.out])
 refine wp_loop_rounds 6 ?_;rw[rounds_succ];have j8:Below W.heap.size W W:=Below.refl _ _;have c0:=rowAt ((j8.block _ aN).trans HR.out) 0 (.int .i64 70) rfl;have cI0:=Ih (HH.out 70 W (bg.trans (j8.mono bg.size)));have Ps:f 70=f 70:=rfl;generalize jm:f 70=q0 at cI0 HQ;clear Ps jm
 go_wp2_with fail
 refine cI0.out.mono ?_;rintro e w1 ⟨rfl,aC⟩;cases q0 with
 | true=>
   have HZ:Hid (z=70):=Ih HQ.out;clear HQ
   go_wp2_with fail
   go_ret;exact⟨by rw[HZ.out];rfl,bg.trans ((j8.trans (aC.mono j8.size)).mono bg.size)⟩
 | false=>
   go_wp2_with fail
   rw[rounds_succ];have fF:Below W.heap.size W w1:=(j8.trans (aC.mono j8.size));have c1:=rowAt ((fF.block _ aN).trans HR.out) 1 (.int .i64 71) rfl;have cI1:=Ih (HH.out 71 w1 (bg.trans (fF.mono bg.size)));have bB:f 71=f 71:=rfl;generalize bK:f 71=q1 at cI1 HQ;clear bB bK
   go_wp2_with fail
   refine cI1.out.mono ?_;rintro e w2 ⟨rfl,aU⟩;cases q1 with
   | true=>
     have HZ:Hid (z=71):=Ih HQ.out;clear HQ
     go_wp2_with fail
     go_ret;exact⟨by rw[HZ.out];rfl,bg.trans ((fF.trans (aU.mono fF.size)).mono bg.size)⟩
   | false=>
     go_wp2_with fail
     rw[rounds_succ];have sS:Below W.heap.size W w2:=(fF.trans (aU.mono fF.size));have c2:=rowAt ((sS.block _ aN).trans HR.out) 2 (.int .i64 72) rfl;have cI2:=Ih (HH.out 72 w2 (bg.trans (sS.mono bg.size)));have bV:f 72=f 72:=rfl;generalize fW:f 72=q2 at cI2 HQ;clear bV fW
     go_wp2_with fail
     refine cI2.out.mono ?_;rintro e w3 ⟨rfl,cq⟩;cases q2 with
     | true=>
       have HZ:Hid (z=72):=Ih HQ.out;clear HQ
       go_wp2_with fail
       go_ret;exact⟨by rw[HZ.out];rfl,bg.trans ((sS.trans (cq.mono sS.size)).mono bg.size)⟩
     | false=>
       go_wp2_with fail
       rw[rounds_succ];have nL:Below W.heap.size W w3:=(sS.trans (cq.mono sS.size));have c3:=rowAt ((nL.block _ aN).trans HR.out) 3 (.int .i64 81) rfl;have cI3:=Ih (HH.out 81 w3 (bg.trans (nL.mono bg.size)));have pf:f 81=f 81:=rfl;generalize K4:f 81=q3 at cI3 HQ;clear pf K4
       go_wp2_with fail
       refine cI3.out.mono ?_;rintro e w4 ⟨rfl,ex⟩;cases q3 with
       | true=>
         have HZ:Hid (z=81):=Ih HQ.out;clear HQ
         go_wp2_with fail
         go_ret;exact⟨by rw[HZ.out];rfl,bg.trans ((nL.trans (ex.mono nL.size)).mono bg.size)⟩
       | false=>
         go_wp2_with fail
         rw[rounds_succ];have F8:Below W.heap.size W w4:=(nL.trans (ex.mono nL.size));have c4:=rowAt ((F8.block _ aN).trans HR.out) 4 (.int .i64 82) rfl;have cI4:=Ih (HH.out 82 w4 (bg.trans (F8.mono bg.size)));have FW:f 82=f 82:=rfl;generalize hf4:f 82=q4 at cI4 HQ;clear FW hf4
         go_wp2_with fail
         refine cI4.out.mono ?_;rintro e w5 ⟨rfl,dB⟩;cases q4 with
         | true=>
           have HZ:Hid (z=82):=Ih HQ.out;clear HQ
           go_wp2_with fail
           go_ret;exact⟨by rw[HZ.out];rfl,bg.trans ((F8.trans (dB.mono F8.size)).mono bg.size)⟩
         | false=>
           go_wp2_with fail
           rw[rounds_succ];have HZ:Hid (z=0):=Ih HQ.out;clear HQ
           go_wp2_with fail
           go_ret;exact⟨by rw[HZ.out];rfl,bg.trans ((F8.trans (dB.mono F8.size)).mono bg.size)⟩
theorem Qm (w:World):Calls Tryz.prog 54 #[.nilIface] w (wj 0 w):=by
 have:=CQ .nilIface (fun _=>false) w (fun m W _=>Vu m W);exact this
theorem Nk (n:Nat) (hn:n=70\/n=71\/n=72\/n=81\/n=82) (v:Value) (h:Fo n v) (w:World):Calls Tryz.prog 54 #[v] w (wj n w):=by
 obtain⟨p,rfl⟩:=h;have:=CQ _ (fun m=>decide ((n:Int)=m)) w (fun m W _=>Ut p n m W)
 have hq:Hf (fun m=>decide ((n:Int)=m))=(n:Int):=by
  rcases hn with rfl|rfl|rfl|rfl|rfl<;>rfl
 rw[hq]at this;exact this
end Go.Proofs.YtlcbhacofagedaaGreatDoor
namespace Go.Proofs.YtlcbhacofagedaaGreatDoor
open Go.RowKit
theorem UU {s:ByteArray} (h:s.data.toList.all Lz.aA=true) {i:Nat} (hi:i<s.size):Lz.aA s[i]=true:=
 List.all_eq_true.1 h _ (by
  have:s[i]=s.data.toList[i]'(by rw[aa];exact hi):=rfl;rw[this];exact List.getElem_mem _)
def B1 (s:List UInt8) (d:Int) (n:Nat):Int:=if 65535<n then -2 else if s=[]\/(n:Int)=d then -1 else(n:Int)
theorem EE (s sc:ByteArray) (hs:s.size<=1000000000) (ZV:s.data.toList.all Lz.aA=true) (w:World):
  Calls Tryz.prog 29 #[.string s,.string sc] w fun e w'=>e=.returned (.int .i64 (Lz.lR sc.data.toList s.data.toList))/\w=w':=by
 have HD:=Ih (fun(i:Nat) (hi:i<s.size)=>Bv _ (UU ZV hi));obtain⟨o,ho⟩:∃o,o=Lz.pK 0 s.data.toList:=⟨_,rfl⟩;obtain⟨goal,Dn⟩:∃goal,goal=Lz.lR sc.data.toList s.data.toList:=⟨_,rfl⟩;have cD:=Ih (fun W=>dR sc W);have HU:Hid (goal=B1 s.data.toList (Lz.dr sc.data.toList) o):=Ih (by rw[Dn,ho];rfl);rw[<-Dn];obtain⟨d,hd⟩:∃d,d=Lz.dr sc.data.toList:=⟨_,rfl⟩;rw[<-hd]at cD HU;have Ho:=Ih ho;clear ho Dn hd ZV;go_enter Tryz.func29,Tryz.ntmps29
 go_wp2_with fail
 go_loopw [5,6] (fun n j wr=>∃a i:Nat,n=.int .i64 a/\j=.int .i64 i/\i<=s.size/\a<=100000/\Hid (o=Lz.pK a (s.data.toList.drop i))/\w=wr) (fun _ j _=>s.size-(intOf j).toNat)
 case atStart=>exact⟨0,0,rfl,rfl,Nat.zero_le _,by omega,Ih (by rw[Ho.out,List.drop_zero]),rfl⟩
 case round=>
  obtain⟨a,i,rfl,rfl,hi,ha,hO,rfl⟩:=hrel;by_cases aN:i<s.size
  ·have dH:(i:Int)<(s.size:Int):=by omega
   have nP:(0:Int)<=(i:Int):=by omega
   obtain⟨c,hc⟩:∃c,c=s[i]:=⟨_,rfl⟩;have yI:(s[i].toNat:Int)=(c.toNat:Int):=by rw[hc]
   obtain⟨j7,qH⟩:=HD.out i aN;rw[<-hc]at j7 qH;obtain⟨x,hx⟩:∃x,x=c.toNat-48:=⟨_,rfl⟩;have Wu:(c.toNat:Int)-48=(x:Int):=by omega
   have XL:x<=9:=by omega
   have kU:Hid (o=Lz.pK (min (10*a+x) 100000) (s.data.toList.drop (i+1))):=by
    show _=_;rw[hO.out,List.drop_eq_getElem_cons (show i<s.data.toList.length from aN),hx,hc];rfl
   have hxw:IntKind.u8.wrap (x:Int)=(x:Int):=IntWalk.u8_in _ (by omega);have abE:IntKind.i64.wrap (x:Int)=(x:Int):=IntWalk.i64_in _ (by omega);clear hO hc hx j7 qH;rcases Nat.lt_or_ge (10*a+x) 100000 with Tw|Tw
   ·have Pl:10*(a:Int)+(x:Int)<100000:=by omega
    have WG:10*(a:Int)+(x:Int)<=100000:=by omega
    have HN:Hid (o=Lz.pK (10*a+x) (s.data.toList.drop (i+1))):=by show _=_;rw[kU.out,Nat.min_eq_left (by omega)]
    go_wp2_with fail
    go_roundw
    case rel=>exact⟨10*a+x,i+1,by go_num,by go_num,by omega,by omega,HN,trivial⟩
    case measure=>simp[intOf];omega
   ·have Pl:¬(10*(a:Int)+(x:Int)<100000):=by omega
    have WG:(100000:Int)<=10*(a:Int)+(x:Int):=by omega
    have HN:Hid (o=Lz.pK 100000 (s.data.toList.drop (i+1))):=by show _=_;rw[kU.out,Nat.min_eq_right (by omega)]
    go_wp2_with fail
    go_roundw
    case rel=>exact⟨100000,i+1,by go_num,by go_num,by omega,by omega,HN,trivial⟩
    case measure=>simp[intOf];omega
  ·have dH:¬(i:Int)<(s.size:Int):=by omega
   have HN:Hid (o=a):=by
    show _=_;rw[hO.out,List.drop_eq_nil_of_le (show s.data.toList.length<=i by rw[aa];omega)];rfl
   clear hO;by_cases vO:65535<a
   ·have WA:(65535:Int)<(a:Int):=by omega
    have HR:Hid (goal= -2):=by show _=_;rw[HU.out,HN.out,B1,if_pos vO]
    go_wp2_with fail
    go_ret;rw[HR.out];exact⟨rfl,rfl⟩
   ·have WA:¬(65535:Int)<(a:Int):=by omega
    by_cases he:s.data.toList=[]
    ·have g0:=aH he;have K7:s.toList.isEmpty=true:=ak (by rw[<-aa,he];rfl);have HR:Hid (goal= -1):=by show _=_;rw[HU.out,HN.out,B1,if_neg vO,if_pos (Or.inl he)]
     clear he
     go_wp2_with fail
     go_ret;rw[HR.out];exact⟨rfl,rfl⟩
    ·have g0:=aR he;have K7:s.toList.isEmpty=false:=aj (by rw[<-aa];exact List.length_pos_iff.2 he);by_cases hd:(a:Int)=d
     ·have Lu:((a:Int)==d)=true:=by simp[hd]
      have HR:Hid (goal= -1):=by show _=_;rw[HU.out,HN.out,B1,if_neg vO,if_pos (Or.inr hd)]
      clear he hd
      go_wp2_with fail
      refine(cD.out _).mono ?_;rintro e w1 ⟨rfl,rfl⟩
      go_wp2_with fail
      go_ret;rw[HR.out];exact⟨rfl,rfl⟩
     ·have Lu:((a:Int)==d)=false:=by simp[hd]
      have HR:Hid (goal=a):=by show _=_;rw[HU.out,HN.out,B1,if_neg vO,if_neg (fun h=>h.elim he hd)]
      clear he hd
      go_wp2_with fail
      refine(cD.out _).mono ?_;rintro e w1 ⟨rfl,rfl⟩
      go_wp2_with fail
      go_ret;rw[HR.out];exact⟨rfl,rfl⟩
end Go.Proofs.YtlcbhacofagedaaGreatDoor
namespace Lz
open Go
def lS (t:Bs):Bs:=t.dropWhile spQ
def jq (t:Bs):Bs:=(t.reverse.dropWhile spQ).reverse
theorem JL {c:UInt8} {r:Bs} (h:spQ c=true):lS (c::r)=lS r:=by simp[lS,h]
theorem Mu {c:UInt8} {r:Bs} (h:spQ c=false):lS (c::r)=c::r:=by simp[lS,h]
theorem I8 {c:UInt8} {r:Bs} (h:spQ c=true):jq (r++[c])=jq r:=by simp[jq,h]
theorem MZ {c:UInt8} {r:Bs} (h:spQ c=false):jq (r++[c])=r++[c]:=by simp[jq,h]
theorem MK (s:Bs):cf s=bM (jq (lS s)):=rfl
theorem zl (c:UInt8):spQ c=decide (c.toNat<=32):=by revert c;exact au (by decide +kernel)
theorem MU (c:UInt8) (r:Bs):bM (c::r)=(if !(c==9)&& !(c==10)&& !(c==13)then[c]else[])++bM r:=by
 unfold bM;rw[List.filter_cons];cases h1:c==9<;>cases h2:c==10<;>cases h3:c==13<;>simp_all
end Lz
namespace Go.Proofs.YtlcbhacofagedaaGreatDoor
open Go.RowKit
theorem oM (s:ByteArray) (i:Nat) (h:i<s.size):(s.extract i (i+1)).data.toList=[s[i]]:=by
 have hs:(s.extract i (i+1)).data.toList=(s.data.toList.drop i).take 1:=by simp
 rw[hs,List.drop_eq_getElem_cons (show i<s.data.toList.length by rw[aa];exact h)];rfl
theorem D4 (s:ByteArray) (h:0<s.size):s.data.toList=(s.extract 0 (s.size-1)).data.toList++[s[s.size-1]]:=by
 rw[dC];have hl:s.size-1<s.data.toList.length:=by rw[aa];omega
 have:=List.take_succ_eq_append_getElem hl;rw[<-show s[s.size-1]=s.data.toList[s.size-1]from rfl,show s.size-1+1=s.data.toList.length by rw[aa];omega,List.take_length]at this;exact this
theorem Qp (t:ByteArray):∃q:Bool,(q=true->0<t.size/\Lz.lS t.data.toList=Lz.lS (t.extract 1 t.size).data.toList)/\(q=false->Lz.lS t.data.toList=t.data.toList)/\(t.size=0->q=false)/\(∀h:0<t.size,q=decide (t[0].toNat<=32)):=by
 by_cases hz:t.size=0
 ·have AG:t.data.toList=[]:=List.eq_nil_of_length_eq_zero (by rw[aa];exact hz);exact⟨false,fun h=>(by cases h),fun _=>by rw[AG];rfl,fun _=>rfl,fun h=>absurd h (by omega)⟩
 ·have ei:0<t.size:=by omega
  have hd:=G9 ei;refine⟨decide (t[0].toNat<=32),fun h=>⟨ei,?_⟩,fun h=>?_,fun h=>absurd h hz,fun _=>rfl⟩
  ·rw[aP,hd,List.drop_succ_cons,List.drop_zero];exact Lz.JL (by rw[Lz.zl,h])
  ·rw[hd];exact Lz.Mu (by rw[Lz.zl,h])
theorem Rp (t:ByteArray):∃q:Bool,(q=true->0<t.size/\Lz.jq t.data.toList=Lz.jq (t.extract 0 (t.size-1)).data.toList)/\(q=false->Lz.jq t.data.toList=t.data.toList)/\(t.size=0->q=false)/\(∀h:0<t.size,q=decide (t[t.size-1].toNat<=32)):=by
 by_cases hz:t.size=0
 ·have AG:t.data.toList=[]:=List.eq_nil_of_length_eq_zero (by rw[aa];exact hz);exact⟨false,fun h=>(by cases h),fun _=>by rw[AG];rfl,fun _=>rfl,fun h=>absurd h (by omega)⟩
 ·have ei:0<t.size:=by omega
  have hd:=D4 t ei;refine⟨decide (t[t.size-1].toNat<=32),fun h=>⟨ei,?_⟩,fun h=>?_,fun h=>absurd h hz,fun _=>rfl⟩
  ·conv=>lhs;rw[hd]
   exact Lz.I8 (by rw[Lz.zl,h])
  ·rw[hd];exact Lz.MZ (by rw[Lz.zl,h])
theorem AK (s:ByteArray) (hs:s.size<=1000000000) (w:World):Calls Tryz.prog 10 #[.string s] w (gl (Lz.cf s.data.toList) w):=by
 obtain⟨goal,Dn⟩:∃goal,goal=Lz.cf s.data.toList:=⟨_,rfl⟩;have HG:Hid (goal=Lz.bM (Lz.jq (Lz.lS s.data.toList))):=Ih (by rw[Dn,Lz.MK]);have ek:=Below.refl w.heap.size w;rw[<-Dn];clear Dn;go_enter Tryz.func10,Tryz.ntmps10
 go_wp2_with fail
 go_loopw [0] (fun v wr=>∃t:ByteArray,v=.string t/\t.size<=s.size/\Hid (goal=Lz.bM (Lz.jq (Lz.lS t.data.toList)))/\Below w.heap.size w wr) (fun v _=>lz v)
 case atStart=>exact⟨s,rfl,Nat.le_refl _,HG,ek⟩
 case round=>
  obtain⟨t,rfl,ht,HR,bi⟩:=hrel;clear HG ek;obtain⟨q,bB,bV,pf,FW⟩:=Qp t;have SJ:=Ih bB;have KA:=Ih bV;clear bB bV
  go_upto_region 1 with fail
  go_cut [12] (fun s wx=>s=.bool q/\Below w.heap.size w wx)
  case first=>
   by_cases hz:t.size=0
   ·have Ik:¬(0:Int)<(t.size:Int):=by omega
    have hq:=pf hz;clear pf FW
    go_wp2_with fail
    go_meet;exact⟨by rw[hq],bi⟩
   ·have ei:0<t.size:=by omega
    have In:(0:Int)<(t.size:Int):=by omega
    have hq:=FW ei;obtain⟨c,hc⟩:∃c,c=t[0]:=⟨_,rfl⟩;have yI:(t[0].toNat:Int)=(c.toNat:Int):=by rw[hc]
    rw[<-hc]at hq;have hqI:decide ((c.toNat:Int)<=32)=q:=by rw[hq];exact decide_eq_decide.2 (by omega)
    clear pf FW hq hc
    go_wp2_with fail
    go_meet;exact⟨by first |rfl|rw[hqI],bi⟩
  case rest=>
   obtain⟨rfl,aU⟩:=hcut;clear bi pf FW;cases q with
   | true=>
     obtain⟨ei,hst⟩:=SJ.out rfl;have h1I:(1:Int)<=(t.size:Int):=by omega
     have fF:(t.extract 1 t.size).size+1=t.size:=by rw[<-aa,aP,List.length_drop,aa];omega
     have HN:Hid (goal=Lz.bM (Lz.jq (Lz.lS (t.extract 1 t.size).data.toList))):=Ih (by rw[HR.out,hst]);clear HR hst SJ KA
     go_wp2_with fail
     go_roundw
     case rel=>exact⟨t.extract 1 t.size,rfl,by omega,HN,aU⟩
     case measure=>simp only[lz];omega
   | false=>
     have HN:Hid (goal=Lz.bM (Lz.jq t.data.toList)):=Ih (by rw[HR.out,KA.out rfl]);clear HR SJ KA
     go_wp2_with fail
     go_loopw [0] (fun v wr=>∃t:ByteArray,v=.string t/\t.size<=s.size/\Hid (goal=Lz.bM (Lz.jq t.data.toList))/\Below w.heap.size w wr) (fun v _=>lz v)
     case atStart=>exact⟨t,rfl,ht,HN,aU⟩
     case round=>
      clear HN aU ht;obtain⟨t,rfl,ht,HR,bi⟩:=hrel;obtain⟨q,bB,bV,pf,FW⟩:=Rp t;have SJ:=Ih bB;have KA:=Ih bV;clear bB bV
      go_upto_region 3 with fail
      go_cut [25] (fun s wx=>s=.bool q/\Below w.heap.size w wx)
      case first=>
       by_cases hz:t.size=0
       ·have Ik:¬(0:Int)<(t.size:Int):=by omega
        have hq:=pf hz;clear pf FW
        go_wp2_with fail
        go_meet;exact⟨by rw[hq],bi⟩
       ·have ei:0<t.size:=by omega
        have In:(0:Int)<(t.size:Int):=by omega
        have hq:=FW ei;obtain⟨m,hm⟩:∃m,t.size=m+1:=⟨t.size-1,by omega⟩;have Pl:(t.size:Int)-1=(m:Int):=by omega
        have wV:(0:Int)<=(m:Int):=by omega
        have RL:(m:Int)<(t.size:Int):=by omega
        have hmN:m<t.size:=by omega
        obtain⟨c,hc⟩:∃c,c=t[m]:=⟨_,rfl⟩;have yI:(t[m].toNat:Int)=(c.toNat:Int):=by rw[hc]
        have hqc:q=decide (c.toNat<=32):=by rw[hq,hc];simp only[hm,Nat.add_sub_cancel]
        have hqI:decide ((c.toNat:Int)<=32)=q:=by rw[hqc];exact decide_eq_decide.2 (by omega)
        have Hm:=Ih hm;clear pf FW hq hqc hc hm
        go_wp2_with fail
        go_meet;exact⟨by first |rfl|rw[hqI],bi⟩
      case rest=>
       obtain⟨rfl,aU⟩:=hcut;clear bi pf FW;cases q with
       | true=>
         obtain⟨ei,hst⟩:=SJ.out rfl;obtain⟨m,hm⟩:∃m,t.size=m+1:=⟨t.size-1,by omega⟩;have Pl:(t.size:Int)-1=(m:Int):=by omega
         have wV:(0:Int)<=(m:Int):=by omega
         have RL:(m:Int)<=(t.size:Int):=by omega
         have fF:(t.extract 0 m).size=m:=by rw[<-aa,dC,List.length_take,aa];omega
         have HN:Hid (goal=Lz.bM (Lz.jq (t.extract 0 m).data.toList)):=Ih (by rw[HR.out,hst,hm,Nat.add_sub_cancel]);have hmt:m<t.size:=by omega
         clear HR hst SJ KA hm
         go_wp2_with fail
         go_roundw
         case rel=>exact⟨t.extract 0 m,rfl,by omega,HN,aU⟩
         case measure=>simp only[lz];omega
       | false=>
         have HN:Hid (goal=Lz.bM t.data.toList):=Ih (by rw[HR.out,KA.out rfl]);clear HR SJ KA
         go_wp2_with fail
         go_loopw [3,4] (fun o v wr=>∃(u:ByteArray) (i:Nat),o=.string u/\v=.int .i64 i/\i<=t.size/\u.size<=i/\Hid (goal=u.data.toList++Lz.bM (t.data.toList.drop i))/\Below w.heap.size w wr) (fun _ v _=>t.size-(intOf v).toNat)
         case atStart=>exact⟨⟨#[]⟩,0,rfl,rfl,Nat.zero_le _,Nat.le_refl _,Ih (by rw[HN.out];rfl),aU⟩
         case round=>
          clear HN aU;obtain⟨u,i,rfl,rfl,hi,hu,HR,bi⟩:=hrel;by_cases aN:i<t.size
          ·have dH:(i:Int)<(t.size:Int):=by omega
           have nP:(0:Int)<=(i:Int):=by omega
           have Lj:(i:Int)+1<=(t.size:Int):=by omega
           obtain⟨c,hc⟩:∃c,c=t[i]:=⟨_,rfl⟩;have yI:(t[i].toNat:Int)=(c.toNat:Int):=by rw[hc]
           have dG:∀k:UInt8,((c.toNat:Int) != (k.toNat:Int))= !(c==k):=fun k=>by rw[bne,jx c k]
           have n9:((c.toNat:Int) != 9)= !(c==9):=dG 9;have n10:((c.toNat:Int) != 10)= !(c==10):=dG 10;have n13:((c.toNat:Int) != 13)= !(c==13):=dG 13
           have hst:Lz.bM (t.data.toList.drop i)=(if !(c==9)&& !(c==10)&& !(c==13)then[c]else[])++Lz.bM (t.data.toList.drop (i+1)):=by
            rw[List.drop_eq_getElem_cons (show i<t.data.toList.length from aN),Lz.MU,hc];rfl
           have hxt:=oM t i aN;rw[<-hc]at hxt;have fF:(t.extract i (i+1)).size=1:=by rw[<-aa,hxt];rfl
           have hua:(u++t.extract i (i+1)).size=u.size+1:=by rw[ByteArray.size_append,fF]
           cases h9:c==9<;>cases Lo:c==10<;>cases pc:c==13<;>rw[h9]at n9 hst<;>rw[Lo]at n10 hst<;>rw[pc]at n13 hst
           case false.false.false=>
            have HN:Hid (goal=(u++t.extract i (i+1)).data.toList++Lz.bM (t.data.toList.drop (i+1))):=Ih (by rw[HR.out,hst,ai,hxt];simp);clear HR hst hxt hc dG h9 Lo pc
            go_wp2_with fail
            go_roundw
            case rel=>exact⟨u++t.extract i (i+1),i+1,by first |rfl|(congr 1),by go_num,by omega,by omega,HN,bi⟩
            case measure=>simp[intOf];omega
           all_goals
            have HN:Hid (goal=u.data.toList++Lz.bM (t.data.toList.drop (i+1))):=Ih (by rw[HR.out,hst];rfl);clear HR hst hxt hc dG h9 Lo pc
            go_wp2_with fail
            go_roundw
            case rel=>exact⟨u,i+1,rfl,by go_num,by omega,by omega,HN,bi⟩
            case measure=>simp[intOf];omega
          ·have dH:¬(i:Int)<(t.size:Int):=by omega
           have HN:Hid (u.data.toList=goal):=Ih (by
            rw[HR.out,List.drop_eq_nil_of_le (show t.data.toList.length<=i by rw[aa];omega)]
            simp[Lz.bM])
           clear HR
           go_wp2_with fail
           go_ret;exact⟨u,rfl,HN,bi⟩
end Go.Proofs.YtlcbhacofagedaaGreatDoor
namespace Lz
open Go
def frR (a:List Nat) (i:Nat) (fr:Int) (mn:Nat):Prop:=fr=(if(gn a i).1=(gn a i).2 then -1 else((gn a i).1:Int))/\mn=max ((gn a i).2-(gn a i).1) 1
theorem M1 (a:List Nat):frR a 0 (-1) 1:=⟨by simp[gn],by simp[gn]⟩
theorem H7 {a:List Nat} {i mn k:Nat} {fr:Int} (h:frR a i fr mn) (hk:bo (a.drop i)=k) (hl:mn<k):frR a (i+1) i k:=by
 obtain⟨_,h2⟩:=h
 have e:gn a (i+1)=(i,i+k):=by
  rw[gn,hk,<-h2,if_pos hl]
 unfold frR;rw[e];constructor
 ·rw[if_neg (by simp;omega)]
 ·simp only;omega
theorem CG {a:List Nat} {i mn k:Nat} {fr:Int} (h:frR a i fr mn) (hk:bo (a.drop i)=k) (hl:¬mn<k):frR a (i+1) fr mn:=by
 have e:gn a (i+1)=gn a i:=by
  rw[gn,hk,<-h.2,if_neg hl]
 unfold frR;rw[e];exact h
def kO (neg:Bool) (o1 o2:Option (List Nat)):Bool:=o1.isSome&&o2.isSome&&(if neg then(o1.getD []).length==8 else decide ((o1.getD []).length+(o2.getD []).length<=7))
theorem QL {s:Bs} {o1 o2:Option (List Nat)} {neg:Bool} (h1:fy (Lib.cut s [58,58]).1 neg=o1) (h2:fy (Lib.cut s [58,58]).2.1 true=o2) (hn:(!(Lib.cut s [58,58]).2.2)=neg):
  ql s=(if kO neg o1 o2 then some (o1.getD []++List.replicate (8-(o1.getD []).length-(o2.getD []).length) 0++o2.getD [])else none)/\(neg=true->o2=some []):=by
 have ic:= @LC s;subst hn;unfold ql;rw[h1,h2];generalize Lib.cut s [58,58]=c at ic h1 h2;obtain⟨f,b,q⟩:=c;simp only at ic h1 h2⊢;cases q
 ·obtain⟨rfl,rfl⟩:=ic rfl;have h0:o2=some []:=by rw[<-h2];rfl
  subst h0;refine⟨?_,fun _=>rfl⟩;cases o1 with
  | none=>rfl
  | some x=>
    by_cases h8:x.length=8
    ·simp[kO,h8]
    ·simp[kO,h8]
 ·refine⟨?_,fun h=>by cases h⟩;cases o1 with
  | none=>rfl
  | some x=>
    cases o2 with
    | none=>rfl
    | some y=>
      by_cases h7:7<x.length+y.length
      ·have h7':¬(x.length+y.length<=7):=by omega
       simp[kO,h7,h7']
      ·have h7':x.length+y.length<=7:=by omega
       simp[kO,h7,h7']
end Lz
namespace Go.Proofs.YtlcbhacofagedaaGreatDoor
open Go.RowKit
attribute [local go_sem ↓] Go.wp_at_zero Go.wp_at_succ
theorem wC (n:Nat) (hn:n<=1099511627776) (w:World) (h:w.cell? ⟨8,15,none⟩=some (.int .u8 4)):Calls Tryz.prog 142 #[.int .i64 n,.int .i64 16] w (gl (Lz.iR 16 n) w):=by
 have cF:=Ih (uW n hn w h);have hw:IntKind.u64.wrap (n:Int)=(n:Int):=IntWalk.u64_in _ (by omega);have sX:(0:Int)<=(n:Int):=by omega
 have oX:¬(n:Int)<0:=by omega
 go_enter Tryz.func142,Tryz.ntmps142
 go_wp2_with fail
 refine(cF.out).mono ?_;rintro e w1 ⟨u,v,rfl,hu,hb⟩
 go_wp2
 go_ret;exact⟨u,rfl,hu,hb⟩
theorem zv (n:Nat) (hn:n<=1099511627776) (w:World) (h:w.cell? ⟨8,15,none⟩=some (.int .u8 4)):Calls Tryz.prog 90 #[.int .i64 n,.int .i64 16] w (gl (Lz.fd n) w):=by
 have cF:=Ih (wC n hn w h);go_enter Tryz.func90,Tryz.ntmps90
 go_wp2_with fail
 refine(cF.out).mono ?_;rintro e w1 ⟨u,rfl,hu,hb⟩
 go_wp2
 go_ret;exact⟨u,rfl,Ih (by rw[hu.out,Lz.xS]),hb⟩
theorem rc {w:World} {base:Nat} {e:TypeId} {size n:Nat} {v:Value} {xs:List Value} (h:w.ownsRow base e size v n xs):∃a c,v=.slice a n c:=by
 rcases h.2 with⟨rfl,rfl⟩|⟨g,cap,ir,rfl,_⟩
 ·exact⟨_,_,rfl⟩
 ·exact⟨_,_,rfl⟩
theorem NO {w:World} {base:Nat} {v:Value} {n:Nat} {l:List Nat} (h:w.ownsRow base 3 1 v n (gC l)) (hn:1<=n):
  ∃g cap,v=.slice (some ⟨g,0,none⟩) n cap/\g<w.heap.size/\∀(j m:Nat),l[j]? =some m->w.cell? ⟨g,j,none⟩=some (.int .i64 (m:Int)):=by
 have hl:l.length=n:=by have:=h.1;simpa [gC]using this
 rcases h.2 with⟨rfl,h0⟩|⟨g,cap,ir,rfl,TF,hg,RH,hcm,iV,gE⟩
 ·omega
 ·refine⟨g,cap,rfl,(Array.getElem?_eq_some_iff.1 hg).1,fun j m hj=>?_⟩;have h2:(gC l)[j]? =some (.int .i64 (m:Int)):=by simp[gC,hj]
  rw[<-gE,List.getElem?_take]at h2;split at h2
  ·simp only[World.cell?,hg];simpa using h2
  ·cases h2
def Ye:Value->Nat
 | .slice _ n _=>n
 | _=>0
def kN (x:List Nat) (m:Nat):List Nat:=x++List.replicate (m-x.length) 0
theorem Ea (x:List Nat):kN x x.length=x:=by simp[kN]
theorem Ft {x:List Nat} {m:Nat} (h:x.length<=m):kN x m++[0]=kN x (m+1):=by
 unfold kN;rw[show m+1-x.length=(m-x.length)+1 by omega,List.replicate_succ',List.append_assoc]
theorem JA {x:List Nat} {m:Nat} (h:x.length<=m):(kN x m).length=m:=by simp[kN];omega
def Yf (o:Option (List Nat)) (w:World) (e:Ending) (w':World):Prop:=
 Below w.heap.size w w'/\match o with
  | some a=>∃u:ByteArray,e=.returned (.tuple #[.string u,.int .i64 0])/\Hid (u.data.toList=Lz.ef a)
  | none=>e=.returned (.tuple #[.string ⟨#[]⟩,.int .i64 72])
theorem I4 (s:ByteArray) (hs:s.size<=90000) (w:World) (hE:de w):Calls Tryz.prog 56 #[.string s] w (Yf (Lz.ql s.data.toList) w):=by
 obtain⟨i0,hi,ig,fs,fk⟩:=info_parts GR;have hws:IntKind.i64.wrap ((s.size:Int)-2)=(s.size:Int)-2:=IntWalk.i64_in _ (by omega);go_enter Tryz.func56,Tryz.ntmps56
 go_wp2_with fail
 go_loopw [4,5] (fun a i wr=>∃(qC z:Int),a=.int .i64 qC/\i=.int .i64 z/\ -2<=z/\z<=(s.size:Int)-2/\ -1<=qC/\qC<=90000/\Hid (qC=Lz.atF s.data.toList (z+1).toNat)/\w=wr) (fun _ i _=>(intOf i+1).toNat)
 case atStart=>exact⟨-1,(s.size:Int)-2,rfl,rfl,by omega,by omega,by omega,by omega,by show _=_;rw[Lz.QE (by rw[aa];omega)],rfl⟩
 case round=>
  obtain⟨qC,z,rfl,rfl,KV,K9,Xg,vO,KN,rfl⟩:=hrel;by_cases hz:0<=z
  ·obtain⟨j,rfl⟩:∃j:Nat,z=j:=⟨z.toNat,by omega⟩;have hj:j+1<s.size:=by omega
   have Aj:j<s.size:=by omega
   have hjI:(j:Int)<(s.size:Int):=by omega
   have acf:(j:Int)+1<(s.size:Int):=by omega
   have Xk:(0:Int)<=(j:Int)+1:=by omega
   have iW:IntKind.i64.wrap ((j:Int)+1)=(j:Int)+1:=IntWalk.i64_in _ (by omega);have oZ:IntKind.i64.wrap ((j:Int)-1)=(j:Int)-1:=IntWalk.i64_in _ (by omega)
   have hst:Hid (Lz.atF s.data.toList j=if(s[j]==58&&s[j+1]==58)=true then(j:Int)else qC):=by
    show _=_;rw[Lz.N4 (show j+1<s.data.toList.length from hj),KN.out];rfl
   obtain⟨c,hc⟩:∃c,c=s[j]:=⟨_,rfl⟩;obtain⟨d,hd⟩:∃d,d=s[j+1]:=⟨_,rfl⟩;have yI:(s[j].toNat:Int)=(c.toNat:Int):=by rw[hc]
   have Xl:(s[j+1].toNat:Int)=(d.toNat:Int):=by rw[hd]
   rw[<-hc,<-hd]at hst;have aC:((c.toNat:Int)==58)=(c==58):=jO c 58;have aU:((d.toNat:Int)==58)=(d==58):=jO d 58;clear hc hd KN;cases h1:(c==58)
   ·rw[h1]at aC;have kU:Hid (qC=Lz.atF s.data.toList j):=by show _=_;rw[hst.out,h1];rfl
    clear h1 hst aU
    go_wp2_with fail
    go_roundw
    case rel=>exact⟨qC,(j:Int)-1,rfl,rfl,by omega,by omega,Xg,vO,by show _=_;rw[kU.out,show((j:Int)-1+1).toNat=j by omega],trivial⟩
    case measure=>simp[intOf]
   ·rw[h1]at aC;cases h2:(d==58)
    ·rw[h2]at aU;have kU:Hid (qC=Lz.atF s.data.toList j):=by show _=_;rw[hst.out,h1,h2];rfl
     clear h1 h2 hst
     go_wp2_with fail
     go_roundw
     case rel=>exact⟨qC,(j:Int)-1,rfl,rfl,by omega,by omega,Xg,vO,by show _=_;rw[kU.out,show((j:Int)-1+1).toNat=j by omega],trivial⟩
     case measure=>simp[intOf]
    ·rw[h2]at aU;have kU:Hid ((j:Int)=Lz.atF s.data.toList j):=by show _=_;rw[hst.out,h1,h2];rfl
     clear h1 h2 hst
     go_wp2_with fail
     go_roundw
     case rel=>exact⟨j,(j:Int)-1,rfl,rfl,by omega,by omega,by omega,by omega,by show _=_;rw[show((j:Int)-1+1).toNat=j by omega];exact kU.out,trivial⟩
     case measure=>simp[intOf]
  ·have Wg:Hid (qC=Lz.atF s.data.toList 0):=by show _=_;rw[KN.out,show(z+1).toNat=0 by omega]
   have Hz1:=Ih KV;have Hz2:=Ih K9;clear KN KV K9
   go_upto_if 39 with fail
   go_cut [6,7] (fun f b wx=>∃fb bb:ByteArray,f=.string fb/\b=.string bb/\fb.size<=90000/\bb.size<=90000/\Hid (fb.data.toList=(Lib.cut s.data.toList [58,58]).1)/\Hid (bb.data.toList=(Lib.cut s.data.toList [58,58]).2.1)/\Hid ((!(Lib.cut s.data.toList [58,58]).2.2)=decide (qC<0))/\Below w.heap.size w wx)
   case first=>
    rcases Lz.P0 s.data.toList with⟨h0,hcut⟩|⟨p,h0,hp,hcut⟩
    ·have Dm:¬(0:Int)<=qC:=by rw[Wg.out,h0];decide
     have O4:Hid (qC<0):=by show _<_;omega
     have Gi:=Ih hcut;clear h0 hcut
     go_wp2_with fail
     go_meet;exact⟨s,⟨#[]⟩,rfl,rfl,hs,Nat.zero_le _,by show _=_;rw[Gi.out],by show _=_;(rw[Gi.out])<;>rfl,by show _=_;(rw[Gi.out,decide_eq_true O4.out])<;>rfl,Below.refl _ w⟩
    ·obtain rfl:qC=(p:Int):=by rw[Wg.out,h0]
     have Av:p+2<=s.size:=by rw[<-aa];exact hp
     have Dm:(0:Int)<=(p:Int):=by omega
     have hpw:IntKind.i64.wrap ((p:Int)+2)=(p:Int)+2:=IntWalk.i64_in _ (by omega);have hp3:(p:Int)<=(s.size:Int):=by omega
     have hp4:(p:Int)+2<=(s.size:Int):=by omega
     have hp5:(0:Int)<=(p:Int)+2:=by omega
     have Gi:=Ih hcut;clear h0 hcut hp
     go_wp2_with fail
     go_quiet (fail)
     go_wp2_with fail
     go_meet;exact⟨_,_,rfl,rfl,by rw[<-aa,Lib.extract_data,List.length_take];omega,by rw[<-aa,Lib.extract_data,List.length_take];omega,by show _=_;rw[Gi.out,Lib.extract_data,List.drop_zero,Nat.sub_zero],by show _=_;rw[Gi.out,Lib.extract_data,List.take_of_length_le (by rw[List.length_drop,aa];exact Nat.le_refl _)],by show _=_;(rw[Gi.out,decide_eq_false (by omega)])<;>rfl,by first |exact⟨rfl,rfl,rfl,Nat.le_refl _,fun _ _=>rfl⟩|exact Below.refl _ w⟩
   case rest=>
   obtain⟨fb,bb,rfl,rfl,hfz,Ai,hfb,qy,hng,Pn⟩:=hcut;have Y9:=Pn.size;have c1:=Ih (pH fb (decide (qC<0)) (by omega) wc (hE.below Pn));obtain⟨o1,oW⟩:∃o,o=Lz.fy fb.data.toList (decide (qC<0)):=⟨_,rfl⟩;obtain⟨o2,sB⟩:∃o,o=Lz.fy bb.data.toList true:=⟨_,rfl⟩;rw[<-oW]at c1;have l6:=Lz.QL (s:=s.data.toList) (o1:=o1) (o2:=o2) (neg:=decide (qC<0)) (by rw[<-hfb.out,oW]) (by rw[<-qy.out,sB]) hng.out
   have fF:∀n∈o1.getD [],n<=1099511627776:=by
    cases e:o1 with
    | none=>simp
    | some x=>exact(Lz.qo (oW.symm.trans e)).2
   have sS:∀n∈o2.getD [],n<=1099511627776:=by
    cases e:o2 with
    | none=>simp
    | some x=>exact(Lz.qo (sB.symm.trans e)).2
   have VP:(o1.getD []).length<=100000:=by
    cases e:o1 with
    | none=>simp
    | some x=>have:=(Lz.qo (oW.symm.trans e)).1;rw[aa]at this;simp only[Option.getD_some];omega
   have DR:(o2.getD []).length<=100000:=by
    cases e:o2 with
    | none=>simp
    | some x=>have:=(Lz.qo (sB.symm.trans e)).1;rw[aa]at this;simp only[Option.getD_some];omega
   have FX:=Ih l6;have WW:=Ih fF;have WT:=Ih sS;have Xt:=Ih sB;clear l6 fF sS hfb qy hng oW sB Wg
   go_wp2_with fail
   refine c1.out.mono ?_;rintro e w1 ⟨v1,rfl,gS,aC⟩;have W9:=ac Pn aC;have c2:=pH bb true (by omega) w1 (hE.below W9);rw[<-Xt.out]at c2;have C2:=Ih c2;obtain⟨a1,p1,rfl⟩:=rc gS;have eK:=Ih gS;clear c2 c1 gS
   go_wp2_with fail
   refine C2.out.mono ?_;rintro e w2 ⟨v2,rfl,eI,aU⟩;obtain⟨a2,p2,rfl⟩:=rc eI
   have R6:∀g,(Value.slice a1 (o1.getD []).length p1).ownBlock=some g->(Value.slice a2 (o2.getD []).length p2).ownBlock≠some g:=fun g h h2=>by
    have h3:=(eK.out.lt g h).2;have h4:=(eI.lt g h2).1;omega
   have Hap:=Ih R6;have OQ:=Ih (dm eK.out aU);have ft:=Ih eI;have fw:=ac W9 aU;clear eI C2 eK R6;obtain⟨q,hq⟩:∃q,q= !Lz.kO (decide (qC<0)) o1 o2:=⟨_,rfl⟩;have Hq:=Ih hq;clear hq
   go_upto_region 12 with fail
   go_cut [85] (fun c wx=>c=.bool q/\w2=wx)
   case first=>
    have wQ:∀b:Bool,decide (qC<0)=b->(b=true->qC<0)/\(b=false->¬qC<0/\0<=qC):=by
     intro b hb;subst hb;refine⟨fun h=>of_decide_eq_true h,fun h=>?_⟩;have:=of_decide_eq_false h;exact⟨this,by omega⟩
    cases o1 with
    | none=>
      have HQ:Hid (q=true):=by show _=_;rw[Hq.out];rfl
      clear wQ
      go_wp2_with fail
      go_meet;exact⟨by rw[HQ.out],rfl⟩
    | some x=>
      cases o2 with
      | none=>
        have HQ:Hid (q=true):=by show _=_;rw[Hq.out];rfl
        clear wQ
        go_wp2_with fail
        go_meet;exact⟨by rw[HQ.out],rfl⟩
      | some y=>
        have vR:x.length<=100000:=VP;have Pg:y.length<=100000:=DR;have Z7:IntKind.i64.wrap ((x.length:Int)+(y.length:Int))=(x.length:Int)+(y.length:Int):=IntWalk.i64_in _ (by omega);by_cases Dm:qC<0
        ·have O4:¬0<=qC:=by omega
         by_cases h8:x.length=8
         ·have h8I:((x.length:Int) != 8)=false:=by simp;omega
          have SL:y.length=0:=by
           have:=FX.out.2 (decide_eq_true Dm);rw[Option.some.inj this];rfl
          have h7:(7:Int)<(x.length:Int)+(y.length:Int):=by omega
          have HQ:Hid (q=false):=by show _=_;rw[Hq.out];simp[Lz.kO,Dm,h8]
          have Hy0:=Ih SL;have H8:=Ih h8;clear wQ h8 SL
          go_wp2_with fail
          go_meet;exact⟨by rw[HQ.out],rfl⟩
         ·have h8I:((x.length:Int) != 8)=true:=by simp;omega
          have HQ:Hid (q=true):=by show _=_;rw[Hq.out];simp[Lz.kO,Dm,h8]
          clear wQ
          go_wp2_with fail
          go_meet;exact⟨by rw[HQ.out],rfl⟩
        ·have O4:0<=qC:=by omega
         by_cases h7:7<x.length+y.length
         ·have h7I:(7:Int)<(x.length:Int)+(y.length:Int):=by omega
          have HQ:Hid (q=true):=by show _=_;rw[Hq.out];simp[Lz.kO,Dm];omega
          clear wQ
          go_wp2_with fail
          go_meet;exact⟨by rw[HQ.out],rfl⟩
         ·have h7I:¬(7:Int)<(x.length:Int)+(y.length:Int):=by omega
          have HQ:Hid (q=false):=by show _=_;rw[Hq.out];simp[Lz.kO,Dm];omega
          clear wQ
          go_wp2_with fail
          go_meet;exact⟨by rw[HQ.out],rfl⟩
   case rest=>
   obtain⟨rfl,rfl⟩:=hcut;cases q
   ·obtain⟨x,hx⟩:∃x,x=o1.getD []:=⟨_,rfl⟩;obtain⟨y,hy⟩:∃y,y=o2.getD []:=⟨_,rfl⟩
    have WN:Lz.kO (decide (qC<0)) o1 o2=true:=by
     have:=Hq.out;cases h:Lz.kO (decide (qC<0)) o1 o2
     ·rw[h]at this;cases this
     ·rfl
    have abW:x.length+y.length<=8:=by
     have h:=WN;unfold Lz.kO at h;rw[<-hx,<-hy]at h;cases hb:decide (qC<0)
     ·rw[hb]at h;simp only[Bool.and_eq_true,if_neg (show ¬(false=true) by decide),decide_eq_true_eq]at h;omega
     ·have h2:=FX.out.2 hb;rw[hb]at h;rw[h2]at hy;simp only[Bool.and_eq_true,if_pos,beq_iff_eq]at h;rw[hy];simp;omega
    have HS:Hid (Lz.ql s.data.toList=some (x++List.replicate (8-x.length-y.length) 0++y)):=by
     show _=_;rw[FX.out.1,if_pos WN,hx,hy]
    have gS:=OQ.out;have eI:=ft.out;rw[<-hx]at gS WW VP;rw[<-hy]at eI WT DR;have R6:=Hap.out;rw[show(o1.getD []).length=x.length by rw[hx],show(o2.getD []).length=y.length by rw[hy]]at R6⊢;have ach:=W9.size;have abt:=fw.size;have h1c:w1.heap.size<=w2.heap.size:=aU.size;have Hx:=Ih hx;have Hy:=Ih hy;have Hs1:=Ih gS;have Hs2:=Ih eI;have Hsa:=Ih R6;clear hx hy WN gS eI FX Hq Hap OQ ft R6 VP DR Xt
    go_wp2_with fail
    go_loopw [8] (fun v wr=>∃(m:Nat) (a:Option Addr) (c:Nat),v=.slice a m c/\x.length<=m/\m+y.length<=8/\Hid (wr.ownsRow wc.heap.size 3 1 (.slice a m c) m (gC (kN x m)))/\Hid (wr.ownsRow w1.heap.size 3 1 (.slice a2 y.length p2) y.length (gC y))/\Hid (∀g,(Value.slice a m c).ownBlock=some g->(Value.slice a2 y.length p2).ownBlock≠some g)/\w1.heap.size<=wr.heap.size/\Below wc.heap.size wc wr) (fun v _=>8-Ye v)
    case atStart=>exact⟨x.length,a1,p1,rfl,Nat.le_refl _,abW,Ih (by rw[Ea];exact Hs1.out),Hs2,Hsa,h1c,ac aC aU⟩
    case round=>
     clear Hs1 Hs2 Hsa;obtain⟨m,a,c,rfl,vG,rF,ho,sB,hsa,acq,hb⟩:=hrel;have dV:=hb.size;have hmw:IntKind.i64.wrap ((m:Int)+(y.length:Int))=(m:Int)+(y.length:Int):=IntWalk.i64_in _ (by omega);by_cases hl:m+y.length<8
     ·have hlI:(m:Int)+(y.length:Int)<8:=by omega
      go_wp2_with (at_builtin;refine wpList_append_own_at _ rfl (.tmp 92) (.tmp 93) 95 rfl wc.heap.size 3 i0 (.int .i64 0) 1 8 Tryz.underlying95 hi ig fs fk rfl (by decide) _ _ _ rfl (ho.out.alloc _) ⟨wr.heap.size,0,none⟩ 1 1 [.int .i64 0] rfl rfl (aY _ _ _) (by simp[Value.oneCell']) (by unfold maxLen;omega) (by omega) (by simp;omega) ?_)
      intro v' w4 aE aV _ KN;have ex:Below wc.heap.size wc w4:=Below.grown1 hb ho.out aV dV (Nat.le_refl _);obtain⟨a',c',rfl⟩:=rc aE
      have ho4:Hid (w4.ownsRow w1.heap.size 3 1 (.slice a2 y.length p2) y.length (gC y)):=by
       refine(sB.out.alloc _).kept aV ?_;cases he:(Value.slice a2 y.length p2).ownBlock with
       | none=>exact Or.inl rfl
       | some g=>exact Or.inr (fun h=>hsa.out g h.symm he)
      have abm:Hid (∀g,(Value.slice a' (m+1) c').ownBlock=some g->(Value.slice a2 y.length p2).ownBlock≠some g):=by
       intro g hg wZ;rcases KN with h|h
       ·exact hsa.out g (h.symm.trans hg) wZ
       ·have h5:=(sB.out.lt g wZ).2;rw[hg]at h;have h6:g=wr.heap.size+1:=by have:=Option.some.inj h;simpa using this
        omega
      have hz4:w1.heap.size<=w4.heap.size:=by
       have:=aV.size
       simp at this
       omega
      have lW:Hid (w4.ownsRow wc.heap.size 3 1 (.slice a' (m+1) c') (m+1) (gC (kN x (m+1)))):=by
       show _;rw[<-Ft vG,<-yw];exact aE
      clear aE aV KN
      go_wp2
      go_roundw
      case rel=>exact⟨m+1,a',c',rfl,by omega,by omega,lW,ho4,abm,hz4,ex⟩
      case measure=>simp[Ye];omega
     ·have hlI:¬(m:Int)+(y.length:Int)<8:=by omega
      have Tx:m+y.length=8:=by omega
      obtain⟨A,hA⟩:∃A,A=kN x m++y:=⟨_,rfl⟩;have hAl:A.length=8:=by rw[hA,List.length_append,JA vG];exact Tx
      have xa:Hid (Lz.ql s.data.toList=some A):=by
       show _=_;rw[HS.out,hA];unfold kN;rw[show m-x.length=8-x.length-y.length by omega]
      have hAb:Hid (∀n∈A,n<=1099511627776):=by
       show ∀n∈A,n<=1099511627776;intro n hn;rw[hA]at hn;unfold kN at hn;rcases List.mem_append.1 hn with h|h
       ·rcases List.mem_append.1 h with h|h
        ·exact WW.out n h
        ·rw[(List.mem_replicate.1 h).2];omega
       ·exact WT.out n h
      have hyb:=WT;have HA:=Ih hA;clear HS hA Hx Hy WW
      go_upto_region 16 with fail
      go_cut [8] (fun v wx=>wx.ownsRow w.heap.size 3 1 v 8 (gC A)/\Below w.heap.size w wx)
      case first=>
       cases a2 with
       | none=>
         have SL:y=[]:=by
          rcases sB.out.2 with⟨_,h⟩|⟨g,cap,ir,h,_⟩
          ·exact List.length_eq_zero_iff.1 h
          ·cases h
         have Z3:p2=0:=by
          rcases sB.out.2 with⟨h,_⟩|⟨g,cap,ir,h,_⟩
          ·injection h
          ·cases h
         subst SL;subst Z3
         have nj:wr.ownsRow wc.heap.size 3 1 (.slice a m c) 8 (gC A):=by
          have:=ho.out;rw[HA.out,List.append_nil]
          simp at Tx
          rw[<-Tx];exact this
         have SH:=Ih nj;clear nj
         go_wp2_with (at_builtin;refine wpList_append_own_none rfl (.tmp 95) (.tmp 96) 95 rfl wc.heap.size 3 i0 1 Tryz.underlying95 hi _ _ _ rfl ho.out rfl ?_)
         go_wp2
         go_meet;exact⟨lu SH.out Y9,ac Pn hb⟩
       | some ad=>
         obtain⟨g2,rfl⟩:∃g,ad=⟨g,0,none⟩:=by
          rcases sB.out.2 with⟨h,_⟩|⟨g,cap,ir,h,_⟩
          ·cases h
          ·injection h with h1;exact⟨g,Option.some.inj h1⟩
         have aO:∀j u,(gC y)[j]? =some u->wr.cell? ((⟨g2,0,none⟩:Addr).add j)=some u:=by
          intro j u hj;rw[fa];have jR:j<y.length:=by have:=(List.getElem?_eq_some_iff.1 hj).1;simpa [gC]using this
          rw[sB.out.cellAt j (by omega)];exact hj
         have Hc:=Ih aO;clear aO
         go_wp2_with (at_builtin;refine wpList_append_own _ rfl (.tmp 95) (.tmp 96) 95 rfl wc.heap.size 3 i0 (.int .i64 0) 1 8 Tryz.underlying95 hi ig fs fk rfl (by decide) _ _ _ rfl ho.out ⟨g2,0,none⟩ y.length p2 (gC y) rfl (by simp[gC]) Hc.out (by simp[gC,Value.oneCell']) (by unfold maxLen;omega) (by omega) dV ?_)
         intro v' w4 aE aV _;have ex:Below wc.heap.size wc w4:=hb.grown aV dV (fun k hk=>(ho.out.lt k hk).1)
         have lW:Hid (w4.ownsRow wc.heap.size 3 1 v' 8 (gC A)):=by
          show _;have h:=aE;rw[show gC (kN x m)++gC y=gC A by rw[HA.out];simp[gC]]at h;exact h
         clear aE aV
         go_wp2
         go_meet;exact⟨lu lW.out Y9,ac Pn ex⟩
      case rest=>
      obtain⟨aQ,bi⟩:=hcut;obtain⟨g,cap,rfl,Dn,aO⟩:=NO aQ (by decide);have Hc:=Ih aO;have Zy:=hE.below bi;have yA:=Ih hAl;clear aQ aO hAl HA
      go_wp2_with fail
      go_loopw [12,13,14] (fun f mm i wr=>∃(fr:Int) (mn k:Nat),f=.int .i64 fr/\mm=.int .i64 mn/\i=.int .i64 k/\k<=8/\mn<=100/\Hid (Lz.frR A k fr mn)/\wc=wr) (fun _ _ i _=>8-(intOf i).toNat)
      case atStart=>exact⟨-1,1,0,rfl,rfl,rfl,by omega,by omega,Ih (Lz.M1 A),rfl⟩
      case round=>
       obtain⟨fr,mn,k,rfl,rfl,rfl,hk,Tw,sD,rfl⟩:=hrel;by_cases XI:k<8
       ·have TC:(k:Int)<8:=by omega
        go_wp2_with fail
        go_loopw [15] (fun kk wr=>∃m:Nat,kk=.int .i64 m/\k+m<=8/\Hid (m<=Lz.bo (A.drop k))/\wc=wr) (fun kk _=>8-(intOf kk).toNat)
        case atStart=>exact⟨0,rfl,by omega,Ih (Nat.zero_le _),rfl⟩
        case round=>
         obtain⟨m,rfl,hm,Ty,rfl⟩:=hrel;have iW:IntKind.i64.wrap ((k:Int)+(m:Int))=(k:Int)+(m:Int):=IntWalk.i64_in _ (by omega);by_cases aN:k+m<8
         ·obtain⟨n,hn⟩:∃n,A[k+m]? =some n:=⟨_,List.getElem?_eq_getElem (by rw[yA.out];exact aN)⟩;have hc:=Hc.out (k+m) n hn;have abJ:(k:Int)+(m:Int)<8:=by omega
          have ack:(0:Int)<=(k:Int)+(m:Int):=by omega
          by_cases h0:n=0
          ·subst h0;have abg:=Ih (Lz.M7 Ty.out hn);clear hn Ty
           go_wp2_with fail
           go_roundw
           case rel=>exact⟨m+1,by go_num,by omega,abg,trivial⟩
           case measure=>simp[intOf];omega
          ·have sX:((n:Int)==0)=false:=by simp;omega
           have HZ:=Lz.I6 Ty.out hn h0;by_cases OR:mn<m
           ·have Pl:(mn:Int)<(m:Int):=by omega
            have Gm:=Ih (Lz.H7 sD.out HZ OR);clear hn HZ sD Ty
            go_wp2_with fail
            go_roundw
            case rel=>exact⟨k,m,k+1,rfl,rfl,by go_num,by omega,by omega,Gm,trivial⟩
            case measure=>simp[intOf];omega
           ·have Pl:¬(mn:Int)<(m:Int):=by omega
            have Gm:=Ih (Lz.CG sD.out HZ OR);clear hn HZ sD Ty
            go_wp2_with fail
            go_roundw
            case rel=>exact⟨fr,mn,k+1,rfl,rfl,by go_num,by omega,by omega,Gm,trivial⟩
            case measure=>simp[intOf];omega
         ·have abJ:¬(k:Int)+(m:Int)<8:=by omega
          have HZ:=Lz.EZ Ty.out (by rw[yA.out];omega);by_cases OR:mn<m
          ·have Pl:(mn:Int)<(m:Int):=by omega
           have Gm:=Ih (Lz.H7 sD.out HZ OR);clear HZ sD Ty
           go_wp2_with fail
           go_roundw
           case rel=>exact⟨k,m,k+1,rfl,rfl,by go_num,by omega,by omega,Gm,trivial⟩
           case measure=>simp[intOf];omega
          ·have Pl:¬(mn:Int)<(m:Int):=by omega
           have Gm:=Ih (Lz.CG sD.out HZ OR);clear HZ sD Ty
           go_wp2_with fail
           go_roundw
           case rel=>exact⟨fr,mn,k+1,rfl,rfl,by go_num,by omega,by omega,Gm,trivial⟩
           case measure=>simp[intOf];omega
       ·have TC:¬(k:Int)<8:=by omega
        obtain⟨p,q,Sw⟩:∃p q,Lz.gn A A.length=(p,q):=⟨_,_,rfl⟩;have OM:=Lz.yK A A.length (Nat.le_refl _);have OB:=Lz.Kz A;have KQ:=sD.out;rw[show k=A.length by rw[yA.out];omega]at KQ;unfold Lz.frR at KQ;rw[Sw]at OM OB KQ;simp only at OM OB KQ;rw[yA.out]at OM OB;have abP:=Ih OB;have abQ:=Ih OM;have XF:=Ih KQ;clear OB OM KQ Sw sD
        go_wp2_with fail
        go_loopw [16,17] (fun o i wr=>∃(u:ByteArray) (k:Nat),o=.string u/\i=.int .i64 k/\k<=8/\u.size<=20*k/\Hid (u.data.toList=Lz.gq A p q k)/\Hid (p=q\/k<=p\/(p<q/\q<=k))/\Below wc.heap.size wc wr) (fun _ i _=>8-(intOf i).toNat)
        case atStart=>exact⟨⟨#[]⟩,0,rfl,rfl,by omega,Nat.le_refl _,by show _=_;(rw[Lz.D5])<;>rfl,Ih (by omega),Below.refl _ _⟩
        case round=>
         clear TC hk;obtain⟨u,j,rfl,rfl,hj,Sb,hu,hjp,hb⟩:=hrel;have So:=ac bi hb;by_cases hj8:j<8
         ·have hjI:(j:Int)<8:=by omega
          by_cases K8:p≠q/\j=p
          ·have ZU:((j:Int)==fr)=true:=by rw[XF.out.1,if_neg K8.1,K8.2];simp
           have Sw:p+2<=q/\q<=8:=by have:=abQ.out;omega
           have abh:mn=q-p:=by rw[XF.out.2];omega
           have iW:IntKind.i64.wrap ((j:Int)+(mn:Int))=(j:Int)+(mn:Int):=IntWalk.i64_in _ (by omega);have oZ:IntKind.i64.wrap ((j:Int)+(mn:Int)-1)=(j:Int)+(mn:Int)-1:=IntWalk.i64_in _ (by omega);have ic:¬(9223372036854775807<u.size+2):=by omega
           have nK:Hid (u.data.toList++[58,58]=Lz.gq A p q q):=by
            show _=_;rw[Lz.EN (by omega),hu.out,K8.2]
           have bV:(q:Int)=(j:Int)+(mn:Int)-1+1:=by omega
           have Di:u.size+2<=20*q:=by omega
           have hjq:j<q:=by omega
           have KA:=Ih bV;have Hpq:=Ih Sw;clear K8 abh bV Sw
           go_wp2_with fail
           go_roundw
           case rel=>
            refine⟨u++⟨#[58,58]⟩,q,rfl,?_,Hpq.out.2,by rw[ByteArray.size_append];exact Di,by show _=_;rw[ai];exact nK.out,Ih (by have:=Hpq.out;omega),hb⟩;have:=KA.out
            go_num
           case measure=>have bV:=KA.out;simp[intOf]<;>omega
          ·have ZU:((j:Int)==fr)=false:=by
            rw[XF.out.1];by_cases Sw:p=q
            ·rw[if_pos Sw,beq_eq_false_iff_ne];omega
            ·rw[if_neg Sw,beq_eq_false_iff_ne];intro h;exact K8 ⟨Sw,by omega⟩
           have hst:p=q\/j<p\/(p<q/\q<=j):=by have:=hjp.out;omega
           have hos:=Lz.FN (a:=A) (p:=p) (q:=q) (i:=j) (by rw[yA.out];exact hj8) hst;obtain⟨n,hn⟩:∃n,A[j]? =some n:=⟨_,List.getElem?_eq_getElem (by rw[yA.out];exact hj8)⟩;have xe:=hAb.out n (List.mem_of_getElem? hn);have hc:wr.cell? ⟨g,j,none⟩=some (.int .i64 (n:Int)):=by rw[hb.cell (p:=⟨g,j,none⟩) Dn];exact Hc.out j n hn
           rw[show A.getD j 0=n by rw[List.getD_eq_getElem?_getD,hn];rfl,<-hu.out]at hos;obtain⟨b,pd⟩:∃b,b=Lz.D0 u.data.toList:=⟨_,rfl⟩;rw[<-pd]at hos;have cF:=Ih (zv n xe wr (Zy.below hb).db16);have Hos:=Ih hos;have fQ:=Ih hst;have Hbq:=Ih pd;clear hos hst hn hjp K8 hu pd
           go_upto_region 33 with fail
           go_cut [144] (fun c wx=>c=.bool b/\wr=wx)
           case first=>
            by_cases hz:u.size=0
            ·have he:=ak hz
             have HB:Hid (b=false):=by
              show _=_;rw[Hbq.out];have:u.data.toList=[]:=List.length_eq_zero_iff.1 hz;unfold Lz.D0;rw[this];rfl
             have Hz:=Ih hz;clear hz
             go_wp2_with fail
             go_meet;exact⟨by rw[HB.out],rfl⟩
            ·have he:=aj (s:=u) (by omega);obtain⟨n1,oX⟩:∃n1,n1=u.size-1:=⟨_,rfl⟩;have WK:n1<u.size:=by omega
             have hwn:IntKind.i64.wrap ((u.size:Int)-1)=(n1:Int):=by rw[show(u.size:Int)-1=(n1:Int) by omega];exact IntWalk.i64_in _ (by omega)
             have abS:(0:Int)<=(n1:Int):=by omega
             have abu:(n1:Int)<(u.size:Int):=by omega
             obtain⟨d,hd⟩:∃d,d=u[n1]:=⟨_,rfl⟩;have Xl:(u[n1].toNat:Int)=(d.toNat:Int):=by rw[hd]
             have Gj:u.data.toList.getLast? =some d:=by
              rw[List.getLast?_eq_getElem?,aa,<-oX,aw WK,hd]
             have hB:b= !(d==58):=by
              rw[Hbq.out];unfold Lz.D0
              have Zb:u.data.toList.isEmpty=false:=by
               cases e:u.data.toList with
               | nil=>rw[e]at Gj;cases Gj
               | cons _ _=>rfl
              rw[Zb,Gj];rfl
             have dG:((d.toNat:Int) != 58)=b:=by
              rw[hB];show(!((d.toNat:Int)==58))=_;rw[show((d.toNat:Int)==58)=(d==58)from jO d 58]
             have Hn1:=Ih oX;clear hB Gj hd oX hz
             go_wp2_with fail
             go_meet;exact⟨by first |rfl|rw[dG],rfl⟩
           case rest=>
           obtain⟨rfl,rfl⟩:=hcut;clear Hbq
           go_upto_if 144 with fail
           go_cut [16] (fun o wx=>∃u2:ByteArray,o=.string u2/\u2.size<=u.size+1/\Hid (u2.data.toList=u.data.toList++(if b then[58]else[]))/\wr=wx)
           case first=>
            cases b
            ·go_wp2_with fail
             go_meet;exact⟨u,rfl,by omega,by show _=_;simp,rfl⟩
            ·have ic:¬(9223372036854775807<u.size+1):=by omega
             go_wp2_with fail
             go_meet;exact⟨u++⟨#[58]⟩,rfl,by rw[ByteArray.size_append];exact Nat.le_refl _,by show _=_;rw[ai];rfl,rfl⟩
           case rest=>
           obtain⟨u2,rfl,acy,nK,rfl⟩:=hcut
           go_wp2_with fail
           refine cF.out.mono ?_;rintro e w5 ⟨t,rfl,ht,dB⟩;have AG:t.size<=11:=by rw[<-aa,ht.out];exact Lz.qt 10 n (by omega)
           have ic:¬(9223372036854775807<u2.size+t.size):=by omega
           have kW:=ac hb dB
           go_wp2_with fail
           go_roundw
           case rel=>
            refine⟨u2++t,j+1,rfl,by go_num,by omega,by rw[ByteArray.size_append];omega,?_,Ih (by have:=fQ.out;omega),kW⟩;show _=_;rw[Hos.out,ai,nK.out,ht.out]
           case measure=>simp[intOf];omega
         ·have hjI:¬(j:Int)<8:=by omega
          have HU:Hid (u.data.toList=Lz.ef A):=by
           show _=_;rw[hu.out,show j=8 by omega,abP.out]
          go_wp2_with fail
          go_ret2
          rw[xa.out];exact⟨So,u,rfl,HU⟩
   ·have HN:Hid (Lz.ql s.data.toList=none):=by
     show _=_;rw[FX.out.1,if_neg];intro h;have:=Hq.out;rw[h]at this;cases this
    go_wp2_with fail
    go_ret2
    rw[HN.out];exact⟨fw,rfl⟩
end Go.Proofs.YtlcbhacofagedaaGreatDoor
namespace Lz
open Go
def qY (s:Bs):Option Bs:=if s.length<2\/s.getLast? ≠some 93 then none else(ql ((s.drop 1).dropLast)).map fun a=>[91]++ef a++[93]
theorem M8 {s:Bs} (h:s[0]? =some 91):ipR s=match qY s with|some t=>decide (t=s)|none=>false:=by
 unfold ipR qY;rw[if_pos h];split
 ·rfl
 ·cases ql ((s.drop 1).dropLast)<;>rfl
theorem MP {s:Bs} (h:s[0]? ≠some 91):ipR s=Jc s:=by
 unfold ipR;rw[if_neg h]
end Lz
namespace Go.Proofs.YtlcbhacofagedaaGreatDoor
open Go.RowKit
attribute [local go_sem ↓] Go.wp_at_zero Go.wp_at_succ
def YK (o:Option (List UInt8)) (w:World) (e:Ending) (w':World):Prop:=
 Below w.heap.size w w'/\match o with
  | some t=>∃u:ByteArray,e=.returned (.tuple #[.string u,.int .i64 0])/\Hid (u.data.toList=t)
  | none=>e=.returned (.tuple #[.string ⟨#[]⟩,.int .i64 72])
theorem qr (s:ByteArray) (sp:Bool) (hs:s.size<=90000) (h0:s.data.toList[0]? =some 91) (w:World) (hE:de w):Calls Tryz.prog 28 #[.string s,.bool sp] w (YK (Lz.qY s.data.toList) w):=by
 have ei:0<s.size:=by
  have:=(List.getElem?_eq_some_iff.1 h0).1;exact this
 have In:(0:Int)<(s.size:Int):=by omega
 have tK:s[0]=91:=by
  have:=aw ei;rw[h0]at this;exact(Option.some.inj this).symm
 have ek:((s[0].toNat:Int)==91)=true:=by rw[tK];rfl
 have H0:=Ih h0;have Hs0:=Ih tK;clear h0 tK;have SC:=Below.refl w.heap.size w;by_cases h2:s.size<2
 ·have RM:(s.size:Int)<2:=by omega
  have HN:Hid (Lz.qY s.data.toList=none):=by
   show _=_;unfold Lz.qY;rw[if_pos (Or.inl (by rw[aa];exact h2))]
  go_enter Tryz.func28,Tryz.ntmps28
  go_wp2_with fail
  go_ret2
  rw[HN.out];exact⟨SC,rfl⟩
 ·have RM:¬(s.size:Int)<2:=by omega
  obtain⟨n1,oX⟩:∃n1,n1=s.size-1:=⟨_,rfl⟩;have WK:n1<s.size:=by omega
  have hwn:IntKind.i64.wrap ((s.size:Int)-1)=(n1:Int):=by rw[show(s.size:Int)-1=(n1:Int) by omega];exact IntWalk.i64_in _ (by omega)
  have abS:(0:Int)<=(n1:Int):=by omega
  have abu:(n1:Int)<(s.size:Int):=by omega
  have acS:(1:Int)<=(n1:Int):=by omega
  have acD:(n1:Int)<=(s.size:Int):=by omega
  obtain⟨d,hd⟩:∃d,d=s[n1]:=⟨_,rfl⟩;have Xl:(s[n1].toNat:Int)=(d.toNat:Int):=by rw[hd]
  have Gj:s.data.toList.getLast? =some d:=by
   rw[List.getLast?_eq_getElem?,aa,<-oX,aw WK,hd]
  have Pa:(s.extract 1 n1).data.toList=(s.data.toList.drop 1).dropLast:=by
   rw[Lib.extract_data,List.dropLast_eq_take,List.length_drop,aa,oX]
  have Hgl:=Ih Gj;have Hex:=Ih Pa;have Hn1:=Ih oX;clear hd Gj Pa oX;have SK:((d.toNat:Int)==93)=(d==93):=jO d 93;cases hq:(d==93)
  ·have hdn:((d.toNat:Int) != 93)=true:=by
    show(!((d.toNat:Int)==93))=_;rw[SK,hq];rfl
   have HN:Hid (Lz.qY s.data.toList=none):=by
    show _=_;unfold Lz.qY;rw[if_pos (Or.inr (by rw[Hgl.out];intro h;have:=Option.some.inj h;rw[this]at hq;cases hq))]
   clear SK hq;go_enter Tryz.func28,Tryz.ntmps28
   go_wp2_with fail
   go_ret2
   rw[HN.out];exact⟨SC,rfl⟩
  ·have hdn:((d.toNat:Int) != 93)=false:=by
    show(!((d.toNat:Int)==93))=_;rw[SK,hq];rfl
   have HN:Hid (Lz.qY s.data.toList=(Lz.ql (s.extract 1 n1).data.toList).map fun a=>[91]++Lz.ef a++[93]):=by
    show _=_;unfold Lz.qY;rw[if_neg,Hex.out];rw[Hgl.out,aa];rintro(h|h)
    ·exact h2 h
    ·exact h (by rw[eq_of_beq hq])
   have cS:=I4 (s.extract 1 n1) (by rw[<-aa,Lib.extract_data,List.length_take,List.length_drop,aa];omega) w hE
   have bv:∀a,Lz.ql (s.extract 1 n1).data.toList=some a->(Lz.ef a).length<=1000:=by
    intro a ha;rw[Lz.zq]at ha;obtain⟨h8,hl⟩:=Lz.oP ha;have:=Bt a h8 hl;omega
   generalize Lz.ql (s.extract 1 n1).data.toList=o at cS HN bv;have CS:=Ih cS;have kS:=Ih bv;clear cS bv SK hq;go_enter Tryz.func28,Tryz.ntmps28
   go_wp2_with fail
   refine CS.out.mono ?_;rintro e w1 ⟨hb,bt⟩;cases o with
   | none=>
     obtain rfl:=bt
     go_wp2_with fail
     go_ret2
     rw[HN.out];exact⟨hb,rfl⟩
   | some a=>
     obtain⟨u,rfl,hu⟩:=bt;have Sb:u.size<=1000:=by rw[<-aa,hu.out];exact kS.out a rfl
     have acp:¬(9223372036854775807<1+u.size):=by omega
     have acN:¬(9223372036854775807<1+u.size+1):=by omega
     go_wp2_with fail
     go_ret2
     rw[HN.out];refine⟨hb,_,rfl,?_⟩;show _=_
     (rw[ai,ai,hu.out])<;>rfl
end Go.Proofs.YtlcbhacofagedaaGreatDoor
namespace Lz
open Go
def Tb:Option Nat->Option Nat->Option UInt8
 | some x,some y=>some (UInt8.ofNat (16*x+y))
 | _,_=>none
theorem JC {l:Bs} {a b:UInt8} (h0:l[0]? =some 37) (h1:l[1]? =some a) (h2:l[2]? =some b):bU l=Tb (dx a) (dx b):=by
 match l,h0,h1,h2 with
 | c::d::e::r,h0,h1,h2=>
   obtain rfl:=Option.some.inj h0;obtain rfl:=Option.some.inj h1;obtain rfl:=Option.some.inj h2;simp only[bU];cases dx d<;>cases dx e<;>rfl
end Lz
namespace Go.Proofs.YtlcbhacofagedaaGreatDoor
open Go.RowKit
theorem ly (s:ByteArray) (hs:s.size<=1000000000) (w:World):Calls Tryz.prog 58 #[.string s] w (gl (Lz.an s.data.toList) w):=by
 obtain⟨i0,hi,ig,fs,fk⟩:=info_parts Tryz.infoU8;obtain⟨goal,hg⟩:∃goal,goal=Lz.an s.data.toList:=⟨_,rfl⟩;have HG:=Ih hg;rw[<-hg];go_enter Tryz.func58,Tryz.ntmps58
 go_wp2_with fail
 go_loopw [3,4] (fun v i wr=>∃(gD:List UInt8) (k:Nat),k<=s.size/\i=.int .i64 k/\gD.length<=k/\Hid (goal=gD++Lz.an (s.data.toList.drop k))/\wr.ownsRow w.heap.size 5 1 v gD.length (u8s gD)/\Below w.heap.size w wr) (fun _ i _=>s.size-(intOf i).toNat)
 case atStart=>exact⟨[],0,Nat.zero_le _,rfl,Nat.le_refl _,Ih (by rw[HG.out];rfl),World.ownsRow_nil _ _ _ _,Below.refl _ _⟩
 case round=>
  obtain⟨gD,k,hk,rfl,act,hG,aQ,hb⟩:=hrel;have bZ:=Ih aQ;have dV:=hb.size;by_cases aN:k<s.size
  ·have dH:(k:Int)<(s.size:Int):=by omega
   have iN:(0:Int)<=(k:Int):=by omega
   obtain⟨c,hc⟩:∃c,c=s[k]:=⟨_,rfl⟩;have yI:(s[k].toNat:Int)=(c.toNat:Int):=by rw[hc]
   have Pe:=d9 c;have np:(s.data.toList.drop k)[0]? =some c:=by rw[List.getElem?_drop,Nat.add_zero,aw aN,hc]
   have fQ:Hid (u8s gD++[.int .u8 (c.toNat:Int)]=u8s (gD++[c])):=Ih (by rw[uz]);have b37:((c.toNat:Int)==37)=(c==37):=jx c 37;by_cases Su:c=37
   ·have q37:((c.toNat:Int)==37)=true:=by rw[b37,Su];rfl
    clear b37;by_cases h2:k+2<s.size
    ·have RM:(k:Int)+2<(s.size:Int):=by omega
     have h1I:(k:Int)+1<(s.size:Int):=by omega
     have Lo:(0:Int)<=(k:Int)+1:=by omega
     have h20:(0:Int)<=(k:Int)+2:=by omega
     have kq:k+1<s.size:=by omega
     obtain⟨a,ha⟩:∃a,a=s[k+1]:=⟨_,rfl⟩;obtain⟨b,qy⟩:∃b,b=s[k+2]:=⟨_,rfl⟩;have WA:(s[k+1].toNat:Int)=(a.toNat:Int):=by rw[ha]
     have hbI:(s[k+2].toNat:Int)=(b.toNat:Int):=by rw[qy]
     have TN:Lz.bU (s.data.toList.drop k)=Lz.Tb (Lz.dx a) (Lz.dx b):=Lz.JC (by rw[np,Su]) (by rw[List.getElem?_drop,aw kq,ha]) (by rw[List.getElem?_drop,aw h2,qy]);clear ha qy;have cA:=nH a;have cB:=nH b;have Dy:=Lz.je a;have VN:=Lz.je b;generalize Lz.dx a=x at cA TN Dy;generalize Lz.dx b=y at cB TN VN;cases x with
     | none=>
       have hT:Lz.bU (s.data.toList.drop k)=none:=TN;obtain⟨n2,sR⟩:∃n,n=((y.getD 0:Nat):Int):=⟨_,rfl⟩;obtain⟨t2,Sq⟩:∃t,t=y.isSome:=⟨_,rfl⟩;have CA:Hid (∀W,Calls Tryz.prog 91 #[.int .u8 (a.toNat:Int)] W fun e w'=>e=.returned (.tuple #[.int .i64 0,.bool false])/\W=w'):=Ih cA;have CB:Hid (∀W,Calls Tryz.prog 91 #[.int .u8 (b.toNat:Int)] W fun e w'=>e=.returned (.tuple #[.int .i64 n2,.bool t2])/\W=w'):=Ih (by rw[sR,Sq];exact cB);clear cA cB TN Dy VN sR Sq Su
       go_wp2_with fail
       refine(CA.out _).mono ?_;rintro _ w1 ⟨rfl,rfl⟩
       go_wp2_with fail
       refine(CB.out _).mono ?_;rintro _ w1 ⟨rfl,rfl⟩;have HN:Hid (goal=gD++[c]++Lz.an (s.data.toList.drop (k+1))):=Ih (by rw[hG.out,Lz.iA np hT,List.drop_drop];simp);clear hT np hc hG HG hg aQ
       go_wp2_with (at_builtin;refine wpList_append_own _ rfl (.tmp 56) (.tmp 60) 63 rfl w.heap.size 5 i0 (.int .u8 0) 1 1 Tryz.underlying63 hi ig fs fk rfl (by decide) _ _ _ rfl (bZ.out.alloc _) ⟨wr.heap.size,0,none⟩ 1 1 [.int .u8 (c.toNat:Int)] rfl rfl (aY _ _ _) (by simp[Value.oneCell']) (by unfold maxLen;omega) (by omega) (by simp;omega) ?_)
       intro v' w1 aE aV _;have aC:=Below.grown1 hb bZ.out aV dV (Nat.le_refl _);rw[fQ.out]at aE;have eK:=Ih aE;clear aE aV fQ hb
       go_wp2_with fail
       go_roundw
       case rel=>exact⟨gD++[c],k+1,by omega,by go_num,by simp;omega,HN,by rw[List.length_append];exact eK.out,aC⟩
       case measure=>simp[intOf];omega
     | some x=>
       cases y with
       | none=>
         have hT:Lz.bU (s.data.toList.drop k)=none:=TN;have CA:Hid (∀W,Calls Tryz.prog 91 #[.int .u8 (a.toNat:Int)] W fun e w'=>e=.returned (.tuple #[.int .i64 (x:Int),.bool true])/\W=w'):=Ih cA;have CB:Hid (∀W,Calls Tryz.prog 91 #[.int .u8 (b.toNat:Int)] W fun e w'=>e=.returned (.tuple #[.int .i64 0,.bool false])/\W=w'):=Ih cB;clear cA cB TN Dy VN Su
         go_wp2_with fail
         refine(CA.out _).mono ?_;rintro _ w1 ⟨rfl,rfl⟩
         go_wp2_with fail
         refine(CB.out _).mono ?_;rintro _ w1 ⟨rfl,rfl⟩;have HN:Hid (goal=gD++[c]++Lz.an (s.data.toList.drop (k+1))):=Ih (by rw[hG.out,Lz.iA np hT,List.drop_drop];simp);clear hT np hc hG HG hg aQ
         go_wp2_with (at_builtin;refine wpList_append_own _ rfl (.tmp 56) (.tmp 60) 63 rfl w.heap.size 5 i0 (.int .u8 0) 1 1 Tryz.underlying63 hi ig fs fk rfl (by decide) _ _ _ rfl (bZ.out.alloc _) ⟨wr.heap.size,0,none⟩ 1 1 [.int .u8 (c.toNat:Int)] rfl rfl (aY _ _ _) (by simp[Value.oneCell']) (by unfold maxLen;omega) (by omega) (by simp;omega) ?_)
         intro v' w1 aE aV _;have aC:=Below.grown1 hb bZ.out aV dV (Nat.le_refl _);rw[fQ.out]at aE;have eK:=Ih aE;clear aE aV fQ hb
         go_wp2_with fail
         go_roundw
         case rel=>exact⟨gD++[c],k+1,by omega,by go_num,by simp;omega,HN,by rw[List.length_append];exact eK.out,aC⟩
         case measure=>simp[intOf];omega
       | some y=>
         have hT:Lz.bU (s.data.toList.drop k)=some (UInt8.ofNat (16*x+y)):=TN;have jP:=Dy x rfl;have Zr:=VN y rfl;have CA:Hid (∀W,Calls Tryz.prog 91 #[.int .u8 (a.toNat:Int)] W fun e w'=>e=.returned (.tuple #[.int .i64 (x:Int),.bool true])/\W=w'):=Ih cA;have CB:Hid (∀W,Calls Tryz.prog 91 #[.int .u8 (b.toNat:Int)] W fun e w'=>e=.returned (.tuple #[.int .i64 (y:Int),.bool true])/\W=w'):=Ih cB;obtain⟨d,hd⟩:∃d,d=UInt8.ofNat (16*x+y):=⟨_,rfl⟩;have hdn:d.toNat=16*x+y:=by rw[hd];show(16*x+y)%256=_;omega
         rw[<-hd]at hT;have hwr:IntKind.u8.wrap (16*(x:Int)+(y:Int))=(d.toNat:Int):=by rw[IntWalk.u8_in _ (by omega)];omega
         have HN:Hid (goal=gD++[d]++Lz.an (s.data.toList.drop (k+3))):=Ih (by rw[hG.out,(Lz.mL hT).1,List.drop_drop];simp);have fQ:Hid (u8s gD++[.int .u8 (d.toNat:Int)]=u8s (gD++[d])):=Ih (by rw[uz]);clear cA cB TN Dy VN hT np hc hG HG hg aQ hd hdn Su
         go_wp2_with fail
         refine(CA.out _).mono ?_;rintro _ w1 ⟨rfl,rfl⟩
         go_wp2_with fail
         refine(CB.out _).mono ?_;rintro _ w1 ⟨rfl,rfl⟩
         go_wp2_with (at_builtin;refine wpList_append_own _ rfl (.tmp 46) (.tmp 52) 63 rfl w.heap.size 5 i0 (.int .u8 0) 1 1 Tryz.underlying63 hi ig fs fk rfl (by decide) _ _ _ rfl (bZ.out.alloc _) ⟨wr.heap.size,0,none⟩ 1 1 [.int .u8 (d.toNat:Int)] rfl rfl (aY _ _ _) (by simp[Value.oneCell']) (by unfold maxLen;omega) (by omega) (by simp;omega) ?_)
         intro v' w1 aE aV _;have aC:=Below.grown1 hb bZ.out aV dV (Nat.le_refl _);rw[fQ.out]at aE;have eK:=Ih aE;clear aE aV fQ hb
         go_wp2_with fail
         go_roundw
         case rel=>exact⟨gD++[d],k+3,by omega,by go_num,by simp;omega,HN,by rw[List.length_append];exact eK.out,aC⟩
         case measure=>simp[intOf];omega
    ·have RM:¬(k:Int)+2<(s.size:Int):=by omega
     have hT:Lz.bU (s.data.toList.drop k)=none:=pW (by rw[List.length_drop,aa];omega);clear Su;have HN:Hid (goal=gD++[c]++Lz.an (s.data.toList.drop (k+1))):=Ih (by rw[hG.out,Lz.iA np hT,List.drop_drop];simp);clear hT np hc hG HG hg aQ
     go_wp2_with (at_builtin;refine wpList_append_own _ rfl (.tmp 56) (.tmp 60) 63 rfl w.heap.size 5 i0 (.int .u8 0) 1 1 Tryz.underlying63 hi ig fs fk rfl (by decide) _ _ _ rfl (bZ.out.alloc _) ⟨wr.heap.size,0,none⟩ 1 1 [.int .u8 (c.toNat:Int)] rfl rfl (aY _ _ _) (by simp[Value.oneCell']) (by unfold maxLen;omega) (by omega) (by simp;omega) ?_)
     intro v' w1 aE aV _;have aC:=Below.grown1 hb bZ.out aV dV (Nat.le_refl _);rw[fQ.out]at aE;have eK:=Ih aE;clear aE aV fQ hb
     go_wp2_with fail
     go_roundw
     case rel=>exact⟨gD++[c],k+1,by omega,by go_num,by simp;omega,HN,by rw[List.length_append];exact eK.out,aC⟩
     case measure=>simp[intOf];omega
   ·have q37:((c.toNat:Int)==37)=false:=by rw[b37];exact beq_eq_false_iff_ne.2 Su
    have hT:Lz.bU (s.data.toList.drop k)=none:=pL np (beq_eq_false_iff_ne.2 Su);clear b37 Su;have HN:Hid (goal=gD++[c]++Lz.an (s.data.toList.drop (k+1))):=Ih (by rw[hG.out,Lz.iA np hT,List.drop_drop];simp);clear hT np hc hG HG hg aQ
    go_wp2_with (at_builtin;refine wpList_append_own _ rfl (.tmp 56) (.tmp 60) 63 rfl w.heap.size 5 i0 (.int .u8 0) 1 1 Tryz.underlying63 hi ig fs fk rfl (by decide) _ _ _ rfl (bZ.out.alloc _) ⟨wr.heap.size,0,none⟩ 1 1 [.int .u8 (c.toNat:Int)] rfl rfl (aY _ _ _) (by simp[Value.oneCell']) (by unfold maxLen;omega) (by omega) (by simp;omega) ?_)
    intro v' w1 aE aV _;have aC:=Below.grown1 hb bZ.out aV dV (Nat.le_refl _);rw[fQ.out]at aE;have eK:=Ih aE;clear aE aV fQ hb
    go_wp2_with fail
    go_roundw
    case rel=>exact⟨gD++[c],k+1,by omega,by go_num,by simp;omega,HN,by rw[List.length_append];exact eK.out,aC⟩
    case measure=>simp[intOf];omega
  ·have dH:¬(k:Int)<(s.size:Int):=by omega
   have sV:=um aQ;have HN:Hid (gD=goal):=Ih (by rw[hG.out,List.drop_eq_nil_of_le (by rw[aa];omega),show Lz.an []=[] by unfold Lz.an;rfl,List.append_nil]);clear aQ bZ hG HG hg
   go_wp2_with fail
   go_ret;exact⟨_,rfl,by rw[<-HN.out];rfl,hb⟩
end Go.Proofs.YtlcbhacofagedaaGreatDoor
