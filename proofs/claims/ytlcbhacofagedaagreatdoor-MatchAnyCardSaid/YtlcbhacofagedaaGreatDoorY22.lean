/-
  The walk of the document's answer for source expressions, third part: host.
-/
import Derived.Test.YtlcbhacofagedaaGreatDoorY20
import Derived.Test.YtlcbhacofagedaaGreatDoorY19
import Derived.Test.YtlcbhacofagedaaGreatDoorY16
import Derived.Test.YtlcbhacofagedaaGreatDoorY21
import Derived.Test.YtlcbhacofagedaaGreatDoorRows
import Derived.ProofKit
import Derived.OpenShut
import Derived.Deep.DeepWitnessRowRef
import Derived.LaidMore
import Derived.LaidSub
import Derived.PinnedBridge
set_option maxHeartbeats 4000000
set_option maxRecDepth 100000
namespace Go.Proofs.YtlcbhacofagedaaGreatDoor
open Go.RowKit
theorem Q3 (g:Nat) (w:World) (h0:w.cell? ⟨g,0,none⟩=some .nilIface) (h1:w.cell? ⟨g,1,none⟩=some .nilIface):
  Calls Tryz.prog 150 #[.slice (some ⟨g,0,none⟩) 2 2] w fun e w'=>e=.returned .nilIface/\w=w':=by
 go_enter Tryz.func150,Tryz.ntmps150
 go_wp2
 refine wp_loop_rounds 3 ?_;rw[rounds_succ]
 go_wp2
 rw[rounds_succ]
 go_wp2
 rw[rounds_succ]
 go_wp2
 go_ret;exact⟨rfl,rfl⟩
def GD (v0:Value) (w:World) (e:Ending) (w':World):Prop:=
 ∃(p g len cap:Nat),e=.returned (.iface 203 (.pointer (some ⟨p,0,none⟩)))/\p<w'.heap.size/\g<w'.heap.size/\w'.cell? ⟨p,0,none⟩=some (.slice (some ⟨g,0,none⟩) len cap)/\1<=len/\len<=2/\
  w'.cell? ⟨g,0,none⟩=some v0/\Below w.heap.size w w'
theorem QB (g:Nat) (t:TypeId) (v:Value) (w:World) (h0:w.cell? ⟨g,0,none⟩=some .nilIface) (h1:w.cell? ⟨g,1,none⟩=some (.iface t v)):
  Calls Tryz.prog 150 #[.slice (some ⟨g,0,none⟩) 2 2] w (GD (.iface t v) w):=by
 have hg:g<w.heap.size:=World.block_lt_of_cell? _ _ h0
 have f3:∀(k:Nat) (v:Value) (o1 o2 o3:Obj),w.cell? ⟨g,k,none⟩=some v->(((w.alloc o1).alloc o2).alloc o3).cell? ⟨g,k,none⟩=some v:=fun k v o1 o2 o3 h=>by
  rw[World.cell?_alloc_lt _ _ ⟨g,k,none⟩ (by simp;omega),World.cell?_alloc_lt _ _ ⟨g,k,none⟩ (by simp;omega),World.cell?_alloc_lt _ _ ⟨g,k,none⟩ hg];exact h
 have f30:=fun o1 o2 o3=>f3 0 _ o1 o2 o3 h0;have f31:=fun o1 o2 o3=>f3 1 _ o1 o2 o3 h1;clear f3;have Xm:∀w,(Instr.makeSlice 159 (.int .i64 0) (.int .i64 1)).run Tryz.prog w=.ok (.slice (some ⟨w.heap.size,0,none⟩) 0 1) (w.alloc (.cells #[.nilIface] 59)):=fun _=>by kernel_rfl
 go_enter Tryz.func150,Tryz.ntmps150
 go_wp2
 refine wp_loop_rounds 3 ?_;rw[rounds_succ]
 go_wp2
 rw[rounds_succ]
 go_wp2
 rw[rounds_succ]
 go_wp2
 refine wp_loop_rounds 3 ?_;rw[rounds_succ]
 go_wp2
 rw[rounds_succ]
 go_wp2
 rw[rounds_succ]
 go_wp2
 go_ret;refine⟨w.heap.size+1,w.heap.size,1,1,rfl,by simp;try omega,by simp;try omega,by go_simp,by decide,by decide,by go_simp,?_⟩
 repeat (first |exact Below.refl _ _|refine Below.alloc ?_ (by simp;try omega) _)
theorem G3 (g:Nat) (t:TypeId) (v:Value) (w:World) (h0:w.cell? ⟨g,0,none⟩=some (.iface t v)) (h1:w.cell? ⟨g,1,none⟩=some .nilIface):
  Calls Tryz.prog 150 #[.slice (some ⟨g,0,none⟩) 2 2] w (GD (.iface t v) w):=by
 have hg:g<w.heap.size:=World.block_lt_of_cell? _ _ h0
 have f3:∀(k:Nat) (v:Value) (o1 o2 o3:Obj),w.cell? ⟨g,k,none⟩=some v->(((w.alloc o1).alloc o2).alloc o3).cell? ⟨g,k,none⟩=some v:=fun k v o1 o2 o3 h=>by
  rw[World.cell?_alloc_lt _ _ ⟨g,k,none⟩ (by simp;omega),World.cell?_alloc_lt _ _ ⟨g,k,none⟩ (by simp;omega),World.cell?_alloc_lt _ _ ⟨g,k,none⟩ hg];exact h
 have f30:=fun o1 o2 o3=>f3 0 _ o1 o2 o3 h0;have f31:=fun o1 o2 o3=>f3 1 _ o1 o2 o3 h1;clear f3;have Xm:∀w,(Instr.makeSlice 159 (.int .i64 0) (.int .i64 1)).run Tryz.prog w=.ok (.slice (some ⟨w.heap.size,0,none⟩) 0 1) (w.alloc (.cells #[.nilIface] 59)):=fun _=>by kernel_rfl
 go_enter Tryz.func150,Tryz.ntmps150
 go_wp2
 refine wp_loop_rounds 3 ?_;rw[rounds_succ]
 go_wp2
 rw[rounds_succ]
 go_wp2
 rw[rounds_succ]
 go_wp2
 refine wp_loop_rounds 3 ?_;rw[rounds_succ]
 go_wp2
 rw[rounds_succ]
 go_wp2
 rw[rounds_succ]
 go_wp2
 go_ret;refine⟨w.heap.size+1,w.heap.size,1,1,rfl,by simp;try omega,by simp;try omega,by go_simp,by decide,by decide,by go_simp,?_⟩
 repeat (first |exact Below.refl _ _|refine Below.alloc ?_ (by simp;try omega) _)
theorem GA (g:Nat) (t:TypeId) (v:Value) (t2:TypeId) (v2:Value) (w:World) (h0:w.cell? ⟨g,0,none⟩=some (.iface t v)) (h1:w.cell? ⟨g,1,none⟩=some (.iface t2 v2)):
  Calls Tryz.prog 150 #[.slice (some ⟨g,0,none⟩) 2 2] w (GD (.iface t v) w):=by
 have hg:g<w.heap.size:=World.block_lt_of_cell? _ _ h0
 have f3:∀(k:Nat) (v:Value) (o1 o2 o3:Obj),w.cell? ⟨g,k,none⟩=some v->(((w.alloc o1).alloc o2).alloc o3).cell? ⟨g,k,none⟩=some v:=fun k v o1 o2 o3 h=>by
  rw[World.cell?_alloc_lt _ _ ⟨g,k,none⟩ (by simp;omega),World.cell?_alloc_lt _ _ ⟨g,k,none⟩ (by simp;omega),World.cell?_alloc_lt _ _ ⟨g,k,none⟩ hg];exact h
 have f30:=fun o1 o2 o3=>f3 0 _ o1 o2 o3 h0;have f31:=fun o1 o2 o3=>f3 1 _ o1 o2 o3 h1;clear f3;have Xm:∀w,(Instr.makeSlice 159 (.int .i64 0) (.int .i64 2)).run Tryz.prog w=.ok (.slice (some ⟨w.heap.size,0,none⟩) 0 2) (w.alloc (.cells #[.nilIface,.nilIface] 59)):=fun _=>by kernel_rfl
 go_enter Tryz.func150,Tryz.ntmps150
 go_wp2
 refine wp_loop_rounds 3 ?_;rw[rounds_succ]
 go_wp2
 rw[rounds_succ]
 go_wp2
 rw[rounds_succ]
 go_wp2
 refine wp_loop_rounds 3 ?_;rw[rounds_succ]
 go_wp2
 rw[rounds_succ]
 go_wp2
 rw[rounds_succ]
 go_wp2
 go_ret;refine⟨w.heap.size+1,w.heap.size,2,2,rfl,by simp;try omega,by simp;try omega,by go_simp,by decide,by decide,by go_simp,?_⟩
 repeat (first |exact Below.refl _ _|refine Below.alloc ?_ (by simp;try omega) _)
def aq.cells (x:aq):Array Value:= #[.int .i64 x.kind,.string x.text,.int .i64 x.bits,.string x.scheme,.string x.host,.bool x.wild,.int .i64 x.port,.string x.path]
def dg (w:World) (T:Nat) (x:aq):Prop:=w.heap[T]? =some (.cells x.cells 41 (0,0))
theorem dg.cell {w:World} {T:Nat} {x:aq} (h:dg w T x) (k:Nat):w.cell? ⟨T,k,none⟩=x.cells[k]? :=cell_of_row w T k _ _ _ h
theorem dg.free {w:World} {T:Nat} {x:aq} (h:dg w T x) (k:Nat):w.frozen? ⟨T,k,none⟩=false:=by
 unfold dg at h;simp only[World.frozen?,h]
 simp
theorem dg.lt {w:World} {T:Nat} {x:aq} (h:dg w T x):T<w.heap.size:=(Array.getElem?_eq_some_iff.1 h).1
theorem dg.below {w w':World} {T:Nat} {x:aq} (h:dg w T x) (hb:Below w.heap.size w w'):dg w' T x:=by
 unfold dg;rw[hb.block T h.lt];exact h
theorem dg.store {w:World} {T:Nat} {x y:aq} (h:dg w T x) (k:Nat) (v:Value) (hy:x.cells.setIfInBounds k v=y.cells):dg (w.setCell ⟨T,k,none⟩ v) T y:=by
 unfold dg;rw[setCell_eq_setRow w T k x.cells _ _ v h,<-hy];exact setRow_heap _ _ _ _ _ _ h
def Mx (o:Option aq) (x:aq) (n T:Nat) (w:World) (e:Ending) (w':World):Prop:=
 ∃v,e=.returned v/\Hid (match o with|some y=>v=.nilIface/\dg w' T y|none=>fx w' n v/\dg w' T x)/\Below T w w'
theorem nB {s:ByteArray} (b:Bool) (h:decide (s.data.toList=[42])=b):(s.toList==[42])=b:=by
 rw[Lib.toList_data,<-h];by_cases h2:s.data.toList=[42]<;>simp[h2]
def gA (s:ByteArray) (x:aq):Option aq:=
 if s.data.toList=[42]then some {x with wild:=true}
 else if Lz.eF (Lib.trimPrefix s.data.toList [42,46])then some {x with wild:=Lib.hasPrefix s.data.toList [42,46],host:=⟨(Lz.low (Lib.trimPrefix s.data.toList [42,46])).toArray⟩} else none
theorem Mh (s:ByteArray) (hs:s.size<=1048576) (T:Nat) (x:aq) (w:World) (hE:Env w) (hT:dg w T x):
  Calls Tryz.prog 149 #[.string s,.pointer (some ⟨T,0,none⟩)] w (Mx (gA s x) x 0 T w):=by
 have h5:=hT.cell 5;have h4:=hT.cell 4;have f5:=hT.free 5;have f4:=hT.free 4;simp only[aq.cells]at h4 h5
 simp at h4 h5
 go_enter Tryz.func149,Tryz.ntmps149
 go_wp2_with fail
 refine(mW s _ w).mono ?_;rintro e w1 ⟨v,rfl,hv,rfl⟩;by_cases eJ:s.data.toList=[42]
 ·have hst:=nB true (decide_eq_true eJ);have HR:Hid (gA s x=some {x with wild:=true}):=by show gA s x=_;unfold gA;rw[if_pos eJ]
  clear eJ
  go_wp2
  go_ret;exact⟨_,rfl,by rw[HR.out];exact⟨rfl,hT.store 5 _ (by rfl)⟩,(Below.refl T w).setCell (p:=⟨T,5,none⟩) (Nat.le_refl _) _⟩
 ·have hst:=nB false (decide_eq_false eJ);have Hs:=Ih eJ;clear eJ;have yz:v.data.toList=Lib.trimPrefix s.data.toList [42,46]:=hv.out
  have hvz:v.size<=s.size:=by
   rw[<-aa v,yz,<-aa s];unfold Lib.trimPrefix;split
   ·simp
   ·exact Nat.le_refl _
  have Hvl:=Ih yz;clear yz hv;have cN:=Ih (IU v (by omega) w hE);generalize xe:Lz.eF v.data.toList=nb at cN;have Hnb:=Ih xe;clear xe;cases nb
  ·have HR:Hid (gA s x=none):=by
    show gA s x=_;unfold gA;rw[if_neg Hs.out,<-Hvl.out,Hnb.out];rfl
   go_wp2_with fail
   refine(cN.out).mono ?_;rintro e w2 ⟨rfl,aU⟩
   go_wp2
   go_ret;exact⟨_,rfl,by rw[HR.out];exact⟨⟨_,rfl⟩,hT.below aU⟩,aU.mono (Nat.le_of_lt hT.lt)⟩
  ·go_wp2_with fail
   refine(cN.out).mono ?_;rintro e w2 ⟨rfl,aU⟩
   go_wp2_with fail
   refine(j4 v (by omega) w2).mono ?_;rintro e w3 ⟨u,rfl,hu,cq⟩;have nL:=ac aU cq;have sE:=hT.below nL
   have HR:Hid (gA s x=some {x with wild:=Lib.hasPrefix s.data.toList [42,46],host:=u}):=by
    show gA s x=_;unfold gA;rw[if_neg Hs.out,<-Hvl.out,Hnb.out,if_pos rfl];have hue:(⟨(Lz.low v.data.toList).toArray⟩:ByteArray)=u:=by rw[<-hu.out]
    rw[hue]
   clear h4 h5 f4 f5;have h5:=sE.cell 5;have h4:=sE.cell 4;have f5:=sE.free 5;have f4:=sE.free 4;simp only[aq.cells]at h4 h5
   simp at h4 h5
   go_wp2
   go_ret;have bN:=(sE.store (y:={x with wild:=Lib.hasPrefix s.data.toList [42,46]}) 5 (.bool (Lib.hasPrefix s.data.toList [42,46])) (by rfl)).store (y:={x with wild:=Lib.hasPrefix s.data.toList [42,46],host:=u}) 4 (.string u) (by rfl);exact⟨_,rfl,by rw[HR.out];exact⟨rfl,bN⟩,((nL.mono (Nat.le_of_lt hT.lt)).setCell (p:=⟨T,5,none⟩) (Nat.le_refl _) _).setCell (p:=⟨T,4,none⟩) (Nat.le_refl _) _⟩
def fP (s:ByteArray) (x:aq):Option aq:=(Lz.ez s.data.toList).map fun n=>{x with port:=n}
theorem Vn (s:ByteArray) (hs:s.size<=1048576) (w:World) (hE:Env w):
  Calls Tryz.prog 198 #[.string s] w fun e w'=>∃n v,e=.returned (.tuple #[.int .i64 n,v])/\Hid ((Lib.atoiAll s.data.toList=.ok n/\v=.nilIface)\/((∀m,Lib.atoiAll s.data.toList≠.ok m)/\∃t x,v=.iface t x))/\Below w.heap.size w w':=by
 cases h:Lib.atoiAll s.data.toList with
 | ok n=>
   refine(Tryz.strconv_Atoi_ok s (by omega) n h w).mono ?_;rintro e w' ⟨he,hw⟩;refine⟨n,.nilIface,he,Or.inl ⟨rfl,rfl⟩,?_⟩;rcases hw with rfl|⟨t,rfl⟩
   ·exact Below.refl _ _
   ·exact Lib.bytesWorld_below _ _ _
 | range=>
   obtain⟨te,pe,hv⟩:=hE.rng;refine(Tryz.strconv_Atoi_range s (by omega) h _ w hv (Or.inr ⟨te,pe,rfl⟩)).mono ?_;rintro e w' ⟨N,he,_,_,hb⟩;exact⟨_,_,he,Or.inr ⟨(fun m hm=>by cases hm),_,_,rfl⟩,hb⟩
 | _=>
   obtain⟨te,pe,hv⟩:=hE.syn;refine(Tryz.strconv_Atoi_syntax s (by omega) (h.trans rfl) _ w hv (Or.inr ⟨te,pe,rfl⟩)).mono ?_;rintro e w' ⟨N,he,_,_,hb⟩;exact⟨_,_,he,Or.inr ⟨(fun m hm=>by cases hm),_,_,rfl⟩,hb⟩
theorem Ms (s:ByteArray) (hs:s.size<=1048576) (T:Nat) (x:aq) (w:World) (hE:Env w) (hT:dg w T x):
  Calls Tryz.prog 151 #[.string s,.pointer (some ⟨T,0,none⟩)] w (Mx (fP s x) x 1 T w):=by
 by_cases eJ:s.data.toList=[42]
 ·have hst:=nB true (decide_eq_true eJ);have HR:Hid (fP s x=some {x with port:= -2}):=by show fP s x=_;unfold fP Lz.ez;rw[if_pos eJ];rfl
  clear eJ;have h6:=hT.cell 6;have f6:=hT.free 6;simp only[aq.cells]at h6
  simp at h6
  go_enter Tryz.func151,Tryz.ntmps151
  go_wp2
  go_ret;exact⟨_,rfl,by rw[HR.out];exact⟨rfl,hT.store 6 _ (by rfl)⟩,(Below.refl T w).setCell (p:=⟨T,6,none⟩) (Nat.le_refl _) _⟩
 ·have hst:=nB false (decide_eq_false eJ);have Hs:=Ih eJ;clear eJ;have cA:=Ih (py DY s (by omega));generalize Lu:Lz.dj Lz.aA s.data.toList=db at cA;have Hdb:=Ih Lu;clear Lu;go_enter Tryz.func151,Tryz.ntmps151
  go_wp2_with fail
  refine(Vn s hs w hE).mono ?_;rintro e w1 ⟨n,v,rfl,hv,aC⟩;have tL:=hT.below aC;rcases hv.out with⟨ha,rfl⟩|⟨ha,t,z,rfl⟩
  ·have Ha:=Ih ha;clear ha hv;by_cases Iy:db=true/\n<=65535
   ·obtain⟨rfl,hn⟩:=Iy
    have HR:Hid (fP s x=some {x with port:=n}):=by
     show fP s x=_;unfold fP Lz.ez;rw[if_neg Hs.out,Ha.out];simp only[Hdb.out,decide_eq_true hn,Bool.and_self,if_true];rfl
    have h6:=tL.cell 6;have f6:=tL.free 6;simp only[aq.cells]at h6
    simp at h6
    go_wp2_with (go_at_call 147;refine(cA.out _).mono ?_;rintro e w2 ⟨rfl,rfl⟩)
    go_ret;exact⟨_,rfl,by rw[HR.out];exact⟨rfl,tL.store 6 _ (by rfl)⟩,(aC.mono (Nat.le_of_lt hT.lt)).setCell (p:=⟨T,6,none⟩) (Nat.le_refl _) _⟩
   ·have HR:Hid (fP s x=none):=by
     show fP s x=_;unfold fP Lz.ez;rw[if_neg Hs.out,Ha.out]
     have:(db&&decide (n<=65535))=false:=by
      cases db
      ·rfl
      ·have:¬n<=65535:=fun h=>Iy ⟨rfl,h⟩
       simp[this]
     simp only[Hdb.out,this];rfl
    have gT:(db=false)\/(db=true/\65535<n):=by
     cases db
     ·exact Or.inl rfl
     ·exact Or.inr ⟨rfl,by have:¬n<=65535:=fun h=>Iy ⟨rfl,h⟩;omega⟩
    clear Iy;rcases gT with rfl|⟨rfl,hn⟩
    all_goals
     go_wp2_with (first |(go_at_call 147;refine(cA.out _).mono ?_;rintro e w2 ⟨rfl,rfl⟩)|(go_at_call 150;refine(G3 w1.heap.size 72 (.string ⟨#[112,111,114,116]⟩) _ (by simp) (by simp)).mono ?_;rintro e w3 ⟨p,g,len,cap,rfl,q1,q2,q3,q4,q5,q6,cq⟩))
     go_ret;have nL:=(((Below.refl _ w1).alloc (Nat.le_refl _) _).trans (cq.mono (by simp)));exact⟨_,rfl,by rw[HR.out];exact⟨Or.inr ⟨p,g,len,cap,_,rfl,q1,q2,q3,q4,q5,q6,_,rfl⟩,tL.below nL⟩,(ac aC nL).mono (Nat.le_of_lt hT.lt)⟩
  ·have HR:Hid (fP s x=none):=by
    show fP s x=_;unfold fP Lz.ez;rw[if_neg Hs.out];cases h:Lib.atoiAll s.data.toList with
    | ok m=>exact absurd h (ha m)
    | _=>rfl
   clear ha hv
   go_wp2_with (first |(go_at_call 147;refine(cA.out _).mono ?_;rintro e w2 ⟨rfl,rfl⟩)|(go_at_call 150;refine(GA w1.heap.size 72 (.string ⟨#[112,111,114,116]⟩) t z _ (by simp) (by simp)).mono ?_;rintro e w3 ⟨p,g,len,cap,rfl,q1,q2,q3,q4,q5,q6,cq⟩))
   go_ret;have nL:=(((Below.refl _ w1).alloc (Nat.le_refl _) _).trans (cq.mono (by simp)));exact⟨_,rfl,by rw[HR.out];exact⟨Or.inr ⟨p,g,len,cap,_,rfl,q1,q2,q3,q4,q5,q6,_,rfl⟩,tL.below nL⟩,(ac aC nL).mono (Nat.le_of_lt hT.lt)⟩
def ec:aq:=⟨3,⟨#[]⟩,0,⟨#[]⟩,⟨#[]⟩,false,-1,⟨#[]⟩⟩
def gO (w:World) (n:Nat) (RQ:Bool) (v:Value):Prop:=(RQ=true/\v=.nilIface)\/(RQ=false/\fx w n v)
theorem fx.below' {w w':World} (hb:Below w.heap.size w w'):∀{n:Nat} {v:Value},fx w n v->fx w' n v
 | 0,_,h=>h
 | n+1,v,h=>by
   rcases h with h|⟨p,g,len,cap,v0,h1,h2,h3,h4,h5,h6,h7,h8⟩
   ·exact Or.inl (fx.below' hb h)
   ·exact Or.inr ⟨p,g,len,cap,v0,h1,Nat.lt_of_lt_of_le h2 hb.size,Nat.lt_of_lt_of_le h3 hb.size,by rw[hb.cell (p:=⟨p,0,none⟩) h2];exact h4,h5,h6,by rw[hb.cell (p:=⟨g,0,none⟩) h3];exact h7,fx.below' hb h8⟩
theorem gO.below {w w':World} {n:Nat} {g:Bool} {v:Value} (h:gO w n g v) (hb:Below w.heap.size w w'):gO w' n g v:=by
 rcases h with h|⟨h1,h2⟩
 ·exact Or.inl h
 ·exact Or.inr ⟨h1,h2.below' hb⟩
theorem gO.succ {w:World} {n:Nat} {g:Bool} {v:Value} (h:gO w n g v):gO w (n+1) g v:=by
 rcases h with h|⟨h1,h2⟩
 ·exact Or.inl h
 ·exact Or.inr ⟨h1,Or.inl h2⟩
theorem fx.iface' {w:World}:∀{n:Nat} {v:Value},fx w n v->∃t x,v=.iface t x
 | 0,_,⟨b,h⟩=>⟨_,_,h⟩
 | n+1,v,h=>by
   rcases h with h|⟨p,g,len,cap,v0,h1,_⟩
   ·exact fx.iface' h
   ·exact⟨_,_,h1⟩
theorem gO.form {w:World} {n:Nat} {g:Bool} {v:Value} (h:gO w n g v):v=.nilIface\/∃t x,v=.iface t x:=by
 rcases h with⟨_,h⟩|⟨_,h⟩
 ·exact Or.inl h
 ·exact Or.inr h.iface'
def RSt (n:Nat) (RQ:Bool) (w:World) (e:Ending) (w':World):Prop:=∃v,e=.returned v/\Hid (gO w' n RQ v)/\Below w.heap.size w w'
theorem tY {n:Nat} {v0:Value} {w:World} {e:Ending} {w':World} (h0:fx w n v0) (h:GD v0 w e w'):RSt (n+1) false w e w':=by
 obtain⟨p,g,len,cap,he,q1,q2,q3,q4,q5,q6,hb⟩:=h;exact⟨_,he,Or.inr ⟨rfl,Or.inr ⟨p,g,len,cap,v0,rfl,q1,q2,q3,q4,q5,q6,h0.below' hb⟩⟩,hb⟩
theorem G0 (g n:Nat) (g0 g1:Bool) (c0 c1:Value) (w:World) (s0:gO w n g0 c0) (s1:gO w n g1 c1) (h0:w.cell? ⟨g,0,none⟩=some c0) (h1:w.cell? ⟨g,1,none⟩=some c1):
  Calls Tryz.prog 150 #[.slice (some ⟨g,0,none⟩) 2 2] w (RSt (n+1) (g0&&g1) w):=by
 rcases s0 with⟨rfl,rfl⟩|⟨rfl,b0⟩
 ·rcases s1 with⟨rfl,rfl⟩|⟨rfl,b1⟩
  ·exact(Q3 g w h0 h1).mono fun e w' ⟨he,hw⟩=>⟨_,he,Or.inl ⟨rfl,rfl⟩,by rw[hw];exact Below.refl _ _⟩
  ·obtain⟨t,x,rfl⟩:=b1.iface';exact(QB g t x w h0 h1).mono fun e w' h=>tY b1 h
 ·obtain⟨t,x,rfl⟩:=b0.iface';rcases s1 with⟨rfl,rfl⟩|⟨rfl,b1⟩
  ·exact(G3 g t x w h0 h1).mono fun e w' h=>tY b0 h
  ·obtain⟨t1,x1,rfl⟩:=b1.iface';exact(GA g t x t1 x1 w h0 h1).mono fun e w' h=>tY b0 h
def zF (o:Option aq) (x:aq) (n T:Nat) (w:World) (e:Ending) (w':World):Prop:=
 ∃v y,e=.returned v/\Hid (gO w' n o.isSome v)/\dg w' T y/\Hid ((∀z,o=some z->z=y)/\y.path=x.path)/\Below T w w'
theorem Hw {o:Option aq} {x:aq} {n T:Nat} {w:World} {e:Ending} {w':World} (hp:∀z,o=some z->z.path=x.path) (h:Mx o x n T w e w'):zF o x n T w e w':=by
 obtain⟨v,he,hv,hb⟩:=h;have hv:=hv.out;cases o with
 | none=>
   obtain⟨h1,h2⟩:=hv;exact⟨v,x,he,Or.inr ⟨rfl,h1⟩,h2,⟨fun z hz=>(by cases hz),rfl⟩,hb⟩
 | some y=>
   obtain⟨h1,h2⟩:=hv;exact⟨v,y,he,Or.inl ⟨rfl,h1⟩,h2,⟨fun z hz=>(Option.some.inj hz).symm,hp y rfl⟩,hb⟩
theorem DU {s:ByteArray} {x z:aq} (h:gA s x=some z):z.path=x.path:=by
 unfold gA at h;split at h
 ·rw[<-Option.some.inj h]
 ·split at h
  ·rw[<-Option.some.inj h]
  ·cases h
theorem EL {s:ByteArray} {x z:aq} (h:fP s x=some z):z.path=x.path:=by
 unfold fP at h;obtain⟨n,_,hn⟩:=Option.map_eq_some_iff.1 h;rw[<-hn]
theorem PK (s:ByteArray) (hs:s.size<=1048576) (T:Nat) (x:aq) (w:World) (hE:Env w) (hT:dg w T x):
 Calls Tryz.prog 149 #[.string s,.pointer (some ⟨T,0,none⟩)] w (zF (gA s x) x 0 T w):=(Mh s hs T x w hE hT).mono fun _ _ h=>Hw (fun _ hz=>DU hz) h
theorem Qx (s:ByteArray) (hs:s.size<=1048576) (T:Nat) (x:aq) (w:World) (hE:Env w) (hT:dg w T x):
 Calls Tryz.prog 151 #[.string s,.pointer (some ⟨T,0,none⟩)] w (zF (fP s x) x 1 T w):=(Ms s hs T x w hE hT).mono fun _ _ h=>Hw (fun _ hz=>EL hz) h
theorem rV (nm nu r:ByteArray) (y y1 y2:aq) (WH gp:Bool) (hy:y={ec with scheme:=y.scheme,path:=y.path}) (vV:nm.data.toList=(Lib.cut r.data.toList [58]).1) (VK:nu.data.toList=(Lib.cut r.data.toList [58]).2.1)
  (l6:(Lib.cut r.data.toList [58]).2.2=WH) (h1:∀z,gA nm y=some z->z=y1) (h2:WH=true->∀z,fP nu y1=some z->z=y2) (h3:WH=false->y2=y1) (O3:(y.path.data.toList.isEmpty||Lz.dj Lz.dA y.path.data.toList)=gp):
  Lz.fH y.scheme.data.toList y.path.data.toList r.data.toList=if((gA nm y).isSome&&(if WH then(fP nu y1).isSome else true))&&gp then some y2.src else none:=by
 have hh:Lz.mT nm.data.toList=(gA nm y).map (fun z=>(z.wild,z.host.data.toList)):=by
  unfold Lz.mT gA;split
  ·rw[hy];rfl
  ·split<;>rfl
 unfold Lz.fH;rw[<-vV,<-VK,hh,l6,O3];cases ho:gA nm y with
 | none=>rfl
 | some z=>
   have hz:=h1 z ho;subst hz
   have fk:z={y with wild:=z.wild,host:=z.host}:=by
    unfold gA at ho;split at ho
    ·rw[<-Option.some.inj ho]
    ·split at ho
     ·rw[<-Option.some.inj ho]
     ·cases ho
   cases WH with
   | false=>
     have Zl:=h3 rfl;subst Zl;simp only[Option.map_some,Option.isSome_some,Bool.true_and,Bool.false_eq_true,if_false];cases gp
     ·rfl
     ·simp only[if_true];rw[fk,hy];rfl
   | true=>
     simp only[Option.map_some,Option.isSome_some,Bool.true_and,if_true]
     have hp:Lz.ez nu.data.toList=(fP nu z).map (·.port):=by
      unfold fP;rw[Option.map_map]
      simp[Function.comp_def]
     rw[hp];cases TX:fP nu z with
     | none=>rfl
     | some q=>
       have hq:=h2 rfl q TX;subst hq
       have bV:q={z with port:=q.port}:=by
        unfold fP at TX;obtain⟨n,_,hn⟩:=Option.map_eq_some_iff.1 TX;rw[<-hn]
       simp only[Option.map_some,Option.isSome_some,Bool.true_and];cases gp
       ·rfl
       ·simp only[if_true];rw[bV,fk,hy];rfl
theorem fK (s:ByteArray) (k:Nat):(s.extract k s.size).data.toList=s.data.toList.drop k:=by
 rw[Lib.extract_data,List.take_of_length_le (by rw[List.length_drop,aa];exact Nat.le_refl _)]
theorem dQ (s:ByteArray) (k:Nat):(s.extract 0 k).data.toList=s.data.toList.take k:=by
 rw[Lib.extract_data];rfl
theorem fx.setRow {w:World} {R:Nat} {cs:Array Value} {t:TypeId} {fr:Nat×Nat} (hr:w.heap[R]? =some (.cells cs t fr)) (h0:cs[0]? =some (.int .i64 0)) (cells:Array Value):∀{n:Nat} {v:Value},fx w n v->fx (w.setRow R cells) n v
 | 0,_,h=>h
 | n+1,v,h=>by
   have hc:w.cell? ⟨R,0,none⟩=some (.int .i64 0):=by rw[cell_of_row w R 0 _ _ _ hr];exact h0
   rcases h with h|⟨p,g,len,cap,v0,h1,h2,h3,h4,h5,h6,h7,h8⟩
   ·exact Or.inl (fx.setRow hr h0 cells h)
   ·have hpR:p≠R:=by rintro rfl;rw[hc]at h4;cases h4
    have hgR:g≠R:=by
     rintro rfl;rw[hc]at h7;obtain⟨t,x,hx⟩:=h8.iface';rw[hx]at h7;cases h7
    exact Or.inr ⟨p,g,len,cap,v0,h1,by rw[setRow_size];exact h2,by rw[setRow_size];exact h3,by rw[cell_setRow_other _ _ _ _ hpR];exact h4,h5,h6,by rw[cell_setRow_other _ _ _ _ hgR];exact h7,fx.setRow hr h0 cells h8⟩
theorem M0 {o:Option Lz.Src} {gg:Bool} {y:aq} {v:Value} {w:World} {n R:Nat} {cs:Array Value} {t:TypeId} {fr:Nat×Nat} (hr:w.heap[R]? =some (.cells cs t fr)) (h0:cs[0]? =some (.int .i64 0)) (cells:Array Value)
  (ho:o=if gg then some y.src else none) (hv:gO w n gg v):Hid (mZ o y (w.setRow R cells) n v):=by
 rcases hv with⟨rfl,rfl⟩|⟨rfl,hb⟩
 ·subst ho;exact⟨rfl,rfl⟩
 ·subst ho;exact hb.setRow hr h0 cells
theorem gO.zero {w w':World} {g:Bool} {v:Value} (h:gO w 0 g v):gO w' 0 g v:=h
theorem ym (s p:List UInt8):(Lib.cut s p).1.length<=s.length/\(Lib.cut s p).2.1.length<=s.length:=by
 unfold Lib.cut;split
 ·exact⟨by simp[List.length_take];omega,by simp[List.length_drop]⟩
 ·simp
theorem zH (s:ByteArray) (w:World):Calls Tryz.prog 137 #[.string s,.int .u8 47] w fun e w'=>e=.returned (.int .i64 (Lib.indexByte s.data.toList 47))/\w=w':=mB s 47 w
theorem pr (l:List UInt8) (c:UInt8):Lib.indexByte l c<l.length:=by
 induction l with
 | nil=>unfold Lib.indexByte;simp
 | cons b l ih=>
   unfold Lib.indexByte;split
   ·simp
   ·split
    ·simp
     omega
    ·simp
     omega
theorem jg {w w1:World} {o1 o2:Obj} (hb:Below ((w.alloc o1).alloc o2).heap.size ((w.alloc o1).alloc o2) w1):w1.heap[w.heap.size]? =some o1/\w1.heap[w.heap.size+1]? =some o2:=by
 have h1:((w.heap.push o1).push o2)[w.heap.size]? =some o1:=by
  rw[Array.getElem?_push,if_neg (by simp),Array.getElem?_push,if_pos rfl]
 have h2:((w.heap.push o1).push o2)[w.heap.size+1]? =some o2:=by
  rw[Array.getElem?_push,if_pos (by simp)]
 exact⟨(hb.block _ (by simp;omega)).trans h1,(hb.block _ (by simp)).trans h2⟩
structure gJ (w wx:World) (x:aq):Prop where
 row:∃cs:Array Value,cs.size=8/\cs[0]? =some (.int .i64 0)/\wx.heap[w.heap.size]? =some (.cells cs 41 (0,0))
 src:dg wx (w.heap.size+1) x
 below:Below w.heap.size w wx
theorem gJ.call {w w1 w2:World} {x:aq} (h:gJ w w1 x) (hb:Below w1.heap.size w1 w2):gJ w w2 x:=by
 obtain⟨⟨cs,h1,h2,h3⟩,h4,h5⟩:=h;exact⟨⟨cs,h1,h2,by rw[hb.block _ (Array.getElem?_eq_some_iff.1 h3).1];exact h3⟩,h4.below hb,ac h5 hb⟩
theorem gJ.into {w w1 w2:World} {x y:aq} (h:gJ w w1 x) (hb:Below (w.heap.size+1) w1 w2) (hy:dg w2 (w.heap.size+1) y):gJ w w2 y:=by
 obtain⟨⟨cs,h1,h2,h3⟩,h4,h5⟩:=h;exact⟨⟨cs,h1,h2,by rw[hb.block _ (by omega)];exact h3⟩,hy,h5.trans (hb.mono (by omega))⟩
theorem gJ.drew {w w1:World} {x:aq} (h:gJ w w1 x):gJ w w1.drew x:=⟨h.row,h.src,h.below.drew⟩
def SX (s:ByteArray) (w:World) (v:Value) (wx:World):Prop:=
 ∃(rest:ByteArray) (x:aq),v=.string rest/\rest.size<=1048576/\gJ w wx x/\Hid (Lz.cZ s.data.toList=Lz.gK x.scheme.data.toList rest.data.toList/\x={ec with scheme:=x.scheme})
def S3 (s:ByteArray) (w:World) (v:Value) (wx:World):Prop:=
 ∃(r:ByteArray) (y:aq),v=.string r/\r.size<=1048576/\y.path.size<=1048576/\gJ w wx y/\Hid (Lz.cZ s.data.toList=Lz.fH y.scheme.data.toList y.path.data.toList r.data.toList/\y={ec with scheme:=y.scheme,path:=y.path})
def Yx (s:ByteArray) (w:World) (v:Value) (wx:World):Prop:=
 ∃(gg:Bool) (y:aq),Hid (gO wx 2 gg v)/\y.path.size<=1048576/\gJ w wx y/\Hid (∀gp,(y.path.data.toList.isEmpty||Lz.dj Lz.dA y.path.data.toList)=gp->Lz.cZ s.data.toList=if gg&&gp then some y.src else none)
def YI (s:ByteArray) (w:World) (v:Value) (wx:World):Prop:=
 ∃(gg:Bool) (y:aq),Hid (gO wx 3 gg v)/\gJ w wx y/\Hid (Lz.cZ s.data.toList=if gg then some y.src else none)
theorem D8 (s:ByteArray) (hs:s.size<=1048576) (w:World) (hE:Env w):Calls Tryz.prog 100 #[.string s] w (UN (Lz.cZ s.data.toList) 3 w):=by
 go_enter Tryz.func100,Tryz.ntmps100
 go_wp2_with fail
 have j8:Below w.heap.size w ((w.alloc (.cells #[.int .i64 0,.string ⟨#[]⟩,.int .i64 0,.string ⟨#[]⟩,.string ⟨#[]⟩,.bool false,.int .i64 0,.string ⟨#[]⟩] 41)).alloc (.cells ec.cells 41)):=((Below.refl _ w).alloc (Nat.le_refl _) _).alloc (by simp) _;refine(Ti s ⟨#[58,47,47]⟩ (by omega) _ (hE.below j8)).mono ?_;rintro e w1 ⟨hd,Oj,rfl,hhd,ni,aC⟩;obtain⟨Tz,tL⟩:=jg aC;have fF:=ac j8 aC;have Im:gJ w w1 ec:=⟨⟨_,rfl,rfl,Tz⟩,tL,fF⟩;clear aC j8 Tz tL fF;generalize l6:(Lib.cut s.data.toList (ByteArray.data ⟨#[58,47,47]⟩).toList).2.2=ok;have FX:=Ih l6;clear l6;have hz:=ym s.data.toList [58,47,47];have hhz:hd.size<=1048576:=by rw[<-aa hd,hhd.out];exact Nat.le_trans hz.1 (by rw[aa];exact hs)
 have K6:Oj.size<=1048576:=by rw[<-aa Oj,ni.out];exact Nat.le_trans hz.2 (by rw[aa];exact hs)
 clear hz;have cS:=Ih (vB hd (by omega) w1);generalize hsb:Lz.bO hd.data.toList=sb at cS;have Sh:=Ih hsb;clear hsb
 go_upto_if 20 with fail
 go_cut [0] (fun s0 wx=>SX s w s0 wx)
 case first=>
  cases ok
  ·go_wp2_with fail
   go_meet;refine⟨s,ec,rfl,hs,Im,?_,rfl⟩;unfold Lz.cZ;have h1:(Lib.cut s.data.toList [58,47,47]).2.2=false:=FX.out;simp only[h1];rfl
  ·cases sb
   ·obtain⟨⟨cs,gR,Dr,j9⟩,tL,fF⟩:=Im
    go_wp2_with (first |(go_at_call 98;refine(cS.out).mono ?_;rintro e w2 ⟨rfl,rfl⟩)|(refine bw rfl _ _ rfl w.heap.size rfl rfl _ j9 gR ?_))
    refine bodyPost_ret (bx rfl _ _ w.heap.size ⟨0,⟨#[]⟩,0,⟨#[]⟩,⟨#[]⟩,false,0,⟨#[]⟩⟩ (0,0) rfl (setRow_heap _ _ _ _ _ _ j9)) rfl ⟨_,_,rfl,?_,below_setRow fF (Nat.le_refl _) _⟩
    have hn:Lz.cZ s.data.toList=none:=by
     unfold Lz.cZ;have h1:(Lib.cut s.data.toList [58,47,47]).2.2=true:=FX.out;have h2:Lz.bO (Lib.cut s.data.toList [58,47,47]).1=false:=by rw[<-Sh.out,hhd.out]
     simp only[h1,h2,if_true];rfl
    rw[hn];exact Or.inl (Or.inl (Or.inl ⟨_,rfl⟩))
   ·go_wp2_with fail
    refine(cS.out).mono ?_;rintro e w2 ⟨rfl,rfl⟩
    go_wp2_with fail
    refine(j4 hd (by omega) _).mono ?_;rintro e w2 ⟨u,rfl,hu,aU⟩;have Ar:=Im.call aU;have kp:=Ar.src;have c3:=kp.cell 3;have f3:=kp.free 3;simp only[aq.cells]at c3
    simp at c3
    have sE:=kp.store (y:={ec with scheme:=u}) 3 (.string u) (by rfl);have AB:=Ar.into ((Below.refl (w.heap.size+1) w2).setCell (p:=⟨w.heap.size+1,3,none⟩) (Nat.le_refl _) (.string u)) sE;clear kp sE aU
    go_wp2_with fail
    go_meet;refine⟨Oj,{ec with scheme:=u},rfl,K6,AB,?_,rfl⟩;unfold Lz.cZ;have h1:(Lib.cut s.data.toList [58,47,47]).2.2=true:=FX.out;have h2:Lz.bO (Lib.cut s.data.toList [58,47,47]).1=true:=by rw[<-Sh.out,hhd.out]
    simp only[h1,h2,if_true];show _=Lz.gK u.data.toList _;rw[hu.out,hhd.out,ni.out]
 case rest=>
  clear Im cS Sh FX hhd ni hhz K6;obtain⟨rest,x,rfl,K6,Im,HS⟩:=hcut
  go_wp2_with fail
  have cI:=Ih (zH rest wc);have sF:=pr rest.data.toList 47;rw[aa]at sF;generalize hi:Lib.indexByte rest.data.toList 47=i at cI sF;have Hi:=Ih hi;clear hi;refine(cI.out).mono ?_;rintro e w2 ⟨rfl,rfl⟩
  go_upto_if 33 with fail
  go_cut [0] (fun s0 wx=>S3 s w s0 wx)
  case first=>
   by_cases nP:0<=i
   ·obtain⟨k,rfl⟩:∃k:Nat,i=k:=⟨i.toNat,by omega⟩;have tL:=Im.src;have c7:=tL.cell 7;have f7:=tL.free 7;simp only[aq.cells]at c7
    simp at c7
    have kp:=tL.store (y:={x with path:=rest.extract k rest.size}) 7 (.string (rest.extract k rest.size)) (by rfl);have Ar:=(Im.into ((Below.refl (w.heap.size+1) wc).setCell (p:=⟨w.heap.size+1,7,none⟩) (Nat.le_refl _) (.string (rest.extract k rest.size))) kp).drew;clear kp tL
    go_wp2
    go_region
    go_wp2_with fail
    go_meet;refine⟨rest.extract 0 k,{x with path:=rest.extract k rest.size},rfl,Nat.le_trans (aZ _ _ _) K6,Nat.le_trans (aZ _ _ _) K6,Ar,?_,by rw[HS.out.2]⟩;rw[HS.out.1];unfold Lz.gK;rw[Hi.out,if_pos (by omega)];show _=Lz.fH x.scheme.data.toList (rest.extract k rest.size).data.toList _;rw[fK,dQ];rfl
   ·have Lj:i<0:=by omega
    go_wp2_with fail
    go_meet;have h2:=HS.out.2;refine⟨rest,x,rfl,K6,by rw[h2];exact Nat.zero_le _,Im,?_,by rw[h2]⟩;rw[HS.out.1];unfold Lz.gK;rw[Hi.out,if_neg (by omega)];rw[h2];rfl
  case rest=>
   clear Im Hi cI sF HS K6;obtain⟨r,y,rfl,Di,Iw,Ar,HQ⟩:=hcut;rename_i w3
   go_wp2_with fail
   refine(Ti r ⟨#[58]⟩ (by omega) _ (hE.below Ar.below)).mono ?_;rintro e w4 ⟨nm,nu,rfl,vV,VK,ex⟩;generalize l6:(Lib.cut r.data.toList (ByteArray.data ⟨#[58]⟩).toList).2.2=WH;have WM:=Ih l6;clear l6;have hz:=ym r.data.toList [58];have Y4:nm.size<=1048576:=by rw[<-aa nm,vV.out];exact Nat.le_trans hz.1 (by rw[aa];exact Di)
   have ZA:nu.size<=1048576:=by rw[<-aa nu,VK.out];exact Nat.le_trans hz.2 (by rw[aa];exact Di)
   clear hz;have TS:=Ar.call ex;clear Ar ex
   go_wp2_with fail
   refine(PK nm Y4 (w.heap.size+1) y w4 (hE.below TS.below) TS.src).mono ?_;rintro e w5 ⟨v1,y1,rfl,Oh,VF,Le,dB⟩;have Ph:=TS.into dB VF;clear TS dB VF
   go_upto_if 49 with fail
   go_cut [12] (fun s12 wx=>Yx s w s12 wx)
   case first=>
    cases WH
    ·go_wp2_with fail
     go_meet;refine⟨(gA nm y).isSome,y1,Oh.out.succ.succ,by rw[Le.out.2];exact Iw,Ph,fun gp O3=>?_⟩;rw[HQ.out.1,rV nm nu r y y1 y1 false gp HQ.out.2 vV.out VK.out WM.out Le.out.1 (fun h=>by cases h) (fun _=>rfl) (by rw[<-Le.out.2];exact O3)];simp only[Bool.false_eq_true,if_false,Bool.and_true]
    ·go_wp2_with fail
     refine(Qx nu ZA (w.heap.size+1) y1 w5 (hE.below Ph.below) Ph.src).mono ?_;rintro e w6 ⟨v2,y2,rfl,gQ,WI,XG,kW⟩;have hH6:=Ph.into kW WI;have f1:=Oh.out.form;have f2:=gQ.out.form;clear Ph kW WI;rcases f1 with rfl|⟨t1,q1,rfl⟩<;>rcases f2 with rfl|⟨t2,q2,rfl⟩
     all_goals
      go_wp2_with fail
      refine(G0 w6.heap.size 1 _ _ _ _ _ Oh.out.zero.succ (gQ.out.below ((Below.refl _ w6).alloc (Nat.le_refl _) _)) (by simp) (by simp)).mono ?_;rintro e w7 ⟨v3,rfl,Oo,vX⟩;have Io:=hH6.call (((Below.refl _ w6).alloc (Nat.le_refl _) _).trans (vX.mono (by simp)));clear vX
      go_wp2_with fail
      go_meet;refine⟨_,y2,Oo.out,by rw[XG.out.2,Le.out.2];exact Iw,Io,fun gp O3=>?_⟩;rw[HQ.out.1];exact rV nm nu r y y1 y2 true gp HQ.out.2 vV.out VK.out WM.out Le.out.1 (fun _=>XG.out.1) (fun h=>by cases h) (by rw[<-Le.out.2,<-XG.out.2];exact O3)
   case rest=>
    clear Ph Oh Le WM vV VK Y4 ZA HQ Iw Di;obtain⟨gg,y2,Oo,acQ,Io,HF⟩:=hcut;have AI:=Io.src;have c7:=AI.cell 7;have f7:=AI.free 7;simp only[aq.cells]at c7
    simp at c7
    have cP:=Ih (fun w=>py Jx y2.path (by omega) w);generalize jd:Lz.dj Lz.dA y2.path.data.toList=sn at cP;have wX:=Ih jd;clear jd AI;obtain⟨gp,O3⟩:∃gp,gp=(y2.path.data.toList.isEmpty||sn):=⟨_,rfl⟩;have Tm:=Ih O3;clear O3
    go_upto_region 14 with fail
    go_cut [63] (fun s63 wx=>s63=.bool (!gp)/\gJ w wx y2/\Hid (gO wx 2 gg u12))
    case first=>
     by_cases Z3:0<y2.path.size
     ·have he:=aj Z3;have o6:gp=sn:=by rw[Tm.out];rw[Lib.toList_data]at he;rw[he];rfl
      subst o6
      go_wp2_with (go_at_call 147;refine(cP.out _).mono ?_;rintro e w8 ⟨rfl,rfl⟩)
      go_meet;exact⟨rfl,Io,Oo⟩
     ·have he:=ak (show y2.path.size=0 by omega);have o6:gp=true:=by rw[Tm.out];rw[Lib.toList_data]at he;rw[he];rfl
      subst o6
      go_wp2_with (go_at_call 147;refine(cP.out _).mono ?_;rintro e w8 ⟨rfl,rfl⟩)
      go_meet;exact⟨rfl,Io,Oo⟩
    case rest=>
     clear Io Oo c7 f7 cP;obtain⟨rfl,Io,Oo⟩:=hcut
     go_upto_if 63 with fail
     go_cut [12] (fun s12 wx=>YI s w s12 wx)
     case first=>
      have HG:=HF.out gp (by rw[wX.out,Tm.out]);have HG:=Ih HG;clear HF;cases gp
      ·have f3:=Oo.out.form;rcases f3 with rfl|⟨t3,q3,rfl⟩
       all_goals
        go_wp2_with fail
        refine(G0 _ 2 _ false _ (.iface 72 (.string ⟨#[112,97,116,104]⟩)) _ (Oo.out.below ((Below.refl _ _).alloc (Nat.le_refl _) _)) (Or.inr ⟨rfl,Or.inl (Or.inl ⟨_,rfl⟩)⟩) (by simp) (by simp)).mono ?_;rintro e w8 ⟨v4,rfl,hv4,TH⟩;have hH8:=Io.call (((Below.refl _ _).alloc (Nat.le_refl _) _).trans (TH.mono (by simp)));clear TH Io Oo
        go_wp2_with fail
        go_meet;exact⟨_,y2,hv4.out,hH8,HG.out⟩
      ·go_wp2_with fail
       go_meet;exact⟨gg,y2,Oo.out.succ,Io,by have h:=HG.out;rw[Bool.and_true]at h;exact h⟩
     case rest=>
      clear Io Oo HF Tm wX;obtain⟨gg,y3,hv4,hH9,HG⟩:=hcut;obtain⟨⟨cs,gR,Dr,hR9⟩,hT9,XL⟩:=hH9;have abq:=Ih Dr;have Hv:=Ih hv4;clear Dr;have As:_=some (Obj.cells #[.int .i64 y3.kind,.string y3.text,.int .i64 y3.bits,.string y3.scheme,.string y3.host,.bool y3.wild,.int .i64 y3.port,.string y3.path] 41 (0,0)):=hT9;clear hT9
      go_wp2_with (first |(refine wpList_load_row rfl 41 _ rfl (w.heap.size+1) rfl 41 _ (0,0) _ As Tryz.underlying41 rfl nz ?_)|(refine bw rfl _ _ rfl w.heap.size rfl rfl _ hR9 gR ?_))
      refine bodyPost_ret (bx (u:=3) rfl _ _ w.heap.size y3 (0,0) rfl (setRow_heap _ _ _ _ _ _ hR9)) rfl ⟨y3,_,rfl,M0 hR9 abq.out _ HG.out hv4.out,below_setRow XL (Nat.le_refl _) _⟩
theorem fx.up {w:World} {n m:Nat} {v:Value} (vV:n<=m) (h:fx w n v):fx w m v:=by
 induction vV with
 | refl=>exact h
 | step _ ih=>exact Or.inl ih
theorem mZ.up {o:Option Lz.Src} {x:aq} {w:World} {n m:Nat} {v:Value} (vV:n<=m) (h:mZ o x w n v):mZ o x w m v:=by
 cases o with
 | none=>exact fx.up vV h
 | some y=>exact h
theorem mZ.setRow {o:Option Lz.Src} {x:aq} {w:World} {R:Nat} {cs:Array Value} {t:TypeId} {fr:Nat×Nat} {n:Nat} {v:Value} (hr:w.heap[R]? =some (.cells cs t fr)) (h0:cs[0]? =some (.int .i64 0)) (cells:Array Value) (h:mZ o x w n v):mZ o x (w.setRow R cells) n v:=by
 cases o with
 | none=>exact fx.setRow hr h0 cells h
 | some y=>exact h
theorem wi (s p:List UInt8):(Lib.trimSuffix s p).length<=s.length:=by
 unfold Lib.trimSuffix;split
 ·simp[List.length_take]
 ·exact Nat.le_refl _
theorem is {w w1:World} {o:Obj} (hb:Below (w.alloc o).heap.size (w.alloc o) w1):w1.heap[w.heap.size]? =some o:=by
 rw[hb.block w.heap.size (by simp)];show(w.heap.push _)[w.heap.size]? =_
 simp
theorem Ic {s:ByteArray} (h:0<s.size):s.data.toList.head? =some s[0]:=by
 have:=aw h;cases hl:s.data.toList with
 | nil=>rw[hl]at this;cases this
 | cons a r=>rw[hl]at this;simpa using this
theorem tj {s:ByteArray} (h:0<s.size):s.data.toList.getLast? =some (s[s.size-1]'(by omega)):=by
 rw[List.getLast?_eq_getElem?,aa];exact aw (by omega)
theorem jD (a b:UInt8):((a.toNat:Int)==(b.toNat:Int))=(a==b):=by
 by_cases h:a=b
 ·subst h;simp
 ·have:¬(a.toNat:Int)=b.toNat:=fun e=>h (UInt8.toNat_inj.1 (by omega));rw[beq_eq_false_iff_ne.2 this,beq_eq_false_iff_ne.2 h]
theorem ky (s:ByteArray):(s.extract 1 (s.size-1)).data.toList=(s.data.toList.drop 1).dropLast:=by
 rw[Lib.extract_data,List.dropLast_eq_take,List.length_drop,aa]
theorem JR (s:ByteArray) (hs:s.size<=1048576) (w:World) (hE:Env w):Calls Tryz.prog 64 #[.string s] w (UN (Lz.bR s.data.toList) 3 w):=by
 obtain⟨q,hq⟩:∃q,q=Lz.iH s.data.toList:=⟨_,rfl⟩;have Hq:=Ih hq;clear hq;have j8:Below w.heap.size w (w.alloc (.cells #[.int .i64 0,.string ⟨#[]⟩,.int .i64 0,.string ⟨#[]⟩,.string ⟨#[]⟩,.bool false,.int .i64 0,.string ⟨#[]⟩] 41)):=(Below.refl _ w).alloc (Nat.le_refl _) _;have Tv:=hE.below j8;go_enter Tryz.func64,Tryz.ntmps64
 go_upto_region 1 with fail
 go_cut [21] (fun s21 wx=>s21=.bool q/\wx=(w.alloc (.cells #[.int .i64 0,.string ⟨#[]⟩,.int .i64 0,.string ⟨#[]⟩,.string ⟨#[]⟩,.bool false,.int .i64 0,.string ⟨#[]⟩] 41)))
 case first=>
  by_cases h1:1<s.size
  ·have h0:0<s.size:=by omega
   have hl:s.size-1<s.size:=by omega
   have g0:=Ic h0;have g1:=tj h0
   have sY:q=((s[0].toNat:Int)==39&&((s[s.size-1].toNat:Int)==39)):=by
    rw[Hq.out];unfold Lz.iH;rw[g0,g1,aa,decide_eq_true h1];have e1:=jD s[0] 39;have e2:=jD (s[s.size-1]'(by omega)) 39;simp only[Bool.true_and];rw[show((39:UInt8).toNat:Int)=39 from rfl]at e1 e2;rw[e1,e2];rfl
   have OT:=Ih sY;clear sY g0 g1;generalize ha:((s[0].toNat:Int)==39)=a at OT;generalize hb:((s[s.size-1].toNat:Int)==39)=b at OT;cases a<;>cases b
   all_goals
    go_wp2_with fail
    all_goals
     go_meet;exact⟨by have h:=OT.out;subst h;rfl,rfl⟩
  ·have sY:q=false:=by
    rw[Hq.out];unfold Lz.iH;rw[aa,decide_eq_false h1];rfl
   have OT:=Ih sY;clear sY;have An:(s.size:Int)<=1:=by omega
   clear h1
   go_wp2_with fail
   all_goals
    go_meet;exact⟨by have h:=OT.out;subst h;rfl,rfl⟩
 case rest=>
  obtain⟨rfl,rfl⟩:=hcut;cases q
  ·go_wp2_with fail
   refine(AM s ⟨#[58]⟩ (by omega) _).mono ?_;rintro e w1 ⟨v,rfl,hv,rfl⟩
   have hvz:v.size<=1048576:=by
    rw[<-aa v,hv.out];exact Nat.le_trans (wi _ _) (by rw[aa];exact hs)
   have cS:=Ih (fun w=>vB v (by omega) w);generalize Pt:Lib.hasSuffix s.data.toList (ByteArray.data ⟨#[58]⟩).toList=sf;have Hsf:=Ih Pt;clear Pt;generalize hsb:Lz.bO v.data.toList=sb at cS;have Sh:=Ih hsb;clear hsb;by_cases Ap:sf=true/\sb=true
   ·obtain⟨rfl,rfl⟩:=Ap
    go_wp2_with fail
    refine(cS.out _).mono ?_;rintro e w1 ⟨rfl,rfl⟩
    go_wp2_with fail
    refine(j4 v (by omega) _).mono ?_;rintro e w1 ⟨u,rfl,hu,aC⟩;have j9:=is aC;have fF:=ac j8 aC
    go_wp2_with (refine bw rfl _ _ rfl w.heap.size rfl rfl _ j9 rfl ?_)
    refine bodyPost_ret (bx (u:=3) rfl _ _ w.heap.size ⟨2,⟨#[]⟩,0,u,⟨#[]⟩,false,-1,⟨#[]⟩⟩ (0,0) rfl (setRow_heap _ _ _ _ _ _ j9)) rfl ⟨_,_,rfl,?_,below_setRow fF (Nat.le_refl _) _⟩
    have hp:Lz.bR s.data.toList=some (Lz.tm (Lz.low v.data.toList)):=by
     unfold Lz.bR;have h1:Lib.hasSuffix s.data.toList [58]=true:=Hsf.out;have h2:v.data.toList=Lib.trimSuffix s.data.toList [58]:=hv.out;rw[<-Hq.out,<-h2,h1,Sh.out];rfl
    rw[hp];exact⟨by unfold aq.src;rw[hu.out];rfl,rfl⟩
   ·have hp:Lz.bR s.data.toList=Lz.cZ s.data.toList:=by
     unfold Lz.bR;have h2:v.data.toList=Lib.trimSuffix s.data.toList [58]:=hv.out;have h1:Lib.hasSuffix s.data.toList [58]=sf:=Hsf.out;rw[<-Hq.out,<-h2,h1,Sh.out];cases sf<;>cases sb<;>simp_all
    have Hp:=Ih hp;have gT:(sf=false)\/(sf=true/\sb=false):=by cases sf<;>cases sb<;>simp_all
    clear Ap hp;rcases gT with rfl|⟨rfl,rfl⟩
    all_goals
     go_wp2_with (first |(go_at_call 98;refine(cS.out _).mono ?_;rintro e w1 ⟨rfl,rfl⟩)|(go_at_call 100;fail))
     refine(D8 s hs _ Tv).mono ?_;rintro e w1 ⟨x,v2,rfl,gQ,aC⟩;have j9:=is aC;have fF:=ac j8 aC;clear aC;obtain⟨k1,t1,b1,aS,oW,F2,FT,bF⟩:=x
     go_wp2_with (refine bw rfl _ _ rfl w.heap.size rfl rfl _ j9 rfl ?_)
     refine bodyPost_ret (bx (u:=3) rfl _ _ w.heap.size ⟨k1,t1,b1,aS,oW,F2,FT,bF⟩ (0,0) rfl (setRow_heap _ _ _ _ _ _ j9)) rfl ⟨_,_,rfl,?_,below_setRow fF (Nat.le_refl _) _⟩;rw[Hp.out];exact gQ.out.setRow j9 rfl _
  ·have h1:1<s.size:=by
    have h:=Hq.out;unfold Lz.iH at h;rw[aa]at h;by_cases h1:1<s.size
    ·exact h1
    ·rw[decide_eq_false h1]at h
     simp at h
   have hz:=aZ s 1 (s.size-1);have j7:((s.size:Int)-1)=((s.size-1:Nat):Int):=by omega
   have Hc1:=Ih j7;clear j7
   go_wp2_with fail
   refine(EM (s.extract 1 (s.size-1)) (by omega) _ Tv).mono ?_;rintro e w1 ⟨x,v2,rfl,gQ,aC⟩;have j9:=is aC;have fF:=ac j8 aC;clear aC
   have hp:Lz.bR s.data.toList=Lz.dh (s.extract 1 (s.size-1)).data.toList:=by
    unfold Lz.bR;rw[<-Hq.out,ky,if_pos rfl]
   have Hp:=Ih hp;clear hp;obtain⟨k1,t1,b1,aS,oW,F2,FT,bF⟩:=x
   go_wp2_with (refine bw rfl _ _ rfl w.heap.size rfl rfl _ j9 rfl ?_)
   refine bodyPost_ret (bx (u:=3) rfl _ _ w.heap.size ⟨k1,t1,b1,aS,oW,F2,FT,bF⟩ (0,0) rfl (setRow_heap _ _ _ _ _ _ j9)) rfl ⟨_,_,rfl,?_,below_setRow fF (Nat.le_refl _) _⟩;rw[Hp.out];exact(gQ.out.up (Nat.zero_le 3)).setRow j9 rfl _
def jv (l:List UInt8):Lz.Src:=(Lz.bR l).getD ⟨0,[],0,[],[],false,0,[]⟩
def fD (l:List UInt8):Int:=if(Lz.bR l).isSome then 0 else 250
def ML (l:List UInt8) (w:World) (e:Ending) (w':World):Prop:=
 ∃x:aq,e=.returned (.tuple #[x.val,.int .i64 (fD l)])/\Hid (x.src=jv l)/\Below w.heap.size w w'
theorem jc {fn:Func} {p u:Tmp} (h:fn.results= #[.cell p 41,.tmp u]) (tmps:Array Value) (w:World) (g:Nat) (x:aq) (fr:Nat×Nat) (n:Int)
  (hp:tmps.getD p undef=.pointer (some ⟨g,0,none⟩)) (hu:tmps.getD u undef=.int .i64 n) (hg:w.heap[g]? =some (.cells #[.int .i64 x.kind,.string x.text,.int .i64 x.bits,.string x.scheme,.string x.host,.bool x.wild,.int .i64 x.port,.string x.path] 41 fr)):
  (results fn tmps).run Tryz.prog w=.ok (.tuple #[x.val,.int .i64 n]) w:=by
 rw[<-hu];exact bx h tmps w g x fr hp hg
theorem IK (s:ByteArray) (hs:s.size<=1048576) (w:World) (hE:Env w):Calls Tryz.prog 37 #[.string s] w (ML s.data.toList w):=by
 have j8:Below w.heap.size w (w.alloc (.cells #[.int .i64 0,.string ⟨#[]⟩,.int .i64 0,.string ⟨#[]⟩,.string ⟨#[]⟩,.bool false,.int .i64 0,.string ⟨#[]⟩] 41)):=(Below.refl _ w).alloc (Nat.le_refl _) _;have Tv:=hE.below j8;go_enter Tryz.func37,Tryz.ntmps37
 go_wp2_with fail
 refine(JR s hs _ Tv).mono ?_;rintro e w1 ⟨x,v,rfl,hv,aC⟩;have j9:=is aC;have fF:=ac j8 aC;have DB:=hE.below fF;clear aC;obtain⟨k1,t1,b1,aS,oW,F2,FT,bF⟩:=x
 dsimp only[aq.val]
 have ou:∀o1 o2:Obj,((w1.alloc o1).alloc o2).heap[w.heap.size]? =some (.cells #[.int .i64 0,.string ⟨#[]⟩,.int .i64 0,.string ⟨#[]⟩,.string ⟨#[]⟩,.bool false,.int .i64 0,.string ⟨#[]⟩] 41 (0,0)):=fun o1 o2=>by
  have hl:=(Array.getElem?_eq_some_iff.1 j9).1;rw[Below.heap_alloc _ _ _ (by simp;omega),Below.heap_alloc _ _ _ hl];exact j9
 cases hp:Lz.bR s.data.toList with
 | some y=>
   rw[hp]at hv;obtain⟨hy,rfl⟩:=hv.out;have Hy:=Ih hy;clear hy hv;have HE:Hid (fD s.data.toList=0/\jv s.data.toList=y):=by refine⟨?_,?_⟩<;>simp[fD,jv,hp]
   clear hp
   go_wp2_with fail
   refine(Ve _ _).mono ?_;rintro e w2 ⟨rfl,rfl⟩
   go_wp2_with (refine bw rfl _ _ rfl w.heap.size rfl rfl _ (ou _ _) rfl ?_)
   refine bodyPost_ret (jc (u:=3) rfl _ _ w.heap.size ⟨k1,t1,b1,aS,oW,F2,FT,bF⟩ (0,0) 0 rfl rfl (setRow_heap _ _ _ _ _ _ (ou _ _))) rfl ⟨⟨k1,t1,b1,aS,oW,F2,FT,bF⟩,by rw[HE.out.1],by show _=_;rw[HE.out.2];exact Hy.out,below_setRow ?_ (Nat.le_refl _) _⟩;exact(fF.alloc (by have:=fF.size;omega) _).alloc (by have:=fF.size;simp;omega) _
 | none=>
   rw[hp]at hv;have hB:fx w1 3 v:=hv.out;obtain⟨t0,x0,rfl⟩:=hB.iface;have HE:Hid (fD s.data.toList=250/\jv s.data.toList=⟨0,[],0,[],[],false,0,[]⟩):=by refine⟨?_,?_⟩<;>simp[fD,jv,hp]
   clear hp hv;have Dy:∀o1 o2:Obj,Below w1.heap.size w1 ((w1.alloc o1).alloc o2):=fun o1 o2=>((Below.refl _ w1).alloc (Nat.le_refl _) _).alloc (by simp) _;have HB:=Ih hB;clear hB
   go_wp2_with fail
   refine(PH 3 t0 x0 (w1.heap.size+1) (.string ⟨#[]⟩) _ (DB.below (Dy _ _)) (HB.out.below (Dy _ _)) (by simp) (by simp)).mono ?_;rintro e w2 ⟨rfl,aU⟩
   have vW:w2.heap[w.heap.size]? =some (.cells #[.int .i64 0,.string ⟨#[]⟩,.int .i64 0,.string ⟨#[]⟩,.string ⟨#[]⟩,.bool false,.int .i64 0,.string ⟨#[]⟩] 41 (0,0)):=by
    have hl:=(Array.getElem?_eq_some_iff.1 j9).1;rw[aU.block _ (by omega)];exact ou _ _
   have nL:Below w.heap.size w w2:=(fF.trans ((Dy _ _).mono fF.size)).trans (aU.mono (by have:=fF.size;omega));clear aU ou Dy j9
   go_wp2_with (refine bw rfl _ _ rfl w.heap.size rfl rfl _ vW rfl ?_)
   refine bodyPost_ret (jc (u:=3) rfl _ _ w.heap.size ⟨0,⟨#[]⟩,0,⟨#[]⟩,⟨#[]⟩,false,0,⟨#[]⟩⟩ (0,0) 250 rfl rfl (setRow_heap _ _ _ _ _ _ vW)) rfl ⟨⟨0,⟨#[]⟩,0,⟨#[]⟩,⟨#[]⟩,false,0,⟨#[]⟩⟩,by rw[HE.out.1],by show _=_;rw[HE.out.2];rfl,below_setRow nL (Nat.le_refl _) _⟩
end Go.Proofs.YtlcbhacofagedaaGreatDoor
namespace Go.Proofs.YtlcbhacofagedaaGreatDoor
open Go.ChangeShapes Go.WideShapes Go.ChangeAt Go.RowKit
theorem fB {l:List (String×DataW Unit)} {W:World} (h:laidMetH Tryz.prog l W) {n:String} {d:DataW Unit} (hm:(n,d)∈l) (hn:d.handleName?.isNone=true):Lib.VarReads Tryz.prog W n d:=
 Lib.laidMet.reads (laidMetH_iff.1 h).1 (List.mem_filter.2 ⟨hm,hn⟩)
theorem qw {W:World} {name:String} {k:IntKind} {zs:List Int} {g:Nat} {t e:TypeId} {n:Nat}
  (hg:Tryz.prog.globalNamed name=some g) (WL:(Tryz.prog.globals[g]?).map (·.type)=some t) (ht:Tryz.prog.underlying t=some (.array n e)) (he:Tryz.prog.underlying e=some (.int k)) (hce:Tryz.prog.cellsOf e=1) (hct:Tryz.prog.cellsOf t=n)
  (h:Lib.VarReads Tryz.prog W name (Lib.tabData k zs)):Lib.TabIs Tryz.prog W name k zs:=by
 obtain⟨g',t',cs,fuel,p,VJ,Sl,tf,hd⟩:=h;obtain rfl:=Option.some.inj (hg.symm.trans VJ);obtain rfl:=Option.some.inj (WL.symm.trans Sl);unfold Lib.TabIs;rw[tf,<-Lib.cells_of_tab ht he hce hct hd]
theorem mR {W:World} {name:String} {nm:String} {d:DataW Unit} {g:Nat} {t:TypeId} {ms:Array (String×TypeId)}
  (hg:Tryz.prog.globalNamed name=some g) (WL:(Tryz.prog.globals[g]?).map (·.type)=some t) (ht:Tryz.prog.underlying t=some (.interface ms))
  (h:Lib.VarReads Tryz.prog W name (.iface nm d)):∃te pe,W.cell? ⟨g,0,none⟩=some (.iface te pe):=by
 obtain⟨g',t',cs,fuel,p,VJ,Sl,tf,hd⟩:=h;obtain rfl:=Option.some.inj (hg.symm.trans VJ);obtain rfl:=Option.some.inj (WL.symm.trans Sl);have dF:=World.var?_cell hg tf 0;cases fuel with
 | zero=>simp[DataW.trod]at hd
 | succ n=>
   unfold DataW.trod at hd;rw[ht]at hd;obtain⟨cs⟩:=cs
   match cs,hd,dF with
   | [.iface u v],_,dF=>exact⟨u,v,by simpa using dF⟩
   | [.nilIface],hd,_=>simp at hd
   | [],hd,_=>simp at hd
   | _::_::_,hd,_=>simp at hd
theorem aaV:Tryz.prog.globalNamed "strconv.ErrSyntax"=some 9:=by kernel_rfl
theorem aaX:Tryz.prog.globalNamed "strconv.ErrRange"=some 10:=by kernel_rfl
theorem gEt:Tryz.prog.globalNamed "errors.errorType"=some 1:=by kernel_rfl
theorem XO:(Tryz.prog.cutTypes.find? (·.1== "internal/reflectlite.rtype")).map (·.2)=some 149:=by kernel_rfl
theorem Vh:((List.range Tryz.prog.types.size).filter fun t=>Tryz.prog.rowNamed t [101,114,114,111,114])=[59]:=by kernel_rfl
theorem FH {l:List (String×DataW Unit)} {W:World} (h:laidMetH Tryz.prog l W) (hm:("errors.errorType",Rows.laid_errors_errorType)∈l):
  W.cell? ⟨1,0,none⟩=some (.iface 149 (.agg #[.pointer (some ⟨11,59,none⟩)])):=by
 obtain⟨name,u,ty,e1,e2,e3,e4,e5⟩:=(laidMetH_iff.1 h).2 _ (List.mem_filter.2 ⟨hm,rfl⟩);have en:name=[101,114,114,111,114]:=(Option.some.inj e1).symm;subst en;obtain rfl:=Option.some.inj (XO.symm.trans e2);have hm:ty∈(List.range Tryz.prog.types.size).filter fun t=>Tryz.prog.rowNamed t [101,114,114,111,114]:=List.mem_filter.2 ⟨List.mem_range.2 e3,e4⟩;rw[Vh]at hm;obtain rfl:=List.mem_singleton.1 hm;have hh:typeHandle Tryz.prog 59=.pointer (some ⟨11,59,none⟩):=by kernel_rfl
 rw[hh]at e5;simpa using World.var?_cell gEt e5 0
theorem yh {w:World} {b o:Nat} {sp:Option Nat} {v:Value} (h:w.cell? ⟨b,o,sp⟩=some v):sp=none:=by
 cases sp with
 | none=>rfl
 | some x=>
   unfold World.cell? at h;split at h<;>simp at h
def Yb:List Int:=[0,1,56,2,57,49,28,3,61,58,42,50,38,29,17,4,62,47,59,36,45,43,51,22,53,39,33,30,24,18,12,5,63,55,48,27,60,41,37,16,46,35,44,21,52,32,23,11,54,26,40,15,34,20,31,10,25,14,19,9,13,8,7,6]
theorem gDb:Tryz.prog.globalNamed "math/bits.deBruijn64tab"=some 8:=by kernel_rfl
theorem zL {l:List (String×DataW Unit)} {W:World} (h:laidMetH Tryz.prog l W) (Az:W.ShapedOpen Tryz.prog)
  (m1:("internal/strconv.uint64pow10",Rows.laid_internal_strconv_uint64pow10)∈l) (m2:("errors.errorType",Rows.laid_errors_errorType)∈l)
  (m3:("strconv.ErrRange",Rows.laid_strconv_ErrRange)∈l) (m4:("strconv.ErrSyntax",Rows.laid_strconv_ErrSyntax)∈l) (m5:("math/bits.deBruijn64tab",Rows.laid_math_bits_deBruijn64tab)∈l):de W:=by
 have Lu:Lib.TabIs Tryz.prog W "math/bits.deBruijn64tab" .u8 Yb:=qw gDb (t:=286) (by kernel_rfl) (Tryz.underlying286) (Tryz.underlying5) (by kernel_rfl) (by kernel_rfl) (fB h m5 rfl);have dF:=fun o=>World.var?_cell gDb Lu o
 exact{
  ml:=cell_of_shapedOpen_int (zero:= #[.int .i64 0]) (t:=3) Az (of_decide_eq_true (by kernel_rfl)) (by kernel_rfl) rfl (by kernel_rfl) (by kernel_rfl) (Tryz.underlying3)
  pow:=qw Qd (t:=220) (by kernel_rfl) (Tryz.underlying220) (Tryz.underlying198) (by kernel_rfl) (by kernel_rfl) (fB h m1 rfl)
  syn:=mR aaV (t:=59) (by kernel_rfl) (Tryz.underlying59) (fB h m4 rfl)
  rng:=mR aaX (t:=59) (by kernel_rfl) (Tryz.underlying59) (fB h m3 rfl)
  et:=FH h m2
  db8:=(dF 7).trans (by rfl)
  db16:=(dF 15).trans (by rfl)
  size:=by
   have hs:(((begin Tryz.prog (fun _ _=>0) default).world.heap[11-1]?).bind Obj.row?).isSome=true:=by kernel_rfl
   obtain⟨⟨zero,t⟩,h0⟩:=Option.isSome_iff_exists.1 hs;obtain⟨cs,hc,_⟩:=Az.1 (11-1) zero t (of_decide_eq_true (by kernel_rfl)) h0;have:=(Array.getElem?_eq_some_iff.1 hc).1;omega}
theorem Ui:Tryz.prog.globalNamed "unicode/utf8.first"=some 5:=by kernel_rfl
theorem aar:Tryz.prog.globalNamed "unicode/utf8.acceptRanges"=some 6:=by kernel_rfl
theorem wo {w:World} (h3:Lib.VarReads Tryz.prog w "unicode/utf8.first" Lib.firstData) (h4:Lib.VarReads Tryz.prog w "unicode/utf8.acceptRanges" Lib.acceptData):Lib.Utf8Tabs 5 6 w:=by
 have c5:Tryz.prog.cellsOf 5=1:=by kernel_rfl
 have c119:Tryz.prog.cellsOf 246=256:=by kernel_rfl
 have c138:Tryz.prog.cellsOf 269=2:=by kernel_rfl
 have y3:(Tryz.prog.globals[5]?).map (·.type)=some 246:=by kernel_rfl
 have y4:(Tryz.prog.globals[6]?).map (·.type)=some 270:=by kernel_rfl
 refine⟨fun c hc=>?_,fun i hi=>?_⟩
 ·obtain⟨g,t,cs,fuel,p,hg,WL,tf,hd⟩:=h3;obtain rfl:=Option.some.inj (Ui.symm.trans hg);obtain rfl:=Option.some.inj (y3.symm.trans WL);have iV:=Lib.cells_of_tab (Tryz.underlying246) (Tryz.underlying5) c5 c119 hd;have:=World.var?_cell hg tf c;rw[this,<-Array.getElem?_toList,iV]
  simp[Lib.firstTab,hc]
 ·obtain⟨g,t,cs,fuel,p,hg,WL,tf,hd⟩:=h4;obtain rfl:=Option.some.inj (aar.symm.trans hg);obtain rfl:=Option.some.inj (y4.symm.trans WL);obtain⟨ab4,d,q,hdi,he⟩:=Lib.array_elem (Tryz.underlying270) hd i hi;simp only[List.getElem?_map,List.getElem?_range hi,Option.map_some,Option.some.injEq]at hdi;subst hdi;rw[c138]at he
  have iV:=Lib.ints_of_struct (Tryz.underlying269) (fun j f hj=>by
   match j,hj with
   | 0,hj=>simp at hj;subst hj;exact⟨Tryz.underlying5,rfl,c5⟩
   | 1,hj=>simp at hj;subst hj;exact⟨Tryz.underlying5,rfl,c5⟩
   | j+2,hj=>simp at hj) (by rw[c138];rfl) he
  have e0:=congrArg (·[0]?) iV;have e1:=congrArg (·[1]?) iV;simp only[List.getElem?_take,List.getElem?_drop]at e0 e1;constructor
  ·rw[World.var?_cell hg tf (2*i),<-Array.getElem?_toList];simpa [Nat.mul_comm]using e0
  ·rw[World.var?_cell hg tf (2*i+1),<-Array.getElem?_toList];simpa [Nat.mul_comm]using e1
theorem zW {l:List (String×DataW Unit)} {W:World} (h:laidMetH Tryz.prog l W) (Az:W.ShapedOpen Tryz.prog)
  (m1:("internal/strconv.uint64pow10",Rows.laid_internal_strconv_uint64pow10)∈l) (m2:("errors.errorType",Rows.laid_errors_errorType)∈l)
  (m3:("strconv.ErrRange",Rows.laid_strconv_ErrRange)∈l) (m4:("strconv.ErrSyntax",Rows.laid_strconv_ErrSyntax)∈l) (m5:("math/bits.deBruijn64tab",Rows.laid_math_bits_deBruijn64tab)∈l)
  (m6:("unicode/utf8.first",Rows.laid_unicode_utf8_first)∈l) (m7:("unicode/utf8.acceptRanges",Rows.laid_unicode_utf8_acceptRanges)∈l):jL W:=
 ⟨zL h Az m1 m2 m3 m4 m5,wo (by
  have:=fB h m6 (by kernel_rfl);rw[show Rows.laid_unicode_utf8_first=Lib.firstData from Pinned.utf8First_eq]at this;exact this) (by
  have:=fB h m7 (by kernel_rfl);rw[show(Rows.laid_unicode_utf8_acceptRanges:DataW Unit)=Lib.acceptData by kernel_rfl]at this;exact this)⟩
end Go.Proofs.YtlcbhacofagedaaGreatDoor
namespace Go.Proofs.YtlcbhacofagedaaGreatDoor
open Go.RowKit
theorem qN (u s:ByteArray):(u.toList==s.toList)=(u.data.toList==s.data.toList):=by rw[Lib.toList_data,Lib.toList_data]
theorem Uo (s:ByteArray) (hs:s.size<=900000) (w:World) (hE:de w):Calls Tryz.prog 107 #[.string s] w (cn (Lz.ipP s.data.toList) w):=by
 have cH:=vl s true hs (fun h=>by cases h) w hE
 have Pr:Lz.ipP s.data.toList=match Lz.aD s.data.toList true with
  | .ok h=>h==s.data.toList&&(s.data.toList[0]? ==some 91||Lz.bh s.data.toList)
  | .er _=>false:=rfl
 have dG:=fun h=>Lz.sN (s:=s.data.toList) (h:=h);have XC:=fun n=>Lz.iv s.data.toList n;generalize Lz.aD s.data.toList true=r at cH Pr dG XC;have CH:=Ih cH;have Oy:=Ih Pr;have Lg:=Ih dG;have Her:=Ih XC;clear cH Pr dG XC;cases r with
 | er n=>
   have hn:(((resE (.er n):Nat):Int)==0)=false:=by
    have:=Her.out n rfl
    apply beq_eq_false_iff_ne.2
    show(n:Int)≠0;omega
   have HN:Hid (Lz.ipP s.data.toList=false):=by show _=_;rw[Oy.out]
   go_enter Tryz.func107,Tryz.ntmps107
   go_wp2_with fail
   refine(CH.out).mono ?_;rintro e w1 ⟨u,rfl,hu,aC⟩
   go_wp2
   go_ret;rw[HN.out];exact⟨rfl,aC⟩
 | ok h=>
   by_cases hh:h=s.data.toList
   ·have ei:0<s.size:=by
     have:=(Lg.out h rfl).2.2;rw[<-aa,<-hh];exact List.length_pos_iff.2 this
    have hg:=aw ei
    have HQ:Hid (Lz.ipP s.data.toList=(decide (s[0]=91)||Lz.bh s.data.toList)):=by
     show _=_;rw[Oy.out,hg];simp only[hh,beq_self_eq_true,Bool.true_and];congr 1
    have cN:=fun W hW=>pZ s (by omega) W hW;generalize Lz.bh s.data.toList=nb at cN HQ;have CN:=Ih cN;have Hh:=Ih hh;clear cN hg hh Oy;by_cases h9:s[0]=91
    ·have h9b:((s[0].toNat:Int)==91)=true:=by rw[h9];rfl
     have HN:Hid (Lz.ipP s.data.toList=true):=by show _=_;rw[HQ.out,decide_eq_true h9];rfl
     clear h9;go_enter Tryz.func107,Tryz.ntmps107
     go_wp2_with fail
     refine(CH.out).mono ?_;rintro e w1 ⟨u,rfl,hu,aC⟩;have jn:(u.toList==s.toList)=true:=by rw[qN,hu.out,show PR (.ok h)=h from rfl,Hh.out];simp
     go_wp2
     go_ret;rw[HN.out];exact⟨rfl,aC⟩
    ·have h9b:((s[0].toNat:Int)==91)=false:=(jO s[0] 91).trans (beq_eq_false_iff_ne.2 h9);have HN:Hid (Lz.ipP s.data.toList=nb):=by show _=_;rw[HQ.out,decide_eq_false h9];rfl
     clear h9;go_enter Tryz.func107,Tryz.ntmps107
     go_wp2_with fail
     refine(CH.out).mono ?_;rintro e w1 ⟨u,rfl,hu,aC⟩;have jn:(u.toList==s.toList)=true:=by rw[qN,hu.out,show PR (.ok h)=h from rfl,Hh.out];simp
     go_wp2_with fail
     refine(CN.out _ (hE.below aC)).mono ?_;rintro e w2 ⟨rfl,aU⟩
     go_wp2
     go_ret;rw[HN.out];exact⟨rfl,ac aC aU⟩
   ·have HN:Hid (Lz.ipP s.data.toList=false):=by
     show _=_;rw[Oy.out];have:(h==s.data.toList)=false:=beq_eq_false_iff_ne.2 hh;show(h==s.data.toList&&_)=false;rw[this,Bool.false_and]
    have Hh:=Ih hh;clear hh;go_enter Tryz.func107,Tryz.ntmps107
    go_wp2_with fail
    refine(CH.out).mono ?_;rintro e w1 ⟨u,rfl,hu,aC⟩;have jn:(u.toList==s.toList)=false:=by rw[qN,hu.out,show PR (.ok h)=h from rfl];exact beq_eq_false_iff_ne.2 Hh.out
    go_wp2
    go_ret;rw[HN.out];exact⟨rfl,aC⟩
end Go.Proofs.YtlcbhacofagedaaGreatDoor
namespace Go.Proofs
open Go.Shelf
def Tryz.lays100_ren:Go.Shelf.Ren:=⟨fun|100=>106|207=>155|n=>n,fun|9=>9|4=>4|3=>3|n=>n,fun|n=>n⟩
theorem Tryz.lays100:Go.Proofs.Lays.n100 Tryz.prog Tryz.lays100_ren:=by repeat' first |kernel_rfl|(intro w;rfl)|(intro w;kernel_rfl)|decide|constructor
open Go.RowKit Go.Lib in
theorem Tryz.strings_HasSuffix (s p:ByteArray) (w:World) (hs:s.size<=9223372036854775807):
 Calls Tryz.prog 106 #[.string s,.string p] w fun e w'=>e=.returned (.bool (Lib.hasSuffix s.data.toList p.data.toList))/\w'=w:=Any.strings_HasSuffix Tryz.lays100 s p w hs
end Go.Proofs
namespace Go.Proofs.YtlcbhacofagedaaGreatDoor
open Go.ChangeShapes Go.WideShapes Go.ChangeAt Go.RowKit
theorem HJ:laidOutB Tryz.prog=true:=by kernel_rfl
theorem Rk:Tryz.prog.cellsOf 5=1:=by kernel_rfl
theorem nT {H:Type} {enc:TypeId×Value->H} {W W':World} (hb:Below W.heap.size W W'):∀{ts:List TypeId} {vs:List Value} {ds:List (DataW H)} {ps:List MemPlace},
  (∀t∈ts,Tryz.prog.readableRec t=true/\t<Tryz.prog.types.size)->DataW.TrodAll enc Tryz.prog W 0 (fun _=>true) true ts vs ds ps->(∀x∈ps,x.block<W.heap.size)->
  DataW.TrodAll enc Tryz.prog W' 0 (fun b=>decide (b<W.heap.size)) true ts vs ds ps
 | [],[],[],_,_,h,_=>h
 | t::ts,v::vs,d::ds,ps,ht,⟨p,q,h1,h2,e⟩,aN=>
   ⟨p,q,Below.trod HJ (ht t (by simp)).1 (ht t (by simp)).2 h1 hb (fun x hx=>aN x (by rw[e];exact List.mem_append_left _ hx)),
    nT hb (fun t' h'=>ht t' (by simp[h'])) h2 (fun x hx=>aN x (by rw[e];exact List.mem_append_right _ hx)),e⟩
 | [],_::_,_,_,_,h,_=>by simp[DataW.TrodAll]at h
 | [],[],_::_,_,_,h,_=>by simp[DataW.TrodAll]at h
 | _::_,[],_,_,_,h,_=>by simp[DataW.TrodAll]at h
 | _::_,_::_,[],_,_,h,_=>by simp[DataW.TrodAll]at h
theorem FB {n:Int} (h:(Lit.int .u8 n).wf=true):0<=n/\n<=255:=by
 simp only[Lit.wf,Bool.and_eq_true,decide_eq_true_eq]at h;have h0:IntKind.u8.min=0:=by decide
 have h1:IntKind.u8.max=255:=by decide
 rw[h0,h1]at h;exact h
theorem Me {H:Type} {enc:TypeId×Value->H} {W:World} {base:Nat} {sp:Nat->Bool} {hd:Bool} {v:Value} {x:DataW H×List MemPlace} {fuel:Nat}
  (hf:DataW.trod enc Tryz.prog W base sp hd fuel 63 [v]=some x):∃l,SlB W v l:=by
 rcases open_ints Tryz.underlying63 Tryz.underlying5 Rk hf with⟨iV,hx⟩|⟨a,len',Wv,zs,iV,_,hl,hm,hz,hx,dF,hwz⟩
 ·obtain rfl:=List.singleton_inj.1 iV;exact⟨[],none,0,rfl,by simp,fun j b hj=>by simp at hj⟩
 ·obtain rfl:=List.singleton_inj.1 iV;have hzl:len'<=zs.length:=by rw[hz];split<;>omega
  have hm':Wv<=9223372036854775807:=hm;have bv:((zs.take len').map (fun z=>UInt8.ofNat z.toNat)).length=len':=by simp;omega
  refine⟨(zs.take len').map (fun z=>UInt8.ofNat z.toNat),some a,Wv,by rw[bv],by rw[bv];omega,fun j b hj=>?_⟩
  have jR:j<len':=by
   have:=(List.getElem?_eq_some_iff.1 hj).1;rw[bv]at this;exact this
  obtain⟨B,off,rfl,hc⟩:=ints_at dF (by omega);have h1:=hc j (by omega);refine⟨B,off,rfl,World.block_lt_of_cell? _ _ h1,?_⟩;rw[h1]
  have hzj:zs[j]? =some (zs.getD j 0):=by
   rw[List.getD_eq_getElem?_getD,List.getElem?_eq_getElem (by omega)];rfl
  have hb:b=UInt8.ofNat (zs.getD j 0).toNat:=by
   rw[List.getElem?_map,List.getElem?_take,if_pos jR,hzj]at hj;exact(Option.some.inj hj).symm
  obtain⟨w0,w1⟩:=FB (hwz _ (List.mem_of_getElem? hzj));rw[hb,UInt8.toNat_ofNat'];congr 2;omega
theorem aaS {H:Type} {enc:TypeId×Value->H} {W:World} {base:Nat} {sp:Nat->Bool} {hd:Bool} {v:Value} {d:DataW H} {ps:List MemPlace} {r:Reach} {b0:Nat}
  (hv:Value.okWide Tryz.prog W r b0 63 v) (h:DataW.Trod enc Tryz.prog W base sp hd 63 v d ps):∃l,SlB W v l:=by
 obtain⟨a0,len,cap,rfl⟩:=okWide_slice Tryz.underlying63 hv;obtain⟨fuel,hf⟩:=h;exact Me hf
end Go.Proofs.YtlcbhacofagedaaGreatDoor
namespace Go.Proofs.YtlcbhacofagedaaGreatDoor
open Go.RowKit
abbrev C12 (s0 s1 s2:ByteArray) (b3:Bool) (s4:ByteArray) (i5:Int) (b6:Bool) (a:Option Addr) (n c:Nat) (b8 b9:Bool) (s10 s11:ByteArray):Array Value:= #[.string s0,.string s1,.string s2,.bool b3,.string s4,.int .i64 i5,.bool b6,.slice a n c,.bool b8,.bool b9,.string s10,.string s11]
def S12 (V:World) (r:Nat) (s0 s1 s2:ByteArray) (b3:Bool) (s4:ByteArray) (i5:Int) (b6:Bool) (a:Option Addr) (n c:Nat) (b8 b9:Bool) (s10 s11:ByteArray):Prop:=V.cell? ⟨r,0,none⟩=some (.string s0)/\V.cell? ⟨r,1,none⟩=some (.string s1)/\V.cell? ⟨r,2,none⟩=some (.string s2)/\V.cell? ⟨r,3,none⟩=some (.bool b3)/\V.cell? ⟨r,4,none⟩=some (.string s4)/\V.cell? ⟨r,5,none⟩=some (.int .i64 i5)/\V.cell? ⟨r,6,none⟩=some (.bool b6)/\V.cell? ⟨r,7,none⟩=some (.slice a n c)/\V.cell? ⟨r,8,none⟩=some (.bool b8)/\V.cell? ⟨r,9,none⟩=some (.bool b9)/\V.cell? ⟨r,10,none⟩=some (.string s10)/\V.cell? ⟨r,11,none⟩=some (.string s11)
def S8 (V:World) (r:Nat) (k:Int) (t:ByteArray) (b:Int) (sc ho:ByteArray) (wd:Bool) (po:Int) (pa:ByteArray):Prop:=V.cell? ⟨r,0,none⟩=some (.int .i64 k)/\V.cell? ⟨r,1,none⟩=some (.string t)/\V.cell? ⟨r,2,none⟩=some (.int .i64 b)/\V.cell? ⟨r,3,none⟩=some (.string sc)/\V.cell? ⟨r,4,none⟩=some (.string ho)/\V.cell? ⟨r,5,none⟩=some (.bool wd)/\V.cell? ⟨r,6,none⟩=some (.int .i64 po)/\V.cell? ⟨r,7,none⟩=some (.string pa)
section
variable {P:Program} {md:Region.Mode} {ops:Array Oper} {Q:Exit->Act->World->Prop} {S:World->Prop} {fuel:Nat} {listed:Array Bool} {a a':Act} {w:World} {oi:Oper} {v:Value}
theorem TkM (i d:Nat) (h:wpAnyH P md ops Q S fuel (listed.setIfInBounds i true) a' w) (hi:ops[i]? =some oi:=by rfl) (hd:oi.dst=some d:=by rfl) (hy:∀w,S w->(execOp a.eval oi).run P w=.ok (.value v) w:=by (intro W yC;(try simp only[S12,S8]at yC);go_simp;try with_reducible rfl)) (ha:a.put (some d) v=a':=by (simp only[nf];rfl)) (hs:Region.noSelect ops=true:=by kernel_rfl) (hf:Region.free md ops listed i=true:=by kernel_rfl) (hr:(Region.ready md ops listed).contains i=true:=by kernel_rfl) (hQ:∀c a w,Q (.panic c) (a.put oi.dst v) w->Q (.panic c) a w:=by exact fun _ _ _ h=>h) (hw:Region.wanted oi (yielded ops a.tmps)=true:=by rfl) (hS:S w:=by assumption):wpAnyH P md ops Q S (fuel+1) listed a w:=
 TkD i (some d) hi hd hy (ha▸h) hs hf hr hQ hw hS
theorem CkM {f:FuncId} {args:Array Value} (i d:Nat) (hc:∀V,S V->Calls P f args V fun e w'=>e=.returned v/\S w') (h:∀V,S V->wpAnyH P md ops Q S fuel (listed.setIfInBounds i true) a' V) (hi:ops[i]? =some oi:=by rfl) (hd:oi.dst=some d:=by rfl) (hy:∀w,S w->(execOp a.eval oi).run P w=.ok (.enter f args) w:=by (intro W yC;(try simp only[S12,S8]at yC);go_simp;try with_reducible rfl)) (ha:a.put (some d) v=a':=by (simp only[nf];rfl)) (hr:Region.ready md ops listed=[i]:=by kernel_rfl) (hw:Region.wanted oi (yielded ops a.tmps)=true:=by rfl) (hS:S w:=by assumption):wpAnyH P md ops Q S (fuel+1) listed a w:=by
 refine wpAnyH_ready hr (by simp) (AllReadyH.cons hi (fun K hK=>?_) AllReadyH.nil);rw[if_pos hw];unfold Oper.wp;rw[hy w hS,Oper.upon_enter];refine(hc w hS).mono ?_;rintro e w' ⟨rfl,hS'⟩;show K (a.put oi.dst v) w';rw[hd,ha];exact hK.out _ _ hS' fun h'=>h _ h'
theorem CkT {f:FuncId} {args:Array Value} {T:ByteArray->Prop} {a':ByteArray->Act} (i d:Nat) (hc:∀V,S V->Calls P f args V fun e w'=>∃t:ByteArray,e=.returned (.string t)/\T t/\S w') (h:∀t V,T t->S V->wpAnyH P md ops Q S fuel (listed.setIfInBounds i true) (a' t) V) (hi:ops[i]? =some oi:=by rfl) (hd:oi.dst=some d:=by rfl) (hy:∀w,S w->(execOp a.eval oi).run P w=.ok (.enter f args) w:=by (intro W yC;(try simp only[S12,S8]at yC);go_simp;try with_reducible rfl)) (ha:∀t,a.put (some d) (.string t)=a' t:=by (intro t;simp only[nf];rfl)) (hr:Region.ready md ops listed=[i]:=by kernel_rfl) (hw:Region.wanted oi (yielded ops a.tmps)=true:=by rfl) (hS:S w:=by assumption):wpAnyH P md ops Q S (fuel+1) listed a w:=by
 refine wpAnyH_ready hr (by simp) (AllReadyH.cons hi (fun K hK=>?_) AllReadyH.nil);rw[if_pos hw];unfold Oper.wp;rw[hy w hS,Oper.upon_enter];refine(hc w hS).mono ?_;rintro e w' ⟨t,rfl,hT,hS'⟩;show K (a.put oi.dst (.string t)) w';rw[hd,ha];exact hK.out _ _ hS' fun h'=>h _ _ hT h'
end
attribute [local go_sem ↓] Go.wp_at_zero Go.wp_at_succ
theorem Ks (s t:ByteArray) (hs:s.size<=140737488355328) (w:World):Calls Tryz.prog 35 #[.string s,.string t] w (cn (decide (Lz.low s.data.toList=Lz.low t.data.toList)) w):=by
 obtain⟨q,hq⟩:∃q,q=decide (Lz.low s.data.toList=Lz.low t.data.toList):=⟨_,rfl⟩;rw[<-hq];have Hq:=Ih hq;clear hq;by_cases hl:s.size=t.size
 ·have hlI:((s.size:Int) != (t.size:Int))=false:=by rw[hl];simp
  have Hl:=Ih hl;clear hl;go_enter Tryz.func35,Tryz.ntmps35
  go_wp2_with fail
  go_loopw [13] (fun k wr=>∃i:Nat,k=.int .i64 i/\i<=s.size/\Hid ((Lz.low s.data.toList).take i=(Lz.low t.data.toList).take i)/\Below w.heap.size w wr) (fun k _=>s.size-(intOf k).toNat)
  case atStart=>exact⟨0,rfl,Nat.zero_le _,Ih (by simp),Below.refl _ _⟩
  case round=>
   obtain⟨i,rfl,hi,hT,bi⟩:=hrel;by_cases aN:i<s.size
   ·have dH:(i:Int)<(s.size:Int):=by omega
    have tc:i<t.size:=by rw[<-Hl.out];exact aN
    have ZI:(i:Int)<(t.size:Int):=by omega
    have nP:(0:Int)<=(i:Int):=by omega
    obtain⟨a,ha⟩:∃a,a=s[i]:=⟨_,rfl⟩;obtain⟨b,hb⟩:∃b,b=t[i]:=⟨_,rfl⟩;have WA:(s[i].toNat:Int)=(a.toNat:Int):=by rw[ha]
    have hbI:(t[i].toNat:Int)=(b.toNat:Int):=by rw[hb]
    have cw:(Lz.low s.data.toList).take (i+1)=(Lz.low s.data.toList).take i++[Lz.low1 a]/\(Lz.low t.data.toList).take (i+1)=(Lz.low t.data.toList).take i++[Lz.low1 b]:=by
     constructor
     ·rw[List.take_add_one,show(Lz.low s.data.toList)[i]? =some (Lz.low1 a) by unfold Lz.low;rw[List.getElem?_map,aw aN,ha];rfl];rfl
     ·rw[List.take_add_one,show(Lz.low t.data.toList)[i]? =some (Lz.low1 b) by unfold Lz.low;rw[List.getElem?_map,aw tc,hb];rfl];rfl
    have c1:=fun W=>rq a W;have c2:=fun W=>rq b W;have C1:Hid (∀W,Calls Tryz.prog 63 #[.int .u8 a.toNat] W fun e w'=>e=.returned (.int .u8 (Lz.low1 a).toNat)/\w'=W):=Ih (fun W=>(c1 W).mono fun _ _ ⟨h1,h2⟩=>⟨h1,h2.symm⟩);have C2:Hid (∀W,Calls Tryz.prog 63 #[.int .u8 b.toNat] W fun e w'=>e=.returned (.int .u8 (Lz.low1 b).toNat)/\w'=W):=Ih (fun W=>(c2 W).mono fun _ _ ⟨h1,h2⟩=>⟨h1,h2.symm⟩);have Gh:(((Lz.low1 a).toNat:Int) != ((Lz.low1 b).toNat:Int))= !(Lz.low1 a==Lz.low1 b):=by rw[bne,jx]
    clear ha hb c1 c2;by_cases he:Lz.low1 a=Lz.low1 b
    ·rw[beq_iff_eq.2 he]at Gh;have Oq:(((Lz.low1 a).toNat:Int) != ((Lz.low1 b).toNat:Int))=false:=Gh;have kp:Hid ((Lz.low s.data.toList).take (i+1)=(Lz.low t.data.toList).take (i+1)):=by show _=_;rw[cw.1,cw.2,hT.out,he]
     clear he cw hT Gh
     go_wp2_with fail
     go_quiet (first |(go_at_call_of 63 (Value.int .u8 (a.toNat:Int));exact Calls.quiet_of_same (C1.out _))|(go_at_call_of 63 (Value.int .u8 (b.toNat:Int));exact Calls.quiet_of_same (C2.out _)))
     have pd:Below w.heap.size w (wr.drewN nq):=below_drewN bi nq;generalize wr.drewN nq=wq at pd⊢
     go_wp2_with fail
     go_roundw
     case rel=>exact⟨i+1,by go_num,by omega,kp,pd⟩
     case measure=>simp[intOf];omega
    ·rw[beq_eq_false_iff_ne.2 he]at Gh;have Oq:(((Lz.low1 a).toNat:Int) != ((Lz.low1 b).toNat:Int))=true:=Gh
     have HQ:Hid (q=false):=by
      show _=_;rw[Hq.out];refine decide_eq_false fun e=>he ?_;have h1:=congrArg (List.take (i+1)) e;rw[cw.1,cw.2,hT.out]at h1;simpa using List.append_cancel_left h1
     clear he cw hT Gh
     go_wp2_with fail
     go_quiet (first |(go_at_call_of 63 (Value.int .u8 (a.toNat:Int));exact Calls.quiet_of_same (C1.out _))|(go_at_call_of 63 (Value.int .u8 (b.toNat:Int));exact Calls.quiet_of_same (C2.out _)))
     have pd:Below w.heap.size w (wr.drewN nq):=below_drewN bi nq;generalize wr.drewN nq=wq at pd⊢
     go_wp2_with fail
     go_ret;exact⟨by rw[HQ.out];rfl,pd⟩
   ·have dH:¬(i:Int)<(s.size:Int):=by omega
    have HQ:Hid (q=true):=by
     show _=_;rw[Hq.out];refine decide_eq_true ?_;have h1:=hT.out;rw[List.take_of_length_le (by rw[gj,aa];omega),List.take_of_length_le (by rw[gj,aa];have:=Hl.out;omega)]at h1;exact h1
    clear hT
    go_wp2_with fail
    go_ret;exact⟨by rw[HQ.out];rfl,bi⟩
 ·have hlI:((s.size:Int) != (t.size:Int))=true:=by simp;omega
  have HQ:Hid (q=false):=by
   show _=_;rw[Hq.out];refine decide_eq_false fun e=>hl ?_;have:=congrArg List.length e;rw[gj,gj,aa,aa]at this;exact this
  clear hl;go_enter Tryz.func35,Tryz.ntmps35
  go_wp2_with fail
  go_ret;exact⟨by rw[HQ.out];rfl,Below.refl _ _⟩
theorem Jd (v:Value) (l:List (List UInt8)) (w:World) (h:dy w v l) (hL:l.length<=1000000) (hZ:∀x,x∈l->x.length<=140737488355328):Calls Tryz.prog 13 #[v] w (cn (Lz.mq l) w):=by
 obtain⟨a,c,xs,rfl,rfl,hx⟩:=h
 match xs,hx,hZ,hL with
 | [],_,_,_=>
   have HV:Hid (Lz.mq (([]:List ByteArray).map fun x:ByteArray=>x.data.toList)=true):=rfl;go_enter Tryz.func13,Tryz.ntmps13
   go_wp2_with fail
   go_ret;exact⟨by rw[HV.out];rfl,Below.refl _ _⟩
 | [x],hx,hZ,_=>
   obtain⟨B,off,rfl,hB,hc⟩:=hx 0 x rfl;rw[Nat.add_zero]at hc;have o7:x.size<=140737488355328:=by rw[<-aa];exact hZ _ (by simp)
   obtain⟨q,hq⟩:∃q,q=decide (Lz.low x.data.toList=Lz.AO):=⟨_,rfl⟩
   have HV:Hid (Lz.mq ([x].map fun x:ByteArray=>x.data.toList)=q):=by
    show _=_;rw[hq];show(false||(true&&(Lz.low x.data.toList==Lz.AO)))=_;rw[Bool.false_or,Bool.true_and,Bool.eq_iff_iff];simp
   have cS:Hid (Calls Tryz.prog 35 #[.string x,.string ⟨#[39,110,111,110,101,39]⟩] w (cn q w)):=Ih (by
    have:=Ks x ⟨#[39,110,111,110,101,39]⟩ o7 w;rw[show Lz.low (⟨#[39,110,111,110,101,39]⟩:ByteArray).data.toList=Lz.AO by decide,<-hq]at this;exact this)
   clear hx hq hZ;go_enter Tryz.func13,Tryz.ntmps13
   go_wp2_with fail
   refine cS.out.mono ?_;rintro e w5 ⟨rfl,dB⟩
   go_wp2_with fail
   go_ret;exact⟨by rw[HV.out];rfl,dB⟩
 | x::y::r,hx,_,hL=>
   have HV:Hid (Lz.mq ((x::y::r).map fun x:ByteArray=>x.data.toList)=false):=rfl;obtain⟨n,hn⟩:∃n,n=(x::y::r).length:=⟨_,rfl⟩;have sR:2<=n:=by rw[hn,List.length_cons,List.length_cons];omega
   have e0:((n:Int)==0)=false:=beq_eq_false_iff_ne.2 (by omega);have e1:((n:Int)==1)=false:=beq_eq_false_iff_ne.2 (by omega);rw[<-hn];clear hx hn hL;go_enter Tryz.func13,Tryz.ntmps13
   go_wp2_with fail
   go_ret;exact⟨by rw[HV.out];rfl,Below.refl _ _⟩
end Go.Proofs.YtlcbhacofagedaaGreatDoor
namespace Lz
open Go
def Ac (b0 p1 u1 u2 u3 p2 p3:Bool):Bool:=if b0 then true else if p1 then u1||(u2||u3)else(p2||p3)&&u3
theorem E5 (p u:Bs):Ac (p==u) (p==wsS) (u==Bz) (u==iy) (u==iK) (p==iy) (p==Bz)=eo p u:=by
 unfold Ac eo iw;by_cases h0:p=u
 ·rw[beq_iff_eq.2 h0];rfl
 ·rw[beq_eq_false_iff_ne.2 h0];by_cases h1:p=wsS
  ·subst h1;rw[beq_self_eq_true,if_neg (by decide),if_pos rfl,if_neg (by decide),if_pos rfl];rw[Bool.false_or,Bool.eq_iff_iff]
   simp
  ·rw[beq_eq_false_iff_ne.2 h1,if_neg (by decide),if_neg (by decide),if_neg h1];by_cases h2:p=iy
   ·subst h2;rw[beq_self_eq_true,if_pos rfl,Bool.eq_iff_iff];simp
   ·rw[beq_eq_false_iff_ne.2 h2,if_neg h2];by_cases h3:p=Bz
    ·subst h3;rw[beq_self_eq_true,if_pos rfl,Bool.eq_iff_iff];simp
    ·rw[beq_eq_false_iff_ne.2 h3,if_neg h3];simp
end Lz
namespace Go.Proofs.YtlcbhacofagedaaGreatDoor
open Go.RowKit
attribute [local go_sem ↓] Go.wp_at_zero Go.wp_at_succ
theorem Rf (s:ByteArray) (k:List UInt8):(s.toList==k)=(s.data.toList==k):=by rw[Lib.toList_data]
theorem zP (p u:ByteArray) (w:World):Calls Tryz.prog 45 #[.string p,.string u] w (cn (Lz.eo p.data.toList u.data.toList) w):=by
 obtain⟨R,hR⟩:∃R,R=Lz.eo p.data.toList u.data.toList:=⟨_,rfl⟩;rw[<-hR];rw[<-Lz.E5]at hR;obtain⟨b0,h0⟩:∃b,(p.toList==u.toList)=b:=⟨_,rfl⟩;obtain⟨p1,h1⟩:∃b,(p.toList==[119,115])=b:=⟨_,rfl⟩;obtain⟨u1,h2⟩:∃b,(u.toList==[119,115,115])=b:=⟨_,rfl⟩;obtain⟨u2,h3⟩:∃b,(u.toList==[104,116,116,112])=b:=⟨_,rfl⟩;obtain⟨u3,h4⟩:∃b,(u.toList==[104,116,116,112,115])=b:=⟨_,rfl⟩;obtain⟨p2,h5⟩:∃b,(p.toList==[104,116,116,112])=b:=⟨_,rfl⟩;obtain⟨p3,h6⟩:∃b,(p.toList==[119,115,115])=b:=⟨_,rfl⟩
 have HR:Hid (R=Lz.Ac b0 p1 u1 u2 u3 p2 p3):=by
  show _=_;rw[hR,<-h0,<-h1,<-h2,<-h3,<-h4,<-h5,<-h6];simp only[Lib.toList_data];rfl
 clear hR;cases b0 with
 | true=>
   go_enter Tryz.func45,Tryz.ntmps45
   go_wp2_with fail
   go_ret;exact⟨by rw[HR.out];rfl,Below.refl _ _⟩
 | false=>
   cases p1 with
   | true=>
     cases u1<;>cases u2<;>
     ·go_enter Tryz.func45,Tryz.ntmps45
      go_wp2_with fail
      go_ret;exact⟨by rw[HR.out];rfl,Below.refl _ _⟩
   | false=>
     cases p2<;>cases p3<;>
     ·go_enter Tryz.func45,Tryz.ntmps45
      go_wp2_with fail
      go_ret;exact⟨by rw[HR.out];rfl,Below.refl _ _⟩
theorem En (v:Value) (l:List (List UInt8)) (w:World) (h:dy w v l) (hZ:∀x,x∈l->x.length<=140737488355328):Calls Tryz.prog 18 #[v] w (cn (Lz.mq l) w):=by
 obtain⟨a,c,xs,rfl,rfl,hx⟩:=h
 match xs,hx,hZ with
 | [],_,_=>
   have HV:Hid (Lz.mq (([]:List ByteArray).map fun x:ByteArray=>x.data.toList)=true):=rfl;go_enter Tryz.func18,Tryz.ntmps18
   go_wp2_with fail
   go_ret;exact⟨by rw[HV.out];rfl,Below.refl _ _⟩
 | [x],hx,hZ=>
   obtain⟨B,off,rfl,hB,hc⟩:=hx 0 x rfl;rw[Nat.add_zero]at hc;have o7:x.size<=140737488355328:=by rw[<-aa];exact hZ _ (by simp)
   have cS:=Ih (fh x (by omega) w)
   have HV:Hid (∀t:ByteArray,t.data.toList=Lz.low x.data.toList->Lz.mq ([x].map fun x:ByteArray=>x.data.toList)=(t.toList==[39,110,111,110,101,39])):=Ih (fun t ht=>by
    rw[Rf,ht];show(false||(true&&(Lz.low x.data.toList==Lz.AO)))=_;rw[Bool.false_or,Bool.true_and];rfl)
   clear hx hZ;go_enter Tryz.func18,Tryz.ntmps18
   go_wp2_with fail
   refine cS.out.mono ?_;rintro e w5 ⟨t,rfl,ht,dB⟩;have HQ:=Ih (HV.out t ht.out)
   go_wp2_with fail
   go_ret;exact⟨by rw[HQ.out];rfl,dB⟩
 | x::y::r,hx,_=>
   have HV:Hid (Lz.mq ((x::y::r).map fun x:ByteArray=>x.data.toList)=false):=rfl;obtain⟨n,hn⟩:∃n,n=(x::y::r).length:=⟨_,rfl⟩;have sR:2<=n:=by rw[hn,List.length_cons,List.length_cons];omega
   have e0:((n:Int)==0)=false:=beq_eq_false_iff_ne.2 (by omega);have e1:((n:Int)==1)=false:=beq_eq_false_iff_ne.2 (by omega);rw[<-hn];clear hx hn;go_enter Tryz.func18,Tryz.ntmps18
   go_wp2_with fail
   go_ret;exact⟨by rw[HV.out];rfl,Below.refl _ _⟩
attribute [local go_sem ↓] Go.wp_at_zero Go.wp_at_succ
theorem rP (s:ByteArray) (hs:s.size<=1000000) (w:World):Calls Tryz.prog 79 #[.string s] w (Yr (Lz.ag 47 s.data.toList) w):=by
 obtain⟨i0,hi,ig,fs,fk⟩:=info_parts tC
 have h0:(w.alloc (.cells #[.string ⟨#[]⟩] 9)).ownsRow w.heap.size 9 1 (.slice (some ⟨w.heap.size,0,none⟩) 1 1) 1 (([⟨#[]⟩]:List ByteArray).map Value.string):=
  World.ownsRow_lit w #[.string ⟨#[]⟩] 1 (Nat.le_refl _) (by unfold maxLen;omega) rfl
 have ek:Below w.heap.size w (w.alloc (.cells #[.string ⟨#[]⟩] 9)):=(Below.refl _ w).alloc (Nat.le_refl _) _;have H0:=Ih h0;have lN:=Ih ek;clear h0 ek;go_enter Tryz.func79,Tryz.ntmps79
 go_wp2_with fail
 go_loopw [3,4] (fun v i wr=>∃(j:Nat) (xs:List ByteArray),j<=s.size/\i=.int .i64 j/\Hid (xs.map (·.data.toList)=Lz.ag 47 (s.data.toList.take j))/\wr.ownsRow w.heap.size 9 1 v xs.length (xs.map Value.string)/\xs.length<=j+1/\(∀x∈xs,x.size<=j)/\Below w.heap.size w wr) (fun _ i _=>s.size-(intOf i).toNat)
 case atStart=>exact⟨0,[⟨#[]⟩],Nat.zero_le _,rfl,Ih rfl,H0.out,Nat.le_refl _,by intro x hx;rw[List.mem_singleton.1 hx];exact Nat.le_refl _,lN.out⟩
 case round=>
  obtain⟨j,xs,hj,rfl,d7,aQ,vR,o7,hb⟩:=hrel;by_cases aN:j<s.size
  ·have dH:(j:Int)<(s.size:Int):=by omega
   have Aj:(0:Int)<=(j:Int):=by omega
   obtain⟨c,hc⟩:∃c,c=s[j]:=⟨_,rfl⟩;have yI:(s[j].toNat:Int)=(c.toNat:Int):=by rw[hc]
   have hst:=Lz.mN 47 c (s.data.toList.take j);have gE:s.data.toList.take (j+1)=s.data.toList.take j++[c]:=by rw[List.take_add_one,aw aN,<-hc];rfl
   rw[<-gE,<-d7.out]at hst;have fQ:=Ih hst;have WY:((c.toNat:Int)==47)=(c==47):=jO c 47;have bZ:=Ih aQ;have Wa:=Ih o7;have dV:=hb.size;have Hc:=Ih hc;clear hc gE hst aQ o7;cases hq:(c==47)
   ·rw[hq]at WY;have HN:=Ih hq;clear hq
    have iF:Hid (Lz.ag 47 (s.data.toList.take (j+1))=(xs.map (·.data.toList)).dropLast++[(xs.map (·.data.toList)).getLastD []++[c]]):=by
     show _=_;rw[fQ.out,HN.out,if_neg (by decide)]
    obtain⟨m,hm⟩:∃m,xs.length=m+1:=by
     obtain⟨h',t,e⟩:=Lz.jf 47 (s.data.toList.take j);have h:=congrArg List.length d7.out;rw[e,List.length_map,List.length_cons]at h;exact⟨_,h⟩
    obtain⟨y,hy⟩:∃y,xs[m]? =some y:=⟨_,List.getElem?_eq_getElem (by omega)⟩;have Iw:=Wa.out y (List.mem_of_getElem? hy)
    obtain⟨g,cap,rfl⟩:∃g cap,u3=.slice (some ⟨g,0,none⟩) xs.length cap:=by
     rcases bZ.out.2 with⟨_,h0⟩|⟨g,cap,ir,h,_⟩
     ·omega
     ·exact⟨g,cap,h⟩
    have dF:wr.cell? ⟨g,m,none⟩=some (.string y):=by
     rw[bZ.out.cellAt m (by omega),List.getElem?_map,hy];rfl
    have hcD:wr.drew.cell? ⟨g,m,none⟩=some (.string y):=dF;have sD:wr.drew.frozen? ⟨g,m,none⟩=false:=bZ.out.frozenAt m;have lL:=(bZ.out.drew.stored m (.string (y++s.extract j (j+1)))).1;rw[<-List.map_set]at lL;have Dn:=(bZ.out.lt g rfl).1;have VV:(y++s.extract j (j+1)).size<=j+1:=by rw[<-aa,ai,jb aN];simp;omega
    have DC:Hid ((xs.set m (y++s.extract j (j+1))).map (·.data.toList)=Lz.ag 47 (s.data.toList.take (j+1))):=by
     show _=_;rw[iF.out];exact Lz.B5 hm hy (by rw[ai,jb aN,<-Hc.out])
    have rD:=Ih lL;have iW:IntKind.i64.wrap ((xs.length:Int)-1)=(m:Int):=by rw[show(xs.length:Int)-1=(m:Int) by omega];exact IntWalk.i64_in _ (by omega)
    have wV:(0:Int)<=(m:Int):=by omega
    have Tw:(m:Int)<(xs.length:Int):=by omega
    have ic:¬(9223372036854775807<y.size+(min (j+1) s.size-j)):=by omega
    have oZ:IntKind.i64.wrap ((j:Int)+1)=(j:Int)+1:=IntWalk.i64_in _ (by omega);have Xk:(j:Int)+1<=(s.size:Int):=by omega
    have Ir:(j:Int)<=(j:Int)+1:=by omega
    have hj3:(0:Int)<=(j:Int)+1:=by omega
    have Hm:=Ih hm;have Hy:=Ih hy;clear lL iF hm hy d7 dF
    go_upto_region 7 with fail
    go_still_tail 17,(by kernel_rfl)
    change wpList _ _ _ _ _ wr.drew;have hbD:=hb.drew;generalize wr.drew=w2 at hcD sD rD hbD⊢;generalize y++s.extract j (j+1)=z at DC rD VV⊢
    go_wp2_with fail
    go_roundw
    case rel=>
     refine⟨j+1,xs.set m z,by omega,by go_num,DC.out,?_,by simp;omega,?_,hbD.setCell Dn _⟩
     ·have:=rD.out
      rwa [List.length_set]
     ·intro x hx;rcases List.mem_or_eq_of_mem_set hx with h|h
      ·exact Nat.le_succ_of_le (Wa.out x h)
      ·rw[h];exact VV
    case measure=>simp[intOf];omega
   ·rw[hq]at WY
    have HN:Hid (Lz.ag 47 (s.data.toList.take (j+1))=(xs++[(⟨#[]⟩:ByteArray)]).map (fun x:ByteArray=>x.data.toList)):=by
     show _=_;rw[fQ.out,hq,if_pos rfl,List.map_append];rfl
    clear hq;have kU:xs.map Value.string++[Value.string ⟨#[]⟩]=(xs++[(⟨#[]⟩:ByteArray)]).map Value.string:=by simp
    have Wz:=Ih kU;clear kU
    go_wp2_with (at_builtin;refine wpList_append_own _ rfl (.tmp 16) (.tmp 17) 23 rfl w.heap.size 9 i0 (.string ⟨#[]⟩) 1 16 Tryz.underlying23 hi ig fs fk rfl (by decide) _ _ _ rfl (bZ.out.alloc _) ⟨wr.heap.size,0,none⟩ 1 1 [.string ⟨#[]⟩] rfl rfl (aY _ _ _) (by simp[Value.oneCell']) (by unfold maxLen;omega) (by omega) (by simp;omega) ?_)
    intro v' w3 aE aV _;have cq:=Below.grown1 hb bZ.out aV dV (Nat.le_refl _);rw[Wz.out]at aE;have ep:=Ih aE;clear aE aV
    go_wp2
    go_roundw
    case rel=>
     refine⟨j+1,xs++[⟨#[]⟩],by omega,by go_num,by show _=_;rw[HN.out],?_,?_,?_,cq⟩
     ·have:=ep.out
      rwa [show(xs++[(⟨#[]⟩:ByteArray)]).length=xs.length+1 by simp]
     ·simp;omega
     ·intro x hx;rcases List.mem_append.1 hx with h|h
      ·exact Nat.le_succ_of_le (Wa.out x h)
      ·rw[List.mem_singleton.1 h];exact Nat.zero_le _
    case measure=>simp[intOf];omega
  ·have jR:j=s.size:=by omega
   have dH:¬(j:Int)<(s.size:Int):=by omega
   have HX:Hid (xs.map (·.data.toList)=Lz.ag 47 s.data.toList):=by
    show _=_;rw[d7.out,List.take_of_length_le (by rw[aa];omega)]
   have bZ:=Ih aQ;clear aQ jR aN d7
   go_wp2_with fail
   go_ret;exact⟨_,xs,rfl,HX,bZ.out,hb⟩
end Go.Proofs.YtlcbhacofagedaaGreatDoor
namespace Lz
open Go
def l0 (n:Nat) (a b:List Bs):Bool:=decide ((a.take n).map an=(b.take n).map an)
theorem Jr {a b:List Bs} {j:Nat} {x y:Bs} (hx:a[j]? =some x) (hy:b[j]? =some y):l0 (j+1) a b=(l0 j a b&&decide (an x=an y)):=by
 unfold l0;rw[List.take_add_one,List.take_add_one,hx,hy,List.map_append,List.map_append,<-Bool.decide_and]
 have hl:((a.take j).map an).length=((b.take j).map an).length:=by
  have h1:=(List.getElem?_eq_some_iff.1 hx).1;have h2:=(List.getElem?_eq_some_iff.1 hy).1
  simp;omega
 refine decide_eq_decide.2 ⟨fun h=>?_,fun⟨h1,h2⟩=>by rw[h1];simp[h2]⟩;have:=List.append_inj h hl;exact⟨this.1,by simpa using this.2⟩
theorem PN {a b:List Bs} {j k:Nat} (h:l0 k a b=true) (hj:j<=k):l0 j a b=true:=by
 unfold l0 at h⊢;have h:=congrArg (List.take j) (of_decide_eq_true h);rw[List.map_take,List.map_take,List.take_take,List.take_take,Nat.min_eq_left hj,<-List.map_take,<-List.map_take]at h;exact decide_eq_true h
def BT (p u:Bs):Bool:=
 if p=[]\/(p=[47]/\u=[])then true
 else if(ag 47 u).length<(ag 47 p).length then false
 else if p.getLast? =some 47 then l0 ((ag 47 p).length-1) (ag 47 p) (ag 47 u)
 else if(ag 47 p).length≠(ag 47 u).length then false
 else l0 (ag 47 u).length (ag 47 p) (ag 47 u)
theorem jV (l:Bs) (c:UInt8):Lib.hasSuffix l [c]=decide (l.getLast? =some c):=by
 rcases List.eq_nil_or_concat l with rfl|⟨a,b,rfl⟩
 ·rfl
 ·unfold Lib.hasSuffix;show([c]:Bs).reverse.isPrefixOf (a.concat b).reverse=_;rw[List.concat_eq_append,List.reverse_append,List.getLast?_concat];show(c==b&&true)=_;by_cases h:c=b
  ·subst h;simp
  ·rw[beq_eq_false_iff_ne.2 h,decide_eq_false (fun e=>h (Option.some.inj e).symm)];rfl
theorem NE (p u:Bs):BT p u=mj p u:=by
 unfold BT mj;split
 ·rfl
 ·rw[jV];by_cases hl:(ag 47 u).length<(ag 47 p).length
  ·rw[if_pos hl,if_neg (show ¬(_/\_)from fun h=>by have:=h.2;omega)]
   symm
   rw[beq_eq_false_iff_ne];intro h;have:=congrArg List.length h
   simp at this
   omega
  ·rw[if_neg hl];by_cases hs:p.getLast? =some 47
   ·rw[if_pos hs,if_pos ⟨decide_eq_true hs,by omega⟩];unfold l0;rw[List.dropLast_eq_take,Bool.eq_iff_iff]
    simp
   ·have hs':¬(decide (p.getLast? =some 47)=true/\(ag 47 p).length<=(ag 47 u).length):=fun h=>hs (of_decide_eq_true h.1);rw[if_neg hs,if_neg hs'];by_cases hn:(ag 47 p).length=(ag 47 u).length
    ·rw[if_neg (fun h=>h hn)];unfold l0;rw[List.take_of_length_le (by omega),List.take_of_length_le (by omega),Bool.eq_iff_iff]
     simp
    ·rw[if_pos hn]
     symm
     rw[beq_eq_false_iff_ne];intro h;have:=congrArg List.length h
     simp at this
     omega
end Lz
namespace Go.Proofs.YtlcbhacofagedaaGreatDoor
open Go.RowKit
def SZ (o:Option Lz.Src) (w:World) (e:Ending) (w':World):Prop:=
 ∃x:aq,e=.returned (.tuple #[x.val,.bool o.isSome])/\Hid (∀y,o=some y->x.src=y)/\Below w.heap.size w w'
def vc (sch path nm:List UInt8) (port:Int) (gg:Bool):Option Lz.Src:=
 match Lz.mT nm with
 | none=>none
 | some (wild,host)=>if gg then some ⟨3,[],0,sch,host,wild,port,path⟩else none
theorem yP {sch path r:List UInt8} (h:Lib.index r [58]= -1):Lz.fH sch path r=vc sch path r (-1) (path.all Lz.dA):=by
 unfold Lz.fH vc;rw[Lz.uE r [58] h,Lz.Dc];rfl
theorem BN {sch path r:List UInt8} {k:Nat} (h:Lib.index r [58]=k) (p:Int) (hp:∀m,Lz.ez (r.drop (k+1))=some m->p=m):
  Lz.fH sch path r=vc sch path (r.take k) p (path.all Lz.dA&&(Lz.ez (r.drop (k+1))).isSome):=by
 have e:Lib.cut r [58]=(r.take k,r.drop (k+1),true):=by
  unfold Lib.cut;rw[h,if_pos (by omega)]
  simp
 unfold Lz.fH vc;rw[e,Lz.Dc]
 dsimp only
 cases Lz.mT (r.take k)with
 | none=>rfl
 | some q=>
   cases hq:Lz.ez (r.drop (k+1))with
   | none=>simp
   | some m=>simp[hp m hq]
def X1 (s:ByteArray) (w:World) (v b:Value) (wx:World):Prop:=
 ∃(nm:ByteArray) (gg:Bool) (y:aq),v=.string nm/\b=.bool gg/\nm.size<=1048576/\gJ w wx y/\Hid (Lz.cZ s.data.toList=vc y.scheme.data.toList y.path.data.toList nm.data.toList y.port gg/\y={ec with scheme:=y.scheme,path:=y.path,port:=y.port})
theorem ma {w:World} {R:Nat} {cs:Array Value} {t:TypeId} (h:w.heap[R]? =some (.cells cs t (0,0))) {n:Nat} (hn:cs.size=n) (k:Nat) (hk:k<n):w.cell? ⟨R,k,none⟩=some (cs.getD k undef)/\w.frozen? ⟨R,k,none⟩=false:=by
 refine⟨?_,by simp[World.frozen?,h]⟩;rw[cell_of_row w R k _ _ _ h];have:k<cs.size:=by omega
 simp[Array.getD,this]
theorem aaF (cs:Array Value) (h:cs.size=8) (a b c d e f g i:Value):(((((((cs.setIfInBounds 0 a).setIfInBounds 1 b).setIfInBounds 2 c).setIfInBounds 3 d).setIfInBounds 4 e).setIfInBounds 5 f).setIfInBounds 6 g).setIfInBounds 7 i= #[a,b,c,d,e,f,g,i]:=by
 apply Array.ext_getElem?
 intro j;by_cases hj:j<8
 ·obtain rfl|rfl|rfl|rfl|rfl|rfl|rfl|rfl:j=0\/j=1\/j=2\/j=3\/j=4\/j=5\/j=6\/j=7:=by omega
  all_goals simp[h]
 ·rw[Array.getElem?_eq_none (by simp[h];omega),Array.getElem?_eq_none (by simp;omega)]
theorem heap_drew {w:World} {R:Nat} {o:Option Obj} (h:w.heap[R]? =o):w.drew.heap[R]? =o:=h
theorem row8 {w:World} {R:Nat} {cs:Array Value} {t:TypeId} {fr:Nat×Nat} (h:w.heap[R]? =some (.cells cs t fr)) (hn:cs.size=8) (a b c d e f g i:Value):
  ((((((((w.setCell ⟨R,0,none⟩ a).setCell ⟨R,1,none⟩ b).setCell ⟨R,2,none⟩ c).setCell ⟨R,3,none⟩ d).setCell ⟨R,4,none⟩ e).setCell ⟨R,5,none⟩ f).setCell ⟨R,6,none⟩ g).setCell ⟨R,7,none⟩ i).heap[R]? =some (.cells #[a,b,c,d,e,f,g,i] t fr):=by
 rw[<-aaF cs hn a b c d e f g i];exact j5 (j5 (j5 (j5 (j5 (j5 (j5 (j5 h 0 a) 1 b) 2 c) 3 d) 4 e) 5 f) 6 g) 7 i
theorem Vk {B:Nat} {w0 w:World} {R:Nat} (h:Below B w0 w) (hR:B<=R) (a b c d e f g i:Value):
  Below B w0 ((((((((w.setCell ⟨R,0,none⟩ a).setCell ⟨R,1,none⟩ b).setCell ⟨R,2,none⟩ c).setCell ⟨R,3,none⟩ d).setCell ⟨R,4,none⟩ e).setCell ⟨R,5,none⟩ f).setCell ⟨R,6,none⟩ g).setCell ⟨R,7,none⟩ i):=
 (((((((h.setCell (p:=⟨R,0,none⟩) hR a).setCell (p:=⟨R,1,none⟩) hR b).setCell (p:=⟨R,2,none⟩) hR c).setCell (p:=⟨R,3,none⟩) hR d).setCell (p:=⟨R,4,none⟩) hR e).setCell (p:=⟨R,5,none⟩) hR f).setCell (p:=⟨R,6,none⟩) hR g).setCell (p:=⟨R,7,none⟩) hR i
theorem E6 (s:ByteArray) (hs:s.size<=1048576) (w:World):Calls Tryz.prog 76 #[.string s] w (SZ (Lz.cZ s.data.toList) w):=by
 go_enter Tryz.func76,Tryz.ntmps76
 have hH0:gJ w ((w.alloc (.cells #[.int .i64 0,.string ⟨#[]⟩,.int .i64 0,.string ⟨#[]⟩,.string ⟨#[]⟩,.bool false,.int .i64 0,.string ⟨#[]⟩] 41)).alloc (.cells ec.cells 41)) ec:=by
  have j8:Below w.heap.size w ((w.alloc (.cells #[.int .i64 0,.string ⟨#[]⟩,.int .i64 0,.string ⟨#[]⟩,.string ⟨#[]⟩,.bool false,.int .i64 0,.string ⟨#[]⟩] 41)).alloc (.cells ec.cells 41)):=((Below.refl _ w).alloc (Nat.le_refl _) _).alloc (by simp) _;obtain⟨Tz,tL⟩:=jg (Below.refl _ ((w.alloc (.cells #[.int .i64 0,.string ⟨#[]⟩,.int .i64 0,.string ⟨#[]⟩,.string ⟨#[]⟩,.bool false,.int .i64 0,.string ⟨#[]⟩] 41)).alloc (.cells ec.cells 41)));exact⟨⟨_,rfl,rfl,Tz⟩,tL,j8⟩
 have sF:=Lib.index_le s.data.toList [58,47,47];have SQ:=Lib.index_ge s.data.toList [58,47,47];have KT:=Lib.index_room s.data.toList [58,47,47];rw[aa]at sF KT;have cF:=Ih (uu s ⟨#[58,47,47]⟩ hs (by decide) (by simp));generalize hi:Lib.index s.data.toList (ByteArray.data ⟨#[58,47,47]⟩).toList=i at cF;have AC:Lib.index s.data.toList [58,47,47]=i:=hi;rw[AC]at sF SQ KT;have Hi:=Ih AC;clear hi AC
 go_wp2_with fail
 refine(cF.out _).mono ?_;rintro e w1 ⟨rfl,rfl⟩
 go_upto_if 12 with fail
 go_cut [0] (fun s0 wx=>SX s w s0 wx)
 case first=>
  clear cF;by_cases nP:0<=i
  ·obtain⟨k,rfl⟩:∃k:Nat,i=k:=⟨i.toNat,by omega⟩;have hk:k+3<=s.size:=by have:=KT nP;simp at this;omega
   have Xh:(k:Int)+3<=s.size:=by omega
   have hz:=aZ s 0 k;have cS:=Ih (lH (s.extract 0 k) (by omega));have cL:=Ih (fh (s.extract 0 k) (by omega));generalize hsb:Lz.bO (s.extract 0 k).data.toList=sb at cS;have Sh:=Ih hsb;clear hsb hz KT SQ
   have HC:Hid (Lib.cut s.data.toList [58,47,47]=(s.data.toList.take k,s.data.toList.drop (k+3),true)):=by
    show _=_;unfold Lib.cut;rw[Hi.out,if_pos (by omega)]
    simp
   cases sb
   ·obtain⟨⟨cs,gR,Dr,j9⟩,tL,fF⟩:=hH0;have As:_=some (Obj.cells #[.int .i64 3,.string ⟨#[]⟩,.int .i64 0,.string ⟨#[]⟩,.string ⟨#[]⟩,.bool false,.int .i64 (-1),.string ⟨#[]⟩] 41 (0,0)):=tL;clear tL
    go_wp2_with (first |(go_at_call 75;(with_reducible refine(cS.out _).mono ?_);rintro e w2 ⟨rfl,rfl⟩)|(refine wpList_load_row rfl 41 _ rfl (w.heap.size+1) rfl 41 _ (0,0) _ As Tryz.underlying41 rfl nz ?_)|(refine bw rfl _ _ rfl w.heap.size rfl rfl _ j9 gR ?_))
    refine bodyPost_ret (bx (u:=3) rfl _ _ w.heap.size ec (0,0) rfl (setRow_heap _ _ _ _ _ _ j9)) rfl ⟨ec,?_,?_,az fF (Nat.le_refl _)⟩
    all_goals
     have hn:Lz.cZ s.data.toList=none:=by
      unfold Lz.cZ;rw[HC.out];have h2:Lz.bO (s.data.toList.take k)=false:=by rw[<-Sh.out,dQ]
      simp only[h2,if_true];rfl
     rw[hn]
    ·rfl
    ·exact Ih (fun y h=>by cases h)
   ·go_wp2_with fail
    refine(cS.out _).mono ?_;rintro e w2 ⟨rfl,rfl⟩
    go_wp2_with fail
    (with_reducible refine(cL.out _).mono ?_)
    rintro e w2 ⟨u,rfl,hu,aU⟩;have Ar:=hH0.call aU;have kp:=Ar.src;have c3:=kp.cell 3;have f3:=kp.free 3;simp only[aq.cells]at c3
    simp at c3
    have sE:=kp.store (y:={ec with scheme:=u}) 3 (.string u) (by rfl);have AB:=Ar.into ((Below.refl (w.heap.size+1) w2).setCell (p:=⟨w.heap.size+1,3,none⟩) (Nat.le_refl _) (.string u)) sE;have hz3:=aZ s (k+3) s.size;clear kp sE aU
    go_wp2_with fail
    go_meet;refine⟨s.extract (k+3) s.size,{ec with scheme:=u},rfl,by omega,AB,?_,rfl⟩;unfold Lz.cZ;rw[HC.out];have h2:Lz.bO (s.data.toList.take k)=true:=by rw[<-Sh.out,dQ]
    simp only[h2,if_true];show _=Lz.gK u.data.toList _;rw[hu.out,dQ,fK]
  ·have yG:i= -1:=by omega
   have HC:Hid (Lib.cut s.data.toList [58,47,47]=(s.data.toList,[],false)):=by
    show _=_;exact Lz.uE _ _ (by rw[Hi.out];exact yG)
   have Lj:i<0:=by omega
   clear KT SQ yG
   go_wp2_with fail
   go_meet;refine⟨s,ec,rfl,hs,hH0,?_,rfl⟩;unfold Lz.cZ;rw[HC.out];rfl
 case rest=>
  clear hH0 cF Hi sF SQ KT;obtain⟨rest,x,rfl,K6,Im,HS⟩:=hcut;have cI:=Ih (uu rest ⟨#[47]⟩ K6 (by decide) (by simp) wc);have VL:Lib.index rest.data.toList (ByteArray.data ⟨#[47]⟩).toList=Lib.indexByte rest.data.toList 47:=Lz.JK _ _;rw[VL]at cI;have sF:=pr rest.data.toList 47;rw[aa]at sF;clear VL;generalize hi:Lib.indexByte rest.data.toList 47=i at cI sF;have Hi:=Ih hi;clear hi
  go_wp2_with fail
  refine(cI.out).mono ?_;rintro e w2 ⟨rfl,rfl⟩
  go_upto_if 31 with fail
  go_cut [0] (fun s0 wx=>S3 s w s0 wx)
  case first=>
   by_cases nP:0<=i
   ·obtain⟨k,rfl⟩:∃k:Nat,i=k:=⟨i.toNat,by omega⟩;have tL:=Im.src;have c7:=tL.cell 7;have f7:=tL.free 7;simp only[aq.cells]at c7
    simp at c7
    have kp:=tL.store (y:={x with path:=rest.extract k rest.size}) 7 (.string (rest.extract k rest.size)) (by rfl);have Ar:=Im.into ((Below.refl (w.heap.size+1) wc).setCell (p:=⟨w.heap.size+1,7,none⟩) (Nat.le_refl _) (.string (rest.extract k rest.size))) kp;clear kp tL cI
    go_wp2_with fail
    go_meet;refine⟨rest.extract 0 k,{x with path:=rest.extract k rest.size},rfl,Nat.le_trans (aZ _ _ _) K6,Nat.le_trans (aZ _ _ _) K6,Ar,?_,by rw[HS.out.2]⟩;rw[HS.out.1];unfold Lz.gK;rw[Hi.out,if_pos (by omega)];show _=Lz.fH x.scheme.data.toList (rest.extract k rest.size).data.toList _;rw[fK,dQ];rfl
   ·have Lj:i<0:=by omega
    clear cI
    go_wp2_with fail
    go_meet;have h2:=HS.out.2;refine⟨rest,x,rfl,K6,by rw[h2];exact Nat.zero_le _,Im,?_,by rw[h2]⟩;rw[HS.out.1];unfold Lz.gK;rw[Hi.out,if_neg (by omega)];rw[h2];rfl
  case rest=>
   clear Im Hi cI sF HS K6;obtain⟨r,y,rfl,Di,Iw,Ar,HQ⟩:=hcut;have kp:=Ar.src;have c7:=kp.cell 7;simp only[aq.cells]at c7
   simp at c7
   have cP:=Ih (LX y.path (by omega) wc);generalize O3:y.path.data.toList.all Lz.dA=gp at cP;have Tm:=Ih O3;have cI:=Ih (uu r ⟨#[58]⟩ Di (by decide) (by simp) wc);have sF:=Lib.index_le r.data.toList [58];have KT:=Lib.index_room r.data.toList [58];rw[aa]at sF KT;generalize hi:Lib.index r.data.toList (ByteArray.data ⟨#[58]⟩).toList=i at cI;have AC:Lib.index r.data.toList [58]=i:=hi;rw[AC]at sF KT;have SQ:=Lib.index_ge r.data.toList [58];rw[AC]at SQ;have Hi:=Ih AC;clear hi AC O3 kp
   go_wp2_with fail
   (with_reducible refine(cP.out).mono ?_)
   rintro e w2 ⟨rfl,rfl⟩
   go_wp2_with fail
   (with_reducible refine(cI.out).mono ?_)
   rintro e w2 ⟨rfl,rfl⟩
   go_upto_if 45 with fail
   go_cut [0,6] (fun s0 s6 wx=>X1 s w s0 s6 wx)
   case first=>
    clear cP cI;by_cases nP:0<=i
    ·obtain⟨k,rfl⟩:∃k:Nat,i=k:=⟨i.toNat,by omega⟩;have hk:k+1<=r.size:=by have:=KT nP;simp at this;omega
     have kq:(k:Int)+1<=r.size:=by omega
     have hz:=aZ r (k+1) r.size;have fk:=aZ r 0 k;have cO:=Ih (Fy (r.extract (k+1) r.size) (by omega) wc);clear KT SQ;have kp:=Ar.src;have c6:=kp.cell 6;have f6:=kp.free 6;simp only[aq.cells]at c6
     simp at c6
     cases gp
     all_goals
      go_wp2_with fail
      (with_reducible refine(cO.out).mono ?_)
      rintro e w4 ⟨p,rfl,hp,rfl⟩;generalize TX:Lz.ez (r.extract (k+1) r.size).data.toList=po at hp;have Hpo:=Ih TX;clear TX;obtain⟨pb,vY⟩:∃pb,pb=po.isSome:=⟨_,rfl⟩;rw[<-vY];have Hpb:=Ih vY;clear vY;have sE:=kp.store (y:={y with port:=p}) 6 (.int .i64 p) (by rfl);have AB:=Ar.into ((Below.refl (w.heap.size+1) wc).setCell (p:=⟨w.heap.size+1,6,none⟩) (Nat.le_refl _) (.int .i64 p)) sE;clear sE
      go_wp2_with fail
      go_meet;refine⟨r.extract 0 k,_,{y with port:=p},rfl,rfl,by omega,AB,?_,by rw[HQ.out.2]⟩;rw[HQ.out.1,BN Hi.out p (by rw[<-fK,Hpo.out];exact hp.out),Tm.out,<-fK,Hpo.out,<-Hpb.out,dQ];rfl
    ·have Hin:=Ih (show i= -1 by omega);have Lj:i<0:=by omega
     clear KT SQ
     go_wp2_with fail
     go_meet;have h2:=HQ.out.2;refine⟨r,gp,y,rfl,rfl,Di,Ar,?_,by rw[h2]⟩;rw[HQ.out.1,yP (by rw[Hi.out];exact Hin.out),Tm.out];rw[h2];rfl
   case rest=>
    clear Ar cP cI Hi sF SQ KT Tm HQ c7;obtain⟨nm,gg,y,rfl,rfl,hnz,AB,HQ⟩:=hcut;have sE:=AB.src;have c5:=sE.cell 5;have f5:=sE.free 5;simp only[aq.cells]at c5
    simp at c5
    by_cases eJ:nm.data.toList=[42]
    ·have hst:=nB true (decide_eq_true eJ);have hT4:=sE.store (y:={y with wild:=true}) 5 (.bool true) (by rfl);have TS:=AB.into ((Below.refl (w.heap.size+1) wc).setCell (p:=⟨w.heap.size+1,5,none⟩) (Nat.le_refl _) (.bool true)) hT4
     have HF:Hid (Lz.cZ s.data.toList=if gg then some (aq.src {y with wild:=true})else none):=by
      show _=_;rw[HQ.out.1];unfold vc Lz.mT;rw[if_pos eJ]
      dsimp only
      rw[HQ.out.2];rfl
     obtain⟨⟨cs,gR,Dr,j9⟩,VF,fF⟩:=TS;clear sE hT4 eJ Dr AB;have As:_=some (Obj.cells #[.int .i64 y.kind,.string y.text,.int .i64 y.bits,.string y.scheme,.string y.host,.bool true,.int .i64 y.port,.string y.path] 41 (0,0)):=VF;clear VF
     go_wp2_with (first |(refine wpList_load_row rfl 41 _ rfl (w.heap.size+1) rfl 41 _ (0,0) _ As Tryz.underlying41 rfl nz ?_)|(refine bw rfl _ _ rfl w.heap.size rfl rfl _ j9 gR ?_))
     refine bodyPost_ret (bx (u:=3) rfl _ _ w.heap.size {y with wild:=true} (0,0) rfl (setRow_heap _ _ _ _ _ _ j9)) rfl ⟨{y with wild:=true},?_,?_,az fF (Nat.le_refl _)⟩
     ·rw[HF.out];cases gg<;>rfl
     ·refine Ih (fun z hz=>?_);rw[HF.out]at hz;cases gg
      ·cases hz
      ·exact Option.some.inj hz
    ·have hst:=nB false (decide_eq_false eJ);have aao:=Ih eJ;clear eJ
     have iL:Lib.hasPrefix nm.data.toList [42,46]=(decide (1<(nm.size:Int))&&((nm.extract 0 2).toList==[42,46])):=by
      rw[Lib.toList_data,dQ,show(List.take 2 nm.data.toList==[42,46])=Lib.hasPrefix nm.data.toList [42,46]from Lz.take_prefix [42,46] nm.data.toList];by_cases h:1<(nm.size:Int)
      ·rw[decide_eq_true h];rfl
      ·rw[Lz.lf (by rw[aa];simp;omega),decide_eq_false h];rfl
     generalize hwb:Lib.hasPrefix nm.data.toList [42,46]=wb at iL;have Hwb:=Ih hwb;clear hwb
     go_upto_region 22 with fail
     go_cut [74] (fun s74 wx=>s74=.bool wb/\gJ w wx y)
     case first=>
      cases wb
      ·have gT:(nm.size:Int)<=1\/(1<(nm.size:Int)/\((nm.extract 0 2).toList==[42,46])=false):=by
        by_cases h:1<(nm.size:Int)
        ·rw[decide_eq_true h]at iL;exact Or.inr ⟨h,by rw[<-Bool.true_and (_==_)];exact iL.symm⟩
        ·exact Or.inl (by omega)
       clear iL;rcases gT with h1|⟨h1,h2⟩
       all_goals
        go_wp2_with fail
        go_meet;exact⟨rfl,AB⟩
      ·have gT:1<(nm.size:Int)/\((nm.extract 0 2).toList==[42,46])=true:=by
        have h:=iL.symm;rw[Bool.and_eq_true,decide_eq_true_eq]at h;exact h
       obtain⟨h1,h2⟩:=gT;clear iL
       go_wp2_with fail
       go_meet;exact⟨rfl,AB⟩
     case rest=>
      clear iL AB sE c5 f5;obtain⟨rfl,AB⟩:=hcut;have sE:=AB.src;have c5:=sE.cell 5;have f5:=sE.free 5;simp only[aq.cells]at c5
      simp at c5
      go_upto_if 74 with fail
      go_cut [0] (fun s0 wx=>∃nn:ByteArray,s0=.string nn/\nn.size<=1048576/\gJ w wx {y with wild:=wb}/\Hid (nn.data.toList=Lib.trimPrefix nm.data.toList [42,46]))
      case first=>
       cases wb
       ·go_wp2_with fail
        go_meet;refine⟨nm,rfl,hnz,?_,?_⟩
        ·have:({y with wild:=false}:aq)=y:=by rw[HQ.out.2];rfl
         rw[this];exact AB
        ·show _=_;unfold Lib.trimPrefix;rw[Hwb.out];rfl
       ·have hT4:=sE.store (y:={y with wild:=true}) 5 (.bool true) (by rfl);have TS:=AB.into ((Below.refl (w.heap.size+1) wc).setCell (p:=⟨w.heap.size+1,5,none⟩) (Nat.le_refl _) (.bool true)) hT4
        have h2:(2:Int)<=nm.size:=by
         have h:=Hwb.out;by_cases hl:nm.data.toList.length<([42,46]:List UInt8).length
         ·rw[Lz.lf hl]at h;cases h
         ·rw[aa]at hl;simp at hl;omega
        clear sE hT4 AB
        go_wp2_with fail
        go_meet;refine⟨nm.extract 2 nm.size,rfl,Nat.le_trans (aZ _ _ _) hnz,TS,?_⟩;show _=_;unfold Lib.trimPrefix;rw[Hwb.out,if_pos rfl,fK];rfl
      case rest=>
       clear AB sE c5 f5 hst;obtain⟨nn,rfl,acP,Ph,Hnn⟩:=hcut;have VF:=Ph.src;have cL:=Ih (fh nn (by omega) wc)
       go_wp2_with fail
       refine(cL.out).mono ?_;rintro e w5 ⟨u,rfl,hu,dB⟩;have hH6:=Ph.call dB;have WI:=hH6.src;have c4:=WI.cell 4;have f4:=WI.free 4;simp only[aq.cells]at c4
       simp at c4
       have AI:=WI.store (y:={y with wild:=wb,host:=u}) 4 (.string u) (by rfl);have Io:=hH6.into ((Below.refl (w.heap.size+1) w5).setCell (p:=⟨w.heap.size+1,4,none⟩) (Nat.le_refl _) (.string u)) AI;have cN:=Ih (fun w=>zY nn (by omega) w);generalize xe:Lz.eF nn.data.toList=nb at cN;have Hnb:=Ih xe;clear xe VF WI AI Ph hH6 dB cL
       go_upto_region 26 with fail
       have hx7:=Io.below;obtain⟨⟨cs,gR,Dr,Ln⟩,AI,_⟩:=Io;generalize w5.setCell ⟨w.heap.size+1,4,none⟩ (.string u)=w7 at hx7 Ln AI⊢;have As:w7.drew.heap[w.heap.size+1]? =some (Obj.cells #[.int .i64 y.kind,.string y.text,.int .i64 y.bits,.string y.scheme,.string u,.bool wb,.int .i64 y.port,.string y.path] 41 (0,0)):=AI;have hRl:w7.drew.heap[w.heap.size]? =some (Obj.cells cs 41 (0,0)):=Ln;have hx8:Below w.heap.size w w7.drew:=hx7.drew;have k0:=AI.cell 0;have k1:=AI.cell 1;have k2:=AI.cell 2;have k3:=AI.cell 3;have k4:=AI.cell 4;have k5:=AI.cell 5;have k6:=AI.cell 6;have k7:=AI.cell 7;simp only[aq.cells]at k0 k1 k2 k3 k4 k5 k6 k7
       simp at k0 k1 k2 k3 k4 k5 k6 k7
       have r0:=ma Ln gR 0 (by decide);have r1:=ma Ln gR 1 (by decide);have r2:=ma Ln gR 2 (by decide);have r3:=ma Ln gR 3 (by decide);have r4:=ma Ln gR 4 (by decide);have r5:=ma Ln gR 5 (by decide);have r6:=ma Ln gR 6 (by decide);have r7:=ma Ln gR 7 (by decide);obtain⟨r0,q0⟩:=r0;obtain⟨r1,q1⟩:=r1;obtain⟨r2,q2⟩:=r2;obtain⟨r3,q3⟩:=r3;obtain⟨r4,q4⟩:=r4;obtain⟨r5,q5⟩:=r5;obtain⟨r6,q6⟩:=r6;obtain⟨r7,q7⟩:=r7;clear AI Dr f4 c4 As hRl;have ZB:=row8 Ln gR (.int .i64 y.kind) (.string y.text) (.int .i64 y.bits) (.string y.scheme) (.string u) (.bool wb) (.int .i64 y.port) (.string y.path);have XL:=Vk hx7 (Nat.le_refl _) (.int .i64 y.kind) (.string y.text) (.int .i64 y.bits) (.string y.scheme) (.string u) (.bool wb) (.int .i64 y.port) (.string y.path);have HR8:=Ih ZB;have HX9:=Ih XL;clear ZB XL hx8 hx7 Ln
       have HP:Hid (Lz.mT nm.data.toList=if nb then some (wb,Lz.low nn.data.toList)else none):=by
        show _=_;unfold Lz.mT;rw[if_neg aao.out,<-Hnn.out,Hnb.out,Hwb.out]
       have HF:Hid (Lz.cZ s.data.toList=if nb&&gg then some (aq.src {y with wild:=wb,host:=u})else none):=by
        show _=_;rw[HQ.out.1];unfold vc;rw[HP.out];cases nb
        ·rfl
        ·simp only[if_true,Bool.true_and];rw[HQ.out.2,<-hu.out];rfl
       clear HP HQ;cases gg
       ·go_region
        go_wp2_with fail
        refine bodyPost_ret (bx (u:=3) rfl _ _ w.heap.size {y with wild:=wb,host:=u} (0,0) rfl (heap_drew HR8.out)) rfl ⟨{y with wild:=wb,host:=u},?_,?_,?_⟩
        ·rw[HF.out,Bool.and_false];rfl
        ·refine Ih (fun z hz=>?_);rw[HF.out,Bool.and_false]at hz;cases hz
        ·exact HX9.out.drew
       ·go_region_with ((go_at_call 120;refine(cN.out _).mono ?_;rintro e w9 ⟨rfl,rfl⟩))
        all_goals
         go_wp2_with fail
         refine bodyPost_ret (bx (u:=3) rfl _ _ w.heap.size {y with wild:=wb,host:=u} (0,0) rfl (heap_drew HR8.out)) rfl ⟨{y with wild:=wb,host:=u},?_,?_,?_⟩
         ·rw[HF.out,Bool.and_true];cases nb<;>rfl
         ·refine Ih (fun z hz=>?_);rw[HF.out,Bool.and_true]at hz;cases nb
          ·cases hz
          ·exact Option.some.inj hz
         ·exact HX9.out.drew
end Go.Proofs.YtlcbhacofagedaaGreatDoor
