/-
  Plain laws: the numbers of 64 bits that lazaretref05 reckons are those of package longs. No condition.
-/
import Derived.Test.YtibcmemcfjhgmaaGreatDoorV07
import Derived.Test.YtibcmemcfjhgmaaGreatDoorV14
set_option maxHeartbeats 4000000
set_option maxRecDepth 100000
namespace Go.Proofs.YtibcmemcfjhgmaaGreatDoor
open Go.RowKit
theorem RF (g:Nat) (w:World) (h0:w.cell? ⟨g,0,none⟩=some .nilIface) (h1:w.cell? ⟨g,1,none⟩=some .nilIface):
  Calls Tryz.prog 214 #[.slice (some ⟨g,0,none⟩) 2 2] w fun e w'=>e=.returned .nilIface/\w=w':=by
 go_enter Tryz.func214,Tryz.ntmps214
 go_wp2
 refine wp_loop_rounds 3 ?_;rw[rounds_succ]
 go_wp2
 rw[rounds_succ]
 go_wp2
 rw[rounds_succ]
 go_wp2
 go_ret;exact⟨rfl,rfl⟩
def Ik (v0:Value) (w:World) (e:Ending) (w':World):Prop:=
 ∃(p g len cap:Nat),e=.returned (.iface 278 (.pointer (some ⟨p,0,none⟩)))/\p<w'.heap.size/\g<w'.heap.size/\w'.cell? ⟨p,0,none⟩=some (.slice (some ⟨g,0,none⟩) len cap)/\1<=len/\len<=2/\
  w'.cell? ⟨g,0,none⟩=some v0/\Below w.heap.size w w'
theorem Qb (g:Nat) (t:TypeId) (v:Value) (w:World) (h0:w.cell? ⟨g,0,none⟩=some .nilIface) (h1:w.cell? ⟨g,1,none⟩=some (.iface t v)):
  Calls Tryz.prog 214 #[.slice (some ⟨g,0,none⟩) 2 2] w (Ik (.iface t v) w):=by
 have hg:g<w.heap.size:=World.block_lt_of_cell? _ _ h0
 have f3:∀(k:Nat) (v:Value) (o1 o2 o3:Obj),w.cell? ⟨g,k,none⟩=some v->(((w.alloc o1).alloc o2).alloc o3).cell? ⟨g,k,none⟩=some v:=fun k v o1 o2 o3 h=>by
  rw[World.cell?_alloc_lt _ _ ⟨g,k,none⟩ (by simp;omega),World.cell?_alloc_lt _ _ ⟨g,k,none⟩ (by simp;omega),World.cell?_alloc_lt _ _ ⟨g,k,none⟩ hg];exact h
 have f30:=fun o1 o2 o3=>f3 0 _ o1 o2 o3 h0;have f31:=fun o1 o2 o3=>f3 1 _ o1 o2 o3 h1;clear f3;have nY:∀w,(Instr.makeSlice 231 (.int .i64 0) (.int .i64 1)).run Tryz.prog w=.ok (.slice (some ⟨w.heap.size,0,none⟩) 0 1) (w.alloc (.cells #[.nilIface] 74)):=fun _=>by kernel_rfl
 go_enter Tryz.func214,Tryz.ntmps214
 go_wp2
 refine wp_loop_rounds 3 ?_;rw[rounds_succ]
 go_wp2
 rw[rounds_succ]
 go_wp2
 rw[rounds_succ]
 go_wp2
 refine wp_loop_rounds 3 ?_;rw[rounds_succ]
 go_wp2
 rw[rounds_succ]
 go_wp2
 rw[rounds_succ]
 go_wp2
 go_ret;refine⟨w.heap.size+1,w.heap.size,1,1,rfl,by simp;try omega,by simp;try omega,by go_simp,by decide,by decide,by go_simp,?_⟩
 repeat (first |exact Below.refl _ _|refine Below.alloc ?_ (by simp;try omega) _)
theorem G1 (g:Nat) (t:TypeId) (v:Value) (w:World) (h0:w.cell? ⟨g,0,none⟩=some (.iface t v)) (h1:w.cell? ⟨g,1,none⟩=some .nilIface):
  Calls Tryz.prog 214 #[.slice (some ⟨g,0,none⟩) 2 2] w (Ik (.iface t v) w):=by
 have hg:g<w.heap.size:=World.block_lt_of_cell? _ _ h0
 have f3:∀(k:Nat) (v:Value) (o1 o2 o3:Obj),w.cell? ⟨g,k,none⟩=some v->(((w.alloc o1).alloc o2).alloc o3).cell? ⟨g,k,none⟩=some v:=fun k v o1 o2 o3 h=>by
  rw[World.cell?_alloc_lt _ _ ⟨g,k,none⟩ (by simp;omega),World.cell?_alloc_lt _ _ ⟨g,k,none⟩ (by simp;omega),World.cell?_alloc_lt _ _ ⟨g,k,none⟩ hg];exact h
 have f30:=fun o1 o2 o3=>f3 0 _ o1 o2 o3 h0;have f31:=fun o1 o2 o3=>f3 1 _ o1 o2 o3 h1;clear f3;have nY:∀w,(Instr.makeSlice 231 (.int .i64 0) (.int .i64 1)).run Tryz.prog w=.ok (.slice (some ⟨w.heap.size,0,none⟩) 0 1) (w.alloc (.cells #[.nilIface] 74)):=fun _=>by kernel_rfl
 go_enter Tryz.func214,Tryz.ntmps214
 go_wp2
 refine wp_loop_rounds 3 ?_;rw[rounds_succ]
 go_wp2
 rw[rounds_succ]
 go_wp2
 rw[rounds_succ]
 go_wp2
 refine wp_loop_rounds 3 ?_;rw[rounds_succ]
 go_wp2
 rw[rounds_succ]
 go_wp2
 rw[rounds_succ]
 go_wp2
 go_ret;refine⟨w.heap.size+1,w.heap.size,1,1,rfl,by simp;try omega,by simp;try omega,by go_simp,by decide,by decide,by go_simp,?_⟩
 repeat (first |exact Below.refl _ _|refine Below.alloc ?_ (by simp;try omega) _)
theorem H7 (g:Nat) (t:TypeId) (v:Value) (t2:TypeId) (v2:Value) (w:World) (h0:w.cell? ⟨g,0,none⟩=some (.iface t v)) (h1:w.cell? ⟨g,1,none⟩=some (.iface t2 v2)):
  Calls Tryz.prog 214 #[.slice (some ⟨g,0,none⟩) 2 2] w (Ik (.iface t v) w):=by
 have hg:g<w.heap.size:=World.block_lt_of_cell? _ _ h0
 have f3:∀(k:Nat) (v:Value) (o1 o2 o3:Obj),w.cell? ⟨g,k,none⟩=some v->(((w.alloc o1).alloc o2).alloc o3).cell? ⟨g,k,none⟩=some v:=fun k v o1 o2 o3 h=>by
  rw[World.cell?_alloc_lt _ _ ⟨g,k,none⟩ (by simp;omega),World.cell?_alloc_lt _ _ ⟨g,k,none⟩ (by simp;omega),World.cell?_alloc_lt _ _ ⟨g,k,none⟩ hg];exact h
 have f30:=fun o1 o2 o3=>f3 0 _ o1 o2 o3 h0;have f31:=fun o1 o2 o3=>f3 1 _ o1 o2 o3 h1;clear f3;have nY:∀w,(Instr.makeSlice 231 (.int .i64 0) (.int .i64 2)).run Tryz.prog w=.ok (.slice (some ⟨w.heap.size,0,none⟩) 0 2) (w.alloc (.cells #[.nilIface,.nilIface] 74)):=fun _=>by kernel_rfl
 go_enter Tryz.func214,Tryz.ntmps214
 go_wp2
 refine wp_loop_rounds 3 ?_;rw[rounds_succ]
 go_wp2
 rw[rounds_succ]
 go_wp2
 rw[rounds_succ]
 go_wp2
 refine wp_loop_rounds 3 ?_;rw[rounds_succ]
 go_wp2
 rw[rounds_succ]
 go_wp2
 rw[rounds_succ]
 go_wp2
 go_ret;refine⟨w.heap.size+1,w.heap.size,2,2,rfl,by simp;try omega,by simp;try omega,by go_simp,by decide,by decide,by go_simp,?_⟩
 repeat (first |exact Below.refl _ _|refine Below.alloc ?_ (by simp;try omega) _)
def ah.cells (x:ah):Array Value:= #[.int .i64 x.kind,.string x.text,.int .i64 x.bits,.string x.scheme,.string x.host,.bool x.wild,.int .i64 x.port,.string x.path]
def dg (w:World) (T:Nat) (x:ah):Prop:=w.heap[T]? =some (.cells x.cells 63 (0,0))
theorem dg.cell {w:World} {T:Nat} {x:ah} (h:dg w T x) (k:Nat):w.cell? ⟨T,k,none⟩=x.cells[k]? :=cell_of_row w T k _ _ _ h
theorem dg.free {w:World} {T:Nat} {x:ah} (h:dg w T x) (k:Nat):w.frozen? ⟨T,k,none⟩=false:=by
 unfold dg at h;simp only[World.frozen?,h]
 simp
theorem dg.lt {w:World} {T:Nat} {x:ah} (h:dg w T x):T<w.heap.size:=(Array.getElem?_eq_some_iff.1 h).1
theorem dg.below {w w':World} {T:Nat} {x:ah} (h:dg w T x) (hb:Below w.heap.size w w'):dg w' T x:=by
 unfold dg;rw[hb.block T h.lt];exact h
theorem dg.store {w:World} {T:Nat} {x y:ah} (h:dg w T x) (k:Nat) (v:Value) (hy:x.cells.setIfInBounds k v=y.cells):dg (w.setCell ⟨T,k,none⟩ v) T y:=by
 unfold dg;rw[setCell_eq_setRow w T k x.cells _ _ v h,<-hy];exact setRow_heap _ _ _ _ _ _ h
def NR (o:Option ah) (x:ah) (n T:Nat) (w:World) (e:Ending) (w':World):Prop:=
 ∃v,e=.returned v/\Hid (match o with|some y=>v=.nilIface/\dg w' T y|none=>fH w' n v/\dg w' T x)/\Below T w w'
theorem nU {s:ByteArray} (b:Bool) (h:decide (s.data.toList=[42])=b):(s.toList==[42])=b:=by
 rw[Lib.toList_data,<-h];by_cases h2:s.data.toList=[42]<;>simp[h2]
def gT (s:ByteArray) (x:ah):Option ah:=
 if s.data.toList=[42]then some {x with wild:=true}
 else if Lz.eF (Lib.trimPrefix s.data.toList [42,46])then some {x with wild:=Lib.hasPrefix s.data.toList [42,46],host:=⟨(Lz.low (Lib.trimPrefix s.data.toList [42,46])).toArray⟩} else none
theorem NP (s:ByteArray) (hs:s.size<=1048576) (T:Nat) (x:ah) (w:World) (hE:Env w) (hT:dg w T x):
  Calls Tryz.prog 213 #[.string s,.pointer (some ⟨T,0,none⟩)] w (NR (gT s x) x 0 T w):=by
 have h5:=hT.cell 5;have h4:=hT.cell 4;have f5:=hT.free 5;have f4:=hT.free 4;simp only[ah.cells]at h4 h5
 simp at h4 h5
 go_enter Tryz.func213,Tryz.ntmps213
 go_wp2_with fail
 refine(mZ s _ w).mono ?_;rintro e w1 ⟨v,rfl,hv,rfl⟩;by_cases eL:s.data.toList=[42]
 ·have hst:=nU true (decide_eq_true eL);have HR:Hid (gT s x=some {x with wild:=true}):=by show gT s x=_;unfold gT;rw[if_pos eL]
  clear eL
  go_wp2
  go_ret;exact⟨_,rfl,by rw[HR.out];exact⟨rfl,hT.store 5 _ (by rfl)⟩,(Below.refl T w).setCell (p:=⟨T,5,none⟩) (Nat.le_refl _) _⟩
 ·have hst:=nU false (decide_eq_false eL);have Hs:=Ih eL;clear eL;have K5:v.data.toList=Lib.trimPrefix s.data.toList [42,46]:=hv.out
  have hvz:v.size<=s.size:=by
   rw[<-ac v,K5,<-ac s];unfold Lib.trimPrefix;split
   ·simp
   ·exact Nat.le_refl _
  have Hvl:=Ih K5;clear K5 hv;have cN:=Ih (Jx v (by omega) w hE);generalize Li:Lz.eF v.data.toList=nb at cN;have Hnb:=Ih Li;clear Li;cases nb
  ·have HR:Hid (gT s x=none):=by
    show gT s x=_;unfold gT;rw[if_neg Hs.out,<-Hvl.out,Hnb.out];rfl
   go_wp2_with fail
   refine(cN.out).mono ?_;rintro e w2 ⟨rfl,aE⟩
   go_wp2
   go_ret;exact⟨_,rfl,by rw[HR.out];exact⟨⟨_,rfl⟩,hT.below aE⟩,aE.mono (Nat.le_of_lt hT.lt)⟩
  ·go_wp2_with fail
   refine(cN.out).mono ?_;rintro e w2 ⟨rfl,aE⟩
   go_wp2_with fail
   refine(kp v (by omega) w2).mono ?_;rintro e w3 ⟨u,rfl,hu,bj⟩;have lq:=ae aE bj;have sS:=hT.below lq
   have HR:Hid (gT s x=some {x with wild:=Lib.hasPrefix s.data.toList [42,46],host:=u}):=by
    show gT s x=_;unfold gT;rw[if_neg Hs.out,<-Hvl.out,Hnb.out,if_pos rfl];have hue:(⟨(Lz.low v.data.toList).toArray⟩:ByteArray)=u:=by rw[<-hu.out]
    rw[hue]
   clear h4 h5 f4 f5;have h5:=sS.cell 5;have h4:=sS.cell 4;have f5:=sS.free 5;have f4:=sS.free 4;simp only[ah.cells]at h4 h5
   simp at h4 h5
   go_wp2
   go_ret;have bz:=(sS.store (y:={x with wild:=Lib.hasPrefix s.data.toList [42,46]}) 5 (.bool (Lib.hasPrefix s.data.toList [42,46])) (by rfl)).store (y:={x with wild:=Lib.hasPrefix s.data.toList [42,46],host:=u}) 4 (.string u) (by rfl);exact⟨_,rfl,by rw[HR.out];exact⟨rfl,bz⟩,((lq.mono (Nat.le_of_lt hT.lt)).setCell (p:=⟨T,5,none⟩) (Nat.le_refl _) _).setCell (p:=⟨T,4,none⟩) (Nat.le_refl _) _⟩
def gm (s:ByteArray) (x:ah):Option ah:=(Lz.eA s.data.toList).map fun n=>{x with port:=n}
theorem UN (s:ByteArray) (hs:s.size<=1048576) (w:World) (hE:Env w):
  Calls Tryz.prog 257 #[.string s] w fun e w'=>∃n v,e=.returned (.tuple #[.int .i64 n,v])/\Hid ((Lib.atoiAll s.data.toList=.ok n/\v=.nilIface)\/((∀m,Lib.atoiAll s.data.toList≠.ok m)/\∃t x,v=.iface t x))/\Below w.heap.size w w':=by
 cases h:Lib.atoiAll s.data.toList with
 | ok n=>
   refine(Tryz.strconv_Atoi_ok s (by omega) n h w).mono ?_;rintro e w' ⟨he,hw⟩;refine⟨n,.nilIface,he,Or.inl ⟨rfl,rfl⟩,?_⟩;rcases hw with rfl|⟨t,rfl⟩
   ·exact Below.refl _ _
   ·exact Lib.bytesWorld_below _ _ _
 | range=>
   obtain⟨te,pe,hv⟩:=hE.rng;refine(Tryz.strconv_Atoi_range s (by omega) h _ w hv (Or.inr ⟨te,pe,rfl⟩)).mono ?_;rintro e w' ⟨N,he,_,_,hb⟩;exact⟨_,_,he,Or.inr ⟨(fun m hm=>by cases hm),_,_,rfl⟩,hb⟩
 | _=>
   obtain⟨te,pe,hv⟩:=hE.syn;refine(Tryz.strconv_Atoi_syntax s (by omega) (h.trans rfl) _ w hv (Or.inr ⟨te,pe,rfl⟩)).mono ?_;rintro e w' ⟨N,he,_,_,hb⟩;exact⟨_,_,he,Or.inr ⟨(fun m hm=>by cases hm),_,_,rfl⟩,hb⟩
theorem Ms (s:ByteArray) (hs:s.size<=1048576) (T:Nat) (x:ah) (w:World) (hE:Env w) (hT:dg w T x):
  Calls Tryz.prog 215 #[.string s,.pointer (some ⟨T,0,none⟩)] w (NR (gm s x) x 1 T w):=by
 by_cases eL:s.data.toList=[42]
 ·have hst:=nU true (decide_eq_true eL);have HR:Hid (gm s x=some {x with port:= -2}):=by show gm s x=_;unfold gm Lz.eA;rw[if_pos eL];rfl
  clear eL;have h6:=hT.cell 6;have f6:=hT.free 6;simp only[ah.cells]at h6
  simp at h6
  go_enter Tryz.func215,Tryz.ntmps215
  go_wp2
  go_ret;exact⟨_,rfl,by rw[HR.out];exact⟨rfl,hT.store 6 _ (by rfl)⟩,(Below.refl T w).setCell (p:=⟨T,6,none⟩) (Nat.le_refl _) _⟩
 ·have hst:=nU false (decide_eq_false eL);have Hs:=Ih eL;clear eL;have cA:=Ih (pV Eb s (by omega));generalize X1:Lz.dj Lz.aQ s.data.toList=db at cA;have Hdb:=Ih X1;clear X1;go_enter Tryz.func215,Tryz.ntmps215
  go_wp2_with fail
  refine(UN s hs w hE).mono ?_;rintro e w1 ⟨n,v,rfl,hv,av⟩;have mf:=hT.below av;rcases hv.out with⟨ha,rfl⟩|⟨ha,t,z,rfl⟩
  ·have Ha:=Ih ha;clear ha hv;by_cases IU:db=true/\n<=65535
   ·obtain⟨rfl,hn⟩:=IU
    have HR:Hid (gm s x=some {x with port:=n}):=by
     show gm s x=_;unfold gm Lz.eA;rw[if_neg Hs.out,Ha.out];simp only[Hdb.out,decide_eq_true hn,Bool.and_self,if_true];rfl
    have h6:=mf.cell 6;have f6:=mf.free 6;simp only[ah.cells]at h6
    simp at h6
    go_wp2_with (go_at_call 211;refine(cA.out _).mono ?_;rintro e w2 ⟨rfl,rfl⟩)
    go_ret;exact⟨_,rfl,by rw[HR.out];exact⟨rfl,mf.store 6 _ (by rfl)⟩,(av.mono (Nat.le_of_lt hT.lt)).setCell (p:=⟨T,6,none⟩) (Nat.le_refl _) _⟩
   ·have HR:Hid (gm s x=none):=by
     show gm s x=_;unfold gm Lz.eA;rw[if_neg Hs.out,Ha.out]
     have:(db&&decide (n<=65535))=false:=by
      cases db
      ·rfl
      ·have:¬n<=65535:=fun h=>IU ⟨rfl,h⟩
       simp[this]
     simp only[Hdb.out,this];rfl
    have iv:(db=false)\/(db=true/\65535<n):=by
     cases db
     ·exact Or.inl rfl
     ·exact Or.inr ⟨rfl,by have:¬n<=65535:=fun h=>IU ⟨rfl,h⟩;omega⟩
    clear IU;rcases iv with rfl|⟨rfl,hn⟩
    all_goals
     go_wp2_with (first |(go_at_call 211;refine(cA.out _).mono ?_;rintro e w2 ⟨rfl,rfl⟩)|(go_at_call 214;refine(G1 w1.heap.size 138 (.string ⟨#[112,111,114,116]⟩) _ (by simp) (by simp)).mono ?_;rintro e w3 ⟨p,g,len,cap,rfl,q1,q2,q3,q4,q5,q6,bj⟩))
     go_ret;have lq:=(((Below.refl _ w1).alloc (Nat.le_refl _) _).trans (bj.mono (by simp)));exact⟨_,rfl,by rw[HR.out];exact⟨Or.inr ⟨p,g,len,cap,_,rfl,q1,q2,q3,q4,q5,q6,_,rfl⟩,mf.below lq⟩,(ae av lq).mono (Nat.le_of_lt hT.lt)⟩
  ·have HR:Hid (gm s x=none):=by
    show gm s x=_;unfold gm Lz.eA;rw[if_neg Hs.out];cases h:Lib.atoiAll s.data.toList with
    | ok m=>exact absurd h (ha m)
    | _=>rfl
   clear ha hv
   go_wp2_with (first |(go_at_call 211;refine(cA.out _).mono ?_;rintro e w2 ⟨rfl,rfl⟩)|(go_at_call 214;refine(H7 w1.heap.size 138 (.string ⟨#[112,111,114,116]⟩) t z _ (by simp) (by simp)).mono ?_;rintro e w3 ⟨p,g,len,cap,rfl,q1,q2,q3,q4,q5,q6,bj⟩))
   go_ret;have lq:=(((Below.refl _ w1).alloc (Nat.le_refl _) _).trans (bj.mono (by simp)));exact⟨_,rfl,by rw[HR.out];exact⟨Or.inr ⟨p,g,len,cap,_,rfl,q1,q2,q3,q4,q5,q6,_,rfl⟩,mf.below lq⟩,(ae av lq).mono (Nat.le_of_lt hT.lt)⟩
def dV:ah:=⟨3,⟨#[]⟩,0,⟨#[]⟩,⟨#[]⟩,false,-1,⟨#[]⟩⟩
def ic (w:World) (n:Nat) (Sd:Bool) (v:Value):Prop:=(Sd=true/\v=.nilIface)\/(Sd=false/\fH w n v)
theorem fH.below' {w w':World} (hb:Below w.heap.size w w'):∀{n:Nat} {v:Value},fH w n v->fH w' n v
 | 0,_,h=>h
 | n+1,v,h=>by
   rcases h with h|⟨p,g,len,cap,v0,h1,h2,h3,h4,h5,h6,h7,h8⟩
   ·exact Or.inl (fH.below' hb h)
   ·exact Or.inr ⟨p,g,len,cap,v0,h1,Nat.lt_of_lt_of_le h2 hb.size,Nat.lt_of_lt_of_le h3 hb.size,by rw[hb.cell (p:=⟨p,0,none⟩) h2];exact h4,h5,h6,by rw[hb.cell (p:=⟨g,0,none⟩) h3];exact h7,fH.below' hb h8⟩
theorem ic.below {w w':World} {n:Nat} {g:Bool} {v:Value} (h:ic w n g v) (hb:Below w.heap.size w w'):ic w' n g v:=by
 rcases h with h|⟨h1,h2⟩
 ·exact Or.inl h
 ·exact Or.inr ⟨h1,h2.below' hb⟩
theorem ic.succ {w:World} {n:Nat} {g:Bool} {v:Value} (h:ic w n g v):ic w (n+1) g v:=by
 rcases h with h|⟨h1,h2⟩
 ·exact Or.inl h
 ·exact Or.inr ⟨h1,Or.inl h2⟩
theorem fH.iface' {w:World}:∀{n:Nat} {v:Value},fH w n v->∃t x,v=.iface t x
 | 0,_,⟨b,h⟩=>⟨_,_,h⟩
 | n+1,v,h=>by
   rcases h with h|⟨p,g,len,cap,v0,h1,_⟩
   ·exact fH.iface' h
   ·exact⟨_,_,h1⟩
theorem ic.form {w:World} {n:Nat} {g:Bool} {v:Value} (h:ic w n g v):v=.nilIface\/∃t x,v=.iface t x:=by
 rcases h with⟨_,h⟩|⟨_,h⟩
 ·exact Or.inl h
 ·exact Or.inr h.iface'
def RSt (n:Nat) (Sd:Bool) (w:World) (e:Ending) (w':World):Prop:=∃v,e=.returned v/\Hid (ic w' n Sd v)/\Below w.heap.size w w'
theorem uJ {n:Nat} {v0:Value} {w:World} {e:Ending} {w':World} (h0:fH w n v0) (h:Ik v0 w e w'):RSt (n+1) false w e w':=by
 obtain⟨p,g,len,cap,he,q1,q2,q3,q4,q5,q6,hb⟩:=h;exact⟨_,he,Or.inr ⟨rfl,Or.inr ⟨p,g,len,cap,v0,rfl,q1,q2,q3,q4,q5,q6,h0.below' hb⟩⟩,hb⟩
theorem HJ (g n:Nat) (g0 g1:Bool) (c0 c1:Value) (w:World) (s0:ic w n g0 c0) (s1:ic w n g1 c1) (h0:w.cell? ⟨g,0,none⟩=some c0) (h1:w.cell? ⟨g,1,none⟩=some c1):
  Calls Tryz.prog 214 #[.slice (some ⟨g,0,none⟩) 2 2] w (RSt (n+1) (g0&&g1) w):=by
 rcases s0 with⟨rfl,rfl⟩|⟨rfl,b0⟩
 ·rcases s1 with⟨rfl,rfl⟩|⟨rfl,b1⟩
  ·exact(RF g w h0 h1).mono fun e w' ⟨he,hw⟩=>⟨_,he,Or.inl ⟨rfl,rfl⟩,by rw[hw];exact Below.refl _ _⟩
  ·obtain⟨t,x,rfl⟩:=b1.iface';exact(Qb g t x w h0 h1).mono fun e w' h=>uJ b1 h
 ·obtain⟨t,x,rfl⟩:=b0.iface';rcases s1 with⟨rfl,rfl⟩|⟨rfl,b1⟩
  ·exact(G1 g t x w h0 h1).mono fun e w' h=>uJ b0 h
  ·obtain⟨t1,x1,rfl⟩:=b1.iface';exact(H7 g t x t1 x1 w h0 h1).mono fun e w' h=>uJ b0 h
def zJ (o:Option ah) (x:ah) (n T:Nat) (w:World) (e:Ending) (w':World):Prop:=
 ∃v y,e=.returned v/\Hid (ic w' n o.isSome v)/\dg w' T y/\Hid ((∀z,o=some z->z=y)/\y.path=x.path)/\Below T w w'
theorem GY {o:Option ah} {x:ah} {n T:Nat} {w:World} {e:Ending} {w':World} (hp:∀z,o=some z->z.path=x.path) (h:NR o x n T w e w'):zJ o x n T w e w':=by
 obtain⟨v,he,hv,hb⟩:=h;have hv:=hv.out;cases o with
 | none=>
   obtain⟨h1,h2⟩:=hv;exact⟨v,x,he,Or.inr ⟨rfl,h1⟩,h2,⟨fun z hz=>(by cases hz),rfl⟩,hb⟩
 | some y=>
   obtain⟨h1,h2⟩:=hv;exact⟨v,y,he,Or.inl ⟨rfl,h1⟩,h2,⟨fun z hz=>(Option.some.inj hz).symm,hp y rfl⟩,hb⟩
theorem FT {s:ByteArray} {x z:ah} (h:gT s x=some z):z.path=x.path:=by
 unfold gT at h;split at h
 ·rw[<-Option.some.inj h]
 ·split at h
  ·rw[<-Option.some.inj h]
  ·cases h
theorem Ex {s:ByteArray} {x z:ah} (h:gm s x=some z):z.path=x.path:=by
 unfold gm at h;obtain⟨n,_,hn⟩:=Option.map_eq_some_iff.1 h;rw[<-hn]
theorem Qa (s:ByteArray) (hs:s.size<=1048576) (T:Nat) (x:ah) (w:World) (hE:Env w) (hT:dg w T x):
 Calls Tryz.prog 213 #[.string s,.pointer (some ⟨T,0,none⟩)] w (zJ (gT s x) x 0 T w):=(NP s hs T x w hE hT).mono fun _ _ h=>GY (fun _ hz=>FT hz) h
theorem P7 (s:ByteArray) (hs:s.size<=1048576) (T:Nat) (x:ah) (w:World) (hE:Env w) (hT:dg w T x):
 Calls Tryz.prog 215 #[.string s,.pointer (some ⟨T,0,none⟩)] w (zJ (gm s x) x 1 T w):=(Ms s hs T x w hE hT).mono fun _ _ h=>GY (fun _ hz=>Ex hz) h
theorem sx (nm nu r:ByteArray) (y y1 y2:ah) (WO gp:Bool) (hy:y={dV with scheme:=y.scheme,path:=y.path}) (Pj:nm.data.toList=(Lib.cut r.data.toList [58]).1) (VR:nu.data.toList=(Lib.cut r.data.toList [58]).2.1)
  (lV:(Lib.cut r.data.toList [58]).2.2=WO) (h1:∀z,gT nm y=some z->z=y1) (h2:WO=true->∀z,gm nu y1=some z->z=y2) (h3:WO=false->y2=y1) (O0:(y.path.data.toList.isEmpty||Lz.dj Lz.dr y.path.data.toList)=gp):
  Lz.fS y.scheme.data.toList y.path.data.toList r.data.toList=if((gT nm y).isSome&&(if WO then(gm nu y1).isSome else true))&&gp then some y2.src else none:=by
 have hh:Lz.nj nm.data.toList=(gT nm y).map (fun z=>(z.wild,z.host.data.toList)):=by
  unfold Lz.nj gT;split
  ·rw[hy];rfl
  ·split<;>rfl
 unfold Lz.fS;rw[<-Pj,<-VR,hh,lV,O0];cases ho:gT nm y with
 | none=>rfl
 | some z=>
   have hz:=h1 z ho;subst hz
   have eo:z={y with wild:=z.wild,host:=z.host}:=by
    unfold gT at ho;split at ho
    ·rw[<-Option.some.inj ho]
    ·split at ho
     ·rw[<-Option.some.inj ho]
     ·cases ho
   cases WO with
   | false=>
     have Ug:=h3 rfl;subst Ug;simp only[Option.map_some,Option.isSome_some,Bool.true_and,Bool.false_eq_true,if_false];cases gp
     ·rfl
     ·simp only[if_true];rw[eo,hy];rfl
   | true=>
     simp only[Option.map_some,Option.isSome_some,Bool.true_and,if_true]
     have hp:Lz.eA nu.data.toList=(gm nu z).map (·.port):=by
      unfold gm;rw[Option.map_map]
      simp[Function.comp_def]
     rw[hp];cases TY:gm nu z with
     | none=>rfl
     | some q=>
       have hq:=h2 rfl q TY;subst hq
       have jr:q={z with port:=q.port}:=by
        unfold gm at TY;obtain⟨n,_,hn⟩:=Option.map_eq_some_iff.1 TY;rw[<-hn]
       simp only[Option.map_some,Option.isSome_some,Bool.true_and];cases gp
       ·rfl
       ·simp only[if_true];rw[jr,eo,hy];rfl
theorem fZ (s:ByteArray) (k:Nat):(s.extract k s.size).data.toList=s.data.toList.drop k:=by
 rw[Lib.extract_data,List.take_of_length_le (by rw[List.length_drop,ac];exact Nat.le_refl _)]
theorem dI (s:ByteArray) (k:Nat):(s.extract 0 k).data.toList=s.data.toList.take k:=by
 rw[Lib.extract_data];rfl
theorem fH.setRow {w:World} {R:Nat} {cs:Array Value} {t:TypeId} {fr:Nat×Nat} (hr:w.heap[R]? =some (.cells cs t fr)) (h0:cs[0]? =some (.int .i64 0)) (cells:Array Value):∀{n:Nat} {v:Value},fH w n v->fH (w.setRow R cells) n v
 | 0,_,h=>h
 | n+1,v,h=>by
   have hc:w.cell? ⟨R,0,none⟩=some (.int .i64 0):=by rw[cell_of_row w R 0 _ _ _ hr];exact h0
   rcases h with h|⟨p,g,len,cap,v0,h1,h2,h3,h4,h5,h6,h7,h8⟩
   ·exact Or.inl (fH.setRow hr h0 cells h)
   ·have hpR:p≠R:=by rintro rfl;rw[hc]at h4;cases h4
    have hgR:g≠R:=by
     rintro rfl;rw[hc]at h7;obtain⟨t,x,hx⟩:=h8.iface';rw[hx]at h7;cases h7
    exact Or.inr ⟨p,g,len,cap,v0,h1,by rw[setRow_size];exact h2,by rw[setRow_size];exact h3,by rw[cell_setRow_other _ _ _ _ hpR];exact h4,h5,h6,by rw[cell_setRow_other _ _ _ _ hgR];exact h7,fH.setRow hr h0 cells h8⟩
theorem Nt {o:Option Lz.Src} {gg:Bool} {y:ah} {v:Value} {w:World} {n R:Nat} {cs:Array Value} {t:TypeId} {fr:Nat×Nat} (hr:w.heap[R]? =some (.cells cs t fr)) (h0:cs[0]? =some (.int .i64 0)) (cells:Array Value)
  (ho:o=if gg then some y.src else none) (hv:ic w n gg v):Hid (mJ o y (w.setRow R cells) n v):=by
 rcases hv with⟨rfl,rfl⟩|⟨rfl,hb⟩
 ·subst ho;exact⟨rfl,rfl⟩
 ·subst ho;exact hb.setRow hr h0 cells
theorem ic.zero {w w':World} {g:Bool} {v:Value} (h:ic w 0 g v):ic w' 0 g v:=h
theorem yE (s p:List UInt8):(Lib.cut s p).1.length<=s.length/\(Lib.cut s p).2.1.length<=s.length:=by
 unfold Lib.cut;split
 ·exact⟨by simp[List.length_take];omega,by simp[List.length_drop]⟩
 ·simp
theorem zr (s:ByteArray) (w:World):Calls Tryz.prog 129 #[.string s,.int .u8 47] w fun e w'=>e=.returned (.int .i64 (Lib.indexByte s.data.toList 47))/\w=w':=kj s 47 w
theorem pK (l:List UInt8) (c:UInt8):Lib.indexByte l c<l.length:=by
 induction l with
 | nil=>unfold Lib.indexByte;simp
 | cons b l ih=>
   unfold Lib.indexByte;split
   ·simp
   ·split
    ·simp
     omega
    ·simp
     omega
theorem jG {w w1:World} {o1 o2:Obj} (hb:Below ((w.alloc o1).alloc o2).heap.size ((w.alloc o1).alloc o2) w1):w1.heap[w.heap.size]? =some o1/\w1.heap[w.heap.size+1]? =some o2:=by
 have h1:((w.heap.push o1).push o2)[w.heap.size]? =some o1:=by
  rw[Array.getElem?_push,if_neg (by simp),Array.getElem?_push,if_pos rfl]
 have h2:((w.heap.push o1).push o2)[w.heap.size+1]? =some o2:=by
  rw[Array.getElem?_push,if_pos (by simp)]
 exact⟨(hb.block _ (by simp;omega)).trans h1,(hb.block _ (by simp)).trans h2⟩
structure ij (w wx:World) (x:ah):Prop where
 row:∃cs:Array Value,cs.size=8/\cs[0]? =some (.int .i64 0)/\wx.heap[w.heap.size]? =some (.cells cs 63 (0,0))
 src:dg wx (w.heap.size+1) x
 below:Below w.heap.size w wx
theorem ij.call {w w1 w2:World} {x:ah} (h:ij w w1 x) (hb:Below w1.heap.size w1 w2):ij w w2 x:=by
 obtain⟨⟨cs,h1,h2,h3⟩,h4,h5⟩:=h;exact⟨⟨cs,h1,h2,by rw[hb.block _ (Array.getElem?_eq_some_iff.1 h3).1];exact h3⟩,h4.below hb,ae h5 hb⟩
theorem ij.into {w w1 w2:World} {x y:ah} (h:ij w w1 x) (hb:Below (w.heap.size+1) w1 w2) (hy:dg w2 (w.heap.size+1) y):ij w w2 y:=by
 obtain⟨⟨cs,h1,h2,h3⟩,h4,h5⟩:=h;exact⟨⟨cs,h1,h2,by rw[hb.block _ (by omega)];exact h3⟩,hy,h5.trans (hb.mono (by omega))⟩
theorem ij.drew {w w1:World} {x:ah} (h:ij w w1 x):ij w w1.drew x:=⟨h.row,h.src,h.below.drew⟩
def Tn (s:ByteArray) (w:World) (v:Value) (wx:World):Prop:=
 ∃(rest:ByteArray) (x:ah),v=.string rest/\rest.size<=1048576/\ij w wx x/\Hid (Lz.cq s.data.toList=Lz.gZ x.scheme.data.toList rest.data.toList/\x={dV with scheme:=x.scheme})
def S8 (s:ByteArray) (w:World) (v:Value) (wx:World):Prop:=
 ∃(r:ByteArray) (y:ah),v=.string r/\r.size<=1048576/\y.path.size<=1048576/\ij w wx y/\Hid (Lz.cq s.data.toList=Lz.fS y.scheme.data.toList y.path.data.toList r.data.toList/\y={dV with scheme:=y.scheme,path:=y.path})
def Y0 (s:ByteArray) (w:World) (v:Value) (wx:World):Prop:=
 ∃(gg:Bool) (y:ah),Hid (ic wx 2 gg v)/\y.path.size<=1048576/\ij w wx y/\Hid (∀gp,(y.path.data.toList.isEmpty||Lz.dj Lz.dr y.path.data.toList)=gp->Lz.cq s.data.toList=if gg&&gp then some y.src else none)
def Y7 (s:ByteArray) (w:World) (v:Value) (wx:World):Prop:=
 ∃(gg:Bool) (y:ah),Hid (ic wx 3 gg v)/\ij w wx y/\Hid (Lz.cq s.data.toList=if gg then some y.src else none)
theorem Fg (s:ByteArray) (hs:s.size<=1048576) (w:World) (hE:Env w):Calls Tryz.prog 149 #[.string s] w (VP (Lz.cq s.data.toList) 3 w):=by
 go_enter Tryz.func149,Tryz.ntmps149
 go_wp2_with fail
 have kN:Below w.heap.size w ((w.alloc (.cells #[.int .i64 0,.string ⟨#[]⟩,.int .i64 0,.string ⟨#[]⟩,.string ⟨#[]⟩,.bool false,.int .i64 0,.string ⟨#[]⟩] 63)).alloc (.cells dV.cells 63)):=((Below.refl _ w).alloc (Nat.le_refl _) _).alloc (by simp) _;refine(Nv s ⟨#[58,47,47]⟩ (by omega) _ (hE.below kN)).mono ?_;rintro e w1 ⟨hd,OB,rfl,Tu,za,av⟩;obtain⟨nX,mf⟩:=jG av;have it:=ae kN av;have xC:ij w w1 dV:=⟨⟨_,rfl,rfl,nX⟩,mf,it⟩;clear av kN nX mf it;generalize lV:(Lib.cut s.data.toList (ByteArray.data ⟨#[58,47,47]⟩).toList).2.2=ok;have R5:=Ih lV;clear lV;have hz:=yE s.data.toList [58,47,47];have hhz:hd.size<=1048576:=by rw[<-ac hd,Tu.out];exact Nat.le_trans hz.1 (by rw[ac];exact hs)
 have AC:OB.size<=1048576:=by rw[<-ac OB,za.out];exact Nat.le_trans hz.2 (by rw[ac];exact hs)
 clear hz;have cS:=Ih (vP hd (by omega) w1);generalize hsb:Lz.bK hd.data.toList=sb at cS;have Sz:=Ih hsb;clear hsb
 go_upto_if 20 with fail
 go_cut [0] (fun s0 wx=>Tn s w s0 wx)
 case first=>
  cases ok
  ·go_wp2_with fail
   go_meet;refine⟨s,dV,rfl,hs,xC,?_,rfl⟩;unfold Lz.cq;have h1:(Lib.cut s.data.toList [58,47,47]).2.2=false:=R5.out;simp only[h1];rfl
  ·cases sb
   ·obtain⟨⟨cs,is,Dq,jq⟩,mf,it⟩:=xC
    go_wp2_with (first |(go_at_call 148;refine(cS.out).mono ?_;rintro e w2 ⟨rfl,rfl⟩)|(refine a9 rfl _ _ rfl w.heap.size rfl rfl _ jq is ?_))
    refine bodyPost_ret (be rfl _ _ w.heap.size ⟨0,⟨#[]⟩,0,⟨#[]⟩,⟨#[]⟩,false,0,⟨#[]⟩⟩ (0,0) rfl (setRow_heap _ _ _ _ _ _ jq)) rfl ⟨_,_,rfl,?_,below_setRow it (Nat.le_refl _) _⟩
    have hn:Lz.cq s.data.toList=none:=by
     unfold Lz.cq;have h1:(Lib.cut s.data.toList [58,47,47]).2.2=true:=R5.out;have h2:Lz.bK (Lib.cut s.data.toList [58,47,47]).1=false:=by rw[<-Sz.out,Tu.out]
     simp only[h1,h2,if_true];rfl
    rw[hn];exact Or.inl (Or.inl (Or.inl ⟨_,rfl⟩))
   ·go_wp2_with fail
    refine(cS.out).mono ?_;rintro e w2 ⟨rfl,rfl⟩
    go_wp2_with fail
    refine(kp hd (by omega) _).mono ?_;rintro e w2 ⟨u,rfl,hu,aE⟩;have rI:=xC.call aE;have nt:=rI.src;have c3:=nt.cell 3;have f3:=nt.free 3;simp only[ah.cells]at c3
    simp at c3
    have sS:=nt.store (y:={dV with scheme:=u}) 3 (.string u) (by rfl);have AJ:=rI.into ((Below.refl (w.heap.size+1) w2).setCell (p:=⟨w.heap.size+1,3,none⟩) (Nat.le_refl _) (.string u)) sS;clear nt sS aE
    go_wp2_with fail
    go_meet;refine⟨OB,{dV with scheme:=u},rfl,AC,AJ,?_,rfl⟩;unfold Lz.cq;have h1:(Lib.cut s.data.toList [58,47,47]).2.2=true:=R5.out;have h2:Lz.bK (Lib.cut s.data.toList [58,47,47]).1=true:=by rw[<-Sz.out,Tu.out]
    simp only[h1,h2,if_true];show _=Lz.gZ u.data.toList _;rw[hu.out,Tu.out,za.out]
 case rest=>
  clear xC cS Sz R5 Tu za hhz AC;obtain⟨rest,x,rfl,AC,xC,HS⟩:=hcut
  go_wp2_with fail
  have cI:=Ih (zr rest wc);have pu:=pK rest.data.toList 47;rw[ac]at pu;generalize hi:Lib.indexByte rest.data.toList 47=i at cI pu;have Hi:=Ih hi;clear hi;refine(cI.out).mono ?_;rintro e w2 ⟨rfl,rfl⟩
  go_upto_if 33 with fail
  go_cut [0] (fun s0 wx=>S8 s w s0 wx)
  case first=>
   by_cases j6:0<=i
   ·obtain⟨k,rfl⟩:∃k:Nat,i=k:=⟨i.toNat,by omega⟩;have mf:=xC.src;have c7:=mf.cell 7;have f7:=mf.free 7;simp only[ah.cells]at c7
    simp at c7
    have nt:=mf.store (y:={x with path:=rest.extract k rest.size}) 7 (.string (rest.extract k rest.size)) (by rfl);have rI:=(xC.into ((Below.refl (w.heap.size+1) wc).setCell (p:=⟨w.heap.size+1,7,none⟩) (Nat.le_refl _) (.string (rest.extract k rest.size))) nt).drew;clear nt mf
    go_wp2
    go_region
    go_wp2_with fail
    go_meet;refine⟨rest.extract 0 k,{x with path:=rest.extract k rest.size},rfl,Nat.le_trans (aV _ _ _) AC,Nat.le_trans (aV _ _ _) AC,rI,?_,by rw[HS.out.2]⟩;rw[HS.out.1];unfold Lz.gZ;rw[Hi.out,if_pos (by omega)];show _=Lz.fS x.scheme.data.toList (rest.extract k rest.size).data.toList _;rw[fZ,dI];rfl
   ·have Lo:i<0:=by omega
    go_wp2_with fail
    go_meet;have h2:=HS.out.2;refine⟨rest,x,rfl,AC,by rw[h2];exact Nat.zero_le _,xC,?_,by rw[h2]⟩;rw[HS.out.1];unfold Lz.gZ;rw[Hi.out,if_neg (by omega)];rw[h2];rfl
  case rest=>
   clear xC Hi cI pu HS AC;obtain⟨r,y,rfl,XZ,hyz,rI,HQ⟩:=hcut;rename_i w3
   go_wp2_with fail
   refine(Nv r ⟨#[58]⟩ (by omega) _ (hE.below rI.below)).mono ?_;rintro e w4 ⟨nm,nu,rfl,Pj,VR,eB⟩;generalize lV:(Lib.cut r.data.toList (ByteArray.data ⟨#[58]⟩).toList).2.2=WO;have Xf:=Ih lV;clear lV;have hz:=yE r.data.toList [58];have ZQ:nm.size<=1048576:=by rw[<-ac nm,Pj.out];exact Nat.le_trans hz.1 (by rw[ac];exact XZ)
   have aaB:nu.size<=1048576:=by rw[<-ac nu,VR.out];exact Nat.le_trans hz.2 (by rw[ac];exact XZ)
   clear hz;have TJ:=rI.call eB;clear rI eB
   go_wp2_with fail
   refine(Qa nm ZQ (w.heap.size+1) y w4 (hE.below TJ.below) TJ.src).mono ?_;rintro e w5 ⟨v1,y1,rfl,OZ,VQ,Ue,bv⟩;have Po:=TJ.into bv VQ;clear TJ bv VQ
   go_upto_if 49 with fail
   go_cut [12] (fun s12 wx=>Y0 s w s12 wx)
   case first=>
    cases WO
    ·go_wp2_with fail
     go_meet;refine⟨(gT nm y).isSome,y1,OZ.out.succ.succ,by rw[Ue.out.2];exact hyz,Po,fun gp O0=>?_⟩;rw[HQ.out.1,sx nm nu r y y1 y1 false gp HQ.out.2 Pj.out VR.out Xf.out Ue.out.1 (fun h=>by cases h) (fun _=>rfl) (by rw[<-Ue.out.2];exact O0)];simp only[Bool.false_eq_true,if_false,Bool.and_true]
    ·go_wp2_with fail
     refine(P7 nu aaB (w.heap.size+1) y1 w5 (hE.below Po.below) Po.src).mono ?_;rintro e w6 ⟨v2,y2,rfl,pE,Xh,XA,eM⟩;have ZK:=Po.into eM Xh;have f1:=OZ.out.form;have f2:=pE.out.form;clear Po eM Xh;rcases f1 with rfl|⟨t1,q1,rfl⟩<;>rcases f2 with rfl|⟨t2,q2,rfl⟩
     all_goals
      go_wp2_with fail
      refine(HJ w6.heap.size 1 _ _ _ _ _ OZ.out.zero.succ (pE.out.below ((Below.refl _ w6).alloc (Nat.le_refl _) _)) (by simp) (by simp)).mono ?_;rintro e w7 ⟨v3,rfl,IN,ll⟩;have IK:=ZK.call (((Below.refl _ w6).alloc (Nat.le_refl _) _).trans (ll.mono (by simp)));clear ll
      go_wp2_with fail
      go_meet;refine⟨_,y2,IN.out,by rw[XA.out.2,Ue.out.2];exact hyz,IK,fun gp O0=>?_⟩;rw[HQ.out.1];exact sx nm nu r y y1 y2 true gp HQ.out.2 Pj.out VR.out Xf.out Ue.out.1 (fun _=>XA.out.1) (fun h=>by cases h) (by rw[<-Ue.out.2,<-XA.out.2];exact O0)
   case rest=>
    clear Po OZ Ue Xf Pj VR ZQ aaB HQ hyz XZ;obtain⟨gg,y2,IN,acQ,IK,HF⟩:=hcut;have AT:=IK.src;have c7:=AT.cell 7;have f7:=AT.free 7;simp only[ah.cells]at c7
    simp at c7
    have cP:=Ih (fun w=>pV I7 y2.path (by omega) w);generalize jF:Lz.dj Lz.dr y2.path.data.toList=sn at cP;have xE:=Ih jF;clear jF AT;obtain⟨gp,O0⟩:∃gp,gp=(y2.path.data.toList.isEmpty||sn):=⟨_,rfl⟩;have Tv:=Ih O0;clear O0
    go_upto_region 14 with fail
    go_cut [63] (fun s63 wx=>s63=.bool (!gp)/\ij w wx y2/\Hid (ic wx 2 gg u12))
    case first=>
     by_cases Az:0<y2.path.size
     ·have he:=aG Az;have AS:gp=sn:=by rw[Tv.out];rw[Lib.toList_data]at he;rw[he];rfl
      subst AS
      go_wp2_with (go_at_call 211;refine(cP.out _).mono ?_;rintro e w8 ⟨rfl,rfl⟩)
      go_meet;exact⟨rfl,IK,IN⟩
     ·have he:=aN (show y2.path.size=0 by omega);have AS:gp=true:=by rw[Tv.out];rw[Lib.toList_data]at he;rw[he];rfl
      subst AS
      go_wp2_with (go_at_call 211;refine(cP.out _).mono ?_;rintro e w8 ⟨rfl,rfl⟩)
      go_meet;exact⟨rfl,IK,IN⟩
    case rest=>
     clear IK IN c7 f7 cP;obtain⟨rfl,IK,IN⟩:=hcut
     go_upto_if 63 with fail
     go_cut [12] (fun s12 wx=>Y7 s w s12 wx)
     case first=>
      have HG:=HF.out gp (by rw[xE.out,Tv.out]);have HG:=Ih HG;clear HF;cases gp
      ·have f3:=IN.out.form;rcases f3 with rfl|⟨t3,q3,rfl⟩
       all_goals
        go_wp2_with fail
        refine(HJ _ 2 _ false _ (.iface 138 (.string ⟨#[112,97,116,104]⟩)) _ (IN.out.below ((Below.refl _ _).alloc (Nat.le_refl _) _)) (Or.inr ⟨rfl,Or.inl (Or.inl ⟨_,rfl⟩)⟩) (by simp) (by simp)).mono ?_;rintro e w8 ⟨v4,rfl,hv4,OJ⟩;have hH8:=IK.call (((Below.refl _ _).alloc (Nat.le_refl _) _).trans (OJ.mono (by simp)));clear OJ IK IN
        go_wp2_with fail
        go_meet;exact⟨_,y2,hv4.out,hH8,HG.out⟩
      ·go_wp2_with fail
       go_meet;exact⟨gg,y2,IN.out.succ,IK,by have h:=HG.out;rw[Bool.and_true]at h;exact h⟩
     case rest=>
      clear IK IN HF Tv xE;obtain⟨gg,y3,hv4,hH9,HG⟩:=hcut;obtain⟨⟨cs,is,Dq,hR9⟩,hT9,R4⟩:=hH9;have abt:=Ih Dq;have Hv:=Ih hv4;clear Dq;have wG:_=some (Obj.cells #[.int .i64 y3.kind,.string y3.text,.int .i64 y3.bits,.string y3.scheme,.string y3.host,.bool y3.wild,.int .i64 y3.port,.string y3.path] 63 (0,0)):=hT9;clear hT9
      go_wp2_with (first |(refine wpList_load_row rfl 63 _ rfl (w.heap.size+1) rfl 63 _ (0,0) _ wG Tryz.underlying63 rfl nH ?_)|(refine a9 rfl _ _ rfl w.heap.size rfl rfl _ hR9 is ?_))
      refine bodyPost_ret (be (u:=3) rfl _ _ w.heap.size y3 (0,0) rfl (setRow_heap _ _ _ _ _ _ hR9)) rfl ⟨y3,_,rfl,Nt hR9 abt.out _ HG.out hv4.out,below_setRow R4 (Nat.le_refl _) _⟩
theorem fH.up {w:World} {n m:Nat} {v:Value} (Pj:n<=m) (h:fH w n v):fH w m v:=by
 induction Pj with
 | refl=>exact h
 | step _ ih=>exact Or.inl ih
theorem mJ.up {o:Option Lz.Src} {x:ah} {w:World} {n m:Nat} {v:Value} (Pj:n<=m) (h:mJ o x w n v):mJ o x w m v:=by
 cases o with
 | none=>exact fH.up Pj h
 | some y=>exact h
theorem mJ.setRow {o:Option Lz.Src} {x:ah} {w:World} {R:Nat} {cs:Array Value} {t:TypeId} {fr:Nat×Nat} {n:Nat} {v:Value} (hr:w.heap[R]? =some (.cells cs t fr)) (h0:cs[0]? =some (.int .i64 0)) (cells:Array Value) (h:mJ o x w n v):mJ o x (w.setRow R cells) n v:=by
 cases o with
 | none=>exact fH.setRow hr h0 cells h
 | some y=>exact h
theorem xp (s p:List UInt8):(Lib.trimSuffix s p).length<=s.length:=by
 unfold Lib.trimSuffix;split
 ·simp[List.length_take]
 ·exact Nat.le_refl _
theorem iW {w w1:World} {o:Obj} (hb:Below (w.alloc o).heap.size (w.alloc o) w1):w1.heap[w.heap.size]? =some o:=by
 rw[hb.block w.heap.size (by simp)];show(w.heap.push _)[w.heap.size]? =_
 simp
theorem IA {s:ByteArray} (h:0<s.size):s.data.toList.head? =some s[0]:=by
 have:=aB h;cases hl:s.data.toList with
 | nil=>rw[hl]at this;cases this
 | cons a r=>rw[hl]at this;simpa using this
theorem tH {s:ByteArray} (h:0<s.size):s.data.toList.getLast? =some (s[s.size-1]'(by omega)):=by
 rw[List.getLast?_eq_getElem?,ac];exact aB (by omega)
theorem jM (a b:UInt8):((a.toNat:Int)==(b.toNat:Int))=(a==b):=by
 by_cases h:a=b
 ·subst h;simp
 ·have:¬(a.toNat:Int)=b.toNat:=fun e=>h (UInt8.toNat_inj.1 (by omega));rw[beq_eq_false_iff_ne.2 this,beq_eq_false_iff_ne.2 h]
theorem kR (s:ByteArray):(s.extract 1 (s.size-1)).data.toList=(s.data.toList.drop 1).dropLast:=by
 rw[Lib.extract_data,List.dropLast_eq_take,List.length_drop,ac]
theorem J6 (s:ByteArray) (hs:s.size<=1048576) (w:World) (hE:Env w):Calls Tryz.prog 102 #[.string s] w (VP (Lz.a8 s.data.toList) 3 w):=by
 obtain⟨q,hq⟩:∃q,q=Lz.ia s.data.toList:=⟨_,rfl⟩;have Hq:=Ih hq;clear hq;have kN:Below w.heap.size w (w.alloc (.cells #[.int .i64 0,.string ⟨#[]⟩,.int .i64 0,.string ⟨#[]⟩,.string ⟨#[]⟩,.bool false,.int .i64 0,.string ⟨#[]⟩] 63)):=(Below.refl _ w).alloc (Nat.le_refl _) _;have Pt:=hE.below kN;go_enter Tryz.func102,Tryz.ntmps102
 go_upto_region 1 with fail
 go_cut [21] (fun s21 wx=>s21=.bool q/\wx=(w.alloc (.cells #[.int .i64 0,.string ⟨#[]⟩,.int .i64 0,.string ⟨#[]⟩,.string ⟨#[]⟩,.bool false,.int .i64 0,.string ⟨#[]⟩] 63)))
 case first=>
  by_cases h1:1<s.size
  ·have h0:0<s.size:=by omega
   have hl:s.size-1<s.size:=by omega
   have g0:=IA h0;have g1:=tH h0
   have wC:q=((s[0].toNat:Int)==39&&((s[s.size-1].toNat:Int)==39)):=by
    rw[Hq.out];unfold Lz.ia;rw[g0,g1,ac,decide_eq_true h1];have e1:=jM s[0] 39;have e2:=jM (s[s.size-1]'(by omega)) 39;simp only[Bool.true_and];rw[show((39:UInt8).toNat:Int)=39 from rfl]at e1 e2;rw[e1,e2];rfl
   have Oq:=Ih wC;clear wC g0 g1;generalize ha:((s[0].toNat:Int)==39)=a at Oq;generalize hb:((s[s.size-1].toNat:Int)==39)=b at Oq;cases a<;>cases b
   all_goals
    go_wp2_with fail
    all_goals
     go_meet;exact⟨by have h:=Oq.out;subst h;rfl,rfl⟩
  ·have wC:q=false:=by
    rw[Hq.out];unfold Lz.ia;rw[ac,decide_eq_false h1];rfl
   have Oq:=Ih wC;clear wC;have Lp:(s.size:Int)<=1:=by omega
   clear h1
   go_wp2_with fail
   all_goals
    go_meet;exact⟨by have h:=Oq.out;subst h;rfl,rfl⟩
 case rest=>
  obtain⟨rfl,rfl⟩:=hcut;cases q
  ·go_wp2_with fail
   refine(Cw s ⟨#[58]⟩ (by omega) _).mono ?_;rintro e w1 ⟨v,rfl,hv,rfl⟩
   have hvz:v.size<=1048576:=by
    rw[<-ac v,hv.out];exact Nat.le_trans (xp _ _) (by rw[ac];exact hs)
   have cS:=Ih (fun w=>vP v (by omega) w);generalize hsf:Lib.hasSuffix s.data.toList (ByteArray.data ⟨#[58]⟩).toList=sf;have Hsf:=Ih hsf;clear hsf;generalize hsb:Lz.bK v.data.toList=sb at cS;have Sz:=Ih hsb;clear hsb;by_cases aaN:sf=true/\sb=true
   ·obtain⟨rfl,rfl⟩:=aaN
    go_wp2_with fail
    refine(cS.out _).mono ?_;rintro e w1 ⟨rfl,rfl⟩
    go_wp2_with fail
    refine(kp v (by omega) _).mono ?_;rintro e w1 ⟨u,rfl,hu,av⟩;have jq:=iW av;have it:=ae kN av
    go_wp2_with (refine a9 rfl _ _ rfl w.heap.size rfl rfl _ jq rfl ?_)
    refine bodyPost_ret (be (u:=3) rfl _ _ w.heap.size ⟨2,⟨#[]⟩,0,u,⟨#[]⟩,false,-1,⟨#[]⟩⟩ (0,0) rfl (setRow_heap _ _ _ _ _ _ jq)) rfl ⟨_,_,rfl,?_,below_setRow it (Nat.le_refl _) _⟩
    have hp:Lz.a8 s.data.toList=some (Lz.tA (Lz.low v.data.toList)):=by
     unfold Lz.a8;have h1:Lib.hasSuffix s.data.toList [58]=true:=Hsf.out;have h2:v.data.toList=Lib.trimSuffix s.data.toList [58]:=hv.out;rw[<-Hq.out,<-h2,h1,Sz.out];rfl
    rw[hp];exact⟨by unfold ah.src;rw[hu.out];rfl,rfl⟩
   ·have hp:Lz.a8 s.data.toList=Lz.cq s.data.toList:=by
     unfold Lz.a8;have h2:v.data.toList=Lib.trimSuffix s.data.toList [58]:=hv.out;have h1:Lib.hasSuffix s.data.toList [58]=sf:=Hsf.out;rw[<-Hq.out,<-h2,h1,Sz.out];cases sf<;>cases sb<;>simp_all
    have Hp:=Ih hp;have iv:(sf=false)\/(sf=true/\sb=false):=by cases sf<;>cases sb<;>simp_all
    clear aaN hp;rcases iv with rfl|⟨rfl,rfl⟩
    all_goals
     go_wp2_with (first |(go_at_call 148;refine(cS.out _).mono ?_;rintro e w1 ⟨rfl,rfl⟩)|(go_at_call 149;fail))
     refine(Fg s hs _ Pt).mono ?_;rintro e w1 ⟨x,v2,rfl,pE,av⟩;have jq:=iW av;have it:=ae kN av;clear av;obtain⟨k1,t1,b1,jK,Gn,GI,Gs,kd⟩:=x
     go_wp2_with (refine a9 rfl _ _ rfl w.heap.size rfl rfl _ jq rfl ?_)
     refine bodyPost_ret (be (u:=3) rfl _ _ w.heap.size ⟨k1,t1,b1,jK,Gn,GI,Gs,kd⟩ (0,0) rfl (setRow_heap _ _ _ _ _ _ jq)) rfl ⟨_,_,rfl,?_,below_setRow it (Nat.le_refl _) _⟩;rw[Hp.out];exact pE.out.setRow jq rfl _
  ·have h1:1<s.size:=by
    have h:=Hq.out;unfold Lz.ia at h;rw[ac]at h;by_cases h1:1<s.size
    ·exact h1
    ·rw[decide_eq_false h1]at h
     simp at h
   have hz:=aV s 1 (s.size-1);have iE:((s.size:Int)-1)=((s.size-1:Nat):Int):=by omega
   have Hc1:=Ih iE;clear iE
   go_wp2_with fail
   refine(DW (s.extract 1 (s.size-1)) (by omega) _ Pt).mono ?_;rintro e w1 ⟨x,v2,rfl,pE,av⟩;have jq:=iW av;have it:=ae kN av;clear av
   have hp:Lz.a8 s.data.toList=Lz.bS (s.extract 1 (s.size-1)).data.toList:=by
    unfold Lz.a8;rw[<-Hq.out,kR,if_pos rfl]
   have Hp:=Ih hp;clear hp;obtain⟨k1,t1,b1,jK,Gn,GI,Gs,kd⟩:=x
   go_wp2_with (refine a9 rfl _ _ rfl w.heap.size rfl rfl _ jq rfl ?_)
   refine bodyPost_ret (be (u:=3) rfl _ _ w.heap.size ⟨k1,t1,b1,jK,Gn,GI,Gs,kd⟩ (0,0) rfl (setRow_heap _ _ _ _ _ _ jq)) rfl ⟨_,_,rfl,?_,below_setRow it (Nat.le_refl _) _⟩;rw[Hp.out];exact(pE.out.up (Nat.zero_le 3)).setRow jq rfl _
def ie (l:List UInt8):Lz.Src:=(Lz.a8 l).getD ⟨0,[],0,[],[],false,0,[]⟩
def em (l:List UInt8):Int:=if(Lz.a8 l).isSome then 0 else 250
def Fm (l:List UInt8) (w:World) (e:Ending) (w':World):Prop:=
 ∃x:ah,e=.returned (.tuple #[x.val,.int .i64 (em l)])/\Hid (x.src=ie l)/\Below w.heap.size w w'
theorem jt {fn:Func} {p u:Tmp} (h:fn.results= #[.cell p 63,.tmp u]) (tmps:Array Value) (w:World) (g:Nat) (x:ah) (fr:Nat×Nat) (n:Int)
  (hp:tmps.getD p undef=.pointer (some ⟨g,0,none⟩)) (hu:tmps.getD u undef=.int .i64 n) (hg:w.heap[g]? =some (.cells #[.int .i64 x.kind,.string x.text,.int .i64 x.bits,.string x.scheme,.string x.host,.bool x.wild,.int .i64 x.port,.string x.path] 63 fr)):
  (results fn tmps).run Tryz.prog w=.ok (.tuple #[x.val,.int .i64 n]) w:=by
 rw[<-hu];exact be h tmps w g x fr hp hg
theorem xY (s:ByteArray) (hs:s.size<=1048576) (w:World) (hE:Env w):Calls Tryz.prog 60 #[.string s] w (Fm s.data.toList w):=by
 have kN:Below w.heap.size w (w.alloc (.cells #[.int .i64 0,.string ⟨#[]⟩,.int .i64 0,.string ⟨#[]⟩,.string ⟨#[]⟩,.bool false,.int .i64 0,.string ⟨#[]⟩] 63)):=(Below.refl _ w).alloc (Nat.le_refl _) _;have Pt:=hE.below kN;go_enter Tryz.func60,Tryz.ntmps60
 go_wp2_with fail
 refine(J6 s hs _ Pt).mono ?_;rintro e w1 ⟨x,v,rfl,hv,av⟩;have jq:=iW av;have it:=ae kN av;have TM:=hE.below it;clear av;obtain⟨k1,t1,b1,jK,Gn,GI,Gs,kd⟩:=x
 dsimp only[ah.val]
 have nW:∀o1 o2:Obj,((w1.alloc o1).alloc o2).heap[w.heap.size]? =some (.cells #[.int .i64 0,.string ⟨#[]⟩,.int .i64 0,.string ⟨#[]⟩,.string ⟨#[]⟩,.bool false,.int .i64 0,.string ⟨#[]⟩] 63 (0,0)):=fun o1 o2=>by
  have hl:=(Array.getElem?_eq_some_iff.1 jq).1;rw[Below.heap_alloc _ _ _ (by simp;omega),Below.heap_alloc _ _ _ hl];exact jq
 cases hp:Lz.a8 s.data.toList with
 | some y=>
   rw[hp]at hv;obtain⟨hy,rfl⟩:=hv.out;have Hy:=Ih hy;clear hy hv;have HE:Hid (em s.data.toList=0/\ie s.data.toList=y):=by refine⟨?_,?_⟩<;>simp[em,ie,hp]
   clear hp
   go_wp2_with fail
   refine(Vb _ _).mono ?_;rintro e w2 ⟨rfl,rfl⟩
   go_wp2_with (refine a9 rfl _ _ rfl w.heap.size rfl rfl _ (nW _ _) rfl ?_)
   refine bodyPost_ret (jt (u:=3) rfl _ _ w.heap.size ⟨k1,t1,b1,jK,Gn,GI,Gs,kd⟩ (0,0) 0 rfl rfl (setRow_heap _ _ _ _ _ _ (nW _ _))) rfl ⟨⟨k1,t1,b1,jK,Gn,GI,Gs,kd⟩,by rw[HE.out.1],by show _=_;rw[HE.out.2];exact Hy.out,below_setRow ?_ (Nat.le_refl _) _⟩;exact(it.alloc (by have:=it.size;omega) _).alloc (by have:=it.size;simp;omega) _
 | none=>
   rw[hp]at hv;have hB:fH w1 3 v:=hv.out;obtain⟨t0,x0,rfl⟩:=hB.iface;have HE:Hid (em s.data.toList=250/\ie s.data.toList=⟨0,[],0,[],[],false,0,[]⟩):=by refine⟨?_,?_⟩<;>simp[em,ie,hp]
   clear hp hv;have Pe:∀o1 o2:Obj,Below w1.heap.size w1 ((w1.alloc o1).alloc o2):=fun o1 o2=>((Below.refl _ w1).alloc (Nat.le_refl _) _).alloc (by simp) _;have HB:=Ih hB;clear hB
   go_wp2_with fail
   refine(Ro 3 t0 x0 (w1.heap.size+1) (.string ⟨#[]⟩) _ (TM.below (Pe _ _)) (HB.out.below (Pe _ _)) (by simp) (by simp)).mono ?_;rintro e w2 ⟨rfl,aE⟩
   have y7:w2.heap[w.heap.size]? =some (.cells #[.int .i64 0,.string ⟨#[]⟩,.int .i64 0,.string ⟨#[]⟩,.string ⟨#[]⟩,.bool false,.int .i64 0,.string ⟨#[]⟩] 63 (0,0)):=by
    have hl:=(Array.getElem?_eq_some_iff.1 jq).1;rw[aE.block _ (by omega)];exact nW _ _
   have lq:Below w.heap.size w w2:=(it.trans ((Pe _ _).mono it.size)).trans (aE.mono (by have:=it.size;omega));clear aE nW Pe jq
   go_wp2_with (refine a9 rfl _ _ rfl w.heap.size rfl rfl _ y7 rfl ?_)
   refine bodyPost_ret (jt (u:=3) rfl _ _ w.heap.size ⟨0,⟨#[]⟩,0,⟨#[]⟩,⟨#[]⟩,false,0,⟨#[]⟩⟩ (0,0) 250 rfl rfl (setRow_heap _ _ _ _ _ _ y7)) rfl ⟨⟨0,⟨#[]⟩,0,⟨#[]⟩,⟨#[]⟩,false,0,⟨#[]⟩⟩,by rw[HE.out.1],by show _=_;rw[HE.out.2];rfl,below_setRow lq (Nat.le_refl _) _⟩
theorem lv (s:ByteArray) (hs:s.size<=1073741824) (w:World):Calls Tryz.prog 107 #[.string s] w (RB (Lz.bK s.data.toList) w):=by
 have co:=Ih (uu s ⟨#[43,45,46]⟩ hs (by decide) w);generalize ho:Lz.dj (Lz.jm (ByteArray.data ⟨#[43,45,46]⟩).toList) s.data.toList=o at co;by_cases h0:0<s.size
 ·have ci:=Ih (E0 s[0] ⟨#[48,49,50,51,52,53,54,55,56,57,43,45,46]⟩ (by decide) w);generalize hi:Lz.inB (ByteArray.data ⟨#[48,49,50,51,52,53,54,55,56,57,43,45,46]⟩).toList s[0]=i at ci
  have HR:Hid (Lz.bK s.data.toList=(o&& !i)):=by
   show _=_;rw[Lz.Gd s.data.toList s[0] (kq h0),<-ho,<-hi]
  clear ho hi;cases o<;>cases i
  all_goals
   go_enter Tryz.func107,Tryz.ntmps107
   go_wp2_with (first |(go_at_call 159;refine(co.out).mono ?_;rintro e w' ⟨rfl,rfl⟩)|(go_at_call 160;refine(ci.out).mono ?_;rintro e w' ⟨rfl,rfl⟩))
   go_ret;exact iH HR.out
 ·have hn:s.data.toList=[]:=by rw[<-List.length_eq_zero_iff,ac];omega
  have hof:o=false:=by rw[<-ho,hn];rfl
  have HR:Hid (Lz.bK s.data.toList=false):=by show _=_;rw[hn];rfl
  clear ho hn h0;subst hof;go_enter Tryz.func107,Tryz.ntmps107
  go_wp2_with (first |(go_at_call 159;refine(co.out).mono ?_;rintro e w' ⟨rfl,rfl⟩))
  go_ret;exact iH HR.out
theorem Ta {b b':Int} {w:World} (h:b'=b):RI b' w (.returned (.int .i64 b)) w:=⟨by rw[h],rfl⟩
theorem uU (s u:ByteArray) (hs:s.size<=1048576) (hu:u.size<=1048576) (hu0:u.data.toList≠[]) (w:World):Calls Tryz.prog 161 #[.string s,.string u] w (RI (Lib.index s.data.toList u.data.toList) w):=by
 have Hu0:=Ih hu0;clear hu0;go_enter Tryz.func161,Tryz.ntmps161
 go_wp2
 go_loop [5] (fun i=>∃n:Nat,n<=s.size+1/\i=.int .i64 n/\Lib.NoOcc s.data.toList u.data.toList n) (fun i=>s.size+2-(intOf i).toNat)
 case atStart=>exact⟨0,Nat.zero_le _,rfl,Lib.NoOcc.zero _ _⟩
 case round=>
  obtain⟨n,hn,rfl,nx⟩:=hrel;have SB:=Ih nx;clear nx;by_cases aL:(n:Int)+u.size<=s.size
  ·have Ho:=Ih (Lib.occ_of_piece s u n (by omega));generalize hb:((s.extract n (n+u.size)).toList==u.toList)=b at Ho;cases b
   ·go_wp2
    go_round
    case rel=>exact⟨n+1,by omega,by go_num,SB.out.succ Ho.out⟩
    case measure=>simp[intOf];omega
   ·go_wp2
    go_ret;exact Ta (Lib.index_hit SB.out (by rw[ac];omega) Ho.out)
  ·go_wp2
   go_ret;exact Ta (Lib.index_past Hu0.out SB.out (by rw[ac,ac];omega))
theorem Nx (s:ByteArray) (hs:s.size<=1073741824) (w:World):Calls Tryz.prog 162 #[.string s] w (RB (s.data.toList.all Lz.dr) w):=by
 obtain⟨g,hg⟩:∃g:Bool,s.data.toList.all Lz.dr=g:=⟨_,rfl⟩;rw[hg];have Hg:=Ih hg;clear hg;go_enter Tryz.func162,Tryz.ntmps162
 go_wp2
 go_loop [3] (fun i=>∃n:Nat,n<=s.size/\i=.int .i64 n/\(∀j c,j<n->s.data.toList[j]? =some c->Lz.dr c=true)) (fun i=>s.size-(intOf i).toNat)
 case atStart=>exact⟨0,Nat.zero_le _,rfl,fun j c h=>by omega⟩
 case round=>
  obtain⟨n,hn,rfl,dY⟩:=hrel;have gi:=Ih dY;clear dY;by_cases aL:n<s.size
  ·have np:=Ih (kq aL);have jF:=Lz.LU s[n];have ci:=Ih (E0 s[n] ⟨#[63,35,59,44,34,60,62,92,94,96,123,124,125]⟩ (by decide) w);generalize hi:Lz.inB (ByteArray.data ⟨#[63,35,59,44,34,60,62,92,94,96,123,124,125]⟩).toList s[n]=i at ci;have Ln:Lz.inB [63,35,59,44,34,60,62,92,94,96,123,124,125] s[n]=i:=hi;rw[Ln]at jF;clear hi Ln
   have qK:Lz.dr s[n]=false->g=false:=fun h=>by
    rw[<-Hg.out,List.all_eq_false];exact⟨s[n],List.mem_of_getElem? np.out,by simp[h]⟩
   have Dv:=Ih qK;clear qK;by_cases h1:33<=(s[n].toNat:Int)
   ·by_cases h2:(s[n].toNat:Int)<=126
    ·rw[decide_eq_true h1,decide_eq_true h2]at jF;have xE:=Ih jF;clear jF;cases i
     ·go_wp2_with (first |(go_at_call 160;refine(ci.out).mono ?_;rintro e w' ⟨rfl,rfl⟩))
      go_round
      case rel=>exact⟨n+1,by omega,by go_num,fun j c hj hc=>by
       by_cases xA:j<n
       ·exact gi.out j c xA hc
       ·obtain rfl:j=n:=by omega
        rw[np.out]at hc;obtain rfl:=Option.some.inj hc;exact xE.out⟩
      case measure=>simp[intOf];omega
     ·go_wp2_with (first |(go_at_call 160;refine(ci.out).mono ?_;rintro e w' ⟨rfl,rfl⟩))
      go_ret;exact iH (Dv.out xE.out)
    ·rw[decide_eq_false h2]at jF;have xE:=Ih (show Lz.dr s[n]=false by rw[jF];simp);have GG:126<(s[n].toNat:Int):=by omega
     clear jF h2
     go_wp2
     go_ret;exact iH (Dv.out xE.out)
   ·rw[decide_eq_false h1]at jF;have xE:=Ih (show Lz.dr s[n]=false by rw[jF];simp);have Lp:(s[n].toNat:Int)<33:=by omega
    clear jF h1
    go_wp2
    go_ret;exact iH (Dv.out xE.out)
  ·have HT:Hid (g=true):=by
    show _=_;rw[<-Hg.out,List.all_eq_true];intro c hc;obtain⟨j,hj⟩:=List.getElem?_of_mem hc;exact gi.out j c (by have:=(List.getElem?_eq_some_iff.1 hj).1;rw[ac]at this;omega) hj
   go_wp2
   go_ret;exact iH HT.out
theorem zL (s:ByteArray) (hs:s.size<=1073741824) (w:World):Calls Tryz.prog 164 #[.string s] w (RB (Lz.eF s.data.toList) w):=by
 have hg:=Lz.FU s.data.toList;generalize Lz.eF s.data.toList=g at hg⊢;have Hg:=Ih hg;clear hg;go_enter Tryz.func164,Tryz.ntmps164
 go_wp2
 go_loop [3,4] (fun f i=>∃a b:Nat,a<=b/\b<=s.size+1/\(b=s.size+1->a=b)/\f=.int .i64 a/\i=.int .i64 b/\Hid (Lz.NoC 46 s.data.toList a b)/\Hid (b<=s.size->g=Lz.gO s.data.toList a)/\Hid (b=s.size+1->g=true)) (fun _ i=>s.size+1-(intOf i).toNat)
 case atStart=>exact⟨0,0,Nat.le_refl _,Nat.zero_le _,(fun h=>by omega),rfl,rfl,(fun j h1 h2=>by omega),(fun _=>Hg.out),(fun h=>by omega)⟩
 case round=>
  obtain⟨a,b,AQ,hb,hx,rfl,rfl,nx,IR,qI⟩:=hrel;have Hx:=Ih hx;clear hx;by_cases aL:(b:Int)<=s.size
  ·have Hgo:=Ih (IR.out (by omega));clear IR qI;have hz:=bg s a b;have co:=Ih (uu (s.extract a b) ⟨#[45]⟩ (by omega) (by decide) w);generalize ho:Lz.dj (Lz.jm (ByteArray.data ⟨#[45]⟩).toList) (s.extract a b).data.toList=o at co
   have ho':Lz.dj Lz.fI ((s.data.toList.drop a).take (b-a))=o:=by
    rw[<-ho,Lib.extract_data];exact(Lz.oV Lz.JM _).symm
   have Ho:=Ih ho';clear ho ho' hz;by_cases TV:b<s.size
   ·have np:=Ih (kq TV);have du:((b:Int)==(s.size:Int))=false:=beq_eq_false_iff_ne.2 (by omega);by_cases hd:s[b]=46
    ·have hq:((s[b].toNat:Int)==46)=true:=(tT s[b] 46).trans (by simpa using hd);have Hd:=Ih hd;clear hd;have Hs:=Ih (Lz.FS AQ nx.out (by rw[np.out,Hd.out]));cases o
     ·go_wp2_with (first |(go_at_call 159;(with_reducible refine(co.out).mono ?_);rintro e w' ⟨rfl,rfl⟩))
      go_ret;exact iH (by rw[Hgo.out,Hs.out,Ho.out];rfl)
     ·go_wp2_with (first |(go_at_call 159;(with_reducible refine(co.out).mono ?_);rintro e w' ⟨rfl,rfl⟩))
      go_round
      case rel=>exact⟨b+1,b+1,by omega,by omega,(fun _=>rfl),by go_num,by go_num,(fun j h1 h2=>by omega),(fun _=>by rw[Hgo.out,Hs.out,Ho.out];rfl),(fun h=>by omega)⟩
      case measure=>simp[intOf];omega
    ·have hq:((s[b].toNat:Int)==46)=false:=(tT s[b] 46).trans (by simpa using hd);have Hd:=Ih hd;clear hd
     go_wp2
     go_round
     case rel=>exact⟨a,b+1,by omega,by omega,(fun h=>by omega),rfl,by go_num,(fun j h1 h2=>by
      by_cases hjb:j<b
      ·exact nx.out j h1 hjb
      ·obtain rfl:j=b:=by omega
       rw[np.out];intro h;exact Hd.out (Option.some.inj h)),(fun _=>Hgo.out),(fun h=>by omega)⟩
     case measure=>simp[intOf];omega
   ·have pF:((b:Int)==(s.size:Int))=true:=beq_iff_eq.2 (by omega);have Hbs:=Ih (show b=s.size by omega);have hd:(s.data.toList.drop a).take (b-a)=s.data.toList.drop a:=List.take_of_length_le (by rw[List.length_drop,ac,<-Hbs.out];exact Nat.le_refl _)
    have HR:Hid (g=o):=by
     show _=_;rw[Hgo.out,Lz.JB (by rw[ac,<-Hbs.out];exact nx.out),<-Ho.out,hd]
    clear hd;cases o
    ·go_wp2_with (first |(go_at_call 159;(with_reducible refine(co.out).mono ?_);rintro e w' ⟨rfl,rfl⟩))
     go_ret;exact iH HR.out
    ·go_wp2_with (first |(go_at_call 159;(with_reducible refine(co.out).mono ?_);rintro e w' ⟨rfl,rfl⟩))
     go_round
     case rel=>exact⟨b+1,b+1,by omega,by omega,(fun _=>rfl),by go_num,by go_num,(fun j h1 h2=>by omega),(fun h=>by omega),(fun _=>HR.out)⟩
     case measure=>simp[intOf];omega
  ·have HR:=Ih (qI.out (by omega));clear IR qI
   go_wp2
   go_ret;exact iH HR.out
def Zc (o:Option Int) (w:World) (e:Ending) (w':World):Prop:=∃n:Int,e=.returned (.tuple #[.int .i64 n,.bool o.isSome])/\Hid (∀m,o=some m->n=m)/\w=w'
theorem UF (c:UInt8):Lz.aQ c=(decide (48<=(c.toNat:Int))&&decide ((c.toNat:Int)<=57)):=by
 revert c;exact Lz.aA (by decide +kernel)
theorem FY (s:ByteArray) (hs:s.size<=1073741824) (w:World):Calls Tryz.prog 163 #[.string s] w (Zc (Lz.eA s.data.toList) w):=by
 by_cases eL:s.data.toList=[42]
 ·have hst:(s.toList==[42])=true:=by rw[Lib.toList_data,eL];rfl
  have HR:Hid (Lz.eA s.data.toList=some (-2)):=by show _=_;unfold Lz.eA;rw[if_pos eL]
  clear eL;go_enter Tryz.func163,Tryz.ntmps163
  go_wp2
  go_ret2
  refine⟨_,by rw[HR.out];rfl,?_,rfl⟩;show ∀m,_;intro m hm;rw[HR.out]at hm;exact Option.some.inj hm
 ·have hst:(s.toList==[42])=false:=by rw[Lib.toList_data];simpa using eL
  have Hs:=Ih eL;clear eL;go_enter Tryz.func163,Tryz.ntmps163
  go_wp2
  go_loop [4,5] (fun v i=>∃k:Nat,k<=s.size/\i=.int .i64 k/\v=.int .i64 (Lz.capV (s.data.toList.take k))/\(∀(j:Nat) c,j<k->s.data.toList[j]? =some c->Lz.aQ c=true)) (fun _ i=>s.size-(intOf i).toNat)
  case atStart=>exact⟨0,Nat.zero_le _,rfl,rfl,fun j c h=>by omega⟩
  case round=>
   obtain⟨k,hk,rfl,rfl,dY⟩:=hrel;have gi:=Ih dY;clear dY;have wB:=Lz.P3 (s.data.toList.take k);by_cases aL:k<s.size
   ·have np:=Ih (kq aL);have jF:=UF s[k]
    have qK:Lz.aQ s[k]=false->Lz.eA s.data.toList=none:=fun h=>by
     refine Lz.yV Hs.out ?_;unfold Lz.dj
     have:s.data.toList.all Lz.aQ=false:=by
      rw[List.all_eq_false];exact⟨s[k],List.mem_of_getElem? np.out,by simp[h]⟩
     rw[this];rfl
    have Dv:=Ih qK;clear qK;have acz:=ff s[k];by_cases h1:48<=(s[k].toNat:Int)
    ·by_cases h2:(s[k].toNat:Int)<=57
     ·rw[decide_eq_true h1,decide_eq_true h2]at jF;have xE:=Ih jF;clear jF;have iF:=Lz.yC (s.data.toList.take k) s[k];rw[show s.data.toList.take k++[s[k]]=s.data.toList.take (k+1) by rw[List.take_succ_eq_append_getElem (by rw[ac];exact aL)];rfl]at iF;have Hcs:=Ih iF;clear iF
      go_wp2
      go_round
      case rel=>exact⟨k+1,by omega,by go_num,by rw[Hcs.out];go_num,fun j c hj hc=>by
       by_cases xA:j<k
       ·exact gi.out j c xA hc
       ·obtain rfl:j=k:=by omega
        rw[np.out]at hc;obtain rfl:=Option.some.inj hc;exact xE.out⟩
      case measure=>simp[intOf];omega
     ·rw[decide_eq_false h2]at jF;have xE:=Ih (show Lz.aQ s[k]=false by rw[jF];simp);have GG:57<(s[k].toNat:Int):=by omega
      clear jF h2
      go_wp2
      go_ret2
      refine⟨_,by rw[Dv.out xE.out];rfl,?_,rfl⟩;show ∀m,_;intro m hm;rw[Dv.out xE.out]at hm;cases hm
    ·rw[decide_eq_false h1]at jF;have xE:=Ih (show Lz.aQ s[k]=false by rw[jF];simp);have Lp:(s[k].toNat:Int)<48:=by omega
     clear jF h1
     go_wp2
     go_ret2
     refine⟨_,by rw[Dv.out xE.out];rfl,?_,rfl⟩;show ∀m,_;intro m hm;rw[Dv.out xE.out]at hm;cases hm
   ·have Lf:s.data.toList.take k=s.data.toList:=List.take_of_length_le (by rw[ac];omega);rw[Lf]at wB⊢;clear Lf;by_cases h0:0<s.size
    ·have du:s.toList.isEmpty=false:=by
      rw[Lib.toList_data];cases hl:s.data.toList with
      | nil=>rw[<-ac,hl]at h0;simp at h0
      | cons _ _=>rfl
     have hd:Lz.dj Lz.aQ s.data.toList=true:=by
      unfold Lz.dj;rw[Lib.toList_data]at du;rw[du,List.all_eq_true.2]
      ·rfl
      ·intro c hc;obtain⟨j,hj⟩:=List.getElem?_of_mem hc;exact gi.out j c (by have:=(List.getElem?_eq_some_iff.1 hj).1;rw[ac]at this;omega) hj
     have HP:=Ih (Lz.C5 hd);clear hd;generalize Lz.capV s.data.toList=cv at HP wB⊢;by_cases hc:cv<=65535
     ·have HQ:Hid (Lz.eA s.data.toList=some (cv:Int)):=by show _=_;rw[HP.out,if_pos hc]
      have AN:(cv:Int)<=65535:=by omega
      go_wp2
      go_ret2
      refine⟨_,by rw[HQ.out];rfl,?_,rfl⟩;show ∀m,_;intro m hm;rw[HQ.out]at hm;exact Option.some.inj hm
     ·have HQ:Hid (Lz.eA s.data.toList=none):=by show _=_;rw[HP.out,if_neg hc]
      have AN:decide ((cv:Int)<=65535)=false:=by simp;omega
      have sO:65535<(cv:Int):=by omega
      go_wp2
      go_ret2
      refine⟨_,by rw[HQ.out];rfl,?_,rfl⟩;show ∀m,_;intro m hm;rw[HQ.out]at hm;cases hm
    ·have hl:s.data.toList=[]:=by rw[<-List.length_eq_zero_iff,ac];omega
     have du:s.toList.isEmpty=true:=by rw[Lib.toList_data,hl];rfl
     have HQ:Hid (Lz.eA s.data.toList=none):=by
      show _=_;exact Lz.yV Hs.out (by rw[hl];rfl)
     clear hl
     go_wp2
     go_ret2
     refine⟨_,by rw[HQ.out];rfl,?_,rfl⟩;show ∀m,_;intro m hm;rw[HQ.out]at hm;cases hm
theorem Uu (c:UInt8):((Lz.low1 c).toNat:Int)=if 65<=(c.toNat:Int)/\(c.toNat:Int)<=90 then(c.toNat:Int)+32 else c.toNat:=by
 revert c
 exact Lz.aA (by decide +kernel)
theorem BO (s:ByteArray) (hs:s.size<=140737488355328) (w:World):Calls Tryz.prog 61 #[.string s] w fun e w'=>e=.returned (.string ⟨(Lz.low s.data.toList).toArray⟩)/\Below w.heap.size w w':=by
 obtain⟨i0,hi,eZ,d9,eo⟩:=info_parts Tryz.infoU8;go_enter Tryz.func61,Tryz.ntmps61
 go_wp2
 go_loopw [3,4] (fun v i wr=>∃k:Nat,k<=s.size/\i=.int .i64 k/\wr.ownsRow w.heap.size 5 1 v k (u8s (Lz.low (s.data.toList.take k)))/\Below w.heap.size w wr) (fun _ i _=>s.size-(intOf i).toNat)
 case atStart=>exact⟨0,Nat.zero_le _,rfl,World.ownsRow_nil _ _ _ _,Below.refl _ _⟩
 case round=>
  obtain⟨k,hk,rfl,ai,hb⟩:=hrel;have bi:=Ih ai;have fu:=hb.size;by_cases aL:k<s.size
  ·have hc:=ff s[k];have hl:=Uu s[k]
   have hst:u8s (Lz.low (s.data.toList.take k))++[.int .u8 ((Lz.low1 s[k]).toNat:Int)]=u8s (Lz.low (s.data.toList.take (k+1))):=by
    rw[vE,List.take_succ_eq_append_getElem (by rw[ac];exact aL)]
    simp[Lz.low]
    rfl
   have iA:=Ih hst;clear hst ai;by_cases Xv:65<=(s[k].toNat:Int)/\(s[k].toNat:Int)<=90
   ·rw[if_pos Xv]at hl;obtain⟨h1,h2⟩:=Xv;have Hl:=Ih hl;clear hl
    go_wp2_with (at_builtin;refine wpList_append_own _ rfl (.tmp 23) (.tmp 25) 93 rfl w.heap.size 5 i0 (.int .u8 0) 1 1 Tryz.underlying93 hi eZ d9 eo rfl (by decide) _ _ _ rfl (bi.out.alloc _) ⟨wr.heap.size,0,none⟩ 1 1 [.int .u8 ((s[k].toNat:Int)+32)] rfl rfl (aJ _ _ _) (by simp[Value.oneCell']) (by unfold maxLen;omega) (by omega) (by simp;omega) ?_)
    intro v' w1 aS bp _;have av:=Below.grown1 hb bi.out bp fu (Nat.le_refl _);rw[<-Hl.out,iA.out]at aS;have ir:=Ih aS;clear aS bp iA Hl hb
    go_wp2
    go_roundw
    case rel=>exact⟨k+1,by omega,by go_num,ir.out,av⟩
    case measure=>simp[intOf];omega
   ·rw[if_neg Xv]at hl;have iv:(s[k].toNat:Int)<65\/(65<=(s[k].toNat:Int)/\90<(s[k].toNat:Int)):=by omega
    have Hl:=Ih hl;clear hl Xv;rcases iv with h1|⟨h1,h2⟩
    all_goals
     go_wp2_with (at_builtin;refine wpList_append_own _ rfl (.tmp 23) (.tmp 25) 93 rfl w.heap.size 5 i0 (.int .u8 0) 1 1 Tryz.underlying93 hi eZ d9 eo rfl (by decide) _ _ _ rfl (bi.out.alloc _) ⟨wr.heap.size,0,none⟩ 1 1 [.int .u8 (s[k].toNat:Int)] rfl rfl (aJ _ _ _) (by simp[Value.oneCell']) (by unfold maxLen;omega) (by omega) (by simp;omega) ?_)
     intro v' w1 aS bp _;have av:=Below.grown1 hb bi.out bp fu (Nat.le_refl _);rw[<-Hl.out,iA.out]at aS;have ir:=Ih aS;clear aS bp iA Hl hb
     go_wp2
     go_roundw
     case rel=>exact⟨k+1,by omega,by go_num,ir.out,av⟩
     case measure=>simp[intOf];omega
  ·have kL:=kW ai;rw[List.take_of_length_le (by rw[ac];omega)]at kL;clear ai bi
   go_wp2
   go_ret;exact⟨rfl,hb⟩
theorem jI (s:ByteArray) (hs:s.size<=140737488355328) (w:World):Calls Tryz.prog 61 #[.string s] w fun e w'=>∃u:ByteArray,e=.returned (.string u)/\Hid (u.data.toList=Lz.low s.data.toList)/\Below w.heap.size w w':=
 (BO s hs w).mono fun _ _ ⟨he,hb⟩=>⟨_,he,rfl,hb⟩
def Qm (s h:ByteArray) (w:World) (e:Ending) (w':World):Prop:=
 ∃u:ByteArray,e=.returned (.tuple #[.string u,.bool (Lib.hasPrefix (Lz.low s.data.toList) h.data.toList)])/\Hid (Lib.hasPrefix (Lz.low s.data.toList) h.data.toList=true->u.data.toList=s.data.toList.drop h.size)/\u.size<=s.size/\Below w.heap.size w w'
theorem uO (s h:ByteArray) (hs:s.size<=1073741824) (w:World):Calls Tryz.prog 157 #[.string s,.string h] w (Qm s h w):=by
 by_cases aL:(s.size:Int)<h.size
 ·have hp:Lib.hasPrefix (Lz.low s.data.toList) h.data.toList=false:=Lz.lP (by rw[Lz.pJ,ac,ac];omega);have Hp:=Ih hp;clear hp;go_enter Tryz.func157,Tryz.ntmps157
  go_wp2
  go_ret2
  exact⟨_,by rw[Hp.out];rfl,Ih (fun e=>by rw[Hp.out]at e;cases e),Nat.zero_le _,Below.refl _ _⟩
 ·have hz:=bg s 0 h.size;have cl:=Ih (jI (s.extract 0 h.size) (by omega) w);clear hz;have AS:(h.size:Int)<=s.size:=by omega
  clear aL;go_enter Tryz.func157,Tryz.ntmps157
  go_wp2_with fail
  refine(cl.out).mono ?_;rintro e w1 ⟨u,rfl,hu,av⟩
  have hq:(u.toList==h.toList)=Lib.hasPrefix (Lz.low s.data.toList) h.data.toList:=by
   rw[Lib.toList_data,Lib.toList_data,hu.out,oF,Lz.NF,<-ac];exact Lz.take_prefix _ _
  have jr:(u.toList != h.toList)= !Lib.hasPrefix (Lz.low s.data.toList) h.data.toList:=by rw[<-hq];rfl
  clear hu cl;generalize hp:Lib.hasPrefix (Lz.low s.data.toList) h.data.toList=p at hq jr;have Hp:=Ih hp;clear hp;cases p
  ·go_wp2
   go_ret2
   exact⟨_,by rw[Hp.out];rfl,Ih (fun e=>by rw[Hp.out]at e;cases e),Nat.zero_le _,av⟩
  ·go_wp2
   go_ret2
   exact⟨_,by rw[Hp.out];rfl,Ih (fun _=>bN _ _),bg _ _ _,av⟩
end Go.Proofs.YtibcmemcfjhgmaaGreatDoor
namespace Lz
open Go
theorem abl (x:UInt64):x<<<8=x*256:=by
 apply UInt64.toNat_inj.1
 rw[UInt64.toNat_shiftLeft,UInt64.toNat_mul,Nat.shiftLeft_eq];rfl
theorem JS (x:UInt64) (y:UInt8):(x<<<8)||| y.toUInt64=x*256+y.toUInt64:=by
 rw[abl];have hy:=y.toNat_lt;have hx:=x.toNat_lt;have ey:y.toUInt64.toNat=y.toNat:=rfl;have ex:(x*256).toNat=x.toNat*256%2^64:=UInt64.toNat_mul _ _
 have e:(x*256).toNat||| y.toUInt64.toNat=(x*256).toNat+y.toUInt64.toNat:=by
  obtain⟨q,hq⟩:∃q,(x*256).toNat=q<<<8:=⟨(x*256).toNat / 2^8,by rw[Nat.shiftLeft_eq,ex];omega⟩;rw[hq,Nat.shiftLeft_add_eq_or_of_lt (by rw[ey];exact hy)]
 apply UInt64.toNat_inj.1
 rw[UInt64.toNat_add,UInt64.toNat_or,e,Nat.mod_eq_of_lt];rw[ex,ey];omega
def iY (b:Bs) (i:Nat):Nat->UInt64
 | 0=>0
 | k+1=>iY b i k*256+(b.getD (8*i+k) 0).toUInt64
theorem uX (b:Bs) (i:Nat):∀k,iY b i k=gG b i k
 | 0=>rfl
 | k+1=>by rw[iY,gG,uX b i k,JS]
def az (b:Bs):Nat->List UInt64
 | 0=>[]
 | i+1=>az b i++[if i<16 then iY b i 8 else(((az b i).getD (i-16) 0+((aU ((az b i).getD (i-15) 0) 1 ^^^ aU ((az b i).getD (i-15) 0) 8) ^^^ ((az b i).getD (i-15) 0>>>7)))+(az b i).getD (i-7) 0)+((aU ((az b i).getD (i-2) 0) 19 ^^^ aU ((az b i).getD (i-2) 0) 61) ^^^ ((az b i).getD (i-2) 0>>>6))]
theorem fL (b:Bs):∀i,(az b i).length=i
 | 0=>rfl
 | i+1=>by rw[az,List.length_append,fL b i];rfl
theorem sG (b:Bs) (k:Nat):∀i,k<i->(az b (i+1)).getD k 0=(az b i).getD k 0:=fun i h=>by
 rw[az,List.getD_eq_getElem?_getD,List.getElem?_append_left (by rw[fL];exact h),List.getD_eq_getElem?_getD]
theorem pM (b:Bs) (k i:Nat) (hk:k<i):∀n,(az b (i+n)).getD k 0=(az b i).getD k 0
 | 0=>rfl
 | n+1=>by rw[<-Nat.add_assoc,sG b k (i+n) (by omega),pM b k i hk n]
theorem Bg (b:Bs) (k:Nat):(az b (k+1)).getD k 0=if k<16 then iY b k 8 else(((az b k).getD (k-16) 0+((aU ((az b k).getD (k-15) 0) 1 ^^^ aU ((az b k).getD (k-15) 0) 8) ^^^ ((az b k).getD (k-15) 0>>>7)))+(az b k).getD (k-7) 0)+((aU ((az b k).getD (k-2) 0) 19 ^^^ aU ((az b k).getD (k-2) 0) 61) ^^^ ((az b k).getD (k-2) 0>>>6)):=by
 rw[az,List.getD_eq_getElem?_getD,List.getElem?_append_right (by rw[fL];exact Nat.le_refl _),fL,Nat.sub_self];rfl
theorem NK (b:Bs) (k:Nat):(bt b (k+1)).getD (k%16) 0=if k<16 then gG b k 8 else(bt b k).getD (k%16) 0+((cm ((bt b k).getD ((k+1)%16) 0) 1 8 7 false+(bt b k).getD ((k+9)%16) 0)+cm ((bt b k).getD ((k+14)%16) 0) 19 61 6 false):=by
 have hl:k%16<(bt b k).length:=by rw[fJ];omega
 rw[bt,List.getD_eq_getElem?_getD,List.getElem?_set_self hl,Option.getD_some]
theorem nS (b:Bs):∀i k,k<i->i<=k+16->(bt b i).getD (k%16) 0=(az b i).getD k 0
 | 0,k,h,_=>by omega
 | i+1,k,h,h2=>by
   by_cases hk:k=i
   ·subst hk;rw[NK,Bg];by_cases tN:k<16
    ·rw[if_pos tN,if_pos tN,uX]
    ·rw[if_neg tN,if_neg tN];have e16:k%16=(k-16)%16:=by omega
     have e15:(k+1)%16=(k-15)%16:=by omega
     have e7:(k+9)%16=(k-7)%16:=by omega
     have e2:(k+14)%16=(k-2)%16:=by omega
     rw[e15,e7,e2,show(bt b k).getD (k%16) 0=(az b k).getD (k-16) 0 by rw[e16];exact nS b k (k-16) (by omega) (by omega),nS b k (k-15) (by omega) (by omega),nS b k (k-7) (by omega) (by omega),nS b k (k-2) (by omega) (by omega)];unfold cm;rw[if_neg (by decide),if_neg (by decide),<-UInt64.add_assoc,<-UInt64.add_assoc]
   ·have cf:k<i:=by omega
    rw[sG b k i cf,<-nS b i k cf (by omega),bt,List.getD_eq_getElem?_getD,List.getElem?_set_ne (by omega),List.getD_eq_getElem?_getD]
def Jm (s:St8 UInt64) (k w:UInt64):UInt64:=(((s.z+((aU s.e 14 ^^^ aU s.e 18) ^^^ aU s.e 41))+((s.e&&& s.f) ^^^ ((~~~s.e)&&& s.g)))+k)+w
def N6 (s:St8 UInt64):UInt64:=((aU s.a 28 ^^^ aU s.a 34) ^^^ aU s.a 39)+(((s.a&&& s.b) ^^^ (s.a&&& s.c)) ^^^ (s.b&&& s.c))
theorem PY (s:St8 UInt64) (k w:UInt64):Jm s k w=If s k w:=by unfold Jm If cm;rw[aaS,if_pos rfl]
theorem P2 (s:St8 UInt64):N6 s=LH s:=by unfold N6 LH cm;rw[Zr,if_pos rfl]
def eD (aP:List UInt64) (b:Bs) (h:St8 UInt64):Nat->St8 UInt64
 | 0=>h
 | i+1=>⟨Jm (eD aP b h i) (aP.getD i 0) ((az b 80).getD i 0)+N6 (eD aP b h i),(eD aP b h i).a,(eD aP b h i).b,(eD aP b h i).c,(eD aP b h i).d+Jm (eD aP b h i) (aP.getD i 0) ((az b 80).getD i 0),(eD aP b h i).e,(eD aP b h i).f,(eD aP b h i).g⟩
theorem vh (aP:List UInt64) (b:Bs) (h:St8 UInt64):∀i,i<=80->eD aP b h i=i7 aP b h i
 | 0,_=>rfl
 | i+1,hi=>by
   have e:(az b 80).getD i 0=(bt b (i+1)).getD (i%16) 0:=by
    rw[nS b (i+1) i (by omega) (by omega)];obtain⟨n,hn⟩:∃n,80=i+1+n:=⟨79-i,by omega⟩;rw[hn,pM b i (i+1) (by omega) n]
   rw[eD,i7,vh aP b h i (by omega),PY,P2,e];rfl
def sH (aP:List UInt64) (h:St8 UInt64) (b:Bs):St8 UInt64:=xc h (eD aP b h 80)
theorem MS (aP:List UInt64):sH aP=kH aP:=by funext h b;unfold sH kH;rw[vh aP b h 80 (by decide)]
end Lz
