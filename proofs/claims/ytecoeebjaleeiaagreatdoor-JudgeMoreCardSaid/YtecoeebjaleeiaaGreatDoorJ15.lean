/-
  Plain laws on lists of bytes: which errors reading a URL answers.
-/
import Derived.Test.YtecoeebjaleeiaaGreatDoorJ12
import Derived.Test.YtecoeebjaleeiaaGreatDoorJ14
import Derived.Lib.RuneCountTail
import Derived.Shelf.Spec.DecodeLastRune8
import Derived.Lib.TrimAscii
import Derived.Lib.AppendZeros
set_option maxHeartbeats 4000000
set_option maxRecDepth 100000
namespace Go.Proofs.YtecoeebjaleeiaaGreatDoor
open Go.RowKit
theorem Rl (g:Nat) (w:World) (h0:w.cell? ⟨g,0,none⟩=some .nilIface) (h1:w.cell? ⟨g,1,none⟩=some .nilIface):
  Calls Tryz.prog 218 #[.slice (some ⟨g,0,none⟩) 2 2] w fun e w'=>e=.returned .nilIface/\w=w':=by
 go_enter Tryz.func218,Tryz.ntmps218
 go_wp2
 refine wp_loop_rounds 3 ?_;rw[rounds_succ]
 go_wp2
 rw[rounds_succ]
 go_wp2
 rw[rounds_succ]
 go_wp2
 go_ret;exact⟨rfl,rfl⟩
def IQ (v0:Value) (w:World) (e:Ending) (w':World):Prop:=
 ∃(p g len cap:Nat),e=.returned (.iface 314 (.pointer (some ⟨p,0,none⟩)))/\p<w'.heap.size/\g<w'.heap.size/\w'.cell? ⟨p,0,none⟩=some (.slice (some ⟨g,0,none⟩) len cap)/\1<=len/\len<=2/\
  w'.cell? ⟨g,0,none⟩=some v0/\Below w.heap.size w w'
theorem RU (g:Nat) (t:TypeId) (v:Value) (w:World) (h0:w.cell? ⟨g,0,none⟩=some .nilIface) (h1:w.cell? ⟨g,1,none⟩=some (.iface t v)):
  Calls Tryz.prog 218 #[.slice (some ⟨g,0,none⟩) 2 2] w (IQ (.iface t v) w):=by
 have hg:g<w.heap.size:=World.block_lt_of_cell? _ _ h0
 have f3:∀(k:Nat) (v:Value) (o1 o2 o3:Obj),w.cell? ⟨g,k,none⟩=some v->(((w.alloc o1).alloc o2).alloc o3).cell? ⟨g,k,none⟩=some v:=fun k v o1 o2 o3 h=>by
  rw[World.cell?_alloc_lt _ _ ⟨g,k,none⟩ (by simp;omega),World.cell?_alloc_lt _ _ ⟨g,k,none⟩ (by simp;omega),World.cell?_alloc_lt _ _ ⟨g,k,none⟩ hg];exact h
 have f30:=fun o1 o2 o3=>f3 0 _ o1 o2 o3 h0;have f31:=fun o1 o2 o3=>f3 1 _ o1 o2 o3 h1;clear f3;have lp:∀w,(Instr.makeSlice 171 (.int .i64 0) (.int .i64 1)).run Tryz.prog w=.ok (.slice (some ⟨w.heap.size,0,none⟩) 0 1) (w.alloc (.cells #[.nilIface] 54)):=fun _=>by kernel_rfl
 go_enter Tryz.func218,Tryz.ntmps218
 go_wp2
 refine wp_loop_rounds 3 ?_;rw[rounds_succ]
 go_wp2
 rw[rounds_succ]
 go_wp2
 rw[rounds_succ]
 go_wp2
 refine wp_loop_rounds 3 ?_;rw[rounds_succ]
 go_wp2
 rw[rounds_succ]
 go_wp2
 rw[rounds_succ]
 go_wp2
 go_ret;refine⟨w.heap.size+1,w.heap.size,1,1,rfl,by simp;try omega,by simp;try omega,by go_simp,by decide,by decide,by go_simp,?_⟩
 repeat (first |exact Below.refl _ _|refine Below.alloc ?_ (by simp;try omega) _)
theorem IZ (g:Nat) (t:TypeId) (v:Value) (w:World) (h0:w.cell? ⟨g,0,none⟩=some (.iface t v)) (h1:w.cell? ⟨g,1,none⟩=some .nilIface):
  Calls Tryz.prog 218 #[.slice (some ⟨g,0,none⟩) 2 2] w (IQ (.iface t v) w):=by
 have hg:g<w.heap.size:=World.block_lt_of_cell? _ _ h0
 have f3:∀(k:Nat) (v:Value) (o1 o2 o3:Obj),w.cell? ⟨g,k,none⟩=some v->(((w.alloc o1).alloc o2).alloc o3).cell? ⟨g,k,none⟩=some v:=fun k v o1 o2 o3 h=>by
  rw[World.cell?_alloc_lt _ _ ⟨g,k,none⟩ (by simp;omega),World.cell?_alloc_lt _ _ ⟨g,k,none⟩ (by simp;omega),World.cell?_alloc_lt _ _ ⟨g,k,none⟩ hg];exact h
 have f30:=fun o1 o2 o3=>f3 0 _ o1 o2 o3 h0;have f31:=fun o1 o2 o3=>f3 1 _ o1 o2 o3 h1;clear f3;have lp:∀w,(Instr.makeSlice 171 (.int .i64 0) (.int .i64 1)).run Tryz.prog w=.ok (.slice (some ⟨w.heap.size,0,none⟩) 0 1) (w.alloc (.cells #[.nilIface] 54)):=fun _=>by kernel_rfl
 go_enter Tryz.func218,Tryz.ntmps218
 go_wp2
 refine wp_loop_rounds 3 ?_;rw[rounds_succ]
 go_wp2
 rw[rounds_succ]
 go_wp2
 rw[rounds_succ]
 go_wp2
 refine wp_loop_rounds 3 ?_;rw[rounds_succ]
 go_wp2
 rw[rounds_succ]
 go_wp2
 rw[rounds_succ]
 go_wp2
 go_ret;refine⟨w.heap.size+1,w.heap.size,1,1,rfl,by simp;try omega,by simp;try omega,by go_simp,by decide,by decide,by go_simp,?_⟩
 repeat (first |exact Below.refl _ _|refine Below.alloc ?_ (by simp;try omega) _)
theorem Jm (g:Nat) (t:TypeId) (v:Value) (t2:TypeId) (v2:Value) (w:World) (h0:w.cell? ⟨g,0,none⟩=some (.iface t v)) (h1:w.cell? ⟨g,1,none⟩=some (.iface t2 v2)):
  Calls Tryz.prog 218 #[.slice (some ⟨g,0,none⟩) 2 2] w (IQ (.iface t v) w):=by
 have hg:g<w.heap.size:=World.block_lt_of_cell? _ _ h0
 have f3:∀(k:Nat) (v:Value) (o1 o2 o3:Obj),w.cell? ⟨g,k,none⟩=some v->(((w.alloc o1).alloc o2).alloc o3).cell? ⟨g,k,none⟩=some v:=fun k v o1 o2 o3 h=>by
  rw[World.cell?_alloc_lt _ _ ⟨g,k,none⟩ (by simp;omega),World.cell?_alloc_lt _ _ ⟨g,k,none⟩ (by simp;omega),World.cell?_alloc_lt _ _ ⟨g,k,none⟩ hg];exact h
 have f30:=fun o1 o2 o3=>f3 0 _ o1 o2 o3 h0;have f31:=fun o1 o2 o3=>f3 1 _ o1 o2 o3 h1;clear f3;have lp:∀w,(Instr.makeSlice 171 (.int .i64 0) (.int .i64 2)).run Tryz.prog w=.ok (.slice (some ⟨w.heap.size,0,none⟩) 0 2) (w.alloc (.cells #[.nilIface,.nilIface] 54)):=fun _=>by kernel_rfl
 go_enter Tryz.func218,Tryz.ntmps218
 go_wp2
 refine wp_loop_rounds 3 ?_;rw[rounds_succ]
 go_wp2
 rw[rounds_succ]
 go_wp2
 rw[rounds_succ]
 go_wp2
 refine wp_loop_rounds 3 ?_;rw[rounds_succ]
 go_wp2
 rw[rounds_succ]
 go_wp2
 rw[rounds_succ]
 go_wp2
 go_ret;refine⟨w.heap.size+1,w.heap.size,2,2,rfl,by simp;try omega,by simp;try omega,by go_simp,by decide,by decide,by go_simp,?_⟩
 repeat (first |exact Below.refl _ _|refine Below.alloc ?_ (by simp;try omega) _)
def ak.cells (x:ak):Array Value:= #[.int .i64 x.kind,.string x.text,.int .i64 x.bits,.string x.scheme,.string x.host,.bool x.wild,.int .i64 x.port,.string x.path]
def d9 (w:World) (T:Nat) (x:ak):Prop:=w.heap[T]? =some (.cells x.cells 174 (0,0))
theorem d9.cell {w:World} {T:Nat} {x:ak} (h:d9 w T x) (k:Nat):w.cell? ⟨T,k,none⟩=x.cells[k]? :=cell_of_row w T k _ _ _ h
theorem d9.free {w:World} {T:Nat} {x:ak} (h:d9 w T x) (k:Nat):w.frozen? ⟨T,k,none⟩=false:=by
 unfold d9 at h;simp only[World.frozen?,h]
 simp
theorem d9.lt {w:World} {T:Nat} {x:ak} (h:d9 w T x):T<w.heap.size:=(Array.getElem?_eq_some_iff.1 h).1
theorem d9.below {w w':World} {T:Nat} {x:ak} (h:d9 w T x) (hb:Below w.heap.size w w'):d9 w' T x:=by
 unfold d9;rw[hb.block T h.lt];exact h
theorem d9.store {w:World} {T:Nat} {x y:ak} (h:d9 w T x) (k:Nat) (v:Value) (hy:x.cells.setIfInBounds k v=y.cells):d9 (w.setCell ⟨T,k,none⟩ v) T y:=by
 unfold d9;rw[setCell_eq_setRow w T k x.cells _ _ v h,<-hy];exact setRow_heap _ _ _ _ _ _ h
def Ou (o:Option ak) (x:ak) (n T:Nat) (w:World) (e:Ending) (w':World):Prop:=
 ∃v,e=.returned v/\Hid (match o with|some y=>v=.nilIface/\d9 w' T y|none=>gb w' n v/\d9 w' T x)/\Below T w w'
theorem vB {s:ByteArray} (b:Bool) (h:decide (s.data.toList=[42])=b):(s.toList==[42])=b:=by
 rw[Lib.toList_data,<-h];by_cases h2:s.data.toList=[42]<;>simp[h2]
def ix (s:ByteArray) (x:ak):Option ak:=
 if s.data.toList=[42]then some {x with wild:=true}
 else if Lz.im (Lib.trimPrefix s.data.toList [42,46])then some {x with wild:=Lib.hasPrefix s.data.toList [42,46],host:=⟨(Lz.low (Lib.trimPrefix s.data.toList [42,46])).toArray⟩} else none
theorem Mm (s:ByteArray) (hs:s.size<=1048576) (T:Nat) (x:ak) (w:World) (hE:Env w) (hT:d9 w T x):
  Calls Tryz.prog 217 #[.string s,.pointer (some ⟨T,0,none⟩)] w (Ou (ix s x) x 0 T w):=by
 have h5:=hT.cell 5;have h4:=hT.cell 4;have f5:=hT.free 5;have f4:=hT.free 4;simp only[ak.cells]at h4 h5
 simp at h4 h5
 go_enter Tryz.func217,Tryz.ntmps217
 go_wp2_with fail
 refine(oO s _ w).mono ?_;rintro e w1 ⟨v,rfl,hv,rfl⟩;by_cases mL:s.data.toList=[42]
 ·have hst:=vB true (decide_eq_true mL);have HR:Hid (ix s x=some {x with wild:=true}):=by show ix s x=_;unfold ix;rw[if_pos mL]
  clear mL
  go_wp2
  go_ret;exact⟨_,rfl,by rw[HR.out];exact⟨rfl,hT.store 5 _ (by rfl)⟩,(Below.refl T w).setCell (p:=⟨T,5,none⟩) (Nat.le_refl _) _⟩
 ·have hst:=vB false (decide_eq_false mL);have Hs:=Ih mL;clear mL;have Iw:v.data.toList=Lib.trimPrefix s.data.toList [42,46]:=hv.out
  have hvz:v.size<=s.size:=by
   rw[<-aa v,Iw,<-aa s];unfold Lib.trimPrefix;split
   ·simp
   ·exact Nat.le_refl _
  have Hvl:=Ih Iw;clear Iw hv;have cN:=Ih (JX v (by omega) w hE);generalize T9:Lz.im v.data.toList=nb at cN;have Hnb:=Ih T9;clear T9;cases nb
  ·have HR:Hid (ix s x=none):=by
    show ix s x=_;unfold ix;rw[if_neg Hs.out,<-Hvl.out,Hnb.out];rfl
   go_wp2_with fail
   refine(cN.out).mono ?_;rintro e w2 ⟨rfl,az⟩
   go_wp2
   go_ret;exact⟨_,rfl,by rw[HR.out];exact⟨⟨_,rfl⟩,hT.below az⟩,az.mono (Nat.le_of_lt hT.lt)⟩
  ·go_wp2_with fail
   refine(cN.out).mono ?_;rintro e w2 ⟨rfl,az⟩
   go_wp2_with fail
   refine(kv v (by omega) w2).mono ?_;rintro e w3 ⟨u,rfl,hu,aO⟩;have pL:=ac az aO;have TS:=hT.below pL
   have HR:Hid (ix s x=some {x with wild:=Lib.hasPrefix s.data.toList [42,46],host:=u}):=by
    show ix s x=_;unfold ix;rw[if_neg Hs.out,<-Hvl.out,Hnb.out,if_pos rfl];have hue:(⟨(Lz.low v.data.toList).toArray⟩:ByteArray)=u:=by rw[<-hu.out]
    rw[hue]
   clear h4 h5 f4 f5;have h5:=TS.cell 5;have h4:=TS.cell 4;have f5:=TS.free 5;have f4:=TS.free 4;simp only[ak.cells]at h4 h5
   simp at h4 h5
   go_wp2
   go_ret;have aZ:=(TS.store (y:={x with wild:=Lib.hasPrefix s.data.toList [42,46]}) 5 (.bool (Lib.hasPrefix s.data.toList [42,46])) (by rfl)).store (y:={x with wild:=Lib.hasPrefix s.data.toList [42,46],host:=u}) 4 (.string u) (by rfl);exact⟨_,rfl,by rw[HR.out];exact⟨rfl,aZ⟩,((pL.mono (Nat.le_of_lt hT.lt)).setCell (p:=⟨T,5,none⟩) (Nat.le_refl _) _).setCell (p:=⟨T,4,none⟩) (Nat.le_refl _) _⟩
def gD (s:ByteArray) (x:ak):Option ak:=(Lz.mu s.data.toList).map fun n=>{x with port:=n}
theorem Vq (s:ByteArray) (hs:s.size<=1048576) (w:World) (hE:Env w):
  Calls Tryz.prog 258 #[.string s] w fun e w'=>∃n v,e=.returned (.tuple #[.int .i64 n,v])/\Hid ((Lib.atoiAll s.data.toList=.ok n/\v=.nilIface)\/((∀m,Lib.atoiAll s.data.toList≠.ok m)/\∃t x,v=.iface t x))/\Below w.heap.size w w':=by
 cases h:Lib.atoiAll s.data.toList with
 | ok n=>
   refine(Tryz.strconv_Atoi_ok s (by omega) n h w).mono ?_;rintro e w' ⟨he,hw⟩;refine⟨n,.nilIface,he,Or.inl ⟨rfl,rfl⟩,?_⟩;rcases hw with rfl|⟨t,rfl⟩
   ·exact Below.refl _ _
   ·exact Lib.bytesWorld_below _ _ _
 | range=>
   obtain⟨te,pe,hv⟩:=hE.rng;refine(Tryz.strconv_Atoi_range s (by omega) h _ w hv (Or.inr ⟨te,pe,rfl⟩)).mono ?_;rintro e w' ⟨N,he,_,_,hb⟩;exact⟨_,_,he,Or.inr ⟨(fun m hm=>by cases hm),_,_,rfl⟩,hb⟩
 | _=>
   obtain⟨te,pe,hv⟩:=hE.syn;refine(Tryz.strconv_Atoi_syntax s (by omega) (h.trans rfl) _ w hv (Or.inr ⟨te,pe,rfl⟩)).mono ?_;rintro e w' ⟨N,he,_,_,hb⟩;exact⟨_,_,he,Or.inr ⟨(fun m hm=>by cases hm),_,_,rfl⟩,hb⟩
theorem Oq (s:ByteArray) (hs:s.size<=1048576) (T:Nat) (x:ak) (w:World) (hE:Env w) (hT:d9 w T x):
  Calls Tryz.prog 219 #[.string s,.pointer (some ⟨T,0,none⟩)] w (Ou (gD s x) x 1 T w):=by
 by_cases mL:s.data.toList=[42]
 ·have hst:=vB true (decide_eq_true mL);have HR:Hid (gD s x=some {x with port:= -2}):=by show gD s x=_;unfold gD Lz.mu;rw[if_pos mL];rfl
  clear mL;have h6:=hT.cell 6;have f6:=hT.free 6;simp only[ak.cells]at h6
  simp at h6
  go_enter Tryz.func219,Tryz.ntmps219
  go_wp2
  go_ret;exact⟨_,rfl,by rw[HR.out];exact⟨rfl,hT.store 6 _ (by rfl)⟩,(Below.refl T w).setCell (p:=⟨T,6,none⟩) (Nat.le_refl _) _⟩
 ·have hst:=vB false (decide_eq_false mL);have Hs:=Ih mL;clear mL;have cA:=Ih (rR GW s (by omega));generalize Qd:Lz.gR Lz.bj s.data.toList=db at cA;have Hdb:=Ih Qd;clear Qd;go_enter Tryz.func219,Tryz.ntmps219
  go_wp2_with fail
  refine(Vq s hs w hE).mono ?_;rintro e w1 ⟨n,v,rfl,hv,ar⟩;have vN:=hT.below ar;rcases hv.out with⟨ha,rfl⟩|⟨ha,t,z,rfl⟩
  ·have Ha:=Ih ha;clear ha hv;by_cases JH:db=true/\n<=65535
   ·obtain⟨rfl,hn⟩:=JH
    have HR:Hid (gD s x=some {x with port:=n}):=by
     show gD s x=_;unfold gD Lz.mu;rw[if_neg Hs.out,Ha.out];simp only[Hdb.out,decide_eq_true hn,Bool.and_self,if_true];rfl
    have h6:=vN.cell 6;have f6:=vN.free 6;simp only[ak.cells]at h6
    simp at h6
    go_wp2_with (go_at_call 215;refine(cA.out _).mono ?_;rintro e w2 ⟨rfl,rfl⟩)
    go_ret;exact⟨_,rfl,by rw[HR.out];exact⟨rfl,vN.store 6 _ (by rfl)⟩,(ar.mono (Nat.le_of_lt hT.lt)).setCell (p:=⟨T,6,none⟩) (Nat.le_refl _) _⟩
   ·have HR:Hid (gD s x=none):=by
     show gD s x=_;unfold gD Lz.mu;rw[if_neg Hs.out,Ha.out]
     have:(db&&decide (n<=65535))=false:=by
      cases db
      ·rfl
      ·have:¬n<=65535:=fun h=>JH ⟨rfl,h⟩
       simp[this]
     simp only[Hdb.out,this];rfl
    have yv:(db=false)\/(db=true/\65535<n):=by
     cases db
     ·exact Or.inl rfl
     ·exact Or.inr ⟨rfl,by have:¬n<=65535:=fun h=>JH ⟨rfl,h⟩;omega⟩
    clear JH;rcases yv with rfl|⟨rfl,hn⟩
    all_goals
     go_wp2_with (first |(go_at_call 215;refine(cA.out _).mono ?_;rintro e w2 ⟨rfl,rfl⟩)|(go_at_call 218;refine(IZ w1.heap.size 196 (.string ⟨#[112,111,114,116]⟩) _ (by simp) (by simp)).mono ?_;rintro e w3 ⟨p,g,len,cap,rfl,q1,q2,q3,q4,q5,q6,aO⟩))
     go_ret;have pL:=(((Below.refl _ w1).alloc (Nat.le_refl _) _).trans (aO.mono (by simp)));exact⟨_,rfl,by rw[HR.out];exact⟨Or.inr ⟨p,g,len,cap,_,rfl,q1,q2,q3,q4,q5,q6,_,rfl⟩,vN.below pL⟩,(ac ar pL).mono (Nat.le_of_lt hT.lt)⟩
  ·have HR:Hid (gD s x=none):=by
    show gD s x=_;unfold gD Lz.mu;rw[if_neg Hs.out];cases h:Lib.atoiAll s.data.toList with
    | ok m=>exact absurd h (ha m)
    | _=>rfl
   clear ha hv
   go_wp2_with (first |(go_at_call 215;refine(cA.out _).mono ?_;rintro e w2 ⟨rfl,rfl⟩)|(go_at_call 218;refine(Jm w1.heap.size 196 (.string ⟨#[112,111,114,116]⟩) t z _ (by simp) (by simp)).mono ?_;rintro e w3 ⟨p,g,len,cap,rfl,q1,q2,q3,q4,q5,q6,aO⟩))
   go_ret;have pL:=(((Below.refl _ w1).alloc (Nat.le_refl _) _).trans (aO.mono (by simp)));exact⟨_,rfl,by rw[HR.out];exact⟨Or.inr ⟨p,g,len,cap,_,rfl,q1,q2,q3,q4,q5,q6,_,rfl⟩,vN.below pL⟩,(ac ar pL).mono (Nat.le_of_lt hT.lt)⟩
end Go.Proofs.YtecoeebjaleeiaaGreatDoor
namespace Lz
open Go
def spQ (c:UInt8):Bool:=decide (c<=32)
def pSp (x:Nat):Bool:=decide (x<=32)
theorem vZ (c:UInt8):pSp c.toNat=spQ c:=by
 unfold pSp spQ;congr 1
theorem Hf {x:Nat} (h:128<=x):pSp x=false:=by unfold pSp;rw[decide_eq_false];omega
theorem GK {c:UInt8} (h:128<=c.toNat):spQ c=false:=by rw[<-vZ];exact Hf h
theorem MI (s:ByteArray):∀f pos,s.size<=pos+f->Lib.idxFuncFrom pSp false s f pos=if(s.data.toList.drop pos).all spQ then -1 else((pos+((s.data.toList.drop pos).takeWhile spQ).length:Nat):Int)
 | 0,pos,h=>by
   rw[List.drop_eq_nil_of_le (by show s.size<=pos;omega)];rfl
 | f+1,pos,h=>by
   rw[Lib.idxFuncFrom];by_cases kN:pos<s.size
   ·rw[if_pos kN]
    have hd:s.data.toList.drop pos=s[pos]::s.data.toList.drop (pos+1):=by
     rw[List.drop_eq_getElem_cons (show pos<s.data.toList.length from kN)];rfl
    rw[hd,List.all_cons];rcases Nat.lt_or_ge (s[pos]'kN).toNat 128 with h1|h1
    ·rw[decode_ascii s pos kN h1,vZ];cases hq:spQ s[pos]with
     | false=>simp[hq]
     | true=>
       simp only[Bool.true_and,Bool.true_eq_false,if_false];rw[MI s f (pos+1) (by omega)];split
       ·rfl
       ·rw[List.takeWhile_cons,hq];simp;omega
    ·rw[Hf (vC s pos kN h1),GK h1]
     simp[GK h1]
   ·rw[if_neg kN,List.drop_eq_nil_of_le (by show s.size<=pos;omega)];rfl
theorem oC (q:UInt8->Bool) (l:Bs):l.drop (l.takeWhile q).length=l.dropWhile q:=by
 induction l with
 | nil=>rfl
 | cons c r ih=>
   rw[List.takeWhile_cons,List.dropWhile_cons];split
   ·simpa using ih
   ·rfl
theorem yX {q:UInt8->Bool} {l:Bs} (h:l.all q=true):l.dropWhile q=[]:=by
 induction l with
 | nil=>rfl
 | cons c r ih=>
   rw[List.all_cons,Bool.and_eq_true]at h;rw[List.dropWhile_cons,if_pos h.1];exact ih h.2
theorem D8 (s:ByteArray):(Lib.trimLeftF pSp s).data.toList=s.data.toList.dropWhile spQ:=by
 unfold Lib.trimLeftF Lib.idxFunc;rw[MI s s.size 0 (by omega),List.drop_zero];by_cases h:s.data.toList.all spQ=true
 ·rw[if_pos h,if_pos rfl,yX h]
 ·rw[if_neg h,if_neg (by omega)];rw[Lib.extract_data,Nat.zero_add];rw[show((((s.data.toList.takeWhile spQ).length:Nat):Int)).toNat=(s.data.toList.takeWhile spQ).length from rfl,oC,List.take_of_length_le];rw[<-oC,List.length_drop];show s.size-_<=_;exact Nat.le_refl _
theorem Ez {n n' b0 b1 b2 b3 c1 c2 c3:Nat} (h0:128<=b0) (hw:(Lib.decodeN n b0 b1 b2 b3).2=n) (hn:n<=n') (h1:1<n->c1=b1) (h2:2<n->c2=b2) (h3:3<n->c3=b3) (he:n=1->n'=1\/c1 / 64≠2):(Lib.decodeN n' b0 c1 c2 c3).2=n:=by
 rcases Lib.decodeN_shape n b0 b1 b2 b3 with⟨h,_⟩|⟨ha,hb,hc,hd,h⟩|⟨ha,hb,hc,hd,he1,hf,h⟩|⟨ha,hb,hc,hd,he1,hf,hg,h⟩|h
 ·omega
 ·rw[h]at hw;obtain rfl:n=2:=hw.symm;rw[h1 (by omega)];unfold Lib.decodeN;rw[if_neg (by omega),if_pos ⟨ha,by omega,hc⟩,if_pos hd]
 ·rw[h]at hw;obtain rfl:n=3:=hw.symm;rw[h1 (by omega),h2 (by omega)];unfold Lib.decodeN;rw[if_neg (by omega),if_neg (by omega),if_pos ⟨ha,⟨by omega,hc⟩,⟨by omega,hd⟩⟩,if_pos ⟨he1,by omega⟩]
 ·rw[h]at hw;obtain rfl:n=4:=hw.symm;rw[h1 (by omega),h2 (by omega),h3 (by omega)];unfold Lib.decodeN;rw[if_neg (by omega),if_neg (by omega),if_neg (by omega),if_pos ⟨ha,⟨by omega,hc⟩,⟨by omega,hd⟩,⟨by omega,he1⟩⟩,if_pos ⟨hf,by omega⟩]
 ·rw[h]at hw;obtain rfl:n=1:=hw.symm;have:=he rfl;unfold Lib.decodeN;rw[if_neg (by omega),if_neg (by omega),if_neg (by omega),if_neg (by omega)]
theorem UI {n b0 b1 b2 b3:Nat} (h0:128<=b0):128<=(Lib.decodeN n b0 b1 b2 b3).1:=by
 rcases Lib.decodeN_shape n b0 b1 b2 b3 with⟨h,_⟩|⟨ha,hb,hc,hd,h⟩|⟨ha,hb,hc,hd,he1,hf,h⟩|⟨ha,hb,hc,hd,he1,hf,hg,h⟩|h
 ·omega
 ·rw[h];exact hd
 ·rw[h];show 128<=_;omega
 ·rw[h];show 128<=_;omega
 ·rw[h];show 128<=65533;omega
theorem xP (s:ByteArray) (j:Nat) (h:j<s.size):s.get! j=s[j]'h:=by
 show s.data[j]! =_;rw[getElem!_pos s.data j h];rfl
theorem MY (s:ByteArray) (i:Nat) (o9:0<i) (hi:i<=s.size) (hhi:128<=(s[i-1]'(by omega)).toNat) (St:∀h:i<s.size,(s[i]'h).toNat<=32):
  128<=(Lib.decodeLastL (s.data.toList.take i)).1/\(Lib.decodeLastL (s.data.toList.take i)).2<=i/\(Utf8.decode s (i-(Lib.decodeLastL (s.data.toList.take i)).2)).2=(Lib.decodeLastL (s.data.toList.take i)).2:=by
 obtain⟨t,ht⟩:∃t:ByteArray,t=s.extract 0 i:=⟨_,rfl⟩;have htd:t.data.toList=s.data.toList.take i:=by rw[ht,Lib.extract_data];rfl
 have L5:t.size=i:=by
  show t.data.toList.length=i;rw[htd,List.length_take];show min i s.size=i;omega
 have hg:∀j,j<i->t.get! j=s.get! j:=fun j hj=>by rw[ht,Go.Proofs.get!_extract' s 0 i j (by omega) hi,Nat.zero_add]
 have jl:(s.get! (i-1)).toNat=(s[i-1]'(by omega)).toNat:=by rw[xP s (i-1) (by omega)]
 have LJ:(Utf8.decode s (i-1)).2=1:=by
  rw[Lib.decode_at,show i-1+1=i by omega];refine Ez (n:=1) (n':=s.size-(i-1)) (b1:=0) (b2:=0) (b3:=0) (by omega) ?_ (by omega) (by omega) (by omega) (by omega) (fun _=>?_)
  ·rcases Lib.decodeN_shape 1 (s.get! (i-1)).toNat 0 0 0 with⟨h,_⟩|⟨_,h,_⟩|⟨_,h,_⟩|⟨_,h,_⟩|h
   ·omega
   ·omega
   ·omega
   ·omega
   ·rw[h]
  ·by_cases h:i<s.size
   ·right;have:=St h;rw[xP s i h];omega
   ·left;omega
 rw[<-htd,Lib.decodeLastL_eq t (by omega) (by rw[L5,hg (i-1) (by omega),jl];exact hhi)]
 have Lt:=Lib.lastStart_lt t.data.toList (fun h=>by
  have h0:t.data.toList.length=0:=by rw[h];rfl
  have h1:t.data.toList.length=i:=L5;omega)
 have aak:Lib.lastStart t.data.toList<i:=by rw[<-L5];exact Lt
 unfold Lib.lastOf;obtain⟨k,hk⟩:∃k,k=Lib.lastStart t.data.toList:=⟨_,rfl⟩;rw[<-hk]at aak⊢
 have hgo:Lib.decodeGo (t.extract k t.size)=Utf8.decode t k:=by
  unfold Lib.decodeGo;rw[if_neg (by rw[ByteArray.size_extract];omega),Lib.tail_decode];rfl
 rw[hgo,L5];by_cases he:k+(Utf8.decode t k).2=i
 ·rw[if_pos he]
  have hd:Utf8.decode t k=Lib.decodeN (i-k) (s.get! k).toNat (t.get! (k+1)).toNat (t.get! (k+2)).toNat (t.get! (k+3)).toNat:=by
   rw[Lib.decode_at,L5,hg k aak]
  have ku:128<=(s.get! k).toNat:=by
   rcases Nat.lt_or_ge (s.get! k).toNat 128 with h|h
   ·exfalso
    have h1:(Utf8.decode t k).2=1:=by
     rw[hd];unfold Lib.decodeN;rw[if_pos h]
    have:k=i-1:=by omega
    rw[this]at h;omega
   ·exact h
  refine⟨by rw[hd];exact UI ku,by omega,?_⟩;rw[show i-(Utf8.decode t k).2=k by omega,Lib.decode_at s k];have hw:(Lib.decodeN (i-k) (s.get! k).toNat (t.get! (k+1)).toNat (t.get! (k+2)).toNat (t.get! (k+3)).toNat).2=i-k:=by rw[<-hd];omega
  rw[Ez ku hw (by omega) (fun h=>by rw[hg (k+1) (by omega)]) (fun h=>by rw[hg (k+2) (by omega)]) (fun h=>by rw[hg (k+3) (by omega)]) (fun h=>by
   by_cases h2:i<s.size
   ·right;have:=St h2;rw[show k+1=i by omega,xP s i h2];omega
   ·left;omega)]
  omega
 ·rw[if_neg he];exact⟨by show 128<=Utf8.runeError;decide,by show 1<=i;omega,by show(Utf8.decode s (i-1)).2=1;exact LJ⟩
def F5 (l:Bs) (i:Nat):Nat:=((l.take i).reverse.dropWhile spQ).length
theorem Kk {l:Bs} {i:Nat} {b:UInt8} (h:l[i]? =some b):F5 l (i+1)=if spQ b then F5 l i else i+1:=by
 obtain⟨hi,he⟩:=List.getElem?_eq_some_iff.1 h;unfold F5;rw[List.take_succ_eq_append_getElem hi,he,List.reverse_append,List.reverse_singleton,List.singleton_append,List.dropWhile_cons];split
 ·rfl
 ·simp;omega
theorem DZ (s:ByteArray):∀f i,i<=f->i<=s.size->(∀j,i<=j->∀h:j<s.size,(s[j]'h).toNat<=32)->
  (if 0<=Lib.lastIdxFuncFrom pSp false s f i then(Lib.lastIdxFuncFrom pSp false s f i).toNat+(Utf8.decode s (Lib.lastIdxFuncFrom pSp false s f i).toNat).2 else 0)=F5 s.data.toList i
 | 0,i,hf,hi,_=>by
   obtain rfl:i=0:=by omega
   rfl
 | f+1,i,hf,hi,ht=>by
   cases i with
   | zero=>rw[Lib.lastIdxFuncFrom];rfl
   | succ m=>
     have hm:m<s.size:=by omega
     have bZ:Lib.lastIdxFuncFrom pSp false s (f+1) (m+1)=if pSp (Lib.decodeLastL (s.data.toList.take (m+1))).1=false then(((m+1)-(Lib.decodeLastL (s.data.toList.take (m+1))).2:Nat):Int)else Lib.lastIdxFuncFrom pSp false s f ((m+1)-(Lib.decodeLastL (s.data.toList.take (m+1))).2):=by
      rw[Lib.lastIdxFuncFrom,if_pos (Nat.succ_pos m)]
     rw[bZ]
     have qg:s.data.toList[m]? =some (s[m]'hm):=by
      rw[List.getElem?_eq_getElem (show m<s.data.toList.length from hm)];rfl
     rw[Kk qg];rcases Nat.lt_or_ge (s[m]'hm).toNat 128 with h1|h1
     ·have hd:Lib.decodeLastL (s.data.toList.take (m+1))=((s[m]'hm).toNat,1):=by
       obtain⟨E8,hme⟩:=List.getElem?_eq_some_iff.1 qg;rw[List.take_succ_eq_append_getElem E8,hme];exact Lib.decodeLastL_ascii _ _ h1
      rw[hd,vZ];cases hq:spQ (s[m]'hm)with
      | false=>
        simp only[if_true,Bool.false_eq_true,if_false];rw[show m+1-1=m by omega,if_pos (by omega),show((m:Int)).toNat=m from rfl,decode_ascii s m hm h1]
      | true=>
        simp only[Bool.true_eq_false,if_false,if_true];rw[show m+1-1=m by omega];refine DZ s f m (by omega) (by omega) fun j hj nP=>?_;rcases Nat.eq_or_lt_of_le hj with e|e
        ·subst e;have:spQ (s[m]'hm)=true:=hq;unfold spQ at this;have h2:=of_decide_eq_true this;exact h2
        ·exact ht j e nP
     ·obtain⟨Jz,PJ,hd3⟩:=MY s (m+1) (by omega) hi (by simpa using h1) (fun h=>ht (m+1) (Nat.le_refl _) h);rw[Hf Jz,GK h1];simp only[if_true,Bool.false_eq_true,if_false];rw[if_pos (by omega),Int.toNat_natCast,hd3];omega
theorem Ji (s:ByteArray):∀f i,i<=s.size->Lib.lastIdxFuncFrom pSp false s f i<0\/Lib.lastIdxFuncFrom pSp false s f i<s.size
 | 0,_,_=>.inl (by rw[Lib.lastIdxFuncFrom];omega)
 | f+1,i,hi=>by
   rw[Lib.lastIdxFuncFrom];by_cases h:0<i
   ·rw[if_pos h];have hw:=(Lib.decodeLastL_width (s.data.toList.take i) (by rw[List.length_take];show 0<min i s.size;omega)).1;split
    ·right;omega
    ·exact Ji s f _ (by omega)
   ·rw[if_neg h];left;omega
theorem Bk (s:ByteArray):(Lib.trimRightF pSp s).data.toList=(s.data.toList.reverse.dropWhile spQ).reverse:=by
 have h:=DZ s s.size s.size (Nat.le_refl _) (Nat.le_refl _) (fun j hj nP=>by omega)
 have St:Lib.rightEndF pSp s=F5 s.data.toList s.size:=by
  rw[<-h];unfold Lib.rightEndF Lib.lastIdxFunc;split
  ·rename_i h0;have aV:=Ji s s.size s.size (Nat.le_refl _);congr 1;unfold Lib.decodeGoB;by_cases hz:(s.extract (Lib.lastIdxFuncFrom pSp false s s.size s.size).toNat s.size).size=0
   ·exfalso
    rw[ByteArray.size_extract]at hz;omega
   ·rw[if_neg hz,Lib.tail_decode];rfl
  ·rfl
 unfold Lib.trimRightF;rw[St,Lib.extract_data];show(s.data.toList.drop 0).take (F5 s.data.toList s.size-0)=_;unfold F5;rw[show s.data.toList.take s.size=s.data.toList from List.take_of_length_le (Nat.le_refl _),List.drop_zero,Nat.sub_zero]
 have hp:(s.data.toList.reverse.dropWhile spQ).reverse<+:s.data.toList:=by
  have:=(List.dropWhile_suffix spQ (l:=s.data.toList.reverse)).reverse
  rwa [List.reverse_reverse]at this
 have:=List.prefix_iff_eq_take.1 hp;rw[List.length_reverse]at this;exact this.symm
theorem Qs (s:ByteArray):(Lib.trimF pSp s).data.toList=((s.data.toList.dropWhile spQ).reverse.dropWhile spQ).reverse:=by
 unfold Lib.trimF;rw[Bk,D8]
end Lz
namespace Go.Proofs.YtecoeebjaleeiaaGreatDoor
open Go.RowKit
theorem BL:Tryz.zeroCells215=Array.replicate 257 (.slice none 0 0):=by kernel_rfl
noncomputable def bsZ (v:Value):Array Value:=Tryz.zeroCells215.setIfInBounds 256 v
theorem rV (v:Value):(bsZ v).size=257:=by unfold bsZ;rw[BL];simp
theorem NE (v:Value) (k:Nat) (hk:k<256):(bsZ v)[k]? =some (.slice none 0 0):=by
 unfold bsZ;rw[BL,Array.getElem?_setIfInBounds_ne (by omega),Array.getElem?_replicate,if_pos (by omega)]
theorem Mz (v:Value):(bsZ v)[256]? =some v:=by
 unfold bsZ;rw[BL,Array.getElem?_setIfInBounds_self_of_lt (by simp)]
theorem Rk (a:Option Addr) (n c:Nat):(bsZ (.slice a n c)).all (·.oneCell')=true:=by
 rw[Array.all_eq_true'];intro x hx;obtain⟨k,hk⟩:=Array.mem_iff_getElem?.1 hx;have Po:k<257:=by have:=(Array.getElem?_eq_some_iff.1 hk).1;rw[rV]at this;exact this
 rcases Nat.lt_or_ge k 256 with h|h
 ·rw[NE _ _ h]at hk;rw[<-Option.some.inj hk];rfl
 ·obtain rfl:k=256:=by omega
  rw[Mz]at hk;rw[<-Option.some.inj hk];rfl
theorem Uw:(Tryz.prog.info? 215).map (·.size)=some 257:=by kernel_rfl
def rsB:List ByteArray:=[⟨#[9]⟩,⟨#[]⟩,⟨#[10]⟩,⟨#[]⟩,⟨#[13]⟩,⟨#[]⟩]
def abe (B:Nat) (w:World) (e:Ending) (w':World):Prop:=∃b G c,e=.returned (.pointer (some ⟨b,0,none⟩))/\B<=b/\bP w' b 0 0 0 .nilIface (.slice (some ⟨G,0,none⟩) 6 c)/\w'.ownsRow B 9 1 (.slice (some ⟨G,0,none⟩) 6 c) 6 (rsB.map Value.string)/\Below w.heap.size w w'
theorem NA (B:Nat) (p:Addr) (c:Nat) (w:World) (hB:B<=w.heap.size) (hc:∀(j:Nat) (u:Value),(rsB.map Value.string)[j]? =some u->w.cell? (p.add j)=some u):
  Calls Tryz.prog 52 #[.slice (some p) 6 c] w (abe B w):=by
 obtain⟨i0,hi,fI,ei,eM⟩:=info_parts fS;have Hc:=Ih hc;clear hc;go_enter Tryz.func52,Tryz.ntmps52
 go_wp2_with (at_builtin;refine wpList_append_own _ rfl (.const (.slice none 0 0)) (.tmp 8) 30 rfl B 9 i0 (.string ⟨#[]⟩) 1 16 Tryz.underlying30 hi fI ei eM rfl (by decide) _ 0 [] rfl (World.ownsRow_nil _ B _ _) p 6 c (rsB.map Value.string) rfl rfl Hc.out (by decide) (by unfold maxLen;omega) (by omega) (by omega) ?_)
 intro v' w' au hg qT;have hb:Below w.heap.size w w':=(Below.refl _ w).grown hg (Nat.le_refl _) (fun k hk=>by simp[Value.ownBlock]at hk);have hP:aL w' B v' rsB:=.inl au;obtain⟨a',c',hv',_,aA⟩:=hP.form;have je:v'=.slice a' 6 c':=hv';subst je;obtain⟨G,off,rfl,_,_⟩:=aA 0 ⟨#[9]⟩ rfl
 have Wp:off=0:=by
  rcases au.2 with⟨h,_⟩|⟨g,cap,dB,h,_⟩
  ·cases h
  ·injection h with h _ _;injection h with h;injection h with h1 h2 _
 subst Wp;have ew:Hid (w'.ownsRow B 9 1 (.slice (some ⟨G,0,none⟩) 6 c') 6 (rsB.map Value.string)):=Ih au;have hwz:=hb.size;clear au hg hP aA qT hv'
 go_wp2_with fail
 go_ret;refine⟨_,G,c',rfl,by omega,?_,ew.out.alloc _,ac hb ((Below.refl _ _).alloc (Nat.le_refl _) _)⟩;show(w'.heap.push _)[w'.heap.size]? =_
 simp
theorem wZ (w:World) (o:UInt8):(convert 75 9 (.slice (some ⟨w.heap.size,0,none⟩) 1 1)).run Tryz.prog (w.alloc (.cells #[.int .u8 (o.toNat:Int)] 5))=.ok (.string ⟨#[o]⟩) (w.alloc (.cells #[.int .u8 (o.toNat:Int)] 5)):=by
 refine run_convert_bytes_back (P:=Tryz.prog) _ 75 9 5 ⟨w.heap.size,0,none⟩ 1 [o] Tryz.underlying75 Tryz.underlying5 Tryz.underlying9 ?_;intro j hj;have tM:j=0:=by simpa using hj
 subst tM;exact bD w (.int .u8 (o.toNat:Int)) 5 0 _ rfl
theorem Th (W:World):(Instr.index 9 (.string ⟨#[13]⟩) (.int .i64 0)).run Tryz.prog W=.ok (.int .u8 13) W:=by kernel_rfl
theorem SY (W:World):(Instr.index 9 (.string ⟨#[10]⟩) (.int .i64 0)).run Tryz.prog W=.ok (.int .u8 10) W:=by kernel_rfl
theorem Y2 (W:World):(Instr.index 9 (.string ⟨#[9]⟩) (.int .i64 0)).run Tryz.prog W=.ok (.int .u8 9) W:=by kernel_rfl
theorem qu (w:World):∃(cap:Nat) (w':World),(convert 9 75 (.string ⟨#[]⟩)).run Tryz.prog w=.ok (.slice (some ⟨w.heap.size,0,none⟩) 0 cap) w'/\Below w.heap.size w w':=
 ⟨_,_,run_bytes_of_string (P:=Tryz.prog) w 9 75 5 ⟨#[]⟩ Tryz.underlying9 Tryz.underlying75 Tryz.underlying5,(Below.refl _ w).drew.alloc (Nat.le_refl _) _⟩
def it (m k:Nat):Prop:=(k=13/\m<=2)\/(k=10/\m<=1)\/(k=9/\m=0)
def toB:List ByteArray:=[⟨#[13]⟩,⟨#[10]⟩,⟨#[9]⟩]
structure aa7 (B g m:Nat) (wr:World) (cs:Array Value) (T:Nat):Prop where
 row:wr.heap[g]? =some (.cells cs 215 (0,0))
 size:cs.size=257
 hit:∀k,k<256->it m k->∃A c,cs[k]? =some (.slice (some A) 0 c)
 miss:∀k,k<256->¬it m k->cs[k]? =some (.slice none 0 0)
 last:cs[256]? =some (.slice (some ⟨T,0,none⟩) (3-m) 3)
 own:wr.ownsRow B 9 1 (.slice (some ⟨T,0,none⟩) (3-m) 3) (3-m) ((toB.take (3-m)).map Value.string)
def Bl (B g:Nat) (w:World) (i:Value) (wr:World):Prop:=∃m:Nat,m<=3/\i=.int .i64 (2*(m:Int)-2)/\Below B w wr/\∃cs T,aa7 B g m wr cs T
def Oe (w:World) (e:Ending) (w':World):Prop:=∃g,e=.returned (.iface 216 (.pointer (some ⟨g,0,none⟩)))/\Below w.heap.size w w'/\jk w' g
theorem Kz (B b:Nat) (e:Int) (G c:Nat) (w:World) (hr:bP w b 0 1 e .nilIface (.slice (some ⟨G,0,none⟩) 6 c)) (au:w.ownsRow B 9 1 (.slice (some ⟨G,0,none⟩) 6 c) 6 (rsB.map Value.string)):
  Calls Tryz.prog 131 #[.pointer (some ⟨b,0,none⟩)] w (Oe w):=by
 obtain⟨i0,hi,fI,ei,eM⟩:=info_parts fS;have r4:=rowAt hr 4 (.slice (some ⟨G,0,none⟩) 6 c) rfl
 have IA:∀k x,rsB[k]? =some x->w.cell? ⟨G,k,none⟩=some (.string x):=fun k x hk=>by
  have:=au.cells (g:=G) rfl k (.string x) (by rw[List.getElem?_map,hk];rfl);rw[bV]at this;exact this
 have o0:=IA 0 ⟨#[9]⟩ rfl;have o1:=IA 1 ⟨#[]⟩ rfl;have o2:=IA 2 ⟨#[10]⟩ rfl;have o3:=IA 3 ⟨#[]⟩ rfl;have o4:=IA 4 ⟨#[13]⟩ rfl;have o5:=IA 5 ⟨#[]⟩ rfl;have LM:G<w.heap.size:=World.block_lt_of_cell? _ _ o0;have hYs:Tryz.zeroCells215.size=257:=by rw[BL];simp
 have O1:=Ih IA;have HYs:=Ih hYs;clear au hr IA hYs;go_enter Tryz.func131,Tryz.ntmps131
 go_wp2_with fail
 refine wp_loop_rounds 4 ?_;rw[rounds_succ]
 go_wp2_with fail
 rw[rounds_succ]
 go_wp2_with fail
 rw[rounds_succ]
 go_wp2_with fail
 rw[rounds_succ];clear o0 o1 o2 o3 o4 o5 r4
 go_upto_region 26 with fail
 go_wp2_with (refine wpList_make_own _ rfl (.const (.int .i64 0)) (.tmp 93) 30 rfl w.heap.size 9 i0 (.string ⟨#[]⟩) 1 Tryz.underlying30 hi fI ei .i64 .i64 3 3 rfl rfl rfl (by rw[eM];omega) (by decide) (Nat.le_refl _) ?_)
 intro w1 dA pF;have ar:Below w.heap.size w w1:=(Below.refl _ w).grown pF (Nat.le_refl _) (fun k hk=>by cases hk);have gV:=Ih dA;have km:=ar.size;clear dA pF
 go_wp2_with (refine wpList_store_row rfl 215 (.tmp 11) (.tmp 95) rfl w1.heap.size (bsZ (.slice (some ⟨w.heap.size,0,none⟩) 0 3)) rfl rfl 215 Tryz.zeroCells215 (by show(w1.heap.push _)[w1.heap.size]? =_;simp) (by rw[rV];exact Uw) (by rw[HYs.out,rV]) (Rk _ _ _) ?_)
 obtain⟨Y,hY⟩:∃Y,Y=Tryz.zeroCells215:=⟨_,rfl⟩;rw[<-hY];obtain⟨Z,hZ⟩:∃Z,Z=bsZ (.slice (some ⟨w.heap.size,0,none⟩) 0 3):=⟨_,rfl⟩;rw[<-hZ];have HZ:=Ih hZ;have lk:((w1.alloc (.cells Y 215)).setRow w1.heap.size Z).heap[w1.heap.size]? =some (.cells Z 215 (0,0)):=setRow_heap _ _ Y _ _ _ (by show(w1.heap.push _)[w1.heap.size]? =_;simp);have Pg:(w1.alloc (.cells Y 215)).grownBy ((w1.alloc (.cells Y 215)).setRow w1.heap.size Z) (some w1.heap.size):=⟨rfl,rfl,rfl,by simp,fun k _ hk=>setRow_other _ _ _ _ (fun e=>hk (by rw[e]))⟩;have az:Below w.heap.size w ((w1.alloc (.cells Y 215)).setRow w1.heap.size Z):=(ar.alloc km _).grown Pg (by simp;omega) (fun k hk=>by injection hk with hk;omega);have dJ:=(gV.out.alloc (.cells Y 215)).kept Pg (.inr (by simp[Value.ownBlock];have:=gV.out.lt w.heap.size rfl;omega));generalize (w1.alloc (.cells Y 215)).setRow w1.heap.size Z=w2 at lk az dJ⊢;have HB2:=Ih az;have HR1:=Ih lk;have HO2:=Ih dJ;clear Pg ar az lk dJ gV hZ hY
 go_wp2_with fail
 go_loopw [12] (fun i wr=>Bl w.heap.size w1.heap.size w i wr) (fun i _=>(intOf i+2).toNat)
 case atStart=>
  refine⟨3,by omega,rfl,HB2.out,Z,w.heap.size,HR1.out,by rw[HZ.out];exact rV _,fun k hk h=>?_,fun k hk _=>by rw[HZ.out];exact NE _ k hk,by rw[HZ.out];exact Mz _,HO2.out⟩;unfold it at h;omega
 case round=>
  obtain⟨m,hm,rfl,aK,cs,T,hA⟩:=hrel;obtain⟨g0,Iy⟩:∃g0,g0=w1.heap.size:=⟨_,rfl⟩;rw[<-Iy]at hA;have Ws:w.heap.size<=g0:=by rw[Iy];exact km
  obtain rfl|rfl|rfl|rfl:m=3\/m=2\/m=1\/m=0:=by omega
  ·rw[<-Iy];clear Iy;have oc:wr.cell? ⟨G,4,none⟩=some (.string ⟨#[13]⟩):=by rw[aK.cell (p:=⟨G,4,none⟩) LM];exact O1.out 4 ⟨#[13]⟩ rfl
   have oe:wr.cell? ⟨G,5,none⟩=some (.string ⟨#[]⟩):=by rw[aK.cell (p:=⟨G,5,none⟩) LM];exact O1.out 5 ⟨#[]⟩ rfl
   have cg:=rowAt hA.row 13 (.slice none 0 0) (hA.miss 13 (by decide) (by unfold it;omega));have c256:=rowAt hA.row 256 (.slice (some ⟨T,0,none⟩) 0 3) hA.last;have qT:=fun W:World=>Lib.run_eql_slice_nil (P:=Tryz.prog) W 75 5 none 0 0 0 0 Tryz.underlying75;have zk:=fun W:World=>Th W;have Fc:(convert 75 9 (.slice (some ⟨wr.heap.size,0,none⟩) 1 1)).run Tryz.prog (wr.alloc (.cells #[.int .u8 13] 5))=.ok (.string ⟨#[13]⟩) (wr.alloc (.cells #[.int .u8 13] 5)):=wZ wr 13;have hT:T<wr.heap.size:=(hA.own.lt T rfl).2
   have OR:¬g0=T:=fun e=>by
    rcases hA.own.2 with⟨h,_⟩|⟨g1,cap,dB,h,_,hh,_⟩
    ·cases h
    ·injection h with h _ _;injection h with h;injection h with h1 _ _
     rw[<-h1,<-e,hA.row]at hh;injection hh with hh
     injection hh with _ h2 _
     exact absurd h2 (by decide)
   have AN:=(hA.own.alloc (.cells #[.int .u8 13] 5)).alloc (.cells #[.string ⟨#[13]⟩] 9);have HA:=Ih hA;have Z0:=Ih AN;have Fe:=aK.size;clear hA AN
   go_wp2_with (at_builtin;refine wpList_append_fits _ rfl (.tmp 119) (.tmp 123) 30 rfl w.heap.size 9 i0 1 Tryz.underlying30 hi ei T 0 3 _ rfl Z0.out ⟨wr.heap.size+1,0,none⟩ 1 1 [.string ⟨#[13]⟩] rfl rfl (fun j u hj=>by have:=bD (wr.alloc (.cells #[.int .u8 13] 5)) (.string ⟨#[13]⟩) 9 j u hj;simpa using this) (by simp[Value.oneCell']) (by omega) ?_)
   intro w3 eK Ju;have OS:g0<wr.heap.size:=af HA.out.row
   have AO:w3.heap[g0]? =some (.cells cs 215 (0,0)):=by
    rw[Ju.block g0 (by simp;omega) (fun e=>OR (by injection e)),Below.heap_alloc _ _ _ (by simp;omega),Below.heap_alloc _ _ _ OS];exact HA.out.row
   have aO:Below w.heap.size w w3:=((aK.alloc Fe _).alloc (by simp;omega) _).grown Ju (by simp;omega) (fun k hk=>by injection hk with hk;subst hk;exact(HA.out.own.lt _ rfl).1);have aae:=rowAt AO 256 _ HA.out.last;have aaS:=bE AO 256;have E3:w.heap.size<=g0:=Ws;have dy:Below w.heap.size w (w3.setCell ⟨g0,256,none⟩ (.slice (some ⟨T,0,none⟩) 1 3)):=aO.setCell (p:=⟨g0,256,none⟩) E3 _;have Un:(w3.setCell ⟨g0,256,none⟩ (.slice (some ⟨T,0,none⟩) 1 3)).heap[g0]? =some (.cells (cs.setIfInBounds 256 (.slice (some ⟨T,0,none⟩) 1 3)) 215 (0,0)):=g9 AO 256 _ rfl;have uP:=eK.kept (bS w3 ⟨g0,256,none⟩ (.slice (some ⟨T,0,none⟩) 1 3)) (.inr (by simp[Value.ownBlock];exact fun e=>OR e.symm));have gr:=Ih uP;have zm:=Ih Un;have Pb:=Ih dy;clear eK Ju AO aO uP Un dy Fc oc oe cg c256
   go_upto_region 34 with fail
   generalize w3.setCell ⟨g0,256,none⟩ (.slice (some ⟨T,0,none⟩) 1 3)=w4 at gr zm Pb⊢;have Uh:g0<w4.heap.size:=af zm.out;obtain⟨cap,w5,kb,aI⟩:=qu w4;have JB:w5.heap[g0]? =_:=(aI.block g0 Uh).trans zm.out;have eL:=bH gr.out aI;have c5:=rowAt JB 13 (.slice none 0 0) (by rw[Array.getElem?_setIfInBounds_ne (by omega)];exact HA.out.miss 13 (by decide) (by unfold it;omega));have f5:=bE JB 13;have TV:(w5.setCell ⟨g0,13,none⟩ (.slice (some ⟨w4.heap.size,0,none⟩) 0 cap)).heap[g0]? =some (.cells ((cs.setIfInBounds 256 (.slice (some ⟨T,0,none⟩) 1 3)).setIfInBounds 13 (.slice (some ⟨w4.heap.size,0,none⟩) 0 cap)) 215 (0,0)):=g9 JB 13 _ rfl;have fX:Below w.heap.size w (w5.setCell ⟨g0,13,none⟩ (.slice (some ⟨w4.heap.size,0,none⟩) 0 cap)):=(Pb.out.trans (aI.mono Pb.out.size)).setCell (p:=⟨g0,13,none⟩) E3 _;have uI:=eL.kept (bS w5 ⟨g0,13,none⟩ (.slice (some ⟨w4.heap.size,0,none⟩) 0 cap)) (.inr (by simp[Value.ownBlock];exact fun e=>OR e.symm))
   have HF:Hid (Bl w.heap.size g0 w (.int .i64 2) (w5.setCell ⟨g0,13,none⟩ (.slice (some ⟨w4.heap.size,0,none⟩) 0 cap))):=by
    refine⟨2,by omega,rfl,fX,_,T,TV,by simp[HA.out.size],fun k hk h=>?_,fun k hk h=>?_,?_,uI⟩
    ·by_cases sw:k=13
     ·exact⟨⟨w4.heap.size,0,none⟩,cap,by rw[sw,Array.getElem?_setIfInBounds_self_of_lt (by simp[HA.out.size])]⟩
     ·rw[Array.getElem?_setIfInBounds_ne (by omega),Array.getElem?_setIfInBounds_ne (by omega)];exact HA.out.hit k hk (by unfold it at h⊢;omega)
    ·have sw:k≠13:=fun e=>h (by unfold it;omega);rw[Array.getElem?_setIfInBounds_ne (by omega),Array.getElem?_setIfInBounds_ne (by omega)];exact HA.out.miss k hk (by unfold it at h⊢;omega)
    ·rw[Array.getElem?_setIfInBounds_ne (by omega),Array.getElem?_setIfInBounds_self_of_lt (by simp[HA.out.size])]
   clear JB eL TV fX uI
   go_wp2_with fail
   go_roundw
   case rel=>exact HF.out
   case measure=>simp[intOf]
  ·rw[<-Iy];clear Iy;have oc:wr.cell? ⟨G,2,none⟩=some (.string ⟨#[10]⟩):=by rw[aK.cell (p:=⟨G,2,none⟩) LM];exact O1.out 2 ⟨#[10]⟩ rfl
   have oe:wr.cell? ⟨G,3,none⟩=some (.string ⟨#[]⟩):=by rw[aK.cell (p:=⟨G,3,none⟩) LM];exact O1.out 3 ⟨#[]⟩ rfl
   have cg:=rowAt hA.row 10 (.slice none 0 0) (hA.miss 10 (by decide) (by unfold it;omega));have c256:=rowAt hA.row 256 (.slice (some ⟨T,0,none⟩) 1 3) hA.last;have qT:=fun W:World=>Lib.run_eql_slice_nil (P:=Tryz.prog) W 75 5 none 0 0 0 0 Tryz.underlying75;have zk:=fun W:World=>SY W;have Fc:(convert 75 9 (.slice (some ⟨wr.heap.size,0,none⟩) 1 1)).run Tryz.prog (wr.alloc (.cells #[.int .u8 10] 5))=.ok (.string ⟨#[10]⟩) (wr.alloc (.cells #[.int .u8 10] 5)):=wZ wr 10;have hT:T<wr.heap.size:=(hA.own.lt T rfl).2
   have OR:¬g0=T:=fun e=>by
    rcases hA.own.2 with⟨h,_⟩|⟨g1,cap,dB,h,_,hh,_⟩
    ·cases h
    ·injection h with h _ _;injection h with h;injection h with h1 _ _
     rw[<-h1,<-e,hA.row]at hh;injection hh with hh
     injection hh with _ h2 _
     exact absurd h2 (by decide)
   have AN:=(hA.own.alloc (.cells #[.int .u8 10] 5)).alloc (.cells #[.string ⟨#[10]⟩] 9);have HA:=Ih hA;have Z0:=Ih AN;have Fe:=aK.size;clear hA AN
   go_wp2_with (at_builtin;refine wpList_append_fits _ rfl (.tmp 119) (.tmp 123) 30 rfl w.heap.size 9 i0 1 Tryz.underlying30 hi ei T 1 3 _ rfl Z0.out ⟨wr.heap.size+1,0,none⟩ 1 1 [.string ⟨#[10]⟩] rfl rfl (fun j u hj=>by have:=bD (wr.alloc (.cells #[.int .u8 10] 5)) (.string ⟨#[10]⟩) 9 j u hj;simpa using this) (by simp[Value.oneCell']) (by omega) ?_)
   intro w3 eK Ju;have OS:g0<wr.heap.size:=af HA.out.row
   have AO:w3.heap[g0]? =some (.cells cs 215 (0,0)):=by
    rw[Ju.block g0 (by simp;omega) (fun e=>OR (by injection e)),Below.heap_alloc _ _ _ (by simp;omega),Below.heap_alloc _ _ _ OS];exact HA.out.row
   have aO:Below w.heap.size w w3:=((aK.alloc Fe _).alloc (by simp;omega) _).grown Ju (by simp;omega) (fun k hk=>by injection hk with hk;subst hk;exact(HA.out.own.lt _ rfl).1);have aae:=rowAt AO 256 _ HA.out.last;have aaS:=bE AO 256;have E3:w.heap.size<=g0:=Ws;have dy:Below w.heap.size w (w3.setCell ⟨g0,256,none⟩ (.slice (some ⟨T,0,none⟩) 2 3)):=aO.setCell (p:=⟨g0,256,none⟩) E3 _;have Un:(w3.setCell ⟨g0,256,none⟩ (.slice (some ⟨T,0,none⟩) 2 3)).heap[g0]? =some (.cells (cs.setIfInBounds 256 (.slice (some ⟨T,0,none⟩) 2 3)) 215 (0,0)):=g9 AO 256 _ rfl;have uP:=eK.kept (bS w3 ⟨g0,256,none⟩ (.slice (some ⟨T,0,none⟩) 2 3)) (.inr (by simp[Value.ownBlock];exact fun e=>OR e.symm));have gr:=Ih uP;have zm:=Ih Un;have Pb:=Ih dy;clear eK Ju AO aO uP Un dy Fc oc oe cg c256
   go_upto_region 34 with fail
   generalize w3.setCell ⟨g0,256,none⟩ (.slice (some ⟨T,0,none⟩) 2 3)=w4 at gr zm Pb⊢;have Uh:g0<w4.heap.size:=af zm.out;obtain⟨cap,w5,kb,aI⟩:=qu w4;have JB:w5.heap[g0]? =_:=(aI.block g0 Uh).trans zm.out;have eL:=bH gr.out aI;have c5:=rowAt JB 10 (.slice none 0 0) (by rw[Array.getElem?_setIfInBounds_ne (by omega)];exact HA.out.miss 10 (by decide) (by unfold it;omega));have f5:=bE JB 10;have TV:(w5.setCell ⟨g0,10,none⟩ (.slice (some ⟨w4.heap.size,0,none⟩) 0 cap)).heap[g0]? =some (.cells ((cs.setIfInBounds 256 (.slice (some ⟨T,0,none⟩) 2 3)).setIfInBounds 10 (.slice (some ⟨w4.heap.size,0,none⟩) 0 cap)) 215 (0,0)):=g9 JB 10 _ rfl;have fX:Below w.heap.size w (w5.setCell ⟨g0,10,none⟩ (.slice (some ⟨w4.heap.size,0,none⟩) 0 cap)):=(Pb.out.trans (aI.mono Pb.out.size)).setCell (p:=⟨g0,10,none⟩) E3 _;have uI:=eL.kept (bS w5 ⟨g0,10,none⟩ (.slice (some ⟨w4.heap.size,0,none⟩) 0 cap)) (.inr (by simp[Value.ownBlock];exact fun e=>OR e.symm))
   have HF:Hid (Bl w.heap.size g0 w (.int .i64 0) (w5.setCell ⟨g0,10,none⟩ (.slice (some ⟨w4.heap.size,0,none⟩) 0 cap))):=by
    refine⟨1,by omega,rfl,fX,_,T,TV,by simp[HA.out.size],fun k hk h=>?_,fun k hk h=>?_,?_,uI⟩
    ·by_cases sw:k=10
     ·exact⟨⟨w4.heap.size,0,none⟩,cap,by rw[sw,Array.getElem?_setIfInBounds_self_of_lt (by simp[HA.out.size])]⟩
     ·rw[Array.getElem?_setIfInBounds_ne (by omega),Array.getElem?_setIfInBounds_ne (by omega)];exact HA.out.hit k hk (by unfold it at h⊢;omega)
    ·have sw:k≠10:=fun e=>h (by unfold it;omega);rw[Array.getElem?_setIfInBounds_ne (by omega),Array.getElem?_setIfInBounds_ne (by omega)];exact HA.out.miss k hk (by unfold it at h⊢;omega)
    ·rw[Array.getElem?_setIfInBounds_ne (by omega),Array.getElem?_setIfInBounds_self_of_lt (by simp[HA.out.size])]
   clear JB eL TV fX uI
   go_wp2_with fail
   go_roundw
   case rel=>exact HF.out
   case measure=>simp[intOf]
  ·rw[<-Iy];clear Iy;have oc:wr.cell? ⟨G,0,none⟩=some (.string ⟨#[9]⟩):=by rw[aK.cell (p:=⟨G,0,none⟩) LM];exact O1.out 0 ⟨#[9]⟩ rfl
   have oe:wr.cell? ⟨G,1,none⟩=some (.string ⟨#[]⟩):=by rw[aK.cell (p:=⟨G,1,none⟩) LM];exact O1.out 1 ⟨#[]⟩ rfl
   have cg:=rowAt hA.row 9 (.slice none 0 0) (hA.miss 9 (by decide) (by unfold it;omega));have c256:=rowAt hA.row 256 (.slice (some ⟨T,0,none⟩) 2 3) hA.last;have qT:=fun W:World=>Lib.run_eql_slice_nil (P:=Tryz.prog) W 75 5 none 0 0 0 0 Tryz.underlying75;have zk:=fun W:World=>Y2 W;have Fc:(convert 75 9 (.slice (some ⟨wr.heap.size,0,none⟩) 1 1)).run Tryz.prog (wr.alloc (.cells #[.int .u8 9] 5))=.ok (.string ⟨#[9]⟩) (wr.alloc (.cells #[.int .u8 9] 5)):=wZ wr 9;have hT:T<wr.heap.size:=(hA.own.lt T rfl).2
   have OR:¬g0=T:=fun e=>by
    rcases hA.own.2 with⟨h,_⟩|⟨g1,cap,dB,h,_,hh,_⟩
    ·cases h
    ·injection h with h _ _;injection h with h;injection h with h1 _ _
     rw[<-h1,<-e,hA.row]at hh;injection hh with hh
     injection hh with _ h2 _
     exact absurd h2 (by decide)
   have AN:=(hA.own.alloc (.cells #[.int .u8 9] 5)).alloc (.cells #[.string ⟨#[9]⟩] 9);have HA:=Ih hA;have Z0:=Ih AN;have Fe:=aK.size;clear hA AN
   go_wp2_with (at_builtin;refine wpList_append_fits _ rfl (.tmp 119) (.tmp 123) 30 rfl w.heap.size 9 i0 1 Tryz.underlying30 hi ei T 2 3 _ rfl Z0.out ⟨wr.heap.size+1,0,none⟩ 1 1 [.string ⟨#[9]⟩] rfl rfl (fun j u hj=>by have:=bD (wr.alloc (.cells #[.int .u8 9] 5)) (.string ⟨#[9]⟩) 9 j u hj;simpa using this) (by simp[Value.oneCell']) (by omega) ?_)
   intro w3 eK Ju;have OS:g0<wr.heap.size:=af HA.out.row
   have AO:w3.heap[g0]? =some (.cells cs 215 (0,0)):=by
    rw[Ju.block g0 (by simp;omega) (fun e=>OR (by injection e)),Below.heap_alloc _ _ _ (by simp;omega),Below.heap_alloc _ _ _ OS];exact HA.out.row
   have aO:Below w.heap.size w w3:=((aK.alloc Fe _).alloc (by simp;omega) _).grown Ju (by simp;omega) (fun k hk=>by injection hk with hk;subst hk;exact(HA.out.own.lt _ rfl).1);have aae:=rowAt AO 256 _ HA.out.last;have aaS:=bE AO 256;have E3:w.heap.size<=g0:=Ws;have dy:Below w.heap.size w (w3.setCell ⟨g0,256,none⟩ (.slice (some ⟨T,0,none⟩) 3 3)):=aO.setCell (p:=⟨g0,256,none⟩) E3 _;have Un:(w3.setCell ⟨g0,256,none⟩ (.slice (some ⟨T,0,none⟩) 3 3)).heap[g0]? =some (.cells (cs.setIfInBounds 256 (.slice (some ⟨T,0,none⟩) 3 3)) 215 (0,0)):=g9 AO 256 _ rfl;have uP:=eK.kept (bS w3 ⟨g0,256,none⟩ (.slice (some ⟨T,0,none⟩) 3 3)) (.inr (by simp[Value.ownBlock];exact fun e=>OR e.symm));have gr:=Ih uP;have zm:=Ih Un;have Pb:=Ih dy;clear eK Ju AO aO uP Un dy Fc oc oe cg c256
   go_upto_region 34 with fail
   generalize w3.setCell ⟨g0,256,none⟩ (.slice (some ⟨T,0,none⟩) 3 3)=w4 at gr zm Pb⊢;have Uh:g0<w4.heap.size:=af zm.out;obtain⟨cap,w5,kb,aI⟩:=qu w4;have JB:w5.heap[g0]? =_:=(aI.block g0 Uh).trans zm.out;have eL:=bH gr.out aI;have c5:=rowAt JB 9 (.slice none 0 0) (by rw[Array.getElem?_setIfInBounds_ne (by omega)];exact HA.out.miss 9 (by decide) (by unfold it;omega));have f5:=bE JB 9;have TV:(w5.setCell ⟨g0,9,none⟩ (.slice (some ⟨w4.heap.size,0,none⟩) 0 cap)).heap[g0]? =some (.cells ((cs.setIfInBounds 256 (.slice (some ⟨T,0,none⟩) 3 3)).setIfInBounds 9 (.slice (some ⟨w4.heap.size,0,none⟩) 0 cap)) 215 (0,0)):=g9 JB 9 _ rfl;have fX:Below w.heap.size w (w5.setCell ⟨g0,9,none⟩ (.slice (some ⟨w4.heap.size,0,none⟩) 0 cap)):=(Pb.out.trans (aI.mono Pb.out.size)).setCell (p:=⟨g0,9,none⟩) E3 _;have uI:=eL.kept (bS w5 ⟨g0,9,none⟩ (.slice (some ⟨w4.heap.size,0,none⟩) 0 cap)) (.inr (by simp[Value.ownBlock];exact fun e=>OR e.symm))
   have HF:Hid (Bl w.heap.size g0 w (.int .i64 (-2)) (w5.setCell ⟨g0,9,none⟩ (.slice (some ⟨w4.heap.size,0,none⟩) 0 cap))):=by
    refine⟨0,by omega,rfl,fX,_,T,TV,by simp[HA.out.size],fun k hk h=>?_,fun k hk h=>?_,?_,uI⟩
    ·by_cases sw:k=9
     ·exact⟨⟨w4.heap.size,0,none⟩,cap,by rw[sw,Array.getElem?_setIfInBounds_self_of_lt (by simp[HA.out.size])]⟩
     ·rw[Array.getElem?_setIfInBounds_ne (by omega),Array.getElem?_setIfInBounds_ne (by omega)];exact HA.out.hit k hk (by unfold it at h⊢;omega)
    ·have sw:k≠9:=fun e=>h (by unfold it;omega);rw[Array.getElem?_setIfInBounds_ne (by omega),Array.getElem?_setIfInBounds_ne (by omega)];exact HA.out.miss k hk (by unfold it at h⊢;omega)
    ·rw[Array.getElem?_setIfInBounds_ne (by omega),Array.getElem?_setIfInBounds_self_of_lt (by simp[HA.out.size])]
   clear JB eL TV fX uI
   go_wp2_with fail
   go_roundw
   case rel=>exact HF.out
   case measure=>simp[intOf]
  ·rw[<-Iy];clear Iy
   have HF:Hid (Oe w (.returned (.iface 216 (.pointer (some ⟨g0,0,none⟩)))) wr):=by
    refine⟨g0,rfl,aK,⟨cs,hA.row,fun k hk=>?_,?_⟩⟩
    ·split
     ·exact hA.hit k hk (by unfold it;omega)
     ·exact hA.miss k hk (by unfold it;omega)
    ·rcases hA.own.2 with⟨h,_⟩|⟨g1,cap,dB,h,_,hh,_,_,_,gH⟩
     ·cases h
     ·injection h with h _ iW
      injection h with h
      injection h with h1 _ _
      subst h1
      have LW:∀(k:Nat) (x:ByteArray),toB[k]? =some x->dB[k]? =some (Value.string x):=by
       intro k x hk;have h1:(toB.map Value.string)[k]? =some (Value.string x):=by rw[List.getElem?_map,hk];rfl
       have h2:dB.toList.take 3=toB.map Value.string:=gH;rw[<-h2,List.getElem?_take]at h1;split at h1
       ·simpa using h1
       ·cases h1
      exact⟨T,3,dB,hA.last,hh,LW 0 _ rfl,LW 1 _ rfl,LW 2 _ rfl⟩
   clear hA
   go_wp2_with fail
   go_ret;exact HF.out
theorem UC (B b:Nat) (e:Int) (G c:Nat) (w:World) (tK:B<=b) (hr:bP w b 0 1 e .nilIface (.slice (some ⟨G,0,none⟩) 6 c)) (au:w.ownsRow B 9 1 (.slice (some ⟨G,0,none⟩) 6 c) 6 (rsB.map Value.string)) (hB:B<=w.heap.size):
  Calls Tryz.prog 86 #[.pointer (some ⟨b,0,none⟩)] w fun e' w'=>e'=.returned (.tuple #[])/\mZ B b 0 1 e w w':=by
 have cB:=Ih (Kz B b e G c w hr au);have HR:=Ih hr;have VK:b<w.heap.size:=af hr;clear hr au;go_enter Tryz.func86,Tryz.ntmps86
 go_wp2_with fail
 refine cB.out.mono ?_;rintro e1 w1 ⟨g,rfl,ar,vq⟩;have bC:bP w1 b 0 1 e .nilIface (.slice (some ⟨G,0,none⟩) 6 c):=(ar.block b VK).trans HR.out;have c3:=rowAt bC 3 .nilIface rfl;have f3:=bE bC 3;have bB:=bP.set bC 3 (.iface 216 (.pointer (some ⟨g,0,none⟩))) (d':=0) (s':=1) (rv':=.iface 216 (.pointer (some ⟨g,0,none⟩))) (ov':=.slice (some ⟨G,0,none⟩) 6 c) (by simp);have yg:=jk.set vq bC 3 (.iface 216 (.pointer (some ⟨g,0,none⟩)));have c4:=rowAt bB 4 (.slice (some ⟨G,0,none⟩) 6 c) rfl;have f4:=bE bB 4;have oZ:=bP.set bB 4 (.slice none 0 0) (d':=0) (s':=1) (rv':=.iface 216 (.pointer (some ⟨g,0,none⟩))) (ov':=.slice none 0 0) (by simp);have o8:=jk.set yg bB 4 (.slice none 0 0);have pA:=((ar.mono hB).setCell (p:=⟨b,3,none⟩) tK (.iface 216 (.pointer (some ⟨g,0,none⟩)))).setCell (p:=⟨b,4,none⟩) tK (.slice none 0 0);have HF:Hid (mZ B b 0 1 e w ((w1.setCell ⟨b,3,none⟩ (.iface 216 (.pointer (some ⟨g,0,none⟩)))).setCell ⟨b,4,none⟩ (.slice none 0 0))):=⟨pA,g,oZ,o8⟩;clear bC bB oZ vq yg o8 pA
 go_wp2_with fail
 go_end0
 exact⟨rfl,HF.out⟩
end Go.Proofs.YtecoeebjaleeiaaGreatDoor
namespace Lz
open Go
def nl (c:UInt8):Bool:=c==9||c==10||c==13
def ej (l:Bs):Bs:=l.filter fun c=> !(c==9||c==10||c==13)
def nc (l:Bs):Nat:=l.countP nl
theorem zO (l:Bs):(ej l).length+nc l=l.length:=by
 induction l with
 | nil=>rfl
 | cons c r ih=>
   unfold ej nc at *;rw[List.filter_cons,List.countP_cons];by_cases h:(c==9||c==10||c==13)=true
   ·have hb:nl c=true:=h;simp only[h,hb,Bool.not_true,Bool.false_eq_true,if_false,if_true,List.length_cons];omega
   ·have h':(c==9||c==10||c==13)=false:=by simpa using h
    have hb:nl c=false:=h';simp only[h',hb,Bool.not_false,if_true,Bool.false_eq_true,if_false,List.length_cons];omega
theorem Gq (l:Bs):l.count 13+l.count 10+l.count 9=nc l:=by
 induction l with
 | nil=>rfl
 | cons c r ih=>
   unfold nc at *;rw[List.countP_cons,List.count_cons,List.count_cons,List.count_cons,<-ih];by_cases h9:c=9
   ·subst h9;simp[nl];omega
   ·by_cases Me:c=10
    ·subst Me;simp[nl];omega
    ·by_cases sw:c=13
     ·subst sw;simp[nl];omega
     ·have hb:nl c=false:=by simp[nl,h9,Me,sw]
      simp[hb,h9,Me,sw]
theorem xq {l:Bs} {i:Nat} {c:UInt8} (h:l[i]? =some c):nc (l.take (i+1))=nc (l.take i)+(if nl c then 1 else 0):=by
 obtain⟨hi,he⟩:=List.getElem?_eq_some_iff.1 h;rw[List.take_succ_eq_append_getElem hi,he];unfold nc;rw[List.countP_append];simp[List.countP_cons]
theorem uW {l:Bs} {i:Nat} {c:UInt8} (h:l[i]? =some c):ej (l.take (i+1))=ej (l.take i)++(if nl c then[]else[c]):=by
 obtain⟨hi,he⟩:=List.getElem?_eq_some_iff.1 h;rw[List.take_succ_eq_append_getElem hi,he];unfold ej;rw[List.filter_append];congr 1;by_cases h9:(c==9||c==10||c==13)=true
 ·have hb:nl c=true:=h9;simp only[hb,if_true,List.filter_cons,h9,Bool.not_true,Bool.false_eq_true,if_false,List.filter_nil]
 ·have h9':(c==9||c==10||c==13)=false:=by simpa using h9
  have hb:nl c=false:=h9';simp only[hb,Bool.false_eq_true,if_false,List.filter_cons,h9',Bool.not_false,if_true,List.filter_nil]
theorem BB (l:Bs) (i:Nat):nc (l.take i)<=nc l:=by
 unfold nc;exact List.Sublist.countP_le (List.take_sublist i l)
theorem Ke {l:Bs} (h:nc l=0):ej l=l:=by
 unfold ej nc at *;rw[List.filter_eq_self];intro c hc;have:=List.countP_eq_zero.1 h c hc;simpa [nl]using this
end Lz
namespace Go.Proofs.YtecoeebjaleeiaaGreatDoor
open Go.RowKit
theorem rC {w:World} {g:Nat} (h:jk w g) (c:UInt8):if Lz.nl c then ∃A cap,w.cell? ⟨g,c.toNat,none⟩=some (.slice (some A) 0 cap)else w.cell? ⟨g,c.toNat,none⟩=some (.slice none 0 0):=by
 obtain⟨cs,hr,hc,_⟩:=h.row;have h1:=hc c.toNat c.toNat_lt;by_cases hq:c=9\/c=10\/c=13
 ·have hb:Lz.nl c=true:=by rcases hq with h|h|h<;>(subst h;rfl)
  have bQ:c.toNat=9\/c.toNat=10\/c.toNat=13:=by rcases hq with h|h|h<;>(subst h;decide)
  rw[if_pos bQ]at h1;rw[if_pos hb];obtain⟨A,cap,h2⟩:=h1;exact⟨A,cap,rowAt hr _ _ h2⟩
 ·have hb:¬Lz.nl c=true:=by
   intro h;apply hq;unfold Lz.nl at h;simp only[Bool.or_eq_true,beq_iff_eq]at h;rcases h with(h|h)|h
   ·exact .inl h
   ·exact .inr (.inl h)
   ·exact .inr (.inr h)
  have bQ:¬(c.toNat=9\/c.toNat=10\/c.toNat=13):=fun h=>hq (by
   rcases h with h|h|h
   ·exact .inl (UInt8.toNat_inj.1 h)
   ·exact .inr (.inl (UInt8.toNat_inj.1 h))
   ·exact .inr (.inr (UInt8.toNat_inj.1 h)))
  rw[if_neg bQ]at h1;rw[if_neg hb];exact rowAt hr _ _ h1
def Dd (l:List UInt8):Nat->Nat
 | 0=>0
 | 1=>l.count 13
 | 2=>l.count 13+l.count 10
 | _=>l.count 13+l.count 10+l.count 9
def Bh (s:ByteArray) (w:World) (s5 s6:Value) (wx:World):Prop:=∃(kn:Nat) (y:Bool),s5=.int .i64 (kn:Int)/\s6=.bool y/\Hid (kn=(Lz.ej s.data.toList).length)/\Hid (y=decide (Lz.nc s.data.toList≠0))/\Below w.heap.size w wx
def qF (s:ByteArray) (_G:Nat) (w:World) (a b k:Value) (wr:World):Prop:=
 ∃(m q:Nat) (z:Int) (y:Bool),m<=3/\k=.int .i64 m/\Hid (q=Dd s.data.toList m)/\a=.int .i64 z/\b=.bool y/\Hid (z=(s.size:Int)-(q:Int))/\Hid (y=decide (q≠0))/\Below w.heap.size w wr
theorem Qm (g:Nat) (s:ByteArray) (hs:s.size<=1000000000) (w:World) (hb:jk w g):Calls Tryz.prog 338 #[.pointer (some ⟨g,0,none⟩),.string s] w (gJ (Lz.ej s.data.toList) w):=by
 obtain⟨cs,aZ,iZ,G,aaR,LY,jl,mM,ht0,ZB,ht2⟩:=hb.row;have c256:=rowAt aZ 256 _ jl;have t0:=rowAt mM 0 _ ht0;have t1:=rowAt mM 1 _ ZB;have t2:=rowAt mM 2 _ ht2;have ba:=Lz.zO s.data.toList;rw[aa]at ba;have yq:=Lz.Gq s.data.toList;have HB:=Ih hb;clear hb aZ iZ jl mM ht0 ZB ht2;go_enter Tryz.func338,Tryz.ntmps338;obtain⟨XQ,SL⟩:∃XQ,XQ=decide (24<=s.size):=⟨_,rfl⟩;have Sm:=Ih SL;clear SL
 go_upto_region 3 with fail
 go_cut [26] (fun s26 wx=>s26=.bool XQ/\w=wx)
 case first=>
  by_cases h24:24<=s.size
  ·have aci:(24:Int)<=(s.size:Int):=by omega
   have hbt:XQ=true:=by rw[Sm.out,decide_eq_true h24]
   subst hbt
   go_wp2_with fail
   go_meet;exact⟨rfl,rfl⟩
  ·have aci:¬(24:Int)<=(s.size:Int):=by omega
   have hbt:XQ=false:=by rw[Sm.out,decide_eq_false h24]
   subst hbt
   go_wp2_with fail
   go_meet;exact⟨rfl,rfl⟩
 case rest=>
 obtain⟨rfl,rfl⟩:=hcut
 go_upto_if 26 with fail
 go_cut [5,6] (fun s5 s6 wx=>Bh s w s5 s6 wx)
 case first=>
  cases XQ with
  | true=>
    have LM:G<w.heap.size:=World.block_lt_of_cell? _ _ t0;have T0:=Ih t0;have T1:=Ih t1;have T2:=Ih t2
    have H3:Hid (∀k,Dd s.data.toList k<=s.size):=Ih (fun k=>by
     have h1:Dd s.data.toList k<=Lz.nc s.data.toList:=by
      rw[<-yq];unfold Dd;split<;>omega
     omega)
    have Xw:=Ih yq;have nU:=Ih ba;clear t0 t1 t2 yq ba
    go_wp2_with fail
    go_loopw [5,6,32] (fun a b k wr=>qF s G w a b k wr) (fun _ _ k _=>3-(intOf k).toNat)
    case atStart=>exact⟨0,0,s.size,false,by omega,rfl,Ih rfl,rfl,rfl,Ih (by simp),Ih rfl,Below.refl _ _⟩
    case round=>
     obtain⟨m,q,z,y,hm,rfl,hq,rfl,rfl,hz,hy,aK⟩:=hrel;have hqs:q<=s.size:=by rw[hq.out];exact H3.out m
     have fI:0<=z:=by rw[hz.out];omega
     have ei:z<=(s.size:Int):=by rw[hz.out];omega
     have aU:(s.size:Int)<=1000000000:=by omega
     obtain rfl|rfl|rfl|rfl:m=0\/m=1\/m=2\/m=3:=by omega
     ·have vp:s.data.toList.count 13<=s.size:=by rw[<-aa];exact List.count_le_length
      have u0:wr.cell? ⟨G,0,none⟩=some (.string ⟨#[13]⟩):=by rw[aK.cell (p:=⟨G,0,none⟩) LM];exact T0.out
      have cC:=Ih (BC s 13 wr);have bQ:Hid (q+s.data.toList.count 13=Dd s.data.toList 1):=by show _=_;rw[hq.out];simp[Dd]
      have JE:q+s.data.toList.count 13<=s.size:=by rw[bQ.out];exact H3.out 1
      generalize s.data.toList.count 13=n at cC bQ vp JE;by_cases yd:n=0
      ·have WP:((n:Int) != 0)=false:=by rw[yd];rfl
       have HF:Hid (qF s G w (.int .i64 z) (.bool y) (.int .i64 1) wr):=⟨1,q,z,y,by omega,rfl,by rw[<-bQ.out,yd];rfl,rfl,rfl,hz,hy,aK⟩;clear yd hq bQ
       go_wp2_with fail
       refine cC.out.mono ?_;rintro e w2 ⟨rfl,rfl⟩
       go_wp2_with fail
       go_roundw
       case rel=>exact HF.out
       case measure=>simp[intOf]
      ·have WP:((n:Int) != 0)=true:=by simp[yd]
       have hqn:Hid (decide (q+n≠0)=true):=Ih (decide_eq_true (by omega))
       obtain⟨A1,VI,v1⟩:∃A cap,wr.cell? ⟨g,13,none⟩=some (.slice (some A) 0 cap):=by
        have h:=rC (HB.out.below aK) 13;exact h
       have zk:=fun W:World=>Th W;clear hq
       go_wp2_with fail
       refine cC.out.mono ?_;rintro e w2 ⟨rfl,rfl⟩
       go_wp2_with fail
       go_quiet (fail)
       have nW:Below w.heap.size w (wr.drewN nq):=below_drewN aK nq;generalize wr.drewN nq=wq at nW⊢;have HF:Hid (∀z2:Int,z2=(s.size:Int)-((q+n:Nat):Int)->qF s G w (.int .i64 z2) (.bool true) (.int .i64 1) wq):=Ih (fun z2 h2=>⟨1,q+n,z2,true,by omega,rfl,bQ,rfl,rfl,Ih h2,Ih (by rw[hqn.out]),nW⟩)
       go_wp2_with fail
       go_roundw
       case rel=>exact HF.out _ (by rw[hz.out];omega)
       case measure=>simp[intOf]
     ·have vp:s.data.toList.count 10<=s.size:=by rw[<-aa];exact List.count_le_length
      have u1:wr.cell? ⟨G,1,none⟩=some (.string ⟨#[10]⟩):=by rw[aK.cell (p:=⟨G,1,none⟩) LM];exact T1.out
      have cC:=Ih (BC s 10 wr);have bQ:Hid (q+s.data.toList.count 10=Dd s.data.toList 2):=by show _=_;rw[hq.out];rfl
      have JE:q+s.data.toList.count 10<=s.size:=by rw[bQ.out];exact H3.out 2
      generalize s.data.toList.count 10=n at cC bQ vp JE;by_cases yd:n=0
      ·have WP:((n:Int) != 0)=false:=by rw[yd];rfl
       have HF:Hid (qF s G w (.int .i64 z) (.bool y) (.int .i64 2) wr):=⟨2,q,z,y,by omega,rfl,by rw[<-bQ.out,yd];rfl,rfl,rfl,hz,hy,aK⟩;clear yd hq bQ
       go_wp2_with fail
       refine cC.out.mono ?_;rintro e w2 ⟨rfl,rfl⟩
       go_wp2_with fail
       go_roundw
       case rel=>exact HF.out
       case measure=>simp[intOf]
      ·have WP:((n:Int) != 0)=true:=by simp[yd]
       have hqn:Hid (decide (q+n≠0)=true):=Ih (decide_eq_true (by omega))
       obtain⟨A1,VI,v1⟩:∃A cap,wr.cell? ⟨g,10,none⟩=some (.slice (some A) 0 cap):=by
        have h:=rC (HB.out.below aK) 10;exact h
       have zk:=fun W:World=>SY W;clear hq
       go_wp2_with fail
       refine cC.out.mono ?_;rintro e w2 ⟨rfl,rfl⟩
       go_wp2_with fail
       go_quiet (fail)
       have nW:Below w.heap.size w (wr.drewN nq):=below_drewN aK nq;generalize wr.drewN nq=wq at nW⊢;have HF:Hid (∀z2:Int,z2=(s.size:Int)-((q+n:Nat):Int)->qF s G w (.int .i64 z2) (.bool true) (.int .i64 2) wq):=Ih (fun z2 h2=>⟨2,q+n,z2,true,by omega,rfl,bQ,rfl,rfl,Ih h2,Ih (by rw[hqn.out]),nW⟩)
       go_wp2_with fail
       go_roundw
       case rel=>exact HF.out _ (by rw[hz.out];omega)
       case measure=>simp[intOf]
     ·have vp:s.data.toList.count 9<=s.size:=by rw[<-aa];exact List.count_le_length
      have u2:wr.cell? ⟨G,2,none⟩=some (.string ⟨#[9]⟩):=by rw[aK.cell (p:=⟨G,2,none⟩) LM];exact T2.out
      have cC:=Ih (BC s 9 wr);have bQ:Hid (q+s.data.toList.count 9=Dd s.data.toList 3):=by show _=_;rw[hq.out];rfl
      have JE:q+s.data.toList.count 9<=s.size:=by rw[bQ.out];exact H3.out 3
      generalize s.data.toList.count 9=n at cC bQ vp JE;by_cases yd:n=0
      ·have WP:((n:Int) != 0)=false:=by rw[yd];rfl
       have HF:Hid (qF s G w (.int .i64 z) (.bool y) (.int .i64 3) wr):=⟨3,q,z,y,by omega,rfl,by rw[<-bQ.out,yd];rfl,rfl,rfl,hz,hy,aK⟩;clear yd hq bQ
       go_wp2_with fail
       refine cC.out.mono ?_;rintro e w2 ⟨rfl,rfl⟩
       go_wp2_with fail
       go_roundw
       case rel=>exact HF.out
       case measure=>simp[intOf]
      ·have WP:((n:Int) != 0)=true:=by simp[yd]
       have hqn:Hid (decide (q+n≠0)=true):=Ih (decide_eq_true (by omega))
       obtain⟨A1,VI,v1⟩:∃A cap,wr.cell? ⟨g,9,none⟩=some (.slice (some A) 0 cap):=by
        have h:=rC (HB.out.below aK) 9;exact h
       have zk:=fun W:World=>Y2 W;clear hq
       go_wp2_with fail
       refine cC.out.mono ?_;rintro e w2 ⟨rfl,rfl⟩
       go_wp2_with fail
       go_quiet (fail)
       have nW:Below w.heap.size w (wr.drewN nq):=below_drewN aK nq;generalize wr.drewN nq=wq at nW⊢;have HF:Hid (∀z2:Int,z2=(s.size:Int)-((q+n:Nat):Int)->qF s G w (.int .i64 z2) (.bool true) (.int .i64 3) wq):=Ih (fun z2 h2=>⟨3,q+n,z2,true,by omega,rfl,bQ,rfl,rfl,Ih h2,Ih (by rw[hqn.out]),nW⟩)
       go_wp2_with fail
       go_roundw
       case rel=>exact HF.out _ (by rw[hz.out];omega)
       case measure=>simp[intOf]
     ·have Cc:q=Lz.nc s.data.toList:=by rw[hq.out,<-Xw.out];rfl
      have HF:Hid (Bh s w (.int .i64 z) (.bool y) wr):=⟨(Lz.ej s.data.toList).length,y,by have:=nU.out;have:=hz.out;congr 1;omega,rfl,Ih rfl,Ih (by rw[hy.out,Cc]),aK⟩;clear hq Cc
      go_wp2_with fail
      go_meet;exact HF.out
  | false=>
    have nU:=Ih ba;clear t0 t1 t2 yq ba c256 Sm
    go_wp2_with fail
    go_loopw [5,6,10] (fun a b k wr=>∃(i q:Nat) (z:Int) (y:Bool),i<=s.size/\k=.int .i64 i/\Hid (q=Lz.nc (s.data.toList.take i))/\a=.int .i64 z/\b=.bool y/\Hid (z=(s.size:Int)-(q:Int))/\Hid (y=decide (q≠0))/\w=wr) (fun _ _ k _=>s.size-(intOf k).toNat)
    case atStart=>exact⟨0,0,s.size,false,Nat.zero_le _,rfl,Ih rfl,rfl,rfl,Ih (by simp),Ih rfl,rfl⟩
    case round=>
     obtain⟨i,q,z,y,hi,rfl,hq,rfl,rfl,hz,hy,rfl⟩:=hrel
     have hqs:q<=s.size:=by
      have h1:=Lz.BB s.data.toList i;have h2:=nU.out;rw[hq.out];omega
     have fI:0<=z:=by rw[hz.out];omega
     have ei:z<=(s.size:Int):=by rw[hz.out];omega
     have aU:(s.size:Int)<=1000000000:=by omega
     by_cases aV:i<s.size
     ·have bW:(i:Int)<(s.size:Int):=by omega
      have o9:(0:Int)<=(i:Int):=by omega
      obtain⟨c,hc⟩:∃c,c=s[i]:=⟨_,rfl⟩;have TH:(s[i].toNat:Int)=(c.toNat:Int):=by rw[hc]
      have qg:s.data.toList[i]? =some c:=by rw[aB aV,hc]
      have Fo:=Lz.xq qg;have bc:=rC HB.out c;have Uc:(c.toNat:Int)<256:=by have:=c.toNat_lt;omega
      have qP:(0:Int)<=(c.toNat:Int):=by omega
      cases hb:Lz.nl c with
      | true=>
        rw[hb,if_pos rfl]at bc Fo;obtain⟨A1,VI,v1⟩:=bc;have bQ:Hid (q+1=Lz.nc (s.data.toList.take (i+1))):=by show _=_;rw[Fo,hq.out]
        have P1:Hid (true=decide (q+1≠0)):=Ih (by simp);have Fa:=fun W:World=>run_neq_slice_nil_any (P:=Tryz.prog) W 75 5 (some A1) 0 VI 0 0 Tryz.underlying75;clear hb Fo hc qg hq
        go_wp2_with fail
        go_roundw
        case rel=>exact⟨i+1,q+1,z-1,true,by omega,by go_num,bQ,by go_num,rfl,Ih (by rw[hz.out];omega),P1,trivial⟩
        case measure=>simp[intOf];omega
      | false=>
        rw[hb,if_neg (by simp)]at bc Fo;have bQ:Hid (q=Lz.nc (s.data.toList.take (i+1))):=by show _=_;rw[Fo,hq.out];rfl
        have Fa:=fun W:World=>run_neq_slice_nil_any (P:=Tryz.prog) W 75 5 none 0 0 0 0 Tryz.underlying75;clear hb Fo hc qg hq
        go_wp2_with fail
        go_roundw
        case rel=>exact⟨i+1,q,z,y,by omega,by go_num,bQ,rfl,rfl,hz,hy,trivial⟩
        case measure=>simp[intOf];omega
     ·have bW:¬(i:Int)<(s.size:Int):=by omega
      have Cc:q=Lz.nc s.data.toList:=by rw[hq.out,List.take_of_length_le (by rw[aa];omega)]
      have HF:Hid (Bh s w (.int .i64 z) (.bool y) w):=⟨(Lz.ej s.data.toList).length,y,by have:=nU.out;have:=hz.out;congr 1;omega,rfl,Ih rfl,Ih (by rw[hy.out,Cc]),Below.refl _ _⟩;clear hq Cc
      go_wp2_with fail
      go_meet;exact HF.out
 case rest=>
  obtain⟨kn,y,rfl,rfl,hkn,hy,aK⟩:=hcut;have nU:=Ih ba;clear t0 t1 t2 yq ba c256 Sm;cases y with
  | false=>
    have HK:Hid (s.data.toList=Lz.ej s.data.toList):=Ih (Lz.Ke (by have:=of_decide_eq_false hy.out.symm;omega)).symm
    go_wp2_with fail
    go_ret;exact⟨s,rfl,HK,aK⟩
  | true=>
    obtain⟨iu,hiu,abR,abB,act⟩:=info_parts Tryz.infoU8;have WU:kn<=s.size:=by rw[hkn.out];have:=nU.out;omega
    have Fe:=aK.size
    go_wp2_with (refine wpList_make_full _ rfl (.tmp 84) (.tmp 84) 75 rfl w.heap.size 5 iu (.int .u8 0) 1 Tryz.underlying75 hiu abR abB .i64 .i64 kn kn kn rfl rfl rfl rfl (by rw[act];omega) (by unfold maxLen;omega) Fe ?_)
    intro w2 dJ zl;have az:Below w.heap.size w w2:=aK.grown zl Fe (fun k hk=>by cases hk);obtain⟨GB,hGB⟩:∃GB,GB=wc.heap.size:=⟨_,rfl⟩;rw[<-hGB]at dJ⊢
    have eK:w2.ownsRow w.heap.size 5 1 (.slice (some ⟨GB,0,none⟩) kn kn) kn (u8s (Lz.ej (s.data.toList.take 0))++List.replicate (kn-0) (.int .u8 0)):=by
     rw[toList_madeCells_one]at dJ;exact dJ
    have fi:=Ih eK;have HB2:=Ih az;clear dJ eK zl az hGB aK
    go_wp2_with fail
    go_loopw [13,14] (fun a b wr=>∃i j:Nat,i<=s.size/\a=.int .i64 j/\b=.int .i64 i/\Hid (j=(Lz.ej (s.data.toList.take i)).length)/\Below w.heap.size w wr/\Hid (wr.ownsRow w.heap.size 5 1 (.slice (some ⟨GB,0,none⟩) kn kn) kn (u8s (Lz.ej (s.data.toList.take i))++List.replicate (kn-j) (.int .u8 0)))) (fun _ b _=>s.size-(intOf b).toNat)
    case atStart=>exact⟨0,0,Nat.zero_le _,rfl,rfl,Ih rfl,HB2.out,fi⟩
    case round=>
     obtain⟨i,j,hi,rfl,rfl,hj,aK,hO⟩:=hrel
     have X0:j<=kn:=by
      rw[hj.out,hkn.out];have h1:=Lz.zO (s.data.toList.take i);unfold Lz.ej;exact List.Sublist.length_le (List.Sublist.filter _ (List.take_sublist i _))
     have acS:(j:Int)<=(kn:Int):=by omega
     by_cases aV:i<s.size
     ·have bW:(i:Int)<(s.size:Int):=by omega
      have o9:(0:Int)<=(i:Int):=by omega
      have tM:(0:Int)<=(j:Int):=by omega
      obtain⟨c,hc⟩:∃c,c=s[i]:=⟨_,rfl⟩;have TH:(s[i].toNat:Int)=(c.toNat:Int):=by rw[hc]
      have qg:s.data.toList[i]? =some c:=by rw[aB aV,hc]
      have Fo:=Lz.uW qg;have bc:=rC (HB.out.below aK) c;have Uc:(c.toNat:Int)<256:=by have:=c.toNat_lt;omega
      have qP:(0:Int)<=(c.toNat:Int):=by omega
      cases hb:Lz.nl c with
      | true=>
        rw[hb,if_pos rfl]at bc Fo;obtain⟨A1,VI,v1⟩:=bc;rw[List.append_nil]at Fo;have Fa:=fun W:World=>run_neq_slice_nil_any (P:=Tryz.prog) W 75 5 (some A1) 0 VI 0 0 Tryz.underlying75;have hcp:=fun(d:Option Addr) (dl dc:Nat) (ty:TypeId) (W:World)=>run_copy_none (P:=Tryz.prog) W 75 75 ty 5 d (some A1) dl dc 0 VI Tryz.underlying75 (by kernel_rfl) (by simp);have SB:Hid (∀W,Below wr.heap.size wr W->W.ownsRow w.heap.size 5 1 (.slice (some ⟨GB,0,none⟩) kn kn) kn (u8s (Lz.ej (s.data.toList.take (i+1)))++List.replicate (kn-j) (.int .u8 0))):=Ih (fun W hW=>by rw[Fo];exact bH hO.out hW);have Ic:Hid (j=(Lz.ej (s.data.toList.take (i+1))).length):=by show _=_;rw[Fo];exact hj.out
        clear hb Fo hc qg hj hO
        go_wp2_with fail
        go_region
        all_goals
         go_wp2_with fail
         go_roundw
         case rel=>exact⟨i+1,j,by omega,by go_num,by go_num,Ic,aK.drew,Ih (SB.out _ (Below.refl _ _).drew)⟩
         case measure=>simp[intOf];omega
      | false=>
        rw[hb,if_neg (by simp)]at bc Fo;have Fa:=fun W:World=>run_neq_slice_nil_any (P:=Tryz.prog) W 75 5 none 0 0 0 0 Tryz.underlying75;have Ic:Hid (j+1=(Lz.ej (s.data.toList.take (i+1))).length):=by show _=_;rw[Fo,hj.out,List.length_append];rfl
        have ac4:j<kn:=by
         have h1:(Lz.ej (s.data.toList.take (i+1))).length<=(Lz.ej s.data.toList).length:=by
          unfold Lz.ej;exact List.Sublist.length_le (List.Sublist.filter _ (List.take_sublist (i+1) _))
         rw[<-Ic.out,<-hkn.out]at h1;omega
        have acE:(j:Int)<(kn:Int):=by omega
        have hgl:GB<wr.heap.size:=(hO.out.lt GB rfl).2;have hgw:w.heap.size<=GB:=(hO.out.lt GB rfl).1
        obtain⟨vj,cj⟩:∃v,wr.cell? ⟨GB,j,none⟩=some v:=by
         have h1:=hO.out.cellAt j (by omega);have h2:j<(u8s (Lz.ej (s.data.toList.take i))++List.replicate (kn-j) (Value.int .u8 0)).length:=by rw[hO.out.1];omega
         exact⟨_,h1.trans (List.getElem?_eq_getElem h2)⟩
        have fj:=hO.out.frozenAt j;have hst:=(hO.out.stored j (.int .u8 (c.toNat:Int))).1
        have lj:(u8s (Lz.ej (s.data.toList.take i))++List.replicate (kn-j) (Value.int .u8 0)).set j (.int .u8 (c.toNat:Int))=u8s (Lz.ej (s.data.toList.take (i+1)))++List.replicate (kn-(j+1)) (Value.int .u8 0):=by
         have hl:(u8s (Lz.ej (s.data.toList.take i))).length=j:=by rw[hj.out];simp[u8s]
         rw[List.set_append_right _ _ (by omega),hl,Nat.sub_self,Fo,show kn-j=(kn-(j+1))+1 by omega,List.replicate_succ,List.set_cons_zero]
         simp[u8s]
        rw[lj]at hst;have aO:=aK.setCell (p:=⟨GB,j,none⟩) hgw (.int .u8 (c.toNat:Int));have HF:Hid (wr.setCell ⟨GB,j,none⟩ (.int .u8 (c.toNat:Int)) |>.ownsRow w.heap.size 5 1 (.slice (some ⟨GB,0,none⟩) kn kn) kn (u8s (Lz.ej (s.data.toList.take (i+1)))++List.replicate (kn-(j+1)) (.int .u8 0))):=Ih hst;have Hb3:=Ih aO;clear hb Fo hc qg hj hO lj hst aO
        go_wp2_with fail
        go_roundw
        case rel=>exact⟨i+1,j+1,by omega,by go_num,by go_num,Ic,Hb3.out,HF⟩
        case measure=>simp[intOf];omega
     ·have bW:¬(i:Int)<(s.size:Int):=by omega
      have gH:s.data.toList.take i=s.data.toList:=List.take_of_length_le (by rw[aa];omega);have hje:j=kn:=by rw[hj.out,gH,hkn.out]
      have SB:wr.ownsRow w.heap.size 5 1 (.slice (some ⟨GB,0,none⟩) kn kn) kn (u8s (Lz.ej s.data.toList)):=by
       have h1:=hO.out;rw[hje,Nat.sub_self,gH]at h1;simpa using h1
      have pJ:=rc SB;clear hj hO hje gH SB
      go_wp2_with fail
      go_ret;exact⟨_,rfl,Ih rfl,aK⟩
end Go.Proofs.YtecoeebjaleeiaaGreatDoor
namespace Lz
open Go
theorem ME (s:Bs):bK s=ej ((s.dropWhile spQ).reverse.dropWhile spQ).reverse:=rfl
end Lz
namespace Go.Proofs.YtecoeebjaleeiaaGreatDoor
open Go.RowKit
structure ot (w:World):Prop where
 h:dQ w
 u8:Lib.Utf8Tabs 5 6 w
theorem ot.below {w w':World} (h:ot w) (hb:Below w.heap.size w w'):ot w':=⟨h.h.below hb,Utf8Tabs_below h.u8 hb⟩
theorem JN (args:Array Value) (w:World):(callFunc 51 args).run Tryz.prog w=.ok (.enter 51 args) w:=enters_of Tryz.func51 (by kernel_rfl) rfl args w
theorem F6 (x:Nat) (hx:x<=1114111) (w:World):Calls Tryz.prog 51 #[.int .i32 (x:Int)] w fun e w'=>e=.returned (.bool (Lz.pSp x))/\Below w.heap.size w w':=by
 by_cases h:x<=32
 ·have hp:Lz.pSp x=true:=decide_eq_true h;have hI:(x:Int)<=32:=by omega
  rw[hp];clear h hp;go_enter Tryz.func51,Tryz.ntmps51
  go_wp2
  go_ret;exact⟨rfl,Below.refl _ _⟩
 ·have hp:Lz.pSp x=false:=decide_eq_false h;have hI:¬(x:Int)<=32:=by omega
  rw[hp];clear h hp;go_enter Tryz.func51,Tryz.ntmps51
  go_wp2
  go_ret;exact⟨rfl,Below.refl _ _⟩
theorem GS (s:ByteArray) (hs:s.size<=1000000000) (w:World) (hE:ot w):Calls Tryz.prog 50 #[.string s,.func (.func 51) #[] #[]] w (gJ ((s.data.toList.dropWhile Lz.spQ).reverse.dropWhile Lz.spQ).reverse w):=
 (Tryz.strings_TrimFunc_grows 51 #[] JN Lz.pSp s w (by omega) hE.u8 (fun W x hx _=>F6 x hx W)).mono fun _ _ ⟨he,hb⟩=>⟨_,he,Ih (Lz.Qs s),hb⟩
theorem OD (B b G c:Nat) (s:ByteArray) (hs:s.size<=1000000000) (w:World) (tK:B<=b) (hr:bP w b 0 0 0 .nilIface (.slice (some ⟨G,0,none⟩) 6 c)) (au:w.ownsRow B 9 1 (.slice (some ⟨G,0,none⟩) 6 c) 6 (rsB.map Value.string)) (hB:B<=w.heap.size):
  Calls Tryz.prog 53 #[.pointer (some ⟨b,0,none⟩),.string s] w fun e w'=>∃u:ByteArray,e=.returned (.string u)/\Hid (u.data.toList=Lz.ej s.data.toList)/\Below B w w':=by
 have dJ:=au.kept (bS w ⟨b,1,none⟩ (.int .i32 1)) (.inr (by
  simp[Value.ownBlock]
  intro e;rcases au.2 with⟨h,_⟩|⟨g1,cap,dB,h,_,hh,_⟩
  ·cases h
  ·injection h with h _ _;injection h with h;injection h with h1 _ _
   have h2:w.heap[b]? =_:=hr;rw[<-e,h1,hh]at h2;injection h2 with h2
   injection h2 with _ h3 _
   exact absurd h3 (by decide)))
 have cD:=Ih (doO B b 0 .nilIface (.slice (some ⟨G,0,none⟩) 6 c) w tK hr (fun W hW hWe=>by
  have bB:bP W b 0 1 0 .nilIface (.slice (some ⟨G,0,none⟩) 6 c):=by rw[hWe];exact bP.set hr 1 (.int .i32 1) (by simp)
  rw[<-hWe]at dJ;exact UC B b 0 G c W tK bB dJ (Nat.le_trans hB hW.size)))
 have hmf:∀(fn:Fn) (first cap:Array Value) (w:World),(Instr.makeFunc fn first cap).run Tryz.prog w=.ok (.func fn first cap) w:=fun _ _ _ _=>rfl;clear au dJ hr;go_enter Tryz.func53,Tryz.ntmps53
 go_wp2_with fail
 refine cD.out.mono ?_;rintro e w1 ⟨rfl,ar,g,bC,vq⟩;have c3:=rowAt bC 3 (.iface 216 (.pointer (some ⟨g,0,none⟩))) rfl;have nu:∀w,(nilAhead 489 216 (.pointer (some ⟨g,0,none⟩)) "Replace").run Tryz.prog w=.ok (some false) w:=fun _=>by kernel_rfl
 have mU:∀w,(Go.method 489 216 (.pointer (some ⟨g,0,none⟩)) "Replace").run Tryz.prog w=.ok (338,.pointer (some ⟨g,0,none⟩)) w:=fun _=>by kernel_rfl
 have cR:=Ih (Qm g s hs w1 vq);clear bC vq
 go_wp2_with fail
 refine cR.out.mono ?_;rintro e w2 ⟨u,rfl,hu,az⟩
 go_wp2_with fail
 go_ret;exact⟨u,rfl,hu,ar.trans (az.mono (Nat.le_trans hB ar.size))⟩
theorem Lg (s:ByteArray) (hs:s.size<=1000000000) (w:World) (hE:ot w):Calls Tryz.prog 25 #[.string s] w (gJ (Lz.bK s.data.toList) w):=by
 have cT:=Ih (GS s hs w hE);have HC:Hid (Lz.bK s.data.toList=Lz.ej ((s.data.toList.dropWhile Lz.spQ).reverse.dropWhile Lz.spQ).reverse):=Ih (Lz.ME _)
 have ba:((s.data.toList.dropWhile Lz.spQ).reverse.dropWhile Lz.spQ).reverse.length<=s.size:=by
  rw[List.length_reverse];refine Nat.le_trans (List.dropWhile_sublist _).length_le ?_;rw[List.length_reverse];exact(List.dropWhile_sublist _).length_le
 go_enter Tryz.func25,Tryz.ntmps25
 go_wp2_with fail
 refine cT.out.mono ?_;rintro e w1 ⟨u,rfl,hu,ar⟩;have uH:u.size<=s.size:=by rw[<-aa,hu.out];exact ba
 have bc:∀(j:Nat) (x:Value),(rsB.map Value.string)[j]? =some x->(w1.alloc (.cells #[.string ⟨#[9]⟩,.string ⟨#[]⟩,.string ⟨#[10]⟩,.string ⟨#[]⟩,.string ⟨#[13]⟩,.string ⟨#[]⟩] 9)).cell? ((⟨w1.heap.size,0,none⟩:Addr).add j)=some x:=by
  intro j x hj;rw[bV,World.cell?_alloc_mark];rw[<-Array.getElem?_toList];exact hj
 have cN:=Ih (NA w1.heap.size ⟨w1.heap.size,0,none⟩ 6 _ (by simp) bc);clear bc
 go_wp2_with fail
 refine cN.out.mono ?_;rintro e w2 ⟨b,G,c,rfl,tK,hr,au,az⟩;have Py:Below w1.heap.size w1 w2:=((Below.refl _ w1).alloc (Nat.le_refl _) _).trans (az.mono (by simp));have cR:=Ih (OD w1.heap.size b G c u (by omega) w2 tK hr au Py.size);clear hr au
 go_wp2_with fail
 refine cR.out.mono ?_;rintro e w3 ⟨v,rfl,hv,aO⟩
 go_wp2_with fail
 go_ret;exact⟨v,rfl,Ih (by rw[HC.out,hv.out,hu.out]),ac ar (Py.trans aO)⟩
def yG (x:Nat):Bool:=if x<128 then !Lz.dM (UInt8.ofNat x)else true
def Tg:ByteArray:=⟨#[43,45,46]⟩
theorem Qq:∀x:Fin 128,decide (0<=Lib.indexByte Tg.data.toList x.val.toUInt8)=(UInt8.ofNat x.val==43||UInt8.ofNat x.val==45||UInt8.ofNat x.val==46):=by decide +kernel
theorem Q7:Lz.dM (UInt8.ofNat 127)=false:=by decide +kernel
theorem OG (x:Nat) (hx:x<=1114111) (w:World):Calls Tryz.prog 88 #[.int .i32 (x:Int)] w fun e w'=>e=.returned (.bool (yG x))/\Below w.heap.size w w':=by
 by_cases h:126<x
 ·have hp:yG x=true:=by
   unfold yG;split
   ·obtain rfl:x=127:=by omega
    rw[Q7];rfl
   ·rfl
  have hI:(126:Int)<(x:Int):=by omega
  rw[hp];clear h hp;go_enter Tryz.func88,Tryz.ntmps88
  go_wp2_with fail
  go_ret;exact⟨rfl,Below.refl _ _⟩
 ·have hI:¬(126:Int)<(x:Int):=by omega
  obtain⟨c,hc⟩:∃c:UInt8,c=UInt8.ofNat x:=⟨_,rfl⟩;have Cf:c.toNat=x:=by rw[hc,UInt8.toNat_ofNat'];omega
  have hp:yG x= !(Lz.bG c||Lz.bj c||(c==43||c==45||c==46)):=by
   unfold yG;rw[if_pos (by omega),<-hc];unfold Lz.dM;simp only[Bool.or_assoc]
  have pJ:IntKind.u8.wrap (x:Int)=(c.toNat:Int):=by rw[Cf];exact IntWalk.u8_in _ (by omega)
  have mT:IntKind.u8.wrap (c.toNat:Int)=(c.toNat:Int):=by rw[Cf];exact IntWalk.u8_in _ (by omega)
  have cA:=lY c w;have cD:=mb c w;have cC:=Tryz.strings_ContainsRune_ascii Tg (x:Int) w (by omega) (by omega);rw[show((x:Int)).toNat=x by omega,Qq ⟨x,by omega⟩,show UInt8.ofNat x=c from hc.symm]at cC;rw[hp];generalize Lz.bG c=qa at cA;generalize Lz.bj c=qd at cD;generalize (c==43||c==45||c==46)=qc at cC;have O8:(x:Int)=(c.toNat:Int):=by omega
  rw[O8]at cC hI⊢;have CA:=Ih cA;have CD:=Ih cD;have CC:=Ih (cC.mono fun _ _ (h:_/\_)=>(⟨h.1,h.2.symm⟩:_/\w=_));clear cA cD cC hp pJ O8 hc h Cf hx;cases qa with
  | true=>
    go_enter Tryz.func88,Tryz.ntmps88
    go_wp2_with fail
    refine CA.out.mono ?_;rintro e w1 ⟨rfl,rfl⟩
    go_wp2_with fail
    go_ret;exact⟨rfl,Below.refl _ _⟩
  | false=>
    cases qd with
    | true=>
      go_enter Tryz.func88,Tryz.ntmps88
      go_wp2_with fail
      refine CA.out.mono ?_;rintro e w1 ⟨rfl,rfl⟩
      go_wp2_with fail
      refine CD.out.mono ?_;rintro e w1 ⟨rfl,rfl⟩
      go_wp2_with fail
      go_ret;exact⟨rfl,Below.refl _ _⟩
    | false=>
      go_enter Tryz.func88,Tryz.ntmps88
      go_wp2_with fail
      refine CA.out.mono ?_;rintro e w1 ⟨rfl,rfl⟩
      go_wp2_with fail
      refine CD.out.mono ?_;rintro e w1 ⟨rfl,rfl⟩
      go_wp2_with fail
      refine CC.out.mono ?_;rintro e w1 ⟨rfl,rfl⟩
      go_wp2_with fail
      go_ret;exact⟨by cases qc<;>rfl,Below.refl _ _⟩
theorem RT (x:Nat) (h:128<=x):yG x=true:=by unfold yG;rw[if_neg (by omega)]
theorem QE (c:UInt8) (h:c.toNat<128):yG c.toNat= !Lz.dM c:=by unfold yG;rw[if_pos h];simp
theorem UY:∀c:UInt8,128<=c.toNat->(!Lz.dM c)=true:=Lz.aJ (by decide +kernel)
theorem RE (args:Array Value) (w:World):(callFunc 88 args).run Tryz.prog w=.ok (.enter 88 args) w:=enters_of Tryz.func88 (by kernel_rfl) rfl args w
theorem yE (s:ByteArray) (w:World):Calls Tryz.prog 87 #[.string s,.func (.func 88) #[] #[]] w fun e w'=>∃i:Int,e=.returned (.int .i64 i)/\Hid (decide (0<=i)= !s.data.toList.all Lz.dM)/\Below w.heap.size w w':=by
 refine(Tryz.strings_IndexFunc_grows 88 #[] RE yG s w (fun W x hx _=>OG x hx W)).mono ?_;rintro e w' ⟨he,hb⟩;refine⟨_,he,Ih ?_,hb⟩;have:=Lz.BQ (q:=fun c=> !Lz.dM c) RT QE UY s s.size 0 (by omega);rw[List.drop_zero]at this;refine this.trans ?_;rw[List.not_all_eq_any_not]
def Ak (s:List UInt8):Bool:=(Lib.cut s [58]).2.2&& !(Lib.cut s [58]).1.isEmpty&&(match (Lib.cut s [58]).1 with|a::_=>Lz.bG a|[]=>false)&&(Lib.cut s [58]).1.all Lz.dM
theorem xK (s:List UInt8):Lz.aQ s=if Ak s then(Lz.low (Lib.cut s [58]).1,(Lib.cut s [58]).2.1,true)else([],s,false):=rfl
theorem BH (s:ByteArray) (hs:s.size<=1000000000) (w:World) (hE:dQ w):Calls Tryz.prog 54 #[.string s] w (rZ (Lz.aQ s.data.toList).1 (Lz.aQ s.data.toList).2.1 (Lz.aQ s.data.toList).2.2 w):=by
 have cC:=Ih (EV s ⟨#[58]⟩ (by omega) w hE);have hS:=xK s.data.toList;have vp:=Lz.kG 58 s.data.toList;obtain⟨ok,nV⟩:∃ok,ok=(Lib.cut s.data.toList [58]).2.2:=⟨_,rfl⟩;rw[show(⟨#[58]⟩:ByteArray).data.toList=[58]from rfl,<-nV]at cC;have HS:=Ih hS;have Sn:=Ih nV;clear hS nV;go_enter Tryz.func54,Tryz.ntmps54
 go_wp2_with fail
 refine cC.out.mono ?_;rintro e w1 ⟨a,r,rfl,ha,hr,ar⟩;have has:a.size<=s.size:=by rw[<-aa,ha.out];rw[aa]at vp;omega
 have cI:=Ih (yE a w1)
 go_wp2_with fail
 refine cI.out.mono ?_;rintro e w2 ⟨i,rfl,hi,az⟩;have bI:=ac ar az
 have P7:Ak s.data.toList=(ok&& !a.data.toList.isEmpty&&(match a.data.toList with|a::_=>Lz.bG a|[]=>false)&&a.data.toList.all Lz.dM):=by
  unfold Ak;rw[<-Sn.out,<-ha.out]
 have HN:Hid (Ak s.data.toList=false->Lz.aQ s.data.toList=([],s.data.toList,false)):=Ih (fun h=>by rw[HS.out,h];rfl);cases ok with
 | false=>
   have HF:=Ih (HN.out (by rw[P7];rfl));clear P7 ha
   go_wp2_with fail
   go_ret3
   rw[HF.out];exact⟨_,_,rfl,Ih rfl,Ih rfl,bI⟩
 | true=>
   by_cases he:a.data.toList=[]
   ·have HF:=Ih (HN.out (by rw[P7,he];rfl));have g0:=bg he;have Fv:a.toList.isEmpty=true:=aq (by rw[<-aa,he];rfl);clear P7 ha he
    go_wp2_with fail
    go_ret3
    rw[HF.out];exact⟨_,_,rfl,Ih rfl,Ih rfl,bI⟩
   ·have g0:=bN he;have hap:0<a.size:=by rw[<-aa];exact List.length_pos_iff.2 he
    have acN:(0:Int)<(a.size:Int):=by omega
    have Fv:a.toList.isEmpty=false:=an hap;obtain⟨c,hc⟩:∃c,c=a[0]:=⟨_,rfl⟩;have TH:(a[0].toNat:Int)=(c.toNat:Int):=by rw[hc]
    have qg:a.data.toList[0]? =some c:=by rw[aB hap,hc]
    have EX:Ak s.data.toList=(Lz.bG c&&a.data.toList.all Lz.dM):=by
     rw[P7];cases hl:a.data.toList with
     | nil=>exact absurd hl he
     | cons x xs=>
       rw[hl]at qg;have:x=c:=by simpa using qg
       simp[this]
    have cA:=lY c w2;cases jd:Lz.bG c with
    | false=>
      rw[jd]at cA EX;have HF:=Ih (HN.out (by rw[EX];rfl));have CA:=Ih cA;clear P7 EX ha he hc qg cA jd
      go_wp2_with fail
      refine CA.out.mono ?_;rintro e w3 ⟨rfl,rfl⟩
      go_wp2_with fail
      go_ret3
      rw[HF.out];exact⟨_,_,rfl,Ih rfl,Ih rfl,bI⟩
    | true=>
      rw[jd]at cA EX;have CA:=Ih cA;by_cases o9:0<=i
      ·have HF:=Ih (HN.out (by
        have h1:=hi.out;rw[decide_eq_true o9]at h1;rw[EX,Bool.true_and];cases h2:a.data.toList.all Lz.dM with
        | false=>rfl
        | true=>rw[h2]at h1;cases h1))
       clear P7 EX ha he hc qg cA jd
       go_wp2_with fail
       refine CA.out.mono ?_;rintro e w3 ⟨rfl,rfl⟩
       go_wp2_with fail
       go_ret3
       rw[HF.out];exact⟨_,_,rfl,Ih rfl,Ih rfl,bI⟩
      ·have HF:Hid (Lz.aQ s.data.toList=(Lz.low a.data.toList,r.data.toList,true)):=by
        show _=_;have h1:=hi.out;rw[decide_eq_false o9]at h1
        have h2:Ak s.data.toList=true:=by
         rw[EX,Bool.true_and];cases h2:a.data.toList.all Lz.dM with
         | false=>rw[h2]at h1;cases h1
         | true=>rfl
        rw[HS.out,if_pos h2,ha.out,hr.out]
       have cL:=Ih (fun W=>kv a (by omega) W);clear P7 EX ha he hc qg cA jd
       go_wp2_with fail
       refine CA.out.mono ?_;rintro e w3 ⟨rfl,rfl⟩
       go_wp2_with fail
       refine(cL.out _).mono ?_;rintro e w3 ⟨l,rfl,hl,aO⟩
       go_wp2_with fail
       go_ret3
       rw[HF.out];exact⟨_,_,rfl,hl,Ih rfl,ac bI aO⟩
end Go.Proofs.YtecoeebjaleeiaaGreatDoor
namespace Lz
open Go
def kI (s:Bs):List Bs:=if s=nK then[lQ]else if s=wsS then[Mq,nK,lQ]else if s=Mq then[lQ]else[]
def jC (p u:Bs):Bool:=p==u||(kI p).contains u
def KT (s:Bs):Bool:=s==nK||s==lQ
def MB:Bs:=[49,50,55,46,48,46,48,46,49]
def Dp:Bs:=[115,101,108,102]
def uw:Bs:=[39,110,111,110,101,39]
def nI:Bs:=[110,117,108,108]
def ES (x:Src) (name:Bs):Bool:=
 if x.wild then x.host==[]||Lib.hasSuffix name (46::x.host)
 else if x.host != MB&&ipP x.host then false else x.host==name
def uS (u:ag):Int:=if 0<=u.port then u.port else gI u.scheme
def Ec (x:Src) (u:ag):Bool:=if x.port= -2 then true else if x.port= -1 then decide (u.port<0)||u.port==gI u.scheme else x.port==uS u
def wR (p u:Bs):Bool:=
 if p=[]\/(p=[47]/\u=[])then true
 else if Lib.hasSuffix p [47]=true/\(av 47 p).length<=(av 47 u).length then(av 47 p).dropLast.map aw==((av 47 u).take ((av 47 p).length-1)).map aw
 else(av 47 p).map aw==(av 47 u).map aw
def kd (u:ag):Bs:=if u.opq then u.path.flatten else u.path.flatMap fun p=>47::p
def pq (u:ag) (x:Src) (own:ag) (red:Bool):Bool:=
 u.hasHost&&(u.host != []&&(jC (if x.scheme=[]then own.scheme else x.scheme) u.scheme&&(ES x u.host&&(Ec x u&&(red||wR x.path (kd u))))))
def H7 (u own:ag):Bool:=u.port==own.port||(uS u==gI u.scheme&&uS own==gI own.scheme)
def F8 (u own:ag):Bool:=u.scheme==lQ||(u.scheme==Mq||(own.scheme==nK&&u.scheme==wsS))
def As (u own:ag):Bool:=
 (eF own != nI&&eF own==eF u)||(u.hasHost&&(own.hasHost&&(u.host==own.host&&(H7 u own&&F8 u own))))
def sV:Src:=⟨3,[],0,[],[],true,-1,[]⟩
def xA (u:ag) (x:Src) (own:ag) (red:Bool):Bool:=
 if x.kind=1 then x.text==Dp&&As u own
 else if x.kind=2 then jC x.scheme u.scheme
 else if x.kind=3 then(if x=sV then KT u.scheme||u.scheme==own.scheme else pq u x own red)
 else false
def jf (l:List Bs):Bool:=l.isEmpty||(l.length==1&&low (l.headD [])==uw)
def bF (l:List Bs):List Src:=l.filterMap ez
def anyM (u:ag) (l:List Bs) (own:ag) (red:Bool):Bool:= !jf l&&(bF l).any fun x=>xA u x own red
end Lz
namespace Go.Proofs
open Go.Shelf
def Tryz.lays100_ren:Go.Shelf.Ren:=⟨fun|100=>227|207=>255|n=>n,fun|9=>9|4=>4|3=>3|n=>n,fun|n=>n⟩
theorem Tryz.lays100:Go.Proofs.Lays.n100 Tryz.prog Tryz.lays100_ren:=by repeat' first |kernel_rfl|(intro w;rfl)|(intro w;kernel_rfl)|decide|constructor
open Go.RowKit Go.Lib in
theorem Tryz.strings_HasSuffix (s p:ByteArray) (w:World) (hs:s.size<=9223372036854775807):
 Calls Tryz.prog 227 #[.string s,.string p] w fun e w'=>e=.returned (.bool (Lib.hasSuffix s.data.toList p.data.toList))/\w'=w:=Any.strings_HasSuffix Tryz.lays100 s p w hs
open Go.Lib in
theorem Tryz.slices_Contains_string_empty (a:Option Addr) (c:Nat) (x:ByteArray) (w:World):
 Calls Tryz.prog 190 #[.slice a 0 c,.string x] w fun e w'=>e=.returned (.bool false)/\w'=w:=Any.slices_Contains_string_empty Tryz.lays110 a c x w
end Go.Proofs
namespace Lz
open Go
def dt (x n:UInt32):UInt32:=(x<<<(32-n))||| (x>>>n)
def vQ (b:Bs) (i:Nat):UInt32:=(b.getD i 0).toUInt32
def Zt (b:Bs) (i:Nat):UInt32:=(((vQ b (4*i)<<<24)||| (vQ b (4*i+1)<<<16))||| (vQ b (4*i+2)<<<8))||| vQ b (4*i+3)
def abs (x:UInt32):UInt32:=(dt x 7 ^^^ dt x 18) ^^^ (x>>>3)
def abk (y:UInt32):UInt32:=(dt y 17 ^^^ dt y 19) ^^^ (y>>>10)
def bX (b:Bs):Nat->List UInt32
 | 0=>[]
 | i+1=>bX b i++[if i<16 then Zt b i else((((bX b i).getD (i-16) 0+(bX b i).getD (i-7) 0)+abs ((bX b i).getD (i-15) 0))+abk ((bX b i).getD (i-2) 0))]
theorem du (b:Bs):∀i,(bX b i).length=i
 | 0=>rfl
 | i+1=>by rw[bX,List.length_append,du b i];rfl
structure St8 (α:Type) where
 a:α
 b:α
 c:α
 d:α
 e:α
 f:α
 g:α
 z:α
def St8.list {α:Type} (s:St8 α):List α:=[s.a,s.b,s.c,s.d,s.e,s.f,s.g,s.z]
def SZ (s:St8 UInt32) (k w:UInt32):UInt32:=(((s.z+((dt s.e 6 ^^^ dt s.e 11) ^^^ dt s.e 25))+((s.e&&& s.f) ^^^ ((~~~s.e)&&& s.g)))+k)+w
def Zh (s:St8 UInt32):UInt32:=((dt s.a 2 ^^^ dt s.a 13) ^^^ dt s.a 22)+(((s.a&&& s.b) ^^^ (s.a&&& s.c)) ^^^ (s.b&&& s.c))
def S6 (s:St8 UInt32) (k w:UInt32):St8 UInt32:=⟨SZ s k w+Zh s,s.a,s.b,s.c,s.d+SZ s k w,s.e,s.f,s.g⟩
def iF (bi:List UInt32) (b:Bs) (h:St8 UInt32):Nat->St8 UInt32
 | 0=>h
 | i+1=>S6 (iF bi b h i) (bi.getD i 0) ((bX b 64).getD i 0)
def MJ {α:Type} [Add α] (x y:St8 α):St8 α:=⟨x.a+y.a,x.b+y.b,x.c+y.c,x.d+y.d,x.e+y.e,x.f+y.f,x.g+y.g,x.z+y.z⟩
def lS (bi:List UInt32) (h:St8 UInt32) (b:Bs):St8 UInt32:=MJ h (iF bi b h 64)
def fO {α:Type} (f:α->Bs->α) (size:Nat):Nat->α->Bs->α
 | 0,h,_=>h
 | n+1,h,l=>fO f size n (f h (l.take size)) (l.drop size)
def OE (n:Nat):Bs:=(List.range 8).map fun i=>UInt8.ofNat (n*8 / 2^(56-8*i))
def xl (n:Nat):Bs:=(128::List.replicate (63-(n+8)%64) 0)++OE n
def pd (x:UInt32):Bs:=[(x>>>24).toUInt8,(x>>>16).toUInt8,(x>>>8).toUInt8,x.toUInt8]
def NL (h:St8 UInt32):Bs:=h.list.flatMap pd
def tX (bi:List UInt32) (h0:St8 UInt32) (s:Bs):Bs:=
 NL (fO (lS bi) 64 ((s.drop (s.length / 64*64)++xl s.length).length / 64) (fO (lS bi) 64 (s.length / 64) h0 s) (s.drop (s.length / 64*64)++xl s.length))
theorem La (h:St8 UInt32):(NL h).length=32:=rfl
theorem ON (n:Nat):(xl n).length=72-(n+8)%64:=by
 unfold xl OE
 simp
 omega
def qZ (x n:UInt64):UInt64:=(x<<<(64-n))||| (x>>>n)
def dL (x a b c:UInt64) (Wl:Bool):UInt64:=(qZ x a ^^^ qZ x b) ^^^ (if Wl then qZ x c else x>>>c)
def j6 (b:Bs) (i:Nat):Nat->UInt64
 | 0=>0
 | k+1=>(j6 b i k<<<8)||| (b.getD (8*i+k) 0).toUInt64
def Te (s:St8 UInt64) (k w:UInt64):UInt64:=(((s.z+dL s.e 14 18 41 true)+((s.e&&& s.f)||| (s.g&&& ~~~s.e)))+k)+w
def Zm (s:St8 UInt64):UInt64:=dL s.a 28 34 39 true+((s.a&&& s.b)||| (s.c&&& (s.a||| s.b)))
def S0 (s:St8 UInt64) (k w:UInt64):St8 UInt64:=⟨Te s k w+Zm s,s.a,s.b,s.c,s.d+Te s k w,s.e,s.f,s.g⟩
def dk (b:Bs):Nat->List UInt64
 | 0=>List.replicate 16 0
 | i+1=>(dk b i).set (i%16) (if i<16 then j6 b i 8 else(dk b i).getD (i%16) 0+((dL ((dk b i).getD ((i+1)%16) 0) 1 8 7 false+(dk b i).getD ((i+9)%16) 0)+dL ((dk b i).getD ((i+14)%16) 0) 19 61 6 false))
theorem ig (b:Bs):∀i,(dk b i).length=16
 | 0=>rfl
 | i+1=>by rw[dk,List.length_set,ig b i]
def mJ (bi:List UInt64) (b:Bs) (h:St8 UInt64):Nat->St8 UInt64
 | 0=>h
 | i+1=>S0 (mJ bi b h i) (bi.getD i 0) ((dk b (i+1)).getD (i%16) 0)
def oH (bi:List UInt64) (h:St8 UInt64) (b:Bs):St8 UInt64:=MJ h (mJ bi b h 80)
def I3 (n:Nat):Bs:=128::List.replicate ((240-(n+1)%128)%128+8) 0++OE n
def ph (x:UInt64):Bs:=(List.range 8).map fun i=>(x>>>(UInt64.ofNat (56-8*i))).toUInt8
def NP (h:St8 UInt64):Bs:=h.list.flatMap ph
def og (bi:List UInt64) (h0:St8 UInt64) (s:Bs):Bs:=NP (fO (oH bi) 128 ((s++I3 s.length).length / 128) h0 (s++I3 s.length))
theorem Ld (h:St8 UInt64):(NP h).length=64:=rfl
end Lz
namespace Go.Proofs.YtecoeebjaleeiaaGreatDoor
open Go.RowKit
theorem px (a:UInt32):BitVec.ofInt 32 (a.toNat:Int)=a.toBitVec:=by
 apply BitVec.eq_of_toNat_eq
 rw[BitVec.ofInt_natCast,BitVec.toNat_ofNat];exact Nat.mod_eq_of_lt a.toNat_lt
theorem lA (a:UInt64):BitVec.ofInt 64 (a.toNat:Int)=a.toBitVec:=by
 apply BitVec.eq_of_toNat_eq
 rw[BitVec.ofInt_natCast,BitVec.toNat_ofNat];exact Nat.mod_eq_of_lt a.toNat_lt
theorem w32 (a:UInt32):IntKind.u32.wrap (a.toNat:Int)=(a.toNat:Int):=IntWalk.u32_in _ (by have:=a.toNat_lt;omega)
theorem w64 (a:UInt64):IntKind.u64.wrap (a.toNat:Int)=(a.toNat:Int):=IntWalk.u64_in _ (by have:=a.toNat_lt;omega)
theorem Tb (a b:UInt32):bits .xor .u32 (a.toNat:Int) (b.toNat:Int)=((a ^^^ b).toNat:Int):=by
 show IntKind.u32.wrap _=_;rw[<-w32 (a ^^^ b)];congr 2;show(BitVec.ofInt 32 _ ^^^ BitVec.ofInt 32 _).toNat=_;rw[px,px];rfl
theorem Ti (a b:UInt32):bits .and .u32 (a.toNat:Int) (b.toNat:Int)=((a&&& b).toNat:Int):=by
 show IntKind.u32.wrap _=_;rw[<-w32 (a&&& b)];congr 2;show(BitVec.ofInt 32 _&&& BitVec.ofInt 32 _).toNat=_;rw[px,px];rfl
theorem YK (a b:UInt32):bits .or .u32 (a.toNat:Int) (b.toNat:Int)=((a||| b).toNat:Int):=by
 show IntKind.u32.wrap _=_;rw[<-w32 (a||| b)];congr 2;show(BitVec.ofInt 32 _||| BitVec.ofInt 32 _).toNat=_;rw[px,px];rfl
theorem Zw (a:UInt32):bits .xor .u32 4294967295 (a.toNat:Int)=((~~~a).toNat:Int):=by
 have h:=Tb (0xFFFFFFFF:UInt32) a;have e:((0xFFFFFFFF:UInt32).toNat:Int)=4294967295:=rfl;rw[e]at h;rw[h]
 have:(0xFFFFFFFF:UInt32) ^^^ a= ~~~a:=by
  apply UInt32.toBitVec_inj.1
  show BitVec.allOnes 32 ^^^ a.toBitVec= ~~~a.toBitVec;rw[BitVec.allOnes_xor]
 rw[this]
theorem Zp (a b:UInt32):IntKind.u32.wrap ((a.toNat:Int)+(b.toNat:Int))=((a+b).toNat:Int):=by
 rw[IntKind.wrap_u32,UInt32.toNat_add];omega
theorem YC (a b:UInt64):bits .xor .u64 (a.toNat:Int) (b.toNat:Int)=((a ^^^ b).toNat:Int):=by
 show IntKind.u64.wrap _=_;rw[<-w64 (a ^^^ b)];congr 2;show(BitVec.ofInt 64 _ ^^^ BitVec.ofInt 64 _).toNat=_;rw[lA,lA];rfl
theorem Zo (a b:UInt64):bits .and .u64 (a.toNat:Int) (b.toNat:Int)=((a&&& b).toNat:Int):=by
 show IntKind.u64.wrap _=_;rw[<-w64 (a&&& b)];congr 2;show(BitVec.ofInt 64 _&&& BitVec.ofInt 64 _).toNat=_;rw[lA,lA];rfl
theorem abg (a b:UInt64):bits .or .u64 (a.toNat:Int) (b.toNat:Int)=((a||| b).toNat:Int):=by
 show IntKind.u64.wrap _=_;rw[<-w64 (a||| b)];congr 2;show(BitVec.ofInt 64 _||| BitVec.ofInt 64 _).toNat=_;rw[lA,lA];rfl
theorem U4 (a b:UInt64):bits .andNot .u64 (a.toNat:Int) (b.toNat:Int)=((a&&& ~~~b).toNat:Int):=by
 show IntKind.u64.wrap _=_;rw[<-w64 (a&&& ~~~b)];congr 2;show(BitVec.ofInt 64 _&&& ~~~ BitVec.ofInt 64 _).toNat=_;rw[lA,lA];rfl
theorem YN (a b:UInt64):IntKind.u64.wrap ((a.toNat:Int)+(b.toNat:Int))=((a+b).toNat:Int):=by
 rw[IntKind.wrap_u64,UInt64.toNat_add];omega
theorem YT (a:UInt32) (n:Nat) (h:n<32):(a.toNat:Int) / 2^n=((a>>>UInt32.ofNat n).toNat:Int):=by
 rw[UInt32.toNat_shiftRight,UInt32.toNat_ofNat',Nat.mod_eq_of_lt (show n<2^32 by omega),Nat.mod_eq_of_lt h,Nat.shiftRight_eq_div_pow]
 simp
theorem YB (a:UInt32) (n:Nat) (h:n<32):IntKind.u32.wrap ((a.toNat:Int)*2^n)=((a<<<UInt32.ofNat n).toNat:Int):=by
 rw[IntKind.wrap_u32,UInt32.toNat_shiftLeft,UInt32.toNat_ofNat',Nat.mod_eq_of_lt (show n<2^32 by omega),Nat.mod_eq_of_lt h,Nat.shiftLeft_eq]
 simp
theorem Zu (a:UInt64) (n:Nat) (h:n<64):(a.toNat:Int) / 2^n=((a>>>UInt64.ofNat n).toNat:Int):=by
 rw[UInt64.toNat_shiftRight,UInt64.toNat_ofNat',Nat.mod_eq_of_lt (show n<2^64 by omega),Nat.mod_eq_of_lt h,Nat.shiftRight_eq_div_pow]
 simp
theorem YU (a:UInt64) (n:Nat) (h:n<64):IntKind.u64.wrap ((a.toNat:Int)*2^n)=((a<<<UInt64.ofNat n).toNat:Int):=by
 rw[IntKind.wrap_u64,UInt64.toNat_shiftLeft,UInt64.toNat_ofNat',Nat.mod_eq_of_lt (show n<2^64 by omega),Nat.mod_eq_of_lt h,Nat.shiftLeft_eq]
 simp
def N32 (a:UInt32):Int:=(a.toNat:Int)
def N64 (a:UInt64):Int:=(a.toNat:Int)
theorem YP (a b:UInt32):bits .xor .u32 (N32 a) (N32 b)=N32 (a ^^^ b):=Tb a b
theorem abl (a b:UInt32):bits .and .u32 (N32 a) (N32 b)=N32 (a&&& b):=Ti a b
theorem Re (a b:UInt32):bits .or .u32 (N32 a) (N32 b)=N32 (a||| b):=YK a b
theorem abt (a:UInt32):bits .xor .u32 4294967295 (N32 a)=N32 (~~~a):=Zw a
theorem Vu (a b:UInt32):IntKind.u32.wrap (N32 a+N32 b)=N32 (a+b):=Zp a b
theorem Lm (a:UInt32) (n:Nat) (h:n<32):N32 a / 2^n=N32 (a>>>UInt32.ofNat n):=YT a n h
theorem Rh (a:UInt32) (n:Nat) (h:n<32):IntKind.u32.wrap (N32 a*2^n)=N32 (a<<<UInt32.ofNat n):=YB a n h
theorem aa9 (a b:UInt64):bits .xor .u64 (N64 a) (N64 b)=N64 (a ^^^ b):=YC a b
theorem abo (a b:UInt64):bits .and .u64 (N64 a) (N64 b)=N64 (a&&& b):=Zo a b
theorem Vw (a b:UInt64):bits .or .u64 (N64 a) (N64 b)=N64 (a||| b):=abg a b
theorem abj (a b:UInt64):bits .andNot .u64 (N64 a) (N64 b)=N64 (a&&& ~~~b):=U4 a b
theorem VC (a b:UInt64):IntKind.u64.wrap (N64 a+N64 b)=N64 (a+b):=YN a b
theorem Vb (a:UInt64) (n:Nat) (h:n<64):N64 a / 2^n=N64 (a>>>UInt64.ofNat n):=Zu a n h
theorem YO (a:UInt64) (n:Nat) (h:n<64):IntKind.u64.wrap (N64 a*2^n)=N64 (a<<<UInt64.ofNat n):=YU a n h
theorem abm (a:UInt64):IntKind.u64.wrap (N64 a)=N64 a:=w64 a
theorem Q5:∀n:Fin 32,0<n.val->IntKind.u64.wrap (-(n.val:Int))=18446744073709551616-(n.val:Int)/\bits .and .u64 (18446744073709551616-(n.val:Int)) 31=((32-n.val:Nat):Int)/\(32:UInt32)-UInt32.ofNat n.val=UInt32.ofNat (32-n.val):=by decide +kernel
theorem RX:∀n:Fin 64,0<n.val->IntKind.u64.wrap (-(n.val:Int))=18446744073709551616-(n.val:Int)/\bits .and .u64 (18446744073709551616-(n.val:Int)) 63=((64-n.val:Nat):Int)/\(64:UInt64)-UInt64.ofNat n.val=UInt64.ofNat (64-n.val):=by decide +kernel
theorem GL (x:UInt32) (n:Nat) (h0:0<n) (hn:n<32) (w:World):Calls Tryz.prog 259 #[.int .u32 (N32 x),.int .i64 (-(n:Int))] w fun e w'=>e=.returned (.int .u32 (N32 (Lz.dt x (UInt32.ofNat n))))/\w=w':=by
 obtain⟨k1,k2,k3⟩:=Q5 ⟨n,hn⟩ h0;simp only at k1 k2 k3;obtain⟨m,hm⟩:∃m,m=32-n:=⟨_,rfl⟩;rw[<-hm]at k2 k3;obtain⟨c,hc⟩:∃c:Int,c=18446744073709551616-(n:Int):=⟨_,rfl⟩;rw[<-hc]at k1 k2;have sx:(0:Int)<=(m:Int):=by omega
 have jT:(m:Int)<=32:=by omega
 have hs:IntKind.u64.wrap ((32:Int)-(m:Int))=(n:Int):=by rw[show(32:Int)-(m:Int)=(n:Int) by omega];exact IntWalk.u64_in _ (by omega)
 have yd:(0:Int)<=(n:Int):=by omega
 have yj:(n:Int)<=32:=by omega
 have e1:=Rh x m (by omega);have e2:=Lm x n hn;have e3:=Re (x<<<UInt32.ofNat m) (x>>>UInt32.ofNat n)
 have HV:Hid (Lz.dt x (UInt32.ofNat n)=(x<<<UInt32.ofNat m)||| (x>>>UInt32.ofNat n)):=by
  show _=_;unfold Lz.dt;rw[k3]
 clear hc k3 hm;go_enter Tryz.func259,Tryz.ntmps259
 go_wp2_with fail
 go_ret;exact⟨by rw[HV.out];rfl,rfl⟩
theorem qs (x:UInt64) (n:Nat) (h0:0<n) (hn:n<64) (w:World):Calls Tryz.prog 283 #[.int .u64 (N64 x),.int .i64 (-(n:Int))] w fun e w'=>e=.returned (.int .u64 (N64 (Lz.qZ x (UInt64.ofNat n))))/\w=w':=by
 obtain⟨k1,k2,k3⟩:=RX ⟨n,hn⟩ h0;simp only at k1 k2 k3;obtain⟨m,hm⟩:∃m,m=64-n:=⟨_,rfl⟩;rw[<-hm]at k2 k3;obtain⟨c,hc⟩:∃c:Int,c=18446744073709551616-(n:Int):=⟨_,rfl⟩;rw[<-hc]at k1 k2;have sx:(0:Int)<=(m:Int):=by omega
 have jT:(m:Int)<=64:=by omega
 have hs:IntKind.u64.wrap ((64:Int)-(m:Int))=(n:Int):=by rw[show(64:Int)-(m:Int)=(n:Int) by omega];exact IntWalk.u64_in _ (by omega)
 have yd:(0:Int)<=(n:Int):=by omega
 have yj:(n:Int)<=64:=by omega
 have e1:=YO x m (by omega);have e2:=Vb x n hn;have e3:=Vw (x<<<UInt64.ofNat m) (x>>>UInt64.ofNat n)
 have HV:Hid (Lz.qZ x (UInt64.ofNat n)=(x<<<UInt64.ofNat m)||| (x>>>UInt64.ofNat n)):=by
  show _=_;unfold Lz.qZ;rw[k3]
 clear hc k3 hm;go_enter Tryz.func283,Tryz.ntmps283
 go_wp2_with fail
 go_ret;exact⟨by rw[HV.out];rfl,rfl⟩
theorem gQ (x:UInt32) (n:Nat) (h0:0<n) (hn:n<32) (w:World):Calls Tryz.prog 224 #[.int .u32 (N32 x),.int .i64 (n:Int)] w fun e w'=>e=.returned (.int .u32 (N32 (Lz.dt x (UInt32.ofNat n))))/\w=w':=by
 have cR:=Ih (GL x n h0 hn w);have hw:IntKind.i64.wrap (-(n:Int))= -(n:Int):=IntWalk.i64_in _ (by omega);go_enter Tryz.func224,Tryz.ntmps224
 go_wp2_with fail
 refine cR.out.mono ?_;rintro e w1 ⟨rfl,rfl⟩
 go_wp2_with fail
 go_ret;exact⟨rfl,rfl⟩
def dw (l:List UInt32):List Value:=l.map fun x=>.int .u32 (N32 x)
theorem heap_setCell_other (w:World) (b k:Nat) (v:Value) (R:Nat) (h:R≠b):(w.setCell ⟨b,k,none⟩ v).heap[R]? =w.heap[R]? :=by
 unfold World.setCell;simp only[Array.getElem?_modify];rw[if_neg (fun e=>h e.symm)]
theorem ob (l:List UInt32):(dw l).length=l.length:=by unfold dw;rw[List.length_map]
def F1:List UInt32:=List.replicate 64 0
theorem wE (l:List UInt32):(dw l).toArray.all (·.oneCell')=true:=by
 rw[List.all_toArray,List.all_eq_true];intro v hv;unfold dw at hv;obtain⟨x,_,rfl⟩:=List.mem_map.1 hv;rfl
def yM (R:Nat) (w:World):Prop:=w.heap[R]? =some (.cells (dw F1).toArray 288 (0,0))
theorem GF (w:World) (o:Obj):yM w.heap.size ((w.alloc (.cells (dw F1).toArray 288)).alloc o):=by
 unfold yM;rw[Below.heap_alloc _ _ _ (by simp)];exact ah _ _
theorem yM.set {R b k:Nat} {v:Value} {w:World} (h:yM R w) (hb:R≠b):yM R (w.setCell ⟨b,k,none⟩ v):=by
 unfold yM at h⊢;rw[<-h];exact heap_setCell_other w b k v R hb
def oS (b:List UInt8) (R i:Nat) (w:World):Prop:=w.heap[R]? =some (.cells (dw (Lz.bX b i++List.replicate (64-i) 0)).toArray 288 (0,0))
theorem oS.drew {b:List UInt8} {R i:Nat} {w:World} (h:oS b R i w):oS b R i w.drew:=h
theorem oS.cell {b:List UInt8} {R i:Nat} {w:World} (h:oS b R i w) (j:Nat) (hj:j<i):w.cell? ⟨R,j,none⟩=some (.int .u32 (N32 ((Lz.bX b i).getD j 0))):=by
 unfold oS at h;refine rowAt h j _ ?_;rw[List.getElem?_toArray];unfold dw;rw[List.getElem?_map,List.getElem?_append_left (by rw[Lz.du];exact hj),List.getD_eq_getElem?_getD,List.getElem?_eq_getElem (by rw[Lz.du];exact hj)];rfl
theorem oS.open {b:List UInt8} {R i:Nat} {w:World} (h:oS b R i w) (hi:i<64):w.cell? ⟨R,i,none⟩=some (.int .u32 0)/\w.frozen? ⟨R,i,none⟩=false:=by
 unfold oS at h;constructor
 ·refine rowAt h i _ ?_;rw[List.getElem?_toArray];unfold dw;rw[List.getElem?_map,List.getElem?_append_right (by rw[Lz.du];exact Nat.le_refl _),Lz.du,List.getElem?_replicate,if_pos (by omega)];rfl
 ·simp[World.frozen?,h]
theorem oS.store {b:List UInt8} {R i:Nat} {w:World} (h:oS b R i w) (hi:i<64) (x:UInt32) (hx:Lz.bX b (i+1)=Lz.bX b i++[x]):oS b R (i+1) (w.setCell ⟨R,i,none⟩ (.int .u32 (N32 x))):=by
 unfold oS at h⊢;rw[fF h i];congr 2;rw[List.setIfInBounds_toArray];congr 1;unfold dw;rw[hx,List.append_assoc,show 64-i=(64-(i+1))+1 by omega,List.replicate_succ,List.map_append,List.map_append,List.map_cons,List.set_append_right _ _ (by rw[List.length_map,Lz.du];exact Nat.le_refl _),List.length_map,Lz.du,Nat.sub_self,List.set_cons_zero];rfl
theorem xE:(Tryz.prog.info? 288).map (·.size)=some 64:=by kernel_rfl
theorem abq (a:UInt32):IntKind.u32.wrap (N32 a*16777216)=N32 (a<<<24):=Rh a 24 (by omega)
theorem abp (a:UInt32):IntKind.u32.wrap (N32 a*65536)=N32 (a<<<16):=Rh a 16 (by omega)
theorem nl8 (a:UInt32):IntKind.u32.wrap (N32 a*256)=N32 (a<<<8):=Rh a 8 (by omega)
theorem nr3 (a:UInt32):N32 a / (8:Int)=N32 (a>>>3):=Lm a 3 (by omega)
theorem abx (a:UInt32):N32 a / (1024:Int)=N32 (a>>>10):=Lm a 10 (by omega)
theorem nbw (c:UInt8):IntKind.u32.wrap (c.toNat:Int)=N32 c.toUInt32:=w32 c.toUInt32
theorem GU (b:ByteArray) (hb:b.size=64) (w:World):Calls Tryz.prog 223 #[.string b] w fun e w'=>e=.returned (.agg (dw (Lz.bX b.data.toList 64)).toArray)/\Below w.heap.size w w':=by
 have HB:=Ih hb;clear hb;go_enter Tryz.func223,Tryz.ntmps223
 go_wp2_with fail
 go_loopw [4,5,6,7] (fun p q r k wr=>∃i:Nat,k=.int .i64 i/\i<=64/\oS b.data.toList (w.heap.size+1) i wr/\Below w.heap.size w wr/\yM w.heap.size wr) (fun _ _ _ k _=>64-(intOf k).toNat)
 case atStart=>exact⟨0,rfl,by omega,dm _ _ _,((Below.refl _ w).alloc (Nat.le_refl _) _).alloc (by simp) _,GF w _⟩
 case round=>
  obtain⟨i,rfl,hi,hR,aK,hZ⟩:=hrel;by_cases aV:i<64
  ·have bW:(i:Int)<64:=by omega
   have o9:(0:Int)<=(i:Int):=by omega
   by_cases h16:i<16
   ·have Wf:(i:Int)<16:=by omega
    obtain⟨j0,tM⟩:∃j,j=4*i:=⟨_,rfl⟩;obtain⟨j1,Ql⟩:∃j,j=4*i+1:=⟨_,rfl⟩;obtain⟨j2,Ic⟩:∃j,j=4*i+2:=⟨_,rfl⟩;obtain⟨j3,hj3⟩:∃j,j=4*i+3:=⟨_,rfl⟩;have w0:IntKind.i64.wrap (4*(i:Int))=(j0:Int):=by rw[show 4*(i:Int)=(j0:Int) by omega];exact IntWalk.i64_in _ (by omega)
    have w1:IntKind.i64.wrap ((j0:Int)+1)=(j1:Int):=by rw[show(j0:Int)+1=(j1:Int) by omega];exact IntWalk.i64_in _ (by omega)
    have w2:IntKind.i64.wrap ((j0:Int)+2)=(j2:Int):=by rw[show(j0:Int)+2=(j2:Int) by omega];exact IntWalk.i64_in _ (by omega)
    have w3:IntKind.i64.wrap ((j0:Int)+3)=(j3:Int):=by rw[show(j0:Int)+3=(j3:Int) by omega];exact IntWalk.i64_in _ (by omega)
    have l0:j0<b.size:=by have:=HB.out;omega
    have l1:j1<b.size:=by have:=HB.out;omega
    have l2:j2<b.size:=by have:=HB.out;omega
    have l3:j3<b.size:=by have:=HB.out;omega
    obtain⟨c0,qP⟩:∃c,c=b[j0]:=⟨_,rfl⟩;obtain⟨c1,iD⟩:∃c,c=b[j1]:=⟨_,rfl⟩;obtain⟨c2,su⟩:∃c,c=b[j2]:=⟨_,rfl⟩;obtain⟨c3,hc3⟩:∃c,c=b[j3]:=⟨_,rfl⟩;have r0:(b[j0].toNat:Int)=(c0.toNat:Int):=by rw[qP]
    have r1:(b[j1].toNat:Int)=(c1.toNat:Int):=by rw[iD]
    have r2:(b[j2].toNat:Int)=(c2.toNat:Int):=by rw[su]
    have r3:(b[j3].toNat:Int)=(c3.toNat:Int):=by rw[hc3]
    have q0:(0:Int)<=(j0:Int)/\(j0:Int)<(b.size:Int):=by omega
    have q1:(0:Int)<=(j1:Int)/\(j1:Int)<(b.size:Int):=by omega
    have q2:(0:Int)<=(j2:Int)/\(j2:Int)<(b.size:Int):=by omega
    have q3:(0:Int)<=(j3:Int)/\(j3:Int)<(b.size:Int):=by omega
    have v0:=nbw c0;have v1:=nbw c1;have v2:=nbw c2;have v3:=nbw c3;have s0:=abq c0.toUInt32;have s1:=abp c1.toUInt32;have s2:=nl8 c2.toUInt32;have o1:=Re (c0.toUInt32<<<24) (c1.toUInt32<<<16);have o2:=Re ((c0.toUInt32<<<24)||| (c1.toUInt32<<<16)) (c2.toUInt32<<<8);have o3:=Re (((c0.toUInt32<<<24)||| (c1.toUInt32<<<16))||| (c2.toUInt32<<<8)) c3.toUInt32
    have HX:Hid (Lz.bX b.data.toList (i+1)=Lz.bX b.data.toList i++[(((c0.toUInt32<<<24)||| (c1.toUInt32<<<16))||| (c2.toUInt32<<<8))||| c3.toUInt32]):=by
     show _=_;rw[Lz.bX,if_pos h16];unfold Lz.Zt Lz.vQ;rw[<-Ql,<-Ic,<-hj3,<-tM,List.getD_eq_getElem?_getD,List.getD_eq_getElem?_getD,List.getD_eq_getElem?_getD,List.getD_eq_getElem?_getD,aB l0,aB l1,aB l2,aB l3,<-qP,<-iD,<-su,<-hc3];rfl
    clear tM Ql Ic hj3 qP iD su hc3
    go_upto_region 6 with fail
    have pG:=hR.drew;have hZ0:yM w.heap.size wr.drew:=hZ;refine wp_region_held_drew (S:=fun V=>Below w.heap.size w V) (by kernel_rfl) aK.drew (fun ae=>?_);generalize wr.drew=W0 at ae pG hZ0⊢;apply TkG 0 12;apply TkG 1 13;apply TkG 2 14;apply TkG 3 15;apply TkG 4 16;apply TkG 5 17;apply TkG 6 18;apply TkG 7 19;apply TkG 8 20;apply TkG 9 21;apply TkG 10 22;apply TkG 11 23;apply TkG 12 24;apply TkG 13 25;apply TkG 14 26;apply TkG 15 27
    apply TkG 16 28;apply TkG 17 29;apply TkG 18 30;apply TkG 19 31;apply TkG 20 32;apply TkG 21 33;apply TkG 22 34;apply TkG 23 35;apply TkG 24 36;apply TkG 25 37;apply TkG 26 38;apply TkG 27 39;apply TkG 28 40;apply TkG 29 41;apply TkG 30 42
    iterate 31 (rotate_right 2;(·(intro W aM;(try dsimp only at aM);(try simp only[Act.put]);(try simp only[List.setIfInBounds_toArray]);(try simp only[List.set_cons_zero,List.set_cons_succ]);go_simp;try with_reducible rfl)))
    (try simp only[Act.put]);(try simp only[List.setIfInBounds_toArray]);(try simp only[List.set_cons_zero,List.set_cons_succ])
    obtain⟨bc,lX⟩:=pG.open aV;refine wpAnyH_ready (rs:=[31]) (by kernel_rfl) (by simp) ?_;refine AllReadyH.cons rfl (fun K hK=>?_) AllReadyH.nil;go_simp;refine hK.out _ _ (ae.setCell (Nat.le_succ _) _) (fun ae=>?_);clear hK K
    (try simp only[Act.put]);(try simp only[List.setIfInBounds_toArray]);(try simp only[List.set_cons_zero,List.set_cons_succ])
    refine wpAnyH_done (by kernel_rfl) ?_ _;have hS:=pG.store aV _ HX.out;have P4:=hZ0.set (k:=i) (v:=.int .u32 (N32 ((((c0.toUInt32<<<24)||| (c1.toUInt32<<<16))||| (c2.toUInt32<<<8))||| c3.toUInt32))) (show w.heap.size≠w.heap.size+1 by omega);clear pG bc lX
    go_wp2_with fail
    go_roundw
    case rel=>exact⟨i+1,by go_num,by omega,hS,ae,P4⟩
    case measure=>simp[intOf];omega
   ·have Wf:¬(i:Int)<16:=by omega
    obtain⟨Ug,aaP⟩:∃m,m=i-15:=⟨_,rfl⟩;obtain⟨m2,jy⟩:∃m,m=i-2:=⟨_,rfl⟩;obtain⟨Tu,Pq⟩:∃m,m=i-16:=⟨_,rfl⟩;obtain⟨m7,hm7⟩:∃m,m=i-7:=⟨_,rfl⟩;have w15:IntKind.i64.wrap ((i:Int)-15)=(Ug:Int):=by rw[show(i:Int)-15=(Ug:Int) by omega];exact IntWalk.i64_in _ (by omega)
    have w2:IntKind.i64.wrap ((i:Int)-2)=(m2:Int):=by rw[show(i:Int)-2=(m2:Int) by omega];exact IntWalk.i64_in _ (by omega)
    have w16:IntKind.i64.wrap ((i:Int)-16)=(Tu:Int):=by rw[show(i:Int)-16=(Tu:Int) by omega];exact IntWalk.i64_in _ (by omega)
    have w7:IntKind.i64.wrap ((i:Int)-7)=(m7:Int):=by rw[show(i:Int)-7=(m7:Int) by omega];exact IntWalk.i64_in _ (by omega)
    have b15:(0:Int)<=(Ug:Int)/\(Ug:Int)<64:=by omega
    have b2:(0:Int)<=(m2:Int)/\(m2:Int)<64:=by omega
    have b16:(0:Int)<=(Tu:Int)/\(Tu:Int)<64:=by omega
    have b7:(0:Int)<=(m7:Int)/\(m7:Int)<64:=by omega
    have l15:Ug<i:=by omega
    have l2:m2<i:=by omega
    have l16:Tu<i:=by omega
    have l7:m7<i:=by omega
    obtain⟨JD,Wg⟩:∃x,x=(Lz.bX b.data.toList i).getD Ug 0:=⟨_,rfl⟩;obtain⟨x2,pY⟩:∃x,x=(Lz.bX b.data.toList i).getD m2 0:=⟨_,rfl⟩;obtain⟨x16,kj⟩:∃x,x=(Lz.bX b.data.toList i).getD Tu 0:=⟨_,rfl⟩;obtain⟨x7,hx7⟩:∃x,x=(Lz.bX b.data.toList i).getD m7 0:=⟨_,rfl⟩
    have HX:Hid (Lz.bX b.data.toList (i+1)=Lz.bX b.data.toList i++[((x16+x7)+((Lz.dt JD 7 ^^^ Lz.dt JD 18) ^^^ (JD>>>3)))+((Lz.dt x2 17 ^^^ Lz.dt x2 19) ^^^ (x2>>>10))]):=by
     show _=_;rw[Lz.bX,if_neg h16,<-aaP,<-jy,<-Pq,<-hm7,<-Wg,<-pY,<-kj,<-hx7];rfl
    have Hc:Hid (∀V,oS b.data.toList (w.heap.size+1) i V->((V.cell? ⟨w.heap.size+1,Ug,none⟩=some (.int .u32 (N32 JD))/\V.cell? ⟨w.heap.size+1,m2,none⟩=some (.int .u32 (N32 x2)))/\V.cell? ⟨w.heap.size+1,Tu,none⟩=some (.int .u32 (N32 x16))/\V.cell? ⟨w.heap.size+1,m7,none⟩=some (.int .u32 (N32 x7)))):=Ih (fun V hV=>⟨⟨by rw[Wg];exact hV.cell _ l15,by rw[pY];exact hV.cell _ l2⟩,by rw[kj];exact hV.cell _ l16,by rw[hx7];exact hV.cell _ l7⟩);have k7:Hid (∀W,Calls Tryz.prog 224 #[.int .u32 (N32 JD),.int .i64 7] W fun e w'=>e=.returned (.int .u32 (N32 (Lz.dt JD 7)))/\W=w'):=Ih (fun W=>gQ JD 7 (by omega) (by omega) W);have k18:Hid (∀W,Calls Tryz.prog 224 #[.int .u32 (N32 JD),.int .i64 18] W fun e w'=>e=.returned (.int .u32 (N32 (Lz.dt JD 18)))/\W=w'):=Ih (fun W=>gQ JD 18 (by omega) (by omega) W);have k17:Hid (∀W,Calls Tryz.prog 224 #[.int .u32 (N32 x2),.int .i64 17] W fun e w'=>e=.returned (.int .u32 (N32 (Lz.dt x2 17)))/\W=w'):=Ih (fun W=>gQ x2 17 (by omega) (by omega) W)
    have k19:Hid (∀W,Calls Tryz.prog 224 #[.int .u32 (N32 x2),.int .i64 19] W fun e w'=>e=.returned (.int .u32 (N32 (Lz.dt x2 19)))/\W=w'):=Ih (fun W=>gQ x2 19 (by omega) (by omega) W);have n3:=nr3;have n10:=abx;have fx:=YP;have fp:=Vu;clear aaP jy Pq hm7 Wg pY kj hx7;obtain⟨⟨ZN,su⟩,_⟩:=Hc.out wr.drew hR.drew
    go_upto_region 7 with fail
    refine wp_region_held_drew (S:=fun V=>((V.cell? ⟨w.heap.size+1,Ug,none⟩=some (.int .u32 (N32 JD))/\V.cell? ⟨w.heap.size+1,m2,none⟩=some (.int .u32 (N32 x2)))/\(oS b.data.toList (w.heap.size+1) i V/\yM w.heap.size V))/\Below w.heap.size w V) (by kernel_rfl) ⟨⟨⟨ZN,su⟩,hR.drew,hZ⟩,aK.drew⟩ (fun ae=>?_);generalize wr.drew=W0 at ae⊢;apply TkG 0 43;apply TkG 1 44;apply TkG 2 45;apply TkG 3 46;apply TkG 4 47;apply TkG 5 48;apply TkG 6 49;apply TkG 7 50;apply TkG 8 5;apply TkG 9 6
    iterate 10 (rotate_right 2;(·(intro W aM;(try dsimp only at aM);(try simp only[Act.put]);(try simp only[List.setIfInBounds_toArray]);(try simp only[List.set_cons_zero,List.set_cons_succ]);go_simp;try with_reducible rfl)))
    (try simp only[Act.put]);(try simp only[List.setIfInBounds_toArray]);(try simp only[List.set_cons_zero,List.set_cons_succ])
    refine wpAnyH_done (by kernel_rfl) ?_ _;obtain⟨⟨_,pG,hZ0⟩,ku⟩:=ae;clear ZN su;obtain⟨_,acs,hc7⟩:=Hc.out W0.drew pG.drew
    go_upto_region 8 with fail
    have lk:=pG.drew;have P4:yM w.heap.size W0.drew:=hZ0;refine wp_region_held_drew (S:=fun V=>(V.cell? ⟨w.heap.size+1,Tu,none⟩=some (.int .u32 (N32 x16))/\V.cell? ⟨w.heap.size+1,m7,none⟩=some (.int .u32 (N32 x7)))/\Below w.heap.size w V) (by kernel_rfl) ⟨⟨acs,hc7⟩,ku.drew⟩ (fun ae=>?_);generalize W0.drew=W1 at ae lk P4⊢;apply TkG 0 51;apply TkG 1 52;apply TkG 2 53;apply TkG 3 54;apply TkG 4 55;apply TkG 5 56;apply TkG 6 57;apply TkG 7 58;apply TkG 8 59;apply TkG 9 60;apply TkG 10 61;apply TkG 12 63;apply TkG 15 66;apply TkG 16 67
    apply TkG 19 70;apply TkG 21 72;apply TkG 24 75;apply TkG 25 76
    iterate 18 (rotate_right 2;(·(intro W aM;(try dsimp only at aM);(try simp only[Act.put]);(try simp only[List.setIfInBounds_toArray]);(try simp only[List.set_cons_zero,List.set_cons_succ]);go_simp;try with_reducible rfl)))
    (try simp only[Act.put]);(try simp only[List.setIfInBounds_toArray]);(try simp only[List.set_cons_zero,List.set_cons_succ])
    refine wpAnyH_ready (rs:=[11]) (by kernel_rfl) (by simp) ?_;refine AllReadyH.cons rfl (fun K hK=>?_) AllReadyH.nil;go_simp
    go_at_call 224
    refine(k7.out _).mono ?_;rintro e w5 ⟨rfl,rfl⟩;refine hK.out _ _ ae (fun ae=>?_);clear hK K
    (try simp only[Act.put]);(try simp only[List.setIfInBounds_toArray]);(try simp only[List.set_cons_zero,List.set_cons_succ])
    refine wpAnyH_ready (rs:=[13]) (by kernel_rfl) (by simp) ?_;refine AllReadyH.cons rfl (fun K hK=>?_) AllReadyH.nil;go_simp
    go_at_call 224
    refine(k18.out _).mono ?_;rintro e w5 ⟨rfl,rfl⟩;refine hK.out _ _ ae (fun ae=>?_);clear hK K
    (try simp only[Act.put]);(try simp only[List.setIfInBounds_toArray]);(try simp only[List.set_cons_zero,List.set_cons_succ])
    apply TkG 14 65;apply TkG 17 68;apply TkG 18 69
    iterate 3 (rotate_right 2;(·(intro W aM;(try dsimp only at aM);(try simp only[Act.put]);(try simp only[List.setIfInBounds_toArray]);(try simp only[List.set_cons_zero,List.set_cons_succ]);go_simp;try with_reducible rfl)))
    (try simp only[Act.put]);(try simp only[List.setIfInBounds_toArray]);(try simp only[List.set_cons_zero,List.set_cons_succ])
    refine wpAnyH_ready (rs:=[20]) (by kernel_rfl) (by simp) ?_;refine AllReadyH.cons rfl (fun K hK=>?_) AllReadyH.nil;go_simp
    go_at_call 224
    refine(k17.out _).mono ?_;rintro e w5 ⟨rfl,rfl⟩;refine hK.out _ _ ae (fun ae=>?_);clear hK K
    (try simp only[Act.put]);(try simp only[List.setIfInBounds_toArray]);(try simp only[List.set_cons_zero,List.set_cons_succ])
    refine wpAnyH_ready (rs:=[22]) (by kernel_rfl) (by simp) ?_;refine AllReadyH.cons rfl (fun K hK=>?_) AllReadyH.nil;go_simp
    go_at_call 224
    refine(k19.out _).mono ?_;rintro e w5 ⟨rfl,rfl⟩;refine hK.out _ _ ae (fun ae=>?_);clear hK K
    (try simp only[Act.put]);(try simp only[List.setIfInBounds_toArray]);(try simp only[List.set_cons_zero,List.set_cons_succ])
    apply TkG 23 74;apply TkG 26 77;apply TkG 27 78;apply TkG 28 79
    iterate 4 (rotate_right 2;(·(intro W aM;(try dsimp only at aM);(try simp only[Act.put]);(try simp only[List.setIfInBounds_toArray]);(try simp only[List.set_cons_zero,List.set_cons_succ]);go_simp;try with_reducible rfl)))
    (try simp only[Act.put]);(try simp only[List.setIfInBounds_toArray]);(try simp only[List.set_cons_zero,List.set_cons_succ])
    obtain⟨bc,lX⟩:=lk.open aV;refine wpAnyH_ready (rs:=[29]) (by kernel_rfl) (by simp) ?_;refine AllReadyH.cons rfl (fun K hK=>?_) AllReadyH.nil;go_simp;refine hK.out _ _ ⟨⟨(World.cell?_setCell_other _ _ _ _ (by first |(simp;done)|(simp;omega))).trans ae.1.1,(World.cell?_setCell_other _ _ _ _ (by first |(simp;done)|(simp;omega))).trans ae.1.2⟩,ae.2.setCell (Nat.le_succ _) _⟩ (fun ae=>?_);clear hK K
    (try simp only[Act.put]);(try simp only[List.setIfInBounds_toArray]);(try simp only[List.set_cons_zero,List.set_cons_succ])
    refine wpAnyH_done (by kernel_rfl) ?_ _;have hS:=lk.store aV _ HX.out;have hB:=ae.2;have Ft:=P4.set (k:=i) (v:=.int .u32 (N32 (((x16+x7)+((Lz.dt JD 7 ^^^ Lz.dt JD 18) ^^^ (JD>>>3)))+((Lz.dt x2 17 ^^^ Lz.dt x2 19) ^^^ (x2>>>10))))) (show w.heap.size≠w.heap.size+1 by omega);clear pG lk bc lX ae
    go_wp2_with fail
    go_roundw
    case rel=>exact⟨i+1,by go_num,by omega,hS,hB,Ft⟩
    case measure=>simp[intOf];omega
  ·have Wz:i=64:=by omega
   subst Wz;have bW:¬(((64:Nat):Int)<64):=by omega
   have nO:wr.heap[w.heap.size+1]? =some (.cells (dw (Lz.bX b.data.toList 64)).toArray 288 (0,0)):=by
    have h:=hR;unfold oS at h
    rwa [Nat.sub_self,List.replicate_zero,List.append_nil]at h
   clear hR
   go_wp2_with (first |(refine wpList_load_row rfl 288 (.tmp 3) rfl (w.heap.size+1) rfl 288 _ (0,0) _ nO Tryz.underlying288 rfl (by rw[List.size_toArray,ob,Lz.du];exact xE) ?_)|(refine wpList_store_row rfl 288 (.tmp 2) (.tmp 81) rfl w.heap.size _ rfl rfl 288 (dw F1).toArray hZ (by rw[List.size_toArray,ob,Lz.du];exact xE) (by rw[List.size_toArray,List.size_toArray,ob,ob,Lz.du];rfl) (wE _) ?_))
   refine bodyPost_ret (results_cell_row (P:=Tryz.prog) (p:=2) rfl _ _ w.heap.size 288 _ (0,0) _ rfl (setRow_heap _ _ _ _ _ _ hZ) Tryz.underlying288 rfl (by rw[List.size_toArray,ob,Lz.du];exact xE)) rfl ?_;exact⟨rfl,aH aK (Nat.le_refl _)⟩
theorem NJ (m:Nat):Builtin.zeroCells #[Value.int .u8 0] m=(u8s (List.replicate m 0)).toArray:=by
 apply Array.ext'
 unfold Builtin.zeroCells u8s
 simp[Nat.mod_one]
 rw[List.eq_replicate_iff];constructor
 ·simp
 ·intro b hb
  simp at hb
  obtain⟨_,_,rfl⟩:=hb;rfl
def fs (w:World) (base:Nat) (v:Value) (n:Nat) (l:List UInt8):Prop:=
 ∃g cap dB fz,v=.slice (some ⟨g,0,none⟩) n cap/\base<=g/\w.heap[g]? =some (.cells dB 5 fz)/\(fz.2<=n\/cap<=fz.1)/\n<=cap/\cap<=maxLen/\dB.size=cap/\dB.toList.take n=u8s l/\l.length=n
theorem fs.kept {w w':World} {base:Nat} {v:Value} {n:Nat} {l:List UInt8} (h:fs w base v n l) (hb:Below w.heap.size w w'):fs w' base v n l:=by
 obtain⟨g,cap,dB,fz,h1,h2,h3,r⟩:=h;exact⟨g,cap,dB,fz,h1,h2,by rw[hb.block g (af h3)];exact h3,r⟩
theorem fs.len {w:World} {base:Nat} {v:Value} {n:Nat} {l:List UInt8} (h:fs w base v n l):∃a c,v=.slice a n c:=by
 obtain⟨g,cap,dB,fz,h1,_⟩:=h;exact⟨_,_,h1⟩
theorem Zd (g o i:Nat):(⟨g,o,none⟩:Addr).add i=⟨g,o+i,none⟩:=by unfold Addr.add;split<;>simp_all
theorem fs.cells {w:World} {base g:Nat} {v:Value} {n:Nat} {l:List UInt8} (h:fs w base v n l) (hg:v.ownBlock=some g) (j:Nat) (u:Value) (hu:(u8s l)[j]? =some u):w.cell? ((⟨g,0,none⟩:Addr).add j)=some u:=by
 obtain⟨g',cap,dB,fz,rfl,_,qQ,_,_,_,_,yn,_⟩:=h
 simp[Value.ownBlock]at hg
 subst hg;rw[bV,cell_of_row w g' j dB _ fz qQ];rw[<-yn,List.getElem?_take]at hu;split at hu
 ·simpa using hu
 ·cases hu
theorem nt (g o:Nat) (t:TypeId) (fz:Nat×Nat):∀(vs:List Value) (i:Nat) (dB:Array Value) (w:World),w.heap[g]? =some (.cells dB t fz)->(fz.2<=o+i\/dB.size<=fz.1)->o+i+vs.length<=dB.size->(∀v∈vs,v.oneCell'=true)->
  (storeCells ⟨g,o,none⟩ vs i).run Tryz.prog w=.ok () (w.setRow g (dB.toList.take (o+i)++vs++dB.toList.drop (o+i+vs.length)).toArray)
 | [],i,dB,w,hg,_,_,_=>by
   simp only[storeCells,List.append_nil,List.length_nil,Nat.add_zero,List.take_append_drop,Array.toArray_toList];rw[setRow_self w g dB t fz hg];rfl
 | v::rest,i,dB,w,hg,If,hl,h1=>by
   have hi:o+i<dB.size:=by simp at hl;omega
   have aai:(⟨g,o,none⟩:Addr).add i=⟨g,o+i,none⟩:=Zd _ _ _;have bc:w.cell? ⟨g,o+i,none⟩=some dB[o+i]:=by simp[World.cell?,hg,hi]
   have abE:w.frozen? ⟨g,o+i,none⟩=false:=by
    obtain⟨lo,hi'⟩:=fz;simp only[World.frozen?,hg,Bool.and_eq_false_iff,decide_eq_false_iff_not];simp only at If;omega
   have hst:(store ((⟨g,o,none⟩:Addr).add i) v).run Tryz.prog w=.ok () (w.setRow g (dB.setIfInBounds (o+i) v)):=by
    rw[aai,run_store Tryz.prog w _ v _ (h1 v (by simp)),bc]
    simp[abE,setCell_eq_setRow w g (o+i) dB t fz v hg]
   have ih:=nt g o t fz rest (i+1) (dB.setIfInBounds (o+i) v) (w.setRow g (dB.setIfInBounds (o+i) v)) (setRow_heap w g dB _ t _ hg) (by rw[Array.size_setIfInBounds];omega) (by simp at hl⊢;omega) (fun x hx=>h1 x (by simp[hx]));simp only[storeCells,Sem.run_bind,hst,Result.andThen_ok,ih,setRow_setRow];congr 3;have e:=list_seg_step dB.toList (o+i) v rest (by simp at hl⊢;omega);simpa [Array.toList_setIfInBounds,Nat.add_assoc]using e
theorem Jj (l:List UInt8):∀u∈u8s l,u.oneCell'=true:=by
 intro u hu;unfold u8s at hu;obtain⟨_,_,rfl⟩:=List.mem_map.1 hu;rfl
theorem fQ (l:List UInt8):(u8s l).length=l.length:=by simp[u8s]
theorem fs.room {w:World} {base g n cap:Nat} {dB:Array Value} {fz:Nat×Nat} {l news:List UInt8} (Lw:base<=g) (hg:w.heap[g]? =some (.cells dB 5 fz)) (If:fz.2<=n\/cap<=fz.1) (gL:cap<=maxLen) (iZ:dB.size=cap) (yn:dB.toList.take n=u8s l) (mS:l.length=n) (uO:n+news.length<=cap):
  fs (w.setRow g (dB.toList.take n++u8s news++dB.toList.drop (n+(u8s news).length)).toArray) base (.slice (some ⟨g,0,none⟩) (n+news.length) cap) (n+news.length) (l++news)/\w.grownBy (w.setRow g (dB.toList.take n++u8s news++dB.toList.drop (n+(u8s news).length)).toArray) (some g):=by
 refine⟨⟨g,cap,_,fz,rfl,Lw,setRow_heap w g dB _ _ _ hg,by omega,uO,gL,?_,?_,by rw[List.length_append,mS]⟩,⟨rfl,rfl,rfl,by simp,fun k _ hk=>setRow_other w g k _ (fun e=>hk (by rw[e]))⟩⟩
 ·have:=fQ news
  simp;omega
 ·rw[<-BA];simp only;rw[yn,List.take_left' (by rw[List.length_append,fQ,fQ,mS])]
theorem fs.grows {w:World} {base n cap:Nat} {l news:List UInt8} (fA:base<=w.heap.size) (mS:l.length=n) (LC:n+news.length<=1099511627776) (row:Option Nat):
  fs (w.drew.alloc (.cells ((u8s l).toArray++(u8s news).toArray++Builtin.zeroCells (Value.cells (Value.int .u8 0)) (grownCap w (n+news.length) cap 5-(n+news.length))) 5)) base (.slice (some ⟨w.heap.size,0,none⟩) (n+news.length) (grownCap w (n+news.length) cap 5)) (n+news.length) (l++news)/\w.grownBy (w.drew.alloc (.cells ((u8s l).toArray++(u8s news).toArray++Builtin.zeroCells (Value.cells (Value.int .u8 0)) (grownCap w (n+news.length) cap 5-(n+news.length))) 5)) row:=by
 have Iv:=grownCap_ge w (n+news.length) cap 5;refine⟨⟨w.heap.size,_,_,(0,0),rfl,fA,heap_alloc_new w.drew _,Or.inl (Nat.zero_le _),Iv,grownCap_le_maxLen w (n+news.length) cap 5 (by unfold maxLen;omega),?_,?_,by rw[List.length_append,mS]⟩,⟨rfl,rfl,rfl,by simp,fun k hk _=>heap_alloc_old w.drew _ hk⟩⟩
 ·rw[Array.size_append,Array.size_append,size_zeroCells,List.size_toArray,List.size_toArray,fQ,fQ];show _+_+_*1=_;omega
 ·rw[<-BA];simp only[Array.toList_append,List.append_assoc];rw[<-List.append_assoc,List.take_left' (by rw[List.length_append,fQ,fQ,mS])]
theorem sJ (base:Nat) (ty:TypeId) (v:Value) (n m:Nat) (l:List UInt8) (w:World) (au:fs w base v n l) (LC:n+m<=1099511627776) (fA:base<=w.heap.size):
  ∃v' w',(Builtin.append_ #[75,3] ty #[v,.int .i64 (m:Int)]).run Tryz.prog w=.ok v' w'/\fs w' base v' (n+m) (l++List.replicate m 0)/\w.grownBy w' v.ownBlock:=by
 obtain⟨i,hi,hz,ei,eM⟩:=info_parts Tryz.infoU8;have hw:IntKind.i64.wrap (m:Int)=m:=by rw[IntKind.wrap_i64];omega
 have aat:¬((m:Int)<0):=by omega
 have aaU:¬(281474976710656<(m:Int)):=by omega
 have LF:Builtin.zeroCells (Value.cells (Value.int .u8 0)) m=(u8s (List.replicate m 0)).toArray:=NJ m;have E8:(List.replicate m (0:UInt8)).length=m:=List.length_replicate;obtain⟨g,cap,dB,fz,rfl,Lw,hg,If,TW,gL,iZ,yn,mS⟩:=id au;by_cases hm:m=0
 ·subst hm;refine⟨_,w,?_,by simpa using au,⟨rfl,rfl,rfl,Nat.le_refl _,fun _ _ _=>rfl⟩⟩
  simp[Builtin.append_,run_underlying Tryz.underlying75,run_underlying Tryz.underlying3,sizeOf,typeInfo,hi,eM,asInt,asIntOf,TW,IntKind.wrap_i64,Addr.add_lit,storeCells]
 ·by_cases uO:n+m<=cap
  ·have hst:=nt g n 5 fz (u8s (List.replicate m 0)) 0 dB w hg (by omega) (by rw[fQ,E8];omega) (Jj _);simp only[Nat.add_zero]at hst;have hO:=fs.room (news:=List.replicate m 0) Lw hg If gL iZ yn mS (by rw[E8];exact uO);rw[E8]at hO;refine⟨_,_,?_,hO.1,hO.2⟩
   simp[Builtin.append_,run_underlying Tryz.underlying75,run_underlying Tryz.underlying3,sizeOf,typeInfo,zeroValue,hi,hz,ei,eM,asInt,asIntOf,uO,hw,aat,aaU,hm,LF,Addr.add_lit,hst]
  ·have bc:∀j u,(u8s l)[j]? =some u->w.drew.cell? ((⟨g,0,none⟩:Addr).add j)=some u:=fun j u hu=>au.cells (g:=g) rfl j u hu;have Xr:=run_firstCells_some (P:=Tryz.prog) w.drew 1 n ⟨g,0,none⟩ n cap (u8s l) (by rw[fQ,mS,Nat.mul_one]) bc;have ab9:¬(9223372036854775807<((n:Int)+(m:Int))):=by omega
   have ab7:¬(281474976710656<Builtin.nextslicecap (n+m) cap):=by
    have:=growslice_fits (need:=n+m) (old:=cap) (bytes:=1) (by omega) (by omega);omega
   have hO:=fs.grows (base:=base) (cap:=cap) (w:=w) (news:=List.replicate m 0) fA mS (by rw[E8];exact LC) (some g);rw[E8]at hO;refine⟨_,_,?_,hO.1,hO.2⟩
   simp[Builtin.append_,run_underlying Tryz.underlying75,run_underlying Tryz.underlying3,sizeOf,typeInfo,zeroValue,hi,hz,ei,eM,asInt,asIntOf,uO,hw,aat,aaU,hm,LF,ab9,ab7,Question.forced,Xr,newRow,grownCap]
   have e:(u8s l++u8s (List.replicate m 0)).toArray=(u8s l).toArray++(u8s (List.replicate m 0)).toArray:=by simp
   rw[e,Array.append_assoc]
theorem tu (base:Nat) (ty:TypeId) (v:Value) (n m c:Nat) (l news:List UInt8) (ad:Addr) (w:World) (au:fs w base v n l) (hm:news.length=m) (uN:∀j u,(u8s news)[j]? =some u->w.cell? (ad.add j)=some u) (LC:n+m<=1099511627776) (fA:base<=w.heap.size):
  ∃v' w',(Builtin.append_ #[75,75] ty #[v,.slice (some ad) m c]).run Tryz.prog w=.ok v' w'/\fs w' base v' (n+m) (l++news)/\w.grownBy w' v.ownBlock:=by
 obtain⟨i,hi,hz,ei,eM⟩:=info_parts Tryz.infoU8;subst hm;obtain⟨g,cap,dB,fz,rfl,Lw,hg,If,TW,gL,iZ,yn,mS⟩:=id au;by_cases uO:n+news.length<=cap
 ·have hst:=nt g n 5 fz (u8s news) 0 dB w hg (by omega) (by rw[fQ];omega) (Jj _);simp only[Nat.add_zero]at hst;have hf:=run_firstCells_some (P:=Tryz.prog) w 1 news.length ad news.length c (u8s news) (by rw[fQ,Nat.mul_one]) uN;have hO:=fs.room (news:=news) Lw hg If gL iZ yn mS uO;refine⟨_,_,?_,hO.1,hO.2⟩
  simp[Builtin.append_,run_underlying Tryz.underlying75,sizeOf,typeInfo,hi,ei,Builtin.lenOf,uO,hf,Addr.add_lit,hst]
 ·have hr:=run_append_grow (P:=Tryz.prog) w 75 ty 5 i (.int .u8 0) Tryz.underlying75 hi hz ⟨g,0,none⟩ n cap (u8s l) (by rw[fQ,mS,ei,Nat.mul_one]) (fun j u hu=>au.cells (g:=g) rfl j u hu) ad news.length c (u8s news) (by rw[fQ,ei,Nat.mul_one]) uN (by omega) (by omega) (growslice_fits (by omega) (by rw[eM];omega));have hO:=fs.grows (base:=base) (cap:=cap) (w:=w) (news:=news) fA mS LC (some g);exact⟨_,_,hr,hO.1,hO.2⟩
theorem kp {ops:Array Oper} {rest:List Oper} {o:Oper} {a:Act} {Q:Exit->Act->World->Prop} {w:World} (L4:o.guard=none) (s x:Operand)
  (ho:o.op=.call {callee:=.builtin .append,args:= #[s,x],argTypes:= #[75,3]}) (base:Nat) (v:Value) (n m n':Nat) (l l':List UInt8) (hs:a.eval s=v) (hx:a.eval x=.int .i64 (m:Int)) (au:fs w base v n l) (hn:n+m=n') (hl:l++List.replicate m 0=l') (LC:n+m<=1099511627776) (fA:base<=w.heap.size)
  (h:∀v' w',fs w' base v' n' l'->w.grownBy w' v.ownBlock->wpList Tryz.prog ops Q rest (a.put o.dst v') w'):wpList Tryz.prog ops Q (o::rest) a w:=by
 subst hn;subst hl;obtain⟨v',w',hr,h1,h2⟩:=sJ base o.type v n m l w au LC fA;exact Lib.wpList_append_run w L4 s x 75 3 ho v _ hs hx v' w' hr (h v' w' h1 h2)
theorem kq {ops:Array Oper} {rest:List Oper} {o:Oper} {a:Act} {Q:Exit->Act->World->Prop} {w:World} (L4:o.guard=none) (s x:Operand)
  (ho:o.op=.call {callee:=.builtin .append,args:= #[s,x],argTypes:= #[75,75]}) (base:Nat) (v:Value) (n m c n':Nat) (l news l':List UInt8) (ad:Addr) (hs:a.eval s=v) (hx:a.eval x=.slice (some ad) m c) (au:fs w base v n l) (hn:n+m=n') (hl:l++news=l') (hm:news.length=m) (uN:∀j u,(u8s news)[j]? =some u->w.cell? (ad.add j)=some u) (LC:n+m<=1099511627776) (fA:base<=w.heap.size)
  (h:∀v' w',fs w' base v' n' l'->w.grownBy w' v.ownBlock->wpList Tryz.prog ops Q rest (a.put o.dst v') w'):wpList Tryz.prog ops Q (o::rest) a w:=by
 subst hn;subst hl;obtain⟨v',w',hr,h1,h2⟩:=tu base o.type v n m c l news ad w au hm uN LC fA;exact Lib.wpList_append_run w L4 s x 75 75 ho v _ hs hx v' w' hr (h v' w' h1 h2)
theorem fs.length {w:World} {base:Nat} {v:Value} {n:Nat} {l:List UInt8} (h:fs w base v n l):l.length=n:=by
 obtain⟨_,_,_,_,_,_,_,_,_,_,_,_,mS⟩:=h;exact mS
theorem fs.form {w:World} {base:Nat} {v:Value} {n:Nat} {l:List UInt8} (h:fs w base v n l):∃g c,v=.slice (some ⟨g,0,none⟩) n c/\base<=g/\n<=c:=by
 obtain⟨g,cap,_,_,h1,h2,_,_,h3,_⟩:=h;exact⟨g,cap,h1,h2,h3⟩
theorem fs.setRow {w:World} {base:Nat} {v:Value} {n:Nat} {l:List UInt8} (h:fs w base v n l) (H:Nat) (cs:Array Value) (hH:H<base):fs (w.setRow H cs) base v n l:=by
 obtain⟨g,cap,dB,fz,h1,h2,h3,r⟩:=h;exact⟨g,cap,dB,fz,h1,h2,by rw[setRow_other _ _ _ _ (by omega)];exact h3,r⟩
theorem fs.below {w w':World} {base:Nat} {v:Value} {n:Nat} {l:List UInt8} {B:Nat} {a:World} (h:fs w base v n l) (hg:w.grownBy w' v.ownBlock) (hb:Below B a w) (hB:B<=base) (hs:B<=w.heap.size):Below B a w':=
 hb.grown hg hs (fun k hk=>by
  obtain⟨g,_,_,_,rfl,h2,_⟩:=h
  simp[Value.ownBlock]at hk
  omega)
theorem JZ (s:ByteArray) (w:World) (hs:s.size<=1099511627776):fs (w.drew.alloc (.cells (bytesRow s (grownCap w s.size 0 5)) 5 ((bytesRow s (grownCap w s.size 0 5)).size,(bytesRow s (grownCap w s.size 0 5)).size+1))) w.heap.size (.slice (some ⟨w.heap.size,0,none⟩) s.size (grownCap w s.size 0 5)) s.size s.data.toList:=by
 have Iv:=grownCap_ge w s.size 0 5
 have hz:(bytesRow s (grownCap w s.size 0 5)).size=grownCap w s.size 0 5:=by
  unfold bytesRow;have:s.data.size=s.size:=rfl;simp only[Array.size_append,Array.size_map,Array.size_replicate];omega
 refine⟨w.heap.size,_,_,_,rfl,Nat.le_refl _,heap_alloc_new w.drew _,Or.inr (by rw[hz];exact Nat.le_refl _),Iv,grownCap_le_maxLen w s.size 0 5 (by unfold maxLen;omega),hz,?_,aa s⟩;unfold bytesRow u8s;rw[Array.toList_append,Array.toList_map,List.take_left' (by rw[List.length_map,aa])]
theorem fs.text {w:World} {base g cap n:Nat} {l:List UInt8} (h:fs w base (.slice (some ⟨g,0,none⟩) n cap) n l) (LN k c:Nat) (hk:LN+k<=n):(convert 75 9 (.slice (some ⟨g,LN,none⟩) k c)).run Tryz.prog w=.ok (.string ⟨((l.drop LN).take k).toArray⟩) w:=by
 obtain⟨_,_,_,_,e,_,_,_,_,_,_,_,mS⟩:=id h;have hlk:((l.drop LN).take k).length=k:=by rw[List.length_take,List.length_drop];omega
 have:=run_convert_bytes_back (P:=Tryz.prog) w 75 9 5 ⟨g,LN,none⟩ c ((l.drop LN).take k) Tryz.underlying75 Tryz.underlying5 Tryz.underlying9 (by
  intro j hj
  have hu:(u8s l)[LN+j]? =some (.int .u8 ((((l.drop LN).take k)[j]).toNat:Int)):=by
   unfold u8s;rw[List.getElem?_map,List.getElem?_eq_getElem (by omega)]
   simp
  have:=h.cells (g:=g) rfl (LN+j) _ hu;rw[bV]at this
  rwa [Zd])
 rwa [hlk]at this
end Go.Proofs.YtecoeebjaleeiaaGreatDoor
namespace Lz
open Go
def erQ:UR->Prop
 | .ok _=>True
 | .er n=>n=70\/n=71\/n=72\/n=81\/n=82
theorem oP {r:UR} {f:ag->UR} (h:erQ r) (hf:∀u,erQ (f u)):erQ (r.bind f):=by
 cases r with
 | ok u=>exact hf u
 | er n=>exact h
theorem wv (u:ag) (s:Bs):erQ (eI u s):=by
 unfold eI;split
 ·rename_i n e;cases gT:ai u.scheme with
  | true=>rw[gT]at e;rcases lL _ _ e with h|h|h<;>simp[erQ,h]
  | false=>rw[gT]at e;rcases oL _ _ e with h|h<;>simp[erQ,h]
 ·trivial
theorem Db (u:ag) (s:Bs):erQ (ey u s):=by
 unfold ey;split
 ·simp[erQ]
 ·split<;>simp[erQ]
theorem zL (u:ag) (a:Bs):erQ (eZ u a):=by
 unfold eZ;split
 ·split
  ·simp[erQ]
  ·exact oP (wv _ _) fun u=>Db _ _
 ·split
  ·simp[erQ]
  ·exact oP (wv _ _) fun u=>Db _ _
theorem NQ (u:ag) (a:Bs):erQ (jj u a):=by
 unfold jj;split
 ·split
  ·simp[erQ]
  ·exact zL _ _
 ·exact zL _ _
theorem np (u:ag) (r:Bs):erQ (bT u r):=oP (NQ _ _) fun _=>trivial
theorem IL (u b:ag) (r:Bs):erQ (mj u b r):=by
 unfold mj;simp only;split
 ·exact np _ _
 ·split<;>trivial
theorem zG (u:ag) (b:Option ag) (r:Bs):erQ (em u b r):=by
 unfold em;simp only;split
 ·split
  ·trivial
  ·refine oP ?_ fun _=>trivial;split
   ·trivial
   ·exact wv _ _
 ·split
  ·trivial
  ·split
   ·split
    ·split<;>trivial
    ·trivial
   ·trivial
theorem N5 (u:ag) (s:Bs) (b:Option ag):erQ (iH u s b):=by
 unfold iH;simp only;split
 ·split
  ·exact zG _ _ _
  ·split
   ·split
    ·split
     ·exact IL _ _ _
     ·exact np _ _
    ·exact np _ _
   ·split
    ·exact np _ _
    ·split<;>trivial
 ·split
  ·simp[erQ]
  ·split
   ·simp[erQ]
   ·split
    ·trivial
    ·split
     ·exact zG _ _ _
     ·exact IL _ _ _
theorem sX {s:Bs} {b:Option ag} {n:Nat} (e:gE s b=.er n):n=70\/n=71\/n=72\/n=81\/n=82:=by
 have h:erQ (gE s b):=oP (N5 _ _ _) fun _=>trivial;rw[e]at h;exact h
end Lz
