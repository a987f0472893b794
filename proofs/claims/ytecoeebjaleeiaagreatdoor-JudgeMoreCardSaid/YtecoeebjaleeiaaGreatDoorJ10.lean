/-
  percent.more and percent.Encode.
-/
import Derived.Test.YtecoeebjaleeiaaGreatDoorJ05
import Derived.Test.YtecoeebjaleeiaaGreatDoorJ08
import Derived.StillTailTactics
set_option maxHeartbeats 2000000
set_option maxRecDepth 100000
namespace Lz
def jr (c:UInt8):Nat:=(jb c).getD 0
def qp (c:UInt8):Bool:=(jb c).isSome
end Lz
namespace Go.Proofs.YtecoeebjaleeiaaGreatDoor
open Go.RowKit
theorem Y6 (c:UInt8):Lz.bj c=true->((c.toNat:Int)-48)%256=(Lz.jr c:Int)/\Lz.qp c=true:=by
 revert c;exact Lz.aJ (by decide +kernel)
theorem YI (c:UInt8):Lz.bj c=false->97<=bits BinOp.or IntKind.u8 (c.toNat:Int) 32->bits BinOp.or IntKind.u8 (c.toNat:Int) 32<=102->bits BinOp.or IntKind.u8 (c.toNat:Int) 32-97+10=(Lz.jr c:Int)/\Lz.qp c=true:=by
 revert c;exact Lz.aJ (by decide +kernel)
theorem Y5 (c:UInt8):Lz.bj c=false->¬(97<=bits BinOp.or IntKind.u8 (c.toNat:Int) 32/\bits BinOp.or IntKind.u8 (c.toNat:Int) 32<=102)->(Lz.jr c:Int)=0/\Lz.qp c=false:=by
 revert c;exact Lz.aJ (by decide +kernel)
theorem kx (c:UInt8):Lz.jr c<16:=by
 revert c;exact Lz.aJ (by decide +kernel)
def DS (c:UInt8) (w:World) (e:Ending) (w':World):Prop:=e=.returned (.tuple #[.int .i64 (Lz.jr c),.bool (Lz.qp c)])/\w=w'
theorem ny (c:UInt8) (w:World):Calls Tryz.prog 272 #[.int .u8 c.toNat] w (DS c w):=by
 have hc:=jz c;have H1:=Ih (Y6 c);have H2:=Ih (YI c);have H3:=Ih (Y5 c);unfold DS;generalize hn:Lz.jr c=n at *;generalize hb:Lz.qp c=b at *;have cd:=mb c w;generalize vm:Lz.bj c=d at *;have Cd:=Ih cd;clear cd hn hb vm;cases d
 ·have H2':=Ih (H2.out rfl);have H3':=Ih (H3.out rfl);clear H1 H2 H3;go_enter Tryz.func272,Tryz.ntmps272
  go_wp2_with (go_at_call 90;refine(Cd.out).mono ?_;rintro e w' ⟨rfl,rfl⟩)
  ·go_ret2
   rename_i h1 h2;obtain⟨e1,e2⟩:=H2'.out h1 h2;exact⟨by rw[<-e1,e2];rfl,rfl⟩
  ·go_ret2
   rename_i h1 h2;obtain⟨e1,e2⟩:=H3'.out (by omega);exact⟨by rw[e1,e2];rfl,rfl⟩
  ·go_ret2
   rename_i h1;obtain⟨e1,e2⟩:=H3'.out (by omega);exact⟨by rw[e1,e2];rfl,rfl⟩
 ·obtain⟨h1,h2⟩:=H1.out rfl;clear H2 H3 H1;subst h2;have Hh:=Ih h1;clear h1;go_enter Tryz.func272,Tryz.ntmps272
  go_wp2_with (go_at_call 90;refine(Cd.out).mono ?_;rintro e w' ⟨rfl,rfl⟩)
  go_ret2
  exact⟨by rw[<-Hh.out];rfl,rfl⟩
def vA (l:List UInt8) (w:World) (e:Ending) (w':World):Prop:=
 ∃c:UInt8,e=.returned (.tuple #[.int .u8 c.toNat,.bool (Lz.d8 l).isSome])/\Hid (∀b,Lz.d8 l=some b->c=b)/\w=w'
theorem QY (a b:UInt8):((bits BinOp.or IntKind.i64 ((Lz.jr a:Int)*16) (Lz.jr b))%256)=((UInt8.ofNat (16*Lz.jr a+Lz.jr b)).toNat:Int):=by
 have ha:=kx a;have hb:=kx b;generalize Lz.jr a=x at *;generalize Lz.jr b=y at *;exact(show ∀x:Fin 16,∀y:Fin 16,((bits BinOp.or IntKind.i64 ((x.1:Int)*16) y.1)%256)=((UInt8.ofNat (16*x.1+y.1)).toNat:Int) by decide +kernel) ⟨x,ha⟩ ⟨y,hb⟩
theorem Bg {l:List UInt8} (h:l.length<3):Lz.d8 l=none:=by
 match l,h with
 | [],_=>rfl
 | [a],_=>unfold Lz.d8;split<;>simp_all
 | [a,b],_=>unfold Lz.d8;split<;>simp_all
theorem BG {l:List UInt8} {c:UInt8} (h0:l[0]? =some c) (h:(c==37)=false):Lz.d8 l=none:=by
 unfold Lz.d8;split
 ·simp at h0;subst h0;simp at h
 ·rfl
theorem AS {l:List UInt8} {c a b:UInt8} (h0:l[0]? =some c) (h1:l[1]? =some a) (h2:l[2]? =some b) (h:(c==37)=true):
  Lz.d8 l=if Lz.qp a&&Lz.qp b then some (UInt8.ofNat (16*Lz.jr a+Lz.jr b))else none:=by
 match l,h0,h1,h2 with
 | x::y::z::r,h0,h1,h2=>
   simp at h0 h1 h2 h
   subst h0 h1 h2 h
   show(match Lz.jb y,Lz.jb z with
    | some x,some y=>some (UInt8.ofNat (16*x+y))
    | _,_=>none)=_
   cases hy:Lz.jb y<;>cases hz:Lz.jb z<;>simp[Lz.qp,Lz.jr,hy,hz]
theorem H9 (s:ByteArray) (hs:s.size<=1073741824) (w:World):Calls Tryz.prog 262 #[.string s] w (vA s.data.toList w):=by
 by_cases h3:s.size<3
 ·have Ht:=Ih (Bg (l:=s.data.toList) (by rw[aa];exact h3));unfold vA;go_enter Tryz.func262,Tryz.ntmps262
  go_wp2
  go_ret2
  refine⟨0,?_,Ih (fun b hb=>?_),rfl⟩
  ·rw[Ht.out];rfl
  ·rw[Ht.out]at hb;cases hb
 ·have g0:=aB (s:=s) (n:=0) (by omega);have g1:=aB (s:=s) (n:=1) (by omega);have g2:=aB (s:=s) (n:=2) (by omega);have i0:((s[0].toNat:Int)==37)=(s[0]==37):=Kr s[0] 37;have n0:((s[0].toNat:Int) != 37)= !(s[0]==37):=congrArg (! ·) i0;generalize hq:(s[0]==37)=q at i0 n0;cases q
  ·have Ht:=Ih (BG g0 hq);clear g0 g1 g2 hq;simp only[Bool.not_false]at n0;unfold vA;go_enter Tryz.func262,Tryz.ntmps262
   go_wp2
   go_ret2
   refine⟨0,?_,Ih (fun b hb=>?_),rfl⟩
   ·rw[Ht.out];rfl
   ·rw[Ht.out]at hb;cases hb
  ·have Ht:=Ih (AS g0 g1 g2 hq);have I:=Ih (QY s[1] s[2]);have Ca:=fun w=>ny s[1] w;have Cb:=fun w=>ny s[2] w;unfold DS at Ca Cb;unfold vA;have l1:=kx s[1];have l2:=kx s[2];generalize Lz.jr s[1]=x at *;generalize Lz.jr s[2]=y at *;generalize Lz.qp s[1]=a at *;generalize Lz.qp s[2]=b at *;clear g0 g1 g2 hq;simp only[Bool.not_true]at n0;cases a<;>cases b<;>
   ·go_enter Tryz.func262,Tryz.ntmps262
    go_wp2_with fail
    with_reducible refine(Ca _).mono ?_
    rintro e w' ⟨rfl,rfl⟩
    go_wp2_with fail
    with_reducible refine(Cb _).mono ?_
    rintro e w' ⟨rfl,rfl⟩
    go_wp2
    go_ret2
    refine⟨UInt8.ofNat (16*x+y),?_,Ih (fun b hb=>?_),rfl⟩
    ·rw[Ht.out,<-I.out];rfl
    ·rw[Ht.out]at hb;first |(cases hb;rfl)|cases hb
end Go.Proofs.YtecoeebjaleeiaaGreatDoor
namespace Lz
open Go
theorem ui {l:Bs} {b:UInt8} (h:d8 l=some b):aw l=b::aw (l.drop 3)/\3<=l.length:=by
 match l with
 | []=>simp[d8]at h
 | c::r=>
   refine⟨?_,?_⟩
   ·rw[aw];split
    ·rename_i b' hb;rw[hb]at h;injection h with h;subst h;rfl
    ·rename_i hb;rw[hb]at h;cases h
   ·unfold d8 at h;split at h
    ·rename_i heq;rw[heq];simp
    ·cases h
theorem DN {l:Bs} {c:UInt8} (hc:l[0]? =some c) (h:d8 l=none):aw l=c::aw (l.drop 1):=by
 match l with
 | []=>simp at hc
 | x::r=>
   simp at hc;subst hc
   rw[aw];split
   ·rename_i b' hb;rw[hb]at h;cases h
   ·rfl
end Lz
namespace Go.Proofs.YtecoeebjaleeiaaGreatDoor
open Go.RowKit
structure uD (l:List UInt8) (w:World) (u:ByteArray) (jS:List UInt8) (wr:World):Prop where
 sum:jS++Lz.aw u.data.toList=Lz.aw l
 len:jS.length+u.size<=l.length
 made:Lib.IsBuilder 77 5 w.heap.size w.heap.size (Lib.byteCells jS) wr
 below:Below w.heap.size w wr
theorem gh (jS:List UInt8) (c:UInt8):Lib.byteCells jS++[.int .u8 (c.toNat:Int)]=Lib.byteCells (jS++[c]):=by
 simp[Lib.byteCells]
theorem uD.some {l:List UInt8} {w:World} {u:ByteArray} {jS:List UInt8} {wr w':World} {b:UInt8} (h:uD l w u jS wr) (hb:Lz.d8 u.data.toList=some b)
  (hm:Lib.IsBuilder 77 5 w.heap.size w.heap.size (Lib.byteCells jS++[.int .u8 (b.toNat:Int)]) w') (hw:Below w.heap.size wr w') {v:ByteArray} (hv:v.data.toList=u.data.toList.drop 3):uD l w v (jS++[b]) w':=by
 obtain⟨h1,h2⟩:=Lz.ui hb;have hz:v.size=u.size-3:=by rw[<-aa,hv,List.length_drop,aa]
 rw[aa]at h2;exact⟨by rw[<-h.sum,h1,hv];simp,by have:=h.len;simp;omega,by rw[<-gh];exact hm,h.below.trans hw⟩
theorem uD.none {l:List UInt8} {w:World} {u:ByteArray} {jS:List UInt8} {wr w':World} {c:UInt8} (h:uD l w u jS wr) (hc:u.data.toList[0]? =.some c) (hb:Lz.d8 u.data.toList=.none)
  (hm:Lib.IsBuilder 77 5 w.heap.size w.heap.size (Lib.byteCells jS++[.int .u8 (c.toNat:Int)]) w') (hw:Below w.heap.size wr w') {v:ByteArray} (hv:v.data.toList=u.data.toList.drop 1):uD l w v (jS++[c]) w':=by
 have h1:=Lz.DN hc hb;have hz:v.size=u.size-1:=by rw[<-aa,hv,List.length_drop,aa]
 have hu:0<u.size:=by
  have:=(List.getElem?_eq_some_iff.1 hc).1
  rwa [aa]at this
 exact⟨by rw[<-h.sum,h1,hv];simp,by have:=h.len;simp;omega,by rw[<-gh];exact hm,h.below.trans hw⟩
theorem YH (u:ByteArray):(u.extract 1 u.size).data.toList=u.data.toList.drop 1:=bR u 1
theorem S7 (u:ByteArray):((u.extract 2 u.size).extract 1 (u.extract 2 u.size).size).data.toList=u.data.toList.drop 3:=by
 rw[bR,bR,List.drop_drop]
theorem U2 (u:ByteArray):((u.extract 2 u.size).extract 1 (u.size-2)).data.toList=u.data.toList.drop 3:=by
 rw[show u.size-2=(u.extract 2 u.size).size by have:=congrArg List.length (bR u 2);rw[List.length_drop,aa,aa]at this;exact this.symm];exact S7 u
theorem qC (s:ByteArray) (hs:s.size<=1073741824) (w:World):Calls Tryz.prog 231 #[.string s] w (gJ (Lz.aw s.data.toList) w):=by
 obtain⟨l,hl⟩:∃l,l=s.data.toList:=⟨_,rfl⟩;have ba:l.length=s.size:=by rw[hl];exact aa s
 have h0:uD l w s [] (w.alloc (.cells #[.pointer none,.slice none 0 0] 77)):=
  ⟨by rw[hl];rfl,by simp[ba],Lib.fresh_isBuilder _ _ _,(Below.refl _ w).alloc (Nat.le_refl _) _⟩
 rw[<-hl];clear hl;have nU:=Ih ba;clear ba;go_enter Tryz.func231,Tryz.ntmps231
 go_wp2
 go_loopw [0] (fun s0 wr=>∃(u:ByteArray) (jS:List UInt8),s0=.string u/\uD l w u jS wr) (fun s0 _=>match s0 with| .string u=>u.size|_=>0)
 case atStart=>exact⟨s,[],rfl,h0⟩
 case round=>
  clear h0;obtain⟨u,jS,rfl,hD⟩:=hrel;have ju:jS.length+u.size<=s.size:=by rw[<-nU.out];exact hD.len
  have aK:=hD.below.size;by_cases hz:u.size=0
  ·have he:=aq hz;have hS:=Ih hD.sum
   go_wp2_with fail
   refine(Tryz.Builder_String_any _ _ jS _ hD.made (by exact aK)).mono ?_;rintro e w' ⟨rfl,hb⟩
   go_wp2
   go_ret;refine⟨_,rfl,Ih ?_,hD.below.trans hb⟩;rw[<-hS.out];have:u.data.toList=[]:=List.length_eq_zero_iff.1 (by rw[aa];exact hz);rw[this]
   simp[Lz.aw]
  ·have he:=an (s:=u) (by omega);have hg:=aB (s:=u) (n:=0) (by omega);have Hg:=Ih hg;have HD:=Ih hD
   go_wp2_with fail
   refine(H9 u (by omega) _).mono ?_;rintro e w' ⟨c,rfl,hc,rfl⟩;generalize hq:Lz.d8 u.data.toList=q at hc;have Hq:=Ih hq;clear hg hq hD;cases q with
   | none=>
     go_wp2_with fail
     refine(gO w.heap.size w.heap.size _ _ _ HD.out.made (by simp[Lib.byteCells];omega) aK).mono ?_;rintro e w2 ⟨rfl,hm,hb⟩
     go_wp2
     go_roundw
     case rel=>exact⟨_,_,rfl,HD.out.none Hg.out Hq.out hm hb (YH u)⟩
     case measure=>simp;omega
   | some b=>
     have WT:c=b:=hc.out b rfl;have h3:3<=u.size:=by rw[<-aa];exact(Lz.ui Hq.out).2
     have eM:(u.extract 2 u.size).size=u.size-2:=by rw[<-aa,bR,List.length_drop,aa]
     subst WT
     go_wp2_with fail
     refine(gO w.heap.size w.heap.size _ _ _ HD.out.made (by simp[Lib.byteCells];omega) aK).mono ?_;rintro e w2 ⟨rfl,hm,hb⟩
     go_wp2
     go_roundw
     case rel=>
      refine⟨_,_,rfl,HD.out.some Hq.out hm hb ?_⟩
      with_reducible first |exact S7 u|exact U2 u
     case measure=>simp;omega
end Go.Proofs.YtecoeebjaleeiaaGreatDoor
namespace Lz
open Go
def lC:Nat->Bs
 | 1=>[32,34,60,62,96]
 | 2=>[32,34,35,60,62]
 | 3=>[32,34,35,60,62,39]
 | 4=>[32,34,35,60,62,63,94,96,123,125]
 | 5=>[32,34,35,60,62,63,94,96,123,125,47,58,59,61,64,91,92,93,124]
 | 6=>[32,34,35,60,62,63,94,96,123,125,47,58,59,61,64,91,92,93,124,36,37,38,43,44]
 | _=>[]
theorem EQ (of l:Bs) (c:UInt8):aj of (l++[c])=aj of l++(if c<32||126<c||of.contains c then[37,dP (c.toNat / 16),dP (c.toNat%16)]else[c]):=by
 simp[aj]
theorem H6 (of l:Bs):(aj of l).length<=3*l.length:=by
 induction l with
 | nil=>simp[aj]
 | cons c r ih=>
   have:aj of (c::r)=(if c<32||126<c||of.contains c then[37,dP (c.toNat / 16),dP (c.toNat%16)]else[c])++aj of r:=by simp[aj]
   rw[this];split<;>simp<;>omega
end Lz
namespace Go.Proofs.YtecoeebjaleeiaaGreatDoor
open Go.RowKit
theorem mo (a b:ByteArray):(a++b).data.toList=a.data.toList++b.data.toList:=by simp
def CJ (l:List UInt8) (w:World) (e:Ending) (w':World):Prop:=∃u:ByteArray,e=.returned (.string u)/\Hid (u.data.toList=l)/\w=w'
theorem Ve (w:World):Calls Tryz.prog 63 #[.int .i64 0] w (CJ (Lz.lC 0) w):=by
 go_enter Tryz.func63,Tryz.ntmps63
 go_wp2
 go_ret;exact⟨_,rfl,Ih rfl,rfl⟩
theorem Gu (w:World):Calls Tryz.prog 63 #[.int .i64 2] w (CJ (Lz.lC 2) w):=by
 go_enter Tryz.func63,Tryz.ntmps63
 go_wp2
 go_ret;exact⟨_,rfl,Ih rfl,rfl⟩
theorem Mt (w:World):Calls Tryz.prog 63 #[.int .i64 4] w (CJ (Lz.lC 4) w):=by
 go_enter Tryz.func63,Tryz.ntmps63
 go_wp2_with fail
 with_reducible refine(Gu _).mono ?_
 rintro e w' ⟨u,rfl,hu,rfl⟩;have hz:u.size=5:=by rw[<-aa,hu.out];rfl
 go_wp2
 go_ret;exact⟨_,rfl,Ih (by rw[mo,hu.out];rfl),rfl⟩
theorem MZ (w:World):Calls Tryz.prog 63 #[.int .i64 5] w (CJ (Lz.lC 5) w):=by
 go_enter Tryz.func63,Tryz.ntmps63
 go_wp2_with fail
 with_reducible refine(Mt _).mono ?_
 rintro e w' ⟨u,rfl,hu,rfl⟩;have hz:u.size=10:=by rw[<-aa,hu.out];rfl
 go_wp2
 go_ret;exact⟨_,rfl,Ih (by rw[mo,hu.out];rfl),rfl⟩
theorem Ns (k:Nat) (hk:k<7) (w:World):Calls Tryz.prog 63 #[.int .i64 k] w (CJ (Lz.lC k) w):=by
 obtain rfl|rfl|rfl|rfl|rfl|rfl|rfl:k=0\/k=1\/k=2\/k=3\/k=4\/k=5\/k=6:=by omega
 ·exact Ve w
 ·show Calls _ _ #[.int .i64 1] _ _;go_enter Tryz.func63,Tryz.ntmps63
  go_wp2
  go_ret;exact⟨_,rfl,Ih rfl,rfl⟩
 ·exact Gu w
 ·show Calls _ _ #[.int .i64 3] _ _;go_enter Tryz.func63,Tryz.ntmps63
  go_wp2_with fail
  with_reducible refine(Gu _).mono ?_
  rintro e w' ⟨u,rfl,hu,rfl⟩;have hz:u.size=5:=by rw[<-aa,hu.out];rfl
  go_wp2
  go_ret;exact⟨_,rfl,Ih (by rw[mo,hu.out];rfl),rfl⟩
 ·exact Mt w
 ·exact MZ w
 ·show Calls _ _ #[.int .i64 6] _ _;go_enter Tryz.func63,Tryz.ntmps63
  go_wp2_with fail
  with_reducible refine(MZ _).mono ?_
  rintro e w' ⟨u,rfl,hu,rfl⟩;have hz:u.size=19:=by rw[<-aa,hu.out];rfl
  go_wp2
  go_ret;exact⟨_,rfl,Ih (by rw[mo,hu.out];rfl),rfl⟩
theorem Tf (c:UInt8):decide (c<32)=decide ((c.toNat:Int)<32):=by revert c;exact Lz.aJ (by decide +kernel)
theorem N3 (c:UInt8):decide (126<c)=decide (126<(c.toNat:Int)):=by revert c;exact Lz.aJ (by decide +kernel)
theorem Ze (c:UInt8):bits BinOp.and IntKind.u8 (c.toNat:Int) 15=((c.toNat%16:Nat):Int):=by revert c;exact Lz.aJ (by decide +kernel)
theorem S8 {x:Int} (h0:0<=x) (h1:x<=255):IntKind.u8.wrap x=x:=by
 have hb:IntKind.u8.bits=8:=rfl;have hs:IntKind.u8.signed=false:=rfl;simp only[IntKind.wrap,hb,hs]
 simp
 omega
theorem FM (x y:Fin 16):((({data:= #[37]}:ByteArray)++ByteArray.extract {data:= #[48,49,50,51,52,53,54,55,56,57,65,66,67,68,69,70]} x.1 (x.1+1))++ByteArray.extract {data:= #[48,49,50,51,52,53,54,55,56,57,65,66,67,68,69,70]} y.1 (y.1+1)).data.toList=[37,Lz.dP x.1,Lz.dP y.1]:=by
 revert x y;decide +kernel
theorem l8 (a:List UInt8) (s:ByteArray):Lib.byteCells (a++s.data.toList)=Lib.byteCells a++Lib.strCells s:=by
 simp[Lib.byteCells,Lib.strCells]
structure Tm (of l:List UInt8) (w:World) (k:Nat) (wr:World):Prop where
 made:Lib.IsBuilder 77 5 w.heap.size w.heap.size (Lib.byteCells (Lz.aj of (l.take k))) wr
 below:Below w.heap.size w wr
theorem fB (k:Nat) (hk:k<7) (s:ByteArray) (hs:s.size<=1073741824) (w:World):Calls Tryz.prog 27 #[.string s,.int .i64 k] w (gJ (Lz.aj (Lz.lC k) s.data.toList) w):=by
 obtain⟨l,hl⟩:∃l,l=s.data.toList:=⟨_,rfl⟩;have ba:l.length=s.size:=by rw[hl];exact aa s
 have h0:Tm (Lz.lC k) l w 0 (w.alloc (.cells #[.pointer none,.slice none 0 0] 77)):=
  ⟨Lib.fresh_isBuilder _ _ _,(Below.refl _ w).alloc (Nat.le_refl _) _⟩
 have Hl:=Ih hl;rw[<-hl];clear hl;have nU:=Ih ba;clear ba;have yx:(0:Int)<=(k:Int):=by omega
 have hk7:(k:Int)<7:=by omega
 go_enter Tryz.func27,Tryz.ntmps27
 go_wp2_with fail
 with_reducible refine(Ns k hk _).mono ?_
 rintro e w' ⟨of,rfl,hof,rfl⟩
 go_wp2_with fail
 go_loopw [19] (fun i wr=>∃j:Nat,j<=s.size/\i=.int .i64 j/\Tm (Lz.lC k) l w j wr) (fun i _=>s.size-(intOf i).toNat)
 case atStart=>exact⟨0,Nat.zero_le _,rfl,h0⟩
 case round=>
  clear h0;obtain⟨j,hj,rfl,hD⟩:=hrel;have aK:=hD.below.size;by_cases aV:j<s.size
  ·have hg:=aB (s:=s) aV;have Ix:l[j]? =some s[j]:=by rw[Hl.out];exact hg
   have bZ:l.take (j+1)=l.take j++[s[j]]:=by
    rw[List.take_add_one,Ix];rfl
   have hen:=Lz.EQ (Lz.lC k) (l.take j) s[j];rw[<-bZ]at hen;have hel:=Lz.H6 (Lz.lC k) (l.take j);have mS:(l.take j).length<=j:=by simp;omega
   generalize hc:s[j]=c at *;have HE:=Ih hen;have HD:=Ih hD;have Hg:=Ih hc;clear hen bZ Ix hg hD;have vp:=jz c;obtain⟨q,hq⟩:∃q,q=(decide (c<32)||decide (126<c)||(Lz.lC k).contains c):=⟨_,rfl⟩;rw[<-hq]at HE;have Hq:=Ih hq;clear hq;have Cx:=fun w=>lI of c w
   go_upto_region 9 with fail
   go_cut [19,36]from 19 to 54 (fun s19 s36 wx=>s19=.int .i64 j/\s36=.bool q/\wx=wr)
   case first=>
    by_cases h1:c<32
    ·have SH:(c.toNat:Int)<32:=of_decide_eq_true ((Tf c).symm.trans (decide_eq_true h1));have HQ:Hid (q=true):=by show _=_;rw[Hq.out];simp[h1]
     clear h1
     go_wp2_with fail
     go_meet;exact⟨rfl,by rw[HQ.out],rfl⟩
    ·have SH:¬(c.toNat:Int)<32:=of_decide_eq_false ((Tf c).symm.trans (decide_eq_false h1));by_cases h2:126<c
     ·have LB:126<(c.toNat:Int):=of_decide_eq_true ((N3 c).symm.trans (decide_eq_true h2));have HQ:Hid (q=true):=by show _=_;rw[Hq.out];simp[h2]
      clear h1 h2
      go_wp2_with fail
      go_meet;exact⟨rfl,by rw[HQ.out],rfl⟩
     ·have LB:¬126<(c.toNat:Int):=of_decide_eq_false ((N3 c).symm.trans (decide_eq_false h2));have HQ:Hid (q=decide (0<=Lib.indexByte of.data.toList c)):=by show _=_;rw[Hq.out,hof.out,<-Lib.contains_iff_indexByte];simp[h1,h2]
      clear h1 h2
      go_wp2_with fail
      with_reducible refine(Cx _).mono ?_
      rintro e w' ⟨rfl,rfl⟩
      go_wp2_with fail
      go_meet;exact⟨rfl,by rw[HQ.out],rfl⟩
   case rest=>
    obtain⟨rfl,rfl,rfl⟩:=hcut;cases q
    ·go_wp2_with fail
     refine(gO w.heap.size w.heap.size _ _ _ HD.out.made (by simp[Lib.byteCells];omega) aK).mono ?_;rintro e w2 ⟨rfl,hm,hb⟩
     go_wp2
     go_roundw
     case rel=>
      refine⟨j+1,by omega,by go_num,?_,HD.out.below.trans hb⟩;rw[HE.out,if_neg (by decide),<-gh];exact hm
     case measure=>simp[intOf];omega
    ·go_wp2_with fail
     obtain⟨x,hx,kj,O8⟩:∃x:Nat,(c.toNat:Int) / 16=x/\x<16/\x=c.toNat / 16:=⟨c.toNat / 16,by omega,by omega,rfl⟩;obtain⟨y,hy,acm,hyc⟩:∃y:Nat,bits BinOp.and IntKind.u8 (c.toNat:Int) 15=y/\y<16/\y=c.toNat%16:=⟨c.toNat%16,Ze c,by omega,rfl⟩;have hxw:IntKind.u8.wrap ((x:Int)+1)=(x:Int)+1:=S8 (by omega) (by omega);have hyw:IntKind.u8.wrap ((y:Int)+1)=(y:Int)+1:=S8 (by omega) (by omega);have iY:(x:Int)+1<=16:=by omega
     have P2:(y:Int)+1<=16:=by omega
     have iB:(0:Int)<=x:=by omega
     have pY:(0:Int)<=(x:Int)+1:=by omega
     have P1:(0:Int)<=(y:Int)+1:=by omega
     have pL:(x:Int)<=(x:Int)+1:=by omega
     have hy3:(y:Int)<=(y:Int)+1:=by omega
     have VS:(0:Int)<=y:=by omega
     have aU:¬(9223372036854775807<1+(min (x+1) 16-x)):=by omega
     have dN:¬(9223372036854775807<1+(min (x+1) 16-x)+(min (y+1) 16-y)):=by omega
     have Hxc:=Ih O8;have Hyc:=Ih hyc;clear O8 hyc;refine wp_region_still_tail 14 (by kernel_rfl) (by kernel_rfl) ?_;simp only[List.take_succ_cons,List.take_zero,List.drop_succ_cons,List.drop_zero]
     repeat still_step
     refine wpStill_nil ?_;change wpList _ _ _ _ _ wc.drew
     go_wp2_with fail
     generalize hT:(({data:= #[37]}:ByteArray)++ByteArray.extract {data:= #[48,49,50,51,52,53,54,55,56,57,65,66,67,68,69,70]} x (x+1))++ByteArray.extract {data:= #[48,49,50,51,52,53,54,55,56,57,65,66,67,68,69,70]} y (y+1)=tx;have hTd:tx.data.toList=[37,Lz.dP x,Lz.dP y]:=by rw[<-hT];exact FM ⟨x,kj⟩ ⟨y,acm⟩
     have hTz:tx.size=3:=by rw[<-aa,hTd];rfl
     clear hT;refine(nL w.heap.size w.heap.size (Lib.byteCells (Lz.aj (Lz.lC k) (l.take j))) tx wc.drew (by exact HD.out.made) (by simp[Lib.byteCells];omega) (by exact aK)).mono ?_;rintro e w2 ⟨rfl,hm,hb⟩
     go_wp2
     go_roundw
     case rel=>
      refine⟨j+1,by omega,by go_num,?_,HD.out.below.drew.trans hb⟩;rw[HE.out,if_pos (by decide),<-Hxc.out,<-Hyc.out,<-hTd];rw[l8];exact hm
     case measure=>simp[intOf];omega
  ·have Wq:j=s.size:=by omega
   have HD:=Ih hD;clear hD
   go_wp2_with fail
   refine(Tryz.Builder_String_any _ _ _ _ HD.out.made (by exact aK)).mono ?_;rintro e w' ⟨rfl,hb⟩
   go_wp2
   go_ret;refine⟨_,rfl,Ih ?_,HD.out.below.trans hb⟩;show Lz.aj _ (l.take s.size)=_;rw[<-nU.out,List.take_length]
end Go.Proofs.YtecoeebjaleeiaaGreatDoor
