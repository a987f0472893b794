/-
  percent.more and percent.Encode.
-/
import Derived.Test.YtjhccadmmnjpeaaGreatDoorT05
import Derived.Test.YtjhccadmmnjpeaaGreatDoorT07
import Derived.Deep.DeepCutAuto
import Derived.Stop.Asserts
import Derived.RowKitTokens
import Derived.StillTailTactics
set_option maxHeartbeats 2000000
set_option maxRecDepth 100000
namespace Go.Proofs.YtjhccadmmnjpeaaGreatDoor
open Go.RowKit
structure EnvH (w:World):Prop where
 ml:∃m,w.cell? ⟨5,0,none⟩=some (.int .i64 m)
 pow:Lib.TabIs Tryz.prog w "internal/strconv.uint64pow10" .u64 Lib.pow10Tab
 syn:∃te pe,w.cell? ⟨9,0,none⟩=some (.iface te pe)
 rng:∃te pe,w.cell? ⟨10,0,none⟩=some (.iface te pe)
 et:w.cell? ⟨1,0,none⟩=some (.iface 195 (.agg #[.pointer (some ⟨13,57,none⟩)]))
 db8:w.cell? ⟨12,7,none⟩=some (.int .u8 3)
 db16:w.cell? ⟨12,15,none⟩=some (.int .u8 4)
 size:13<=w.heap.size
theorem EnvH.below {w w':World} (h:EnvH w) (hb:Below w.heap.size w w'):EnvH w':=by
 have hz:=h.size;have hc:∀b o,b<13->w'.cell? ⟨b,o,none⟩=w.cell? ⟨b,o,none⟩:=fun b o hlt=>hb.cell (p:=⟨b,o,none⟩) (by show b<_;omega);obtain⟨h1,h2,h3,h4,h5,h6,h7,h8⟩:=h;refine⟨?_,?_,?_,?_,?_,?_,?_,Nat.le_trans hz hb.size⟩
 ·obtain⟨m,hm⟩:=h1;exact⟨m,by rw[hc _ _ (by decide)];exact hm⟩
 ·exact var?_below hb gPow (by show 8<_;omega) h2
 ·obtain⟨a,b,hm⟩:=h3;exact⟨a,b,by rw[hc _ _ (by decide)];exact hm⟩
 ·obtain⟨a,b,hm⟩:=h4;exact⟨a,b,by rw[hc _ _ (by decide)];exact hm⟩
 ·rw[hc _ _ (by decide)];exact h5
 ·rw[hc _ _ (by decide)];exact h6
 ·rw[hc _ _ (by decide)];exact h7
theorem Split_h (s:ByteArray) (c:UInt8) (hs:s.size<=1073741824) (w:World) (hE:EnvH w):Calls Tryz.prog 220 #[.string s,.string ⟨#[c]⟩] w (RSplit (Lz.splitC c s.data.toList) w):=by
 obtain⟨m,hm⟩:=hE.ml
 have hl:(Lib.splitB ⟨#[c]⟩ 0 (Lib.countB s ⟨#[c]⟩) s).map (·.data.toList)=Lz.splitC c s.data.toList:=by
  rw[Lib.splitB_data];exact Lz.split_eq c s.data.toList
 have hn:(Lib.splitB ⟨#[c]⟩ 0 (Lib.countB s ⟨#[c]⟩) s).length=Lib.countB s ⟨#[c]⟩+1:=by
  have h:=(Lz.split_both c s.data.toList).2;rw[<-hl,List.length_map]at h;exact h
 refine(Tryz.strings_Split s ⟨#[c]⟩ m w (by omega) hm (Nat.le_refl 1)).mono fun e w' ⟨he,hw⟩=>⟨_,?_,hl,hw⟩;rw[hn];exact he
theorem Itoa_h (n:Int) (h0: -9223372036854775808<=n) (h1:n<=9223372036854775807) (w:World) (hE:EnvH w):Calls Tryz.prog 112 #[.int .i64 n] w (RStr (Lib.itoa n) w):=
 (Tryz.strconv_Itoa n h0 h1 w hE.pow).mono fun _ _ ⟨he,k,os,hw⟩=>⟨_,he,rfl,by rw[hw];exact below_call (below_drewN (Below.refl _ _) k) (grow_below _ _)⟩
end Go.Proofs.YtjhccadmmnjpeaaGreatDoor
namespace Lz
def hexN (c:UInt8):Nat:=(hexV c).getD 0
def hexB (c:UInt8):Bool:=(hexV c).isSome
end Lz
namespace Go.Proofs.YtjhccadmmnjpeaaGreatDoor
open Go.RowKit
theorem hexI1 (c:UInt8):Lz.isDigit c=true->((c.toNat:Int)-48)%256=(Lz.hexN c:Int)/\Lz.hexB c=true:=by
 revert c;exact Lz.byte_all (by decide +kernel)
theorem hexI2 (c:UInt8):Lz.isDigit c=false->97<=bits BinOp.or IntKind.u8 (c.toNat:Int) 32->bits BinOp.or IntKind.u8 (c.toNat:Int) 32<=102->bits BinOp.or IntKind.u8 (c.toNat:Int) 32-97+10=(Lz.hexN c:Int)/\Lz.hexB c=true:=by
 revert c;exact Lz.byte_all (by decide +kernel)
theorem hexI3 (c:UInt8):Lz.isDigit c=false->¬(97<=bits BinOp.or IntKind.u8 (c.toNat:Int) 32/\bits BinOp.or IntKind.u8 (c.toNat:Int) 32<=102)->(Lz.hexN c:Int)=0/\Lz.hexB c=false:=by
 revert c;exact Lz.byte_all (by decide +kernel)
theorem hexN_lt (c:UInt8):Lz.hexN c<16:=by
 revert c;exact Lz.byte_all (by decide +kernel)
def RHex (c:UInt8) (w:World) (e:Ending) (w':World):Prop:=e=.returned (.tuple #[.int .i64 (Lz.hexN c),.bool (Lz.hexB c)])/\w=w'
theorem Hex_any (c:UInt8) (w:World):Calls Tryz.prog 285 #[.int .u8 c.toNat] w (RHex c w):=by
 have hc:=byte_lt c;have H1:=Ih (hexI1 c);have H2:=Ih (hexI2 c);have H3:=Ih (hexI3 c);unfold RHex;generalize hn:Lz.hexN c=n at *;generalize hb:Lz.hexB c=b at *;have cd:=Digit_any c w;generalize hdd:Lz.isDigit c=d at *;have Cd:=Ih cd;clear cd hn hb hdd;cases d
 ·have H2':=Ih (H2.out rfl);have H3':=Ih (H3.out rfl);clear H1 H2 H3;go_enter Tryz.func285,Tryz.ntmps285
  go_wp2_with (go_at_call 153;refine(Cd.out).mono ?_;rintro e w' ⟨rfl,rfl⟩)
  ·go_ret2
   rename_i h1 h2;obtain⟨e1,e2⟩:=H2'.out h1 h2;exact⟨by rw[<-e1,e2];rfl,rfl⟩
  ·go_ret2
   rename_i h1 h2;obtain⟨e1,e2⟩:=H3'.out (by omega);exact⟨by rw[e1,e2];rfl,rfl⟩
  ·go_ret2
   rename_i h1;obtain⟨e1,e2⟩:=H3'.out (by omega);exact⟨by rw[e1,e2];rfl,rfl⟩
 ·obtain⟨h1,h2⟩:=H1.out rfl;clear H2 H3 H1;subst h2;have Hh:=Ih h1;clear h1;go_enter Tryz.func285,Tryz.ntmps285
  go_wp2_with (go_at_call 153;refine(Cd.out).mono ?_;rintro e w' ⟨rfl,rfl⟩)
  go_ret2
  exact⟨by rw[<-Hh.out];rfl,rfl⟩
def RTriple (l:List UInt8) (w:World) (e:Ending) (w':World):Prop:=
 ∃c:UInt8,e=.returned (.tuple #[.int .u8 c.toNat,.bool (Lz.tripleP l).isSome])/\Hid (∀b,Lz.tripleP l=some b->c=b)/\w=w'
theorem tripleI (a b:UInt8):((bits BinOp.or IntKind.i64 ((Lz.hexN a:Int)*16) (Lz.hexN b))%256)=((UInt8.ofNat (16*Lz.hexN a+Lz.hexN b)).toNat:Int):=by
 have ha:=hexN_lt a;have hb:=hexN_lt b;generalize Lz.hexN a=x at *;generalize Lz.hexN b=y at *;exact(show ∀x:Fin 16,∀y:Fin 16,((bits BinOp.or IntKind.i64 ((x.1:Int)*16) y.1)%256)=((UInt8.ofNat (16*x.1+y.1)).toNat:Int) by decide +kernel) ⟨x,ha⟩ ⟨y,hb⟩
theorem triple_short {l:List UInt8} (h:l.length<3):Lz.tripleP l=none:=by
 match l,h with
 | [],_=>rfl
 | [a],_=>unfold Lz.tripleP;split<;>simp_all
 | [a,b],_=>unfold Lz.tripleP;split<;>simp_all
theorem triple_other {l:List UInt8} {c:UInt8} (h0:l[0]? =some c) (h:(c==37)=false):Lz.tripleP l=none:=by
 unfold Lz.tripleP;split
 ·simp at h0;subst h0;simp at h
 ·rfl
theorem triple_three {l:List UInt8} {c a b:UInt8} (h0:l[0]? =some c) (h1:l[1]? =some a) (h2:l[2]? =some b) (h:(c==37)=true):
  Lz.tripleP l=if Lz.hexB a&&Lz.hexB b then some (UInt8.ofNat (16*Lz.hexN a+Lz.hexN b))else none:=by
 match l,h0,h1,h2 with
 | x::y::z::r,h0,h1,h2=>
   simp at h0 h1 h2 h
   subst h0 h1 h2 h
   show(match Lz.hexV y,Lz.hexV z with
    | some x,some y=>some (UInt8.ofNat (16*x+y))
    | _,_=>none)=_
   cases hy:Lz.hexV y<;>cases hz:Lz.hexV z<;>simp[Lz.hexB,Lz.hexN,hy,hz]
theorem triple_any (s:ByteArray) (hs:s.size<=1073741824) (w:World):Calls Tryz.prog 253 #[.string s] w (RTriple s.data.toList w):=by
 by_cases h3:s.size<3
 ·have Ht:=Ih (triple_short (l:=s.data.toList) (by rw[len_of_size];exact h3));unfold RTriple;go_enter Tryz.func253,Tryz.ntmps253
  go_wp2
  go_ret2
  refine⟨0,?_,Ih (fun b hb=>?_),rfl⟩
  ·rw[Ht.out];rfl
  ·rw[Ht.out]at hb;cases hb
 ·have g0:=get_of_lt (s:=s) (n:=0) (by omega);have g1:=get_of_lt (s:=s) (n:=1) (by omega);have g2:=get_of_lt (s:=s) (n:=2) (by omega);have i0:((s[0].toNat:Int)==37)=(s[0]==37):=beqI s[0] 37;have n0:((s[0].toNat:Int) != 37)= !(s[0]==37):=congrArg (! ·) i0;generalize hq:(s[0]==37)=q at i0 n0;cases q
  ·have Ht:=Ih (triple_other g0 hq);clear g0 g1 g2 hq;simp only[Bool.not_false]at n0;unfold RTriple;go_enter Tryz.func253,Tryz.ntmps253
   go_wp2
   go_ret2
   refine⟨0,?_,Ih (fun b hb=>?_),rfl⟩
   ·rw[Ht.out];rfl
   ·rw[Ht.out]at hb;cases hb
  ·have Ht:=Ih (triple_three g0 g1 g2 hq);have I:=Ih (tripleI s[1] s[2]);have Ca:=fun w=>Hex_any s[1] w;have Cb:=fun w=>Hex_any s[2] w;unfold RHex at Ca Cb;unfold RTriple;have l1:=hexN_lt s[1];have l2:=hexN_lt s[2];generalize Lz.hexN s[1]=x at *;generalize Lz.hexN s[2]=y at *;generalize Lz.hexB s[1]=a at *;generalize Lz.hexB s[2]=b at *;clear g0 g1 g2 hq;simp only[Bool.not_true]at n0;cases a<;>cases b<;>
   ·go_enter Tryz.func253,Tryz.ntmps253
    go_wp2_with fail
    with_reducible refine(Ca _).mono ?_
    rintro e w' ⟨rfl,rfl⟩
    go_wp2_with fail
    with_reducible refine(Cb _).mono ?_
    rintro e w' ⟨rfl,rfl⟩
    go_wp2
    go_ret2
    refine⟨UInt8.ofNat (16*x+y),?_,Ih (fun b hb=>?_),rfl⟩
    ·rw[Ht.out,<-I.out];rfl
    ·rw[Ht.out]at hb;first |(cases hb;rfl)|cases hb
end Go.Proofs.YtjhccadmmnjpeaaGreatDoor
namespace Lz
open Go
theorem decode_some {l:Bs} {b:UInt8} (h:tripleP l=some b):decodeP l=b::decodeP (l.drop 3)/\3<=l.length:=by
 match l with
 | []=>simp[tripleP]at h
 | c::r=>
   refine⟨?_,?_⟩
   ·rw[decodeP];split
    ·rename_i b' hb;rw[hb]at h;injection h with h;subst h;rfl
    ·rename_i hb;rw[hb]at h;cases h
   ·unfold tripleP at h;split at h
    ·rename_i heq;rw[heq];simp
    ·cases h
theorem decode_none {l:Bs} {c:UInt8} (hc:l[0]? =some c) (h:tripleP l=none):decodeP l=c::decodeP (l.drop 1):=by
 match l with
 | []=>simp at hc
 | x::r=>
   simp at hc;subst hc
   rw[decodeP];split
   ·rename_i b' hb;rw[hb]at h;cases h
   ·rfl
end Lz
namespace Go.Proofs.YtjhccadmmnjpeaaGreatDoor
open Go.RowKit
structure DecAt (l:List UInt8) (w:World) (u:ByteArray) (acc:List UInt8) (wr:World):Prop where
 sum:acc++Lz.decodeP u.data.toList=Lz.decodeP l
 len:acc.length+u.size<=l.length
 made:Lib.IsBuilder 72 5 w.heap.size w.heap.size (Lib.byteCells acc) wr
 below:Below w.heap.size w wr
theorem byteCells_snoc (acc:List UInt8) (c:UInt8):Lib.byteCells acc++[.int .u8 (c.toNat:Int)]=Lib.byteCells (acc++[c]):=by
 simp[Lib.byteCells]
theorem DecAt.some {l:List UInt8} {w:World} {u:ByteArray} {acc:List UInt8} {wr w':World} {b:UInt8} (h:DecAt l w u acc wr) (hb:Lz.tripleP u.data.toList=some b)
  (hm:Lib.IsBuilder 72 5 w.heap.size w.heap.size (Lib.byteCells acc++[.int .u8 (b.toNat:Int)]) w') (hw:Below w.heap.size wr w') {v:ByteArray} (hv:v.data.toList=u.data.toList.drop 3):DecAt l w v (acc++[b]) w':=by
 obtain⟨h1,h2⟩:=Lz.decode_some hb;have hz:v.size=u.size-3:=by rw[<-len_of_size,hv,List.length_drop,len_of_size]
 rw[len_of_size]at h2;exact⟨by rw[<-h.sum,h1,hv];simp,by have:=h.len;simp;omega,by rw[<-byteCells_snoc];exact hm,h.below.trans hw⟩
theorem DecAt.none {l:List UInt8} {w:World} {u:ByteArray} {acc:List UInt8} {wr w':World} {c:UInt8} (h:DecAt l w u acc wr) (hc:u.data.toList[0]? =.some c) (hb:Lz.tripleP u.data.toList=.none)
  (hm:Lib.IsBuilder 72 5 w.heap.size w.heap.size (Lib.byteCells acc++[.int .u8 (c.toNat:Int)]) w') (hw:Below w.heap.size wr w') {v:ByteArray} (hv:v.data.toList=u.data.toList.drop 1):DecAt l w v (acc++[c]) w':=by
 have h1:=Lz.decode_none hc hb;have hz:v.size=u.size-1:=by rw[<-len_of_size,hv,List.length_drop,len_of_size]
 have hu:0<u.size:=by
  have:=(List.getElem?_eq_some_iff.1 hc).1
  rwa [len_of_size]at this
 exact⟨by rw[<-h.sum,h1,hv];simp,by have:=h.len;simp;omega,by rw[<-byteCells_snoc];exact hm,h.below.trans hw⟩
theorem tail1 (u:ByteArray):(u.extract 1 u.size).data.toList=u.data.toList.drop 1:=extract_tail' u 1
theorem tail3 (u:ByteArray):((u.extract 2 u.size).extract 1 (u.extract 2 u.size).size).data.toList=u.data.toList.drop 3:=by
 rw[extract_tail',extract_tail',List.drop_drop]
theorem tail3' (u:ByteArray):((u.extract 2 u.size).extract 1 (u.size-2)).data.toList=u.data.toList.drop 3:=by
 rw[show u.size-2=(u.extract 2 u.size).size by have:=congrArg List.length (extract_tail' u 2);rw[List.length_drop,len_of_size,len_of_size]at this;exact this.symm];exact tail3 u
theorem Decode_any (s:ByteArray) (hs:s.size<=1073741824) (w:World):Calls Tryz.prog 223 #[.string s] w (RStr (Lz.decodeP s.data.toList) w):=by
 obtain⟨l,hl⟩:∃l,l=s.data.toList:=⟨_,rfl⟩;have hlen:l.length=s.size:=by rw[hl];exact len_of_size s
 have h0:DecAt l w s [] (w.alloc (.cells #[.pointer none,.slice none 0 0] 72)):=
  ⟨by rw[hl];rfl,by simp[hlen],Lib.fresh_isBuilder _ _ _,(Below.refl _ w).alloc (Nat.le_refl _) _⟩
 rw[<-hl];clear hl;have Hlen:=Ih hlen;clear hlen;go_enter Tryz.func223,Tryz.ntmps223
 go_wp2
 go_loopw [0] (fun s0 wr=>∃(u:ByteArray) (acc:List UInt8),s0=.string u/\DecAt l w u acc wr) (fun s0 _=>match s0 with| .string u=>u.size|_=>0)
 case atStart=>exact⟨s,[],rfl,h0⟩
 case round=>
  clear h0;obtain⟨u,acc,rfl,hD⟩:=hrel;have hsz:acc.length+u.size<=s.size:=by rw[<-Hlen.out];exact hD.len
  have hbw:=hD.below.size;by_cases hz:u.size=0
  ·have he:=isEmpty_of_size hz;have hS:=Ih hD.sum
   go_wp2_with fail
   refine(Tryz.Builder_String_any _ _ acc _ hD.made (by exact hbw)).mono ?_;rintro e w' ⟨rfl,hb⟩
   go_wp2
   go_ret;refine⟨_,rfl,Ih ?_,hD.below.trans hb⟩;rw[<-hS.out];have:u.data.toList=[]:=List.length_eq_zero_iff.1 (by rw[len_of_size];exact hz);rw[this]
   simp[Lz.decodeP]
  ·have he:=isEmpty_of_pos (s:=u) (by omega);have hg:=get_of_lt (s:=u) (n:=0) (by omega);have Hg:=Ih hg;have HD:=Ih hD
   go_wp2_with fail
   refine(triple_any u (by omega) _).mono ?_;rintro e w' ⟨c,rfl,hc,rfl⟩;generalize hq:Lz.tripleP u.data.toList=q at hc;have Hq:=Ih hq;clear hg hq hD;cases q with
   | none=>
     go_wp2_with fail
     refine(WriteByte_any w.heap.size w.heap.size _ _ _ HD.out.made (by simp[Lib.byteCells];omega) hbw).mono ?_;rintro e w2 ⟨rfl,hm,hb⟩
     go_wp2
     go_roundw
     case rel=>exact⟨_,_,rfl,HD.out.none Hg.out Hq.out hm hb (tail1 u)⟩
     case measure=>simp;omega
   | some b=>
     have hcb:c=b:=hc.out b rfl;have h3:3<=u.size:=by rw[<-len_of_size];exact(Lz.decode_some Hq.out).2
     have hz2:(u.extract 2 u.size).size=u.size-2:=by rw[<-len_of_size,extract_tail',List.length_drop,len_of_size]
     subst hcb
     go_wp2_with fail
     refine(WriteByte_any w.heap.size w.heap.size _ _ _ HD.out.made (by simp[Lib.byteCells];omega) hbw).mono ?_;rintro e w2 ⟨rfl,hm,hb⟩
     go_wp2
     go_roundw
     case rel=>
      refine⟨_,_,rfl,HD.out.some Hq.out hm hb ?_⟩
      with_reducible first |exact tail3 u|exact tail3' u
     case measure=>simp;omega
end Go.Proofs.YtjhccadmmnjpeaaGreatDoor
namespace Lz
open Go
def moreP:Nat->Bs
 | 1=>[32,34,60,62,96]
 | 2=>[32,34,35,60,62]
 | 3=>[32,34,35,60,62,39]
 | 4=>[32,34,35,60,62,63,94,96,123,125]
 | 5=>[32,34,35,60,62,63,94,96,123,125,47,58,59,61,64,91,92,93,124]
 | 6=>[32,34,35,60,62,63,94,96,123,125,47,58,59,61,64,91,92,93,124,36,37,38,43,44]
 | _=>[]
theorem encode_snoc (of l:Bs) (c:UInt8):encodeP of (l++[c])=encodeP of l++(if c<32||126<c||of.contains c then[37,digitU (c.toNat / 16),digitU (c.toNat%16)]else[c]):=by
 simp[encodeP]
theorem encode_len (of l:Bs):(encodeP of l).length<=3*l.length:=by
 induction l with
 | nil=>simp[encodeP]
 | cons c r ih=>
   have:encodeP of (c::r)=(if c<32||126<c||of.contains c then[37,digitU (c.toNat / 16),digitU (c.toNat%16)]else[c])++encodeP of r:=by simp[encodeP]
   rw[this];split<;>simp<;>omega
end Lz
namespace Go.Proofs.YtjhccadmmnjpeaaGreatDoor
open Go.RowKit
theorem app_data (a b:ByteArray):(a++b).data.toList=a.data.toList++b.data.toList:=by simp
def RStrQ (l:List UInt8) (w:World) (e:Ending) (w':World):Prop:=∃u:ByteArray,e=.returned (.string u)/\Hid (u.data.toList=l)/\w=w'
theorem more_0 (w:World):Calls Tryz.prog 110 #[.int .i64 0] w (RStrQ (Lz.moreP 0) w):=by
 go_enter Tryz.func110,Tryz.ntmps110
 go_wp2
 go_ret;exact⟨_,rfl,Ih rfl,rfl⟩
theorem more_2 (w:World):Calls Tryz.prog 110 #[.int .i64 2] w (RStrQ (Lz.moreP 2) w):=by
 go_enter Tryz.func110,Tryz.ntmps110
 go_wp2
 go_ret;exact⟨_,rfl,Ih rfl,rfl⟩
theorem more_4 (w:World):Calls Tryz.prog 110 #[.int .i64 4] w (RStrQ (Lz.moreP 4) w):=by
 go_enter Tryz.func110,Tryz.ntmps110
 go_wp2_with fail
 with_reducible refine(more_2 _).mono ?_
 rintro e w' ⟨u,rfl,hu,rfl⟩;have hz:u.size=5:=by rw[<-len_of_size,hu.out];rfl
 go_wp2
 go_ret;exact⟨_,rfl,Ih (by rw[app_data,hu.out];rfl),rfl⟩
theorem more_5 (w:World):Calls Tryz.prog 110 #[.int .i64 5] w (RStrQ (Lz.moreP 5) w):=by
 go_enter Tryz.func110,Tryz.ntmps110
 go_wp2_with fail
 with_reducible refine(more_4 _).mono ?_
 rintro e w' ⟨u,rfl,hu,rfl⟩;have hz:u.size=10:=by rw[<-len_of_size,hu.out];rfl
 go_wp2
 go_ret;exact⟨_,rfl,Ih (by rw[app_data,hu.out];rfl),rfl⟩
theorem more_any (k:Nat) (hk:k<7) (w:World):Calls Tryz.prog 110 #[.int .i64 k] w (RStrQ (Lz.moreP k) w):=by
 obtain rfl|rfl|rfl|rfl|rfl|rfl|rfl:k=0\/k=1\/k=2\/k=3\/k=4\/k=5\/k=6:=by omega
 ·exact more_0 w
 ·show Calls _ _ #[.int .i64 1] _ _;go_enter Tryz.func110,Tryz.ntmps110
  go_wp2
  go_ret;exact⟨_,rfl,Ih rfl,rfl⟩
 ·exact more_2 w
 ·show Calls _ _ #[.int .i64 3] _ _;go_enter Tryz.func110,Tryz.ntmps110
  go_wp2_with fail
  with_reducible refine(more_2 _).mono ?_
  rintro e w' ⟨u,rfl,hu,rfl⟩;have hz:u.size=5:=by rw[<-len_of_size,hu.out];rfl
  go_wp2
  go_ret;exact⟨_,rfl,Ih (by rw[app_data,hu.out];rfl),rfl⟩
 ·exact more_4 w
 ·exact more_5 w
 ·show Calls _ _ #[.int .i64 6] _ _;go_enter Tryz.func110,Tryz.ntmps110
  go_wp2_with fail
  with_reducible refine(more_5 _).mono ?_
  rintro e w' ⟨u,rfl,hu,rfl⟩;have hz:u.size=19:=by rw[<-len_of_size,hu.out];rfl
  go_wp2
  go_ret;exact⟨_,rfl,Ih (by rw[app_data,hu.out];rfl),rfl⟩
theorem lt32I (c:UInt8):decide (c<32)=decide ((c.toNat:Int)<32):=by revert c;exact Lz.byte_all (by decide +kernel)
theorem gt126I (c:UInt8):decide (126<c)=decide (126<(c.toNat:Int)):=by revert c;exact Lz.byte_all (by decide +kernel)
theorem and15 (c:UInt8):bits BinOp.and IntKind.u8 (c.toNat:Int) 15=((c.toNat%16:Nat):Int):=by revert c;exact Lz.byte_all (by decide +kernel)
theorem wrap8 {x:Int} (h0:0<=x) (h1:x<=255):IntKind.u8.wrap x=x:=by
 have hb:IntKind.u8.bits=8:=rfl;have hs:IntKind.u8.signed=false:=rfl;simp only[IntKind.wrap,hb,hs]
 simp
 omega
theorem tripleText (x y:Fin 16):((({data:= #[37]}:ByteArray)++ByteArray.extract {data:= #[48,49,50,51,52,53,54,55,56,57,65,66,67,68,69,70]} x.1 (x.1+1))++ByteArray.extract {data:= #[48,49,50,51,52,53,54,55,56,57,65,66,67,68,69,70]} y.1 (y.1+1)).data.toList=[37,Lz.digitU x.1,Lz.digitU y.1]:=by
 revert x y;decide +kernel
theorem byteCells_append (a:List UInt8) (s:ByteArray):Lib.byteCells (a++s.data.toList)=Lib.byteCells a++Lib.strCells s:=by
 simp[Lib.byteCells,Lib.strCells]
structure EncAt (of l:List UInt8) (w:World) (k:Nat) (wr:World):Prop where
 made:Lib.IsBuilder 72 5 w.heap.size w.heap.size (Lib.byteCells (Lz.encodeP of (l.take k))) wr
 below:Below w.heap.size w wr
theorem Encode_any (k:Nat) (hk:k<7) (s:ByteArray) (hs:s.size<=1073741824) (w:World):Calls Tryz.prog 70 #[.string s,.int .i64 k] w (RStr (Lz.encodeP (Lz.moreP k) s.data.toList) w):=by
 obtain⟨l,hl⟩:∃l,l=s.data.toList:=⟨_,rfl⟩;have hlen:l.length=s.size:=by rw[hl];exact len_of_size s
 have h0:EncAt (Lz.moreP k) l w 0 (w.alloc (.cells #[.pointer none,.slice none 0 0] 72)):=
  ⟨Lib.fresh_isBuilder _ _ _,(Below.refl _ w).alloc (Nat.le_refl _) _⟩
 have Hl:=Ih hl;rw[<-hl];clear hl;have Hlen:=Ih hlen;clear hlen;have hk0:(0:Int)<=(k:Int):=by omega
 have hk7:(k:Int)<7:=by omega
 go_enter Tryz.func70,Tryz.ntmps70
 go_wp2_with fail
 with_reducible refine(more_any k hk _).mono ?_
 rintro e w' ⟨of,rfl,hof,rfl⟩
 go_wp2_with fail
 go_loopw [19] (fun i wr=>∃j:Nat,j<=s.size/\i=.int .i64 j/\EncAt (Lz.moreP k) l w j wr) (fun i _=>s.size-(intOf i).toNat)
 case atStart=>exact⟨0,Nat.zero_le _,rfl,h0⟩
 case round=>
  clear h0;obtain⟨j,hj,rfl,hD⟩:=hrel;have hbw:=hD.below.size;by_cases hlt:j<s.size
  ·have hg:=get_of_lt (s:=s) hlt;have hlj:l[j]? =some s[j]:=by rw[Hl.out];exact hg
   have hstep:l.take (j+1)=l.take j++[s[j]]:=by
    rw[List.take_add_one,hlj];rfl
   have hen:=Lz.encode_snoc (Lz.moreP k) (l.take j) s[j];rw[<-hstep]at hen;have hel:=Lz.encode_len (Lz.moreP k) (l.take j);have hll:(l.take j).length<=j:=by simp;omega
   generalize hc:s[j]=c at *;have HE:=Ih hen;have HD:=Ih hD;have Hg:=Ih hc;clear hen hstep hlj hg hD;have hcl:=byte_lt c;obtain⟨q,hq⟩:∃q,q=(decide (c<32)||decide (126<c)||(Lz.moreP k).contains c):=⟨_,rfl⟩;rw[<-hq]at HE;have Hq:=Ih hq;clear hq;have Cx:=fun w=>IndexByte_c of c w
   go_upto_region 9 with fail
   go_cut [19,36]from 19 to 54 (fun s19 s36 wx=>s19=.int .i64 j/\s36=.bool q/\wx=wr)
   case first=>
    by_cases h1:c<32
    ·have h1':(c.toNat:Int)<32:=of_decide_eq_true ((lt32I c).symm.trans (decide_eq_true h1));have HQ:Hid (q=true):=by show _=_;rw[Hq.out];simp[h1]
     clear h1
     go_wp2_with fail
     go_meet;exact⟨rfl,by rw[HQ.out],rfl⟩
    ·have h1':¬(c.toNat:Int)<32:=of_decide_eq_false ((lt32I c).symm.trans (decide_eq_false h1));by_cases h2:126<c
     ·have h2':126<(c.toNat:Int):=of_decide_eq_true ((gt126I c).symm.trans (decide_eq_true h2));have HQ:Hid (q=true):=by show _=_;rw[Hq.out];simp[h2]
      clear h1 h2
      go_wp2_with fail
      go_meet;exact⟨rfl,by rw[HQ.out],rfl⟩
     ·have h2':¬126<(c.toNat:Int):=of_decide_eq_false ((gt126I c).symm.trans (decide_eq_false h2));have HQ:Hid (q=decide (0<=Lib.indexByte of.data.toList c)):=by show _=_;rw[Hq.out,hof.out,<-Lib.contains_iff_indexByte];simp[h1,h2]
      clear h1 h2
      go_wp2_with fail
      with_reducible refine(Cx _).mono ?_
      rintro e w' ⟨rfl,rfl⟩
      go_wp2_with fail
      go_meet;exact⟨rfl,by rw[HQ.out],rfl⟩
   case rest=>
    obtain⟨rfl,rfl,rfl⟩:=hcut;cases q
    ·go_wp2_with fail
     refine(WriteByte_any w.heap.size w.heap.size _ _ _ HD.out.made (by simp[Lib.byteCells];omega) hbw).mono ?_;rintro e w2 ⟨rfl,hm,hb⟩
     go_wp2
     go_roundw
     case rel=>
      refine⟨j+1,by omega,by go_num,?_,HD.out.below.trans hb⟩;rw[HE.out,if_neg (by decide),<-byteCells_snoc];exact hm
     case measure=>simp[intOf];omega
    ·go_wp2_with fail
     obtain⟨x,hx,hx16,hxc⟩:∃x:Nat,(c.toNat:Int) / 16=x/\x<16/\x=c.toNat / 16:=⟨c.toNat / 16,by omega,by omega,rfl⟩;obtain⟨y,hy,hy16,hyc⟩:∃y:Nat,bits BinOp.and IntKind.u8 (c.toNat:Int) 15=y/\y<16/\y=c.toNat%16:=⟨c.toNat%16,and15 c,by omega,rfl⟩;have hxw:IntKind.u8.wrap ((x:Int)+1)=(x:Int)+1:=wrap8 (by omega) (by omega);have hyw:IntKind.u8.wrap ((y:Int)+1)=(y:Int)+1:=wrap8 (by omega) (by omega);have hx1:(x:Int)+1<=16:=by omega
     have hy1:(y:Int)+1<=16:=by omega
     have hx0:(0:Int)<=x:=by omega
     have hx2:(0:Int)<=(x:Int)+1:=by omega
     have hy2:(0:Int)<=(y:Int)+1:=by omega
     have hx3:(x:Int)<=(x:Int)+1:=by omega
     have hy3:(y:Int)<=(y:Int)+1:=by omega
     have hy0:(0:Int)<=y:=by omega
     have hs1:¬(9223372036854775807<1+(min (x+1) 16-x)):=by omega
     have hs2:¬(9223372036854775807<1+(min (x+1) 16-x)+(min (y+1) 16-y)):=by omega
     have Hxc:=Ih hxc;have Hyc:=Ih hyc;clear hxc hyc;refine wp_region_still_tail 14 (by kernel_rfl) (by kernel_rfl) ?_;simp only[List.take_succ_cons,List.take_zero,List.drop_succ_cons,List.drop_zero]
     repeat still_step
     refine wpStill_nil ?_;change wpList _ _ _ _ _ wc.drew
     go_wp2_with fail
     generalize hT:(({data:= #[37]}:ByteArray)++ByteArray.extract {data:= #[48,49,50,51,52,53,54,55,56,57,65,66,67,68,69,70]} x (x+1))++ByteArray.extract {data:= #[48,49,50,51,52,53,54,55,56,57,65,66,67,68,69,70]} y (y+1)=tx;have hTd:tx.data.toList=[37,Lz.digitU x,Lz.digitU y]:=by rw[<-hT];exact tripleText ⟨x,hx16⟩ ⟨y,hy16⟩
     have hTz:tx.size=3:=by rw[<-len_of_size,hTd];rfl
     clear hT;refine(WriteString_any w.heap.size w.heap.size (Lib.byteCells (Lz.encodeP (Lz.moreP k) (l.take j))) tx wc.drew (by exact HD.out.made) (by simp[Lib.byteCells];omega) (by exact hbw)).mono ?_;rintro e w2 ⟨rfl,hm,hb⟩
     go_wp2
     go_roundw
     case rel=>
      refine⟨j+1,by omega,by go_num,?_,HD.out.below.drew.trans hb⟩;rw[HE.out,if_pos (by decide),<-Hxc.out,<-Hyc.out,<-hTd];rw[byteCells_append];exact hm
     case measure=>simp[intOf];omega
  ·have hjs:j=s.size:=by omega
   have HD:=Ih hD;clear hD
   go_wp2_with fail
   refine(Tryz.Builder_String_any _ _ _ _ HD.out.made (by exact hbw)).mono ?_;rintro e w' ⟨rfl,hb⟩
   go_wp2
   go_ret;refine⟨_,rfl,Ih ?_,HD.out.below.trans hb⟩;show Lz.encodeP _ (l.take s.size)=_;rw[<-Hlen.out,List.take_length]
end Go.Proofs.YtjhccadmmnjpeaaGreatDoor
