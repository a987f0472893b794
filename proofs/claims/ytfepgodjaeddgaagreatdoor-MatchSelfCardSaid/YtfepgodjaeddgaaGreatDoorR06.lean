/-
  The walk of sources.quoted.
-/
import Derived.Test.YtfepgodjaeddgaaGreatDoorR05
set_option maxHeartbeats 1000000
set_option maxRecDepth 100000
namespace Go.Proofs.YtfepgodjaeddgaaGreatDoor
open Go.RowKit
structure SrcB where
 kind:Int
 text:ByteArray
 bits:Int
 scheme:ByteArray
 host:ByteArray
 wild:Bool
 port:Int
 path:ByteArray
def SrcB.val (x:SrcB):Value:=.agg #[.int .i64 x.kind,.string x.text,.int .i64 x.bits,.string x.scheme,.string x.host,.bool x.wild,.int .i64 x.port,.string x.path]
def SrcB.src (x:SrcB):Lz.Src:=⟨x.kind,x.text.data.toList,x.bits,x.scheme.data.toList,x.host.data.toList,x.wild,x.port,x.path.data.toList⟩
def Bady (w:World):Nat->Value->Prop
 | 0,v=>∃b:ByteArray,v=.iface 122 (.string b)
 | n+1,v=>Bady w n v\/∃(p:Nat) (g:Nat) (len cap:Nat) (v0:Value),v=.iface 242 (.pointer (some ⟨p,0,none⟩))/\p<w.heap.size/\g<w.heap.size/\
  w.cell? ⟨p,0,none⟩=some (.slice (some ⟨g,0,none⟩) len cap)/\1<=len/\len<=2/\w.cell? ⟨g,0,none⟩=some v0/\Bady w n v0
def SrcRes (o:Option Lz.Src) (x:SrcB) (w:World) (n:Nat) (v:Value):Prop:=match o with|some y=>x.src=y/\v=.nilIface|none=>Bady w n v
def RSrc (o:Option Lz.Src) (n:Nat) (w:World) (e:Ending) (w':World):Prop:=
 ∃(x:SrcB) (v:Value),e=.returned (.tuple #[x.val,v])/\Hid (SrcRes o x w' n v)/\Below w.heap.size w w'
theorem alloc_row {w w1:World} {cs:Array Value} {t:TypeId} (hb:Below (w.alloc (.cells cs t)).heap.size (w.alloc (.cells cs t)) w1):w1.heap[w.heap.size]? =some (.cells cs t (0,0)):=by
 rw[hb.block w.heap.size (by simp)];show(w.heap.push _)[w.heap.size]? =_
 simp
theorem srcSize:(Tryz.prog.info? 59).map (·.size)=some 8:=by kernel_rfl
theorem store_src {ops:Array Oper} {rest:List Oper} {o:Oper} {a:Act} {w:World} {Q:Exit->Act->World->Prop} (hgd:o.guard=none) (x y:Operand) (ho:o.op=.store 59 x y)
  (g:Nat) (hx:a.eval x=.pointer (some ⟨g,0,none⟩)) {k b p:Int} {t s h pa:ByteArray} {wd:Bool} (hy:a.eval y=.agg #[.int .i64 k,.string t,.int .i64 b,.string s,.string h,.bool wd,.int .i64 p,.string pa])
  (old:Array Value) (hg:w.heap[g]? =some (.cells old 59 (0,0))) (hold:old.size=8)
  (hk:wpList Tryz.prog ops Q rest (a.put o.dst undef) (w.setRow g #[.int .i64 k,.string t,.int .i64 b,.string s,.string h,.bool wd,.int .i64 p,.string pa])):wpList Tryz.prog ops Q (o::rest) a w:=
 wpList_store_row hgd 59 x y ho g _ hx hy 59 old hg srcSize hold (by simp[Value.oneCell']) hk
theorem results_src {fn:Func} {p u:Tmp} (h:fn.results= #[.cell p 59,.tmp u]) (tmps:Array Value) (w:World) (g:Nat) (x:SrcB) (fr:Nat×Nat)
  (hp:tmps.getD p undef=.pointer (some ⟨g,0,none⟩)) (hg:w.heap[g]? =some (.cells #[.int .i64 x.kind,.string x.text,.int .i64 x.bits,.string x.scheme,.string x.host,.bool x.wild,.int .i64 x.port,.string x.path] 59 fr)):
  (results fn tmps).run Tryz.prog w=.ok (.tuple #[x.val,tmps.getD u undef]) w:=by
 exact results_row2 h tmps w g _ _ fr _ hp hg Tryz.underlying59 rfl srcSize
theorem low_length (l:List UInt8):(Lz.low l).length=l.length:=by simp[Lz.low]
theorem size_of_low {s u:ByteArray} (hu:u.data.toList=Lz.low s.data.toList):u.size=s.size:=by
 rw[<-len_of_size,hu,low_length,len_of_size]
theorem behind_prefix {s u v:ByteArray} {p:List UInt8} (hu:u.data.toList=Lz.low s.data.toList) (hv:v.data.toList=Lib.trimPrefix u.data.toList p):
  v.size<=s.size/\(Lib.hasPrefix u.data.toList p=true->(s.extract (s.size-v.size) s.size).data.toList=s.data.toList.drop p.length):=by
 have hus:=size_of_low hu;unfold Lib.trimPrefix at hv;cases hp:Lib.hasPrefix u.data.toList p
 ·rw[hp]at hv;simp only[Bool.false_eq_true,if_false]at hv;refine⟨?_,fun h=>by cases h⟩;rw[<-len_of_size v,hv,len_of_size,hus];exact Nat.le_refl _
 ·rw[hp,if_pos rfl]at hv
  have hpl:p.length<=u.data.toList.length:=by
   unfold Lib.hasPrefix at hp;exact(List.isPrefixOf_iff_prefix.1 hp).length_le
  rw[len_of_size]at hpl;have hvs:v.size=s.size-p.length:=by rw[<-len_of_size v,hv,List.length_drop,len_of_size,hus]
  refine⟨by omega,fun _=>?_⟩;rw[Lib.extract_data,hvs,show s.size-(s.size-p.length)=p.length by omega];rw[List.take_of_length_le];rw[List.length_drop,len_of_size];omega
theorem extract_size_le (s:ByteArray) (a b:Nat):(s.extract a b).size<=s.size:=by
 rw[<-len_of_size,Lib.extract_data,List.length_take,List.length_drop,len_of_size];omega
theorem itoa3:Lib.itoa 256=[50,53,54]/\Lib.itoa 384=[51,56,52]/\Lib.itoa 512=[53,49,50]:=by
 refine⟨?_,?_,?_⟩<;>simp[Lib.itoa,Lib.decDigits]
def bitsOf (k:Nat):Int:=256+128*k
theorem bits_at (k:Nat) (hk:k<3) (w:World):(Instr.index 200 (.agg #[.int .i64 256,.int .i64 384,.int .i64 512]) (.int .i64 k)).run Tryz.prog w=.ok (.int .i64 (bitsOf k)) w:=by
 obtain rfl|rfl|rfl:k=0\/k=1\/k=2:=by omega
 ·kernel_rfl
 ·kernel_rfl
 ·kernel_rfl
theorem sha_none_of {s:List UInt8} {bits:Int} (h:(Lib.hasPrefix (Lz.low s) (Lz.sSha bits)&&Lz.baseB (s.drop (Lz.sSha bits).length))=false):Lz.shaS s bits=none:=by
 unfold Lz.shaS;rw[h];rfl
def ShaRel (s:ByteArray) (w:World) (i:Value) (wr:World):Prop:=
 ∃k:Nat,k<=3/\i=.int .i64 k/\(∀j,j<k->Lz.shaS s.data.toList (bitsOf j)=none)/\Below w.heap.size w wr/\∃cs:Array Value,cs.size=8/\wr.heap[w.heap.size]? =some (.cells cs 59 (0,0))
theorem sSha_data (t:ByteArray) (bits:Int) (h:t.data.toList=Lib.itoa bits):((⟨#[115,104,97]⟩++t++⟨#[45]⟩:ByteArray)).data.toList=Lz.sSha bits:=by
 simp[Lz.sSha,h]
theorem itoa_bits_len (k:Nat) (hk:k<3):(Lib.itoa (bitsOf k)).length=3:=by
 obtain⟨h1,h2,h3⟩:=itoa3;obtain rfl|rfl|rfl:k=0\/k=1\/k=2:=by omega
 ·show(Lib.itoa 256).length=3;rw[h1];rfl
 ·show(Lib.itoa 384).length=3;rw[h2];rfl
 ·show(Lib.itoa 512).length=3;rw[h3];rfl
theorem sha_or {l:List UInt8} {k:Nat} {x:Lz.Src} (hk:k<3) (hn:∀j,j<k->Lz.shaS l (bitsOf j)=none) (h:Lz.shaS l (bitsOf k)=some x):(Lz.shaS l 256).or ((Lz.shaS l 384).or (Lz.shaS l 512))=some x:=by
 obtain rfl|rfl|rfl:k=0\/k=1\/k=2:=by omega
 ·have:Lz.shaS l 256=some x:=h;rw[this];rfl
 ·have h0:Lz.shaS l 256=none:=hn 0 (by omega);have h1:Lz.shaS l 384=some x:=h;rw[h0,h1];rfl
 ·have h0:Lz.shaS l 256=none:=hn 0 (by omega);have h1:Lz.shaS l 384=none:=hn 1 (by omega);have h2:Lz.shaS l 512=some x:=h;rw[h0,h1,h2];rfl
theorem sha_or_none {l:List UInt8} (hn:∀j,j<3->Lz.shaS l (bitsOf j)=none):(Lz.shaS l 256).or ((Lz.shaS l 384).or (Lz.shaS l 512))=none:=by
 have h0:Lz.shaS l 256=none:=hn 0 (by omega);have h1:Lz.shaS l 384=none:=hn 1 (by omega);have h2:Lz.shaS l 512=none:=hn 2 (by omega);rw[h0,h1,h2];rfl
theorem quoted_any (s:ByteArray) (hs:s.size<=1048576) (w:World) (hE:Env w):Calls Tryz.prog 161 #[.string s] w (RSrc (Lz.quotedS s.data.toList) 0 w):=by
 go_enter Tryz.func161,Tryz.ntmps161
 go_wp2_with fail
 refine(Lower_c s (by omega) _).mono ?_;rintro e w1 ⟨u,rfl,hu,hb1⟩;have hr1:=alloc_row hb1;have hx1:Below w.heap.size w w1:=below_call ((Below.refl _ w).alloc (Nat.le_refl _) _) hb1;clear hb1;have hE1:=hE.below hx1;obtain⟨b,o,c,hk,hbk,hks⟩:=hE1.kw;have cK:=Ih (keywords_c u b o c w1 hks);clear hks;generalize hkb:Lz.keywords.contains u.data.toList=kb at cK;have Hkb:=Ih hkb;clear hkb
 go_wp2_with fail
 refine(cK.out).mono ?_;rintro e w2 ⟨rfl,rfl⟩;cases kb
 ·go_wp2_with fail
  refine(CutPrefix_c u _ _).mono ?_;rintro e w2 ⟨v,rfl,hv,rfl⟩;clear hk hbk cK;have hbp:=behind_prefix hu.out hv.out;have hvs:=hbp.1;have Hvp:=Ih hbp.2;clear hbp;have hz:=extract_size_le s (s.size-v.size) s.size;have cB:=Ih (base_any (s.extract (s.size-v.size) s.size) (by omega) w1);generalize hhp:Lib.hasPrefix u.data.toList (ByteArray.data ⟨#[110,111,110,99,101,45]⟩).toList=hp;have Hhp:=Ih hhp;clear hhp;generalize hbb:Lz.baseB (s.extract (s.size-v.size) s.size).data.toList=bb at cB;have Hbb:=Ih hbb;clear hbb;by_cases hN:hp=true/\bb=true
  ·obtain⟨rfl,rfl⟩:=hN
   go_wp2_with fail
   refine(cB.out).mono ?_;rintro e w2 ⟨rfl,rfl⟩
   go_wp2_with (refine store_src rfl _ _ rfl w.heap.size rfl rfl _ hr1 rfl ?_)
   refine bodyPost_ret (results_src rfl _ _ w.heap.size ⟨4,s.extract (s.size-v.size) s.size,0,⟨#[]⟩,⟨#[]⟩,false,-1,⟨#[]⟩⟩ (0,0) rfl (setRow_heap _ _ _ _ _ _ hr1)) rfl ⟨_,_,rfl,?_,below_setRow hx1 (Nat.le_refl _) _⟩;have hd:=Hvp.out Hhp.out
   have hq:Lz.quotedS s.data.toList=some (Lz.nonceS (s.data.toList.drop 6)):=by
    unfold Lz.quotedS;rw[<-hu.out,Hkb.out];have h1:Lib.hasPrefix u.data.toList Lz.sNonce=true:=Hhp.out;have h2:Lz.baseB (s.data.toList.drop 6)=true:=by rw[<-Hbb.out,hd];rfl
    rw[h1,h2];rfl
   rw[hq];exact⟨by unfold SrcB.src;rw[hd];rfl,rfl⟩
  ·have hrest:Lz.quotedS s.data.toList=(Lz.shaS s.data.toList 256).or ((Lz.shaS s.data.toList 384).or (Lz.shaS s.data.toList 512)):=by
    unfold Lz.quotedS;rw[<-hu.out,Hkb.out]
    have h1:(Lib.hasPrefix u.data.toList Lz.sNonce&&Lz.baseB (s.data.toList.drop 6))=false:=by
     cases hp
     ·have:Lib.hasPrefix u.data.toList Lz.sNonce=false:=Hhp.out;rw[this];rfl
     ·have:Lz.baseB (s.data.toList.drop 6)=false:=by
       have hd:=Hvp.out Hhp.out;have h3:=Hbb.out;rw[hd]at h3;exact h3.trans (by cases bb<;>simp_all)
      rw[this];simp
    rw[h1];rfl
   have Hrest:=Ih hrest;clear hrest;have hcase:(hp=false)\/(hp=true/\bb=false):=by cases hp<;>cases bb<;>simp_all
   clear hN Hvp Hhp Hbb hz;rcases hcase with rfl|⟨rfl,rfl⟩
   all_goals
    go_wp2_with (go_at_call 205;refine(cB.out).mono ?_;rintro e w2 ⟨rfl,rfl⟩)
    clear cB Hkb
    go_loopw [38] (fun i wr=>ShaRel s w i wr) (fun i _=>3-(intOf i).toNat)
    case atStart=>exact⟨0,by omega,rfl,fun j h=>by omega,hx1,_,rfl,hr1⟩
    case round=>
     obtain⟨k,hk,rfl,hno,hxr,cs,hcs,hrr⟩:=hrel;have Hno:=Ih hno;have Hcs:=Ih hcs;clear hno hcs hr1 hE1;by_cases hlt:k<3
     ·have hix:=bits_at k hlt;have hbl:0<=bitsOf k/\bitsOf k<=1000:=by unfold bitsOf;omega
      obtain⟨bits,hbits⟩:∃bits,bits=bitsOf k:=⟨_,rfl⟩;have hil:=itoa_bits_len k hlt;rw[<-hbits]at hix hbl hil;have Hbits:=Ih hbits;have Hil:=Ih hil;clear hbits hil;obtain⟨hb0,hb1⟩:=hbl
      go_wp2_with fail
      refine(Itoa_c bits (by omega) (by omega) wr (hE.below hxr)).mono ?_;rintro e w3 ⟨t,rfl,ht,hb3⟩;have htz:t.size<=3:=by rw[<-len_of_size,ht.out,Hil.out];omega
      have hx3:=below_call hxr hb3
      have hr3:w3.heap[w.heap.size]? =some (.cells cs 59 (0,0)):=by
       have hlt:w.heap.size<wr.heap.size:=(Array.getElem?_eq_some_iff.1 hrr).1;rw[hb3.block _ hlt];exact hrr
      clear hb3 hxr hrr
      go_wp2_with fail
      refine(CutPrefix_c u _ _).mono ?_;rintro e w4 ⟨v2,rfl,hv2,rfl⟩;have hsd:=sSha_data t bits ht.out;have hbp:=behind_prefix hu.out hv2.out;rw[hsd]at hbp;rw[hsd];have hvs2:=hbp.1;have Hvp2:=Ih hbp.2;have hz2:=extract_size_le s (s.size-v2.size) s.size;have cB2:=Ih (base_any (s.extract (s.size-v2.size) s.size) (by omega) w3);clear hbp hsd hv2;generalize hhp:Lib.hasPrefix u.data.toList (Lz.sSha bits)=hp2 at Hvp2;have Hhp2:=Ih hhp;generalize hbb:Lz.baseB (s.extract (s.size-v2.size) s.size).data.toList=bb2 at cB2;have Hbb2:=Ih hbb;clear hhp hbb hz2;by_cases hN2:hp2=true/\bb2=true
      ·obtain⟨rfl,rfl⟩:=hN2;have hcsz:=Hcs.out
       go_wp2_with (first |(go_at_call 205;refine(cB2.out).mono ?_;rintro e w2 ⟨rfl,rfl⟩)|(refine store_src rfl _ _ rfl w.heap.size rfl rfl _ hr3 hcsz ?_))
       refine bodyPost_ret (results_src rfl _ _ w.heap.size ⟨5,s.extract (s.size-v2.size) s.size,bits,⟨#[]⟩,⟨#[]⟩,false,-1,⟨#[]⟩⟩ (0,0) rfl (setRow_heap _ _ _ _ _ _ hr3)) rfl ⟨_,_,rfl,?_,below_setRow hx3 (Nat.le_refl _) _⟩;have hd:=Hvp2.out (by trivial)
       have hsk:Lz.shaS s.data.toList (bitsOf k)=some (Lz.hashS (s.data.toList.drop (Lz.sSha bits).length) bits):=by
        unfold Lz.shaS;rw[<-Hbits.out,<-hu.out,Hhp2.out,<-hd,Hbb2.out];rfl
       rw[Hrest.out,sha_or hlt Hno.out hsk];exact⟨by unfold SrcB.src;rw[hd];rfl,rfl⟩
      ·have hsn:Lz.shaS s.data.toList (bitsOf k)=none:=by
        rw[<-Hbits.out];refine sha_none_of ?_;rw[<-hu.out,Hhp2.out];cases hp2
        ·rfl
        ·rw[<-Hvp2.out (by trivial),Hbb2.out];cases bb2<;>simp_all
       have Hsn:=Ih hsn;have hcase:(hp2=false)\/(hp2=true/\bb2=false):=by cases hp2<;>cases bb2<;>simp_all
       clear hsn hN2 Hvp2 Hhp2 Hbb2;rcases hcase with rfl|⟨rfl,rfl⟩
       all_goals
        go_wp2_with (go_at_call 205;refine(cB2.out).mono ?_;rintro e w2 ⟨rfl,rfl⟩)
        go_roundw
        case rel=>exact⟨k+1,by omega,by go_num,fun j hj=>by
         by_cases hjk:j<k
         ·exact Hno.out j hjk
         ·obtain rfl:j=k:=by omega
          exact Hsn.out,hx3,cs,Hcs.out,hr3⟩
        case measure=>simp[intOf];omega
     ·have hcsz:=Hcs.out
      go_wp2_with (refine store_src rfl _ _ rfl w.heap.size rfl rfl _ hrr hcsz ?_)
      refine bodyPost_ret (results_src rfl _ _ w.heap.size ⟨0,⟨#[]⟩,0,⟨#[]⟩,⟨#[]⟩,false,0,⟨#[]⟩⟩ (0,0) rfl (setRow_heap _ _ _ _ _ _ hrr)) rfl ⟨_,_,rfl,?_,below_setRow hxr (Nat.le_refl _) _⟩;rw[Hrest.out,sha_or_none (fun j hj=>Hno.out j (by omega))];exact⟨_,rfl⟩
 ·go_wp2_with (refine store_src rfl _ _ rfl w.heap.size rfl rfl _ hr1 rfl ?_)
  refine bodyPost_ret (results_src rfl _ _ w.heap.size ⟨1,u,0,⟨#[]⟩,⟨#[]⟩,false,-1,⟨#[]⟩⟩ (0,0) rfl (setRow_heap _ _ _ _ _ _ hr1)) rfl ⟨_,_,rfl,?_,below_setRow hx1 (Nat.le_refl _) _⟩
  have hq:Lz.quotedS s.data.toList=some (Lz.keyS (Lz.low s.data.toList)):=by
   unfold Lz.quotedS;rw[<-hu.out,Hkb.out];rfl
  rw[hq];exact⟨by unfold SrcB.src;rw[hu.out];rfl,rfl⟩
end Go.Proofs.YtfepgodjaeddgaaGreatDoor
