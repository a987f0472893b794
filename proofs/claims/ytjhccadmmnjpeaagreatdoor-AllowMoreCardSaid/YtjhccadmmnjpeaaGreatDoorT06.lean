/-
  errors.As at a target of the type sources.bad: an error that is one, or joins errors the first of which is one, is found.
-/
import Derived.Test.YtjhccadmmnjpeaaGreatDoorT05
import Derived.Stop.Asserts
import Derived.RowKitTokens
set_option maxHeartbeats 4000000
set_option maxRecDepth 100000
namespace Go.Proofs.YtjhccadmmnjpeaaGreatDoor
open Go.RowKit
structure SrcB where
 kind:Int
 text:ByteArray
 bits:Int
 scheme:ByteArray
 host:ByteArray
 wild:Bool
 port:Int
 path:ByteArray
def SrcB.val (x:SrcB):Value:=.agg #[.int .i64 x.kind,.string x.text,.int .i64 x.bits,.string x.scheme,.string x.host,.bool x.wild,.int .i64 x.port,.string x.path]
def SrcB.src (x:SrcB):Lz.Src:=⟨x.kind,x.text.data.toList,x.bits,x.scheme.data.toList,x.host.data.toList,x.wild,x.port,x.path.data.toList⟩
def Bady (w:World):Nat->Value->Prop
 | 0,v=>∃b:ByteArray,v=.iface 103 (.string b)
 | n+1,v=>Bady w n v\/∃(p:Nat) (g:Nat) (len cap:Nat) (v0:Value),v=.iface 247 (.pointer (some ⟨p,0,none⟩))/\p<w.heap.size/\g<w.heap.size/\
  w.cell? ⟨p,0,none⟩=some (.slice (some ⟨g,0,none⟩) len cap)/\1<=len/\len<=2/\w.cell? ⟨g,0,none⟩=some v0/\Bady w n v0
def SrcRes (o:Option Lz.Src) (x:SrcB) (w:World) (n:Nat) (v:Value):Prop:=match o with|some y=>x.src=y/\v=.nilIface|none=>Bady w n v
def RSrc (o:Option Lz.Src) (n:Nat) (w:World) (e:Ending) (w':World):Prop:=
 ∃(x:SrcB) (v:Value),e=.returned (.tuple #[x.val,v])/\Hid (SrcRes o x w' n v)/\Below w.heap.size w w'
theorem alloc_row {w w1:World} {cs:Array Value} {t:TypeId} (hb:Below (w.alloc (.cells cs t)).heap.size (w.alloc (.cells cs t)) w1):w1.heap[w.heap.size]? =some (.cells cs t (0,0)):=by
 rw[hb.block w.heap.size (by simp)];show(w.heap.push _)[w.heap.size]? =_
 simp
theorem srcSize:(Tryz.prog.info? 47).map (·.size)=some 8:=by kernel_rfl
theorem store_src {ops:Array Oper} {rest:List Oper} {o:Oper} {a:Act} {w:World} {Q:Exit->Act->World->Prop} (hgd:o.guard=none) (x y:Operand) (ho:o.op=.store 47 x y)
  (g:Nat) (hx:a.eval x=.pointer (some ⟨g,0,none⟩)) {k b p:Int} {t s h pa:ByteArray} {wd:Bool} (hy:a.eval y=.agg #[.int .i64 k,.string t,.int .i64 b,.string s,.string h,.bool wd,.int .i64 p,.string pa])
  (old:Array Value) (hg:w.heap[g]? =some (.cells old 47 (0,0))) (hold:old.size=8)
  (hk:wpList Tryz.prog ops Q rest (a.put o.dst undef) (w.setRow g #[.int .i64 k,.string t,.int .i64 b,.string s,.string h,.bool wd,.int .i64 p,.string pa])):wpList Tryz.prog ops Q (o::rest) a w:=
 wpList_store_row hgd 47 x y ho g _ hx hy 47 old hg srcSize hold (by simp[Value.oneCell']) hk
theorem results_src {fn:Func} {p u:Tmp} (h:fn.results= #[.cell p 47,.tmp u]) (tmps:Array Value) (w:World) (g:Nat) (x:SrcB) (fr:Nat×Nat)
  (hp:tmps.getD p undef=.pointer (some ⟨g,0,none⟩)) (hg:w.heap[g]? =some (.cells #[.int .i64 x.kind,.string x.text,.int .i64 x.bits,.string x.scheme,.string x.host,.bool x.wild,.int .i64 x.port,.string x.path] 47 fr)):
  (results fn tmps).run Tryz.prog w=.ok (.tuple #[x.val,tmps.getD u undef]) w:=by
 exact results_row2 h tmps w g _ _ fr _ hp hg Tryz.underlying47 rfl srcSize
theorem low_length (l:List UInt8):(Lz.low l).length=l.length:=by simp[Lz.low]
theorem size_of_low {s u:ByteArray} (hu:u.data.toList=Lz.low s.data.toList):u.size=s.size:=by
 rw[<-len_of_size,hu,low_length,len_of_size]
theorem behind_prefix {s u v:ByteArray} {p:List UInt8} (hu:u.data.toList=Lz.low s.data.toList) (hv:v.data.toList=Lib.trimPrefix u.data.toList p):
  v.size<=s.size/\(Lib.hasPrefix u.data.toList p=true->(s.extract (s.size-v.size) s.size).data.toList=s.data.toList.drop p.length):=by
 have hus:=size_of_low hu;unfold Lib.trimPrefix at hv;cases hp:Lib.hasPrefix u.data.toList p
 ·rw[hp]at hv;simp only[Bool.false_eq_true,if_false]at hv;refine⟨?_,fun h=>by cases h⟩;rw[<-len_of_size v,hv,len_of_size,hus];exact Nat.le_refl _
 ·rw[hp,if_pos rfl]at hv
  have hpl:p.length<=u.data.toList.length:=by
   unfold Lib.hasPrefix at hp;exact(List.isPrefixOf_iff_prefix.1 hp).length_le
  rw[len_of_size]at hpl;have hvs:v.size=s.size-p.length:=by rw[<-len_of_size v,hv,List.length_drop,len_of_size,hus]
  refine⟨by omega,fun _=>?_⟩;rw[Lib.extract_data,hvs,show s.size-(s.size-p.length)=p.length by omega];rw[List.take_of_length_le];rw[List.length_drop,len_of_size];omega
theorem extract_size_le (s:ByteArray) (a b:Nat):(s.extract a b).size<=s.size:=by
 rw[<-len_of_size,Lib.extract_data,List.length_take,List.length_drop,len_of_size];omega
theorem itoa3:Lib.itoa 256=[50,53,54]/\Lib.itoa 384=[51,56,52]/\Lib.itoa 512=[53,49,50]:=by
 refine⟨?_,?_,?_⟩<;>simp[Lib.itoa,Lib.decDigits]
def bitsOf (k:Nat):Int:=256+128*k
theorem bits_at (k:Nat) (hk:k<3) (w:World):(Instr.index 208 (.agg #[.int .i64 256,.int .i64 384,.int .i64 512]) (.int .i64 k)).run Tryz.prog w=.ok (.int .i64 (bitsOf k)) w:=by
 obtain rfl|rfl|rfl:k=0\/k=1\/k=2:=by omega
 ·kernel_rfl
 ·kernel_rfl
 ·kernel_rfl
theorem sha_none_of {s:List UInt8} {bits:Int} (h:(Lib.hasPrefix (Lz.low s) (Lz.sSha bits)&&Lz.baseB (s.drop (Lz.sSha bits).length))=false):Lz.shaS s bits=none:=by
 unfold Lz.shaS;rw[h];rfl
def ShaRel (s:ByteArray) (w:World) (i:Value) (wr:World):Prop:=
 ∃k:Nat,k<=3/\i=.int .i64 k/\(∀j,j<k->Lz.shaS s.data.toList (bitsOf j)=none)/\Below w.heap.size w wr/\∃cs:Array Value,cs.size=8/\wr.heap[w.heap.size]? =some (.cells cs 47 (0,0))
theorem sSha_data (t:ByteArray) (bits:Int) (h:t.data.toList=Lib.itoa bits):((⟨#[115,104,97]⟩++t++⟨#[45]⟩:ByteArray)).data.toList=Lz.sSha bits:=by
 simp[Lz.sSha,h]
theorem itoa_bits_len (k:Nat) (hk:k<3):(Lib.itoa (bitsOf k)).length=3:=by
 obtain⟨h1,h2,h3⟩:=itoa3;obtain rfl|rfl|rfl:k=0\/k=1\/k=2:=by omega
 ·show(Lib.itoa 256).length=3;rw[h1];rfl
 ·show(Lib.itoa 384).length=3;rw[h2];rfl
 ·show(Lib.itoa 512).length=3;rw[h3];rfl
theorem sha_or {l:List UInt8} {k:Nat} {x:Lz.Src} (hk:k<3) (hn:∀j,j<k->Lz.shaS l (bitsOf j)=none) (h:Lz.shaS l (bitsOf k)=some x):(Lz.shaS l 256).or ((Lz.shaS l 384).or (Lz.shaS l 512))=some x:=by
 obtain rfl|rfl|rfl:k=0\/k=1\/k=2:=by omega
 ·have:Lz.shaS l 256=some x:=h;rw[this];rfl
 ·have h0:Lz.shaS l 256=none:=hn 0 (by omega);have h1:Lz.shaS l 384=some x:=h;rw[h0,h1];rfl
 ·have h0:Lz.shaS l 256=none:=hn 0 (by omega);have h1:Lz.shaS l 384=none:=hn 1 (by omega);have h2:Lz.shaS l 512=some x:=h;rw[h0,h1,h2];rfl
theorem sha_or_none {l:List UInt8} (hn:∀j,j<3->Lz.shaS l (bitsOf j)=none):(Lz.shaS l 256).or ((Lz.shaS l 384).or (Lz.shaS l 512))=none:=by
 have h0:Lz.shaS l 256=none:=hn 0 (by omega);have h1:Lz.shaS l 384=none:=hn 1 (by omega);have h2:Lz.shaS l 512=none:=hn 2 (by omega);rw[h0,h1,h2];rfl
theorem quoted_any (s:ByteArray) (hs:s.size<=1048576) (w:World) (hE:Env w):Calls Tryz.prog 120 #[.string s] w (RSrc (Lz.quotedS s.data.toList) 0 w):=by
 go_enter Tryz.func120,Tryz.ntmps120
 go_wp2_with fail
 refine(Lower_c s (by omega) _).mono ?_;rintro e w1 ⟨u,rfl,hu,hb1⟩;have hr1:=alloc_row hb1;have hx1:Below w.heap.size w w1:=below_call ((Below.refl _ w).alloc (Nat.le_refl _) _) hb1;clear hb1;have hE1:=hE.below hx1;obtain⟨b,o,c,hk,hbk,hks⟩:=hE1.kw;have cK:=Ih (keywords_c u b o c w1 hks);clear hks;generalize hkb:Lz.keywords.contains u.data.toList=kb at cK;have Hkb:=Ih hkb;clear hkb
 go_wp2_with fail
 refine(cK.out).mono ?_;rintro e w2 ⟨rfl,rfl⟩;cases kb
 ·go_wp2_with fail
  refine(CutPrefix_c u _ _).mono ?_;rintro e w2 ⟨v,rfl,hv,rfl⟩;clear hk hbk cK;have hbp:=behind_prefix hu.out hv.out;have hvs:=hbp.1;have Hvp:=Ih hbp.2;clear hbp;have hz:=extract_size_le s (s.size-v.size) s.size;have cB:=Ih (base_any (s.extract (s.size-v.size) s.size) (by omega) w1);generalize hhp:Lib.hasPrefix u.data.toList (ByteArray.data ⟨#[110,111,110,99,101,45]⟩).toList=hp;have Hhp:=Ih hhp;clear hhp;generalize hbb:Lz.baseB (s.extract (s.size-v.size) s.size).data.toList=bb at cB;have Hbb:=Ih hbb;clear hbb;by_cases hN:hp=true/\bb=true
  ·obtain⟨rfl,rfl⟩:=hN
   go_wp2_with fail
   refine(cB.out).mono ?_;rintro e w2 ⟨rfl,rfl⟩
   go_wp2_with (refine store_src rfl _ _ rfl w.heap.size rfl rfl _ hr1 rfl ?_)
   refine bodyPost_ret (results_src rfl _ _ w.heap.size ⟨4,s.extract (s.size-v.size) s.size,0,⟨#[]⟩,⟨#[]⟩,false,-1,⟨#[]⟩⟩ (0,0) rfl (setRow_heap _ _ _ _ _ _ hr1)) rfl ⟨_,_,rfl,?_,below_setRow hx1 (Nat.le_refl _) _⟩;have hd:=Hvp.out Hhp.out
   have hq:Lz.quotedS s.data.toList=some (Lz.nonceS (s.data.toList.drop 6)):=by
    unfold Lz.quotedS;rw[<-hu.out,Hkb.out];have h1:Lib.hasPrefix u.data.toList Lz.sNonce=true:=Hhp.out;have h2:Lz.baseB (s.data.toList.drop 6)=true:=by rw[<-Hbb.out,hd];rfl
    rw[h1,h2];rfl
   rw[hq];exact⟨by unfold SrcB.src;rw[hd];rfl,rfl⟩
  ·have hrest:Lz.quotedS s.data.toList=(Lz.shaS s.data.toList 256).or ((Lz.shaS s.data.toList 384).or (Lz.shaS s.data.toList 512)):=by
    unfold Lz.quotedS;rw[<-hu.out,Hkb.out]
    have h1:(Lib.hasPrefix u.data.toList Lz.sNonce&&Lz.baseB (s.data.toList.drop 6))=false:=by
     cases hp
     ·have:Lib.hasPrefix u.data.toList Lz.sNonce=false:=Hhp.out;rw[this];rfl
     ·have:Lz.baseB (s.data.toList.drop 6)=false:=by
       have hd:=Hvp.out Hhp.out;have h3:=Hbb.out;rw[hd]at h3;exact h3.trans (by cases bb<;>simp_all)
      rw[this];simp
    rw[h1];rfl
   have Hrest:=Ih hrest;clear hrest;have hcase:(hp=false)\/(hp=true/\bb=false):=by cases hp<;>cases bb<;>simp_all
   clear hN Hvp Hhp Hbb hz;rcases hcase with rfl|⟨rfl,rfl⟩
   all_goals
    go_wp2_with (go_at_call 182;refine(cB.out).mono ?_;rintro e w2 ⟨rfl,rfl⟩)
    clear cB Hkb
    go_loopw [38] (fun i wr=>ShaRel s w i wr) (fun i _=>3-(intOf i).toNat)
    case atStart=>exact⟨0,by omega,rfl,fun j h=>by omega,hx1,_,rfl,hr1⟩
    case round=>
     obtain⟨k,hk,rfl,hno,hxr,cs,hcs,hrr⟩:=hrel;have Hno:=Ih hno;have Hcs:=Ih hcs;clear hno hcs hr1 hE1;by_cases hlt:k<3
     ·have hix:=bits_at k hlt;have hbl:0<=bitsOf k/\bitsOf k<=1000:=by unfold bitsOf;omega
      obtain⟨bits,hbits⟩:∃bits,bits=bitsOf k:=⟨_,rfl⟩;have hil:=itoa_bits_len k hlt;rw[<-hbits]at hix hbl hil;have Hbits:=Ih hbits;have Hil:=Ih hil;clear hbits hil;obtain⟨hb0,hb1⟩:=hbl
      go_wp2_with fail
      refine(Itoa_c bits (by omega) (by omega) wr (hE.below hxr)).mono ?_;rintro e w3 ⟨t,rfl,ht,hb3⟩;have htz:t.size<=3:=by rw[<-len_of_size,ht.out,Hil.out];omega
      have hx3:=below_call hxr hb3
      have hr3:w3.heap[w.heap.size]? =some (.cells cs 47 (0,0)):=by
       have hlt:w.heap.size<wr.heap.size:=(Array.getElem?_eq_some_iff.1 hrr).1;rw[hb3.block _ hlt];exact hrr
      clear hb3 hxr hrr
      go_wp2_with fail
      refine(CutPrefix_c u _ _).mono ?_;rintro e w4 ⟨v2,rfl,hv2,rfl⟩;have hsd:=sSha_data t bits ht.out;have hbp:=behind_prefix hu.out hv2.out;rw[hsd]at hbp;rw[hsd];have hvs2:=hbp.1;have Hvp2:=Ih hbp.2;have hz2:=extract_size_le s (s.size-v2.size) s.size;have cB2:=Ih (base_any (s.extract (s.size-v2.size) s.size) (by omega) w3);clear hbp hsd hv2;generalize hhp:Lib.hasPrefix u.data.toList (Lz.sSha bits)=hp2 at Hvp2;have Hhp2:=Ih hhp;generalize hbb:Lz.baseB (s.extract (s.size-v2.size) s.size).data.toList=bb2 at cB2;have Hbb2:=Ih hbb;clear hhp hbb hz2;by_cases hN2:hp2=true/\bb2=true
      ·obtain⟨rfl,rfl⟩:=hN2;have hcsz:=Hcs.out
       go_wp2_with (first |(go_at_call 182;refine(cB2.out).mono ?_;rintro e w2 ⟨rfl,rfl⟩)|(refine store_src rfl _ _ rfl w.heap.size rfl rfl _ hr3 hcsz ?_))
       refine bodyPost_ret (results_src rfl _ _ w.heap.size ⟨5,s.extract (s.size-v2.size) s.size,bits,⟨#[]⟩,⟨#[]⟩,false,-1,⟨#[]⟩⟩ (0,0) rfl (setRow_heap _ _ _ _ _ _ hr3)) rfl ⟨_,_,rfl,?_,below_setRow hx3 (Nat.le_refl _) _⟩;have hd:=Hvp2.out (by trivial)
       have hsk:Lz.shaS s.data.toList (bitsOf k)=some (Lz.hashS (s.data.toList.drop (Lz.sSha bits).length) bits):=by
        unfold Lz.shaS;rw[<-Hbits.out,<-hu.out,Hhp2.out,<-hd,Hbb2.out];rfl
       rw[Hrest.out,sha_or hlt Hno.out hsk];exact⟨by unfold SrcB.src;rw[hd];rfl,rfl⟩
      ·have hsn:Lz.shaS s.data.toList (bitsOf k)=none:=by
        rw[<-Hbits.out];refine sha_none_of ?_;rw[<-hu.out,Hhp2.out];cases hp2
        ·rfl
        ·rw[<-Hvp2.out (by trivial),Hbb2.out];cases bb2<;>simp_all
       have Hsn:=Ih hsn;have hcase:(hp2=false)\/(hp2=true/\bb2=false):=by cases hp2<;>cases bb2<;>simp_all
       clear hsn hN2 Hvp2 Hhp2 Hbb2;rcases hcase with rfl|⟨rfl,rfl⟩
       all_goals
        go_wp2_with (go_at_call 182;refine(cB2.out).mono ?_;rintro e w2 ⟨rfl,rfl⟩)
        go_roundw
        case rel=>exact⟨k+1,by omega,by go_num,fun j hj=>by
         by_cases hjk:j<k
         ·exact Hno.out j hjk
         ·obtain rfl:j=k:=by omega
          exact Hsn.out,hx3,cs,Hcs.out,hr3⟩
        case measure=>simp[intOf];omega
     ·have hcsz:=Hcs.out
      go_wp2_with (refine store_src rfl _ _ rfl w.heap.size rfl rfl _ hrr hcsz ?_)
      refine bodyPost_ret (results_src rfl _ _ w.heap.size ⟨0,⟨#[]⟩,0,⟨#[]⟩,⟨#[]⟩,false,0,⟨#[]⟩⟩ (0,0) rfl (setRow_heap _ _ _ _ _ _ hrr)) rfl ⟨_,_,rfl,?_,below_setRow hxr (Nat.le_refl _) _⟩;rw[Hrest.out,sha_or_none (fun j hj=>Hno.out j (by omega))];exact⟨_,rfl⟩
 ·go_wp2_with (refine store_src rfl _ _ rfl w.heap.size rfl rfl _ hr1 rfl ?_)
  refine bodyPost_ret (results_src rfl _ _ w.heap.size ⟨1,u,0,⟨#[]⟩,⟨#[]⟩,false,-1,⟨#[]⟩⟩ (0,0) rfl (setRow_heap _ _ _ _ _ _ hr1)) rfl ⟨_,_,rfl,?_,below_setRow hx1 (Nat.le_refl _) _⟩
  have hq:Lz.quotedS s.data.toList=some (Lz.keyS (Lz.low s.data.toList)):=by
   unfold Lz.quotedS;rw[<-hu.out,Hkb.out];rfl
  rw[hq];exact⟨by unfold SrcB.src;rw[hu.out];rfl,rfl⟩
end Go.Proofs.YtjhccadmmnjpeaaGreatDoor
namespace Go.Proofs.YtjhccadmmnjpeaaGreatDoor
open Go.RowKit Go.Extern.Stop Go.Stop Go.Extern
theorem rlm (z:Sem Value) (f:TypeId->Addr->Nat->Nat->Sem Value) (v:Value):
 ReflectliteValue.method z f #[v]=(do match <-ReflectliteValue.parts v with|none=>z|some (t,a,fl)=>f t a fl (fl%32)):=rfl
theorem rls (v x:Value):ReflectliteValue.set #[v,x]=(do
 let (some (dst,a,fl),some (src,b,_)):=(<-ReflectliteValue.parts v,<-ReflectliteValue.parts x)
  | unsupported (.noEntry "extern/(internal/reflectlite.Value).Set.zeroValue")
 if fl / ReflectliteValue.flagAddr%2==0 then unsupported (.noEntry "extern/(internal/reflectlite.Value).Set.unaddressable")
 let val <-loadVar src b
 if <-Rtype.directlyAssignable dst src then storeVar dst a val
 else if <-Rtype.implements dst src then
  if(<-Rtype.kind src)==20 then
   match val with
   | .nilIface=>unsupported (.noEntry "extern/reflectlite: a nil value of one interface type handed on as a value of another")
   | _=>storeVar dst a val
  else storeVar dst a (.iface src val)
 else panicString ("reflectlite.Set: value of type "++(<-Rtype.spelt src)++ " is not assignable to type "++(<-Rtype.spelt dst))
 pure (.tuple #[])):=rfl
theorem rt.methodKind (h:Value) (w:World):(Go.method 478 195 (.agg #[h]) "Kind").run Tryz.prog w=.ok (334,h) w:=by kernel_rfl
theorem rt.methodElem (h:Value) (w:World):(Go.method 478 195 (.agg #[h]) "Elem").run Tryz.prog w=.ok (348,.agg #[h]) w:=by kernel_rfl
theorem rt.methodImplements (h:Value) (w:World):(Go.method 478 195 (.agg #[h]) "Implements").run Tryz.prog w=.ok (349,.agg #[h]) w:=by kernel_rfl
theorem rt.methodAssignableTo (h:Value) (w:World):(Go.method 478 195 (.agg #[h]) "AssignableTo").run Tryz.prog w=.ok (346,.agg #[h]) w:=by kernel_rfl
theorem Ba.valueOfP (t:Addr) (w:World):(ReflectliteValue.unpack (.iface 105 (.pointer (some t)))).run Tryz.prog w
 =.ok (.agg #[.pointer (some ⟨13,105,none⟩),.pointer (some ⟨w.heap.size,0,none⟩),.int .u64 150]) (w.alloc (.cells #[.pointer (some t)] 105)):=by kernel_rfl
theorem Ba.typeP (a:Addr) (w:World):(ReflectliteValue.methodAny (ReflectliteValue.valueError "reflectlite.Value.Type" 0) (fun t _ _ _=>ReflectliteType.toType t) #[.agg #[.pointer (some ⟨13,105,none⟩),.pointer (some a),.int .u64 150]]).run Tryz.prog w
 =.ok (.iface 195 (.agg #[.pointer (some ⟨13,105,none⟩)])) w:=by kernel_rfl
theorem Ba.kindP (w:World):((ReflectliteType.abiMethod fun t=>(fun a:Nat=>Value.int IntKind.u8 (a:Int)) <$> Rtype.kind t) #[.pointer (some ⟨13,105,none⟩)]).run Tryz.prog w=.ok (.int .u8 22) w:=by kernel_rfl
theorem Ba.kindT (w:World):((ReflectliteType.abiMethod fun t=>(fun a:Nat=>Value.int IntKind.u8 (a:Int)) <$> Rtype.kind t) #[.pointer (some ⟨13,103,none⟩)]).run Tryz.prog w=.ok (.int .u8 24) w:=by kernel_rfl
theorem Ba.partsP (a:Addr) (w:World):(ReflectliteValue.parts (.agg #[.pointer (some ⟨13,105,none⟩),.pointer (some a),.int .u64 150])).run Tryz.prog w=.ok (some (105,a,150)) w:=by kernel_rfl
theorem Ba.isNilP (a p:Addr) (W:World) (ha:W.cell? a=some (.pointer (some p))):
  (ReflectliteValue.method (ReflectliteValue.valueError "reflectlite.Value.IsNil" 0) ReflectliteValue.isNil #[.agg #[.pointer (some ⟨13,105,none⟩),.pointer (some a),.int .u64 150]]).run Tryz.prog W=.ok (.bool false) W:=by
 rw[rlm];simp only[Sem.run_bind,Ba.partsP,Result.andThen]
 simp[ReflectliteValue.isNil,loadVar,isAgg,underlying,Tryz.underlying105,ha,Result.andThen]
theorem Ba.elemP (w:World):(ReflectliteType.method ReflectliteType.elem #[.agg #[.pointer (some ⟨13,105,none⟩)]]).run Tryz.prog w=.ok (.iface 195 (.agg #[.pointer (some ⟨13,103,none⟩)])) w:=by kernel_rfl
theorem Ba.implementsT (w:World):(ReflectliteType.relation "Implements" ReflectliteType.implements_ #[.agg #[.pointer (some ⟨13,103,none⟩)],.iface 195 (.agg #[.pointer (some ⟨13,57,none⟩)])]).run Tryz.prog w=.ok (.bool true) w:=by kernel_rfl
theorem Ba.typeOfT (v:Value) (w:World):(ReflectliteType.typeOf #[.iface 103 v]).run Tryz.prog w=.ok (.iface 195 (.agg #[.pointer (some ⟨13,103,none⟩)])) w:=by kernel_rfl
theorem Ba.assignableT (w:World):(ReflectliteType.relation "AssignableTo" ReflectliteType.assignableTo #[.agg #[.pointer (some ⟨13,103,none⟩)],.iface 195 (.agg #[.pointer (some ⟨13,103,none⟩)])]).run Tryz.prog w=.ok (.bool true) w:=by kernel_rfl
theorem Ba.valueOfT (s:ByteArray) (w:World):(ReflectliteValue.unpack (.iface 103 (.string s))).run Tryz.prog w
 =.ok (.agg #[.pointer (some ⟨13,103,none⟩),.pointer (some ⟨w.heap.size,0,none⟩),.int .u64 152]) (w.alloc (.cells #[(.string s)] 103)):=by kernel_rfl
theorem Ba.elemOfP (w:World):(Rtype.elem? 105).run Tryz.prog w=.ok (some 103) w:=by kernel_rfl
theorem Ba.mkT (p:Addr) (w:World):(ReflectliteValue.mk 103 p ReflectliteValue.flagAddr).run Tryz.prog w=.ok (.agg #[.pointer (some ⟨13,103,none⟩),.pointer (some p),.int .u64 408]) w:=by kernel_rfl
theorem Ba.elemVP (a p:Addr) (W:World) (ha:W.cell? a=some (.pointer (some p))):
  (ReflectliteValue.method (ReflectliteValue.valueError "reflectlite.Value.Elem" 0) ReflectliteValue.elem #[.agg #[.pointer (some ⟨13,105,none⟩),.pointer (some a),.int .u64 150]]).run Tryz.prog W
   =.ok (.agg #[.pointer (some ⟨13,103,none⟩),.pointer (some p),.int .u64 408]) W:=by
 rw[rlm];simp only[Sem.run_bind,Ba.partsP,Result.andThen]
 simp[ReflectliteValue.elem,loadVar,isAgg,underlying,Tryz.underlying105,ha,Result.andThen,Ba.elemOfP,Ba.mkT]
theorem Ba.partsTa (a:Addr) (w:World):(ReflectliteValue.parts (.agg #[.pointer (some ⟨13,103,none⟩),.pointer (some a),.int .u64 408])).run Tryz.prog w=.ok (some (103,a,408)) w:=by kernel_rfl
theorem Ba.partsT (a:Addr) (w:World):(ReflectliteValue.parts (.agg #[.pointer (some ⟨13,103,none⟩),.pointer (some a),.int .u64 152])).run Tryz.prog w=.ok (some (103,a,128+24)) w:=by kernel_rfl
theorem Ba.directT (w:World):(Rtype.directlyAssignable 103 103).run Tryz.prog w=.ok true w:=by kernel_rfl
theorem Ba.setT (ta b:Addr) (s:ByteArray) (old:Value) (W:World) (hb:W.cell? b=some (.string s)) (ht:W.cell? ta=some old) (hf:W.frozen? ta=false):
  (ReflectliteValue.set #[.agg #[.pointer (some ⟨13,103,none⟩),.pointer (some ta),.int .u64 408],.agg #[.pointer (some ⟨13,103,none⟩),.pointer (some b),.int .u64 152]]).run Tryz.prog W
   =.ok (.tuple #[]) (W.setCell ta (.string s)):=by
 rw[rls];simp only[Sem.run_bind,Ba.partsTa,Ba.partsT,Result.andThen]
 simp[ReflectliteValue.flagAddr,loadVar,isAgg,underlying,Tryz.underlying103,hb,Result.andThen,Ba.directT,storeVar,Value.cells,storeCells,Addr.add]
 rw[run_store Tryz.prog W ta _ _ (by rfl)]
 simp[ht,hf]
theorem as_zero (s:ByteArray) (vb tb:Nat) (old:Value) (w:World) (hv:w.cell? ⟨vb,0,none⟩=some (.pointer (some ⟨tb,0,none⟩))) (ht:w.cell? ⟨tb,0,none⟩=some old) (hf:w.frozen? ⟨tb,0,none⟩=false):
  Calls Tryz.prog 128 #[.iface 103 (.string s),.iface 105 (.pointer (some ⟨tb,0,none⟩)),.agg #[.pointer (some ⟨13,105,none⟩),.pointer (some ⟨vb,0,none⟩),.int .u64 150],.iface 195 (.agg #[.pointer (some ⟨13,103,none⟩)])] w
   fun e w'=>e=.returned (.bool true)/\Below tb w w':=by
 have h48:= @run_callFunc_extern Tryz.prog 125 _ (fun args=>ReflectliteValue.unpack (args.getD 0 (.tuple #[]))) Tryz.func125 (by kernel_rfl) (by kernel_rfl) (by kernel_rfl) (by kernel_rfl);have h95:= @run_callFunc_extern Tryz.prog 113 _ ReflectliteType.typeOf Tryz.func113 (by kernel_rfl) (by kernel_rfl) (by kernel_rfl) (by kernel_rfl);have h214:= @run_callFunc_extern Tryz.prog 346 _ (ReflectliteType.relation "AssignableTo" ReflectliteType.assignableTo) Tryz.func346 (by kernel_rfl) (by kernel_rfl) (by kernel_rfl) (by kernel_rfl);have h96:= @run_callFunc_extern Tryz.prog 190 _ (ReflectliteValue.method (ReflectliteValue.valueError "reflectlite.Value.Elem" 0) ReflectliteValue.elem) Tryz.func190 (by kernel_rfl) (by kernel_rfl) (by kernel_rfl) (by kernel_rfl);have h97:= @run_callFunc_extern Tryz.prog 191 _ ReflectliteValue.set Tryz.func191 (by kernel_rfl) (by kernel_rfl) (by kernel_rfl) (by kernel_rfl);have tO:=Ba.typeOfT;have mA:=rt.methodAssignableTo;have aT:=Ba.assignableT;have vT:=Ba.valueOfT;have hvl:=World.block_lt_of_cell? _ _ hv;have htl:=World.block_lt_of_cell? _ _ ht
 have el:=Ba.elemVP ⟨vb,0,none⟩ ⟨tb,0,none⟩ (w.alloc (.cells #[.pointer (some ⟨13,105,none⟩),.pointer (some ⟨vb,0,none⟩),.int .u64 150] 162)) (by rw[World.cell?_alloc_lt _ _ ⟨vb,0,none⟩ hvl];exact hv)
 have st:=Ba.setT ⟨tb,0,none⟩ ⟨w.heap.size+1,0,none⟩ s old ((w.alloc (.cells #[.pointer (some ⟨13,105,none⟩),.pointer (some ⟨vb,0,none⟩),.int .u64 150] 162)).alloc (.cells #[.string s] 103))
  (by rw[World.cell?_alloc_at _ _ _ _ (by simp)];rfl)
  (by rw[World.cell?_alloc_lt _ _ ⟨tb,0,none⟩ (by simp;simp at htl;omega),World.cell?_alloc_lt _ _ ⟨tb,0,none⟩ htl];exact ht)
  (by rw[World.frozen?_alloc_old _ _ ⟨tb,0,none⟩ (by simp;simp at htl;omega),World.frozen?_alloc_old _ _ ⟨tb,0,none⟩ (Nat.ne_of_lt htl)];exact hf)
 go_enter Tryz.func128,Tryz.ntmps128
 go_wp2
 refine wp_loop_rounds 1 ?_;rw[rounds_succ]
 go_wp2
 go_ret;have hz:tb<w.heap.size:=htl;exact⟨rfl,(((Below.refl tb w).setCell (p:=⟨tb,0,none⟩) (Nat.le_refl _) _).alloc (by simp;omega) _).alloc (by simp;omega) _⟩
theorem typeOfJ (v:Value) (w:World):(ReflectliteType.typeOf #[.iface 247 v]).run Tryz.prog w=.ok (.iface 195 (.agg #[.pointer (some ⟨13,247,none⟩)])) w:=by kernel_rfl
theorem assignableJ (w:World):(ReflectliteType.relation "AssignableTo" ReflectliteType.assignableTo #[.agg #[.pointer (some ⟨13,247,none⟩)],.iface 195 (.agg #[.pointer (some ⟨13,103,none⟩)])]).run Tryz.prog w=.ok (.bool false) w:=by kernel_rfl
theorem noAsJ (v:Value) (xT:TypeId) (w:World):(Instr.typeAssert (.iface 247 v) xT 215 true).run Tryz.prog w=.ok (.tuple #[.nilIface,.bool false]) w:=run_typeAssert_lacksB Tryz.underlying215 (by kernel_rfl) (by kernel_rfl) v xT w
theorem noUnJ (v:Value) (xT:TypeId) (w:World):(Instr.typeAssert (.iface 247 v) xT 200 true).run Tryz.prog w=.ok (.tuple #[.nilIface,.bool false]) w:=run_typeAssert_lacksB Tryz.underlying200 (by kernel_rfl) (by kernel_rfl) v xT w
theorem hasUnJ (v:Value) (xT:TypeId) (w:World):(Instr.typeAssert (.iface 247 v) xT 202 true).run Tryz.prog w=.ok (.tuple #[.iface 247 v,.bool true]) w:=run_typeAssert_hasB Tryz.underlying202 (by kernel_rfl) v xT w
theorem as_join (p g len cap vb tb:Nat) (t0:TypeId) (x0:Value) (w:World) (h1:1<=len) (h2:len<=2) (hp:w.cell? ⟨p,0,none⟩=some (.slice (some ⟨g,0,none⟩) len cap)) (hg:w.cell? ⟨g,0,none⟩=some (.iface t0 x0)) (htl:tb<w.heap.size)
  (ih:∀w1:World,Below w.heap.size w w1->Calls Tryz.prog 128 #[.iface t0 x0,.iface 105 (.pointer (some ⟨tb,0,none⟩)),.agg #[.pointer (some ⟨13,105,none⟩),.pointer (some ⟨vb,0,none⟩),.int .u64 150],.iface 195 (.agg #[.pointer (some ⟨13,103,none⟩)])] w1
   fun e w'=>e=.returned (.bool true)/\Below tb w1 w'):
  Calls Tryz.prog 128 #[.iface 247 (.pointer (some ⟨p,0,none⟩)),.iface 105 (.pointer (some ⟨tb,0,none⟩)),.agg #[.pointer (some ⟨13,105,none⟩),.pointer (some ⟨vb,0,none⟩),.int .u64 150],.iface 195 (.agg #[.pointer (some ⟨13,103,none⟩)])] w
   fun e w'=>e=.returned (.bool true)/\Below tb w w':=by
 have h95:= @run_callFunc_extern Tryz.prog 113 _ ReflectliteType.typeOf Tryz.func113 (by kernel_rfl) (by kernel_rfl) (by kernel_rfl) (by kernel_rfl);have h214:= @run_callFunc_extern Tryz.prog 346 _ (ReflectliteType.relation "AssignableTo" ReflectliteType.assignableTo) Tryz.func346 (by kernel_rfl) (by kernel_rfl) (by kernel_rfl) (by kernel_rfl);have tO:=typeOfJ;have mA:=rt.methodAssignableTo;have aT:=assignableJ;have a1:=noAsJ;have a2:=noUnJ;have a3:=hasUnJ;have Ih:=Ih ih;clear ih;have hgl:g<w.heap.size:=World.block_lt_of_cell? _ _ hg;have hpl:p<w.heap.size:=World.block_lt_of_cell? _ _ hp;have nu:∀w,(nilAhead 478 247 (.pointer (some ⟨p,0,none⟩)) "Unwrap").run Tryz.prog w=.ok (some false) w:=fun _=>by kernel_rfl
 have mU:∀w,(Go.method 478 247 (.pointer (some ⟨p,0,none⟩)) "Unwrap").run Tryz.prog w=.ok (368,.pointer (some ⟨p,0,none⟩)) w:=fun _=>by kernel_rfl
 have hx0:¬(len=0):=by omega
 go_enter Tryz.func128,Tryz.ntmps128
 go_wp2
 refine wp_loop_rounds 1 ?_;rw[rounds_succ]
 go_wp2
 refine wp_loop_rounds 1 ?_;rw[rounds_succ]
 go_wp2_with fail
 refine(Ih.out _ ((Below.refl _ w).alloc (Nat.le_refl _) _)).mono ?_;rintro e w1 ⟨rfl,hb1⟩
 go_wp2
 go_ret;exact⟨rfl,((Below.refl tb w).alloc (Nat.le_of_lt htl) _).trans hb1⟩
theorem Bady.below {w w':World} (hb:Below w.heap.size w w'):∀{n:Nat} {v:Value},Bady w n v->Bady w' n v
 | 0,_,h=>h
 | n+1,v,h=>by
   rcases h with h|⟨p,g,len,cap,v0,h1,h2,h3,h4,h5,h6,h7,h8⟩
   ·exact Or.inl (Bady.below hb h)
   ·exact Or.inr ⟨p,g,len,cap,v0,h1,Nat.lt_of_lt_of_le h2 hb.size,Nat.lt_of_lt_of_le h3 hb.size,by rw[hb.cell (p:=⟨p,0,none⟩) h2];exact h4,h5,h6,by rw[hb.cell (p:=⟨g,0,none⟩) h3];exact h7,Bady.below hb h8⟩
theorem Bady.iface {w:World}:∀{n:Nat} {v:Value},Bady w n v->∃t x,v=.iface t x
 | 0,_,⟨b,h⟩=>⟨_,_,h⟩
 | n+1,v,h=>by
   rcases h with h|⟨p,g,len,cap,v0,h1,_⟩
   ·exact Bady.iface h
   ·exact⟨_,_,h1⟩
theorem as_bady (vb tb:Nat) (old:Value):∀(n:Nat) (v:Value) (w:World),Bady w n v->w.cell? ⟨vb,0,none⟩=some (.pointer (some ⟨tb,0,none⟩))->w.cell? ⟨tb,0,none⟩=some old->w.frozen? ⟨tb,0,none⟩=false->
  Calls Tryz.prog 128 #[v,.iface 105 (.pointer (some ⟨tb,0,none⟩)),.agg #[.pointer (some ⟨13,105,none⟩),.pointer (some ⟨vb,0,none⟩),.int .u64 150],.iface 195 (.agg #[.pointer (some ⟨13,103,none⟩)])] w
   fun e w'=>e=.returned (.bool true)/\Below tb w w'
 | 0,v,w,⟨b,h⟩,hv,ht,hf=>by rw[h];exact as_zero b vb tb old w hv ht hf
 | n+1,v,w,h,hv,ht,hf=>by
   rcases h with h|⟨p,g,len,cap,v0,h1,h2,h3,h4,h5,h6,h7,h8⟩
   ·exact as_bady vb tb old n v w h hv ht hf
   ·rw[h1];obtain⟨t0,x0,h0⟩:=h8.iface;rw[h0]at h7 h8;have hvl:=World.block_lt_of_cell? _ _ hv;have htl:=World.block_lt_of_cell? _ _ ht;refine as_join p g len cap vb tb t0 x0 w h5 h6 h4 h7 htl fun w1 hb=>?_;exact as_bady vb tb old n _ w1 (h8.below hb) (by rw[hb.cell hvl];exact hv) (by rw[hb.cell htl];exact ht) (by rw[hb.frozen htl];exact hf)
theorem As_nil (t:Value) (w:World):Calls Tryz.prog 79 #[.nilIface,t] w fun e w'=>e=.returned (.bool false)/\w=w':=by
 go_enter Tryz.func79,Tryz.ntmps79
 go_wp2
 go_ret;exact⟨rfl,rfl⟩
theorem As_bady (n:Nat) (t0:TypeId) (x0:Value) (tb:Nat) (old:Value) (w:World) (hE:Env w) (hB:Bady w n (.iface t0 x0)) (ht:w.cell? ⟨tb,0,none⟩=some old) (hf:w.frozen? ⟨tb,0,none⟩=false):
  Calls Tryz.prog 79 #[.iface t0 x0,.iface 105 (.pointer (some ⟨tb,0,none⟩))] w fun e w'=>e=.returned (.bool true)/\Below tb w w':=by
 have h48:= @run_callFunc_extern Tryz.prog 125 _ (fun args=>ReflectliteValue.unpack (args.getD 0 (.tuple #[]))) Tryz.func125 (by kernel_rfl) (by kernel_rfl) (by kernel_rfl) (by kernel_rfl);have h49:= @run_callFunc_extern Tryz.prog 126 _ (ReflectliteValue.methodAny (ReflectliteValue.valueError "reflectlite.Value.Type" 0) (fun t _ _ _=>ReflectliteType.toType t)) Tryz.func126 (by kernel_rfl) (by kernel_rfl) (by kernel_rfl) (by kernel_rfl);have h50:= @run_callFunc_extern Tryz.prog 127 _ (ReflectliteValue.method (ReflectliteValue.valueError "reflectlite.Value.IsNil" 0) ReflectliteValue.isNil) Tryz.func127 (by kernel_rfl) (by kernel_rfl) (by kernel_rfl) (by kernel_rfl);have h203:= @run_callFunc_extern Tryz.prog 334 _ (ReflectliteType.abiMethod fun t=>do pure (.int .u8 (<-Rtype.kind t))) Tryz.func334 (by kernel_rfl) (by kernel_rfl) (by kernel_rfl) (by kernel_rfl);have h216:= @run_callFunc_extern Tryz.prog 348 _ (ReflectliteType.method ReflectliteType.elem) Tryz.func348 (by kernel_rfl) (by kernel_rfl) (by kernel_rfl) (by kernel_rfl)
 have h217:= @run_callFunc_extern Tryz.prog 349 _ (ReflectliteType.relation "Implements" ReflectliteType.implements_) Tryz.func349 (by kernel_rfl) (by kernel_rfl) (by kernel_rfl) (by kernel_rfl);have f6:=Ba.valueOfP;have f7:=Ba.typeP;have mK:=rt.methodKind;have mE:=rt.methodElem;have mI:=rt.methodImplements;have kP:=Ba.kindP;have kT:=Ba.kindT;have eP:=Ba.elemP;have iT:=Ba.implementsT;have htl:=World.block_lt_of_cell? _ _ ht;have hz:tb<w.heap.size:=htl;have hzE:=hE.size;have n8:=Ba.isNilP ⟨w.heap.size,0,none⟩ ⟨tb,0,none⟩ ((w.alloc (.cells #[.pointer (some ⟨tb,0,none⟩)] 105)).alloc (.cells #[.pointer (some ⟨13,105,none⟩),.pointer (some ⟨w.heap.size,0,none⟩),.int .u64 150] 162)) (by simp)
 have hg2:((w.alloc (.cells #[.pointer (some ⟨tb,0,none⟩)] 105)).alloc (.cells #[.pointer (some ⟨13,105,none⟩),.pointer (some ⟨w.heap.size,0,none⟩),.int .u64 150] 162)).cell? ⟨1,0,none⟩=some (.iface 195 (.agg #[.pointer (some ⟨13,57,none⟩)])):=by
  rw[World.cell?_alloc_lt _ _ ⟨1,0,none⟩ (by first |(simp;done)|(simp;omega)),World.cell?_alloc_lt _ _ ⟨1,0,none⟩ (by show 1<_;omega)];exact hE.et
 have ca:∀w1:World,Below w.heap.size w w1->w1.cell? ⟨w.heap.size,0,none⟩=some (.pointer (some ⟨tb,0,none⟩))->Calls Tryz.prog 128 #[.iface t0 x0,.iface 105 (.pointer (some ⟨tb,0,none⟩)),.agg #[.pointer (some ⟨13,105,none⟩),.pointer (some ⟨w.heap.size,0,none⟩),.int .u64 150],.iface 195 (.agg #[.pointer (some ⟨13,103,none⟩)])] w1
  fun e w'=>e=.returned (.bool true)/\Below tb w1 w':=fun w1 hb hc=>as_bady w.heap.size tb old n _ w1 (hB.below hb) hc (by rw[hb.cell htl];exact ht) (by rw[hb.frozen htl];exact hf)
 have Ca:=Ih ca;clear ca;go_enter Tryz.func79,Tryz.ntmps79
 go_wp2_with fail
 refine(Ca.out _ (((Below.refl _ w).alloc (Nat.le_refl _) _).alloc (by simp) _) (by simp)).mono ?_;rintro e w1 ⟨rfl,hb1⟩
 go_wp2
 go_ret;exact⟨rfl,(((Below.refl tb w).alloc (Nat.le_of_lt hz) _).alloc (by simp;omega) _).trans hb1⟩
end Go.Proofs.YtjhccadmmnjpeaaGreatDoor
