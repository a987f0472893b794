/-
  errors.As at a target of the type sources.bad: an error that is one, or joins errors the first of which is one, is found.
-/
import Derived.Test.YtibcmemcfjhgmaaGreatDoorV06
import Derived.Stop.Asserts
import Derived.RowKitTokens
set_option maxHeartbeats 4000000
set_option maxRecDepth 100000
namespace Go.Proofs.YtibcmemcfjhgmaaGreatDoor
open Go.RowKit
structure ah where
 kind:Int
 text:ByteArray
 bits:Int
 scheme:ByteArray
 host:ByteArray
 wild:Bool
 port:Int
 path:ByteArray
def ah.val (x:ah):Value:=.agg #[.int .i64 x.kind,.string x.text,.int .i64 x.bits,.string x.scheme,.string x.host,.bool x.wild,.int .i64 x.port,.string x.path]
def ah.src (x:ah):Lz.Src:=⟨x.kind,x.text.data.toList,x.bits,x.scheme.data.toList,x.host.data.toList,x.wild,x.port,x.path.data.toList⟩
def fH (w:World):Nat->Value->Prop
 | 0,v=>∃b:ByteArray,v=.iface 138 (.string b)
 | n+1,v=>fH w n v\/∃(p:Nat) (g:Nat) (len cap:Nat) (v0:Value),v=.iface 278 (.pointer (some ⟨p,0,none⟩))/\p<w.heap.size/\g<w.heap.size/\
  w.cell? ⟨p,0,none⟩=some (.slice (some ⟨g,0,none⟩) len cap)/\1<=len/\len<=2/\w.cell? ⟨g,0,none⟩=some v0/\fH w n v0
def mJ (o:Option Lz.Src) (x:ah) (w:World) (n:Nat) (v:Value):Prop:=match o with|some y=>x.src=y/\v=.nilIface|none=>fH w n v
def VP (o:Option Lz.Src) (n:Nat) (w:World) (e:Ending) (w':World):Prop:=
 ∃(x:ah) (v:Value),e=.returned (.tuple #[x.val,v])/\Hid (mJ o x w' n v)/\Below w.heap.size w w'
theorem J9 {w w1:World} {cs:Array Value} {t:TypeId} (hb:Below (w.alloc (.cells cs t)).heap.size (w.alloc (.cells cs t)) w1):w1.heap[w.heap.size]? =some (.cells cs t (0,0)):=by
 rw[hb.block w.heap.size (by simp)];show(w.heap.push _)[w.heap.size]? =_
 simp
theorem nH:(Tryz.prog.info? 63).map (·.size)=some 8:=by kernel_rfl
theorem a9 {ops:Array Oper} {rest:List Oper} {o:Oper} {a:Act} {w:World} {Q:Exit->Act->World->Prop} (Le:o.guard=none) (x y:Operand) (ho:o.op=.store 63 x y)
  (g:Nat) (hx:a.eval x=.pointer (some ⟨g,0,none⟩)) {k b p:Int} {t s h pa:ByteArray} {wd:Bool} (hy:a.eval y=.agg #[.int .i64 k,.string t,.int .i64 b,.string s,.string h,.bool wd,.int .i64 p,.string pa])
  (old:Array Value) (hg:w.heap[g]? =some (.cells old 63 (0,0))) (WW:old.size=8)
  (hk:wpList Tryz.prog ops Q rest (a.put o.dst undef) (w.setRow g #[.int .i64 k,.string t,.int .i64 b,.string s,.string h,.bool wd,.int .i64 p,.string pa])):wpList Tryz.prog ops Q (o::rest) a w:=
 wpList_store_row Le 63 x y ho g _ hx hy 63 old hg nH WW (by simp[Value.oneCell']) hk
theorem be {fn:Func} {p u:Tmp} (h:fn.results= #[.cell p 63,.tmp u]) (tmps:Array Value) (w:World) (g:Nat) (x:ah) (fr:Nat×Nat)
  (hp:tmps.getD p undef=.pointer (some ⟨g,0,none⟩)) (hg:w.heap[g]? =some (.cells #[.int .i64 x.kind,.string x.text,.int .i64 x.bits,.string x.scheme,.string x.host,.bool x.wild,.int .i64 x.port,.string x.path] 63 fr)):
  (results fn tmps).run Tryz.prog w=.ok (.tuple #[x.val,tmps.getD u undef]) w:=by
 exact ee h tmps w g _ _ fr _ hp hg Tryz.underlying63 rfl nH
theorem gK (l:List UInt8):(Lz.low l).length=l.length:=by simp[Lz.low]
theorem BT {s u:ByteArray} (hu:u.data.toList=Lz.low s.data.toList):u.size=s.size:=by
 rw[<-ac,hu,gK,ac]
theorem ow {s u v:ByteArray} {p:List UInt8} (hu:u.data.toList=Lz.low s.data.toList) (hv:v.data.toList=Lib.trimPrefix u.data.toList p):
  v.size<=s.size/\(Lib.hasPrefix u.data.toList p=true->(s.extract (s.size-v.size) s.size).data.toList=s.data.toList.drop p.length):=by
 have xD:=BT hu;unfold Lib.trimPrefix at hv;cases hp:Lib.hasPrefix u.data.toList p
 ·rw[hp]at hv;simp only[Bool.false_eq_true,if_false]at hv;refine⟨?_,fun h=>by cases h⟩;rw[<-ac v,hv,ac,xD];exact Nat.le_refl _
 ·rw[hp,if_pos rfl]at hv
  have oj:p.length<=u.data.toList.length:=by
   unfold Lib.hasPrefix at hp;exact(List.isPrefixOf_iff_prefix.1 hp).length_le
  rw[ac]at oj;have ZF:v.size=s.size-p.length:=by rw[<-ac v,hv,List.length_drop,ac,xD]
  refine⟨by omega,fun _=>?_⟩;rw[Lib.extract_data,ZF,show s.size-(s.size-p.length)=p.length by omega];rw[List.take_of_length_le];rw[List.length_drop,ac];omega
theorem aV (s:ByteArray) (a b:Nat):(s.extract a b).size<=s.size:=by
 rw[<-ac,Lib.extract_data,List.length_take,List.length_drop,ac];omega
theorem Zb:Lib.itoa 256=[50,53,54]/\Lib.itoa 384=[51,56,52]/\Lib.itoa 512=[53,49,50]:=by
 refine⟨?_,?_,?_⟩<;>simp[Lib.itoa,Lib.decDigits]
def fF (k:Nat):Int:=256+128*k
theorem Rr (k:Nat) (hk:k<3) (w:World):(Instr.index 242 (.agg #[.int .i64 256,.int .i64 384,.int .i64 512]) (.int .i64 k)).run Tryz.prog w=.ok (.int .i64 (fF k)) w:=by
 obtain rfl|rfl|rfl:k=0\/k=1\/k=2:=by omega
 ·kernel_rfl
 ·kernel_rfl
 ·kernel_rfl
theorem sF {s:List UInt8} {bits:Int} (h:(Lib.hasPrefix (Lz.low s) (Lz.js bits)&&Lz.dF (s.drop (Lz.js bits).length))=false):Lz.eH s bits=none:=by
 unfold Lz.eH;rw[h];rfl
def VJ (s:ByteArray) (w:World) (i:Value) (wr:World):Prop:=
 ∃k:Nat,k<=3/\i=.int .i64 k/\(∀j,j<k->Lz.eH s.data.toList (fF j)=none)/\Below w.heap.size w wr/\∃cs:Array Value,cs.size=8/\wr.heap[w.heap.size]? =some (.cells cs 63 (0,0))
theorem yq (t:ByteArray) (bits:Int) (h:t.data.toList=Lib.itoa bits):((⟨#[115,104,97]⟩++t++⟨#[45]⟩:ByteArray)).data.toList=Lz.js bits:=by
 simp[Lz.js,h]
theorem oE (k:Nat) (hk:k<3):(Lib.itoa (fF k)).length=3:=by
 obtain⟨h1,h2,h3⟩:=Zb;obtain rfl|rfl|rfl:k=0\/k=1\/k=2:=by omega
 ·show(Lib.itoa 256).length=3;rw[h1];rfl
 ·show(Lib.itoa 384).length=3;rw[h2];rfl
 ·show(Lib.itoa 512).length=3;rw[h3];rfl
theorem MX {l:List UInt8} {k:Nat} {x:Lz.Src} (hk:k<3) (hn:∀j,j<k->Lz.eH l (fF j)=none) (h:Lz.eH l (fF k)=some x):(Lz.eH l 256).or ((Lz.eH l 384).or (Lz.eH l 512))=some x:=by
 obtain rfl|rfl|rfl:k=0\/k=1\/k=2:=by omega
 ·have:Lz.eH l 256=some x:=h;rw[this];rfl
 ·have h0:Lz.eH l 256=none:=hn 0 (by omega);have h1:Lz.eH l 384=some x:=h;rw[h0,h1];rfl
 ·have h0:Lz.eH l 256=none:=hn 0 (by omega);have h1:Lz.eH l 384=none:=hn 1 (by omega);have h2:Lz.eH l 512=some x:=h;rw[h0,h1,h2];rfl
theorem rU {l:List UInt8} (hn:∀j,j<3->Lz.eH l (fF j)=none):(Lz.eH l 256).or ((Lz.eH l 384).or (Lz.eH l 512))=none:=by
 have h0:Lz.eH l 256=none:=hn 0 (by omega);have h1:Lz.eH l 384=none:=hn 1 (by omega);have h2:Lz.eH l 512=none:=hn 2 (by omega);rw[h0,h1,h2];rfl
theorem DW (s:ByteArray) (hs:s.size<=1048576) (w:World) (hE:Env w):Calls Tryz.prog 146 #[.string s] w (VP (Lz.bS s.data.toList) 0 w):=by
 go_enter Tryz.func146,Tryz.ntmps146
 go_wp2_with fail
 refine(kp s (by omega) _).mono ?_;rintro e w1 ⟨u,rfl,hu,av⟩;have i9:=J9 av;have it:Below w.heap.size w w1:=ae ((Below.refl _ w).alloc (Nat.le_refl _) _) av;clear av;have TM:=hE.below it;obtain⟨b,o,c,hk,gX,Lf⟩:=TM.kw;have cK:=Ih (Ew u b o c w1 Lf);clear Lf;generalize DK:Lz.a6.contains u.data.toList=kb at cK;have Hkb:=Ih DK;clear DK
 go_wp2_with fail
 refine(cK.out).mono ?_;rintro e w2 ⟨rfl,rfl⟩;cases kb
 ·go_wp2_with fail
  refine(mZ u _ _).mono ?_;rintro e w2 ⟨v,rfl,hv,rfl⟩;clear hk gX cK;have Ud:=ow hu.out hv.out;have ZF:=Ud.1;have Hvp:=Ih Ud.2;clear Ud;have hz:=aV s (s.size-v.size) s.size;have cB:=Ih (BL (s.extract (s.size-v.size) s.size) (by omega) w1);generalize hhp:Lib.hasPrefix u.data.toList (ByteArray.data ⟨#[110,111,110,99,101,45]⟩).toList=hp;have Sk:=Ih hhp;clear hhp;generalize mr:Lz.dF (s.extract (s.size-v.size) s.size).data.toList=bb at cB;have sN:=Ih mr;clear mr;by_cases hN:hp=true/\bb=true
  ·obtain⟨rfl,rfl⟩:=hN
   go_wp2_with fail
   refine(cB.out).mono ?_;rintro e w2 ⟨rfl,rfl⟩
   go_wp2_with (refine a9 rfl _ _ rfl w.heap.size rfl rfl _ i9 rfl ?_)
   refine bodyPost_ret (be rfl _ _ w.heap.size ⟨4,s.extract (s.size-v.size) s.size,0,⟨#[]⟩,⟨#[]⟩,false,-1,⟨#[]⟩⟩ (0,0) rfl (setRow_heap _ _ _ _ _ _ i9)) rfl ⟨_,_,rfl,?_,below_setRow it (Nat.le_refl _) _⟩;have hd:=Hvp.out Sk.out
   have hq:Lz.bS s.data.toList=some (Lz.zN (s.data.toList.drop 6)):=by
    unfold Lz.bS;rw[<-hu.out,Hkb.out];have h1:Lib.hasPrefix u.data.toList Lz.lO=true:=Sk.out;have h2:Lz.dF (s.data.toList.drop 6)=true:=by rw[<-sN.out,hd];rfl
    rw[h1,h2];rfl
   rw[hq];exact⟨by unfold ah.src;rw[hd];rfl,rfl⟩
  ·have za:Lz.bS s.data.toList=(Lz.eH s.data.toList 256).or ((Lz.eH s.data.toList 384).or (Lz.eH s.data.toList 512)):=by
    unfold Lz.bS;rw[<-hu.out,Hkb.out]
    have h1:(Lib.hasPrefix u.data.toList Lz.lO&&Lz.dF (s.data.toList.drop 6))=false:=by
     cases hp
     ·have:Lib.hasPrefix u.data.toList Lz.lO=false:=Sk.out;rw[this];rfl
     ·have:Lz.dF (s.data.toList.drop 6)=false:=by
       have hd:=Hvp.out Sk.out;have h3:=sN.out;rw[hd]at h3;exact h3.trans (by cases bb<;>simp_all)
      rw[this];simp
    rw[h1];rfl
   have DC:=Ih za;clear za;have iv:(hp=false)\/(hp=true/\bb=false):=by cases hp<;>cases bb<;>simp_all
   clear hN Hvp Sk sN hz;rcases iv with rfl|⟨rfl,rfl⟩
   all_goals
    go_wp2_with (go_at_call 209;refine(cB.out).mono ?_;rintro e w2 ⟨rfl,rfl⟩)
    clear cB Hkb
    go_loopw [38] (fun i wr=>VJ s w i wr) (fun i _=>3-(intOf i).toNat)
    case atStart=>exact⟨0,by omega,rfl,fun j h=>by omega,it,_,rfl,i9⟩
    case round=>
     obtain⟨k,hk,rfl,nx,hxr,cs,iF,Pw⟩:=hrel;have SB:=Ih nx;have Hcs:=Ih iF;clear nx iF i9 TM;by_cases aL:k<3
     ·have hix:=Rr k aL;have OF:0<=fF k/\fF k<=1000:=by unfold fF;omega
      obtain⟨bits,wA⟩:∃bits,bits=fF k:=⟨_,rfl⟩;have pu:=oE k aL;rw[<-wA]at hix OF pu;have DI:=Ih wA;have Hil:=Ih pu;clear wA pu;obtain⟨pD,av⟩:=OF
      go_wp2_with fail
      refine(L9 bits (by omega) (by omega) wr (hE.below hxr)).mono ?_;rintro e w3 ⟨t,rfl,ht,bj⟩;have Sb:t.size<=3:=by rw[<-ac,ht.out,Hil.out];omega
      have lq:=ae hxr bj
      have pB:w3.heap[w.heap.size]? =some (.cells cs 63 (0,0)):=by
       have aL:w.heap.size<wr.heap.size:=(Array.getElem?_eq_some_iff.1 Pw).1;rw[bj.block _ aL];exact Pw
      clear bj hxr Pw
      go_wp2_with fail
      refine(mZ u _ _).mono ?_;rintro e w4 ⟨v2,rfl,pE,rfl⟩;have Gl:=yq t bits ht.out;have Ud:=ow hu.out pE.out;rw[Gl]at Ud;rw[Gl];have ac7:=Ud.1;have RY:=Ih Ud.2;have eo:=aV s (s.size-v2.size) s.size;have WF:=Ih (BL (s.extract (s.size-v2.size) s.size) (by omega) w3);clear Ud Gl pE;generalize hhp:Lib.hasPrefix u.data.toList (Lz.js bits)=Ay at RY;have Gv:=Ih hhp;generalize mr:Lz.dF (s.extract (s.size-v2.size) s.size).data.toList=bb2 at WF;have Gz:=Ih mr;clear hhp mr eo;by_cases hN2:Ay=true/\bb2=true
      ·obtain⟨rfl,rfl⟩:=hN2;have is:=Hcs.out
       go_wp2_with (first |(go_at_call 209;refine(WF.out).mono ?_;rintro e w2 ⟨rfl,rfl⟩)|(refine a9 rfl _ _ rfl w.heap.size rfl rfl _ pB is ?_))
       refine bodyPost_ret (be rfl _ _ w.heap.size ⟨5,s.extract (s.size-v2.size) s.size,bits,⟨#[]⟩,⟨#[]⟩,false,-1,⟨#[]⟩⟩ (0,0) rfl (setRow_heap _ _ _ _ _ _ pB)) rfl ⟨_,_,rfl,?_,below_setRow lq (Nat.le_refl _) _⟩;have hd:=RY.out (by trivial)
       have KO:Lz.eH s.data.toList (fF k)=some (Lz.ig (s.data.toList.drop (Lz.js bits).length) bits):=by
        unfold Lz.eH;rw[<-DI.out,<-hu.out,Gv.out,<-hd,Gz.out];rfl
       rw[DC.out,MX aL SB.out KO];exact⟨by unfold ah.src;rw[hd];rfl,rfl⟩
      ·have jF:Lz.eH s.data.toList (fF k)=none:=by
        rw[<-DI.out];refine sF ?_;rw[<-hu.out,Gv.out];cases Ay
        ·rfl
        ·rw[<-RY.out (by trivial),Gz.out];cases bb2<;>simp_all
       have xE:=Ih jF;have iv:(Ay=false)\/(Ay=true/\bb2=false):=by cases Ay<;>cases bb2<;>simp_all
       clear jF hN2 RY Gv Gz;rcases iv with rfl|⟨rfl,rfl⟩
       all_goals
        go_wp2_with (go_at_call 209;refine(WF.out).mono ?_;rintro e w2 ⟨rfl,rfl⟩)
        go_roundw
        case rel=>exact⟨k+1,by omega,by go_num,fun j hj=>by
         by_cases Pn:j<k
         ·exact SB.out j Pn
         ·obtain rfl:j=k:=by omega
          exact xE.out,lq,cs,Hcs.out,pB⟩
        case measure=>simp[intOf];omega
     ·have is:=Hcs.out
      go_wp2_with (refine a9 rfl _ _ rfl w.heap.size rfl rfl _ Pw is ?_)
      refine bodyPost_ret (be rfl _ _ w.heap.size ⟨0,⟨#[]⟩,0,⟨#[]⟩,⟨#[]⟩,false,0,⟨#[]⟩⟩ (0,0) rfl (setRow_heap _ _ _ _ _ _ Pw)) rfl ⟨_,_,rfl,?_,below_setRow hxr (Nat.le_refl _) _⟩;rw[DC.out,rU (fun j hj=>SB.out j (by omega))];exact⟨_,rfl⟩
 ·go_wp2_with (refine a9 rfl _ _ rfl w.heap.size rfl rfl _ i9 rfl ?_)
  refine bodyPost_ret (be rfl _ _ w.heap.size ⟨1,u,0,⟨#[]⟩,⟨#[]⟩,false,-1,⟨#[]⟩⟩ (0,0) rfl (setRow_heap _ _ _ _ _ _ i9)) rfl ⟨_,_,rfl,?_,below_setRow it (Nat.le_refl _) _⟩
  have hq:Lz.bS s.data.toList=some (Lz.EC (Lz.low s.data.toList)):=by
   unfold Lz.bS;rw[<-hu.out,Hkb.out];rfl
  rw[hq];exact⟨by unfold ah.src;rw[hu.out];rfl,rfl⟩
end Go.Proofs.YtibcmemcfjhgmaaGreatDoor
namespace Go.Proofs.YtibcmemcfjhgmaaGreatDoor
open Go.RowKit Go.Extern.Stop Go.Stop Go.Extern
theorem rlm (z:Sem Value) (f:TypeId->Addr->Nat->Nat->Sem Value) (v:Value):
 ReflectliteValue.method z f #[v]=(do match <-ReflectliteValue.parts v with|none=>z|some (t,a,fl)=>f t a fl (fl%32)):=rfl
theorem rls (v x:Value):ReflectliteValue.set #[v,x]=(do
 let (some (dst,a,fl),some (src,b,_)):=(<-ReflectliteValue.parts v,<-ReflectliteValue.parts x)
  | unsupported (.noEntry "extern/(internal/reflectlite.Value).Set.zeroValue")
 if fl / ReflectliteValue.flagAddr%2==0 then unsupported (.noEntry "extern/(internal/reflectlite.Value).Set.unaddressable")
 let val <-loadVar src b
 if <-Rtype.directlyAssignable dst src then storeVar dst a val
 else if <-Rtype.implements dst src then
  if(<-Rtype.kind src)==20 then
   match val with
   | .nilIface=>unsupported (.noEntry "extern/reflectlite: a nil value of one interface type handed on as a value of another")
   | _=>storeVar dst a val
  else storeVar dst a (.iface src val)
 else panicString ("reflectlite.Set: value of type "++(<-Rtype.spelt src)++ " is not assignable to type "++(<-Rtype.spelt dst))
 pure (.tuple #[])):=rfl
theorem rt.methodKind (h:Value) (w:World):(Go.method 507 223 (.agg #[h]) "Kind").run Tryz.prog w=.ok (353,h) w:=by kernel_rfl
theorem rt.methodElem (h:Value) (w:World):(Go.method 507 223 (.agg #[h]) "Elem").run Tryz.prog w=.ok (367,.agg #[h]) w:=by kernel_rfl
theorem rt.methodImplements (h:Value) (w:World):(Go.method 507 223 (.agg #[h]) "Implements").run Tryz.prog w=.ok (368,.agg #[h]) w:=by kernel_rfl
theorem rt.methodAssignableTo (h:Value) (w:World):(Go.method 507 223 (.agg #[h]) "AssignableTo").run Tryz.prog w=.ok (365,.agg #[h]) w:=by kernel_rfl
theorem Ba.valueOfP (t:Addr) (w:World):(ReflectliteValue.unpack (.iface 140 (.pointer (some t)))).run Tryz.prog w
 =.ok (.agg #[.pointer (some ⟨15,140,none⟩),.pointer (some ⟨w.heap.size,0,none⟩),.int .u64 150]) (w.alloc (.cells #[.pointer (some t)] 140)):=by kernel_rfl
theorem Ba.typeP (a:Addr) (w:World):(ReflectliteValue.methodAny (ReflectliteValue.valueError "reflectlite.Value.Type" 0) (fun t _ _ _=>ReflectliteType.toType t) #[.agg #[.pointer (some ⟨15,140,none⟩),.pointer (some a),.int .u64 150]]).run Tryz.prog w
 =.ok (.iface 223 (.agg #[.pointer (some ⟨15,140,none⟩)])) w:=by kernel_rfl
theorem Ba.kindP (w:World):((ReflectliteType.abiMethod fun t=>(fun a:Nat=>Value.int IntKind.u8 (a:Int)) <$> Rtype.kind t) #[.pointer (some ⟨15,140,none⟩)]).run Tryz.prog w=.ok (.int .u8 22) w:=by kernel_rfl
theorem Ba.kindT (w:World):((ReflectliteType.abiMethod fun t=>(fun a:Nat=>Value.int IntKind.u8 (a:Int)) <$> Rtype.kind t) #[.pointer (some ⟨15,138,none⟩)]).run Tryz.prog w=.ok (.int .u8 24) w:=by kernel_rfl
theorem Ba.partsP (a:Addr) (w:World):(ReflectliteValue.parts (.agg #[.pointer (some ⟨15,140,none⟩),.pointer (some a),.int .u64 150])).run Tryz.prog w=.ok (some (140,a,150)) w:=by kernel_rfl
theorem Ba.isNilP (a p:Addr) (W:World) (ha:W.cell? a=some (.pointer (some p))):
  (ReflectliteValue.method (ReflectliteValue.valueError "reflectlite.Value.IsNil" 0) ReflectliteValue.isNil #[.agg #[.pointer (some ⟨15,140,none⟩),.pointer (some a),.int .u64 150]]).run Tryz.prog W=.ok (.bool false) W:=by
 rw[rlm];simp only[Sem.run_bind,Ba.partsP,Result.andThen]
 simp[ReflectliteValue.isNil,loadVar,isAgg,underlying,Tryz.underlying140,ha,Result.andThen]
theorem Ba.elemP (w:World):(ReflectliteType.method ReflectliteType.elem #[.agg #[.pointer (some ⟨15,140,none⟩)]]).run Tryz.prog w=.ok (.iface 223 (.agg #[.pointer (some ⟨15,138,none⟩)])) w:=by kernel_rfl
theorem Ba.implementsT (w:World):(ReflectliteType.relation "Implements" ReflectliteType.implements_ #[.agg #[.pointer (some ⟨15,138,none⟩)],.iface 223 (.agg #[.pointer (some ⟨15,74,none⟩)])]).run Tryz.prog w=.ok (.bool true) w:=by kernel_rfl
theorem Ba.typeOfT (v:Value) (w:World):(ReflectliteType.typeOf #[.iface 138 v]).run Tryz.prog w=.ok (.iface 223 (.agg #[.pointer (some ⟨15,138,none⟩)])) w:=by kernel_rfl
theorem Ba.assignableT (w:World):(ReflectliteType.relation "AssignableTo" ReflectliteType.assignableTo #[.agg #[.pointer (some ⟨15,138,none⟩)],.iface 223 (.agg #[.pointer (some ⟨15,138,none⟩)])]).run Tryz.prog w=.ok (.bool true) w:=by kernel_rfl
theorem Ba.valueOfT (s:ByteArray) (w:World):(ReflectliteValue.unpack (.iface 138 (.string s))).run Tryz.prog w
 =.ok (.agg #[.pointer (some ⟨15,138,none⟩),.pointer (some ⟨w.heap.size,0,none⟩),.int .u64 152]) (w.alloc (.cells #[(.string s)] 138)):=by kernel_rfl
theorem Ba.elemOfP (w:World):(Rtype.elem? 140).run Tryz.prog w=.ok (some 138) w:=by kernel_rfl
theorem Ba.mkT (p:Addr) (w:World):(ReflectliteValue.mk 138 p ReflectliteValue.flagAddr).run Tryz.prog w=.ok (.agg #[.pointer (some ⟨15,138,none⟩),.pointer (some p),.int .u64 408]) w:=by kernel_rfl
theorem Ba.elemVP (a p:Addr) (W:World) (ha:W.cell? a=some (.pointer (some p))):
  (ReflectliteValue.method (ReflectliteValue.valueError "reflectlite.Value.Elem" 0) ReflectliteValue.elem #[.agg #[.pointer (some ⟨15,140,none⟩),.pointer (some a),.int .u64 150]]).run Tryz.prog W
   =.ok (.agg #[.pointer (some ⟨15,138,none⟩),.pointer (some p),.int .u64 408]) W:=by
 rw[rlm];simp only[Sem.run_bind,Ba.partsP,Result.andThen]
 simp[ReflectliteValue.elem,loadVar,isAgg,underlying,Tryz.underlying140,ha,Result.andThen,Ba.elemOfP,Ba.mkT]
theorem Ba.partsTa (a:Addr) (w:World):(ReflectliteValue.parts (.agg #[.pointer (some ⟨15,138,none⟩),.pointer (some a),.int .u64 408])).run Tryz.prog w=.ok (some (138,a,408)) w:=by kernel_rfl
theorem Ba.partsT (a:Addr) (w:World):(ReflectliteValue.parts (.agg #[.pointer (some ⟨15,138,none⟩),.pointer (some a),.int .u64 152])).run Tryz.prog w=.ok (some (138,a,128+24)) w:=by kernel_rfl
theorem Ba.directT (w:World):(Rtype.directlyAssignable 138 138).run Tryz.prog w=.ok true w:=by kernel_rfl
theorem Ba.setT (ta b:Addr) (s:ByteArray) (old:Value) (W:World) (hb:W.cell? b=some (.string s)) (ht:W.cell? ta=some old) (hf:W.frozen? ta=false):
  (ReflectliteValue.set #[.agg #[.pointer (some ⟨15,138,none⟩),.pointer (some ta),.int .u64 408],.agg #[.pointer (some ⟨15,138,none⟩),.pointer (some b),.int .u64 152]]).run Tryz.prog W
   =.ok (.tuple #[]) (W.setCell ta (.string s)):=by
 rw[rls];simp only[Sem.run_bind,Ba.partsTa,Ba.partsT,Result.andThen]
 simp[ReflectliteValue.flagAddr,loadVar,isAgg,underlying,Tryz.underlying138,hb,Result.andThen,Ba.directT,storeVar,Value.cells,storeCells,Addr.add]
 rw[run_store Tryz.prog W ta _ _ (by rfl)]
 simp[ht,hf]
theorem Rm (s:ByteArray) (vb tb:Nat) (old:Value) (w:World) (hv:w.cell? ⟨vb,0,none⟩=some (.pointer (some ⟨tb,0,none⟩))) (ht:w.cell? ⟨tb,0,none⟩=some old) (hf:w.frozen? ⟨tb,0,none⟩=false):
  Calls Tryz.prog 153 #[.iface 138 (.string s),.iface 140 (.pointer (some ⟨tb,0,none⟩)),.agg #[.pointer (some ⟨15,140,none⟩),.pointer (some ⟨vb,0,none⟩),.int .u64 150],.iface 223 (.agg #[.pointer (some ⟨15,138,none⟩)])] w
   fun e w'=>e=.returned (.bool true)/\Below tb w w':=by
 have R8:= @run_callFunc_extern Tryz.prog 150 _ (fun args=>ReflectliteValue.unpack (args.getD 0 (.tuple #[]))) Tryz.func150 (by kernel_rfl) (by kernel_rfl) (by kernel_rfl) (by kernel_rfl);have Sx:= @run_callFunc_extern Tryz.prog 132 _ ReflectliteType.typeOf Tryz.func132 (by kernel_rfl) (by kernel_rfl) (by kernel_rfl) (by kernel_rfl);have Sl:= @run_callFunc_extern Tryz.prog 365 _ (ReflectliteType.relation "AssignableTo" ReflectliteType.assignableTo) Tryz.func365 (by kernel_rfl) (by kernel_rfl) (by kernel_rfl) (by kernel_rfl);have h96:= @run_callFunc_extern Tryz.prog 217 _ (ReflectliteValue.method (ReflectliteValue.valueError "reflectlite.Value.Elem" 0) ReflectliteValue.elem) Tryz.func217 (by kernel_rfl) (by kernel_rfl) (by kernel_rfl) (by kernel_rfl);have h97:= @run_callFunc_extern Tryz.prog 218 _ ReflectliteValue.set Tryz.func218 (by kernel_rfl) (by kernel_rfl) (by kernel_rfl) (by kernel_rfl);have tO:=Ba.typeOfT;have mA:=rt.methodAssignableTo;have aT:=Ba.assignableT;have vT:=Ba.valueOfT;have K5:=World.block_lt_of_cell? _ _ hv;have kK:=World.block_lt_of_cell? _ _ ht
 have el:=Ba.elemVP ⟨vb,0,none⟩ ⟨tb,0,none⟩ (w.alloc (.cells #[.pointer (some ⟨15,140,none⟩),.pointer (some ⟨vb,0,none⟩),.int .u64 150] 197)) (by rw[World.cell?_alloc_lt _ _ ⟨vb,0,none⟩ K5];exact hv)
 have st:=Ba.setT ⟨tb,0,none⟩ ⟨w.heap.size+1,0,none⟩ s old ((w.alloc (.cells #[.pointer (some ⟨15,140,none⟩),.pointer (some ⟨vb,0,none⟩),.int .u64 150] 197)).alloc (.cells #[.string s] 138))
  (by rw[World.cell?_alloc_at _ _ _ _ (by simp)];rfl)
  (by rw[World.cell?_alloc_lt _ _ ⟨tb,0,none⟩ (by simp;simp at kK;omega),World.cell?_alloc_lt _ _ ⟨tb,0,none⟩ kK];exact ht)
  (by rw[World.frozen?_alloc_old _ _ ⟨tb,0,none⟩ (by simp;simp at kK;omega),World.frozen?_alloc_old _ _ ⟨tb,0,none⟩ (Nat.ne_of_lt kK)];exact hf)
 go_enter Tryz.func153,Tryz.ntmps153
 go_wp2
 refine wp_loop_rounds 1 ?_;rw[rounds_succ]
 go_wp2
 go_ret;have hz:tb<w.heap.size:=kK;exact⟨rfl,(((Below.refl tb w).setCell (p:=⟨tb,0,none⟩) (Nat.le_refl _) _).alloc (by simp;omega) _).alloc (by simp;omega) _⟩
theorem QT (v:Value) (w:World):(ReflectliteType.typeOf #[.iface 278 v]).run Tryz.prog w=.ok (.iface 223 (.agg #[.pointer (some ⟨15,278,none⟩)])) w:=by kernel_rfl
theorem A7 (w:World):(ReflectliteType.relation "AssignableTo" ReflectliteType.assignableTo #[.agg #[.pointer (some ⟨15,278,none⟩)],.iface 223 (.agg #[.pointer (some ⟨15,138,none⟩)])]).run Tryz.prog w=.ok (.bool false) w:=by kernel_rfl
theorem Ye (v:Value) (xT:TypeId) (w:World):(Instr.typeAssert (.iface 278 v) xT 249 true).run Tryz.prog w=.ok (.tuple #[.nilIface,.bool false]) w:=run_typeAssert_lacksB Tryz.underlying249 (by kernel_rfl) (by kernel_rfl) v xT w
theorem Zh (v:Value) (xT:TypeId) (w:World):(Instr.typeAssert (.iface 278 v) xT 228 true).run Tryz.prog w=.ok (.tuple #[.nilIface,.bool false]) w:=run_typeAssert_lacksB Tryz.underlying228 (by kernel_rfl) (by kernel_rfl) v xT w
theorem U4 (v:Value) (xT:TypeId) (w:World):(Instr.typeAssert (.iface 278 v) xT 230 true).run Tryz.prog w=.ok (.tuple #[.iface 278 v,.bool true]) w:=run_typeAssert_hasB Tryz.underlying230 (by kernel_rfl) v xT w
theorem PZ (p g len cap vb tb:Nat) (t0:TypeId) (x0:Value) (w:World) (h1:1<=len) (h2:len<=2) (hp:w.cell? ⟨p,0,none⟩=some (.slice (some ⟨g,0,none⟩) len cap)) (hg:w.cell? ⟨g,0,none⟩=some (.iface t0 x0)) (kK:tb<w.heap.size)
  (ih:∀w1:World,Below w.heap.size w w1->Calls Tryz.prog 153 #[.iface t0 x0,.iface 140 (.pointer (some ⟨tb,0,none⟩)),.agg #[.pointer (some ⟨15,140,none⟩),.pointer (some ⟨vb,0,none⟩),.int .u64 150],.iface 223 (.agg #[.pointer (some ⟨15,138,none⟩)])] w1
   fun e w'=>e=.returned (.bool true)/\Below tb w1 w'):
  Calls Tryz.prog 153 #[.iface 278 (.pointer (some ⟨p,0,none⟩)),.iface 140 (.pointer (some ⟨tb,0,none⟩)),.agg #[.pointer (some ⟨15,140,none⟩),.pointer (some ⟨vb,0,none⟩),.int .u64 150],.iface 223 (.agg #[.pointer (some ⟨15,138,none⟩)])] w
   fun e w'=>e=.returned (.bool true)/\Below tb w w':=by
 have Sx:= @run_callFunc_extern Tryz.prog 132 _ ReflectliteType.typeOf Tryz.func132 (by kernel_rfl) (by kernel_rfl) (by kernel_rfl) (by kernel_rfl);have Sl:= @run_callFunc_extern Tryz.prog 365 _ (ReflectliteType.relation "AssignableTo" ReflectliteType.assignableTo) Tryz.func365 (by kernel_rfl) (by kernel_rfl) (by kernel_rfl) (by kernel_rfl);have tO:=QT;have mA:=rt.methodAssignableTo;have aT:=A7;have a1:=Ye;have a2:=Zh;have a3:=U4;have Ih:=Ih ih;clear ih;have hgl:g<w.heap.size:=World.block_lt_of_cell? _ _ hg;have oj:p<w.heap.size:=World.block_lt_of_cell? _ _ hp;have nu:∀w,(nilAhead 507 278 (.pointer (some ⟨p,0,none⟩)) "Unwrap").run Tryz.prog w=.ok (some false) w:=fun _=>by kernel_rfl
 have mU:∀w,(Go.method 507 278 (.pointer (some ⟨p,0,none⟩)) "Unwrap").run Tryz.prog w=.ok (387,.pointer (some ⟨p,0,none⟩)) w:=fun _=>by kernel_rfl
 have kN:¬(len=0):=by omega
 go_enter Tryz.func153,Tryz.ntmps153
 go_wp2
 refine wp_loop_rounds 1 ?_;rw[rounds_succ]
 go_wp2
 refine wp_loop_rounds 1 ?_;rw[rounds_succ]
 go_wp2_with fail
 refine(Ih.out _ ((Below.refl _ w).alloc (Nat.le_refl _) _)).mono ?_;rintro e w1 ⟨rfl,av⟩
 go_wp2
 go_ret;exact⟨rfl,((Below.refl tb w).alloc (Nat.le_of_lt kK) _).trans av⟩
theorem fH.below {w w':World} (hb:Below w.heap.size w w'):∀{n:Nat} {v:Value},fH w n v->fH w' n v
 | 0,_,h=>h
 | n+1,v,h=>by
   rcases h with h|⟨p,g,len,cap,v0,h1,h2,h3,h4,h5,h6,h7,h8⟩
   ·exact Or.inl (fH.below hb h)
   ·exact Or.inr ⟨p,g,len,cap,v0,h1,Nat.lt_of_lt_of_le h2 hb.size,Nat.lt_of_lt_of_le h3 hb.size,by rw[hb.cell (p:=⟨p,0,none⟩) h2];exact h4,h5,h6,by rw[hb.cell (p:=⟨g,0,none⟩) h3];exact h7,fH.below hb h8⟩
theorem fH.iface {w:World}:∀{n:Nat} {v:Value},fH w n v->∃t x,v=.iface t x
 | 0,_,⟨b,h⟩=>⟨_,_,h⟩
 | n+1,v,h=>by
   rcases h with h|⟨p,g,len,cap,v0,h1,_⟩
   ·exact fH.iface h
   ·exact⟨_,_,h1⟩
theorem zx (vb tb:Nat) (old:Value):∀(n:Nat) (v:Value) (w:World),fH w n v->w.cell? ⟨vb,0,none⟩=some (.pointer (some ⟨tb,0,none⟩))->w.cell? ⟨tb,0,none⟩=some old->w.frozen? ⟨tb,0,none⟩=false->
  Calls Tryz.prog 153 #[v,.iface 140 (.pointer (some ⟨tb,0,none⟩)),.agg #[.pointer (some ⟨15,140,none⟩),.pointer (some ⟨vb,0,none⟩),.int .u64 150],.iface 223 (.agg #[.pointer (some ⟨15,138,none⟩)])] w
   fun e w'=>e=.returned (.bool true)/\Below tb w w'
 | 0,v,w,⟨b,h⟩,hv,ht,hf=>by rw[h];exact Rm b vb tb old w hv ht hf
 | n+1,v,w,h,hv,ht,hf=>by
   rcases h with h|⟨p,g,len,cap,v0,h1,h2,h3,h4,h5,h6,h7,h8⟩
   ·exact zx vb tb old n v w h hv ht hf
   ·rw[h1];obtain⟨t0,x0,h0⟩:=h8.iface;rw[h0]at h7 h8;have K5:=World.block_lt_of_cell? _ _ hv;have kK:=World.block_lt_of_cell? _ _ ht;refine PZ p g len cap vb tb t0 x0 w h5 h6 h4 h7 kK fun w1 hb=>?_;exact zx vb tb old n _ w1 (h8.below hb) (by rw[hb.cell K5];exact hv) (by rw[hb.cell kK];exact ht) (by rw[hb.frozen kK];exact hf)
theorem Vb (t:Value) (w:World):Calls Tryz.prog 103 #[.nilIface,t] w fun e w'=>e=.returned (.bool false)/\w=w':=by
 go_enter Tryz.func103,Tryz.ntmps103
 go_wp2
 go_ret;exact⟨rfl,rfl⟩
theorem Ro (n:Nat) (t0:TypeId) (x0:Value) (tb:Nat) (old:Value) (w:World) (hE:Env w) (hB:fH w n (.iface t0 x0)) (ht:w.cell? ⟨tb,0,none⟩=some old) (hf:w.frozen? ⟨tb,0,none⟩=false):
  Calls Tryz.prog 103 #[.iface t0 x0,.iface 140 (.pointer (some ⟨tb,0,none⟩))] w fun e w'=>e=.returned (.bool true)/\Below tb w w':=by
 have R8:= @run_callFunc_extern Tryz.prog 150 _ (fun args=>ReflectliteValue.unpack (args.getD 0 (.tuple #[]))) Tryz.func150 (by kernel_rfl) (by kernel_rfl) (by kernel_rfl) (by kernel_rfl);have h49:= @run_callFunc_extern Tryz.prog 151 _ (ReflectliteValue.methodAny (ReflectliteValue.valueError "reflectlite.Value.Type" 0) (fun t _ _ _=>ReflectliteType.toType t)) Tryz.func151 (by kernel_rfl) (by kernel_rfl) (by kernel_rfl) (by kernel_rfl);have h50:= @run_callFunc_extern Tryz.prog 152 _ (ReflectliteValue.method (ReflectliteValue.valueError "reflectlite.Value.IsNil" 0) ReflectliteValue.isNil) Tryz.func152 (by kernel_rfl) (by kernel_rfl) (by kernel_rfl) (by kernel_rfl);have abv:= @run_callFunc_extern Tryz.prog 353 _ (ReflectliteType.abiMethod fun t=>do pure (.int .u8 (<-Rtype.kind t))) Tryz.func353 (by kernel_rfl) (by kernel_rfl) (by kernel_rfl) (by kernel_rfl);have acg:= @run_callFunc_extern Tryz.prog 367 _ (ReflectliteType.method ReflectliteType.elem) Tryz.func367 (by kernel_rfl) (by kernel_rfl) (by kernel_rfl) (by kernel_rfl)
 have abY:= @run_callFunc_extern Tryz.prog 368 _ (ReflectliteType.relation "Implements" ReflectliteType.implements_) Tryz.func368 (by kernel_rfl) (by kernel_rfl) (by kernel_rfl) (by kernel_rfl);have f6:=Ba.valueOfP;have f7:=Ba.typeP;have mK:=rt.methodKind;have mE:=rt.methodElem;have mI:=rt.methodImplements;have kP:=Ba.kindP;have kT:=Ba.kindT;have eP:=Ba.elemP;have iT:=Ba.implementsT;have kK:=World.block_lt_of_cell? _ _ ht;have hz:tb<w.heap.size:=kK;have hzE:=hE.size;have n8:=Ba.isNilP ⟨w.heap.size,0,none⟩ ⟨tb,0,none⟩ ((w.alloc (.cells #[.pointer (some ⟨tb,0,none⟩)] 140)).alloc (.cells #[.pointer (some ⟨15,140,none⟩),.pointer (some ⟨w.heap.size,0,none⟩),.int .u64 150] 197)) (by simp)
 have Pl:((w.alloc (.cells #[.pointer (some ⟨tb,0,none⟩)] 140)).alloc (.cells #[.pointer (some ⟨15,140,none⟩),.pointer (some ⟨w.heap.size,0,none⟩),.int .u64 150] 197)).cell? ⟨3,0,none⟩=some (.iface 223 (.agg #[.pointer (some ⟨15,74,none⟩)])):=by
  rw[World.cell?_alloc_lt _ _ ⟨3,0,none⟩ (by first |(simp;done)|(simp;omega)),World.cell?_alloc_lt _ _ ⟨3,0,none⟩ (by show 3<_;omega)];exact hE.et
 have ca:∀w1:World,Below w.heap.size w w1->w1.cell? ⟨w.heap.size,0,none⟩=some (.pointer (some ⟨tb,0,none⟩))->Calls Tryz.prog 153 #[.iface t0 x0,.iface 140 (.pointer (some ⟨tb,0,none⟩)),.agg #[.pointer (some ⟨15,140,none⟩),.pointer (some ⟨w.heap.size,0,none⟩),.int .u64 150],.iface 223 (.agg #[.pointer (some ⟨15,138,none⟩)])] w1
  fun e w'=>e=.returned (.bool true)/\Below tb w1 w':=fun w1 hb hc=>zx w.heap.size tb old n _ w1 (hB.below hb) hc (by rw[hb.cell kK];exact ht) (by rw[hb.frozen kK];exact hf)
 have Ca:=Ih ca;clear ca;go_enter Tryz.func103,Tryz.ntmps103
 go_wp2_with fail
 refine(Ca.out _ (((Below.refl _ w).alloc (Nat.le_refl _) _).alloc (by simp) _) (by simp)).mono ?_;rintro e w1 ⟨rfl,av⟩
 go_wp2
 go_ret;exact⟨rfl,(((Below.refl tb w).alloc (Nat.le_of_lt hz) _).alloc (by simp;omega) _).trans av⟩
end Go.Proofs.YtibcmemcfjhgmaaGreatDoor
