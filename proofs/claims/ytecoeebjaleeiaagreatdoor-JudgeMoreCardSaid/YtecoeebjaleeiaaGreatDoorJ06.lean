/-
  errors.As at a target of the type sources.bad: an error that is one, or joins errors the first of which is one, is found.
-/
import Derived.Test.YtecoeebjaleeiaaGreatDoorJ05
import Derived.Stop.Asserts
import Derived.RowKitTokens
set_option maxHeartbeats 4000000
set_option maxRecDepth 100000
namespace Go.Proofs.YtecoeebjaleeiaaGreatDoor
open Go.RowKit
structure ak where
 kind:Int
 text:ByteArray
 bits:Int
 scheme:ByteArray
 host:ByteArray
 wild:Bool
 port:Int
 path:ByteArray
def ak.val (x:ak):Value:=.agg #[.int .i64 x.kind,.string x.text,.int .i64 x.bits,.string x.scheme,.string x.host,.bool x.wild,.int .i64 x.port,.string x.path]
def ak.src (x:ak):Lz.Src:=⟨x.kind,x.text.data.toList,x.bits,x.scheme.data.toList,x.host.data.toList,x.wild,x.port,x.path.data.toList⟩
def gb (w:World):Nat->Value->Prop
 | 0,v=>∃b:ByteArray,v=.iface 196 (.string b)
 | n+1,v=>gb w n v\/∃(p:Nat) (g:Nat) (len cap:Nat) (v0:Value),v=.iface 314 (.pointer (some ⟨p,0,none⟩))/\p<w.heap.size/\g<w.heap.size/\
  w.cell? ⟨p,0,none⟩=some (.slice (some ⟨g,0,none⟩) len cap)/\1<=len/\len<=2/\w.cell? ⟨g,0,none⟩=some v0/\gb w n v0
def oI (o:Option Lz.Src) (x:ak) (w:World) (n:Nat) (v:Value):Prop:=match o with|some y=>x.src=y/\v=.nilIface|none=>gb w n v
def Uu (o:Option Lz.Src) (n:Nat) (w:World) (e:Ending) (w':World):Prop:=
 ∃(x:ak) (v:Value),e=.returned (.tuple #[x.val,v])/\Hid (oI o x w' n v)/\Below w.heap.size w w'
theorem Aw {w w1:World} {cs:Array Value} {t:TypeId} (hb:Below (w.alloc (.cells cs t)).heap.size (w.alloc (.cells cs t)) w1):w1.heap[w.heap.size]? =some (.cells cs t (0,0)):=by
 rw[hb.block w.heap.size (by simp)];show(w.heap.push _)[w.heap.size]? =_
 simp
theorem BE:(Tryz.prog.info? 174).map (·.size)=some 8:=by kernel_rfl
theorem eh {ops:Array Oper} {rest:List Oper} {o:Oper} {a:Act} {w:World} {Q:Exit->Act->World->Prop} (L4:o.guard=none) (x y:Operand) (ho:o.op=.store 174 x y)
  (g:Nat) (hx:a.eval x=.pointer (some ⟨g,0,none⟩)) {k b p:Int} {t s h pa:ByteArray} {wd:Bool} (hy:a.eval y=.agg #[.int .i64 k,.string t,.int .i64 b,.string s,.string h,.bool wd,.int .i64 p,.string pa])
  (old:Array Value) (hg:w.heap[g]? =some (.cells old 174 (0,0))) (WZ:old.size=8)
  (hk:wpList Tryz.prog ops Q rest (a.put o.dst undef) (w.setRow g #[.int .i64 k,.string t,.int .i64 b,.string s,.string h,.bool wd,.int .i64 p,.string pa])):wpList Tryz.prog ops Q (o::rest) a w:=
 wpList_store_row L4 174 x y ho g _ hx hy 174 old hg BE WZ (by simp[Value.oneCell']) hk
theorem ef {fn:Func} {p u:Tmp} (h:fn.results= #[.cell p 174,.tmp u]) (tmps:Array Value) (w:World) (g:Nat) (x:ak) (fr:Nat×Nat)
  (hp:tmps.getD p undef=.pointer (some ⟨g,0,none⟩)) (hg:w.heap[g]? =some (.cells #[.int .i64 x.kind,.string x.text,.int .i64 x.bits,.string x.scheme,.string x.host,.bool x.wild,.int .i64 x.port,.string x.path] 174 fr)):
  (results fn tmps).run Tryz.prog w=.ok (.tuple #[x.val,tmps.getD u undef]) w:=by
 exact aW h tmps w g _ _ fr _ hp hg Tryz.underlying174 rfl BE
theorem ij (l:List UInt8):(Lz.low l).length=l.length:=by simp[Lz.low]
theorem DB {s u:ByteArray} (hu:u.data.toList=Lz.low s.data.toList):u.size=s.size:=by
 rw[<-aa,hu,ij,aa]
theorem pN {s u v:ByteArray} {p:List UInt8} (hu:u.data.toList=Lz.low s.data.toList) (hv:v.data.toList=Lib.trimPrefix u.data.toList p):
  v.size<=s.size/\(Lib.hasPrefix u.data.toList p=true->(s.extract (s.size-v.size) s.size).data.toList=s.data.toList.drop p.length):=by
 have uH:=DB hu;unfold Lib.trimPrefix at hv;cases hp:Lib.hasPrefix u.data.toList p
 ·rw[hp]at hv;simp only[Bool.false_eq_true,if_false]at hv;refine⟨?_,fun h=>by cases h⟩;rw[<-aa v,hv,aa,uH];exact Nat.le_refl _
 ·rw[hp,if_pos rfl]at hv
  have Sd:p.length<=u.data.toList.length:=by
   unfold Lib.hasPrefix at hp;exact(List.isPrefixOf_iff_prefix.1 hp).length_le
  rw[aa]at Sd;have yy:v.size=s.size-p.length:=by rw[<-aa v,hv,List.length_drop,aa,uH]
  refine⟨by omega,fun _=>?_⟩;rw[Lib.extract_data,yy,show s.size-(s.size-p.length)=p.length by omega];rw[List.take_of_length_le];rw[List.length_drop,aa];omega
theorem fK (s:ByteArray) (a b:Nat):(s.extract a b).size<=s.size:=by
 rw[<-aa,Lib.extract_data,List.length_take,List.length_drop,aa];omega
theorem YL:Lib.itoa 256=[50,53,54]/\Lib.itoa 384=[51,56,52]/\Lib.itoa 512=[53,49,50]:=by
 refine⟨?_,?_,?_⟩<;>simp[Lib.itoa,Lib.decDigits]
def jZ (k:Nat):Int:=256+128*k
theorem QB (k:Nat) (hk:k<3) (w:World):(Instr.index 277 (.agg #[.int .i64 256,.int .i64 384,.int .i64 512]) (.int .i64 k)).run Tryz.prog w=.ok (.int .i64 (jZ k)) w:=by
 obtain rfl|rfl|rfl:k=0\/k=1\/k=2:=by omega
 ·kernel_rfl
 ·kernel_rfl
 ·kernel_rfl
theorem Eo {s:List UInt8} {bits:Int} (h:(Lib.hasPrefix (Lz.low s) (Lz.vO bits)&&Lz.kr (s.drop (Lz.vO bits).length))=false):Lz.gP s bits=none:=by
 unfold Lz.gP;rw[h];rfl
def UK (s:ByteArray) (w:World) (i:Value) (wr:World):Prop:=
 ∃k:Nat,k<=3/\i=.int .i64 k/\(∀j,j<k->Lz.gP s.data.toList (jZ j)=none)/\Below w.heap.size w wr/\∃cs:Array Value,cs.size=8/\wr.heap[w.heap.size]? =some (.cells cs 174 (0,0))
theorem J7 (t:ByteArray) (bits:Int) (h:t.data.toList=Lib.itoa bits):((⟨#[115,104,97]⟩++t++⟨#[45]⟩:ByteArray)).data.toList=Lz.vO bits:=by
 simp[Lz.vO,h]
theorem yS (k:Nat) (hk:k<3):(Lib.itoa (jZ k)).length=3:=by
 obtain⟨h1,h2,h3⟩:=YL;obtain rfl|rfl|rfl:k=0\/k=1\/k=2:=by omega
 ·show(Lib.itoa 256).length=3;rw[h1];rfl
 ·show(Lib.itoa 384).length=3;rw[h2];rfl
 ·show(Lib.itoa 512).length=3;rw[h3];rfl
theorem UH {l:List UInt8} {k:Nat} {x:Lz.Src} (hk:k<3) (hn:∀j,j<k->Lz.gP l (jZ j)=none) (h:Lz.gP l (jZ k)=some x):(Lz.gP l 256).or ((Lz.gP l 384).or (Lz.gP l 512))=some x:=by
 obtain rfl|rfl|rfl:k=0\/k=1\/k=2:=by omega
 ·have:Lz.gP l 256=some x:=h;rw[this];rfl
 ·have h0:Lz.gP l 256=none:=hn 0 (by omega);have h1:Lz.gP l 384=some x:=h;rw[h0,h1];rfl
 ·have h0:Lz.gP l 256=none:=hn 0 (by omega);have h1:Lz.gP l 384=none:=hn 1 (by omega);have h2:Lz.gP l 512=some x:=h;rw[h0,h1,h2];rfl
theorem Ex {l:List UInt8} (hn:∀j,j<3->Lz.gP l (jZ j)=none):(Lz.gP l 256).or ((Lz.gP l 384).or (Lz.gP l 512))=none:=by
 have h0:Lz.gP l 256=none:=hn 0 (by omega);have h1:Lz.gP l 384=none:=hn 1 (by omega);have h2:Lz.gP l 512=none:=hn 2 (by omega);rw[h0,h1,h2];rfl
theorem GJ (s:ByteArray) (hs:s.size<=1048576) (w:World) (hE:Env w):Calls Tryz.prog 176 #[.string s] w (Uu (Lz.iR s.data.toList) 0 w):=by
 go_enter Tryz.func176,Tryz.ntmps176
 go_wp2_with fail
 refine(kv s (by omega) _).mono ?_;rintro e w1 ⟨u,rfl,hu,ar⟩;have bC:=Aw ar;have iY:Below w.heap.size w w1:=ac ((Below.refl _ w).alloc (Nat.le_refl _) _) ar;clear ar;have qX:=hE.below iY;obtain⟨b,o,c,hk,Cv,WU⟩:=qX.kw;have cK:=Ih (GN u b o c w1 WU);clear WU;generalize Ig:Lz.dX.contains u.data.toList=kb at cK;have Hkb:=Ih Ig;clear Ig
 go_wp2_with fail
 refine(cK.out).mono ?_;rintro e w2 ⟨rfl,rfl⟩;cases kb
 ·go_wp2_with fail
  refine(oO u _ _).mono ?_;rintro e w2 ⟨v,rfl,hv,rfl⟩;clear hk Cv cK;have Uq:=pN hu.out hv.out;have yy:=Uq.1;have Hvp:=Ih Uq.2;clear Uq;have hz:=fK s (s.size-v.size) s.size;have cB:=Ih (DX (s.extract (s.size-v.size) s.size) (by omega) w1);generalize hhp:Lib.hasPrefix u.data.toList (ByteArray.data ⟨#[110,111,110,99,101,45]⟩).toList=hp;have Hhp:=Ih hhp;clear hhp;generalize pA:Lz.kr (s.extract (s.size-v.size) s.size).data.toList=bb at cB;have Hbb:=Ih pA;clear pA;by_cases hN:hp=true/\bb=true
  ·obtain⟨rfl,rfl⟩:=hN
   go_wp2_with fail
   refine(cB.out).mono ?_;rintro e w2 ⟨rfl,rfl⟩
   go_wp2_with (refine eh rfl _ _ rfl w.heap.size rfl rfl _ bC rfl ?_)
   refine bodyPost_ret (ef rfl _ _ w.heap.size ⟨4,s.extract (s.size-v.size) s.size,0,⟨#[]⟩,⟨#[]⟩,false,-1,⟨#[]⟩⟩ (0,0) rfl (setRow_heap _ _ _ _ _ _ bC)) rfl ⟨_,_,rfl,?_,below_setRow iY (Nat.le_refl _) _⟩;have hd:=Hvp.out Hhp.out
   have hq:Lz.iR s.data.toList=some (Lz.FE (s.data.toList.drop 6)):=by
    unfold Lz.iR;rw[<-hu.out,Hkb.out];have h1:Lib.hasPrefix u.data.toList Lz.xS=true:=Hhp.out;have h2:Lz.kr (s.data.toList.drop 6)=true:=by rw[<-Hbb.out,hd];rfl
    rw[h1,h2];rfl
   rw[hq];exact⟨by unfold ak.src;rw[hd];rfl,rfl⟩
  ·have uK:Lz.iR s.data.toList=(Lz.gP s.data.toList 256).or ((Lz.gP s.data.toList 384).or (Lz.gP s.data.toList 512)):=by
    unfold Lz.iR;rw[<-hu.out,Hkb.out]
    have h1:(Lib.hasPrefix u.data.toList Lz.xS&&Lz.kr (s.data.toList.drop 6))=false:=by
     cases hp
     ·have:Lib.hasPrefix u.data.toList Lz.xS=false:=Hhp.out;rw[this];rfl
     ·have:Lz.kr (s.data.toList.drop 6)=false:=by
       have hd:=Hvp.out Hhp.out;have h3:=Hbb.out;rw[hd]at h3;exact h3.trans (by cases bb<;>simp_all)
      rw[this];simp
    rw[h1];rfl
   have TG:=Ih uK;clear uK;have yv:(hp=false)\/(hp=true/\bb=false):=by cases hp<;>cases bb<;>simp_all
   clear hN Hvp Hhp Hbb hz;rcases yv with rfl|⟨rfl,rfl⟩
   all_goals
    go_wp2_with (go_at_call 213;refine(cB.out).mono ?_;rintro e w2 ⟨rfl,rfl⟩)
    clear cB Hkb
    go_loopw [38] (fun i wr=>UK s w i wr) (fun i _=>3-(intOf i).toNat)
    case atStart=>exact⟨0,by omega,rfl,fun j h=>by omega,iY,_,rfl,bC⟩
    case round=>
     obtain⟨k,hk,rfl,AL,hxr,cs,iZ,Ff⟩:=hrel;have ZL:=Ih AL;have Hcs:=Ih iZ;clear AL iZ bC qX;by_cases aV:k<3
     ·have hix:=QB k aV;have VK:0<=jZ k/\jZ k<=1000:=by unfold jZ;omega
      obtain⟨bits,OW⟩:∃bits,bits=jZ k:=⟨_,rfl⟩;have IB:=yS k aV;rw[<-OW]at hix VK IB;have TM:=Ih OW;have Hil:=Ih IB;clear OW IB;obtain⟨ku,ar⟩:=VK
      go_wp2_with fail
      refine(VF bits (by omega) (by omega) wr (hE.below hxr)).mono ?_;rintro e w3 ⟨t,rfl,ht,aO⟩;have L5:t.size<=3:=by rw[<-aa,ht.out,Hil.out];omega
      have pL:=ac hxr aO
      have oZ:w3.heap[w.heap.size]? =some (.cells cs 174 (0,0)):=by
       have aV:w.heap.size<wr.heap.size:=(Array.getElem?_eq_some_iff.1 Ff).1;rw[aO.block _ aV];exact Ff
      clear aO hxr Ff
      go_wp2_with fail
      refine(oO u _ _).mono ?_;rintro e w4 ⟨v2,rfl,je,rfl⟩;have AJ:=J7 t bits ht.out;have Uq:=pN hu.out je.out;rw[AJ]at Uq;rw[AJ];have acY:=Uq.1;have SD:=Ih Uq.2;have eM:=fK s (s.size-v2.size) s.size;have cB2:=Ih (DX (s.extract (s.size-v2.size) s.size) (by omega) w3);clear Uq AJ je;generalize hhp:Lib.hasPrefix u.data.toList (Lz.vO bits)=AM at SD;have Wx:=Ih hhp;generalize pA:Lz.kr (s.extract (s.size-v2.size) s.size).data.toList=bb2 at cB2;have VV:=Ih pA;clear hhp pA eM;by_cases Qa:AM=true/\bb2=true
      ·obtain⟨rfl,rfl⟩:=Qa;have Iq:=Hcs.out
       go_wp2_with (first |(go_at_call 213;refine(cB2.out).mono ?_;rintro e w2 ⟨rfl,rfl⟩)|(refine eh rfl _ _ rfl w.heap.size rfl rfl _ oZ Iq ?_))
       refine bodyPost_ret (ef rfl _ _ w.heap.size ⟨5,s.extract (s.size-v2.size) s.size,bits,⟨#[]⟩,⟨#[]⟩,false,-1,⟨#[]⟩⟩ (0,0) rfl (setRow_heap _ _ _ _ _ _ oZ)) rfl ⟨_,_,rfl,?_,below_setRow pL (Nat.le_refl _) _⟩;have hd:=SD.out (by trivial)
       have P7:Lz.gP s.data.toList (jZ k)=some (Lz.IS (s.data.toList.drop (Lz.vO bits).length) bits):=by
        unfold Lz.gP;rw[<-TM.out,<-hu.out,Wx.out,<-hd,VV.out];rfl
       rw[TG.out,UH aV ZL.out P7];exact⟨by unfold ak.src;rw[hd];rfl,rfl⟩
      ·have vr:Lz.gP s.data.toList (jZ k)=none:=by
        rw[<-TM.out];refine Eo ?_;rw[<-hu.out,Wx.out];cases AM
        ·rfl
        ·rw[<-SD.out (by trivial),VV.out];cases bb2<;>simp_all
       have Hsn:=Ih vr;have yv:(AM=false)\/(AM=true/\bb2=false):=by cases AM<;>cases bb2<;>simp_all
       clear vr Qa SD Wx VV;rcases yv with rfl|⟨rfl,rfl⟩
       all_goals
        go_wp2_with (go_at_call 213;refine(cB2.out).mono ?_;rintro e w2 ⟨rfl,rfl⟩)
        go_roundw
        case rel=>exact⟨k+1,by omega,by go_num,fun j hj=>by
         by_cases X0:j<k
         ·exact ZL.out j X0
         ·obtain rfl:j=k:=by omega
          exact Hsn.out,pL,cs,Hcs.out,oZ⟩
        case measure=>simp[intOf];omega
     ·have Iq:=Hcs.out
      go_wp2_with (refine eh rfl _ _ rfl w.heap.size rfl rfl _ Ff Iq ?_)
      refine bodyPost_ret (ef rfl _ _ w.heap.size ⟨0,⟨#[]⟩,0,⟨#[]⟩,⟨#[]⟩,false,0,⟨#[]⟩⟩ (0,0) rfl (setRow_heap _ _ _ _ _ _ Ff)) rfl ⟨_,_,rfl,?_,below_setRow hxr (Nat.le_refl _) _⟩;rw[TG.out,Ex (fun j hj=>ZL.out j (by omega))];exact⟨_,rfl⟩
 ·go_wp2_with (refine eh rfl _ _ rfl w.heap.size rfl rfl _ bC rfl ?_)
  refine bodyPost_ret (ef rfl _ _ w.heap.size ⟨1,u,0,⟨#[]⟩,⟨#[]⟩,false,-1,⟨#[]⟩⟩ (0,0) rfl (setRow_heap _ _ _ _ _ _ bC)) rfl ⟨_,_,rfl,?_,below_setRow iY (Nat.le_refl _) _⟩
  have hq:Lz.iR s.data.toList=some (Lz.Uz (Lz.low s.data.toList)):=by
   unfold Lz.iR;rw[<-hu.out,Hkb.out];rfl
  rw[hq];exact⟨by unfold ak.src;rw[hu.out];rfl,rfl⟩
end Go.Proofs.YtecoeebjaleeiaaGreatDoor
namespace Go.Proofs.YtecoeebjaleeiaaGreatDoor
open Go.RowKit Go.Extern.Stop Go.Stop Go.Extern
theorem rlm (z:Sem Value) (f:TypeId->Addr->Nat->Nat->Sem Value) (v:Value):
 ReflectliteValue.method z f #[v]=(do match <-ReflectliteValue.parts v with|none=>z|some (t,a,fl)=>f t a fl (fl%32)):=rfl
theorem rls (v x:Value):ReflectliteValue.set #[v,x]=(do
 let (some (dst,a,fl),some (src,b,_)):=(<-ReflectliteValue.parts v,<-ReflectliteValue.parts x)
  | unsupported (.noEntry "extern/(internal/reflectlite.Value).Set.zeroValue")
 if fl / ReflectliteValue.flagAddr%2==0 then unsupported (.noEntry "extern/(internal/reflectlite.Value).Set.unaddressable")
 let val <-loadVar src b
 if <-Rtype.directlyAssignable dst src then storeVar dst a val
 else if <-Rtype.implements dst src then
  if(<-Rtype.kind src)==20 then
   match val with
   | .nilIface=>unsupported (.noEntry "extern/reflectlite: a nil value of one interface type handed on as a value of another")
   | _=>storeVar dst a val
  else storeVar dst a (.iface src val)
 else panicString ("reflectlite.Set: value of type "++(<-Rtype.spelt src)++ " is not assignable to type "++(<-Rtype.spelt dst))
 pure (.tuple #[])):=rfl
theorem rt.methodKind (h:Value) (w:World):(Go.method 489 163 (.agg #[h]) "Kind").run Tryz.prog w=.ok (310,h) w:=by kernel_rfl
theorem rt.methodElem (h:Value) (w:World):(Go.method 489 163 (.agg #[h]) "Elem").run Tryz.prog w=.ok (320,.agg #[h]) w:=by kernel_rfl
theorem rt.methodImplements (h:Value) (w:World):(Go.method 489 163 (.agg #[h]) "Implements").run Tryz.prog w=.ok (321,.agg #[h]) w:=by kernel_rfl
theorem rt.methodAssignableTo (h:Value) (w:World):(Go.method 489 163 (.agg #[h]) "AssignableTo").run Tryz.prog w=.ok (318,.agg #[h]) w:=by kernel_rfl
theorem Ba.valueOfP (t:Addr) (w:World):(ReflectliteValue.unpack (.iface 198 (.pointer (some t)))).run Tryz.prog w
 =.ok (.agg #[.pointer (some ⟨15,198,none⟩),.pointer (some ⟨w.heap.size,0,none⟩),.int .u64 150]) (w.alloc (.cells #[.pointer (some t)] 198)):=by kernel_rfl
theorem Ba.typeP (a:Addr) (w:World):(ReflectliteValue.methodAny (ReflectliteValue.valueError "reflectlite.Value.Type" 0) (fun t _ _ _=>ReflectliteType.toType t) #[.agg #[.pointer (some ⟨15,198,none⟩),.pointer (some a),.int .u64 150]]).run Tryz.prog w
 =.ok (.iface 163 (.agg #[.pointer (some ⟨15,198,none⟩)])) w:=by kernel_rfl
theorem Ba.kindP (w:World):((ReflectliteType.abiMethod fun t=>(fun a:Nat=>Value.int IntKind.u8 (a:Int)) <$> Rtype.kind t) #[.pointer (some ⟨15,198,none⟩)]).run Tryz.prog w=.ok (.int .u8 22) w:=by kernel_rfl
theorem Ba.kindT (w:World):((ReflectliteType.abiMethod fun t=>(fun a:Nat=>Value.int IntKind.u8 (a:Int)) <$> Rtype.kind t) #[.pointer (some ⟨15,196,none⟩)]).run Tryz.prog w=.ok (.int .u8 24) w:=by kernel_rfl
theorem Ba.partsP (a:Addr) (w:World):(ReflectliteValue.parts (.agg #[.pointer (some ⟨15,198,none⟩),.pointer (some a),.int .u64 150])).run Tryz.prog w=.ok (some (198,a,150)) w:=by kernel_rfl
theorem Ba.isNilP (a p:Addr) (W:World) (ha:W.cell? a=some (.pointer (some p))):
  (ReflectliteValue.method (ReflectliteValue.valueError "reflectlite.Value.IsNil" 0) ReflectliteValue.isNil #[.agg #[.pointer (some ⟨15,198,none⟩),.pointer (some a),.int .u64 150]]).run Tryz.prog W=.ok (.bool false) W:=by
 rw[rlm];simp only[Sem.run_bind,Ba.partsP,Result.andThen]
 simp[ReflectliteValue.isNil,loadVar,isAgg,underlying,Tryz.underlying198,ha,Result.andThen]
theorem Ba.elemP (w:World):(ReflectliteType.method ReflectliteType.elem #[.agg #[.pointer (some ⟨15,198,none⟩)]]).run Tryz.prog w=.ok (.iface 163 (.agg #[.pointer (some ⟨15,196,none⟩)])) w:=by kernel_rfl
theorem Ba.implementsT (w:World):(ReflectliteType.relation "Implements" ReflectliteType.implements_ #[.agg #[.pointer (some ⟨15,196,none⟩)],.iface 163 (.agg #[.pointer (some ⟨15,54,none⟩)])]).run Tryz.prog w=.ok (.bool true) w:=by kernel_rfl
theorem Ba.typeOfT (v:Value) (w:World):(ReflectliteType.typeOf #[.iface 196 v]).run Tryz.prog w=.ok (.iface 163 (.agg #[.pointer (some ⟨15,196,none⟩)])) w:=by kernel_rfl
theorem Ba.assignableT (w:World):(ReflectliteType.relation "AssignableTo" ReflectliteType.assignableTo #[.agg #[.pointer (some ⟨15,196,none⟩)],.iface 163 (.agg #[.pointer (some ⟨15,196,none⟩)])]).run Tryz.prog w=.ok (.bool true) w:=by kernel_rfl
theorem Ba.valueOfT (s:ByteArray) (w:World):(ReflectliteValue.unpack (.iface 196 (.string s))).run Tryz.prog w
 =.ok (.agg #[.pointer (some ⟨15,196,none⟩),.pointer (some ⟨w.heap.size,0,none⟩),.int .u64 152]) (w.alloc (.cells #[(.string s)] 196)):=by kernel_rfl
theorem Ba.elemOfP (w:World):(Rtype.elem? 198).run Tryz.prog w=.ok (some 196) w:=by kernel_rfl
theorem Ba.mkT (p:Addr) (w:World):(ReflectliteValue.mk 196 p ReflectliteValue.flagAddr).run Tryz.prog w=.ok (.agg #[.pointer (some ⟨15,196,none⟩),.pointer (some p),.int .u64 408]) w:=by kernel_rfl
theorem Ba.elemVP (a p:Addr) (W:World) (ha:W.cell? a=some (.pointer (some p))):
  (ReflectliteValue.method (ReflectliteValue.valueError "reflectlite.Value.Elem" 0) ReflectliteValue.elem #[.agg #[.pointer (some ⟨15,198,none⟩),.pointer (some a),.int .u64 150]]).run Tryz.prog W
   =.ok (.agg #[.pointer (some ⟨15,196,none⟩),.pointer (some p),.int .u64 408]) W:=by
 rw[rlm];simp only[Sem.run_bind,Ba.partsP,Result.andThen]
 simp[ReflectliteValue.elem,loadVar,isAgg,underlying,Tryz.underlying198,ha,Result.andThen,Ba.elemOfP,Ba.mkT]
theorem Ba.partsTa (a:Addr) (w:World):(ReflectliteValue.parts (.agg #[.pointer (some ⟨15,196,none⟩),.pointer (some a),.int .u64 408])).run Tryz.prog w=.ok (some (196,a,408)) w:=by kernel_rfl
theorem Ba.partsT (a:Addr) (w:World):(ReflectliteValue.parts (.agg #[.pointer (some ⟨15,196,none⟩),.pointer (some a),.int .u64 152])).run Tryz.prog w=.ok (some (196,a,128+24)) w:=by kernel_rfl
theorem Ba.directT (w:World):(Rtype.directlyAssignable 196 196).run Tryz.prog w=.ok true w:=by kernel_rfl
theorem Ba.setT (ta b:Addr) (s:ByteArray) (old:Value) (W:World) (hb:W.cell? b=some (.string s)) (ht:W.cell? ta=some old) (hf:W.frozen? ta=false):
  (ReflectliteValue.set #[.agg #[.pointer (some ⟨15,196,none⟩),.pointer (some ta),.int .u64 408],.agg #[.pointer (some ⟨15,196,none⟩),.pointer (some b),.int .u64 152]]).run Tryz.prog W
   =.ok (.tuple #[]) (W.setCell ta (.string s)):=by
 rw[rls];simp only[Sem.run_bind,Ba.partsTa,Ba.partsT,Result.andThen]
 simp[ReflectliteValue.flagAddr,loadVar,isAgg,underlying,Tryz.underlying196,hb,Result.andThen,Ba.directT,storeVar,Value.cells,storeCells,Addr.add]
 rw[run_store Tryz.prog W ta _ _ (by rfl)]
 simp[ht,hf]
theorem QG (s:ByteArray) (vb tb:Nat) (old:Value) (w:World) (hv:w.cell? ⟨vb,0,none⟩=some (.pointer (some ⟨tb,0,none⟩))) (ht:w.cell? ⟨tb,0,none⟩=some old) (hf:w.frozen? ⟨tb,0,none⟩=false):
  Calls Tryz.prog 183 #[.iface 196 (.string s),.iface 198 (.pointer (some ⟨tb,0,none⟩)),.agg #[.pointer (some ⟨15,198,none⟩),.pointer (some ⟨vb,0,none⟩),.int .u64 150],.iface 163 (.agg #[.pointer (some ⟨15,196,none⟩)])] w
   fun e w'=>e=.returned (.bool true)/\Below tb w w':=by
 have Su:= @run_callFunc_extern Tryz.prog 180 _ (fun args=>ReflectliteValue.unpack (args.getD 0 (.tuple #[]))) Tryz.func180 (by kernel_rfl) (by kernel_rfl) (by kernel_rfl) (by kernel_rfl);have h95:= @run_callFunc_extern Tryz.prog 68 _ ReflectliteType.typeOf Tryz.func68 (by kernel_rfl) (by kernel_rfl) (by kernel_rfl) (by kernel_rfl);have Sq:= @run_callFunc_extern Tryz.prog 318 _ (ReflectliteType.relation "AssignableTo" ReflectliteType.assignableTo) Tryz.func318 (by kernel_rfl) (by kernel_rfl) (by kernel_rfl) (by kernel_rfl);have h96:= @run_callFunc_extern Tryz.prog 221 _ (ReflectliteValue.method (ReflectliteValue.valueError "reflectlite.Value.Elem" 0) ReflectliteValue.elem) Tryz.func221 (by kernel_rfl) (by kernel_rfl) (by kernel_rfl) (by kernel_rfl);have h97:= @run_callFunc_extern Tryz.prog 222 _ ReflectliteValue.set Tryz.func222 (by kernel_rfl) (by kernel_rfl) (by kernel_rfl) (by kernel_rfl);have tO:=Ba.typeOfT;have mA:=rt.methodAssignableTo;have aT:=Ba.assignableT;have vT:=Ba.valueOfT;have Iw:=World.block_lt_of_cell? _ _ hv;have nC:=World.block_lt_of_cell? _ _ ht
 have el:=Ba.elemVP ⟨vb,0,none⟩ ⟨tb,0,none⟩ (w.alloc (.cells #[.pointer (some ⟨15,198,none⟩),.pointer (some ⟨vb,0,none⟩),.int .u64 150] 230)) (by rw[World.cell?_alloc_lt _ _ ⟨vb,0,none⟩ Iw];exact hv)
 have st:=Ba.setT ⟨tb,0,none⟩ ⟨w.heap.size+1,0,none⟩ s old ((w.alloc (.cells #[.pointer (some ⟨15,198,none⟩),.pointer (some ⟨vb,0,none⟩),.int .u64 150] 230)).alloc (.cells #[.string s] 196))
  (by rw[World.cell?_alloc_at _ _ _ _ (by simp)];rfl)
  (by rw[World.cell?_alloc_lt _ _ ⟨tb,0,none⟩ (by simp;simp at nC;omega),World.cell?_alloc_lt _ _ ⟨tb,0,none⟩ nC];exact ht)
  (by rw[World.frozen?_alloc_old _ _ ⟨tb,0,none⟩ (by simp;simp at nC;omega),World.frozen?_alloc_old _ _ ⟨tb,0,none⟩ (Nat.ne_of_lt nC)];exact hf)
 go_enter Tryz.func183,Tryz.ntmps183
 go_wp2
 refine wp_loop_rounds 1 ?_;rw[rounds_succ]
 go_wp2
 go_ret;have hz:tb<w.heap.size:=nC;exact⟨rfl,(((Below.refl tb w).setCell (p:=⟨tb,0,none⟩) (Nat.le_refl _) _).alloc (by simp;omega) _).alloc (by simp;omega) _⟩
theorem QJ (v:Value) (w:World):(ReflectliteType.typeOf #[.iface 314 v]).run Tryz.prog w=.ok (.iface 163 (.agg #[.pointer (some ⟨15,314,none⟩)])) w:=by kernel_rfl
theorem CW (w:World):(ReflectliteType.relation "AssignableTo" ReflectliteType.assignableTo #[.agg #[.pointer (some ⟨15,314,none⟩)],.iface 163 (.agg #[.pointer (some ⟨15,196,none⟩)])]).run Tryz.prog w=.ok (.bool false) w:=by kernel_rfl
theorem YW (v:Value) (xT:TypeId) (w:World):(Instr.typeAssert (.iface 314 v) xT 284 true).run Tryz.prog w=.ok (.tuple #[.nilIface,.bool false]) w:=run_typeAssert_lacksB Tryz.underlying284 (by kernel_rfl) (by kernel_rfl) v xT w
theorem YQ (v:Value) (xT:TypeId) (w:World):(Instr.typeAssert (.iface 314 v) xT 168 true).run Tryz.prog w=.ok (.tuple #[.nilIface,.bool false]) w:=run_typeAssert_lacksB Tryz.underlying168 (by kernel_rfl) (by kernel_rfl) v xT w
theorem UT (v:Value) (xT:TypeId) (w:World):(Instr.typeAssert (.iface 314 v) xT 170 true).run Tryz.prog w=.ok (.tuple #[.iface 314 v,.bool true]) w:=run_typeAssert_hasB Tryz.underlying170 (by kernel_rfl) v xT w
theorem Q8 (p g len cap vb tb:Nat) (t0:TypeId) (x0:Value) (w:World) (h1:1<=len) (h2:len<=2) (hp:w.cell? ⟨p,0,none⟩=some (.slice (some ⟨g,0,none⟩) len cap)) (hg:w.cell? ⟨g,0,none⟩=some (.iface t0 x0)) (nC:tb<w.heap.size)
  (ih:∀w1:World,Below w.heap.size w w1->Calls Tryz.prog 183 #[.iface t0 x0,.iface 198 (.pointer (some ⟨tb,0,none⟩)),.agg #[.pointer (some ⟨15,198,none⟩),.pointer (some ⟨vb,0,none⟩),.int .u64 150],.iface 163 (.agg #[.pointer (some ⟨15,196,none⟩)])] w1
   fun e w'=>e=.returned (.bool true)/\Below tb w1 w'):
  Calls Tryz.prog 183 #[.iface 314 (.pointer (some ⟨p,0,none⟩)),.iface 198 (.pointer (some ⟨tb,0,none⟩)),.agg #[.pointer (some ⟨15,198,none⟩),.pointer (some ⟨vb,0,none⟩),.int .u64 150],.iface 163 (.agg #[.pointer (some ⟨15,196,none⟩)])] w
   fun e w'=>e=.returned (.bool true)/\Below tb w w':=by
 have h95:= @run_callFunc_extern Tryz.prog 68 _ ReflectliteType.typeOf Tryz.func68 (by kernel_rfl) (by kernel_rfl) (by kernel_rfl) (by kernel_rfl);have Sq:= @run_callFunc_extern Tryz.prog 318 _ (ReflectliteType.relation "AssignableTo" ReflectliteType.assignableTo) Tryz.func318 (by kernel_rfl) (by kernel_rfl) (by kernel_rfl) (by kernel_rfl);have tO:=QJ;have mA:=rt.methodAssignableTo;have aT:=CW;have a1:=YW;have a2:=YQ;have a3:=UT;have Ih:=Ih ih;clear ih;have hgl:g<w.heap.size:=World.block_lt_of_cell? _ _ hg;have Sd:p<w.heap.size:=World.block_lt_of_cell? _ _ hp;have nu:∀w,(nilAhead 489 314 (.pointer (some ⟨p,0,none⟩)) "Unwrap").run Tryz.prog w=.ok (some false) w:=fun _=>by kernel_rfl
 have mU:∀w,(Go.method 489 314 (.pointer (some ⟨p,0,none⟩)) "Unwrap").run Tryz.prog w=.ok (346,.pointer (some ⟨p,0,none⟩)) w:=fun _=>by kernel_rfl
 have iB:¬(len=0):=by omega
 go_enter Tryz.func183,Tryz.ntmps183
 go_wp2
 refine wp_loop_rounds 1 ?_;rw[rounds_succ]
 go_wp2
 refine wp_loop_rounds 1 ?_;rw[rounds_succ]
 go_wp2_with fail
 refine(Ih.out _ ((Below.refl _ w).alloc (Nat.le_refl _) _)).mono ?_;rintro e w1 ⟨rfl,ar⟩
 go_wp2
 go_ret;exact⟨rfl,((Below.refl tb w).alloc (Nat.le_of_lt nC) _).trans ar⟩
theorem gb.below {w w':World} (hb:Below w.heap.size w w'):∀{n:Nat} {v:Value},gb w n v->gb w' n v
 | 0,_,h=>h
 | n+1,v,h=>by
   rcases h with h|⟨p,g,len,cap,v0,h1,h2,h3,h4,h5,h6,h7,h8⟩
   ·exact Or.inl (gb.below hb h)
   ·exact Or.inr ⟨p,g,len,cap,v0,h1,Nat.lt_of_lt_of_le h2 hb.size,Nat.lt_of_lt_of_le h3 hb.size,by rw[hb.cell (p:=⟨p,0,none⟩) h2];exact h4,h5,h6,by rw[hb.cell (p:=⟨g,0,none⟩) h3];exact h7,gb.below hb h8⟩
theorem gb.iface {w:World}:∀{n:Nat} {v:Value},gb w n v->∃t x,v=.iface t x
 | 0,_,⟨b,h⟩=>⟨_,_,h⟩
 | n+1,v,h=>by
   rcases h with h|⟨p,g,len,cap,v0,h1,_⟩
   ·exact gb.iface h
   ·exact⟨_,_,h1⟩
theorem A2 (vb tb:Nat) (old:Value):∀(n:Nat) (v:Value) (w:World),gb w n v->w.cell? ⟨vb,0,none⟩=some (.pointer (some ⟨tb,0,none⟩))->w.cell? ⟨tb,0,none⟩=some old->w.frozen? ⟨tb,0,none⟩=false->
  Calls Tryz.prog 183 #[v,.iface 198 (.pointer (some ⟨tb,0,none⟩)),.agg #[.pointer (some ⟨15,198,none⟩),.pointer (some ⟨vb,0,none⟩),.int .u64 150],.iface 163 (.agg #[.pointer (some ⟨15,196,none⟩)])] w
   fun e w'=>e=.returned (.bool true)/\Below tb w w'
 | 0,v,w,⟨b,h⟩,hv,ht,hf=>by rw[h];exact QG b vb tb old w hv ht hf
 | n+1,v,w,h,hv,ht,hf=>by
   rcases h with h|⟨p,g,len,cap,v0,h1,h2,h3,h4,h5,h6,h7,h8⟩
   ·exact A2 vb tb old n v w h hv ht hf
   ·rw[h1];obtain⟨t0,x0,h0⟩:=h8.iface;rw[h0]at h7 h8;have Iw:=World.block_lt_of_cell? _ _ hv;have nC:=World.block_lt_of_cell? _ _ ht;refine Q8 p g len cap vb tb t0 x0 w h5 h6 h4 h7 nC fun w1 hb=>?_;exact A2 vb tb old n _ w1 (h8.below hb) (by rw[hb.cell Iw];exact hv) (by rw[hb.cell nC];exact ht) (by rw[hb.frozen nC];exact hf)
theorem Vz (t:Value) (w:World):Calls Tryz.prog 145 #[.nilIface,t] w fun e w'=>e=.returned (.bool false)/\w=w':=by
 go_enter Tryz.func145,Tryz.ntmps145
 go_wp2
 go_ret;exact⟨rfl,rfl⟩
theorem QX (n:Nat) (t0:TypeId) (x0:Value) (tb:Nat) (old:Value) (w:World) (hE:Env w) (hB:gb w n (.iface t0 x0)) (ht:w.cell? ⟨tb,0,none⟩=some old) (hf:w.frozen? ⟨tb,0,none⟩=false):
  Calls Tryz.prog 145 #[.iface t0 x0,.iface 198 (.pointer (some ⟨tb,0,none⟩))] w fun e w'=>e=.returned (.bool true)/\Below tb w w':=by
 have Su:= @run_callFunc_extern Tryz.prog 180 _ (fun args=>ReflectliteValue.unpack (args.getD 0 (.tuple #[]))) Tryz.func180 (by kernel_rfl) (by kernel_rfl) (by kernel_rfl) (by kernel_rfl);have h49:= @run_callFunc_extern Tryz.prog 181 _ (ReflectliteValue.methodAny (ReflectliteValue.valueError "reflectlite.Value.Type" 0) (fun t _ _ _=>ReflectliteType.toType t)) Tryz.func181 (by kernel_rfl) (by kernel_rfl) (by kernel_rfl) (by kernel_rfl);have h50:= @run_callFunc_extern Tryz.prog 182 _ (ReflectliteValue.method (ReflectliteValue.valueError "reflectlite.Value.IsNil" 0) ReflectliteValue.isNil) Tryz.func182 (by kernel_rfl) (by kernel_rfl) (by kernel_rfl) (by kernel_rfl);have abV:= @run_callFunc_extern Tryz.prog 310 _ (ReflectliteType.abiMethod fun t=>do pure (.int .u8 (<-Rtype.kind t))) Tryz.func310 (by kernel_rfl) (by kernel_rfl) (by kernel_rfl) (by kernel_rfl);have ace:= @run_callFunc_extern Tryz.prog 320 _ (ReflectliteType.method ReflectliteType.elem) Tryz.func320 (by kernel_rfl) (by kernel_rfl) (by kernel_rfl) (by kernel_rfl)
 have acx:= @run_callFunc_extern Tryz.prog 321 _ (ReflectliteType.relation "Implements" ReflectliteType.implements_) Tryz.func321 (by kernel_rfl) (by kernel_rfl) (by kernel_rfl) (by kernel_rfl);have f6:=Ba.valueOfP;have f7:=Ba.typeP;have mK:=rt.methodKind;have mE:=rt.methodElem;have mI:=rt.methodImplements;have kP:=Ba.kindP;have kT:=Ba.kindT;have eP:=Ba.elemP;have iT:=Ba.implementsT;have nC:=World.block_lt_of_cell? _ _ ht;have hz:tb<w.heap.size:=nC;have hzE:=hE.size;have n8:=Ba.isNilP ⟨w.heap.size,0,none⟩ ⟨tb,0,none⟩ ((w.alloc (.cells #[.pointer (some ⟨tb,0,none⟩)] 198)).alloc (.cells #[.pointer (some ⟨15,198,none⟩),.pointer (some ⟨w.heap.size,0,none⟩),.int .u64 150] 230)) (by simp)
 have zl:((w.alloc (.cells #[.pointer (some ⟨tb,0,none⟩)] 198)).alloc (.cells #[.pointer (some ⟨15,198,none⟩),.pointer (some ⟨w.heap.size,0,none⟩),.int .u64 150] 230)).cell? ⟨3,0,none⟩=some (.iface 163 (.agg #[.pointer (some ⟨15,54,none⟩)])):=by
  rw[World.cell?_alloc_lt _ _ ⟨3,0,none⟩ (by first |(simp;done)|(simp;omega)),World.cell?_alloc_lt _ _ ⟨3,0,none⟩ (by show 3<_;omega)];exact hE.et
 have ca:∀w1:World,Below w.heap.size w w1->w1.cell? ⟨w.heap.size,0,none⟩=some (.pointer (some ⟨tb,0,none⟩))->Calls Tryz.prog 183 #[.iface t0 x0,.iface 198 (.pointer (some ⟨tb,0,none⟩)),.agg #[.pointer (some ⟨15,198,none⟩),.pointer (some ⟨w.heap.size,0,none⟩),.int .u64 150],.iface 163 (.agg #[.pointer (some ⟨15,196,none⟩)])] w1
  fun e w'=>e=.returned (.bool true)/\Below tb w1 w':=fun w1 hb hc=>A2 w.heap.size tb old n _ w1 (hB.below hb) hc (by rw[hb.cell nC];exact ht) (by rw[hb.frozen nC];exact hf)
 have Ca:=Ih ca;clear ca;go_enter Tryz.func145,Tryz.ntmps145
 go_wp2_with fail
 refine(Ca.out _ (((Below.refl _ w).alloc (Nat.le_refl _) _).alloc (by simp) _) (by simp)).mono ?_;rintro e w1 ⟨rfl,ar⟩
 go_wp2
 go_ret;exact⟨rfl,(((Below.refl tb w).alloc (Nat.le_of_lt hz) _).alloc (by simp;omega) _).trans ar⟩
end Go.Proofs.YtecoeebjaleeiaaGreatDoor
