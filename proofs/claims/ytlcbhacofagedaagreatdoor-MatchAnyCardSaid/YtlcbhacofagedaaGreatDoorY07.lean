/-
  errors.As at a target of the type sources.bad: an error that is one, or joins errors the first of which is one, is found.
-/
import Derived.Test.YtlcbhacofagedaaGreatDoorY06
import Derived.Stop.Asserts
import Derived.RowKitTokens
set_option maxHeartbeats 4000000
set_option maxRecDepth 100000
namespace Go.Proofs.YtlcbhacofagedaaGreatDoor
open Go.RowKit
structure aq where
 kind:Int
 text:ByteArray
 bits:Int
 scheme:ByteArray
 host:ByteArray
 wild:Bool
 port:Int
 path:ByteArray
def aq.val (x:aq):Value:=.agg #[.int .i64 x.kind,.string x.text,.int .i64 x.bits,.string x.scheme,.string x.host,.bool x.wild,.int .i64 x.port,.string x.path]
def aq.src (x:aq):Lz.Src:=⟨x.kind,x.text.data.toList,x.bits,x.scheme.data.toList,x.host.data.toList,x.wild,x.port,x.path.data.toList⟩
def fx (w:World):Nat->Value->Prop
 | 0,v=>∃b:ByteArray,v=.iface 72 (.string b)
 | n+1,v=>fx w n v\/∃(p:Nat) (g:Nat) (len cap:Nat) (v0:Value),v=.iface 203 (.pointer (some ⟨p,0,none⟩))/\p<w.heap.size/\g<w.heap.size/\
  w.cell? ⟨p,0,none⟩=some (.slice (some ⟨g,0,none⟩) len cap)/\1<=len/\len<=2/\w.cell? ⟨g,0,none⟩=some v0/\fx w n v0
def mZ (o:Option Lz.Src) (x:aq) (w:World) (n:Nat) (v:Value):Prop:=match o with|some y=>x.src=y/\v=.nilIface|none=>fx w n v
def UN (o:Option Lz.Src) (n:Nat) (w:World) (e:Ending) (w':World):Prop:=
 ∃(x:aq) (v:Value),e=.returned (.tuple #[x.val,v])/\Hid (mZ o x w' n v)/\Below w.heap.size w w'
theorem xI {w w1:World} {cs:Array Value} {t:TypeId} (hb:Below (w.alloc (.cells cs t)).heap.size (w.alloc (.cells cs t)) w1):w1.heap[w.heap.size]? =some (.cells cs t (0,0)):=by
 rw[hb.block w.heap.size (by simp)];show(w.heap.push _)[w.heap.size]? =_
 simp
theorem nz:(Tryz.prog.info? 41).map (·.size)=some 8:=by kernel_rfl
theorem bw {ops:Array Oper} {rest:List Oper} {o:Oper} {a:Act} {w:World} {Q:Exit->Act->World->Prop} (PA:o.guard=none) (x y:Operand) (ho:o.op=.store 41 x y)
  (g:Nat) (hx:a.eval x=.pointer (some ⟨g,0,none⟩)) {k b p:Int} {t s h pa:ByteArray} {wd:Bool} (hy:a.eval y=.agg #[.int .i64 k,.string t,.int .i64 b,.string s,.string h,.bool wd,.int .i64 p,.string pa])
  (jo:Array Value) (hg:w.heap[g]? =some (.cells jo 41 (0,0))) (Wb:jo.size=8)
  (hk:wpList Tryz.prog ops Q rest (a.put o.dst undef) (w.setRow g #[.int .i64 k,.string t,.int .i64 b,.string s,.string h,.bool wd,.int .i64 p,.string pa])):wpList Tryz.prog ops Q (o::rest) a w:=
 wpList_store_row PA 41 x y ho g _ hx hy 41 jo hg nz Wb (by simp[Value.oneCell']) hk
theorem bx {fn:Func} {p u:Tmp} (h:fn.results= #[.cell p 41,.tmp u]) (tmps:Array Value) (w:World) (g:Nat) (x:aq) (fr:Nat×Nat)
  (hp:tmps.getD p undef=.pointer (some ⟨g,0,none⟩)) (hg:w.heap[g]? =some (.cells #[.int .i64 x.kind,.string x.text,.int .i64 x.bits,.string x.scheme,.string x.host,.bool x.wild,.int .i64 x.port,.string x.path] 41 fr)):
  (results fn tmps).run Tryz.prog w=.ok (.tuple #[x.val,tmps.getD u undef]) w:=by
 exact bH h tmps w g _ _ fr _ hp hg Tryz.underlying41 rfl nz
theorem gj (l:List UInt8):(Lz.low l).length=l.length:=by simp[Lz.low]
theorem CK {s u:ByteArray} (hu:u.data.toList=Lz.low s.data.toList):u.size=s.size:=by
 rw[<-aa,hu,gj,aa]
theorem nV {s u v:ByteArray} {p:List UInt8} (hu:u.data.toList=Lz.low s.data.toList) (hv:v.data.toList=Lib.trimPrefix u.data.toList p):
  v.size<=s.size/\(Lib.hasPrefix u.data.toList p=true->(s.extract (s.size-v.size) s.size).data.toList=s.data.toList.drop p.length):=by
 have jn:=CK hu;unfold Lib.trimPrefix at hv;cases hp:Lib.hasPrefix u.data.toList p
 ·rw[hp]at hv;simp only[Bool.false_eq_true,if_false]at hv;refine⟨?_,fun h=>by cases h⟩;rw[<-aa v,hv,aa,jn];exact Nat.le_refl _
 ·rw[hp,if_pos rfl]at hv
  have Pj:p.length<=u.data.toList.length:=by
   unfold Lib.hasPrefix at hp;exact(List.isPrefixOf_iff_prefix.1 hp).length_le
  rw[aa]at Pj;have hvs:v.size=s.size-p.length:=by rw[<-aa v,hv,List.length_drop,aa,jn]
  refine⟨by omega,fun _=>?_⟩;rw[Lib.extract_data,hvs,show s.size-(s.size-p.length)=p.length by omega];rw[List.take_of_length_le];rw[List.length_drop,aa];omega
theorem aZ (s:ByteArray) (a b:Nat):(s.extract a b).size<=s.size:=by
 rw[<-aa,Lib.extract_data,List.length_take,List.length_drop,aa];omega
theorem X9:Lib.itoa 256=[50,53,54]/\Lib.itoa 384=[51,56,52]/\Lib.itoa 512=[53,49,50]:=by
 refine⟨?_,?_,?_⟩<;>simp[Lib.itoa,Lib.decDigits]
def fA (k:Nat):Int:=256+128*k
theorem QM (k:Nat) (hk:k<3) (w:World):(Instr.index 143 (.agg #[.int .i64 256,.int .i64 384,.int .i64 512]) (.int .i64 k)).run Tryz.prog w=.ok (.int .i64 (fA k)) w:=by
 obtain rfl|rfl|rfl:k=0\/k=1\/k=2:=by omega
 ·kernel_rfl
 ·kernel_rfl
 ·kernel_rfl
theorem sr {s:List UInt8} {bits:Int} (h:(Lib.hasPrefix (Lz.low s) (Lz.qS bits)&&Lz.eO (s.drop (Lz.qS bits).length))=false):Lz.eU s bits=none:=by
 unfold Lz.eU;rw[h];rfl
def Uv (s:ByteArray) (w:World) (i:Value) (wr:World):Prop:=
 ∃k:Nat,k<=3/\i=.int .i64 k/\(∀j,j<k->Lz.eU s.data.toList (fA j)=none)/\Below w.heap.size w wr/\∃cs:Array Value,cs.size=8/\wr.heap[w.heap.size]? =some (.cells cs 41 (0,0))
theorem xY (t:ByteArray) (bits:Int) (h:t.data.toList=Lib.itoa bits):((⟨#[115,104,97]⟩++t++⟨#[45]⟩:ByteArray)).data.toList=Lz.qS bits:=by
 simp[Lz.qS,h]
theorem od (k:Nat) (hk:k<3):(Lib.itoa (fA k)).length=3:=by
 obtain⟨h1,h2,h3⟩:=X9;obtain rfl|rfl|rfl:k=0\/k=1\/k=2:=by omega
 ·show(Lib.itoa 256).length=3;rw[h1];rfl
 ·show(Lib.itoa 384).length=3;rw[h2];rfl
 ·show(Lib.itoa 512).length=3;rw[h3];rfl
theorem M6 {l:List UInt8} {k:Nat} {x:Lz.Src} (hk:k<3) (hn:∀j,j<k->Lz.eU l (fA j)=none) (h:Lz.eU l (fA k)=some x):(Lz.eU l 256).or ((Lz.eU l 384).or (Lz.eU l 512))=some x:=by
 obtain rfl|rfl|rfl:k=0\/k=1\/k=2:=by omega
 ·have:Lz.eU l 256=some x:=h;rw[this];rfl
 ·have h0:Lz.eU l 256=none:=hn 0 (by omega);have h1:Lz.eU l 384=some x:=h;rw[h0,h1];rfl
 ·have h0:Lz.eU l 256=none:=hn 0 (by omega);have h1:Lz.eU l 384=none:=hn 1 (by omega);have h2:Lz.eU l 512=some x:=h;rw[h0,h1,h2];rfl
theorem rO {l:List UInt8} (hn:∀j,j<3->Lz.eU l (fA j)=none):(Lz.eU l 256).or ((Lz.eU l 384).or (Lz.eU l 512))=none:=by
 have h0:Lz.eU l 256=none:=hn 0 (by omega);have h1:Lz.eU l 384=none:=hn 1 (by omega);have h2:Lz.eU l 512=none:=hn 2 (by omega);rw[h0,h1,h2];rfl
theorem EM (s:ByteArray) (hs:s.size<=1048576) (w:World) (hE:Env w):Calls Tryz.prog 96 #[.string s] w (UN (Lz.dh s.data.toList) 0 w):=by
 go_enter Tryz.func96,Tryz.ntmps96
 go_wp2_with fail
 refine(j4 s (by omega) _).mono ?_;rintro e w1 ⟨u,rfl,hu,aC⟩;have oU:=xI aC;have fF:Below w.heap.size w w1:=ac ((Below.refl _ w).alloc (Nat.le_refl _) _) aC;clear aC;have DB:=hE.below fF;obtain⟨b,o,c,hk,vU,Pm⟩:=DB.kw;have cK:=Ih (EP u b o c w1 Pm);clear Pm;generalize Sy:Lz.bq.contains u.data.toList=kb at cK;have Hkb:=Ih Sy;clear Sy
 go_wp2_with fail
 refine(cK.out).mono ?_;rintro e w2 ⟨rfl,rfl⟩;cases kb
 ·go_wp2_with fail
  refine(mW u _ _).mono ?_;rintro e w2 ⟨v,rfl,hv,rfl⟩;clear hk vU cK;have TY:=nV hu.out hv.out;have hvs:=TY.1;have Hvp:=Ih TY.2;clear TY;have hz:=aZ s (s.size-v.size) s.size;have cB:=Ih (BH (s.extract (s.size-v.size) s.size) (by omega) w1);generalize hhp:Lib.hasPrefix u.data.toList (ByteArray.data ⟨#[110,111,110,99,101,45]⟩).toList=hp;have SD:=Ih hhp;clear hhp;generalize qy:Lz.eO (s.extract (s.size-v.size) s.size).data.toList=bb at cB;have WV:=Ih qy;clear qy;by_cases hN:hp=true/\bb=true
  ·obtain⟨rfl,rfl⟩:=hN
   go_wp2_with fail
   refine(cB.out).mono ?_;rintro e w2 ⟨rfl,rfl⟩
   go_wp2_with (refine bw rfl _ _ rfl w.heap.size rfl rfl _ oU rfl ?_)
   refine bodyPost_ret (bx rfl _ _ w.heap.size ⟨4,s.extract (s.size-v.size) s.size,0,⟨#[]⟩,⟨#[]⟩,false,-1,⟨#[]⟩⟩ (0,0) rfl (setRow_heap _ _ _ _ _ _ oU)) rfl ⟨_,_,rfl,?_,below_setRow fF (Nat.le_refl _) _⟩;have hd:=Hvp.out SD.out
   have hq:Lz.dh s.data.toList=some (Lz.zX (s.data.toList.drop 6)):=by
    unfold Lz.dh;rw[<-hu.out,Hkb.out];have h1:Lib.hasPrefix u.data.toList Lz.m8=true:=SD.out;have h2:Lz.eO (s.data.toList.drop 6)=true:=by rw[<-WV.out,hd];rfl
    rw[h1,h2];rfl
   rw[hq];exact⟨by unfold aq.src;rw[hd];rfl,rfl⟩
  ·have ni:Lz.dh s.data.toList=(Lz.eU s.data.toList 256).or ((Lz.eU s.data.toList 384).or (Lz.eU s.data.toList 512)):=by
    unfold Lz.dh;rw[<-hu.out,Hkb.out]
    have h1:(Lib.hasPrefix u.data.toList Lz.m8&&Lz.eO (s.data.toList.drop 6))=false:=by
     cases hp
     ·have:Lib.hasPrefix u.data.toList Lz.m8=false:=SD.out;rw[this];rfl
     ·have:Lz.eO (s.data.toList.drop 6)=false:=by
       have hd:=Hvp.out SD.out;have h3:=WV.out;rw[hd]at h3;exact h3.trans (by cases bb<;>simp_all)
      rw[this];simp
    rw[h1];rfl
   have Du:=Ih ni;clear ni;have gT:(hp=false)\/(hp=true/\bb=false):=by cases hp<;>cases bb<;>simp_all
   clear hN Hvp SD WV hz;rcases gT with rfl|⟨rfl,rfl⟩
   all_goals
    go_wp2_with (go_at_call 144;refine(cB.out).mono ?_;rintro e w2 ⟨rfl,rfl⟩)
    clear cB Hkb
    go_loopw [38] (fun i wr=>Uv s w i wr) (fun i _=>3-(intOf i).toNat)
    case atStart=>exact⟨0,by omega,rfl,fun j h=>by omega,fF,_,rfl,oU⟩
    case round=>
     obtain⟨k,hk,rfl,ic,hxr,cs,iV,Ix⟩:=hrel;have R5:=Ih ic;have Zj:=Ih iV;clear ic iV oU DB;by_cases aN:k<3
     ·have VL:=QM k aN;have TU:0<=fA k/\fA k<=1000:=by unfold fA;omega
      obtain⟨bits,vI⟩:∃bits,bits=fA k:=⟨_,rfl⟩;have sF:=od k aN;rw[<-vI]at VL TU sF;have Dl:=Ih vI;have Hil:=Ih sF;clear vI sF;obtain⟨ek,aC⟩:=TU
      go_wp2_with fail
      refine(NN bits (by omega) (by omega) wr (hE.below hxr)).mono ?_;rintro e w3 ⟨t,rfl,ht,cq⟩;have AG:t.size<=3:=by rw[<-aa,ht.out,Hil.out];omega
      have nL:=ac hxr cq
      have Ao:w3.heap[w.heap.size]? =some (.cells cs 41 (0,0)):=by
       have aN:w.heap.size<wr.heap.size:=(Array.getElem?_eq_some_iff.1 Ix).1;rw[cq.block _ aN];exact Ix
      clear cq hxr Ix
      go_wp2_with fail
      refine(mW u _ _).mono ?_;rintro e w4 ⟨v2,rfl,gQ,rfl⟩;have Gr:=xY t bits ht.out;have TY:=nV hu.out gQ.out;rw[Gr]at TY;rw[Gr];have acj:=TY.1;have RF:=Ih TY.2;have fk:=aZ s (s.size-v2.size) s.size;have W4:=Ih (BH (s.extract (s.size-v2.size) s.size) (by omega) w3);clear TY Gr gQ;generalize hhp:Lib.hasPrefix u.data.toList (Lz.qS bits)=Av at RF;have F0:=Ih hhp;generalize qy:Lz.eO (s.extract (s.size-v2.size) s.size).data.toList=bb2 at W4;have Gp:=Ih qy;clear hhp qy fk;by_cases Ld:Av=true/\bb2=true
      ·obtain⟨rfl,rfl⟩:=Ld;have gR:=Zj.out
       go_wp2_with (first |(go_at_call 144;refine(W4.out).mono ?_;rintro e w2 ⟨rfl,rfl⟩)|(refine bw rfl _ _ rfl w.heap.size rfl rfl _ Ao gR ?_))
       refine bodyPost_ret (bx rfl _ _ w.heap.size ⟨5,s.extract (s.size-v2.size) s.size,bits,⟨#[]⟩,⟨#[]⟩,false,-1,⟨#[]⟩⟩ (0,0) rfl (setRow_heap _ _ _ _ _ _ Ao)) rfl ⟨_,_,rfl,?_,below_setRow nL (Nat.le_refl _) _⟩;have hd:=RF.out (by trivial)
       have KL:Lz.eU s.data.toList (fA k)=some (Lz.ye (s.data.toList.drop (Lz.qS bits).length) bits):=by
        unfold Lz.eU;rw[<-Dl.out,<-hu.out,F0.out,<-hd,Gp.out];rfl
       rw[Du.out,M6 aN R5.out KL];exact⟨by unfold aq.src;rw[hd];rfl,rfl⟩
      ·have jd:Lz.eU s.data.toList (fA k)=none:=by
        rw[<-Dl.out];refine sr ?_;rw[<-hu.out,F0.out];cases Av
        ·rfl
        ·rw[<-RF.out (by trivial),Gp.out];cases bb2<;>simp_all
       have wX:=Ih jd;have gT:(Av=false)\/(Av=true/\bb2=false):=by cases Av<;>cases bb2<;>simp_all
       clear jd Ld RF F0 Gp;rcases gT with rfl|⟨rfl,rfl⟩
       all_goals
        go_wp2_with (go_at_call 144;refine(W4.out).mono ?_;rintro e w2 ⟨rfl,rfl⟩)
        go_roundw
        case rel=>exact⟨k+1,by omega,by go_num,fun j hj=>by
         by_cases Dt:j<k
         ·exact R5.out j Dt
         ·obtain rfl:j=k:=by omega
          exact wX.out,nL,cs,Zj.out,Ao⟩
        case measure=>simp[intOf];omega
     ·have gR:=Zj.out
      go_wp2_with (refine bw rfl _ _ rfl w.heap.size rfl rfl _ Ix gR ?_)
      refine bodyPost_ret (bx rfl _ _ w.heap.size ⟨0,⟨#[]⟩,0,⟨#[]⟩,⟨#[]⟩,false,0,⟨#[]⟩⟩ (0,0) rfl (setRow_heap _ _ _ _ _ _ Ix)) rfl ⟨_,_,rfl,?_,below_setRow hxr (Nat.le_refl _) _⟩;rw[Du.out,rO (fun j hj=>R5.out j (by omega))];exact⟨_,rfl⟩
 ·go_wp2_with (refine bw rfl _ _ rfl w.heap.size rfl rfl _ oU rfl ?_)
  refine bodyPost_ret (bx rfl _ _ w.heap.size ⟨1,u,0,⟨#[]⟩,⟨#[]⟩,false,-1,⟨#[]⟩⟩ (0,0) rfl (setRow_heap _ _ _ _ _ _ oU)) rfl ⟨_,_,rfl,?_,below_setRow fF (Nat.le_refl _) _⟩
  have hq:Lz.dh s.data.toList=some (Lz.Qo (Lz.low s.data.toList)):=by
   unfold Lz.dh;rw[<-hu.out,Hkb.out];rfl
  rw[hq];exact⟨by unfold aq.src;rw[hu.out];rfl,rfl⟩
end Go.Proofs.YtlcbhacofagedaaGreatDoor
namespace Go.Proofs.YtlcbhacofagedaaGreatDoor
open Go.RowKit Go.Extern.Stop Go.Stop Go.Extern
theorem rlm (z:Sem Value) (f:TypeId->Addr->Nat->Nat->Sem Value) (v:Value):
 ReflectliteValue.method z f #[v]=(do match <-ReflectliteValue.parts v with|none=>z|some (t,a,fl)=>f t a fl (fl%32)):=rfl
theorem rls (v x:Value):ReflectliteValue.set #[v,x]=(do
 let (some (dst,a,fl),some (src,b,_)):=(<-ReflectliteValue.parts v,<-ReflectliteValue.parts x)
  | unsupported (.noEntry "extern/(internal/reflectlite.Value).Set.zeroValue")
 if fl / ReflectliteValue.flagAddr%2==0 then unsupported (.noEntry "extern/(internal/reflectlite.Value).Set.unaddressable")
 let val <-loadVar src b
 if <-Rtype.directlyAssignable dst src then storeVar dst a val
 else if <-Rtype.implements dst src then
  if(<-Rtype.kind src)==20 then
   match val with
   | .nilIface=>unsupported (.noEntry "extern/reflectlite: a nil value of one interface type handed on as a value of another")
   | _=>storeVar dst a val
  else storeVar dst a (.iface src val)
 else panicString ("reflectlite.Set: value of type "++(<-Rtype.spelt src)++ " is not assignable to type "++(<-Rtype.spelt dst))
 pure (.tuple #[])):=rfl
theorem rt.methodKind (h:Value) (w:World):(Go.method 448 149 (.agg #[h]) "Kind").run Tryz.prog w=.ok (316,h) w:=by kernel_rfl
theorem rt.methodElem (h:Value) (w:World):(Go.method 448 149 (.agg #[h]) "Elem").run Tryz.prog w=.ok (330,.agg #[h]) w:=by kernel_rfl
theorem rt.methodImplements (h:Value) (w:World):(Go.method 448 149 (.agg #[h]) "Implements").run Tryz.prog w=.ok (331,.agg #[h]) w:=by kernel_rfl
theorem rt.methodAssignableTo (h:Value) (w:World):(Go.method 448 149 (.agg #[h]) "AssignableTo").run Tryz.prog w=.ok (328,.agg #[h]) w:=by kernel_rfl
theorem Ba.valueOfP (t:Addr) (w:World):(ReflectliteValue.unpack (.iface 74 (.pointer (some t)))).run Tryz.prog w
 =.ok (.agg #[.pointer (some ⟨11,74,none⟩),.pointer (some ⟨w.heap.size,0,none⟩),.int .u64 150]) (w.alloc (.cells #[.pointer (some t)] 74)):=by kernel_rfl
theorem Ba.typeP (a:Addr) (w:World):(ReflectliteValue.methodAny (ReflectliteValue.valueError "reflectlite.Value.Type" 0) (fun t _ _ _=>ReflectliteType.toType t) #[.agg #[.pointer (some ⟨11,74,none⟩),.pointer (some a),.int .u64 150]]).run Tryz.prog w
 =.ok (.iface 149 (.agg #[.pointer (some ⟨11,74,none⟩)])) w:=by kernel_rfl
theorem Ba.kindP (w:World):((ReflectliteType.abiMethod fun t=>(fun a:Nat=>Value.int IntKind.u8 (a:Int)) <$> Rtype.kind t) #[.pointer (some ⟨11,74,none⟩)]).run Tryz.prog w=.ok (.int .u8 22) w:=by kernel_rfl
theorem Ba.kindT (w:World):((ReflectliteType.abiMethod fun t=>(fun a:Nat=>Value.int IntKind.u8 (a:Int)) <$> Rtype.kind t) #[.pointer (some ⟨11,72,none⟩)]).run Tryz.prog w=.ok (.int .u8 24) w:=by kernel_rfl
theorem Ba.partsP (a:Addr) (w:World):(ReflectliteValue.parts (.agg #[.pointer (some ⟨11,74,none⟩),.pointer (some a),.int .u64 150])).run Tryz.prog w=.ok (some (74,a,150)) w:=by kernel_rfl
theorem Ba.isNilP (a p:Addr) (W:World) (ha:W.cell? a=some (.pointer (some p))):
  (ReflectliteValue.method (ReflectliteValue.valueError "reflectlite.Value.IsNil" 0) ReflectliteValue.isNil #[.agg #[.pointer (some ⟨11,74,none⟩),.pointer (some a),.int .u64 150]]).run Tryz.prog W=.ok (.bool false) W:=by
 rw[rlm];simp only[Sem.run_bind,Ba.partsP,Result.andThen]
 simp[ReflectliteValue.isNil,loadVar,isAgg,underlying,Tryz.underlying74,ha,Result.andThen]
theorem Ba.elemP (w:World):(ReflectliteType.method ReflectliteType.elem #[.agg #[.pointer (some ⟨11,74,none⟩)]]).run Tryz.prog w=.ok (.iface 149 (.agg #[.pointer (some ⟨11,72,none⟩)])) w:=by kernel_rfl
theorem Ba.implementsT (w:World):(ReflectliteType.relation "Implements" ReflectliteType.implements_ #[.agg #[.pointer (some ⟨11,72,none⟩)],.iface 149 (.agg #[.pointer (some ⟨11,59,none⟩)])]).run Tryz.prog w=.ok (.bool true) w:=by kernel_rfl
theorem Ba.typeOfT (v:Value) (w:World):(ReflectliteType.typeOf #[.iface 72 v]).run Tryz.prog w=.ok (.iface 149 (.agg #[.pointer (some ⟨11,72,none⟩)])) w:=by kernel_rfl
theorem Ba.assignableT (w:World):(ReflectliteType.relation "AssignableTo" ReflectliteType.assignableTo #[.agg #[.pointer (some ⟨11,72,none⟩)],.iface 149 (.agg #[.pointer (some ⟨11,72,none⟩)])]).run Tryz.prog w=.ok (.bool true) w:=by kernel_rfl
theorem Ba.valueOfT (s:ByteArray) (w:World):(ReflectliteValue.unpack (.iface 72 (.string s))).run Tryz.prog w
 =.ok (.agg #[.pointer (some ⟨11,72,none⟩),.pointer (some ⟨w.heap.size,0,none⟩),.int .u64 152]) (w.alloc (.cells #[(.string s)] 72)):=by kernel_rfl
theorem Ba.elemOfP (w:World):(Rtype.elem? 74).run Tryz.prog w=.ok (some 72) w:=by kernel_rfl
theorem Ba.mkT (p:Addr) (w:World):(ReflectliteValue.mk 72 p ReflectliteValue.flagAddr).run Tryz.prog w=.ok (.agg #[.pointer (some ⟨11,72,none⟩),.pointer (some p),.int .u64 408]) w:=by kernel_rfl
theorem Ba.elemVP (a p:Addr) (W:World) (ha:W.cell? a=some (.pointer (some p))):
  (ReflectliteValue.method (ReflectliteValue.valueError "reflectlite.Value.Elem" 0) ReflectliteValue.elem #[.agg #[.pointer (some ⟨11,74,none⟩),.pointer (some a),.int .u64 150]]).run Tryz.prog W
   =.ok (.agg #[.pointer (some ⟨11,72,none⟩),.pointer (some p),.int .u64 408]) W:=by
 rw[rlm];simp only[Sem.run_bind,Ba.partsP,Result.andThen]
 simp[ReflectliteValue.elem,loadVar,isAgg,underlying,Tryz.underlying74,ha,Result.andThen,Ba.elemOfP,Ba.mkT]
theorem Ba.partsTa (a:Addr) (w:World):(ReflectliteValue.parts (.agg #[.pointer (some ⟨11,72,none⟩),.pointer (some a),.int .u64 408])).run Tryz.prog w=.ok (some (72,a,408)) w:=by kernel_rfl
theorem Ba.partsT (a:Addr) (w:World):(ReflectliteValue.parts (.agg #[.pointer (some ⟨11,72,none⟩),.pointer (some a),.int .u64 152])).run Tryz.prog w=.ok (some (72,a,128+24)) w:=by kernel_rfl
theorem Ba.directT (w:World):(Rtype.directlyAssignable 72 72).run Tryz.prog w=.ok true w:=by kernel_rfl
theorem Ba.setT (ta b:Addr) (s:ByteArray) (jo:Value) (W:World) (hb:W.cell? b=some (.string s)) (ht:W.cell? ta=some jo) (hf:W.frozen? ta=false):
  (ReflectliteValue.set #[.agg #[.pointer (some ⟨11,72,none⟩),.pointer (some ta),.int .u64 408],.agg #[.pointer (some ⟨11,72,none⟩),.pointer (some b),.int .u64 152]]).run Tryz.prog W
   =.ok (.tuple #[]) (W.setCell ta (.string s)):=by
 rw[rls];simp only[Sem.run_bind,Ba.partsTa,Ba.partsT,Result.andThen]
 simp[ReflectliteValue.flagAddr,loadVar,isAgg,underlying,Tryz.underlying72,hb,Result.andThen,Ba.directT,storeVar,Value.cells,storeCells,Addr.add]
 rw[run_store Tryz.prog W ta _ _ (by rfl)]
 simp[ht,hf]
theorem Qq (s:ByteArray) (vb tb:Nat) (jo:Value) (w:World) (hv:w.cell? ⟨vb,0,none⟩=some (.pointer (some ⟨tb,0,none⟩))) (ht:w.cell? ⟨tb,0,none⟩=some jo) (hf:w.frozen? ⟨tb,0,none⟩=false):
  Calls Tryz.prog 104 #[.iface 72 (.string s),.iface 74 (.pointer (some ⟨tb,0,none⟩)),.agg #[.pointer (some ⟨11,74,none⟩),.pointer (some ⟨vb,0,none⟩),.int .u64 150],.iface 149 (.agg #[.pointer (some ⟨11,72,none⟩)])] w
   fun e w'=>e=.returned (.bool true)/\Below tb w w':=by
 have AH:= @run_callFunc_extern Tryz.prog 101 _ (fun args=>ReflectliteValue.unpack (args.getD 0 (.tuple #[]))) Tryz.func101 (by kernel_rfl) (by kernel_rfl) (by kernel_rfl) (by kernel_rfl);have Zk:= @run_callFunc_extern Tryz.prog 140 _ ReflectliteType.typeOf Tryz.func140 (by kernel_rfl) (by kernel_rfl) (by kernel_rfl) (by kernel_rfl);have R3:= @run_callFunc_extern Tryz.prog 328 _ (ReflectliteType.relation "AssignableTo" ReflectliteType.assignableTo) Tryz.func328 (by kernel_rfl) (by kernel_rfl) (by kernel_rfl) (by kernel_rfl);have h96:= @run_callFunc_extern Tryz.prog 153 _ (ReflectliteValue.method (ReflectliteValue.valueError "reflectlite.Value.Elem" 0) ReflectliteValue.elem) Tryz.func153 (by kernel_rfl) (by kernel_rfl) (by kernel_rfl) (by kernel_rfl);have h97:= @run_callFunc_extern Tryz.prog 154 _ ReflectliteValue.set Tryz.func154 (by kernel_rfl) (by kernel_rfl) (by kernel_rfl) (by kernel_rfl);have tO:=Ba.typeOfT;have mA:=rt.methodAssignableTo;have aT:=Ba.assignableT;have vT:=Ba.valueOfT;have yz:=World.block_lt_of_cell? _ _ hv;have kl:=World.block_lt_of_cell? _ _ ht
 have el:=Ba.elemVP ⟨vb,0,none⟩ ⟨tb,0,none⟩ (w.alloc (.cells #[.pointer (some ⟨11,74,none⟩),.pointer (some ⟨vb,0,none⟩),.int .u64 150] 109)) (by rw[World.cell?_alloc_lt _ _ ⟨vb,0,none⟩ yz];exact hv)
 have st:=Ba.setT ⟨tb,0,none⟩ ⟨w.heap.size+1,0,none⟩ s jo ((w.alloc (.cells #[.pointer (some ⟨11,74,none⟩),.pointer (some ⟨vb,0,none⟩),.int .u64 150] 109)).alloc (.cells #[.string s] 72))
  (by rw[World.cell?_alloc_at _ _ _ _ (by simp)];rfl)
  (by rw[World.cell?_alloc_lt _ _ ⟨tb,0,none⟩ (by simp;simp at kl;omega),World.cell?_alloc_lt _ _ ⟨tb,0,none⟩ kl];exact ht)
  (by rw[World.frozen?_alloc_old _ _ ⟨tb,0,none⟩ (by simp;simp at kl;omega),World.frozen?_alloc_old _ _ ⟨tb,0,none⟩ (Nat.ne_of_lt kl)];exact hf)
 go_enter Tryz.func104,Tryz.ntmps104
 go_wp2
 refine wp_loop_rounds 1 ?_;rw[rounds_succ]
 go_wp2
 go_ret;have hz:tb<w.heap.size:=kl;exact⟨rfl,(((Below.refl tb w).setCell (p:=⟨tb,0,none⟩) (Nat.le_refl _) _).alloc (by simp;omega) _).alloc (by simp;omega) _⟩
theorem Rj (v:Value) (w:World):(ReflectliteType.typeOf #[.iface 203 v]).run Tryz.prog w=.ok (.iface 149 (.agg #[.pointer (some ⟨11,203,none⟩)])) w:=by kernel_rfl
theorem BD (w:World):(ReflectliteType.relation "AssignableTo" ReflectliteType.assignableTo #[.agg #[.pointer (some ⟨11,203,none⟩)],.iface 149 (.agg #[.pointer (some ⟨11,72,none⟩)])]).run Tryz.prog w=.ok (.bool false) w:=by kernel_rfl
theorem Yz (v:Value) (xT:TypeId) (w:World):(Instr.typeAssert (.iface 203 v) xT 153 true).run Tryz.prog w=.ok (.tuple #[.nilIface,.bool false]) w:=run_typeAssert_lacksB Tryz.underlying153 (by kernel_rfl) (by kernel_rfl) v xT w
theorem Yg (v:Value) (xT:TypeId) (w:World):(Instr.typeAssert (.iface 203 v) xT 156 true).run Tryz.prog w=.ok (.tuple #[.nilIface,.bool false]) w:=run_typeAssert_lacksB Tryz.underlying156 (by kernel_rfl) (by kernel_rfl) v xT w
theorem Vd (v:Value) (xT:TypeId) (w:World):(Instr.typeAssert (.iface 203 v) xT 158 true).run Tryz.prog w=.ok (.tuple #[.iface 203 v,.bool true]) w:=run_typeAssert_hasB Tryz.underlying158 (by kernel_rfl) v xT w
theorem Ru (p g len cap vb tb:Nat) (t0:TypeId) (x0:Value) (w:World) (h1:1<=len) (h2:len<=2) (hp:w.cell? ⟨p,0,none⟩=some (.slice (some ⟨g,0,none⟩) len cap)) (hg:w.cell? ⟨g,0,none⟩=some (.iface t0 x0)) (kl:tb<w.heap.size)
  (ih:∀w1:World,Below w.heap.size w w1->Calls Tryz.prog 104 #[.iface t0 x0,.iface 74 (.pointer (some ⟨tb,0,none⟩)),.agg #[.pointer (some ⟨11,74,none⟩),.pointer (some ⟨vb,0,none⟩),.int .u64 150],.iface 149 (.agg #[.pointer (some ⟨11,72,none⟩)])] w1
   fun e w'=>e=.returned (.bool true)/\Below tb w1 w'):
  Calls Tryz.prog 104 #[.iface 203 (.pointer (some ⟨p,0,none⟩)),.iface 74 (.pointer (some ⟨tb,0,none⟩)),.agg #[.pointer (some ⟨11,74,none⟩),.pointer (some ⟨vb,0,none⟩),.int .u64 150],.iface 149 (.agg #[.pointer (some ⟨11,72,none⟩)])] w
   fun e w'=>e=.returned (.bool true)/\Below tb w w':=by
 have Zk:= @run_callFunc_extern Tryz.prog 140 _ ReflectliteType.typeOf Tryz.func140 (by kernel_rfl) (by kernel_rfl) (by kernel_rfl) (by kernel_rfl);have R3:= @run_callFunc_extern Tryz.prog 328 _ (ReflectliteType.relation "AssignableTo" ReflectliteType.assignableTo) Tryz.func328 (by kernel_rfl) (by kernel_rfl) (by kernel_rfl) (by kernel_rfl);have tO:=Rj;have mA:=rt.methodAssignableTo;have aT:=BD;have a1:=Yz;have a2:=Yg;have a3:=Vd;have Ih:=Ih ih;clear ih;have Dn:g<w.heap.size:=World.block_lt_of_cell? _ _ hg;have Pj:p<w.heap.size:=World.block_lt_of_cell? _ _ hp;have nu:∀w,(nilAhead 448 203 (.pointer (some ⟨p,0,none⟩)) "Unwrap").run Tryz.prog w=.ok (some false) w:=fun _=>by kernel_rfl
 have mU:∀w,(Go.method 448 203 (.pointer (some ⟨p,0,none⟩)) "Unwrap").run Tryz.prog w=.ok (339,.pointer (some ⟨p,0,none⟩)) w:=fun _=>by kernel_rfl
 have j8:¬(len=0):=by omega
 go_enter Tryz.func104,Tryz.ntmps104
 go_wp2
 refine wp_loop_rounds 1 ?_;rw[rounds_succ]
 go_wp2
 refine wp_loop_rounds 1 ?_;rw[rounds_succ]
 go_wp2_with fail
 refine(Ih.out _ ((Below.refl _ w).alloc (Nat.le_refl _) _)).mono ?_;rintro e w1 ⟨rfl,aC⟩
 go_wp2
 go_ret;exact⟨rfl,((Below.refl tb w).alloc (Nat.le_of_lt kl) _).trans aC⟩
theorem fx.below {w w':World} (hb:Below w.heap.size w w'):∀{n:Nat} {v:Value},fx w n v->fx w' n v
 | 0,_,h=>h
 | n+1,v,h=>by
   rcases h with h|⟨p,g,len,cap,v0,h1,h2,h3,h4,h5,h6,h7,h8⟩
   ·exact Or.inl (fx.below hb h)
   ·exact Or.inr ⟨p,g,len,cap,v0,h1,Nat.lt_of_lt_of_le h2 hb.size,Nat.lt_of_lt_of_le h3 hb.size,by rw[hb.cell (p:=⟨p,0,none⟩) h2];exact h4,h5,h6,by rw[hb.cell (p:=⟨g,0,none⟩) h3];exact h7,fx.below hb h8⟩
theorem fx.iface {w:World}:∀{n:Nat} {v:Value},fx w n v->∃t x,v=.iface t x
 | 0,_,⟨b,h⟩=>⟨_,_,h⟩
 | n+1,v,h=>by
   rcases h with h|⟨p,g,len,cap,v0,h1,_⟩
   ·exact fx.iface h
   ·exact⟨_,_,h1⟩
theorem zh (vb tb:Nat) (jo:Value):∀(n:Nat) (v:Value) (w:World),fx w n v->w.cell? ⟨vb,0,none⟩=some (.pointer (some ⟨tb,0,none⟩))->w.cell? ⟨tb,0,none⟩=some jo->w.frozen? ⟨tb,0,none⟩=false->
  Calls Tryz.prog 104 #[v,.iface 74 (.pointer (some ⟨tb,0,none⟩)),.agg #[.pointer (some ⟨11,74,none⟩),.pointer (some ⟨vb,0,none⟩),.int .u64 150],.iface 149 (.agg #[.pointer (some ⟨11,72,none⟩)])] w
   fun e w'=>e=.returned (.bool true)/\Below tb w w'
 | 0,v,w,⟨b,h⟩,hv,ht,hf=>by rw[h];exact Qq b vb tb jo w hv ht hf
 | n+1,v,w,h,hv,ht,hf=>by
   rcases h with h|⟨p,g,len,cap,v0,h1,h2,h3,h4,h5,h6,h7,h8⟩
   ·exact zh vb tb jo n v w h hv ht hf
   ·rw[h1];obtain⟨t0,x0,h0⟩:=h8.iface;rw[h0]at h7 h8;have yz:=World.block_lt_of_cell? _ _ hv;have kl:=World.block_lt_of_cell? _ _ ht;refine Ru p g len cap vb tb t0 x0 w h5 h6 h4 h7 kl fun w1 hb=>?_;exact zh vb tb jo n _ w1 (h8.below hb) (by rw[hb.cell yz];exact hv) (by rw[hb.cell kl];exact ht) (by rw[hb.frozen kl];exact hf)
theorem Ve (t:Value) (w:World):Calls Tryz.prog 65 #[.nilIface,t] w fun e w'=>e=.returned (.bool false)/\w=w':=by
 go_enter Tryz.func65,Tryz.ntmps65
 go_wp2
 go_ret;exact⟨rfl,rfl⟩
theorem PH (n:Nat) (t0:TypeId) (x0:Value) (tb:Nat) (jo:Value) (w:World) (hE:Env w) (hB:fx w n (.iface t0 x0)) (ht:w.cell? ⟨tb,0,none⟩=some jo) (hf:w.frozen? ⟨tb,0,none⟩=false):
  Calls Tryz.prog 65 #[.iface t0 x0,.iface 74 (.pointer (some ⟨tb,0,none⟩))] w fun e w'=>e=.returned (.bool true)/\Below tb w w':=by
 have AH:= @run_callFunc_extern Tryz.prog 101 _ (fun args=>ReflectliteValue.unpack (args.getD 0 (.tuple #[]))) Tryz.func101 (by kernel_rfl) (by kernel_rfl) (by kernel_rfl) (by kernel_rfl);have h49:= @run_callFunc_extern Tryz.prog 102 _ (ReflectliteValue.methodAny (ReflectliteValue.valueError "reflectlite.Value.Type" 0) (fun t _ _ _=>ReflectliteType.toType t)) Tryz.func102 (by kernel_rfl) (by kernel_rfl) (by kernel_rfl) (by kernel_rfl);have h50:= @run_callFunc_extern Tryz.prog 103 _ (ReflectliteValue.method (ReflectliteValue.valueError "reflectlite.Value.IsNil" 0) ReflectliteValue.isNil) Tryz.func103 (by kernel_rfl) (by kernel_rfl) (by kernel_rfl) (by kernel_rfl);have aa2:= @run_callFunc_extern Tryz.prog 316 _ (ReflectliteType.abiMethod fun t=>do pure (.int .u8 (<-Rtype.kind t))) Tryz.func316 (by kernel_rfl) (by kernel_rfl) (by kernel_rfl) (by kernel_rfl);have abe:= @run_callFunc_extern Tryz.prog 330 _ (ReflectliteType.method ReflectliteType.elem) Tryz.func330 (by kernel_rfl) (by kernel_rfl) (by kernel_rfl) (by kernel_rfl)
 have abA:= @run_callFunc_extern Tryz.prog 331 _ (ReflectliteType.relation "Implements" ReflectliteType.implements_) Tryz.func331 (by kernel_rfl) (by kernel_rfl) (by kernel_rfl) (by kernel_rfl);have f6:=Ba.valueOfP;have f7:=Ba.typeP;have mK:=rt.methodKind;have mE:=rt.methodElem;have mI:=rt.methodImplements;have kP:=Ba.kindP;have kT:=Ba.kindT;have eP:=Ba.elemP;have iT:=Ba.implementsT;have kl:=World.block_lt_of_cell? _ _ ht;have hz:tb<w.heap.size:=kl;have hzE:=hE.size;have n8:=Ba.isNilP ⟨w.heap.size,0,none⟩ ⟨tb,0,none⟩ ((w.alloc (.cells #[.pointer (some ⟨tb,0,none⟩)] 74)).alloc (.cells #[.pointer (some ⟨11,74,none⟩),.pointer (some ⟨w.heap.size,0,none⟩),.int .u64 150] 109)) (by simp)
 have wZ:((w.alloc (.cells #[.pointer (some ⟨tb,0,none⟩)] 74)).alloc (.cells #[.pointer (some ⟨11,74,none⟩),.pointer (some ⟨w.heap.size,0,none⟩),.int .u64 150] 109)).cell? ⟨1,0,none⟩=some (.iface 149 (.agg #[.pointer (some ⟨11,59,none⟩)])):=by
  rw[World.cell?_alloc_lt _ _ ⟨1,0,none⟩ (by first |(simp;done)|(simp;omega)),World.cell?_alloc_lt _ _ ⟨1,0,none⟩ (by show 1<_;omega)];exact hE.et
 have ca:∀w1:World,Below w.heap.size w w1->w1.cell? ⟨w.heap.size,0,none⟩=some (.pointer (some ⟨tb,0,none⟩))->Calls Tryz.prog 104 #[.iface t0 x0,.iface 74 (.pointer (some ⟨tb,0,none⟩)),.agg #[.pointer (some ⟨11,74,none⟩),.pointer (some ⟨w.heap.size,0,none⟩),.int .u64 150],.iface 149 (.agg #[.pointer (some ⟨11,72,none⟩)])] w1
  fun e w'=>e=.returned (.bool true)/\Below tb w1 w':=fun w1 hb hc=>zh w.heap.size tb jo n _ w1 (hB.below hb) hc (by rw[hb.cell kl];exact ht) (by rw[hb.frozen kl];exact hf)
 have Ca:=Ih ca;clear ca;go_enter Tryz.func65,Tryz.ntmps65
 go_wp2_with fail
 refine(Ca.out _ (((Below.refl _ w).alloc (Nat.le_refl _) _).alloc (by simp) _) (by simp)).mono ?_;rintro e w1 ⟨rfl,aC⟩
 go_wp2
 go_ret;exact⟨rfl,(((Below.refl tb w).alloc (Nat.le_of_lt hz) _).alloc (by simp;omega) _).trans aC⟩
end Go.Proofs.YtlcbhacofagedaaGreatDoor
