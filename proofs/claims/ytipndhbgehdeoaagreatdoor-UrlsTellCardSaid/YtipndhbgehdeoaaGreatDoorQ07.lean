/-
  Small laws that the walks of hosts and urls lean on, with no word of package sources.
-/
import Derived.Test.YtipndhbgehdeoaaGreatDoorQ03
import Derived.Test.YtipndhbgehdeoaaGreatDoorQ04
import Derived.Deep.DeepCutAuto
import Derived.Stop.Asserts
import Derived.RowKitTokens
namespace Go.Proofs.YtipndhbgehdeoaaGreatDoor
open Go.RowKit
theorem isEmpty_of_size {s:ByteArray} (h:s.size=0):s.toList.isEmpty=true:=by
 rw[Lib.toList_data,List.isEmpty_iff,<-List.length_eq_zero_iff,len_of_size,h]
theorem isEmpty_of_pos {s:ByteArray} (h:0<s.size):s.toList.isEmpty=false:=by
 rw[Lib.toList_data];cases hl:s.data.toList with
 | nil=>rw[<-len_of_size,hl]at h;simp at h
 | cons _ _=>rfl
theorem get_of_lt {s:ByteArray} {n:Nat} (h:n<s.size):s.data.toList[n]? =some s[n]:=by
 rw[List.getElem?_eq_getElem (by rw[len_of_size];exact h)];rfl
theorem gPow:Tryz.prog.globalNamed "internal/strconv.uint64pow10"=some 1:=by kernel_rfl
theorem below_drewN {B:Nat} {a w:World} (h:Below B a w) (n:Nat):Below B a (w.drewN n):=⟨h.os,h.tape,h.output,h.size,h.block⟩
theorem below_call {w0 w w':World} (h:Below w0.heap.size w0 w) (hb:Below w.heap.size w w'):Below w0.heap.size w0 w':=h.trans (hb.mono h.size)
def RStr (l:List UInt8) (w:World) (e:Ending) (w':World):Prop:=∃u:ByteArray,e=.returned (.string u)/\Hid (u.data.toList=l)/\Below w.heap.size w w'
def RStrStrB (l m:List UInt8) (b:Bool) (w:World) (e:Ending) (w':World):Prop:=∃u v:ByteArray,e=.returned (.tuple #[.string u,.string v,.bool b])/\Hid (u.data.toList=l)/\Hid (v.data.toList=m)/\Below w.heap.size w w'
def RBool (b:Bool) (w:World) (e:Ending) (w':World):Prop:=e=.returned (.bool b)/\Below w.heap.size w w'
def RInt (n:Int) (w:World) (e:Ending) (w':World):Prop:=e=.returned (.int .i64 n)/\Below w.heap.size w w'
theorem Lower_c (s:ByteArray) (hs:s.size<=1073741824) (w:World):Calls Tryz.prog 85 #[.string s] w (RStr (Lz.low s.data.toList) w):=
 (Lower_any s hs w).mono fun _ _ ⟨he,hb⟩=>⟨_,he,rfl,hb⟩
theorem IndexByte_c (s:ByteArray) (c:UInt8) (w:World):Calls Tryz.prog 62 #[.string s,.int .u8 c.toNat] w fun e w'=>e=.returned (.int .i64 (Lib.indexByte s.data.toList c))/\w=w':=by
 have h:=Tryz.strings_IndexByte s c.toNat w;have e:((c.toNat:Int)).toNat.toUInt8=c:=by simp
 rw[e]at h;exact h.mono fun _ _ ⟨he,hw⟩=>⟨he,hw.symm⟩
theorem grow_below (w:World) (os:Array Obj):Below w.heap.size w (Sort.grow w os):=by
 refine⟨rfl,rfl,rfl,?_,?_⟩
 ·show _<=(w.heap++os).size
  simp
 ·intro k hk;show(w.heap++os)[k]? =_;rw[Array.getElem?_append_left hk]
def RSplit (ls:List (List UInt8)) (w:World) (e:Ending) (w':World):Prop:=
 ∃xs:List ByteArray,e=.returned (.slice (some ⟨w.heap.size,0,none⟩) xs.length xs.length)/\Hid (xs.map (·.data.toList)=ls)/\Hid (w'=w.alloc (.cells (xs.map Value.string).toArray 9))
theorem piece_size {c:UInt8} {s:ByteArray} {xs:List ByteArray} (h:xs.map (·.data.toList)=Lz.splitC c s.data.toList) {x:ByteArray} (hx:x∈xs):x.size<=s.size:=by
 have:=Lz.splitC_piece c s.data.toList x.data.toList (by rw[<-h];exact List.mem_map_of_mem hx)
 rwa [len_of_size,len_of_size]at this
theorem low_length (l:List UInt8):(Lz.low l).length=l.length:=by simp[Lz.low]
end Go.Proofs.YtipndhbgehdeoaaGreatDoor
namespace Go.Proofs.YtipndhbgehdeoaaGreatDoor
open Go.RowKit Go.Extern.Stop Go.Stop Go.Extern
theorem rlm (z:Sem Value) (f:TypeId->Addr->Nat->Nat->Sem Value) (v:Value):
 ReflectliteValue.method z f #[v]=(do match <-ReflectliteValue.parts v with|none=>z|some (t,a,fl)=>f t a fl (fl%32)):=rfl
theorem rls (v x:Value):ReflectliteValue.set #[v,x]=(do
 let (some (dst,a,fl),some (src,b,_)):=(<-ReflectliteValue.parts v,<-ReflectliteValue.parts x)
  | unsupported (.noEntry "extern/(internal/reflectlite.Value).Set.zeroValue")
 if fl / ReflectliteValue.flagAddr%2==0 then unsupported (.noEntry "extern/(internal/reflectlite.Value).Set.unaddressable")
 let val <-loadVar src b
 if <-Rtype.directlyAssignable dst src then storeVar dst a val
 else if <-Rtype.implements dst src then
  if(<-Rtype.kind src)==20 then
   match val with
   | .nilIface=>unsupported (.noEntry "extern/reflectlite: a nil value of one interface type handed on as a value of another")
   | _=>storeVar dst a val
  else storeVar dst a (.iface src val)
 else panicString ("reflectlite.Set: value of type "++(<-Rtype.spelt src)++ " is not assignable to type "++(<-Rtype.spelt dst))
 pure (.tuple #[])):=rfl
theorem rt.methodKind (h:Value) (w:World):(Go.method 411 123 (.agg #[h]) "Kind").run Tryz.prog w=.ok (245,h) w:=by kernel_rfl
theorem rt.methodElem (h:Value) (w:World):(Go.method 411 123 (.agg #[h]) "Elem").run Tryz.prog w=.ok (255,.agg #[h]) w:=by kernel_rfl
theorem rt.methodImplements (h:Value) (w:World):(Go.method 411 123 (.agg #[h]) "Implements").run Tryz.prog w=.ok (256,.agg #[h]) w:=by kernel_rfl
theorem rt.methodAssignableTo (h:Value) (w:World):(Go.method 411 123 (.agg #[h]) "AssignableTo").run Tryz.prog w=.ok (253,.agg #[h]) w:=by kernel_rfl
end Go.Proofs.YtipndhbgehdeoaaGreatDoor
namespace Go.Proofs.YtipndhbgehdeoaaGreatDoor
open Go.RowKit
theorem extract_size_le' (s:ByteArray) (a b:Nat):(s.extract a b).size<=s.size:=by
 rw[<-len_of_size,Lib.extract_data,List.length_take,List.length_drop,len_of_size];omega
theorem extract_tail' (s:ByteArray) (k:Nat):(s.extract k s.size).data.toList=s.data.toList.drop k:=by
 rw[Lib.extract_data,List.take_of_length_le (by rw[List.length_drop,len_of_size];exact Nat.le_refl _)]
theorem beqI (a b:UInt8):((a.toNat:Int)==(b.toNat:Int))=(a==b):=by
 rw[Bool.eq_iff_iff,beq_iff_eq,beq_iff_eq];constructor
 ·intro h;exact UInt8.toNat_inj.1 (by omega)
 ·intro h;rw[h]
def SlB (w:World) (v:Value) (l:List UInt8):Prop:=
 ∃a c,v=.slice a l.length c/\l.length<=9223372036854775807/\∀(j:Nat) (b:UInt8),l[j]? =some b->∃B off,a=some ⟨B,off,none⟩/\B<w.heap.size/\w.cell? ⟨B,off+j,none⟩=some (.int .u8 b.toNat)
theorem append_data' (a b:ByteArray):(a++b).data.toList=a.data.toList++b.data.toList:=by simp
end Go.Proofs.YtipndhbgehdeoaaGreatDoor
