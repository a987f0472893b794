/-
  Plain laws on lists of bytes: which errors reading a URL answers.
-/
import Derived.Test.YtjhccadmmnjpeaaGreatDoorT10
set_option maxHeartbeats 8000000
set_option maxRecDepth 100000
namespace Go.Proofs.YtjhccadmmnjpeaaGreatDoor
open Go.RowKit
theorem Join_nn (g:Nat) (w:World) (h0:w.cell? ⟨g,0,none⟩=some .nilIface) (h1:w.cell? ⟨g,1,none⟩=some .nilIface):
  Calls Tryz.prog 187 #[.slice (some ⟨g,0,none⟩) 2 2] w fun e w'=>e=.returned .nilIface/\w=w':=by
 go_enter Tryz.func187,Tryz.ntmps187
 go_wp2
 refine wp_loop_rounds 3 ?_;rw[rounds_succ]
 go_wp2
 rw[rounds_succ]
 go_wp2
 rw[rounds_succ]
 go_wp2
 go_ret;exact⟨rfl,rfl⟩
def RJoin (v0:Value) (w:World) (e:Ending) (w':World):Prop:=
 ∃(p g len cap:Nat),e=.returned (.iface 247 (.pointer (some ⟨p,0,none⟩)))/\p<w'.heap.size/\g<w'.heap.size/\w'.cell? ⟨p,0,none⟩=some (.slice (some ⟨g,0,none⟩) len cap)/\1<=len/\len<=2/\
  w'.cell? ⟨g,0,none⟩=some v0/\Below w.heap.size w w'
theorem Join_ne (g:Nat) (t:TypeId) (v:Value) (w:World) (h0:w.cell? ⟨g,0,none⟩=some .nilIface) (h1:w.cell? ⟨g,1,none⟩=some (.iface t v)):
  Calls Tryz.prog 187 #[.slice (some ⟨g,0,none⟩) 2 2] w (RJoin (.iface t v) w):=by
 have hg:g<w.heap.size:=World.block_lt_of_cell? _ _ h0
 have f3:∀(k:Nat) (v:Value) (o1 o2 o3:Obj),w.cell? ⟨g,k,none⟩=some v->(((w.alloc o1).alloc o2).alloc o3).cell? ⟨g,k,none⟩=some v:=fun k v o1 o2 o3 h=>by
  rw[World.cell?_alloc_lt _ _ ⟨g,k,none⟩ (by simp;omega),World.cell?_alloc_lt _ _ ⟨g,k,none⟩ (by simp;omega),World.cell?_alloc_lt _ _ ⟨g,k,none⟩ hg];exact h
 have f30:=fun o1 o2 o3=>f3 0 _ o1 o2 o3 h0;have f31:=fun o1 o2 o3=>f3 1 _ o1 o2 o3 h1;clear f3;have hmk:∀w,(Instr.makeSlice 203 (.int .i64 0) (.int .i64 1)).run Tryz.prog w=.ok (.slice (some ⟨w.heap.size,0,none⟩) 0 1) (w.alloc (.cells #[.nilIface] 57)):=fun _=>by kernel_rfl
 go_enter Tryz.func187,Tryz.ntmps187
 go_wp2
 refine wp_loop_rounds 3 ?_;rw[rounds_succ]
 go_wp2
 rw[rounds_succ]
 go_wp2
 rw[rounds_succ]
 go_wp2
 refine wp_loop_rounds 3 ?_;rw[rounds_succ]
 go_wp2
 rw[rounds_succ]
 go_wp2
 rw[rounds_succ]
 go_wp2
 go_ret;refine⟨w.heap.size+1,w.heap.size,1,1,rfl,by simp;try omega,by simp;try omega,by go_simp,by decide,by decide,by go_simp,?_⟩
 repeat (first |exact Below.refl _ _|refine Below.alloc ?_ (by simp;try omega) _)
theorem Join_en (g:Nat) (t:TypeId) (v:Value) (w:World) (h0:w.cell? ⟨g,0,none⟩=some (.iface t v)) (h1:w.cell? ⟨g,1,none⟩=some .nilIface):
  Calls Tryz.prog 187 #[.slice (some ⟨g,0,none⟩) 2 2] w (RJoin (.iface t v) w):=by
 have hg:g<w.heap.size:=World.block_lt_of_cell? _ _ h0
 have f3:∀(k:Nat) (v:Value) (o1 o2 o3:Obj),w.cell? ⟨g,k,none⟩=some v->(((w.alloc o1).alloc o2).alloc o3).cell? ⟨g,k,none⟩=some v:=fun k v o1 o2 o3 h=>by
  rw[World.cell?_alloc_lt _ _ ⟨g,k,none⟩ (by simp;omega),World.cell?_alloc_lt _ _ ⟨g,k,none⟩ (by simp;omega),World.cell?_alloc_lt _ _ ⟨g,k,none⟩ hg];exact h
 have f30:=fun o1 o2 o3=>f3 0 _ o1 o2 o3 h0;have f31:=fun o1 o2 o3=>f3 1 _ o1 o2 o3 h1;clear f3;have hmk:∀w,(Instr.makeSlice 203 (.int .i64 0) (.int .i64 1)).run Tryz.prog w=.ok (.slice (some ⟨w.heap.size,0,none⟩) 0 1) (w.alloc (.cells #[.nilIface] 57)):=fun _=>by kernel_rfl
 go_enter Tryz.func187,Tryz.ntmps187
 go_wp2
 refine wp_loop_rounds 3 ?_;rw[rounds_succ]
 go_wp2
 rw[rounds_succ]
 go_wp2
 rw[rounds_succ]
 go_wp2
 refine wp_loop_rounds 3 ?_;rw[rounds_succ]
 go_wp2
 rw[rounds_succ]
 go_wp2
 rw[rounds_succ]
 go_wp2
 go_ret;refine⟨w.heap.size+1,w.heap.size,1,1,rfl,by simp;try omega,by simp;try omega,by go_simp,by decide,by decide,by go_simp,?_⟩
 repeat (first |exact Below.refl _ _|refine Below.alloc ?_ (by simp;try omega) _)
theorem Join_ee (g:Nat) (t:TypeId) (v:Value) (t2:TypeId) (v2:Value) (w:World) (h0:w.cell? ⟨g,0,none⟩=some (.iface t v)) (h1:w.cell? ⟨g,1,none⟩=some (.iface t2 v2)):
  Calls Tryz.prog 187 #[.slice (some ⟨g,0,none⟩) 2 2] w (RJoin (.iface t v) w):=by
 have hg:g<w.heap.size:=World.block_lt_of_cell? _ _ h0
 have f3:∀(k:Nat) (v:Value) (o1 o2 o3:Obj),w.cell? ⟨g,k,none⟩=some v->(((w.alloc o1).alloc o2).alloc o3).cell? ⟨g,k,none⟩=some v:=fun k v o1 o2 o3 h=>by
  rw[World.cell?_alloc_lt _ _ ⟨g,k,none⟩ (by simp;omega),World.cell?_alloc_lt _ _ ⟨g,k,none⟩ (by simp;omega),World.cell?_alloc_lt _ _ ⟨g,k,none⟩ hg];exact h
 have f30:=fun o1 o2 o3=>f3 0 _ o1 o2 o3 h0;have f31:=fun o1 o2 o3=>f3 1 _ o1 o2 o3 h1;clear f3;have hmk:∀w,(Instr.makeSlice 203 (.int .i64 0) (.int .i64 2)).run Tryz.prog w=.ok (.slice (some ⟨w.heap.size,0,none⟩) 0 2) (w.alloc (.cells #[.nilIface,.nilIface] 57)):=fun _=>by kernel_rfl
 go_enter Tryz.func187,Tryz.ntmps187
 go_wp2
 refine wp_loop_rounds 3 ?_;rw[rounds_succ]
 go_wp2
 rw[rounds_succ]
 go_wp2
 rw[rounds_succ]
 go_wp2
 refine wp_loop_rounds 3 ?_;rw[rounds_succ]
 go_wp2
 rw[rounds_succ]
 go_wp2
 rw[rounds_succ]
 go_wp2
 go_ret;refine⟨w.heap.size+1,w.heap.size,2,2,rfl,by simp;try omega,by simp;try omega,by go_simp,by decide,by decide,by go_simp,?_⟩
 repeat (first |exact Below.refl _ _|refine Below.alloc ?_ (by simp;try omega) _)
end Go.Proofs.YtjhccadmmnjpeaaGreatDoor
namespace Lz
open Go
theorem q_sha (h rest:Bs) (b:Int) (hb:b=256\/b=384\/b=512) (hl:low h=sSha b) (hz:h.length=7):quotedS (h++rest)=if baseB rest then some (hashS rest b)else none:=by
 have hlow:low (h++rest)=sSha b++low rest:=by rw[low_append,hl]
 have hd:(h++rest).drop 7=rest:=by rw[<-hz];simp
 have hn:Lib.hasPrefix (sSha b++low rest) sNonce=false:=by rw[sSha_form];rfl
 have hlen:∀c:Int,c=256\/c=384\/c=512->(sSha c).length=7:=by
  rintro c (rfl|rfl|rfl)
  ·rw[sha256];rfl
  ·rw[sha384];rfl
  ·rw[sha512];rfl
 have hsh:∀c:Int,c=256\/c=384\/c=512->shaS (h++rest) c=if c=b then(if baseB rest then some (hashS rest b)else none)else none:=by
  intro c hc;unfold shaS;rw[hlow,hlen c hc,hd];by_cases e:c=b
  ·subst e;rw[if_pos rfl,hasPrefix_self,Bool.true_and]
  ·rw[if_neg e]
   have:Lib.hasPrefix (sSha b++low rest) (sSha c)=false:=by
    rcases hb with rfl|rfl|rfl<;>rcases hc with rfl|rfl|rfl
    all_goals first |(exact absurd rfl e)|(simp only[sha256,sha384,sha512];rfl)
   rw[this];rfl
 unfold quotedS;rw[hlow,not_key_sha,hn];simp only[Bool.false_eq_true,if_false,Bool.false_and];rw[hsh 256 (by simp),hsh 384 (by simp),hsh 512 (by simp)];rcases hb with rfl|rfl|rfl<;>(cases baseB rest<;>simp)
theorem letter_ne61 {c:UInt8}:isLetter c=true->c≠61:=by
 revert c;exact fun{c}=>byte_all (p:=fun c=>isLetter c=true->c≠61) (by decide +kernel) c
def betterP (s:Bs):List Bs:=if s=httpS then[httpsS]else if s=wsS then[wssS,httpS,httpsS]else if s=wssS then[httpsS]else[]
def schemeM (p u:Bs):Bool:=p==u||(betterP p).contains u
def webP (s:Bs):Bool:=s==httpS||s==httpsS
def loopS:Bs:=[49,50,55,46,48,46,48,46,49]
def selfS:Bs:=[115,101,108,102]
def noneS:Bs:=[39,110,111,110,101,39]
def nullS:Bs:=[110,117,108,108]
def hostM (x:Src) (name:Bs):Bool:=
 if x.wild then x.host==[]||Lib.hasSuffix name (46::x.host)
 else if x.host != loopS&&ipP x.host then false else x.host==name
def effP (u:UrlL):Int:=if 0<=u.port then u.port else defP u.scheme
def portM (x:Src) (u:UrlL):Bool:=if x.port= -2 then true else if x.port= -1 then decide (u.port<0)||u.port==defP u.scheme else x.port==effP u
def pathM (p u:Bs):Bool:=
 if p=[]\/(p=[47]/\u=[])then true
 else if Lib.hasSuffix p [47]=true/\(splitC 47 p).length<=(splitC 47 u).length then(splitC 47 p).dropLast.map decodeP==((splitC 47 u).take ((splitC 47 p).length-1)).map decodeP
 else(splitC 47 p).map decodeP==(splitC 47 u).map decodeP
def pathTM (u:UrlL):Bs:=if u.opq then u.path.flatten else u.path.flatMap fun p=>47::p
def hostedM (u:UrlL) (x:Src) (own:UrlL) (red:Bool):Bool:=
 u.hasHost&&(u.host != []&&(schemeM (if x.scheme=[]then own.scheme else x.scheme) u.scheme&&(hostM x u.host&&(portM x u&&(red||pathM x.path (pathTM u))))))
def alikeM (u own:UrlL):Bool:=u.port==own.port||(effP u==defP u.scheme&&effP own==defP own.scheme)
def saferM (u own:UrlL):Bool:=u.scheme==httpsS||(u.scheme==wssS||(own.scheme==httpS&&u.scheme==wsS))
def selfM (u own:UrlL):Bool:=
 (originU own != nullS&&originU own==originU u)||(u.hasHost&&(own.hasHost&&(u.host==own.host&&(alikeM u own&&saferM u own))))
def everyS:Src:=⟨3,[],0,[],[],true,-1,[]⟩
def oneM (u:UrlL) (x:Src) (own:UrlL) (red:Bool):Bool:=
 if x.kind=1 then x.text==selfS&&selfM u own
 else if x.kind=2 then schemeM x.scheme u.scheme
 else if x.kind=3 then(if x=everyS then webP u.scheme||u.scheme==own.scheme else hostedM u x own red)
 else false
def noneM (l:List Bs):Bool:=l.isEmpty||(l.length==1&&low (l.headD [])==noneS)
def listS (l:List Bs):List Src:=l.filterMap parseS
def anyM (u:UrlL) (l:List Bs) (own:UrlL) (red:Bool):Bool:= !noneM l&&(listS l).any fun x=>oneM u x own red
end Lz
namespace Go.Proofs
open Go.Shelf
def Tryz.lays100_ren:Go.Shelf.Ren:=⟨fun|100=>218|207=>228|n=>n,fun|9=>9|4=>4|3=>3|n=>n,fun|n=>n⟩
theorem Tryz.lays100:Go.Proofs.Lays.n100 Tryz.prog Tryz.lays100_ren:=by repeat' first |kernel_rfl|(intro w;rfl)|(intro w;kernel_rfl)|decide|constructor
open Go.RowKit Go.Lib in
theorem Tryz.strings_HasSuffix (s p:ByteArray) (w:World) (hs:s.size<=9223372036854775807):
 Calls Tryz.prog 218 #[.string s,.string p] w fun e w'=>e=.returned (.bool (Lib.hasSuffix s.data.toList p.data.toList))/\w'=w:=Any.strings_HasSuffix Tryz.lays100 s p w hs
open Go.Lib in
theorem Tryz.slices_Contains_string_empty (a:Option Addr) (c:Nat) (x:ByteArray) (w:World):
 Calls Tryz.prog 176 #[.slice a 0 c,.string x] w fun e w'=>e=.returned (.bool false)/\w'=w:=Any.slices_Contains_string_empty Tryz.lays110 a c x w
end Go.Proofs
namespace Lz
open Go
def ror32 (x n:UInt32):UInt32:=(x<<<(32-n))||| (x>>>n)
def byte32 (b:Bs) (i:Nat):UInt32:=(b.getD i 0).toUInt32
def be32 (b:Bs) (i:Nat):UInt32:=(((byte32 b (4*i)<<<24)||| (byte32 b (4*i+1)<<<16))||| (byte32 b (4*i+2)<<<8))||| byte32 b (4*i+3)
def sig0 (x:UInt32):UInt32:=(ror32 x 7 ^^^ ror32 x 18) ^^^ (x>>>3)
def sig1 (y:UInt32):UInt32:=(ror32 y 17 ^^^ ror32 y 19) ^^^ (y>>>10)
def spreadN (b:Bs):Nat->List UInt32
 | 0=>[]
 | i+1=>spreadN b i++[if i<16 then be32 b i else((((spreadN b i).getD (i-16) 0+(spreadN b i).getD (i-7) 0)+sig0 ((spreadN b i).getD (i-15) 0))+sig1 ((spreadN b i).getD (i-2) 0))]
theorem spreadN_len (b:Bs):∀i,(spreadN b i).length=i
 | 0=>rfl
 | i+1=>by rw[spreadN,List.length_append,spreadN_len b i];rfl
structure St8 (α:Type) where
 a:α
 b:α
 c:α
 d:α
 e:α
 f:α
 g:α
 z:α
def St8.list {α:Type} (s:St8 α):List α:=[s.a,s.b,s.c,s.d,s.e,s.f,s.g,s.z]
def tee32 (s:St8 UInt32) (k w:UInt32):UInt32:=(((s.z+((ror32 s.e 6 ^^^ ror32 s.e 11) ^^^ ror32 s.e 25))+((s.e&&& s.f) ^^^ ((~~~s.e)&&& s.g)))+k)+w
def you32 (s:St8 UInt32):UInt32:=((ror32 s.a 2 ^^^ ror32 s.a 13) ^^^ ror32 s.a 22)+(((s.a&&& s.b) ^^^ (s.a&&& s.c)) ^^^ (s.b&&& s.c))
def rnd32 (s:St8 UInt32) (k w:UInt32):St8 UInt32:=⟨tee32 s k w+you32 s,s.a,s.b,s.c,s.d+tee32 s k w,s.e,s.f,s.g⟩
def rounds32 (tab:List UInt32) (b:Bs) (h:St8 UInt32):Nat->St8 UInt32
 | 0=>h
 | i+1=>rnd32 (rounds32 tab b h i) (tab.getD i 0) ((spreadN b 64).getD i 0)
def add8 {α:Type} [Add α] (x y:St8 α):St8 α:=⟨x.a+y.a,x.b+y.b,x.c+y.c,x.d+y.d,x.e+y.e,x.f+y.f,x.g+y.g,x.z+y.z⟩
def take32 (tab:List UInt32) (h:St8 UInt32) (b:Bs):St8 UInt32:=add8 h (rounds32 tab b h 64)
def blocks {α:Type} (f:α->Bs->α) (size:Nat):Nat->α->Bs->α
 | 0,h,_=>h
 | n+1,h,l=>blocks f size n (f h (l.take size)) (l.drop size)
def lenB (n:Nat):Bs:=(List.range 8).map fun i=>UInt8.ofNat (n*8 / 2^(56-8*i))
def padB (n:Nat):Bs:=(128::List.replicate (63-(n+8)%64) 0)++lenB n
def bytes32 (x:UInt32):Bs:=[(x>>>24).toUInt8,(x>>>16).toUInt8,(x>>>8).toUInt8,x.toUInt8]
def out32 (h:St8 UInt32):Bs:=h.list.flatMap bytes32
def sum32 (tab:List UInt32) (h0:St8 UInt32) (s:Bs):Bs:=
 out32 (blocks (take32 tab) 64 ((s.drop (s.length / 64*64)++padB s.length).length / 64) (blocks (take32 tab) 64 (s.length / 64) h0 s) (s.drop (s.length / 64*64)++padB s.length))
theorem out32_len (h:St8 UInt32):(out32 h).length=32:=rfl
theorem padB_len (n:Nat):(padB n).length=72-(n+8)%64:=by
 unfold padB lenB
 simp
 omega
def ror64 (x n:UInt64):UInt64:=(x<<<(64-n))||| (x>>>n)
def three64 (x a b c:UInt64) (turned:Bool):UInt64:=(ror64 x a ^^^ ror64 x b) ^^^ (if turned then ror64 x c else x>>>c)
def word64 (b:Bs) (i:Nat):Nat->UInt64
 | 0=>0
 | k+1=>(word64 b i k<<<8)||| (b.getD (8*i+k) 0).toUInt64
def tee64 (s:St8 UInt64) (k w:UInt64):UInt64:=(((s.z+three64 s.e 14 18 41 true)+((s.e&&& s.f)||| (s.g&&& ~~~s.e)))+k)+w
def you64 (s:St8 UInt64):UInt64:=three64 s.a 28 34 39 true+((s.a&&& s.b)||| (s.c&&& (s.a||| s.b)))
def rnd64 (s:St8 UInt64) (k w:UInt64):St8 UInt64:=⟨tee64 s k w+you64 s,s.a,s.b,s.c,s.d+tee64 s k w,s.e,s.f,s.g⟩
def ring64 (b:Bs):Nat->List UInt64
 | 0=>List.replicate 16 0
 | i+1=>(ring64 b i).set (i%16) (if i<16 then word64 b i 8 else(ring64 b i).getD (i%16) 0+((three64 ((ring64 b i).getD ((i+1)%16) 0) 1 8 7 false+(ring64 b i).getD ((i+9)%16) 0)+three64 ((ring64 b i).getD ((i+14)%16) 0) 19 61 6 false))
theorem ring64_len (b:Bs):∀i,(ring64 b i).length=16
 | 0=>rfl
 | i+1=>by rw[ring64,List.length_set,ring64_len b i]
def rounds64 (tab:List UInt64) (b:Bs) (h:St8 UInt64):Nat->St8 UInt64
 | 0=>h
 | i+1=>rnd64 (rounds64 tab b h i) (tab.getD i 0) ((ring64 b (i+1)).getD (i%16) 0)
def with64 (tab:List UInt64) (h:St8 UInt64) (b:Bs):St8 UInt64:=add8 h (rounds64 tab b h 80)
def pad64 (n:Nat):Bs:=128::List.replicate ((240-(n+1)%128)%128+8) 0++lenB n
def bytes64 (x:UInt64):Bs:=(List.range 8).map fun i=>(x>>>(UInt64.ofNat (56-8*i))).toUInt8
def out64 (h:St8 UInt64):Bs:=h.list.flatMap bytes64
def sum64 (tab:List UInt64) (h0:St8 UInt64) (s:Bs):Bs:=out64 (blocks (with64 tab) 128 ((s++pad64 s.length).length / 128) h0 (s++pad64 s.length))
theorem out64_len (h:St8 UInt64):(out64 h).length=64:=rfl
end Lz
namespace Go.Proofs.YtjhccadmmnjpeaaGreatDoor
open Go.RowKit
theorem ofInt32 (a:UInt32):BitVec.ofInt 32 (a.toNat:Int)=a.toBitVec:=by
 apply BitVec.eq_of_toNat_eq
 rw[BitVec.ofInt_natCast,BitVec.toNat_ofNat];exact Nat.mod_eq_of_lt a.toNat_lt
theorem ofInt64 (a:UInt64):BitVec.ofInt 64 (a.toNat:Int)=a.toBitVec:=by
 apply BitVec.eq_of_toNat_eq
 rw[BitVec.ofInt_natCast,BitVec.toNat_ofNat];exact Nat.mod_eq_of_lt a.toNat_lt
theorem w32 (a:UInt32):IntKind.u32.wrap (a.toNat:Int)=(a.toNat:Int):=IntWalk.u32_in _ (by have:=a.toNat_lt;omega)
theorem w64 (a:UInt64):IntKind.u64.wrap (a.toNat:Int)=(a.toNat:Int):=IntWalk.u64_in _ (by have:=a.toNat_lt;omega)
theorem xor32 (a b:UInt32):bits .xor .u32 (a.toNat:Int) (b.toNat:Int)=((a ^^^ b).toNat:Int):=by
 show IntKind.u32.wrap _=_;rw[<-w32 (a ^^^ b)];congr 2;show(BitVec.ofInt 32 _ ^^^ BitVec.ofInt 32 _).toNat=_;rw[ofInt32,ofInt32];rfl
theorem and32 (a b:UInt32):bits .and .u32 (a.toNat:Int) (b.toNat:Int)=((a&&& b).toNat:Int):=by
 show IntKind.u32.wrap _=_;rw[<-w32 (a&&& b)];congr 2;show(BitVec.ofInt 32 _&&& BitVec.ofInt 32 _).toNat=_;rw[ofInt32,ofInt32];rfl
theorem or32 (a b:UInt32):bits .or .u32 (a.toNat:Int) (b.toNat:Int)=((a||| b).toNat:Int):=by
 show IntKind.u32.wrap _=_;rw[<-w32 (a||| b)];congr 2;show(BitVec.ofInt 32 _||| BitVec.ofInt 32 _).toNat=_;rw[ofInt32,ofInt32];rfl
theorem not32 (a:UInt32):bits .xor .u32 4294967295 (a.toNat:Int)=((~~~a).toNat:Int):=by
 have h:=xor32 (0xFFFFFFFF:UInt32) a;have e:((0xFFFFFFFF:UInt32).toNat:Int)=4294967295:=rfl;rw[e]at h;rw[h]
 have:(0xFFFFFFFF:UInt32) ^^^ a= ~~~a:=by
  apply UInt32.toBitVec_inj.1
  show BitVec.allOnes 32 ^^^ a.toBitVec= ~~~a.toBitVec;rw[BitVec.allOnes_xor]
 rw[this]
theorem add32 (a b:UInt32):IntKind.u32.wrap ((a.toNat:Int)+(b.toNat:Int))=((a+b).toNat:Int):=by
 rw[IntKind.wrap_u32,UInt32.toNat_add];omega
theorem xor64 (a b:UInt64):bits .xor .u64 (a.toNat:Int) (b.toNat:Int)=((a ^^^ b).toNat:Int):=by
 show IntKind.u64.wrap _=_;rw[<-w64 (a ^^^ b)];congr 2;show(BitVec.ofInt 64 _ ^^^ BitVec.ofInt 64 _).toNat=_;rw[ofInt64,ofInt64];rfl
theorem and64 (a b:UInt64):bits .and .u64 (a.toNat:Int) (b.toNat:Int)=((a&&& b).toNat:Int):=by
 show IntKind.u64.wrap _=_;rw[<-w64 (a&&& b)];congr 2;show(BitVec.ofInt 64 _&&& BitVec.ofInt 64 _).toNat=_;rw[ofInt64,ofInt64];rfl
theorem or64 (a b:UInt64):bits .or .u64 (a.toNat:Int) (b.toNat:Int)=((a||| b).toNat:Int):=by
 show IntKind.u64.wrap _=_;rw[<-w64 (a||| b)];congr 2;show(BitVec.ofInt 64 _||| BitVec.ofInt 64 _).toNat=_;rw[ofInt64,ofInt64];rfl
theorem nand64 (a b:UInt64):bits .andNot .u64 (a.toNat:Int) (b.toNat:Int)=((a&&& ~~~b).toNat:Int):=by
 show IntKind.u64.wrap _=_;rw[<-w64 (a&&& ~~~b)];congr 2;show(BitVec.ofInt 64 _&&& ~~~ BitVec.ofInt 64 _).toNat=_;rw[ofInt64,ofInt64];rfl
theorem add64 (a b:UInt64):IntKind.u64.wrap ((a.toNat:Int)+(b.toNat:Int))=((a+b).toNat:Int):=by
 rw[IntKind.wrap_u64,UInt64.toNat_add];omega
theorem shr32 (a:UInt32) (n:Nat) (h:n<32):(a.toNat:Int) / 2^n=((a>>>UInt32.ofNat n).toNat:Int):=by
 rw[UInt32.toNat_shiftRight,UInt32.toNat_ofNat',Nat.mod_eq_of_lt (show n<2^32 by omega),Nat.mod_eq_of_lt h,Nat.shiftRight_eq_div_pow]
 simp
theorem shl32 (a:UInt32) (n:Nat) (h:n<32):IntKind.u32.wrap ((a.toNat:Int)*2^n)=((a<<<UInt32.ofNat n).toNat:Int):=by
 rw[IntKind.wrap_u32,UInt32.toNat_shiftLeft,UInt32.toNat_ofNat',Nat.mod_eq_of_lt (show n<2^32 by omega),Nat.mod_eq_of_lt h,Nat.shiftLeft_eq]
 simp
theorem shr64 (a:UInt64) (n:Nat) (h:n<64):(a.toNat:Int) / 2^n=((a>>>UInt64.ofNat n).toNat:Int):=by
 rw[UInt64.toNat_shiftRight,UInt64.toNat_ofNat',Nat.mod_eq_of_lt (show n<2^64 by omega),Nat.mod_eq_of_lt h,Nat.shiftRight_eq_div_pow]
 simp
theorem shl64 (a:UInt64) (n:Nat) (h:n<64):IntKind.u64.wrap ((a.toNat:Int)*2^n)=((a<<<UInt64.ofNat n).toNat:Int):=by
 rw[IntKind.wrap_u64,UInt64.toNat_shiftLeft,UInt64.toNat_ofNat',Nat.mod_eq_of_lt (show n<2^64 by omega),Nat.mod_eq_of_lt h,Nat.shiftLeft_eq]
 simp
def N32 (a:UInt32):Int:=(a.toNat:Int)
def N64 (a:UInt64):Int:=(a.toNat:Int)
theorem nx32 (a b:UInt32):bits .xor .u32 (N32 a) (N32 b)=N32 (a ^^^ b):=xor32 a b
theorem na32 (a b:UInt32):bits .and .u32 (N32 a) (N32 b)=N32 (a&&& b):=and32 a b
theorem no32 (a b:UInt32):bits .or .u32 (N32 a) (N32 b)=N32 (a||| b):=or32 a b
theorem nn32 (a:UInt32):bits .xor .u32 4294967295 (N32 a)=N32 (~~~a):=not32 a
theorem np32 (a b:UInt32):IntKind.u32.wrap (N32 a+N32 b)=N32 (a+b):=add32 a b
theorem nr32 (a:UInt32) (n:Nat) (h:n<32):N32 a / 2^n=N32 (a>>>UInt32.ofNat n):=shr32 a n h
theorem nl32 (a:UInt32) (n:Nat) (h:n<32):IntKind.u32.wrap (N32 a*2^n)=N32 (a<<<UInt32.ofNat n):=shl32 a n h
theorem nx64 (a b:UInt64):bits .xor .u64 (N64 a) (N64 b)=N64 (a ^^^ b):=xor64 a b
theorem na64 (a b:UInt64):bits .and .u64 (N64 a) (N64 b)=N64 (a&&& b):=and64 a b
theorem no64 (a b:UInt64):bits .or .u64 (N64 a) (N64 b)=N64 (a||| b):=or64 a b
theorem nd64 (a b:UInt64):bits .andNot .u64 (N64 a) (N64 b)=N64 (a&&& ~~~b):=nand64 a b
theorem np64 (a b:UInt64):IntKind.u64.wrap (N64 a+N64 b)=N64 (a+b):=add64 a b
theorem nr64 (a:UInt64) (n:Nat) (h:n<64):N64 a / 2^n=N64 (a>>>UInt64.ofNat n):=shr64 a n h
theorem nl64 (a:UInt64) (n:Nat) (h:n<64):IntKind.u64.wrap (N64 a*2^n)=N64 (a<<<UInt64.ofNat n):=shl64 a n h
theorem nw64 (a:UInt64):IntKind.u64.wrap (N64 a)=N64 a:=w64 a
theorem rot_k32:∀n:Fin 32,0<n.val->IntKind.u64.wrap (-(n.val:Int))=18446744073709551616-(n.val:Int)/\bits .and .u64 (18446744073709551616-(n.val:Int)) 31=((32-n.val:Nat):Int)/\(32:UInt32)-UInt32.ofNat n.val=UInt32.ofNat (32-n.val):=by decide +kernel
theorem rot_k64:∀n:Fin 64,0<n.val->IntKind.u64.wrap (-(n.val:Int))=18446744073709551616-(n.val:Int)/\bits .and .u64 (18446744073709551616-(n.val:Int)) 63=((64-n.val:Nat):Int)/\(64:UInt64)-UInt64.ofNat n.val=UInt64.ofNat (64-n.val):=by decide +kernel
theorem RotL32_any (x:UInt32) (n:Nat) (h0:0<n) (hn:n<32) (w:World):Calls Tryz.prog 144 #[.int .u32 (N32 x),.int .i64 (-(n:Int))] w fun e w'=>e=.returned (.int .u32 (N32 (Lz.ror32 x (UInt32.ofNat n))))/\w=w':=by
 obtain⟨k1,k2,k3⟩:=rot_k32 ⟨n,hn⟩ h0;simp only at k1 k2 k3;obtain⟨m,hm⟩:∃m,m=32-n:=⟨_,rfl⟩;rw[<-hm]at k2 k3;obtain⟨c,hc⟩:∃c:Int,c=18446744073709551616-(n:Int):=⟨_,rfl⟩;rw[<-hc]at k1 k2;have hm0:(0:Int)<=(m:Int):=by omega
 have hm1:(m:Int)<=32:=by omega
 have hs:IntKind.u64.wrap ((32:Int)-(m:Int))=(n:Int):=by rw[show(32:Int)-(m:Int)=(n:Int) by omega];exact IntWalk.u64_in _ (by omega)
 have hn0:(0:Int)<=(n:Int):=by omega
 have hn1:(n:Int)<=32:=by omega
 have e1:=nl32 x m (by omega);have e2:=nr32 x n hn;have e3:=no32 (x<<<UInt32.ofNat m) (x>>>UInt32.ofNat n)
 have HV:Hid (Lz.ror32 x (UInt32.ofNat n)=(x<<<UInt32.ofNat m)||| (x>>>UInt32.ofNat n)):=by
  show _=_;unfold Lz.ror32;rw[k3]
 clear hc k3 hm;go_enter Tryz.func144,Tryz.ntmps144
 go_wp2_with fail
 go_ret;exact⟨by rw[HV.out];rfl,rfl⟩
theorem RotL64_any (x:UInt64) (n:Nat) (h0:0<n) (hn:n<64) (w:World):Calls Tryz.prog 200 #[.int .u64 (N64 x),.int .i64 (-(n:Int))] w fun e w'=>e=.returned (.int .u64 (N64 (Lz.ror64 x (UInt64.ofNat n))))/\w=w':=by
 obtain⟨k1,k2,k3⟩:=rot_k64 ⟨n,hn⟩ h0;simp only at k1 k2 k3;obtain⟨m,hm⟩:∃m,m=64-n:=⟨_,rfl⟩;rw[<-hm]at k2 k3;obtain⟨c,hc⟩:∃c:Int,c=18446744073709551616-(n:Int):=⟨_,rfl⟩;rw[<-hc]at k1 k2;have hm0:(0:Int)<=(m:Int):=by omega
 have hm1:(m:Int)<=64:=by omega
 have hs:IntKind.u64.wrap ((64:Int)-(m:Int))=(n:Int):=by rw[show(64:Int)-(m:Int)=(n:Int) by omega];exact IntWalk.u64_in _ (by omega)
 have hn0:(0:Int)<=(n:Int):=by omega
 have hn1:(n:Int)<=64:=by omega
 have e1:=nl64 x m (by omega);have e2:=nr64 x n hn;have e3:=no64 (x<<<UInt64.ofNat m) (x>>>UInt64.ofNat n)
 have HV:Hid (Lz.ror64 x (UInt64.ofNat n)=(x<<<UInt64.ofNat m)||| (x>>>UInt64.ofNat n)):=by
  show _=_;unfold Lz.ror64;rw[k3]
 clear hc k3 hm;go_enter Tryz.func200,Tryz.ntmps200
 go_wp2_with fail
 go_ret;exact⟨by rw[HV.out];rfl,rfl⟩
theorem turn_any (x:UInt32) (n:Nat) (h0:0<n) (hn:n<32) (w:World):Calls Tryz.prog 94 #[.int .u32 (N32 x),.int .i64 (n:Int)] w fun e w'=>e=.returned (.int .u32 (N32 (Lz.ror32 x (UInt32.ofNat n))))/\w=w':=by
 have cR:=Ih (RotL32_any x n h0 hn w);have hw:IntKind.i64.wrap (-(n:Int))= -(n:Int):=IntWalk.i64_in _ (by omega);go_enter Tryz.func94,Tryz.ntmps94
 go_wp2_with fail
 refine cR.out.mono ?_;rintro e w1 ⟨rfl,rfl⟩
 go_wp2_with fail
 go_ret;exact⟨rfl,rfl⟩
def rowW (l:List UInt32):List Value:=l.map fun x=>.int .u32 (N32 x)
theorem heap_setCell_other (w:World) (b k:Nat) (v:Value) (R:Nat) (h:R≠b):(w.setCell ⟨b,k,none⟩ v).heap[R]? =w.heap[R]? :=by
 unfold World.setCell;simp only[Array.getElem?_modify];rw[if_neg (fun e=>h e.symm)]
theorem rowW_len (l:List UInt32):(rowW l).length=l.length:=by unfold rowW;rw[List.length_map]
def zero64:List UInt32:=List.replicate 64 0
theorem rowW_one (l:List UInt32):(rowW l).toArray.all (·.oneCell')=true:=by
 rw[List.all_toArray,List.all_eq_true];intro v hv;unfold rowW at hv;obtain⟨x,_,rfl⟩:=List.mem_map.1 hv;rfl
def ZerW (R:Nat) (w:World):Prop:=w.heap[R]? =some (.cells (rowW zero64).toArray 137 (0,0))
theorem zerW_start (w:World) (o:Obj):ZerW w.heap.size ((w.alloc (.cells (rowW zero64).toArray 137)).alloc o):=by
 unfold ZerW;rw[Below.heap_alloc _ _ _ (by simp)];exact heap_new _ _
theorem ZerW.set {R b k:Nat} {v:Value} {w:World} (h:ZerW R w) (hb:R≠b):ZerW R (w.setCell ⟨b,k,none⟩ v):=by
 unfold ZerW at h⊢;rw[<-h];exact heap_setCell_other w b k v R hb
def SprW (b:List UInt8) (R i:Nat) (w:World):Prop:=w.heap[R]? =some (.cells (rowW (Lz.spreadN b i++List.replicate (64-i) 0)).toArray 137 (0,0))
theorem SprW.drew {b:List UInt8} {R i:Nat} {w:World} (h:SprW b R i w):SprW b R i w.drew:=h
theorem SprW.cell {b:List UInt8} {R i:Nat} {w:World} (h:SprW b R i w) (j:Nat) (hj:j<i):w.cell? ⟨R,j,none⟩=some (.int .u32 (N32 ((Lz.spreadN b i).getD j 0))):=by
 unfold SprW at h;refine rowAt h j _ ?_;rw[List.getElem?_toArray];unfold rowW;rw[List.getElem?_map,List.getElem?_append_left (by rw[Lz.spreadN_len];exact hj),List.getD_eq_getElem?_getD,List.getElem?_eq_getElem (by rw[Lz.spreadN_len];exact hj)];rfl
theorem SprW.open {b:List UInt8} {R i:Nat} {w:World} (h:SprW b R i w) (hi:i<64):w.cell? ⟨R,i,none⟩=some (.int .u32 0)/\w.frozen? ⟨R,i,none⟩=false:=by
 unfold SprW at h;constructor
 ·refine rowAt h i _ ?_;rw[List.getElem?_toArray];unfold rowW;rw[List.getElem?_map,List.getElem?_append_right (by rw[Lz.spreadN_len];exact Nat.le_refl _),Lz.spreadN_len,List.getElem?_replicate,if_pos (by omega)];rfl
 ·simp[World.frozen?,h]
theorem SprW.store {b:List UInt8} {R i:Nat} {w:World} (h:SprW b R i w) (hi:i<64) (x:UInt32) (hx:Lz.spreadN b (i+1)=Lz.spreadN b i++[x]):SprW b R (i+1) (w.setCell ⟨R,i,none⟩ (.int .u32 (N32 x))):=by
 unfold SprW at h⊢;rw[row_set h i];congr 2;rw[List.setIfInBounds_toArray];congr 1;unfold rowW;rw[hx,List.append_assoc,show 64-i=(64-(i+1))+1 by omega,List.replicate_succ,List.map_append,List.map_append,List.map_cons,List.set_append_right _ _ (by rw[List.length_map,Lz.spreadN_len];exact Nat.le_refl _),List.length_map,Lz.spreadN_len,Nat.sub_self,List.set_cons_zero];rfl
theorem spr_info:(Tryz.prog.info? 137).map (·.size)=some 64:=by kernel_rfl
theorem nl24 (a:UInt32):IntKind.u32.wrap (N32 a*16777216)=N32 (a<<<24):=nl32 a 24 (by omega)
theorem nl16 (a:UInt32):IntKind.u32.wrap (N32 a*65536)=N32 (a<<<16):=nl32 a 16 (by omega)
theorem nl8 (a:UInt32):IntKind.u32.wrap (N32 a*256)=N32 (a<<<8):=nl32 a 8 (by omega)
theorem nr3 (a:UInt32):N32 a / (8:Int)=N32 (a>>>3):=nr32 a 3 (by omega)
theorem nr10 (a:UInt32):N32 a / (1024:Int)=N32 (a>>>10):=nr32 a 10 (by omega)
theorem nbw (c:UInt8):IntKind.u32.wrap (c.toNat:Int)=N32 c.toUInt32:=w32 c.toUInt32
theorem spread_any (b:ByteArray) (hb:b.size=64) (w:World):Calls Tryz.prog 93 #[.string b] w fun e w'=>e=.returned (.agg (rowW (Lz.spreadN b.data.toList 64)).toArray)/\Below w.heap.size w w':=by
 have HB:=Ih hb;clear hb;go_enter Tryz.func93,Tryz.ntmps93
 go_wp2_with fail
 go_loopw [4,5,6,7] (fun p q r k wr=>∃i:Nat,k=.int .i64 i/\i<=64/\SprW b.data.toList (w.heap.size+1) i wr/\Below w.heap.size w wr/\ZerW w.heap.size wr) (fun _ _ _ k _=>64-(intOf k).toNat)
 case atStart=>exact⟨0,rfl,by omega,heap_new2 _ _ _,((Below.refl _ w).alloc (Nat.le_refl _) _).alloc (by simp) _,zerW_start w _⟩
 case round=>
  obtain⟨i,rfl,hi,hR,hbw,hZ⟩:=hrel;by_cases hlt:i<64
  ·have hltI:(i:Int)<64:=by omega
   have hi0:(0:Int)<=(i:Int):=by omega
   by_cases h16:i<16
   ·have h16I:(i:Int)<16:=by omega
    obtain⟨j0,hj0⟩:∃j,j=4*i:=⟨_,rfl⟩;obtain⟨j1,hj1⟩:∃j,j=4*i+1:=⟨_,rfl⟩;obtain⟨j2,hj2⟩:∃j,j=4*i+2:=⟨_,rfl⟩;obtain⟨j3,hj3⟩:∃j,j=4*i+3:=⟨_,rfl⟩;have w0:IntKind.i64.wrap (4*(i:Int))=(j0:Int):=by rw[show 4*(i:Int)=(j0:Int) by omega];exact IntWalk.i64_in _ (by omega)
    have w1:IntKind.i64.wrap ((j0:Int)+1)=(j1:Int):=by rw[show(j0:Int)+1=(j1:Int) by omega];exact IntWalk.i64_in _ (by omega)
    have w2:IntKind.i64.wrap ((j0:Int)+2)=(j2:Int):=by rw[show(j0:Int)+2=(j2:Int) by omega];exact IntWalk.i64_in _ (by omega)
    have w3:IntKind.i64.wrap ((j0:Int)+3)=(j3:Int):=by rw[show(j0:Int)+3=(j3:Int) by omega];exact IntWalk.i64_in _ (by omega)
    have l0:j0<b.size:=by have:=HB.out;omega
    have l1:j1<b.size:=by have:=HB.out;omega
    have l2:j2<b.size:=by have:=HB.out;omega
    have l3:j3<b.size:=by have:=HB.out;omega
    obtain⟨c0,hc0⟩:∃c,c=b[j0]:=⟨_,rfl⟩;obtain⟨c1,hc1⟩:∃c,c=b[j1]:=⟨_,rfl⟩;obtain⟨c2,hc2⟩:∃c,c=b[j2]:=⟨_,rfl⟩;obtain⟨c3,hc3⟩:∃c,c=b[j3]:=⟨_,rfl⟩;have r0:(b[j0].toNat:Int)=(c0.toNat:Int):=by rw[hc0]
    have r1:(b[j1].toNat:Int)=(c1.toNat:Int):=by rw[hc1]
    have r2:(b[j2].toNat:Int)=(c2.toNat:Int):=by rw[hc2]
    have r3:(b[j3].toNat:Int)=(c3.toNat:Int):=by rw[hc3]
    have q0:(0:Int)<=(j0:Int)/\(j0:Int)<(b.size:Int):=by omega
    have q1:(0:Int)<=(j1:Int)/\(j1:Int)<(b.size:Int):=by omega
    have q2:(0:Int)<=(j2:Int)/\(j2:Int)<(b.size:Int):=by omega
    have q3:(0:Int)<=(j3:Int)/\(j3:Int)<(b.size:Int):=by omega
    have v0:=nbw c0;have v1:=nbw c1;have v2:=nbw c2;have v3:=nbw c3;have s0:=nl24 c0.toUInt32;have s1:=nl16 c1.toUInt32;have s2:=nl8 c2.toUInt32;have o1:=no32 (c0.toUInt32<<<24) (c1.toUInt32<<<16);have o2:=no32 ((c0.toUInt32<<<24)||| (c1.toUInt32<<<16)) (c2.toUInt32<<<8);have o3:=no32 (((c0.toUInt32<<<24)||| (c1.toUInt32<<<16))||| (c2.toUInt32<<<8)) c3.toUInt32
    have HX:Hid (Lz.spreadN b.data.toList (i+1)=Lz.spreadN b.data.toList i++[(((c0.toUInt32<<<24)||| (c1.toUInt32<<<16))||| (c2.toUInt32<<<8))||| c3.toUInt32]):=by
     show _=_;rw[Lz.spreadN,if_pos h16];unfold Lz.be32 Lz.byte32;rw[<-hj1,<-hj2,<-hj3,<-hj0,List.getD_eq_getElem?_getD,List.getD_eq_getElem?_getD,List.getD_eq_getElem?_getD,List.getD_eq_getElem?_getD,get_of_lt l0,get_of_lt l1,get_of_lt l2,get_of_lt l3,<-hc0,<-hc1,<-hc2,<-hc3];rfl
    clear hj0 hj1 hj2 hj3 hc0 hc1 hc2 hc3
    go_upto_region 6 with fail
    have hR0:=hR.drew;have hZ0:ZerW w.heap.size wr.drew:=hZ;refine wp_region_held_drew (S:=fun V=>Below w.heap.size w V) (by kernel_rfl) hbw.drew (fun hHeld=>?_);generalize wr.drew=W0 at hHeld hR0 hZ0⊢;refine TkD 0 (some 12) (v:=?_) rfl rfl ?_ ?_;rotate_left 2;refine TkD 1 (some 13) (v:=?_) rfl rfl ?_ ?_;rotate_left 2;refine TkD 2 (some 14) (v:=?_) rfl rfl ?_ ?_;rotate_left 2;refine TkD 3 (some 15) (v:=?_) rfl rfl ?_ ?_;rotate_left 2;refine TkD 4 (some 16) (v:=?_) rfl rfl ?_ ?_;rotate_left 2;refine TkD 5 (some 17) (v:=?_) rfl rfl ?_ ?_;rotate_left 2;refine TkD 6 (some 18) (v:=?_) rfl rfl ?_ ?_;rotate_left 2;refine TkD 7 (some 19) (v:=?_) rfl rfl ?_ ?_;rotate_left 2;refine TkD 8 (some 20) (v:=?_) rfl rfl ?_ ?_;rotate_left 2;refine TkD 9 (some 21) (v:=?_) rfl rfl ?_ ?_;rotate_left 2;refine TkD 10 (some 22) (v:=?_) rfl rfl ?_ ?_;rotate_left 2;refine TkD 11 (some 23) (v:=?_) rfl rfl ?_ ?_;rotate_left 2;refine TkD 12 (some 24) (v:=?_) rfl rfl ?_ ?_;rotate_left 2;refine TkD 13 (some 25) (v:=?_) rfl rfl ?_ ?_;rotate_left 2;refine TkD 14 (some 26) (v:=?_) rfl rfl ?_ ?_;rotate_left 2;refine TkD 15 (some 27) (v:=?_) rfl rfl ?_ ?_;rotate_left 2
    refine TkD 16 (some 28) (v:=?_) rfl rfl ?_ ?_;rotate_left 2;refine TkD 17 (some 29) (v:=?_) rfl rfl ?_ ?_;rotate_left 2;refine TkD 18 (some 30) (v:=?_) rfl rfl ?_ ?_;rotate_left 2;refine TkD 19 (some 31) (v:=?_) rfl rfl ?_ ?_;rotate_left 2;refine TkD 20 (some 32) (v:=?_) rfl rfl ?_ ?_;rotate_left 2;refine TkD 21 (some 33) (v:=?_) rfl rfl ?_ ?_;rotate_left 2;refine TkD 22 (some 34) (v:=?_) rfl rfl ?_ ?_;rotate_left 2;refine TkD 23 (some 35) (v:=?_) rfl rfl ?_ ?_;rotate_left 2;refine TkD 24 (some 36) (v:=?_) rfl rfl ?_ ?_;rotate_left 2;refine TkD 25 (some 37) (v:=?_) rfl rfl ?_ ?_;rotate_left 2;refine TkD 26 (some 38) (v:=?_) rfl rfl ?_ ?_;rotate_left 2;refine TkD 27 (some 39) (v:=?_) rfl rfl ?_ ?_;rotate_left 2;refine TkD 28 (some 40) (v:=?_) rfl rfl ?_ ?_;rotate_left 2;refine TkD 29 (some 41) (v:=?_) rfl rfl ?_ ?_;rotate_left 2;refine TkD 30 (some 42) (v:=?_) rfl rfl ?_ ?_;rotate_left 2;rotate_left
    iterate 31 (rotate_left;(·(intro W hSw;(try dsimp only at hSw);(try simp only[Act.put]);(try simp only[List.setIfInBounds_toArray]);(try simp only[List.set_cons_zero,List.set_cons_succ]);go_simp;try with_reducible rfl)))
    (try simp only[Act.put]);(try simp only[List.setIfInBounds_toArray]);(try simp only[List.set_cons_zero,List.set_cons_succ])
    obtain⟨hcell,hfr⟩:=hR0.open hlt;refine wpAnyH_ready (rs:=[31]) (by kernel_rfl) (by simp) ?_;refine AllReadyH.cons rfl (fun K hK=>?_) AllReadyH.nil;go_simp;refine hK.out _ _ (hHeld.setCell (Nat.le_succ _) _) (fun hHeld=>?_);clear hK K
    (try simp only[Act.put]);(try simp only[List.setIfInBounds_toArray]);(try simp only[List.set_cons_zero,List.set_cons_succ])
    refine wpAnyH_done (by kernel_rfl) ?_ _;have hS:=hR0.store hlt _ HX.out;have hZ1:=hZ0.set (k:=i) (v:=.int .u32 (N32 ((((c0.toUInt32<<<24)||| (c1.toUInt32<<<16))||| (c2.toUInt32<<<8))||| c3.toUInt32))) (show w.heap.size≠w.heap.size+1 by omega);clear hR0 hcell hfr
    go_wp2_with fail
    go_roundw
    case rel=>exact⟨i+1,by go_num,by omega,hS,hHeld,hZ1⟩
    case measure=>simp[intOf];omega
   ·have h16I:¬(i:Int)<16:=by omega
    obtain⟨m15,hm15⟩:∃m,m=i-15:=⟨_,rfl⟩;obtain⟨m2,hm2⟩:∃m,m=i-2:=⟨_,rfl⟩;obtain⟨m16,hm16⟩:∃m,m=i-16:=⟨_,rfl⟩;obtain⟨m7,hm7⟩:∃m,m=i-7:=⟨_,rfl⟩;have w15:IntKind.i64.wrap ((i:Int)-15)=(m15:Int):=by rw[show(i:Int)-15=(m15:Int) by omega];exact IntWalk.i64_in _ (by omega)
    have w2:IntKind.i64.wrap ((i:Int)-2)=(m2:Int):=by rw[show(i:Int)-2=(m2:Int) by omega];exact IntWalk.i64_in _ (by omega)
    have w16:IntKind.i64.wrap ((i:Int)-16)=(m16:Int):=by rw[show(i:Int)-16=(m16:Int) by omega];exact IntWalk.i64_in _ (by omega)
    have w7:IntKind.i64.wrap ((i:Int)-7)=(m7:Int):=by rw[show(i:Int)-7=(m7:Int) by omega];exact IntWalk.i64_in _ (by omega)
    have b15:(0:Int)<=(m15:Int)/\(m15:Int)<64:=by omega
    have b2:(0:Int)<=(m2:Int)/\(m2:Int)<64:=by omega
    have b16:(0:Int)<=(m16:Int)/\(m16:Int)<64:=by omega
    have b7:(0:Int)<=(m7:Int)/\(m7:Int)<64:=by omega
    have l15:m15<i:=by omega
    have l2:m2<i:=by omega
    have l16:m16<i:=by omega
    have l7:m7<i:=by omega
    obtain⟨x15,hx15⟩:∃x,x=(Lz.spreadN b.data.toList i).getD m15 0:=⟨_,rfl⟩;obtain⟨x2,hx2⟩:∃x,x=(Lz.spreadN b.data.toList i).getD m2 0:=⟨_,rfl⟩;obtain⟨x16,hx16⟩:∃x,x=(Lz.spreadN b.data.toList i).getD m16 0:=⟨_,rfl⟩;obtain⟨x7,hx7⟩:∃x,x=(Lz.spreadN b.data.toList i).getD m7 0:=⟨_,rfl⟩
    have HX:Hid (Lz.spreadN b.data.toList (i+1)=Lz.spreadN b.data.toList i++[((x16+x7)+((Lz.ror32 x15 7 ^^^ Lz.ror32 x15 18) ^^^ (x15>>>3)))+((Lz.ror32 x2 17 ^^^ Lz.ror32 x2 19) ^^^ (x2>>>10))]):=by
     show _=_;rw[Lz.spreadN,if_neg h16,<-hm15,<-hm2,<-hm16,<-hm7,<-hx15,<-hx2,<-hx16,<-hx7];rfl
    have Hc:Hid (∀V,SprW b.data.toList (w.heap.size+1) i V->((V.cell? ⟨w.heap.size+1,m15,none⟩=some (.int .u32 (N32 x15))/\V.cell? ⟨w.heap.size+1,m2,none⟩=some (.int .u32 (N32 x2)))/\V.cell? ⟨w.heap.size+1,m16,none⟩=some (.int .u32 (N32 x16))/\V.cell? ⟨w.heap.size+1,m7,none⟩=some (.int .u32 (N32 x7)))):=Ih (fun V hV=>⟨⟨by rw[hx15];exact hV.cell _ l15,by rw[hx2];exact hV.cell _ l2⟩,by rw[hx16];exact hV.cell _ l16,by rw[hx7];exact hV.cell _ l7⟩);have k7:Hid (∀W,Calls Tryz.prog 94 #[.int .u32 (N32 x15),.int .i64 7] W fun e w'=>e=.returned (.int .u32 (N32 (Lz.ror32 x15 7)))/\W=w'):=Ih (fun W=>turn_any x15 7 (by omega) (by omega) W);have k18:Hid (∀W,Calls Tryz.prog 94 #[.int .u32 (N32 x15),.int .i64 18] W fun e w'=>e=.returned (.int .u32 (N32 (Lz.ror32 x15 18)))/\W=w'):=Ih (fun W=>turn_any x15 18 (by omega) (by omega) W);have k17:Hid (∀W,Calls Tryz.prog 94 #[.int .u32 (N32 x2),.int .i64 17] W fun e w'=>e=.returned (.int .u32 (N32 (Lz.ror32 x2 17)))/\W=w'):=Ih (fun W=>turn_any x2 17 (by omega) (by omega) W)
    have k19:Hid (∀W,Calls Tryz.prog 94 #[.int .u32 (N32 x2),.int .i64 19] W fun e w'=>e=.returned (.int .u32 (N32 (Lz.ror32 x2 19)))/\W=w'):=Ih (fun W=>turn_any x2 19 (by omega) (by omega) W);have n3:=nr3;have n10:=nr10;have fx:=nx32;have fp:=np32;clear hm15 hm2 hm16 hm7 hx15 hx2 hx16 hx7;obtain⟨⟨hc15,hc2⟩,_⟩:=Hc.out wr.drew hR.drew
    go_upto_region 7 with fail
    refine wp_region_held_drew (S:=fun V=>((V.cell? ⟨w.heap.size+1,m15,none⟩=some (.int .u32 (N32 x15))/\V.cell? ⟨w.heap.size+1,m2,none⟩=some (.int .u32 (N32 x2)))/\(SprW b.data.toList (w.heap.size+1) i V/\ZerW w.heap.size V))/\Below w.heap.size w V) (by kernel_rfl) ⟨⟨⟨hc15,hc2⟩,hR.drew,hZ⟩,hbw.drew⟩ (fun hHeld=>?_);generalize wr.drew=W0 at hHeld⊢;refine TkD 0 (some 43) (v:=?_) rfl rfl ?_ ?_;rotate_left 2;refine TkD 1 (some 44) (v:=?_) rfl rfl ?_ ?_;rotate_left 2;refine TkD 2 (some 45) (v:=?_) rfl rfl ?_ ?_;rotate_left 2;refine TkD 3 (some 46) (v:=?_) rfl rfl ?_ ?_;rotate_left 2;refine TkD 4 (some 47) (v:=?_) rfl rfl ?_ ?_;rotate_left 2;refine TkD 5 (some 48) (v:=?_) rfl rfl ?_ ?_;rotate_left 2;refine TkD 6 (some 49) (v:=?_) rfl rfl ?_ ?_;rotate_left 2;refine TkD 7 (some 50) (v:=?_) rfl rfl ?_ ?_;rotate_left 2;refine TkD 8 (some 5) (v:=?_) rfl rfl ?_ ?_;rotate_left 2;refine TkD 9 (some 6) (v:=?_) rfl rfl ?_ ?_;rotate_left 2;rotate_left
    iterate 10 (rotate_left;(·(intro W hSw;(try dsimp only at hSw);(try simp only[Act.put]);(try simp only[List.setIfInBounds_toArray]);(try simp only[List.set_cons_zero,List.set_cons_succ]);go_simp;try with_reducible rfl)))
    (try simp only[Act.put]);(try simp only[List.setIfInBounds_toArray]);(try simp only[List.set_cons_zero,List.set_cons_succ])
    refine wpAnyH_done (by kernel_rfl) ?_ _;obtain⟨⟨_,hR0,hZ0⟩,hb0⟩:=hHeld;clear hc15 hc2;obtain⟨_,hc16,hc7⟩:=Hc.out W0.drew hR0.drew
    go_upto_region 8 with fail
    have hR1:=hR0.drew;have hZ1:ZerW w.heap.size W0.drew:=hZ0;refine wp_region_held_drew (S:=fun V=>(V.cell? ⟨w.heap.size+1,m16,none⟩=some (.int .u32 (N32 x16))/\V.cell? ⟨w.heap.size+1,m7,none⟩=some (.int .u32 (N32 x7)))/\Below w.heap.size w V) (by kernel_rfl) ⟨⟨hc16,hc7⟩,hb0.drew⟩ (fun hHeld=>?_);generalize W0.drew=W1 at hHeld hR1 hZ1⊢;refine TkD 0 (some 51) (v:=?_) rfl rfl ?_ ?_;rotate_left 2;refine TkD 1 (some 52) (v:=?_) rfl rfl ?_ ?_;rotate_left 2;refine TkD 2 (some 53) (v:=?_) rfl rfl ?_ ?_;rotate_left 2;refine TkD 3 (some 54) (v:=?_) rfl rfl ?_ ?_;rotate_left 2;refine TkD 4 (some 55) (v:=?_) rfl rfl ?_ ?_;rotate_left 2;refine TkD 5 (some 56) (v:=?_) rfl rfl ?_ ?_;rotate_left 2;refine TkD 6 (some 57) (v:=?_) rfl rfl ?_ ?_;rotate_left 2;refine TkD 7 (some 58) (v:=?_) rfl rfl ?_ ?_;rotate_left 2;refine TkD 8 (some 59) (v:=?_) rfl rfl ?_ ?_;rotate_left 2;refine TkD 9 (some 60) (v:=?_) rfl rfl ?_ ?_;rotate_left 2;refine TkD 10 (some 61) (v:=?_) rfl rfl ?_ ?_;rotate_left 2;refine TkD 12 (some 63) (v:=?_) rfl rfl ?_ ?_;rotate_left 2;refine TkD 15 (some 66) (v:=?_) rfl rfl ?_ ?_;rotate_left 2;refine TkD 16 (some 67) (v:=?_) rfl rfl ?_ ?_;rotate_left 2
    refine TkD 19 (some 70) (v:=?_) rfl rfl ?_ ?_;rotate_left 2;refine TkD 21 (some 72) (v:=?_) rfl rfl ?_ ?_;rotate_left 2;refine TkD 24 (some 75) (v:=?_) rfl rfl ?_ ?_;rotate_left 2;refine TkD 25 (some 76) (v:=?_) rfl rfl ?_ ?_;rotate_left 2;rotate_left
    iterate 18 (rotate_left;(·(intro W hSw;(try dsimp only at hSw);(try simp only[Act.put]);(try simp only[List.setIfInBounds_toArray]);(try simp only[List.set_cons_zero,List.set_cons_succ]);go_simp;try with_reducible rfl)))
    (try simp only[Act.put]);(try simp only[List.setIfInBounds_toArray]);(try simp only[List.set_cons_zero,List.set_cons_succ])
    refine wpAnyH_ready (rs:=[11]) (by kernel_rfl) (by simp) ?_;refine AllReadyH.cons rfl (fun K hK=>?_) AllReadyH.nil;go_simp
    go_at_call 94
    refine(k7.out _).mono ?_;rintro e w5 ⟨rfl,rfl⟩;refine hK.out _ _ hHeld (fun hHeld=>?_);clear hK K
    (try simp only[Act.put]);(try simp only[List.setIfInBounds_toArray]);(try simp only[List.set_cons_zero,List.set_cons_succ])
    refine wpAnyH_ready (rs:=[13]) (by kernel_rfl) (by simp) ?_;refine AllReadyH.cons rfl (fun K hK=>?_) AllReadyH.nil;go_simp
    go_at_call 94
    refine(k18.out _).mono ?_;rintro e w5 ⟨rfl,rfl⟩;refine hK.out _ _ hHeld (fun hHeld=>?_);clear hK K
    (try simp only[Act.put]);(try simp only[List.setIfInBounds_toArray]);(try simp only[List.set_cons_zero,List.set_cons_succ])
    refine TkD 14 (some 65) (v:=?_) rfl rfl ?_ ?_;rotate_left 2;refine TkD 17 (some 68) (v:=?_) rfl rfl ?_ ?_;rotate_left 2;refine TkD 18 (some 69) (v:=?_) rfl rfl ?_ ?_;rotate_left 2;rotate_left
    iterate 3 (rotate_left;(·(intro W hSw;(try dsimp only at hSw);(try simp only[Act.put]);(try simp only[List.setIfInBounds_toArray]);(try simp only[List.set_cons_zero,List.set_cons_succ]);go_simp;try with_reducible rfl)))
    (try simp only[Act.put]);(try simp only[List.setIfInBounds_toArray]);(try simp only[List.set_cons_zero,List.set_cons_succ])
    refine wpAnyH_ready (rs:=[20]) (by kernel_rfl) (by simp) ?_;refine AllReadyH.cons rfl (fun K hK=>?_) AllReadyH.nil;go_simp
    go_at_call 94
    refine(k17.out _).mono ?_;rintro e w5 ⟨rfl,rfl⟩;refine hK.out _ _ hHeld (fun hHeld=>?_);clear hK K
    (try simp only[Act.put]);(try simp only[List.setIfInBounds_toArray]);(try simp only[List.set_cons_zero,List.set_cons_succ])
    refine wpAnyH_ready (rs:=[22]) (by kernel_rfl) (by simp) ?_;refine AllReadyH.cons rfl (fun K hK=>?_) AllReadyH.nil;go_simp
    go_at_call 94
    refine(k19.out _).mono ?_;rintro e w5 ⟨rfl,rfl⟩;refine hK.out _ _ hHeld (fun hHeld=>?_);clear hK K
    (try simp only[Act.put]);(try simp only[List.setIfInBounds_toArray]);(try simp only[List.set_cons_zero,List.set_cons_succ])
    refine TkD 23 (some 74) (v:=?_) rfl rfl ?_ ?_;rotate_left 2;refine TkD 26 (some 77) (v:=?_) rfl rfl ?_ ?_;rotate_left 2;refine TkD 27 (some 78) (v:=?_) rfl rfl ?_ ?_;rotate_left 2;refine TkD 28 (some 79) (v:=?_) rfl rfl ?_ ?_;rotate_left 2;rotate_left
    iterate 4 (rotate_left;(·(intro W hSw;(try dsimp only at hSw);(try simp only[Act.put]);(try simp only[List.setIfInBounds_toArray]);(try simp only[List.set_cons_zero,List.set_cons_succ]);go_simp;try with_reducible rfl)))
    (try simp only[Act.put]);(try simp only[List.setIfInBounds_toArray]);(try simp only[List.set_cons_zero,List.set_cons_succ])
    obtain⟨hcell,hfr⟩:=hR1.open hlt;refine wpAnyH_ready (rs:=[29]) (by kernel_rfl) (by simp) ?_;refine AllReadyH.cons rfl (fun K hK=>?_) AllReadyH.nil;go_simp;refine hK.out _ _ ⟨⟨(World.cell?_setCell_other _ _ _ _ (by first |(simp;done)|(simp;omega))).trans hHeld.1.1,(World.cell?_setCell_other _ _ _ _ (by first |(simp;done)|(simp;omega))).trans hHeld.1.2⟩,hHeld.2.setCell (Nat.le_succ _) _⟩ (fun hHeld=>?_);clear hK K
    (try simp only[Act.put]);(try simp only[List.setIfInBounds_toArray]);(try simp only[List.set_cons_zero,List.set_cons_succ])
    refine wpAnyH_done (by kernel_rfl) ?_ _;have hS:=hR1.store hlt _ HX.out;have hB:=hHeld.2;have hZ2:=hZ1.set (k:=i) (v:=.int .u32 (N32 (((x16+x7)+((Lz.ror32 x15 7 ^^^ Lz.ror32 x15 18) ^^^ (x15>>>3)))+((Lz.ror32 x2 17 ^^^ Lz.ror32 x2 19) ^^^ (x2>>>10))))) (show w.heap.size≠w.heap.size+1 by omega);clear hR0 hR1 hcell hfr hHeld
    go_wp2_with fail
    go_roundw
    case rel=>exact⟨i+1,by go_num,by omega,hS,hB,hZ2⟩
    case measure=>simp[intOf];omega
  ·have hi64:i=64:=by omega
   subst hi64;have hltI:¬(((64:Nat):Int)<64):=by omega
   have hR2:wr.heap[w.heap.size+1]? =some (.cells (rowW (Lz.spreadN b.data.toList 64)).toArray 137 (0,0)):=by
    have h:=hR;unfold SprW at h
    rwa [Nat.sub_self,List.replicate_zero,List.append_nil]at h
   clear hR
   go_wp2_with (first |(refine wpList_load_row rfl 137 (.tmp 3) rfl (w.heap.size+1) rfl 137 _ (0,0) _ hR2 Tryz.underlying137 rfl (by rw[List.size_toArray,rowW_len,Lz.spreadN_len];exact spr_info) ?_)|(refine wpList_store_row rfl 137 (.tmp 2) (.tmp 81) rfl w.heap.size _ rfl rfl 137 (rowW zero64).toArray hZ (by rw[List.size_toArray,rowW_len,Lz.spreadN_len];exact spr_info) (by rw[List.size_toArray,List.size_toArray,rowW_len,rowW_len,Lz.spreadN_len];rfl) (rowW_one _) ?_))
   refine bodyPost_ret (results_cell_row (P:=Tryz.prog) (p:=2) rfl _ _ w.heap.size 137 _ (0,0) _ rfl (setRow_heap _ _ _ _ _ _ hZ) Tryz.underlying137 rfl (by rw[List.size_toArray,rowW_len,Lz.spreadN_len];exact spr_info)) rfl ?_;exact⟨rfl,below_setRowT hbw (Nat.le_refl _)⟩
theorem u32_size:(Tryz.prog.info? 73).map (·.size)=some 1:=by kernel_rfl
theorem rowW_each (l:List UInt32):∀v∈rowW l,v.oneCell'=true:=by
 intro v hv;unfold rowW at hv;obtain⟨x,_,rfl⟩:=List.mem_map.1 hv;rfl
def V8 (R:Nat) (s:Lz.St8 UInt32) (w:World):Prop:=w.heap[R]? =some (.cells (rowW s.list).toArray 78 (0,0))
theorem V8.drew {R:Nat} {s:Lz.St8 UInt32} {w:World} (h:V8 R s w):V8 R s w.drew:=h
def TabD (tab:List UInt32) (w:World):Prop:=0<w.heap.size/\∀i,i<64->w.cell? ⟨0,i,none⟩=some (.int .u32 (N32 (tab.getD i 0)))
theorem state_size:(Tryz.prog.info? 78).map (·.size)=some 8:=by kernel_rfl
theorem index64 (l:List UInt32) (hl:l.length=64) (i:Nat) (hi:i<64) (w:World):(Instr.index 137 (.agg (rowW l).toArray) (.int .i64 (i:Int))).run Tryz.prog w=.ok (.int .u32 (N32 (l.getD i 0))) w:=by
 unfold Instr.index;have h0:(0:Int)<=(i:Int):=by omega
 have hl2:(rowW l)[i]? =some (.int .u32 (N32 (l.getD i 0))):=by
  unfold rowW;rw[List.getElem?_map,List.getD_eq_getElem?_getD,List.getElem?_eq_getElem (by omega)];rfl
 have hp:∀W,(part 73 (rowW l).toArray i).run Tryz.prog W=.ok (.int .u32 (N32 (l.getD i 0))) W:=fun W=>by
  unfold part
  simp[run_isAgg_plain (P:=Tryz.prog) Tryz.underlying73 rfl,hl2]
 simp[run_underlying Tryz.underlying137,asIntOf,h0,hp,hi]
theorem V8.open {R:Nat} {s:Lz.St8 UInt32} {w:World} (h:V8 R s w) (k:Nat) (x:UInt32) (hx:s.list[k]? =some x):w.cell? ⟨R,k,none⟩=some (.int .u32 (N32 x))/\w.frozen? ⟨R,k,none⟩=false:=by
 have hr:=rowAt h k (.int .u32 (N32 x)) (by rw[List.getElem?_toArray];unfold rowW;rw[List.getElem?_map,hx];rfl);refine⟨hr,?_⟩;unfold V8 at h
 simp[World.frozen?,h]
theorem index8 (l:List UInt32) (hl:l.length=8) (i:Nat) (hi:i<8) (w:World):(Instr.index 78 (.agg (rowW l).toArray) (.int .i64 (i:Int))).run Tryz.prog w=.ok (.int .u32 (N32 (l.getD i 0))) w:=by
 unfold Instr.index;have h0:(0:Int)<=(i:Int):=by omega
 have hl2:(rowW l)[i]? =some (.int .u32 (N32 (l.getD i 0))):=by
  unfold rowW;rw[List.getElem?_map,List.getD_eq_getElem?_getD,List.getElem?_eq_getElem (by omega)];rfl
 have hp:∀W,(part 73 (rowW l).toArray i).run Tryz.prog W=.ok (.int .u32 (N32 (l.getD i 0))) W:=fun W=>by
  unfold part
  simp[run_isAgg_plain (P:=Tryz.prog) Tryz.underlying73 rfl,hl2]
 simp[run_underlying Tryz.underlying78,asIntOf,h0,hp,hi]
def addL (h s:Lz.St8 UInt32) (i:Nat):List UInt32:=(List.range 8).map fun j=>if j<i then h.list.getD j 0+s.list.getD j 0 else h.list.getD j 0
theorem addL_at (h s:Lz.St8 UInt32) (i:Nat) (hi:i<8):(addL h s i)[i]? =some (h.list.getD i 0):=by
 obtain rfl|rfl|rfl|rfl|rfl|rfl|rfl|rfl:i=0\/i=1\/i=2\/i=3\/i=4\/i=5\/i=6\/i=7:=by omega
 all_goals rfl
theorem addL_set (h s:Lz.St8 UInt32) (i:Nat) (hi:i<8):(addL h s i).set i (h.list.getD i 0+s.list.getD i 0)=addL h s (i+1):=by
 obtain rfl|rfl|rfl|rfl|rfl|rfl|rfl|rfl:i=0\/i=1\/i=2\/i=3\/i=4\/i=5\/i=6\/i=7:=by omega
 all_goals rfl
theorem addL_zero (h s:Lz.St8 UInt32):addL h s 0=h.list:=rfl
theorem addL_end (h s:Lz.St8 UInt32):addL h s 8=(Lz.add8 h s).list:=rfl
def AddV (hp:Nat) (h s:Lz.St8 UInt32) (i:Nat) (w:World):Prop:=w.heap[hp]? =some (.cells (rowW (addL h s i)).toArray 78 (0,0))
theorem AddV.drew {hp:Nat} {h s:Lz.St8 UInt32} {i:Nat} {w:World} (k:AddV hp h s i w):AddV hp h s i w.drew:=k
theorem AddV.open {hp:Nat} {h s:Lz.St8 UInt32} {i:Nat} {w:World} (k:AddV hp h s i w) (hi:i<8) {x:UInt32} (hx:h.list.getD i 0=x):w.cell? ⟨hp,i,none⟩=some (.int .u32 (N32 x))/\w.frozen? ⟨hp,i,none⟩=false:=by
 unfold AddV at k;have hr:=rowAt k i (.int .u32 (N32 x)) (by rw[List.getElem?_toArray];unfold rowW;rw[List.getElem?_map,addL_at _ _ _ hi,hx];rfl);exact⟨hr,by simp[World.frozen?,k]⟩
theorem AddV.store {hp:Nat} {h s:Lz.St8 UInt32} {i:Nat} {w:World} (k:AddV hp h s i w) (hi:i<8) {x y:UInt32} (hx:h.list.getD i 0=x) (hy:s.list.getD i 0=y):AddV hp h s (i+1) (w.setCell ⟨hp,i,none⟩ (.int .u32 (N32 (x+y)))):=by
 unfold AddV at k⊢;rw[row_set k i,<-addL_set h s i hi,hx,hy];unfold rowW;rw[List.setIfInBounds_toArray,List.map_set]
theorem shift_cells {R:Nat} {sa sb sc sd se sf sg sz:UInt32} {w:World} (h:V8 R ⟨sa,sb,sc,sd,se,sf,sg,sz⟩ w) (j:Nat) (v:Value) (hj:(rowW [sa,sb,sc,sd,se,sf,sg])[j]? =some v):w.cell? ((⟨R,0,none⟩:Addr).add j)=some v:=by
 have hlt:j<(rowW [sa,sb,sc,sd,se,sf,sg]).length:=(List.getElem?_eq_some_iff.1 hj).1;have e:(⟨R,0,none⟩:Addr).add j=⟨R,j,none⟩:=by simp[Addr.add,eq_comm]
 rw[e];refine rowAt h j v ?_;rw[List.getElem?_toArray];show(rowW [sa,sb,sc,sd,se,sf,sg]++rowW [sz])[j]? =some v;rw[List.getElem?_append_left hlt];exact hj
theorem take_any (tab:List UInt32) (hp B:Nat) (h:Lz.St8 UInt32) (b:ByteArray) (hb:b.size=64) (w:World) (hrow:V8 hp h w) (hB:B<=hp) (hT:TabD tab w):Calls Tryz.prog 63 #[.pointer (some ⟨hp,0,none⟩),.string b] w fun e w'=>e=.returned (.tuple #[])/\Below B w w'/\V8 hp (Lz.take32 tab h b.data.toList) w':=by
 have cS:=Ih (fun W=>spread_any b hb W);have Hrow:=Ih hrow;have HT:=Ih hT;have hpl:=row_lt hrow;clear hrow hT;go_enter Tryz.func63,Tryz.ntmps63
 go_wp2_with (first |(refine wpList_load_row rfl 78 (.tmp 14) rfl hp rfl 78 _ (0,0) _ Hrow.out Tryz.underlying78 rfl state_size ?_)|(refine wpList_store_row rfl 78 (.tmp 4) (.tmp 15) rfl w.heap.size _ rfl rfl 78 (rowW [0,0,0,0,0,0,0,0]).toArray (heap_new _ _) state_size rfl (rowW_one _) ?_))
 have hV1:V8 w.heap.size h ((w.alloc (.cells (rowW [0,0,0,0,0,0,0,0]).toArray 78)).setRow w.heap.size (rowW h.list).toArray):=setRow_heap _ _ _ _ _ _ (heap_new _ _);have hB1:Below w.heap.size w ((w.alloc (.cells (rowW [0,0,0,0,0,0,0,0]).toArray 78)).setRow w.heap.size (rowW h.list).toArray):=below_setRowT ((Below.refl _ w).alloc (Nat.le_refl _) _) (Nat.le_refl _);change Calls _ _ _ ((w.alloc (.cells (rowW [0,0,0,0,0,0,0,0]).toArray 78)).setRow w.heap.size (rowW h.list).toArray) _;generalize ((w.alloc (.cells (rowW [0,0,0,0,0,0,0,0]).toArray 78)).setRow w.heap.size (rowW h.list).toArray)=W1 at hV1 hB1⊢;refine(cS.out W1).mono ?_;rintro e w5 ⟨rfl,hb5⟩;have hV5:V8 w.heap.size h w5:=by unfold V8;rw[hb5.block _ (row_lt hV1)];exact hV1
 have hB5:Below w.heap.size w w5:=hB1.trans (hb5.mono hB1.size);clear hV1 hB1 hb5;have hidx:=Ih (fun(i:Nat) (hi:i<64) W=>index64 (Lz.spreadN b.data.toList 64) (Lz.spreadN_len _ _) i hi W);obtain⟨L,hL⟩:∃L,L=Lz.spreadN b.data.toList 64:=⟨_,rfl⟩;rw[<-hL]at hidx⊢;obtain⟨A,hA⟩:∃A,A=(rowW L).toArray:=⟨_,rfl⟩;rw[<-hA]at hidx⊢;clear hA cS
 go_wp2_with fail
 go_loopw [5,6,7,8,9,10,18] (fun _ _ _ _ _ _ k wr=>∃i:Nat,k=.int .i64 i/\i<=64/\V8 w.heap.size (Lz.rounds32 tab b.data.toList h i) wr/\Below w.heap.size w wr) (fun _ _ _ _ _ _ k _=>64-(intOf k).toNat)
 case atStart=>exact⟨0,rfl,by omega,hV5,hB5⟩
 case round=>
  obtain⟨i,rfl,hi,h8,hbw⟩:=hrel;by_cases hlt:i<64
  ·have hltI:(i:Int)<64:=by omega
   have hi0:(0:Int)<=(i:Int)/\(i:Int)<64:=by omega
   have hidx1:=hidx.out i hlt;obtain⟨s,hs⟩:∃s,s=Lz.rounds32 tab b.data.toList h i:=⟨_,rfl⟩;obtain⟨ki,hki⟩:∃k,k=tab.getD i 0:=⟨_,rfl⟩;obtain⟨xi,hxi⟩:∃k,k=L.getD i 0:=⟨_,rfl⟩
   have HX:Hid (Lz.rounds32 tab b.data.toList h (i+1)=Lz.rnd32 s ki xi):=by
    show _=_;rw[Lz.rounds32,<-hs,<-hL,<-hki,<-hxi]
   rw[<-hs]at h8;rw[<-hxi]at hidx1;have hT1:=(HT.out.2 i hlt);rw[<-hki]at hT1;have hTl:=HT.out.1;clear hs hki hxi;obtain⟨sa,sb,sc,sd,se,sf,sg,sz⟩:=s;have hC:Hid (∀V,V8 w.heap.size ⟨sa,sb,sc,sd,se,sf,sg,sz⟩ V->Below w.heap.size w V->((V.cell? ⟨w.heap.size,0,none⟩=some (.int .u32 (N32 sa))/\V.cell? ⟨w.heap.size,1,none⟩=some (.int .u32 (N32 sb))/\V.cell? ⟨w.heap.size,2,none⟩=some (.int .u32 (N32 sc))/\V.cell? ⟨w.heap.size,3,none⟩=some (.int .u32 (N32 sd))/\V.cell? ⟨w.heap.size,4,none⟩=some (.int .u32 (N32 se))/\V.cell? ⟨w.heap.size,5,none⟩=some (.int .u32 (N32 sf))/\V.cell? ⟨w.heap.size,6,none⟩=some (.int .u32 (N32 sg))/\V.cell? ⟨w.heap.size,7,none⟩=some (.int .u32 (N32 sz)))/\V.cell? ⟨0,i,none⟩=some (.int .u32 (N32 ki)))/\V8 w.heap.size ⟨sa,sb,sc,sd,se,sf,sg,sz⟩ V/\Below w.heap.size w V):=Ih (fun V hV hb=>⟨⟨⟨rowAt hV 0 _ rfl,rowAt hV 1 _ rfl,rowAt hV 2 _ rfl,rowAt hV 3 _ rfl,rowAt hV 4 _ rfl,rowAt hV 5 _ rfl,rowAt hV 6 _ rfl,rowAt hV 7 _ rfl⟩,by rw[hb.cell hTl];exact hT1⟩,hV,hb⟩);have k6:Hid (∀W,Calls Tryz.prog 94 #[.int .u32 (N32 se),.int .i64 6] W fun e w'=>e=.returned (.int .u32 (N32 (Lz.ror32 se 6)))/\W=w'):=Ih (fun W=>turn_any se 6 (by omega) (by omega) W)
   have k11:Hid (∀W,Calls Tryz.prog 94 #[.int .u32 (N32 se),.int .i64 11] W fun e w'=>e=.returned (.int .u32 (N32 (Lz.ror32 se 11)))/\W=w'):=Ih (fun W=>turn_any se 11 (by omega) (by omega) W);have k25:Hid (∀W,Calls Tryz.prog 94 #[.int .u32 (N32 se),.int .i64 25] W fun e w'=>e=.returned (.int .u32 (N32 (Lz.ror32 se 25)))/\W=w'):=Ih (fun W=>turn_any se 25 (by omega) (by omega) W);have k2:Hid (∀W,Calls Tryz.prog 94 #[.int .u32 (N32 sa),.int .i64 2] W fun e w'=>e=.returned (.int .u32 (N32 (Lz.ror32 sa 2)))/\W=w'):=Ih (fun W=>turn_any sa 2 (by omega) (by omega) W);have k13:Hid (∀W,Calls Tryz.prog 94 #[.int .u32 (N32 sa),.int .i64 13] W fun e w'=>e=.returned (.int .u32 (N32 (Lz.ror32 sa 13)))/\W=w'):=Ih (fun W=>turn_any sa 13 (by omega) (by omega) W);have k22:Hid (∀W,Calls Tryz.prog 94 #[.int .u32 (N32 sa),.int .i64 22] W fun e w'=>e=.returned (.int .u32 (N32 (Lz.ror32 sa 22)))/\W=w'):=Ih (fun W=>turn_any sa 22 (by omega) (by omega) W);have fx:=nx32;have fp:=np32;have fa:=na32;have fn:∀a,bits .xor .u32 (if IntKind.u32.signed=true then -1 else IntKind.u32.max) (N32 a)=N32 (~~~a):=nn32;clear hT1 hTl hi
   go_upto_region 4 with fail
   refine wp_region_held_drew (S:=fun V=>((V.cell? ⟨w.heap.size,0,none⟩=some (.int .u32 (N32 sa))/\V.cell? ⟨w.heap.size,1,none⟩=some (.int .u32 (N32 sb))/\V.cell? ⟨w.heap.size,2,none⟩=some (.int .u32 (N32 sc))/\V.cell? ⟨w.heap.size,3,none⟩=some (.int .u32 (N32 sd))/\V.cell? ⟨w.heap.size,4,none⟩=some (.int .u32 (N32 se))/\V.cell? ⟨w.heap.size,5,none⟩=some (.int .u32 (N32 sf))/\V.cell? ⟨w.heap.size,6,none⟩=some (.int .u32 (N32 sg))/\V.cell? ⟨w.heap.size,7,none⟩=some (.int .u32 (N32 sz)))/\V.cell? ⟨0,i,none⟩=some (.int .u32 (N32 ki)))/\V8 w.heap.size ⟨sa,sb,sc,sd,se,sf,sg,sz⟩ V/\Below w.heap.size w V) (by kernel_rfl) (hC.out _ h8.drew hbw.drew) (fun hHeld=>?_);generalize wr.drew=W4 at hHeld⊢;refine TkD 0 (some 22) (v:=?_) rfl rfl ?_ ?_;rotate_left 2;refine TkD 1 (some 23) (v:=?_) rfl rfl ?_ ?_;rotate_left 2;refine TkD 2 (some 24) (v:=?_) rfl rfl ?_ ?_;rotate_left 2;refine TkD 3 (some 25) (v:=?_) rfl rfl ?_ ?_;rotate_left 2;refine TkD 4 (some 7) (v:=?_) rfl rfl ?_ ?_;rotate_left 2;refine TkD 5 (some 8) (v:=?_) rfl rfl ?_ ?_;rotate_left 2;rotate_left
   iterate 6 (rotate_left;(·(intro W hSw;(try dsimp only at hSw);(try simp only[Act.put]);(try simp only[List.setIfInBounds_toArray]);(try simp only[List.set_cons_zero,List.set_cons_succ]);go_simp;try with_reducible rfl)))
   (try simp only[Act.put]);(try simp only[List.setIfInBounds_toArray]);(try simp only[List.set_cons_zero,List.set_cons_succ])
   refine wpAnyH_done (by kernel_rfl) ?_ _;obtain⟨h8,hbw⟩:=hHeld.2;clear hHeld
   go_upto_region 5 with fail
   refine wp_region_held_drew (S:=fun V=>((V.cell? ⟨w.heap.size,0,none⟩=some (.int .u32 (N32 sa))/\V.cell? ⟨w.heap.size,1,none⟩=some (.int .u32 (N32 sb))/\V.cell? ⟨w.heap.size,2,none⟩=some (.int .u32 (N32 sc))/\V.cell? ⟨w.heap.size,3,none⟩=some (.int .u32 (N32 sd))/\V.cell? ⟨w.heap.size,4,none⟩=some (.int .u32 (N32 se))/\V.cell? ⟨w.heap.size,5,none⟩=some (.int .u32 (N32 sf))/\V.cell? ⟨w.heap.size,6,none⟩=some (.int .u32 (N32 sg))/\V.cell? ⟨w.heap.size,7,none⟩=some (.int .u32 (N32 sz)))/\V.cell? ⟨0,i,none⟩=some (.int .u32 (N32 ki)))/\V8 w.heap.size ⟨sa,sb,sc,sd,se,sf,sg,sz⟩ V/\Below w.heap.size w V) (by kernel_rfl) (hC.out _ h8.drew hbw.drew) (fun hHeld=>?_);generalize W4.drew=W5 at hHeld⊢;refine TkD 0 (some 26) (v:=?_) rfl rfl ?_ ?_;rotate_left 2;refine TkD 1 (some 27) (v:=?_) rfl rfl ?_ ?_;rotate_left 2;refine TkD 2 (some 28) (v:=?_) rfl rfl ?_ ?_;rotate_left 2;refine TkD 4 (some 30) (v:=?_) rfl rfl ?_ ?_;rotate_left 2;refine TkD 7 (some 33) (v:=?_) rfl rfl ?_ ?_;rotate_left 2;refine TkD 11 (some 37) (v:=?_) rfl rfl ?_ ?_;rotate_left 2;refine TkD 12 (some 38) (v:=?_) rfl rfl ?_ ?_;rotate_left 2;refine TkD 13 (some 39) (v:=?_) rfl rfl ?_ ?_;rotate_left 2
   refine TkD 14 (some 40) (v:=?_) rfl rfl ?_ ?_;rotate_left 2;refine TkD 15 (some 41) (v:=?_) rfl rfl ?_ ?_;rotate_left 2;refine TkD 16 (some 42) (v:=?_) rfl rfl ?_ ?_;rotate_left 2;refine TkD 17 (some 43) (v:=?_) rfl rfl ?_ ?_;rotate_left 2;refine TkD 18 (some 44) (v:=?_) rfl rfl ?_ ?_;rotate_left 2;refine TkD 19 (some 45) (v:=?_) rfl rfl ?_ ?_;rotate_left 2;refine TkD 20 (some 46) (v:=?_) rfl rfl ?_ ?_;rotate_left 2;refine TkD 22 (some 48) (v:=?_) rfl rfl ?_ ?_;rotate_left 2;refine TkD 23 (some 49) (v:=?_) rfl rfl ?_ ?_;rotate_left 2;refine TkD 24 (some 50) (v:=?_) rfl rfl ?_ ?_;rotate_left 2;refine TkD 26 (some 52) (v:=?_) rfl rfl ?_ ?_;rotate_left 2;rotate_left
   iterate 19 (rotate_left;(·(intro W hSw;(try dsimp only at hSw);(try simp only[Act.put]);(try simp only[List.setIfInBounds_toArray]);(try simp only[List.set_cons_zero,List.set_cons_succ]);go_simp;try with_reducible rfl)))
   (try simp only[Act.put]);(try simp only[List.setIfInBounds_toArray]);(try simp only[List.set_cons_zero,List.set_cons_succ])
   refine wpAnyH_ready (rs:=[3]) (by kernel_rfl) (by simp) ?_;refine AllReadyH.cons rfl (fun K hK=>?_) AllReadyH.nil;go_simp
   go_at_call 94
   refine(k6.out _).mono ?_;rintro e w5 ⟨rfl,rfl⟩;refine hK.out _ _ hHeld (fun hHeld=>?_);clear hK K
   (try simp only[Act.put]);(try simp only[List.setIfInBounds_toArray]);(try simp only[List.set_cons_zero,List.set_cons_succ])
   refine wpAnyH_ready (rs:=[5]) (by kernel_rfl) (by simp) ?_;refine AllReadyH.cons rfl (fun K hK=>?_) AllReadyH.nil;go_simp
   go_at_call 94
   refine(k11.out _).mono ?_;rintro e w5 ⟨rfl,rfl⟩;refine hK.out _ _ hHeld (fun hHeld=>?_);clear hK K
   (try simp only[Act.put]);(try simp only[List.setIfInBounds_toArray]);(try simp only[List.set_cons_zero,List.set_cons_succ])
   refine TkD 6 (some 32) (v:=?_) rfl rfl ?_ ?_;rotate_left 2;rotate_left
   iterate 1 (rotate_left;(·(intro W hSw;(try dsimp only at hSw);(try simp only[Act.put]);(try simp only[List.setIfInBounds_toArray]);(try simp only[List.set_cons_zero,List.set_cons_succ]);go_simp;try with_reducible rfl)))
   (try simp only[Act.put]);(try simp only[List.setIfInBounds_toArray]);(try simp only[List.set_cons_zero,List.set_cons_succ])
   refine wpAnyH_ready (rs:=[8]) (by kernel_rfl) (by simp) ?_;refine AllReadyH.cons rfl (fun K hK=>?_) AllReadyH.nil;go_simp
   go_at_call 94
   refine(k25.out _).mono ?_;rintro e w5 ⟨rfl,rfl⟩;refine hK.out _ _ hHeld (fun hHeld=>?_);clear hK K
   (try simp only[Act.put]);(try simp only[List.setIfInBounds_toArray]);(try simp only[List.set_cons_zero,List.set_cons_succ])
   refine TkD 9 (some 35) (v:=?_) rfl rfl ?_ ?_;rotate_left 2;refine TkD 10 (some 36) (v:=?_) rfl rfl ?_ ?_;rotate_left 2;refine TkD 21 (some 47) (v:=?_) rfl rfl ?_ ?_;rotate_left 2;refine TkD 25 (some 51) (v:=?_) rfl rfl ?_ ?_;rotate_left 2;refine TkD 27 (some 53) (v:=?_) rfl rfl ?_ ?_;rotate_left 2;refine TkD 28 (some 9) (v:=?_) rfl rfl ?_ ?_;rotate_left 2;rotate_left
   iterate 6 (rotate_left;(·(intro W hSw;(try dsimp only at hSw);(try simp only[Act.put]);(try simp only[List.setIfInBounds_toArray]);(try simp only[List.set_cons_zero,List.set_cons_succ]);go_simp;try with_reducible rfl)))
   (try simp only[Act.put]);(try simp only[List.setIfInBounds_toArray]);(try simp only[List.set_cons_zero,List.set_cons_succ])
   refine wpAnyH_done (by kernel_rfl) ?_ _;obtain⟨h8,hbw⟩:=hHeld.2;clear hHeld
   go_upto_region 6 with fail
   refine wp_region_held_drew (S:=fun V=>((V.cell? ⟨w.heap.size,0,none⟩=some (.int .u32 (N32 sa))/\V.cell? ⟨w.heap.size,1,none⟩=some (.int .u32 (N32 sb))/\V.cell? ⟨w.heap.size,2,none⟩=some (.int .u32 (N32 sc))/\V.cell? ⟨w.heap.size,3,none⟩=some (.int .u32 (N32 sd))/\V.cell? ⟨w.heap.size,4,none⟩=some (.int .u32 (N32 se))/\V.cell? ⟨w.heap.size,5,none⟩=some (.int .u32 (N32 sf))/\V.cell? ⟨w.heap.size,6,none⟩=some (.int .u32 (N32 sg))/\V.cell? ⟨w.heap.size,7,none⟩=some (.int .u32 (N32 sz)))/\V.cell? ⟨0,i,none⟩=some (.int .u32 (N32 ki)))/\V8 w.heap.size ⟨sa,sb,sc,sd,se,sf,sg,sz⟩ V/\Below w.heap.size w V) (by kernel_rfl) (hC.out _ h8.drew hbw.drew) (fun hHeld=>?_);generalize W5.drew=W6 at hHeld⊢;refine TkD 0 (some 54) (v:=?_) rfl rfl ?_ ?_;rotate_left 2;refine TkD 2 (some 56) (v:=?_) rfl rfl ?_ ?_;rotate_left 2;refine TkD 5 (some 59) (v:=?_) rfl rfl ?_ ?_;rotate_left 2;refine TkD 8 (some 62) (v:=?_) rfl rfl ?_ ?_;rotate_left 2;refine TkD 9 (some 63) (v:=?_) rfl rfl ?_ ?_;rotate_left 2;refine TkD 10 (some 64) (v:=?_) rfl rfl ?_ ?_;rotate_left 2;refine TkD 11 (some 65) (v:=?_) rfl rfl ?_ ?_;rotate_left 2;refine TkD 12 (some 66) (v:=?_) rfl rfl ?_ ?_;rotate_left 2
   refine TkD 13 (some 67) (v:=?_) rfl rfl ?_ ?_;rotate_left 2;refine TkD 14 (some 68) (v:=?_) rfl rfl ?_ ?_;rotate_left 2;refine TkD 15 (some 69) (v:=?_) rfl rfl ?_ ?_;rotate_left 2;refine TkD 16 (some 70) (v:=?_) rfl rfl ?_ ?_;rotate_left 2;refine TkD 17 (some 71) (v:=?_) rfl rfl ?_ ?_;rotate_left 2;refine TkD 18 (some 72) (v:=?_) rfl rfl ?_ ?_;rotate_left 2;refine TkD 19 (some 73) (v:=?_) rfl rfl ?_ ?_;rotate_left 2;refine TkD 20 (some 74) (v:=?_) rfl rfl ?_ ?_;rotate_left 2;refine TkD 21 (some 75) (v:=?_) rfl rfl ?_ ?_;rotate_left 2;refine TkD 22 (some 76) (v:=?_) rfl rfl ?_ ?_;rotate_left 2;rotate_left
   iterate 18 (rotate_left;(·(intro W hSw;(try dsimp only at hSw);(try simp only[Act.put]);(try simp only[List.setIfInBounds_toArray]);(try simp only[List.set_cons_zero,List.set_cons_succ]);go_simp;try with_reducible rfl)))
   (try simp only[Act.put]);(try simp only[List.setIfInBounds_toArray]);(try simp only[List.set_cons_zero,List.set_cons_succ])
   refine wpAnyH_ready (rs:=[1]) (by kernel_rfl) (by simp) ?_;refine AllReadyH.cons rfl (fun K hK=>?_) AllReadyH.nil;go_simp
   go_at_call 94
   refine(k2.out _).mono ?_;rintro e w5 ⟨rfl,rfl⟩;refine hK.out _ _ hHeld (fun hHeld=>?_);clear hK K
   (try simp only[Act.put]);(try simp only[List.setIfInBounds_toArray]);(try simp only[List.set_cons_zero,List.set_cons_succ])
   refine wpAnyH_ready (rs:=[3]) (by kernel_rfl) (by simp) ?_;refine AllReadyH.cons rfl (fun K hK=>?_) AllReadyH.nil;go_simp
   go_at_call 94
   refine(k13.out _).mono ?_;rintro e w5 ⟨rfl,rfl⟩;refine hK.out _ _ hHeld (fun hHeld=>?_);clear hK K
   (try simp only[Act.put]);(try simp only[List.setIfInBounds_toArray]);(try simp only[List.set_cons_zero,List.set_cons_succ])
   refine TkD 4 (some 58) (v:=?_) rfl rfl ?_ ?_;rotate_left 2;rotate_left
   iterate 1 (rotate_left;(·(intro W hSw;(try dsimp only at hSw);(try simp only[Act.put]);(try simp only[List.setIfInBounds_toArray]);(try simp only[List.set_cons_zero,List.set_cons_succ]);go_simp;try with_reducible rfl)))
   (try simp only[Act.put]);(try simp only[List.setIfInBounds_toArray]);(try simp only[List.set_cons_zero,List.set_cons_succ])
   refine wpAnyH_ready (rs:=[6]) (by kernel_rfl) (by simp) ?_;refine AllReadyH.cons rfl (fun K hK=>?_) AllReadyH.nil;go_simp
   go_at_call 94
   refine(k22.out _).mono ?_;rintro e w5 ⟨rfl,rfl⟩;refine hK.out _ _ hHeld (fun hHeld=>?_);clear hK K
   (try simp only[Act.put]);(try simp only[List.setIfInBounds_toArray]);(try simp only[List.set_cons_zero,List.set_cons_succ])
   refine TkD 7 (some 61) (v:=?_) rfl rfl ?_ ?_;rotate_left 2;refine TkD 23 (some 77) (v:=?_) rfl rfl ?_ ?_;rotate_left 2;refine TkD 24 (some 10) (v:=?_) rfl rfl ?_ ?_;rotate_left 2;rotate_left
   iterate 3 (rotate_left;(·(intro W hSw;(try dsimp only at hSw);(try simp only[Act.put]);(try simp only[List.setIfInBounds_toArray]);(try simp only[List.set_cons_zero,List.set_cons_succ]);go_simp;try with_reducible rfl)))
   (try simp only[Act.put]);(try simp only[List.setIfInBounds_toArray]);(try simp only[List.set_cons_zero,List.set_cons_succ])
   refine wpAnyH_done (by kernel_rfl) ?_ _;obtain⟨h8,hbw⟩:=hHeld.2;clear hHeld
   go_upto_region 7 with fail
   have hR0:=h8.drew;refine wp_region_held_drew (S:=fun V=>Below w.heap.size w V) (by kernel_rfl) hbw.drew (fun hHeld=>?_);generalize W6.drew=W7 at hHeld hR0⊢;refine TkD 0 (some 78) (v:=?_) rfl rfl ?_ ?_;rotate_left 2;refine TkD 1 (some 79) (v:=?_) rfl rfl ?_ ?_;rotate_left 2;rotate_left
   iterate 2 (rotate_left;(·(intro W hSw;(try dsimp only at hSw);(try simp only[Act.put]);(try simp only[List.setIfInBounds_toArray]);(try simp only[List.set_cons_zero,List.set_cons_succ]);go_simp;try with_reducible rfl)))
   (try simp only[Act.put]);(try simp only[List.setIfInBounds_toArray]);(try simp only[List.set_cons_zero,List.set_cons_succ])
   refine wpAnyH_ready (rs:=[2]) (by kernel_rfl) (by simp) ?_;refine AllReadyH.cons rfl (fun K hK=>?_) AllReadyH.nil;refine step_copy_splice rfl (.tmp 78) (.tmp 79) 128 128 rfl 73 Tryz.underlying128 u32_size (some ⟨w.heap.size,1,none⟩) (some ⟨w.heap.size,0,none⟩) 7 7 7 8 rfl rfl w.heap.size 1 (rowW [sa,sb,sc,sd,se,sf,sg,sz]) 78 hR0 (rowW [sa,sb,sc,sd,se,sf,sg]) rfl (fun _=>⟨rfl,_,rfl,shift_cells hR0⟩) (Nat.le_refl _) (rowW_each _) w.heap.size w hHeld (Nat.le_refl _) ?_;intro w7 hg7 hb7;refine hK.out _ _ hb7 (fun hHeld=>?_);clear hK K
   (try simp only[Act.put]);(try simp only[List.setIfInBounds_toArray]);(try simp only[List.set_cons_zero,List.set_cons_succ])
   have h8:V8 w.heap.size ⟨sa,sa,sb,sc,sd,se,sf,sg⟩ w7:=hg7.out;clear hg7 hb7 hR0;refine wpAnyH_done (by kernel_rfl) ?_ _;obtain⟨c4,f4⟩:=h8.open 4 sd rfl;obtain⟨t,ht⟩:∃t,t=(((sz+((Lz.ror32 se 6 ^^^ Lz.ror32 se 11) ^^^ Lz.ror32 se 25))+((se&&& sf) ^^^ ((~~~se)&&& sg)))+ki)+xi:=⟨_,rfl⟩;obtain⟨y,hy⟩:∃y,y=((Lz.ror32 sa 2 ^^^ Lz.ror32 sa 13) ^^^ Lz.ror32 sa 22)+(((sa&&& sb) ^^^ (sa&&& sc)) ^^^ (sb&&& sc)):=⟨_,rfl⟩;rw[<-ht,<-hy]
   have HX1:Hid (Lz.rounds32 tab b.data.toList h (i+1)=⟨t+y,sa,sb,sc,sd+t,se,sf,sg⟩):=by
    show _=_;rw[HX.out,ht,hy];rfl
   clear ht hy HX k6 k11 k25 k2 k13 k22
   go_upto_region 9 with fail
   have h9:V8 w.heap.size ⟨sa,sa,sb,sc,sd+t,se,sf,sg⟩ (w7.setCell ⟨w.heap.size,4,none⟩ (.int .u32 (N32 (sd+t)))):=row_set h8 4 _;have b9:Below w.heap.size w (w7.setCell ⟨w.heap.size,4,none⟩ (.int .u32 (N32 (sd+t)))):=hHeld.setCell (Nat.le_refl _) _;generalize w7.setCell ⟨w.heap.size,4,none⟩ (.int .u32 (N32 (sd+t)))=w9 at h9 b9⊢;clear c4 f4 hHeld h8;obtain⟨c0,f0⟩:=h9.open 0 sa rfl
   go_wp2_with fail
   have h10:V8 w.heap.size ⟨t+y,sa,sb,sc,sd+t,se,sf,sg⟩ (w9.setCell ⟨w.heap.size,0,none⟩ (.int .u32 (N32 (t+y)))):=row_set h9 0 _;have b10:Below w.heap.size w (w9.setCell ⟨w.heap.size,0,none⟩ (.int .u32 (N32 (t+y)))):=b9.setCell (Nat.le_refl _) _
   go_roundw
   case rel=>exact⟨i+1,by go_num,by omega,by rw[HX1.out];exact h10,b10⟩
   case measure=>simp[intOf];omega
  ·have hi64:i=64:=by omega
   subst hi64;have hltI:¬(((64:Nat):Int)<64):=by omega
   go_wp2_with (first |(refine wpList_load_row rfl 78 (.tmp 4) rfl w.heap.size rfl 78 _ (0,0) _ h8 Tryz.underlying78 rfl state_size ?_))
   have hV2:AddV hp h (Lz.rounds32 tab b.data.toList h 64) 0 wr:=by
    unfold AddV;rw[addL_zero,hbw.block _ hpl];exact Hrow.out
   have hb2:Below B w wr:=hbw.mono (by omega);clear h8 hbw;obtain⟨s,hs⟩:∃s,s=Lz.rounds32 tab b.data.toList h 64:=⟨_,rfl⟩;have HE:Hid (Lz.take32 tab h b.data.toList=Lz.add8 h s):=by show _=_;rw[hs];rfl
   rw[<-hs]at hV2⊢;clear hs;have hidx8:=Ih (fun(i:Nat) (hi:i<8) W=>index8 s.list rfl i hi W);obtain⟨A8,hA8⟩:∃A,A=(rowW s.list).toArray:=⟨_,rfl⟩;rw[<-hA8]at hidx8⊢;clear hA8
   go_loopw [11,12,92] (fun _ _ k wr=>∃i:Nat,k=.int .i64 i/\i<=8/\AddV hp h s i wr/\Below B w wr) (fun _ _ k _=>8-(intOf k).toNat)
   case atStart=>exact⟨0,rfl,by omega,hV2,hb2⟩
   case round=>
    obtain⟨i,rfl,hi,hA,hbw⟩:=hrel;by_cases hlt:i<8
    ·have hltI:(i:Int)<8:=by omega
     have hi0:(0:Int)<=(i:Int)/\(i:Int)<8:=by omega
     have hidx1:=hidx8.out i hlt;obtain⟨x,hx⟩:∃x,h.list.getD i 0=x:=⟨_,rfl⟩;obtain⟨y,hy⟩:∃y,s.list.getD i 0=y:=⟨_,rfl⟩;rw[hy]at hidx1;have fp:=np32;have Hx:=Ih hx;have Hy:=Ih hy;clear hy
     go_upto_region 14 with fail
     have hA0:=hA.drew;refine wp_region_held_drew (S:=fun V=>Below B w V) (by kernel_rfl) hbw.drew (fun hHeld=>?_);generalize wr.drew=W1 at hHeld hA0⊢;obtain⟨hcell,hfr⟩:=hA0.open hlt hx;refine TkD 0 (some 96) (v:=?_) rfl rfl ?_ ?_;rotate_left 2;refine TkD 1 (some 97) (v:=?_) rfl rfl ?_ ?_;rotate_left 2;refine TkD 2 (some 98) (v:=?_) rfl rfl ?_ ?_;rotate_left 2;refine TkD 3 (some 99) (v:=?_) rfl rfl ?_ ?_;rotate_left 2;refine TkD 5 (some 101) (v:=?_) rfl rfl ?_ ?_;rotate_left 2;refine TkD 7 (some 103) (v:=?_) rfl rfl ?_ ?_;rotate_left 2;rotate_left
     iterate 6 (rotate_left;(·(intro W hSw;(try dsimp only at hSw);(try simp only[Act.put]);(try simp only[List.setIfInBounds_toArray]);(try simp only[List.set_cons_zero,List.set_cons_succ]);go_simp;try with_reducible rfl)))
     (try simp only[Act.put]);(try simp only[List.setIfInBounds_toArray]);(try simp only[List.set_cons_zero,List.set_cons_succ])
     refine wpAnyH_ready (rs:=[4]) (by kernel_rfl) (by simp) ?_;refine AllReadyH.cons rfl (fun K hK=>?_) AllReadyH.nil;go_simp;refine hK.out _ _ hHeld (fun hHeld=>?_);clear hK K
     (try simp only[Act.put]);(try simp only[List.setIfInBounds_toArray]);(try simp only[List.set_cons_zero,List.set_cons_succ])
     refine TkD 6 (some 102) (v:=?_) rfl rfl ?_ ?_;rotate_left 2;refine TkD 8 (some 104) (v:=?_) rfl rfl ?_ ?_;rotate_left 2;rotate_left
     iterate 2 (rotate_left;(·(intro W hSw;(try dsimp only at hSw);(try simp only[Act.put]);(try simp only[List.setIfInBounds_toArray]);(try simp only[List.set_cons_zero,List.set_cons_succ]);go_simp;try with_reducible rfl)))
     (try simp only[Act.put]);(try simp only[List.setIfInBounds_toArray]);(try simp only[List.set_cons_zero,List.set_cons_succ])
     refine wpAnyH_ready (rs:=[9]) (by kernel_rfl) (by simp) ?_;refine AllReadyH.cons rfl (fun K hK=>?_) AllReadyH.nil;go_simp;refine hK.out _ _ (hHeld.setCell hB _) (fun hHeld=>?_);clear hK K
     (try simp only[Act.put]);(try simp only[List.setIfInBounds_toArray]);(try simp only[List.set_cons_zero,List.set_cons_succ])
     refine wpAnyH_done (by kernel_rfl) ?_ _;have hS:=hA0.store hlt Hx.out Hy.out;clear hA0 hcell hfr
     go_wp2_with fail
     go_roundw
     case rel=>exact⟨i+1,by go_num,by omega,hS,hHeld⟩
     case measure=>simp[intOf];omega
    ·have hi8:i=8:=by omega
     subst hi8;have hltI:¬(((8:Nat):Int)<8):=by omega
     go_wp2_with fail
     go_end0
     refine⟨rfl,hbw,?_⟩;unfold V8;rw[HE.out,<-addL_end];exact hA
theorem three_any (x:UInt64) (a b c:Nat) (ha:0<a/\a<64) (hb:0<b/\b<64) (hc:0<c/\c<64) (t:Bool) (w:World):Calls Tryz.prog 146 #[.int .u64 (N64 x),.int .i64 (a:Int),.int .i64 (b:Int),.int .i64 (c:Int),.bool t] w fun e w'=>e=.returned (.int .u64 (N64 (Lz.three64 x (UInt64.ofNat a) (UInt64.ofNat b) (UInt64.ofNat c) t)))/\w=w':=by
 have ca:=Ih (RotL64_any x a ha.1 ha.2 w);have cb:=Ih (RotL64_any x b hb.1 hb.2 w);have cc:=Ih (RotL64_any x c hc.1 hc.2 w);have wa:IntKind.i64.wrap (-(a:Int))= -(a:Int):=IntWalk.i64_in _ (by omega);have wb:IntKind.i64.wrap (-(b:Int))= -(b:Int):=IntWalk.i64_in _ (by omega);have wc:IntKind.i64.wrap (-(c:Int))= -(c:Int):=IntWalk.i64_in _ (by omega);have c0:(0:Int)<=(c:Int):=by omega
 have c1:(c:Int)<=64:=by omega
 have e1:=nr64 x c hc.2;have fx:=nx64;have HV:Hid (Lz.three64 x (UInt64.ofNat a) (UInt64.ofNat b) (UInt64.ofNat c) t=(Lz.ror64 x (UInt64.ofNat a) ^^^ Lz.ror64 x (UInt64.ofNat b)) ^^^ (if t then Lz.ror64 x (UInt64.ofNat c)else x>>>UInt64.ofNat c)):=rfl;rw[HV.out];clear HV ha hb hc;cases t
 ·go_enter Tryz.func146,Tryz.ntmps146
  go_wp2_with fail
  refine ca.out.mono ?_;rintro e w1 ⟨rfl,rfl⟩
  go_wp2_with fail
  refine cb.out.mono ?_;rintro e w1 ⟨rfl,rfl⟩
  go_wp2_with fail
  go_ret;exact⟨rfl,rfl⟩
 ·go_enter Tryz.func146,Tryz.ntmps146
  go_wp2_with fail
  refine cc.out.mono ?_;rintro e w1 ⟨rfl,rfl⟩
  go_wp2_with fail
  refine ca.out.mono ?_;rintro e w1 ⟨rfl,rfl⟩
  go_wp2_with fail
  refine cb.out.mono ?_;rintro e w1 ⟨rfl,rfl⟩
  go_wp2_with fail
  go_ret;exact⟨rfl,rfl⟩
theorem nl8' (x:UInt64):IntKind.u64.wrap (N64 x*256)=N64 (x<<<8):=nl64 x 8 (by omega)
theorem word64_any (s:ByteArray) (hs:8<=s.size) (hs2:s.size<=1073741824) (l:List UInt8) (i:Nat) (hl:s.data.toList=l.drop (8*i)) (w:World):Calls Tryz.prog 145 #[.string s] w fun e w'=>e=.returned (.int .u64 (N64 (Lz.word64 l i 8)))/\w=w':=by
 have fo:=no64;have f8:=nl8';have f9:=nw64
 have HL:Hid (∀k,k<s.size->s.data.toList[k]? =some (l.getD (8*i+k) 0)):=by
  show ∀k,_;intro k hk;have h1:k<s.data.toList.length:=by rw[len_of_size];exact hk
  have h2:(l.drop (8*i))[k]? =s.data.toList[k]? :=by rw[hl]
  rw[List.getElem?_drop]at h2;rw[List.getD_eq_getElem?_getD,h2,List.getElem?_eq_getElem h1];rfl
 clear hl;go_enter Tryz.func145,Tryz.ntmps145
 go_wp2_with fail
 go_loop [2,3,4] (fun v _ k=>∃j:Nat,k=.int .i64 (j:Int)/\j<=8/\v=.int .u64 (N64 (Lz.word64 l i j))) (fun _ _ k=>8-(intOf k).toNat)
 case atStart=>exact⟨0,rfl,by omega,rfl⟩
 case round=>
  obtain⟨j,rfl,hj,rfl⟩:=hrel;by_cases hlt:j<8
  ·have hltI:(j:Int)<8:=by omega
   have hjs:j<s.size:=by omega
   have h1:=HL.out j hjs;obtain⟨c,hc⟩:∃c,c=s[j]:=⟨_,rfl⟩;have hcv:(s[j].toNat:Int)=N64 c.toUInt64:=by rw[hc];rfl
   have HW:Hid (Lz.word64 l i (j+1)=(Lz.word64 l i j<<<8)||| c.toUInt64):=by
    show _=_;rw[Lz.word64,hc];rw[get_of_lt hjs]at h1;rw[Option.some.inj h1]
   clear h1 hc
   go_wp2_with fail
   go_round
   case rel=>exact⟨j+1,by go_num,by omega,by rw[HW.out]⟩
   case measure=>simp[intOf];omega
  ·obtain rfl:j=8:=by omega
   go_wp2_with fail
   go_ret;exact⟨rfl,rfl⟩
def rowL (l:List UInt64):List Value:=l.map fun x=>.int .u64 (N64 x)
theorem rowL_one (l:List UInt64):(rowL l).toArray.all (·.oneCell')=true:=by
 rw[List.all_toArray,List.all_eq_true];intro v hv;unfold rowL at hv;obtain⟨x,_,rfl⟩:=List.mem_map.1 hv;rfl
def TabL (tab:List UInt64) (w:World):Prop:=2<w.heap.size/\∀i,i<80->w.cell? ⟨2,i,none⟩=some (.int .u64 (N64 (tab.getD i 0)))
theorem TabL.keep {tab:List UInt64} {w w':World} (h:TabL tab w) (hb:Below w.heap.size w w'):TabL tab w':=⟨Nat.lt_of_lt_of_le h.1 hb.size,fun i hi=>by rw[hb.cell h.1];exact h.2 i hi⟩
def zero8:List UInt64:=[0,0,0,0,0,0,0,0]
theorem hash_size:(Tryz.prog.info? 85).map (·.size)=some 8:=by kernel_rfl
structure RingW (H H1 H2:Nat) (h:Lz.St8 UInt64) (l:List UInt64) (w:World):Prop where
 own:w.heap[H]? =some (.cells (rowL h.list).toArray 85 (0,0))
 out:w.heap[H1]? =some (.cells (rowL zero8).toArray 85 (0,0))
 ring:w.heap[H2]? =some (.cells (rowL l).toArray 179 (0,0))
 ne:H≠H2/\H1≠H2
theorem RingW.drew {H H1 H2:Nat} {h:Lz.St8 UInt64} {l:List UInt64} {w:World} (k:RingW H H1 H2 h l w):RingW H H1 H2 h l w.drew:=⟨k.own,k.out,k.ring,k.ne⟩
theorem rowL_at {H:Nat} {l:List UInt64} {T:TypeId} {w:World} (h:w.heap[H]? =some (.cells (rowL l).toArray T (0,0))) (j:Nat) (hj:j<l.length):w.cell? ⟨H,j,none⟩=some (.int .u64 (N64 (l.getD j 0))):=by
 refine rowAt h j _ ?_;rw[List.getElem?_toArray];unfold rowL;rw[List.getElem?_map,List.getD_eq_getElem?_getD,List.getElem?_eq_getElem hj];rfl
theorem RingW.open {H H1 H2:Nat} {h:Lz.St8 UInt64} {l:List UInt64} {w:World} (k:RingW H H1 H2 h l w) (j:Nat) (hj:j<l.length):w.cell? ⟨H2,j,none⟩=some (.int .u64 (N64 (l.getD j 0)))/\w.frozen? ⟨H2,j,none⟩=false:=by
 refine⟨rowL_at k.ring j hj,?_⟩;have:=k.ring
 simp[World.frozen?,this]
theorem RingW.set {H H1 H2:Nat} {h:Lz.St8 UInt64} {l:List UInt64} {w:World} (k:RingW H H1 H2 h l w) (j:Nat) (x:UInt64):RingW H H1 H2 h (l.set j x) (w.setCell ⟨H2,j,none⟩ (.int .u64 (N64 x))):=by
 refine⟨?_,?_,?_,k.ne⟩
 ·rw[heap_setCell_other _ _ _ _ _ k.ne.1];exact k.own
 ·rw[heap_setCell_other _ _ _ _ _ k.ne.2];exact k.out
 ·rw[row_set k.ring j];unfold rowL;rw[List.setIfInBounds_toArray,List.map_set]
theorem cell_ne {H j k:Nat} (h:j≠k):(⟨H,k,none⟩:Addr)≠⟨H,j,none⟩:=fun e=>h (by injection e with _ e;exact e.symm)
theorem ringW_start (w:World) (h:Lz.St8 UInt64):RingW w.heap.size (w.heap.size+1) (w.heap.size+1+1) h (List.replicate 16 0) (((w.alloc (.cells (rowL h.list).toArray 85)).alloc (.cells (rowL zero8).toArray 85)).alloc (.cells (rowL (List.replicate 16 0)).toArray 179)):=by
 refine⟨?_,?_,?_,by omega,by omega⟩
 ·rw[Below.heap_alloc _ _ _ (by simp;omega),Below.heap_alloc _ _ _ (by simp)];exact heap_new _ _
 ·rw[Below.heap_alloc _ _ _ (by simp)];exact heap_new2 _ _ _
 ·have:=heap_new ((w.alloc (.cells (rowL h.list).toArray 85)).alloc (.cells (rowL zero8).toArray 85)) (.cells (rowL (List.replicate 16 0)).toArray 179);simpa using this
theorem ring_next (b:List UInt8) (i:Nat) (h:i<16):Lz.ring64 b (i+1)=(Lz.ring64 b i).set i (Lz.word64 b i 8):=by
 rw[Lz.ring64,if_pos h,Nat.mod_eq_of_lt h]
theorem with_any (tab:List UInt64) (h:Lz.St8 UInt64) (b:ByteArray) (hbs:b.size=128) (w:World) (hT:TabL tab w):Calls Tryz.prog 95 #[.agg (rowL h.list).toArray,.string b] w fun e w'=>e=.returned (.agg (rowL (Lz.with64 tab h b.data.toList).list).toArray)/\Below w.heap.size w w':=by
 have HT:=Ih hT;have hB0:Below w.heap.size w (((w.alloc (.cells (rowL h.list).toArray 85)).alloc (.cells (rowL zero8).toArray 85)).alloc (.cells (rowL (List.replicate 16 0)).toArray 179)):=(((Below.refl _ w).alloc (Nat.le_refl _) _).alloc (by simp) _).alloc (by simp;omega) _;have hR:=ringW_start w h;have HS:=Ih hbs;clear hT hbs;have cW:Hid (∀(s:ByteArray) (i:Nat) W,8<=s.size->s.size<=1073741824->s.data.toList=b.data.toList.drop (8*i)->Calls Tryz.prog 145 #[.string s] W fun e w'=>e=.returned (.int .u64 (N64 (Lz.word64 b.data.toList i 8)))/\W=w'):=Ih (fun s i W h1 h2 h3=>word64_any s h1 h2 b.data.toList i h3 W);obtain⟨l,hl⟩:∃l,l=b.data.toList:=⟨_,rfl⟩;rw[<-hl]at cW⊢;have HL:=Ih hl;clear hl;obtain⟨L,hL⟩:∃L:List UInt64,L=List.replicate 16 0:=⟨_,rfl⟩;obtain⟨W,hW⟩:∃W,W=(((w.alloc (.cells (rowL h.list).toArray 85)).alloc (.cells (rowL zero8).toArray 85)).alloc (.cells (rowL (List.replicate 16 0)).toArray 179)):=⟨_,rfl⟩;rw[<-hW]at hR hB0;rw[<-hL]at hR;have HLL:=Ih hL;have HW:=Ih hW;clear hW hL;have hle1:w.heap.size<=w.heap.size+1:=by omega
 have hle2:w.heap.size<=w.heap.size+1+1:=by omega
 obtain⟨ha,hb,hc,hd,he,hf,hg,hz⟩:=h;have hB:=hB0;clear hB0;go_enter Tryz.func95,Tryz.ntmps95
 go_upto_region 2 with fail
 change Code.wp _ _ _ _ (((w.alloc (.cells (rowL (Lz.St8.mk ha hb hc hd he hf hg hz).list).toArray 85)).alloc (.cells (rowL zero8).toArray 85)).alloc (.cells (rowL (List.replicate 16 0)).toArray 179));rw[<-HW.out];clear HW;generalize w.heap.size+1+1=H2 at hR hle2⊢;generalize w.heap.size+1=H1 at hR hle1⊢;have hC:Hid (∀V,RingW w.heap.size H1 H2 ⟨ha,hb,hc,hd,he,hf,hg,hz⟩ L V->Below w.heap.size w V->((V.cell? ⟨w.heap.size,0,none⟩=some (.int .u64 (N64 ha))/\V.cell? ⟨w.heap.size,1,none⟩=some (.int .u64 (N64 hb))/\V.cell? ⟨w.heap.size,2,none⟩=some (.int .u64 (N64 hc))/\V.cell? ⟨w.heap.size,3,none⟩=some (.int .u64 (N64 hd))/\V.cell? ⟨w.heap.size,4,none⟩=some (.int .u64 (N64 he))/\V.cell? ⟨w.heap.size,5,none⟩=some (.int .u64 (N64 hf))/\V.cell? ⟨w.heap.size,6,none⟩=some (.int .u64 (N64 hg))/\V.cell? ⟨w.heap.size,7,none⟩=some (.int .u64 (N64 hz))))/\RingW w.heap.size H1 H2 ⟨ha,hb,hc,hd,he,hf,hg,hz⟩ L V/\Below w.heap.size w V):=Ih (fun V hV hb=>⟨⟨rowAt hV.own 0 _ rfl,rowAt hV.own 1 _ rfl,rowAt hV.own 2 _ rfl,rowAt hV.own 3 _ rfl,rowAt hV.own 4 _ rfl,rowAt hV.own 5 _ rfl,rowAt hV.own 6 _ rfl,rowAt hV.own 7 _ rfl⟩,hV,hb⟩)
 refine wp_region_held_drew (S:=fun V=>(V.cell? ⟨w.heap.size,0,none⟩=some (.int .u64 (N64 ha))/\V.cell? ⟨w.heap.size,1,none⟩=some (.int .u64 (N64 hb))/\V.cell? ⟨w.heap.size,2,none⟩=some (.int .u64 (N64 hc))/\V.cell? ⟨w.heap.size,3,none⟩=some (.int .u64 (N64 hd))/\V.cell? ⟨w.heap.size,4,none⟩=some (.int .u64 (N64 he))/\V.cell? ⟨w.heap.size,5,none⟩=some (.int .u64 (N64 hf))/\V.cell? ⟨w.heap.size,6,none⟩=some (.int .u64 (N64 hg))/\V.cell? ⟨w.heap.size,7,none⟩=some (.int .u64 (N64 hz)))/\RingW w.heap.size H1 H2 ⟨ha,hb,hc,hd,he,hf,hg,hz⟩ L V/\Below w.heap.size w V) (by kernel_rfl) (hC.out _ hR.drew hB.drew) (fun hHeld=>?_);generalize W.drew=W0 at hHeld⊢;refine TkD 0 (some 18) (v:=?_) rfl rfl ?_ ?_;rotate_left 2;refine TkD 1 (some 19) (v:=?_) rfl rfl ?_ ?_;rotate_left 2;refine TkD 2 (some 20) (v:=?_) rfl rfl ?_ ?_;rotate_left 2;refine TkD 3 (some 21) (v:=?_) rfl rfl ?_ ?_;rotate_left 2;refine TkD 4 (some 22) (v:=?_) rfl rfl ?_ ?_;rotate_left 2;refine TkD 5 (some 23) (v:=?_) rfl rfl ?_ ?_;rotate_left 2;refine TkD 6 (some 24) (v:=?_) rfl rfl ?_ ?_;rotate_left 2;refine TkD 7 (some 25) (v:=?_) rfl rfl ?_ ?_;rotate_left 2;refine TkD 8 (some 26) (v:=?_) rfl rfl ?_ ?_;rotate_left 2
 refine TkD 9 (some 27) (v:=?_) rfl rfl ?_ ?_;rotate_left 2;refine TkD 10 (some 28) (v:=?_) rfl rfl ?_ ?_;rotate_left 2;refine TkD 11 (some 29) (v:=?_) rfl rfl ?_ ?_;rotate_left 2;refine TkD 12 (some 30) (v:=?_) rfl rfl ?_ ?_;rotate_left 2;refine TkD 13 (some 31) (v:=?_) rfl rfl ?_ ?_;rotate_left 2;refine TkD 14 (some 32) (v:=?_) rfl rfl ?_ ?_;rotate_left 2;refine TkD 15 (some 33) (v:=?_) rfl rfl ?_ ?_;rotate_left 2;refine TkD 16 (some 6) (v:=?_) rfl rfl ?_ ?_;rotate_left 2;refine TkD 17 (some 7) (v:=?_) rfl rfl ?_ ?_;rotate_left 2;refine TkD 18 (some 8) (v:=?_) rfl rfl ?_ ?_;rotate_left 2;refine TkD 19 (some 9) (v:=?_) rfl rfl ?_ ?_;rotate_left 2;refine TkD 20 (some 10) (v:=?_) rfl rfl ?_ ?_;rotate_left 2;refine TkD 21 (some 11) (v:=?_) rfl rfl ?_ ?_;rotate_left 2;refine TkD 22 (some 12) (v:=?_) rfl rfl ?_ ?_;rotate_left 2;refine TkD 23 (some 13) (v:=?_) rfl rfl ?_ ?_;rotate_left 2;rotate_left
 iterate 24 (rotate_left;(·(intro W hSw;(try dsimp only at hSw);(try simp only[Act.put]);(try simp only[List.setIfInBounds_toArray]);(try simp only[List.set_cons_zero,List.set_cons_succ]);go_simp;try with_reducible rfl)))
 (try simp only[Act.put]);(try simp only[List.setIfInBounds_toArray]);(try simp only[List.set_cons_zero,List.set_cons_succ])
 refine wpAnyH_done (by kernel_rfl) ?_ _;obtain⟨hR,hB⟩:=hHeld.2;clear hHeld;clear hC;have hR:RingW w.heap.size H1 H2 ⟨ha,hb,hc,hd,he,hf,hg,hz⟩ (Lz.ring64 l 0) W0:=by rw[HLL.out]at hR;exact hR
 clear HLL
 go_wp2_with fail
 go_loopw [6,7,8,9,10,11,12,13,14,15,16,17,34] (fun va vb vc vd ve vf vg vz _ _ _ _ k wr=>∃(i:Nat) (sa sb sc sd se sf sg sz:UInt64),k=.int .i64 i/\va=.int .u64 (N64 sa)/\vb=.int .u64 (N64 sb)/\vc=.int .u64 (N64 sc)/\vd=.int .u64 (N64 sd)/\ve=.int .u64 (N64 se)/\vf=.int .u64 (N64 sf)/\vg=.int .u64 (N64 sg)/\vz=.int .u64 (N64 sz)/\i<=80/\Hid (Lz.rounds64 tab l ⟨ha,hb,hc,hd,he,hf,hg,hz⟩ i=⟨sa,sb,sc,sd,se,sf,sg,sz⟩)/\RingW w.heap.size H1 H2 ⟨ha,hb,hc,hd,he,hf,hg,hz⟩ (Lz.ring64 l i) wr/\Below w.heap.size w wr) (fun _ _ _ _ _ _ _ _ _ _ _ _ k _=>80-(intOf k).toNat)
 case atStart=>exact⟨0,ha,hb,hc,hd,he,hf,hg,hz,rfl,rfl,rfl,rfl,rfl,rfl,rfl,rfl,rfl,by omega,rfl,hR,hB⟩
 case round=>
  obtain⟨i,sa,sb,sc,sd,se,sf,sg,sz,rfl,rfl,rfl,rfl,rfl,rfl,rfl,rfl,rfl,hi,HQ,hR,hB⟩:=hrel;by_cases hlt:i<80
  ·have hltI:(i:Int)<80:=by omega
   obtain⟨m0,hm0⟩:∃m,m=i%16:=⟨_,rfl⟩;have hm0l:m0<16:=by omega
   have hm0I:(i:Int)%16=(m0:Int):=by omega
   have b0:(0:Int)<=(m0:Int)/\(m0:Int)<16:=by omega
   have hi0:(0:Int)<=(i:Int)/\(i:Int)<80:=by omega
   have Hm0:=Ih hm0;clear hm0
   go_upto_if 40 with fail
   go_cut [15] (fun s wx=>s=.int .i64 (m0:Int)/\RingW w.heap.size H1 H2 ⟨ha,hb,hc,hd,he,hf,hg,hz⟩ (Lz.ring64 l (i+1)) wx/\Below w.heap.size w wx)
   case first=>
    by_cases h16:i<16
    ·have h16I:(i:Int)<16:=by omega
     have hmi:m0=i:=by rw[Hm0.out];omega
     have HN:Hid (Lz.ring64 l (i+1)=(Lz.ring64 l i).set m0 (Lz.word64 l i 8)):=by
      show _=_;rw[ring_next _ _ h16,hmi]
     clear hmi;obtain⟨j,hj⟩:∃j,j=8*i:=⟨_,rfl⟩;have w8:IntKind.i64.wrap (8*(i:Int))=(j:Int):=by rw[show 8*(i:Int)=(j:Int) by omega];exact IntWalk.i64_in _ (by omega)
     have hbz:(b.size:Int)=128:=by rw[HS.out];rfl
     have hj1:(0:Int)<=(j:Int)/\(j:Int)<=128:=by omega
     have hz8:(b.extract j b.size).size=128-j:=by rw[ByteArray.size_extract,HS.out];omega
     have cW1:=Ih (fun W=>cW.out (b.extract j b.size) i W (by rw[hz8];omega) (by rw[hz8];omega) (by rw[HL.out,<-hj,HS.out];simp[ByteArray.data_extract];rw[List.take_of_length_le (by rw[List.length_drop,len_of_size,HS.out];exact Nat.le_refl _)]));obtain⟨hcell,hfr⟩:=hR.open m0 (by rw[Lz.ring64_len];exact hm0l);have hRs:=hR.set m0 (Lz.word64 l i 8);have hBs:=hB.setCell (p:=⟨H2,m0,none⟩) hle2 (.int .u64 (N64 (Lz.word64 l i 8)));rw[<-HN.out]at hRs;clear hj hz8
     go_wp2_with fail
     refine(cW1.out _).mono ?_;rintro e w5 ⟨rfl,rfl⟩
     go_wp2_with fail
     go_meet;exact⟨rfl,hRs,hBs⟩
    ·have h16I:¬(i:Int)<16:=by omega
     obtain⟨j1,hj1⟩:∃j,j=i+1:=⟨_,rfl⟩;obtain⟨m1,hm1⟩:∃m,m=j1%16:=⟨_,rfl⟩;have w1:IntKind.i64.wrap ((i:Int)+1)=(j1:Int):=by rw[show(i:Int)+1=(j1:Int) by omega];exact IntWalk.i64_in _ (by omega)
     have r1:Int.tmod (j1:Int) 16=(m1:Int):=by rw[Int.tmod_eq_emod_of_nonneg (by omega)];omega
     have b1:(0:Int)<=(m1:Int)/\(m1:Int)<16:=by omega
     have l1:m1<(Lz.ring64 l i).length:=by rw[Lz.ring64_len];omega
     have ne1:m1≠m0:=by have:=Hm0.out;omega
     obtain⟨x1,hx1⟩:∃x,x=(Lz.ring64 l i).getD m1 0:=⟨_,rfl⟩;obtain⟨j9,hj9⟩:∃j,j=i+9:=⟨_,rfl⟩;obtain⟨m9,hm9⟩:∃m,m=j9%16:=⟨_,rfl⟩;have w9:IntKind.i64.wrap ((i:Int)+9)=(j9:Int):=by rw[show(i:Int)+9=(j9:Int) by omega];exact IntWalk.i64_in _ (by omega)
     have r9:Int.tmod (j9:Int) 16=(m9:Int):=by rw[Int.tmod_eq_emod_of_nonneg (by omega)];omega
     have b9:(0:Int)<=(m9:Int)/\(m9:Int)<16:=by omega
     have l9:m9<(Lz.ring64 l i).length:=by rw[Lz.ring64_len];omega
     have ne9:m9≠m0:=by have:=Hm0.out;omega
     obtain⟨x9,hx9⟩:∃x,x=(Lz.ring64 l i).getD m9 0:=⟨_,rfl⟩;obtain⟨j14,hj14⟩:∃j,j=i+14:=⟨_,rfl⟩;obtain⟨m14,hm14⟩:∃m,m=j14%16:=⟨_,rfl⟩;have w14:IntKind.i64.wrap ((i:Int)+14)=(j14:Int):=by rw[show(i:Int)+14=(j14:Int) by omega];exact IntWalk.i64_in _ (by omega)
     have r14:Int.tmod (j14:Int) 16=(m14:Int):=by rw[Int.tmod_eq_emod_of_nonneg (by omega)];omega
     have b14:(0:Int)<=(m14:Int)/\(m14:Int)<16:=by omega
     have l14:m14<(Lz.ring64 l i).length:=by rw[Lz.ring64_len];omega
     have ne14:m14≠m0:=by have:=Hm0.out;omega
     obtain⟨x14,hx14⟩:∃x,x=(Lz.ring64 l i).getD m14 0:=⟨_,rfl⟩;have hm0l:m0<(Lz.ring64 l i).length:=by rw[Lz.ring64_len];omega
     obtain⟨x0,hx0⟩:∃x,x=(Lz.ring64 l i).getD m0 0:=⟨_,rfl⟩
     have HN:Hid (Lz.ring64 l (i+1)=(Lz.ring64 l i).set m0 (x0+((Lz.three64 x1 1 8 7 false+x9)+Lz.three64 x14 19 61 6 false))):=by
      show _=_;rw[Lz.ring64,if_neg h16,<-Hm0.out,<-hj1,<-hj9,<-hj14,<-hm1,<-hm9,<-hm14,<-hx0,<-hx1,<-hx9,<-hx14]
     have hC9:Hid (∀V,RingW w.heap.size H1 H2 ⟨ha,hb,hc,hd,he,hf,hg,hz⟩ (Lz.ring64 l i) V->(V.cell? ⟨H2,m1,none⟩=some (.int .u64 (N64 x1))/\V.cell? ⟨H2,m9,none⟩=some (.int .u64 (N64 x9))/\V.cell? ⟨H2,m14,none⟩=some (.int .u64 (N64 x14)))):=Ih (fun V hV=>⟨by rw[hx1];exact(hV.open m1 l1).1,by rw[hx9];exact(hV.open m9 l9).1,by rw[hx14];exact(hV.open m14 l14).1⟩);have k1:Hid (∀W,Calls Tryz.prog 146 #[.int .u64 (N64 x1),.int .i64 1,.int .i64 8,.int .i64 7,.bool false] W fun e w'=>e=.returned (.int .u64 (N64 (Lz.three64 x1 1 8 7 false)))/\W=w'):=Ih (fun W=>three_any x1 1 8 7 (by omega) (by omega) (by omega) false W);have k14:Hid (∀W,Calls Tryz.prog 146 #[.int .u64 (N64 x14),.int .i64 19,.int .i64 61,.int .i64 6,.bool false] W fun e w'=>e=.returned (.int .u64 (N64 (Lz.three64 x14 19 61 6 false)))/\W=w'):=Ih (fun W=>three_any x14 19 61 6 (by omega) (by omega) (by omega) false W);have fp:=np64;have Hx0:=Ih hx0;clear hx0 hj1 hj9 hj14 hm1 hm9 hm14 hx1 hx9 hx14 l1 l9 l14
     go_upto_region 9 with fail
     have hR0:=hR.drew;refine wp_region_held_drew (S:=fun V=>(V.cell? ⟨H2,m1,none⟩=some (.int .u64 (N64 x1))/\V.cell? ⟨H2,m9,none⟩=some (.int .u64 (N64 x9))/\V.cell? ⟨H2,m14,none⟩=some (.int .u64 (N64 x14)))/\Below w.heap.size w V) (by kernel_rfl) ⟨hC9.out _ hR.drew,hB.drew⟩ (fun hHeld=>?_);generalize wr.drew=W1 at hHeld hR0⊢;obtain⟨hcell,hfr⟩:=hR0.open m0 hm0l;rw[<-Hx0.out]at hcell;refine TkD 0 (some 48) (v:=?_) rfl rfl ?_ ?_;rotate_left 2;refine TkD 1 (some 49) (v:=?_) rfl rfl ?_ ?_;rotate_left 2;refine TkD 3 (some 51) (v:=?_) rfl rfl ?_ ?_;rotate_left 2;refine TkD 4 (some 52) (v:=?_) rfl rfl ?_ ?_;rotate_left 2;refine TkD 5 (some 53) (v:=?_) rfl rfl ?_ ?_;rotate_left 2;refine TkD 6 (some 54) (v:=?_) rfl rfl ?_ ?_;rotate_left 2;refine TkD 7 (some 55) (v:=?_) rfl rfl ?_ ?_;rotate_left 2;refine TkD 9 (some 57) (v:=?_) rfl rfl ?_ ?_;rotate_left 2;refine TkD 10 (some 58) (v:=?_) rfl rfl ?_ ?_;rotate_left 2;refine TkD 11 (some 59) (v:=?_) rfl rfl ?_ ?_;rotate_left 2;refine TkD 12 (some 60) (v:=?_) rfl rfl ?_ ?_;rotate_left 2;refine TkD 13 (some 61) (v:=?_) rfl rfl ?_ ?_;rotate_left 2;refine TkD 15 (some 63) (v:=?_) rfl rfl ?_ ?_;rotate_left 2
     refine TkD 16 (some 64) (v:=?_) rfl rfl ?_ ?_;rotate_left 2;refine TkD 17 (some 65) (v:=?_) rfl rfl ?_ ?_;rotate_left 2;refine TkD 18 (some 66) (v:=?_) rfl rfl ?_ ?_;rotate_left 2;refine TkD 19 (some 67) (v:=?_) rfl rfl ?_ ?_;rotate_left 2;rotate_left
     iterate 17 (rotate_left;(·(intro W hSw;(try dsimp only at hSw);(try simp only[Act.put]);(try simp only[List.setIfInBounds_toArray]);(try simp only[List.set_cons_zero,List.set_cons_succ]);go_simp;try with_reducible rfl)))
     (try simp only[Act.put]);(try simp only[List.setIfInBounds_toArray]);(try simp only[List.set_cons_zero,List.set_cons_succ])
     refine wpAnyH_ready (rs:=[2,8]) (by kernel_rfl) (by simp) ?_;refine AllReadyH.cons rfl (fun K hK=>?_) (AllReadyH.cons rfl (fun K hK=>?_) AllReadyH.nil)
     ·go_simp;refine hK.out _ _ hHeld (fun hHeld=>?_);clear hK K
      (try simp only[Act.put]);(try simp only[List.setIfInBounds_toArray]);(try simp only[List.set_cons_zero,List.set_cons_succ])
      refine wpAnyH_ready (rs:=[8]) (by kernel_rfl) (by simp) ?_;refine AllReadyH.cons rfl (fun K hK=>?_) AllReadyH.nil;go_simp
      go_at_call 146
      refine(k1.out _).mono ?_;rintro e w5 ⟨rfl,rfl⟩;refine hK.out _ _ hHeld (fun hHeld=>?_);clear hK K
      (try simp only[Act.put]);(try simp only[List.setIfInBounds_toArray]);(try simp only[List.set_cons_zero,List.set_cons_succ])
      refine TkD 14 (some 62) (v:=?_) rfl rfl ?_ ?_;rotate_left 2;rotate_left
      iterate 1 (rotate_left;(·(intro W hSw;(try dsimp only at hSw);(try simp only[Act.put]);(try simp only[List.setIfInBounds_toArray]);(try simp only[List.set_cons_zero,List.set_cons_succ]);go_simp;try with_reducible rfl)))
      (try simp only[Act.put]);(try simp only[List.setIfInBounds_toArray]);(try simp only[List.set_cons_zero,List.set_cons_succ])
      refine wpAnyH_ready (rs:=[20]) (by kernel_rfl) (by simp) ?_;refine AllReadyH.cons rfl (fun K hK=>?_) AllReadyH.nil;go_simp
      go_at_call 146
      refine(k14.out _).mono ?_;rintro e w5 ⟨rfl,rfl⟩;refine hK.out _ _ hHeld (fun hHeld=>?_);clear hK K
      (try simp only[Act.put]);(try simp only[List.setIfInBounds_toArray]);(try simp only[List.set_cons_zero,List.set_cons_succ])
      refine TkD 21 (some 69) (v:=?_) rfl rfl ?_ ?_;rotate_left 2;refine TkD 22 (some 70) (v:=?_) rfl rfl ?_ ?_;rotate_left 2;refine TkD 23 (some 71) (v:=?_) rfl rfl ?_ ?_;rotate_left 2;rotate_left
      iterate 3 (rotate_left;(·(intro W hSw;(try dsimp only at hSw);(try simp only[Act.put]);(try simp only[List.setIfInBounds_toArray]);(try simp only[List.set_cons_zero,List.set_cons_succ]);go_simp;try with_reducible rfl)))
      (try simp only[Act.put]);(try simp only[List.setIfInBounds_toArray]);(try simp only[List.set_cons_zero,List.set_cons_succ])
      refine wpAnyH_ready (rs:=[24]) (by kernel_rfl) (by simp) ?_;refine AllReadyH.cons rfl (fun K hK=>?_) AllReadyH.nil;go_simp;refine hK.out _ _ ⟨⟨(World.cell?_setCell_other _ _ _ _ (cell_ne (by assumption))).trans hHeld.1.1,(World.cell?_setCell_other _ _ _ _ (cell_ne (by assumption))).trans hHeld.1.2.1,(World.cell?_setCell_other _ _ _ _ (cell_ne (by assumption))).trans hHeld.1.2.2⟩,hHeld.2.setCell hle2 _⟩ (fun hHeld=>?_);clear hK K
      (try simp only[Act.put]);(try simp only[List.setIfInBounds_toArray]);(try simp only[List.set_cons_zero,List.set_cons_succ])
      refine wpAnyH_done (by kernel_rfl) ?_ _;have hRs:=hR0.set m0 (x0+((Lz.three64 x1 1 8 7 false+x9)+Lz.three64 x14 19 61 6 false));rw[<-HN.out]at hRs;clear hR0 hcell hfr
      go_wp2_with fail
      go_meet;exact⟨rfl,hRs,hHeld.2⟩
     ·go_simp
      go_at_call 146
      refine(k1.out _).mono ?_;rintro e w5 ⟨rfl,rfl⟩;refine hK.out _ _ hHeld (fun hHeld=>?_);clear hK K
      (try simp only[Act.put]);(try simp only[List.setIfInBounds_toArray]);(try simp only[List.set_cons_zero,List.set_cons_succ])
      refine TkD 14 (some 62) (v:=?_) rfl rfl ?_ ?_;rotate_left 2;rotate_left
      iterate 1 (rotate_left;(·(intro W hSw;(try dsimp only at hSw);(try simp only[Act.put]);(try simp only[List.setIfInBounds_toArray]);(try simp only[List.set_cons_zero,List.set_cons_succ]);go_simp;try with_reducible rfl)))
      (try simp only[Act.put]);(try simp only[List.setIfInBounds_toArray]);(try simp only[List.set_cons_zero,List.set_cons_succ])
      refine wpAnyH_ready (rs:=[2,20]) (by kernel_rfl) (by simp) ?_;refine AllReadyH.cons rfl (fun K hK=>?_) (AllReadyH.cons rfl (fun K hK=>?_) AllReadyH.nil)
      ·go_simp;refine hK.out _ _ hHeld (fun hHeld=>?_);clear hK K
       (try simp only[Act.put]);(try simp only[List.setIfInBounds_toArray]);(try simp only[List.set_cons_zero,List.set_cons_succ])
       refine wpAnyH_ready (rs:=[20]) (by kernel_rfl) (by simp) ?_;refine AllReadyH.cons rfl (fun K hK=>?_) AllReadyH.nil;go_simp
       go_at_call 146
       refine(k14.out _).mono ?_;rintro e w5 ⟨rfl,rfl⟩;refine hK.out _ _ hHeld (fun hHeld=>?_);clear hK K
       (try simp only[Act.put]);(try simp only[List.setIfInBounds_toArray]);(try simp only[List.set_cons_zero,List.set_cons_succ])
       refine TkD 21 (some 69) (v:=?_) rfl rfl ?_ ?_;rotate_left 2;refine TkD 22 (some 70) (v:=?_) rfl rfl ?_ ?_;rotate_left 2;refine TkD 23 (some 71) (v:=?_) rfl rfl ?_ ?_;rotate_left 2;rotate_left
       iterate 3 (rotate_left;(·(intro W hSw;(try dsimp only at hSw);(try simp only[Act.put]);(try simp only[List.setIfInBounds_toArray]);(try simp only[List.set_cons_zero,List.set_cons_succ]);go_simp;try with_reducible rfl)))
       (try simp only[Act.put]);(try simp only[List.setIfInBounds_toArray]);(try simp only[List.set_cons_zero,List.set_cons_succ])
       refine wpAnyH_ready (rs:=[24]) (by kernel_rfl) (by simp) ?_;refine AllReadyH.cons rfl (fun K hK=>?_) AllReadyH.nil;go_simp;refine hK.out _ _ ⟨⟨(World.cell?_setCell_other _ _ _ _ (cell_ne (by assumption))).trans hHeld.1.1,(World.cell?_setCell_other _ _ _ _ (cell_ne (by assumption))).trans hHeld.1.2.1,(World.cell?_setCell_other _ _ _ _ (cell_ne (by assumption))).trans hHeld.1.2.2⟩,hHeld.2.setCell hle2 _⟩ (fun hHeld=>?_);clear hK K
       (try simp only[Act.put]);(try simp only[List.setIfInBounds_toArray]);(try simp only[List.set_cons_zero,List.set_cons_succ])
       refine wpAnyH_done (by kernel_rfl) ?_ _;have hRs:=hR0.set m0 (x0+((Lz.three64 x1 1 8 7 false+x9)+Lz.three64 x14 19 61 6 false));rw[<-HN.out]at hRs;clear hR0 hcell hfr
       go_wp2_with fail
       go_meet;exact⟨rfl,hRs,hHeld.2⟩
      ·go_simp
       go_at_call 146
       refine(k14.out _).mono ?_;rintro e w5 ⟨rfl,rfl⟩;refine hK.out _ _ hHeld (fun hHeld=>?_);clear hK K
       (try simp only[Act.put]);(try simp only[List.setIfInBounds_toArray]);(try simp only[List.set_cons_zero,List.set_cons_succ])
       refine TkD 21 (some 69) (v:=?_) rfl rfl ?_ ?_;rotate_left 2;rotate_left
       iterate 1 (rotate_left;(·(intro W hSw;(try dsimp only at hSw);(try simp only[Act.put]);(try simp only[List.setIfInBounds_toArray]);(try simp only[List.set_cons_zero,List.set_cons_succ]);go_simp;try with_reducible rfl)))
       (try simp only[Act.put]);(try simp only[List.setIfInBounds_toArray]);(try simp only[List.set_cons_zero,List.set_cons_succ])
       refine wpAnyH_ready (rs:=[2]) (by kernel_rfl) (by simp) ?_;refine AllReadyH.cons rfl (fun K hK=>?_) AllReadyH.nil;go_simp;refine hK.out _ _ hHeld (fun hHeld=>?_);clear hK K
       (try simp only[Act.put]);(try simp only[List.setIfInBounds_toArray]);(try simp only[List.set_cons_zero,List.set_cons_succ])
       refine TkD 22 (some 70) (v:=?_) rfl rfl ?_ ?_;rotate_left 2;refine TkD 23 (some 71) (v:=?_) rfl rfl ?_ ?_;rotate_left 2;rotate_left
       iterate 2 (rotate_left;(·(intro W hSw;(try dsimp only at hSw);(try simp only[Act.put]);(try simp only[List.setIfInBounds_toArray]);(try simp only[List.set_cons_zero,List.set_cons_succ]);go_simp;try with_reducible rfl)))
       (try simp only[Act.put]);(try simp only[List.setIfInBounds_toArray]);(try simp only[List.set_cons_zero,List.set_cons_succ])
       refine wpAnyH_ready (rs:=[24]) (by kernel_rfl) (by simp) ?_;refine AllReadyH.cons rfl (fun K hK=>?_) AllReadyH.nil;go_simp;refine hK.out _ _ ⟨⟨(World.cell?_setCell_other _ _ _ _ (cell_ne (by assumption))).trans hHeld.1.1,(World.cell?_setCell_other _ _ _ _ (cell_ne (by assumption))).trans hHeld.1.2.1,(World.cell?_setCell_other _ _ _ _ (cell_ne (by assumption))).trans hHeld.1.2.2⟩,hHeld.2.setCell hle2 _⟩ (fun hHeld=>?_);clear hK K
       (try simp only[Act.put]);(try simp only[List.setIfInBounds_toArray]);(try simp only[List.set_cons_zero,List.set_cons_succ])
       refine wpAnyH_done (by kernel_rfl) ?_ _;have hRs:=hR0.set m0 (x0+((Lz.three64 x1 1 8 7 false+x9)+Lz.three64 x14 19 61 6 false));rw[<-HN.out]at hRs;clear hR0 hcell hfr
       go_wp2_with fail
       go_meet;exact⟨rfl,hRs,hHeld.2⟩
   case rest=>
    obtain⟨rfl,hR,hB⟩:=hcut;obtain⟨L1,hL1⟩:∃L,L=Lz.ring64 l (i+1):=⟨_,rfl⟩;rw[<-hL1]at hR;obtain⟨ki,hki⟩:∃k,k=tab.getD i 0:=⟨_,rfl⟩;obtain⟨xi,hxi⟩:∃k,k=L1.getD m0 0:=⟨_,rfl⟩
    have HX:Hid (Lz.rounds64 tab l ⟨ha,hb,hc,hd,he,hf,hg,hz⟩ (i+1)=Lz.rnd64 ⟨sa,sb,sc,sd,se,sf,sg,sz⟩ ki xi):=by
     show _=_;rw[Lz.rounds64,HQ.out,<-hki,hxi,hL1,Hm0.out]
    have hl1:m0<L1.length:=by rw[hL1,Lz.ring64_len];exact hm0l
    have hC10:Hid (∀V,RingW w.heap.size H1 H2 ⟨ha,hb,hc,hd,he,hf,hg,hz⟩ L1 V->Below w.heap.size w V->(V.cell? ⟨2,i,none⟩=some (.int .u64 (N64 ki))/\V.cell? ⟨H2,m0,none⟩=some (.int .u64 (N64 xi)))/\RingW w.heap.size H1 H2 ⟨ha,hb,hc,hd,he,hf,hg,hz⟩ L1 V/\Below w.heap.size w V):=Ih (fun V hV hb=>⟨⟨by rw[hki,hb.cell HT.out.1];exact HT.out.2 i hlt,by rw[hxi];exact(hV.open m0 hl1).1⟩,hV,hb⟩);have ke:Hid (∀W,Calls Tryz.prog 146 #[.int .u64 (N64 se),.int .i64 14,.int .i64 18,.int .i64 41,.bool true] W fun e w'=>e=.returned (.int .u64 (N64 (Lz.three64 se 14 18 41 true)))/\W=w'):=Ih (fun W=>three_any se 14 18 41 (by omega) (by omega) (by omega) true W);have ka:Hid (∀W,Calls Tryz.prog 146 #[.int .u64 (N64 sa),.int .i64 28,.int .i64 34,.int .i64 39,.bool true] W fun e w'=>e=.returned (.int .u64 (N64 (Lz.three64 sa 28 34 39 true)))/\W=w'):=Ih (fun W=>three_any sa 28 34 39 (by omega) (by omega) (by omega) true W);have fp:=np64;have fa:=na64;have fo:=no64;have fd:=nd64;have HL1:=Ih hL1;clear hki hxi hl1 hL1
    go_upto_region 10 with fail
    refine wp_region_held_drew (S:=fun V=>(V.cell? ⟨2,i,none⟩=some (.int .u64 (N64 ki))/\V.cell? ⟨H2,m0,none⟩=some (.int .u64 (N64 xi)))/\RingW w.heap.size H1 H2 ⟨ha,hb,hc,hd,he,hf,hg,hz⟩ L1 V/\Below w.heap.size w V) (by kernel_rfl) (hC10.out _ hR.drew hB.drew) (fun hHeld=>?_);generalize wc.drew=W2 at hHeld⊢;refine TkD 0 (some 72) (v:=?_) rfl rfl ?_ ?_;rotate_left 2;refine TkD 1 (some 73) (v:=?_) rfl rfl ?_ ?_;rotate_left 2;refine TkD 4 (some 76) (v:=?_) rfl rfl ?_ ?_;rotate_left 2;refine TkD 5 (some 77) (v:=?_) rfl rfl ?_ ?_;rotate_left 2;refine TkD 6 (some 78) (v:=?_) rfl rfl ?_ ?_;rotate_left 2;refine TkD 7 (some 79) (v:=?_) rfl rfl ?_ ?_;rotate_left 2;refine TkD 8 (some 80) (v:=?_) rfl rfl ?_ ?_;rotate_left 2;refine TkD 9 (some 81) (v:=?_) rfl rfl ?_ ?_;rotate_left 2;refine TkD 10 (some 82) (v:=?_) rfl rfl ?_ ?_;rotate_left 2;refine TkD 12 (some 84) (v:=?_) rfl rfl ?_ ?_;rotate_left 2;refine TkD 13 (some 85) (v:=?_) rfl rfl ?_ ?_;rotate_left 2;refine TkD 14 (some 86) (v:=?_) rfl rfl ?_ ?_;rotate_left 2;refine TkD 16 (some 88) (v:=?_) rfl rfl ?_ ?_;rotate_left 2;refine TkD 17 (some 89) (v:=?_) rfl rfl ?_ ?_;rotate_left 2
    refine TkD 18 (some 90) (v:=?_) rfl rfl ?_ ?_;rotate_left 2;rotate_left
    iterate 15 (rotate_left;(·(intro W hSw;(try dsimp only at hSw);(try simp only[Act.put]);(try simp only[List.setIfInBounds_toArray]);(try simp only[List.set_cons_zero,List.set_cons_succ]);go_simp;try with_reducible rfl)))
    (try simp only[Act.put]);(try simp only[List.setIfInBounds_toArray]);(try simp only[List.set_cons_zero,List.set_cons_succ])
    refine wpAnyH_ready (rs:=[2]) (by kernel_rfl) (by simp) ?_;refine AllReadyH.cons rfl (fun K hK=>?_) AllReadyH.nil;go_simp
    go_at_call 146
    refine(ke.out _).mono ?_;rintro e w5 ⟨rfl,rfl⟩;refine hK.out _ _ hHeld (fun hHeld=>?_);clear hK K
    (try simp only[Act.put]);(try simp only[List.setIfInBounds_toArray]);(try simp only[List.set_cons_zero,List.set_cons_succ])
    refine TkD 3 (some 75) (v:=?_) rfl rfl ?_ ?_;rotate_left 2;refine TkD 11 (some 83) (v:=?_) rfl rfl ?_ ?_;rotate_left 2;refine TkD 15 (some 87) (v:=?_) rfl rfl ?_ ?_;rotate_left 2;refine TkD 19 (some 91) (v:=?_) rfl rfl ?_ ?_;rotate_left 2;refine TkD 20 (some 16) (v:=?_) rfl rfl ?_ ?_;rotate_left 2;rotate_left
    iterate 5 (rotate_left;(·(intro W hSw;(try dsimp only at hSw);(try simp only[Act.put]);(try simp only[List.setIfInBounds_toArray]);(try simp only[List.set_cons_zero,List.set_cons_succ]);go_simp;try with_reducible rfl)))
    (try simp only[Act.put]);(try simp only[List.setIfInBounds_toArray]);(try simp only[List.set_cons_zero,List.set_cons_succ])
    refine wpAnyH_done (by kernel_rfl) ?_ _;obtain⟨hR,hB⟩:=hHeld.2;clear hHeld;obtain⟨t,ht⟩:∃t,t=(((sz+Lz.three64 se 14 18 41 true)+((se&&& sf)||| (sg&&& ~~~se)))+ki)+xi:=⟨_,rfl⟩;rw[<-ht];have HTE:=Ih ht;clear ht
    have HX1:Hid (Lz.rounds64 tab l ⟨ha,hb,hc,hd,he,hf,hg,hz⟩ (i+1)=⟨t+(Lz.three64 sa 28 34 39 true+((sa&&& sb)||| (sc&&& (sa||| sb)))),sa,sb,sc,sd+t,se,sf,sg⟩):=by
     show _=_;rw[HX.out,HTE.out];rfl
    clear HX HTE
    go_wp2_with fail
    refine(ka.out _).mono ?_;rintro e w5 ⟨rfl,rfl⟩;rw[HL1.out]at hR
    go_wp2_with fail
    go_roundw
    case rel=>exact⟨i+1,_,_,_,_,_,_,_,_,by go_num,rfl,rfl,rfl,rfl,rfl,rfl,rfl,rfl,by omega,HX1,hR,hB⟩
    case measure=>simp[intOf];omega
  ·obtain rfl:i=80:=by omega
   have hltI:¬(((80:Nat):Int)<80):=by omega
   obtain⟨c0,c1,c2,c3,c4,c5,c6,c7⟩:wr.cell? ⟨w.heap.size,0,none⟩=some (.int .u64 (N64 ha))/\wr.cell? ⟨w.heap.size,1,none⟩=some (.int .u64 (N64 hb))/\wr.cell? ⟨w.heap.size,2,none⟩=some (.int .u64 (N64 hc))/\wr.cell? ⟨w.heap.size,3,none⟩=some (.int .u64 (N64 hd))/\wr.cell? ⟨w.heap.size,4,none⟩=some (.int .u64 (N64 he))/\wr.cell? ⟨w.heap.size,5,none⟩=some (.int .u64 (N64 hf))/\wr.cell? ⟨w.heap.size,6,none⟩=some (.int .u64 (N64 hg))/\wr.cell? ⟨w.heap.size,7,none⟩=some (.int .u64 (N64 hz)):=⟨rowAt hR.own 0 _ rfl,rowAt hR.own 1 _ rfl,rowAt hR.own 2 _ rfl,rowAt hR.own 3 _ rfl,rowAt hR.own 4 _ rfl,rowAt hR.own 5 _ rfl,rowAt hR.own 6 _ rfl,rowAt hR.own 7 _ rfl⟩;obtain⟨d0,d1,d2,d3,d4,d5,d6,d7⟩:wr.cell? ⟨H1,0,none⟩=some (.int .u64 0)/\wr.cell? ⟨H1,1,none⟩=some (.int .u64 0)/\wr.cell? ⟨H1,2,none⟩=some (.int .u64 0)/\wr.cell? ⟨H1,3,none⟩=some (.int .u64 0)/\wr.cell? ⟨H1,4,none⟩=some (.int .u64 0)/\wr.cell? ⟨H1,5,none⟩=some (.int .u64 0)/\wr.cell? ⟨H1,6,none⟩=some (.int .u64 0)/\wr.cell? ⟨H1,7,none⟩=some (.int .u64 0):=⟨rowAt hR.out 0 _ rfl,rowAt hR.out 1 _ rfl,rowAt hR.out 2 _ rfl,rowAt hR.out 3 _ rfl,rowAt hR.out 4 _ rfl,rowAt hR.out 5 _ rfl,rowAt hR.out 6 _ rfl,rowAt hR.out 7 _ rfl⟩
   obtain⟨f0,f1,f2,f3,f4,f5,f6,f7⟩:wr.frozen? ⟨H1,0,none⟩=false/\wr.frozen? ⟨H1,1,none⟩=false/\wr.frozen? ⟨H1,2,none⟩=false/\wr.frozen? ⟨H1,3,none⟩=false/\wr.frozen? ⟨H1,4,none⟩=false/\wr.frozen? ⟨H1,5,none⟩=false/\wr.frozen? ⟨H1,6,none⟩=false/\wr.frozen? ⟨H1,7,none⟩=false:=⟨frozen_of_row _ _ _ _ _ hR.out,frozen_of_row _ _ _ _ _ hR.out,frozen_of_row _ _ _ _ _ hR.out,frozen_of_row _ _ _ _ _ hR.out,frozen_of_row _ _ _ _ _ hR.out,frozen_of_row _ _ _ _ _ hR.out,frozen_of_row _ _ _ _ _ hR.out,frozen_of_row _ _ _ _ _ hR.out⟩;have hO:=row_set (row_set (row_set (row_set (row_set (row_set (row_set (row_set (hR.out) 0 (.int .u64 (N64 (ha+sa)))) 1 (.int .u64 (N64 (hb+sb)))) 2 (.int .u64 (N64 (hc+sc)))) 3 (.int .u64 (N64 (hd+sd)))) 4 (.int .u64 (N64 (he+se)))) 5 (.int .u64 (N64 (hf+sf)))) 6 (.int .u64 (N64 (hg+sg)))) 7 (.int .u64 (N64 (hz+sz)))
   have hBO:=((((((((hB.setCell (p:=⟨H1,0,none⟩) hle1 (.int .u64 (N64 (ha+sa)))).setCell (p:=⟨H1,1,none⟩) hle1 (.int .u64 (N64 (hb+sb)))).setCell (p:=⟨H1,2,none⟩) hle1 (.int .u64 (N64 (hc+sc)))).setCell (p:=⟨H1,3,none⟩) hle1 (.int .u64 (N64 (hd+sd)))).setCell (p:=⟨H1,4,none⟩) hle1 (.int .u64 (N64 (he+se)))).setCell (p:=⟨H1,5,none⟩) hle1 (.int .u64 (N64 (hf+sf)))).setCell (p:=⟨H1,6,none⟩) hle1 (.int .u64 (N64 (hg+sg)))).setCell (p:=⟨H1,7,none⟩) hle1 (.int .u64 (N64 (hz+sz))));have fp:=np64
   go_wp2_with fail
   refine bodyPost_ret (results_cell_row (P:=Tryz.prog) (p:=4) rfl _ _ H1 85 (rowL (Lz.add8 (Lz.St8.mk ha hb hc hd he hf hg hz) (Lz.St8.mk sa sb sc sd se sf sg sz)).list).toArray (0,0) _ rfl (by exact hO) Tryz.underlying85 rfl (by exact hash_size)) rfl ?_;refine⟨?_,hBO⟩;unfold Lz.with64;rw[HQ.out]
end Go.Proofs.YtjhccadmmnjpeaaGreatDoor
namespace Lz
open Go
def erQ:UR->Prop
 | .ok _=>True
 | .er n=>n=70\/n=71\/n=72\/n=81\/n=82
theorem erQ_bind {r:UR} {f:UrlL->UR} (h:erQ r) (hf:∀u,erQ (f u)):erQ (r.bind f):=by
 cases r with
 | ok u=>exact hf u
 | er n=>exact h
theorem erQ_host (u:UrlL) (s:Bs):erQ (hostU u s):=by
 unfold hostU;split
 ·rename_i n e;cases hsp:specP u.scheme with
  | true=>rw[hsp]at e;rcases host_err_true _ _ e with h|h|h<;>simp[erQ,h]
  | false=>rw[hsp]at e;rcases host_err_false _ _ e with h|h<;>simp[erQ,h]
 ·trivial
theorem erQ_port (u:UrlL) (s:Bs):erQ (portU u s):=by
 unfold portU;split
 ·simp[erQ]
 ·split<;>simp[erQ]
theorem erQ_place (u:UrlL) (a:Bs):erQ (placeU u a):=by
 unfold placeU;split
 ·split
  ·simp[erQ]
  ·exact erQ_bind (erQ_host _ _) fun u=>erQ_port _ _
 ·split
  ·simp[erQ]
  ·exact erQ_bind (erQ_host _ _) fun u=>erQ_port _ _
theorem erQ_auth (u:UrlL) (a:Bs):erQ (authU u a):=by
 unfold authU;split
 ·split
  ·simp[erQ]
  ·exact erQ_place _ _
 ·exact erQ_place _ _
theorem erQ_hosted (u:UrlL) (r:Bs):erQ (hostedU u r):=erQ_bind (erQ_auth _ _) fun _=>trivial
theorem erQ_rel (u b:UrlL) (r:Bs):erQ (relU u b r):=by
 unfold relU;simp only;split
 ·exact erQ_hosted _ _
 ·split<;>trivial
theorem erQ_files (u:UrlL) (b:Option UrlL) (r:Bs):erQ (filesU u b r):=by
 unfold filesU;simp only;split
 ·split
  ·trivial
  ·refine erQ_bind ?_ fun _=>trivial;split
   ·trivial
   ·exact erQ_host _ _
 ·split
  ·trivial
  ·split
   ·split
    ·split<;>trivial
    ·trivial
   ·trivial
theorem erQ_main (u:UrlL) (s:Bs) (b:Option UrlL):erQ (mainU u s b):=by
 unfold mainU;simp only;split
 ·split
  ·exact erQ_files _ _ _
  ·split
   ·split
    ·split
     ·exact erQ_rel _ _ _
     ·exact erQ_hosted _ _
    ·exact erQ_hosted _ _
   ·split
    ·exact erQ_hosted _ _
    ·split<;>trivial
 ·split
  ·simp[erQ]
  ·split
   ·simp[erQ]
   ·split
    ·trivial
    ·split
     ·exact erQ_files _ _ _
     ·exact erQ_rel _ _ _
theorem readU_err {s:Bs} {b:Option UrlL} {n:Nat} (e:readU s b=.er n):n=70\/n=71\/n=72\/n=81\/n=82:=by
 have h:erQ (readU s b):=erQ_bind (erQ_main _ _ _) fun _=>trivial;rw[e]at h;exact h
end Lz
