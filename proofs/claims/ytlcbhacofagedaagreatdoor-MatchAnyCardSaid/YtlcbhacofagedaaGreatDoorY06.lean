/-
  The walk of sources.scheme; what the library's functions that package sources calls return, in one form; the condition on the world (Env) that they ask.
-/
import Derived.Test.YtlcbhacofagedaaGreatDoorY05
set_option maxRecDepth 100000
namespace Go.Proofs.YtlcbhacofagedaaGreatDoor
open Go.RowKit
theorem ak {s:ByteArray} (h:s.size=0):s.toList.isEmpty=true:=by
 rw[Lib.toList_data,List.isEmpty_iff,<-List.length_eq_zero_iff,aa,h]
theorem aj {s:ByteArray} (h:0<s.size):s.toList.isEmpty=false:=by
 rw[Lib.toList_data];cases hl:s.data.toList with
 | nil=>rw[<-aa,hl]at h;simp at h
 | cons _ _=>rfl
theorem aw {s:ByteArray} {n:Nat} (h:n<s.size):s.data.toList[n]? =some s[n]:=by
 rw[List.getElem?_eq_getElem (by rw[aa];exact h)];rfl
theorem vB (s:ByteArray) (hs:s.size<=1073741824) (w:World):Calls Tryz.prog 98 #[.string s] w fun e w'=>e=.returned (.bool (Lz.bO s.data.toList))/\w=w':=by
 have ca:=Ih (py zm s (by omega) w);by_cases h0:0<s.size
 ·have he:=aj h0;have hg:=aw h0
  have hx:Lz.bO s.data.toList=(Lz.aW s[0]&&Lz.dj Lz.eH s.data.toList):=by
   unfold Lz.bO;cases hl:s.data.toList with
   | nil=>rw[hl]at hg;cases hg
   | cons a r=>rw[hl]at hg;simp at hg;rw[hg]
  rw[hx];have cb:=Ih (kz s[0] w);clear hx hg;generalize Lz.dj Lz.eH s.data.toList=b at ca⊢;generalize Lz.aW s[0]=a at cb⊢;cases a<;>
  ·go_enter Tryz.func98,Tryz.ntmps98
   go_wp2_with fail
   refine(cb.out).mono ?_;rintro e w' ⟨rfl,rfl⟩
   go_wp2_with (go_at_call 147;refine(ca.out).mono ?_;rintro e w' ⟨rfl,rfl⟩)
   go_ret;exact⟨rfl,rfl⟩
 ·have hz:s.size=0:=by omega
  have he:=ak hz
  have hx:Lz.bO s.data.toList=false:=by
   have:s.data.toList=[]:=by rw[<-List.length_eq_zero_iff,aa,hz]
   rw[this];rfl
  rw[hx];clear hx hz h0;go_enter Tryz.func98,Tryz.ntmps98
  go_wp2
  go_ret;exact⟨rfl,rfl⟩
structure Env (w:World):Prop where
 ml:∃m,w.cell? ⟨3,0,none⟩=some (.int .i64 m)
 pow:Lib.TabIs Tryz.prog w "internal/strconv.uint64pow10" .u64 Lib.pow10Tab
 syn:∃te pe,w.cell? ⟨9,0,none⟩=some (.iface te pe)
 rng:∃te pe,w.cell? ⟨10,0,none⟩=some (.iface te pe)
 et:w.cell? ⟨1,0,none⟩=some (.iface 149 (.agg #[.pointer (some ⟨11,59,none⟩)]))
 kw:∃b o c,w.cell? ⟨2,0,none⟩=some (.slice (some ⟨b,o,none⟩) 8 c)/\b<w.heap.size/\∀j,j<8->w.cell? ⟨b,o+j,none⟩=some (.string ((Lz.bq.map (fun l=>(⟨l.toArray⟩:ByteArray))).getD j ByteArray.empty))
 size:11<=w.heap.size
theorem Qd:Tryz.prog.globalNamed "internal/strconv.uint64pow10"=some 4:=by kernel_rfl
theorem Env.below {w w':World} (h:Env w) (hb:Below w.heap.size w w'):Env w':=by
 have hz:=h.size;have hc:∀b o,b<11->w'.cell? ⟨b,o,none⟩=w.cell? ⟨b,o,none⟩:=fun b o aN=>hb.cell (p:=⟨b,o,none⟩) (by show b<_;omega);obtain⟨h1,h2,h3,h4,h5,h6,h7⟩:=h;refine⟨?_,?_,?_,?_,?_,?_,Nat.le_trans hz hb.size⟩
 ·obtain⟨m,hm⟩:=h1;exact⟨m,by rw[hc _ _ (by decide)];exact hm⟩
 ·exact var?_below hb Qd (by show 4<_;omega) h2
 ·obtain⟨a,b,hm⟩:=h3;exact⟨a,b,by rw[hc _ _ (by decide)];exact hm⟩
 ·obtain⟨a,b,hm⟩:=h4;exact⟨a,b,by rw[hc _ _ (by decide)];exact hm⟩
 ·rw[hc _ _ (by decide)];exact h5
 ·obtain⟨b,o,c,hm,DJ,hk⟩:=h6;exact⟨b,o,c,by rw[hc _ _ (by decide)];exact hm,Nat.lt_of_lt_of_le DJ hb.size,fun j hj=>by rw[hb.cell (p:=⟨b,o+j,none⟩) DJ];exact hk j hj⟩
theorem below_drewN {B:Nat} {a w:World} (h:Below B a w) (n:Nat):Below B a (w.drewN n):=⟨h.os,h.tape,h.output,h.size,h.block⟩
theorem ac {w0 w w':World} (h:Below w0.heap.size w0 w) (hb:Below w.heap.size w w'):Below w0.heap.size w0 w':=h.trans (hb.mono h.size)
def gl (l:List UInt8) (w:World) (e:Ending) (w':World):Prop:=∃u:ByteArray,e=.returned (.string u)/\Hid (u.data.toList=l)/\Below w.heap.size w w'
def SY (l:List UInt8) (b:Bool) (w:World) (e:Ending) (w':World):Prop:=∃u:ByteArray,e=.returned (.tuple #[.string u,.bool b])/\Hid (u.data.toList=l)/\w=w'
def pq (l m:List UInt8) (b:Bool) (w:World) (e:Ending) (w':World):Prop:=∃u v:ByteArray,e=.returned (.tuple #[.string u,.string v,.bool b])/\Hid (u.data.toList=l)/\Hid (v.data.toList=m)/\Below w.heap.size w w'
def cn (b:Bool) (w:World) (e:Ending) (w':World):Prop:=e=.returned (.bool b)/\Below w.heap.size w w'
def wj (n:Int) (w:World) (e:Ending) (w':World):Prop:=e=.returned (.int .i64 n)/\Below w.heap.size w w'
theorem j4 (s:ByteArray) (hs:s.size<=1073741824) (w:World):Calls Tryz.prog 99 #[.string s] w (gl (Lz.low s.data.toList) w):=
 (IQ s hs w).mono fun _ _ ⟨he,hb⟩=>⟨_,he,rfl,hb⟩
theorem mW (s p:ByteArray) (w:World):Calls Tryz.prog 143 #[.string s,.string p] w (SY (Lib.trimPrefix s.data.toList p.data.toList) (Lib.hasPrefix s.data.toList p.data.toList) w):=
 (Tryz.strings_CutPrefix s p w).mono fun _ _ ⟨he,hw⟩=>⟨_,he,rfl,hw.symm⟩
theorem AM (s p:ByteArray) (hs:s.size<=1073741824) (w:World):Calls Tryz.prog 97 #[.string s,.string p] w (SY (Lib.trimSuffix s.data.toList p.data.toList) (Lib.hasSuffix s.data.toList p.data.toList) w):=
 (Tryz.strings_CutSuffix s p w (by omega)).mono fun _ _ ⟨he,hw⟩=>⟨_,he,rfl,hw.symm⟩
theorem Ti (s p:ByteArray) (hs:s.size<=1073741824) (w:World) (hE:Env w):Calls Tryz.prog 80 #[.string s,.string p] w (pq (Lib.cut s.data.toList p.data.toList).1 (Lib.cut s.data.toList p.data.toList).2.1 (Lib.cut s.data.toList p.data.toList).2.2 w):=by
 obtain⟨m,hm⟩:=hE.ml;exact(Tryz.strings_Cut s p m w (by omega) hm).mono fun _ _ ⟨he,n,hw⟩=>⟨_,_,he,rfl,rfl,by rw[hw];exact below_drewN (Below.refl _ _) n⟩
theorem mB (s:ByteArray) (c:UInt8) (w:World):Calls Tryz.prog 137 #[.string s,.int .u8 c.toNat] w fun e w'=>e=.returned (.int .i64 (Lib.indexByte s.data.toList c))/\w=w':=by
 have h:=Tryz.strings_IndexByte s c.toNat w;have e:((c.toNat:Int)).toNat.toUInt8=c:=by simp
 rw[e]at h;exact h.mono fun _ _ ⟨he,hw⟩=>⟨he,hw.symm⟩
theorem uv (w:World) (os:Array Obj):Below w.heap.size w (Sort.grow w os):=by
 refine⟨rfl,rfl,rfl,?_,?_⟩
 ·show _<=(w.heap++os).size
  simp
 ·intro k hk;show(w.heap++os)[k]? =_;rw[Array.getElem?_append_left hk]
theorem NN (n:Int) (h0: -9223372036854775808<=n) (h1:n<=9223372036854775807) (w:World) (hE:Env w):Calls Tryz.prog 62 #[.int .i64 n] w (gl (Lib.itoa n) w):=
 (Tryz.strconv_Itoa n h0 h1 w hE.pow).mono fun _ _ ⟨he,k,os,hw⟩=>⟨_,he,rfl,by rw[hw];exact ac (below_drewN (Below.refl _ _) k) (uv _ _)⟩
theorem EP (u:ByteArray) (b o c:Nat) (w:World) (hk:∀j,j<8->w.cell? ⟨b,o+j,none⟩=some (.string ((Lz.bq.map (fun l=>(⟨l.toArray⟩:ByteArray))).getD j ByteArray.empty))):
  Calls Tryz.prog 69 #[.slice (some ⟨b,o,none⟩) 8 c,.string u] w fun e w'=>e=.returned (.bool (Lz.bq.contains u.data.toList))/\w=w':=by
 refine(Tryz.slices_Contains_string b o 8 c (Lz.bq.map (fun l=>(⟨l.toArray⟩:ByteArray))) u w (by decide) (by decide) (fun j hj=>hk j (by simpa [Lz.bq]using hj))).mono ?_;rintro e w' ⟨he,hw⟩;refine⟨?_,hw.symm⟩;rw[he]
 have:Lib.containsS ((Lz.bq.map (fun l=>(⟨l.toArray⟩:ByteArray))).take 8) u=Lz.bq.contains u.data.toList:=by
  rw[Bool.eq_iff_iff,Lib.containsS_iff];rw[List.take_of_length_le (by simp[Lz.bq])];simp only[List.mem_map,List.contains_iff_mem];constructor
  ·rintro⟨l,hl,rfl⟩;exact hl
  ·intro h;exact⟨_,h,by rfl⟩
 rw[this]
def LS (ls:List (List UInt8)) (w:World) (e:Ending) (w':World):Prop:=
 ∃xs:List ByteArray,e=.returned (.slice (some ⟨w.heap.size,0,none⟩) xs.length xs.length)/\Hid (xs.map (·.data.toList)=ls)/\Hid (w'=w.alloc (.cells (xs.map Value.string).toArray 9))
theorem QV (s:ByteArray) (c:UInt8) (hs:s.size<=1073741824) (w:World) (hE:Env w):Calls Tryz.prog 108 #[.string s,.string ⟨#[c]⟩] w (LS (Lz.ag c s.data.toList) w):=by
 obtain⟨m,hm⟩:=hE.ml
 have hl:(Lib.splitB ⟨#[c]⟩ 0 (Lib.countB s ⟨#[c]⟩) s).map (·.data.toList)=Lz.ag c s.data.toList:=by
  rw[Lib.splitB_data];exact Lz.jF c s.data.toList
 have hn:(Lib.splitB ⟨#[c]⟩ 0 (Lib.countB s ⟨#[c]⟩) s).length=Lib.countB s ⟨#[c]⟩+1:=by
  have h:=(Lz.ld c s.data.toList).2;rw[<-hl,List.length_map]at h;exact h
 refine(Tryz.strings_Split s ⟨#[c]⟩ m w (by omega) hm (Nat.le_refl 1)).mono fun e w' ⟨he,hw⟩=>⟨_,?_,hl,hw⟩;rw[hn];exact he
theorem dL {c:UInt8} {s:ByteArray} {xs:List ByteArray} (h:xs.map (·.data.toList)=Lz.ag c s.data.toList) {x:ByteArray} (hx:x∈xs):x.size<=s.size:=by
 have:=Lz.iX c s.data.toList x.data.toList (by rw[<-h];exact List.mem_map_of_mem hx)
 rwa [aa,aa]at this
theorem IU (s:ByteArray) (hs:s.size<=1073741824) (w:World) (hE:Env w):Calls Tryz.prog 197 #[.string s] w (cn (Lz.eF s.data.toList) w):=by
 have cS:=Ih (QV s 46 hs w hE);go_enter Tryz.func197,Tryz.ntmps197
 go_wp2_with fail
 refine(cS.out).mono ?_;rintro e w1 ⟨xs,rfl,d7,iW⟩
 have bv:xs.length<=1073741825:=by
  have h:=Lz.dz 46 s.data.toList;rw[<-d7.out,List.length_map,aa]at h;omega
 have dV:∀x,x∈xs->x.size<=s.size:=fun x hx=>dL d7.out hx;have yD:=Ih dV;clear dV cS;have aC:Below w.heap.size w w1:=by rw[iW.out];exact(Below.refl _ w).alloc (Nat.le_refl _) _
 have j7:∀j x,xs[j]? =some x->w1.cell? ⟨w.heap.size,j,none⟩=some (.string x):=by
  intro j x hj;rw[iW.out];have:=World.cell?_alloc_mark w (xs.map Value.string).toArray 9 (0,0) j;rw[this]
  simp[hj]
 have Hc1:=Ih j7;clear j7 iW
 go_wp2
 go_loop [8] (fun i=>∃n:Nat,n<=xs.length/\i=.int .i64 n/\(∀j x,j<n->xs[j]? =some x->Lz.dj Lz.fC x.data.toList=true)) (fun i=>xs.length-(intOf i).toNat)
 case atStart=>exact⟨0,Nat.zero_le _,rfl,fun j c h=>by omega⟩
 case round=>
  obtain⟨n,hn,rfl,ey⟩:=hrel;have fZ:=Ih ey;clear ey;by_cases aN:n<xs.length
  ·obtain⟨x,hx⟩:∃x,xs[n]? =some x:=⟨_,List.getElem?_eq_getElem aN⟩;have hc:=Hc1.out n x hx;have hxm:=yD.out x (List.mem_of_getElem? hx);have Hx:=Ih hx;clear hx;have ca:=Ih (py ID x (by omega) w1);generalize hb:Lz.dj Lz.fC x.data.toList=b at ca;have Hb:=Ih hb;clear hb
   go_wp2_with fail
   refine(ca.out).mono ?_;rintro e w' ⟨rfl,rfl⟩;cases b
   ·go_wp2
    go_ret;refine⟨?_,aC⟩
    have:Lz.eF s.data.toList=false:=by
     unfold Lz.eF;rw[Lz.jF,<-d7.out,List.all_eq_false];exact⟨x.data.toList,List.mem_map_of_mem (List.mem_of_getElem? Hx.out),by rw[Hb.out];decide⟩
    rw[this];rfl
   ·go_wp2
    go_round
    case rel=>exact⟨n+1,by omega,by go_num,fun j y hj hy=>by
     by_cases sC:j<n
     ·exact fZ.out j y sC hy
     ·obtain rfl:j=n:=by omega
      rw[Hx.out]at hy;obtain rfl:=Option.some.inj hy;exact Hb.out⟩
    case measure=>simp[intOf];omega
  ·go_wp2
   go_ret;refine⟨?_,aC⟩
   have:Lz.eF s.data.toList=true:=by
    unfold Lz.eF;rw[Lz.jF,<-d7.out,List.all_eq_true];intro l hl;obtain⟨x,hx,rfl⟩:=List.mem_map.1 hl;obtain⟨j,hj⟩:=List.getElem?_of_mem hx;exact fZ.out j x (by have:=(List.getElem?_eq_some_iff.1 hj).1;omega) hj
   rw[this];rfl
end Go.Proofs.YtlcbhacofagedaaGreatDoor
