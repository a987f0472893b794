/-
  The walk of sources.scheme; what the library's functions that package sources calls return, in one form; the condition on the world (Env) that they ask.
-/
import Derived.Test.YtibcmemcfjhgmaaGreatDoorV05
set_option maxRecDepth 100000
namespace Go.Proofs.YtibcmemcfjhgmaaGreatDoor
open Go.RowKit
theorem aN {s:ByteArray} (h:s.size=0):s.toList.isEmpty=true:=by
 rw[Lib.toList_data,List.isEmpty_iff,<-List.length_eq_zero_iff,ac,h]
theorem aG {s:ByteArray} (h:0<s.size):s.toList.isEmpty=false:=by
 rw[Lib.toList_data];cases hl:s.data.toList with
 | nil=>rw[<-ac,hl]at h;simp at h
 | cons _ _=>rfl
theorem aB {s:ByteArray} {n:Nat} (h:n<s.size):s.data.toList[n]? =some s[n]:=by
 rw[List.getElem?_eq_getElem (by rw[ac];exact h)];rfl
theorem vP (s:ByteArray) (hs:s.size<=1073741824) (w:World):Calls Tryz.prog 148 #[.string s] w fun e w'=>e=.returned (.bool (Lz.bK s.data.toList))/\w=w':=by
 have ca:=Ih (pV zf s (by omega) w);by_cases h0:0<s.size
 ·have he:=aG h0;have hg:=aB h0
  have hx:Lz.bK s.data.toList=(Lz.bn s[0]&&Lz.dj Lz.eG s.data.toList):=by
   unfold Lz.bK;cases hl:s.data.toList with
   | nil=>rw[hl]at hg;cases hg
   | cons a r=>rw[hl]at hg;simp at hg;rw[hg]
  rw[hx];have cb:=Ih (li s[0] w);clear hx hg;generalize Lz.dj Lz.eG s.data.toList=b at ca⊢;generalize Lz.bn s[0]=a at cb⊢;cases a<;>
  ·go_enter Tryz.func148,Tryz.ntmps148
   go_wp2_with fail
   refine(cb.out).mono ?_;rintro e w' ⟨rfl,rfl⟩
   go_wp2_with (go_at_call 211;refine(ca.out).mono ?_;rintro e w' ⟨rfl,rfl⟩)
   go_ret;exact⟨rfl,rfl⟩
 ·have hz:s.size=0:=by omega
  have he:=aN hz
  have hx:Lz.bK s.data.toList=false:=by
   have:s.data.toList=[]:=by rw[<-List.length_eq_zero_iff,ac,hz]
   rw[this];rfl
  rw[hx];clear hx hz h0;go_enter Tryz.func148,Tryz.ntmps148
  go_wp2
  go_ret;exact⟨rfl,rfl⟩
structure Env (w:World):Prop where
 ml:∃m,w.cell? ⟨7,0,none⟩=some (.int .i64 m)
 pow:Lib.TabIs Tryz.prog w "internal/strconv.uint64pow10" .u64 Lib.pow10Tab
 syn:∃te pe,w.cell? ⟨11,0,none⟩=some (.iface te pe)
 rng:∃te pe,w.cell? ⟨12,0,none⟩=some (.iface te pe)
 et:w.cell? ⟨3,0,none⟩=some (.iface 223 (.agg #[.pointer (some ⟨15,74,none⟩)]))
 kw:∃b o c,w.cell? ⟨6,0,none⟩=some (.slice (some ⟨b,o,none⟩) 8 c)/\b<w.heap.size/\∀j,j<8->w.cell? ⟨b,o+j,none⟩=some (.string ((Lz.a6.map (fun l=>(⟨l.toArray⟩:ByteArray))).getD j ByteArray.empty))
 size:15<=w.heap.size
theorem PF:Tryz.prog.globalNamed "internal/strconv.uint64pow10"=some 10:=by kernel_rfl
theorem Env.below {w w':World} (h:Env w) (hb:Below w.heap.size w w'):Env w':=by
 have hz:=h.size;have hc:∀b o,b<15->w'.cell? ⟨b,o,none⟩=w.cell? ⟨b,o,none⟩:=fun b o aL=>hb.cell (p:=⟨b,o,none⟩) (by show b<_;omega);obtain⟨h1,h2,h3,h4,h5,h6,h7⟩:=h;refine⟨?_,?_,?_,?_,?_,?_,Nat.le_trans hz hb.size⟩
 ·obtain⟨m,hm⟩:=h1;exact⟨m,by rw[hc _ _ (by decide)];exact hm⟩
 ·exact var?_below hb PF (by show 10<_;omega) h2
 ·obtain⟨a,b,hm⟩:=h3;exact⟨a,b,by rw[hc _ _ (by decide)];exact hm⟩
 ·obtain⟨a,b,hm⟩:=h4;exact⟨a,b,by rw[hc _ _ (by decide)];exact hm⟩
 ·rw[hc _ _ (by decide)];exact h5
 ·obtain⟨b,o,c,hm,pF,hk⟩:=h6;exact⟨b,o,c,by rw[hc _ _ (by decide)];exact hm,Nat.lt_of_lt_of_le pF hb.size,fun j hj=>by rw[hb.cell (p:=⟨b,o+j,none⟩) pF];exact hk j hj⟩
theorem below_drewN {B:Nat} {a w:World} (h:Below B a w) (n:Nat):Below B a (w.drewN n):=⟨h.os,h.tape,h.output,h.size,h.block⟩
theorem ae {w0 w w':World} (h:Below w0.heap.size w0 w) (hb:Below w.heap.size w w'):Below w0.heap.size w0 w':=h.trans (hb.mono h.size)
def dX (l:List UInt8) (w:World) (e:Ending) (w':World):Prop:=∃u:ByteArray,e=.returned (.string u)/\Hid (u.data.toList=l)/\Below w.heap.size w w'
def SZ (l:List UInt8) (b:Bool) (w:World) (e:Ending) (w':World):Prop:=∃u:ByteArray,e=.returned (.tuple #[.string u,.bool b])/\Hid (u.data.toList=l)/\w=w'
def qm (l m:List UInt8) (b:Bool) (w:World) (e:Ending) (w':World):Prop:=∃u v:ByteArray,e=.returned (.tuple #[.string u,.string v,.bool b])/\Hid (u.data.toList=l)/\Hid (v.data.toList=m)/\Below w.heap.size w w'
def a5 (b:Bool) (w:World) (e:Ending) (w':World):Prop:=e=.returned (.bool b)/\Below w.heap.size w w'
def Jp (n:Int) (w:World) (e:Ending) (w':World):Prop:=e=.returned (.int .i64 n)/\Below w.heap.size w w'
theorem kp (s:ByteArray) (hs:s.size<=1073741824) (w:World):Calls Tryz.prog 50 #[.string s] w (dX (Lz.low s.data.toList) w):=
 (Jo s hs w).mono fun _ _ ⟨he,hb⟩=>⟨_,he,rfl,hb⟩
theorem mZ (s p:ByteArray) (w:World):Calls Tryz.prog 208 #[.string s,.string p] w (SZ (Lib.trimPrefix s.data.toList p.data.toList) (Lib.hasPrefix s.data.toList p.data.toList) w):=
 (Tryz.strings_CutPrefix s p w).mono fun _ _ ⟨he,hw⟩=>⟨_,he,rfl,hw.symm⟩
theorem Cw (s p:ByteArray) (hs:s.size<=1073741824) (w:World):Calls Tryz.prog 147 #[.string s,.string p] w (SZ (Lib.trimSuffix s.data.toList p.data.toList) (Lib.hasSuffix s.data.toList p.data.toList) w):=
 (Tryz.strings_CutSuffix s p w (by omega)).mono fun _ _ ⟨he,hw⟩=>⟨_,he,rfl,hw.symm⟩
theorem Nv (s p:ByteArray) (hs:s.size<=1073741824) (w:World) (hE:Env w):Calls Tryz.prog 70 #[.string s,.string p] w (qm (Lib.cut s.data.toList p.data.toList).1 (Lib.cut s.data.toList p.data.toList).2.1 (Lib.cut s.data.toList p.data.toList).2.2 w):=by
 obtain⟨m,hm⟩:=hE.ml;exact(Tryz.strings_Cut s p m w (by omega) hm).mono fun _ _ ⟨he,n,hw⟩=>⟨_,_,he,rfl,rfl,by rw[hw];exact below_drewN (Below.refl _ _) n⟩
theorem kj (s:ByteArray) (c:UInt8) (w:World):Calls Tryz.prog 129 #[.string s,.int .u8 c.toNat] w fun e w'=>e=.returned (.int .i64 (Lib.indexByte s.data.toList c))/\w=w':=by
 have h:=Tryz.strings_IndexByte s c.toNat w;have e:((c.toNat:Int)).toNat.toUInt8=c:=by simp
 rw[e]at h;exact h.mono fun _ _ ⟨he,hw⟩=>⟨he,hw.symm⟩
theorem uW (w:World) (os:Array Obj):Below w.heap.size w (Sort.grow w os):=by
 refine⟨rfl,rfl,rfl,?_,?_⟩
 ·show _<=(w.heap++os).size
  simp
 ·intro k hk;show(w.heap++os)[k]? =_;rw[Array.getElem?_append_left hk]
theorem L9 (n:Int) (h0: -9223372036854775808<=n) (h1:n<=9223372036854775807) (w:World) (hE:Env w):Calls Tryz.prog 131 #[.int .i64 n] w (dX (Lib.itoa n) w):=
 (Tryz.strconv_Itoa n h0 h1 w hE.pow).mono fun _ _ ⟨he,k,os,hw⟩=>⟨_,he,rfl,by rw[hw];exact ae (below_drewN (Below.refl _ _) k) (uW _ _)⟩
theorem Ew (u:ByteArray) (b o c:Nat) (w:World) (hk:∀j,j<8->w.cell? ⟨b,o+j,none⟩=some (.string ((Lz.a6.map (fun l=>(⟨l.toArray⟩:ByteArray))).getD j ByteArray.empty))):
  Calls Tryz.prog 203 #[.slice (some ⟨b,o,none⟩) 8 c,.string u] w fun e w'=>e=.returned (.bool (Lz.a6.contains u.data.toList))/\w=w':=by
 refine(Tryz.slices_Contains_string b o 8 c (Lz.a6.map (fun l=>(⟨l.toArray⟩:ByteArray))) u w (by decide) (by decide) (fun j hj=>hk j (by simpa [Lz.a6]using hj))).mono ?_;rintro e w' ⟨he,hw⟩;refine⟨?_,hw.symm⟩;rw[he]
 have:Lib.containsS ((Lz.a6.map (fun l=>(⟨l.toArray⟩:ByteArray))).take 8) u=Lz.a6.contains u.data.toList:=by
  rw[Bool.eq_iff_iff,Lib.containsS_iff];rw[List.take_of_length_le (by simp[Lz.a6])];simp only[List.mem_map,List.contains_iff_mem];constructor
  ·rintro⟨l,hl,rfl⟩;exact hl
  ·intro h;exact⟨_,h,by rfl⟩
 rw[this]
def M8 (ls:List (List UInt8)) (w:World) (e:Ending) (w':World):Prop:=
 ∃xs:List ByteArray,e=.returned (.slice (some ⟨w.heap.size,0,none⟩) xs.length xs.length)/\Hid (xs.map (·.data.toList)=ls)/\Hid (w'=w.alloc (.cells (xs.map Value.string).toArray 9))
theorem QQ (s:ByteArray) (c:UInt8) (hs:s.size<=1073741824) (w:World) (hE:Env w):Calls Tryz.prog 48 #[.string s,.string ⟨#[c]⟩] w (M8 (Lz.aD c s.data.toList) w):=by
 obtain⟨m,hm⟩:=hE.ml
 have hl:(Lib.splitB ⟨#[c]⟩ 0 (Lib.countB s ⟨#[c]⟩) s).map (·.data.toList)=Lz.aD c s.data.toList:=by
  rw[Lib.splitB_data];exact Lz.jS c s.data.toList
 have hn:(Lib.splitB ⟨#[c]⟩ 0 (Lib.countB s ⟨#[c]⟩) s).length=Lib.countB s ⟨#[c]⟩+1:=by
  have h:=(Lz.lB c s.data.toList).2;rw[<-hl,List.length_map]at h;exact h
 refine(Tryz.strings_Split s ⟨#[c]⟩ m w (by omega) hm (Nat.le_refl 1)).mono fun e w' ⟨he,hw⟩=>⟨_,?_,hl,hw⟩;rw[hn];exact he
theorem lS {c:UInt8} {s:ByteArray} {xs:List ByteArray} (h:xs.map (·.data.toList)=Lz.aD c s.data.toList) {x:ByteArray} (hx:x∈xs):x.size<=s.size:=by
 have:=Lz.ju c s.data.toList x.data.toList (by rw[<-h];exact List.mem_map_of_mem hx)
 rwa [ac,ac]at this
theorem Jx (s:ByteArray) (hs:s.size<=1073741824) (w:World) (hE:Env w):Calls Tryz.prog 256 #[.string s] w (a5 (Lz.eF s.data.toList) w):=by
 have cS:=Ih (QQ s 46 hs w hE);go_enter Tryz.func256,Tryz.ntmps256
 go_wp2_with fail
 refine(cS.out).mono ?_;rintro e w1 ⟨xs,rfl,mc,me⟩
 have aO:xs.length<=1073741825:=by
  have h:=Lz.iR 46 s.data.toList;rw[<-mc.out,List.length_map,ac]at h;omega
 have fu:∀x,x∈xs->x.size<=s.size:=fun x hx=>lS mc.out hx;have Sn:=Ih fu;clear fu cS;have av:Below w.heap.size w w1:=by rw[me.out];exact(Below.refl _ w).alloc (Nat.le_refl _) _
 have iE:∀j x,xs[j]? =some x->w1.cell? ⟨w.heap.size,j,none⟩=some (.string x):=by
  intro j x hj;rw[me.out];have:=World.cell?_alloc_mark w (xs.map Value.string).toArray 9 (0,0) j;rw[this]
  simp[hj]
 have Hc1:=Ih iE;clear iE me
 go_wp2
 go_loop [8] (fun i=>∃n:Nat,n<=xs.length/\i=.int .i64 n/\(∀j x,j<n->xs[j]? =some x->Lz.dj Lz.fI x.data.toList=true)) (fun i=>xs.length-(intOf i).toNat)
 case atStart=>exact⟨0,Nat.zero_le _,rfl,fun j c h=>by omega⟩
 case round=>
  obtain⟨n,hn,rfl,dY⟩:=hrel;have gi:=Ih dY;clear dY;by_cases aL:n<xs.length
  ·obtain⟨x,hx⟩:∃x,xs[n]? =some x:=⟨_,List.getElem?_eq_getElem aL⟩;have hc:=Hc1.out n x hx;have VW:=Sn.out x (List.mem_of_getElem? hx);have Hx:=Ih hx;clear hx;have ca:=Ih (pV KF x (by omega) w1);generalize hb:Lz.dj Lz.fI x.data.toList=b at ca;have Hb:=Ih hb;clear hb
   go_wp2_with fail
   refine(ca.out).mono ?_;rintro e w' ⟨rfl,rfl⟩;cases b
   ·go_wp2
    go_ret;refine⟨?_,av⟩
    have:Lz.eF s.data.toList=false:=by
     unfold Lz.eF;rw[Lz.jS,<-mc.out,List.all_eq_false];exact⟨x.data.toList,List.mem_map_of_mem (List.mem_of_getElem? Hx.out),by rw[Hb.out];decide⟩
    rw[this];rfl
   ·go_wp2
    go_round
    case rel=>exact⟨n+1,by omega,by go_num,fun j y hj hy=>by
     by_cases xA:j<n
     ·exact gi.out j y xA hy
     ·obtain rfl:j=n:=by omega
      rw[Hx.out]at hy;obtain rfl:=Option.some.inj hy;exact Hb.out⟩
    case measure=>simp[intOf];omega
  ·go_wp2
   go_ret;refine⟨?_,av⟩
   have:Lz.eF s.data.toList=true:=by
    unfold Lz.eF;rw[Lz.jS,<-mc.out,List.all_eq_true];intro l hl;obtain⟨x,hx,rfl⟩:=List.mem_map.1 hl;obtain⟨j,hj⟩:=List.getElem?_of_mem hx;exact gi.out j x (by have:=(List.getElem?_eq_some_iff.1 hj).1;omega) hj
   rw[this];rfl
end Go.Proofs.YtibcmemcfjhgmaaGreatDoor
