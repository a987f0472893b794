/-
  Package allow: keyword, has, All, Nonce.
-/
import Derived.Test.YtibcmemcfjhgmaaGreatDoorV37
set_option maxRecDepth 100000
namespace Go.Proofs.YtibcmemcfjhgmaaGreatDoor
open Go.RowKit
attribute [local go_sem ↓] Go.wp_at_zero Go.wp_at_succ
structure oS (aP:List UInt32) (bJ:List UInt64) (w:World):Prop where
 m:M5 w
 d:ED aP w
 l:u9 bJ w
theorem oS.below {aP:List UInt32} {bJ:List UInt64} {w w':World} (h:oS aP bJ w) (hb:Below w.heap.size w w'):oS aP bJ w':=⟨h.m.below hb,h.d.keep hb,h.l.keep hb⟩
theorem qX (s t:ByteArray):(s.toList==t.toList)=(s.data.toList==t.data.toList):=by rw[Lib.toList_data,Lib.toList_data]
theorem sq (x:ah) (n:ByteArray) (w:World):Calls Tryz.prog 31 #[x.val,.string n] w (a5 (Lz.kwS n.data.toList x.src) w):=by
 obtain⟨k,t,b,sc,ho,wd,po,pa⟩:=x
 dsimp only[ah.val]
 by_cases hk:k=1
 ·subst hk;go_enter Tryz.func31,Tryz.ntmps31
  go_wp2_with fail
  go_ret;refine⟨?_,(Below.refl _ w).alloc (Nat.le_refl _) _⟩;show Ending.returned (.bool (t.toList==n.toList))=.returned (.bool ((1:Int)==1&&t.data.toList==n.data.toList));rw[qX];rfl
 ·have DK:(k==1)=false:=by simpa using hk
  go_enter Tryz.func31,Tryz.ntmps31
  go_wp2_with fail
  go_ret;refine⟨?_,(Below.refl _ w).alloc (Nat.le_refl _) _⟩;show Ending.returned (.bool false)=.returned (.bool (k==1&&t.data.toList==n.data.toList));rw[DK];rfl
theorem QA (args:Array Value) (w:World):(callFunc 59 args).run Tryz.prog w=.ok (.enter 59 args) w:=enters_of Tryz.func59 (by kernel_rfl) rfl args w
theorem JH (args:Array Value) (w:World):(callFunc 34 args).run Tryz.prog w=.ok (.enter 34 args) w:=enters_of Tryz.func34 (by kernel_rfl) rfl args w
theorem LL (x:ah) (r:Nat) (n:ByteArray) (W:World) (hr:W.cell? ⟨r,0,none⟩=some (.string n)):Calls Tryz.prog 59 #[x.val,.pointer (some ⟨r,0,none⟩)] W (a5 (Lz.kwS n.data.toList x.src) W):=by
 obtain⟨k,t,b,sc,ho,wd,po,pa⟩:=x;obtain⟨V,hV⟩:∃V,V=W.alloc (.cells #[.int .i64 k,.string t,.int .i64 b,.string sc,.string ho,.bool wd,.int .i64 po,.string pa] 63):=⟨_,rfl⟩;have kc:Below W.heap.size W V:=by rw[hV];exact(Below.refl _ W).alloc (Nat.le_refl _) _
 have hB:V.heap[W.heap.size]? =some (.cells #[.int .i64 k,.string t,.int .i64 b,.string sc,.string ho,.bool wd,.int .i64 po,.string pa] 63 (0,0)):=by rw[hV];exact an _ _
 obtain⟨z0,z1,z2,z3,z4,z5,z6,z7⟩:=xU hB;have iG:V.cell? ⟨r,0,none⟩=some (.string n):=by rw[kc.cell (p:=⟨r,0,none⟩) (World.block_lt_of_cell? _ _ hr)];exact hr
 have cK:=Ih (sq ⟨k,t,b,sc,ho,wd,po,pa⟩ n V)
 dsimp only[ah.val]at cK⊢
 have HV:=Ih hV;clear hV hB hr;go_enter Tryz.func59,Tryz.ntmps59
 go_upto_region 1 with fail
 rw[<-HV.out]
 go_wp2_with fail
 refine cK.out.mono ?_;rintro e w5 ⟨rfl,bv⟩
 go_wp2_with fail
 go_ret;exact⟨rfl,ae kc bv⟩
theorem Aj (v:Value) (ys:List ah) (n:ByteArray) (w:World) (h:jd w v ys) (hL:ys.length<=100000):Calls Tryz.prog 27 #[v,.string n] w (a5 (Lz.lc (ys.map ah.src) n.data.toList) w):=by
 obtain⟨V,hV⟩:∃V,V=w.alloc (.cells #[.string n] 9):=⟨_,rfl⟩;have kc:Below w.heap.size w V:=by rw[hV];exact(Below.refl _ w).alloc (Nat.le_refl _) _
 have hB:V.heap[w.heap.size]? =some (.cells #[.string n] 9 (0,0)):=by rw[hV];exact an _ _
 have hc:=rowAt hB 0 (.string n) rfl;have cC:=Ih (fh v ys 59 #[.pointer (some ⟨w.heap.size,0,none⟩)] (fun x=>Lz.kwS n.data.toList x.src) V QA (h.below kc) hL (fun W x _ hW=>LL x w.heap.size n W (by rw[hW.cell (p:=⟨w.heap.size,0,none⟩) (aZ hB)];exact hc) |>.mono fun e w' ⟨h1,h2⟩=>⟨h1,hW.trans (h2.mono hW.size)⟩));have HV:=Ih hV
 have HQ:Hid (Lz.lc (ys.map ah.src) n.data.toList=ys.any fun x=>Lz.kwS n.data.toList x.src):=by
  show _=_;unfold Lz.lc;rw[List.any_map];rfl
 clear hV hB hc h;go_enter Tryz.func27,Tryz.ntmps27
 go_upto_region 1 with fail
 rw[<-HV.out]
 go_wp2_with fail
 refine cC.out.mono ?_;rintro e w5 ⟨rfl,bv⟩
 go_wp2_with fail
 go_ret;exact⟨by rw[HQ.out];rfl,ae kc bv⟩
theorem Ek (x:ah) (r:Nat) (n:ByteArray) (W:World) (hr:W.cell? ⟨r,0,none⟩=some (.string n)):Calls Tryz.prog 34 #[x.val,.pointer (some ⟨r,0,none⟩)] W (a5 (x.src.kind==4&&x.src.text==n.data.toList) W):=by
 obtain⟨k,t,b,sc,ho,wd,po,pa⟩:=x;obtain⟨V,hV⟩:∃V,V=W.alloc (.cells #[.int .i64 k,.string t,.int .i64 b,.string sc,.string ho,.bool wd,.int .i64 po,.string pa] 63):=⟨_,rfl⟩;have kc:Below W.heap.size W V:=by rw[hV];exact(Below.refl _ W).alloc (Nat.le_refl _) _
 have hB:V.heap[W.heap.size]? =some (.cells #[.int .i64 k,.string t,.int .i64 b,.string sc,.string ho,.bool wd,.int .i64 po,.string pa] 63 (0,0)):=by rw[hV];exact an _ _
 obtain⟨z0,z1,z2,z3,z4,z5,z6,z7⟩:=xU hB;have iG:V.cell? ⟨r,0,none⟩=some (.string n):=by rw[kc.cell (p:=⟨r,0,none⟩) (World.block_lt_of_cell? _ _ hr)];exact hr
 dsimp only[ah.val]
 have HV:=Ih hV;clear hV hB hr;by_cases hk:k=4
 ·have DK:(k==4)=true:=by simpa using hk
  have Hk:=Ih DK;clear hk;go_enter Tryz.func34,Tryz.ntmps34
  go_upto_region 1 with fail
  rw[<-HV.out]
  go_wp2_with fail
  go_ret;refine⟨?_,kc⟩;show Ending.returned (.bool (t.toList==n.toList))=.returned (.bool (k==4&&t.data.toList==n.data.toList));rw[qX,Hk.out];rfl
 ·have DK:(k==4)=false:=by simpa using hk
  go_enter Tryz.func34,Tryz.ntmps34
  go_upto_region 1 with fail
  rw[<-HV.out]
  go_wp2_with fail
  go_ret;refine⟨?_,kc⟩;show Ending.returned (.bool false)=.returned (.bool (k==4&&t.data.toList==n.data.toList));rw[DK];rfl
structure bQ (w:World) (v:Value) (l:List (List UInt8)):Prop where
 at':eY w v l
 len:l.length<=10000
 size:∀x,x∈l->x.length<=90000
theorem bQ.below {w w':World} {v:Value} {l:List (List UInt8)} (h:bQ w v l) (hb:Below w.heap.size w w'):bQ w' v l:=⟨h.at'.below hb,h.len,h.size⟩
theorem bQ.list {w:World} {v:Value} {l:List (List UInt8)} (h:bQ w v l) (hE:Env w):Calls Tryz.prog 28 #[v] w (BJ l w):=NW v l w hE h.at' h.len (fun x hx=>by have:=h.size x hx;omega)
theorem bQ.ylen {w:World} {v:Value} {l:List (List UInt8)} (h:bQ w v l) {ys:List ah} (hy:ys.map ah.src=Lz.aM l):ys.length<=100000:=by
 rw[<-List.length_map (f:=ah.src),hy];have:=List.length_filterMap_le Lz.a8 l;have:=h.len;unfold Lz.aM;omega
theorem oM (v:Value) (l:List (List UInt8)) (n:ByteArray) (w:World) (hE:Env w) (h:bQ w v l):Calls Tryz.prog 13 #[v,.string n] w (a5 (Lz.dQ l n.data.toList) w):=by
 obtain⟨V,hV⟩:∃V,V=w.alloc (.cells #[.string n] 9):=⟨_,rfl⟩;have kc:Below w.heap.size w V:=by rw[hV];exact(Below.refl _ w).alloc (Nat.le_refl _) _
 have hB:V.heap[w.heap.size]? =some (.cells #[.string n] 9 (0,0)):=by rw[hV];exact an _ _
 have hc:=rowAt hB 0 (.string n) rfl;have cL:=Ih ((h.below kc).list (hE.below kc));have cC:=Ih (fun(W:World) (sv:Value) (ys:List ah) (hW:Below V.heap.size V W) (hs:jd W sv ys) (hy:ys.map ah.src=Lz.aM l)=>fh sv ys 34 #[.pointer (some ⟨w.heap.size,0,none⟩)] (fun x=>x.src.kind==4&&x.src.text==n.data.toList) W JH hs (h.ylen hy) (fun W2 x _ lp=>Ek x w.heap.size n W2 (by rw[(hW.trans (lp.mono hW.size)).cell (p:=⟨w.heap.size,0,none⟩) (aZ hB)];exact hc) |>.mono fun e w' ⟨h1,h2⟩=>⟨h1,lp.trans (h2.mono lp.size)⟩));have HV:=Ih hV;clear hV hB hE h;by_cases hz:n.size=0
 ·have du:n.toList.isEmpty=true:=kv hz
  have HQ:Hid (Lz.dQ l n.data.toList=false):=by
   show _=_;unfold Lz.dQ;rw[List.length_eq_zero_iff.1 (show n.data.toList.length=0 by rw[ac,hz])];rfl
  go_enter Tryz.func13,Tryz.ntmps13
  go_upto_region 1 with fail
  rw[<-HV.out]
  go_wp2_with fail
  go_ret;exact⟨by rw[HQ.out];rfl,kc⟩
 ·have du:n.toList.isEmpty=false:=lE (by omega)
  have HQ:Hid (∀ys:List ah,ys.map ah.src=Lz.aM l->Lz.dQ l n.data.toList=ys.any fun x=>x.src.kind==4&&x.src.text==n.data.toList):=by
   show ∀ys,_;intro ys hy;unfold Lz.dQ;rw[<-hy,List.any_map]
   have:(n.data.toList != [])=true:=by
    rw[bne_iff_ne];intro e;have:=ac n;rw[e]at this;simp at this;omega
   rw[this];rfl
  clear hz;go_enter Tryz.func13,Tryz.ntmps13
  go_upto_region 1 with fail
  rw[<-HV.out]
  go_wp2_with fail
  refine cL.out.mono ?_;rintro e w6 ⟨sv,ys,rfl,gY,wK,eM⟩;have KM:=bo.at wK
  go_wp2_with fail
  refine(cC.out w6 _ ys eM KM gY.out).mono ?_;rintro e w7 ⟨rfl,ll⟩
  go_wp2_with fail
  go_ret;exact⟨by rw[HQ.out ys gY.out];rfl,ae (ae kc eM) ll⟩
end Go.Proofs.YtibcmemcfjhgmaaGreatDoor
