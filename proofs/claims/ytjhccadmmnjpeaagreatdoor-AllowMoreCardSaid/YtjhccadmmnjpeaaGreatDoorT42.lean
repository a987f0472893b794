/-
  Package allow: All, sum, Hash, Inline.
-/
import Derived.Test.YtjhccadmmnjpeaaGreatDoorT41
set_option maxHeartbeats 4000000
set_option maxRecDepth 100000
namespace Go.Proofs.YtjhccadmmnjpeaaGreatDoor
open Go.RowKit
attribute [local go_sem ↓] Go.wp_at_zero Go.wp_at_succ
theorem IndexFuncG_any (v:Value) (ys:List SrcB) (f:Nat) (bs:Array Value) (p:SrcB->Bool) (w:World) (hf:∀(args:Array Value) (W:World),(callFunc f args).run Tryz.prog W=.ok (.enter f args) W) (h:SrcsAt w v ys) (hL:ys.length<=100000)
  (hp:∀(W:World) (x:SrcB),x∈ys->Below w.heap.size w W->Calls Tryz.prog f (#[x.val]++bs) W fun e w'=>e=.returned (.bool (p x))/\Below w.heap.size w w'):
  Calls Tryz.prog 52 #[v,.func (.func f) #[] bs] w fun e w'=>∃r:Int,e=.returned (.int .i64 r)/\Hid (decide (0<=r)=ys.any p)/\Below w.heap.size w w':=by
 obtain⟨a,c,rfl,hx⟩:=h;have Hx:=Ih hx;have Hp:=Ih hp;obtain⟨n,hn⟩:∃n,n=ys.length:=⟨_,rfl⟩;rw[<-hn];rw[<-hn]at hL;have HN:=Ih hn;clear hx hp hn;go_enter Tryz.func52,Tryz.ntmps52
 go_wp2_with fail
 go_loopw [8] (fun i wr=>∃j:Nat,j<=n/\i=.int .i64 j/\Hid ((ys.take j).any p=false)/\Below w.heap.size w wr) (fun i _=>n-(intOf i).toNat)
 case atStart=>exact⟨0,Nat.zero_le _,rfl,Ih (by simp),Below.refl _ _⟩
 case round=>
  obtain⟨j,hj,rfl,hT,hbw⟩:=hrel;by_cases hlt:j<n
  ·have hltI:(j:Int)<(n:Int):=by omega
   have hj0:(0:Int)<=(j:Int):=by omega
   obtain⟨x,hx⟩:∃x,ys[j]? =some x:=⟨_,List.getElem?_eq_getElem (by rw[<-HN.out];exact hlt)⟩;obtain⟨g,rfl,hg,hc⟩:=Hx.out j x hx;have hcw:∀(k:Nat) (u:Value),(SrcB.row x)[k]? =some u->wr.cell? ⟨g,j*8+k,none⟩=some u:=fun k u hk=>by rw[hbw.cell (p:=⟨g,j*8+k,none⟩) hg];exact hc k u hk
   have cP:=Ih (Hp.out wr x (List.mem_of_getElem? hx) hbw);have hst:(ys.take (j+1)).any p=p x:=by rw[List.take_add_one,hx,List.any_append,hT.out];simp
   have hall:p x=true->ys.any p=true:=fun h=>by rw[List.any_eq_true];exact⟨x,List.mem_of_getElem? hx,h⟩
   obtain⟨k,t,b,sc,ho,wd,po,pa⟩:=x;have c0:=hcw 0 _ rfl;have c1:=hcw 1 _ rfl;have c2:=hcw 2 _ rfl;have c3:=hcw 3 _ rfl;have c4:=hcw 4 _ rfl;have c5:=hcw 5 _ rfl;have c6:=hcw 6 _ rfl;have c7:=hcw 7 _ rfl;have Hst:=Ih hst;have Hall:=Ih hall;clear hx hc hcw hst hall hT
   dsimp only at c0 c1 c2 c3 c4 c5 c6 c7
   rw[Nat.add_zero]at c0
   dsimp only[SrcB.val]at cP
   cases hpx:p (SrcB.mk k t b sc ho wd po pa)with
   | true=>
     rw[hpx]at cP;have HV:Hid (decide ((0:Int)<=(j:Int))=ys.any p):=by show _=_;rw[Hall.out hpx];exact decide_eq_true hj0
     clear hpx Hst Hall
     go_wp2_with fail
     refine cP.out.mono ?_;rintro e w5 ⟨rfl,hb5⟩
     go_wp2_with fail
     go_ret;exact⟨_,rfl,HV,hb5⟩
   | false=>
     rw[hpx]at cP;have HS:Hid ((ys.take (j+1)).any p=false):=by show _=_;rw[Hst.out,hpx]
     clear hpx Hst Hall
     go_wp2_with fail
     refine cP.out.mono ?_;rintro e w5 ⟨rfl,hb5⟩
     go_wp2_with fail
     go_roundw
     case rel=>exact⟨j+1,by omega,by go_num,HS,hb5⟩
     case measure=>simp[intOf];omega
  ·have hltI:¬(j:Int)<(n:Int):=by omega
   have HV:Hid (decide ((0:Int)<= -1)=ys.any p):=by
    show _=_;rw[<-List.take_of_length_le (l:=ys) (i:=j) (by rw[<-HN.out];omega),hT.out];rfl
   clear hT
   go_wp2_with fail
   go_ret;exact⟨-1,rfl,HV,hbw⟩
theorem ContainsFuncG_any (v:Value) (ys:List SrcB) (f:Nat) (bs:Array Value) (p:SrcB->Bool) (w:World) (hf:∀(args:Array Value) (W:World),(callFunc f args).run Tryz.prog W=.ok (.enter f args) W) (h:SrcsAt w v ys) (hL:ys.length<=100000)
  (hp:∀(W:World) (x:SrcB),x∈ys->Below w.heap.size w W->Calls Tryz.prog f (#[x.val]++bs) W fun e w'=>e=.returned (.bool (p x))/\Below w.heap.size w w'):
  Calls Tryz.prog 29 #[v,.func (.func f) #[] bs] w (RBool (ys.any p) w):=by
 have cI:=Ih (IndexFuncG_any v ys f bs p w hf h hL hp);clear h hp hf;go_enter Tryz.func29,Tryz.ntmps29
 go_wp2_with fail
 refine cI.out.mono ?_;rintro e w5 ⟨r,rfl,hr,hb5⟩
 go_wp2_with fail
 go_ret;exact⟨by rw[<-hr.out];rfl,hb5⟩
attribute [local go_sem ↓] Go.wp_at_zero Go.wp_at_succ
structure EnvA (tab:List UInt32) (tab2:List UInt64) (w:World):Prop where
 m:EnvM w
 d:TabD tab w
 l:TabL tab2 w
theorem EnvA.below {tab:List UInt32} {tab2:List UInt64} {w w':World} (h:EnvA tab tab2 w) (hb:Below w.heap.size w w'):EnvA tab tab2 w':=⟨h.m.below hb,h.d.keep hb,h.l.keep hb⟩
theorem eqText (s t:ByteArray):(s.toList==t.toList)=(s.data.toList==t.data.toList):=by rw[Lib.toList_data,Lib.toList_data]
theorem keyword_any (x:SrcB) (n:ByteArray) (w:World):Calls Tryz.prog 27 #[x.val,.string n] w (RBool (Lz.kwS n.data.toList x.src) w):=by
 obtain⟨k,t,b,sc,ho,wd,po,pa⟩:=x
 dsimp only[SrcB.val]
 by_cases hk:k=1
 ·subst hk;go_enter Tryz.func27,Tryz.ntmps27
  go_wp2_with fail
  go_ret;refine⟨?_,(Below.refl _ w).alloc (Nat.le_refl _) _⟩;show Ending.returned (.bool (t.toList==n.toList))=.returned (.bool ((1:Int)==1&&t.data.toList==n.data.toList));rw[eqText];rfl
 ·have hkb:(k==1)=false:=by simpa using hk
  go_enter Tryz.func27,Tryz.ntmps27
  go_wp2_with fail
  go_ret;refine⟨?_,(Below.refl _ w).alloc (Nat.le_refl _) _⟩;show Ending.returned (.bool false)=.returned (.bool (k==1&&t.data.toList==n.data.toList));rw[hkb];rfl
theorem fn_has1 (args:Array Value) (w:World):(callFunc 49 args).run Tryz.prog w=.ok (.enter 49 args) w:=enters_of Tryz.func49 (by kernel_rfl) rfl args w
theorem fn_nonce1 (args:Array Value) (w:World):(callFunc 30 args).run Tryz.prog w=.ok (.enter 30 args) w:=enters_of Tryz.func30 (by kernel_rfl) rfl args w
theorem has1_any (x:SrcB) (r:Nat) (n:ByteArray) (W:World) (hr:W.cell? ⟨r,0,none⟩=some (.string n)):Calls Tryz.prog 49 #[x.val,.pointer (some ⟨r,0,none⟩)] W (RBool (Lz.kwS n.data.toList x.src) W):=by
 obtain⟨k,t,b,sc,ho,wd,po,pa⟩:=x;obtain⟨V,hV⟩:∃V,V=W.alloc (.cells #[.int .i64 k,.string t,.int .i64 b,.string sc,.string ho,.bool wd,.int .i64 po,.string pa] 47):=⟨_,rfl⟩;have hbV:Below W.heap.size W V:=by rw[hV];exact(Below.refl _ W).alloc (Nat.le_refl _) _
 have hB:V.heap[W.heap.size]? =some (.cells #[.int .i64 k,.string t,.int .i64 b,.string sc,.string ho,.bool wd,.int .i64 po,.string pa] 47 (0,0)):=by rw[hV];exact heap_new _ _
 obtain⟨z0,z1,z2,z3,z4,z5,z6,z7⟩:=row8c hB;have hr2:V.cell? ⟨r,0,none⟩=some (.string n):=by rw[hbV.cell (p:=⟨r,0,none⟩) (World.block_lt_of_cell? _ _ hr)];exact hr
 have cK:=Ih (keyword_any ⟨k,t,b,sc,ho,wd,po,pa⟩ n V)
 dsimp only[SrcB.val]at cK⊢
 have HV:=Ih hV;clear hV hB hr;go_enter Tryz.func49,Tryz.ntmps49
 go_upto_region 1 with fail
 rw[<-HV.out]
 go_wp2_with fail
 refine cK.out.mono ?_;rintro e w5 ⟨rfl,hb5⟩
 go_wp2_with fail
 go_ret;exact⟨rfl,below_call hbV hb5⟩
theorem has_any (v:Value) (ys:List SrcB) (n:ByteArray) (w:World) (h:SrcsAt w v ys) (hL:ys.length<=100000):Calls Tryz.prog 23 #[v,.string n] w (RBool (Lz.hasK (ys.map SrcB.src) n.data.toList) w):=by
 obtain⟨V,hV⟩:∃V,V=w.alloc (.cells #[.string n] 9):=⟨_,rfl⟩;have hbV:Below w.heap.size w V:=by rw[hV];exact(Below.refl _ w).alloc (Nat.le_refl _) _
 have hB:V.heap[w.heap.size]? =some (.cells #[.string n] 9 (0,0)):=by rw[hV];exact heap_new _ _
 have hc:=rowAt hB 0 (.string n) rfl;have cC:=Ih (ContainsFuncG_any v ys 49 #[.pointer (some ⟨w.heap.size,0,none⟩)] (fun x=>Lz.kwS n.data.toList x.src) V fn_has1 (h.below hbV) hL (fun W x _ hW=>has1_any x w.heap.size n W (by rw[hW.cell (p:=⟨w.heap.size,0,none⟩) (row_lt hB)];exact hc) |>.mono fun e w' ⟨h1,h2⟩=>⟨h1,hW.trans (h2.mono hW.size)⟩));have HV:=Ih hV
 have HQ:Hid (Lz.hasK (ys.map SrcB.src) n.data.toList=ys.any fun x=>Lz.kwS n.data.toList x.src):=by
  show _=_;unfold Lz.hasK;rw[List.any_map];rfl
 clear hV hB hc h;go_enter Tryz.func23,Tryz.ntmps23
 go_upto_region 1 with fail
 rw[<-HV.out]
 go_wp2_with fail
 refine cC.out.mono ?_;rintro e w5 ⟨rfl,hb5⟩
 go_wp2_with fail
 go_ret;exact⟨by rw[HQ.out];rfl,below_call hbV hb5⟩
theorem nonce1_any (x:SrcB) (r:Nat) (n:ByteArray) (W:World) (hr:W.cell? ⟨r,0,none⟩=some (.string n)):Calls Tryz.prog 30 #[x.val,.pointer (some ⟨r,0,none⟩)] W (RBool (x.src.kind==4&&x.src.text==n.data.toList) W):=by
 obtain⟨k,t,b,sc,ho,wd,po,pa⟩:=x;obtain⟨V,hV⟩:∃V,V=W.alloc (.cells #[.int .i64 k,.string t,.int .i64 b,.string sc,.string ho,.bool wd,.int .i64 po,.string pa] 47):=⟨_,rfl⟩;have hbV:Below W.heap.size W V:=by rw[hV];exact(Below.refl _ W).alloc (Nat.le_refl _) _
 have hB:V.heap[W.heap.size]? =some (.cells #[.int .i64 k,.string t,.int .i64 b,.string sc,.string ho,.bool wd,.int .i64 po,.string pa] 47 (0,0)):=by rw[hV];exact heap_new _ _
 obtain⟨z0,z1,z2,z3,z4,z5,z6,z7⟩:=row8c hB;have hr2:V.cell? ⟨r,0,none⟩=some (.string n):=by rw[hbV.cell (p:=⟨r,0,none⟩) (World.block_lt_of_cell? _ _ hr)];exact hr
 dsimp only[SrcB.val]
 have HV:=Ih hV;clear hV hB hr;by_cases hk:k=4
 ·have hkb:(k==4)=true:=by simpa using hk
  have Hk:=Ih hkb;clear hk;go_enter Tryz.func30,Tryz.ntmps30
  go_upto_region 1 with fail
  rw[<-HV.out]
  go_wp2_with fail
  go_ret;refine⟨?_,hbV⟩;show Ending.returned (.bool (t.toList==n.toList))=.returned (.bool (k==4&&t.data.toList==n.data.toList));rw[eqText,Hk.out];rfl
 ·have hkb:(k==4)=false:=by simpa using hk
  go_enter Tryz.func30,Tryz.ntmps30
  go_upto_region 1 with fail
  rw[<-HV.out]
  go_wp2_with fail
  go_ret;refine⟨?_,hbV⟩;show Ending.returned (.bool false)=.returned (.bool (k==4&&t.data.toList==n.data.toList));rw[hkb];rfl
structure ValsAt (w:World) (v:Value) (l:List (List UInt8)):Prop where
 at':PathAt w v l
 len:l.length<=10000
 size:∀x,x∈l->x.length<=90000
theorem ValsAt.below {w w':World} {v:Value} {l:List (List UInt8)} (h:ValsAt w v l) (hb:Below w.heap.size w w'):ValsAt w' v l:=⟨h.at'.below hb,h.len,h.size⟩
theorem ValsAt.list {w:World} {v:Value} {l:List (List UInt8)} (h:ValsAt w v l) (hE:Env w):Calls Tryz.prog 24 #[v] w (RList l w):=List_any v l w hE h.at' h.len (fun x hx=>by have:=h.size x hx;omega)
theorem ValsAt.ylen {w:World} {v:Value} {l:List (List UInt8)} (h:ValsAt w v l) {ys:List SrcB} (hy:ys.map SrcB.src=Lz.listS l):ys.length<=100000:=by
 rw[<-List.length_map (f:=SrcB.src),hy];have:=List.length_filterMap_le Lz.parseS l;have:=h.len;unfold Lz.listS;omega
theorem NonceA_any (v:Value) (l:List (List UInt8)) (n:ByteArray) (w:World) (hE:Env w) (h:ValsAt w v l):Calls Tryz.prog 14 #[v,.string n] w (RBool (Lz.nonceP l n.data.toList) w):=by
 obtain⟨V,hV⟩:∃V,V=w.alloc (.cells #[.string n] 9):=⟨_,rfl⟩;have hbV:Below w.heap.size w V:=by rw[hV];exact(Below.refl _ w).alloc (Nat.le_refl _) _
 have hB:V.heap[w.heap.size]? =some (.cells #[.string n] 9 (0,0)):=by rw[hV];exact heap_new _ _
 have hc:=rowAt hB 0 (.string n) rfl;have cL:=Ih ((h.below hbV).list (hE.below hbV));have cC:=Ih (fun(W:World) (sv:Value) (ys:List SrcB) (hW:Below V.heap.size V W) (hs:SrcsAt W sv ys) (hy:ys.map SrcB.src=Lz.listS l)=>ContainsFuncG_any sv ys 30 #[.pointer (some ⟨w.heap.size,0,none⟩)] (fun x=>x.src.kind==4&&x.src.text==n.data.toList) W fn_nonce1 hs (h.ylen hy) (fun W2 x _ hW2=>nonce1_any x w.heap.size n W2 (by rw[(hW.trans (hW2.mono hW.size)).cell (p:=⟨w.heap.size,0,none⟩) (row_lt hB)];exact hc) |>.mono fun e w' ⟨h1,h2⟩=>⟨h1,hW2.trans (h2.mono hW2.size)⟩));have HV:=Ih hV;clear hV hB hE h;by_cases hz:n.size=0
 ·have hne:n.toList.isEmpty=true:=emptyB_zero hz
  have HQ:Hid (Lz.nonceP l n.data.toList=false):=by
   show _=_;unfold Lz.nonceP;rw[List.length_eq_zero_iff.1 (show n.data.toList.length=0 by rw[len_of_size,hz])];rfl
  go_enter Tryz.func14,Tryz.ntmps14
  go_upto_region 1 with fail
  rw[<-HV.out]
  go_wp2_with fail
  go_ret;exact⟨by rw[HQ.out];rfl,hbV⟩
 ·have hne:n.toList.isEmpty=false:=emptyB_pos (by omega)
  have HQ:Hid (∀ys:List SrcB,ys.map SrcB.src=Lz.listS l->Lz.nonceP l n.data.toList=ys.any fun x=>x.src.kind==4&&x.src.text==n.data.toList):=by
   show ∀ys,_;intro ys hy;unfold Lz.nonceP;rw[<-hy,List.any_map]
   have:(n.data.toList != [])=true:=by
    rw[bne_iff_ne];intro e;have:=len_of_size n;rw[e]at this;simp at this;omega
   rw[this];rfl
  clear hz;go_enter Tryz.func14,Tryz.ntmps14
  go_upto_region 1 with fail
  rw[<-HV.out]
  go_wp2_with fail
  refine cL.out.mono ?_;rintro e w6 ⟨sv,ys,rfl,hys,hso,hb6⟩;have hsa:=SrcsOwn.at hso
  go_wp2_with fail
  refine(cC.out w6 _ ys hb6 hsa hys.out).mono ?_;rintro e w7 ⟨rfl,hb7⟩
  go_wp2_with fail
  go_ret;exact⟨by rw[HQ.out ys hys.out];rfl,below_call (below_call hbV hb6) hb7⟩
attribute [local go_sem ↓] Go.wp_at_zero Go.wp_at_succ
def strictB:ByteArray:=⟨#[115,116,114,105,99,116,45,100,121,110,97,109,105,99]⟩
def inlineB:ByteArray:=⟨#[117,110,115,97,102,101,45,105,110,108,105,110,101]⟩
theorem AllA_any (kind:Int) (v:Value) (l:List (List UInt8)) (w:World) (hE:Env w) (h:ValsAt w v l):Calls Tryz.prog 12 #[.int .i64 kind,v] w (RBool (Lz.allP kind l) w):=by
 have cL:=Ih (h.list hE);have HY:=Ih (fun(ys:List SrcB) hy=>h.ylen (ys:=ys) hy);clear h hE;go_enter Tryz.func12,Tryz.ntmps12
 go_wp2_with fail
 refine cL.out.mono ?_;rintro e w6 ⟨sv,ys,rfl,hys,hso,hb6⟩;have hsa:=SrcsOwn.at hso;have hsa2:=Ih hsa;obtain⟨a,c,rfl,hx⟩:=hsa;have Hx:=Ih hx;obtain⟨n,hn⟩:∃n,n=ys.length:=⟨_,rfl⟩;rw[<-hn];rw[<-hn]at hsa2;have hL:n<=100000:=by rw[hn];exact HY.out ys hys.out
 have HN:=Ih hn
 have HP:Hid (Lz.allP kind l=(!(ys.any fun x=>Lz.barS kind x.src)&&Lz.hasK (ys.map SrcB.src) Lz.inlineS)):=by
  show _=_;unfold Lz.allP;rw[<-hys.out,List.any_map];rfl
 clear hx hn hso HY hys
 go_wp2_with fail
 go_loopw [7,12,16,23] (fun _ i _ _ wr=>∃j:Nat,j<=n/\i=.int .i64 j/\Hid ((ys.take j).any (fun x=>Lz.barS kind x.src)=false)/\Below w6.heap.size w6 wr) (fun _ i _ _ _=>n-(intOf i).toNat)
 case atStart=>exact⟨0,Nat.zero_le _,rfl,Ih (by simp),Below.refl _ _⟩
 case round=>
  obtain⟨j,hj,rfl,hT,hbw⟩:=hrel;by_cases hlt:j<n
  ·have hltI:(j:Int)<(n:Int):=by omega
   have hj0:(0:Int)<=(j:Int):=by omega
   obtain⟨x,hx⟩:∃x,ys[j]? =some x:=⟨_,List.getElem?_eq_getElem (by rw[<-HN.out];exact hlt)⟩;obtain⟨g,rfl,hg,hc⟩:=Hx.out j x hx;have hcw:∀(k:Nat) (u:Value),(SrcB.row x)[k]? =some u->wr.cell? ⟨g,j*8+k,none⟩=some u:=fun k u hk=>by rw[hbw.cell (p:=⟨g,j*8+k,none⟩) hg];exact hc k u hk
   have hst:(ys.take (j+1)).any (fun x=>Lz.barS kind x.src)=Lz.barS kind x.src:=by rw[List.take_add_one,hx,List.any_append,hT.out];simp
   have hall:Lz.barS kind x.src=true->Lz.allP kind l=false:=fun h=>by rw[HP.out,List.any_eq_true.2 ⟨x,List.mem_of_getElem? hx,h⟩];rfl
   obtain⟨k,t,b,sc,ho,wd,po,pa⟩:=x;have c0:=hcw 0 _ rfl;have c1:=hcw 1 _ rfl;have c2:=hcw 2 _ rfl;have c3:=hcw 3 _ rfl;have c4:=hcw 4 _ rfl;have c5:=hcw 5 _ rfl;have c6:=hcw 6 _ rfl;have c7:=hcw 7 _ rfl;have Hst:=Ih hst;have Hall:=Ih hall;clear hx hc hcw hst hall hT
   dsimp only at c0 c1 c2 c3 c4 c5 c6 c7
   rw[Nat.add_zero]at c0;obtain⟨V,hV⟩:∃V,V=wr.alloc (.cells #[.int .i64 k,.string t,.int .i64 b,.string sc,.string ho,.bool wd,.int .i64 po,.string pa] 47):=⟨_,rfl⟩;have hbV:Below w6.heap.size w6 V:=by rw[hV];exact hbw.alloc hbw.size _
   have hB:V.heap[wr.heap.size]? =some (.cells #[.int .i64 k,.string t,.int .i64 b,.string sc,.string ho,.bool wd,.int .i64 po,.string pa] 47 (0,0)):=by rw[hV];exact heap_new _ _
   obtain⟨z0,z1,z2,z3,z4,z5,z6,z7⟩:=row8c hB;have cK:=Ih (keyword_any ⟨k,t,b,sc,ho,wd,po,pa⟩ strictB V)
   dsimp only[SrcB.val]at cK
   obtain⟨q,hq⟩:∃q,q=Lz.kwS Lz.strictS (SrcB.src ⟨k,t,b,sc,ho,wd,po,pa⟩):=⟨_,rfl⟩;have cK2:Hid (Calls Tryz.prog 27 #[.agg #[.int .i64 k,.string t,.int .i64 b,.string sc,.string ho,.bool wd,.int .i64 po,.string pa],.string strictB] V (RBool q V)):=by rw[hq];exact cK
   have HBAR:Hid (Lz.barS kind (SrcB.src ⟨k,t,b,sc,ho,wd,po,pa⟩)=((k==4)||((k==5)||(q&&decide (kind<4))))):=by show _=_;rw[hq];rfl
   have HV:=Ih hV;clear hV hB cK hq
   go_upto_region 5 with fail
   rw[<-HV.out];clear c0 c1 c2 c3 c4 c5 c6 c7;by_cases h4:k=4
   ·have HF:Hid (Lz.allP kind l=false):=Ih (Hall.out (by rw[HBAR.out,h4];rfl));subst h4
    go_wp2_with fail
    go_ret;exact⟨by rw[HF.out];rfl,below_call hb6 hbV⟩
   ·by_cases h5:k=5
    ·have HF:Hid (Lz.allP kind l=false):=Ih (Hall.out (by rw[HBAR.out,h5];rfl));subst h5
     go_wp2_with fail
     go_ret;exact⟨by rw[HF.out];rfl,below_call hb6 hbV⟩
    ·have hn4:(k==4)=false:=by simpa using h4
     have hn5:(k==5)=false:=by simpa using h5
     have HN4:Hid ((k==4)=false/\(k==5)=false):=⟨hn4,hn5⟩;clear hn4 hn5;have hbVs:=hbV.size;cases q with
     | true=>
       by_cases hk:kind<4
       ·have HF:Hid (Lz.allP kind l=false):=Ih (Hall.out (by rw[HBAR.out,HN4.out.1,HN4.out.2,decide_eq_true hk];rfl))
        go_wp2_with fail
        refine cK2.out.mono ?_;rintro e w7 ⟨rfl,hb7⟩
        go_wp2_with fail
        go_ret;exact⟨by rw[HF.out];rfl,below_call hb6 (below_call hbV hb7)⟩
       ·have HS:Hid ((ys.take (j+1)).any (fun x=>Lz.barS kind x.src)=false):=by show _=_;rw[Hst.out,HBAR.out,HN4.out.1,HN4.out.2,decide_eq_false hk];rfl
        go_wp2_with fail
        refine cK2.out.mono ?_;rintro e w7 ⟨rfl,hb7⟩
        go_wp2_with fail
        go_roundw
        case rel=>exact⟨j+1,by omega,by go_num,HS,below_call hbV hb7⟩
        case measure=>simp[intOf];omega
     | false=>
       have HS:Hid ((ys.take (j+1)).any (fun x=>Lz.barS kind x.src)=false):=by show _=_;rw[Hst.out,HBAR.out,HN4.out.1,HN4.out.2];rfl
       go_wp2_with fail
       refine cK2.out.mono ?_;rintro e w7 ⟨rfl,hb7⟩
       go_wp2_with fail
       go_roundw
       case rel=>exact⟨j+1,by omega,by go_num,HS,below_call hbV hb7⟩
       case measure=>simp[intOf];omega
  ·have hltI:¬(j:Int)<(n:Int):=by omega
   have cH:=Ih (has_any (.slice a n c) ys inlineB wr (hsa2.out.below hbw) (by rw[<-HN.out];exact hL))
   have HR:Hid (Lz.allP kind l=Lz.hasK (ys.map SrcB.src) Lz.inlineS):=by
    show _=_;rw[HP.out,<-List.take_of_length_le (l:=ys) (i:=j) (by rw[<-HN.out];omega),hT.out,List.take_of_length_le (by rw[<-HN.out];omega)];rfl
   clear hT
   go_wp2_with fail
   refine cH.out.mono ?_;rintro e w7 ⟨rfl,hb7⟩
   go_wp2_with fail
   go_ret;exact⟨by rw[HR.out];rfl,below_call hb6 (below_call hbw hb7)⟩
def digA (tab:List UInt32) (tab2:List UInt64) (b:Int) (t:List UInt8):List UInt8:=if b=256 then Lz.sum32 tab first32 t else if b=384 then(Lz.sum64 tab2 first384 t).take 48 else Lz.sum64 tab2 first512 t
theorem digA_len (tab:List UInt32) (tab2:List UInt64) (b:Int) (t:List UInt8):(digA tab tab2 b t).length<=64/\digA tab tab2 b t≠[]:=by
 unfold digA;have h32:(Lz.sum32 tab first32 t).length=32:=Lz.out32_len _;have h64:=sum64_len tab2;split
 ·exact⟨by omega,fun e=>by rw[e]at h32;cases h32⟩
 ·split
  ·refine⟨by rw[List.length_take,h64];omega,fun e=>?_⟩;have:=congrArg List.length e;rw[List.length_take,h64]at this;simp at this
  ·exact⟨by rw[h64];omega,fun e=>by have:=h64 first512 t;rw[e]at this;cases this⟩
theorem sumA_any (tab:List UInt32) (tab2:List UInt64) (b:Int) (t:ByteArray) (ht:t.size<=1000000) (w:World) (hE:EnvA tab tab2 w):Calls Tryz.prog 33 #[.int .i64 b,.string t] w (RStr (Lz.sumD (digA tab tab2) b t.data.toList) w):=by
 have cE:=Ih (fun(u:ByteArray) (hu:u.size<=64) W=>Encode64_any u (by omega) W);have hdl:=(digA_len tab tab2 b t.data.toList).1;by_cases h1:b=256
 ·have HD:Hid (digA tab tab2 b t.data.toList=Lz.sum32 tab first32 t.data.toList):=by show _=_;unfold digA;rw[if_pos h1]
  have cS:=Ih (Sum_any tab t (by omega) w hE.d);rw[HD.out]at hdl;subst h1;clear hE;go_enter Tryz.func33,Tryz.ntmps33
  go_wp2_with fail
  refine cS.out.mono ?_;rintro e w1 ⟨rfl,hb1⟩;obtain⟨u,hu⟩:∃u:ByteArray,u=⟨(Lz.sum32 tab first32 t.data.toList).toArray⟩:=⟨_,rfl⟩;have hul:u.data.toList=Lz.sum32 tab first32 t.data.toList:=by rw[hu]
  rw[<-hu];have hz:u.size<=64:=by rw[<-len_of_size,hul];exact hdl
  have Hul:=Ih hul;clear hu hul
  go_wp2_with fail
  refine(cE.out u hz _).mono ?_;rintro e w2 ⟨x,rfl,hx,hb2⟩
  go_wp2_with fail
  go_ret;exact⟨x,rfl,Ih (by rw[hx.out,Hul.out];unfold Lz.sumD;rw[HD.out]),below_call hb1 hb2⟩
 ·by_cases h2:b=384
  ·have HD:Hid (digA tab tab2 b t.data.toList=(Lz.sum64 tab2 first384 t.data.toList).take 48):=by show _=_;unfold digA;rw[if_neg h1,if_pos h2]
   have cS:=Ih (Sum384_any tab2 t (by omega) w hE.l);rw[HD.out]at hdl;subst h2;clear hE h1;go_enter Tryz.func33,Tryz.ntmps33
   go_wp2_with fail
   refine cS.out.mono ?_;rintro e w1 ⟨u,rfl,hu,hb1⟩;have hz:u.size<=64:=by rw[<-len_of_size,hu.out];exact hdl
   go_wp2_with fail
   refine(cE.out u hz _).mono ?_;rintro e w2 ⟨x,rfl,hx,hb2⟩
   go_wp2_with fail
   go_ret;exact⟨x,rfl,Ih (by rw[hx.out,hu.out];unfold Lz.sumD;rw[HD.out]),below_call hb1 hb2⟩
  ·have HD:Hid (digA tab tab2 b t.data.toList=Lz.sum64 tab2 first512 t.data.toList):=by show _=_;unfold digA;rw[if_neg h1,if_neg h2]
   have cS:=Ih (Sum512_any tab2 t (by omega) w hE.l);rw[HD.out]at hdl;clear hE;go_enter Tryz.func33,Tryz.ntmps33
   go_wp2_with fail
   refine cS.out.mono ?_;rintro e w1 ⟨u,rfl,hu,hb1⟩;have hz:u.size<=64:=by rw[<-len_of_size,hu.out];exact hdl
   go_wp2_with fail
   refine(cE.out u hz _).mono ?_;rintro e w2 ⟨x,rfl,hx,hb2⟩
   go_wp2_with fail
   go_ret;exact⟨x,rfl,Ih (by rw[hx.out,hu.out];unfold Lz.sumD;rw[HD.out]),below_call hb1 hb2⟩
end Go.Proofs.YtjhccadmmnjpeaaGreatDoor
