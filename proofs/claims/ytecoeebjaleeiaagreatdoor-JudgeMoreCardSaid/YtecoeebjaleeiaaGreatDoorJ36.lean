/-
  Package allow: All, sum, Hash, Inline.
-/
import Derived.Test.YtecoeebjaleeiaaGreatDoorJ34
import Derived.Test.YtecoeebjaleeiaaGreatDoorJ17
set_option maxHeartbeats 4000000
set_option maxRecDepth 100000
namespace Go.Proofs.YtecoeebjaleeiaaGreatDoor
open Go.RowKit
attribute [local go_sem ↓] Go.wp_at_zero Go.wp_at_succ
theorem wi (v:Value) (ys:List ak) (f:Nat) (bs:Array Value) (p:ak->Bool) (w:World) (hf:∀(args:Array Value) (W:World),(callFunc f args).run Tryz.prog W=.ok (.enter f args) W) (h:ik w v ys) (hL:ys.length<=100000)
  (hp:∀(W:World) (x:ak),x∈ys->Below w.heap.size w W->Calls Tryz.prog f (#[x.val]++bs) W fun e w'=>e=.returned (.bool (p x))/\Below w.heap.size w w'):
  Calls Tryz.prog 143 #[v,.func (.func f) #[] bs] w fun e w'=>∃r:Int,e=.returned (.int .i64 r)/\Hid (decide (0<=r)=ys.any p)/\Below w.heap.size w w':=by
 obtain⟨a,c,rfl,hx⟩:=h;have Hx:=Ih hx;have Hp:=Ih hp;obtain⟨n,hn⟩:∃n,n=ys.length:=⟨_,rfl⟩;rw[<-hn];rw[<-hn]at hL;have HN:=Ih hn;clear hx hp hn;go_enter Tryz.func143,Tryz.ntmps143
 go_wp2_with fail
 go_loopw [8] (fun i wr=>∃j:Nat,j<=n/\i=.int .i64 j/\Hid ((ys.take j).any p=false)/\Below w.heap.size w wr) (fun i _=>n-(intOf i).toNat)
 case atStart=>exact⟨0,Nat.zero_le _,rfl,Ih (by simp),Below.refl _ _⟩
 case round=>
  obtain⟨j,hj,rfl,hT,aK⟩:=hrel;by_cases aV:j<n
  ·have bW:(j:Int)<(n:Int):=by omega
   have tM:(0:Int)<=(j:Int):=by omega
   obtain⟨x,hx⟩:∃x,ys[j]? =some x:=⟨_,List.getElem?_eq_getElem (by rw[<-HN.out];exact aV)⟩;obtain⟨g,rfl,hg,hc⟩:=Hx.out j x hx;have mT:∀(k:Nat) (u:Value),(ak.row x)[k]? =some u->wr.cell? ⟨g,j*8+k,none⟩=some u:=fun k u hk=>by rw[aK.cell (p:=⟨g,j*8+k,none⟩) hg];exact hc k u hk
   have cP:=Ih (Hp.out wr x (List.mem_of_getElem? hx) aK);have hst:(ys.take (j+1)).any p=p x:=by rw[List.take_add_one,hx,List.any_append,hT.out];simp
   have fq:p x=true->ys.any p=true:=fun h=>by rw[List.any_eq_true];exact⟨x,List.mem_of_getElem? hx,h⟩
   obtain⟨k,t,b,sc,ho,wd,po,pa⟩:=x;have c0:=mT 0 _ rfl;have c1:=mT 1 _ rfl;have c2:=mT 2 _ rfl;have c3:=mT 3 _ rfl;have c4:=mT 4 _ rfl;have c5:=mT 5 _ rfl;have c6:=mT 6 _ rfl;have c7:=mT 7 _ rfl;have gM:=Ih hst;have ll:=Ih fq;clear hx hc mT hst fq hT
   dsimp only at c0 c1 c2 c3 c4 c5 c6 c7
   rw[Nat.add_zero]at c0
   dsimp only[ak.val]at cP
   cases tH:p (ak.mk k t b sc ho wd po pa)with
   | true=>
     rw[tH]at cP;have HV:Hid (decide ((0:Int)<=(j:Int))=ys.any p):=by show _=_;rw[ll.out tH];exact decide_eq_true tM
     clear tH gM ll
     go_wp2_with fail
     refine cP.out.mono ?_;rintro e w5 ⟨rfl,aI⟩
     go_wp2_with fail
     go_ret;exact⟨_,rfl,HV,aI⟩
   | false=>
     rw[tH]at cP;have HS:Hid ((ys.take (j+1)).any p=false):=by show _=_;rw[gM.out,tH]
     clear tH gM ll
     go_wp2_with fail
     refine cP.out.mono ?_;rintro e w5 ⟨rfl,aI⟩
     go_wp2_with fail
     go_roundw
     case rel=>exact⟨j+1,by omega,by go_num,HS,aI⟩
     case measure=>simp[intOf];omega
  ·have bW:¬(j:Int)<(n:Int):=by omega
   have HV:Hid (decide ((0:Int)<= -1)=ys.any p):=by
    show _=_;rw[<-List.take_of_length_le (l:=ys) (i:=j) (by rw[<-HN.out];omega),hT.out];rfl
   clear hT
   go_wp2_with fail
   go_ret;exact⟨-1,rfl,HV,aK⟩
theorem fV (v:Value) (ys:List ak) (f:Nat) (bs:Array Value) (p:ak->Bool) (w:World) (hf:∀(args:Array Value) (W:World),(callFunc f args).run Tryz.prog W=.ok (.enter f args) W) (h:ik w v ys) (hL:ys.length<=100000)
  (hp:∀(W:World) (x:ak),x∈ys->Below w.heap.size w W->Calls Tryz.prog f (#[x.val]++bs) W fun e w'=>e=.returned (.bool (p x))/\Below w.heap.size w w'):
  Calls Tryz.prog 111 #[v,.func (.func f) #[] bs] w (aC (ys.any p) w):=by
 have cI:=Ih (wi v ys f bs p w hf h hL hp);clear h hp hf;go_enter Tryz.func111,Tryz.ntmps111
 go_wp2_with fail
 refine cI.out.mono ?_;rintro e w5 ⟨r,rfl,hr,aI⟩
 go_wp2_with fail
 go_ret;exact⟨by rw[<-hr.out];rfl,aI⟩
attribute [local go_sem ↓] Go.wp_at_zero Go.wp_at_succ
structure C3 (bi:List UInt32) (aY:List UInt64) (w:World):Prop where
 m:rk w
 d:G9 bi w
 l:xj aY w
theorem C3.below {bi:List UInt32} {aY:List UInt64} {w w':World} (h:C3 bi aY w) (hb:Below w.heap.size w w'):C3 bi aY w':=⟨h.m.below hb,h.d.keep hb,h.l.keep hb⟩
theorem xC (s t:ByteArray):(s.toList==t.toList)=(s.data.toList==t.data.toList):=by rw[Lib.toList_data,Lib.toList_data]
theorem um (x:ak) (n:ByteArray) (w:World):Calls Tryz.prog 110 #[x.val,.string n] w (aC (Lz.kwS n.data.toList x.src) w):=by
 obtain⟨k,t,b,sc,ho,wd,po,pa⟩:=x
 dsimp only[ak.val]
 by_cases hk:k=1
 ·subst hk;go_enter Tryz.func110,Tryz.ntmps110
  go_wp2_with fail
  go_ret;refine⟨?_,(Below.refl _ w).alloc (Nat.le_refl _) _⟩;show Ending.returned (.bool (t.toList==n.toList))=.returned (.bool ((1:Int)==1&&t.data.toList==n.data.toList));rw[xC];rfl
 ·have Ig:(k==1)=false:=by simpa using hk
  go_enter Tryz.func110,Tryz.ntmps110
  go_wp2_with fail
  go_ret;refine⟨?_,(Below.refl _ w).alloc (Nat.le_refl _) _⟩;show Ending.returned (.bool false)=.returned (.bool (k==1&&t.data.toList==n.data.toList));rw[Ig];rfl
theorem R1 (args:Array Value) (w:World):(callFunc 113 args).run Tryz.prog w=.ok (.enter 113 args) w:=enters_of Tryz.func113 (by kernel_rfl) rfl args w
theorem K3 (args:Array Value) (w:World):(callFunc 112 args).run Tryz.prog w=.ok (.enter 112 args) w:=enters_of Tryz.func112 (by kernel_rfl) rfl args w
theorem Ok (x:ak) (r:Nat) (n:ByteArray) (W:World) (hr:W.cell? ⟨r,0,none⟩=some (.string n)):Calls Tryz.prog 113 #[x.val,.pointer (some ⟨r,0,none⟩)] W (aC (Lz.kwS n.data.toList x.src) W):=by
 obtain⟨k,t,b,sc,ho,wd,po,pa⟩:=x;obtain⟨V,hV⟩:∃V,V=W.alloc (.cells #[.int .i64 k,.string t,.int .i64 b,.string sc,.string ho,.bool wd,.int .i64 po,.string pa] 174):=⟨_,rfl⟩;have eE:Below W.heap.size W V:=by rw[hV];exact(Below.refl _ W).alloc (Nat.le_refl _) _
 have hB:V.heap[W.heap.size]? =some (.cells #[.int .i64 k,.string t,.int .i64 b,.string sc,.string ho,.bool wd,.int .i64 po,.string pa] 174 (0,0)):=by rw[hV];exact ah _ _
 obtain⟨z0,z1,z2,z3,z4,z5,z6,z7⟩:=tW hB;have bB:V.cell? ⟨r,0,none⟩=some (.string n):=by rw[eE.cell (p:=⟨r,0,none⟩) (World.block_lt_of_cell? _ _ hr)];exact hr
 have cK:=Ih (um ⟨k,t,b,sc,ho,wd,po,pa⟩ n V)
 dsimp only[ak.val]at cK⊢
 have HV:=Ih hV;clear hV hB hr;go_enter Tryz.func113,Tryz.ntmps113
 go_upto_region 1 with fail
 rw[<-HV.out]
 go_wp2_with fail
 refine cK.out.mono ?_;rintro e w5 ⟨rfl,aI⟩
 go_wp2_with fail
 go_ret;exact⟨rfl,ac eE aI⟩
theorem A5 (v:Value) (ys:List ak) (n:ByteArray) (w:World) (h:ik w v ys) (hL:ys.length<=100000):Calls Tryz.prog 74 #[v,.string n] w (aC (Lz.uX (ys.map ak.src) n.data.toList) w):=by
 obtain⟨V,hV⟩:∃V,V=w.alloc (.cells #[.string n] 9):=⟨_,rfl⟩;have eE:Below w.heap.size w V:=by rw[hV];exact(Below.refl _ w).alloc (Nat.le_refl _) _
 have hB:V.heap[w.heap.size]? =some (.cells #[.string n] 9 (0,0)):=by rw[hV];exact ah _ _
 have hc:=rowAt hB 0 (.string n) rfl;have cC:=Ih (fV v ys 113 #[.pointer (some ⟨w.heap.size,0,none⟩)] (fun x=>Lz.kwS n.data.toList x.src) V R1 (h.below eE) hL (fun W x _ hW=>Ok x w.heap.size n W (by rw[hW.cell (p:=⟨w.heap.size,0,none⟩) (af hB)];exact hc) |>.mono fun e w' ⟨h1,h2⟩=>⟨h1,hW.trans (h2.mono hW.size)⟩));have HV:=Ih hV
 have HQ:Hid (Lz.uX (ys.map ak.src) n.data.toList=ys.any fun x=>Lz.kwS n.data.toList x.src):=by
  show _=_;unfold Lz.uX;rw[List.any_map];rfl
 clear hV hB hc h;go_enter Tryz.func74,Tryz.ntmps74
 go_upto_region 1 with fail
 rw[<-HV.out]
 go_wp2_with fail
 refine cC.out.mono ?_;rintro e w5 ⟨rfl,aI⟩
 go_wp2_with fail
 go_ret;exact⟨by rw[HQ.out];rfl,ac eE aI⟩
theorem Gp (x:ak) (r:Nat) (n:ByteArray) (W:World) (hr:W.cell? ⟨r,0,none⟩=some (.string n)):Calls Tryz.prog 112 #[x.val,.pointer (some ⟨r,0,none⟩)] W (aC (x.src.kind==4&&x.src.text==n.data.toList) W):=by
 obtain⟨k,t,b,sc,ho,wd,po,pa⟩:=x;obtain⟨V,hV⟩:∃V,V=W.alloc (.cells #[.int .i64 k,.string t,.int .i64 b,.string sc,.string ho,.bool wd,.int .i64 po,.string pa] 174):=⟨_,rfl⟩;have eE:Below W.heap.size W V:=by rw[hV];exact(Below.refl _ W).alloc (Nat.le_refl _) _
 have hB:V.heap[W.heap.size]? =some (.cells #[.int .i64 k,.string t,.int .i64 b,.string sc,.string ho,.bool wd,.int .i64 po,.string pa] 174 (0,0)):=by rw[hV];exact ah _ _
 obtain⟨z0,z1,z2,z3,z4,z5,z6,z7⟩:=tW hB;have bB:V.cell? ⟨r,0,none⟩=some (.string n):=by rw[eE.cell (p:=⟨r,0,none⟩) (World.block_lt_of_cell? _ _ hr)];exact hr
 dsimp only[ak.val]
 have HV:=Ih hV;clear hV hB hr;by_cases hk:k=4
 ·have Ig:(k==4)=true:=by simpa using hk
  have Hk:=Ih Ig;clear hk;go_enter Tryz.func112,Tryz.ntmps112
  go_upto_region 1 with fail
  rw[<-HV.out]
  go_wp2_with fail
  go_ret;refine⟨?_,eE⟩;show Ending.returned (.bool (t.toList==n.toList))=.returned (.bool (k==4&&t.data.toList==n.data.toList));rw[xC,Hk.out];rfl
 ·have Ig:(k==4)=false:=by simpa using hk
  go_enter Tryz.func112,Tryz.ntmps112
  go_upto_region 1 with fail
  rw[<-HV.out]
  go_wp2_with fail
  go_ret;refine⟨?_,eE⟩;show Ending.returned (.bool false)=.returned (.bool (k==4&&t.data.toList==n.data.toList));rw[Ig];rfl
structure eN (w:World) (v:Value) (l:List (List UInt8)):Prop where
 at':bd w v l
 len:l.length<=10000
 size:∀x,x∈l->x.length<=90000
theorem eN.below {w w':World} {v:Value} {l:List (List UInt8)} (h:eN w v l) (hb:Below w.heap.size w w'):eN w' v l:=⟨h.at'.below hb,h.len,h.size⟩
theorem eN.list {w:World} {v:Value} {l:List (List UInt8)} (h:eN w v l) (hE:Env w):Calls Tryz.prog 75 #[v] w (Du l w):=DL v l w hE h.at' h.len (fun x hx=>by have:=h.size x hx;omega)
theorem eN.ylen {w:World} {v:Value} {l:List (List UInt8)} (h:eN w v l) {ys:List ak} (hy:ys.map ak.src=Lz.bF l):ys.length<=100000:=by
 rw[<-List.length_map (f:=ak.src),hy];have:=List.length_filterMap_le Lz.ez l;have:=h.len;unfold Lz.bF;omega
theorem qq (v:Value) (l:List (List UInt8)) (n:ByteArray) (w:World) (hE:Env w) (h:eN w v l):Calls Tryz.prog 73 #[v,.string n] w (aC (Lz.iE l n.data.toList) w):=by
 obtain⟨V,hV⟩:∃V,V=w.alloc (.cells #[.string n] 9):=⟨_,rfl⟩;have eE:Below w.heap.size w V:=by rw[hV];exact(Below.refl _ w).alloc (Nat.le_refl _) _
 have hB:V.heap[w.heap.size]? =some (.cells #[.string n] 9 (0,0)):=by rw[hV];exact ah _ _
 have hc:=rowAt hB 0 (.string n) rfl;have cL:=Ih ((h.below eE).list (hE.below eE));have cC:=Ih (fun(W:World) (sv:Value) (ys:List ak) (hW:Below V.heap.size V W) (hs:ik W sv ys) (hy:ys.map ak.src=Lz.bF l)=>fV sv ys 112 #[.pointer (some ⟨w.heap.size,0,none⟩)] (fun x=>x.src.kind==4&&x.src.text==n.data.toList) W K3 hs (h.ylen hy) (fun W2 x _ pH=>Gp x w.heap.size n W2 (by rw[(hW.trans (pH.mono hW.size)).cell (p:=⟨w.heap.size,0,none⟩) (af hB)];exact hc) |>.mono fun e w' ⟨h1,h2⟩=>⟨h1,pH.trans (h2.mono pH.size)⟩));have HV:=Ih hV;clear hV hB hE h;by_cases hz:n.size=0
 ·have ed:n.toList.isEmpty=true:=oQ hz
  have HQ:Hid (Lz.iE l n.data.toList=false):=by
   show _=_;unfold Lz.iE;rw[List.length_eq_zero_iff.1 (show n.data.toList.length=0 by rw[aa,hz])];rfl
  go_enter Tryz.func73,Tryz.ntmps73
  go_upto_region 1 with fail
  rw[<-HV.out]
  go_wp2_with fail
  go_ret;exact⟨by rw[HQ.out];rfl,eE⟩
 ·have ed:n.toList.isEmpty=false:=qK (by omega)
  have HQ:Hid (∀ys:List ak,ys.map ak.src=Lz.bF l->Lz.iE l n.data.toList=ys.any fun x=>x.src.kind==4&&x.src.text==n.data.toList):=by
   show ∀ys,_;intro ys hy;unfold Lz.iE;rw[<-hy,List.any_map]
   have:(n.data.toList != [])=true:=by
    rw[bne_iff_ne];intro e;have:=aa n;rw[e]at this;simp at this;omega
   rw[this];rfl
  clear hz;go_enter Tryz.func73,Tryz.ntmps73
  go_upto_region 1 with fail
  rw[<-HV.out]
  go_wp2_with fail
  refine cL.out.mono ?_;rintro e w6 ⟨sv,ys,rfl,jV,Io,fX⟩;have yk:=cn.at Io
  go_wp2_with fail
  refine(cC.out w6 _ ys fX yk jV.out).mono ?_;rintro e w7 ⟨rfl,kJ⟩
  go_wp2_with fail
  go_ret;exact⟨by rw[HQ.out ys jV.out];rfl,ac (ac eE fX) kJ⟩
attribute [local go_sem ↓] Go.wp_at_zero Go.wp_at_succ
def vL:ByteArray:=⟨#[115,116,114,105,99,116,45,100,121,110,97,109,105,99]⟩
def Qz:ByteArray:=⟨#[117,110,115,97,102,101,45,105,110,108,105,110,101]⟩
theorem Mj (kind:Int) (v:Value) (l:List (List UInt8)) (w:World) (hE:Env w) (h:eN w v l):Calls Tryz.prog 72 #[.int .i64 kind,v] w (aC (Lz.xM kind l) w):=by
 have cL:=Ih (h.list hE);have HY:=Ih (fun(ys:List ak) hy=>h.ylen (ys:=ys) hy);clear h hE;go_enter Tryz.func72,Tryz.ntmps72
 go_wp2_with fail
 refine cL.out.mono ?_;rintro e w6 ⟨sv,ys,rfl,jV,Io,fX⟩;have yk:=cn.at Io;have aaf:=Ih yk;obtain⟨a,c,rfl,hx⟩:=yk;have Hx:=Ih hx;obtain⟨n,hn⟩:∃n,n=ys.length:=⟨_,rfl⟩;rw[<-hn];rw[<-hn]at aaf;have hL:n<=100000:=by rw[hn];exact HY.out ys jV.out
 have HN:=Ih hn
 have HP:Hid (Lz.xM kind l=(!(ys.any fun x=>Lz.Bf kind x.src)&&Lz.uX (ys.map ak.src) Lz.BR)):=by
  show _=_;unfold Lz.xM;rw[<-jV.out,List.any_map];rfl
 clear hx hn Io HY jV
 go_wp2_with fail
 go_loopw [7,12,16,23] (fun _ i _ _ wr=>∃j:Nat,j<=n/\i=.int .i64 j/\Hid ((ys.take j).any (fun x=>Lz.Bf kind x.src)=false)/\Below w6.heap.size w6 wr) (fun _ i _ _ _=>n-(intOf i).toNat)
 case atStart=>exact⟨0,Nat.zero_le _,rfl,Ih (by simp),Below.refl _ _⟩
 case round=>
  obtain⟨j,hj,rfl,hT,aK⟩:=hrel;by_cases aV:j<n
  ·have bW:(j:Int)<(n:Int):=by omega
   have tM:(0:Int)<=(j:Int):=by omega
   obtain⟨x,hx⟩:∃x,ys[j]? =some x:=⟨_,List.getElem?_eq_getElem (by rw[<-HN.out];exact aV)⟩;obtain⟨g,rfl,hg,hc⟩:=Hx.out j x hx;have mT:∀(k:Nat) (u:Value),(ak.row x)[k]? =some u->wr.cell? ⟨g,j*8+k,none⟩=some u:=fun k u hk=>by rw[aK.cell (p:=⟨g,j*8+k,none⟩) hg];exact hc k u hk
   have hst:(ys.take (j+1)).any (fun x=>Lz.Bf kind x.src)=Lz.Bf kind x.src:=by rw[List.take_add_one,hx,List.any_append,hT.out];simp
   have fq:Lz.Bf kind x.src=true->Lz.xM kind l=false:=fun h=>by rw[HP.out,List.any_eq_true.2 ⟨x,List.mem_of_getElem? hx,h⟩];rfl
   obtain⟨k,t,b,sc,ho,wd,po,pa⟩:=x;have c0:=mT 0 _ rfl;have c1:=mT 1 _ rfl;have c2:=mT 2 _ rfl;have c3:=mT 3 _ rfl;have c4:=mT 4 _ rfl;have c5:=mT 5 _ rfl;have c6:=mT 6 _ rfl;have c7:=mT 7 _ rfl;have gM:=Ih hst;have ll:=Ih fq;clear hx hc mT hst fq hT
   dsimp only at c0 c1 c2 c3 c4 c5 c6 c7
   rw[Nat.add_zero]at c0;obtain⟨V,hV⟩:∃V,V=wr.alloc (.cells #[.int .i64 k,.string t,.int .i64 b,.string sc,.string ho,.bool wd,.int .i64 po,.string pa] 174):=⟨_,rfl⟩;have eE:Below w6.heap.size w6 V:=by rw[hV];exact aK.alloc aK.size _
   have hB:V.heap[wr.heap.size]? =some (.cells #[.int .i64 k,.string t,.int .i64 b,.string sc,.string ho,.bool wd,.int .i64 po,.string pa] 174 (0,0)):=by rw[hV];exact ah _ _
   obtain⟨z0,z1,z2,z3,z4,z5,z6,z7⟩:=tW hB;have cK:=Ih (um ⟨k,t,b,sc,ho,wd,po,pa⟩ vL V)
   dsimp only[ak.val]at cK
   obtain⟨q,hq⟩:∃q,q=Lz.kwS Lz.rX (ak.src ⟨k,t,b,sc,ho,wd,po,pa⟩):=⟨_,rfl⟩;have cK2:Hid (Calls Tryz.prog 110 #[.agg #[.int .i64 k,.string t,.int .i64 b,.string sc,.string ho,.bool wd,.int .i64 po,.string pa],.string vL] V (aC q V)):=by rw[hq];exact cK
   have PC:Hid (Lz.Bf kind (ak.src ⟨k,t,b,sc,ho,wd,po,pa⟩)=((k==4)||((k==5)||(q&&decide (kind<4))))):=by show _=_;rw[hq];rfl
   have HV:=Ih hV;clear hV hB cK hq
   go_upto_region 5 with fail
   rw[<-HV.out];clear c0 c1 c2 c3 c4 c5 c6 c7;by_cases h4:k=4
   ·have HF:Hid (Lz.xM kind l=false):=Ih (ll.out (by rw[PC.out,h4];rfl));subst h4
    go_wp2_with fail
    go_ret;exact⟨by rw[HF.out];rfl,ac fX eE⟩
   ·by_cases h5:k=5
    ·have HF:Hid (Lz.xM kind l=false):=Ih (ll.out (by rw[PC.out,h5];rfl));subst h5
     go_wp2_with fail
     go_ret;exact⟨by rw[HF.out];rfl,ac fX eE⟩
    ·have hn4:(k==4)=false:=by simpa using h4
     have hn5:(k==5)=false:=by simpa using h5
     have XF:Hid ((k==4)=false/\(k==5)=false):=⟨hn4,hn5⟩;clear hn4 hn5;have acU:=eE.size;cases q with
     | true=>
       by_cases hk:kind<4
       ·have HF:Hid (Lz.xM kind l=false):=Ih (ll.out (by rw[PC.out,XF.out.1,XF.out.2,decide_eq_true hk];rfl))
        go_wp2_with fail
        refine cK2.out.mono ?_;rintro e w7 ⟨rfl,kJ⟩
        go_wp2_with fail
        go_ret;exact⟨by rw[HF.out];rfl,ac fX (ac eE kJ)⟩
       ·have HS:Hid ((ys.take (j+1)).any (fun x=>Lz.Bf kind x.src)=false):=by show _=_;rw[gM.out,PC.out,XF.out.1,XF.out.2,decide_eq_false hk];rfl
        go_wp2_with fail
        refine cK2.out.mono ?_;rintro e w7 ⟨rfl,kJ⟩
        go_wp2_with fail
        go_roundw
        case rel=>exact⟨j+1,by omega,by go_num,HS,ac eE kJ⟩
        case measure=>simp[intOf];omega
     | false=>
       have HS:Hid ((ys.take (j+1)).any (fun x=>Lz.Bf kind x.src)=false):=by show _=_;rw[gM.out,PC.out,XF.out.1,XF.out.2];rfl
       go_wp2_with fail
       refine cK2.out.mono ?_;rintro e w7 ⟨rfl,kJ⟩
       go_wp2_with fail
       go_roundw
       case rel=>exact⟨j+1,by omega,by go_num,HS,ac eE kJ⟩
       case measure=>simp[intOf];omega
  ·have bW:¬(j:Int)<(n:Int):=by omega
   have cH:=Ih (A5 (.slice a n c) ys Qz wr (aaf.out.below aK) (by rw[<-HN.out];exact hL))
   have HR:Hid (Lz.xM kind l=Lz.uX (ys.map ak.src) Lz.BR):=by
    show _=_;rw[HP.out,<-List.take_of_length_le (l:=ys) (i:=j) (by rw[<-HN.out];omega),hT.out,List.take_of_length_le (by rw[<-HN.out];omega)];rfl
   clear hT
   go_wp2_with fail
   refine cH.out.mono ?_;rintro e w7 ⟨rfl,kJ⟩
   go_wp2_with fail
   go_ret;exact⟨by rw[HR.out];rfl,ac fX (ac aK kJ)⟩
def fC (bi:List UInt32) (aY:List UInt64) (b:Int) (t:List UInt8):List UInt8:=if b=256 then Lz.tX bi eH t else if b=384 then(Lz.og aY mF t).take 48 else Lz.og aY my t
theorem Og (bi:List UInt32) (aY:List UInt64) (b:Int) (t:List UInt8):(fC bi aY b t).length<=64/\fC bi aY b t≠[]:=by
 unfold fC;have Ua:(Lz.tX bi eH t).length=32:=Lz.La _;have h64:=Aj aY;split
 ·exact⟨by omega,fun e=>by rw[e]at Ua;cases Ua⟩
 ·split
  ·refine⟨by rw[List.length_take,h64];omega,fun e=>?_⟩;have:=congrArg List.length e;rw[List.length_take,h64]at this;simp at this
  ·exact⟨by rw[h64];omega,fun e=>by have:=h64 my t;rw[e]at this;cases this⟩
theorem N9 (bi:List UInt32) (aY:List UInt64) (b:Int) (t:ByteArray) (ht:t.size<=1000000) (w:World) (hE:C3 bi aY w):Calls Tryz.prog 117 #[.int .i64 b,.string t] w (gJ (Lz.gK (fC bi aY) b t.data.toList) w):=by
 have cE:=Ih (fun(u:ByteArray) (hu:u.size<=64) W=>A3 u (by omega) W);have P6:=(Og bi aY b t.data.toList).1;by_cases h1:b=256
 ·have HD:Hid (fC bi aY b t.data.toList=Lz.tX bi eH t.data.toList):=by show _=_;unfold fC;rw[if_pos h1]
  have cS:=Ih (QP bi t (by omega) w hE.d);rw[HD.out]at P6;subst h1;clear hE;go_enter Tryz.func117,Tryz.ntmps117
  go_wp2_with fail
  refine cS.out.mono ?_;rintro e w1 ⟨rfl,ar⟩;obtain⟨u,hu⟩:∃u:ByteArray,u=⟨(Lz.tX bi eH t.data.toList).toArray⟩:=⟨_,rfl⟩;have Wu:u.data.toList=Lz.tX bi eH t.data.toList:=by rw[hu]
  rw[<-hu];have hz:u.size<=64:=by rw[<-aa,Wu];exact P6
  have Hul:=Ih Wu;clear hu Wu
  go_wp2_with fail
  refine(cE.out u hz _).mono ?_;rintro e w2 ⟨x,rfl,hx,az⟩
  go_wp2_with fail
  go_ret;exact⟨x,rfl,Ih (by rw[hx.out,Hul.out];unfold Lz.gK;rw[HD.out]),ac ar az⟩
 ·by_cases h2:b=384
  ·have HD:Hid (fC bi aY b t.data.toList=(Lz.og aY mF t.data.toList).take 48):=by show _=_;unfold fC;rw[if_neg h1,if_pos h2]
   have cS:=Ih (Gv aY t (by omega) w hE.l);rw[HD.out]at P6;subst h2;clear hE h1;go_enter Tryz.func117,Tryz.ntmps117
   go_wp2_with fail
   refine cS.out.mono ?_;rintro e w1 ⟨u,rfl,hu,ar⟩;have hz:u.size<=64:=by rw[<-aa,hu.out];exact P6
   go_wp2_with fail
   refine(cE.out u hz _).mono ?_;rintro e w2 ⟨x,rfl,hx,az⟩
   go_wp2_with fail
   go_ret;exact⟨x,rfl,Ih (by rw[hx.out,hu.out];unfold Lz.gK;rw[HD.out]),ac ar az⟩
  ·have HD:Hid (fC bi aY b t.data.toList=Lz.og aY my t.data.toList):=by show _=_;unfold fC;rw[if_neg h1,if_neg h2]
   have cS:=Ih (G4 aY t (by omega) w hE.l);rw[HD.out]at P6;clear hE;go_enter Tryz.func117,Tryz.ntmps117
   go_wp2_with fail
   refine cS.out.mono ?_;rintro e w1 ⟨u,rfl,hu,ar⟩;have hz:u.size<=64:=by rw[<-aa,hu.out];exact P6
   go_wp2_with fail
   refine(cE.out u hz _).mono ?_;rintro e w2 ⟨x,rfl,hx,az⟩
   go_wp2_with fail
   go_ret;exact⟨x,rfl,Ih (by rw[hx.out,hu.out];unfold Lz.gK;rw[HD.out]),ac ar az⟩
end Go.Proofs.YtecoeebjaleeiaaGreatDoor
