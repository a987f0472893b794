/-
  Package trusted: Requires.
-/
import Derived.Test.YtecoeebjaleeiaaGreatDoorJ36
set_option maxHeartbeats 4000000
set_option maxRecDepth 100000
namespace Go.Proofs.YtecoeebjaleeiaaGreatDoor
open Go.RowKit
attribute [local go_sem ↓] Go.wp_at_zero Go.wp_at_succ
structure aD where
 name:ByteArray
 v:Value
 vals:List (List UInt8)
def aD.val (d:aD):Value:=.agg #[.string d.name,d.v]
def aD.src (d:aD):Lz.il:=⟨d.name.data.toList,d.vals⟩
def aD.at' (w:World) (g o:Nat) (d:aD):Prop:=w.cell? ⟨g,o,none⟩=some (.string d.name)/\w.cell? ⟨g,o+1,none⟩=some d.v/\bd w d.v d.vals
theorem aD.at'.below {w w':World} {g o:Nat} {d:aD} (h:d.at' w g o) (hb:Below w.heap.size w w'):d.at' w' g o:=by
 have hg:=World.block_lt_of_cell? _ _ h.1;exact⟨by rw[hb.cell (p:=⟨g,o,none⟩) hg];exact h.1,by rw[hb.cell (p:=⟨g,o+1,none⟩) hg];exact h.2.1,h.2.2.below hb⟩
def dx (w:World) (v:Value) (ds:List aD):Prop:=
 ∃(a:Option Addr) (c:Nat),v=.slice a ds.length c/\∀(j:Nat) (d:aD),ds[j]? =some d->∃g off,a=some ⟨g,off,none⟩/\d.at' w g (off+j*2)
theorem dx.below {w w':World} {v:Value} {ds:List aD} (h:dx w v ds) (hb:Below w.heap.size w w'):dx w' v ds:=by
 obtain⟨a,c,h1,h2⟩:=h;refine⟨a,c,h1,fun j d hj=>?_⟩;obtain⟨g,off,e1,e2⟩:=h2 j d hj;exact⟨g,off,e1,e2.below hb⟩
structure aE where
 v:Value
 ds:List aD
 rep:Bool
def aE.val (p:aE):Value:=.agg #[p.v,.bool p.rep]
def aE.src (p:aE):Lz.kW:=⟨p.ds.map aD.src,p.rep⟩
def aE.at' (w:World) (g o:Nat) (p:aE):Prop:=w.cell? ⟨g,o,none⟩=some p.v/\w.cell? ⟨g,o+1,none⟩=some (.bool p.rep)/\dx w p.v p.ds
theorem aE.at'.below {w w':World} {g o:Nat} {p:aE} (h:p.at' w g o) (hb:Below w.heap.size w w'):p.at' w' g o:=by
 have hg:=World.block_lt_of_cell? _ _ h.1;exact⟨by rw[hb.cell (p:=⟨g,o,none⟩) hg];exact h.1,by rw[hb.cell (p:=⟨g,o+1,none⟩) hg];exact h.2.1,h.2.2.below hb⟩
def eW (w:World) (v:Value) (ps:List aE):Prop:=
 ∃(a:Option Addr) (c:Nat),v=.slice a ps.length c/\∀(j:Nat) (p:aE),ps[j]? =some p->∃g off,a=some ⟨g,off,none⟩/\p.at' w g (off+j*2)
theorem eW.below {w w':World} {v:Value} {ps:List aE} (h:eW w v ps) (hb:Below w.heap.size w w'):eW w' v ps:=by
 obtain⟨a,c,h1,h2⟩:=h;refine⟨a,c,h1,fun j d hj=>?_⟩;obtain⟨g,off,e1,e2⟩:=h2 j d hj;exact⟨g,off,e1,e2.below hb⟩
structure bh where
 kind:Int
 node:Int
 attr:ByteArray
 url:ByteArray
 text:ByteArray
 nonce:ByteArray
 integ:ByteArray
def bh.val (x:bh):Value:=.agg #[.int .i64 x.kind,.int .i64 x.node,.string x.attr,.string x.url,.string x.text,.string x.nonce,.string x.integ]
def bh.src (x:bh):Lz.ji:=⟨x.kind,x.node,x.attr.data.toList,x.url.data.toList,x.text.data.toList,x.nonce.data.toList,x.integ.data.toList⟩
def NT (d:Lz.il):Prop:=d.name.length<=200/\d.vals.length<=20/\∀x∈d.vals,x.length<=200
def dO (l:List Lz.il):Prop:=l.length<=20/\∀d∈l,NT d
attribute [local go_sem ↓] Go.wp_at_zero Go.wp_at_succ
theorem IM {α:Type} {ys:List α} {p:α->Bool} {j:Nat} {x:α} (h:(ys.take j).find? p=none) (hx:ys[j]? =some x) (hp:p x=true):ys.find? p=some x:=by
 obtain⟨hj,he⟩:=List.getElem?_eq_some_iff.1 hx;rw[<-List.take_append_drop j ys,List.find?_append,h,List.drop_eq_getElem_cons hj,he]
 simp[hp]
theorem zP {α:Type} {ys:List α} {p:α->Bool} {j:Nat} {x:α} (h:(ys.take j).find? p=none) (hx:ys[j]? =some x) (hp:p x=false):(ys.take (j+1)).find? p=none:=by
 rw[List.take_add_one,hx,List.find?_append,h]
 simp[hp]
def OC {α:Type} (ys:List α) (p:α->Bool) (r:Int):Prop:=(r= -1/\ys.find? p=none)\/∃(j:Nat) (x:α),r=(j:Int)/\ys[j]? =some x/\ys.find? p=some x
theorem OC.any {α:Type} {ys:List α} {p:α->Bool} {r:Int} (h:OC ys p r):decide (0<=r)=ys.any p:=by
 rcases h with⟨rfl,h⟩|⟨j,x,rfl,_,h⟩
 ·have:ys.any p=false:=by rw[List.any_eq_false];exact List.find?_eq_none.1 h
  rw[this];rfl
 ·have:ys.any p=true:=List.any_eq_true.2 ⟨x,List.mem_of_find?_eq_some h,List.find?_some h⟩;rw[this,decide_eq_true_eq];omega
def U3 {α:Type} (ys:List α) (p:α->Bool) (w:World) (e:Ending) (w':World):Prop:=∃r:Int,e=.returned (.int .i64 r)/\Hid (OC ys p r)/\Below w.heap.size w w'
theorem wG (v:Value) (ys:List aD) (f:Nat) (bs:Array Value) (p:aD->Bool) (w:World) (hf:∀(args:Array Value) (W:World),(callFunc f args).run Tryz.prog W=.ok (.enter f args) W) (h:dx w v ys) (hL:ys.length<=100000)
  (hp:∀(W:World) (x:aD),x∈ys->Below w.heap.size w W->Calls Tryz.prog f (#[x.val]++bs) W fun e w'=>e=.returned (.bool (p x))/\Below w.heap.size w w'):
  Calls Tryz.prog 47 #[v,.func (.func f) #[] bs] w (U3 ys p w):=by
 obtain⟨a,c,rfl,hx⟩:=h;have Hx:=Ih hx;have Hp:=Ih hp;obtain⟨n,hn⟩:∃n,n=ys.length:=⟨_,rfl⟩;rw[<-hn];rw[<-hn]at hL;have HN:=Ih hn;clear hx hp hn;go_enter Tryz.func47,Tryz.ntmps47
 go_wp2_with fail
 go_loopw [8] (fun i wr=>∃j:Nat,j<=n/\i=.int .i64 j/\Hid ((ys.take j).find? p=none)/\Below w.heap.size w wr) (fun i _=>n-(intOf i).toNat)
 case atStart=>exact⟨0,Nat.zero_le _,rfl,Ih (by simp),Below.refl _ _⟩
 case round=>
  obtain⟨j,hj,rfl,hT,aK⟩:=hrel;by_cases aV:j<n
  ·have bW:(j:Int)<(n:Int):=by omega
   have tM:(0:Int)<=(j:Int):=by omega
   obtain⟨x,hx⟩:∃x,ys[j]? =some x:=⟨_,List.getElem?_eq_getElem (by rw[<-HN.out];exact aV)⟩;obtain⟨g,off,rfl,hc⟩:=Hx.out j x hx;have cP:=Ih (Hp.out wr x (List.mem_of_getElem? hx) aK);have hN:=Ih (zP hT.out hx);have hA:=Ih (IM hT.out hx);have Hxj:=Ih hx;obtain⟨nm,v,l⟩:=x;obtain⟨c0,c1,_⟩:=hc.below aK;clear hx hc hT
   dsimp only at c0 c1
   dsimp only[aD.val]at cP
   cases tH:p (aD.mk nm v l)with
   | true=>
     rw[tH]at cP;have HV:=Ih (hA.out tH);clear tH hN hA
     go_wp2_with fail
     refine cP.out.mono ?_;rintro e w5 ⟨rfl,aI⟩
     go_wp2_with fail
     go_ret;exact⟨_,rfl,Ih (.inr ⟨j,_,rfl,Hxj.out,HV.out⟩),aI⟩
   | false=>
     rw[tH]at cP;have HS:=Ih (hN.out tH);clear tH hN hA
     go_wp2_with fail
     refine cP.out.mono ?_;rintro e w5 ⟨rfl,aI⟩
     go_wp2_with fail
     go_roundw
     case rel=>exact⟨j+1,by omega,by go_num,HS,aI⟩
     case measure=>simp[intOf];omega
  ·have bW:¬(j:Int)<(n:Int):=by omega
   have HV:Hid (ys.find? p=none):=by
    show _=_;rw[<-List.take_of_length_le (l:=ys) (i:=j) (by rw[<-HN.out];omega),hT.out]
   clear hT
   go_wp2_with fail
   go_ret;exact⟨-1,rfl,Ih (.inl ⟨rfl,HV.out⟩),aK⟩
theorem oJ (v:Value) (l:List (List UInt8)) (f:Nat) (bs:Array Value) (p:List UInt8->Bool) (w:World) (hf:∀(args:Array Value) (W:World),(callFunc f args).run Tryz.prog W=.ok (.enter f args) W) (h:bd w v l) (hL:l.length<=100000)
  (hp:∀(W:World) (x:ByteArray),x.data.toList∈l->Below w.heap.size w W->Calls Tryz.prog f (#[.string x]++bs) W fun e w'=>e=.returned (.bool (p x.data.toList))/\Below w.heap.size w w'):
  Calls Tryz.prog 35 #[v,.func (.func f) #[] bs] w (U3 l p w):=by
 obtain⟨a,c,xs,rfl,hl,hx⟩:=h;have Hx:=Ih hx;have Hp:=Ih hp;have HL:=Ih hl;obtain⟨n,hn⟩:∃n,n=xs.length:=⟨_,rfl⟩;have O6:l.length=n:=by rw[<-hl,List.length_map,hn]
 rw[<-hn];rw[O6]at hL;have HN:=Ih hn;have HLn:=Ih O6;clear hx hp hn hl O6;go_enter Tryz.func35,Tryz.ntmps35
 go_wp2_with fail
 go_loopw [8] (fun i wr=>∃j:Nat,j<=n/\i=.int .i64 j/\Hid ((l.take j).find? p=none)/\Below w.heap.size w wr) (fun i _=>n-(intOf i).toNat)
 case atStart=>exact⟨0,Nat.zero_le _,rfl,Ih (by simp),Below.refl _ _⟩
 case round=>
  obtain⟨j,hj,rfl,hT,aK⟩:=hrel;by_cases aV:j<n
  ·have bW:(j:Int)<(n:Int):=by omega
   have tM:(0:Int)<=(j:Int):=by omega
   obtain⟨x,hx⟩:∃x,xs[j]? =some x:=⟨_,List.getElem?_eq_getElem (by rw[<-HN.out];exact aV)⟩;have hy:l[j]? =some x.data.toList:=by rw[<-HL.out,List.getElem?_map,hx];rfl
   obtain⟨g,off,rfl,hg,hc⟩:=Hx.out j x hx;have iD:wr.cell? ⟨g,off+j,none⟩=some (.string x):=by rw[aK.cell (p:=⟨g,off+j,none⟩) hg];exact hc
   have cP:=Ih (Hp.out wr x (List.mem_of_getElem? hy) aK);have hN:=Ih (zP hT.out hy);have hA:=Ih (IM hT.out hy);have Hyj:=Ih hy;clear hx hc hT hy hg;cases tH:p x.data.toList with
   | true=>
     rw[tH]at cP;have HV:=Ih (hA.out tH);clear tH hN hA
     go_wp2_with fail
     refine cP.out.mono ?_;rintro e w5 ⟨rfl,aI⟩
     go_wp2_with fail
     go_ret;exact⟨_,rfl,Ih (.inr ⟨j,_,rfl,Hyj.out,HV.out⟩),aI⟩
   | false=>
     rw[tH]at cP;have HS:=Ih (hN.out tH);clear tH hN hA
     go_wp2_with fail
     refine cP.out.mono ?_;rintro e w5 ⟨rfl,aI⟩
     go_wp2_with fail
     go_roundw
     case rel=>exact⟨j+1,by omega,by go_num,HS,aI⟩
     case measure=>simp[intOf];omega
  ·have bW:¬(j:Int)<(n:Int):=by omega
   have HV:Hid (l.find? p=none):=by
    show _=_;rw[<-List.take_of_length_le (l:=l) (i:=j) (by rw[HLn.out];omega),hT.out]
   clear hT
   go_wp2_with fail
   go_ret;exact⟨-1,rfl,Ih (.inl ⟨rfl,HV.out⟩),aK⟩
theorem ro (v:Value) (l:List (List UInt8)) (f:Nat) (bs:Array Value) (p:List UInt8->Bool) (w:World) (hf:∀(args:Array Value) (W:World),(callFunc f args).run Tryz.prog W=.ok (.enter f args) W) (h:bd w v l) (hL:l.length<=100000)
  (hp:∀(W:World) (x:ByteArray),x.data.toList∈l->Below w.heap.size w W->Calls Tryz.prog f (#[.string x]++bs) W fun e w'=>e=.returned (.bool (p x.data.toList))/\Below w.heap.size w w'):
  Calls Tryz.prog 40 #[v,.func (.func f) #[] bs] w (aC (l.any p) w):=by
 have cI:=Ih (oJ v l f bs p w hf h hL hp);clear h hp hf;go_enter Tryz.func40,Tryz.ntmps40
 go_wp2_with fail
 refine cI.out.mono ?_;rintro e w5 ⟨r,rfl,hr,aI⟩
 go_wp2_with fail
 go_ret;exact⟨by rw[<-hr.out.any];rfl,aI⟩
theorem Kj (args:Array Value) (w:World):(callFunc 48 args).run Tryz.prog w=.ok (.enter 48 args) w:=enters_of Tryz.func48 (by kernel_rfl) rfl args w
theorem FQ (x:aD) (r:Nat) (n:ByteArray) (W:World) (hr:W.cell? ⟨r,0,none⟩=some (.string n)):Calls Tryz.prog 48 #[x.val,.pointer (some ⟨r,0,none⟩)] W (aC (x.src.name==n.data.toList) W):=by
 obtain⟨nm,v,l⟩:=x;obtain⟨V,hV⟩:∃V,V=W.alloc (.cells #[.string nm,v] 51):=⟨_,rfl⟩;have eE:Below W.heap.size W V:=by rw[hV];exact(Below.refl _ W).alloc (Nat.le_refl _) _
 have hB:V.heap[W.heap.size]? =some (.cells #[.string nm,v] 51 (0,0)):=by rw[hV];exact ah _ _
 have c0:=rowAt hB 0 (.string nm) rfl;have c1:V.cell? ⟨r,0,none⟩=some (.string n):=(eE.cell (World.block_lt_of_cell? _ _ hr)).trans hr;have HV:=Ih hV;clear hV hB hr
 dsimp only[aD.val]
 go_enter Tryz.func48,Tryz.ntmps48
 go_upto_region 1 with fail
 rw[<-HV.out]
 go_wp2_with fail
 go_ret;refine⟨?_,eE⟩;show Ending.returned (.bool (nm.toList==n.toList))=.returned (.bool (nm.data.toList==n.data.toList));rw[xC]
theorem ww (v:Value) (ys:List aD) (n:ByteArray) (w:World) (h:dx w v ys) (hL:ys.length<=100000):Calls Tryz.prog 23 #[v,.string n] w (U3 ys (fun x=>x.src.name==n.data.toList) w):=by
 obtain⟨V,hV⟩:∃V,V=w.alloc (.cells #[.string n] 9):=⟨_,rfl⟩;have eE:Below w.heap.size w V:=by rw[hV];exact(Below.refl _ w).alloc (Nat.le_refl _) _
 have hB:V.heap[w.heap.size]? =some (.cells #[.string n] 9 (0,0)):=by rw[hV];exact ah _ _
 have hc:=rowAt hB 0 (.string n) rfl;have cC:=Ih (wG v ys 48 #[.pointer (some ⟨w.heap.size,0,none⟩)] (fun x=>x.src.name==n.data.toList) V Kj (h.below eE) hL (fun W x _ hW=>FQ x w.heap.size n W (by rw[hW.cell (p:=⟨w.heap.size,0,none⟩) (af hB)];exact hc) |>.mono fun e w' ⟨h1,h2⟩=>⟨h1,hW.trans (h2.mono hW.size)⟩));have HV:=Ih hV;clear hV hB hc h;go_enter Tryz.func23,Tryz.ntmps23
 go_upto_region 1 with fail
 rw[<-HV.out]
 go_wp2_with fail
 refine cC.out.mono ?_;rintro e w5 ⟨r,rfl,hr,aI⟩
 go_wp2_with fail
 go_ret;exact⟨r,rfl,hr,ac eE aI⟩
attribute [local go_sem ↓] Go.wp_at_zero Go.wp_at_succ
def tF (o:Option Lz.il) (w:World) (v:Value):Prop:=
 match o with
 | some d=>∃(nm:ByteArray) (u:Value) (B:Nat) (us:List ByteArray),v=.tuple #[.agg #[.string nm,u],.bool true]/\Hid (nm.data.toList=d.name)/\us.map (fun x:ByteArray=>x.data.toList)=d.vals/\aL w B u us
 | none=>v=.tuple #[.agg #[.string ⟨#[]⟩,.slice none 0 0],.bool false]
def UA (o:Option Lz.il) (w:World) (e:Ending) (w':World):Prop:=∃v,e=.returned v/\tF o w' v/\Below w.heap.size w w'
theorem Oy {ys:List aD} {n:List UInt8}:(ys.find? fun x=>x.src.name==n).map aD.src=Lz.iv (ys.map aD.src) n:=by
 unfold Lz.iv;rw[List.find?_map];rfl
theorem jB:(Tryz.prog.info? 51).map (·.size)=some 2:=by kernel_rfl
theorem sW (p:aE) (n:ByteArray) (w:World) (h:dx w p.v p.ds) (hS:dO (p.ds.map aD.src)):Calls Tryz.prog 37 #[p.val,.string n] w (UA (Lz.iv (p.ds.map aD.src) n.data.toList) w):=by
 obtain⟨pv,ys,rep⟩:=p
 dsimp only at h hS
 obtain⟨V,hV⟩:∃V,V=(w.alloc (.cells #[pv,.bool rep] 25)).alloc (.cells #[.string ⟨#[]⟩,.slice none 0 0] 51):=⟨_,rfl⟩;have eE:Below w.heap.size w V:=by rw[hV];exact((Below.refl _ w).alloc (Nat.le_refl _) _).alloc (by simp) _
 have hB:V.heap[w.heap.size]? =some (.cells #[pv,.bool rep] 25 (0,0)):=by rw[hV,Below.heap_alloc _ _ _ (by simp)];exact ah _ _
 have jU:V.heap[w.heap.size+1]? =some (.cells #[.string ⟨#[]⟩,.slice none 0 0] 51 (0,0)):=by rw[hV];exact dm _ _ _
 have hLn:ys.length<=20:=by have:=hS.1;simpa using this
 have cN:=Ih (ww pv ys n V (h.below eE) (by omega))
 have dV:Hid (∀U,Below V.heap.size V U->U.cell? ⟨w.heap.size,0,none⟩=some pv/\U.cell? ⟨w.heap.size,1,none⟩=some (.bool rep)):=Ih (fun U hU=>by
  have jU:=(hU.block _ (af hB)).trans hB;exact⟨rowAt jU 0 _ rfl,rowAt jU 1 _ rfl⟩)
 have vn:Hid (∀U,Below V.heap.size V U->U.heap[w.heap.size+1]? =some (.cells #[.string ⟨#[]⟩,.slice none 0 0] 51 (0,0))):=Ih (fun U hU=>(hU.block _ (af jU)).trans jU);have HD:=Ih (fun U (hU:Below V.heap.size V U)=>(h.below eE).below hU);have c0:=rowAt hB 0 pv rfl;have c1:=rowAt hB 1 (.bool rep) rfl;have hfs:=Oy (ys:=ys) (n:=n.data.toList);have Hfs:=Ih hfs;have HS:=Ih hS;have HV:=Ih hV;have ju:=eE.size;clear hV hB jU h hfs hS
 dsimp only[aE.val]
 go_enter Tryz.func37,Tryz.ntmps37
 go_upto_region 1 with fail
 rw[<-HV.out]
 go_wp2_with fail
 refine cN.out.mono ?_;rintro e w5 ⟨r,rfl,hr,aI⟩;rcases hr.out with⟨rfl,AL⟩|⟨j,d,rfl,hj,hf⟩
 ·have HR:Hid (Lz.iv (ys.map aD.src) n.data.toList=none):=by show _=_;rw[<-Hfs.out,AL];rfl
  clear hr AL
  go_wp2_with (refine wpList_store_row rfl 51 (.tmp 4) (.tmp 14) rfl (w.heap.size+1) #[.string ⟨#[]⟩,.slice none 0 0] rfl rfl 51 _ (vn.out w5 aI) jB rfl (by simp[Value.oneCell']) ?_)
  refine bodyPost_ret (aW (P:=Tryz.prog) (u:=5) rfl _ _ (w.heap.size+1) 51 _ (0,0) _ rfl (setRow_heap _ _ _ _ _ _ (vn.out w5 aI)) Tryz.underlying51 rfl jB) rfl ?_;exact⟨_,rfl,by rw[HR.out];rfl,aH (ac eE aI) (by omega)⟩
 ·have HR:Hid (Lz.iv (ys.map aD.src) n.data.toList=some d.src):=by show _=_;rw[<-Hfs.out,hf];rfl
  obtain⟨k0,k1⟩:=dV.out w5 aI;have hda:=HD.out w5 aI;obtain⟨a,c,rfl,hx⟩:=hda;obtain⟨g,off,rfl,mR⟩:=hx j d hj;have nP:=(List.getElem?_eq_some_iff.1 hj).1;have AJ:=HS.out.2 d.src (List.mem_map.2 ⟨d,List.mem_of_getElem? hj,rfl⟩);obtain⟨nm,dv,l⟩:=d;obtain⟨d0,d1,dp⟩:=mR;have Hdp:=Ih dp;have mS:l.length<=20:=AJ.2.1
  dsimp only at d0 d1
  have hjI:(j:Int)<(ys.length:Int):=by omega
  have tM:(0:Int)<=(j:Int):=by omega
  have Fx:¬(j:Int)<0:=by omega
  clear hr hf hj hx dp AJ c0 c1;obtain⟨pa,pc,xs,Lp,o7,O8⟩:=Hdp.out;subst Lp;obtain⟨W7,hW7⟩:∃W7,W7=w5.alloc (.cells #[.string nm,.slice pa xs.length pc] 51):=⟨_,rfl⟩;have b57:Below w5.heap.size w5 W7:=by rw[hW7];exact(Below.refl _ _).alloc (Nat.le_refl _) _
  have hr7:W7.heap[w5.heap.size]? =some (.cells #[.string nm,.slice pa xs.length pc] 51 (0,0)):=by rw[hW7];exact ah _ _
  have In:=ac eE aI;have acp:=ac In b57;have TC:W7.heap[w.heap.size+1]? =some (.cells #[.string ⟨#[]⟩,.slice none 0 0] 51 (0,0)):=(b57.block _ (af (vn.out w5 aI))).trans (vn.out w5 aI);have cC:=Ih (zQ W7.drew.heap.size (.slice pa xs.length pc) l W7.drew ((Hdp.out.below b57).below (Below.refl _ _).drew) (Nat.le_refl _) (by omega));have hS7:(W7.drew.cell? ⟨w5.heap.size,0,none⟩=some (.string nm)/\W7.drew.cell? ⟨w5.heap.size,1,none⟩=some (.slice pa xs.length pc))/\Below w.heap.size w W7.drew/\∃C,W7.drew.heap[w.heap.size+1]? =some (.cells C 51 (0,0))/\C.size=2:=⟨⟨rowAt hr7 0 _ rfl,rowAt hr7 1 _ rfl⟩,acp.drew,_,TC,rfl⟩;have ed:w.heap.size+1<w5.heap.size:=by have:=af (vn.out w5 aI);omega
  have HW7:=Ih hW7;clear hW7 hr7 TC O8 o7
  go_upto_region 5 with fail
  rw[<-HW7.out];clear d0 d1 k0 k1;refine wp_region_held_drew (S:=fun U=>(U.cell? ⟨w5.heap.size,0,none⟩=some (.string nm)/\U.cell? ⟨w5.heap.size,1,none⟩=some (.slice pa xs.length pc))/\Below w.heap.size w U/\∃C,U.heap[w.heap.size+1]? =some (.cells C 51 (0,0))/\C.size=2) (by kernel_rfl) hS7 (fun ae=>?_);clear hS7 HW7;generalize W7.drew=W0 at ae cC⊢;apply TkG 0 20;apply TkG 1 21;apply TkG 2 22;apply TkG 3 23
  iterate 4 (rotate_right 2;(·(intro W aM;(try dsimp only at aM);obtain⟨⟨e0,e1⟩,_⟩:=aM;(try simp only[Act.put]);(try simp only[List.setIfInBounds_toArray]);(try simp only[List.set_cons_zero,List.set_cons_succ]);go_simp;try with_reducible rfl)))
  (try simp only[Act.put]);(try simp only[List.setIfInBounds_toArray]);(try simp only[List.set_cons_zero,List.set_cons_succ])
  refine wpAnyH_ready (rs:=[4]) (by kernel_rfl) (by simp) ?_;refine AllReadyH.cons rfl (fun K hK=>?_) AllReadyH.nil;go_simp
  go_at_call 70
  refine cC.out.mono ?_;rintro e w8 ⟨ua,un,uc,us,rfl,uH,au,pM⟩;obtain⟨⟨e0,e1⟩,e2,C,hC,Pd⟩:=ae;refine hK.out _ _ ⟨⟨(pM.cell (World.block_lt_of_cell? _ _ e0)).trans e0,(pM.cell (World.block_lt_of_cell? _ _ e1)).trans e1⟩,ac e2 pM,C,(pM.block _ (af hC)).trans hC,Pd⟩ (fun ae=>?_);clear hK K e0 e1 e2 hC Pd
  (try simp only[Act.put]);(try simp only[List.setIfInBounds_toArray]);(try simp only[List.set_cons_zero,List.set_cons_succ])
  apply TkG 5 25
  iterate 1 (rotate_right 2;(·(intro W aM;(try simp only[Act.put]);go_simp;try with_reducible rfl)))
  (try simp only[Act.put]);(try simp only[List.setIfInBounds_toArray]);(try simp only[List.set_cons_zero,List.set_cons_succ])
  refine wpAnyH_ready (rs:=[6]) (by kernel_rfl) (by simp) ?_;refine AllReadyH.cons rfl (fun K hK=>?_) AllReadyH.nil;rw[if_pos (by rfl)];obtain⟨⟨e0,e1⟩,e2,C,hC,Pd⟩:=ae;refine wp_store_row 51 (.tmp 4) (.tmp 25) rfl (w.heap.size+1) #[.string nm,.slice ua un uc] rfl rfl 51 C hC jB (by rw[Pd];rfl) (by simp[Value.oneCell']) ?_;have lj:=setRow_heap w8 (w.heap.size+1) C #[.string nm,.slice ua un uc] 51 (0,0) hC;have Fm:Below w.heap.size w (w8.setRow (w.heap.size+1) #[.string nm,.slice ua un uc]):=aH e2 (by omega);have EY:=au.kept (fG w8 (w.heap.size+1) #[.string nm,.slice ua un uc]) (fun k hk=>by injection hk with hk;subst hk;exact⟨_,_,_,hC,by decide⟩)
  have lU:∀k,(w8.setRow (w.heap.size+1) #[.string nm,.slice ua un uc]).cell? ⟨w5.heap.size,k,none⟩=w8.cell? ⟨w5.heap.size,k,none⟩:=fun k=>by
   have:(w8.setRow (w.heap.size+1) #[.string nm,.slice ua un uc]).heap[w5.heap.size]? =w8.heap[w5.heap.size]? :=setRow_other _ _ _ _ (by omega);unfold World.cell?;rw[this]
  generalize w8.setRow (w.heap.size+1) #[.string nm,.slice ua un uc]=w9 at lj Fm EY lU⊢;refine hK.out _ _ ⟨⟨(lU 0).trans e0,(lU 1).trans e1⟩,Fm,_,lj,rfl⟩ (fun ae=>?_);clear hK K e0 e1 e2 hC Pd lU au
  (try simp only[Act.put]);(try simp only[List.setIfInBounds_toArray]);(try simp only[List.set_cons_zero,List.set_cons_succ])
  apply TkG 7 5
  iterate 1 (rotate_right 2;(·(intro W aM;(try simp only[Act.put]);go_simp;try with_reducible rfl)))
  (try simp only[Act.put]);(try simp only[List.setIfInBounds_toArray]);(try simp only[List.set_cons_zero,List.set_cons_succ])
  refine wpAnyH_done (by kernel_rfl) ?_ _
  go_wp2_with fail
  refine bodyPost_ret (aW (P:=Tryz.prog) (u:=5) rfl _ _ (w.heap.size+1) 51 _ (0,0) _ rfl lj Tryz.underlying51 rfl jB) rfl ?_;exact⟨_,rfl,by rw[HR.out];exact⟨nm,_,_,us,rfl,Ih rfl,uH,EY⟩,Fm⟩
theorem aL.path {w:World} {B:Nat} {v:Value} {us:List ByteArray} {l:List (List UInt8)} (h:aL w B v us) (hl:us.map (fun x:ByteArray=>x.data.toList)=l):bd w v l:=by
 obtain⟨a,c,e,_,hx⟩:=h.form;exact⟨a,c,us,e,hl,hx⟩
attribute [local go_sem ↓] Go.wp_at_zero Go.wp_at_succ
theorem Lj (args:Array Value) (w:World):(callFunc 36 args).run Tryz.prog w=.ok (.enter 36 args) w:=enters_of Tryz.func36 (by kernel_rfl) rfl args w
theorem tF.form {o:Option Lz.il} {w:World} {v:Value} (h:tF o w v):∃(nm:ByteArray) (pa:Option Addr) (pn pc B:Nat) (us:List ByteArray),v=.tuple #[.agg #[.string nm,.slice pa pn pc],.bool o.isSome]/\aL w B (.slice pa pn pc) us/\Hid (∀d,o=some d->nm.data.toList=d.name/\us.map (fun x:ByteArray=>x.data.toList)=d.vals)/\Hid (o=none->nm=⟨#[]⟩/\pa=none/\pn=0/\pc=0):=by
 cases o with
 | none=>exact⟨⟨#[]⟩,none,0,0,0,[],h,aL.nil _ _,Ih (fun d hd=>by cases hd),Ih (fun _=>⟨rfl,rfl,rfl,rfl⟩)⟩
 | some d=>
   obtain⟨nm,u,B,us,rfl,hn,h1,h2⟩:=h;obtain⟨a,c,rfl,_,_⟩:=h2.form;exact⟨nm,a,us.length,c,B,us,rfl,h2,Ih (fun d' hd=>by cases hd;exact⟨hn.out,h1⟩),Ih (fun h=>by cases h)⟩
theorem tF.of {o:Option Lz.il} {w:World} {nm:ByteArray} {pa:Option Addr} {pn pc B:Nat} {us:List ByteArray} (h0:aL w B (.slice pa pn pc) us) (h1:∀d,o=some d->nm.data.toList=d.name/\us.map (fun x:ByteArray=>x.data.toList)=d.vals) (h2:o=none->nm=⟨#[]⟩/\pa=none/\pn=0/\pc=0):tF o w (.tuple #[.agg #[.string nm,.slice pa pn pc],.bool o.isSome]):=by
 cases o with
 | none=>obtain⟨rfl,rfl,rfl,rfl⟩:=h2 rfl;rfl
 | some d=>exact⟨nm,_,B,us,rfl,Ih (h1 d rfl).1,(h1 d rfl).2,h0⟩
theorem GO (p:aE) (r:Nat) (s:ByteArray) (W:World) (h0:W.cell? ⟨r,0,none⟩=some p.v) (h1:W.cell? ⟨r,1,none⟩=some (.bool p.rep)) (h:dx W p.v p.ds) (hS:dO (p.ds.map aD.src)):
  Calls Tryz.prog 36 #[.string s,.pointer (some ⟨r,0,none⟩)] W (aC (Lz.iv (p.ds.map aD.src) s.data.toList).isSome W):=by
 have cF:=Ih (sW p s W h hS);generalize Lz.iv (p.ds.map aD.src) s.data.toList=o at cF⊢;obtain⟨pv,ys,rep⟩:=p
 dsimp only[aE.val]at cF h0 h1 h
 clear hS;obtain⟨a,c,rfl,_⟩:=h;go_enter Tryz.func36,Tryz.ntmps36
 go_wp2_with fail
 refine cF.out.mono ?_;rintro e w1 ⟨v,rfl,hv,ar⟩;obtain⟨nm,pa,pn,pc,_,_,rfl,_,_,_⟩:=hv.form
 go_wp2_with fail
 go_ret;exact⟨rfl,ar.alloc ar.size _⟩
theorem Ni {k:Int} (h:¬(1<=k/\k<=16)):Lz.wo k=[]:=by
 unfold Lz.wo;split
 ·rfl
 ·obtain rfl:k=0:=by omega
  rfl
theorem NI {n:Nat} (h1:1<=n) (h2:n<=16):Lz.wo (n:Int)=Lz.qE.getD n []/\0<(Lz.qE.getD n []).length:=by
 refine⟨by unfold Lz.wo;rw[if_neg (by omega)];rfl,?_⟩;have:∀j:Fin 17,1<=j.val->0<(Lz.qE.getD j.val []).length:=by decide
 exact this ⟨n,by omega⟩ h1
theorem Kq (n:Nat) (h1:1<=n) (h2:n<=16):(Lz.fD n).length<=4:=by
 have:∀j:Fin 17,1<=j.val->(Lz.fD j.val).length<=4:=by decide
 exact this ⟨n,by omega⟩ h1
theorem Kc (p:aE) (k:Int) (w:World) (h:dx w p.v p.ds) (hS:dO (p.ds.map aD.src)) (hE:xL w):Calls Tryz.prog 17 #[p.val,.int .i64 k] w (UA (Lz.fZ (p.ds.map aD.src) k) w):=by
 obtain⟨pv,ys,rep⟩:=p
 dsimp only at h hS
 obtain⟨V,hV⟩:∃V,V=(w.alloc (.cells #[pv,.bool rep] 25)).alloc (.cells #[.string ⟨#[]⟩,.slice none 0 0] 51):=⟨_,rfl⟩;have eE:Below w.heap.size w V:=by rw[hV];exact((Below.refl _ w).alloc (Nat.le_refl _) _).alloc (by simp) _
 have hB:V.heap[w.heap.size]? =some (.cells #[pv,.bool rep] 25 (0,0)):=by rw[hV,Below.heap_alloc _ _ _ (by simp)];exact ah _ _
 have jU:V.heap[w.heap.size+1]? =some (.cells #[.string ⟨#[]⟩,.slice none 0 0] 51 (0,0)):=by rw[hV];exact dm _ _ _
 have dV:Hid (∀U,Below V.heap.size V U->U.cell? ⟨w.heap.size,0,none⟩=some pv/\U.cell? ⟨w.heap.size,1,none⟩=some (.bool rep)):=Ih (fun U hU=>by
  have jU:=(hU.block _ (af hB)).trans hB;exact⟨rowAt jU 0 _ rfl,rowAt jU 1 _ rfl⟩)
 have vn:Hid (∀U,Below V.heap.size V U->U.heap[w.heap.size+1]? =some (.cells #[.string ⟨#[]⟩,.slice none 0 0] 51 (0,0))):=Ih (fun U hU=>(hU.block _ (af jU)).trans jU);have HD:=Ih (fun U (hU:Below V.heap.size V U)=>(h.below eE).below hU);have So:=hE.below eE;have cE:=Ih (yH k V So);have HS:=Ih hS;have HV:=Ih hV;have ju:=eE.size;have HE:=Ih So;obtain⟨ga,gc,rfl,_⟩:=h;clear hV hB jU hS hE So
 dsimp only[aE.val]
 by_cases hk:1<=k/\k<=16
 ·obtain⟨n,rfl⟩:∃n:Nat,k=(n:Int):=⟨k.toNat,by omega⟩;have h1:1<=n:=by omega
  have h2:n<=16:=by omega
  obtain⟨he,qS⟩:=NI h1 h2;have cCh:=Ih (fun U=>KW n h1 h2 U);have vp:=Kq n h1 h2;have Sb:Hid (Lz.fZ (ys.map aD.src) (n:Int)=((Lz.fD n).find? fun x=>(Lz.iv (ys.map aD.src) x).isSome).bind (Lz.iv (ys.map aD.src))):=Ih (by unfold Lz.fZ;rw[if_pos (by omega)];rfl);rw[he]at cE;generalize Lz.qE.getD n []=tl at cE cCh qS;obtain⟨t,ht⟩:∃t:ByteArray,t=⟨tl.toArray⟩:=⟨_,rfl⟩;have hte:=an (s:=t) (by rw[ht];show 0<tl.toArray.size;rw[List.size_toArray];exact qS);rw[<-ht]at cE cCh;generalize Lz.fD n=ch at cCh vp Sb;clear ht he h1 h2 hk qS;go_enter Tryz.func17,Tryz.ntmps17
  go_upto_region 1 with fail
  rw[<-HV.out]
  go_wp2_with fail
  refine cE.out.mono ?_;rintro e w1 ⟨rfl,ar⟩
  go_wp2_with fail
  refine(cCh.out w1).mono ?_;rintro e w2 ⟨lv,rfl,hp,lX,az⟩;have HFR:=Ih lX;clear lX;have bI:=ac ar az;have bc:=(dV.out w2 bI)
  have cI:=Ih (oJ lv ch 36 #[.pointer (some ⟨w.heap.size,0,none⟩)] (fun x=>(Lz.iv (ys.map aD.src) x).isSome) w2 Lj hp (by omega) (fun W x _ hW=>by
   have hVW:=ac bI hW;obtain⟨a0,a1⟩:=dV.out W hVW;exact(GO ⟨.slice ga ys.length gc,ys,rep⟩ w.heap.size x W a0 a1 (HD.out W hVW) HS.out).mono fun e w' ⟨e1,e2⟩=>⟨e1,hW.trans (e2.mono hW.size)⟩))
  have Hp:=Ih hp;clear hp bc cE cCh hte
  go_wp2_with fail
  refine cI.out.mono ?_;rintro e w3 ⟨r,rfl,hr,aO⟩;have ko:=ac bI aO;rcases hr.out with⟨rfl,AL⟩|⟨j,x,rfl,hj,hf⟩
  ·have HR:Hid (Lz.fZ (ys.map aD.src) (n:Int)=none):=Ih (by rw[Sb.out,AL];rfl);clear hr AL Sb
   go_wp2_with (refine wpList_store_row rfl 51 (.tmp 4) (.tmp 21) rfl (w.heap.size+1) #[.string ⟨#[]⟩,.slice none 0 0] rfl rfl 51 _ (vn.out w3 ko) jB rfl (by simp[Value.oneCell']) ?_)
   refine bodyPost_ret (aW (P:=Tryz.prog) (u:=5) rfl _ _ (w.heap.size+1) 51 _ (0,0) _ rfl (setRow_heap _ _ _ _ _ _ (vn.out w3 ko)) Tryz.underlying51 rfl jB) rfl ?_;exact⟨_,rfl,by rw[HR.out];rfl,aH (ac eE ko) (by omega)⟩
  ·have HR:Hid (Lz.fZ (ys.map aD.src) (n:Int)=Lz.iv (ys.map aD.src) x):=Ih (by rw[Sb.out,hf];rfl);obtain⟨la,lc,xs,rfl,o7,O8⟩:=Hp.out;have nP:=(List.getElem?_eq_some_iff.1 hj).1;have acG:xs.length=ch.length:=by rw[<-o7,List.length_map]
   obtain⟨xb,SC⟩:∃xb,xs[j]? =some xb:=⟨_,List.getElem?_eq_getElem (by omega)⟩;have Xe:xb.data.toList=x:=by rw[<-o7,List.getElem?_map,SC]at hj;exact Option.some.inj hj
   obtain⟨G,off,rfl,hG,Cf⟩:=O8 j xb SC;obtain⟨a0,a1⟩:=dV.out w3 ko;have a2:w3.cell? ⟨G,off+j,none⟩=some (.string xb):=(aO.cell (p:=⟨G,off+j,none⟩) hG).trans Cf
   have abG:G≠w.heap.size+1:=by
    have q1:=HFR.out G off _ _ rfl;have q2:=af (vn.out w1 ar);omega
   have hjI:(j:Int)<(xs.length:Int):=by omega
   have tM:(0:Int)<=(j:Int):=by omega
   have Fx:¬(j:Int)<0:=by omega
   have zu:Below w3.heap.size w3 w3.drew:=(Below.refl _ _).drew;have cF:=Ih (sW ⟨.slice ga ys.length gc,ys,rep⟩ xb w3.drew ((HD.out w3 ko).below zu) HS.out)
   dsimp only[aE.val]at cF
   rw[Xe]at cF;have jc:=ac eE ko;have hS3:((w3.drew.cell? ⟨w.heap.size,0,none⟩=some (.slice ga ys.length gc)/\w3.drew.cell? ⟨w.heap.size,1,none⟩=some (.bool rep))/\w3.drew.cell? ⟨G,off+j,none⟩=some (.string xb))/\Below w.heap.size w w3.drew/\∃C,w3.drew.heap[w.heap.size+1]? =some (.cells C 51 (0,0))/\C.size=2:=⟨⟨⟨a0,a1⟩,a2⟩,jc.drew,_,vn.out w3 ko,rfl⟩;clear hr hf hj SC O8 o7 Cf Hp Sb
   go_upto_region 8 with fail
   refine wp_region_held_drew (S:=fun U=>((U.cell? ⟨w.heap.size,0,none⟩=some (.slice ga ys.length gc)/\U.cell? ⟨w.heap.size,1,none⟩=some (.bool rep))/\U.cell? ⟨G,off+j,none⟩=some (.string xb))/\Below w.heap.size w U/\∃C,U.heap[w.heap.size+1]? =some (.cells C 51 (0,0))/\C.size=2) (by kernel_rfl) hS3 (fun ae=>?_);clear hS3 a0 a1 a2 zu;generalize w3.drew=W0 at ae cF⊢;apply TkG 0 22;apply TkG 1 23;apply TkG 2 24;apply TkG 3 25;apply TkG 4 26
   iterate 5 (rotate_right 2;(·(intro W aM;(try dsimp only at aM);obtain⟨⟨⟨e0,e1⟩,e2⟩,_⟩:=aM;(try simp only[Act.put]);(try simp only[List.setIfInBounds_toArray]);(try simp only[List.set_cons_zero,List.set_cons_succ]);go_simp;try with_reducible rfl)))
   (try simp only[Act.put]);(try simp only[List.setIfInBounds_toArray]);(try simp only[List.set_cons_zero,List.set_cons_succ])
   refine wpAnyH_ready (rs:=[5]) (by kernel_rfl) (by simp) ?_;refine AllReadyH.cons rfl (fun K hK=>?_) AllReadyH.nil;go_simp
   go_at_call 37
   refine cF.out.mono ?_;rintro e w8 ⟨v,rfl,hv,pM⟩;obtain⟨nm,pa,pn,pc,B,us,rfl,au,uL,je⟩:=hv.form;obtain⟨⟨⟨e0,e1⟩,e2⟩,e3,C,hC,Pd⟩:=ae;refine hK.out _ _ ⟨⟨⟨(pM.cell (World.block_lt_of_cell? _ _ e0)).trans e0,(pM.cell (World.block_lt_of_cell? _ _ e1)).trans e1⟩,(pM.cell (World.block_lt_of_cell? _ _ e2)).trans e2⟩,ac e3 pM,C,(pM.block _ (af hC)).trans hC,Pd⟩ (fun ae=>?_);clear hK K e0 e1 e2 e3 hC Pd
   (try simp only[Act.put]);(try simp only[List.setIfInBounds_toArray]);(try simp only[List.set_cons_zero,List.set_cons_succ])
   apply TkG 6 28;apply TkG 7 29
   iterate 2 (rotate_right 2;(·(intro W aM;(try dsimp only at aM);(try simp only[Act.put]);(try simp only[List.setIfInBounds_toArray]);(try simp only[List.set_cons_zero,List.set_cons_succ]);go_simp;try with_reducible rfl)))
   (try simp only[Act.put]);(try simp only[List.setIfInBounds_toArray]);(try simp only[List.set_cons_zero,List.set_cons_succ])
   refine wpAnyH_ready (rs:=[8]) (by kernel_rfl) (by simp) ?_;refine AllReadyH.cons rfl (fun K hK=>?_) AllReadyH.nil;rw[if_pos (by rfl)];obtain⟨⟨⟨e0,e1⟩,e2⟩,e3,C,hC,Pd⟩:=ae;refine wp_store_row 51 (.tmp 4) (.tmp 28) rfl (w.heap.size+1) #[.string nm,.slice pa pn pc] rfl rfl 51 C hC jB (by rw[Pd];rfl) (by simp[Value.oneCell']) ?_;have lj:=setRow_heap w8 (w.heap.size+1) C #[.string nm,.slice pa pn pc] 51 (0,0) hC;have Fm:Below w.heap.size w (w8.setRow (w.heap.size+1) #[.string nm,.slice pa pn pc]):=aH e3 (by omega);have EY:=au.kept (fG w8 (w.heap.size+1) #[.string nm,.slice pa pn pc]) (fun k hk=>by injection hk with hk;subst hk;exact⟨_,_,_,hC,by decide⟩);have adc:w.heap.size<w8.heap.size:=World.block_lt_of_cell? _ _ e0
   have lU:∀g k v,g≠w.heap.size+1->w8.cell? ⟨g,k,none⟩=some v->(w8.setRow (w.heap.size+1) #[.string nm,.slice pa pn pc]).cell? ⟨g,k,none⟩=some v:=fun g k v hg hc=>by
    have:(w8.setRow (w.heap.size+1) #[.string nm,.slice pa pn pc]).heap[g]? =w8.heap[g]? :=setRow_other _ _ _ _ hg;unfold World.cell? at hc⊢;rw[this];exact hc
   generalize w8.setRow (w.heap.size+1) #[.string nm,.slice pa pn pc]=w9 at lj Fm EY lU⊢;refine hK.out _ _ ⟨⟨⟨lU _ _ _ (by omega) e0,lU _ _ _ (by omega) e1⟩,lU _ _ _ abG e2⟩,Fm,_,lj,rfl⟩ (fun ae=>?_);clear hK K e0 e1 e2 e3 hC Pd lU au
   (try simp only[Act.put]);(try simp only[List.setIfInBounds_toArray]);(try simp only[List.set_cons_zero,List.set_cons_succ])
   apply TkG 9 5
   iterate 1 (rotate_right 2;(·(intro W aM;(try simp only[Act.put]);(try simp only[List.setIfInBounds_toArray]);(try simp only[List.set_cons_zero,List.set_cons_succ]);go_simp;try with_reducible rfl)))
   (try simp only[Act.put]);(try simp only[List.setIfInBounds_toArray]);(try simp only[List.set_cons_zero,List.set_cons_succ])
   refine wpAnyH_done (by kernel_rfl) ?_ _
   go_wp2_with fail
   refine bodyPost_ret (aW (P:=Tryz.prog) (u:=5) rfl _ _ (w.heap.size+1) 51 _ (0,0) _ rfl lj Tryz.underlying51 rfl jB) rfl ?_;exact⟨_,rfl,by rw[HR.out];exact tF.of EY uL.out je.out,Fm⟩
 ·have HR:Hid (Lz.fZ (ys.map aD.src) k=none):=Ih (by unfold Lz.fZ;rw[if_neg hk]);rw[Ni hk]at cE;clear hk;go_enter Tryz.func17,Tryz.ntmps17
  go_upto_region 1 with fail
  rw[<-HV.out]
  go_wp2_with fail
  refine cE.out.mono ?_;rintro e w1 ⟨rfl,ar⟩
  go_wp2_with (refine wpList_store_row rfl 51 (.tmp 4) (.tmp 13) rfl (w.heap.size+1) #[.string ⟨#[]⟩,.slice none 0 0] rfl rfl 51 _ (vn.out w1 ar) jB rfl (by simp[Value.oneCell']) ?_)
  refine bodyPost_ret (aW (P:=Tryz.prog) (u:=5) rfl _ _ (w.heap.size+1) 51 _ (0,0) _ rfl (setRow_heap _ _ _ _ _ _ (vn.out w1 ar)) Tryz.underlying51 rfl jB) rfl ?_;exact⟨_,rfl,by rw[HR.out];rfl,aH (ac eE ar) (by omega)⟩
attribute [local go_sem ↓] Go.wp_at_zero Go.wp_at_succ
theorem Qx (args:Array Value) (w:World):(callFunc 41 args).run Tryz.prog w=.ok (.enter 41 args) w:=enters_of Tryz.func41 (by kernel_rfl) rfl args w
theorem M9 (s:ByteArray) (hs:s.size<=140737488355328) (W:World):Calls Tryz.prog 41 #[.string s] W (aC (Lz.low s.data.toList==Lz.ni) W):=by
 have cS:=Ih (zN s ⟨#[39,115,99,114,105,112,116,39]⟩ hs W)
 have e:decide (Lz.low s.data.toList=Lz.low (⟨#[39,115,99,114,105,112,116,39]⟩:ByteArray).data.toList)=(Lz.low s.data.toList==Lz.ni):=by
  rw[show Lz.low (⟨#[39,115,99,114,105,112,116,39]⟩:ByteArray).data.toList=Lz.ni by decide];rw[Bool.eq_iff_iff];simp
 rw[e]at cS;clear e;generalize (Lz.low s.data.toList==Lz.ni)=b at cS⊢;go_enter Tryz.func41,Tryz.ntmps41
 go_wp2_with fail
 refine cS.out.mono ?_;rintro e w1 ⟨rfl,ar⟩
 go_wp2_with fail
 go_ret;exact⟨rfl,ar⟩
theorem RF (p:aE) (w:World) (h:dx w p.v p.ds) (hS:dO (p.ds.map aD.src)):Calls Tryz.prog 19 #[p.val] w (aC (Lz.eC (p.ds.map aD.src)) w):=by
 obtain⟨pv,ys,rep⟩:=p
 dsimp only at h hS
 obtain⟨V,hV⟩:∃V,V=w.alloc (.cells #[pv,.bool rep] 25):=⟨_,rfl⟩;have eE:Below w.heap.size w V:=by rw[hV];exact(Below.refl _ w).alloc (Nat.le_refl _) _
 have hB:V.heap[w.heap.size]? =some (.cells #[pv,.bool rep] 25 (0,0)):=by rw[hV];exact ah _ _
 have c0:=rowAt hB 0 pv rfl;have c1:=rowAt hB 1 (.bool rep) rfl;have cF:Hid (Calls Tryz.prog 37 #[.agg #[pv,.bool rep],.string ⟨#[114,101,113,117,105,114,101,45,116,114,117,115,116,101,100,45,116,121,112,101,115,45,102,111,114]⟩] V (UA (Lz.iv (ys.map aD.src) Lz.jq) V)):=Ih (sW ⟨pv,ys,rep⟩ ⟨#[114,101,113,117,105,114,101,45,116,114,117,115,116,101,100,45,116,121,112,101,115,45,102,111,114]⟩ V (h.below eE) hS);have HR:Hid (∀o,Lz.iv (ys.map aD.src) Lz.jq=o->Lz.eC (ys.map aD.src)=match o with|some d=>d.vals.any (fun s=>Lz.low s==Lz.ni)|none=>false):=Ih (fun o ho=>by unfold Lz.eC;rw[ho];cases o<;>rfl);have HSm:Hid (∀d,Lz.iv (ys.map aD.src) Lz.jq=some d->NT d):=Ih (fun d hd=>hS.2 d (List.mem_of_find?_eq_some hd));have HV:=Ih hV;obtain⟨o,ho⟩:∃o,Lz.iv (ys.map aD.src) Lz.jq=o:=⟨_,rfl⟩;have Fq:=Ih (HR.out o ho);have ZG:=Ih (fun d (hd:o=some d)=>HSm.out d (ho.trans hd));rw[ho]at cF;obtain⟨ga,gc,rfl,_⟩:=h;clear hV hB hS HR HSm ho
 dsimp only[aE.val]
 go_enter Tryz.func19,Tryz.ntmps19
 go_upto_region 1 with fail
 rw[<-HV.out]
 go_wp2_with fail
 refine cF.out.mono ?_;rintro e w1 ⟨v,rfl,hv,ar⟩;obtain⟨nm,pa,pn,pc,B,us,rfl,au,uL,je⟩:=hv.form;obtain⟨vs,yy⟩:∃vs,vs=us.map (fun x:ByteArray=>x.data.toList):=⟨_,rfl⟩;have AK:Below w1.heap.size w1 (w1.alloc (.cells #[.string nm,.slice pa pn pc] 51)):=(Below.refl _ _).alloc (Nat.le_refl _) _;have hp:=(au.path yy.symm).below AK
 have HQ:Hid (Lz.eC (ys.map aD.src)=vs.any (fun s=>Lz.low s==Lz.ni)/\vs.length<=20/\∀x∈vs,x.length<=200):=by
  show _/\_;cases o with
  | none=>
    obtain⟨_,rfl,rfl,rfl⟩:=je.out rfl
    have uH:us=[]:=by
     obtain⟨a,c,e,_⟩:=au.form;injection e with _ e2 _
     exact List.eq_nil_of_length_eq_zero e2.symm
    rw[yy,uH];exact⟨Fq.out,by simp,by simp⟩
  | some d=>
    obtain⟨_,h2⟩:=uL.out d rfl;have AJ:=ZG.out d rfl;rw[yy,h2];exact⟨Fq.out,AJ.2.1,AJ.2.2⟩
 have cC:=Ih (ro (.slice pa pn pc) vs 41 #[] (fun s=>Lz.low s==Lz.ni) _ Qx hp (by have:=HQ.out.2.1;omega) (fun W x hx hW=>(M9 x (by have:=HQ.out.2.2 _ hx;rw[aa]at this;omega) W).mono fun e w' ⟨e1,e2⟩=>⟨e1,hW.trans (e2.mono hW.size)⟩));rw[<-HQ.out.1]at cC;clear hv uL je au hp yy Fq ZG
 go_wp2_with fail
 refine cC.out.mono ?_;rintro e w2 ⟨rfl,az⟩
 go_wp2_with fail
 go_ret;exact⟨rfl,ac eE (ac ar (AK.trans (az.mono AK.size)))⟩
end Go.Proofs.YtecoeebjaleeiaaGreatDoor
