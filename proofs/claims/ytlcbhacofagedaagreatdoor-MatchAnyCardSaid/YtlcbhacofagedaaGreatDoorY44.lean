/-
  lazaretref08.Parse, without a base.
-/
import Derived.Test.YtlcbhacofagedaaGreatDoorY43
set_option maxHeartbeats 8000000
set_option maxRecDepth 100000
namespace Go.Proofs.YtlcbhacofagedaaGreatDoor
open Go.RowKit
def x00:MkV:=⟨⟨#[]⟩,⟨#[]⟩,⟨#[]⟩,false,⟨#[]⟩,-1,false,.slice none 0 0,[],false,false,⟨#[]⟩,⟨#[]⟩⟩
theorem Ei (h:Array Obj) (a b c:Obj):(((h.push a).push b).push c)[h.size]? =some a/\(((h.push a).push b).push c)[h.size+1]? =some b/\(((h.push a).push b).push c)[h.size+1+1]? =some c:=by
 refine⟨?_,?_,?_⟩
 ·rw[Array.getElem?_push,if_neg (by simp;omega),Array.getElem?_push,if_neg (by simp),Array.getElem?_push,if_pos rfl]
 ·rw[Array.getElem?_push,if_neg (by simp),Array.getElem?_push,if_pos (by simp)]
 ·rw[Array.getElem?_push,if_pos (by simp)]
theorem Ee (s:ByteArray) (w:World) (hs:s.size<=25000) (hE:de w):
  Calls Tryz.prog 9 #[.string s,.pointer none] w (pD (Lz.lG none s.data.toList) w):=by
 have HX:Hid (RX.Ok ⟨s,Lz.lG none s.data.toList,w,w.heap.size,w.heap.size+1,w.heap.size+1+1⟩):=Ih ⟨hs,hE,rfl,Nat.lt_succ_self _,Nat.lt_succ_self _⟩;clear hE;go_enter Tryz.func9,Tryz.ntmps9
 go_upto_region 3 with fail
 go_wp2_with fail
 refine wp_mono (Rv ⟨s,Lz.lG none s.data.toList,w,w.heap.size,w.heap.size+1,w.heap.size+1+1⟩ HX.out (Lz.muM s.data.toList 0 .start) _ _ ?_) ?_
 ·refine⟨.start,⟨#[]⟩,false,false,false,0,x00,_,_,_,_,_,_,_,rfl,rfl,?_,aM (by nofun),⟨Nat.zero_le _,rfl,rfl,rfl⟩,rfl⟩;have hb:=(((Below.refl w.heap.size w).alloc (Nat.le_refl _) (.cells bC 26)).alloc (by simp) (.cells x00.cells 26)).alloc (by simp;omega) (.cells bC 26);obtain⟨h1,h2,h3⟩:=Ei w.heap (.cells bC 26) (.cells x00.cells 26) (.cells bC 26);exact⟨hb,h1,h2,h3,aX.nil _ _⟩
 ·intro e a' w' h
  match e,h with
  | .ret,h=>
    obtain⟨a0,a1,a2,a3,m,C,l,hl,rfl,hb,hr,hC,hp⟩:=h;refine bodyPost_ret (bH (P:=Tryz.prog) (u:=5) rfl _ _ w.heap.size 26 C (0,0) _ (by simp) hr Tryz.underlying26 rfl (by rw[hC];exact bd)) rfl ?_;exact⟨_,m,by simp,hb,hp⟩
attribute [local go_sem ↓] Go.wp_at_zero Go.wp_at_succ
theorem px (s:ByteArray) (w:World) (hE:jL w):Calls Tryz.prog 5 #[.string s,.pointer none] w (pD (Lz.du s.data.toList none) w):=by
 obtain⟨W,hW⟩:∃W,W=w.alloc (.cells bC 26):=⟨_,rfl⟩;have bg:Below w.heap.size w W:=by rw[hW];exact(Below.refl _ w).alloc (Nat.le_refl _) _
 have hR:W.heap[w.heap.size]? =some (.cells bC 26 (0,0)):=by rw[hW];exact aK _ _
 have lY:=hE.below bg;have aN:=aI hR;obtain⟨goal,hg⟩:∃goal,goal=Lz.du s.data.toList none:=⟨_,rfl⟩;rw[<-hg];have HG:=Ih hg;have HW:=Ih hW;have HR:=Ih hR;clear hg hW hR hE;by_cases bv:4000<s.size
 ·have Oe:(4000:Int)<(s.size:Int):=by omega
  have kQ:Hid (goal=.er 3):=by
   show _=_;rw[HG.out];unfold Lz.du;rw[if_pos (by rw[aa];exact bv)]
  clear bv;go_enter Tryz.func5,Tryz.ntmps5
  go_wp2_with (first |rw[<-HW.out]|(refine wpList_store_row rfl 26 (.tmp 4) (.tmp 11) rfl w.heap.size bC rfl rfl 26 _ HR.out bd rfl (by simp[Value.oneCell']) ?_))
  refine bodyPost_ret (bH (P:=Tryz.prog) (u:=5) rfl _ _ w.heap.size 26 _ (0,0) _ rfl (setRow_heap _ _ _ _ _ _ HR.out) Tryz.underlying26 rfl bd) rfl ?_;refine⟨_,_,rfl,az bg (Nat.le_refl _),?_⟩;rw[kQ.out];exact⟨rfl,uI _⟩
 ·have Oe:¬(4000:Int)<(s.size:Int):=by omega
  have dV:s.size<=4000:=by omega
  have F1:s.data.toList.length<=4000:=by rw[aa];exact dV
  clear bv;go_enter Tryz.func5,Tryz.ntmps5
  go_upto_region 3 with(rw[<-HW.out])
  have DO:Hid (goal=Lz.lT s.data.toList none):=Ih (HG.out.trans (oC F1));clear HG;have cC:=Ih (AK s (by omega) W)
  go_wp2_with fail
  refine cC.out.mono ?_;rintro e w2 ⟨t2,rfl,Sq,aU⟩
  have Zw:t2.size<=25000:=by
   have:=Lz.qU s.data.toList;rw[<-Sq.out,aa,aa]at this;omega
  have ZM:=aU;have cR:=Ih (Ee t2 w2 Zw (lY.h.below ZM));rw[Sq.out,<-Lz.Db,<-DO.out]at cR;clear DO cC Sq Zw
  go_wp2_with fail
  refine cR.out.mono ?_;rintro e w3 ⟨v1,n,rfl,cq,bt⟩;have l5:=ac ZM cq
  obtain⟨u,Oh⟩:∃u,dP w3 v1 u:=by
   cases goal with
   | ok u'=>exact⟨_,bt.2⟩
   | er k=>exact⟨_,bt.2⟩
  obtain⟨aS,bW,bF,bG,bn,bA,bL,a1,n1,c1,bB,bK,bX,bY,rfl⟩:=Oh.form;have vW:w3.heap[w.heap.size]? =some (.cells bC 26 (0,0)):=(l5.block _ aN).trans HR.out;clear cR Oh
  go_wp2_with (refine wpList_store_row rfl 26 (.tmp 4) (.tmp 38) rfl w.heap.size #[.string aS,.string bW,.string bF,.bool bG,.string bn,.int .i64 bA,.bool bL,.slice a1 n1 c1,.bool bB,.bool bK,.string bX,.string bY] rfl rfl 26 _ vW bd rfl (by simp[Value.oneCell']) ?_)
  refine bodyPost_ret (bH (P:=Tryz.prog) (u:=5) rfl _ _ w.heap.size 26 _ (0,0) _ rfl (setRow_heap _ _ _ _ _ _ vW) Tryz.underlying26 rfl bd) rfl ?_;refine⟨_,_,rfl,az (bg.trans (l5.mono bg.size)) (Nat.le_refl _),?_⟩;cases goal with
  | ok u'=>exact⟨bt.1,bt.2.setRow vW _⟩
  | er k=>exact⟨bt.1,bt.2.setRow vW _⟩
end Go.Proofs.YtlcbhacofagedaaGreatDoor
