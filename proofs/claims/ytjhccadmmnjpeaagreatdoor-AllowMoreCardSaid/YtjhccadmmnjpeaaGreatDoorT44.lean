/-
  Package allow: Hash, Inline.
-/
import Derived.Test.YtjhccadmmnjpeaaGreatDoorT42
set_option maxHeartbeats 4000000
set_option maxRecDepth 100000
namespace Go.Proofs.YtjhccadmmnjpeaaGreatDoor
open Go.RowKit
attribute [local go_sem ↓] Go.wp_at_zero Go.wp_at_succ
theorem fn_hash1 (args:Array Value) (w:World):(callFunc 31 args).run Tryz.prog w=.ok (.enter 31 args) w:=enters_of Tryz.func31 (by kernel_rfl) rfl args w
theorem hash1_any (tab:List UInt32) (tab2:List UInt64) (x:SrcB) (hx:x.text.size<=1000000) (r:Nat) (tx:ByteArray) (ht:tx.size<=1000000) (W:World) (hE:EnvA tab tab2 W) (hr:W.cell? ⟨r,0,none⟩=some (.string tx)):Calls Tryz.prog 31 #[x.val,.pointer (some ⟨r,0,none⟩)] W (RBool (x.src.kind==5&&Lz.usual x.src.text==Lz.sumD (digA tab tab2) x.src.bits tx.data.toList) W):=by
 obtain⟨k,t,b,sc,ho,wd,po,pa⟩:=x;obtain⟨V,hV⟩:∃V,V=W.alloc (.cells #[.int .i64 k,.string t,.int .i64 b,.string sc,.string ho,.bool wd,.int .i64 po,.string pa] 47):=⟨_,rfl⟩;have hbV:Below W.heap.size W V:=by rw[hV];exact(Below.refl _ W).alloc (Nat.le_refl _) _
 have hB:V.heap[W.heap.size]? =some (.cells #[.int .i64 k,.string t,.int .i64 b,.string sc,.string ho,.bool wd,.int .i64 po,.string pa] 47 (0,0)):=by rw[hV];exact heap_new _ _
 have HC:Hid (∀U,Below V.heap.size V U->((U.cell? ⟨W.heap.size,0,none⟩=some (.int .i64 k)/\U.cell? ⟨W.heap.size,1,none⟩=some (.string t)/\U.cell? ⟨W.heap.size,2,none⟩=some (.int .i64 b))/\U.cell? ⟨r,0,none⟩=some (.string tx))/\Below V.heap.size V U):=Ih (fun U hU=>by
  have hB2:U.heap[W.heap.size]? =some (.cells #[.int .i64 k,.string t,.int .i64 b,.string sc,.string ho,.bool wd,.int .i64 po,.string pa] 47 (0,0)):=(hU.block _ (row_lt hB)).trans hB;refine⟨⟨⟨rowAt hB2 0 _ rfl,rowAt hB2 1 _ rfl,rowAt hB2 2 _ rfl⟩,?_⟩,hU⟩;have hl:=World.block_lt_of_cell? _ _ hr;rw[hU.cell (p:=⟨r,0,none⟩) (Nat.lt_of_lt_of_le hl hbV.size),hbV.cell (p:=⟨r,0,none⟩) hl];exact hr)
 have cP:Hid (∀U,Below V.heap.size V U->Calls Tryz.prog 32 #[.string t] U (RStr (Lz.usual t.data.toList) U)):=Ih (fun U _=>Plain_any t (by have:t.size<=1000000:=hx;omega) U);have cS:Hid (∀U,Below V.heap.size V U->Calls Tryz.prog 33 #[.int .i64 b,.string tx] U (RStr (Lz.sumD (digA tab tab2) b tx.data.toList) U)):=Ih (fun U hU=>sumA_any tab tab2 b tx ht U ((hE.below hbV).below hU))
 dsimp only[SrcB.val]
 have z0:=rowAt hB 0 (.int .i64 k) rfl;have HV:=Ih hV;clear hV hB hE hr hx ht;by_cases hk:k=5
 ·subst hk;have hC:=HC;clear z0;go_enter Tryz.func31,Tryz.ntmps31
  go_upto_region 1 with fail
  rw[<-HV.out];refine wp_region_held_drew (S:=fun U=>((U.cell? ⟨W.heap.size,0,none⟩=some (.int .i64 5)/\U.cell? ⟨W.heap.size,1,none⟩=some (.string t)/\U.cell? ⟨W.heap.size,2,none⟩=some (.int .i64 b))/\U.cell? ⟨r,0,none⟩=some (.string tx))/\Below V.heap.size V U) (by kernel_rfl) (hC.out _ (Below.refl _ V).drew) (fun hHeld=>?_);generalize V.drew=W1 at hHeld⊢;refine TkD 0 (some 4) (v:=?_) rfl rfl ?_ ?_;rotate_left 2;refine TkD 1 (some 5) (v:=?_) rfl rfl ?_ ?_;rotate_left 2;refine TkD 2 (some 6) (v:=?_) rfl rfl ?_ ?_;rotate_left 2;refine TkD 3 (some 7) (v:=?_) rfl rfl ?_ ?_;rotate_left 2;rotate_left
  iterate 4 (rotate_left;(·(intro W hSw;(try dsimp only at hSw);(try simp only[Act.put]);(try simp only[List.setIfInBounds_toArray]);(try simp only[List.set_cons_zero,List.set_cons_succ]);go_simp;try with_reducible rfl)))
  (try simp only[Act.put]);(try simp only[List.setIfInBounds_toArray]);(try simp only[List.set_cons_zero,List.set_cons_succ])
  refine TkD 4 (some 8) (v:=?_) rfl rfl ?_ ?_;rotate_left 2;refine TkD 5 (some 9) (v:=?_) rfl rfl ?_ ?_;rotate_left 2;refine TkD 7 (some 11) (v:=?_) rfl rfl ?_ ?_;rotate_left 2;refine TkD 8 (some 12) (v:=?_) rfl rfl ?_ ?_;rotate_left 2;refine TkD 9 (some 13) (v:=?_) rfl rfl ?_ ?_;rotate_left 2;rotate_left
  iterate 5 (rotate_left;(·(intro W hSw;(try dsimp only at hSw);(try simp only[Act.put]);(try simp only[List.setIfInBounds_toArray]);(try simp only[List.set_cons_zero,List.set_cons_succ]);go_simp;try with_reducible rfl)))
  (try simp only[Act.put]);(try simp only[List.setIfInBounds_toArray]);(try simp only[List.set_cons_zero,List.set_cons_succ])
  refine wpAnyH_ready (rs:=[6]) (by kernel_rfl) (by simp) ?_;refine AllReadyH.cons rfl (fun K hK=>?_) AllReadyH.nil;go_simp
  go_at_call 32
  refine(cP.out _ hHeld.2).mono ?_;rintro e u1w ⟨u1,rfl,hu1,hb5⟩;have hb6:=hHeld.2.trans (hb5.mono hHeld.2.size);refine hK.out _ _ (hC.out _ hb6) (fun hHeld=>?_);clear hK K hb5 hb6
  (try simp only[Act.put]);(try simp only[List.setIfInBounds_toArray]);(try simp only[List.set_cons_zero,List.set_cons_succ])
  refine wpAnyH_ready (rs:=[10]) (by kernel_rfl) (by simp) ?_;refine AllReadyH.cons rfl (fun K hK=>?_) AllReadyH.nil;go_simp
  go_at_call 33
  refine(cS.out _ hHeld.2).mono ?_;rintro e u2w ⟨u2,rfl,hu2,hb5⟩;have hb6:=hHeld.2.trans (hb5.mono hHeld.2.size);refine hK.out _ _ (hC.out _ hb6) (fun hHeld=>?_);clear hK K hb5 hb6
  (try simp only[Act.put]);(try simp only[List.setIfInBounds_toArray]);(try simp only[List.set_cons_zero,List.set_cons_succ])
  refine TkD 11 (some 15) (v:=?_) rfl rfl ?_ ?_;rotate_left 2;rotate_left
  iterate 1 (rotate_left;(·(intro W hSw;(try dsimp only at hSw);(try simp only[Act.put]);(try simp only[List.setIfInBounds_toArray]);(try simp only[List.set_cons_zero,List.set_cons_succ]);go_simp;try with_reducible rfl)))
  (try simp only[Act.put]);(try simp only[List.setIfInBounds_toArray]);(try simp only[List.set_cons_zero,List.set_cons_succ])
  refine TkD 12 (some 16) (v:=?_) rfl rfl ?_ ?_;rotate_left 2;refine TkD 13 (some 3) (v:=?_) rfl rfl ?_ ?_;rotate_left 2;rotate_left
  iterate 2 (rotate_left;(·(intro W hSw;(try dsimp only at hSw);(try simp only[Act.put]);(try simp only[List.setIfInBounds_toArray]);(try simp only[List.set_cons_zero,List.set_cons_succ]);go_simp;try with_reducible rfl)))
  (try simp only[Act.put]);(try simp only[List.setIfInBounds_toArray]);(try simp only[List.set_cons_zero,List.set_cons_succ])
  refine wpAnyH_done (by kernel_rfl) ?_ _
  go_wp2_with fail
  go_ret;refine⟨?_,below_call hbV hHeld.2⟩;show Ending.returned (.bool (u1.toList==u2.toList))=.returned (.bool ((5:Int)==5&&Lz.usual t.data.toList==Lz.sumD (digA tab tab2) b tx.data.toList));rw[eqText,hu1.out,hu2.out];rfl
 ·have hd:decide (k=5)=false:=decide_eq_false hk;have hkb:(k==5)=false:=by simpa using hk
  go_enter Tryz.func31,Tryz.ntmps31
  go_upto_region 1 with fail
  rw[<-HV.out]
  go_quiet (fail)
  go_wp2_with fail
  go_ret;refine⟨?_,below_drewN hbV _⟩;show Ending.returned (.bool false)=.returned (.bool (k==5&&_));rw[hkb];rfl
theorem text_le {l:List (List UInt8)} (hZ:∀x,x∈l->x.length<=90000) {ys:List SrcB} (hy:ys.map SrcB.src=Lz.listS l) {x:SrcB} (hx:x∈ys):x.text.size<=90000:=by
 have hm:x.src∈Lz.listS l:=by rw[<-hy];exact List.mem_map.2 ⟨x,hx,rfl⟩
 unfold Lz.listS at hm;obtain⟨s,hs1,hs2⟩:=List.mem_filterMap.1 hm;rw[<-len_of_size];exact(Lz.fits s x.src 90000 hs2 (hZ s hs1)).1.ftext
theorem HashA_any (tab:List UInt32) (tab2:List UInt64) (v:Value) (l:List (List UInt8)) (tx:ByteArray) (ht:tx.size<=1000000) (w:World) (hE:EnvA tab tab2 w) (h:ValsAt w v l):Calls Tryz.prog 16 #[v,.string tx] w (RBool (Lz.hashP (Lz.sumD (digA tab tab2)) l tx.data.toList) w):=by
 obtain⟨V,hV⟩:∃V,V=w.alloc (.cells #[.string tx] 9):=⟨_,rfl⟩;have hbV:Below w.heap.size w V:=by rw[hV];exact(Below.refl _ w).alloc (Nat.le_refl _) _
 have hB:V.heap[w.heap.size]? =some (.cells #[.string tx] 9 (0,0)):=by rw[hV];exact heap_new _ _
 have hc:=rowAt hB 0 (.string tx) rfl;have cL:=Ih ((h.below hbV).list (hE.below hbV).m.s);have cC:=Ih (fun(W:World) (sv:Value) (ys:List SrcB) (hW:Below V.heap.size V W) (hs:SrcsAt W sv ys) (hy:ys.map SrcB.src=Lz.listS l)=>ContainsFuncG_any sv ys 31 #[.pointer (some ⟨w.heap.size,0,none⟩)] (fun x=>x.src.kind==5&&Lz.usual x.src.text==Lz.sumD (digA tab tab2) x.src.bits tx.data.toList) W fn_hash1 hs (h.ylen hy) (fun W2 x hx hW2=>(hash1_any tab tab2 x (by have:=text_le h.size hy hx;omega) w.heap.size tx ht W2 ((hE.below hbV).below (hW.trans (hW2.mono hW.size))) (by rw[(hW.trans (hW2.mono hW.size)).cell (p:=⟨w.heap.size,0,none⟩) (row_lt hB)];exact hc)).mono fun e w' ⟨h1,h2⟩=>⟨h1,hW2.trans (h2.mono hW2.size)⟩));have HV:=Ih hV
 have HQ:Hid (∀ys:List SrcB,ys.map SrcB.src=Lz.listS l->Lz.hashP (Lz.sumD (digA tab tab2)) l tx.data.toList=ys.any fun x=>x.src.kind==5&&Lz.usual x.src.text==Lz.sumD (digA tab tab2) x.src.bits tx.data.toList):=by
  show ∀ys,_;intro ys hy;unfold Lz.hashP;rw[<-hy,List.any_map];rfl
 clear hV hB hE h hc;go_enter Tryz.func16,Tryz.ntmps16
 go_upto_region 1 with fail
 rw[<-HV.out]
 go_wp2_with fail
 refine cL.out.mono ?_;rintro e w6 ⟨sv,ys,rfl,hys,hso,hb6⟩;have hsa:=SrcsOwn.at hso
 go_wp2_with fail
 refine(cC.out w6 _ ys hb6 hsa hys.out).mono ?_;rintro e w7 ⟨rfl,hb7⟩
 go_wp2_with fail
 go_ret;exact⟨by rw[HQ.out ys hys.out];rfl,below_call (below_call hbV hb6) hb7⟩
def hashesB:ByteArray:=⟨#[117,110,115,97,102,101,45,104,97,115,104,101,115]⟩
theorem ValsAt.none {w:World} {v:Value} {l:List (List UInt8)} (h:ValsAt w v l):Calls Tryz.prog 22 #[v] w (RBool (Lz.noneM l) w):=NoneM_any v l w h.at' (by have:=h.len;omega) (fun x hx=>by have:=h.size x hx;omega)
theorem InlineA_any (tab:List UInt32) (tab2:List UInt64) (kind:Int) (v:Value) (l:List (List UInt8)) (nn tx:ByteArray) (ht:tx.size<=1000000) (w:World) (hE:EnvA tab tab2 w) (h:ValsAt w v l):Calls Tryz.prog 10 #[.int .i64 kind,v,.string nn,.string tx] w (RBool (Lz.inlineP (Lz.sumD (digA tab tab2)) kind l nn.data.toList tx.data.toList) w):=by
 have cN:Hid (Calls Tryz.prog 22 #[v] w (RBool (Lz.noneM l) w)):=Ih h.none;have cA:Hid (∀V,Below w.heap.size w V->Calls Tryz.prog 12 #[.int .i64 kind,v] V (RBool (Lz.allP kind l) V)):=Ih (fun V hV=>AllA_any kind v l V (hE.below hV).m.s (h.below hV));have cZ:Hid (∀V,Below w.heap.size w V->Calls Tryz.prog 14 #[v,.string nn] V (RBool (Lz.nonceP l nn.data.toList) V)):=Ih (fun V hV=>NonceA_any v l nn V (hE.below hV).m.s (h.below hV));have cL:Hid (∀V,Below w.heap.size w V->Calls Tryz.prog 24 #[v] V (RList l V)):=Ih (fun V hV=>(h.below hV).list (hE.below hV).m.s);have cK:Hid (∀V sv (ys:List SrcB),SrcsAt V sv ys->ys.map SrcB.src=Lz.listS l->Calls Tryz.prog 23 #[sv,.string hashesB] V (RBool (Lz.hasK (Lz.listS l) Lz.hashesS) V)):=Ih (fun V sv ys hs hy=>by rw[<-hy];exact has_any sv ys hashesB V hs (h.ylen hy));have cH:Hid (∀V,Below w.heap.size w V->Calls Tryz.prog 16 #[v,.string tx] V (RBool (Lz.hashP (Lz.sumD (digA tab tab2)) l tx.data.toList) V)):=Ih (fun V hV=>HashA_any tab tab2 v l tx ht V (hE.below hV) (h.below hV));obtain⟨R,hR⟩:∃R,R=Lz.inlineP (Lz.sumD (digA tab tab2)) kind l nn.data.toList tx.data.toList:=⟨_,rfl⟩;rw[<-hR];unfold Lz.inlineP at hR;clear h hE
 generalize Lz.noneM l=qn at cN hR;generalize Lz.allP kind l=qa at cA hR;generalize Lz.nonceP l nn.data.toList=qz at cZ hR;generalize Lz.hasK (Lz.listS l) Lz.hashesS=qk at cK hR;generalize Lz.hashP (Lz.sumD (digA tab tab2)) l tx.data.toList=qh at cH hR;obtain⟨e0,he0⟩:∃e0,e0=Lz.elemP kind:=⟨_,rfl⟩;rw[<-he0]at hR;have HR:=Ih hR;have HE0:Hid (e0=(kind==1||kind==4)):=Ih he0;clear hR he0;go_enter Tryz.func10,Tryz.ntmps10
 go_upto_region 1 with fail
 go_cut [9] (fun s wx=>s=.bool e0/\w=wx)
 case first=>
  by_cases h1:kind=1
  ·have HQ:Hid (e0=true):=by show _=_;rw[HE0.out,h1];rfl
   subst h1
   go_wp2_with fail
   go_meet;exact⟨by rw[HQ.out],rfl⟩
  ·go_wp2_with fail
   go_meet;exact⟨by rw[HE0.out],rfl⟩
 case rest=>
 obtain⟨rfl,rfl⟩:=hcut;by_cases hk1:kind<1
 ·have HF:Hid (R=false):=by show _=_;rw[HR.out,if_pos (Or.inl hk1)]
  go_wp2_with fail
  go_ret;exact⟨by rw[HF.out];rfl,Below.refl _ _⟩
 ·by_cases hk5:5<kind
  ·have HF:Hid (R=false):=by show _=_;rw[HR.out,if_pos (Or.inr (Or.inl hk5))]
   go_wp2_with fail
   go_ret;exact⟨by rw[HF.out];rfl,Below.refl _ _⟩
  ·cases qn with
   | true=>
     have HF:Hid (R=false):=by show _=_;rw[HR.out,if_pos (Or.inr (Or.inr rfl))]
     go_wp2_with fail
     refine cN.out.mono ?_;rintro e w1 ⟨rfl,hb1⟩
     go_wp2_with fail
     go_ret;exact⟨by rw[HF.out];rfl,hb1⟩
   | false=>
     have HR2:Hid (R=if(qa||(e0&&qz))=true then true else(e0||qk)&&qh):=by
      show _=_;rw[HR.out,if_neg (by rintro(h|h|h);exact hk1 h;exact hk5 h;cases h)]
     go_wp2_with fail
     refine cN.out.mono ?_;rintro e w1 ⟨rfl,hb1⟩
     go_wp2_with fail
     refine(cA.out w1 hb1).mono ?_;rintro e w2 ⟨rfl,hb2⟩;replace hb2:=below_call hb1 hb2;cases qa with
     | true=>
       have HF:Hid (R=true):=by show _=_;rw[HR2.out];rfl
       go_wp2_with fail
       go_ret;exact⟨by rw[HF.out];rfl,hb2⟩
     | false=>
       cases e0 with
       | true=>
         go_wp2_with fail
         refine(cZ.out w2 hb2).mono ?_;rintro e w3 ⟨rfl,hb3⟩;replace hb3:=below_call hb2 hb3;cases qz with
         | true=>
           have HF:Hid (R=true):=by show _=_;rw[HR2.out];rfl
           go_wp2_with fail
           go_ret;exact⟨by rw[HF.out];rfl,hb3⟩
         | false=>
           have HF:Hid (R=qh):=by show _=_;rw[HR2.out];rfl
           go_wp2_with fail
           refine(cH.out w3 hb3).mono ?_;rintro e w4 ⟨rfl,hb4⟩
           go_wp2_with fail
           go_ret;exact⟨by rw[HF.out];rfl,below_call hb3 hb4⟩
       | false=>
         go_wp2_with fail
         refine(cL.out w2 hb2).mono ?_;rintro e w3 ⟨sv,ys,rfl,hys,hso,hb3⟩;replace hb3:=below_call hb2 hb3;have hsa:=SrcsOwn.at hso
         go_wp2_with fail
         refine(cK.out w3 _ ys hsa hys.out).mono ?_;rintro e w4 ⟨rfl,hb4⟩;replace hb4:=below_call hb3 hb4;cases qk with
         | true=>
           have HF:Hid (R=qh):=by show _=_;rw[HR2.out];rfl
           go_wp2_with fail
           refine(cH.out w4 hb4).mono ?_;rintro e w5 ⟨rfl,hb5⟩
           go_wp2_with fail
           go_ret;exact⟨by rw[HF.out];rfl,below_call hb4 hb5⟩
         | false=>
           have HF:Hid (R=false):=by show _=_;rw[HR2.out];rfl
           go_wp2_with fail
           go_ret;exact⟨by rw[HF.out];rfl,hb4⟩
end Go.Proofs.YtjhccadmmnjpeaaGreatDoor
