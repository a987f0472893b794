/-
  Package allow: Fetch where a nonce is said, or strict-dynamic (match.Any isn't asked).
-/
import Derived.Test.YtibcmemcfjhgmaaGreatDoorV43
set_option maxHeartbeats 4000000
set_option maxRecDepth 100000
namespace Go.Proofs.YtibcmemcfjhgmaaGreatDoor
open Go.RowKit
attribute [local go_sem ↓] Go.wp_at_zero Go.wp_at_succ
theorem vD (v:Value) (l:List (List UInt8)) (uv:Value) (u:Lz.au) (ov:Value) (own:Lz.au) (nn s:ByteArray) (hs:s.size<=100000) (w:World) (hE:Env w) (h:bQ w v l) (hu:j4 w uv u) (ho:j4 w ov own) (hq:Lz.dQ l nn.data.toList=true\/Lz.lc (Lz.aM l) Lz.fW=true):Calls Tryz.prog 25 #[v,uv,ov,.string nn,.string s] w (a5 (Lz.oR Lz.cn l u own nn.data.toList s.data.toList) w):=by
 obtain⟨jK,px,kd,oK,iz,oJ,oL,a1,n1,c1,gF,jC,pC,py,rfl,_,_,_,_,_,hv⟩:=hu.letters;obtain⟨sc2,us2,pa2,hh2,GD,pr2,op2,a2,n2,c2,jr,AE,qr2,fr2,rfl,_,_,_,_,_,pE⟩:=ho.letters;obtain⟨W,hW⟩:∃W,W=(w.alloc (.cells #[.string jK,.string px,.string kd,.bool oK,.string iz,.int .i64 oJ,.bool oL,.slice a1 n1 c1,.bool gF,.bool jC,.string pC,.string py] 38)).alloc (.cells #[.string sc2,.string us2,.string pa2,.bool hh2,.string GD,.int .i64 pr2,.bool op2,.slice a2 n2 c2,.bool jr,.bool AE,.string qr2,.string fr2] 38):=⟨_,rfl⟩;have ja:Below w.heap.size w W:=by rw[hW];exact((Below.refl _ w).alloc (Nat.le_refl _) _).alloc (by simp) _
 have hRU:W.heap[w.heap.size]? =some (.cells #[.string jK,.string px,.string kd,.bool oK,.string iz,.int .i64 oJ,.bool oL,.slice a1 n1 c1,.bool gF,.bool jC,.string pC,.string py] 38 (0,0)):=by rw[hW,Below.heap_alloc _ _ _ (by simp)];exact an _ _
 have hRO:W.heap[w.heap.size+1]? =some (.cells #[.string sc2,.string us2,.string pa2,.bool hh2,.string GD,.int .i64 pr2,.bool op2,.slice a2 n2 c2,.bool jr,.bool AE,.string qr2,.string fr2] 38 (0,0)):=by rw[hW];exact lg _ _ _
 have cN:Hid (Calls Tryz.prog 26 #[v] W (a5 (Lz.eQ l) W)):=Ih (h.below ja).none;have cZ:Hid (∀V,Below W.heap.size W V->Calls Tryz.prog 13 #[v,.string nn] V (a5 (Lz.dQ l nn.data.toList) V)):=Ih (fun V hV=>oM v l nn V ((hE.below ja).below hV) ((h.below ja).below hV));have cI:Hid (∀V,Below W.heap.size W V->Calls Tryz.prog 56 #[v,.string s] V (a5 (Lz.fD Lz.cn l s.data.toList) V)):=Ih (fun V hV=>xd v l s hs V ((hE.below ja).below hV) ((h.below ja).below hV));have cL:Hid (∀V,Below W.heap.size W V->Calls Tryz.prog 28 #[v] V (BJ l V)):=Ih (fun V hV=>((h.below ja).below hV).list ((hE.below ja).below hV));have cK:Hid (∀V sv (ys:List ah),jd V sv ys->ys.map ah.src=Lz.aM l->Calls Tryz.prog 27 #[sv,.string tD] V (a5 (Lz.lc (Lz.aM l) Lz.fW) V)):=Ih (fun V sv ys hs hy=>by rw[<-hy];exact Aj sv ys tD V hs (h.ylen hy))
 have Wo:Hid (∀V,Below W.heap.size W V->V.heap[w.heap.size]? =some (.cells #[.string jK,.string px,.string kd,.bool oK,.string iz,.int .i64 oJ,.bool oL,.slice a1 n1 c1,.bool gF,.bool jC,.string pC,.string py] 38 (0,0))/\V.heap[w.heap.size+1]? =some (.cells #[.string sc2,.string us2,.string pa2,.bool hh2,.string GD,.int .i64 pr2,.bool op2,.slice a2 n2 c2,.bool jr,.bool AE,.string qr2,.string fr2] 38 (0,0))):=Ih (fun V hV=>⟨(hV.block _ (aZ hRU)).trans hRU,(hV.block _ (aZ hRO)).trans hRO⟩);obtain⟨R,hR⟩:∃R,R=Lz.oR Lz.cn l u own nn.data.toList s.data.toList:=⟨_,rfl⟩;rw[<-hR];unfold Lz.oR at hR;generalize Lz.eQ l=qn at cN hR;generalize Lz.dQ l nn.data.toList=qz at cZ hR hq;generalize Lz.fD Lz.cn l s.data.toList=qi at cI hR;generalize Lz.lc (Lz.aM l) Lz.fW=qk at cK hR hq;have HR:=Ih hR;have HW:=Ih hW;clear hR hW hRU hRO hE h hu ho hv pE;go_enter Tryz.func25,Tryz.ntmps25
 go_upto_region 1 with fail
 rw[<-HW.out];cases qn with
 | true=>
   have HF:Hid (R=false):=by show _=_;rw[HR.out];rfl
   go_wp2_with fail
   refine cN.out.mono ?_;rintro e w1 ⟨rfl,av⟩
   go_wp2_with fail
   go_ret;exact⟨by rw[HF.out];rfl,ae ja av⟩
 | false=>
   go_wp2_with fail
   refine cN.out.mono ?_;rintro e w1 ⟨rfl,av⟩
   go_wp2_with fail
   refine(cZ.out w1 av).mono ?_;rintro e w2 ⟨rfl,aE⟩;replace aE:=ae av aE;cases qz with
   | true=>
     have HF:Hid (R=true):=by show _=_;rw[HR.out];rfl
     go_wp2_with fail
     go_ret;exact⟨by rw[HF.out];rfl,ae ja aE⟩
   | false=>
     go_wp2_with fail
     refine(cI.out w2 aE).mono ?_;rintro e w3 ⟨rfl,bj⟩;replace bj:=ae aE bj;cases qi with
     | true=>
       have HF:Hid (R=true):=by show _=_;rw[HR.out];rfl
       go_wp2_with fail
       go_ret;exact⟨by rw[HF.out];rfl,ae ja bj⟩
     | false=>
       go_wp2_with fail
       refine(cL.out w3 bj).mono ?_;rintro e w4 ⟨sv,ys,rfl,gY,wK,eB⟩;replace eB:=ae bj eB;have KM:=bo.at wK
       go_wp2_with fail
       refine(cK.out w4 _ ys KM gY.out).mono ?_;rintro e w5 ⟨rfl,bv⟩;replace bv:=ae eB bv;cases qk with
       | true=>
         have HF:Hid (R=false):=by show _=_;rw[HR.out];rfl
         go_wp2_with fail
         go_ret;exact⟨by rw[HF.out];rfl,ae ja bv⟩
       | false=>simp at hq
end Go.Proofs.YtibcmemcfjhgmaaGreatDoor
