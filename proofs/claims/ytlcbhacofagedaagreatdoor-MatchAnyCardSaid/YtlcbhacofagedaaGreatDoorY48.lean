/-
  lazaretref26.Any.
-/
import Derived.Test.YtlcbhacofagedaaGreatDoorY47
set_option maxHeartbeats 8000000
set_option maxRecDepth 100000
namespace Go.Proofs.YtlcbhacofagedaaGreatDoor
open Go.RowKit
attribute [local go_sem ↓] Go.wp_at_zero Go.wp_at_succ
theorem IR (v:Value) (u:Lz.af) (lv:Value) (l:List (List UInt8)) (v2:Value) (own:Lz.af) (red:Bool) (w:World) (hE:mh w) (hv:bz w v u) (hU:UOk u) (gQ:bz w v2 own) (hO:UOk own) (hl:dy w lv l) (hL:l.length<=10000) (hZ:∀x,x∈l->x.length<=300):
  Calls Tryz.prog 7 #[v,lv,v2,.bool red] w (cn (Lz.anyM u l own red) w):=by
 obtain⟨aS,bW,bF,bG,bn,bA,bL,a1,n1,c1,bB,bK,bX,bY,rfl,_,_,_,_,_,hv⟩:=hv.letters;obtain⟨eL,gX,gV,fV,eA,gh,gZ,a2,n2,c2,bV,fW,gW,gY,rfl,_,_,_,_,_,gQ⟩:=gQ.letters;obtain⟨W,hW⟩:∃W,W=(w.alloc (.cells (C12 aS bW bF bG bn bA bL a1 n1 c1 bB bK bX bY) 26)).alloc (.cells (C12 eL gX gV fV eA gh gZ a2 n2 c2 bV fW gW gY) 26):=⟨_,rfl⟩;have bg:Below w.heap.size w W:=by rw[hW];exact((Below.refl _ w).alloc (Nat.le_refl _) _).alloc (by simp) _
 have ko:W.heap[w.heap.size]? =some (.cells (C12 aS bW bF bG bn bA bL a1 n1 c1 bB bK bX bY) 26 (0,0)):=by
  rw[hW,Below.heap_alloc _ _ _ (by simp)];exact aK _ _
 have td:W.heap[w.heap.size+1]? =some (.cells (C12 eL gX gV fV eA gh gZ a2 n2 c2 bV fW gW gY) 26 (0,0)):=by rw[hW];exact gr _ _ _
 obtain⟨R,hR⟩:∃R,R=Lz.anyM u l own red:=⟨_,rfl⟩;rw[<-hR];obtain⟨q,hq⟩:∃q,q=Lz.mq l:=⟨_,rfl⟩;have cN:Hid (Calls Tryz.prog 18 #[lv] W (cn q W)):=Ih (by rw[hq];exact En lv l W (hl.below bg) (fun x hx=>by have:=hZ x hx;omega));have cL:Hid (∀V,Below W.heap.size W V->Calls Tryz.prog 19 #[lv] V (Ia l V)):=Ih (fun V hV=>FC lv l V ((hE.below bg).below hV).s ((hl.below bg).below hV) hL (fun x hx=>by have:=hZ x hx;omega))
 have cO0:Hid (∀w6 (ys:List aq),Below W.heap.size W w6->Hid (ys.map aq.src=Lz.dW l)->∀x,x∈ys->∀V,Below w6.heap.size w6 V->Calls Tryz.prog 20 #[.agg (C12 aS bW bF bG bn bA bL a1 n1 c1 bB bK bX bY),x.val,.agg (C12 eL gX gV fV eA gh gZ a2 n2 c2 bV fW gW gY),.bool red] V fun e w'=>e=.returned (.bool (Lz.jr u x.src own red))/\Below w6.heap.size w6 w'):=Ih (by
  intro w6 ys h6 hy x hx V hV;have hw:Below w.heap.size w V:=bg.trans ((h6.trans (hV.mono h6.size)).mono bg.size);have hm:x.src∈Lz.dW l:=by rw[<-hy.out];exact List.mem_map.2 ⟨x,hx,rfl⟩
  unfold Lz.dW at hm;obtain⟨s,bn,eA⟩:=List.mem_filterMap.1 hm;have hf:=(Lz.X5 s x.src 300 eA (hZ s bn)).1;have e1:x.scheme.size<=1000:=by rw[<-aa];exact Nat.le_trans hf.fscheme (by omega)
  have e2:x.host.size<=1000:=by rw[<-aa];exact Nat.le_trans hf.fhost (by omega)
  have e3:x.path.size<=1000:=by rw[<-aa];exact Nat.le_trans hf.fpath (by omega)
  exact(IP _ u x _ own red V (hE.below hw).u (hv.below hw) hU ⟨by omega,by omega,by omega⟩ (by omega) (gQ.below hw) hO).mono fun e w' ⟨h1,h2⟩=>⟨h1,hV.trans (h2.mono hV.size)⟩)
 have HV:Hid (R=(!q&&(Lz.dW l).any fun x=>Lz.jr u x own red)):=by show _=_;rw[hR,hq];rfl
 have HW:=Ih hW;have HRU:=Ih ko;have HRO:=Ih td;clear hR hq hW ko td hE hv gQ hU hO hl hZ;go_enter Tryz.func7,Tryz.ntmps7
 go_upto_region 1 with fail
 rw[<-HW.out]
 go_wp2_with fail
 refine cN.out.mono ?_;rintro e w5 ⟨rfl,dB⟩;cases q with
 | true=>
   have HQ:Hid (R=false):=by show _=_;rw[HV.out];rfl
   go_wp2_with fail
   go_ret;exact⟨by rw[HQ.out];rfl,ac bg dB⟩
 | false=>
 go_wp2_with fail
 refine(cL.out _ dB).mono ?_;rintro e w6 ⟨sv,ys,rfl,jl,hso,kW⟩;have Gl:Below W.heap.size W w6:=ac dB kW
 have HQ:Hid (R=ys.any fun x=>Lz.jr u x.src own red):=by
  show _=_;rw[HV.out,<-jl.out,List.any_map];rfl
 have ZK:=Ih (cO0.out w6 ys Gl jl);obtain⟨a,c,rfl,hx⟩:=ed.at hso;obtain⟨n,hn⟩:∃n,n=ys.length:=⟨_,rfl⟩
 have hln:n<=10000:=by
  rw[hn,<-List.length_map (f:=aq.src),jl.out];have:=List.length_filterMap_le Lz.bR l;unfold Lz.dW;omega
 rw[<-hn];have HN:=Ih hn;have Hx:=Ih hx;have hw6:=ac bg Gl
 have HC0:Hid (∀V,Below w6.heap.size w6 V->S12 V (w.heap.size) aS bW bF bG bn bA bL a1 n1 c1 bB bK bX bY/\S12 V (w.heap.size+1) eL gX gV fV eA gh gZ a2 n2 c2 bV fW gW gY):=Ih (fun V hV=>by
  have h:=Gl.trans (hV.mono Gl.size);exact⟨fO ((h.block _ (aI HRU.out)).trans HRU.out),fO ((h.block _ (aI HRO.out)).trans HRO.out)⟩)
 clear hn hx HV cN cL cO0 hso jl HRU HRO HW dB kW
 go_wp2_with fail
 go_loopw [10] (fun i wr=>∃j:Nat,j<=n/\i=.int .i64 j/\Hid ((ys.take j).any (fun x=>Lz.jr u x.src own red)=false)/\Below w6.heap.size w6 wr) (fun i _=>n-(intOf i).toNat)
 case atStart=>exact⟨0,Nat.zero_le _,rfl,Ih (by simp),Below.refl _ _⟩
 case round=>
  obtain⟨j,hj,rfl,hT,bi⟩:=hrel;by_cases aN:j<n
  ·have dH:(j:Int)<(n:Int):=by omega
   have Aj:(0:Int)<=(j:Int):=by omega
   obtain⟨x,hx⟩:∃x,ys[j]? =some x:=⟨_,List.getElem?_eq_getElem (by rw[<-HN.out];exact aN)⟩;obtain⟨g,rfl,hg,hc⟩:=Hx.out j x hx;have VS:=List.mem_of_getElem? hx;have cO:=Ih (ZK.out x VS);have hst:(ys.take (j+1)).any (fun x=>Lz.jr u x.src own red)=Lz.jr u x.src own red:=by rw[List.take_add_one,hx,List.any_append,hT.out];simp
   have ey:Lz.jr u x.src own red=true->(ys.any fun x=>Lz.jr u x.src own red)=true:=fun h=>by rw[List.any_eq_true];exact⟨x,VS,h⟩
   obtain⟨k,t,b,sc,ho,wd,po,pa⟩:=x;have yB:∀V,Below w6.heap.size w6 V->∀(i:Nat) (y:Value),(aq.row ⟨k,t,b,sc,ho,wd,po,pa⟩)[i]? =some y->V.cell? ⟨g,j*8+i,none⟩=some y:=fun V hV i y hi=>by rw[hV.cell (p:=⟨g,j*8+i,none⟩) hg];exact hc i y hi
   have hC:Hid (∀V,Below w6.heap.size w6 V->S12 V (w.heap.size) aS bW bF bG bn bA bL a1 n1 c1 bB bK bX bY/\S12 V (w.heap.size+1) eL gX gV fV eA gh gZ a2 n2 c2 bV fW gW gY/\(V.cell? ⟨g,j*8,none⟩=some (.int .i64 k)/\V.cell? ⟨g,j*8+1,none⟩=some (.string t)/\V.cell? ⟨g,j*8+2,none⟩=some (.int .i64 b)/\V.cell? ⟨g,j*8+3,none⟩=some (.string sc)/\V.cell? ⟨g,j*8+4,none⟩=some (.string ho)/\V.cell? ⟨g,j*8+5,none⟩=some (.bool wd)/\V.cell? ⟨g,j*8+6,none⟩=some (.int .i64 po)/\V.cell? ⟨g,j*8+7,none⟩=some (.string pa))):=Ih (fun V hV=>⟨(HC0.out V hV).1,(HC0.out V hV).2,yB V hV 0 _ rfl,yB V hV 1 _ rfl,yB V hV 2 _ rfl,yB V hV 3 _ rfl,yB V hV 4 _ rfl,yB V hV 5 _ rfl,yB V hV 6 _ rfl,yB V hV 7 _ rfl⟩);have fG:Below w6.heap.size w6 wr.drew:=bi.drew;have fQ:=Ih hst;have fZ:=Ih ey
   dsimp only[aq.val]at cO
   clear hx hc yB hst ey hT VS hg;obtain⟨p,hp⟩:∃p,p=Lz.jr u (aq.src ⟨k,t,b,sc,ho,wd,po,pa⟩) own red:=⟨_,rfl⟩;rw[<-hp]at cO fQ fZ;clear hp;cases p with
   | true=>
     have HV:Hid (R=true):=by show _=_;rw[HQ.out];exact fZ.out rfl
     clear fQ fZ
     go_upto_region 7 with fail
     refine wp_region_held_drew (S:=fun V=>(S12 V (w.heap.size) aS bW bF bG bn bA bL a1 n1 c1 bB bK bX bY/\S12 V (w.heap.size+1) eL gX gV fV eA gh gZ a2 n2 c2 bV fW gW gY/\(V.cell? ⟨g,j*8,none⟩=some (.int .i64 k)/\V.cell? ⟨g,j*8+1,none⟩=some (.string t)/\V.cell? ⟨g,j*8+2,none⟩=some (.int .i64 b)/\V.cell? ⟨g,j*8+3,none⟩=some (.string sc)/\V.cell? ⟨g,j*8+4,none⟩=some (.string ho)/\V.cell? ⟨g,j*8+5,none⟩=some (.bool wd)/\V.cell? ⟨g,j*8+6,none⟩=some (.int .i64 po)/\V.cell? ⟨g,j*8+7,none⟩=some (.string pa)))/\Below w6.heap.size w6 V) (by kernel_rfl) ⟨hC.out _ fG,fG⟩ (fun ar=>?_);refine TkM 0 21 ?_;refine TkM 1 22 ?_;refine TkM 2 23 ?_;refine TkM 3 24 ?_;refine TkM 4 25 ?_;refine TkM 5 26 ?_;refine TkM 6 27 ?_;refine CkM 7 28 (cS cO hC) (fun V hV=>?_);refine wpAnyH_done (by kernel_rfl) ?_ _
     go_wp2_with fail
     go_ret;exact⟨by rw[HV.out];rfl,ac hw6 hV.2⟩
   | false=>
     clear fZ
     go_upto_region 7 with fail
     refine wp_region_held_drew (S:=fun V=>(S12 V (w.heap.size) aS bW bF bG bn bA bL a1 n1 c1 bB bK bX bY/\S12 V (w.heap.size+1) eL gX gV fV eA gh gZ a2 n2 c2 bV fW gW gY/\(V.cell? ⟨g,j*8,none⟩=some (.int .i64 k)/\V.cell? ⟨g,j*8+1,none⟩=some (.string t)/\V.cell? ⟨g,j*8+2,none⟩=some (.int .i64 b)/\V.cell? ⟨g,j*8+3,none⟩=some (.string sc)/\V.cell? ⟨g,j*8+4,none⟩=some (.string ho)/\V.cell? ⟨g,j*8+5,none⟩=some (.bool wd)/\V.cell? ⟨g,j*8+6,none⟩=some (.int .i64 po)/\V.cell? ⟨g,j*8+7,none⟩=some (.string pa)))/\Below w6.heap.size w6 V) (by kernel_rfl) ⟨hC.out _ fG,fG⟩ (fun ar=>?_);refine TkM 0 21 ?_;refine TkM 1 22 ?_;refine TkM 2 23 ?_;refine TkM 3 24 ?_;refine TkM 4 25 ?_;refine TkM 5 26 ?_;refine TkM 6 27 ?_;refine CkM 7 28 (cS cO hC) (fun V hV=>?_);refine wpAnyH_done (by kernel_rfl) ?_ _
     go_wp2_with fail
     go_roundw
     case rel=>exact⟨j+1,by omega,by go_num,Ih fQ.out,hV.2⟩
     case measure=>simp[intOf];omega
  ·have dH:¬(j:Int)<(n:Int):=by omega
   have HV:Hid (R=false):=by
    show _=_;rw[HQ.out,<-List.take_of_length_le (l:=ys) (i:=j) (by rw[<-HN.out];omega),hT.out]
   clear hT
   go_wp2_with fail
   go_ret;exact⟨by rw[HV.out];rfl,ac hw6 bi⟩
end Go.Proofs.YtlcbhacofagedaaGreatDoor
