/-
  slices.IndexFunc, slices.ContainsFunc at sources; package match: Any.
-/
import Derived.Test.YtjhccadmmnjpeaaGreatDoorT40
import Derived.Test.YtjhccadmmnjpeaaGreatDoorT38
set_option maxHeartbeats 4000000
set_option maxRecDepth 100000
namespace Go.Proofs.YtjhccadmmnjpeaaGreatDoor
open Go.RowKit
attribute [local go_sem ↓] Go.wp_at_zero Go.wp_at_succ
theorem row_len (x:SrcB):(SrcB.row x).length=8:=rfl
theorem flat8:∀(ys:List SrcB) (j:Nat) (x:SrcB) (k:Nat),ys[j]? =some x->k<8->(ys.flatMap SrcB.row)[j*8+k]? =(SrcB.row x)[k]?
 | [],j,x,k,h,_=>by simp at h
 | y::r,0,x,k,h,hk=>by
   obtain rfl:y=x:=by simpa using h
   rw[List.flatMap_cons,List.getElem?_append_left (by rw[row_len];omega),Nat.zero_mul,Nat.zero_add]
 | y::r,j+1,x,k,h,hk=>by
   have h':r[j]? =some x:=by simpa using h
   rw[List.flatMap_cons,List.getElem?_append_right (by rw[row_len];omega),row_len,show(j+1)*8+k-8=j*8+k by omega];exact flat8 r j x k h' hk
def SrcsAt (w:World) (v:Value) (ys:List SrcB):Prop:=
 ∃(a:Option Addr) (c:Nat),v=.slice a ys.length c/\∀(j:Nat) (x:SrcB),ys[j]? =some x->∃g,a=some ⟨g,0,none⟩/\g<w.heap.size/\∀(k:Nat) (u:Value),(SrcB.row x)[k]? =some u->w.cell? ⟨g,j*8+k,none⟩=some u
theorem SrcsAt.below {w w':World} {v:Value} {ys:List SrcB} (h:SrcsAt w v ys) (hb:Below w.heap.size w w'):SrcsAt w' v ys:=by
 obtain⟨a,c,h1,h2⟩:=h;refine⟨a,c,h1,fun j x hj=>?_⟩;obtain⟨g,e1,e2,e3⟩:=h2 j x hj;exact⟨g,e1,Nat.lt_of_lt_of_le e2 hb.size,fun k u hk=>by rw[hb.cell (p:=⟨g,j*8+k,none⟩) e2];exact e3 k u hk⟩
theorem SrcsOwn.at {w:World} {B:Nat} {v:Value} {ys:List SrcB} (h:SrcsOwn w B v ys):SrcsAt w v ys:=by
 obtain⟨h1,h2⟩:=h;rcases h2 with⟨rfl,hn⟩|⟨g,cap,cur,rfl,hg,hh,hc,_,hcs,ht⟩
 ·have:ys=[]:=List.length_eq_zero_iff.1 hn;subst this;exact⟨none,0,rfl,fun j x hj=>by simp at hj⟩
 ·refine⟨some ⟨g,0,none⟩,cap,rfl,fun j x hj=>⟨g,rfl,row_lt hh,fun k u hk=>?_⟩⟩;have hk8:k<8:=by rw[<-row_len x];exact(List.getElem?_eq_some_iff.1 hk).1
  have hjl:j<ys.length:=(List.getElem?_eq_some_iff.1 hj).1;have h3:=flat8 ys j x k hj hk8;rw[hk,<-ht,List.getElem?_take_of_lt (by omega)]at h3;exact rowAt hh (j*8+k) u (by rw[<-Array.getElem?_toList];exact h3)
theorem IndexFuncS_any (v:Value) (ys:List SrcB) (b0 b1 b2:Value) (p:SrcB->Bool) (w:World) (h:SrcsAt w v ys) (hL:ys.length<=100000)
  (hp:∀(W:World) (x:SrcB),x∈ys->Below w.heap.size w W->Calls Tryz.prog 75 #[x.val,b0,b1,b2] W fun e w'=>e=.returned (.bool (p x))/\Below w.heap.size w w'):
  Calls Tryz.prog 52 #[v,.func (.func 75) #[] #[b0,b1,b2]] w fun e w'=>∃r:Int,e=.returned (.int .i64 r)/\Hid (decide (0<=r)=ys.any p)/\Below w.heap.size w w':=by
 obtain⟨a,c,rfl,hx⟩:=h;have Hx:=Ih hx;have Hp:=Ih hp;obtain⟨n,hn⟩:∃n,n=ys.length:=⟨_,rfl⟩;rw[<-hn];rw[<-hn]at hL;have HN:=Ih hn;clear hx hp hn;go_enter Tryz.func52,Tryz.ntmps52
 go_wp2_with fail
 go_loopw [8] (fun i wr=>∃j:Nat,j<=n/\i=.int .i64 j/\Hid ((ys.take j).any p=false)/\Below w.heap.size w wr) (fun i _=>n-(intOf i).toNat)
 case atStart=>exact⟨0,Nat.zero_le _,rfl,Ih (by simp),Below.refl _ _⟩
 case round=>
  obtain⟨j,hj,rfl,hT,hbw⟩:=hrel;by_cases hlt:j<n
  ·have hltI:(j:Int)<(n:Int):=by omega
   have hj0:(0:Int)<=(j:Int):=by omega
   obtain⟨x,hx⟩:∃x,ys[j]? =some x:=⟨_,List.getElem?_eq_getElem (by rw[<-HN.out];exact hlt)⟩;obtain⟨g,rfl,hg,hc⟩:=Hx.out j x hx;have hcw:∀(k:Nat) (u:Value),(SrcB.row x)[k]? =some u->wr.cell? ⟨g,j*8+k,none⟩=some u:=fun k u hk=>by rw[hbw.cell (p:=⟨g,j*8+k,none⟩) hg];exact hc k u hk
   have cP:=Ih (Hp.out wr x (List.mem_of_getElem? hx) hbw);have hst:(ys.take (j+1)).any p=p x:=by rw[List.take_add_one,hx,List.any_append,hT.out];simp
   have hall:p x=true->ys.any p=true:=fun h=>by rw[List.any_eq_true];exact⟨x,List.mem_of_getElem? hx,h⟩
   obtain⟨k,t,b,sc,ho,wd,po,pa⟩:=x;have c0:=hcw 0 _ rfl;have c1:=hcw 1 _ rfl;have c2:=hcw 2 _ rfl;have c3:=hcw 3 _ rfl;have c4:=hcw 4 _ rfl;have c5:=hcw 5 _ rfl;have c6:=hcw 6 _ rfl;have c7:=hcw 7 _ rfl;have Hst:=Ih hst;have Hall:=Ih hall;clear hx hc hcw hst hall hT
   dsimp only at c0 c1 c2 c3 c4 c5 c6 c7
   rw[Nat.add_zero]at c0
   dsimp only[SrcB.val]at cP
   cases hpx:p (SrcB.mk k t b sc ho wd po pa)with
   | true=>
     rw[hpx]at cP;have HV:Hid (decide ((0:Int)<=(j:Int))=ys.any p):=by show _=_;rw[Hall.out hpx];exact decide_eq_true hj0
     clear hpx Hst Hall
     go_wp2_with fail
     refine cP.out.mono ?_;rintro e w5 ⟨rfl,hb5⟩
     go_wp2_with fail
     go_ret;exact⟨_,rfl,HV,hb5⟩
   | false=>
     rw[hpx]at cP;have HS:Hid ((ys.take (j+1)).any p=false):=by show _=_;rw[Hst.out,hpx]
     clear hpx Hst Hall
     go_wp2_with fail
     refine cP.out.mono ?_;rintro e w5 ⟨rfl,hb5⟩
     go_wp2_with fail
     go_roundw
     case rel=>exact⟨j+1,by omega,by go_num,HS,hb5⟩
     case measure=>simp[intOf];omega
  ·have hltI:¬(j:Int)<(n:Int):=by omega
   have HV:Hid (decide ((0:Int)<= -1)=ys.any p):=by
    show _=_;rw[<-List.take_of_length_le (l:=ys) (i:=j) (by rw[<-HN.out];omega),hT.out];rfl
   clear hT
   go_wp2_with fail
   go_ret;exact⟨-1,rfl,HV,hbw⟩
theorem ContainsFuncS_any (v:Value) (ys:List SrcB) (b0 b1 b2:Value) (p:SrcB->Bool) (w:World) (h:SrcsAt w v ys) (hL:ys.length<=100000)
  (hp:∀(W:World) (x:SrcB),x∈ys->Below w.heap.size w W->Calls Tryz.prog 75 #[x.val,b0,b1,b2] W fun e w'=>e=.returned (.bool (p x))/\Below w.heap.size w w'):
  Calls Tryz.prog 29 #[v,.func (.func 75) #[] #[b0,b1,b2]] w (RBool (ys.any p) w):=by
 have cI:=Ih (IndexFuncS_any v ys b0 b1 b2 p w h hL hp);clear h hp;go_enter Tryz.func29,Tryz.ntmps29
 go_wp2_with fail
 refine cI.out.mono ?_;rintro e w5 ⟨r,rfl,hr,hb5⟩
 go_wp2_with fail
 go_ret;exact⟨by rw[<-hr.out];rfl,hb5⟩
theorem Any1_any (x:SrcB) (r0 r1 r2:Nat) (v:Value) (u:Lz.UrlL) (v2:Value) (own:Lz.UrlL) (red:Bool) (cs1 cs2:Array Value) (hc1:v=.agg cs1) (hc2:v2=.agg cs2) (W:World) (hR0:W.heap[r0]? =some (.cells cs1 36 (0,0))) (hR1:W.heap[r1]? =some (.cells cs2 36 (0,0))) (hR2:W.cell? ⟨r2,0,none⟩=some (.bool red))
  (hE:EnvM W) (hv:UrlVal W v u) (hU:UOk u) (hX:SOk x) (hv2:UrlVal W v2 own) (hO:UOk own):
  Calls Tryz.prog 75 #[x.val,.pointer (some ⟨r0,0,none⟩),.pointer (some ⟨r1,0,none⟩),.pointer (some ⟨r2,0,none⟩)] W (RBool (Lz.oneM u x.src own red) W):=by
 obtain⟨sc1,us1,pa1,hh1,hs1,pr1,op1,a1,n1,c1,hq1,hf1,qr1,fr1,rfl,_,_,_,_,_,hv⟩:=hv.letters;obtain⟨sc2,us2,pa2,hh2,hs2,pr2,op2,a2,n2,c2,hq2,hf2,qr2,fr2,rfl,_,_,_,_,_,hv2⟩:=hv2.letters;obtain rfl:=(Value.agg.inj hc1).symm;obtain rfl:=(Value.agg.inj hc2).symm;obtain⟨k,t,b,sc,ho,wd,po,pa⟩:=x;obtain⟨V,hV⟩:∃V,V=W.alloc (.cells #[.int .i64 k,.string t,.int .i64 b,.string sc,.string ho,.bool wd,.int .i64 po,.string pa] 47):=⟨_,rfl⟩;have hbV:Below W.heap.size W V:=by rw[hV];exact(Below.refl _ W).alloc (Nat.le_refl _) _
 have hB:V.heap[W.heap.size]? =some (.cells #[.int .i64 k,.string t,.int .i64 b,.string sc,.string ho,.bool wd,.int .i64 po,.string pa] 47 (0,0)):=by rw[hV];exact heap_new _ _
 have cO:=Ih (OneM_any _ u ⟨k,t,b,sc,ho,wd,po,pa⟩ _ own red V (hE.below hbV) (hv.below hbV) hU hX (hv2.below hbV) hO);obtain⟨x0,x1,x2,x3,x4,x5,x6,x7,x8,x9,x10,x11⟩:=row12 ((hbV.block _ (row_lt hR0)).trans hR0);obtain⟨y0,y1,y2,y3,y4,y5,y6,y7,y8,y9,y10,y11⟩:=row12 ((hbV.block _ (row_lt hR1)).trans hR1);obtain⟨z0,z1,z2,z3,z4,z5,z6,z7⟩:=row8c hB;have hr2:V.cell? ⟨r2,0,none⟩=some (.bool red):=by rw[hbV.cell (p:=⟨r2,0,none⟩) (World.block_lt_of_cell? _ _ hR2)];exact hR2
 dsimp only[SrcB.val]at cO⊢
 have HV:=Ih hV;clear hV hE hv hv2 hU hX hO hR0 hR1 hR2 hB hc1 hc2;go_enter Tryz.func75,Tryz.ntmps75
 go_upto_region 1 with fail
 rw[<-HV.out]
 go_wp2_with fail
 refine cO.out.mono ?_;rintro e w5 ⟨rfl,hb5⟩
 go_wp2_with fail
 go_ret;exact⟨rfl,below_call hbV hb5⟩
theorem AnyM_any (v:Value) (u:Lz.UrlL) (lv:Value) (l:List (List UInt8)) (v2:Value) (own:Lz.UrlL) (red:Bool) (w:World) (hE:EnvM w) (hv:UrlVal w v u) (hU:UOk u) (hv2:UrlVal w v2 own) (hO:UOk own) (hl:PathAt w lv l) (hL:l.length<=10000) (hZ:∀x,x∈l->x.length<=90000):
  Calls Tryz.prog 47 #[v,lv,v2,.bool red] w (RBool (Lz.anyM u l own red) w):=by
 obtain⟨sc1,us1,pa1,hh1,hs1,pr1,op1,a1,n1,c1,hq1,hf1,qr1,fr1,rfl,_,_,_,_,_,hv⟩:=hv.letters;obtain⟨sc2,us2,pa2,hh2,hs2,pr2,op2,a2,n2,c2,hq2,hf2,qr2,fr2,rfl,_,_,_,_,_,hv2⟩:=hv2.letters;obtain⟨W,hW⟩:∃W,W=((w.alloc (.cells #[.string sc1,.string us1,.string pa1,.bool hh1,.string hs1,.int .i64 pr1,.bool op1,.slice a1 n1 c1,.bool hq1,.bool hf1,.string qr1,.string fr1] 36)).alloc (.cells #[.string sc2,.string us2,.string pa2,.bool hh2,.string hs2,.int .i64 pr2,.bool op2,.slice a2 n2 c2,.bool hq2,.bool hf2,.string qr2,.string fr2] 36)).alloc (.cells #[.bool red] 4):=⟨_,rfl⟩;have hbW:Below w.heap.size w W:=by rw[hW];exact(((Below.refl _ w).alloc (Nat.le_refl _) _).alloc (by simp) _).alloc (by simp;omega) _
 have hRU:W.heap[w.heap.size]? =some (.cells #[.string sc1,.string us1,.string pa1,.bool hh1,.string hs1,.int .i64 pr1,.bool op1,.slice a1 n1 c1,.bool hq1,.bool hf1,.string qr1,.string fr1] 36 (0,0)):=by
  rw[hW,Below.heap_alloc _ _ _ (by simp;omega),Below.heap_alloc _ _ _ (by simp)];exact heap_new _ _
 have hRO:W.heap[w.heap.size+1]? =some (.cells #[.string sc2,.string us2,.string pa2,.bool hh2,.string hs2,.int .i64 pr2,.bool op2,.slice a2 n2 c2,.bool hq2,.bool hf2,.string qr2,.string fr2] 36 (0,0)):=by
  rw[hW,Below.heap_alloc _ _ _ (by simp)];exact heap_new2 _ _ _
 have hRB:W.heap[w.heap.size+1+1]? =some (.cells #[.bool red] 4 (0,0)):=by
  rw[hW];have:=heap_new ((w.alloc (.cells #[.string sc1,.string us1,.string pa1,.bool hh1,.string hs1,.int .i64 pr1,.bool op1,.slice a1 n1 c1,.bool hq1,.bool hf1,.string qr1,.string fr1] 36)).alloc (.cells #[.string sc2,.string us2,.string pa2,.bool hh2,.string hs2,.int .i64 pr2,.bool op2,.slice a2 n2 c2,.bool hq2,.bool hf2,.string qr2,.string fr2] 36)) (.cells #[.bool red] 4);simpa using this
 obtain⟨R,hR⟩:∃R,R=Lz.anyM u l own red:=⟨_,rfl⟩;rw[<-hR];obtain⟨q,hq⟩:∃q,q=Lz.noneM l:=⟨_,rfl⟩;have hZ2:∀x,x∈l->x.length<=1000000:=fun x hx=>by have:=hZ x hx;omega
 have cN:Hid (Calls Tryz.prog 22 #[lv] W (RBool q W)):=Ih (by rw[hq];exact NoneM_any lv l W (hl.below hbW) (by omega) (fun x hx=>by have:=hZ x hx;omega));have cL:Hid (∀V,Below W.heap.size W V->Calls Tryz.prog 24 #[lv] V (RList l V)):=Ih (fun V hV=>List_any lv l V ((hE.below hbW).below hV).s ((hl.below hbW).below hV) hL hZ2)
 have cC:Hid (∀V (sv:Value) (ys:List SrcB),Below W.heap.size W V->SrcsAt V sv ys->Hid (ys.map SrcB.src=Lz.listS l)->Calls Tryz.prog 29 #[sv,.func (.func 75) #[] #[.pointer (some ⟨w.heap.size,0,none⟩),.pointer (some ⟨w.heap.size+1,0,none⟩),.pointer (some ⟨w.heap.size+1+1,0,none⟩)]] V (RBool ((Lz.listS l).any fun x=>Lz.oneM u x own red) V)):=Ih (by
  intro V sv ys hV hs hy
  have hlen:ys.length<=100000:=by
   rw[<-List.length_map (f:=SrcB.src),hy.out];have:=List.length_filterMap_le Lz.parseS l;unfold Lz.listS;omega
  have h:=ContainsFuncS_any sv ys (.pointer (some ⟨w.heap.size,0,none⟩)) (.pointer (some ⟨w.heap.size+1,0,none⟩)) (.pointer (some ⟨w.heap.size+1+1,0,none⟩)) (fun x=>Lz.oneM u x.src own red) V hs hlen (by
   intro V2 x hx hV2;have hW2:Below W.heap.size W V2:=hV.trans (hV2.mono hV.size);have hw2:Below w.heap.size w V2:=hbW.trans (hW2.mono hbW.size)
   have hX:SOk x:=by
    have hm:x.src∈Lz.listS l:=by rw[<-hy.out];exact List.mem_map.2 ⟨x,hx,rfl⟩
    unfold Lz.listS at hm;obtain⟨s,hs1,hs2⟩:=List.mem_filterMap.1 hm;have hf:=(Lz.fits s x.src 90000 hs2 (hZ s hs1)).1;refine⟨?_,?_,?_⟩
    ·rw[<-len_of_size];exact Nat.le_trans hf.fscheme (by omega)
    ·rw[<-len_of_size];exact hf.fhost
    ·rw[<-len_of_size];exact Nat.le_trans hf.fpath (by omega)
   refine(Any1_any x w.heap.size (w.heap.size+1) (w.heap.size+1+1) _ u _ own red _ _ rfl rfl V2 ((hW2.block _ (row_lt hRU)).trans hRU) ((hW2.block _ (row_lt hRO)).trans hRO) ?_ (hE.below hw2) (hv.below hw2) hU hX (hv2.below hw2) hO).mono fun e w' ⟨h1,h2⟩=>⟨h1,hV2.trans (h2.mono hV2.size)⟩;rw[hW2.cell (p:=⟨w.heap.size+1+1,0,none⟩) (row_lt hRB)];exact rowAt hRB 0 (.bool red) rfl)
  have he:ys.any (fun x=>Lz.oneM u x.src own red)=(Lz.listS l).any fun x=>Lz.oneM u x own red:=by
   rw[<-hy.out,List.any_map];rfl
  rw[he]at h;exact h)
 have HV:Hid (R=(!q&&(Lz.listS l).any fun x=>Lz.oneM u x own red)):=by show _=_;rw[hR,hq];rfl
 obtain⟨q2,hq2'⟩:∃q2,q2=(Lz.listS l).any fun x=>Lz.oneM u x own red:=⟨_,rfl⟩;rw[<-hq2']at cC HV;have HW:=Ih hW;clear hR hq hq2' hW hRU hRO hRB hE hv hv2 hU hO hl hZ hZ2;cases q with
 | true=>
   have HQ:Hid (R=false):=by show _=_;rw[HV.out];rfl
   go_enter Tryz.func47,Tryz.ntmps47
   go_upto_region 1 with fail
   rw[<-HW.out]
   go_wp2_with fail
   refine cN.out.mono ?_;rintro e w5 ⟨rfl,hb5⟩
   go_wp2_with fail
   go_ret;exact⟨by rw[HQ.out];rfl,below_call hbW hb5⟩
 | false=>
   have HQ:Hid (R=q2):=by show _=_;rw[HV.out];rfl
   go_enter Tryz.func47,Tryz.ntmps47
   go_upto_region 1 with fail
   rw[<-HW.out]
   go_wp2_with fail
   refine cN.out.mono ?_;rintro e w5 ⟨rfl,hb5⟩
   go_wp2_with fail
   refine(cL.out _ hb5).mono ?_;rintro e w6 ⟨sv,ys,rfl,hys,hso,hb6⟩;have hb6':Below W.heap.size W w6:=below_call hb5 hb6;have hsa:=SrcsOwn.at hso
   go_wp2_with fail
   refine(cC.out w6 _ ys hb6' hsa hys).mono ?_;rintro e w7 ⟨rfl,hb7⟩
   go_wp2_with fail
   go_ret;exact⟨by rw[HQ.out];rfl,below_call (below_call hbW hb6') hb7⟩
end Go.Proofs.YtjhccadmmnjpeaaGreatDoor
