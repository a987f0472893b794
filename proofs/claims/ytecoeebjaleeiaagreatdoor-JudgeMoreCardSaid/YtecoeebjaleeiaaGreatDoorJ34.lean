/-
  slices.IndexFunc, slices.ContainsFunc at sources; package match: Any.
-/
import Derived.Test.YtecoeebjaleeiaaGreatDoorJ33
import Derived.Test.YtecoeebjaleeiaaGreatDoorJ31
set_option maxHeartbeats 4000000
set_option maxRecDepth 100000
namespace Go.Proofs.YtecoeebjaleeiaaGreatDoor
open Go.RowKit
attribute [local go_sem ↓] Go.wp_at_zero Go.wp_at_succ
theorem vw (x:ak):(ak.row x).length=8:=rfl
theorem S5:∀(ys:List ak) (j:Nat) (x:ak) (k:Nat),ys[j]? =some x->k<8->(ys.flatMap ak.row)[j*8+k]? =(ak.row x)[k]?
 | [],j,x,k,h,_=>by simp at h
 | y::r,0,x,k,h,hk=>by
   obtain rfl:y=x:=by simpa using h
   rw[List.flatMap_cons,List.getElem?_append_left (by rw[vw];omega),Nat.zero_mul,Nat.zero_add]
 | y::r,j+1,x,k,h,hk=>by
   have h':r[j]? =some x:=by simpa using h
   rw[List.flatMap_cons,List.getElem?_append_right (by rw[vw];omega),vw,show(j+1)*8+k-8=j*8+k by omega];exact S5 r j x k h' hk
def ik (w:World) (v:Value) (ys:List ak):Prop:=
 ∃(a:Option Addr) (c:Nat),v=.slice a ys.length c/\∀(j:Nat) (x:ak),ys[j]? =some x->∃g,a=some ⟨g,0,none⟩/\g<w.heap.size/\∀(k:Nat) (u:Value),(ak.row x)[k]? =some u->w.cell? ⟨g,j*8+k,none⟩=some u
theorem ik.below {w w':World} {v:Value} {ys:List ak} (h:ik w v ys) (hb:Below w.heap.size w w'):ik w' v ys:=by
 obtain⟨a,c,h1,h2⟩:=h;refine⟨a,c,h1,fun j x hj=>?_⟩;obtain⟨g,e1,e2,e3⟩:=h2 j x hj;exact⟨g,e1,Nat.lt_of_lt_of_le e2 hb.size,fun k u hk=>by rw[hb.cell (p:=⟨g,j*8+k,none⟩) e2];exact e3 k u hk⟩
theorem cn.at {w:World} {B:Nat} {v:Value} {ys:List ak} (h:cn w B v ys):ik w v ys:=by
 obtain⟨h1,h2⟩:=h;rcases h2 with⟨rfl,hn⟩|⟨g,cap,dB,rfl,hg,hh,hc,_,iZ,ht⟩
 ·have:ys=[]:=List.length_eq_zero_iff.1 hn;subst this;exact⟨none,0,rfl,fun j x hj=>by simp at hj⟩
 ·refine⟨some ⟨g,0,none⟩,cap,rfl,fun j x hj=>⟨g,rfl,af hh,fun k u hk=>?_⟩⟩;have hk8:k<8:=by rw[<-vw x];exact(List.getElem?_eq_some_iff.1 hk).1
  have nP:j<ys.length:=(List.getElem?_eq_some_iff.1 hj).1;have h3:=S5 ys j x k hj hk8;rw[hk,<-ht,List.getElem?_take_of_lt (by omega)]at h3;exact rowAt hh (j*8+k) u (by rw[<-Array.getElem?_toList];exact h3)
theorem wu (v:Value) (ys:List ak) (b0 b1 b2:Value) (p:ak->Bool) (w:World) (h:ik w v ys) (hL:ys.length<=100000)
  (hp:∀(W:World) (x:ak),x∈ys->Below w.heap.size w W->Calls Tryz.prog 119 #[x.val,b0,b1,b2] W fun e w'=>e=.returned (.bool (p x))/\Below w.heap.size w w'):
  Calls Tryz.prog 143 #[v,.func (.func 119) #[] #[b0,b1,b2]] w fun e w'=>∃r:Int,e=.returned (.int .i64 r)/\Hid (decide (0<=r)=ys.any p)/\Below w.heap.size w w':=by
 obtain⟨a,c,rfl,hx⟩:=h;have Hx:=Ih hx;have Hp:=Ih hp;obtain⟨n,hn⟩:∃n,n=ys.length:=⟨_,rfl⟩;rw[<-hn];rw[<-hn]at hL;have HN:=Ih hn;clear hx hp hn;go_enter Tryz.func143,Tryz.ntmps143
 go_wp2_with fail
 go_loopw [8] (fun i wr=>∃j:Nat,j<=n/\i=.int .i64 j/\Hid ((ys.take j).any p=false)/\Below w.heap.size w wr) (fun i _=>n-(intOf i).toNat)
 case atStart=>exact⟨0,Nat.zero_le _,rfl,Ih (by simp),Below.refl _ _⟩
 case round=>
  obtain⟨j,hj,rfl,hT,aK⟩:=hrel;by_cases aV:j<n
  ·have bW:(j:Int)<(n:Int):=by omega
   have tM:(0:Int)<=(j:Int):=by omega
   obtain⟨x,hx⟩:∃x,ys[j]? =some x:=⟨_,List.getElem?_eq_getElem (by rw[<-HN.out];exact aV)⟩;obtain⟨g,rfl,hg,hc⟩:=Hx.out j x hx;have mT:∀(k:Nat) (u:Value),(ak.row x)[k]? =some u->wr.cell? ⟨g,j*8+k,none⟩=some u:=fun k u hk=>by rw[aK.cell (p:=⟨g,j*8+k,none⟩) hg];exact hc k u hk
   have cP:=Ih (Hp.out wr x (List.mem_of_getElem? hx) aK);have hst:(ys.take (j+1)).any p=p x:=by rw[List.take_add_one,hx,List.any_append,hT.out];simp
   have fq:p x=true->ys.any p=true:=fun h=>by rw[List.any_eq_true];exact⟨x,List.mem_of_getElem? hx,h⟩
   obtain⟨k,t,b,sc,ho,wd,po,pa⟩:=x;have c0:=mT 0 _ rfl;have c1:=mT 1 _ rfl;have c2:=mT 2 _ rfl;have c3:=mT 3 _ rfl;have c4:=mT 4 _ rfl;have c5:=mT 5 _ rfl;have c6:=mT 6 _ rfl;have c7:=mT 7 _ rfl;have gM:=Ih hst;have ll:=Ih fq;clear hx hc mT hst fq hT
   dsimp only at c0 c1 c2 c3 c4 c5 c6 c7
   rw[Nat.add_zero]at c0
   dsimp only[ak.val]at cP
   cases tH:p (ak.mk k t b sc ho wd po pa)with
   | true=>
     rw[tH]at cP;have HV:Hid (decide ((0:Int)<=(j:Int))=ys.any p):=by show _=_;rw[ll.out tH];exact decide_eq_true tM
     clear tH gM ll
     go_wp2_with fail
     refine cP.out.mono ?_;rintro e w5 ⟨rfl,aI⟩
     go_wp2_with fail
     go_ret;exact⟨_,rfl,HV,aI⟩
   | false=>
     rw[tH]at cP;have HS:Hid ((ys.take (j+1)).any p=false):=by show _=_;rw[gM.out,tH]
     clear tH gM ll
     go_wp2_with fail
     refine cP.out.mono ?_;rintro e w5 ⟨rfl,aI⟩
     go_wp2_with fail
     go_roundw
     case rel=>exact⟨j+1,by omega,by go_num,HS,aI⟩
     case measure=>simp[intOf];omega
  ·have bW:¬(j:Int)<(n:Int):=by omega
   have HV:Hid (decide ((0:Int)<= -1)=ys.any p):=by
    show _=_;rw[<-List.take_of_length_le (l:=ys) (i:=j) (by rw[<-HN.out];omega),hT.out];rfl
   clear hT
   go_wp2_with fail
   go_ret;exact⟨-1,rfl,HV,aK⟩
theorem rI (v:Value) (ys:List ak) (b0 b1 b2:Value) (p:ak->Bool) (w:World) (h:ik w v ys) (hL:ys.length<=100000)
  (hp:∀(W:World) (x:ak),x∈ys->Below w.heap.size w W->Calls Tryz.prog 119 #[x.val,b0,b1,b2] W fun e w'=>e=.returned (.bool (p x))/\Below w.heap.size w w'):
  Calls Tryz.prog 111 #[v,.func (.func 119) #[] #[b0,b1,b2]] w (aC (ys.any p) w):=by
 have cI:=Ih (wu v ys b0 b1 b2 p w h hL hp);clear h hp;go_enter Tryz.func111,Tryz.ntmps111
 go_wp2_with fail
 refine cI.out.mono ?_;rintro e w5 ⟨r,rfl,hr,aI⟩
 go_wp2_with fail
 go_ret;exact⟨by rw[<-hr.out];rfl,aI⟩
theorem MD (x:ak) (r0 r1 r2:Nat) (v:Value) (u:Lz.ag) (v2:Value) (own:Lz.ag) (red:Bool) (cs1 LY:Array Value) (iD:v=.agg cs1) (su:v2=.agg LY) (W:World) (pG:W.heap[r0]? =some (.cells cs1 32 (0,0))) (lk:W.heap[r1]? =some (.cells LY 32 (0,0))) (nO:W.cell? ⟨r2,0,none⟩=some (.bool red))
  (hE:rk W) (hv:aX W v u) (hU:UOk u) (hX:SOk x) (je:aX W v2 own) (hO:UOk own):
  Calls Tryz.prog 119 #[x.val,.pointer (some ⟨r0,0,none⟩),.pointer (some ⟨r1,0,none⟩),.pointer (some ⟨r2,0,none⟩)] W (aC (Lz.xA u x.src own red) W):=by
 obtain⟨bo,cw,ck,cv,aU,cf,cq,a1,n1,c1,bO,bU,cz,de,rfl,_,_,_,_,_,hv⟩:=hv.letters;obtain⟨gG,jQ,jm,eA,dN,jw,jP,a2,n2,c2,bQ,ee,jN,jF,rfl,_,_,_,_,_,je⟩:=je.letters;obtain rfl:=(Value.agg.inj iD).symm;obtain rfl:=(Value.agg.inj su).symm;obtain⟨k,t,b,sc,ho,wd,po,pa⟩:=x;obtain⟨V,hV⟩:∃V,V=W.alloc (.cells #[.int .i64 k,.string t,.int .i64 b,.string sc,.string ho,.bool wd,.int .i64 po,.string pa] 174):=⟨_,rfl⟩;have eE:Below W.heap.size W V:=by rw[hV];exact(Below.refl _ W).alloc (Nat.le_refl _) _
 have hB:V.heap[W.heap.size]? =some (.cells #[.int .i64 k,.string t,.int .i64 b,.string sc,.string ho,.bool wd,.int .i64 po,.string pa] 174 (0,0)):=by rw[hV];exact ah _ _
 have cO:=Ih (M2 _ u ⟨k,t,b,sc,ho,wd,po,pa⟩ _ own red V (hE.below eE) (hv.below eE) hU hX (je.below eE) hO);obtain⟨x0,x1,x2,x3,x4,x5,x6,x7,x8,x9,nA,nB⟩:=dW ((eE.block _ (af pG)).trans pG);obtain⟨y0,y1,y2,y3,y4,y5,y6,y7,y8,y9,qU,qR⟩:=dW ((eE.block _ (af lk)).trans lk);obtain⟨z0,z1,z2,z3,z4,z5,z6,z7⟩:=tW hB;have bB:V.cell? ⟨r2,0,none⟩=some (.bool red):=by rw[eE.cell (p:=⟨r2,0,none⟩) (World.block_lt_of_cell? _ _ nO)];exact nO
 dsimp only[ak.val]at cO⊢
 have HV:=Ih hV;clear hV hE hv je hU hX hO pG lk nO hB iD su;go_enter Tryz.func119,Tryz.ntmps119
 go_upto_region 1 with fail
 rw[<-HV.out]
 go_wp2_with fail
 refine cO.out.mono ?_;rintro e w5 ⟨rfl,aI⟩
 go_wp2_with fail
 go_ret;exact⟨rfl,ac eE aI⟩
theorem CL (v:Value) (u:Lz.ag) (lv:Value) (l:List (List UInt8)) (v2:Value) (own:Lz.ag) (red:Bool) (w:World) (hE:rk w) (hv:aX w v u) (hU:UOk u) (je:aX w v2 own) (hO:UOk own) (hl:bd w lv l) (hL:l.length<=10000) (hZ:∀x,x∈l->x.length<=90000):
  Calls Tryz.prog 78 #[v,lv,v2,.bool red] w (aC (Lz.anyM u l own red) w):=by
 obtain⟨bo,cw,ck,cv,aU,cf,cq,a1,n1,c1,bO,bU,cz,de,rfl,_,_,_,_,_,hv⟩:=hv.letters;obtain⟨gG,jQ,jm,eA,dN,jw,jP,a2,n2,c2,bQ,ee,jN,jF,rfl,_,_,_,_,_,je⟩:=je.letters;obtain⟨W,hW⟩:∃W,W=((w.alloc (.cells #[.string bo,.string cw,.string ck,.bool cv,.string aU,.int .i64 cf,.bool cq,.slice a1 n1 c1,.bool bO,.bool bU,.string cz,.string de] 32)).alloc (.cells #[.string gG,.string jQ,.string jm,.bool eA,.string dN,.int .i64 jw,.bool jP,.slice a2 n2 c2,.bool bQ,.bool ee,.string jN,.string jF] 32)).alloc (.cells #[.bool red] 4):=⟨_,rfl⟩;have aS:Below w.heap.size w W:=by rw[hW];exact(((Below.refl _ w).alloc (Nat.le_refl _) _).alloc (by simp) _).alloc (by simp;omega) _
 have sj:W.heap[w.heap.size]? =some (.cells #[.string bo,.string cw,.string ck,.bool cv,.string aU,.int .i64 cf,.bool cq,.slice a1 n1 c1,.bool bO,.bool bU,.string cz,.string de] 32 (0,0)):=by
  rw[hW,Below.heap_alloc _ _ _ (by simp;omega),Below.heap_alloc _ _ _ (by simp)];exact ah _ _
 have Cy:W.heap[w.heap.size+1]? =some (.cells #[.string gG,.string jQ,.string jm,.bool eA,.string dN,.int .i64 jw,.bool jP,.slice a2 n2 c2,.bool bQ,.bool ee,.string jN,.string jF] 32 (0,0)):=by
  rw[hW,Below.heap_alloc _ _ _ (by simp)];exact dm _ _ _
 have hRB:W.heap[w.heap.size+1+1]? =some (.cells #[.bool red] 4 (0,0)):=by
  rw[hW];have:=ah ((w.alloc (.cells #[.string bo,.string cw,.string ck,.bool cv,.string aU,.int .i64 cf,.bool cq,.slice a1 n1 c1,.bool bO,.bool bU,.string cz,.string de] 32)).alloc (.cells #[.string gG,.string jQ,.string jm,.bool eA,.string dN,.int .i64 jw,.bool jP,.slice a2 n2 c2,.bool bQ,.bool ee,.string jN,.string jF] 32)) (.cells #[.bool red] 4);simpa using this
 obtain⟨R,hR⟩:∃R,R=Lz.anyM u l own red:=⟨_,rfl⟩;rw[<-hR];obtain⟨q,hq⟩:∃q,q=Lz.jf l:=⟨_,rfl⟩;have Ft:∀x,x∈l->x.length<=1000000:=fun x hx=>by have:=hZ x hx;omega
 have cN:Hid (Calls Tryz.prog 71 #[lv] W (aC q W)):=Ih (by rw[hq];exact zI lv l W (hl.below aS) (by omega) (fun x hx=>by have:=hZ x hx;omega));have cL:Hid (∀V,Below W.heap.size W V->Calls Tryz.prog 75 #[lv] V (Du l V)):=Ih (fun V hV=>DL lv l V ((hE.below aS).below hV).s ((hl.below aS).below hV) hL Ft)
 have cC:Hid (∀V (sv:Value) (ys:List ak),Below W.heap.size W V->ik V sv ys->Hid (ys.map ak.src=Lz.bF l)->Calls Tryz.prog 111 #[sv,.func (.func 119) #[] #[.pointer (some ⟨w.heap.size,0,none⟩),.pointer (some ⟨w.heap.size+1,0,none⟩),.pointer (some ⟨w.heap.size+1+1,0,none⟩)]] V (aC ((Lz.bF l).any fun x=>Lz.xA u x own red) V)):=Ih (by
  intro V sv ys hV hs hy
  have ba:ys.length<=100000:=by
   rw[<-List.length_map (f:=ak.src),hy.out];have:=List.length_filterMap_le Lz.ez l;unfold Lz.bF;omega
  have h:=rI sv ys (.pointer (some ⟨w.heap.size,0,none⟩)) (.pointer (some ⟨w.heap.size+1,0,none⟩)) (.pointer (some ⟨w.heap.size+1+1,0,none⟩)) (fun x=>Lz.xA u x.src own red) V hs ba (by
   intro V2 x hx X5;have pH:Below W.heap.size W V2:=hV.trans (X5.mono hV.size);have uM:Below w.heap.size w V2:=aS.trans (pH.mono aS.size)
   have hX:SOk x:=by
    have hm:x.src∈Lz.bF l:=by rw[<-hy.out];exact List.mem_map.2 ⟨x,hx,rfl⟩
    unfold Lz.bF at hm;obtain⟨s,aU,dN⟩:=List.mem_filterMap.1 hm;have hf:=(Lz.VB s x.src 90000 dN (hZ s aU)).1;refine⟨?_,?_,?_⟩
    ·rw[<-aa];exact Nat.le_trans hf.fscheme (by omega)
    ·rw[<-aa];exact hf.fhost
    ·rw[<-aa];exact Nat.le_trans hf.fpath (by omega)
   refine(MD x w.heap.size (w.heap.size+1) (w.heap.size+1+1) _ u _ own red _ _ rfl rfl V2 ((pH.block _ (af sj)).trans sj) ((pH.block _ (af Cy)).trans Cy) ?_ (hE.below uM) (hv.below uM) hU hX (je.below uM) hO).mono fun e w' ⟨h1,h2⟩=>⟨h1,X5.trans (h2.mono X5.size)⟩;rw[pH.cell (p:=⟨w.heap.size+1+1,0,none⟩) (af hRB)];exact rowAt hRB 0 (.bool red) rfl)
  have he:ys.any (fun x=>Lz.xA u x.src own red)=(Lz.bF l).any fun x=>Lz.xA u x own red:=by
   rw[<-hy.out,List.any_map];rfl
  rw[he]at h;exact h)
 have HV:Hid (R=(!q&&(Lz.bF l).any fun x=>Lz.xA u x own red)):=by show _=_;rw[hR,hq];rfl
 obtain⟨q2,Lq⟩:∃q2,q2=(Lz.bF l).any fun x=>Lz.xA u x own red:=⟨_,rfl⟩;rw[<-Lq]at cC HV;have HW:=Ih hW;clear hR hq Lq hW sj Cy hRB hE hv je hU hO hl hZ Ft;cases q with
 | true=>
   have HQ:Hid (R=false):=by show _=_;rw[HV.out];rfl
   go_enter Tryz.func78,Tryz.ntmps78
   go_upto_region 1 with fail
   rw[<-HW.out]
   go_wp2_with fail
   refine cN.out.mono ?_;rintro e w5 ⟨rfl,aI⟩
   go_wp2_with fail
   go_ret;exact⟨by rw[HQ.out];rfl,ac aS aI⟩
 | false=>
   have HQ:Hid (R=q2):=by show _=_;rw[HV.out];rfl
   go_enter Tryz.func78,Tryz.ntmps78
   go_upto_region 1 with fail
   rw[<-HW.out]
   go_wp2_with fail
   refine cN.out.mono ?_;rintro e w5 ⟨rfl,aI⟩
   go_wp2_with fail
   refine(cL.out _ aI).mono ?_;rintro e w6 ⟨sv,ys,rfl,jV,Io,fX⟩;have Z5:Below W.heap.size W w6:=ac aI fX;have yk:=cn.at Io
   go_wp2_with fail
   refine(cC.out w6 _ ys Z5 yk jV).mono ?_;rintro e w7 ⟨rfl,kJ⟩
   go_wp2_with fail
   go_ret;exact⟨by rw[HQ.out];rfl,ac (ac aS Z5) kJ⟩
end Go.Proofs.YtecoeebjaleeiaaGreatDoor
