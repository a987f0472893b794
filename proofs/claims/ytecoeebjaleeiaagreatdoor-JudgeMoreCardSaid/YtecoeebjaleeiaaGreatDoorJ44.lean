/-
  judge.Ask. Conditions: as for judge.Fails; at most 100 policies.
-/
import Derived.Test.YtecoeebjaleeiaaGreatDoorJ42
set_option maxHeartbeats 4000000
set_option maxRecDepth 100000
namespace Go.Proofs.YtecoeebjaleeiaaGreatDoor
open Go.RowKit
attribute [local go_sem ↓] Go.wp_at_zero Go.wp_at_succ
theorem I0:(Tryz.prog.info? 46).map (fun i=>(i.zero,i.size,i.bytes))=some (some (.agg #[.int .i64 0,.int .i64 0,.string ⟨#[]⟩,.bool false]),4,40):=by kernel_rfl
def ec (w:World) (B:Nat) (v:Value) (ys:List bJ):Prop:=w.ownsRow B 46 4 v ys.length (ys.flatMap bJ.row)
theorem MN (ys:List bJ):∀(j:Nat) (y:bJ),ys[j]? =some y->∀k u,y.row[k]? =some u->(ys.flatMap bJ.row)[j*4+k]? =some u:=by
 induction ys with
 | nil=>intro j d h;simp at h
 | cons x r ih=>
   intro j d h k u hk;have hk4:k<4:=(List.getElem?_eq_some_iff.1 hk).1;cases j with
   | zero=>obtain rfl:x=d:=by simpa using h
           rw[List.flatMap_cons,List.getElem?_append_left (by show 0*4+k<4;omega),Nat.zero_mul,Nat.zero_add];exact hk
   | succ j=>
     rw[List.flatMap_cons,List.getElem?_append_right (by show 4<=_;omega),show(j+1)*4+k-x.row.length=j*4+k by show(j+1)*4+k-4=_;omega];exact ih j d (by simpa using h) k u hk
theorem ec.at {w:World} {B:Nat} {v:Value} {ys:List bJ} (h:ec w B v ys):j8 w v ys:=by
 rcases h.2 with⟨rfl,h0⟩|⟨g,cap,dB,rfl,hgb,hg,hn,gL,iZ,gH⟩
 ·have:ys=[]:=List.eq_nil_of_length_eq_zero h0;subst this;exact⟨none,0,rfl,fun j d hd=>by simp at hd⟩
 ·refine⟨some ⟨g,0,none⟩,cap,rfl,fun j d hj=>⟨g,0,rfl,fun k u hk=>?_⟩⟩;have e:=World.ownsRow.cells h (g:=g) rfl _ _ (MN ys j d hj k u hk);rw[bV]at e;rw[Nat.zero_add];exact e
structure pC (k:Nat) (x:bh) (W0:World) (mk:Int) (dr:ByteArray) (ov:Value) (vs:List bJ) (V:World):Prop where
 row:V.heap[k]? =some (.cells #[.int .i64 x.kind,.int .i64 x.node,.string x.attr,.string x.url,.string x.text,.string x.nonce,.string x.integ,.int .i64 mk,.string dr] 37 (0,0))
 own:ec V W0.heap.size ov vs
 below:Below k W0 V
 lt:k<W0.heap.size
theorem pC.call {k:Nat} {x:bh} {W0 V V':World} {mk:Int} {dr:ByteArray} {ov:Value} {vs:List bJ} (h:pC k x W0 mk dr ov vs V) (hb:Below V.heap.size V V'):pC k x W0 mk dr ov vs V':=
 ⟨(hb.block _ (af h.row)).trans h.row,bH h.own hb,h.below.trans (hb.mono (Nat.le_of_lt (af h.row))),h.lt⟩
theorem pC.mark {k:Nat} {x:bh} {W0 V:World} {mk:Int} {dr:ByteArray} {ov:Value} {vs:List bJ} (h:pC k x W0 mk dr ov vs V) (m:Int):pC k x W0 m dr ov vs (V.setCell ⟨k,7,none⟩ (.int .i64 m)):=
 ⟨g9 h.row 7 _ rfl,h.own.kept (bS V ⟨k,7,none⟩ _) (.inr (fun e=>by have:=(World.ownsRow.lt h.own k e).1;have:=h.lt;omega)),h.below.setCell (p:=⟨k,7,none⟩) (Nat.le_refl _) _,h.lt⟩
theorem pC.dir {k:Nat} {x:bh} {W0 V:World} {mk:Int} {dr:ByteArray} {ov:Value} {vs:List bJ} (h:pC k x W0 mk dr ov vs V) (d:ByteArray):pC k x W0 mk d ov vs (V.setCell ⟨k,8,none⟩ (.string d)):=
 ⟨g9 h.row 8 _ rfl,h.own.kept (bS V ⟨k,8,none⟩ _) (.inr (fun e=>by have:=(World.ownsRow.lt h.own k e).1;have:=h.lt;omega)),h.below.setCell (p:=⟨k,8,none⟩) (Nat.le_refl _) _,h.lt⟩
theorem pC.snoc {k:Nat} {x:bh} {W0 V V':World} {mk:Int} {dr:ByteArray} {ov ov':Value} {vs:List bJ} {o:Obj} {y:bJ} (h:pC k x W0 mk dr ov vs V) (au:V'.ownsRow W0.heap.size 46 4 ov' (vs.length+1) (vs.flatMap bJ.row++bJ.row y)) (hg:(V.alloc o).grownBy V' ov.ownBlock):pC k x W0 mk dr ov' (vs++[y]) V':=by
 have aV:=h.lt;have hkV:=af h.row;refine⟨?_,?_,Below.grown1 h.below h.own hg (by omega) (by omega),aV⟩
 ·rw[hg.block k (by simp;omega) (fun e=>by have:=(World.ownsRow.lt h.own k e.symm).1;omega),Below.heap_alloc _ _ _ hkV];exact h.row
 ·unfold ec;rw[List.length_append,List.flatMap_append];simpa using au
theorem pC.other {k b:Nat} {x:bh} {W0 V V':World} {mk:Int} {dr:ByteArray} {ov:Value} {vs:List bJ} {o:Obj} {C:Array Value} {T:TypeId} (h:pC k x W0 mk dr ov vs V) (hg:(V.alloc o).grownBy V' ov.ownBlock) (hC:V.heap[b]? =some (.cells C T (0,0))) (hT:T≠46):V'.heap[b]? =some (.cells C T (0,0)):=by
 have hb:=af hC;have hC':(V.alloc o).heap[b]? =some (.cells C T (0,0)):=by rw[Below.heap_alloc _ _ _ hb];exact hC
 rw[hg.block b (af hC') (fun e=>?_)]
 ·exact hC'
 ·rcases(World.ownsRow.alloc h.own o).2 with⟨rfl,_⟩|⟨g,cap,dB,rfl,_,h2,_⟩
  ·cases e
  ·cases e;rw[hC']at h2;injection h2 with h2
   injection h2 with _ h2 _
   exact hT h2
def sF (place:Int) (v:Lz.uT):Int×Int×List UInt8×Bool:=(place,(v.pol:Int),v.dir,v.rep)
def QI (place:Int) (x:bh) (l:List Lz.uT) (w:World) (e:Ending) (w':World):Prop:=∃(mk:Int) (dr:ByteArray) (ov:Value) (B:Nat) (vs:List bJ),e=.returned (.tuple #[.agg #[.int .i64 x.kind,.int .i64 x.node,.string x.attr,.string x.url,.string x.text,.string x.nonce,.string x.integ,.int .i64 mk,.string dr],ov])/\Hid ((mk,dr.data.toList)=Lz.dj l)/\Hid (vs.map bJ.src=l.map (sF place))/\ec w' B ov vs/\Below w.heap.size w w'
structure Dn (V:World) (B:Nat) (X:Array Value) (C Z:Array Value):Prop where
 x:V.heap[B]? =some (.cells X 27 (0,0))
 u:V.heap[B+1]? =some (.cells C 32 (0,0))
 z:V.heap[B+2]? =some (.cells Z 37 (0,0))
theorem Dn.below {V W:World} {B k:Nat} {X C Z:Array Value} (h:Dn V B X C Z) (hb:Below k V W) (hk:B+3<=k):Dn W B X C Z:=
 ⟨(hb.block _ (by omega)).trans h.x,(hb.block _ (by omega)).trans h.u,(hb.block _ (by omega)).trans h.z⟩
theorem Lh (w:World) (X C Z:Array Value):Dn (((w.alloc (.cells X 27)).alloc (.cells C 32)).alloc (.cells Z 37)) w.heap.size X C Z/\Below w.heap.size w (((w.alloc (.cells X 27)).alloc (.cells C 32)).alloc (.cells Z 37))/\(((w.alloc (.cells X 27)).alloc (.cells C 32)).alloc (.cells Z 37)).heap.size=w.heap.size+3:=by
 have h1:=ah w (.cells X 27);have h2:=dm w (.cells X 27) (.cells C 32);refine⟨⟨?_,?_,?_⟩,(((Below.refl _ w).alloc (Nat.le_refl _) _).alloc (by simp) _).alloc (by simp;omega) _,by simp⟩
 ·rw[Below.heap_alloc _ _ _ (by simp;omega),Below.heap_alloc _ _ _ (by simp)];exact h1
 ·rw[Below.heap_alloc _ _ _ (by simp)];exact h2
 ·have:=dm (w.alloc (.cells X 27)) (.cells C 32) (.cells Z 37)
  rwa [show(w.alloc (.cells X 27)).heap.size=w.heap.size+1 by simp]at this
abbrev ks:Array Value:= #[.int .i64 0,.int .i64 0,.string ⟨#[]⟩,.string ⟨#[]⟩,.string ⟨#[]⟩,.string ⟨#[]⟩,.string ⟨#[]⟩,.int .i64 0,.string ⟨#[]⟩]
theorem Al {f:Lz.kW->Option (List UInt8)} {l:List Lz.kW} {j:Nat} {p:Lz.kW} (h:l[j]? =some p):Lz.bt f 0 (l.take (j+1))=Lz.bt f 0 (l.take j)++(match f p with|some d=>[⟨j,d,p.rep⟩]|none=>[]):=by
 have hj:=(List.getElem?_eq_some_iff.1 h).1;rw[List.take_add_one,h,Lz.oG,List.length_take,Nat.min_eq_left (Nat.le_of_lt hj),Nat.zero_add];congr 1
theorem xI:(Tryz.prog.info? 37).map (·.size)=some 9:=by kernel_rfl
theorem B7 (bi:List UInt32) (aY:List UInt64) (lv:Value) (ps:List aE) (x:bh) (ov:Value) (own:Lz.ag) (place:Int) (w:World) (hE:mG bi aY w) (h:eW w lv ps) (hS:∀p∈ps,dO (p.ds.map aD.src)) (hn:ps.length<=100) (oW:Ik x.kind) (ht:x.text.size<=1000000) (hs:x.integ.size<=100000) (ho:aX w ov own) (hO:UOk own):Calls Tryz.prog 9 #[lv,x.val,ov,.int .i64 place] w (QI place x (Lz.bt (fun p=>Lz.dH (Lz.gK (fC bi aY)) Lz.aG p.list x.src own) 0 (ps.map aE.src)) w):=by
 obtain⟨i0,hi,fI,ei,eM⟩:=info_parts I0;obtain⟨gG,jQ,jm,eA,dN,jw,jP,a2,n2,c2,bQ,ee,jN,jF,rfl,_,_,_,_,_,je⟩:=ho.letters;obtain⟨la,lc,rfl,iB⟩:=h;obtain⟨n,Fa⟩:∃n,n=ps.length:=⟨_,rfl⟩;rw[<-Fa]at hn⊢;have HN:=Ih Fa;obtain⟨hA,P0,Pj⟩:=Lh w x.row #[.string gG,.string jQ,.string jm,.bool eA,.string dN,.int .i64 jw,.bool jP,.slice a2 n2 c2,.bool bQ,.bool ee,.string jN,.string jF] ks;obtain⟨WA,hWA⟩:∃WA,WA=((w.alloc (.cells x.row 27)).alloc (.cells #[.string gG,.string jQ,.string jm,.bool eA,.string dN,.int .i64 jw,.bool jP,.slice a2 n2 c2,.bool bQ,.bool ee,.string jN,.string jF] 32)).alloc (.cells ks 37):=⟨_,rfl⟩;rw[<-hWA]at hA P0 Pj;obtain⟨f,hf⟩:∃f,f=fun p:Lz.kW=>Lz.dH (Lz.gK (fC bi aY)) Lz.aG p.list x.src own:=⟨_,rfl⟩
 have cF:Hid (∀p∈ps,∀V,Below w.heap.size w V->Calls Tryz.prog 11 #[p.val,x.val,.agg #[.string gG,.string jQ,.string jm,.bool eA,.string dN,.int .i64 jw,.bool jP,.slice a2 n2 c2,.bool bQ,.bool ee,.string jN,.string jF]] V (BD (f p.src) V)):=Ih (fun p hp V hV=>by
  obtain⟨j,hj⟩:=List.getElem?_of_mem hp;obtain⟨g,off,_,mR⟩:=iB j p hj;rw[hf];exact sR bi aY p x _ own V (hE.below hV) ((mR.2.2).below hV) (hS p hp) oW ht hs (je.below hV) hO)
 rw[<-hf];have HX:=Ih iB;have HWA:=Ih hWA;obtain⟨xk,xn,xa,xu,xt,xc,xi⟩:=x;obtain⟨k0,k1,k2,k3,k4,k5,k6⟩:=bn hA.x
 dsimp only[bh.val,bh.row]at *
 clear oW Fa hWA hf iB hE hS ht hs ho je hO;go_enter Tryz.func9,Tryz.ntmps9
 go_upto_region 1 with fail
 rw[<-HWA.out];obtain⟨W0,Ii⟩:∃W0,W0=WA.alloc (.cells #[.int .i64 xk,.int .i64 xn,.string xa,.string xu,.string xt,.string xc,.string xi,.int .i64 1,.string ⟨#[]⟩] 37):=⟨_,rfl⟩
 go_upto_region 3 with fail
 rw[<-Ii]
 have yx:pC (w.heap.size+3) ⟨xk,xn,xa,xu,xt,xc,xi⟩ W0 1 ⟨#[]⟩ (.slice none 0 0) [] W0:=by
  refine⟨?_,World.ownsRow_nil _ _ _ _,Below.refl _ _,?_⟩
  ·rw[Ii,<-Pj];exact ah _ _
  ·rw[Ii];simp[Pj]
 have e0:Below WA.heap.size WA W0:=by rw[Ii];exact(Below.refl _ WA).alloc (Nat.le_refl _) _
 have ku:=ac P0 e0;have Fy:Dn W0 w.heap.size #[.int .i64 xk,.int .i64 xn,.string xa,.string xu,.string xt,.string xc,.string xi] #[.string gG,.string jQ,.string jm,.bool eA,.string dN,.int .i64 jw,.bool jP,.slice a2 n2 c2,.bool bQ,.bool ee,.string jN,.string jF] ks:=hA.below e0 (by rw[Pj];exact Nat.le_refl _);have HA0:=Ih Fy;clear k0 k1 k2 k3 k4 k5 k6 Ii hA Fy e0 P0 Pj HWA
 go_wp2_with fail
 go_loopw [11,20] (fun o i wr=>∃(j:Nat) (mk:Int) (dr:ByteArray) (vs:List bJ),j<=n/\i=.int .i64 j/\vs.length<=j/\Hid ((mk,dr.data.toList)=Lz.dj (Lz.bt f 0 ((ps.map aE.src).take j)))/\Hid (vs.map bJ.src=(Lz.bt f 0 ((ps.map aE.src).take j)).map (sF place))/\pC (w.heap.size+3) ⟨xk,xn,xa,xu,xt,xc,xi⟩ W0 mk dr o vs wr) (fun _ i _=>n-(intOf i).toNat)
 case atStart=>exact⟨0,1,⟨#[]⟩,[],Nat.zero_le _,rfl,Nat.le_refl _,Ih rfl,Ih rfl,yx⟩
 case round=>
  clear yx;obtain⟨j,mk,dr,vs,hj,rfl,hvj,lp,yy,hK⟩:=hrel;by_cases aV:j<n
  ·have bW:(j:Int)<(n:Int):=by omega
   have tM:(0:Int)<=(j:Int):=by omega
   obtain⟨p,hp⟩:∃p,ps[j]? =some p:=⟨_,List.getElem?_eq_getElem (by rw[<-HN.out];exact aV)⟩;obtain⟨g,off,rfl,mR⟩:=HX.out j p hp;have aK:Below w.heap.size w wr:=ku.trans (hK.below.mono (by omega));have acb:=mR.below aK;have WX:=Ih (cF.out p (List.mem_of_getElem? hp));have hst:=Al (f:=f) (l:=ps.map aE.src) (j:=j) (p:=p.src) (by rw[List.getElem?_map,hp];rfl);obtain⟨fo,Xr⟩:∃fo,fo=f p.src:=⟨_,rfl⟩;rw[<-Xr]at WX hst;rw[show p.src.rep=p.rep from rfl]at hst;clear Xr;obtain⟨c0,c1,da,dc,Ma,_⟩:=acb;obtain⟨pv,ds,rep⟩:=p
   dsimp only at Ma c0 c1
   subst Ma;obtain⟨k0,k1,k2,k3,k4,k5,k6⟩:=bn (x:=⟨xk,xn,xa,xu,xt,xc,xi⟩) (HA0.out.below hK.below (Nat.le_refl _)).x;obtain⟨y0,y1,y2,y3,y4,y5,y6,y7,y8,y9,qU,qR⟩:=dW (HA0.out.below hK.below (Nat.le_refl _)).u
   dsimp only[aE.val]at WX k0 k1 k2 k3 k4 k5 k6
   have gM:=Ih hst;have HK:=Ih hK;clear hp mR hst hK
   go_upto_region 6 with fail
   obtain⟨V1,Fr⟩:∃V1,V1=wr.alloc (.cells #[.slice da ds.length dc,.bool rep] 25):=⟨_,rfl⟩;rw[<-Fr];have e1:Below wr.heap.size wr V1:=by rw[Fr];exact(Below.refl _ wr).alloc (Nat.le_refl _) _
   have r1:V1.heap[wr.heap.size]? =some (.cells #[.slice da ds.length dc,.bool rep] 25 (0,0)):=by rw[Fr];exact ah _ _
   have HK1:=Ih (HK.out.call e1);have aaD:=ac aK e1;have cF2:=Ih (WX.out V1 aaD);have hA1:=HA0.out.below HK1.out.below (Nat.le_refl _);have HR1:Hid (∀V,Below V1.heap.size V1 V->V.heap[wr.heap.size]? =some (.cells #[.slice da ds.length dc,.bool rep] 25 (0,0))):=Ih (fun V hV=>(hV.block _ (af r1)).trans r1);clear k0 k1 k2 k3 k4 k5 k6 y0 y1 y2 y3 y4 y5 y6 y7 y8 y9 qU qR c0 c1 Fr e1 HK WX;obtain⟨k0,k1,k2,k3,k4,k5,k6⟩:=bn (x:=⟨xk,xn,xa,xu,xt,xc,xi⟩) hA1.x;obtain⟨y0,y1,y2,y3,y4,y5,y6,y7,y8,y9,qU,qR⟩:=dW hA1.u;have c0:=rowAt r1 0 _ rfl;have c1:=rowAt r1 1 _ rfl
   dsimp only at k0 k1 k2 k3 k4 k5 k6
   clear hA1 r1
   go_wp2_with fail
   refine cF2.out.mono ?_;rintro e w2 ⟨nm,rfl,qO,az⟩;have XU:=Ih (HK1.out.call az);have ft:=ac aaD az;have q1:=rowAt (HR1.out w2 az) 1 _ rfl;clear k0 k1 k2 k3 k4 k5 k6 y0 y1 y2 y3 y4 y5 y6 y7 y8 y9 qU qR c0 c1 cF2 HK1;cases fo with
   | none=>
     have zv:Hid ((mk,dr.data.toList)=Lz.dj (Lz.bt f 0 ((ps.map aE.src).take (j+1)))):=Ih (by rw[gM.out,List.append_nil];exact lp.out);have pB:Hid (vs.map bJ.src=(Lz.bt f 0 ((ps.map aE.src).take (j+1))).map (sF place)):=Ih (by rw[gM.out,List.append_nil];exact yy.out);have hb:(none:Option (List UInt8)).isSome=false:=rfl;clear gM lp yy qO q1
     go_wp2_with fail
     go_roundw
     case rel=>exact⟨j+1,mk,dr,vs,by omega,by go_num,by omega,zv,pB,XU.out⟩
     case measure=>simp[intOf];omega
   | some d=>
     have PR:Hid (nm.data.toList=d):=qO;have hb:(some d:Option (List UInt8)).isSome=true:=rfl;obtain⟨y,hy⟩:∃y:bJ,y=⟨place,(j:Int),nm,rep⟩:=⟨_,rfl⟩;have dV:Hid (bJ.row y=[.int .i64 place,.int .i64 j,.string nm,.bool rep]):=Ih (by rw[hy];rfl);have pB:Hid ((vs++[y]).map bJ.src=(Lz.bt f 0 ((ps.map aE.src).take (j+1))).map (sF place)):=Ih (by rw[gM.out,List.map_append,List.map_append,yy.out,hy];simp only[List.map_cons,List.map_nil,bJ.src,sF,PR.out]);have zv:Hid (Lz.dj (Lz.bt f 0 ((ps.map aE.src).take (j+1)))=if rep=false/\mk≠2 then(2,nm.data.toList)else if rep=true/\mk=1 then(3,dr.data.toList)else(mk,dr.data.toList)):=Ih (by rw[gM.out,PR.out];show Lz.dj (_++[_])=_;rw[Lz.mV,<-lp.out];rfl);have ye:W0.heap.size<=w2.heap.size:=XU.out.below.size;clear hy gM lp yy qO
     go_wp2_with (at_builtin;refine wpList_append_own _ rfl (.tmp 34) (.tmp 41) 38 rfl W0.heap.size 46 i0 (.agg #[.int .i64 0,.int .i64 0,.string ⟨#[]⟩,.bool false]) 4 40 Tryz.underlying38 hi fI ei eM rfl (by decide) _ _ _ rfl (World.ownsRow.alloc XU.out.own _) ⟨w2.heap.size,0,none⟩ 1 1 (bJ.row y) rfl (by rw[dV.out];rfl) (by rw[dV.out];exact mC _ _ _) (by rw[dV.out];simp[Value.oneCell']) (by unfold maxLen;omega) (by omega) (by simp;omega) ?_)
     intro v5 w5 eL LX _;have TU:=Ih (XU.out.snoc eL LX);have q5:=rowAt (XU.out.other LX (HR1.out w2 az) (by decide)) 1 _ rfl;have m7:=rowAt TU.out.row 7 _ rfl
     have z7:w5.frozen? ⟨w.heap.size+3,7,none⟩=false:=by
      have:=TU.out.row
      simp[World.frozen?,this]
     have m8:=rowAt (TU.out.mark 2).row 8 _ rfl
     have z8:(w5.setCell ⟨w.heap.size+3,7,none⟩ (.int .i64 2)).frozen? ⟨w.heap.size+3,8,none⟩=false:=by
      have:=(TU.out.mark 2).row
      simp[World.frozen?,this]
     have Jy:(vs++[y]).length<=j+1:=by rw[List.length_append];simp;omega
     clear eL LX XU q1;cases rep with
     | false=>
       by_cases h2:mk=2
       ·have b2:(mk != 2)=false:=by rw[h2];rfl
        have HM:Hid ((mk,dr.data.toList)=Lz.dj (Lz.bt f 0 ((ps.map aE.src).take (j+1)))):=Ih (by rw[zv.out,if_neg (fun h=>h.2 h2),if_neg (fun h=>by cases h.1)]);clear h2 zv
        go_wp2_with fail
        go_roundw
        case rel=>exact⟨j+1,mk,dr,vs++[y],by omega,by go_num,Jy,HM,pB,TU.out⟩
        case measure=>simp[intOf];omega
       ·have b2:(mk != 2)=true:=bne_iff_ne.2 h2;have HM:Hid ((2,nm.data.toList)=Lz.dj (Lz.bt f 0 ((ps.map aE.src).take (j+1)))):=Ih (by rw[zv.out,if_pos ⟨rfl,h2⟩]);clear h2 zv
        go_wp2_with fail
        go_roundw
        case rel=>exact⟨j+1,2,nm,vs++[y],by omega,by go_num,Jy,HM,pB,(TU.out.mark 2).dir nm⟩
        case measure=>simp[intOf];omega
     | true=>
       by_cases h1:mk=1
       ·have b1:(mk==1)=true:=by rw[h1];rfl
        have HM:Hid ((3,dr.data.toList)=Lz.dj (Lz.bt f 0 ((ps.map aE.src).take (j+1)))):=Ih (by rw[zv.out,if_neg (fun h=>by cases h.1),if_pos ⟨rfl,h1⟩]);clear h1 zv
        go_wp2_with fail
        go_roundw
        case rel=>exact⟨j+1,3,dr,vs++[y],by omega,by go_num,Jy,HM,pB,TU.out.mark 3⟩
        case measure=>simp[intOf];omega
       ·have b1:(mk==1)=false:=beq_eq_false_iff_ne.2 h1;have HM:Hid ((mk,dr.data.toList)=Lz.dj (Lz.bt f 0 ((ps.map aE.src).take (j+1)))):=Ih (by rw[zv.out,if_neg (fun h=>by cases h.1),if_neg (fun h=>h1 h.2)]);clear h1 zv
        go_wp2_with fail
        go_roundw
        case rel=>exact⟨j+1,mk,dr,vs++[y],by omega,by go_num,Jy,HM,pB,TU.out⟩
        case measure=>simp[intOf];omega
  ·have bW:¬(j:Int)<(n:Int):=by omega
   have HT:Hid ((ps.map aE.src).take j=ps.map aE.src):=Ih (List.take_of_length_le (by rw[List.length_map,<-HN.out];omega));have HM:Hid ((mk,dr.data.toList)=Lz.dj (Lz.bt f 0 (ps.map aE.src))):=Ih (by rw[lp.out,HT.out]);have HS:Hid (vs.map bJ.src=(Lz.bt f 0 (ps.map aE.src)).map (sF place)):=Ih (by rw[yy.out,HT.out]);have hz:=(HA0.out.below hK.below (Nat.le_refl _)).z;have aK:Below w.heap.size w wr:=ku.trans (hK.below.mono (by omega));obtain⟨m0,m1,m2,m3,m4,m5,m6,m7,m8⟩:_/\_/\_/\_/\_/\_/\_/\_/\_:=⟨rowAt hK.row 0 _ rfl,rowAt hK.row 1 _ rfl,rowAt hK.row 2 _ rfl,rowAt hK.row 3 _ rfl,rowAt hK.row 4 _ rfl,rowAt hK.row 5 _ rfl,rowAt hK.row 6 _ rfl,rowAt hK.row 7 _ rfl,rowAt hK.row 8 _ rfl⟩
   dsimp only at m0 m1 m2 m3 m4 m5 m6
   have HK:=Ih hK;have HZ:=Ih hz;clear lp yy hK hz HT
   go_wp2_with (refine wpList_store_row rfl 37 (.tmp 8) (.tmp 65) rfl (w.heap.size+2) #[.int .i64 xk,.int .i64 xn,.string xa,.string xu,.string xt,.string xc,.string xi,.int .i64 mk,.string dr] rfl rfl 37 _ HZ.out xI rfl (by simp[Value.oneCell']) ?_)
   have lj:=setRow_heap (hg:=HZ.out) (cs:= #[.int .i64 xk,.int .i64 xn,.string xa,.string xu,.string xt,.string xc,.string xi,.int .i64 mk,.string dr]);refine bodyPost_ret (aW (P:=Tryz.prog) (u:=9) rfl _ _ (w.heap.size+2) 37 _ (0,0) _ rfl lj Tryz.underlying37 rfl xI) rfl ?_;refine⟨mk,dr,_,W0.heap.size,vs,rfl,HM,HS,?_,?_⟩
   ·exact HK.out.own.kept (fG wr _ _) (.inr (fun e=>by have:=(World.ownsRow.lt HK.out.own _ e).1;have:=HK.out.lt;omega))
   ·exact aH aK (by omega)
end Go.Proofs.YtecoeebjaleeiaaGreatDoor
