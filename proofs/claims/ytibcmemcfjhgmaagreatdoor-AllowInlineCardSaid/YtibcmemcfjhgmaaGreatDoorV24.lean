/-
  lazaretref04.Sum: its code's regions 26 and 30, over a frame that is a letter.
-/
import Derived.Test.YtibcmemcfjhgmaaGreatDoorV19
set_option maxHeartbeats 4000000
set_option maxRecDepth 100000
namespace Go.Proofs.YtibcmemcfjhgmaaGreatDoor
open Go.RowKit
attribute [local go_sem ↓] Go.wp_at_zero Go.wp_at_succ
def dn2:Code->Code| .seq _ y=>y|c=>c
def dn1:Code->Code| .seq x _=>x|c=>c
def dnb:Code->Code| .block _ c=>c|c=>c
def dnl:Code->Code| .loop c=>c|c=>c
def dno:Option Code->Code|some c=>c|none=>.skip
def Fb (b:Option Code):Code:=dnl (dnb (dn2 (dn1 (dn2 (dn2 (dn2 (dn2 (dn2 (dn2 (dn2 (dno b)))))))))))
def uh (b:Option Code):Code:=dnb (dn1 (dn2 (Fb b)))
def uV (b:Option Code):Code:=dnl (dnb (dn2 (dn1 (dn2 (uh b)))))
def xR (b:Option Code):Code:=dnb (dn1 (dn2 (uV b)))
theorem aw {P:Program} {c:Code} {Q:Exit->Act->World->Prop} {a:Act} {w:World} (h:∀A:Act,A=a->c.wp P Q A w):c.wp P Q a w:=h a rfl
theorem ag {A:Act} {k:Nat} {v:Value} (h:A.tmps[k]? =some v):∃hk:k<A.tmps.size,A.tmps[k]=v:=Array.getElem?_eq_some_iff.1 h
theorem mx {w:World} {o:Oper} {a:Act} {K:Act->World->Prop} {Q:Exit->Act->World->Prop} (s x:Operand)
  (ho:o.op=.call {callee:=.builtin .append,args:= #[s,x],argTypes:= #[162,162]}) (Oj:o.type=162) (dst:Option Nat) (hd:o.dst=dst) (base:Nat) (v:Value) (xs:List UInt32) (hs:a.eval s=v) (ai:bZ w base v xs) (Bm:Nat) (c:Nat) (y:UInt32) (hx:a.eval x=.slice (some ⟨Bm,0,none⟩) 1 c) (hp:w.cell? ⟨Bm,0,none⟩=some (.int .u32 (N32 y)))
  (hL:xs.length<=1000000) (fk:base<=w.heap.size)
  (h:∀v' w',bZ w' base v' (xs++[y])->w.grownBy w' v.ownBlock->K (a.put dst v') w'):Oper.wp Tryz.prog o a w K Q:=by
 obtain⟨i0,hi,eZ,d9,eo⟩:=info_parts Au
 obtain⟨v',w',hr,h2,h3,h4,h5⟩:=run_append_own_at (P:=Tryz.prog) w base 162 162 123 i0 (.int .u32 0) 1 4 Tryz.underlying162 hi eZ d9 eo rfl (by decide) v xs.length _ ai ⟨Bm,0,none⟩ 1 c [.int .u32 (N32 y)] rfl (fun j u hj=>by
  match j,hj with
  | 0,hj=>
    obtain rfl:=Option.some.inj hj;rw[bD];exact hp) (fun u hu=>by rw[List.mem_singleton.1 hu];rfl) (by unfold maxLen;omega) (by omega) fk
 have e1:bV xs++[Value.int .u32 (N32 y)]=bV (xs++[y]):=by unfold bV;simp
 have e2:xs.length+1=(xs++[y]).length:=by simp
 rw[e1,e2]at h2;subst hd;unfold Oper.wp execOp;simp only[ho,Oj,resolve,invoke,builtin,Sem.run_bind,Sem.run_pure,Result.andThen_ok,List.map_toArray,List.map_cons,List.map_nil,hs,hx,hr];exact h _ _ h2 h3
def oA (A A':Act):Prop:=∀k,(k<10\/(15<=k/\k<65)\/161<=k)->A'.tmps[k]? =A.tmps[k]?
theorem IB (k:Nat) (hk:k<10\/(15<=k/\k<65)\/161<=k) (d:Nat) (hd:d=10\/d=12\/d=13\/d=14\/(65<=d/\d<=160)):d≠k:=by omega
theorem Qf (A:Act) (w0 w:World) (Q:Exit->Act->World->Prop) (m:ByteArray) (bb:List UInt8) (a0 i:Nat) (v:Value) (Lb:a0<=1073742000) (tN:i<16) (sN:Hid (∀x,x<64->∃h:a0+x<m.size,bb.getD x 0=m[a0+x]))
  (hs:A.tmps.size=323) (t8:A.tmps[8]? =some (.string m)) (t9:A.tmps[9]? =some (.int .i64 (a0:Int))) (t10:A.tmps[10]? =some v) (t11:A.tmps[11]? =some (.int .i64 (i:Int)))
  (ai:bZ w w0.heap.size v (Lz.aY bb i)) (aO:(Lz.aY bb i).length=i) (aC:Below w0.heap.size w0 w)
  (ak:∀c a a' w,Q (.panic c) a w->Q (.panic c) a' w)
  (hQ:∀A' w' v',A'.tmps.size=323->A'.defers=A.defers->oA A A'->A'.tmps[11]? =A.tmps[11]? ->A'.tmps[10]? =some v'->bZ w' w0.heap.size v' (Lz.aY bb (i+1))->Below w0.heap.size w0 w'->Q (.exit 7) A' w'):
  Code.wp Tryz.prog (xR Tryz.f67.body) Q A w:=by
 obtain⟨i0,hi,eZ,d9,eo⟩:=info_parts Au;obtain⟨_,e8⟩:=ag t8;obtain⟨_,e9⟩:=ag t9;obtain⟨_,e10⟩:=ag t10;obtain⟨_,e11⟩:=ag t11;have DL:(i:Int)<16:=by omega
 obtain⟨p4,hp4⟩:∃x,x=4*i:=⟨_,rfl⟩;obtain⟨j0,tI⟩:∃x,x=a0+p4:=⟨_,rfl⟩;obtain⟨j1,Uj⟩:∃x,x=j0+1:=⟨_,rfl⟩;obtain⟨j2,Ow⟩:∃x,x=j0+2:=⟨_,rfl⟩;obtain⟨j3,hj3⟩:∃x,x=j0+3:=⟨_,rfl⟩;have f4:IntKind.i64.wrap (4*(i:Int))=(p4:Int):=by rw[IntWalk.i64_in _ (by omega)];omega
 have f0:IntKind.i64.wrap ((a0:Int)+(p4:Int))=(j0:Int):=by rw[IntWalk.i64_in _ (by omega)];omega
 have f1:IntKind.i64.wrap ((j0:Int)+1)=(j1:Int):=by rw[IntWalk.i64_in _ (by omega)];omega
 have f2:IntKind.i64.wrap ((j0:Int)+2)=(j2:Int):=by rw[IntWalk.i64_in _ (by omega)];omega
 have f3:IntKind.i64.wrap ((j0:Int)+3)=(j3:Int):=by rw[IntWalk.i64_in _ (by omega)];omega
 obtain⟨l0,lW⟩:=sN.out p4 (by omega);obtain⟨l1,iE⟩:=sN.out (p4+1) (by omega);obtain⟨l2,sO⟩:=sN.out (p4+2) (by omega);obtain⟨l3,KU⟩:=sN.out (p4+3) (by omega);simp only[<-tI]at l0 lW;simp only[show a0+(p4+1)=j1 by omega]at l1 iE;simp only[show a0+(p4+2)=j2 by omega]at l2 sO;simp only[show a0+(p4+3)=j3 by omega]at l3 KU;have r0:(m[j0].toNat:Int)=((bb.getD p4 0).toNat:Int):=by rw[lW]
 have r1:(m[j1].toNat:Int)=((bb.getD (p4+1) 0).toNat:Int):=by rw[iE]
 have r2:(m[j2].toNat:Int)=((bb.getD (p4+2) 0).toNat:Int):=by rw[sO]
 have r3:(m[j3].toNat:Int)=((bb.getD (p4+3) 0).toNat:Int):=by rw[KU]
 have q0:(0:Int)<=(j0:Int)/\(j0:Int)<(m.size:Int):=by omega
 have q1:(0:Int)<=(j1:Int)/\(j1:Int)<(m.size:Int):=by omega
 have q2:(0:Int)<=(j2:Int)/\(j2:Int)<(m.size:Int):=by omega
 have q3:(0:Int)<=(j3:Int)/\(j3:Int)<(m.size:Int):=by omega
 have hst:Lz.aY bb (i+1)=Lz.aY bb i++[((Lz.il bb (4*i)*16777216+Lz.il bb (4*i+1)*65536)+Lz.il bb (4*i+2)*256)+Lz.il bb (4*i+3)]:=by rw[Lz.aY,if_pos tN]
 unfold Lz.il at hst;rw[<-hp4]at hst;generalize bb.getD p4 0=c0 at r0 hst;generalize bb.getD (p4+1) 0=c1 at r1 hst;generalize bb.getD (p4+2) 0=c2 at r2 hst;generalize bb.getD (p4+3) 0=c3 at r3 hst;have v0:=QX c0;have v1:=QX c1;have v2:=QX c2;have v3:=QX c3;have s0:=abh c0.toUInt32;have s1:=abd c1.toUInt32;have s2:=nm8 c2.toUInt32;have o1:=jx (c0.toUInt32*16777216) (c1.toUInt32*65536);have o2:=jx (c0.toUInt32*16777216+c1.toUInt32*65536) (c2.toUInt32*256);have o3:=jx (c0.toUInt32*16777216+c1.toUInt32*65536+c2.toUInt32*256) c3.toUInt32;have iA:=Ih hst;have bi:=Ih ai;have eu:=Ih aO;have HQ:=Ih hQ;clear hst ai lW iE sO KU tI Uj Ow hj3 hp4 hQ aO
 conv=>arg 2;whnf
 go_wp2_with fail
 refine wp_cond_true (by simp[Act.eval,hs]) ?_
 go_wp2_with fail
 refine aw (fun A1 bc=>?_);have g0:A1.tmps.size=323:=by rw[bc];simp only[Array.size_setIfInBounds];exact hs
 have g8:A1.tmps[8]? =some (.string m):=by rw[bc];simp only[Array.getElem?_setIfInBounds];exact t8
 have om:A1.tmps[10]? =some v:=by rw[bc];simp only[Array.getElem?_setIfInBounds];exact t10
 have g12:A1.tmps[12]? =some (.int .i64 (j0:Int)):=by rw[bc];simp only[Array.getElem?_setIfInBounds,Array.size_setIfInBounds,hs];rfl
 have mf:=congrArg Act.tmps bc
 dsimp only at mf
 have HT1:=Ih mf;have HA1:=Ih bc;have aaA:Hid (∀V,Below w.heap.size w V->bZ V w0.heap.size v (Lz.aY bb i)):=Ih (fun V hV=>bi.out.below hV);have ZT:(Lz.aY bb i).length<=1000000:=by rw[eu.out];omega
 obtain⟨b8,g8⟩:=ag g8;obtain⟨Lr,om⟩:=ag om;obtain⟨VS,g12⟩:=ag g12;clear mf bc e8 e9 e10 e11 hs t8 t9 t10 t11;refine wp_region_held_drew (S:=fun V=>Below w0.heap.size w0 V) (by kernel_rfl) aC.drew (fun af=>?_);have HB0:Hid (Below w.heap.size w w.drew):=Ih (Below.refl _ w).drew;generalize w.drew=W0 at af HB0⊢;refine TkD 0 (some 75) (v:=?_) rfl rfl ?_ ?_ (hQ:=fun _ _ _ h=>ak _ _ _ _ h);rotate_left 2;refine TkD 1 (some 76) (v:=?_) rfl rfl ?_ ?_ (hQ:=fun _ _ _ h=>ak _ _ _ _ h);rotate_left 2;refine TkD 2 (some 77) (v:=?_) rfl rfl ?_ ?_ (hQ:=fun _ _ _ h=>ak _ _ _ _ h);rotate_left 2;refine TkD 3 (some 78) (v:=?_) rfl rfl ?_ ?_ (hQ:=fun _ _ _ h=>ak _ _ _ _ h);rotate_left 2;refine TkD 4 (some 79) (v:=?_) rfl rfl ?_ ?_ (hQ:=fun _ _ _ h=>ak _ _ _ _ h);rotate_left 2;refine TkD 5 (some 80) (v:=?_) rfl rfl ?_ ?_ (hQ:=fun _ _ _ h=>ak _ _ _ _ h);rotate_left 2;refine TkD 6 (some 81) (v:=?_) rfl rfl ?_ ?_ (hQ:=fun _ _ _ h=>ak _ _ _ _ h);rotate_left 2;refine TkD 7 (some 82) (v:=?_) rfl rfl ?_ ?_ (hQ:=fun _ _ _ h=>ak _ _ _ _ h);rotate_left 2;refine TkD 8 (some 83) (v:=?_) rfl rfl ?_ ?_ (hQ:=fun _ _ _ h=>ak _ _ _ _ h);rotate_left 2;rotate_left
 iterate 9 (rotate_left;(·(intro W ar;(try dsimp only at ar);(try simp only[Act.put]);go_simp;try with_reducible rfl)))
 (try simp only[Act.put])
 refine TkD 9 (some 84) (v:=?_) rfl rfl ?_ ?_ (hQ:=fun _ _ _ h=>ak _ _ _ _ h);rotate_left 2;refine TkD 10 (some 85) (v:=?_) rfl rfl ?_ ?_ (hQ:=fun _ _ _ h=>ak _ _ _ _ h);rotate_left 2;refine TkD 11 (some 86) (v:=?_) rfl rfl ?_ ?_ (hQ:=fun _ _ _ h=>ak _ _ _ _ h);rotate_left 2;refine TkD 12 (some 87) (v:=?_) rfl rfl ?_ ?_ (hQ:=fun _ _ _ h=>ak _ _ _ _ h);rotate_left 2;refine TkD 13 (some 88) (v:=?_) rfl rfl ?_ ?_ (hQ:=fun _ _ _ h=>ak _ _ _ _ h);rotate_left 2;refine TkD 14 (some 89) (v:=?_) rfl rfl ?_ ?_ (hQ:=fun _ _ _ h=>ak _ _ _ _ h);rotate_left 2;refine TkD 15 (some 90) (v:=?_) rfl rfl ?_ ?_ (hQ:=fun _ _ _ h=>ak _ _ _ _ h);rotate_left 2;refine TkD 16 (some 91) (v:=?_) rfl rfl ?_ ?_ (hQ:=fun _ _ _ h=>ak _ _ _ _ h);rotate_left 2;refine TkD 17 (some 92) (v:=?_) rfl rfl ?_ ?_ (hQ:=fun _ _ _ h=>ak _ _ _ _ h);rotate_left 2;rotate_left
 iterate 9 (rotate_left;(·(intro W ar;(try dsimp only at ar);(try simp only[Act.put]);go_simp;try with_reducible rfl)))
 (try simp only[Act.put])
 refine TkD 18 (some 93) (v:=?_) rfl rfl ?_ ?_ (hQ:=fun _ _ _ h=>ak _ _ _ _ h);rotate_left 2;refine TkD 19 (some 94) (v:=?_) rfl rfl ?_ ?_ (hQ:=fun _ _ _ h=>ak _ _ _ _ h);rotate_left 2;refine TkD 20 (some 95) (v:=?_) rfl rfl ?_ ?_ (hQ:=fun _ _ _ h=>ak _ _ _ _ h);rotate_left 2;refine TkD 21 (some 96) (v:=?_) rfl rfl ?_ ?_ (hQ:=fun _ _ _ h=>ak _ _ _ _ h);rotate_left 2;refine TkD 22 (some 97) (v:=?_) rfl rfl ?_ ?_ (hQ:=fun _ _ _ h=>ak _ _ _ _ h);rotate_left 2;refine TkD 23 (some 98) (v:=?_) rfl rfl ?_ ?_ (hQ:=fun _ _ _ h=>ak _ _ _ _ h);rotate_left 2;refine TkD 24 (some 99) (v:=?_) rfl rfl ?_ ?_ (hQ:=fun _ _ _ h=>ak _ _ _ _ h);rotate_left 2;refine TkD 25 (some 100) (v:=?_) rfl rfl ?_ ?_ (hQ:=fun _ _ _ h=>ak _ _ _ _ h);rotate_left 2;rotate_left
 iterate 8 (rotate_left;(·(intro W ar;(try dsimp only at ar);(try simp only[Act.put]);go_simp;try with_reducible rfl)))
 (try simp only[Act.put])
 have gr:=(aaA.out W0 (by have:=af;exact HB0.out)).below ((Below.refl W0.heap.size W0).alloc (Nat.le_refl _) (.cells #[.int .u32 (N32 ((c0.toUInt32*16777216+c1.toUInt32*65536)+c2.toUInt32*256+c3.toUInt32))] 123));have iw:(W0.alloc (.cells #[.int .u32 (N32 ((c0.toUInt32*16777216+c1.toUInt32*65536)+c2.toUInt32*256+c3.toUInt32))] 123)).cell? ⟨W0.heap.size,0,none⟩=some (.int .u32 (N32 ((c0.toUInt32*16777216+c1.toUInt32*65536)+c2.toUInt32*256+c3.toUInt32))):=rowAt (an W0 _) 0 _ rfl;refine wpAnyH_ready (rs:=[26]) (by kernel_rfl) (by simp) ?_;refine AllReadyH.cons rfl (fun K hK=>?_) AllReadyH.nil;go_simp;refine hK.out _ _ (af.alloc af.size _) (fun af=>?_);clear hK K
 (try simp only[Act.put])
 refine wpAnyH_ready (rs:=[27]) (by kernel_rfl) (by simp) ?_;refine AllReadyH.cons rfl (fun K hK=>?_) AllReadyH.nil;rw[if_pos (by rfl)];refine mx (.tmp 75) (.tmp 101) rfl rfl (some 102) rfl w0.heap.size v (Lz.aY bb i) ?_ gr W0.heap.size 1 ((c0.toUInt32*16777216+c1.toUInt32*65536)+c2.toUInt32*256+c3.toUInt32) ?_ iw ZT af.size ?_
 ·simp[Act.eval,g0]
 ·simp[Act.eval,g0]
 intro v' w' de iy;have aE:Below w0.heap.size w0 w':=af.grown iy af.size (fun k hk=>(World.ownsRow.lt gr k hk).1);clear af;refine hK.out _ _ aE (fun af=>?_);clear hK K gr iw iy
 (try simp only[Act.put])
 refine TkD 28 (some 10) (v:=v') rfl rfl ?_ ?_ (hQ:=fun _ _ _ h=>ak _ _ _ _ h)
 ·intro W ar;simp[Act.eval,g0,execOp]
 (try simp only[Act.put])
 refine wpAnyH_done (by kernel_rfl) ?_ _
 go_wp2_with fail
 refine HQ.out _ _ v' ?_ ?_ ?_ ?_ ?_ ?_ af
 ·simp only[Array.size_setIfInBounds];exact g0
 ·show A1.defers=_;rw[HA1.out]
 ·intro k hk
  simp(disch:=exact IB k hk _ (by decide)) only[Array.getElem?_setIfInBounds_ne]
  rw[HA1.out]
  simp(disch:=exact IB k hk _ (by decide)) only[Array.getElem?_setIfInBounds_ne]
 ·simp(disch:=decide) only[Array.getElem?_setIfInBounds_ne]
  rw[HA1.out]
  simp(disch:=decide) only[Array.getElem?_setIfInBounds_ne]
 ·rw[Array.getElem?_setIfInBounds_self_of_lt (by simp only[Array.size_setIfInBounds];rw[g0];decide)]
 ·rw[iA.out];exact de
attribute [local go_sem ↓] Go.wp_at_zero Go.wp_at_succ
def eI (d lo hi:Nat) (A A':Act):Prop:=∀k,k≠d->(k<lo\/hi<k)->A'.tmps[k]? =A.tmps[k]?
theorem bf {d lo hi:Nat} (k:Nat) (hk:k≠d) (h:k<lo\/hi<k) (s:Nat) (hs:s=d\/(lo<=s/\s<=hi)):s≠k:=by omega
theorem Rv (A:Act) (w:World) (Q:Exit->Act->World->Prop) (x:UInt32) (g L c i mm:Nat)
  (hs:A.tmps.size=323) (t10:A.tmps[10]? =some (.slice (some ⟨g,0,none⟩) L c)) (t11:A.tmps[11]? =some (.int .i64 (i:Int)))
  (f0:IntKind.i64.wrap ((i:Int)-15)=(mm:Int)) (q0:(0:Int)<=(mm:Int)/\(mm:Int)<(L:Int))
  (hc:w.cell? ⟨g,mm,none⟩=some (.int .u32 (N32 x)))
  (ak:∀c a a' w,Q (.panic c) a w->Q (.panic c) a' w)
  (hQ:∀A' w',A'.tmps.size=323->A'.defers=A.defers->eI 13 103 122 A A'->A'.tmps[13]? =some (.int .u32 (N32 ((Lz.aH x 7 ^^^ Lz.aH x 18) ^^^ (x>>>3))))->Below w.heap.size w w'->Q .normal A' w'):
  Code.wp Tryz.prog (dn1 (dn2 (xR Tryz.f67.body))) Q A w:=by
 obtain⟨Lr,e10⟩:=ag t10;obtain⟨IS,e11⟩:=ag t11;have o1:=rq (Lz.aH x 7) (Lz.aH x 18);have o2:=rq (Lz.aH x 7 ^^^ Lz.aH x 18) (x>>>3);have s1:N32 x / (8:Int)=N32 (x>>>3):=sZ x 3 (by omega);have k1:=Ih (fun w=>dM x 7 (by decide) (by decide) w);have k2:=Ih (fun w=>dM x 18 (by decide) (by decide) w);have HQ:=Ih hQ;clear t10 t11 hQ
 conv=>arg 2;whnf
 refine wp_region_held_drew (S:=fun V=>V.cell? ⟨g,mm,none⟩=some (.int .u32 (N32 x))/\Below w.heap.size w V) (by kernel_rfl) ⟨hc,(Below.refl _ w).drew⟩ (fun af=>?_);generalize w.drew=W0 at af⊢;apply TkE ak 0 103;apply TkE ak 1 104;apply TkE ak 2 105;apply TkE ak 3 106;apply TkE ak 4 107;apply TkE ak 6 109;apply TkE ak 7 110;apply TkE ak 8 111
 iterate 8 (rotate_right 2;(·(intro W ar;(try dsimp only at ar);(try simp only[Act.put]);go_simp;try with_reducible rfl)))
 (try simp only[Act.put])
 apply TkE ak 9 112;apply TkE ak 10 113;apply TkE ak 13 116;apply TkE ak 14 117;apply TkE ak 15 118;apply TkE ak 16 119;apply TkE ak 17 120;apply TkE ak 18 121
 iterate 8 (rotate_right 2;(·(intro W ar;(try dsimp only at ar);(try simp only[Act.put]);go_simp;try with_reducible rfl)))
 (try simp only[Act.put])
 refine wpAnyH_ready (rs:=[5]) (by kernel_rfl) (by simp) ?_;refine AllReadyH.cons rfl (fun K hK=>?_) AllReadyH.nil;go_simp
 go_at_call 113
 refine((k1.out _).mono ?_);rintro e w5 ⟨rfl,bv⟩;refine hK.out _ _ ⟨(bv.cell (World.block_lt_of_cell? _ _ af.1)).trans af.1,af.2.trans (bv.mono af.2.size)⟩ (fun af=>?_);clear hK K
 (try simp only[Act.put])
 refine wpAnyH_ready (rs:=[11]) (by kernel_rfl) (by simp) ?_;refine AllReadyH.cons rfl (fun K hK=>?_) AllReadyH.nil;go_simp
 go_at_call 113
 refine((k2.out _).mono ?_);rintro e w5 ⟨rfl,bv⟩;refine hK.out _ _ ⟨(bv.cell (World.block_lt_of_cell? _ _ af.1)).trans af.1,af.2.trans (bv.mono af.2.size)⟩ (fun af=>?_);clear hK K
 (try simp only[Act.put])
 apply TkE ak 12 115;apply TkE ak 19 122;apply TkE ak 20 13
 iterate 3 (rotate_right 2;(·(intro W ar;(try dsimp only at ar);(try simp only[Act.put]);go_simp;try with_reducible rfl)))
 (try simp only[Act.put])
 refine wpAnyH_done (by kernel_rfl) ?_ _
 go_wp2_with fail
 refine HQ.out _ _ ?_ ?_ ?_ ?_ af.2
 ·simp only[Array.size_setIfInBounds];exact hs
 ·rfl
 ·intro k hk cf
  simp(disch:=exact bf k hk cf _ (by decide)) only[Array.getElem?_setIfInBounds_ne]
 ·rw[Array.getElem?_setIfInBounds_self_of_lt (by simp only[Array.size_setIfInBounds];rw[hs];decide)]
theorem Q8 (A:Act) (w:World) (Q:Exit->Act->World->Prop) (x:UInt32) (g L c i mm:Nat)
  (hs:A.tmps.size=323) (t10:A.tmps[10]? =some (.slice (some ⟨g,0,none⟩) L c)) (t11:A.tmps[11]? =some (.int .i64 (i:Int)))
  (f0:IntKind.i64.wrap ((i:Int)-2)=(mm:Int)) (q0:(0:Int)<=(mm:Int)/\(mm:Int)<(L:Int))
  (hc:w.cell? ⟨g,mm,none⟩=some (.int .u32 (N32 x)))
  (ak:∀c a a' w,Q (.panic c) a w->Q (.panic c) a' w)
  (hQ:∀A' w',A'.tmps.size=323->A'.defers=A.defers->eI 14 123 142 A A'->A'.tmps[14]? =some (.int .u32 (N32 ((Lz.aH x 17 ^^^ Lz.aH x 19) ^^^ (x>>>10))))->Below w.heap.size w w'->Q .normal A' w'):
  Code.wp Tryz.prog (dn1 (dn2 (dn2 (xR Tryz.f67.body)))) Q A w:=by
 obtain⟨Lr,e10⟩:=ag t10;obtain⟨IS,e11⟩:=ag t11;have o1:=rq (Lz.aH x 17) (Lz.aH x 19);have o2:=rq (Lz.aH x 17 ^^^ Lz.aH x 19) (x>>>10);have s1:N32 x / (1024:Int)=N32 (x>>>10):=sZ x 10 (by omega);have k1:=Ih (fun w=>dM x 17 (by decide) (by decide) w);have k2:=Ih (fun w=>dM x 19 (by decide) (by decide) w);have HQ:=Ih hQ;clear t10 t11 hQ
 conv=>arg 2;whnf
 refine wp_region_held_drew (S:=fun V=>V.cell? ⟨g,mm,none⟩=some (.int .u32 (N32 x))/\Below w.heap.size w V) (by kernel_rfl) ⟨hc,(Below.refl _ w).drew⟩ (fun af=>?_);generalize w.drew=W0 at af⊢;apply TkE ak 0 123;apply TkE ak 1 124;apply TkE ak 2 125;apply TkE ak 3 126;apply TkE ak 4 127;apply TkE ak 6 129;apply TkE ak 7 130;apply TkE ak 8 131
 iterate 8 (rotate_right 2;(·(intro W ar;(try dsimp only at ar);(try simp only[Act.put]);go_simp;try with_reducible rfl)))
 (try simp only[Act.put])
 apply TkE ak 9 132;apply TkE ak 10 133;apply TkE ak 13 136;apply TkE ak 14 137;apply TkE ak 15 138;apply TkE ak 16 139;apply TkE ak 17 140;apply TkE ak 18 141
 iterate 8 (rotate_right 2;(·(intro W ar;(try dsimp only at ar);(try simp only[Act.put]);go_simp;try with_reducible rfl)))
 (try simp only[Act.put])
 refine wpAnyH_ready (rs:=[5]) (by kernel_rfl) (by simp) ?_;refine AllReadyH.cons rfl (fun K hK=>?_) AllReadyH.nil;go_simp
 go_at_call 113
 refine((k1.out _).mono ?_);rintro e w5 ⟨rfl,bv⟩;refine hK.out _ _ ⟨(bv.cell (World.block_lt_of_cell? _ _ af.1)).trans af.1,af.2.trans (bv.mono af.2.size)⟩ (fun af=>?_);clear hK K
 (try simp only[Act.put])
 refine wpAnyH_ready (rs:=[11]) (by kernel_rfl) (by simp) ?_;refine AllReadyH.cons rfl (fun K hK=>?_) AllReadyH.nil;go_simp
 go_at_call 113
 refine((k2.out _).mono ?_);rintro e w5 ⟨rfl,bv⟩;refine hK.out _ _ ⟨(bv.cell (World.block_lt_of_cell? _ _ af.1)).trans af.1,af.2.trans (bv.mono af.2.size)⟩ (fun af=>?_);clear hK K
 (try simp only[Act.put])
 apply TkE ak 12 135;apply TkE ak 19 142;apply TkE ak 20 14
 iterate 3 (rotate_right 2;(·(intro W ar;(try dsimp only at ar);(try simp only[Act.put]);go_simp;try with_reducible rfl)))
 (try simp only[Act.put])
 refine wpAnyH_done (by kernel_rfl) ?_ _
 go_wp2_with fail
 refine HQ.out _ _ ?_ ?_ ?_ ?_ af.2
 ·simp only[Array.size_setIfInBounds];exact hs
 ·rfl
 ·intro k hk cf
  simp(disch:=exact bf k hk cf _ (by decide)) only[Array.getElem?_setIfInBounds_ne]
 ·rw[Array.getElem?_setIfInBounds_self_of_lt (by simp only[Array.size_setIfInBounds];rw[hs];decide)]
attribute [local go_sem ↓] Go.wp_at_zero Go.wp_at_succ
def Tf (d d2 lo hi:Nat) (A A':Act):Prop:=∀k,(k<d\/d2<k)->(k<lo\/hi<k)->A'.tmps[k]? =A.tmps[k]?
theorem Cv {d d2 lo hi:Nat} (k:Nat) (hk:k<d\/d2<k) (h:k<lo\/hi<k) (s:Nat) (hs:(d<=s/\s<=d2)\/(lo<=s/\s<=hi)):s≠k:=by omega
def uy (A:Act) (s:Lz.St8 UInt32):Prop:=A.tmps[15]? =some (.int .u32 (N32 s.a))/\A.tmps[16]? =some (.int .u32 (N32 s.b))/\A.tmps[17]? =some (.int .u32 (N32 s.c))/\A.tmps[18]? =some (.int .u32 (N32 s.d))/\A.tmps[19]? =some (.int .u32 (N32 s.e))/\A.tmps[20]? =some (.int .u32 (N32 s.f))/\A.tmps[21]? =some (.int .u32 (N32 s.g))/\A.tmps[22]? =some (.int .u32 (N32 s.z))
def fG (w:World) (g:Nat) (s:Lz.St8 UInt32):Prop:=w.cell? ⟨g,0,none⟩=some (.int .u32 (N32 s.a))/\w.cell? ⟨g,1,none⟩=some (.int .u32 (N32 s.b))/\w.cell? ⟨g,2,none⟩=some (.int .u32 (N32 s.c))/\w.cell? ⟨g,3,none⟩=some (.int .u32 (N32 s.d))/\w.cell? ⟨g,4,none⟩=some (.int .u32 (N32 s.e))/\w.cell? ⟨g,5,none⟩=some (.int .u32 (N32 s.f))/\w.cell? ⟨g,6,none⟩=some (.int .u32 (N32 s.g))/\w.cell? ⟨g,7,none⟩=some (.int .u32 (N32 s.z))
def M2 (b:Option Code):Code:=dn1 (dn2 (dn2 (uh b)))
def UG (b:Option Code):Code:=dn1 (dn2 (dn2 (dn2 (uh b))))
def vW (b:Option Code):Code:=dnl (dnb (dn2 (UG b)))
def Ig (b:Option Code):Code:=dnb (dn1 (dn2 (vW b)))
theorem Ql (A:Act) (w:World) (Q:Exit->Act->World->Prop) (s:Lz.St8 UInt32) (g c:Nat)
  (hs:A.tmps.size=323) (t6:A.tmps[6]? =some (.slice (some ⟨g,0,none⟩) 8 c)) (hc:fG w g s)
  (ak:∀c a a' w,Q (.panic c) a w->Q (.panic c) a' w)
  (hQ:∀A' w',A'.tmps.size=323->A'.defers=A.defers->Tf 15 22 161 184 A A'->uy A' s->Below w.heap.size w w'->Q .normal A' w'):
  Code.wp Tryz.prog (M2 Tryz.f67.body) Q A w:=by
 obtain⟨b6,e6⟩:=ag t6;obtain⟨c0,c1,c2,c3,c4,c5,c6,c7⟩:=hc;have HQ:=Ih hQ;clear t6 hQ
 conv=>arg 2;whnf
 refine wp_region_held_drew (S:=fun V=>Below w.heap.size w V) (by kernel_rfl) (Below.refl _ w).drew (fun af=>?_);generalize w.drew=W0 at af⊢;apply TkE ak 0 161;apply TkE ak 1 162;apply TkE ak 2 163;apply TkE ak 3 164;apply TkE ak 4 165;apply TkE ak 5 166;apply TkE ak 6 167;apply TkE ak 7 168
 iterate 8 (rotate_right 2;(·(intro W ar;(try dsimp only at ar);have d0:=(ar.cell (World.block_lt_of_cell? _ _ c0)).trans c0;have d1:=(ar.cell (World.block_lt_of_cell? _ _ c1)).trans c1;have d2:=(ar.cell (World.block_lt_of_cell? _ _ c2)).trans c2;have d3:=(ar.cell (World.block_lt_of_cell? _ _ c3)).trans c3;have d4:=(ar.cell (World.block_lt_of_cell? _ _ c4)).trans c4;have d5:=(ar.cell (World.block_lt_of_cell? _ _ c5)).trans c5;have d6:=(ar.cell (World.block_lt_of_cell? _ _ c6)).trans c6;have d7:=(ar.cell (World.block_lt_of_cell? _ _ c7)).trans c7;(try simp only[Act.put]);go_simp;try with_reducible rfl)))
 (try simp only[Act.put])
 apply TkE ak 8 169;apply TkE ak 9 170;apply TkE ak 10 171;apply TkE ak 11 172;apply TkE ak 12 173;apply TkE ak 13 174;apply TkE ak 14 175;apply TkE ak 15 176
 iterate 8 (rotate_right 2;(·(intro W ar;(try dsimp only at ar);have d0:=(ar.cell (World.block_lt_of_cell? _ _ c0)).trans c0;have d1:=(ar.cell (World.block_lt_of_cell? _ _ c1)).trans c1;have d2:=(ar.cell (World.block_lt_of_cell? _ _ c2)).trans c2;have d3:=(ar.cell (World.block_lt_of_cell? _ _ c3)).trans c3;have d4:=(ar.cell (World.block_lt_of_cell? _ _ c4)).trans c4;have d5:=(ar.cell (World.block_lt_of_cell? _ _ c5)).trans c5;have d6:=(ar.cell (World.block_lt_of_cell? _ _ c6)).trans c6;have d7:=(ar.cell (World.block_lt_of_cell? _ _ c7)).trans c7;(try simp only[Act.put]);go_simp;try with_reducible rfl)))
 (try simp only[Act.put])
 apply TkE ak 16 177;apply TkE ak 17 178;apply TkE ak 18 179;apply TkE ak 19 180;apply TkE ak 20 181;apply TkE ak 21 182;apply TkE ak 22 183;apply TkE ak 23 184
 iterate 8 (rotate_right 2;(·(intro W ar;(try dsimp only at ar);have d0:=(ar.cell (World.block_lt_of_cell? _ _ c0)).trans c0;have d1:=(ar.cell (World.block_lt_of_cell? _ _ c1)).trans c1;have d2:=(ar.cell (World.block_lt_of_cell? _ _ c2)).trans c2;have d3:=(ar.cell (World.block_lt_of_cell? _ _ c3)).trans c3;have d4:=(ar.cell (World.block_lt_of_cell? _ _ c4)).trans c4;have d5:=(ar.cell (World.block_lt_of_cell? _ _ c5)).trans c5;have d6:=(ar.cell (World.block_lt_of_cell? _ _ c6)).trans c6;have d7:=(ar.cell (World.block_lt_of_cell? _ _ c7)).trans c7;(try simp only[Act.put]);go_simp;try with_reducible rfl)))
 (try simp only[Act.put])
 apply TkE ak 24 15;apply TkE ak 25 16;apply TkE ak 26 17;apply TkE ak 27 18;apply TkE ak 28 19;apply TkE ak 29 20;apply TkE ak 30 21;apply TkE ak 31 22
 iterate 8 (rotate_right 2;(·(intro W ar;(try dsimp only at ar);(try simp only[Act.put]);go_simp;try with_reducible rfl)))
 (try simp only[Act.put])
 refine wpAnyH_done (by kernel_rfl) ?_ _
 go_wp2_with fail
 refine HQ.out _ _ ?_ ?_ ?_ ?_ af
 ·simp only[Array.size_setIfInBounds];exact hs
 ·rfl
 ·intro k hk cf
  simp(disch:=exact Cv k hk cf _ (by decide)) only[Array.getElem?_setIfInBounds_ne]
 ·refine⟨?_,?_,?_,?_,?_,?_,?_,?_⟩<;>(simp(disch:=decide) only[Array.getElem?_setIfInBounds_ne];rw[Array.getElem?_setIfInBounds_self_of_lt (by simp only[Array.size_setIfInBounds];rw[hs];decide)])
theorem Qy (A:Act) (w:World) (Q:Exit->Act->World->Prop) (s:Lz.St8 UInt32) (kk x:UInt32) (g4 L4 c4 g L c i:Nat)
  (hs:A.tmps.size=323) (t4:A.tmps[4]? =some (.slice (some ⟨g4,0,none⟩) L4 c4)) (t10:A.tmps[10]? =some (.slice (some ⟨g,0,none⟩) L c)) (t23:A.tmps[23]? =some (.int .i64 (i:Int))) (h8:uy A s)
  (q4:(0:Int)<=(i:Int)/\(i:Int)<(L4:Int)) (q10:(0:Int)<=(i:Int)/\(i:Int)<(L:Int)) (sR:w.cell? ⟨g4,i,none⟩=some (.int .u32 (N32 kk))) (hc:w.cell? ⟨g,i,none⟩=some (.int .u32 (N32 x)))
  (ak:∀c a a' w,Q (.panic c) a w->Q (.panic c) a' w)
  (hQ:∀A' w',A'.tmps.size=323->A'.defers=A.defers->eI 24 189 217 A A'->A'.tmps[24]? =some (.int .u32 (N32 (Lz.Ii s kk x)))->Below w.heap.size w w'->Q .normal A' w'):
  Code.wp Tryz.prog (dn1 (Ig Tryz.f67.body)) Q A w:=by
 obtain⟨b4,e4⟩:=ag t4;obtain⟨Lr,e10⟩:=ag t10;obtain⟨b23,e23⟩:=ag t23;obtain⟨_,_,_,_,t19,t20,t21,t22⟩:=h8;obtain⟨b19,e19⟩:=ag t19;obtain⟨b20,e20⟩:=ag t20;obtain⟨ZO,e21⟩:=ag t21;obtain⟨ZX,e22⟩:=ag t22;unfold Lz.Ii at hQ;clear t4 t10 t23 t19 t20 t21 t22;obtain⟨_,_,_,_,e,f,gg,z⟩:=s
 dsimp only at e19 e20 e21 e22 hQ
 have o1:=rq (Lz.aH e 6) (Lz.aH e 11);have o2:=rq (Lz.aH e 6 ^^^ Lz.aH e 11) (Lz.aH e 25);have o3:=jx z ((Lz.aH e 6 ^^^ Lz.aH e 11) ^^^ Lz.aH e 25);have o4:=KA e f;have o5:=Vl e;have o5m:bits .xor .u32 IntKind.u32.max (N32 e)=N32 (~~~e):=Vl e;have sg:IntKind.u32.signed=false:=rfl;have o6:=KA (~~~e) gg;have o7:=rq (e&&& f) ((~~~e)&&& gg);have o8:=jx (z+((Lz.aH e 6 ^^^ Lz.aH e 11) ^^^ Lz.aH e 25)) ((e&&& f) ^^^ ((~~~e)&&& gg));have o9:=jx ((z+((Lz.aH e 6 ^^^ Lz.aH e 11) ^^^ Lz.aH e 25))+((e&&& f) ^^^ ((~~~e)&&& gg))) kk;have Wf:=jx (((z+((Lz.aH e 6 ^^^ Lz.aH e 11) ^^^ Lz.aH e 25))+((e&&& f) ^^^ ((~~~e)&&& gg)))+kk) x;have k1:=Ih (fun w=>dM e 6 (by decide) (by decide) w);have k2:=Ih (fun w=>dM e 11 (by decide) (by decide) w);have k3:=Ih (fun w=>dM e 25 (by decide) (by decide) w);have HQ:=Ih hQ;clear hQ
 conv=>arg 2;whnf
 refine wp_region_held_drew (S:=fun V=>Below w.heap.size w V) (by kernel_rfl) (Below.refl _ w).drew (fun af=>?_);generalize w.drew=W0 at af⊢;apply TkE ak 0 189;apply TkE ak 1 190;apply TkE ak 3 192;apply TkE ak 6 195;apply TkE ak 10 199;apply TkE ak 11 200;apply TkE ak 12 201
 iterate 7 (rotate_right 2;(·(intro W ar;(try dsimp only at ar);(try simp only[Act.put]);go_simp;try with_reducible rfl)))
 (try simp only[Act.put])
 apply TkE ak 13 202;apply TkE ak 14 203;apply TkE ak 15 204;apply TkE ak 16 205;apply TkE ak 17 206
 iterate 5 (rotate_right 2;(·(intro W ar;(try dsimp only at ar);(try simp only[Act.put]);go_simp;try with_reducible rfl)))
 (try simp only[Act.put])
 apply TkE ak 19 208;apply TkE ak 20 209;apply TkE ak 21 210;apply TkE ak 22 211;apply TkE ak 24 213;apply TkE ak 25 214;apply TkE ak 26 215;apply TkE ak 27 216
 iterate 8 (rotate_right 2;(·(intro W ar;(try dsimp only at ar);have d4:=(ar.cell (World.block_lt_of_cell? _ _ sR)).trans sR;have ZE:=(ar.cell (World.block_lt_of_cell? _ _ hc)).trans hc;(try simp only[Act.put]);go_simp;try with_reducible rfl)))
 (try simp only[Act.put])
 refine wpAnyH_ready (rs:=[2]) (by kernel_rfl) (by simp) ?_;refine AllReadyH.cons rfl (fun K hK=>?_) AllReadyH.nil;go_simp
 go_at_call 113
 refine((k1.out _).mono ?_);rintro e w5 ⟨rfl,bv⟩;refine hK.out _ _ (af.trans (bv.mono af.size)) (fun af=>?_);clear hK K
 (try simp only[Act.put])
 refine wpAnyH_ready (rs:=[4]) (by kernel_rfl) (by simp) ?_;refine AllReadyH.cons rfl (fun K hK=>?_) AllReadyH.nil;go_simp
 go_at_call 113
 refine((k2.out _).mono ?_);rintro e w5 ⟨rfl,bv⟩;refine hK.out _ _ (af.trans (bv.mono af.size)) (fun af=>?_);clear hK K
 (try simp only[Act.put])
 apply TkE ak 5 194
 iterate 1 (rotate_right 2;(·(intro W ar;(try dsimp only at ar);(try simp only[Act.put]);go_simp;try with_reducible rfl)))
 (try simp only[Act.put])
 refine wpAnyH_ready (rs:=[7]) (by kernel_rfl) (by simp) ?_;refine AllReadyH.cons rfl (fun K hK=>?_) AllReadyH.nil;go_simp
 go_at_call 113
 refine((k3.out _).mono ?_);rintro e w5 ⟨rfl,bv⟩;refine hK.out _ _ (af.trans (bv.mono af.size)) (fun af=>?_);clear hK K
 (try simp only[Act.put])
 apply TkE ak 8 197;apply TkE ak 9 198;apply TkE ak 18 207;apply TkE ak 23 212;apply TkE ak 28 217;apply TkE ak 29 24
 iterate 6 (rotate_right 2;(·(intro W ar;(try dsimp only at ar);(try simp only[Act.put]);go_simp;try with_reducible rfl)))
 (try simp only[Act.put])
 refine wpAnyH_done (by kernel_rfl) ?_ _
 go_wp2_with fail
 refine HQ.out _ _ ?_ ?_ ?_ ?_ af
 ·simp only[Array.size_setIfInBounds];exact hs
 ·rfl
 ·intro k hk cf
  simp(disch:=exact bf k hk cf _ (by decide)) only[Array.getElem?_setIfInBounds_ne]
 ·rw[Array.getElem?_setIfInBounds_self_of_lt (by simp only[Array.size_setIfInBounds];rw[hs];decide)]
end Go.Proofs.YtibcmemcfjhgmaaGreatDoor
