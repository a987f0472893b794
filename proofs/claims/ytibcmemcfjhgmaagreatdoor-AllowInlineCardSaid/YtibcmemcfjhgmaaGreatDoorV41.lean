/-
  lazaretref04.Sum: its tables (loops 1 and 2), and the whole function, over a frame that is a letter.
-/
import Derived.Test.YtibcmemcfjhgmaaGreatDoorV25
set_option maxHeartbeats 4000000
set_option maxRecDepth 100000
namespace Go.Proofs.YtibcmemcfjhgmaaGreatDoor
open Go.RowKit
attribute [local go_sem ↓] Go.wp_at_zero Go.wp_at_succ
def SL (b:Option Code):Code:=dn2 (dn1 (dn2 (uh b)))
def S5 (b:Option Code):Code:=dn2 (UG b)
def UK (b:Option Code):Code:=dn2 (dn2 (dn2 (dn2 (uh b))))
theorem PV:SL Tryz.f67.body=.block 6 (.loop (uV Tryz.f67.body)):=by kernel_rfl
theorem PE:S5 Tryz.f67.body=.block 8 (.loop (vW Tryz.f67.body)):=by kernel_rfl
theorem Uv:uh Tryz.f67.body=.seq (dn1 (uh Tryz.f67.body)) (.seq (.seq (dn1 (dn1 (dn2 (uh Tryz.f67.body)))) (SL Tryz.f67.body)) (.seq (M2 Tryz.f67.body) (.seq (.seq (dn1 (UG Tryz.f67.body)) (S5 Tryz.f67.body)) (UK Tryz.f67.body)))):=by kernel_rfl
theorem fG.below {w w':World} {g:Nat} {s:Lz.St8 UInt32} (h:fG w g s) (b:Below w.heap.size w w'):fG w' g s:=by
 have k:∀(p:Addr) (v:Value),w.cell? p=some v->w'.cell? p=some v:=fun p v e=>(b.cell (World.block_lt_of_cell? _ _ e)).trans e;obtain⟨c0,c1,c2,c3,c4,c5,c6,c7⟩:=h;exact⟨k _ _ c0,k _ _ c1,k _ _ c2,k _ _ c3,k _ _ c4,k _ _ c5,k _ _ c6,k _ _ c7⟩
def Up (A A':Act):Prop:=∀k,(k<6\/(6<k/\k<10)\/(25<k/\k<65)\/290<k)->A'.tmps[k]? =A.tmps[k]?
theorem JO (A0:Act) (w0:World) (Q:Exit->Act->World->Prop) (aP:List UInt32) (m:ByteArray) (bb:List UInt8) (a0:Nat) (h:Lz.St8 UInt32) (Lb:a0<=1073742000) (sN:Hid (∀x,x<64->∃h:a0+x<m.size,bb.getD x 0=m[a0+x])) (g4 c4 g6 c6:Nat)
  (hs:A0.tmps.size=323) (t4:A0.tmps[4]? =some (.slice (some ⟨g4,0,none⟩) 64 c4)) (t6:A0.tmps[6]? =some (.slice (some ⟨g6,0,none⟩) 8 c6)) (t8:A0.tmps[8]? =some (.string m)) (t9:A0.tmps[9]? =some (.int .i64 (a0:Int)))
  (sR:∀i,i<64->w0.cell? ⟨g4,i,none⟩=some (.int .u32 (N32 (aP.getD i 0)))) (xz:fG w0 g6 h)
  (ak:∀c a a' w,Q (.panic c) a w->Q (.panic c) a' w)
  (hQ:∀A' w' G,A'.tmps.size=323->A'.defers=A0.defers->Up A0 A'->A'.tmps[6]? =some (.slice (some ⟨G,0,none⟩) 8 8)->fG w' G (Lz.fA aP h bb)->Below w0.heap.size w0 w'->Q .normal A' w'):
  Code.wp Tryz.prog (uh Tryz.f67.body) Q A0 w0:=by
 have qH:=Ih ak;have HQ:=Ih hQ;have yZ:=Ih sR;have Pf:=Ih xz;clear sR xz hQ ak;rw[Uv];refine wp_seq ?_
 conv=>arg 2;whnf
 go_wp2_with fail
 conv=>arg 2;whnf
 go_wp2_with fail
 refine aw (fun A1 bc=>?_);have g0:A1.tmps.size=323:=by rw[bc];simp only[Array.size_setIfInBounds];exact hs
 have K1:∀k,k≠10->k≠11->A1.tmps[k]? =A0.tmps[k]? :=fun k hk cf=>by
  rw[bc];simp(disch:=first |exact hk.symm|exact cf.symm) only[Array.getElem?_setIfInBounds_ne]
 have om:A1.tmps[10]? =some (.slice none 0 0):=by rw[bc];simp only[Array.getElem?_setIfInBounds,Array.size_setIfInBounds,hs];rfl
 have tp:A1.tmps[11]? =some (.int .i64 0):=by rw[bc];simp only[Array.getElem?_setIfInBounds,Array.size_setIfInBounds,hs];rfl
 have D1:A1.defers=A0.defers:=by rw[bc]
 clear bc;rw[PV];refine Mn A1 w0 w0 _ m bb a0 Lb sN (.slice none 0 0) g0 ((K1 8 (by decide) (by decide)).trans t8) ((K1 9 (by decide) (by decide)).trans t9) om tp ⟨rfl,.inl ⟨rfl,rfl⟩⟩ (Below.refl _ _) (fun i=>by rw[Lz.jT];exact Lz.bL bb i) (fun c a a' w h=>qH.out c a a' w h) (fun A2 w2 v2 z2 d2 k2 p2 o2 b2=>?_);obtain⟨g,c,rfl,wJ⟩:=bZ.form o2 (by rw[Lz.jT,Lz.bL];decide);have HAt:=Ih wJ;have hl:(Lz.aY bb 64).length=64:=by rw[Lz.jT];exact Lz.bL bb 64
 rw[hl]at p2;clear wJ o2
 go_wp2_with fail
 refine Ql A2 w2 _ h g6 c6 z2 ((k2 6 (by decide)).trans ((K1 6 (by decide) (by decide)).trans t6)) ?_ (fun c a a' w h=>qH.out c a a' w h) (fun A3 w3 z3 d3 k3 s3 b3=>?_)
 ·exact Pf.out.below b2
 go_wp2_with fail
 conv=>arg 2;whnf
 go_wp2_with fail
 refine aw (fun A4 th=>?_);have g4s:A4.tmps.size=323:=by rw[th];simp only[Array.size_setIfInBounds];exact z3
 have K4:∀k,k≠23->A4.tmps[k]? =A3.tmps[k]? :=fun k hk=>by
  rw[th];simp(disch:=exact hk.symm) only[Array.getElem?_setIfInBounds_ne]
 have R7:A4.tmps[23]? =some (.int .i64 0):=by rw[th];simp only[Array.getElem?_setIfInBounds,z3];rfl
 have D4:A4.defers=A0.defers:=by rw[th]
 clear th;have Wq:=b2.trans (b3.mono b2.size);rw[PE];have old:∀k,(k<6\/(6<k/\k<10)\/(25<k/\k<65)\/290<k\/k=6)->A4.tmps[k]? =A0.tmps[k]? :=fun k hk=>(K4 k (by omega)).trans ((k3 k (by omega) (by omega)).trans ((k2 k (by omega)).trans (K1 k (by omega) (by omega))));have o4:=(old 4 (by decide)).trans t4;have Wf:=(K4 10 (by decide)).trans ((k3 10 (by decide) (by decide)).trans p2);refine PR A4 w3 _ aP bb h g4 c4 g c g4s o4 Wf R7 (s3.kept (fun j h1 h2=>K4 j (by omega))) ?_ ?_ (fun c a a' w h=>qH.out c a a' w h) (fun A5 w5 z5 d5 k5 s5 b5=>?_)
 ·intro i hi;exact(Wq.cell (p:=⟨g4,i,none⟩) (World.block_lt_of_cell? _ _ (yZ.out i hi))).trans (yZ.out i hi)
 ·intro i hi;have e:=HAt.out i (by rw[hl];exact hi);rw[Lz.jT]at e;exact(b3.cell (p:=⟨g,i,none⟩) (World.block_lt_of_cell? _ _ e)).trans e
 have V0:=Wq.trans (b5.mono Wq.size)
 go_wp2_with fail
 refine Qr A5 w5 _ h (Lz.eT aP bb h 64) g6 c6 z5 ((k5 6 (by decide)).trans ((old 6 (by decide)).trans t6)) (Pf.out.below V0) s5 (fun c a a' w h=>qH.out c a a' w h) (fun A6 w6 G z6 d6 k6 p6 c8 b6=>?_);exact HQ.out A6 w6 G z6 (d6.trans (d5.trans D4)) (fun k hk=>(k6 k (by omega) (by omega)).trans ((k5 k (by omega)).trans (old k (by omega)))) p6 c8 (V0.trans (b6.mono V0.size))
attribute [local go_sem ↓] Go.wp_at_zero Go.wp_at_succ
theorem qD {α:Type} (f:α->List UInt8->α) (size a:Nat) (h:α) (l:List UInt8):Lz.bh f size (a+1) h l=f (Lz.bh f size a h l) ((l.drop (size*a)).take size):=by
 rw[Lz.pq];rfl
theorem Eg (m:ByteArray) (a0 x:Nat) (hx:x<64) (h:a0+64<=m.size):∃h:a0+x<m.size,((m.data.toList.drop a0).take 64).getD x 0=m[a0+x]:=by
 have hl:a0+x<m.data.toList.length:=by rw[Array.length_toList];show a0+x<m.size;omega
 refine⟨by omega,?_⟩;rw[List.getD_eq_getElem?_getD,List.getElem?_take_of_lt hx,List.getElem?_drop,List.getElem?_eq_getElem hl];rfl
def Yr (b:Option Code):Code:=.block 5 (uh b)
theorem Vj:Fb Tryz.f67.body=.seq (dn1 (Fb Tryz.f67.body)) (.seq (Yr Tryz.f67.body) (dn2 (dn2 (Fb Tryz.f67.body)))):=by kernel_rfl
theorem NB (k:Nat) (h:k<59\/62<k) (s:Nat) (hs:59<=s/\s<=62):s≠k:=by omega
def yL (A A':Act):Prop:=∀k,(k<6\/k=7\/k=8\/(25<k/\k<59)\/290<k)->A'.tmps[k]? =A.tmps[k]?
theorem yL.trans {A B C:Act} (h:yL A B) (k:yL B C):yL A C:=fun i hi=>(k i hi).trans (h i hi)
def at9 (A:Act):Nat:=(intOf ((A.tmps[9]?).getD (.bool false))).toNat
theorem M1 {A:Act} {i:Nat} (h:A.tmps[9]? =some (.int .i64 (i:Int))):at9 A=i:=by unfold at9;rw[h];rfl
def L3I (A0:Act) (w0:World) (aP:List UInt32) (l:List UInt8) (N:Nat) (h:Lz.St8 UInt32) (A:Act) (w:World):Prop:=∃(n G c:Nat),n<=N/\A.tmps.size=323/\A.defers=A0.defers/\yL A0 A/\A.tmps[9]? =some (.int .i64 ((64*n:Nat):Int))/\A.tmps[6]? =some (.slice (some ⟨G,0,none⟩) 8 c)/\fG w G (Lz.bh (Lz.fA aP) 64 n h l)/\Below w0.heap.size w0 w
theorem UU (A:Act) (w:World) (Q:Exit->Act->World->Prop) (i j:Nat) (hi:i<=1073742000) (hj:j=i+64) (hs:A.tmps.size=323) (t9:A.tmps[9]? =some (.int .i64 (i:Int)))
  (hQ:∀A',A'.tmps.size=323->A'.defers=A.defers->eI 9 63 64 A A'->A'.tmps[9]? =some (.int .i64 (j:Int))->Q .normal A' w):
  Code.wp Tryz.prog (dn2 (dn2 (Fb Tryz.f67.body))) Q A w:=by
 obtain⟨b9,e9⟩:=ag t9;have f1:IntKind.i64.wrap ((i:Int)+64)=(j:Int):=by rw[IntWalk.i64_in _ (by omega)];omega
 have HQ:=Ih hQ;clear hQ hj
 conv=>arg 2;whnf
 go_wp2_with fail
 refine HQ.out _ ?_ ?_ ?_ ?_
 ·simp only[Array.size_setIfInBounds];exact hs
 ·rfl
 ·intro k hk cf
  simp(disch:=exact bf k hk cf _ (by decide)) only[Array.getElem?_setIfInBounds_ne]
 ·rw[Array.getElem?_setIfInBounds_self_of_lt (by simp only[Array.size_setIfInBounds];rw[hs];decide)]
theorem Q6 (A0:Act) (w0:World) (Q:Exit->Act->World->Prop) (aP:List UInt32) (m:ByteArray) (N:Nat) (h:Lz.St8 UInt32) (g4 c4 g6 c6:Nat) (hN:m.size=64*N) (hm:m.size<=1073742000)
  (hs:A0.tmps.size=323) (t4:A0.tmps[4]? =some (.slice (some ⟨g4,0,none⟩) 64 c4)) (t6:A0.tmps[6]? =some (.slice (some ⟨g6,0,none⟩) 8 c6)) (t8:A0.tmps[8]? =some (.string m)) (t9:A0.tmps[9]? =some (.int .i64 0))
  (sR:∀i,i<64->w0.cell? ⟨g4,i,none⟩=some (.int .u32 (N32 (aP.getD i 0)))) (xz:fG w0 g6 h)
  (ak:∀c a a' w,Q (.panic c) a w->Q (.panic c) a' w)
  (hQ:∀A' w' G c,A'.tmps.size=323->A'.defers=A0.defers->yL A0 A'->A'.tmps[6]? =some (.slice (some ⟨G,0,none⟩) 8 c)->fG w' G (Lz.bh (Lz.fA aP) 64 N h m.data.toList)->Below w0.heap.size w0 w'->Q .normal A' w'):
  Code.wp Tryz.prog (.block 4 (.loop (Fb Tryz.f67.body))) Q A0 w0:=by
 refine wp_block (wp_loop (L3I A0 w0 aP m.data.toList N h) (fun a _=>64*N-at9 a) ⟨0,g6,c6,Nat.zero_le _,hs,rfl,fun _ _=>rfl,t9,t6,xz,Below.refl _ _⟩ ?_);rintro A w ⟨n,G,c,hn,hs,hd,hk,t9,t6,xz,aC⟩;have t4:=(hk 4 (by decide)).trans t4;have t8:=(hk 8 (by decide)).trans t8;obtain⟨b9,e9⟩:=ag t9;obtain⟨b8,e8⟩:=ag t8;have HI:Hid (∀A' w',L3I A0 w0 aP m.data.toList N h A' w'->64*N-at9 A'<64*N-at9 A->Exit.then (fun a' w'=>L3I A0 w0 aP m.data.toList N h a' w'/\64*N-at9 a'<64*N-at9 A) (Exit.inBlock 4 Q) .normal A' w'):=Ih (fun A' w' h1 h2=>⟨h1,h2⟩);have qH:=Ih ak;have HQ:=Ih hQ;have HM:=Ih (M1 t9);have yZ:=Ih sR;have HN:=Ih hN;clear sR hQ ak hN;rw[Vj];refine wp_seq ?_;obtain⟨p,hp⟩:∃p,p=64*n:=⟨_,rfl⟩;rw[<-hp]at t9 e9;have Hp:=Ih hp;clear hp
 conv=>arg 2;whnf
 go_wp2_with fail
 by_cases aL:n<N
 ·have aK:p<m.size:=by rw[HN.out,Hp.out];omega
  refine wp_cond_true (by simp[Act.eval,hs,aK]) ?_;refine aw (fun A1 bc=>?_);have g0:A1.tmps.size=323:=by rw[bc];simp only[Array.size_setIfInBounds];exact hs
  have K1:∀k,(k<59\/62<k)->A1.tmps[k]? =A.tmps[k]? :=fun k hk=>by
   rw[bc];simp(disch:=exact NB k hk _ (by decide)) only[Array.getElem?_setIfInBounds_ne]
  have D1:A1.defers=A0.defers:=by rw[bc]
  clear bc e9 e8 aK;have hb:=b9;have Wd:p+64<=m.size:=by rw[HN.out,Hp.out];omega
  have kO:∀q:Addr,q.block<w0.heap.size->w.cell? q=w0.cell? q:=fun q hq=>aC.cell hq
  go_wp2_with fail
  refine wp_block ?_;refine JO A1 w _ aP m ((m.data.toList.drop p).take 64) p (Lz.bh (Lz.fA aP) 64 n h m.data.toList) (by omega) (Ih (fun x hx=>Eg m p x hx Wd)) g4 c4 G c g0 ((K1 4 (by decide)).trans t4) ((K1 6 (by decide)).trans t6) ((K1 8 (by decide)).trans t8) ((K1 9 (by decide)).trans t9) (fun i hi=>(kO ⟨g4,i,none⟩ (World.block_lt_of_cell? _ _ (yZ.out i hi))).trans (yZ.out i hi)) xz (fun c a a' w h=>qH.out c a a' w h) (fun A2 w2 G2 z2 d2 k2 p2 c2 b2=>?_)
  go_wp2_with fail
  refine UU A2 w2 _ p (p+64) (by omega) rfl z2 ((k2 9 (by decide)).trans ((K1 9 (by decide)).trans t9)) (fun A3 z3 d3 k3 r3=>?_);have ep:p+64=64*(n+1):=by rw[Hp.out];omega
  rw[ep]at r3;exact HI.out A3 w2 ⟨n+1,G2,8,by omega,z3,d3.trans (d2.trans D1),hk.trans (fun k hk=>(k3 k (by omega) (by omega)).trans ((k2 k (by omega)).trans (K1 k (by omega)))),r3,(k3 6 (by decide) (by decide)).trans p2,by rw[qD,<-Hp.out];exact c2,aC.trans (b2.mono aC.size)⟩ (by rw[M1 r3,HM.out];omega)
 ·have aK:m.size<=p:=by rw[HN.out,Hp.out];omega
  refine wp_cond_false (by simp[Act.eval,hs,aK]) ?_;refine aw (fun A1 bc=>?_);have g0:A1.tmps.size=323:=by rw[bc];simp only[Array.size_setIfInBounds];exact hs
  have K1:∀k,(k<59\/62<k)->A1.tmps[k]? =A.tmps[k]? :=fun k hk=>by
   rw[bc];simp(disch:=exact NB k hk _ (by decide)) only[Array.getElem?_setIfInBounds_ne]
  have D1:A1.defers=A0.defers:=by rw[bc]
  clear bc e9 e8 aK;obtain rfl:n=N:=by omega
  go_wp2_with fail
  exact HQ.out A1 w G c g0 D1 (hk.trans (fun k hk=>K1 k (by omega))) ((K1 6 (by decide)).trans t6) xz aC
attribute [local go_sem ↓] Go.wp_at_zero Go.wp_at_succ
theorem Qz:ug Tryz.f67.body=.seq (dn1 (ug Tryz.f67.body)) (.seq (.block 11 (N4 Tryz.f67.body)) (dn2 (dn2 (ug Tryz.f67.body)))):=by kernel_rfl
def yr (A A':Act):Prop:=∀k,(k<26\/(27<k/\k<291)\/321<k)->A'.tmps[k]? =A.tmps[k]?
theorem yr.trans {A B C:Act} (h:yr A B) (k:yr B C):yr A C:=fun i hi=>(k i hi).trans (h i hi)
def Ef (A:Act):Nat:=(intOf ((A.tmps[27]?).getD (.bool false))).toNat
theorem Is {A:Act} {i:Nat} (h:A.tmps[27]? =some (.int .i64 (i:Int))):Ef A=i:=by unfold Ef;rw[h];rfl
def Kc (h:Lz.St8 UInt32) (i:Nat):List UInt8:=(h.list.take i).flatMap Lz.ik
theorem I8 (h:Lz.St8 UInt32) (i:Nat) (hi:i<8):Kc h (i+1)=Kc h i++Lz.ik (h.list.getD i 0):=by
 have hl:i<h.list.length:=hi;unfold Kc;rw[List.take_add_one,List.flatMap_append,List.getElem?_eq_getElem hl,List.getD_eq_getElem?_getD,List.getElem?_eq_getElem hl]
 simp
theorem Mo (h:Lz.St8 UInt32) (i:Nat):(Kc h i).length<=32:=by
 have h1:∀l:List UInt32,(l.flatMap Lz.ik).length=4*l.length:=by
  intro l
  induction l with
  | nil=>rfl
  | cons a r ih=>rw[List.flatMap_cons,List.length_append,ih,List.length_cons];show 4+_=_;omega
 unfold Kc;rw[h1,List.length_take];have:h.list.length=8:=rfl;omega
theorem fG.at {w:World} {g:Nat} {s:Lz.St8 UInt32} (h:fG w g s) (i:Nat) (hi:i<8):w.cell? ⟨g,i,none⟩=some (.int .u32 (N32 (s.list.getD i 0))):=by
 obtain⟨c0,c1,c2,c3,c4,c5,c6,c7⟩:=h
 match i,hi with
 | 0,_=>exact c0
 | 1,_=>exact c1
 | 2,_=>exact c2
 | 3,_=>exact c3
 | 4,_=>exact c4
 | 5,_=>exact c5
 | 6,_=>exact c6
 | 7,_=>exact c7
def L6I (A0:Act) (w0:World) (h:Lz.St8 UInt32) (A:Act) (w:World):Prop:=∃(i:Nat) (r:ByteArray),i<=8/\A.tmps.size=323/\A.defers=A0.defers/\yr A0 A/\A.tmps[27]? =some (.int .i64 (i:Int))/\A.tmps[26]? =some (.string r)/\r.data.toList=Kc h i/\Below w0.heap.size w0 w
theorem UT (A:Act) (w:World) (Q:Exit->Act->World->Prop) (i:Nat) (hi:i<8) (hs:A.tmps.size=323) (t27:A.tmps[27]? =some (.int .i64 (i:Int)))
  (hQ:∀A',A'.tmps.size=323->A'.defers=A.defers->eI 27 293 294 A A'->A'.tmps[27]? =some (.int .i64 ((i+1:Nat):Int))->Q .normal A' w):
  Code.wp Tryz.prog (dn2 (dn2 (ug Tryz.f67.body))) Q A w:=by
 obtain⟨b27,e27⟩:=ag t27;have f1:IntKind.i64.wrap ((i:Int)+1)=((i+1:Nat):Int):=by rw[IntWalk.i64_in _ (by omega)];omega
 have HQ:=Ih hQ;clear hQ f1
 conv=>arg 2;whnf
 go_wp2_with fail
 refine HQ.out _ ?_ ?_ ?_ ?_
 ·simp only[Array.size_setIfInBounds];exact hs
 ·rfl
 ·intro k hk cf
  simp(disch:=exact bf k hk cf _ (by decide)) only[Array.getElem?_setIfInBounds_ne]
 ·rw[Array.getElem?_setIfInBounds_self_of_lt (by simp only[Array.size_setIfInBounds];rw[hs];decide)];rw[show((i+1:Nat):Int)=(i:Int)+1 by omega]
theorem PW (A0:Act) (w0:World) (Q:Exit->Act->World->Prop) (h:Lz.St8 UInt32) (g c:Nat)
  (hs:A0.tmps.size=323) (t6:A0.tmps[6]? =some (.slice (some ⟨g,0,none⟩) 8 c)) (t26:A0.tmps[26]? =some (.string ⟨#[]⟩)) (t27:A0.tmps[27]? =some (.int .i64 0)) (xz:fG w0 g h)
  (ak:∀c a a' w,Q (.panic c) a w->Q (.panic c) a' w)
  (hQ:∀A' w' r,A'.tmps.size=323->A'.defers=A0.defers->A'.tmps[26]? =some (.string r)->r.data.toList=Lz.xN h->Below w0.heap.size w0 w'->Q .normal A' w'):
  Code.wp Tryz.prog (.block 10 (.loop (ug Tryz.f67.body))) Q A0 w0:=by
 refine wp_block (wp_loop (L6I A0 w0 h) (fun a _=>8-Ef a) ⟨0,⟨#[]⟩,by decide,hs,rfl,fun _ _=>rfl,t27,t26,rfl,Below.refl _ _⟩ ?_);rintro A w ⟨i,r,hi,hs,hd,hk,t27,t26,hr,aC⟩;have t6:=(hk 6 (by decide)).trans t6;have AC:r.size<=1000:=by have h1:=Mo h i;rw[<-hr,ac]at h1;omega
 obtain⟨b27,e27⟩:=ag t27;have HI:Hid (∀A' w',L6I A0 w0 h A' w'->8-Ef A'<8-Ef A->Exit.then (fun a' w'=>L6I A0 w0 h a' w'/\8-Ef a'<8-Ef A) (Exit.inBlock 10 Q) .normal A' w'):=Ih (fun A' w' h1 h2=>⟨h1,h2⟩);have qH:=Ih ak;have HQ:=Ih hQ;have M:=Is t27;have Pf:=Ih xz;have HR:=Ih hr;clear xz hQ ak hr;rw[Qz];refine wp_seq ?_
 conv=>arg 2;whnf
 go_wp2_with fail
 by_cases aL:i<8
 ·have aK:(i:Int)<8:=by omega
  refine wp_cond_true (by simp[Act.eval,hs,aK]) ?_;refine aw (fun A1 bc=>?_);have g0:A1.tmps.size=323:=by rw[bc];simp only[Array.size_setIfInBounds];exact hs
  have K1:∀k,k≠291->k≠292->A1.tmps[k]? =A.tmps[k]? :=fun k hk cf=>by
   rw[bc];simp(disch:=first |exact hk.symm|exact cf.symm) only[Array.getElem?_setIfInBounds_ne]
  have D1:A1.defers=A0.defers:=by rw[bc];try exact hd
  clear bc e27 aK;have g6:=(K1 6 (by decide) (by decide)).trans t6;have Wj:=(K1 26 (by decide) (by decide)).trans t26;have XX:=(K1 27 (by decide) (by decide)).trans t27;have HK:yr A0 A1:=hk.trans (fun k hk=>K1 k (by omega) (by omega));have d6:=(aC.cell (World.block_lt_of_cell? _ _ (Pf.out.at i aL))).trans (Pf.out.at i aL);clear K1 hk t6 t26 t27
  go_wp2_with fail
  refine QP A1 w _ (h.list.getD i 0) r g 8 c i AC g0 g6 Wj XX (by omega) d6 (fun c a a' w h=>qH.out c a a' w h) (fun A2 w2 z2 d2 k2 r2 b2=>?_)
  go_wp2_with fail
  refine UT A2 w2 _ i aL z2 ((k2 27 (by decide) (by decide)).trans XX) (fun A3 z3 d3 k3 r3=>?_);exact HI.out A3 w2 ⟨i+1,_,by omega,z3,d3.trans (d2.trans D1),HK.trans (fun k hk=>(k3 k (by omega) (by omega)).trans (k2 k (by omega) (by omega))),r3,(k3 26 (by decide) (by decide)).trans r2,by rw[I8 h i aL,<-HR.out,ByteArray.data_append,Array.toList_append],aC.trans (b2.mono aC.size)⟩ (by rw[Is r3,M];omega)
 ·have aK:¬((i:Int)<8):=by omega
  obtain rfl:i=8:=by omega
  refine wp_cond_false (by simp[Act.eval,hs]) ?_;refine aw (fun A1 bc=>?_);have g0:A1.tmps.size=323:=by rw[bc];simp only[Array.size_setIfInBounds];exact hs
  have K1:∀k,k≠291->k≠292->A1.tmps[k]? =A.tmps[k]? :=fun k hk cf=>by
   rw[bc];simp(disch:=first |exact hk.symm|exact cf.symm) only[Array.getElem?_setIfInBounds_ne]
  have D1:A1.defers=A0.defers:=by rw[bc];try exact hd
  have Wj:=(K1 26 (by decide) (by decide)).trans t26;clear bc e27 aK
  go_wp2_with fail
  exact HQ.out A1 w r g0 D1 Wj (by rw[HR.out];rfl) aC
attribute [local go_sem ↓] Go.wp_at_zero Go.wp_at_succ
def Ch (b:Option Code):Code:=dn2 (dn2 (dn2 (dn2 (dn2 (dn2 (dno b))))))
def X6 (b:Option Code):Code:=.block 4 (.loop (Fb b))
def VI (b:Option Code):Code:=.block 10 (.loop (ug b))
def Ur (b:Option Code):Code:=dn1 (dn1 (dn2 (Ch b)))
def Ve (b:Option Code):Code:=dn1 (dn1 (dn2 (dn2 (dn2 (Ch b)))))
theorem VM:Ch Tryz.f67.body=.seq (dn1 (Ch Tryz.f67.body)) (.seq (.seq (Ur Tryz.f67.body) (X6 Tryz.f67.body)) (.seq (dn1 (dn2 (dn2 (Ch Tryz.f67.body)))) (.seq (.seq (Ve Tryz.f67.body) (VI Tryz.f67.body)) (dn2 (dn2 (dn2 (dn2 (Ch Tryz.f67.body)))))))):=by kernel_rfl
theorem Vk (A0:Act) (w0:World) (Q:Exit->Act->World->Prop) (s:ByteArray) (fu:s.size<=1073741824) (aP:List UInt32) (h:Lz.St8 UInt32) (g4 c4 g6 c6:Nat)
  (hs:A0.tmps.size=323) (t0:A0.tmps[0]? =some (.string s)) (t4:A0.tmps[4]? =some (.slice (some ⟨g4,0,none⟩) 64 c4)) (t6:A0.tmps[6]? =some (.slice (some ⟨g6,0,none⟩) 8 c6))
  (sR:∀i,i<64->w0.cell? ⟨g4,i,none⟩=some (.int .u32 (N32 (aP.getD i 0)))) (xz:fG w0 g6 h)
  (ak:∀c a a' w,Q (.panic c) a w->Q (.panic c) a' w)
  (hQ:∀A' w' r,A'.tmps.size=323->A'.defers=A0.defers->A'.tmps[2]? =some (.string r)->r.data.toList=Lz.iJ aP h s.data.toList->Below w0.heap.size w0 w'->Q .ret A' w'):
  Code.wp Tryz.prog (Ch Tryz.f67.body) Q A0 w0:=by
 obtain⟨b0,e0⟩:=ag t0;have cM:=Ih (so s 64 8 (Or.inl ⟨rfl,rfl⟩) fu w0);rw[Vy,ac]at cM;have qH:=Ih ak;have HQ:=Ih hQ;have yZ:=Ih sR;have Pf:=Ih xz;clear sR xz hQ ak t0;rw[VM];refine wp_seq ?_
 conv=>arg 2;whnf
 go_wp2_with fail
 go_at_call 112
 refine(cM.out.mono ?_);rintro e w1 ⟨m,rfl,hm,av⟩;have HM:=Ih hm;clear hm cM
 go_wp2_with fail
 refine aw (fun A1 bc=>?_);have g0:A1.tmps.size=323:=by rw[bc];simp only[Array.size_setIfInBounds];exact hs
 have K1:∀k,k<8->A1.tmps[k]? =A0.tmps[k]? :=fun k hk=>by
  rw[bc];simp(disch:=omega) only[Array.getElem?_setIfInBounds_ne]
 have g8:A1.tmps[8]? =some (.string m):=by rw[bc];simp only[Array.getElem?_setIfInBounds,Array.size_setIfInBounds,hs];rfl
 have D1:A1.defers=A0.defers:=by rw[bc]
 clear bc e0
 conv=>arg 2;whnf
 go_wp2_with fail
 refine aw (fun A2 AL=>?_);have z2:A2.tmps.size=323:=by rw[AL];simp only[Array.size_setIfInBounds];exact g0
 have K2:∀k,k≠9->A2.tmps[k]? =A1.tmps[k]? :=fun k hk=>by
  rw[AL];simp(disch:=exact hk.symm) only[Array.getElem?_setIfInBounds_ne]
 have g9:A2.tmps[9]? =some (.int .i64 0):=by rw[AL];simp only[Array.getElem?_setIfInBounds,g0];rfl
 have D2:A2.defers=A0.defers:=by rw[AL];try exact D1
 clear AL;have Wi:m.size=(s.data.toList++Lz.lH s.size).length:=by rw[<-HM.out.out,<-ac]
 have oj:=Lz.BH s.size;have Px:(s.data.toList++Lz.lH s.size).length=s.size+(72-(s.size+8)%64):=by rw[List.length_append,oj,ac]
 obtain⟨N,hN⟩:∃N,s.size+(72-(s.size+8)%64)=64*N:=⟨(s.size+(72-(s.size+8)%64)) / 64,by omega⟩;have hmN:m.size=64*N:=by rw[Wi,Px,hN]
 have hmz:m.size<=1073742000:=by rw[Wi,Px];omega
 have HE:Hid (∀h',h'=Lz.bh (Lz.fA aP) 64 N h m.data.toList->Lz.xN h'=Lz.iJ aP h s.data.toList):=Ih (fun h' e=>by
  rw[e,Lz.NA,ac,<-HM.out.out,ac,hmN,Nat.mul_div_cancel_left N (by decide)])
 clear Wi oj Px hN;refine Q6 A2 w1 _ aP m N h g4 c4 g6 c6 hmN hmz z2 ((K2 4 (by decide)).trans ((K1 4 (by decide)).trans t4)) ((K2 6 (by decide)).trans ((K1 6 (by decide)).trans t6)) ((K2 8 (by decide)).trans g8) g9 ?_ (Pf.out.below av) (fun c a a' w h=>qH.out c a a' w h) (fun A3 w3 G cc z3 d3 k3 p3 c3 b3=>?_)
 ·intro i hi;exact(av.cell (p:=⟨g4,i,none⟩) (World.block_lt_of_cell? _ _ (yZ.out i hi))).trans (yZ.out i hi)
 obtain⟨h',VV⟩:∃h',h'=Lz.bh (Lz.fA aP) 64 N h m.data.toList:=⟨_,rfl⟩;rw[<-VV]at c3;have E:=HE.out h' VV;clear VV HE
 go_wp2_with fail
 conv=>arg 2;whnf
 go_wp2_with fail
 conv=>arg 2;whnf
 go_wp2_with fail
 refine aw (fun A4 th=>?_);have z4:A4.tmps.size=323:=by rw[th];simp only[Array.size_setIfInBounds];exact z3
 have K4:∀k,k<26->A4.tmps[k]? =A3.tmps[k]? :=fun k hk=>by
  rw[th];simp(disch:=omega) only[Array.getElem?_setIfInBounds_ne]
 have Wj:A4.tmps[26]? =some (.string ⟨#[]⟩):=by rw[th];simp only[Array.getElem?_setIfInBounds,Array.size_setIfInBounds,z3];rfl
 have XX:A4.tmps[27]? =some (.int .i64 0):=by rw[th];simp only[Array.getElem?_setIfInBounds,Array.size_setIfInBounds,z3];rfl
 have D4:A4.defers=A0.defers:=by rw[th];try exact d3.trans D2
 clear th;refine PW A4 w3 _ h' G cc z4 ((K4 6 (by decide)).trans p3) Wj XX c3 (fun c a a' w h=>qH.out c a a' w h) (fun A5 w5 r z5 d5 p5 hr b5=>?_);obtain⟨b26,e26⟩:=ag p5;have HR:=Ih hr;clear hr
 go_wp2_with fail
 conv=>arg 2;whnf
 go_wp2_with fail
 have Xb:=av.trans (b3.mono av.size);refine HQ.out _ _ r ?_ ?_ ?_ (HR.out.trans E) (Xb.trans (b5.mono Xb.size))
 ·simp only[Array.size_setIfInBounds];exact z5
 ·first |rfl|exact d5.trans D4
 ·rw[Array.getElem?_setIfInBounds_self_of_lt (by simp only[Array.size_setIfInBounds];rw[z5];decide)]
attribute [local go_sem ↓] Go.wp_at_zero Go.wp_at_succ
def uN (b:Option Code):Code:=dnl (dnb (dn2 (dn1 (dn2 (dn2 (dn2 (dno b)))))))
def Nn (b:Option Code):Code:=dnb (dn1 (dn2 (uN b)))
theorem Q4:uN Tryz.f67.body=.seq (dn1 (uN Tryz.f67.body)) (.seq (.block 1 (Nn Tryz.f67.body)) (dn2 (dn2 (uN Tryz.f67.body)))):=by kernel_rfl
def oQ (A A':Act):Prop:=∀k,(k<4\/(5<k/\k<29)\/42<k)->A'.tmps[k]? =A.tmps[k]?
theorem oQ.trans {A B C:Act} (h:oQ A B) (k:oQ B C):oQ A C:=fun i hi=>(k i hi).trans (h i hi)
theorem J2 (k:Nat) (hk:k≠4) (h:k<33\/42<k) (s:Nat) (hs:s=4\/(33<=s/\s<=42)):s≠k:=by omega
def et1 (A:Act):Nat:=(intOf ((A.tmps[5]?).getD (.bool false))).toNat
theorem Nq {A:Act} {i:Nat} (h:A.tmps[5]? =some (.int .i64 (i:Int))):et1 A=i:=by unfold et1;rw[h];rfl
def E1I (A0:Act) (w0:World) (A:Act) (w:World):Prop:=∃(i:Nat) (v:Value),i<=64/\A.tmps.size=323/\A.defers=A0.defers/\oQ A0 A/\A.tmps[5]? =some (.int .i64 (i:Int))/\A.tmps[4]? =some v/\bZ w w0.heap.size v ((Lz.cp 3 64).take i)/\Below w0.heap.size w0 w
theorem RN (A:Act) (w:World) (Q:Exit->Act->World->Prop) (i:Nat) (hi:i<64) (hs:A.tmps.size=323) (t5:A.tmps[5]? =some (.int .i64 (i:Int)))
  (hQ:∀A',A'.tmps.size=323->A'.defers=A.defers->eI 5 31 32 A A'->A'.tmps[5]? =some (.int .i64 ((i+1:Nat):Int))->Q .normal A' w):
  Code.wp Tryz.prog (dn2 (dn2 (uN Tryz.f67.body))) Q A w:=by
 obtain⟨b5,e5⟩:=ag t5;have f1:IntKind.i64.wrap ((i:Int)+1)=((i+1:Nat):Int):=by rw[IntWalk.i64_in _ (by omega)];omega
 have HQ:=Ih hQ;clear hQ f1
 conv=>arg 2;whnf
 go_wp2_with fail
 refine HQ.out _ ?_ ?_ ?_ ?_
 ·simp only[Array.size_setIfInBounds];exact hs
 ·rfl
 ·intro k hk cf
  simp(disch:=exact bf k hk cf _ (by decide)) only[Array.getElem?_setIfInBounds_ne]
 ·rw[Array.getElem?_setIfInBounds_self_of_lt (by simp only[Array.size_setIfInBounds];rw[hs];decide)];rw[show((i+1:Nat):Int)=(i:Int)+1 by omega]
theorem Rj (A:Act) (w0 w:World) (Q:Exit->Act->World->Prop) (i:Nat) (v:Value) (g o pc:Nat) (aL:i<64)
  (hs:A.tmps.size=323) (t3:A.tmps[3]? =some (.slice (some ⟨g,o,none⟩) 64 pc)) (t4:A.tmps[4]? =some v) (t5:A.tmps[5]? =some (.int .i64 (i:Int)))
  (iE:w.cell? ⟨g,o+i,none⟩=some (.int .i64 (((Lz.a4.take 64).getD i 0:Nat):Int))) (ai:bZ w w0.heap.size v ((Lz.cp 3 64).take i)) (aC:Below w0.heap.size w0 w)
  (hQ:∀A' w' v',A'.tmps.size=323->A'.defers=A.defers->eI 4 33 42 A A'->A'.tmps[4]? =some v'->bZ w' w0.heap.size v' ((Lz.cp 3 64).take (i+1))->Below w0.heap.size w0 w'->Q .normal A' w'):
  Code.wp Tryz.prog (Nn Tryz.f67.body) Q A w:=by
 obtain⟨i0,hi,eZ,d9,eo⟩:=info_parts Au;obtain⟨b3,e3⟩:=ag t3;obtain⟨b4,e4⟩:=ag t4;obtain⟨b5,e5⟩:=ag t5;have j6:(0:Int)<=(i:Int):=by omega
 have Pb:(i:Int)<64:=by omega
 have jE:=qN (C6 3 64 i (by omega) aL)
 have aO:((Lz.cp 3 64).take i).length=i:=by
  rw[List.length_take];have:(Lz.cp 3 64).length=64:=rfl;omega
 have Lc:=BG 3 ((Lz.a4.take 64).getD i 0);have oj:=v8 64 i;generalize (Lz.a4.take 64).getD i 0=p at iE jE Lc oj;have TZ:=Ih (vo p 3 oj (by decide) w);generalize Lz.lZ p 3=X at TZ Lc;generalize Lz.rB 3 p=y at jE Lc;generalize (Lz.cp 3 64).take i=xs at ai jE aO;have fw:=Yf y;have bi:=Ih ai;have II:=Ih jE;have eu:=Ih aO;have HQ:=Ih hQ;clear jE aO ai oj hQ t3 t4 t5
 conv=>arg 2;whnf
 go_wp2_with fail
 go_at_call 111
 refine TZ.out.mono ?_;rintro e w2 ⟨rfl,aE⟩;have bF:=Ih (bi.out.below aE);have eC:=ae aC aE;have ns:=eC.size;unfold bZ at bF
 go_wp2_with (at_builtin;refine wpList_append_own _ rfl (.tmp 33) (.tmp 41) 162 rfl w0.heap.size 123 i0 (.int .u32 0) 1 4 Tryz.underlying162 hi eZ d9 eo rfl (by decide) v xs.length (bV xs) (by simp[Act.eval,hs]) (bF.out.alloc _) ⟨w2.heap.size,0,none⟩ 1 1 [.int .u32 (N32 y)] (by simp[Act.eval,hs]) rfl (aJ _ _ _) (by simp[Value.oneCell']) (by rw[eu.out];unfold maxLen;omega) (by rw[eu.out];omega) (by simp;omega) ?_)
 intro v3 w3 ba oI _;have bj:=Below.grown1 eC bF.out oI ns (Nat.le_refl _)
 have wI:bZ w3 w0.heap.size v3 ((Lz.cp 3 64).take (i+1)):=by
  unfold bZ;rw[II.out,List.length_append];unfold bV at ba⊢;rw[List.map_append];exact ba
 have O8:=Ih wI;clear ba oI wI bF
 go_wp2_with fail
 refine HQ.out _ w3 v3 ?_ ?_ ?_ ?_ O8.out bj
 ·simp only[Array.size_setIfInBounds];exact hs
 ·rfl
 ·intro k hk cf
  simp(disch:=exact J2 k hk cf _ (by decide)) only[Array.getElem?_setIfInBounds_ne]
 ·rw[Array.getElem?_setIfInBounds_self_of_lt (by simp only[Array.size_setIfInBounds];rw[hs];decide)]
theorem RK (A0:Act) (w0:World) (Q:Exit->Act->World->Prop) (pa:Option Addr) (pc:Nat)
  (hs:A0.tmps.size=323) (t3:A0.tmps[3]? =some (.slice pa 64 pc)) (t4:A0.tmps[4]? =some (.slice none 0 0)) (t5:A0.tmps[5]? =some (.int .i64 0))
  (hP:∀j,j<64->∃g off,pa=some ⟨g,off,none⟩/\w0.cell? ⟨g,off+j,none⟩=some (.int .i64 (((Lz.a4.take 64).getD j 0:Nat):Int)))
  (hQ:∀A' w' g c,A'.tmps.size=323->A'.defers=A0.defers->oQ A0 A'->A'.tmps[4]? =some (.slice (some ⟨g,0,none⟩) 64 c)->uM w' g (Lz.cp 3 64)->Below w0.heap.size w0 w'->Q .normal A' w'):
  Code.wp Tryz.prog (.block 0 (.loop (uN Tryz.f67.body))) Q A0 w0:=by
 refine wp_block (wp_loop (E1I A0 w0) (fun a _=>64-et1 a) ⟨0,.slice none 0 0,by decide,hs,rfl,fun _ _=>rfl,t5,t4,World.ownsRow_nil w0 _ _ _,Below.refl _ _⟩ ?_);rintro A w ⟨i,v,hi,hs,hd,hk,t5,t4,ai,aC⟩;have t3:=(hk 3 (by decide)).trans t3;obtain⟨b5,e5⟩:=ag t5;have HI:Hid (∀A' w',E1I A0 w0 A' w'->64-et1 A'<64-et1 A->Exit.then (fun a' w'=>E1I A0 w0 a' w'/\64-et1 a'<64-et1 A) (Exit.inBlock 0 Q) .normal A' w'):=Ih (fun A' w' h1 h2=>⟨h1,h2⟩);have HQ:=Ih hQ;have M:=Ih (Nq t5);have HP:=Ih hP;have bi:=Ih ai;clear hQ hP ai;rw[Q4];refine wp_seq ?_
 conv=>arg 2;whnf
 go_wp2_with fail
 by_cases aL:i<64
 ·have aK:(i:Int)<64:=by omega
  refine wp_cond_true (by simp[Act.eval,hs,aK]) ?_;refine aw (fun A1 bc=>?_);have g0:A1.tmps.size=323:=by rw[bc];simp only[Array.size_setIfInBounds];exact hs
  have K1:∀k,k≠29->k≠30->A1.tmps[k]? =A.tmps[k]? :=fun k hk cf=>by
   rw[bc];simp(disch:=first |exact hk.symm|exact cf.symm) only[Array.getElem?_setIfInBounds_ne]
  have D1:A1.defers=A0.defers:=by rw[bc];try exact hd
  clear bc e5 aK;obtain⟨g,o,rfl,hc⟩:=HP.out i (by omega);have iE:=(aC.cell (p:=⟨g,o+i,none⟩) (World.block_lt_of_cell? _ _ hc)).trans hc;have HK:oQ A0 A1:=hk.trans (fun k hk=>K1 k (by omega) (by omega))
  go_wp2_with fail
  refine Rj A1 w0 w _ i v g o pc aL g0 ((K1 3 (by decide) (by decide)).trans t3) ((K1 4 (by decide) (by decide)).trans t4) ((K1 5 (by decide) (by decide)).trans t5) iE bi.out aC (fun A2 w2 v2 z2 d2 k2 p2 o2 b2=>?_)
  go_wp2_with fail
  refine RN A2 w2 _ i aL z2 ((k2 5 (by decide) (by decide)).trans ((K1 5 (by decide) (by decide)).trans t5)) (fun A3 z3 d3 k3 r3=>?_);exact HI.out A3 w2 ⟨i+1,v2,by omega,z3,d3.trans (d2.trans D1),HK.trans (fun k hk=>(k3 k (by omega) (by omega)).trans (k2 k (by omega) (by omega))),r3,(k3 4 (by decide) (by decide)).trans p2,o2,b2⟩ (by rw[Nq r3,M.out];omega)
 ·have aK:¬((i:Int)<64):=by omega
  obtain rfl:i=64:=by omega
  refine wp_cond_false (by simp[Act.eval,hs]) ?_;refine aw (fun A1 bc=>?_);have g0:A1.tmps.size=323:=by rw[bc];simp only[Array.size_setIfInBounds];exact hs
  have K1:∀k,k≠29->k≠30->A1.tmps[k]? =A.tmps[k]? :=fun k hk cf=>by
   rw[bc];simp(disch:=first |exact hk.symm|exact cf.symm) only[Array.getElem?_setIfInBounds_ne]
  have D1:A1.defers=A0.defers:=by rw[bc];try exact hd
  clear bc e5 aK;have hT:(Lz.cp 3 64).take 64=Lz.cp 3 64:=rfl;rw[hT]at bi;obtain⟨g,c,rfl,hK⟩:=bi.out.form (by decide);have hL:(Lz.cp 3 64).length=64:=rfl;rw[hL]at t4
  go_wp2_with fail
  exact HQ.out A1 w g c g0 D1 (hk.trans (fun k hk=>K1 k (by omega) (by omega))) ((K1 4 (by decide) (by decide)).trans t4) hK aC
def vX (b:Option Code):Code:=dnl (dnb (dn2 (dn1 (dn2 (dn2 (dn2 (dn2 (dn2 (dno b)))))))))
def Nf (b:Option Code):Code:=dnb (dn1 (dn2 (vX b)))
theorem P6:vX Tryz.f67.body=.seq (dn1 (vX Tryz.f67.body)) (.seq (.block 3 (Nf Tryz.f67.body)) (dn2 (dn2 (vX Tryz.f67.body)))):=by kernel_rfl
def pt (A A':Act):Prop:=∀k,(k<6\/(7<k/\k<43)\/56<k)->A'.tmps[k]? =A.tmps[k]?
theorem pt.trans {A B C:Act} (h:pt A B) (k:pt B C):pt A C:=fun i hi=>(k i hi).trans (h i hi)
theorem Js (k:Nat) (hk:k≠6) (h:k<47\/56<k) (s:Nat) (hs:s=6\/(47<=s/\s<=56)):s≠k:=by omega
def et2 (A:Act):Nat:=(intOf ((A.tmps[7]?).getD (.bool false))).toNat
theorem MM {A:Act} {i:Nat} (h:A.tmps[7]? =some (.int .i64 (i:Int))):et2 A=i:=by unfold et2;rw[h];rfl
def E2I (A0:Act) (w0:World) (A:Act) (w:World):Prop:=∃(i:Nat) (v:Value),i<=8/\A.tmps.size=323/\A.defers=A0.defers/\pt A0 A/\A.tmps[7]? =some (.int .i64 (i:Int))/\A.tmps[6]? =some v/\bZ w w0.heap.size v ((Lz.cp 2 8).take i)/\Below w0.heap.size w0 w
theorem P0 (A:Act) (w:World) (Q:Exit->Act->World->Prop) (i:Nat) (hi:i<8) (hs:A.tmps.size=323) (t5:A.tmps[7]? =some (.int .i64 (i:Int)))
  (hQ:∀A',A'.tmps.size=323->A'.defers=A.defers->eI 7 45 46 A A'->A'.tmps[7]? =some (.int .i64 ((i+1:Nat):Int))->Q .normal A' w):
  Code.wp Tryz.prog (dn2 (dn2 (vX Tryz.f67.body))) Q A w:=by
 obtain⟨b5,e5⟩:=ag t5;have f1:IntKind.i64.wrap ((i:Int)+1)=((i+1:Nat):Int):=by rw[IntWalk.i64_in _ (by omega)];omega
 have HQ:=Ih hQ;clear hQ f1
 conv=>arg 2;whnf
 go_wp2_with fail
 refine HQ.out _ ?_ ?_ ?_ ?_
 ·simp only[Array.size_setIfInBounds];exact hs
 ·rfl
 ·intro k hk cf
  simp(disch:=exact bf k hk cf _ (by decide)) only[Array.getElem?_setIfInBounds_ne]
 ·rw[Array.getElem?_setIfInBounds_self_of_lt (by simp only[Array.size_setIfInBounds];rw[hs];decide)];rw[show((i+1:Nat):Int)=(i:Int)+1 by omega]
theorem PB (A:Act) (w0 w:World) (Q:Exit->Act->World->Prop) (i:Nat) (v:Value) (g o pc:Nat) (aL:i<8)
  (hs:A.tmps.size=323) (t3:A.tmps[3]? =some (.slice (some ⟨g,o,none⟩) 64 pc)) (t4:A.tmps[6]? =some v) (t5:A.tmps[7]? =some (.int .i64 (i:Int)))
  (iE:w.cell? ⟨g,o+i,none⟩=some (.int .i64 (((Lz.a4.take 64).getD i 0:Nat):Int))) (ai:bZ w w0.heap.size v ((Lz.cp 2 8).take i)) (aC:Below w0.heap.size w0 w)
  (hQ:∀A' w' v',A'.tmps.size=323->A'.defers=A.defers->eI 6 47 56 A A'->A'.tmps[6]? =some v'->bZ w' w0.heap.size v' ((Lz.cp 2 8).take (i+1))->Below w0.heap.size w0 w'->Q .normal A' w'):
  Code.wp Tryz.prog (Nf Tryz.f67.body) Q A w:=by
 obtain⟨i0,hi,eZ,d9,eo⟩:=info_parts Au;obtain⟨b3,e3⟩:=ag t3;obtain⟨b4,e4⟩:=ag t4;obtain⟨b5,e5⟩:=ag t5;have j6:(0:Int)<=(i:Int):=by omega
 have Pb:(i:Int)<64:=by omega
 have jE:=qN (C6 2 8 i (by omega) aL)
 have aO:((Lz.cp 2 8).take i).length=i:=by
  rw[List.length_take];have:(Lz.cp 2 8).length=8:=rfl;omega
 rw[JE i aL]at iE;have Lc:=BG 2 ((Lz.a4.take 8).getD i 0);have oj:=v8 8 i;generalize (Lz.a4.take 8).getD i 0=p at iE jE Lc oj;have TZ:=Ih (vo p 2 oj (by decide) w);generalize Lz.lZ p 2=X at TZ Lc;generalize Lz.rB 2 p=y at jE Lc;generalize (Lz.cp 2 8).take i=xs at ai jE aO;have fw:=Yf y;have bi:=Ih ai;have II:=Ih jE;have eu:=Ih aO;have HQ:=Ih hQ;clear jE aO ai oj hQ t3 t4 t5
 conv=>arg 2;whnf
 go_wp2_with fail
 go_at_call 111
 refine TZ.out.mono ?_;rintro e w2 ⟨rfl,aE⟩;have bF:=Ih (bi.out.below aE);have eC:=ae aC aE;have ns:=eC.size;unfold bZ at bF
 go_wp2_with (at_builtin;refine wpList_append_own _ rfl (.tmp 47) (.tmp 55) 162 rfl w0.heap.size 123 i0 (.int .u32 0) 1 4 Tryz.underlying162 hi eZ d9 eo rfl (by decide) v xs.length (bV xs) (by simp[Act.eval,hs]) (bF.out.alloc _) ⟨w2.heap.size,0,none⟩ 1 1 [.int .u32 (N32 y)] (by simp[Act.eval,hs]) rfl (aJ _ _ _) (by simp[Value.oneCell']) (by rw[eu.out];unfold maxLen;omega) (by rw[eu.out];omega) (by simp;omega) ?_)
 intro v3 w3 ba oI _;have bj:=Below.grown1 eC bF.out oI ns (Nat.le_refl _)
 have wI:bZ w3 w0.heap.size v3 ((Lz.cp 2 8).take (i+1)):=by
  unfold bZ;rw[II.out,List.length_append];unfold bV at ba⊢;rw[List.map_append];exact ba
 have O8:=Ih wI;clear ba oI wI bF
 go_wp2_with fail
 refine HQ.out _ w3 v3 ?_ ?_ ?_ ?_ O8.out bj
 ·simp only[Array.size_setIfInBounds];exact hs
 ·rfl
 ·intro k hk cf
  simp(disch:=exact Js k hk cf _ (by decide)) only[Array.getElem?_setIfInBounds_ne]
 ·rw[Array.getElem?_setIfInBounds_self_of_lt (by simp only[Array.size_setIfInBounds];rw[hs];decide)]
theorem P4 (A0:Act) (w0:World) (Q:Exit->Act->World->Prop) (pa:Option Addr) (pc:Nat)
  (hs:A0.tmps.size=323) (t3:A0.tmps[3]? =some (.slice pa 64 pc)) (t4:A0.tmps[6]? =some (.slice none 0 0)) (t5:A0.tmps[7]? =some (.int .i64 0))
  (hP:∀j,j<64->∃g off,pa=some ⟨g,off,none⟩/\w0.cell? ⟨g,off+j,none⟩=some (.int .i64 (((Lz.a4.take 64).getD j 0:Nat):Int)))
  (hQ:∀A' w' g c,A'.tmps.size=323->A'.defers=A0.defers->pt A0 A'->A'.tmps[6]? =some (.slice (some ⟨g,0,none⟩) 8 c)->uM w' g (Lz.cp 2 8)->Below w0.heap.size w0 w'->Q .normal A' w'):
  Code.wp Tryz.prog (.block 2 (.loop (vX Tryz.f67.body))) Q A0 w0:=by
 refine wp_block (wp_loop (E2I A0 w0) (fun a _=>8-et2 a) ⟨0,.slice none 0 0,by decide,hs,rfl,fun _ _=>rfl,t5,t4,World.ownsRow_nil w0 _ _ _,Below.refl _ _⟩ ?_);rintro A w ⟨i,v,hi,hs,hd,hk,t5,t4,ai,aC⟩;have t3:=(hk 3 (by decide)).trans t3;obtain⟨b5,e5⟩:=ag t5;have HI:Hid (∀A' w',E2I A0 w0 A' w'->8-et2 A'<8-et2 A->Exit.then (fun a' w'=>E2I A0 w0 a' w'/\8-et2 a'<8-et2 A) (Exit.inBlock 2 Q) .normal A' w'):=Ih (fun A' w' h1 h2=>⟨h1,h2⟩);have HQ:=Ih hQ;have M:=Ih (MM t5);have HP:=Ih hP;have bi:=Ih ai;clear hQ hP ai;rw[P6];refine wp_seq ?_
 conv=>arg 2;whnf
 go_wp2_with fail
 by_cases aL:i<8
 ·have aK:(i:Int)<8:=by omega
  refine wp_cond_true (by simp[Act.eval,hs,aK]) ?_;refine aw (fun A1 bc=>?_);have g0:A1.tmps.size=323:=by rw[bc];simp only[Array.size_setIfInBounds];exact hs
  have K1:∀k,k≠43->k≠44->A1.tmps[k]? =A.tmps[k]? :=fun k hk cf=>by
   rw[bc];simp(disch:=first |exact hk.symm|exact cf.symm) only[Array.getElem?_setIfInBounds_ne]
  have D1:A1.defers=A0.defers:=by rw[bc];try exact hd
  clear bc e5 aK;obtain⟨g,o,rfl,hc⟩:=HP.out i (by omega);have iE:=(aC.cell (p:=⟨g,o+i,none⟩) (World.block_lt_of_cell? _ _ hc)).trans hc;have HK:pt A0 A1:=hk.trans (fun k hk=>K1 k (by omega) (by omega))
  go_wp2_with fail
  refine PB A1 w0 w _ i v g o pc aL g0 ((K1 3 (by decide) (by decide)).trans t3) ((K1 6 (by decide) (by decide)).trans t4) ((K1 7 (by decide) (by decide)).trans t5) iE bi.out aC (fun A2 w2 v2 z2 d2 k2 p2 o2 b2=>?_)
  go_wp2_with fail
  refine P0 A2 w2 _ i aL z2 ((k2 7 (by decide) (by decide)).trans ((K1 7 (by decide) (by decide)).trans t5)) (fun A3 z3 d3 k3 r3=>?_);exact HI.out A3 w2 ⟨i+1,v2,by omega,z3,d3.trans (d2.trans D1),HK.trans (fun k hk=>(k3 k (by omega) (by omega)).trans (k2 k (by omega) (by omega))),r3,(k3 6 (by decide) (by decide)).trans p2,o2,b2⟩ (by rw[MM r3,M.out];omega)
 ·have aK:¬((i:Int)<8):=by omega
  obtain rfl:i=8:=by omega
  refine wp_cond_false (by simp[Act.eval,hs]) ?_;refine aw (fun A1 bc=>?_);have g0:A1.tmps.size=323:=by rw[bc];simp only[Array.size_setIfInBounds];exact hs
  have K1:∀k,k≠43->k≠44->A1.tmps[k]? =A.tmps[k]? :=fun k hk cf=>by
   rw[bc];simp(disch:=first |exact hk.symm|exact cf.symm) only[Array.getElem?_setIfInBounds_ne]
  have D1:A1.defers=A0.defers:=by rw[bc];try exact hd
  clear bc e5 aK;have hT:(Lz.cp 2 8).take 8=Lz.cp 2 8:=rfl;rw[hT]at bi;obtain⟨g,c,rfl,hK⟩:=bi.out.form (by decide);have hL:(Lz.cp 2 8).length=8:=rfl;rw[hL]at t4
  go_wp2_with fail
  exact HQ.out A1 w g c g0 D1 (hk.trans (fun k hk=>K1 k (by omega) (by omega))) ((K1 6 (by decide) (by decide)).trans t4) hK aC
def Zu (b:Option Code):Code:=.block 0 (.loop (uN b))
def YH (b:Option Code):Code:=.block 2 (.loop (vX b))
def Cg (b:Option Code):Code:=dno b
theorem Uo:Cg Tryz.f67.body=.seq (dn1 (Cg Tryz.f67.body)) (.seq (dn1 (dn2 (Cg Tryz.f67.body))) (.seq (dn1 (dn2 (dn2 (Cg Tryz.f67.body)))) (.seq (.seq (dn1 (dn1 (dn2 (dn2 (dn2 (Cg Tryz.f67.body)))))) (Zu Tryz.f67.body)) (.seq (dn1 (dn2 (dn2 (dn2 (dn2 (Cg Tryz.f67.body)))))) (.seq (.seq (dn1 (dn1 (dn2 (dn2 (dn2 (dn2 (dn2 (Cg Tryz.f67.body)))))))) (YH Tryz.f67.body)) (Ch Tryz.f67.body)))))):=by kernel_rfl
theorem EM {w:World} {g:Nat} (h:uM w g (Lz.cp 2 8)):fG w g bU:=by
 have e:Lz.cp 2 8=bU.list:=by decide +kernel
 rw[e]at h;exact⟨h 0 (by decide),h 1 (by decide),h 2 (by decide),h 3 (by decide),h 4 (by decide),h 5 (by decide),h 6 (by decide),h 7 (by decide)⟩
theorem JR (s:ByteArray) (fu:s.size<=1073741824) (w:World):Calls Tryz.prog 67 #[.string s] w (dX (Lz.iJ (Lz.cp 3 64) bU s.data.toList) w):=by
 refine calls_of_wp (c:=Cg Tryz.f67.body) Tryz.func67 (by kernel_rfl) ?_;refine aw (fun A0 GC=>?_);have hT:A0.tmps= #[Value.string s]++Array.replicate (323-1) undef:=by rw[GC,Tryz.ntmps67];rfl
 have z0:A0.tmps.size=323:=by rw[hT,Array.size_append,Array.size_replicate];rfl
 have t0:A0.tmps[0]? =some (.string s):=by rw[hT,Array.getElem?_append_left (by show 0<1;decide)];rfl
 have D0:A0.defers=[]:=by rw[GC]
 clear GC hT;obtain⟨R,hR⟩:∃R,R=dX (Lz.iJ (Lz.cp 3 64) bU s.data.toList) w:=⟨_,rfl⟩;have HR:Hid (∀r w',r.data.toList=Lz.iJ (Lz.cp 3 64) bU s.data.toList->Below w.heap.size w w'->R (.returned (.string r)) w'):=Ih (fun r w' h b=>by rw[hR];exact⟨r,rfl,Ih h,b⟩);have HRp:Hid (∀c w',¬R (.panicked c) w'):=Ih (fun c w' h=>by rw[hR]at h;obtain⟨_,h,_⟩:=h;cases h);rw[<-hR];clear hR;have cP:=Ih (uo 64 (by decide) w);rw[Uo];refine wp_seq ?_
 conv=>arg 2;whnf
 go_wp2_with fail
 conv=>arg 2;whnf
 go_wp2_with fail
 go_at_call 110
 refine cP.out.mono ?_;rintro e w1 ⟨pv,rfl,hpr,av⟩;obtain⟨pa,pc,rfl,SI⟩:=hpr;have oj:(Lz.a4.take 64).length=64:=rfl;rw[oj]at SI⊢;have HP:=Ih SI;clear SI oj cP
 go_wp2_with fail
 conv=>arg 2;whnf
 go_wp2_with fail
 conv=>arg 2;whnf
 go_wp2_with fail
 refine aw (fun A1 bc=>?_);have z1:A1.tmps.size=323:=by rw[bc];simp only[Array.size_setIfInBounds];exact z0
 have g0:A1.tmps[0]? =some (.string s):=by rw[bc];simp(disch:=decide) only[Array.getElem?_setIfInBounds_ne];exact t0
 have g3:A1.tmps[3]? =some (.slice pa 64 pc):=by rw[bc];simp only[Array.getElem?_setIfInBounds,Array.size_setIfInBounds,z0];rfl
 have g4:A1.tmps[4]? =some (.slice none 0 0):=by rw[bc];simp only[Array.getElem?_setIfInBounds,Array.size_setIfInBounds,z0];rfl
 have g5:A1.tmps[5]? =some (.int .i64 0):=by rw[bc];simp only[Array.getElem?_setIfInBounds,Array.size_setIfInBounds,z0];rfl
 have D1:A1.defers=[]:=by rw[bc];try exact D0
 clear bc;refine RK A1 w1 _ pa pc z1 g3 g4 g5 HP.out (fun A2 w2 gk ck z2 d2 k2 p2 hK b2=>?_)
 go_wp2_with fail
 conv=>arg 2;whnf
 go_wp2_with fail
 conv=>arg 2;whnf
 go_wp2_with fail
 refine aw (fun A3 XM=>?_);have z3:A3.tmps.size=323:=by rw[XM];simp only[Array.size_setIfInBounds];exact z2
 have K3:∀k,k≠6->k≠7->A3.tmps[k]? =A2.tmps[k]? :=fun k hk cf=>by
  rw[XM];simp(disch:=first |exact hk.symm|exact cf.symm) only[Array.getElem?_setIfInBounds_ne]
 have g6:A3.tmps[6]? =some (.slice none 0 0):=by rw[XM];simp only[Array.getElem?_setIfInBounds,Array.size_setIfInBounds,z2];rfl
 have g7:A3.tmps[7]? =some (.int .i64 0):=by rw[XM];simp only[Array.getElem?_setIfInBounds,Array.size_setIfInBounds,z2];rfl
 have D3:A3.defers=[]:=by rw[XM];try exact d2.trans D1
 clear XM;refine P4 A3 w2 _ pa pc z3 ((K3 3 (by decide) (by decide)).trans ((k2 3 (by decide)).trans g3)) g6 g7 (fun j hj=>?_) (fun A4 w4 gh ch z4 d4 k4 p4 hH b4=>?_)
 ·obtain⟨g,o,e1,e2⟩:=HP.out j hj;exact⟨g,o,e1,(b2.cell (p:=⟨g,o+j,none⟩) (World.block_lt_of_cell? _ _ e2)).trans e2⟩
 go_wp2_with fail
 have VS:=b2.trans (b4.mono b2.size);have hK4:=hK.below b4;have t4:A4.tmps[4]? =some (.slice (some ⟨gk,0,none⟩) 64 ck):=(k4 4 (by decide)).trans ((K3 4 (by decide) (by decide)).trans p2);have t0':A4.tmps[0]? =some (.string s):=(k4 0 (by decide)).trans ((K3 0 (by decide) (by decide)).trans ((k2 0 (by decide)).trans g0));refine Vk A4 w4 _ s fu (Lz.cp 3 64) bU gk ck gh ch z4 t0' t4 p4 (fun i hi=>hK4 i hi) (EM hH) (fun c a a' w' h=>(HRp.out c w' h.2).elim) (fun A5 w5 r z5 d5 p5 hr b5=>?_);refine bodyPost_ret (results_tmp rfl _ _ _) (by first |rfl|exact d5.trans (d4.trans D3)) ?_;rw[show A5.tmps.getD 2 undef=.string r by rw[Array.getD_eq_getD_getElem?,p5];rfl];exact HR.out r w5 hr ((ae av VS).trans (b5.mono (ae av VS).size))
end Go.Proofs.YtibcmemcfjhgmaaGreatDoor
