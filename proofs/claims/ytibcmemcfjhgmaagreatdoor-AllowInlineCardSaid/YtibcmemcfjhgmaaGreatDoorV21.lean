/-
  Package urls: clean, schemed.
-/
import Derived.Test.YtibcmemcfjhgmaaGreatDoorV19
set_option maxHeartbeats 4000000
set_option maxRecDepth 100000
namespace Go.Proofs.YtibcmemcfjhgmaaGreatDoor
open Go.RowKit
theorem Aq:Tryz.zeroCells265=Array.replicate 257 (.slice none 0 0):=by kernel_rfl
noncomputable def bsZ (v:Value):Array Value:=Tryz.zeroCells265.setIfInBounds 256 v
theorem pI (v:Value):(bsZ v).size=257:=by unfold bsZ;rw[Aq];simp
theorem Ns (v:Value) (k:Nat) (hk:k<256):(bsZ v)[k]? =some (.slice none 0 0):=by
 unfold bsZ;rw[Aq,Array.getElem?_setIfInBounds_ne (by omega),Array.getElem?_replicate,if_pos (by omega)]
theorem MV (v:Value):(bsZ v)[256]? =some v:=by
 unfold bsZ;rw[Aq,Array.getElem?_setIfInBounds_self_of_lt (by simp)]
theorem Rz (a:Option Addr) (n c:Nat):(bsZ (.slice a n c)).all (·.oneCell')=true:=by
 rw[Array.all_eq_true'];intro x hx;obtain⟨k,hk⟩:=Array.mem_iff_getElem?.1 hx;have Sv:k<257:=by have:=(Array.getElem?_eq_some_iff.1 hk).1;rw[pI]at this;exact this
 rcases Nat.lt_or_ge k 256 with h|h
 ·rw[Ns _ _ h]at hk;rw[<-Option.some.inj hk];rfl
 ·obtain rfl:k=256:=by omega
  rw[MV]at hk;rw[<-Option.some.inj hk];rfl
theorem UX:(Tryz.prog.info? 265).map (·.size)=some 257:=by kernel_rfl
def rsB:List ByteArray:=[⟨#[9]⟩,⟨#[]⟩,⟨#[10]⟩,⟨#[]⟩,⟨#[13]⟩,⟨#[]⟩]
def aa9 (B:Nat) (w:World) (e:Ending) (w':World):Prop:=∃b G c,e=.returned (.pointer (some ⟨b,0,none⟩))/\B<=b/\bM w' b 0 0 0 .nilIface (.slice (some ⟨G,0,none⟩) 6 c)/\w'.ownsRow B 9 1 (.slice (some ⟨G,0,none⟩) 6 c) 6 (rsB.map Value.string)/\Below w.heap.size w w'
theorem NN (B:Nat) (p:Addr) (c:Nat) (w:World) (hB:B<=w.heap.size) (hc:∀(j:Nat) (u:Value),(rsB.map Value.string)[j]? =some u->w.cell? (p.add j)=some u):
  Calls Tryz.prog 63 #[.slice (some p) 6 c] w (aa9 B w):=by
 obtain⟨i0,hi,eZ,d9,eo⟩:=info_parts nK;have Hc:=Ih hc;clear hc;go_enter Tryz.func63,Tryz.ntmps63
 go_wp2_with (at_builtin;refine wpList_append_own _ rfl (.const (.slice none 0 0)) (.tmp 8) 22 rfl B 9 i0 (.string ⟨#[]⟩) 1 16 Tryz.underlying22 hi eZ d9 eo rfl (by decide) _ 0 [] rfl (World.ownsRow_nil _ B _ _) p 6 c (rsB.map Value.string) rfl rfl Hc.out (by decide) (by unfold maxLen;omega) (by omega) (by omega) ?_)
 intro v' w' ai hg rL;have hb:Below w.heap.size w w':=(Below.refl _ w).grown hg (Nat.le_refl _) (fun k hk=>by simp[Value.ownBlock]at hk);have hP:bG w' B v' rsB:=.inl ai;obtain⟨a',c',hv',_,aW⟩:=hP.form;have pE:v'=.slice a' 6 c':=hv';subst pE;obtain⟨G,off,rfl,_,_⟩:=aW 0 ⟨#[9]⟩ rfl
 have Xm:off=0:=by
  rcases ai.2 with⟨h,_⟩|⟨g,cap,dx,h,_⟩
  ·cases h
  ·injection h with h _ _;injection h with h;injection h with h1 h2 _
 subst Xm;have bi:Hid (w'.ownsRow B 9 1 (.slice (some ⟨G,0,none⟩) 6 c') 6 (rsB.map Value.string)):=Ih ai;have hwz:=hb.size;clear ai hg hP aW rL hv'
 go_wp2_with fail
 go_ret;refine⟨_,G,c',rfl,by omega,?_,bi.out.alloc _,ae hb ((Below.refl _ _).alloc (Nat.le_refl _) _)⟩;show(w'.heap.push _)[w'.heap.size]? =_
 simp
theorem vS (w:World) (o:UInt8):(convert 93 9 (.slice (some ⟨w.heap.size,0,none⟩) 1 1)).run Tryz.prog (w.alloc (.cells #[.int .u8 (o.toNat:Int)] 5))=.ok (.string ⟨#[o]⟩) (w.alloc (.cells #[.int .u8 (o.toNat:Int)] 5)):=by
 refine run_convert_bytes_back (P:=Tryz.prog) _ 93 9 5 ⟨w.heap.size,0,none⟩ 1 [o] Tryz.underlying93 Tryz.underlying5 Tryz.underlying9 ?_;intro j hj;have tI:j=0:=by simpa using hj
 subst tI;exact aJ w (.int .u8 (o.toNat:Int)) 5 0 _ rfl
theorem SK (W:World):(Instr.index 9 (.string ⟨#[13]⟩) (.int .i64 0)).run Tryz.prog W=.ok (.int .u8 13) W:=by kernel_rfl
theorem SN (W:World):(Instr.index 9 (.string ⟨#[10]⟩) (.int .i64 0)).run Tryz.prog W=.ok (.int .u8 10) W:=by kernel_rfl
theorem Zo (W:World):(Instr.index 9 (.string ⟨#[9]⟩) (.int .i64 0)).run Tryz.prog W=.ok (.int .u8 9) W:=by kernel_rfl
theorem oU (w:World):∃(cap:Nat) (w':World),(convert 9 93 (.string ⟨#[]⟩)).run Tryz.prog w=.ok (.slice (some ⟨w.heap.size,0,none⟩) 0 cap) w'/\Below w.heap.size w w':=
 ⟨_,_,run_bytes_of_string (P:=Tryz.prog) w 9 93 5 ⟨#[]⟩ Tryz.underlying9 Tryz.underlying93 Tryz.underlying5,(Below.refl _ w).drew.alloc (Nat.le_refl _) _⟩
def gQ (m k:Nat):Prop:=(k=13/\m<=2)\/(k=10/\m<=1)\/(k=9/\m=0)
def toB:List ByteArray:=[⟨#[13]⟩,⟨#[10]⟩,⟨#[9]⟩]
structure aa8 (B g m:Nat) (wr:World) (cs:Array Value) (T:Nat):Prop where
 row:wr.heap[g]? =some (.cells cs 265 (0,0))
 size:cs.size=257
 hit:∀k,k<256->gQ m k->∃A c,cs[k]? =some (.slice (some A) 0 c)
 miss:∀k,k<256->¬gQ m k->cs[k]? =some (.slice none 0 0)
 last:cs[256]? =some (.slice (some ⟨T,0,none⟩) (3-m) 3)
 own:wr.ownsRow B 9 1 (.slice (some ⟨T,0,none⟩) (3-m) 3) (3-m) ((toB.take (3-m)).map Value.string)
def zQ (B g:Nat) (w:World) (i:Value) (wr:World):Prop:=∃m:Nat,m<=3/\i=.int .i64 (2*(m:Int)-2)/\Below B w wr/\∃cs T,aa8 B g m wr cs T
def Lu (w:World) (e:Ending) (w':World):Prop:=∃g,e=.returned (.iface 266 (.pointer (some ⟨g,0,none⟩)))/\Below w.heap.size w w'/\iI w' g
theorem Jq (B b:Nat) (e:Int) (G c:Nat) (w:World) (hr:bM w b 0 1 e .nilIface (.slice (some ⟨G,0,none⟩) 6 c)) (ai:w.ownsRow B 9 1 (.slice (some ⟨G,0,none⟩) 6 c) 6 (rsB.map Value.string)):
  Calls Tryz.prog 156 #[.pointer (some ⟨b,0,none⟩)] w (Lu w):=by
 obtain⟨i0,hi,eZ,d9,eo⟩:=info_parts nK;have r4:=rowAt hr 4 (.slice (some ⟨G,0,none⟩) 6 c) rfl
 have Ge:∀k x,rsB[k]? =some x->w.cell? ⟨G,k,none⟩=some (.string x):=fun k x hk=>by
  have:=ai.cells (g:=G) rfl k (.string x) (by rw[List.getElem?_map,hk];rfl);rw[bD]at this;exact this
 have o0:=Ge 0 ⟨#[9]⟩ rfl;have o1:=Ge 1 ⟨#[]⟩ rfl;have o2:=Ge 2 ⟨#[10]⟩ rfl;have o3:=Ge 3 ⟨#[]⟩ rfl;have o4:=Ge 4 ⟨#[13]⟩ rfl;have o5:=Ge 5 ⟨#[]⟩ rfl;have KS:G<w.heap.size:=World.block_lt_of_cell? _ _ o0;have hYs:Tryz.zeroCells265.size=257:=by rw[Aq];simp
 have Ol:=Ih Ge;have HYs:=Ih hYs;clear ai hr Ge hYs;go_enter Tryz.func156,Tryz.ntmps156
 go_wp2_with fail
 refine wp_loop_rounds 4 ?_;rw[rounds_succ]
 go_wp2_with fail
 rw[rounds_succ]
 go_wp2_with fail
 rw[rounds_succ]
 go_wp2_with fail
 rw[rounds_succ];clear o0 o1 o2 o3 o4 o5 r4
 go_upto_region 26 with fail
 go_wp2_with (refine wpList_make_own _ rfl (.const (.int .i64 0)) (.tmp 93) 22 rfl w.heap.size 9 i0 (.string ⟨#[]⟩) 1 Tryz.underlying22 hi eZ d9 .i64 .i64 3 3 rfl rfl rfl (by rw[eo];omega) (by decide) (Nat.le_refl _) ?_)
 intro w1 gr XE;have av:Below w.heap.size w w1:=(Below.refl _ w).grown XE (Nat.le_refl _) (fun k hk=>by cases hk);have ir:=Ih gr;have me:=av.size;clear gr XE
 go_wp2_with (refine wpList_store_row rfl 265 (.tmp 11) (.tmp 95) rfl w1.heap.size (bsZ (.slice (some ⟨w.heap.size,0,none⟩) 0 3)) rfl rfl 265 Tryz.zeroCells265 (by show(w1.heap.push _)[w1.heap.size]? =_;simp) (by rw[pI];exact UX) (by rw[HYs.out,pI]) (Rz _ _ _) ?_)
 obtain⟨Y,hY⟩:∃Y,Y=Tryz.zeroCells265:=⟨_,rfl⟩;rw[<-hY];obtain⟨Z,hZ⟩:∃Z,Z=bsZ (.slice (some ⟨w.heap.size,0,none⟩) 0 3):=⟨_,rfl⟩;rw[<-hZ];have HZ:=Ih hZ;have jq:((w1.alloc (.cells Y 265)).setRow w1.heap.size Z).heap[w1.heap.size]? =some (.cells Z 265 (0,0)):=setRow_heap _ _ Y _ _ _ (by show(w1.heap.push _)[w1.heap.size]? =_;simp);have O2:(w1.alloc (.cells Y 265)).grownBy ((w1.alloc (.cells Y 265)).setRow w1.heap.size Z) (some w1.heap.size):=⟨rfl,rfl,rfl,by simp,fun k _ hk=>setRow_other _ _ _ _ (fun e=>hk (by rw[e]))⟩;have aE:Below w.heap.size w ((w1.alloc (.cells Y 265)).setRow w1.heap.size Z):=(av.alloc me _).grown O2 (by simp;omega) (fun k hk=>by injection hk with hk;omega);have de:=(ir.out.alloc (.cells Y 265)).kept O2 (.inr (by simp[Value.ownBlock];have:=ir.out.lt w.heap.size rfl;omega));generalize (w1.alloc (.cells Y 265)).setRow w1.heap.size Z=w2 at jq aE de⊢;have T6:=Ih aE;have HR1:=Ih jq;have HO2:=Ih de;clear O2 av aE jq de ir hZ hY
 go_wp2_with fail
 go_loopw [12] (fun i wr=>zQ w.heap.size w1.heap.size w i wr) (fun i _=>(intOf i+2).toNat)
 case atStart=>
  refine⟨3,by omega,rfl,T6.out,Z,w.heap.size,HR1.out,by rw[HZ.out];exact pI _,fun k hk h=>?_,fun k hk _=>by rw[HZ.out];exact Ns _ k hk,by rw[HZ.out];exact MV _,HO2.out⟩;unfold gQ at h;omega
 case round=>
  obtain⟨m,hm,rfl,aC,cs,T,hA⟩:=hrel;obtain⟨g0,GA⟩:∃g0,g0=w1.heap.size:=⟨_,rfl⟩;rw[<-GA]at hA;have Xu:w.heap.size<=g0:=by rw[GA];exact me
  obtain rfl|rfl|rfl|rfl:m=3\/m=2\/m=1\/m=0:=by omega
  ·rw[<-GA];clear GA;have oc:wr.cell? ⟨G,4,none⟩=some (.string ⟨#[13]⟩):=by rw[aC.cell (p:=⟨G,4,none⟩) KS];exact Ol.out 4 ⟨#[13]⟩ rfl
   have oe:wr.cell? ⟨G,5,none⟩=some (.string ⟨#[]⟩):=by rw[aC.cell (p:=⟨G,5,none⟩) KS];exact Ol.out 5 ⟨#[]⟩ rfl
   have cg:=rowAt hA.row 13 (.slice none 0 0) (hA.miss 13 (by decide) (by unfold gQ;omega));have c256:=rowAt hA.row 256 (.slice (some ⟨T,0,none⟩) 0 3) hA.last;have rL:=fun W:World=>Lib.run_eql_slice_nil (P:=Tryz.prog) W 93 5 none 0 0 0 0 Tryz.underlying93;have xx:=fun W:World=>SK W;have Dw:(convert 93 9 (.slice (some ⟨wr.heap.size,0,none⟩) 1 1)).run Tryz.prog (wr.alloc (.cells #[.int .u8 13] 5))=.ok (.string ⟨#[13]⟩) (wr.alloc (.cells #[.int .u8 13] 5)):=vS wr 13;have hT:T<wr.heap.size:=(hA.own.lt T rfl).2
   have OY:¬g0=T:=fun e=>by
    rcases hA.own.2 with⟨h,_⟩|⟨g1,cap,dx,h,_,hh,_⟩
    ·cases h
    ·injection h with h _ _;injection h with h;injection h with h1 _ _
     rw[<-h1,<-e,hA.row]at hh;injection hh with hh
     injection hh with _ h2 _
     exact absurd h2 (by decide)
   have zb:=(hA.own.alloc (.cells #[.int .u8 13] 5)).alloc (.cells #[.string ⟨#[13]⟩] 9);have HA:=Ih hA;have Hoa:=Ih zb;have Do:=aC.size;clear hA zb
   go_wp2_with (at_builtin;refine wpList_append_fits _ rfl (.tmp 119) (.tmp 123) 22 rfl w.heap.size 9 i0 1 Tryz.underlying22 hi d9 T 0 3 _ rfl Hoa.out ⟨wr.heap.size+1,0,none⟩ 1 1 [.string ⟨#[13]⟩] rfl rfl (fun j u hj=>by have:=aJ (wr.alloc (.cells #[.int .u8 13] 5)) (.string ⟨#[13]⟩) 9 j u hj;simpa using this) (by simp[Value.oneCell']) (by omega) ?_)
   intro w3 ba oI;have Of:g0<wr.heap.size:=aZ HA.out.row
   have y7:w3.heap[g0]? =some (.cells cs 265 (0,0)):=by
    rw[oI.block g0 (by simp;omega) (fun e=>OY (by injection e)),Below.heap_alloc _ _ _ (by simp;omega),Below.heap_alloc _ _ _ Of];exact HA.out.row
   have bj:Below w.heap.size w w3:=((aC.alloc Do _).alloc (by simp;omega) _).grown oI (by simp;omega) (fun k hk=>by injection hk with hk;subst hk;exact(HA.out.own.lt _ rfl).1);have aaa:=rowAt y7 256 _ HA.out.last;have aai:=bX y7 256;have Dr:w.heap.size<=g0:=Xu;have eB:Below w.heap.size w (w3.setCell ⟨g0,256,none⟩ (.slice (some ⟨T,0,none⟩) 1 3)):=bj.setCell (p:=⟨g0,256,none⟩) Dr _;have TF:(w3.setCell ⟨g0,256,none⟩ (.slice (some ⟨T,0,none⟩) 1 3)).heap[g0]? =some (.cells (cs.setIfInBounds 256 (.slice (some ⟨T,0,none⟩) 1 3)) 265 (0,0)):=jc y7 256 _ rfl;have mg:=ba.kept (df w3 ⟨g0,256,none⟩ (.slice (some ⟨T,0,none⟩) 1 3)) (.inr (by simp[Value.ownBlock];exact fun e=>OY e.symm));have iL:=Ih mg;have OD:=Ih TF;have OG:=Ih eB;clear ba oI y7 bj mg TF eB Dw oc oe cg c256
   go_upto_region 34 with fail
   generalize w3.setCell ⟨g0,256,none⟩ (.slice (some ⟨T,0,none⟩) 1 3)=w4 at iL OD OG⊢;have Ov:g0<w4.heap.size:=aZ OD.out;obtain⟨cap,w5,kb,bv⟩:=oU w4;have IL:w5.heap[g0]? =_:=(bv.block g0 Ov).trans OD.out;have gU:=dh iL.out bv;have c5:=rowAt IL 13 (.slice none 0 0) (by rw[Array.getElem?_setIfInBounds_ne (by omega)];exact HA.out.miss 13 (by decide) (by unfold gQ;omega));have f5:=bX IL 13;have Tt:(w5.setCell ⟨g0,13,none⟩ (.slice (some ⟨w4.heap.size,0,none⟩) 0 cap)).heap[g0]? =some (.cells ((cs.setIfInBounds 256 (.slice (some ⟨T,0,none⟩) 1 3)).setIfInBounds 13 (.slice (some ⟨w4.heap.size,0,none⟩) 0 cap)) 265 (0,0)):=jc IL 13 _ rfl;have eM:Below w.heap.size w (w5.setCell ⟨g0,13,none⟩ (.slice (some ⟨w4.heap.size,0,none⟩) 0 cap)):=(OG.out.trans (bv.mono OG.out.size)).setCell (p:=⟨g0,13,none⟩) Dr _;have ny:=gU.kept (df w5 ⟨g0,13,none⟩ (.slice (some ⟨w4.heap.size,0,none⟩) 0 cap)) (.inr (by simp[Value.ownBlock];exact fun e=>OY e.symm))
   have HF:Hid (zQ w.heap.size g0 w (.int .i64 2) (w5.setCell ⟨g0,13,none⟩ (.slice (some ⟨w4.heap.size,0,none⟩) 0 cap))):=by
    refine⟨2,by omega,rfl,eM,_,T,Tt,by simp[HA.out.size],fun k hk h=>?_,fun k hk h=>?_,?_,ny⟩
    ·by_cases wu:k=13
     ·exact⟨⟨w4.heap.size,0,none⟩,cap,by rw[wu,Array.getElem?_setIfInBounds_self_of_lt (by simp[HA.out.size])]⟩
     ·rw[Array.getElem?_setIfInBounds_ne (by omega),Array.getElem?_setIfInBounds_ne (by omega)];exact HA.out.hit k hk (by unfold gQ at h⊢;omega)
    ·have wu:k≠13:=fun e=>h (by unfold gQ;omega);rw[Array.getElem?_setIfInBounds_ne (by omega),Array.getElem?_setIfInBounds_ne (by omega)];exact HA.out.miss k hk (by unfold gQ at h⊢;omega)
    ·rw[Array.getElem?_setIfInBounds_ne (by omega),Array.getElem?_setIfInBounds_self_of_lt (by simp[HA.out.size])]
   clear IL gU Tt eM ny
   go_wp2_with fail
   go_roundw
   case rel=>exact HF.out
   case measure=>simp[intOf]
  ·rw[<-GA];clear GA;have oc:wr.cell? ⟨G,2,none⟩=some (.string ⟨#[10]⟩):=by rw[aC.cell (p:=⟨G,2,none⟩) KS];exact Ol.out 2 ⟨#[10]⟩ rfl
   have oe:wr.cell? ⟨G,3,none⟩=some (.string ⟨#[]⟩):=by rw[aC.cell (p:=⟨G,3,none⟩) KS];exact Ol.out 3 ⟨#[]⟩ rfl
   have cg:=rowAt hA.row 10 (.slice none 0 0) (hA.miss 10 (by decide) (by unfold gQ;omega));have c256:=rowAt hA.row 256 (.slice (some ⟨T,0,none⟩) 1 3) hA.last;have rL:=fun W:World=>Lib.run_eql_slice_nil (P:=Tryz.prog) W 93 5 none 0 0 0 0 Tryz.underlying93;have xx:=fun W:World=>SN W;have Dw:(convert 93 9 (.slice (some ⟨wr.heap.size,0,none⟩) 1 1)).run Tryz.prog (wr.alloc (.cells #[.int .u8 10] 5))=.ok (.string ⟨#[10]⟩) (wr.alloc (.cells #[.int .u8 10] 5)):=vS wr 10;have hT:T<wr.heap.size:=(hA.own.lt T rfl).2
   have OY:¬g0=T:=fun e=>by
    rcases hA.own.2 with⟨h,_⟩|⟨g1,cap,dx,h,_,hh,_⟩
    ·cases h
    ·injection h with h _ _;injection h with h;injection h with h1 _ _
     rw[<-h1,<-e,hA.row]at hh;injection hh with hh
     injection hh with _ h2 _
     exact absurd h2 (by decide)
   have zb:=(hA.own.alloc (.cells #[.int .u8 10] 5)).alloc (.cells #[.string ⟨#[10]⟩] 9);have HA:=Ih hA;have Hoa:=Ih zb;have Do:=aC.size;clear hA zb
   go_wp2_with (at_builtin;refine wpList_append_fits _ rfl (.tmp 119) (.tmp 123) 22 rfl w.heap.size 9 i0 1 Tryz.underlying22 hi d9 T 1 3 _ rfl Hoa.out ⟨wr.heap.size+1,0,none⟩ 1 1 [.string ⟨#[10]⟩] rfl rfl (fun j u hj=>by have:=aJ (wr.alloc (.cells #[.int .u8 10] 5)) (.string ⟨#[10]⟩) 9 j u hj;simpa using this) (by simp[Value.oneCell']) (by omega) ?_)
   intro w3 ba oI;have Of:g0<wr.heap.size:=aZ HA.out.row
   have y7:w3.heap[g0]? =some (.cells cs 265 (0,0)):=by
    rw[oI.block g0 (by simp;omega) (fun e=>OY (by injection e)),Below.heap_alloc _ _ _ (by simp;omega),Below.heap_alloc _ _ _ Of];exact HA.out.row
   have bj:Below w.heap.size w w3:=((aC.alloc Do _).alloc (by simp;omega) _).grown oI (by simp;omega) (fun k hk=>by injection hk with hk;subst hk;exact(HA.out.own.lt _ rfl).1);have aaa:=rowAt y7 256 _ HA.out.last;have aai:=bX y7 256;have Dr:w.heap.size<=g0:=Xu;have eB:Below w.heap.size w (w3.setCell ⟨g0,256,none⟩ (.slice (some ⟨T,0,none⟩) 2 3)):=bj.setCell (p:=⟨g0,256,none⟩) Dr _;have TF:(w3.setCell ⟨g0,256,none⟩ (.slice (some ⟨T,0,none⟩) 2 3)).heap[g0]? =some (.cells (cs.setIfInBounds 256 (.slice (some ⟨T,0,none⟩) 2 3)) 265 (0,0)):=jc y7 256 _ rfl;have mg:=ba.kept (df w3 ⟨g0,256,none⟩ (.slice (some ⟨T,0,none⟩) 2 3)) (.inr (by simp[Value.ownBlock];exact fun e=>OY e.symm));have iL:=Ih mg;have OD:=Ih TF;have OG:=Ih eB;clear ba oI y7 bj mg TF eB Dw oc oe cg c256
   go_upto_region 34 with fail
   generalize w3.setCell ⟨g0,256,none⟩ (.slice (some ⟨T,0,none⟩) 2 3)=w4 at iL OD OG⊢;have Ov:g0<w4.heap.size:=aZ OD.out;obtain⟨cap,w5,kb,bv⟩:=oU w4;have IL:w5.heap[g0]? =_:=(bv.block g0 Ov).trans OD.out;have gU:=dh iL.out bv;have c5:=rowAt IL 10 (.slice none 0 0) (by rw[Array.getElem?_setIfInBounds_ne (by omega)];exact HA.out.miss 10 (by decide) (by unfold gQ;omega));have f5:=bX IL 10;have Tt:(w5.setCell ⟨g0,10,none⟩ (.slice (some ⟨w4.heap.size,0,none⟩) 0 cap)).heap[g0]? =some (.cells ((cs.setIfInBounds 256 (.slice (some ⟨T,0,none⟩) 2 3)).setIfInBounds 10 (.slice (some ⟨w4.heap.size,0,none⟩) 0 cap)) 265 (0,0)):=jc IL 10 _ rfl;have eM:Below w.heap.size w (w5.setCell ⟨g0,10,none⟩ (.slice (some ⟨w4.heap.size,0,none⟩) 0 cap)):=(OG.out.trans (bv.mono OG.out.size)).setCell (p:=⟨g0,10,none⟩) Dr _;have ny:=gU.kept (df w5 ⟨g0,10,none⟩ (.slice (some ⟨w4.heap.size,0,none⟩) 0 cap)) (.inr (by simp[Value.ownBlock];exact fun e=>OY e.symm))
   have HF:Hid (zQ w.heap.size g0 w (.int .i64 0) (w5.setCell ⟨g0,10,none⟩ (.slice (some ⟨w4.heap.size,0,none⟩) 0 cap))):=by
    refine⟨1,by omega,rfl,eM,_,T,Tt,by simp[HA.out.size],fun k hk h=>?_,fun k hk h=>?_,?_,ny⟩
    ·by_cases wu:k=10
     ·exact⟨⟨w4.heap.size,0,none⟩,cap,by rw[wu,Array.getElem?_setIfInBounds_self_of_lt (by simp[HA.out.size])]⟩
     ·rw[Array.getElem?_setIfInBounds_ne (by omega),Array.getElem?_setIfInBounds_ne (by omega)];exact HA.out.hit k hk (by unfold gQ at h⊢;omega)
    ·have wu:k≠10:=fun e=>h (by unfold gQ;omega);rw[Array.getElem?_setIfInBounds_ne (by omega),Array.getElem?_setIfInBounds_ne (by omega)];exact HA.out.miss k hk (by unfold gQ at h⊢;omega)
    ·rw[Array.getElem?_setIfInBounds_ne (by omega),Array.getElem?_setIfInBounds_self_of_lt (by simp[HA.out.size])]
   clear IL gU Tt eM ny
   go_wp2_with fail
   go_roundw
   case rel=>exact HF.out
   case measure=>simp[intOf]
  ·rw[<-GA];clear GA;have oc:wr.cell? ⟨G,0,none⟩=some (.string ⟨#[9]⟩):=by rw[aC.cell (p:=⟨G,0,none⟩) KS];exact Ol.out 0 ⟨#[9]⟩ rfl
   have oe:wr.cell? ⟨G,1,none⟩=some (.string ⟨#[]⟩):=by rw[aC.cell (p:=⟨G,1,none⟩) KS];exact Ol.out 1 ⟨#[]⟩ rfl
   have cg:=rowAt hA.row 9 (.slice none 0 0) (hA.miss 9 (by decide) (by unfold gQ;omega));have c256:=rowAt hA.row 256 (.slice (some ⟨T,0,none⟩) 2 3) hA.last;have rL:=fun W:World=>Lib.run_eql_slice_nil (P:=Tryz.prog) W 93 5 none 0 0 0 0 Tryz.underlying93;have xx:=fun W:World=>Zo W;have Dw:(convert 93 9 (.slice (some ⟨wr.heap.size,0,none⟩) 1 1)).run Tryz.prog (wr.alloc (.cells #[.int .u8 9] 5))=.ok (.string ⟨#[9]⟩) (wr.alloc (.cells #[.int .u8 9] 5)):=vS wr 9;have hT:T<wr.heap.size:=(hA.own.lt T rfl).2
   have OY:¬g0=T:=fun e=>by
    rcases hA.own.2 with⟨h,_⟩|⟨g1,cap,dx,h,_,hh,_⟩
    ·cases h
    ·injection h with h _ _;injection h with h;injection h with h1 _ _
     rw[<-h1,<-e,hA.row]at hh;injection hh with hh
     injection hh with _ h2 _
     exact absurd h2 (by decide)
   have zb:=(hA.own.alloc (.cells #[.int .u8 9] 5)).alloc (.cells #[.string ⟨#[9]⟩] 9);have HA:=Ih hA;have Hoa:=Ih zb;have Do:=aC.size;clear hA zb
   go_wp2_with (at_builtin;refine wpList_append_fits _ rfl (.tmp 119) (.tmp 123) 22 rfl w.heap.size 9 i0 1 Tryz.underlying22 hi d9 T 2 3 _ rfl Hoa.out ⟨wr.heap.size+1,0,none⟩ 1 1 [.string ⟨#[9]⟩] rfl rfl (fun j u hj=>by have:=aJ (wr.alloc (.cells #[.int .u8 9] 5)) (.string ⟨#[9]⟩) 9 j u hj;simpa using this) (by simp[Value.oneCell']) (by omega) ?_)
   intro w3 ba oI;have Of:g0<wr.heap.size:=aZ HA.out.row
   have y7:w3.heap[g0]? =some (.cells cs 265 (0,0)):=by
    rw[oI.block g0 (by simp;omega) (fun e=>OY (by injection e)),Below.heap_alloc _ _ _ (by simp;omega),Below.heap_alloc _ _ _ Of];exact HA.out.row
   have bj:Below w.heap.size w w3:=((aC.alloc Do _).alloc (by simp;omega) _).grown oI (by simp;omega) (fun k hk=>by injection hk with hk;subst hk;exact(HA.out.own.lt _ rfl).1);have aaa:=rowAt y7 256 _ HA.out.last;have aai:=bX y7 256;have Dr:w.heap.size<=g0:=Xu;have eB:Below w.heap.size w (w3.setCell ⟨g0,256,none⟩ (.slice (some ⟨T,0,none⟩) 3 3)):=bj.setCell (p:=⟨g0,256,none⟩) Dr _;have TF:(w3.setCell ⟨g0,256,none⟩ (.slice (some ⟨T,0,none⟩) 3 3)).heap[g0]? =some (.cells (cs.setIfInBounds 256 (.slice (some ⟨T,0,none⟩) 3 3)) 265 (0,0)):=jc y7 256 _ rfl;have mg:=ba.kept (df w3 ⟨g0,256,none⟩ (.slice (some ⟨T,0,none⟩) 3 3)) (.inr (by simp[Value.ownBlock];exact fun e=>OY e.symm));have iL:=Ih mg;have OD:=Ih TF;have OG:=Ih eB;clear ba oI y7 bj mg TF eB Dw oc oe cg c256
   go_upto_region 34 with fail
   generalize w3.setCell ⟨g0,256,none⟩ (.slice (some ⟨T,0,none⟩) 3 3)=w4 at iL OD OG⊢;have Ov:g0<w4.heap.size:=aZ OD.out;obtain⟨cap,w5,kb,bv⟩:=oU w4;have IL:w5.heap[g0]? =_:=(bv.block g0 Ov).trans OD.out;have gU:=dh iL.out bv;have c5:=rowAt IL 9 (.slice none 0 0) (by rw[Array.getElem?_setIfInBounds_ne (by omega)];exact HA.out.miss 9 (by decide) (by unfold gQ;omega));have f5:=bX IL 9;have Tt:(w5.setCell ⟨g0,9,none⟩ (.slice (some ⟨w4.heap.size,0,none⟩) 0 cap)).heap[g0]? =some (.cells ((cs.setIfInBounds 256 (.slice (some ⟨T,0,none⟩) 3 3)).setIfInBounds 9 (.slice (some ⟨w4.heap.size,0,none⟩) 0 cap)) 265 (0,0)):=jc IL 9 _ rfl;have eM:Below w.heap.size w (w5.setCell ⟨g0,9,none⟩ (.slice (some ⟨w4.heap.size,0,none⟩) 0 cap)):=(OG.out.trans (bv.mono OG.out.size)).setCell (p:=⟨g0,9,none⟩) Dr _;have ny:=gU.kept (df w5 ⟨g0,9,none⟩ (.slice (some ⟨w4.heap.size,0,none⟩) 0 cap)) (.inr (by simp[Value.ownBlock];exact fun e=>OY e.symm))
   have HF:Hid (zQ w.heap.size g0 w (.int .i64 (-2)) (w5.setCell ⟨g0,9,none⟩ (.slice (some ⟨w4.heap.size,0,none⟩) 0 cap))):=by
    refine⟨0,by omega,rfl,eM,_,T,Tt,by simp[HA.out.size],fun k hk h=>?_,fun k hk h=>?_,?_,ny⟩
    ·by_cases wu:k=9
     ·exact⟨⟨w4.heap.size,0,none⟩,cap,by rw[wu,Array.getElem?_setIfInBounds_self_of_lt (by simp[HA.out.size])]⟩
     ·rw[Array.getElem?_setIfInBounds_ne (by omega),Array.getElem?_setIfInBounds_ne (by omega)];exact HA.out.hit k hk (by unfold gQ at h⊢;omega)
    ·have wu:k≠9:=fun e=>h (by unfold gQ;omega);rw[Array.getElem?_setIfInBounds_ne (by omega),Array.getElem?_setIfInBounds_ne (by omega)];exact HA.out.miss k hk (by unfold gQ at h⊢;omega)
    ·rw[Array.getElem?_setIfInBounds_ne (by omega),Array.getElem?_setIfInBounds_self_of_lt (by simp[HA.out.size])]
   clear IL gU Tt eM ny
   go_wp2_with fail
   go_roundw
   case rel=>exact HF.out
   case measure=>simp[intOf]
  ·rw[<-GA];clear GA
   have HF:Hid (Lu w (.returned (.iface 266 (.pointer (some ⟨g0,0,none⟩)))) wr):=by
    refine⟨g0,rfl,aC,⟨cs,hA.row,fun k hk=>?_,?_⟩⟩
    ·split
     ·exact hA.hit k hk (by unfold gQ;omega)
     ·exact hA.miss k hk (by unfold gQ;omega)
    ·rcases hA.own.2 with⟨h,_⟩|⟨g1,cap,dx,h,_,hh,_,_,_,gu⟩
     ·cases h
     ·injection h with h _ jD
      injection h with h
      injection h with h1 _ _
      subst h1
      have KT:∀(k:Nat) (x:ByteArray),toB[k]? =some x->dx[k]? =some (Value.string x):=by
       intro k x hk;have h1:(toB.map Value.string)[k]? =some (Value.string x):=by rw[List.getElem?_map,hk];rfl
       have h2:dx.toList.take 3=toB.map Value.string:=gu;rw[<-h2,List.getElem?_take]at h1;split at h1
       ·simpa using h1
       ·cases h1
      exact⟨T,3,dx,hA.last,hh,KT 0 _ rfl,KT 1 _ rfl,KT 2 _ rfl⟩
   clear hA
   go_wp2_with fail
   go_ret;exact HF.out
theorem Vr (B b:Nat) (e:Int) (G c:Nat) (w:World) (rH:B<=b) (hr:bM w b 0 1 e .nilIface (.slice (some ⟨G,0,none⟩) 6 c)) (ai:w.ownsRow B 9 1 (.slice (some ⟨G,0,none⟩) 6 c) 6 (rsB.map Value.string)) (hB:B<=w.heap.size):
  Calls Tryz.prog 105 #[.pointer (some ⟨b,0,none⟩)] w fun e' w'=>e'=.returned (.tuple #[])/\lQ B b 0 1 e w w':=by
 have cB:=Ih (Jq B b e G c w hr ai);have HR:=Ih hr;have OF:b<w.heap.size:=aZ hr;clear hr ai;go_enter Tryz.func105,Tryz.ntmps105
 go_wp2_with fail
 refine cB.out.mono ?_;rintro e1 w1 ⟨g,rfl,av,pF⟩;have i9:bM w1 b 0 1 e .nilIface (.slice (some ⟨G,0,none⟩) 6 c):=(av.block b OF).trans HR.out;have c3:=rowAt i9 3 .nilIface rfl;have f3:=bX i9 3;have iG:=bM.set i9 3 (.iface 266 (.pointer (some ⟨g,0,none⟩))) (d':=0) (s':=1) (rv':=.iface 266 (.pointer (some ⟨g,0,none⟩))) (ov':=.slice (some ⟨G,0,none⟩) 6 c) (by simp);have ww:=iI.set pF i9 3 (.iface 266 (.pointer (some ⟨g,0,none⟩)));have c4:=rowAt iG 4 (.slice (some ⟨G,0,none⟩) 6 c) rfl;have f4:=bX iG 4;have pB:=bM.set iG 4 (.slice none 0 0) (d':=0) (s':=1) (rv':=.iface 266 (.pointer (some ⟨g,0,none⟩))) (ov':=.slice none 0 0) (by simp);have nw:=iI.set ww iG 4 (.slice none 0 0);have mr:=((av.mono hB).setCell (p:=⟨b,3,none⟩) rH (.iface 266 (.pointer (some ⟨g,0,none⟩)))).setCell (p:=⟨b,4,none⟩) rH (.slice none 0 0);have HF:Hid (lQ B b 0 1 e w ((w1.setCell ⟨b,3,none⟩ (.iface 266 (.pointer (some ⟨g,0,none⟩)))).setCell ⟨b,4,none⟩ (.slice none 0 0))):=⟨mr,g,pB,nw⟩;clear i9 iG pB pF ww nw mr
 go_wp2_with fail
 go_end0
 exact⟨rfl,HF.out⟩
end Go.Proofs.YtibcmemcfjhgmaaGreatDoor
namespace Lz
open Go
def lG (c:UInt8):Bool:=c==9||c==10||c==13
def dP (l:Bs):Bs:=l.filter fun c=> !(c==9||c==10||c==13)
def lA (l:Bs):Nat:=l.countP lG
theorem yg (l:Bs):(dP l).length+lA l=l.length:=by
 induction l with
 | nil=>rfl
 | cons c r ih=>
   unfold dP lA at *;rw[List.filter_cons,List.countP_cons];by_cases h:(c==9||c==10||c==13)=true
   ·have hb:lG c=true:=h;simp only[h,hb,Bool.not_true,Bool.false_eq_true,if_false,if_true,List.length_cons];omega
   ·have h':(c==9||c==10||c==13)=false:=by simpa using h
    have hb:lG c=false:=h';simp only[h',hb,Bool.not_false,if_true,Bool.false_eq_true,if_false,List.length_cons];omega
theorem Fx (l:Bs):l.count 13+l.count 10+l.count 9=lA l:=by
 induction l with
 | nil=>rfl
 | cons c r ih=>
   unfold lA at *;rw[List.countP_cons,List.count_cons,List.count_cons,List.count_cons,<-ih];by_cases h9:c=9
   ·subst h9;simp[lG];omega
   ·by_cases Ts:c=10
    ·subst Ts;simp[lG];omega
    ·by_cases wu:c=13
     ·subst wu;simp[lG];omega
     ·have hb:lG c=false:=by simp[lG,h9,Ts,wu]
      simp[hb,h9,Ts,wu]
theorem vm {l:Bs} {i:Nat} {c:UInt8} (h:l[i]? =some c):lA (l.take (i+1))=lA (l.take i)+(if lG c then 1 else 0):=by
 obtain⟨hi,he⟩:=List.getElem?_eq_some_iff.1 h;rw[List.take_succ_eq_append_getElem hi,he];unfold lA;rw[List.countP_append];simp[List.countP_cons]
theorem sW {l:Bs} {i:Nat} {c:UInt8} (h:l[i]? =some c):dP (l.take (i+1))=dP (l.take i)++(if lG c then[]else[c]):=by
 obtain⟨hi,he⟩:=List.getElem?_eq_some_iff.1 h;rw[List.take_succ_eq_append_getElem hi,he];unfold dP;rw[List.filter_append];congr 1;by_cases h9:(c==9||c==10||c==13)=true
 ·have hb:lG c=true:=h9;simp only[hb,if_true,List.filter_cons,h9,Bool.not_true,Bool.false_eq_true,if_false,List.filter_nil]
 ·have h9':(c==9||c==10||c==13)=false:=by simpa using h9
  have hb:lG c=false:=h9';simp only[hb,Bool.false_eq_true,if_false,List.filter_cons,h9',Bool.not_false,if_true,List.filter_nil]
theorem Av (l:Bs) (i:Nat):lA (l.take i)<=lA l:=by
 unfold lA;exact List.Sublist.countP_le (List.take_sublist i l)
theorem JA {l:Bs} (h:lA l=0):dP l=l:=by
 unfold dP lA at *;rw[List.filter_eq_self];intro c hc;have:=List.countP_eq_zero.1 h c hc;simpa [lG]using this
end Lz
namespace Go.Proofs.YtibcmemcfjhgmaaGreatDoor
open Go.RowKit
theorem qy {w:World} {g:Nat} (h:iI w g) (c:UInt8):if Lz.lG c then ∃A cap,w.cell? ⟨g,c.toNat,none⟩=some (.slice (some A) 0 cap)else w.cell? ⟨g,c.toNat,none⟩=some (.slice none 0 0):=by
 obtain⟨cs,hr,hc,_⟩:=h.row;have h1:=hc c.toNat c.toNat_lt;by_cases hq:c=9\/c=10\/c=13
 ·have hb:Lz.lG c=true:=by rcases hq with h|h|h<;>(subst h;rfl)
  have jr:c.toNat=9\/c.toNat=10\/c.toNat=13:=by rcases hq with h|h|h<;>(subst h;decide)
  rw[if_pos jr]at h1;rw[if_pos hb];obtain⟨A,cap,h2⟩:=h1;exact⟨A,cap,rowAt hr _ _ h2⟩
 ·have hb:¬Lz.lG c=true:=by
   intro h;apply hq;unfold Lz.lG at h;simp only[Bool.or_eq_true,beq_iff_eq]at h;rcases h with(h|h)|h
   ·exact .inl h
   ·exact .inr (.inl h)
   ·exact .inr (.inr h)
  have jr:¬(c.toNat=9\/c.toNat=10\/c.toNat=13):=fun h=>hq (by
   rcases h with h|h|h
   ·exact .inl (UInt8.toNat_inj.1 h)
   ·exact .inr (.inl (UInt8.toNat_inj.1 h))
   ·exact .inr (.inr (UInt8.toNat_inj.1 h)))
  rw[if_neg jr]at h1;rw[if_neg hb];exact rowAt hr _ _ h1
def Cf (l:List UInt8):Nat->Nat
 | 0=>0
 | 1=>l.count 13
 | 2=>l.count 13+l.count 10
 | _=>l.count 13+l.count 10+l.count 9
def zE (s:ByteArray) (w:World) (s5 s6:Value) (wx:World):Prop:=∃(kn:Nat) (y:Bool),s5=.int .i64 (kn:Int)/\s6=.bool y/\Hid (kn=(Lz.dP s.data.toList).length)/\Hid (y=decide (Lz.lA s.data.toList≠0))/\Below w.heap.size w wx
def pk (s:ByteArray) (_G:Nat) (w:World) (a b k:Value) (wr:World):Prop:=
 ∃(m q:Nat) (z:Int) (y:Bool),m<=3/\k=.int .i64 m/\Hid (q=Cf s.data.toList m)/\a=.int .i64 z/\b=.bool y/\Hid (z=(s.size:Int)-(q:Int))/\Hid (y=decide (q≠0))/\Below w.heap.size w wr
theorem PK (g:Nat) (s:ByteArray) (hs:s.size<=1000000000) (w:World) (hb:iI w g):Calls Tryz.prog 384 #[.pointer (some ⟨g,0,none⟩),.string s] w (dX (Lz.dP s.data.toList) w):=by
 obtain⟨cs,bz,iF,G,aak,Ui,iK,IW,ht0,ht1,ht2⟩:=hb.row;have c256:=rowAt bz 256 _ iK;have t0:=rowAt IW 0 _ ht0;have t1:=rowAt IW 1 _ ht1;have t2:=rowAt IW 2 _ ht2;have aO:=Lz.yg s.data.toList;rw[ac]at aO;have wm:=Lz.Fx s.data.toList;have HB:=Ih hb;clear hb bz iF iK IW ht0 ht1 ht2;go_enter Tryz.func384,Tryz.ntmps384;obtain⟨XB,RV⟩:∃XB,XB=decide (24<=s.size):=⟨_,rfl⟩;have Sf:=Ih RV;clear RV
 go_upto_region 3 with fail
 go_cut [26] (fun s26 wx=>s26=.bool XB/\w=wx)
 case first=>
  by_cases h24:24<=s.size
  ·have aci:(24:Int)<=(s.size:Int):=by omega
   have hbt:XB=true:=by rw[Sf.out,decide_eq_true h24]
   subst hbt
   go_wp2_with fail
   go_meet;exact⟨rfl,rfl⟩
  ·have aci:¬(24:Int)<=(s.size:Int):=by omega
   have hbt:XB=false:=by rw[Sf.out,decide_eq_false h24]
   subst hbt
   go_wp2_with fail
   go_meet;exact⟨rfl,rfl⟩
 case rest=>
 obtain⟨rfl,rfl⟩:=hcut
 go_upto_if 26 with fail
 go_cut [5,6] (fun s5 s6 wx=>zE s w s5 s6 wx)
 case first=>
  cases XB with
  | true=>
    have KS:G<w.heap.size:=World.block_lt_of_cell? _ _ t0;have T0:=Ih t0;have T1:=Ih t1;have T2:=Ih t2
    have H3:Hid (∀k,Cf s.data.toList k<=s.size):=Ih (fun k=>by
     have h1:Cf s.data.toList k<=Lz.lA s.data.toList:=by
      rw[<-wm];unfold Cf;split<;>omega
     omega)
    have Xo:=Ih wm;have eu:=Ih aO;clear t0 t1 t2 wm aO
    go_wp2_with fail
    go_loopw [5,6,32] (fun a b k wr=>pk s G w a b k wr) (fun _ _ k _=>3-(intOf k).toNat)
    case atStart=>exact⟨0,0,s.size,false,by omega,rfl,Ih rfl,rfl,rfl,Ih (by simp),Ih rfl,Below.refl _ _⟩
    case round=>
     obtain⟨m,q,z,y,hm,rfl,hq,rfl,rfl,hz,hy,aC⟩:=hrel;have Wy:q<=s.size:=by rw[hq.out];exact H3.out m
     have eZ:0<=z:=by rw[hz.out];omega
     have d9:z<=(s.size:Int):=by rw[hz.out];omega
     have iz:(s.size:Int)<=1000000000:=by omega
     obtain rfl|rfl|rfl|rfl:m=0\/m=1\/m=2\/m=3:=by omega
     ·have wB:s.data.toList.count 13<=s.size:=by rw[<-ac];exact List.count_le_length
      have u0:wr.cell? ⟨G,0,none⟩=some (.string ⟨#[13]⟩):=by rw[aC.cell (p:=⟨G,0,none⟩) KS];exact T0.out
      have cC:=Ih (zO s 13 wr);have jr:Hid (q+s.data.toList.count 13=Cf s.data.toList 1):=by show _=_;rw[hq.out];simp[Cf]
      have OQ:q+s.data.toList.count 13<=s.size:=by rw[jr.out];exact H3.out 1
      generalize s.data.toList.count 13=n at cC jr wB OQ;by_cases wN:n=0
      ·have hnI:((n:Int) != 0)=false:=by rw[wN];rfl
       have HF:Hid (pk s G w (.int .i64 z) (.bool y) (.int .i64 1) wr):=⟨1,q,z,y,by omega,rfl,by rw[<-jr.out,wN];rfl,rfl,rfl,hz,hy,aC⟩;clear wN hq jr
       go_wp2_with fail
       refine cC.out.mono ?_;rintro e w2 ⟨rfl,rfl⟩
       go_wp2_with fail
       go_roundw
       case rel=>exact HF.out
       case measure=>simp[intOf]
      ·have hnI:((n:Int) != 0)=true:=by simp[wN]
       have hqn:Hid (decide (q+n≠0)=true):=Ih (decide_eq_true (by omega))
       obtain⟨A1,Wu,v1⟩:∃A cap,wr.cell? ⟨g,13,none⟩=some (.slice (some A) 0 cap):=by
        have h:=qy (HB.out.below aC) 13;exact h
       have xx:=fun W:World=>SK W;clear hq
       go_wp2_with fail
       refine cC.out.mono ?_;rintro e w2 ⟨rfl,rfl⟩
       go_wp2_with fail
       go_quiet (fail)
       have xG:Below w.heap.size w (wr.drewN nq):=below_drewN aC nq;generalize wr.drewN nq=wq at xG⊢;have HF:Hid (∀z2:Int,z2=(s.size:Int)-((q+n:Nat):Int)->pk s G w (.int .i64 z2) (.bool true) (.int .i64 1) wq):=Ih (fun z2 h2=>⟨1,q+n,z2,true,by omega,rfl,jr,rfl,rfl,Ih h2,Ih (by rw[hqn.out]),xG⟩)
       go_wp2_with fail
       go_roundw
       case rel=>exact HF.out _ (by rw[hz.out];omega)
       case measure=>simp[intOf]
     ·have wB:s.data.toList.count 10<=s.size:=by rw[<-ac];exact List.count_le_length
      have u1:wr.cell? ⟨G,1,none⟩=some (.string ⟨#[10]⟩):=by rw[aC.cell (p:=⟨G,1,none⟩) KS];exact T1.out
      have cC:=Ih (zO s 10 wr);have jr:Hid (q+s.data.toList.count 10=Cf s.data.toList 2):=by show _=_;rw[hq.out];rfl
      have OQ:q+s.data.toList.count 10<=s.size:=by rw[jr.out];exact H3.out 2
      generalize s.data.toList.count 10=n at cC jr wB OQ;by_cases wN:n=0
      ·have hnI:((n:Int) != 0)=false:=by rw[wN];rfl
       have HF:Hid (pk s G w (.int .i64 z) (.bool y) (.int .i64 2) wr):=⟨2,q,z,y,by omega,rfl,by rw[<-jr.out,wN];rfl,rfl,rfl,hz,hy,aC⟩;clear wN hq jr
       go_wp2_with fail
       refine cC.out.mono ?_;rintro e w2 ⟨rfl,rfl⟩
       go_wp2_with fail
       go_roundw
       case rel=>exact HF.out
       case measure=>simp[intOf]
      ·have hnI:((n:Int) != 0)=true:=by simp[wN]
       have hqn:Hid (decide (q+n≠0)=true):=Ih (decide_eq_true (by omega))
       obtain⟨A1,Wu,v1⟩:∃A cap,wr.cell? ⟨g,10,none⟩=some (.slice (some A) 0 cap):=by
        have h:=qy (HB.out.below aC) 10;exact h
       have xx:=fun W:World=>SN W;clear hq
       go_wp2_with fail
       refine cC.out.mono ?_;rintro e w2 ⟨rfl,rfl⟩
       go_wp2_with fail
       go_quiet (fail)
       have xG:Below w.heap.size w (wr.drewN nq):=below_drewN aC nq;generalize wr.drewN nq=wq at xG⊢;have HF:Hid (∀z2:Int,z2=(s.size:Int)-((q+n:Nat):Int)->pk s G w (.int .i64 z2) (.bool true) (.int .i64 2) wq):=Ih (fun z2 h2=>⟨2,q+n,z2,true,by omega,rfl,jr,rfl,rfl,Ih h2,Ih (by rw[hqn.out]),xG⟩)
       go_wp2_with fail
       go_roundw
       case rel=>exact HF.out _ (by rw[hz.out];omega)
       case measure=>simp[intOf]
     ·have wB:s.data.toList.count 9<=s.size:=by rw[<-ac];exact List.count_le_length
      have u2:wr.cell? ⟨G,2,none⟩=some (.string ⟨#[9]⟩):=by rw[aC.cell (p:=⟨G,2,none⟩) KS];exact T2.out
      have cC:=Ih (zO s 9 wr);have jr:Hid (q+s.data.toList.count 9=Cf s.data.toList 3):=by show _=_;rw[hq.out];rfl
      have OQ:q+s.data.toList.count 9<=s.size:=by rw[jr.out];exact H3.out 3
      generalize s.data.toList.count 9=n at cC jr wB OQ;by_cases wN:n=0
      ·have hnI:((n:Int) != 0)=false:=by rw[wN];rfl
       have HF:Hid (pk s G w (.int .i64 z) (.bool y) (.int .i64 3) wr):=⟨3,q,z,y,by omega,rfl,by rw[<-jr.out,wN];rfl,rfl,rfl,hz,hy,aC⟩;clear wN hq jr
       go_wp2_with fail
       refine cC.out.mono ?_;rintro e w2 ⟨rfl,rfl⟩
       go_wp2_with fail
       go_roundw
       case rel=>exact HF.out
       case measure=>simp[intOf]
      ·have hnI:((n:Int) != 0)=true:=by simp[wN]
       have hqn:Hid (decide (q+n≠0)=true):=Ih (decide_eq_true (by omega))
       obtain⟨A1,Wu,v1⟩:∃A cap,wr.cell? ⟨g,9,none⟩=some (.slice (some A) 0 cap):=by
        have h:=qy (HB.out.below aC) 9;exact h
       have xx:=fun W:World=>Zo W;clear hq
       go_wp2_with fail
       refine cC.out.mono ?_;rintro e w2 ⟨rfl,rfl⟩
       go_wp2_with fail
       go_quiet (fail)
       have xG:Below w.heap.size w (wr.drewN nq):=below_drewN aC nq;generalize wr.drewN nq=wq at xG⊢;have HF:Hid (∀z2:Int,z2=(s.size:Int)-((q+n:Nat):Int)->pk s G w (.int .i64 z2) (.bool true) (.int .i64 3) wq):=Ih (fun z2 h2=>⟨3,q+n,z2,true,by omega,rfl,jr,rfl,rfl,Ih h2,Ih (by rw[hqn.out]),xG⟩)
       go_wp2_with fail
       go_roundw
       case rel=>exact HF.out _ (by rw[hz.out];omega)
       case measure=>simp[intOf]
     ·have wC:q=Lz.lA s.data.toList:=by rw[hq.out,<-Xo.out];rfl
      have HF:Hid (zE s w (.int .i64 z) (.bool y) wr):=⟨(Lz.dP s.data.toList).length,y,by have:=eu.out;have:=hz.out;congr 1;omega,rfl,Ih rfl,Ih (by rw[hy.out,wC]),aC⟩;clear hq wC
      go_wp2_with fail
      go_meet;exact HF.out
  | false=>
    have eu:=Ih aO;clear t0 t1 t2 wm aO c256 Sf
    go_wp2_with fail
    go_loopw [5,6,10] (fun a b k wr=>∃(i q:Nat) (z:Int) (y:Bool),i<=s.size/\k=.int .i64 i/\Hid (q=Lz.lA (s.data.toList.take i))/\a=.int .i64 z/\b=.bool y/\Hid (z=(s.size:Int)-(q:Int))/\Hid (y=decide (q≠0))/\w=wr) (fun _ _ k _=>s.size-(intOf k).toNat)
    case atStart=>exact⟨0,0,s.size,false,Nat.zero_le _,rfl,Ih rfl,rfl,rfl,Ih (by simp),Ih rfl,rfl⟩
    case round=>
     obtain⟨i,q,z,y,hi,rfl,hq,rfl,rfl,hz,hy,rfl⟩:=hrel
     have Wy:q<=s.size:=by
      have h1:=Lz.Av s.data.toList i;have h2:=eu.out;rw[hq.out];omega
     have eZ:0<=z:=by rw[hz.out];omega
     have d9:z<=(s.size:Int):=by rw[hz.out];omega
     have iz:(s.size:Int)<=1000000000:=by omega
     by_cases aL:i<s.size
     ·have aK:(i:Int)<(s.size:Int):=by omega
      have j6:(0:Int)<=(i:Int):=by omega
      obtain⟨c,hc⟩:∃c,c=s[i]:=⟨_,rfl⟩;have WU:(s[i].toNat:Int)=(c.toNat:Int):=by rw[hc]
      have oH:s.data.toList[i]? =some c:=by rw[aB aL,hc]
      have DQ:=Lz.vm oH;have bH:=qy HB.out c;have TD:(c.toNat:Int)<256:=by have:=c.toNat_lt;omega
      have lW:(0:Int)<=(c.toNat:Int):=by omega
      cases hb:Lz.lG c with
      | true=>
        rw[hb,if_pos rfl]at bH DQ;obtain⟨A1,Wu,v1⟩:=bH;have jr:Hid (q+1=Lz.lA (s.data.toList.take (i+1))):=by show _=_;rw[DQ,hq.out]
        have XA:Hid (true=decide (q+1≠0)):=Ih (by simp);have DP:=fun W:World=>run_neq_slice_nil_any (P:=Tryz.prog) W 93 5 (some A1) 0 Wu 0 0 Tryz.underlying93;clear hb DQ hc oH hq
        go_wp2_with fail
        go_roundw
        case rel=>exact⟨i+1,q+1,z-1,true,by omega,by go_num,jr,by go_num,rfl,Ih (by rw[hz.out];omega),XA,trivial⟩
        case measure=>simp[intOf];omega
      | false=>
        rw[hb,if_neg (by simp)]at bH DQ;have jr:Hid (q=Lz.lA (s.data.toList.take (i+1))):=by show _=_;rw[DQ,hq.out];rfl
        have DP:=fun W:World=>run_neq_slice_nil_any (P:=Tryz.prog) W 93 5 none 0 0 0 0 Tryz.underlying93;clear hb DQ hc oH hq
        go_wp2_with fail
        go_roundw
        case rel=>exact⟨i+1,q,z,y,by omega,by go_num,jr,rfl,rfl,hz,hy,trivial⟩
        case measure=>simp[intOf];omega
     ·have aK:¬(i:Int)<(s.size:Int):=by omega
      have wC:q=Lz.lA s.data.toList:=by rw[hq.out,List.take_of_length_le (by rw[ac];omega)]
      have HF:Hid (zE s w (.int .i64 z) (.bool y) w):=⟨(Lz.dP s.data.toList).length,y,by have:=eu.out;have:=hz.out;congr 1;omega,rfl,Ih rfl,Ih (by rw[hy.out,wC]),Below.refl _ _⟩;clear hq wC
      go_wp2_with fail
      go_meet;exact HF.out
 case rest=>
  obtain⟨kn,y,rfl,rfl,hkn,hy,aC⟩:=hcut;have eu:=Ih aO;clear t0 t1 t2 wm aO c256 Sf;cases y with
  | false=>
    have HK:Hid (s.data.toList=Lz.dP s.data.toList):=Ih (Lz.JA (by have:=of_decide_eq_false hy.out.symm;omega)).symm
    go_wp2_with fail
    go_ret;exact⟨s,rfl,HK,aC⟩
  | true=>
    obtain⟨iu,hiu,acs,abK,abF⟩:=info_parts Tryz.infoU8;have Lf:kn<=s.size:=by rw[hkn.out];have:=eu.out;omega
    have Do:=aC.size
    go_wp2_with (refine wpList_make_full _ rfl (.tmp 84) (.tmp 84) 93 rfl w.heap.size 5 iu (.int .u8 0) 1 Tryz.underlying93 hiu acs abK .i64 .i64 kn kn kn rfl rfl rfl rfl (by rw[abF];omega) (by unfold maxLen;omega) Do ?_)
    intro w2 de Pl;have aE:Below w.heap.size w w2:=aC.grown Pl Do (fun k hk=>by cases hk);obtain⟨GB,hGB⟩:∃GB,GB=wc.heap.size:=⟨_,rfl⟩;rw[<-hGB]at de⊢
    have ba:w2.ownsRow w.heap.size 5 1 (.slice (some ⟨GB,0,none⟩) kn kn) kn (u8s (Lz.dP (s.data.toList.take 0))++List.replicate (kn-0) (.int .u8 0)):=by
     rw[toList_madeCells_one]at de;exact de
    have dZ:=Ih ba;have T6:=Ih aE;clear de ba Pl aE hGB aC
    go_wp2_with fail
    go_loopw [13,14] (fun a b wr=>∃i j:Nat,i<=s.size/\a=.int .i64 j/\b=.int .i64 i/\Hid (j=(Lz.dP (s.data.toList.take i)).length)/\Below w.heap.size w wr/\Hid (wr.ownsRow w.heap.size 5 1 (.slice (some ⟨GB,0,none⟩) kn kn) kn (u8s (Lz.dP (s.data.toList.take i))++List.replicate (kn-j) (.int .u8 0)))) (fun _ b _=>s.size-(intOf b).toNat)
    case atStart=>exact⟨0,0,Nat.zero_le _,rfl,rfl,Ih rfl,T6.out,dZ⟩
    case round=>
     obtain⟨i,j,hi,rfl,rfl,hj,aC,hO⟩:=hrel
     have Pn:j<=kn:=by
      rw[hj.out,hkn.out];have h1:=Lz.yg (s.data.toList.take i);unfold Lz.dP;exact List.Sublist.length_le (List.Sublist.filter _ (List.take_sublist i _))
     have ac4:(j:Int)<=(kn:Int):=by omega
     by_cases aL:i<s.size
     ·have aK:(i:Int)<(s.size:Int):=by omega
      have j6:(0:Int)<=(i:Int):=by omega
      have tI:(0:Int)<=(j:Int):=by omega
      obtain⟨c,hc⟩:∃c,c=s[i]:=⟨_,rfl⟩;have WU:(s[i].toNat:Int)=(c.toNat:Int):=by rw[hc]
      have oH:s.data.toList[i]? =some c:=by rw[aB aL,hc]
      have DQ:=Lz.sW oH;have bH:=qy (HB.out.below aC) c;have TD:(c.toNat:Int)<256:=by have:=c.toNat_lt;omega
      have lW:(0:Int)<=(c.toNat:Int):=by omega
      cases hb:Lz.lG c with
      | true=>
        rw[hb,if_pos rfl]at bH DQ;obtain⟨A1,Wu,v1⟩:=bH;rw[List.append_nil]at DQ;have DP:=fun W:World=>run_neq_slice_nil_any (P:=Tryz.prog) W 93 5 (some A1) 0 Wu 0 0 Tryz.underlying93;have hcp:=fun(d:Option Addr) (dl dc:Nat) (ty:TypeId) (W:World)=>run_copy_none (P:=Tryz.prog) W 93 93 ty 5 d (some A1) dl dc 0 Wu Tryz.underlying93 (by kernel_rfl) (by simp);have Lh:Hid (∀W,Below wr.heap.size wr W->W.ownsRow w.heap.size 5 1 (.slice (some ⟨GB,0,none⟩) kn kn) kn (u8s (Lz.dP (s.data.toList.take (i+1)))++List.replicate (kn-j) (.int .u8 0))):=Ih (fun W hW=>by rw[DQ];exact dh hO.out hW);have Ow:Hid (j=(Lz.dP (s.data.toList.take (i+1))).length):=by show _=_;rw[DQ];exact hj.out
        clear hb DQ hc oH hj hO
        go_wp2_with fail
        go_region
        all_goals
         go_wp2_with fail
         go_roundw
         case rel=>exact⟨i+1,j,by omega,by go_num,by go_num,Ow,aC.drew,Ih (Lh.out _ (Below.refl _ _).drew)⟩
         case measure=>simp[intOf];omega
      | false=>
        rw[hb,if_neg (by simp)]at bH DQ;have DP:=fun W:World=>run_neq_slice_nil_any (P:=Tryz.prog) W 93 5 none 0 0 0 0 Tryz.underlying93;have Ow:Hid (j+1=(Lz.dP (s.data.toList.take (i+1))).length):=by show _=_;rw[DQ,hj.out,List.length_append];rfl
        have acR:j<kn:=by
         have h1:(Lz.dP (s.data.toList.take (i+1))).length<=(Lz.dP s.data.toList).length:=by
          unfold Lz.dP;exact List.Sublist.length_le (List.Sublist.filter _ (List.take_sublist (i+1) _))
         rw[<-Ow.out,<-hkn.out]at h1;omega
        have acC:(j:Int)<(kn:Int):=by omega
        have hgl:GB<wr.heap.size:=(hO.out.lt GB rfl).2;have hgw:w.heap.size<=GB:=(hO.out.lt GB rfl).1
        obtain⟨vj,cj⟩:∃v,wr.cell? ⟨GB,j,none⟩=some v:=by
         have h1:=hO.out.cellAt j (by omega);have h2:j<(u8s (Lz.dP (s.data.toList.take i))++List.replicate (kn-j) (Value.int .u8 0)).length:=by rw[hO.out.1];omega
         exact⟨_,h1.trans (List.getElem?_eq_getElem h2)⟩
        have fj:=hO.out.frozenAt j;have hst:=(hO.out.stored j (.int .u8 (c.toNat:Int))).1
        have jg:(u8s (Lz.dP (s.data.toList.take i))++List.replicate (kn-j) (Value.int .u8 0)).set j (.int .u8 (c.toNat:Int))=u8s (Lz.dP (s.data.toList.take (i+1)))++List.replicate (kn-(j+1)) (Value.int .u8 0):=by
         have hl:(u8s (Lz.dP (s.data.toList.take i))).length=j:=by rw[hj.out];simp[u8s]
         rw[List.set_append_right _ _ (by omega),hl,Nat.sub_self,DQ,show kn-j=(kn-(j+1))+1 by omega,List.replicate_succ,List.set_cons_zero]
         simp[u8s]
        rw[jg]at hst;have bj:=aC.setCell (p:=⟨GB,j,none⟩) hgw (.int .u8 (c.toNat:Int));have HF:Hid (wr.setCell ⟨GB,j,none⟩ (.int .u8 (c.toNat:Int)) |>.ownsRow w.heap.size 5 1 (.slice (some ⟨GB,0,none⟩) kn kn) kn (u8s (Lz.dP (s.data.toList.take (i+1)))++List.replicate (kn-(j+1)) (.int .u8 0))):=Ih hst;have Hb3:=Ih bj;clear hb DQ hc oH hj hO jg hst bj
        go_wp2_with fail
        go_roundw
        case rel=>exact⟨i+1,j+1,by omega,by go_num,by go_num,Ow,Hb3.out,HF⟩
        case measure=>simp[intOf];omega
     ·have aK:¬(i:Int)<(s.size:Int):=by omega
      have gu:s.data.toList.take i=s.data.toList:=List.take_of_length_le (by rw[ac];omega);have XC:j=kn:=by rw[hj.out,gu,hkn.out]
      have Lh:wr.ownsRow w.heap.size 5 1 (.slice (some ⟨GB,0,none⟩) kn kn) kn (u8s (Lz.dP s.data.toList)):=by
       have h1:=hO.out;rw[XC,Nat.sub_self,gu]at h1;simpa using h1
      have kL:=kW Lh;clear hj hO XC gu Lh
      go_wp2_with fail
      go_ret;exact⟨_,rfl,Ih rfl,aC⟩
end Go.Proofs.YtibcmemcfjhgmaaGreatDoor
namespace Lz
open Go
theorem LJ (s:Bs):bB s=dP ((s.dropWhile spQ).reverse.dropWhile spQ).reverse:=rfl
end Lz
namespace Go.Proofs.YtibcmemcfjhgmaaGreatDoor
open Go.RowKit
structure wg (w:World):Prop where
 h:eU w
 u8:Lib.Utf8Tabs 8 9 w
theorem wg.below {w w':World} (h:wg w) (hb:Below w.heap.size w w'):wg w':=⟨h.h.below hb,Utf8Tabs_below h.u8 hb⟩
theorem IX (args:Array Value) (w:World):(callFunc 118 args).run Tryz.prog w=.ok (.enter 118 args) w:=enters_of Tryz.func118 (by kernel_rfl) rfl args w
theorem FX (x:Nat) (hx:x<=1114111) (w:World):Calls Tryz.prog 118 #[.int .i32 (x:Int)] w fun e w'=>e=.returned (.bool (Lz.pSp x))/\Below w.heap.size w w':=by
 by_cases h:x<=32
 ·have hp:Lz.pSp x=true:=decide_eq_true h;have hI:(x:Int)<=32:=by omega
  rw[hp];clear h hp;go_enter Tryz.func118,Tryz.ntmps118
  go_wp2
  go_ret;exact⟨rfl,Below.refl _ _⟩
 ·have hp:Lz.pSp x=false:=decide_eq_false h;have hI:¬(x:Int)<=32:=by omega
  rw[hp];clear h hp;go_enter Tryz.func118,Tryz.ntmps118
  go_wp2
  go_ret;exact⟨rfl,Below.refl _ _⟩
theorem Ez (s:ByteArray) (hs:s.size<=1000000000) (w:World) (hE:wg w):Calls Tryz.prog 117 #[.string s,.func (.func 118) #[] #[]] w (dX ((s.data.toList.dropWhile Lz.spQ).reverse.dropWhile Lz.spQ).reverse w):=
 (Tryz.strings_TrimFunc_grows 118 #[] IX Lz.pSp s w (by omega) hE.u8 (fun W x hx _=>FX x hx W)).mono fun _ _ ⟨he,hb⟩=>⟨_,he,Ih (Lz.PJ s),hb⟩
theorem NE (B b G c:Nat) (s:ByteArray) (hs:s.size<=1000000000) (w:World) (rH:B<=b) (hr:bM w b 0 0 0 .nilIface (.slice (some ⟨G,0,none⟩) 6 c)) (ai:w.ownsRow B 9 1 (.slice (some ⟨G,0,none⟩) 6 c) 6 (rsB.map Value.string)) (hB:B<=w.heap.size):
  Calls Tryz.prog 64 #[.pointer (some ⟨b,0,none⟩),.string s] w fun e w'=>∃u:ByteArray,e=.returned (.string u)/\Hid (u.data.toList=Lz.dP s.data.toList)/\Below B w w':=by
 have de:=ai.kept (df w ⟨b,1,none⟩ (.int .i32 1)) (.inr (by
  simp[Value.ownBlock]
  intro e;rcases ai.2 with⟨h,_⟩|⟨g1,cap,dx,h,_,hh,_⟩
  ·cases h
  ·injection h with h _ _;injection h with h;injection h with h1 _ _
   have h2:w.heap[b]? =_:=hr;rw[<-e,h1,hh]at h2;injection h2 with h2
   injection h2 with _ h3 _
   exact absurd h3 (by decide)))
 have cD:=Ih (doO B b 0 .nilIface (.slice (some ⟨G,0,none⟩) 6 c) w rH hr (fun W hW hWe=>by
  have iG:bM W b 0 1 0 .nilIface (.slice (some ⟨G,0,none⟩) 6 c):=by rw[hWe];exact bM.set hr 1 (.int .i32 1) (by simp)
  rw[<-hWe]at de;exact Vr B b 0 G c W rH iG de (Nat.le_trans hB hW.size)))
 have hmf:∀(fn:Fn) (first cap:Array Value) (w:World),(Instr.makeFunc fn first cap).run Tryz.prog w=.ok (.func fn first cap) w:=fun _ _ _ _=>rfl;clear ai de hr;go_enter Tryz.func64,Tryz.ntmps64
 go_wp2_with fail
 refine cD.out.mono ?_;rintro e w1 ⟨rfl,av,g,i9,pF⟩;have c3:=rowAt i9 3 (.iface 266 (.pointer (some ⟨g,0,none⟩))) rfl;have nu:∀w,(nilAhead 507 266 (.pointer (some ⟨g,0,none⟩)) "Replace").run Tryz.prog w=.ok (some false) w:=fun _=>by kernel_rfl
 have mU:∀w,(Go.method 507 266 (.pointer (some ⟨g,0,none⟩)) "Replace").run Tryz.prog w=.ok (384,.pointer (some ⟨g,0,none⟩)) w:=fun _=>by kernel_rfl
 have cR:=Ih (PK g s hs w1 pF);clear i9 pF
 go_wp2_with fail
 refine cR.out.mono ?_;rintro e w2 ⟨u,rfl,hu,aE⟩
 go_wp2_with fail
 go_ret;exact⟨u,rfl,hu,av.trans (aE.mono (Nat.le_trans hB av.size))⟩
theorem Jv (s:ByteArray) (hs:s.size<=1000000000) (w:World) (hE:wg w):Calls Tryz.prog 71 #[.string s] w (dX (Lz.bB s.data.toList) w):=by
 have cT:=Ih (Ez s hs w hE);have HC:Hid (Lz.bB s.data.toList=Lz.dP ((s.data.toList.dropWhile Lz.spQ).reverse.dropWhile Lz.spQ).reverse):=Ih (Lz.LJ _)
 have aO:((s.data.toList.dropWhile Lz.spQ).reverse.dropWhile Lz.spQ).reverse.length<=s.size:=by
  rw[List.length_reverse];refine Nat.le_trans (List.dropWhile_sublist _).length_le ?_;rw[List.length_reverse];exact(List.dropWhile_sublist _).length_le
 go_enter Tryz.func71,Tryz.ntmps71
 go_wp2_with fail
 refine cT.out.mono ?_;rintro e w1 ⟨u,rfl,hu,av⟩;have xD:u.size<=s.size:=by rw[<-ac,hu.out];exact aO
 have bH:∀(j:Nat) (x:Value),(rsB.map Value.string)[j]? =some x->(w1.alloc (.cells #[.string ⟨#[9]⟩,.string ⟨#[]⟩,.string ⟨#[10]⟩,.string ⟨#[]⟩,.string ⟨#[13]⟩,.string ⟨#[]⟩] 9)).cell? ((⟨w1.heap.size,0,none⟩:Addr).add j)=some x:=by
  intro j x hj;rw[bD,World.cell?_alloc_mark];rw[<-Array.getElem?_toList];exact hj
 have cN:=Ih (NN w1.heap.size ⟨w1.heap.size,0,none⟩ 6 _ (by simp) bH);clear bH
 go_wp2_with fail
 refine cN.out.mono ?_;rintro e w2 ⟨b,G,c,rfl,rH,hr,ai,aE⟩;have Ot:Below w1.heap.size w1 w2:=((Below.refl _ w1).alloc (Nat.le_refl _) _).trans (aE.mono (by simp));have cR:=Ih (NE w1.heap.size b G c u (by omega) w2 rH hr ai Ot.size);clear hr ai
 go_wp2_with fail
 refine cR.out.mono ?_;rintro e w3 ⟨v,rfl,hv,bj⟩
 go_wp2_with fail
 go_ret;exact⟨v,rfl,Ih (by rw[HC.out,hv.out,hu.out]),ae av (Ot.trans bj)⟩
def wO (x:Nat):Bool:=if x<128 then !Lz.dA (UInt8.ofNat x)else true
def SQ:ByteArray:=⟨#[43,45,46]⟩
theorem Re:∀x:Fin 128,decide (0<=Lib.indexByte SQ.data.toList x.val.toUInt8)=(UInt8.ofNat x.val==43||UInt8.ofNat x.val==45||UInt8.ofNat x.val==46):=by decide +kernel
theorem P1:Lz.dA (UInt8.ofNat 127)=false:=by decide +kernel
theorem MP (x:Nat) (hx:x<=1114111) (w:World):Calls Tryz.prog 172 #[.int .i32 (x:Int)] w fun e w'=>e=.returned (.bool (wO x))/\Below w.heap.size w w':=by
 by_cases h:126<x
 ·have hp:wO x=true:=by
   unfold wO;split
   ·obtain rfl:x=127:=by omega
    rw[P1];rfl
   ·rfl
  have hI:(126:Int)<(x:Int):=by omega
  rw[hp];clear h hp;go_enter Tryz.func172,Tryz.ntmps172
  go_wp2_with fail
  go_ret;exact⟨rfl,Below.refl _ _⟩
 ·have hI:¬(126:Int)<(x:Int):=by omega
  obtain⟨c,hc⟩:∃c:UInt8,c=UInt8.ofNat x:=⟨_,rfl⟩;have DO:c.toNat=x:=by rw[hc,UInt8.toNat_ofNat'];omega
  have hp:wO x= !(Lz.bn c||Lz.aQ c||(c==43||c==45||c==46)):=by
   unfold wO;rw[if_pos (by omega),<-hc];unfold Lz.dA;simp only[Bool.or_assoc]
  have kL:IntKind.u8.wrap (x:Int)=(c.toNat:Int):=by rw[DO];exact IntWalk.u8_in _ (by omega)
  have kO:IntKind.u8.wrap (c.toNat:Int)=(c.toNat:Int):=by rw[DO];exact IntWalk.u8_in _ (by omega)
  have cA:=li c w;have cD:=kX c w;have cC:=Tryz.strings_ContainsRune_ascii SQ (x:Int) w (by omega) (by omega);rw[show((x:Int)).toNat=x by omega,Re ⟨x,by omega⟩,show UInt8.ofNat x=c from hc.symm]at cC;rw[hp];generalize Lz.bn c=qa at cA;generalize Lz.aQ c=qd at cD;generalize (c==43||c==45||c==46)=qc at cC;have Lg:(x:Int)=(c.toNat:Int):=by omega
  rw[Lg]at cC hI⊢;have CA:=Ih cA;have CD:=Ih cD;have CC:=Ih (cC.mono fun _ _ (h:_/\_)=>(⟨h.1,h.2.symm⟩:_/\w=_));clear cA cD cC hp kL Lg hc h DO hx;cases qa with
  | true=>
    go_enter Tryz.func172,Tryz.ntmps172
    go_wp2_with fail
    refine CA.out.mono ?_;rintro e w1 ⟨rfl,rfl⟩
    go_wp2_with fail
    go_ret;exact⟨rfl,Below.refl _ _⟩
  | false=>
    cases qd with
    | true=>
      go_enter Tryz.func172,Tryz.ntmps172
      go_wp2_with fail
      refine CA.out.mono ?_;rintro e w1 ⟨rfl,rfl⟩
      go_wp2_with fail
      refine CD.out.mono ?_;rintro e w1 ⟨rfl,rfl⟩
      go_wp2_with fail
      go_ret;exact⟨rfl,Below.refl _ _⟩
    | false=>
      go_enter Tryz.func172,Tryz.ntmps172
      go_wp2_with fail
      refine CA.out.mono ?_;rintro e w1 ⟨rfl,rfl⟩
      go_wp2_with fail
      refine CD.out.mono ?_;rintro e w1 ⟨rfl,rfl⟩
      go_wp2_with fail
      refine CC.out.mono ?_;rintro e w1 ⟨rfl,rfl⟩
      go_wp2_with fail
      go_ret;exact⟨by cases qc<;>rfl,Below.refl _ _⟩
theorem QK (x:Nat) (h:128<=x):wO x=true:=by unfold wO;rw[if_neg (by omega)]
theorem P5 (c:UInt8) (h:c.toNat<128):wO c.toNat= !Lz.dA c:=by unfold wO;rw[if_pos h];simp
theorem Ux:∀c:UInt8,128<=c.toNat->(!Lz.dA c)=true:=Lz.aA (by decide +kernel)
theorem Qo (args:Array Value) (w:World):(callFunc 172 args).run Tryz.prog w=.ok (.enter 172 args) w:=enters_of Tryz.func172 (by kernel_rfl) rfl args w
theorem xr (s:ByteArray) (w:World):Calls Tryz.prog 171 #[.string s,.func (.func 172) #[] #[]] w fun e w'=>∃i:Int,e=.returned (.int .i64 i)/\Hid (decide (0<=i)= !s.data.toList.all Lz.dA)/\Below w.heap.size w w':=by
 refine(Tryz.strings_IndexFunc_grows 172 #[] Qo wO s w (fun W x hx _=>MP x hx W)).mono ?_;rintro e w' ⟨he,hb⟩;refine⟨_,he,Ih ?_,hb⟩;have:=Lz.zn (q:=fun c=> !Lz.dA c) QK P5 Ux s s.size 0 (by omega);rw[List.drop_zero]at this;refine this.trans ?_;rw[List.not_all_eq_any_not]
def yn (s:List UInt8):Bool:=(Lib.cut s [58]).2.2&& !(Lib.cut s [58]).1.isEmpty&&(match (Lib.cut s [58]).1 with|a::_=>Lz.bn a|[]=>false)&&(Lib.cut s [58]).1.all Lz.dA
theorem EU (s:List UInt8):Lz.aI s=if yn s then(Lz.low (Lib.cut s [58]).1,(Lib.cut s [58]).2.1,true)else([],s,false):=rfl
theorem zR (s:ByteArray) (hs:s.size<=1000000000) (w:World) (hE:eU w):Calls Tryz.prog 119 #[.string s] w (qm (Lz.aI s.data.toList).1 (Lz.aI s.data.toList).2.1 (Lz.aI s.data.toList).2.2 w):=by
 have cC:=Ih (CK s ⟨#[58]⟩ (by omega) w hE);have hS:=EU s.data.toList;have wB:=Lz.lz 58 s.data.toList;obtain⟨ok,lV⟩:∃ok,ok=(Lib.cut s.data.toList [58]).2.2:=⟨_,rfl⟩;rw[show(⟨#[58]⟩:ByteArray).data.toList=[58]from rfl,<-lV]at cC;have HS:=Ih hS;have R5:=Ih lV;clear hS lV;go_enter Tryz.func119,Tryz.ntmps119
 go_wp2_with fail
 refine cC.out.mono ?_;rintro e w1 ⟨a,r,rfl,ha,hr,av⟩;have has:a.size<=s.size:=by rw[<-ac,ha.out];rw[ac]at wB;omega
 have cI:=Ih (xr a w1)
 go_wp2_with fail
 refine cI.out.mono ?_;rintro e w2 ⟨i,rfl,hi,aE⟩;have mj:=ae av aE
 have KO:yn s.data.toList=(ok&& !a.data.toList.isEmpty&&(match a.data.toList with|a::_=>Lz.bn a|[]=>false)&&a.data.toList.all Lz.dA):=by
  unfold yn;rw[<-R5.out,<-ha.out]
 have HN:Hid (yn s.data.toList=false->Lz.aI s.data.toList=([],s.data.toList,false)):=Ih (fun h=>by rw[HS.out,h];rfl);cases ok with
 | false=>
   have HF:=Ih (HN.out (by rw[KO];rfl));clear KO ha
   go_wp2_with fail
   go_ret3
   rw[HF.out];exact⟨_,_,rfl,Ih rfl,Ih rfl,mj⟩
 | true=>
   by_cases he:a.data.toList=[]
   ·have HF:=Ih (HN.out (by rw[KO,he];rfl));have g0:=eS he;have RZ:a.toList.isEmpty=true:=aN (by rw[<-ac,he];rfl);clear KO ha he
    go_wp2_with fail
    go_ret3
    rw[HF.out];exact⟨_,_,rfl,Ih rfl,Ih rfl,mj⟩
   ·have g0:=fU he;have hap:0<a.size:=by rw[<-ac];exact List.length_pos_iff.2 he
    have ac5:(0:Int)<(a.size:Int):=by omega
    have RZ:a.toList.isEmpty=false:=aG hap;obtain⟨c,hc⟩:∃c,c=a[0]:=⟨_,rfl⟩;have WU:(a[0].toNat:Int)=(c.toNat:Int):=by rw[hc]
    have oH:a.data.toList[0]? =some c:=by rw[aB hap,hc]
    have Du:yn s.data.toList=(Lz.bn c&&a.data.toList.all Lz.dA):=by
     rw[KO];cases hl:a.data.toList with
     | nil=>exact absurd hl he
     | cons x xs=>
       rw[hl]at oH;have:x=c:=by simpa using oH
       simp[this]
    have cA:=li c w2;cases wD:Lz.bn c with
    | false=>
      rw[wD]at cA Du;have HF:=Ih (HN.out (by rw[Du];rfl));have CA:=Ih cA;clear KO Du ha he hc oH cA wD
      go_wp2_with fail
      refine CA.out.mono ?_;rintro e w3 ⟨rfl,rfl⟩
      go_wp2_with fail
      go_ret3
      rw[HF.out];exact⟨_,_,rfl,Ih rfl,Ih rfl,mj⟩
    | true=>
      rw[wD]at cA Du;have CA:=Ih cA;by_cases j6:0<=i
      ·have HF:=Ih (HN.out (by
        have h1:=hi.out;rw[decide_eq_true j6]at h1;rw[Du,Bool.true_and];cases h2:a.data.toList.all Lz.dA with
        | false=>rfl
        | true=>rw[h2]at h1;cases h1))
       clear KO Du ha he hc oH cA wD
       go_wp2_with fail
       refine CA.out.mono ?_;rintro e w3 ⟨rfl,rfl⟩
       go_wp2_with fail
       go_ret3
       rw[HF.out];exact⟨_,_,rfl,Ih rfl,Ih rfl,mj⟩
      ·have HF:Hid (Lz.aI s.data.toList=(Lz.low a.data.toList,r.data.toList,true)):=by
        show _=_;have h1:=hi.out;rw[decide_eq_false j6]at h1
        have h2:yn s.data.toList=true:=by
         rw[Du,Bool.true_and];cases h2:a.data.toList.all Lz.dA with
         | false=>rw[h2]at h1;cases h1
         | true=>rfl
        rw[HS.out,if_pos h2,ha.out,hr.out]
       have cL:=Ih (fun W=>kp a (by omega) W);clear KO Du ha he hc oH cA wD
       go_wp2_with fail
       refine CA.out.mono ?_;rintro e w3 ⟨rfl,rfl⟩
       go_wp2_with fail
       refine(cL.out _).mono ?_;rintro e w3 ⟨l,rfl,hl,bj⟩
       go_wp2_with fail
       go_ret3
       rw[HF.out];exact⟨_,_,rfl,hl,Ih rfl,ae mj bj⟩
end Go.Proofs.YtibcmemcfjhgmaaGreatDoor
