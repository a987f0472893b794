/-
  Package urls: clean, schemed.
-/
import Derived.Test.YtjhccadmmnjpeaaGreatDoorT13
import Derived.Test.YtjhccadmmnjpeaaGreatDoorT14
set_option maxHeartbeats 4000000
set_option maxRecDepth 100000
namespace Go.Proofs.YtjhccadmmnjpeaaGreatDoor
open Go.RowKit
theorem bsZero:Tryz.zeroCells231=Array.replicate 257 (.slice none 0 0):=by kernel_rfl
noncomputable def bsZ (v:Value):Array Value:=Tryz.zeroCells231.setIfInBounds 256 v
theorem bsZ_size (v:Value):(bsZ v).size=257:=by unfold bsZ;rw[bsZero];simp
theorem bsZ_lo (v:Value) (k:Nat) (hk:k<256):(bsZ v)[k]? =some (.slice none 0 0):=by
 unfold bsZ;rw[bsZero,Array.getElem?_setIfInBounds_ne (by omega),Array.getElem?_replicate,if_pos (by omega)]
theorem bsZ_hi (v:Value):(bsZ v)[256]? =some v:=by
 unfold bsZ;rw[bsZero,Array.getElem?_setIfInBounds_self_of_lt (by simp)]
theorem bsZ_all (a:Option Addr) (n c:Nat):(bsZ (.slice a n c)).all (·.oneCell')=true:=by
 rw[Array.all_eq_true'];intro x hx;obtain⟨k,hk⟩:=Array.mem_iff_getElem?.1 hx;have hkl:k<257:=by have:=(Array.getElem?_eq_some_iff.1 hk).1;rw[bsZ_size]at this;exact this
 rcases Nat.lt_or_ge k 256 with h|h
 ·rw[bsZ_lo _ _ h]at hk;rw[<-Option.some.inj hk];rfl
 ·obtain rfl:k=256:=by omega
  rw[bsZ_hi]at hk;rw[<-Option.some.inj hk];rfl
theorem bsSize:(Tryz.prog.info? 231).map (·.size)=some 257:=by kernel_rfl
def rsB:List ByteArray:=[⟨#[9]⟩,⟨#[]⟩,⟨#[10]⟩,⟨#[]⟩,⟨#[13]⟩,⟨#[]⟩]
def RNew (B:Nat) (w:World) (e:Ending) (w':World):Prop:=∃b G c,e=.returned (.pointer (some ⟨b,0,none⟩))/\B<=b/\RepRow w' b 0 0 0 .nilIface (.slice (some ⟨G,0,none⟩) 6 c)/\w'.ownsRow B 9 1 (.slice (some ⟨G,0,none⟩) 6 c) 6 (rsB.map Value.string)/\Below w.heap.size w w'
theorem NewR_any (B:Nat) (p:Addr) (c:Nat) (w:World) (hB:B<=w.heap.size) (hc:∀(j:Nat) (u:Value),(rsB.map Value.string)[j]? =some u->w.cell? (p.add j)=some u):
  Calls Tryz.prog 53 #[.slice (some p) 6 c] w (RNew B w):=by
 obtain⟨i0,hi,hz0,hz1,hz2⟩:=info_parts infoTxt;have Hc:=Ih hc;clear hc;go_enter Tryz.func53,Tryz.ntmps53
 go_wp2_with (at_builtin;refine wpList_append_own _ rfl (.const (.slice none 0 0)) (.tmp 8) 22 rfl B 9 i0 (.string ⟨#[]⟩) 1 16 Tryz.underlying22 hi hz0 hz1 hz2 rfl (by decide) _ 0 [] rfl (World.ownsRow_nil _ B _ _) p 6 c (rsB.map Value.string) rfl rfl Hc.out (by decide) (by unfold maxLen;omega) (by omega) (by omega) ?_)
 intro v' w' hown hg hnil;have hb:Below w.heap.size w w':=(Below.refl _ w).grown hg (Nat.le_refl _) (fun k hk=>by simp[Value.ownBlock]at hk);have hP:PathOwn w' B v' rsB:=.inl hown;obtain⟨a',c',hv',_,hcells⟩:=hP.form;have hv2:v'=.slice a' 6 c':=hv';subst hv2;obtain⟨G,off,rfl,_,_⟩:=hcells 0 ⟨#[9]⟩ rfl
 have hoff:off=0:=by
  rcases hown.2 with⟨h,_⟩|⟨g,cap,cur,h,_⟩
  ·cases h
  ·injection h with h _ _;injection h with h;injection h with h1 h2 _
 subst hoff;have Hown:Hid (w'.ownsRow B 9 1 (.slice (some ⟨G,0,none⟩) 6 c') 6 (rsB.map Value.string)):=Ih hown;have hwz:=hb.size;clear hown hg hP hcells hnil hv'
 go_wp2_with fail
 go_ret;refine⟨_,G,c',rfl,by omega,?_,Hown.out.alloc _,below_call hb ((Below.refl _ _).alloc (Nat.le_refl _) _)⟩;show(w'.heap.push _)[w'.heap.size]? =_
 simp
theorem conv_one (w:World) (o:UInt8):(convert 30 9 (.slice (some ⟨w.heap.size,0,none⟩) 1 1)).run Tryz.prog (w.alloc (.cells #[.int .u8 (o.toNat:Int)] 5))=.ok (.string ⟨#[o]⟩) (w.alloc (.cells #[.int .u8 (o.toNat:Int)] 5)):=by
 refine run_convert_bytes_back (P:=Tryz.prog) _ 30 9 5 ⟨w.heap.size,0,none⟩ 1 [o] Tryz.underlying30 Tryz.underlying5 Tryz.underlying9 ?_;intro j hj;have hj0:j=0:=by simpa using hj
 subst hj0;exact cell_one w (.int .u8 (o.toNat:Int)) 5 0 _ rfl
theorem idx13 (W:World):(Instr.index 9 (.string ⟨#[13]⟩) (.int .i64 0)).run Tryz.prog W=.ok (.int .u8 13) W:=by kernel_rfl
theorem idx10 (W:World):(Instr.index 9 (.string ⟨#[10]⟩) (.int .i64 0)).run Tryz.prog W=.ok (.int .u8 10) W:=by kernel_rfl
theorem idx9 (W:World):(Instr.index 9 (.string ⟨#[9]⟩) (.int .i64 0)).run Tryz.prog W=.ok (.int .u8 9) W:=by kernel_rfl
theorem bytes_none (w:World):∃(cap:Nat) (w':World),(convert 9 30 (.string ⟨#[]⟩)).run Tryz.prog w=.ok (.slice (some ⟨w.heap.size,0,none⟩) 0 cap) w'/\Below w.heap.size w w':=
 ⟨_,_,run_bytes_of_string (P:=Tryz.prog) w 9 30 5 ⟨#[]⟩ Tryz.underlying9 Tryz.underlying30 Tryz.underlying5,(Below.refl _ w).drew.alloc (Nat.le_refl _) _⟩
def doneQ (m k:Nat):Prop:=(k=13/\m<=2)\/(k=10/\m<=1)\/(k=9/\m=0)
def toB:List ByteArray:=[⟨#[13]⟩,⟨#[10]⟩,⟨#[9]⟩]
structure BsAt (B g m:Nat) (wr:World) (cs:Array Value) (T:Nat):Prop where
 row:wr.heap[g]? =some (.cells cs 231 (0,0))
 size:cs.size=257
 hit:∀k,k<256->doneQ m k->∃A c,cs[k]? =some (.slice (some A) 0 c)
 miss:∀k,k<256->¬doneQ m k->cs[k]? =some (.slice none 0 0)
 last:cs[256]? =some (.slice (some ⟨T,0,none⟩) (3-m) 3)
 own:wr.ownsRow B 9 1 (.slice (some ⟨T,0,none⟩) (3-m) 3) (3-m) ((toB.take (3-m)).map Value.string)
def BsLoop (B g:Nat) (w:World) (i:Value) (wr:World):Prop:=∃m:Nat,m<=3/\i=.int .i64 (2*(m:Int)-2)/\Below B w wr/\∃cs T,BsAt B g m wr cs T
def RBuild (w:World) (e:Ending) (w':World):Prop:=∃g,e=.returned (.iface 232 (.pointer (some ⟨g,0,none⟩)))/\Below w.heap.size w w'/\BsRep w' g
theorem build_any (B b:Nat) (e:Int) (G c:Nat) (w:World) (hr:RepRow w b 0 1 e .nilIface (.slice (some ⟨G,0,none⟩) 6 c)) (hown:w.ownsRow B 9 1 (.slice (some ⟨G,0,none⟩) 6 c) 6 (rsB.map Value.string)):
  Calls Tryz.prog 131 #[.pointer (some ⟨b,0,none⟩)] w (RBuild w):=by
 obtain⟨i0,hi,hz0,hz1,hz2⟩:=info_parts infoTxt;have r4:=rowAt hr 4 (.slice (some ⟨G,0,none⟩) 6 c) rfl
 have hGc:∀k x,rsB[k]? =some x->w.cell? ⟨G,k,none⟩=some (.string x):=fun k x hk=>by
  have:=hown.cells (g:=G) rfl k (.string x) (by rw[List.getElem?_map,hk];rfl);rw[addr_add]at this;exact this
 have o0:=hGc 0 ⟨#[9]⟩ rfl;have o1:=hGc 1 ⟨#[]⟩ rfl;have o2:=hGc 2 ⟨#[10]⟩ rfl;have o3:=hGc 3 ⟨#[]⟩ rfl;have o4:=hGc 4 ⟨#[13]⟩ rfl;have o5:=hGc 5 ⟨#[]⟩ rfl;have hGl:G<w.heap.size:=World.block_lt_of_cell? _ _ o0;have hYs:Tryz.zeroCells231.size=257:=by rw[bsZero];simp
 have HGc:=Ih hGc;have HYs:=Ih hYs;clear hown hr hGc hYs;go_enter Tryz.func131,Tryz.ntmps131
 go_wp2_with fail
 refine wp_loop_rounds 4 ?_;rw[rounds_succ]
 go_wp2_with fail
 rw[rounds_succ]
 go_wp2_with fail
 rw[rounds_succ]
 go_wp2_with fail
 rw[rounds_succ];clear o0 o1 o2 o3 o4 o5 r4
 go_upto_region 26 with fail
 go_wp2_with (refine wpList_make_own _ rfl (.const (.int .i64 0)) (.tmp 93) 22 rfl w.heap.size 9 i0 (.string ⟨#[]⟩) 1 Tryz.underlying22 hi hz0 hz1 .i64 .i64 3 3 rfl rfl rfl (by rw[hz2];omega) (by decide) (Nat.le_refl _) ?_)
 intro w1 hown1 hg1;have hb1:Below w.heap.size w w1:=(Below.refl _ w).grown hg1 (Nat.le_refl _) (fun k hk=>by cases hk);have Hown1:=Ih hown1;have hw1:=hb1.size;clear hown1 hg1
 go_wp2_with (refine wpList_store_row rfl 231 (.tmp 11) (.tmp 95) rfl w1.heap.size (bsZ (.slice (some ⟨w.heap.size,0,none⟩) 0 3)) rfl rfl 231 Tryz.zeroCells231 (by show(w1.heap.push _)[w1.heap.size]? =_;simp) (by rw[bsZ_size];exact bsSize) (by rw[HYs.out,bsZ_size]) (bsZ_all _ _ _) ?_)
 obtain⟨Y,hY⟩:∃Y,Y=Tryz.zeroCells231:=⟨_,rfl⟩;rw[<-hY];obtain⟨Z,hZ⟩:∃Z,Z=bsZ (.slice (some ⟨w.heap.size,0,none⟩) 0 3):=⟨_,rfl⟩;rw[<-hZ];have HZ:=Ih hZ;have hR1:((w1.alloc (.cells Y 231)).setRow w1.heap.size Z).heap[w1.heap.size]? =some (.cells Z 231 (0,0)):=setRow_heap _ _ Y _ _ _ (by show(w1.heap.push _)[w1.heap.size]? =_;simp);have hgr:(w1.alloc (.cells Y 231)).grownBy ((w1.alloc (.cells Y 231)).setRow w1.heap.size Z) (some w1.heap.size):=⟨rfl,rfl,rfl,by simp,fun k _ hk=>setRow_other _ _ _ _ (fun e=>hk (by rw[e]))⟩;have hb2:Below w.heap.size w ((w1.alloc (.cells Y 231)).setRow w1.heap.size Z):=(hb1.alloc hw1 _).grown hgr (by simp;omega) (fun k hk=>by injection hk with hk;omega);have hown2:=(Hown1.out.alloc (.cells Y 231)).kept hgr (.inr (by simp[Value.ownBlock];have:=Hown1.out.lt w.heap.size rfl;omega));generalize (w1.alloc (.cells Y 231)).setRow w1.heap.size Z=w2 at hR1 hb2 hown2⊢;have HB2:=Ih hb2;have HR1:=Ih hR1;have HO2:=Ih hown2;clear hgr hb1 hb2 hR1 hown2 Hown1 hZ hY
 go_wp2_with fail
 go_loopw [12] (fun i wr=>BsLoop w.heap.size w1.heap.size w i wr) (fun i _=>(intOf i+2).toNat)
 case atStart=>
  refine⟨3,by omega,rfl,HB2.out,Z,w.heap.size,HR1.out,by rw[HZ.out];exact bsZ_size _,fun k hk h=>?_,fun k hk _=>by rw[HZ.out];exact bsZ_lo _ k hk,by rw[HZ.out];exact bsZ_hi _,HO2.out⟩;unfold doneQ at h;omega
 case round=>
  obtain⟨m,hm,rfl,hbw,cs,T,hA⟩:=hrel;obtain⟨g0,hg0⟩:∃g0,g0=w1.heap.size:=⟨_,rfl⟩;rw[<-hg0]at hA;have hg0w:w.heap.size<=g0:=by rw[hg0];exact hw1
  obtain rfl|rfl|rfl|rfl:m=3\/m=2\/m=1\/m=0:=by omega
  ·rw[<-hg0];clear hg0;have oc:wr.cell? ⟨G,4,none⟩=some (.string ⟨#[13]⟩):=by rw[hbw.cell (p:=⟨G,4,none⟩) hGl];exact HGc.out 4 ⟨#[13]⟩ rfl
   have oe:wr.cell? ⟨G,5,none⟩=some (.string ⟨#[]⟩):=by rw[hbw.cell (p:=⟨G,5,none⟩) hGl];exact HGc.out 5 ⟨#[]⟩ rfl
   have cg:=rowAt hA.row 13 (.slice none 0 0) (hA.miss 13 (by decide) (by unfold doneQ;omega));have c256:=rowAt hA.row 256 (.slice (some ⟨T,0,none⟩) 0 3) hA.last;have hnil:=fun W:World=>Lib.run_eql_slice_nil (P:=Tryz.prog) W 30 5 none 0 0 0 0 Tryz.underlying30;have hidx:=fun W:World=>idx13 W;have hconv:(convert 30 9 (.slice (some ⟨wr.heap.size,0,none⟩) 1 1)).run Tryz.prog (wr.alloc (.cells #[.int .u8 13] 5))=.ok (.string ⟨#[13]⟩) (wr.alloc (.cells #[.int .u8 13] 5)):=conv_one wr 13;have hT:T<wr.heap.size:=(hA.own.lt T rfl).2
   have hTg:¬g0=T:=fun e=>by
    rcases hA.own.2 with⟨h,_⟩|⟨g1,cap,cur,h,_,hh,_⟩
    ·cases h
    ·injection h with h _ _;injection h with h;injection h with h1 _ _
     rw[<-h1,<-e,hA.row]at hh;injection hh with hh
     injection hh with _ h2 _
     exact absurd h2 (by decide)
   have hoa:=(hA.own.alloc (.cells #[.int .u8 13] 5)).alloc (.cells #[.string ⟨#[13]⟩] 9);have HA:=Ih hA;have Hoa:=Ih hoa;have hbsz:=hbw.size;clear hA hoa
   go_wp2_with (at_builtin;refine wpList_append_fits _ rfl (.tmp 119) (.tmp 123) 22 rfl w.heap.size 9 i0 1 Tryz.underlying22 hi hz1 T 0 3 _ rfl Hoa.out ⟨wr.heap.size+1,0,none⟩ 1 1 [.string ⟨#[13]⟩] rfl rfl (fun j u hj=>by have:=cell_one (wr.alloc (.cells #[.int .u8 13] 5)) (.string ⟨#[13]⟩) 9 j u hj;simpa using this) (by simp[Value.oneCell']) (by omega) ?_)
   intro w3 hown3 hg3;have hg0l:g0<wr.heap.size:=row_lt HA.out.row
   have hR3:w3.heap[g0]? =some (.cells cs 231 (0,0)):=by
    rw[hg3.block g0 (by simp;omega) (fun e=>hTg (by injection e)),Below.heap_alloc _ _ _ (by simp;omega),Below.heap_alloc _ _ _ hg0l];exact HA.out.row
   have hb3:Below w.heap.size w w3:=((hbw.alloc hbsz _).alloc (by simp;omega) _).grown hg3 (by simp;omega) (fun k hk=>by injection hk with hk;subst hk;exact(HA.out.own.lt _ rfl).1);have d256:=rowAt hR3 256 _ HA.out.last;have z256:=rowFz hR3 256;have hg0b:w.heap.size<=g0:=hg0w;have hb4:Below w.heap.size w (w3.setCell ⟨g0,256,none⟩ (.slice (some ⟨T,0,none⟩) 1 3)):=hb3.setCell (p:=⟨g0,256,none⟩) hg0b _;have hR4:(w3.setCell ⟨g0,256,none⟩ (.slice (some ⟨T,0,none⟩) 1 3)).heap[g0]? =some (.cells (cs.setIfInBounds 256 (.slice (some ⟨T,0,none⟩) 1 3)) 231 (0,0)):=rowSet hR3 256 _ rfl;have hown4:=hown3.kept (grown_setCell w3 ⟨g0,256,none⟩ (.slice (some ⟨T,0,none⟩) 1 3)) (.inr (by simp[Value.ownBlock];exact fun e=>hTg e.symm));have Hown4:=Ih hown4;have HR4:=Ih hR4;have HB4:=Ih hb4;clear hown3 hg3 hR3 hb3 hown4 hR4 hb4 hconv oc oe cg c256
   go_upto_region 34 with fail
   generalize w3.setCell ⟨g0,256,none⟩ (.slice (some ⟨T,0,none⟩) 1 3)=w4 at Hown4 HR4 HB4⊢;have hg4:g0<w4.heap.size:=row_lt HR4.out;obtain⟨cap,w5,kb,hb5⟩:=bytes_none w4;have hR5:w5.heap[g0]? =_:=(hb5.block g0 hg4).trans HR4.out;have hown5:=own_below Hown4.out hb5;have c5:=rowAt hR5 13 (.slice none 0 0) (by rw[Array.getElem?_setIfInBounds_ne (by omega)];exact HA.out.miss 13 (by decide) (by unfold doneQ;omega));have f5:=rowFz hR5 13;have hR6:(w5.setCell ⟨g0,13,none⟩ (.slice (some ⟨w4.heap.size,0,none⟩) 0 cap)).heap[g0]? =some (.cells ((cs.setIfInBounds 256 (.slice (some ⟨T,0,none⟩) 1 3)).setIfInBounds 13 (.slice (some ⟨w4.heap.size,0,none⟩) 0 cap)) 231 (0,0)):=rowSet hR5 13 _ rfl;have hb6:Below w.heap.size w (w5.setCell ⟨g0,13,none⟩ (.slice (some ⟨w4.heap.size,0,none⟩) 0 cap)):=(HB4.out.trans (hb5.mono HB4.out.size)).setCell (p:=⟨g0,13,none⟩) hg0b _;have hown6:=hown5.kept (grown_setCell w5 ⟨g0,13,none⟩ (.slice (some ⟨w4.heap.size,0,none⟩) 0 cap)) (.inr (by simp[Value.ownBlock];exact fun e=>hTg e.symm))
   have HF:Hid (BsLoop w.heap.size g0 w (.int .i64 2) (w5.setCell ⟨g0,13,none⟩ (.slice (some ⟨w4.heap.size,0,none⟩) 0 cap))):=by
    refine⟨2,by omega,rfl,hb6,_,T,hR6,by simp[HA.out.size],fun k hk h=>?_,fun k hk h=>?_,?_,hown6⟩
    ·by_cases h13:k=13
     ·exact⟨⟨w4.heap.size,0,none⟩,cap,by rw[h13,Array.getElem?_setIfInBounds_self_of_lt (by simp[HA.out.size])]⟩
     ·rw[Array.getElem?_setIfInBounds_ne (by omega),Array.getElem?_setIfInBounds_ne (by omega)];exact HA.out.hit k hk (by unfold doneQ at h⊢;omega)
    ·have h13:k≠13:=fun e=>h (by unfold doneQ;omega);rw[Array.getElem?_setIfInBounds_ne (by omega),Array.getElem?_setIfInBounds_ne (by omega)];exact HA.out.miss k hk (by unfold doneQ at h⊢;omega)
    ·rw[Array.getElem?_setIfInBounds_ne (by omega),Array.getElem?_setIfInBounds_self_of_lt (by simp[HA.out.size])]
   clear hR5 hown5 hR6 hb6 hown6
   go_wp2_with fail
   go_roundw
   case rel=>exact HF.out
   case measure=>simp[intOf]
  ·rw[<-hg0];clear hg0;have oc:wr.cell? ⟨G,2,none⟩=some (.string ⟨#[10]⟩):=by rw[hbw.cell (p:=⟨G,2,none⟩) hGl];exact HGc.out 2 ⟨#[10]⟩ rfl
   have oe:wr.cell? ⟨G,3,none⟩=some (.string ⟨#[]⟩):=by rw[hbw.cell (p:=⟨G,3,none⟩) hGl];exact HGc.out 3 ⟨#[]⟩ rfl
   have cg:=rowAt hA.row 10 (.slice none 0 0) (hA.miss 10 (by decide) (by unfold doneQ;omega));have c256:=rowAt hA.row 256 (.slice (some ⟨T,0,none⟩) 1 3) hA.last;have hnil:=fun W:World=>Lib.run_eql_slice_nil (P:=Tryz.prog) W 30 5 none 0 0 0 0 Tryz.underlying30;have hidx:=fun W:World=>idx10 W;have hconv:(convert 30 9 (.slice (some ⟨wr.heap.size,0,none⟩) 1 1)).run Tryz.prog (wr.alloc (.cells #[.int .u8 10] 5))=.ok (.string ⟨#[10]⟩) (wr.alloc (.cells #[.int .u8 10] 5)):=conv_one wr 10;have hT:T<wr.heap.size:=(hA.own.lt T rfl).2
   have hTg:¬g0=T:=fun e=>by
    rcases hA.own.2 with⟨h,_⟩|⟨g1,cap,cur,h,_,hh,_⟩
    ·cases h
    ·injection h with h _ _;injection h with h;injection h with h1 _ _
     rw[<-h1,<-e,hA.row]at hh;injection hh with hh
     injection hh with _ h2 _
     exact absurd h2 (by decide)
   have hoa:=(hA.own.alloc (.cells #[.int .u8 10] 5)).alloc (.cells #[.string ⟨#[10]⟩] 9);have HA:=Ih hA;have Hoa:=Ih hoa;have hbsz:=hbw.size;clear hA hoa
   go_wp2_with (at_builtin;refine wpList_append_fits _ rfl (.tmp 119) (.tmp 123) 22 rfl w.heap.size 9 i0 1 Tryz.underlying22 hi hz1 T 1 3 _ rfl Hoa.out ⟨wr.heap.size+1,0,none⟩ 1 1 [.string ⟨#[10]⟩] rfl rfl (fun j u hj=>by have:=cell_one (wr.alloc (.cells #[.int .u8 10] 5)) (.string ⟨#[10]⟩) 9 j u hj;simpa using this) (by simp[Value.oneCell']) (by omega) ?_)
   intro w3 hown3 hg3;have hg0l:g0<wr.heap.size:=row_lt HA.out.row
   have hR3:w3.heap[g0]? =some (.cells cs 231 (0,0)):=by
    rw[hg3.block g0 (by simp;omega) (fun e=>hTg (by injection e)),Below.heap_alloc _ _ _ (by simp;omega),Below.heap_alloc _ _ _ hg0l];exact HA.out.row
   have hb3:Below w.heap.size w w3:=((hbw.alloc hbsz _).alloc (by simp;omega) _).grown hg3 (by simp;omega) (fun k hk=>by injection hk with hk;subst hk;exact(HA.out.own.lt _ rfl).1);have d256:=rowAt hR3 256 _ HA.out.last;have z256:=rowFz hR3 256;have hg0b:w.heap.size<=g0:=hg0w;have hb4:Below w.heap.size w (w3.setCell ⟨g0,256,none⟩ (.slice (some ⟨T,0,none⟩) 2 3)):=hb3.setCell (p:=⟨g0,256,none⟩) hg0b _;have hR4:(w3.setCell ⟨g0,256,none⟩ (.slice (some ⟨T,0,none⟩) 2 3)).heap[g0]? =some (.cells (cs.setIfInBounds 256 (.slice (some ⟨T,0,none⟩) 2 3)) 231 (0,0)):=rowSet hR3 256 _ rfl;have hown4:=hown3.kept (grown_setCell w3 ⟨g0,256,none⟩ (.slice (some ⟨T,0,none⟩) 2 3)) (.inr (by simp[Value.ownBlock];exact fun e=>hTg e.symm));have Hown4:=Ih hown4;have HR4:=Ih hR4;have HB4:=Ih hb4;clear hown3 hg3 hR3 hb3 hown4 hR4 hb4 hconv oc oe cg c256
   go_upto_region 34 with fail
   generalize w3.setCell ⟨g0,256,none⟩ (.slice (some ⟨T,0,none⟩) 2 3)=w4 at Hown4 HR4 HB4⊢;have hg4:g0<w4.heap.size:=row_lt HR4.out;obtain⟨cap,w5,kb,hb5⟩:=bytes_none w4;have hR5:w5.heap[g0]? =_:=(hb5.block g0 hg4).trans HR4.out;have hown5:=own_below Hown4.out hb5;have c5:=rowAt hR5 10 (.slice none 0 0) (by rw[Array.getElem?_setIfInBounds_ne (by omega)];exact HA.out.miss 10 (by decide) (by unfold doneQ;omega));have f5:=rowFz hR5 10;have hR6:(w5.setCell ⟨g0,10,none⟩ (.slice (some ⟨w4.heap.size,0,none⟩) 0 cap)).heap[g0]? =some (.cells ((cs.setIfInBounds 256 (.slice (some ⟨T,0,none⟩) 2 3)).setIfInBounds 10 (.slice (some ⟨w4.heap.size,0,none⟩) 0 cap)) 231 (0,0)):=rowSet hR5 10 _ rfl;have hb6:Below w.heap.size w (w5.setCell ⟨g0,10,none⟩ (.slice (some ⟨w4.heap.size,0,none⟩) 0 cap)):=(HB4.out.trans (hb5.mono HB4.out.size)).setCell (p:=⟨g0,10,none⟩) hg0b _;have hown6:=hown5.kept (grown_setCell w5 ⟨g0,10,none⟩ (.slice (some ⟨w4.heap.size,0,none⟩) 0 cap)) (.inr (by simp[Value.ownBlock];exact fun e=>hTg e.symm))
   have HF:Hid (BsLoop w.heap.size g0 w (.int .i64 0) (w5.setCell ⟨g0,10,none⟩ (.slice (some ⟨w4.heap.size,0,none⟩) 0 cap))):=by
    refine⟨1,by omega,rfl,hb6,_,T,hR6,by simp[HA.out.size],fun k hk h=>?_,fun k hk h=>?_,?_,hown6⟩
    ·by_cases h13:k=10
     ·exact⟨⟨w4.heap.size,0,none⟩,cap,by rw[h13,Array.getElem?_setIfInBounds_self_of_lt (by simp[HA.out.size])]⟩
     ·rw[Array.getElem?_setIfInBounds_ne (by omega),Array.getElem?_setIfInBounds_ne (by omega)];exact HA.out.hit k hk (by unfold doneQ at h⊢;omega)
    ·have h13:k≠10:=fun e=>h (by unfold doneQ;omega);rw[Array.getElem?_setIfInBounds_ne (by omega),Array.getElem?_setIfInBounds_ne (by omega)];exact HA.out.miss k hk (by unfold doneQ at h⊢;omega)
    ·rw[Array.getElem?_setIfInBounds_ne (by omega),Array.getElem?_setIfInBounds_self_of_lt (by simp[HA.out.size])]
   clear hR5 hown5 hR6 hb6 hown6
   go_wp2_with fail
   go_roundw
   case rel=>exact HF.out
   case measure=>simp[intOf]
  ·rw[<-hg0];clear hg0;have oc:wr.cell? ⟨G,0,none⟩=some (.string ⟨#[9]⟩):=by rw[hbw.cell (p:=⟨G,0,none⟩) hGl];exact HGc.out 0 ⟨#[9]⟩ rfl
   have oe:wr.cell? ⟨G,1,none⟩=some (.string ⟨#[]⟩):=by rw[hbw.cell (p:=⟨G,1,none⟩) hGl];exact HGc.out 1 ⟨#[]⟩ rfl
   have cg:=rowAt hA.row 9 (.slice none 0 0) (hA.miss 9 (by decide) (by unfold doneQ;omega));have c256:=rowAt hA.row 256 (.slice (some ⟨T,0,none⟩) 2 3) hA.last;have hnil:=fun W:World=>Lib.run_eql_slice_nil (P:=Tryz.prog) W 30 5 none 0 0 0 0 Tryz.underlying30;have hidx:=fun W:World=>idx9 W;have hconv:(convert 30 9 (.slice (some ⟨wr.heap.size,0,none⟩) 1 1)).run Tryz.prog (wr.alloc (.cells #[.int .u8 9] 5))=.ok (.string ⟨#[9]⟩) (wr.alloc (.cells #[.int .u8 9] 5)):=conv_one wr 9;have hT:T<wr.heap.size:=(hA.own.lt T rfl).2
   have hTg:¬g0=T:=fun e=>by
    rcases hA.own.2 with⟨h,_⟩|⟨g1,cap,cur,h,_,hh,_⟩
    ·cases h
    ·injection h with h _ _;injection h with h;injection h with h1 _ _
     rw[<-h1,<-e,hA.row]at hh;injection hh with hh
     injection hh with _ h2 _
     exact absurd h2 (by decide)
   have hoa:=(hA.own.alloc (.cells #[.int .u8 9] 5)).alloc (.cells #[.string ⟨#[9]⟩] 9);have HA:=Ih hA;have Hoa:=Ih hoa;have hbsz:=hbw.size;clear hA hoa
   go_wp2_with (at_builtin;refine wpList_append_fits _ rfl (.tmp 119) (.tmp 123) 22 rfl w.heap.size 9 i0 1 Tryz.underlying22 hi hz1 T 2 3 _ rfl Hoa.out ⟨wr.heap.size+1,0,none⟩ 1 1 [.string ⟨#[9]⟩] rfl rfl (fun j u hj=>by have:=cell_one (wr.alloc (.cells #[.int .u8 9] 5)) (.string ⟨#[9]⟩) 9 j u hj;simpa using this) (by simp[Value.oneCell']) (by omega) ?_)
   intro w3 hown3 hg3;have hg0l:g0<wr.heap.size:=row_lt HA.out.row
   have hR3:w3.heap[g0]? =some (.cells cs 231 (0,0)):=by
    rw[hg3.block g0 (by simp;omega) (fun e=>hTg (by injection e)),Below.heap_alloc _ _ _ (by simp;omega),Below.heap_alloc _ _ _ hg0l];exact HA.out.row
   have hb3:Below w.heap.size w w3:=((hbw.alloc hbsz _).alloc (by simp;omega) _).grown hg3 (by simp;omega) (fun k hk=>by injection hk with hk;subst hk;exact(HA.out.own.lt _ rfl).1);have d256:=rowAt hR3 256 _ HA.out.last;have z256:=rowFz hR3 256;have hg0b:w.heap.size<=g0:=hg0w;have hb4:Below w.heap.size w (w3.setCell ⟨g0,256,none⟩ (.slice (some ⟨T,0,none⟩) 3 3)):=hb3.setCell (p:=⟨g0,256,none⟩) hg0b _;have hR4:(w3.setCell ⟨g0,256,none⟩ (.slice (some ⟨T,0,none⟩) 3 3)).heap[g0]? =some (.cells (cs.setIfInBounds 256 (.slice (some ⟨T,0,none⟩) 3 3)) 231 (0,0)):=rowSet hR3 256 _ rfl;have hown4:=hown3.kept (grown_setCell w3 ⟨g0,256,none⟩ (.slice (some ⟨T,0,none⟩) 3 3)) (.inr (by simp[Value.ownBlock];exact fun e=>hTg e.symm));have Hown4:=Ih hown4;have HR4:=Ih hR4;have HB4:=Ih hb4;clear hown3 hg3 hR3 hb3 hown4 hR4 hb4 hconv oc oe cg c256
   go_upto_region 34 with fail
   generalize w3.setCell ⟨g0,256,none⟩ (.slice (some ⟨T,0,none⟩) 3 3)=w4 at Hown4 HR4 HB4⊢;have hg4:g0<w4.heap.size:=row_lt HR4.out;obtain⟨cap,w5,kb,hb5⟩:=bytes_none w4;have hR5:w5.heap[g0]? =_:=(hb5.block g0 hg4).trans HR4.out;have hown5:=own_below Hown4.out hb5;have c5:=rowAt hR5 9 (.slice none 0 0) (by rw[Array.getElem?_setIfInBounds_ne (by omega)];exact HA.out.miss 9 (by decide) (by unfold doneQ;omega));have f5:=rowFz hR5 9;have hR6:(w5.setCell ⟨g0,9,none⟩ (.slice (some ⟨w4.heap.size,0,none⟩) 0 cap)).heap[g0]? =some (.cells ((cs.setIfInBounds 256 (.slice (some ⟨T,0,none⟩) 3 3)).setIfInBounds 9 (.slice (some ⟨w4.heap.size,0,none⟩) 0 cap)) 231 (0,0)):=rowSet hR5 9 _ rfl;have hb6:Below w.heap.size w (w5.setCell ⟨g0,9,none⟩ (.slice (some ⟨w4.heap.size,0,none⟩) 0 cap)):=(HB4.out.trans (hb5.mono HB4.out.size)).setCell (p:=⟨g0,9,none⟩) hg0b _;have hown6:=hown5.kept (grown_setCell w5 ⟨g0,9,none⟩ (.slice (some ⟨w4.heap.size,0,none⟩) 0 cap)) (.inr (by simp[Value.ownBlock];exact fun e=>hTg e.symm))
   have HF:Hid (BsLoop w.heap.size g0 w (.int .i64 (-2)) (w5.setCell ⟨g0,9,none⟩ (.slice (some ⟨w4.heap.size,0,none⟩) 0 cap))):=by
    refine⟨0,by omega,rfl,hb6,_,T,hR6,by simp[HA.out.size],fun k hk h=>?_,fun k hk h=>?_,?_,hown6⟩
    ·by_cases h13:k=9
     ·exact⟨⟨w4.heap.size,0,none⟩,cap,by rw[h13,Array.getElem?_setIfInBounds_self_of_lt (by simp[HA.out.size])]⟩
     ·rw[Array.getElem?_setIfInBounds_ne (by omega),Array.getElem?_setIfInBounds_ne (by omega)];exact HA.out.hit k hk (by unfold doneQ at h⊢;omega)
    ·have h13:k≠9:=fun e=>h (by unfold doneQ;omega);rw[Array.getElem?_setIfInBounds_ne (by omega),Array.getElem?_setIfInBounds_ne (by omega)];exact HA.out.miss k hk (by unfold doneQ at h⊢;omega)
    ·rw[Array.getElem?_setIfInBounds_ne (by omega),Array.getElem?_setIfInBounds_self_of_lt (by simp[HA.out.size])]
   clear hR5 hown5 hR6 hb6 hown6
   go_wp2_with fail
   go_roundw
   case rel=>exact HF.out
   case measure=>simp[intOf]
  ·rw[<-hg0];clear hg0
   have HF:Hid (RBuild w (.returned (.iface 232 (.pointer (some ⟨g0,0,none⟩)))) wr):=by
    refine⟨g0,rfl,hbw,⟨cs,hA.row,fun k hk=>?_,?_⟩⟩
    ·split
     ·exact hA.hit k hk (by unfold doneQ;omega)
     ·exact hA.miss k hk (by unfold doneQ;omega)
    ·rcases hA.own.2 with⟨h,_⟩|⟨g1,cap,cur,h,_,hh,_,_,_,htk⟩
     ·cases h
     ·injection h with h _ hcap
      injection h with h
      injection h with h1 _ _
      subst h1
      have hget:∀(k:Nat) (x:ByteArray),toB[k]? =some x->cur[k]? =some (Value.string x):=by
       intro k x hk;have h1:(toB.map Value.string)[k]? =some (Value.string x):=by rw[List.getElem?_map,hk];rfl
       have h2:cur.toList.take 3=toB.map Value.string:=htk;rw[<-h2,List.getElem?_take]at h1;split at h1
       ·simpa using h1
       ·cases h1
      exact⟨T,3,cur,hA.last,hh,hget 0 _ rfl,hget 1 _ rfl,hget 2 _ rfl⟩
   clear hA
   go_wp2_with fail
   go_ret;exact HF.out
theorem bo_any (B b:Nat) (e:Int) (G c:Nat) (w:World) (hBb:B<=b) (hr:RepRow w b 0 1 e .nilIface (.slice (some ⟨G,0,none⟩) 6 c)) (hown:w.ownsRow B 9 1 (.slice (some ⟨G,0,none⟩) 6 c) 6 (rsB.map Value.string)) (hB:B<=w.heap.size):
  Calls Tryz.prog 81 #[.pointer (some ⟨b,0,none⟩)] w fun e' w'=>e'=.returned (.tuple #[])/\RBuilt1 B b 0 1 e w w':=by
 have cB:=Ih (build_any B b e G c w hr hown);have HR:=Ih hr;have hbl:b<w.heap.size:=row_lt hr;clear hr hown;go_enter Tryz.func81,Tryz.ntmps81
 go_wp2_with fail
 refine cB.out.mono ?_;rintro e1 w1 ⟨g,rfl,hb1,hbs⟩;have hr1:RepRow w1 b 0 1 e .nilIface (.slice (some ⟨G,0,none⟩) 6 c):=(hb1.block b hbl).trans HR.out;have c3:=rowAt hr1 3 .nilIface rfl;have f3:=rowFz hr1 3;have hr2:=RepRow.set hr1 3 (.iface 232 (.pointer (some ⟨g,0,none⟩))) (d':=0) (s':=1) (rv':=.iface 232 (.pointer (some ⟨g,0,none⟩))) (ov':=.slice (some ⟨G,0,none⟩) 6 c) (by simp);have hbs2:=BsRep.set hbs hr1 3 (.iface 232 (.pointer (some ⟨g,0,none⟩)));have c4:=rowAt hr2 4 (.slice (some ⟨G,0,none⟩) 6 c) rfl;have f4:=rowFz hr2 4;have hr3:=RepRow.set hr2 4 (.slice none 0 0) (d':=0) (s':=1) (rv':=.iface 232 (.pointer (some ⟨g,0,none⟩))) (ov':=.slice none 0 0) (by simp);have hbs3:=BsRep.set hbs2 hr2 4 (.slice none 0 0);have hbb:=((hb1.mono hB).setCell (p:=⟨b,3,none⟩) hBb (.iface 232 (.pointer (some ⟨g,0,none⟩)))).setCell (p:=⟨b,4,none⟩) hBb (.slice none 0 0);have HF:Hid (RBuilt1 B b 0 1 e w ((w1.setCell ⟨b,3,none⟩ (.iface 232 (.pointer (some ⟨g,0,none⟩)))).setCell ⟨b,4,none⟩ (.slice none 0 0))):=⟨hbb,g,hr3,hbs3⟩;clear hr1 hr2 hr3 hbs hbs2 hbs3 hbb
 go_wp2_with fail
 go_end0
 exact⟨rfl,HF.out⟩
end Go.Proofs.YtjhccadmmnjpeaaGreatDoor
namespace Lz
open Go
def blkQ (c:UInt8):Bool:=c==9||c==10||c==13
def keepB (l:Bs):Bs:=l.filter fun c=> !(c==9||c==10||c==13)
def nblk (l:Bs):Nat:=l.countP blkQ
theorem keepB_len (l:Bs):(keepB l).length+nblk l=l.length:=by
 induction l with
 | nil=>rfl
 | cons c r ih=>
   unfold keepB nblk at *;rw[List.filter_cons,List.countP_cons];by_cases h:(c==9||c==10||c==13)=true
   ·have hb:blkQ c=true:=h;simp only[h,hb,Bool.not_true,Bool.false_eq_true,if_false,if_true,List.length_cons];omega
   ·have h':(c==9||c==10||c==13)=false:=by simpa using h
    have hb:blkQ c=false:=h';simp only[h',hb,Bool.not_false,if_true,Bool.false_eq_true,if_false,List.length_cons];omega
theorem nblk_three (l:Bs):l.count 13+l.count 10+l.count 9=nblk l:=by
 induction l with
 | nil=>rfl
 | cons c r ih=>
   unfold nblk at *;rw[List.countP_cons,List.count_cons,List.count_cons,List.count_cons,<-ih];by_cases h9:c=9
   ·subst h9;simp[blkQ];omega
   ·by_cases h10:c=10
    ·subst h10;simp[blkQ];omega
    ·by_cases h13:c=13
     ·subst h13;simp[blkQ];omega
     ·have hb:blkQ c=false:=by simp[blkQ,h9,h10,h13]
      simp[hb,h9,h10,h13]
theorem nblk_take_succ {l:Bs} {i:Nat} {c:UInt8} (h:l[i]? =some c):nblk (l.take (i+1))=nblk (l.take i)+(if blkQ c then 1 else 0):=by
 obtain⟨hi,he⟩:=List.getElem?_eq_some_iff.1 h;rw[List.take_succ_eq_append_getElem hi,he];unfold nblk;rw[List.countP_append];simp[List.countP_cons]
theorem keepB_take_succ {l:Bs} {i:Nat} {c:UInt8} (h:l[i]? =some c):keepB (l.take (i+1))=keepB (l.take i)++(if blkQ c then[]else[c]):=by
 obtain⟨hi,he⟩:=List.getElem?_eq_some_iff.1 h;rw[List.take_succ_eq_append_getElem hi,he];unfold keepB;rw[List.filter_append];congr 1;by_cases h9:(c==9||c==10||c==13)=true
 ·have hb:blkQ c=true:=h9;simp only[hb,if_true,List.filter_cons,h9,Bool.not_true,Bool.false_eq_true,if_false,List.filter_nil]
 ·have h9':(c==9||c==10||c==13)=false:=by simpa using h9
  have hb:blkQ c=false:=h9';simp only[hb,Bool.false_eq_true,if_false,List.filter_cons,h9',Bool.not_false,if_true,List.filter_nil]
theorem nblk_take_le (l:Bs) (i:Nat):nblk (l.take i)<=nblk l:=by
 unfold nblk;exact List.Sublist.countP_le (List.take_sublist i l)
theorem nblk_zero {l:Bs} (h:nblk l=0):keepB l=l:=by
 unfold keepB nblk at *;rw[List.filter_eq_self];intro c hc;have:=List.countP_eq_zero.1 h c hc;simpa [blkQ]using this
end Lz
namespace Go.Proofs.YtjhccadmmnjpeaaGreatDoor
open Go.RowKit
theorem bs_cell {w:World} {g:Nat} (h:BsRep w g) (c:UInt8):if Lz.blkQ c then ∃A cap,w.cell? ⟨g,c.toNat,none⟩=some (.slice (some A) 0 cap)else w.cell? ⟨g,c.toNat,none⟩=some (.slice none 0 0):=by
 obtain⟨cs,hr,hc,_⟩:=h.row;have h1:=hc c.toNat c.toNat_lt;by_cases hq:c=9\/c=10\/c=13
 ·have hb:Lz.blkQ c=true:=by rcases hq with h|h|h<;>(subst h;rfl)
  have hq2:c.toNat=9\/c.toNat=10\/c.toNat=13:=by rcases hq with h|h|h<;>(subst h;decide)
  rw[if_pos hq2]at h1;rw[if_pos hb];obtain⟨A,cap,h2⟩:=h1;exact⟨A,cap,rowAt hr _ _ h2⟩
 ·have hb:¬Lz.blkQ c=true:=by
   intro h;apply hq;unfold Lz.blkQ at h;simp only[Bool.or_eq_true,beq_iff_eq]at h;rcases h with(h|h)|h
   ·exact .inl h
   ·exact .inr (.inl h)
   ·exact .inr (.inr h)
  have hq2:¬(c.toNat=9\/c.toNat=10\/c.toNat=13):=fun h=>hq (by
   rcases h with h|h|h
   ·exact .inl (UInt8.toNat_inj.1 h)
   ·exact .inr (.inl (UInt8.toNat_inj.1 h))
   ·exact .inr (.inr (UInt8.toNat_inj.1 h)))
  rw[if_neg hq2]at h1;rw[if_neg hb];exact rowAt hr _ _ h1
def cnt3 (l:List UInt8):Nat->Nat
 | 0=>0
 | 1=>l.count 13
 | 2=>l.count 13+l.count 10
 | _=>l.count 13+l.count 10+l.count 9
def SizeRel (s:ByteArray) (w:World) (s5 s6:Value) (wx:World):Prop:=∃(kn:Nat) (y:Bool),s5=.int .i64 (kn:Int)/\s6=.bool y/\Hid (kn=(Lz.keepB s.data.toList).length)/\Hid (y=decide (Lz.nblk s.data.toList≠0))/\Below w.heap.size w wx
def CntRel (s:ByteArray) (_G:Nat) (w:World) (a b k:Value) (wr:World):Prop:=
 ∃(m q:Nat) (z:Int) (y:Bool),m<=3/\k=.int .i64 m/\Hid (q=cnt3 s.data.toList m)/\a=.int .i64 z/\b=.bool y/\Hid (z=(s.size:Int)-(q:Int))/\Hid (y=decide (q≠0))/\Below w.heap.size w wr
theorem bsr_any (g:Nat) (s:ByteArray) (hs:s.size<=1000000000) (w:World) (hb:BsRep w g):Calls Tryz.prog 365 #[.pointer (some ⟨g,0,none⟩),.string s] w (RStr (Lz.keepB s.data.toList) w):=by
 obtain⟨cs,hrow,hcs,G,cap0,cs2,hlast,hrow2,ht0,ht1,ht2⟩:=hb.row;have c256:=rowAt hrow 256 _ hlast;have t0:=rowAt hrow2 0 _ ht0;have t1:=rowAt hrow2 1 _ ht1;have t2:=rowAt hrow2 2 _ ht2;have hlen:=Lz.keepB_len s.data.toList;rw[len_of_size]at hlen;have hthree:=Lz.nblk_three s.data.toList;have HB:=Ih hb;clear hb hrow hcs hlast hrow2 ht0 ht1 ht2;go_enter Tryz.func365,Tryz.ntmps365;obtain⟨big,hbig⟩:∃big,big=decide (24<=s.size):=⟨_,rfl⟩;have Hbig:=Ih hbig;clear hbig
 go_upto_region 3 with fail
 go_cut [26] (fun s26 wx=>s26=.bool big/\w=wx)
 case first=>
  by_cases h24:24<=s.size
  ·have h24I:(24:Int)<=(s.size:Int):=by omega
   have hbt:big=true:=by rw[Hbig.out,decide_eq_true h24]
   subst hbt
   go_wp2_with fail
   go_meet;exact⟨rfl,rfl⟩
  ·have h24I:¬(24:Int)<=(s.size:Int):=by omega
   have hbt:big=false:=by rw[Hbig.out,decide_eq_false h24]
   subst hbt
   go_wp2_with fail
   go_meet;exact⟨rfl,rfl⟩
 case rest=>
 obtain⟨rfl,rfl⟩:=hcut
 go_upto_if 26 with fail
 go_cut [5,6] (fun s5 s6 wx=>SizeRel s w s5 s6 wx)
 case first=>
  cases big with
  | true=>
    have hGl:G<w.heap.size:=World.block_lt_of_cell? _ _ t0;have T0:=Ih t0;have T1:=Ih t1;have T2:=Ih t2
    have H3:Hid (∀k,cnt3 s.data.toList k<=s.size):=Ih (fun k=>by
     have h1:cnt3 s.data.toList k<=Lz.nblk s.data.toList:=by
      rw[<-hthree];unfold cnt3;split<;>omega
     omega)
    have Hthree:=Ih hthree;have Hlen:=Ih hlen;clear t0 t1 t2 hthree hlen
    go_wp2_with fail
    go_loopw [5,6,32] (fun a b k wr=>CntRel s G w a b k wr) (fun _ _ k _=>3-(intOf k).toNat)
    case atStart=>exact⟨0,0,s.size,false,by omega,rfl,Ih rfl,rfl,rfl,Ih (by simp),Ih rfl,Below.refl _ _⟩
    case round=>
     obtain⟨m,q,z,y,hm,rfl,hq,rfl,rfl,hz,hy,hbw⟩:=hrel;have hqs:q<=s.size:=by rw[hq.out];exact H3.out m
     have hz0:0<=z:=by rw[hz.out];omega
     have hz1:z<=(s.size:Int):=by rw[hz.out];omega
     have hs1:(s.size:Int)<=1000000000:=by omega
     obtain rfl|rfl|rfl|rfl:m=0\/m=1\/m=2\/m=3:=by omega
     ·have hcl:s.data.toList.count 13<=s.size:=by rw[<-len_of_size];exact List.count_le_length
      have u0:wr.cell? ⟨G,0,none⟩=some (.string ⟨#[13]⟩):=by rw[hbw.cell (p:=⟨G,0,none⟩) hGl];exact T0.out
      have cC:=Ih (Count_c s 13 wr);have hq2:Hid (q+s.data.toList.count 13=cnt3 s.data.toList 1):=by show _=_;rw[hq.out];simp[cnt3]
      have hq3:q+s.data.toList.count 13<=s.size:=by rw[hq2.out];exact H3.out 1
      generalize s.data.toList.count 13=n at cC hq2 hcl hq3;by_cases hn0:n=0
      ·have hnI:((n:Int) != 0)=false:=by rw[hn0];rfl
       have HF:Hid (CntRel s G w (.int .i64 z) (.bool y) (.int .i64 1) wr):=⟨1,q,z,y,by omega,rfl,by rw[<-hq2.out,hn0];rfl,rfl,rfl,hz,hy,hbw⟩;clear hn0 hq hq2
       go_wp2_with fail
       refine cC.out.mono ?_;rintro e w2 ⟨rfl,rfl⟩
       go_wp2_with fail
       go_roundw
       case rel=>exact HF.out
       case measure=>simp[intOf]
      ·have hnI:((n:Int) != 0)=true:=by simp[hn0]
       have hqn:Hid (decide (q+n≠0)=true):=Ih (decide_eq_true (by omega))
       obtain⟨A1,cp1,v1⟩:∃A cap,wr.cell? ⟨g,13,none⟩=some (.slice (some A) 0 cap):=by
        have h:=bs_cell (HB.out.below hbw) 13;exact h
       have hidx:=fun W:World=>idx13 W;clear hq
       go_wp2_with fail
       refine cC.out.mono ?_;rintro e w2 ⟨rfl,rfl⟩
       go_wp2_with fail
       go_quiet (fail)
       have hbq:Below w.heap.size w (wr.drewN nq):=below_drewN hbw nq;generalize wr.drewN nq=wq at hbq⊢;have HF:Hid (∀z2:Int,z2=(s.size:Int)-((q+n:Nat):Int)->CntRel s G w (.int .i64 z2) (.bool true) (.int .i64 1) wq):=Ih (fun z2 h2=>⟨1,q+n,z2,true,by omega,rfl,hq2,rfl,rfl,Ih h2,Ih (by rw[hqn.out]),hbq⟩)
       go_wp2_with fail
       go_roundw
       case rel=>exact HF.out _ (by rw[hz.out];omega)
       case measure=>simp[intOf]
     ·have hcl:s.data.toList.count 10<=s.size:=by rw[<-len_of_size];exact List.count_le_length
      have u1:wr.cell? ⟨G,1,none⟩=some (.string ⟨#[10]⟩):=by rw[hbw.cell (p:=⟨G,1,none⟩) hGl];exact T1.out
      have cC:=Ih (Count_c s 10 wr);have hq2:Hid (q+s.data.toList.count 10=cnt3 s.data.toList 2):=by show _=_;rw[hq.out];rfl
      have hq3:q+s.data.toList.count 10<=s.size:=by rw[hq2.out];exact H3.out 2
      generalize s.data.toList.count 10=n at cC hq2 hcl hq3;by_cases hn0:n=0
      ·have hnI:((n:Int) != 0)=false:=by rw[hn0];rfl
       have HF:Hid (CntRel s G w (.int .i64 z) (.bool y) (.int .i64 2) wr):=⟨2,q,z,y,by omega,rfl,by rw[<-hq2.out,hn0];rfl,rfl,rfl,hz,hy,hbw⟩;clear hn0 hq hq2
       go_wp2_with fail
       refine cC.out.mono ?_;rintro e w2 ⟨rfl,rfl⟩
       go_wp2_with fail
       go_roundw
       case rel=>exact HF.out
       case measure=>simp[intOf]
      ·have hnI:((n:Int) != 0)=true:=by simp[hn0]
       have hqn:Hid (decide (q+n≠0)=true):=Ih (decide_eq_true (by omega))
       obtain⟨A1,cp1,v1⟩:∃A cap,wr.cell? ⟨g,10,none⟩=some (.slice (some A) 0 cap):=by
        have h:=bs_cell (HB.out.below hbw) 10;exact h
       have hidx:=fun W:World=>idx10 W;clear hq
       go_wp2_with fail
       refine cC.out.mono ?_;rintro e w2 ⟨rfl,rfl⟩
       go_wp2_with fail
       go_quiet (fail)
       have hbq:Below w.heap.size w (wr.drewN nq):=below_drewN hbw nq;generalize wr.drewN nq=wq at hbq⊢;have HF:Hid (∀z2:Int,z2=(s.size:Int)-((q+n:Nat):Int)->CntRel s G w (.int .i64 z2) (.bool true) (.int .i64 2) wq):=Ih (fun z2 h2=>⟨2,q+n,z2,true,by omega,rfl,hq2,rfl,rfl,Ih h2,Ih (by rw[hqn.out]),hbq⟩)
       go_wp2_with fail
       go_roundw
       case rel=>exact HF.out _ (by rw[hz.out];omega)
       case measure=>simp[intOf]
     ·have hcl:s.data.toList.count 9<=s.size:=by rw[<-len_of_size];exact List.count_le_length
      have u2:wr.cell? ⟨G,2,none⟩=some (.string ⟨#[9]⟩):=by rw[hbw.cell (p:=⟨G,2,none⟩) hGl];exact T2.out
      have cC:=Ih (Count_c s 9 wr);have hq2:Hid (q+s.data.toList.count 9=cnt3 s.data.toList 3):=by show _=_;rw[hq.out];rfl
      have hq3:q+s.data.toList.count 9<=s.size:=by rw[hq2.out];exact H3.out 3
      generalize s.data.toList.count 9=n at cC hq2 hcl hq3;by_cases hn0:n=0
      ·have hnI:((n:Int) != 0)=false:=by rw[hn0];rfl
       have HF:Hid (CntRel s G w (.int .i64 z) (.bool y) (.int .i64 3) wr):=⟨3,q,z,y,by omega,rfl,by rw[<-hq2.out,hn0];rfl,rfl,rfl,hz,hy,hbw⟩;clear hn0 hq hq2
       go_wp2_with fail
       refine cC.out.mono ?_;rintro e w2 ⟨rfl,rfl⟩
       go_wp2_with fail
       go_roundw
       case rel=>exact HF.out
       case measure=>simp[intOf]
      ·have hnI:((n:Int) != 0)=true:=by simp[hn0]
       have hqn:Hid (decide (q+n≠0)=true):=Ih (decide_eq_true (by omega))
       obtain⟨A1,cp1,v1⟩:∃A cap,wr.cell? ⟨g,9,none⟩=some (.slice (some A) 0 cap):=by
        have h:=bs_cell (HB.out.below hbw) 9;exact h
       have hidx:=fun W:World=>idx9 W;clear hq
       go_wp2_with fail
       refine cC.out.mono ?_;rintro e w2 ⟨rfl,rfl⟩
       go_wp2_with fail
       go_quiet (fail)
       have hbq:Below w.heap.size w (wr.drewN nq):=below_drewN hbw nq;generalize wr.drewN nq=wq at hbq⊢;have HF:Hid (∀z2:Int,z2=(s.size:Int)-((q+n:Nat):Int)->CntRel s G w (.int .i64 z2) (.bool true) (.int .i64 3) wq):=Ih (fun z2 h2=>⟨3,q+n,z2,true,by omega,rfl,hq2,rfl,rfl,Ih h2,Ih (by rw[hqn.out]),hbq⟩)
       go_wp2_with fail
       go_roundw
       case rel=>exact HF.out _ (by rw[hz.out];omega)
       case measure=>simp[intOf]
     ·have hqe:q=Lz.nblk s.data.toList:=by rw[hq.out,<-Hthree.out];rfl
      have HF:Hid (SizeRel s w (.int .i64 z) (.bool y) wr):=⟨(Lz.keepB s.data.toList).length,y,by have:=Hlen.out;have:=hz.out;congr 1;omega,rfl,Ih rfl,Ih (by rw[hy.out,hqe]),hbw⟩;clear hq hqe
      go_wp2_with fail
      go_meet;exact HF.out
  | false=>
    have Hlen:=Ih hlen;clear t0 t1 t2 hthree hlen c256 Hbig
    go_wp2_with fail
    go_loopw [5,6,10] (fun a b k wr=>∃(i q:Nat) (z:Int) (y:Bool),i<=s.size/\k=.int .i64 i/\Hid (q=Lz.nblk (s.data.toList.take i))/\a=.int .i64 z/\b=.bool y/\Hid (z=(s.size:Int)-(q:Int))/\Hid (y=decide (q≠0))/\w=wr) (fun _ _ k _=>s.size-(intOf k).toNat)
    case atStart=>exact⟨0,0,s.size,false,Nat.zero_le _,rfl,Ih rfl,rfl,rfl,Ih (by simp),Ih rfl,rfl⟩
    case round=>
     obtain⟨i,q,z,y,hi,rfl,hq,rfl,rfl,hz,hy,rfl⟩:=hrel
     have hqs:q<=s.size:=by
      have h1:=Lz.nblk_take_le s.data.toList i;have h2:=Hlen.out;rw[hq.out];omega
     have hz0:0<=z:=by rw[hz.out];omega
     have hz1:z<=(s.size:Int):=by rw[hz.out];omega
     have hs1:(s.size:Int)<=1000000000:=by omega
     by_cases hlt:i<s.size
     ·have hltI:(i:Int)<(s.size:Int):=by omega
      have hi0:(0:Int)<=(i:Int):=by omega
      obtain⟨c,hc⟩:∃c,c=s[i]:=⟨_,rfl⟩;have hcI:(s[i].toNat:Int)=(c.toNat:Int):=by rw[hc]
      have hcg:s.data.toList[i]? =some c:=by rw[get_of_lt hlt,hc]
      have hns:=Lz.nblk_take_succ hcg;have hcell:=bs_cell HB.out c;have hc256:(c.toNat:Int)<256:=by have:=c.toNat_lt;omega
      have hc0:(0:Int)<=(c.toNat:Int):=by omega
      cases hb:Lz.blkQ c with
      | true=>
        rw[hb,if_pos rfl]at hcell hns;obtain⟨A1,cp1,v1⟩:=hcell;have hq2:Hid (q+1=Lz.nblk (s.data.toList.take (i+1))):=by show _=_;rw[hns,hq.out]
        have hy2:Hid (true=decide (q+1≠0)):=Ih (by simp);have hnn:=fun W:World=>run_neq_slice_nil_any (P:=Tryz.prog) W 30 5 (some A1) 0 cp1 0 0 Tryz.underlying30;clear hb hns hc hcg hq
        go_wp2_with fail
        go_roundw
        case rel=>exact⟨i+1,q+1,z-1,true,by omega,by go_num,hq2,by go_num,rfl,Ih (by rw[hz.out];omega),hy2,trivial⟩
        case measure=>simp[intOf];omega
      | false=>
        rw[hb,if_neg (by simp)]at hcell hns;have hq2:Hid (q=Lz.nblk (s.data.toList.take (i+1))):=by show _=_;rw[hns,hq.out];rfl
        have hnn:=fun W:World=>run_neq_slice_nil_any (P:=Tryz.prog) W 30 5 none 0 0 0 0 Tryz.underlying30;clear hb hns hc hcg hq
        go_wp2_with fail
        go_roundw
        case rel=>exact⟨i+1,q,z,y,by omega,by go_num,hq2,rfl,rfl,hz,hy,trivial⟩
        case measure=>simp[intOf];omega
     ·have hltI:¬(i:Int)<(s.size:Int):=by omega
      have hqe:q=Lz.nblk s.data.toList:=by rw[hq.out,List.take_of_length_le (by rw[len_of_size];omega)]
      have HF:Hid (SizeRel s w (.int .i64 z) (.bool y) w):=⟨(Lz.keepB s.data.toList).length,y,by have:=Hlen.out;have:=hz.out;congr 1;omega,rfl,Ih rfl,Ih (by rw[hy.out,hqe]),Below.refl _ _⟩;clear hq hqe
      go_wp2_with fail
      go_meet;exact HF.out
 case rest=>
  obtain⟨kn,y,rfl,rfl,hkn,hy,hbw⟩:=hcut;have Hlen:=Ih hlen;clear t0 t1 t2 hthree hlen c256 Hbig;cases y with
  | false=>
    have HK:Hid (s.data.toList=Lz.keepB s.data.toList):=Ih (Lz.nblk_zero (by have:=of_decide_eq_false hy.out.symm;omega)).symm
    go_wp2_with fail
    go_ret;exact⟨s,rfl,HK,hbw⟩
  | true=>
    obtain⟨iu,hiu,hzu0,hzu1,hzu2⟩:=info_parts Tryz.infoU8;have hks:kn<=s.size:=by rw[hkn.out];have:=Hlen.out;omega
    have hbsz:=hbw.size
    go_wp2_with (refine wpList_make_full _ rfl (.tmp 84) (.tmp 84) 30 rfl w.heap.size 5 iu (.int .u8 0) 1 Tryz.underlying30 hiu hzu0 hzu1 .i64 .i64 kn kn kn rfl rfl rfl rfl (by rw[hzu2];omega) (by unfold maxLen;omega) hbsz ?_)
    intro w2 hown2 hg2;have hb2:Below w.heap.size w w2:=hbw.grown hg2 hbsz (fun k hk=>by cases hk);obtain⟨GB,hGB⟩:∃GB,GB=wc.heap.size:=⟨_,rfl⟩;rw[<-hGB]at hown2⊢
    have hown3:w2.ownsRow w.heap.size 5 1 (.slice (some ⟨GB,0,none⟩) kn kn) kn (u8s (Lz.keepB (s.data.toList.take 0))++List.replicate (kn-0) (.int .u8 0)):=by
     rw[toList_madeCells_one]at hown2;exact hown2
    have Hown3:=Ih hown3;have HB2:=Ih hb2;clear hown2 hown3 hg2 hb2 hGB hbw
    go_wp2_with fail
    go_loopw [13,14] (fun a b wr=>∃i j:Nat,i<=s.size/\a=.int .i64 j/\b=.int .i64 i/\Hid (j=(Lz.keepB (s.data.toList.take i)).length)/\Below w.heap.size w wr/\Hid (wr.ownsRow w.heap.size 5 1 (.slice (some ⟨GB,0,none⟩) kn kn) kn (u8s (Lz.keepB (s.data.toList.take i))++List.replicate (kn-j) (.int .u8 0)))) (fun _ b _=>s.size-(intOf b).toNat)
    case atStart=>exact⟨0,0,Nat.zero_le _,rfl,rfl,Ih rfl,HB2.out,Hown3⟩
    case round=>
     obtain⟨i,j,hi,rfl,rfl,hj,hbw,hO⟩:=hrel
     have hjk:j<=kn:=by
      rw[hj.out,hkn.out];have h1:=Lz.keepB_len (s.data.toList.take i);unfold Lz.keepB;exact List.Sublist.length_le (List.Sublist.filter _ (List.take_sublist i _))
     have hjkI:(j:Int)<=(kn:Int):=by omega
     by_cases hlt:i<s.size
     ·have hltI:(i:Int)<(s.size:Int):=by omega
      have hi0:(0:Int)<=(i:Int):=by omega
      have hj0:(0:Int)<=(j:Int):=by omega
      obtain⟨c,hc⟩:∃c,c=s[i]:=⟨_,rfl⟩;have hcI:(s[i].toNat:Int)=(c.toNat:Int):=by rw[hc]
      have hcg:s.data.toList[i]? =some c:=by rw[get_of_lt hlt,hc]
      have hns:=Lz.keepB_take_succ hcg;have hcell:=bs_cell (HB.out.below hbw) c;have hc256:(c.toNat:Int)<256:=by have:=c.toNat_lt;omega
      have hc0:(0:Int)<=(c.toNat:Int):=by omega
      cases hb:Lz.blkQ c with
      | true=>
        rw[hb,if_pos rfl]at hcell hns;obtain⟨A1,cp1,v1⟩:=hcell;rw[List.append_nil]at hns;have hnn:=fun W:World=>run_neq_slice_nil_any (P:=Tryz.prog) W 30 5 (some A1) 0 cp1 0 0 Tryz.underlying30;have hcp:=fun(d:Option Addr) (dl dc:Nat) (ty:TypeId) (W:World)=>run_copy_none (P:=Tryz.prog) W 30 30 ty 5 d (some A1) dl dc 0 cp1 Tryz.underlying30 (by kernel_rfl) (by simp);have hO2:Hid (∀W,Below wr.heap.size wr W->W.ownsRow w.heap.size 5 1 (.slice (some ⟨GB,0,none⟩) kn kn) kn (u8s (Lz.keepB (s.data.toList.take (i+1)))++List.replicate (kn-j) (.int .u8 0))):=Ih (fun W hW=>by rw[hns];exact own_below hO.out hW);have hj2:Hid (j=(Lz.keepB (s.data.toList.take (i+1))).length):=by show _=_;rw[hns];exact hj.out
        clear hb hns hc hcg hj hO
        go_wp2_with fail
        go_region
        all_goals
         go_wp2_with fail
         go_roundw
         case rel=>exact⟨i+1,j,by omega,by go_num,by go_num,hj2,hbw.drew,Ih (hO2.out _ (Below.refl _ _).drew)⟩
         case measure=>simp[intOf];omega
      | false=>
        rw[hb,if_neg (by simp)]at hcell hns;have hnn:=fun W:World=>run_neq_slice_nil_any (P:=Tryz.prog) W 30 5 none 0 0 0 0 Tryz.underlying30;have hj2:Hid (j+1=(Lz.keepB (s.data.toList.take (i+1))).length):=by show _=_;rw[hns,hj.out,List.length_append];rfl
        have hjlt:j<kn:=by
         have h1:(Lz.keepB (s.data.toList.take (i+1))).length<=(Lz.keepB s.data.toList).length:=by
          unfold Lz.keepB;exact List.Sublist.length_le (List.Sublist.filter _ (List.take_sublist (i+1) _))
         rw[<-hj2.out,<-hkn.out]at h1;omega
        have hjltI:(j:Int)<(kn:Int):=by omega
        have hgl:GB<wr.heap.size:=(hO.out.lt GB rfl).2;have hgw:w.heap.size<=GB:=(hO.out.lt GB rfl).1
        obtain⟨vj,cj⟩:∃v,wr.cell? ⟨GB,j,none⟩=some v:=by
         have h1:=hO.out.cellAt j (by omega);have h2:j<(u8s (Lz.keepB (s.data.toList.take i))++List.replicate (kn-j) (Value.int .u8 0)).length:=by rw[hO.out.1];omega
         exact⟨_,h1.trans (List.getElem?_eq_getElem h2)⟩
        have fj:=hO.out.frozenAt j;have hst:=(hO.out.stored j (.int .u8 (c.toNat:Int))).1
        have hset:(u8s (Lz.keepB (s.data.toList.take i))++List.replicate (kn-j) (Value.int .u8 0)).set j (.int .u8 (c.toNat:Int))=u8s (Lz.keepB (s.data.toList.take (i+1)))++List.replicate (kn-(j+1)) (Value.int .u8 0):=by
         have hl:(u8s (Lz.keepB (s.data.toList.take i))).length=j:=by rw[hj.out];simp[u8s]
         rw[List.set_append_right _ _ (by omega),hl,Nat.sub_self,hns,show kn-j=(kn-(j+1))+1 by omega,List.replicate_succ,List.set_cons_zero]
         simp[u8s]
        rw[hset]at hst;have hb3:=hbw.setCell (p:=⟨GB,j,none⟩) hgw (.int .u8 (c.toNat:Int));have HF:Hid (wr.setCell ⟨GB,j,none⟩ (.int .u8 (c.toNat:Int)) |>.ownsRow w.heap.size 5 1 (.slice (some ⟨GB,0,none⟩) kn kn) kn (u8s (Lz.keepB (s.data.toList.take (i+1)))++List.replicate (kn-(j+1)) (.int .u8 0))):=Ih hst;have Hb3:=Ih hb3;clear hb hns hc hcg hj hO hset hst hb3
        go_wp2_with fail
        go_roundw
        case rel=>exact⟨i+1,j+1,by omega,by go_num,by go_num,hj2,Hb3.out,HF⟩
        case measure=>simp[intOf];omega
     ·have hltI:¬(i:Int)<(s.size:Int):=by omega
      have htk:s.data.toList.take i=s.data.toList:=List.take_of_length_le (by rw[len_of_size];omega);have hje:j=kn:=by rw[hj.out,htk,hkn.out]
      have hO2:wr.ownsRow w.heap.size 5 1 (.slice (some ⟨GB,0,none⟩) kn kn) kn (u8s (Lz.keepB s.data.toList)):=by
       have h1:=hO.out;rw[hje,Nat.sub_self,htk]at h1;simpa using h1
      have hcv:=conv_own hO2;clear hj hO hje htk hO2
      go_wp2_with fail
      go_ret;exact⟨_,rfl,Ih rfl,hbw⟩
end Go.Proofs.YtjhccadmmnjpeaaGreatDoor
namespace Lz
open Go
theorem clean_sp (s:Bs):cleanP s=keepB ((s.dropWhile spQ).reverse.dropWhile spQ).reverse:=rfl
end Lz
namespace Go.Proofs.YtjhccadmmnjpeaaGreatDoor
open Go.RowKit
structure EnvU (w:World):Prop where
 h:EnvH w
 u8:Lib.Utf8Tabs 6 7 w
theorem EnvU.below {w w':World} (h:EnvU w) (hb:Below w.heap.size w w'):EnvU w':=⟨h.h.below hb,Utf8Tabs_below h.u8 hb⟩
theorem fn_clean1 (args:Array Value) (w:World):(callFunc 100 args).run Tryz.prog w=.ok (.enter 100 args) w:=enters_of Tryz.func100 (by kernel_rfl) rfl args w
theorem clean1_any (x:Nat) (hx:x<=1114111) (w:World):Calls Tryz.prog 100 #[.int .i32 (x:Int)] w fun e w'=>e=.returned (.bool (Lz.pSp x))/\Below w.heap.size w w':=by
 by_cases h:x<=32
 ·have hp:Lz.pSp x=true:=decide_eq_true h;have hI:(x:Int)<=32:=by omega
  rw[hp];clear h hp;go_enter Tryz.func100,Tryz.ntmps100
  go_wp2
  go_ret;exact⟨rfl,Below.refl _ _⟩
 ·have hp:Lz.pSp x=false:=decide_eq_false h;have hI:¬(x:Int)<=32:=by omega
  rw[hp];clear h hp;go_enter Tryz.func100,Tryz.ntmps100
  go_wp2
  go_ret;exact⟨rfl,Below.refl _ _⟩
theorem TrimFunc_c (s:ByteArray) (hs:s.size<=1000000000) (w:World) (hE:EnvU w):Calls Tryz.prog 99 #[.string s,.func (.func 100) #[] #[]] w (RStr ((s.data.toList.dropWhile Lz.spQ).reverse.dropWhile Lz.spQ).reverse w):=
 (Tryz.strings_TrimFunc_grows 100 #[] fn_clean1 Lz.pSp s w (by omega) hE.u8 (fun W x hx _=>clean1_any x hx W)).mono fun _ _ ⟨he,hb⟩=>⟨_,he,Ih (Lz.trim_sp s),hb⟩
theorem repl_any (B b G c:Nat) (s:ByteArray) (hs:s.size<=1000000000) (w:World) (hBb:B<=b) (hr:RepRow w b 0 0 0 .nilIface (.slice (some ⟨G,0,none⟩) 6 c)) (hown:w.ownsRow B 9 1 (.slice (some ⟨G,0,none⟩) 6 c) 6 (rsB.map Value.string)) (hB:B<=w.heap.size):
  Calls Tryz.prog 54 #[.pointer (some ⟨b,0,none⟩),.string s] w fun e w'=>∃u:ByteArray,e=.returned (.string u)/\Hid (u.data.toList=Lz.keepB s.data.toList)/\Below B w w':=by
 have hown2:=hown.kept (grown_setCell w ⟨b,1,none⟩ (.int .i32 1)) (.inr (by
  simp[Value.ownBlock]
  intro e;rcases hown.2 with⟨h,_⟩|⟨g1,cap,cur,h,_,hh,_⟩
  ·cases h
  ·injection h with h _ _;injection h with h;injection h with h1 _ _
   have h2:w.heap[b]? =_:=hr;rw[<-e,h1,hh]at h2;injection h2 with h2
   injection h2 with _ h3 _
   exact absurd h3 (by decide)))
 have cD:=Ih (doO B b 0 .nilIface (.slice (some ⟨G,0,none⟩) 6 c) w hBb hr (fun W hW hWe=>by
  have hr2:RepRow W b 0 1 0 .nilIface (.slice (some ⟨G,0,none⟩) 6 c):=by rw[hWe];exact RepRow.set hr 1 (.int .i32 1) (by simp)
  rw[<-hWe]at hown2;exact bo_any B b 0 G c W hBb hr2 hown2 (Nat.le_trans hB hW.size)))
 have hmf:∀(fn:Fn) (first cap:Array Value) (w:World),(Instr.makeFunc fn first cap).run Tryz.prog w=.ok (.func fn first cap) w:=fun _ _ _ _=>rfl;clear hown hown2 hr;go_enter Tryz.func54,Tryz.ntmps54
 go_wp2_with fail
 refine cD.out.mono ?_;rintro e w1 ⟨rfl,hb1,g,hr1,hbs⟩;have c3:=rowAt hr1 3 (.iface 232 (.pointer (some ⟨g,0,none⟩))) rfl;have nu:∀w,(nilAhead 478 232 (.pointer (some ⟨g,0,none⟩)) "Replace").run Tryz.prog w=.ok (some false) w:=fun _=>by kernel_rfl
 have mU:∀w,(Go.method 478 232 (.pointer (some ⟨g,0,none⟩)) "Replace").run Tryz.prog w=.ok (365,.pointer (some ⟨g,0,none⟩)) w:=fun _=>by kernel_rfl
 have cR:=Ih (bsr_any g s hs w1 hbs);clear hr1 hbs
 go_wp2_with fail
 refine cR.out.mono ?_;rintro e w2 ⟨u,rfl,hu,hb2⟩
 go_wp2_with fail
 go_ret;exact⟨u,rfl,hu,hb1.trans (hb2.mono (Nat.le_trans hB hb1.size))⟩
theorem clean_any (s:ByteArray) (hs:s.size<=1000000000) (w:World) (hE:EnvU w):Calls Tryz.prog 68 #[.string s] w (RStr (Lz.cleanP s.data.toList) w):=by
 have cT:=Ih (TrimFunc_c s hs w hE);have HC:Hid (Lz.cleanP s.data.toList=Lz.keepB ((s.data.toList.dropWhile Lz.spQ).reverse.dropWhile Lz.spQ).reverse):=Ih (Lz.clean_sp _)
 have hlen:((s.data.toList.dropWhile Lz.spQ).reverse.dropWhile Lz.spQ).reverse.length<=s.size:=by
  rw[List.length_reverse];refine Nat.le_trans (List.dropWhile_sublist _).length_le ?_;rw[List.length_reverse];exact(List.dropWhile_sublist _).length_le
 go_enter Tryz.func68,Tryz.ntmps68
 go_wp2_with fail
 refine cT.out.mono ?_;rintro e w1 ⟨u,rfl,hu,hb1⟩;have hus:u.size<=s.size:=by rw[<-len_of_size,hu.out];exact hlen
 have hcell:∀(j:Nat) (x:Value),(rsB.map Value.string)[j]? =some x->(w1.alloc (.cells #[.string ⟨#[9]⟩,.string ⟨#[]⟩,.string ⟨#[10]⟩,.string ⟨#[]⟩,.string ⟨#[13]⟩,.string ⟨#[]⟩] 9)).cell? ((⟨w1.heap.size,0,none⟩:Addr).add j)=some x:=by
  intro j x hj;rw[addr_add,World.cell?_alloc_mark];rw[<-Array.getElem?_toList];exact hj
 have cN:=Ih (NewR_any w1.heap.size ⟨w1.heap.size,0,none⟩ 6 _ (by simp) hcell);clear hcell
 go_wp2_with fail
 refine cN.out.mono ?_;rintro e w2 ⟨b,G,c,rfl,hBb,hr,hown,hb2⟩;have hb2':Below w1.heap.size w1 w2:=((Below.refl _ w1).alloc (Nat.le_refl _) _).trans (hb2.mono (by simp));have cR:=Ih (repl_any w1.heap.size b G c u (by omega) w2 hBb hr hown hb2'.size);clear hr hown
 go_wp2_with fail
 refine cR.out.mono ?_;rintro e w3 ⟨v,rfl,hv,hb3⟩
 go_wp2_with fail
 go_ret;exact⟨v,rfl,Ih (by rw[HC.out,hv.out,hu.out]),below_call hb1 (hb2'.trans hb3)⟩
def pSch (x:Nat):Bool:=if x<128 then !Lz.schemeC (UInt8.ofNat x)else true
def plusB:ByteArray:=⟨#[43,45,46]⟩
theorem plus_at:∀x:Fin 128,decide (0<=Lib.indexByte plusB.data.toList x.val.toUInt8)=(UInt8.ofNat x.val==43||UInt8.ofNat x.val==45||UInt8.ofNat x.val==46):=by decide +kernel
theorem sch_127:Lz.schemeC (UInt8.ofNat 127)=false:=by decide +kernel
theorem sch1_any (x:Nat) (hx:x<=1114111) (w:World):Calls Tryz.prog 151 #[.int .i32 (x:Int)] w fun e w'=>e=.returned (.bool (pSch x))/\Below w.heap.size w w':=by
 by_cases h:126<x
 ·have hp:pSch x=true:=by
   unfold pSch;split
   ·obtain rfl:x=127:=by omega
    rw[sch_127];rfl
   ·rfl
  have hI:(126:Int)<(x:Int):=by omega
  rw[hp];clear h hp;go_enter Tryz.func151,Tryz.ntmps151
  go_wp2_with fail
  go_ret;exact⟨rfl,Below.refl _ _⟩
 ·have hI:¬(126:Int)<(x:Int):=by omega
  obtain⟨c,hc⟩:∃c:UInt8,c=UInt8.ofNat x:=⟨_,rfl⟩;have hcx:c.toNat=x:=by rw[hc,UInt8.toNat_ofNat'];omega
  have hp:pSch x= !(Lz.isAlpha c||Lz.isDigit c||(c==43||c==45||c==46)):=by
   unfold pSch;rw[if_pos (by omega),<-hc];unfold Lz.schemeC;simp only[Bool.or_assoc]
  have hcv:IntKind.u8.wrap (x:Int)=(c.toNat:Int):=by rw[hcx];exact IntWalk.u8_in _ (by omega)
  have hcw:IntKind.u8.wrap (c.toNat:Int)=(c.toNat:Int):=by rw[hcx];exact IntWalk.u8_in _ (by omega)
  have cA:=Alpha_any c w;have cD:=Digit_any c w;have cC:=Tryz.strings_ContainsRune_ascii plusB (x:Int) w (by omega) (by omega);rw[show((x:Int)).toNat=x by omega,plus_at ⟨x,by omega⟩,show UInt8.ofNat x=c from hc.symm]at cC;rw[hp];generalize Lz.isAlpha c=qa at cA;generalize Lz.isDigit c=qd at cD;generalize (c==43||c==45||c==46)=qc at cC;have hxc:(x:Int)=(c.toNat:Int):=by omega
  rw[hxc]at cC hI⊢;have CA:=Ih cA;have CD:=Ih cD;have CC:=Ih (cC.mono fun _ _ (h:_/\_)=>(⟨h.1,h.2.symm⟩:_/\w=_));clear cA cD cC hp hcv hxc hc h hcx hx;cases qa with
  | true=>
    go_enter Tryz.func151,Tryz.ntmps151
    go_wp2_with fail
    refine CA.out.mono ?_;rintro e w1 ⟨rfl,rfl⟩
    go_wp2_with fail
    go_ret;exact⟨rfl,Below.refl _ _⟩
  | false=>
    cases qd with
    | true=>
      go_enter Tryz.func151,Tryz.ntmps151
      go_wp2_with fail
      refine CA.out.mono ?_;rintro e w1 ⟨rfl,rfl⟩
      go_wp2_with fail
      refine CD.out.mono ?_;rintro e w1 ⟨rfl,rfl⟩
      go_wp2_with fail
      go_ret;exact⟨rfl,Below.refl _ _⟩
    | false=>
      go_enter Tryz.func151,Tryz.ntmps151
      go_wp2_with fail
      refine CA.out.mono ?_;rintro e w1 ⟨rfl,rfl⟩
      go_wp2_with fail
      refine CD.out.mono ?_;rintro e w1 ⟨rfl,rfl⟩
      go_wp2_with fail
      refine CC.out.mono ?_;rintro e w1 ⟨rfl,rfl⟩
      go_wp2_with fail
      go_ret;exact⟨by cases qc<;>rfl,Below.refl _ _⟩
theorem pSch_hi (x:Nat) (h:128<=x):pSch x=true:=by unfold pSch;rw[if_neg (by omega)]
theorem pSch_lo (c:UInt8) (h:c.toNat<128):pSch c.toNat= !Lz.schemeC c:=by unfold pSch;rw[if_pos h];simp
theorem sch_hi:∀c:UInt8,128<=c.toNat->(!Lz.schemeC c)=true:=Lz.byte_all (by decide +kernel)
theorem fn_sch1 (args:Array Value) (w:World):(callFunc 151 args).run Tryz.prog w=.ok (.enter 151 args) w:=enters_of Tryz.func151 (by kernel_rfl) rfl args w
theorem IndexFunc_sch (s:ByteArray) (w:World):Calls Tryz.prog 150 #[.string s,.func (.func 151) #[] #[]] w fun e w'=>∃i:Int,e=.returned (.int .i64 i)/\Hid (decide (0<=i)= !s.data.toList.all Lz.schemeC)/\Below w.heap.size w w':=by
 refine(Tryz.strings_IndexFunc_grows 151 #[] fn_sch1 pSch s w (fun W x hx _=>sch1_any x hx W)).mono ?_;rintro e w' ⟨he,hb⟩;refine⟨_,he,Ih ?_,hb⟩;have:=Lz.idx_any (q:=fun c=> !Lz.schemeC c) pSch_hi pSch_lo sch_hi s s.size 0 (by omega);rw[List.drop_zero]at this;refine this.trans ?_;rw[List.not_all_eq_any_not]
def schOk (s:List UInt8):Bool:=(Lib.cut s [58]).2.2&& !(Lib.cut s [58]).1.isEmpty&&(match (Lib.cut s [58]).1 with|a::_=>Lz.isAlpha a|[]=>false)&&(Lib.cut s [58]).1.all Lz.schemeC
theorem schemed_eq (s:List UInt8):Lz.schemedP s=if schOk s then(Lz.low (Lib.cut s [58]).1,(Lib.cut s [58]).2.1,true)else([],s,false):=rfl
theorem schemedU_any (s:ByteArray) (hs:s.size<=1000000000) (w:World) (hE:EnvH w):Calls Tryz.prog 101 #[.string s] w (RStrStrB (Lz.schemedP s.data.toList).1 (Lz.schemedP s.data.toList).2.1 (Lz.schemedP s.data.toList).2.2 w):=by
 have cC:=Ih (Cut_h s ⟨#[58]⟩ (by omega) w hE);have hS:=schemed_eq s.data.toList;have hcl:=Lz.cut_len 58 s.data.toList;obtain⟨ok,hok⟩:∃ok,ok=(Lib.cut s.data.toList [58]).2.2:=⟨_,rfl⟩;rw[show(⟨#[58]⟩:ByteArray).data.toList=[58]from rfl,<-hok]at cC;have HS:=Ih hS;have Hok:=Ih hok;clear hS hok;go_enter Tryz.func101,Tryz.ntmps101
 go_wp2_with fail
 refine cC.out.mono ?_;rintro e w1 ⟨a,r,rfl,ha,hr,hb1⟩;have has:a.size<=s.size:=by rw[<-len_of_size,ha.out];rw[len_of_size]at hcl;omega
 have cI:=Ih (IndexFunc_sch a w1)
 go_wp2_with fail
 refine cI.out.mono ?_;rintro e w2 ⟨i,rfl,hi,hb2⟩;have hb02:=below_call hb1 hb2
 have hsk:schOk s.data.toList=(ok&& !a.data.toList.isEmpty&&(match a.data.toList with|a::_=>Lz.isAlpha a|[]=>false)&&a.data.toList.all Lz.schemeC):=by
  unfold schOk;rw[<-Hok.out,<-ha.out]
 have HN:Hid (schOk s.data.toList=false->Lz.schemedP s.data.toList=([],s.data.toList,false)):=Ih (fun h=>by rw[HS.out,h];rfl);cases ok with
 | false=>
   have HF:=Ih (HN.out (by rw[hsk];rfl));clear hsk ha
   go_wp2_with fail
   go_ret3
   rw[HF.out];exact⟨_,_,rfl,Ih rfl,Ih rfl,hb02⟩
 | true=>
   by_cases he:a.data.toList=[]
   ·have HF:=Ih (HN.out (by rw[hsk,he];rfl));have g0:=text_yes he;have hem:a.toList.isEmpty=true:=isEmpty_of_size (by rw[<-len_of_size,he];rfl);clear hsk ha he
    go_wp2_with fail
    go_ret3
    rw[HF.out];exact⟨_,_,rfl,Ih rfl,Ih rfl,hb02⟩
   ·have g0:=text_no he;have hap:0<a.size:=by rw[<-len_of_size];exact List.length_pos_iff.2 he
    have hapI:(0:Int)<(a.size:Int):=by omega
    have hem:a.toList.isEmpty=false:=isEmpty_of_pos hap;obtain⟨c,hc⟩:∃c,c=a[0]:=⟨_,rfl⟩;have hcI:(a[0].toNat:Int)=(c.toNat:Int):=by rw[hc]
    have hcg:a.data.toList[0]? =some c:=by rw[get_of_lt hap,hc]
    have hsk2:schOk s.data.toList=(Lz.isAlpha c&&a.data.toList.all Lz.schemeC):=by
     rw[hsk];cases hl:a.data.toList with
     | nil=>exact absurd hl he
     | cons x xs=>
       rw[hl]at hcg;have:x=c:=by simpa using hcg
       simp[this]
    have cA:=Alpha_any c w2;cases hal:Lz.isAlpha c with
    | false=>
      rw[hal]at cA hsk2;have HF:=Ih (HN.out (by rw[hsk2];rfl));have CA:=Ih cA;clear hsk hsk2 ha he hc hcg cA hal
      go_wp2_with fail
      refine CA.out.mono ?_;rintro e w3 ⟨rfl,rfl⟩
      go_wp2_with fail
      go_ret3
      rw[HF.out];exact⟨_,_,rfl,Ih rfl,Ih rfl,hb02⟩
    | true=>
      rw[hal]at cA hsk2;have CA:=Ih cA;by_cases hi0:0<=i
      ·have HF:=Ih (HN.out (by
        have h1:=hi.out;rw[decide_eq_true hi0]at h1;rw[hsk2,Bool.true_and];cases h2:a.data.toList.all Lz.schemeC with
        | false=>rfl
        | true=>rw[h2]at h1;cases h1))
       clear hsk hsk2 ha he hc hcg cA hal
       go_wp2_with fail
       refine CA.out.mono ?_;rintro e w3 ⟨rfl,rfl⟩
       go_wp2_with fail
       go_ret3
       rw[HF.out];exact⟨_,_,rfl,Ih rfl,Ih rfl,hb02⟩
      ·have HF:Hid (Lz.schemedP s.data.toList=(Lz.low a.data.toList,r.data.toList,true)):=by
        show _=_;have h1:=hi.out;rw[decide_eq_false hi0]at h1
        have h2:schOk s.data.toList=true:=by
         rw[hsk2,Bool.true_and];cases h2:a.data.toList.all Lz.schemeC with
         | false=>rw[h2]at h1;cases h1
         | true=>rfl
        rw[HS.out,if_pos h2,ha.out,hr.out]
       have cL:=Ih (fun W=>Lower_c a (by omega) W);clear hsk hsk2 ha he hc hcg cA hal
       go_wp2_with fail
       refine CA.out.mono ?_;rintro e w3 ⟨rfl,rfl⟩
       go_wp2_with fail
       refine(cL.out _).mono ?_;rintro e w3 ⟨l,rfl,hl,hb3⟩
       go_wp2_with fail
       go_ret3
       rw[HF.out];exact⟨_,_,rfl,hl,Ih rfl,below_call hb02 hb3⟩
end Go.Proofs.YtjhccadmmnjpeaaGreatDoor
