/-
  Package urls: clean, schemed.
-/
import Derived.Test.YtlcbhacofagedaaGreatDoorY13
import Derived.Test.YtlcbhacofagedaaGreatDoorY15
set_option maxHeartbeats 4000000
set_option maxRecDepth 100000
namespace Go.Proofs.YtlcbhacofagedaaGreatDoor
open Go.RowKit
theorem Ad:Tryz.zeroCells251=Array.replicate 257 (.slice none 0 0):=by kernel_rfl
noncomputable def bsZ (v:Value):Array Value:=Tryz.zeroCells251.setIfInBounds 256 v
theorem pP (v:Value):(bsZ v).size=257:=by unfold bsZ;rw[Ad];simp
theorem Ns (v:Value) (k:Nat) (hk:k<256):(bsZ v)[k]? =some (.slice none 0 0):=by
 unfold bsZ;rw[Ad,Array.getElem?_setIfInBounds_ne (by omega),Array.getElem?_replicate,if_pos (by omega)]
theorem ME (v:Value):(bsZ v)[256]? =some v:=by
 unfold bsZ;rw[Ad,Array.getElem?_setIfInBounds_self_of_lt (by simp)]
theorem QH (a:Option Addr) (n c:Nat):(bsZ (.slice a n c)).all (·.oneCell')=true:=by
 rw[Array.all_eq_true'];intro x hx;obtain⟨k,hk⟩:=Array.mem_iff_getElem?.1 hx;have Lr:k<257:=by have:=(Array.getElem?_eq_some_iff.1 hk).1;rw[pP]at this;exact this
 rcases Nat.lt_or_ge k 256 with h|h
 ·rw[Ns _ _ h]at hk;rw[<-Option.some.inj hk];rfl
 ·obtain rfl:k=256:=by omega
  rw[ME]at hk;rw[<-Option.some.inj hk];rfl
theorem UB:(Tryz.prog.info? 251).map (·.size)=some 257:=by kernel_rfl
def rsB:List ByteArray:=[⟨#[9]⟩,⟨#[]⟩,⟨#[10]⟩,⟨#[]⟩,⟨#[13]⟩,⟨#[]⟩]
def aaM (B:Nat) (w:World) (e:Ending) (w':World):Prop:=∃b G c,e=.returned (.pointer (some ⟨b,0,none⟩))/\B<=b/\eV w' b 0 0 0 .nilIface (.slice (some ⟨G,0,none⟩) 6 c)/\w'.ownsRow B 9 1 (.slice (some ⟨G,0,none⟩) 6 c) 6 (rsB.map Value.string)/\Below w.heap.size w w'
theorem MN (B:Nat) (p:Addr) (c:Nat) (w:World) (hB:B<=w.heap.size) (hc:∀(j:Nat) (u:Value),(rsB.map Value.string)[j]? =some u->w.cell? (p.add j)=some u):
  Calls Tryz.prog 125 #[.slice (some p) 6 c] w (aaM B w):=by
 obtain⟨i0,hi,ig,fs,fk⟩:=info_parts tt;have Hc:=Ih hc;clear hc;go_enter Tryz.func125,Tryz.ntmps125
 go_wp2_with (at_builtin;refine wpList_append_own _ rfl (.const (.slice none 0 0)) (.tmp 8) 23 rfl B 9 i0 (.string ⟨#[]⟩) 1 16 Tryz.underlying23 hi ig fs fk rfl (by decide) _ 0 [] rfl (World.ownsRow_nil _ B _ _) p 6 c (rsB.map Value.string) rfl rfl Hc.out (by decide) (by unfold maxLen;omega) (by omega) (by omega) ?_)
 intro v' w' aQ hg SI;have hb:Below w.heap.size w w':=(Below.refl _ w).grown hg (Nat.le_refl _) (fun k hk=>by simp[Value.ownBlock]at hk);have hP:aX w' B v' rsB:=.inl aQ;obtain⟨a',c',hv',_,aO⟩:=hP.form;have gQ:v'=.slice a' 6 c':=hv';subst gQ;obtain⟨G,off,rfl,_,_⟩:=aO 0 ⟨#[9]⟩ rfl
 have aby:off=0:=by
  rcases aQ.2 with⟨h,_⟩|⟨g,cap,ir,h,_⟩
  ·cases h
  ·injection h with h _ _;injection h with h;injection h with h1 h2 _
 subst aby;have bZ:Hid (w'.ownsRow B 9 1 (.slice (some ⟨G,0,none⟩) 6 c') 6 (rsB.map Value.string)):=Ih aQ;have hwz:=hb.size;clear aQ hg hP aO SI hv'
 go_wp2_with fail
 go_ret;refine⟨_,G,c',rfl,by omega,?_,bZ.out.alloc _,ac hb ((Below.refl _ _).alloc (Nat.le_refl _) _)⟩;show(w'.heap.push _)[w'.heap.size]? =_
 simp
theorem vk (w:World) (o:UInt8):(convert 63 9 (.slice (some ⟨w.heap.size,0,none⟩) 1 1)).run Tryz.prog (w.alloc (.cells #[.int .u8 (o.toNat:Int)] 5))=.ok (.string ⟨#[o]⟩) (w.alloc (.cells #[.int .u8 (o.toNat:Int)] 5)):=by
 refine run_convert_bytes_back (P:=Tryz.prog) _ 63 9 5 ⟨w.heap.size,0,none⟩ 1 [o] Tryz.underlying63 Tryz.underlying5 Tryz.underlying9 ?_;intro j hj;have Aj:j=0:=by simpa using hj
 subst Aj;exact aY w (.int .u8 (o.toNat:Int)) 5 0 _ rfl
theorem SU (W:World):(Instr.index 9 (.string ⟨#[13]⟩) (.int .i64 0)).run Tryz.prog W=.ok (.int .u8 13) W:=by kernel_rfl
theorem Tg (W:World):(Instr.index 9 (.string ⟨#[10]⟩) (.int .i64 0)).run Tryz.prog W=.ok (.int .u8 10) W:=by kernel_rfl
theorem X8 (W:World):(Instr.index 9 (.string ⟨#[9]⟩) (.int .i64 0)).run Tryz.prog W=.ok (.int .u8 9) W:=by kernel_rfl
theorem oT (w:World):∃(cap:Nat) (w':World),(convert 9 63 (.string ⟨#[]⟩)).run Tryz.prog w=.ok (.slice (some ⟨w.heap.size,0,none⟩) 0 cap) w'/\Below w.heap.size w w':=
 ⟨_,_,run_bytes_of_string (P:=Tryz.prog) w 9 63 5 ⟨#[]⟩ Tryz.underlying9 Tryz.underlying63 Tryz.underlying5,(Below.refl _ w).drew.alloc (Nat.le_refl _) _⟩
def gy (m k:Nat):Prop:=(k=13/\m<=2)\/(k=10/\m<=1)\/(k=9/\m=0)
def toB:List ByteArray:=[⟨#[13]⟩,⟨#[10]⟩,⟨#[9]⟩]
structure aaL (B g m:Nat) (wr:World) (cs:Array Value) (T:Nat):Prop where
 row:wr.heap[g]? =some (.cells cs 251 (0,0))
 size:cs.size=257
 hit:∀k,k<256->gy m k->∃A c,cs[k]? =some (.slice (some A) 0 c)
 miss:∀k,k<256->¬gy m k->cs[k]? =some (.slice none 0 0)
 last:cs[256]? =some (.slice (some ⟨T,0,none⟩) (3-m) 3)
 own:wr.ownsRow B 9 1 (.slice (some ⟨T,0,none⟩) (3-m) 3) (3-m) ((toB.take (3-m)).map Value.string)
def yV (B g:Nat) (w:World) (i:Value) (wr:World):Prop:=∃m:Nat,m<=3/\i=.int .i64 (2*(m:Int)-2)/\Below B w wr/\∃cs T,aaL B g m wr cs T
def Nm (w:World) (e:Ending) (w':World):Prop:=∃g,e=.returned (.iface 252 (.pointer (some ⟨g,0,none⟩)))/\Below w.heap.size w w'/\g9 w' g
theorem J9 (B b:Nat) (e:Int) (G c:Nat) (w:World) (hr:eV w b 0 1 e .nilIface (.slice (some ⟨G,0,none⟩) 6 c)) (aQ:w.ownsRow B 9 1 (.slice (some ⟨G,0,none⟩) 6 c) 6 (rsB.map Value.string)):
  Calls Tryz.prog 217 #[.pointer (some ⟨b,0,none⟩)] w (Nm w):=by
 obtain⟨i0,hi,ig,fs,fk⟩:=info_parts tt;have r4:=rowAt hr 4 (.slice (some ⟨G,0,none⟩) 6 c) rfl
 have TG:∀k x,rsB[k]? =some x->w.cell? ⟨G,k,none⟩=some (.string x):=fun k x hk=>by
  have:=aQ.cells (g:=G) rfl k (.string x) (by rw[List.getElem?_map,hk];rfl);rw[fa]at this;exact this
 have o0:=TG 0 ⟨#[9]⟩ rfl;have o1:=TG 1 ⟨#[]⟩ rfl;have o2:=TG 2 ⟨#[10]⟩ rfl;have o3:=TG 3 ⟨#[]⟩ rfl;have o4:=TG 4 ⟨#[13]⟩ rfl;have o5:=TG 5 ⟨#[]⟩ rfl;have OS:G<w.heap.size:=World.block_lt_of_cell? _ _ o0;have hYs:Tryz.zeroCells251.size=257:=by rw[Ad];simp
 have XE:=Ih TG;have HYs:=Ih hYs;clear aQ hr TG hYs;go_enter Tryz.func217,Tryz.ntmps217
 go_wp2_with fail
 refine wp_loop_rounds 4 ?_;rw[rounds_succ]
 go_wp2_with fail
 rw[rounds_succ]
 go_wp2_with fail
 rw[rounds_succ]
 go_wp2_with fail
 rw[rounds_succ];clear o0 o1 o2 o3 o4 o5 r4
 go_upto_region 26 with fail
 go_wp2_with (refine wpList_make_own _ rfl (.const (.int .i64 0)) (.tmp 93) 23 rfl w.heap.size 9 i0 (.string ⟨#[]⟩) 1 Tryz.underlying23 hi ig fs .i64 .i64 3 3 rfl rfl rfl (by rw[fk];omega) (by decide) (Nat.le_refl _) ?_)
 intro w1 gS DP;have aC:Below w.heap.size w w1:=(Below.refl _ w).grown DP (Nat.le_refl _) (fun k hk=>by cases hk);have eK:=Ih gS;have iW:=aC.size;clear gS DP
 go_wp2_with (refine wpList_store_row rfl 251 (.tmp 11) (.tmp 95) rfl w1.heap.size (bsZ (.slice (some ⟨w.heap.size,0,none⟩) 0 3)) rfl rfl 251 Tryz.zeroCells251 (by show(w1.heap.push _)[w1.heap.size]? =_;simp) (by rw[pP];exact UB) (by rw[HYs.out,pP]) (QH _ _ _) ?_)
 obtain⟨Y,hY⟩:∃Y,Y=Tryz.zeroCells251:=⟨_,rfl⟩;rw[<-hY];obtain⟨Z,hZ⟩:∃Z,Z=bsZ (.slice (some ⟨w.heap.size,0,none⟩) 0 3):=⟨_,rfl⟩;rw[<-hZ];have HZ:=Ih hZ;have j9:((w1.alloc (.cells Y 251)).setRow w1.heap.size Z).heap[w1.heap.size]? =some (.cells Z 251 (0,0)):=setRow_heap _ _ Y _ _ _ (by show(w1.heap.push _)[w1.heap.size]? =_;simp);have hgr:(w1.alloc (.cells Y 251)).grownBy ((w1.alloc (.cells Y 251)).setRow w1.heap.size Z) (some w1.heap.size):=⟨rfl,rfl,rfl,by simp,fun k _ hk=>setRow_other _ _ _ _ (fun e=>hk (by rw[e]))⟩;have aU:Below w.heap.size w ((w1.alloc (.cells Y 251)).setRow w1.heap.size Z):=(aC.alloc iW _).grown hgr (by simp;omega) (fun k hk=>by injection hk with hk;omega);have eI:=(eK.out.alloc (.cells Y 251)).kept hgr (.inr (by simp[Value.ownBlock];have:=eK.out.lt w.heap.size rfl;omega));generalize (w1.alloc (.cells Y 251)).setRow w1.heap.size Z=w2 at j9 aU eI⊢;have HB2:=Ih aU;have wY:=Ih j9;have HO2:=Ih eI;clear hgr aC aU j9 eI eK hZ hY
 go_wp2_with fail
 go_loopw [12] (fun i wr=>yV w.heap.size w1.heap.size w i wr) (fun i _=>(intOf i+2).toNat)
 case atStart=>
  refine⟨3,by omega,rfl,HB2.out,Z,w.heap.size,wY.out,by rw[HZ.out];exact pP _,fun k hk h=>?_,fun k hk _=>by rw[HZ.out];exact Ns _ k hk,by rw[HZ.out];exact ME _,HO2.out⟩;unfold gy at h;omega
 case round=>
  obtain⟨m,hm,rfl,bi,cs,T,hA⟩:=hrel;obtain⟨g0,Pf⟩:∃g0,g0=w1.heap.size:=⟨_,rfl⟩;rw[<-Pf]at hA;have WB:w.heap.size<=g0:=by rw[Pf];exact iW
  obtain rfl|rfl|rfl|rfl:m=3\/m=2\/m=1\/m=0:=by omega
  ·rw[<-Pf];clear Pf;have oc:wr.cell? ⟨G,4,none⟩=some (.string ⟨#[13]⟩):=by rw[bi.cell (p:=⟨G,4,none⟩) OS];exact XE.out 4 ⟨#[13]⟩ rfl
   have oe:wr.cell? ⟨G,5,none⟩=some (.string ⟨#[]⟩):=by rw[bi.cell (p:=⟨G,5,none⟩) OS];exact XE.out 5 ⟨#[]⟩ rfl
   have cg:=rowAt hA.row 13 (.slice none 0 0) (hA.miss 13 (by decide) (by unfold gy;omega));have c256:=rowAt hA.row 256 (.slice (some ⟨T,0,none⟩) 0 3) hA.last;have SI:=fun W:World=>Lib.run_eql_slice_nil (P:=Tryz.prog) W 63 5 none 0 0 0 0 Tryz.underlying63;have Om:=fun W:World=>SU W;have DH:(convert 63 9 (.slice (some ⟨wr.heap.size,0,none⟩) 1 1)).run Tryz.prog (wr.alloc (.cells #[.int .u8 13] 5))=.ok (.string ⟨#[13]⟩) (wr.alloc (.cells #[.int .u8 13] 5)):=vk wr 13;have hT:T<wr.heap.size:=(hA.own.lt T rfl).2
   have OX:¬g0=T:=fun e=>by
    rcases hA.own.2 with⟨h,_⟩|⟨g1,cap,ir,h,_,hh,_⟩
    ·cases h
    ·injection h with h _ _;injection h with h;injection h with h1 _ _
     rw[<-h1,<-e,hA.row]at hh;injection hh with hh
     injection hh with _ h2 _
     exact absurd h2 (by decide)
   have lU:=(hA.own.alloc (.cells #[.int .u8 13] 5)).alloc (.cells #[.string ⟨#[13]⟩] 9);have HA:=Ih hA;have Zm:=Ih lU;have Dj:=bi.size;clear hA lU
   go_wp2_with (at_builtin;refine wpList_append_fits _ rfl (.tmp 119) (.tmp 123) 23 rfl w.heap.size 9 i0 1 Tryz.underlying23 hi fs T 0 3 _ rfl Zm.out ⟨wr.heap.size+1,0,none⟩ 1 1 [.string ⟨#[13]⟩] rfl rfl (fun j u hj=>by have:=aY (wr.alloc (.cells #[.int .u8 13] 5)) (.string ⟨#[13]⟩) 9 j u hj;simpa using this) (by simp[Value.oneCell']) (by omega) ?_)
   intro w3 eu OE;have Oi:g0<wr.heap.size:=aI HA.out.row
   have vW:w3.heap[g0]? =some (.cells cs 251 (0,0)):=by
    rw[OE.block g0 (by simp;omega) (fun e=>OX (by injection e)),Below.heap_alloc _ _ _ (by simp;omega),Below.heap_alloc _ _ _ Oi];exact HA.out.row
   have cq:Below w.heap.size w w3:=((bi.alloc Dj _).alloc (by simp;omega) _).grown OE (by simp;omega) (fun k hk=>by injection hk with hk;subst hk;exact(HA.out.own.lt _ rfl).1);have ZE:=rowAt vW 256 _ HA.out.last;have aap:=bP vW 256;have Dh:w.heap.size<=g0:=WB;have ex:Below w.heap.size w (w3.setCell ⟨g0,256,none⟩ (.slice (some ⟨T,0,none⟩) 1 3)):=cq.setCell (p:=⟨g0,256,none⟩) Dh _;have TZ:(w3.setCell ⟨g0,256,none⟩ (.slice (some ⟨T,0,none⟩) 1 3)).heap[g0]? =some (.cells (cs.setIfInBounds 256 (.slice (some ⟨T,0,none⟩) 1 3)) 251 (0,0)):=gF vW 256 _ rfl;have lW:=eu.kept (dS w3 ⟨g0,256,none⟩ (.slice (some ⟨T,0,none⟩) 1 3)) (.inr (by simp[Value.ownBlock];exact fun e=>OX e.symm));have fR:=Ih lW;have ON:=Ih TZ;have OA:=Ih ex;clear eu OE vW cq lW TZ ex DH oc oe cg c256
   go_upto_region 34 with fail
   generalize w3.setCell ⟨g0,256,none⟩ (.slice (some ⟨T,0,none⟩) 1 3)=w4 at fR ON OA⊢;have YY:g0<w4.heap.size:=aI ON.out;obtain⟨cap,w5,kb,dB⟩:=oT w4;have Iu:w5.heap[g0]? =_:=(dB.block g0 YY).trans ON.out;have dt:=dm fR.out dB;have c5:=rowAt Iu 13 (.slice none 0 0) (by rw[Array.getElem?_setIfInBounds_ne (by omega)];exact HA.out.miss 13 (by decide) (by unfold gy;omega));have f5:=bP Iu 13;have TJ:(w5.setCell ⟨g0,13,none⟩ (.slice (some ⟨w4.heap.size,0,none⟩) 0 cap)).heap[g0]? =some (.cells ((cs.setIfInBounds 256 (.slice (some ⟨T,0,none⟩) 1 3)).setIfInBounds 13 (.slice (some ⟨w4.heap.size,0,none⟩) 0 cap)) 251 (0,0)):=gF Iu 13 _ rfl;have kW:Below w.heap.size w (w5.setCell ⟨g0,13,none⟩ (.slice (some ⟨w4.heap.size,0,none⟩) 0 cap)):=(OA.out.trans (dB.mono OA.out.size)).setCell (p:=⟨g0,13,none⟩) Dh _;have sz:=dt.kept (dS w5 ⟨g0,13,none⟩ (.slice (some ⟨w4.heap.size,0,none⟩) 0 cap)) (.inr (by simp[Value.ownBlock];exact fun e=>OX e.symm))
   have HF:Hid (yV w.heap.size g0 w (.int .i64 2) (w5.setCell ⟨g0,13,none⟩ (.slice (some ⟨w4.heap.size,0,none⟩) 0 cap))):=by
    refine⟨2,by omega,rfl,kW,_,T,TJ,by simp[HA.out.size],fun k hk h=>?_,fun k hk h=>?_,?_,sz⟩
    ·by_cases pc:k=13
     ·exact⟨⟨w4.heap.size,0,none⟩,cap,by rw[pc,Array.getElem?_setIfInBounds_self_of_lt (by simp[HA.out.size])]⟩
     ·rw[Array.getElem?_setIfInBounds_ne (by omega),Array.getElem?_setIfInBounds_ne (by omega)];exact HA.out.hit k hk (by unfold gy at h⊢;omega)
    ·have pc:k≠13:=fun e=>h (by unfold gy;omega);rw[Array.getElem?_setIfInBounds_ne (by omega),Array.getElem?_setIfInBounds_ne (by omega)];exact HA.out.miss k hk (by unfold gy at h⊢;omega)
    ·rw[Array.getElem?_setIfInBounds_ne (by omega),Array.getElem?_setIfInBounds_self_of_lt (by simp[HA.out.size])]
   clear Iu dt TJ kW sz
   go_wp2_with fail
   go_roundw
   case rel=>exact HF.out
   case measure=>simp[intOf]
  ·rw[<-Pf];clear Pf;have oc:wr.cell? ⟨G,2,none⟩=some (.string ⟨#[10]⟩):=by rw[bi.cell (p:=⟨G,2,none⟩) OS];exact XE.out 2 ⟨#[10]⟩ rfl
   have oe:wr.cell? ⟨G,3,none⟩=some (.string ⟨#[]⟩):=by rw[bi.cell (p:=⟨G,3,none⟩) OS];exact XE.out 3 ⟨#[]⟩ rfl
   have cg:=rowAt hA.row 10 (.slice none 0 0) (hA.miss 10 (by decide) (by unfold gy;omega));have c256:=rowAt hA.row 256 (.slice (some ⟨T,0,none⟩) 1 3) hA.last;have SI:=fun W:World=>Lib.run_eql_slice_nil (P:=Tryz.prog) W 63 5 none 0 0 0 0 Tryz.underlying63;have Om:=fun W:World=>Tg W;have DH:(convert 63 9 (.slice (some ⟨wr.heap.size,0,none⟩) 1 1)).run Tryz.prog (wr.alloc (.cells #[.int .u8 10] 5))=.ok (.string ⟨#[10]⟩) (wr.alloc (.cells #[.int .u8 10] 5)):=vk wr 10;have hT:T<wr.heap.size:=(hA.own.lt T rfl).2
   have OX:¬g0=T:=fun e=>by
    rcases hA.own.2 with⟨h,_⟩|⟨g1,cap,ir,h,_,hh,_⟩
    ·cases h
    ·injection h with h _ _;injection h with h;injection h with h1 _ _
     rw[<-h1,<-e,hA.row]at hh;injection hh with hh
     injection hh with _ h2 _
     exact absurd h2 (by decide)
   have lU:=(hA.own.alloc (.cells #[.int .u8 10] 5)).alloc (.cells #[.string ⟨#[10]⟩] 9);have HA:=Ih hA;have Zm:=Ih lU;have Dj:=bi.size;clear hA lU
   go_wp2_with (at_builtin;refine wpList_append_fits _ rfl (.tmp 119) (.tmp 123) 23 rfl w.heap.size 9 i0 1 Tryz.underlying23 hi fs T 1 3 _ rfl Zm.out ⟨wr.heap.size+1,0,none⟩ 1 1 [.string ⟨#[10]⟩] rfl rfl (fun j u hj=>by have:=aY (wr.alloc (.cells #[.int .u8 10] 5)) (.string ⟨#[10]⟩) 9 j u hj;simpa using this) (by simp[Value.oneCell']) (by omega) ?_)
   intro w3 eu OE;have Oi:g0<wr.heap.size:=aI HA.out.row
   have vW:w3.heap[g0]? =some (.cells cs 251 (0,0)):=by
    rw[OE.block g0 (by simp;omega) (fun e=>OX (by injection e)),Below.heap_alloc _ _ _ (by simp;omega),Below.heap_alloc _ _ _ Oi];exact HA.out.row
   have cq:Below w.heap.size w w3:=((bi.alloc Dj _).alloc (by simp;omega) _).grown OE (by simp;omega) (fun k hk=>by injection hk with hk;subst hk;exact(HA.out.own.lt _ rfl).1);have ZE:=rowAt vW 256 _ HA.out.last;have aap:=bP vW 256;have Dh:w.heap.size<=g0:=WB;have ex:Below w.heap.size w (w3.setCell ⟨g0,256,none⟩ (.slice (some ⟨T,0,none⟩) 2 3)):=cq.setCell (p:=⟨g0,256,none⟩) Dh _;have TZ:(w3.setCell ⟨g0,256,none⟩ (.slice (some ⟨T,0,none⟩) 2 3)).heap[g0]? =some (.cells (cs.setIfInBounds 256 (.slice (some ⟨T,0,none⟩) 2 3)) 251 (0,0)):=gF vW 256 _ rfl;have lW:=eu.kept (dS w3 ⟨g0,256,none⟩ (.slice (some ⟨T,0,none⟩) 2 3)) (.inr (by simp[Value.ownBlock];exact fun e=>OX e.symm));have fR:=Ih lW;have ON:=Ih TZ;have OA:=Ih ex;clear eu OE vW cq lW TZ ex DH oc oe cg c256
   go_upto_region 34 with fail
   generalize w3.setCell ⟨g0,256,none⟩ (.slice (some ⟨T,0,none⟩) 2 3)=w4 at fR ON OA⊢;have YY:g0<w4.heap.size:=aI ON.out;obtain⟨cap,w5,kb,dB⟩:=oT w4;have Iu:w5.heap[g0]? =_:=(dB.block g0 YY).trans ON.out;have dt:=dm fR.out dB;have c5:=rowAt Iu 10 (.slice none 0 0) (by rw[Array.getElem?_setIfInBounds_ne (by omega)];exact HA.out.miss 10 (by decide) (by unfold gy;omega));have f5:=bP Iu 10;have TJ:(w5.setCell ⟨g0,10,none⟩ (.slice (some ⟨w4.heap.size,0,none⟩) 0 cap)).heap[g0]? =some (.cells ((cs.setIfInBounds 256 (.slice (some ⟨T,0,none⟩) 2 3)).setIfInBounds 10 (.slice (some ⟨w4.heap.size,0,none⟩) 0 cap)) 251 (0,0)):=gF Iu 10 _ rfl;have kW:Below w.heap.size w (w5.setCell ⟨g0,10,none⟩ (.slice (some ⟨w4.heap.size,0,none⟩) 0 cap)):=(OA.out.trans (dB.mono OA.out.size)).setCell (p:=⟨g0,10,none⟩) Dh _;have sz:=dt.kept (dS w5 ⟨g0,10,none⟩ (.slice (some ⟨w4.heap.size,0,none⟩) 0 cap)) (.inr (by simp[Value.ownBlock];exact fun e=>OX e.symm))
   have HF:Hid (yV w.heap.size g0 w (.int .i64 0) (w5.setCell ⟨g0,10,none⟩ (.slice (some ⟨w4.heap.size,0,none⟩) 0 cap))):=by
    refine⟨1,by omega,rfl,kW,_,T,TJ,by simp[HA.out.size],fun k hk h=>?_,fun k hk h=>?_,?_,sz⟩
    ·by_cases pc:k=10
     ·exact⟨⟨w4.heap.size,0,none⟩,cap,by rw[pc,Array.getElem?_setIfInBounds_self_of_lt (by simp[HA.out.size])]⟩
     ·rw[Array.getElem?_setIfInBounds_ne (by omega),Array.getElem?_setIfInBounds_ne (by omega)];exact HA.out.hit k hk (by unfold gy at h⊢;omega)
    ·have pc:k≠10:=fun e=>h (by unfold gy;omega);rw[Array.getElem?_setIfInBounds_ne (by omega),Array.getElem?_setIfInBounds_ne (by omega)];exact HA.out.miss k hk (by unfold gy at h⊢;omega)
    ·rw[Array.getElem?_setIfInBounds_ne (by omega),Array.getElem?_setIfInBounds_self_of_lt (by simp[HA.out.size])]
   clear Iu dt TJ kW sz
   go_wp2_with fail
   go_roundw
   case rel=>exact HF.out
   case measure=>simp[intOf]
  ·rw[<-Pf];clear Pf;have oc:wr.cell? ⟨G,0,none⟩=some (.string ⟨#[9]⟩):=by rw[bi.cell (p:=⟨G,0,none⟩) OS];exact XE.out 0 ⟨#[9]⟩ rfl
   have oe:wr.cell? ⟨G,1,none⟩=some (.string ⟨#[]⟩):=by rw[bi.cell (p:=⟨G,1,none⟩) OS];exact XE.out 1 ⟨#[]⟩ rfl
   have cg:=rowAt hA.row 9 (.slice none 0 0) (hA.miss 9 (by decide) (by unfold gy;omega));have c256:=rowAt hA.row 256 (.slice (some ⟨T,0,none⟩) 2 3) hA.last;have SI:=fun W:World=>Lib.run_eql_slice_nil (P:=Tryz.prog) W 63 5 none 0 0 0 0 Tryz.underlying63;have Om:=fun W:World=>X8 W;have DH:(convert 63 9 (.slice (some ⟨wr.heap.size,0,none⟩) 1 1)).run Tryz.prog (wr.alloc (.cells #[.int .u8 9] 5))=.ok (.string ⟨#[9]⟩) (wr.alloc (.cells #[.int .u8 9] 5)):=vk wr 9;have hT:T<wr.heap.size:=(hA.own.lt T rfl).2
   have OX:¬g0=T:=fun e=>by
    rcases hA.own.2 with⟨h,_⟩|⟨g1,cap,ir,h,_,hh,_⟩
    ·cases h
    ·injection h with h _ _;injection h with h;injection h with h1 _ _
     rw[<-h1,<-e,hA.row]at hh;injection hh with hh
     injection hh with _ h2 _
     exact absurd h2 (by decide)
   have lU:=(hA.own.alloc (.cells #[.int .u8 9] 5)).alloc (.cells #[.string ⟨#[9]⟩] 9);have HA:=Ih hA;have Zm:=Ih lU;have Dj:=bi.size;clear hA lU
   go_wp2_with (at_builtin;refine wpList_append_fits _ rfl (.tmp 119) (.tmp 123) 23 rfl w.heap.size 9 i0 1 Tryz.underlying23 hi fs T 2 3 _ rfl Zm.out ⟨wr.heap.size+1,0,none⟩ 1 1 [.string ⟨#[9]⟩] rfl rfl (fun j u hj=>by have:=aY (wr.alloc (.cells #[.int .u8 9] 5)) (.string ⟨#[9]⟩) 9 j u hj;simpa using this) (by simp[Value.oneCell']) (by omega) ?_)
   intro w3 eu OE;have Oi:g0<wr.heap.size:=aI HA.out.row
   have vW:w3.heap[g0]? =some (.cells cs 251 (0,0)):=by
    rw[OE.block g0 (by simp;omega) (fun e=>OX (by injection e)),Below.heap_alloc _ _ _ (by simp;omega),Below.heap_alloc _ _ _ Oi];exact HA.out.row
   have cq:Below w.heap.size w w3:=((bi.alloc Dj _).alloc (by simp;omega) _).grown OE (by simp;omega) (fun k hk=>by injection hk with hk;subst hk;exact(HA.out.own.lt _ rfl).1);have ZE:=rowAt vW 256 _ HA.out.last;have aap:=bP vW 256;have Dh:w.heap.size<=g0:=WB;have ex:Below w.heap.size w (w3.setCell ⟨g0,256,none⟩ (.slice (some ⟨T,0,none⟩) 3 3)):=cq.setCell (p:=⟨g0,256,none⟩) Dh _;have TZ:(w3.setCell ⟨g0,256,none⟩ (.slice (some ⟨T,0,none⟩) 3 3)).heap[g0]? =some (.cells (cs.setIfInBounds 256 (.slice (some ⟨T,0,none⟩) 3 3)) 251 (0,0)):=gF vW 256 _ rfl;have lW:=eu.kept (dS w3 ⟨g0,256,none⟩ (.slice (some ⟨T,0,none⟩) 3 3)) (.inr (by simp[Value.ownBlock];exact fun e=>OX e.symm));have fR:=Ih lW;have ON:=Ih TZ;have OA:=Ih ex;clear eu OE vW cq lW TZ ex DH oc oe cg c256
   go_upto_region 34 with fail
   generalize w3.setCell ⟨g0,256,none⟩ (.slice (some ⟨T,0,none⟩) 3 3)=w4 at fR ON OA⊢;have YY:g0<w4.heap.size:=aI ON.out;obtain⟨cap,w5,kb,dB⟩:=oT w4;have Iu:w5.heap[g0]? =_:=(dB.block g0 YY).trans ON.out;have dt:=dm fR.out dB;have c5:=rowAt Iu 9 (.slice none 0 0) (by rw[Array.getElem?_setIfInBounds_ne (by omega)];exact HA.out.miss 9 (by decide) (by unfold gy;omega));have f5:=bP Iu 9;have TJ:(w5.setCell ⟨g0,9,none⟩ (.slice (some ⟨w4.heap.size,0,none⟩) 0 cap)).heap[g0]? =some (.cells ((cs.setIfInBounds 256 (.slice (some ⟨T,0,none⟩) 3 3)).setIfInBounds 9 (.slice (some ⟨w4.heap.size,0,none⟩) 0 cap)) 251 (0,0)):=gF Iu 9 _ rfl;have kW:Below w.heap.size w (w5.setCell ⟨g0,9,none⟩ (.slice (some ⟨w4.heap.size,0,none⟩) 0 cap)):=(OA.out.trans (dB.mono OA.out.size)).setCell (p:=⟨g0,9,none⟩) Dh _;have sz:=dt.kept (dS w5 ⟨g0,9,none⟩ (.slice (some ⟨w4.heap.size,0,none⟩) 0 cap)) (.inr (by simp[Value.ownBlock];exact fun e=>OX e.symm))
   have HF:Hid (yV w.heap.size g0 w (.int .i64 (-2)) (w5.setCell ⟨g0,9,none⟩ (.slice (some ⟨w4.heap.size,0,none⟩) 0 cap))):=by
    refine⟨0,by omega,rfl,kW,_,T,TJ,by simp[HA.out.size],fun k hk h=>?_,fun k hk h=>?_,?_,sz⟩
    ·by_cases pc:k=9
     ·exact⟨⟨w4.heap.size,0,none⟩,cap,by rw[pc,Array.getElem?_setIfInBounds_self_of_lt (by simp[HA.out.size])]⟩
     ·rw[Array.getElem?_setIfInBounds_ne (by omega),Array.getElem?_setIfInBounds_ne (by omega)];exact HA.out.hit k hk (by unfold gy at h⊢;omega)
    ·have pc:k≠9:=fun e=>h (by unfold gy;omega);rw[Array.getElem?_setIfInBounds_ne (by omega),Array.getElem?_setIfInBounds_ne (by omega)];exact HA.out.miss k hk (by unfold gy at h⊢;omega)
    ·rw[Array.getElem?_setIfInBounds_ne (by omega),Array.getElem?_setIfInBounds_self_of_lt (by simp[HA.out.size])]
   clear Iu dt TJ kW sz
   go_wp2_with fail
   go_roundw
   case rel=>exact HF.out
   case measure=>simp[intOf]
  ·rw[<-Pf];clear Pf
   have HF:Hid (Nm w (.returned (.iface 252 (.pointer (some ⟨g0,0,none⟩)))) wr):=by
    refine⟨g0,rfl,bi,⟨cs,hA.row,fun k hk=>?_,?_⟩⟩
    ·split
     ·exact hA.hit k hk (by unfold gy;omega)
     ·exact hA.miss k hk (by unfold gy;omega)
    ·rcases hA.own.2 with⟨h,_⟩|⟨g1,cap,ir,h,_,hh,_,_,_,gE⟩
     ·cases h
     ·injection h with h _ nk
      injection h with h
      injection h with h1 _ _
      subst h1
      have KK:∀(k:Nat) (x:ByteArray),toB[k]? =some x->ir[k]? =some (Value.string x):=by
       intro k x hk;have h1:(toB.map Value.string)[k]? =some (Value.string x):=by rw[List.getElem?_map,hk];rfl
       have h2:ir.toList.take 3=toB.map Value.string:=gE;rw[<-h2,List.getElem?_take]at h1;split at h1
       ·simpa using h1
       ·cases h1
      exact⟨T,3,ir,hA.last,hh,KK 0 _ rfl,KK 1 _ rfl,KK 2 _ rfl⟩
   clear hA
   go_wp2_with fail
   go_ret;exact HF.out
theorem UD (B b:Nat) (e:Int) (G c:Nat) (w:World) (KP:B<=b) (hr:eV w b 0 1 e .nilIface (.slice (some ⟨G,0,none⟩) 6 c)) (aQ:w.ownsRow B 9 1 (.slice (some ⟨G,0,none⟩) 6 c) 6 (rsB.map Value.string)) (hB:B<=w.heap.size):
  Calls Tryz.prog 166 #[.pointer (some ⟨b,0,none⟩)] w fun e' w'=>e'=.returned (.tuple #[])/\lC B b 0 1 e w w':=by
 have cB:=Ih (J9 B b e G c w hr aQ);have HR:=Ih hr;have TU:b<w.heap.size:=aI hr;clear hr aQ;go_enter Tryz.func166,Tryz.ntmps166
 go_wp2_with fail
 refine cB.out.mono ?_;rintro e1 w1 ⟨g,rfl,aC,DJ⟩;have oU:eV w1 b 0 1 e .nilIface (.slice (some ⟨G,0,none⟩) 6 c):=(aC.block b TU).trans HR.out;have c3:=rowAt oU 3 .nilIface rfl;have f3:=bP oU 3;have qB:=eV.set oU 3 (.iface 252 (.pointer (some ⟨g,0,none⟩))) (d':=0) (s':=1) (rv':=.iface 252 (.pointer (some ⟨g,0,none⟩))) (ov':=.slice (some ⟨G,0,none⟩) 6 c) (by simp);have Ds:=g9.set DJ oU 3 (.iface 252 (.pointer (some ⟨g,0,none⟩)));have c4:=rowAt qB 4 (.slice (some ⟨G,0,none⟩) 6 c) rfl;have f4:=bP qB 4;have Ao:=eV.set qB 4 (.slice none 0 0) (d':=0) (s':=1) (rv':=.iface 252 (.pointer (some ⟨g,0,none⟩))) (ov':=.slice none 0 0) (by simp);have vN:=g9.set Ds qB 4 (.slice none 0 0);have qy:=((aC.mono hB).setCell (p:=⟨b,3,none⟩) KP (.iface 252 (.pointer (some ⟨g,0,none⟩)))).setCell (p:=⟨b,4,none⟩) KP (.slice none 0 0);have HF:Hid (lC B b 0 1 e w ((w1.setCell ⟨b,3,none⟩ (.iface 252 (.pointer (some ⟨g,0,none⟩)))).setCell ⟨b,4,none⟩ (.slice none 0 0))):=⟨qy,g,Ao,vN⟩;clear oU qB Ao DJ Ds vN qy
 go_wp2_with fail
 go_end0
 exact⟨rfl,HF.out⟩
end Go.Proofs.YtlcbhacofagedaaGreatDoor
namespace Lz
open Go
def lI (c:UInt8):Bool:=c==9||c==10||c==13
def bM (l:Bs):Bs:=l.filter fun c=> !(c==9||c==10||c==13)
def lm (l:Bs):Nat:=l.countP lI
theorem xp (l:Bs):(bM l).length+lm l=l.length:=by
 induction l with
 | nil=>rfl
 | cons c r ih=>
   unfold bM lm at *;rw[List.filter_cons,List.countP_cons];by_cases h:(c==9||c==10||c==13)=true
   ·have hb:lI c=true:=h;simp only[h,hb,Bool.not_true,Bool.false_eq_true,if_false,if_true,List.length_cons];omega
   ·have h':(c==9||c==10||c==13)=false:=by simpa using h
    have hb:lI c=false:=h';simp only[h',hb,Bool.not_false,if_true,Bool.false_eq_true,if_false,List.length_cons];omega
theorem Ec (l:Bs):l.count 13+l.count 10+l.count 9=lm l:=by
 induction l with
 | nil=>rfl
 | cons c r ih=>
   unfold lm at *;rw[List.countP_cons,List.count_cons,List.count_cons,List.count_cons,<-ih];by_cases h9:c=9
   ·subst h9;simp[lI];omega
   ·by_cases Lo:c=10
    ·subst Lo;simp[lI];omega
    ·by_cases pc:c=13
     ·subst pc;simp[lI];omega
     ·have hb:lI c=false:=by simp[lI,h9,Lo,pc]
      simp[hb,h9,Lo,pc]
theorem vF {l:Bs} {i:Nat} {c:UInt8} (h:l[i]? =some c):lm (l.take (i+1))=lm (l.take i)+(if lI c then 1 else 0):=by
 obtain⟨hi,he⟩:=List.getElem?_eq_some_iff.1 h;rw[List.take_succ_eq_append_getElem hi,he];unfold lm;rw[List.countP_append];simp[List.countP_cons]
theorem sL {l:Bs} {i:Nat} {c:UInt8} (h:l[i]? =some c):bM (l.take (i+1))=bM (l.take i)++(if lI c then[]else[c]):=by
 obtain⟨hi,he⟩:=List.getElem?_eq_some_iff.1 h;rw[List.take_succ_eq_append_getElem hi,he];unfold bM;rw[List.filter_append];congr 1;by_cases h9:(c==9||c==10||c==13)=true
 ·have hb:lI c=true:=h9;simp only[hb,if_true,List.filter_cons,h9,Bool.not_true,Bool.false_eq_true,if_false,List.filter_nil]
 ·have h9':(c==9||c==10||c==13)=false:=by simpa using h9
  have hb:lI c=false:=h9';simp only[hb,Bool.false_eq_true,if_false,List.filter_cons,h9',Bool.not_false,if_true,List.filter_nil]
theorem zG (l:Bs) (i:Nat):lm (l.take i)<=lm l:=by
 unfold lm;exact List.Sublist.countP_le (List.take_sublist i l)
theorem Jk {l:Bs} (h:lm l=0):bM l=l:=by
 unfold bM lm at *;rw[List.filter_eq_self];intro c hc;have:=List.countP_eq_zero.1 h c hc;simpa [lI]using this
end Lz
namespace Go.Proofs.YtlcbhacofagedaaGreatDoor
open Go.RowKit
theorem p8 {w:World} {g:Nat} (h:g9 w g) (c:UInt8):if Lz.lI c then ∃A cap,w.cell? ⟨g,c.toNat,none⟩=some (.slice (some A) 0 cap)else w.cell? ⟨g,c.toNat,none⟩=some (.slice none 0 0):=by
 obtain⟨cs,hr,hc,_⟩:=h.row;have h1:=hc c.toNat c.toNat_lt;by_cases hq:c=9\/c=10\/c=13
 ·have hb:Lz.lI c=true:=by rcases hq with h|h|h<;>(subst h;rfl)
  have bV:c.toNat=9\/c.toNat=10\/c.toNat=13:=by rcases hq with h|h|h<;>(subst h;decide)
  rw[if_pos bV]at h1;rw[if_pos hb];obtain⟨A,cap,h2⟩:=h1;exact⟨A,cap,rowAt hr _ _ h2⟩
 ·have hb:¬Lz.lI c=true:=by
   intro h;apply hq;unfold Lz.lI at h;simp only[Bool.or_eq_true,beq_iff_eq]at h;rcases h with(h|h)|h
   ·exact .inl h
   ·exact .inr (.inl h)
   ·exact .inr (.inr h)
  have bV:¬(c.toNat=9\/c.toNat=10\/c.toNat=13):=fun h=>hq (by
   rcases h with h|h|h
   ·exact .inl (UInt8.toNat_inj.1 h)
   ·exact .inr (.inl (UInt8.toNat_inj.1 h))
   ·exact .inr (.inr (UInt8.toNat_inj.1 h)))
  rw[if_neg bV]at h1;rw[if_neg hb];exact rowAt hr _ _ h1
def Ch (l:List UInt8):Nat->Nat
 | 0=>0
 | 1=>l.count 13
 | 2=>l.count 13+l.count 10
 | _=>l.count 13+l.count 10+l.count 9
def zp (s:ByteArray) (w:World) (s5 s6:Value) (wx:World):Prop:=∃(kn:Nat) (y:Bool),s5=.int .i64 (kn:Int)/\s6=.bool y/\Hid (kn=(Lz.bM s.data.toList).length)/\Hid (y=decide (Lz.lm s.data.toList≠0))/\Below w.heap.size w wx
def oJ (s:ByteArray) (_G:Nat) (w:World) (a b k:Value) (wr:World):Prop:=
 ∃(m q:Nat) (z:Int) (y:Bool),m<=3/\k=.int .i64 m/\Hid (q=Ch s.data.toList m)/\a=.int .i64 z/\b=.bool y/\Hid (z=(s.size:Int)-(q:Int))/\Hid (y=decide (q≠0))/\Below w.heap.size w wr
theorem Qs (g:Nat) (s:ByteArray) (hs:s.size<=1000000000) (w:World) (hb:g9 w g):Calls Tryz.prog 351 #[.pointer (some ⟨g,0,none⟩),.string s] w (gl (Lz.bM s.data.toList) w):=by
 obtain⟨cs,bN,iV,G,Zd,OJ,fu,Is,ht0,ht1,Sq⟩:=hb.row;have c256:=rowAt bN 256 _ fu;have t0:=rowAt Is 0 _ ht0;have t1:=rowAt Is 1 _ ht1;have t2:=rowAt Is 2 _ Sq;have bv:=Lz.xp s.data.toList;rw[aa]at bv;have vP:=Lz.Ec s.data.toList;have HB:=Ih hb;clear hb bN iV fu Is ht0 ht1 Sq;go_enter Tryz.func351,Tryz.ntmps351;obtain⟨Xq,RU⟩:∃Xq,Xq=decide (24<=s.size):=⟨_,rfl⟩;have Si:=Ih RU;clear RU
 go_upto_region 3 with fail
 go_cut [26] (fun s26 wx=>s26=.bool Xq/\w=wx)
 case first=>
  by_cases h24:24<=s.size
  ·have abl:(24:Int)<=(s.size:Int):=by omega
   have hbt:Xq=true:=by rw[Si.out,decide_eq_true h24]
   subst hbt
   go_wp2_with fail
   go_meet;exact⟨rfl,rfl⟩
  ·have abl:¬(24:Int)<=(s.size:Int):=by omega
   have hbt:Xq=false:=by rw[Si.out,decide_eq_false h24]
   subst hbt
   go_wp2_with fail
   go_meet;exact⟨rfl,rfl⟩
 case rest=>
 obtain⟨rfl,rfl⟩:=hcut
 go_upto_if 26 with fail
 go_cut [5,6] (fun s5 s6 wx=>zp s w s5 s6 wx)
 case first=>
  cases Xq with
  | true=>
    have OS:G<w.heap.size:=World.block_lt_of_cell? _ _ t0;have T0:=Ih t0;have T1:=Ih t1;have T2:=Ih t2
    have H3:Hid (∀k,Ch s.data.toList k<=s.size):=Ih (fun k=>by
     have h1:Ch s.data.toList k<=Lz.lm s.data.toList:=by
      rw[<-vP];unfold Ch;split<;>omega
     omega)
    have Wj:=Ih vP;have kS:=Ih bv;clear t0 t1 t2 vP bv
    go_wp2_with fail
    go_loopw [5,6,32] (fun a b k wr=>oJ s G w a b k wr) (fun _ _ k _=>3-(intOf k).toNat)
    case atStart=>exact⟨0,0,s.size,false,by omega,rfl,Ih rfl,rfl,rfl,Ih (by simp),Ih rfl,Below.refl _ _⟩
    case round=>
     obtain⟨m,q,z,y,hm,rfl,hq,rfl,rfl,hz,hy,bi⟩:=hrel;have hqs:q<=s.size:=by rw[hq.out];exact H3.out m
     have ig:0<=z:=by rw[hz.out];omega
     have fs:z<=(s.size:Int):=by rw[hz.out];omega
     have bn:(s.size:Int)<=1000000000:=by omega
     obtain rfl|rfl|rfl|rfl:m=0\/m=1\/m=2\/m=3:=by omega
     ·have qA:s.data.toList.count 13<=s.size:=by rw[<-aa];exact List.count_le_length
      have u0:wr.cell? ⟨G,0,none⟩=some (.string ⟨#[13]⟩):=by rw[bi.cell (p:=⟨G,0,none⟩) OS];exact T0.out
      have cC:=Ih (zk s 13 wr);have bV:Hid (q+s.data.toList.count 13=Ch s.data.toList 1):=by show _=_;rw[hq.out];simp[Ch]
      have pf:q+s.data.toList.count 13<=s.size:=by rw[bV.out];exact H3.out 1
      generalize s.data.toList.count 13=n at cC bV qA pf;by_cases sX:n=0
      ·have WF:((n:Int) != 0)=false:=by rw[sX];rfl
       have HF:Hid (oJ s G w (.int .i64 z) (.bool y) (.int .i64 1) wr):=⟨1,q,z,y,by omega,rfl,by rw[<-bV.out,sX];rfl,rfl,rfl,hz,hy,bi⟩;clear sX hq bV
       go_wp2_with fail
       refine cC.out.mono ?_;rintro e w2 ⟨rfl,rfl⟩
       go_wp2_with fail
       go_roundw
       case rel=>exact HF.out
       case measure=>simp[intOf]
      ·have WF:((n:Int) != 0)=true:=by simp[sX]
       have ZL:Hid (decide (q+n≠0)=true):=Ih (decide_eq_true (by omega))
       obtain⟨A1,WU,v1⟩:∃A cap,wr.cell? ⟨g,13,none⟩=some (.slice (some A) 0 cap):=by
        have h:=p8 (HB.out.below bi) 13;exact h
       have Om:=fun W:World=>SU W;clear hq
       go_wp2_with fail
       refine cC.out.mono ?_;rintro e w2 ⟨rfl,rfl⟩
       go_wp2_with fail
       go_quiet (fail)
       have pd:Below w.heap.size w (wr.drewN nq):=below_drewN bi nq;generalize wr.drewN nq=wq at pd⊢;have HF:Hid (∀z2:Int,z2=(s.size:Int)-((q+n:Nat):Int)->oJ s G w (.int .i64 z2) (.bool true) (.int .i64 1) wq):=Ih (fun z2 h2=>⟨1,q+n,z2,true,by omega,rfl,bV,rfl,rfl,Ih h2,Ih (by rw[ZL.out]),pd⟩)
       go_wp2_with fail
       go_roundw
       case rel=>exact HF.out _ (by rw[hz.out];omega)
       case measure=>simp[intOf]
     ·have qA:s.data.toList.count 10<=s.size:=by rw[<-aa];exact List.count_le_length
      have u1:wr.cell? ⟨G,1,none⟩=some (.string ⟨#[10]⟩):=by rw[bi.cell (p:=⟨G,1,none⟩) OS];exact T1.out
      have cC:=Ih (zk s 10 wr);have bV:Hid (q+s.data.toList.count 10=Ch s.data.toList 2):=by show _=_;rw[hq.out];rfl
      have pf:q+s.data.toList.count 10<=s.size:=by rw[bV.out];exact H3.out 2
      generalize s.data.toList.count 10=n at cC bV qA pf;by_cases sX:n=0
      ·have WF:((n:Int) != 0)=false:=by rw[sX];rfl
       have HF:Hid (oJ s G w (.int .i64 z) (.bool y) (.int .i64 2) wr):=⟨2,q,z,y,by omega,rfl,by rw[<-bV.out,sX];rfl,rfl,rfl,hz,hy,bi⟩;clear sX hq bV
       go_wp2_with fail
       refine cC.out.mono ?_;rintro e w2 ⟨rfl,rfl⟩
       go_wp2_with fail
       go_roundw
       case rel=>exact HF.out
       case measure=>simp[intOf]
      ·have WF:((n:Int) != 0)=true:=by simp[sX]
       have ZL:Hid (decide (q+n≠0)=true):=Ih (decide_eq_true (by omega))
       obtain⟨A1,WU,v1⟩:∃A cap,wr.cell? ⟨g,10,none⟩=some (.slice (some A) 0 cap):=by
        have h:=p8 (HB.out.below bi) 10;exact h
       have Om:=fun W:World=>Tg W;clear hq
       go_wp2_with fail
       refine cC.out.mono ?_;rintro e w2 ⟨rfl,rfl⟩
       go_wp2_with fail
       go_quiet (fail)
       have pd:Below w.heap.size w (wr.drewN nq):=below_drewN bi nq;generalize wr.drewN nq=wq at pd⊢;have HF:Hid (∀z2:Int,z2=(s.size:Int)-((q+n:Nat):Int)->oJ s G w (.int .i64 z2) (.bool true) (.int .i64 2) wq):=Ih (fun z2 h2=>⟨2,q+n,z2,true,by omega,rfl,bV,rfl,rfl,Ih h2,Ih (by rw[ZL.out]),pd⟩)
       go_wp2_with fail
       go_roundw
       case rel=>exact HF.out _ (by rw[hz.out];omega)
       case measure=>simp[intOf]
     ·have qA:s.data.toList.count 9<=s.size:=by rw[<-aa];exact List.count_le_length
      have u2:wr.cell? ⟨G,2,none⟩=some (.string ⟨#[9]⟩):=by rw[bi.cell (p:=⟨G,2,none⟩) OS];exact T2.out
      have cC:=Ih (zk s 9 wr);have bV:Hid (q+s.data.toList.count 9=Ch s.data.toList 3):=by show _=_;rw[hq.out];rfl
      have pf:q+s.data.toList.count 9<=s.size:=by rw[bV.out];exact H3.out 3
      generalize s.data.toList.count 9=n at cC bV qA pf;by_cases sX:n=0
      ·have WF:((n:Int) != 0)=false:=by rw[sX];rfl
       have HF:Hid (oJ s G w (.int .i64 z) (.bool y) (.int .i64 3) wr):=⟨3,q,z,y,by omega,rfl,by rw[<-bV.out,sX];rfl,rfl,rfl,hz,hy,bi⟩;clear sX hq bV
       go_wp2_with fail
       refine cC.out.mono ?_;rintro e w2 ⟨rfl,rfl⟩
       go_wp2_with fail
       go_roundw
       case rel=>exact HF.out
       case measure=>simp[intOf]
      ·have WF:((n:Int) != 0)=true:=by simp[sX]
       have ZL:Hid (decide (q+n≠0)=true):=Ih (decide_eq_true (by omega))
       obtain⟨A1,WU,v1⟩:∃A cap,wr.cell? ⟨g,9,none⟩=some (.slice (some A) 0 cap):=by
        have h:=p8 (HB.out.below bi) 9;exact h
       have Om:=fun W:World=>X8 W;clear hq
       go_wp2_with fail
       refine cC.out.mono ?_;rintro e w2 ⟨rfl,rfl⟩
       go_wp2_with fail
       go_quiet (fail)
       have pd:Below w.heap.size w (wr.drewN nq):=below_drewN bi nq;generalize wr.drewN nq=wq at pd⊢;have HF:Hid (∀z2:Int,z2=(s.size:Int)-((q+n:Nat):Int)->oJ s G w (.int .i64 z2) (.bool true) (.int .i64 3) wq):=Ih (fun z2 h2=>⟨3,q+n,z2,true,by omega,rfl,bV,rfl,rfl,Ih h2,Ih (by rw[ZL.out]),pd⟩)
       go_wp2_with fail
       go_roundw
       case rel=>exact HF.out _ (by rw[hz.out];omega)
       case measure=>simp[intOf]
     ·have sY:q=Lz.lm s.data.toList:=by rw[hq.out,<-Wj.out];rfl
      have HF:Hid (zp s w (.int .i64 z) (.bool y) wr):=⟨(Lz.bM s.data.toList).length,y,by have:=kS.out;have:=hz.out;congr 1;omega,rfl,Ih rfl,Ih (by rw[hy.out,sY]),bi⟩;clear hq sY
      go_wp2_with fail
      go_meet;exact HF.out
  | false=>
    have kS:=Ih bv;clear t0 t1 t2 vP bv c256 Si
    go_wp2_with fail
    go_loopw [5,6,10] (fun a b k wr=>∃(i q:Nat) (z:Int) (y:Bool),i<=s.size/\k=.int .i64 i/\Hid (q=Lz.lm (s.data.toList.take i))/\a=.int .i64 z/\b=.bool y/\Hid (z=(s.size:Int)-(q:Int))/\Hid (y=decide (q≠0))/\w=wr) (fun _ _ k _=>s.size-(intOf k).toNat)
    case atStart=>exact⟨0,0,s.size,false,Nat.zero_le _,rfl,Ih rfl,rfl,rfl,Ih (by simp),Ih rfl,rfl⟩
    case round=>
     obtain⟨i,q,z,y,hi,rfl,hq,rfl,rfl,hz,hy,rfl⟩:=hrel
     have hqs:q<=s.size:=by
      have h1:=Lz.zG s.data.toList i;have h2:=kS.out;rw[hq.out];omega
     have ig:0<=z:=by rw[hz.out];omega
     have fs:z<=(s.size:Int):=by rw[hz.out];omega
     have bn:(s.size:Int)<=1000000000:=by omega
     by_cases aN:i<s.size
     ·have dH:(i:Int)<(s.size:Int):=by omega
      have nP:(0:Int)<=(i:Int):=by omega
      obtain⟨c,hc⟩:∃c,c=s[i]:=⟨_,rfl⟩;have yI:(s[i].toNat:Int)=(c.toNat:Int):=by rw[hc]
      have wS:s.data.toList[i]? =some c:=by rw[aw aN,hc]
      have DS:=Lz.vF wS;have dF:=p8 HB.out c;have ZS:(c.toNat:Int)<256:=by have:=c.toNat_lt;omega
      have np:(0:Int)<=(c.toNat:Int):=by omega
      cases hb:Lz.lI c with
      | true=>
        rw[hb,if_pos rfl]at dF DS;obtain⟨A1,WU,v1⟩:=dF;have bV:Hid (q+1=Lz.lm (s.data.toList.take (i+1))):=by show _=_;rw[DS,hq.out]
        have XG:Hid (true=decide (q+1≠0)):=Ih (by simp);have ZH:=fun W:World=>run_neq_slice_nil_any (P:=Tryz.prog) W 63 5 (some A1) 0 WU 0 0 Tryz.underlying63;clear hb DS hc wS hq
        go_wp2_with fail
        go_roundw
        case rel=>exact⟨i+1,q+1,z-1,true,by omega,by go_num,bV,by go_num,rfl,Ih (by rw[hz.out];omega),XG,trivial⟩
        case measure=>simp[intOf];omega
      | false=>
        rw[hb,if_neg (by simp)]at dF DS;have bV:Hid (q=Lz.lm (s.data.toList.take (i+1))):=by show _=_;rw[DS,hq.out];rfl
        have ZH:=fun W:World=>run_neq_slice_nil_any (P:=Tryz.prog) W 63 5 none 0 0 0 0 Tryz.underlying63;clear hb DS hc wS hq
        go_wp2_with fail
        go_roundw
        case rel=>exact⟨i+1,q,z,y,by omega,by go_num,bV,rfl,rfl,hz,hy,trivial⟩
        case measure=>simp[intOf];omega
     ·have dH:¬(i:Int)<(s.size:Int):=by omega
      have sY:q=Lz.lm s.data.toList:=by rw[hq.out,List.take_of_length_le (by rw[aa];omega)]
      have HF:Hid (zp s w (.int .i64 z) (.bool y) w):=⟨(Lz.bM s.data.toList).length,y,by have:=kS.out;have:=hz.out;congr 1;omega,rfl,Ih rfl,Ih (by rw[hy.out,sY]),Below.refl _ _⟩;clear hq sY
      go_wp2_with fail
      go_meet;exact HF.out
 case rest=>
  obtain⟨kn,y,rfl,rfl,VW,hy,bi⟩:=hcut;have kS:=Ih bv;clear t0 t1 t2 vP bv c256 Si;cases y with
  | false=>
    have HK:Hid (s.data.toList=Lz.bM s.data.toList):=Ih (Lz.Jk (by have:=of_decide_eq_false hy.out.symm;omega)).symm
    go_wp2_with fail
    go_ret;exact⟨s,rfl,HK,bi⟩
  | true=>
    obtain⟨iu,hiu,abO,abp,aa8⟩:=info_parts Tryz.infoU8;have Pm:kn<=s.size:=by rw[VW.out];have:=kS.out;omega
    have Dj:=bi.size
    go_wp2_with (refine wpList_make_full _ rfl (.tmp 84) (.tmp 84) 63 rfl w.heap.size 5 iu (.int .u8 0) 1 Tryz.underlying63 hiu abO abp .i64 .i64 kn kn kn rfl rfl rfl rfl (by rw[aa8];omega) (by unfold maxLen;omega) Dj ?_)
    intro w2 eI wZ;have aU:Below w.heap.size w w2:=bi.grown wZ Dj (fun k hk=>by cases hk);obtain⟨GB,hGB⟩:∃GB,GB=wc.heap.size:=⟨_,rfl⟩;rw[<-hGB]at eI⊢
    have eu:w2.ownsRow w.heap.size 5 1 (.slice (some ⟨GB,0,none⟩) kn kn) kn (u8s (Lz.bM (s.data.toList.take 0))++List.replicate (kn-0) (.int .u8 0)):=by
     rw[toList_madeCells_one]at eI;exact eI
    have ep:=Ih eu;have HB2:=Ih aU;clear eI eu wZ aU hGB bi
    go_wp2_with fail
    go_loopw [13,14] (fun a b wr=>∃i j:Nat,i<=s.size/\a=.int .i64 j/\b=.int .i64 i/\Hid (j=(Lz.bM (s.data.toList.take i)).length)/\Below w.heap.size w wr/\Hid (wr.ownsRow w.heap.size 5 1 (.slice (some ⟨GB,0,none⟩) kn kn) kn (u8s (Lz.bM (s.data.toList.take i))++List.replicate (kn-j) (.int .u8 0)))) (fun _ b _=>s.size-(intOf b).toNat)
    case atStart=>exact⟨0,0,Nat.zero_le _,rfl,rfl,Ih rfl,HB2.out,ep⟩
    case round=>
     obtain⟨i,j,hi,rfl,rfl,hj,bi,hO⟩:=hrel
     have Dt:j<=kn:=by
      rw[hj.out,VW.out];have h1:=Lz.xp (s.data.toList.take i);unfold Lz.bM;exact List.Sublist.length_le (List.Sublist.filter _ (List.take_sublist i _))
     have acx:(j:Int)<=(kn:Int):=by omega
     by_cases aN:i<s.size
     ·have dH:(i:Int)<(s.size:Int):=by omega
      have nP:(0:Int)<=(i:Int):=by omega
      have Aj:(0:Int)<=(j:Int):=by omega
      obtain⟨c,hc⟩:∃c,c=s[i]:=⟨_,rfl⟩;have yI:(s[i].toNat:Int)=(c.toNat:Int):=by rw[hc]
      have wS:s.data.toList[i]? =some c:=by rw[aw aN,hc]
      have DS:=Lz.sL wS;have dF:=p8 (HB.out.below bi) c;have ZS:(c.toNat:Int)<256:=by have:=c.toNat_lt;omega
      have np:(0:Int)<=(c.toNat:Int):=by omega
      cases hb:Lz.lI c with
      | true=>
        rw[hb,if_pos rfl]at dF DS;obtain⟨A1,WU,v1⟩:=dF;rw[List.append_nil]at DS;have ZH:=fun W:World=>run_neq_slice_nil_any (P:=Tryz.prog) W 63 5 (some A1) 0 WU 0 0 Tryz.underlying63;have hcp:=fun(d:Option Addr) (dl dc:Nat) (ty:TypeId) (W:World)=>run_copy_none (P:=Tryz.prog) W 63 63 ty 5 d (some A1) dl dc 0 WU Tryz.underlying63 (by kernel_rfl) (by simp);have hO2:Hid (∀W,Below wr.heap.size wr W->W.ownsRow w.heap.size 5 1 (.slice (some ⟨GB,0,none⟩) kn kn) kn (u8s (Lz.bM (s.data.toList.take (i+1)))++List.replicate (kn-j) (.int .u8 0))):=Ih (fun W hW=>by rw[DS];exact dm hO.out hW);have Ir:Hid (j=(Lz.bM (s.data.toList.take (i+1))).length):=by show _=_;rw[DS];exact hj.out
        clear hb DS hc wS hj hO
        go_wp2_with fail
        go_region
        all_goals
         go_wp2_with fail
         go_roundw
         case rel=>exact⟨i+1,j,by omega,by go_num,by go_num,Ir,bi.drew,Ih (hO2.out _ (Below.refl _ _).drew)⟩
         case measure=>simp[intOf];omega
      | false=>
        rw[hb,if_neg (by simp)]at dF DS;have ZH:=fun W:World=>run_neq_slice_nil_any (P:=Tryz.prog) W 63 5 none 0 0 0 0 Tryz.underlying63;have Ir:Hid (j+1=(Lz.bM (s.data.toList.take (i+1))).length):=by show _=_;rw[DS,hj.out,List.length_append];rfl
        have acw:j<kn:=by
         have h1:(Lz.bM (s.data.toList.take (i+1))).length<=(Lz.bM s.data.toList).length:=by
          unfold Lz.bM;exact List.Sublist.length_le (List.Sublist.filter _ (List.take_sublist (i+1) _))
         rw[<-Ir.out,<-VW.out]at h1;omega
        have ab2:(j:Int)<(kn:Int):=by omega
        have Dn:GB<wr.heap.size:=(hO.out.lt GB rfl).2;have hgw:w.heap.size<=GB:=(hO.out.lt GB rfl).1
        obtain⟨vj,cj⟩:∃v,wr.cell? ⟨GB,j,none⟩=some v:=by
         have h1:=hO.out.cellAt j (by omega);have h2:j<(u8s (Lz.bM (s.data.toList.take i))++List.replicate (kn-j) (Value.int .u8 0)).length:=by rw[hO.out.1];omega
         exact⟨_,h1.trans (List.getElem?_eq_getElem h2)⟩
        have fj:=hO.out.frozenAt j;have hst:=(hO.out.stored j (.int .u8 (c.toNat:Int))).1
        have lL:(u8s (Lz.bM (s.data.toList.take i))++List.replicate (kn-j) (Value.int .u8 0)).set j (.int .u8 (c.toNat:Int))=u8s (Lz.bM (s.data.toList.take (i+1)))++List.replicate (kn-(j+1)) (Value.int .u8 0):=by
         have hl:(u8s (Lz.bM (s.data.toList.take i))).length=j:=by rw[hj.out];simp[u8s]
         rw[List.set_append_right _ _ (by omega),hl,Nat.sub_self,DS,show kn-j=(kn-(j+1))+1 by omega,List.replicate_succ,List.set_cons_zero]
         simp[u8s]
        rw[lL]at hst;have cq:=bi.setCell (p:=⟨GB,j,none⟩) hgw (.int .u8 (c.toNat:Int));have HF:Hid (wr.setCell ⟨GB,j,none⟩ (.int .u8 (c.toNat:Int)) |>.ownsRow w.heap.size 5 1 (.slice (some ⟨GB,0,none⟩) kn kn) kn (u8s (Lz.bM (s.data.toList.take (i+1)))++List.replicate (kn-(j+1)) (.int .u8 0))):=Ih hst;have Hb3:=Ih cq;clear hb DS hc wS hj hO lL hst cq
        go_wp2_with fail
        go_roundw
        case rel=>exact⟨i+1,j+1,by omega,by go_num,by go_num,Ir,Hb3.out,HF⟩
        case measure=>simp[intOf];omega
     ·have dH:¬(i:Int)<(s.size:Int):=by omega
      have gE:s.data.toList.take i=s.data.toList:=List.take_of_length_le (by rw[aa];omega);have hje:j=kn:=by rw[hj.out,gE,VW.out]
      have hO2:wr.ownsRow w.heap.size 5 1 (.slice (some ⟨GB,0,none⟩) kn kn) kn (u8s (Lz.bM s.data.toList)):=by
       have h1:=hO.out;rw[hje,Nat.sub_self,gE]at h1;simpa using h1
      have sV:=um hO2;clear hj hO hje gE hO2
      go_wp2_with fail
      go_ret;exact⟨_,rfl,Ih rfl,bi⟩
end Go.Proofs.YtlcbhacofagedaaGreatDoor
namespace Lz
open Go
theorem L9 (s:Bs):cf s=bM ((s.dropWhile spQ).reverse.dropWhile spQ).reverse:=rfl
end Lz
namespace Go.Proofs.YtlcbhacofagedaaGreatDoor
open Go.RowKit
structure jL (w:World):Prop where
 h:de w
 u8:Lib.Utf8Tabs 5 6 w
theorem jL.below {w w':World} (h:jL w) (hb:Below w.heap.size w w'):jL w':=⟨h.h.below hb,Utf8Tabs_below h.u8 hb⟩
theorem Kk (args:Array Value) (w:World):(callFunc 124 args).run Tryz.prog w=.ok (.enter 124 args) w:=enters_of Tryz.func124 (by kernel_rfl) rfl args w
theorem EB (x:Nat) (hx:x<=1114111) (w:World):Calls Tryz.prog 124 #[.int .i32 (x:Int)] w fun e w'=>e=.returned (.bool (Lz.pSp x))/\Below w.heap.size w w':=by
 by_cases h:x<=32
 ·have hp:Lz.pSp x=true:=decide_eq_true h;have hI:(x:Int)<=32:=by omega
  rw[hp];clear h hp;go_enter Tryz.func124,Tryz.ntmps124
  go_wp2
  go_ret;exact⟨rfl,Below.refl _ _⟩
 ·have hp:Lz.pSp x=false:=decide_eq_false h;have hI:¬(x:Int)<=32:=by omega
  rw[hp];clear h hp;go_enter Tryz.func124,Tryz.ntmps124
  go_wp2
  go_ret;exact⟨rfl,Below.refl _ _⟩
theorem Fs (s:ByteArray) (hs:s.size<=1000000000) (w:World) (hE:jL w):Calls Tryz.prog 123 #[.string s,.func (.func 124) #[] #[]] w (gl ((s.data.toList.dropWhile Lz.spQ).reverse.dropWhile Lz.spQ).reverse w):=
 (Tryz.strings_TrimFunc_grows 124 #[] Kk Lz.pSp s w (by omega) hE.u8 (fun W x hx _=>EB x hx W)).mono fun _ _ ⟨he,hb⟩=>⟨_,he,Ih (Lz.QI s),hb⟩
theorem MT (B b G c:Nat) (s:ByteArray) (hs:s.size<=1000000000) (w:World) (KP:B<=b) (hr:eV w b 0 0 0 .nilIface (.slice (some ⟨G,0,none⟩) 6 c)) (aQ:w.ownsRow B 9 1 (.slice (some ⟨G,0,none⟩) 6 c) 6 (rsB.map Value.string)) (hB:B<=w.heap.size):
  Calls Tryz.prog 126 #[.pointer (some ⟨b,0,none⟩),.string s] w fun e w'=>∃u:ByteArray,e=.returned (.string u)/\Hid (u.data.toList=Lz.bM s.data.toList)/\Below B w w':=by
 have eI:=aQ.kept (dS w ⟨b,1,none⟩ (.int .i32 1)) (.inr (by
  simp[Value.ownBlock]
  intro e;rcases aQ.2 with⟨h,_⟩|⟨g1,cap,ir,h,_,hh,_⟩
  ·cases h
  ·injection h with h _ _;injection h with h;injection h with h1 _ _
   have h2:w.heap[b]? =_:=hr;rw[<-e,h1,hh]at h2;injection h2 with h2
   injection h2 with _ h3 _
   exact absurd h3 (by decide)))
 have cD:=Ih (doO B b 0 .nilIface (.slice (some ⟨G,0,none⟩) 6 c) w KP hr (fun W hW hWe=>by
  have qB:eV W b 0 1 0 .nilIface (.slice (some ⟨G,0,none⟩) 6 c):=by rw[hWe];exact eV.set hr 1 (.int .i32 1) (by simp)
  rw[<-hWe]at eI;exact UD B b 0 G c W KP qB eI (Nat.le_trans hB hW.size)))
 have hmf:∀(fn:Fn) (first cap:Array Value) (w:World),(Instr.makeFunc fn first cap).run Tryz.prog w=.ok (.func fn first cap) w:=fun _ _ _ _=>rfl;clear aQ eI hr;go_enter Tryz.func126,Tryz.ntmps126
 go_wp2_with fail
 refine cD.out.mono ?_;rintro e w1 ⟨rfl,aC,g,oU,DJ⟩;have c3:=rowAt oU 3 (.iface 252 (.pointer (some ⟨g,0,none⟩))) rfl;have nu:∀w,(nilAhead 448 252 (.pointer (some ⟨g,0,none⟩)) "Replace").run Tryz.prog w=.ok (some false) w:=fun _=>by kernel_rfl
 have mU:∀w,(Go.method 448 252 (.pointer (some ⟨g,0,none⟩)) "Replace").run Tryz.prog w=.ok (351,.pointer (some ⟨g,0,none⟩)) w:=fun _=>by kernel_rfl
 have cR:=Ih (Qs g s hs w1 DJ);clear oU DJ
 go_wp2_with fail
 refine cR.out.mono ?_;rintro e w2 ⟨u,rfl,hu,aU⟩
 go_wp2_with fail
 go_ret;exact⟨u,rfl,hu,aC.trans (aU.mono (Nat.le_trans hB aC.size))⟩
theorem Jv (s:ByteArray) (hs:s.size<=1000000000) (w:World) (hE:jL w):Calls Tryz.prog 81 #[.string s] w (gl (Lz.cf s.data.toList) w):=by
 have cT:=Ih (Fs s hs w hE);have HC:Hid (Lz.cf s.data.toList=Lz.bM ((s.data.toList.dropWhile Lz.spQ).reverse.dropWhile Lz.spQ).reverse):=Ih (Lz.L9 _)
 have bv:((s.data.toList.dropWhile Lz.spQ).reverse.dropWhile Lz.spQ).reverse.length<=s.size:=by
  rw[List.length_reverse];refine Nat.le_trans (List.dropWhile_sublist _).length_le ?_;rw[List.length_reverse];exact(List.dropWhile_sublist _).length_le
 go_enter Tryz.func81,Tryz.ntmps81
 go_wp2_with fail
 refine cT.out.mono ?_;rintro e w1 ⟨u,rfl,hu,aC⟩;have jn:u.size<=s.size:=by rw[<-aa,hu.out];exact bv
 have dF:∀(j:Nat) (x:Value),(rsB.map Value.string)[j]? =some x->(w1.alloc (.cells #[.string ⟨#[9]⟩,.string ⟨#[]⟩,.string ⟨#[10]⟩,.string ⟨#[]⟩,.string ⟨#[13]⟩,.string ⟨#[]⟩] 9)).cell? ((⟨w1.heap.size,0,none⟩:Addr).add j)=some x:=by
  intro j x hj;rw[fa,World.cell?_alloc_mark];rw[<-Array.getElem?_toList];exact hj
 have cN:=Ih (MN w1.heap.size ⟨w1.heap.size,0,none⟩ 6 _ (by simp) dF);clear dF
 go_wp2_with fail
 refine cN.out.mono ?_;rintro e w2 ⟨b,G,c,rfl,KP,hr,aQ,aU⟩;have ZZ:Below w1.heap.size w1 w2:=((Below.refl _ w1).alloc (Nat.le_refl _) _).trans (aU.mono (by simp));have cR:=Ih (MT w1.heap.size b G c u (by omega) w2 KP hr aQ ZZ.size);clear hr aQ
 go_wp2_with fail
 refine cR.out.mono ?_;rintro e w3 ⟨v,rfl,hv,cq⟩
 go_wp2_with fail
 go_ret;exact⟨v,rfl,Ih (by rw[HC.out,hv.out,hu.out]),ac aC (ZZ.trans cq)⟩
def wH (x:Nat):Bool:=if x<128 then !Lz.be (UInt8.ofNat x)else true
def SR:ByteArray:=⟨#[43,45,46]⟩
theorem Qc:∀x:Fin 128,decide (0<=Lib.indexByte SR.data.toList x.val.toUInt8)=(UInt8.ofNat x.val==43||UInt8.ofNat x.val==45||UInt8.ofNat x.val==46):=by decide +kernel
theorem P4:Lz.be (UInt8.ofNat 127)=false:=by decide +kernel
theorem LH (x:Nat) (hx:x<=1114111) (w:World):Calls Tryz.prog 168 #[.int .i32 (x:Int)] w fun e w'=>e=.returned (.bool (wH x))/\Below w.heap.size w w':=by
 by_cases h:126<x
 ·have hp:wH x=true:=by
   unfold wH;split
   ·obtain rfl:x=127:=by omega
    rw[P4];rfl
   ·rfl
  have hI:(126:Int)<(x:Int):=by omega
  rw[hp];clear h hp;go_enter Tryz.func168,Tryz.ntmps168
  go_wp2_with fail
  go_ret;exact⟨rfl,Below.refl _ _⟩
 ·have hI:¬(126:Int)<(x:Int):=by omega
  obtain⟨c,hc⟩:∃c:UInt8,c=UInt8.ofNat x:=⟨_,rfl⟩;have oY:c.toNat=x:=by rw[hc,UInt8.toNat_ofNat'];omega
  have hp:wH x= !(Lz.aW c||Lz.aA c||(c==43||c==45||c==46)):=by
   unfold wH;rw[if_pos (by omega),<-hc];unfold Lz.be;simp only[Bool.or_assoc]
  have sV:IntKind.u8.wrap (x:Int)=(c.toNat:Int):=by rw[oY];exact IntWalk.u8_in _ (by omega)
  have yB:IntKind.u8.wrap (c.toNat:Int)=(c.toNat:Int):=by rw[oY];exact IntWalk.u8_in _ (by omega)
  have cA:=kz c w;have cD:=kK c w;have cC:=Tryz.strings_ContainsRune_ascii SR (x:Int) w (by omega) (by omega);rw[show((x:Int)).toNat=x by omega,Qc ⟨x,by omega⟩,show UInt8.ofNat x=c from hc.symm]at cC;rw[hp];generalize Lz.aW c=qa at cA;generalize Lz.aA c=qd at cD;generalize (c==43||c==45||c==46)=qc at cC;have Wu:(x:Int)=(c.toNat:Int):=by omega
  rw[Wu]at cC hI⊢;have CA:=Ih cA;have CD:=Ih cD;have CC:=Ih (cC.mono fun _ _ (h:_/\_)=>(⟨h.1,h.2.symm⟩:_/\w=_));clear cA cD cC hp sV Wu hc h oY hx;cases qa with
  | true=>
    go_enter Tryz.func168,Tryz.ntmps168
    go_wp2_with fail
    refine CA.out.mono ?_;rintro e w1 ⟨rfl,rfl⟩
    go_wp2_with fail
    go_ret;exact⟨rfl,Below.refl _ _⟩
  | false=>
    cases qd with
    | true=>
      go_enter Tryz.func168,Tryz.ntmps168
      go_wp2_with fail
      refine CA.out.mono ?_;rintro e w1 ⟨rfl,rfl⟩
      go_wp2_with fail
      refine CD.out.mono ?_;rintro e w1 ⟨rfl,rfl⟩
      go_wp2_with fail
      go_ret;exact⟨rfl,Below.refl _ _⟩
    | false=>
      go_enter Tryz.func168,Tryz.ntmps168
      go_wp2_with fail
      refine CA.out.mono ?_;rintro e w1 ⟨rfl,rfl⟩
      go_wp2_with fail
      refine CD.out.mono ?_;rintro e w1 ⟨rfl,rfl⟩
      go_wp2_with fail
      refine CC.out.mono ?_;rintro e w1 ⟨rfl,rfl⟩
      go_wp2_with fail
      go_ret;exact⟨by cases qc<;>rfl,Below.refl _ _⟩
theorem QK (x:Nat) (h:128<=x):wH x=true:=by unfold wH;rw[if_neg (by omega)]
theorem Q1 (c:UInt8) (h:c.toNat<128):wH c.toNat= !Lz.be c:=by unfold wH;rw[if_pos h];simp
theorem Vq:∀c:UInt8,128<=c.toNat->(!Lz.be c)=true:=Lz.au (by decide +kernel)
theorem PF (args:Array Value) (w:World):(callFunc 168 args).run Tryz.prog w=.ok (.enter 168 args) w:=enters_of Tryz.func168 (by kernel_rfl) rfl args w
theorem wL (s:ByteArray) (w:World):Calls Tryz.prog 167 #[.string s,.func (.func 168) #[] #[]] w fun e w'=>∃i:Int,e=.returned (.int .i64 i)/\Hid (decide (0<=i)= !s.data.toList.all Lz.be)/\Below w.heap.size w w':=by
 refine(Tryz.strings_IndexFunc_grows 168 #[] PF wH s w (fun W x hx _=>LH x hx W)).mono ?_;rintro e w' ⟨he,hb⟩;refine⟨_,he,Ih ?_,hb⟩;have:=Lz.Ab (q:=fun c=> !Lz.be c) QK Q1 Vq s s.size 0 (by omega);rw[List.drop_zero]at this;refine this.trans ?_;rw[List.not_all_eq_any_not]
def yg (s:List UInt8):Bool:=(Lib.cut s [58]).2.2&& !(Lib.cut s [58]).1.isEmpty&&(match (Lib.cut s [58]).1 with|a::_=>Lz.aW a|[]=>false)&&(Lib.cut s [58]).1.all Lz.be
theorem uh (s:List UInt8):Lz.bp s=if yg s then(Lz.low (Lib.cut s [58]).1,(Lib.cut s [58]).2.1,true)else([],s,false):=rfl
theorem zb (s:ByteArray) (hs:s.size<=1000000000) (w:World) (hE:de w):Calls Tryz.prog 127 #[.string s] w (pq (Lz.bp s.data.toList).1 (Lz.bp s.data.toList).2.1 (Lz.bp s.data.toList).2.2 w):=by
 have cC:=Ih (C7 s ⟨#[58]⟩ (by omega) w hE);have hS:=uh s.data.toList;have qA:=Lz.lk 58 s.data.toList;obtain⟨ok,l6⟩:∃ok,ok=(Lib.cut s.data.toList [58]).2.2:=⟨_,rfl⟩;rw[show(⟨#[58]⟩:ByteArray).data.toList=[58]from rfl,<-l6]at cC;have HS:=Ih hS;have FX:=Ih l6;clear hS l6;go_enter Tryz.func127,Tryz.ntmps127
 go_wp2_with fail
 refine cC.out.mono ?_;rintro e w1 ⟨a,r,rfl,ha,hr,aC⟩;have has:a.size<=s.size:=by rw[<-aa,ha.out];rw[aa]at qA;omega
 have cI:=Ih (wL a w1)
 go_wp2_with fail
 refine cI.out.mono ?_;rintro e w2 ⟨i,rfl,hi,aU⟩;have ga:=ac aC aU
 have KL:yg s.data.toList=(ok&& !a.data.toList.isEmpty&&(match a.data.toList with|a::_=>Lz.aW a|[]=>false)&&a.data.toList.all Lz.be):=by
  unfold yg;rw[<-FX.out,<-ha.out]
 have HN:Hid (yg s.data.toList=false->Lz.bp s.data.toList=([],s.data.toList,false)):=Ih (fun h=>by rw[HS.out,h];rfl);cases ok with
 | false=>
   have HF:=Ih (HN.out (by rw[KL];rfl));clear KL ha
   go_wp2_with fail
   go_ret3
   rw[HF.out];exact⟨_,_,rfl,Ih rfl,Ih rfl,ga⟩
 | true=>
   by_cases he:a.data.toList=[]
   ·have HF:=Ih (HN.out (by rw[KL,he];rfl));have g0:=aH he;have K7:a.toList.isEmpty=true:=ak (by rw[<-aa,he];rfl);clear KL ha he
    go_wp2_with fail
    go_ret3
    rw[HF.out];exact⟨_,_,rfl,Ih rfl,Ih rfl,ga⟩
   ·have g0:=aR he;have R6:0<a.size:=by rw[<-aa];exact List.length_pos_iff.2 he
    have acv:(0:Int)<(a.size:Int):=by omega
    have K7:a.toList.isEmpty=false:=aj R6;obtain⟨c,hc⟩:∃c,c=a[0]:=⟨_,rfl⟩;have yI:(a[0].toNat:Int)=(c.toNat:Int):=by rw[hc]
    have wS:a.data.toList[0]? =some c:=by rw[aw R6,hc]
    have DG:yg s.data.toList=(Lz.aW c&&a.data.toList.all Lz.be):=by
     rw[KL];cases hl:a.data.toList with
     | nil=>exact absurd hl he
     | cons x xs=>
       rw[hl]at wS;have:x=c:=by simpa using wS
       simp[this]
    have cA:=kz c w2;cases jQ:Lz.aW c with
    | false=>
      rw[jQ]at cA DG;have HF:=Ih (HN.out (by rw[DG];rfl));have CA:=Ih cA;clear KL DG ha he hc wS cA jQ
      go_wp2_with fail
      refine CA.out.mono ?_;rintro e w3 ⟨rfl,rfl⟩
      go_wp2_with fail
      go_ret3
      rw[HF.out];exact⟨_,_,rfl,Ih rfl,Ih rfl,ga⟩
    | true=>
      rw[jQ]at cA DG;have CA:=Ih cA;by_cases nP:0<=i
      ·have HF:=Ih (HN.out (by
        have h1:=hi.out;rw[decide_eq_true nP]at h1;rw[DG,Bool.true_and];cases h2:a.data.toList.all Lz.be with
        | false=>rfl
        | true=>rw[h2]at h1;cases h1))
       clear KL DG ha he hc wS cA jQ
       go_wp2_with fail
       refine CA.out.mono ?_;rintro e w3 ⟨rfl,rfl⟩
       go_wp2_with fail
       go_ret3
       rw[HF.out];exact⟨_,_,rfl,Ih rfl,Ih rfl,ga⟩
      ·have HF:Hid (Lz.bp s.data.toList=(Lz.low a.data.toList,r.data.toList,true)):=by
        show _=_;have h1:=hi.out;rw[decide_eq_false nP]at h1
        have h2:yg s.data.toList=true:=by
         rw[DG,Bool.true_and];cases h2:a.data.toList.all Lz.be with
         | false=>rw[h2]at h1;cases h1
         | true=>rfl
        rw[HS.out,if_pos h2,ha.out,hr.out]
       have cL:=Ih (fun W=>j4 a (by omega) W);clear KL DG ha he hc wS cA jQ
       go_wp2_with fail
       refine CA.out.mono ?_;rintro e w3 ⟨rfl,rfl⟩
       go_wp2_with fail
       refine(cL.out _).mono ?_;rintro e w3 ⟨l,rfl,hl,cq⟩
       go_wp2_with fail
       go_ret3
       rw[HF.out];exact⟨_,_,rfl,hl,Ih rfl,ac ga cq⟩
end Go.Proofs.YtlcbhacofagedaaGreatDoor
