/-
  Package urls: Parse, without a base.
-/
import Derived.Test.YtlcbhacofagedaaGreatDoorY24
import Derived.Test.YtlcbhacofagedaaGreatDoorY25
set_option maxHeartbeats 8000000
set_option maxRecDepth 100000
namespace Go.Proofs.YtlcbhacofagedaaGreatDoor
open Go.RowKit
attribute [local go_sem ↓] Go.wp_at_zero Go.wp_at_succ
abbrev bC:Array Value:= #[.string ⟨#[]⟩,.string ⟨#[]⟩,.string ⟨#[]⟩,.bool false,.string ⟨#[]⟩,.int .i64 0,.bool false,.slice none 0 0,.bool false,.bool false,.string ⟨#[]⟩,.string ⟨#[]⟩]
theorem uI (w:World):dP w (.agg bC) qq:=⟨0,⟨⟨#[]⟩,⟨#[]⟩,⟨#[]⟩,false,⟨#[]⟩,0,false,.slice none 0 0,[],false,false,⟨#[]⟩,⟨#[]⟩⟩,rfl,aX.nil _ _,Ih rfl⟩
def mG (r:Lz.UR) (w:World) (v:Value) (n:Int):Prop:=match r with
 | .ok u=>n=0/\dP w v u
 | .er k=>n=(k:Int)/\dP w v qq
def pD (r:Lz.UR) (w:World) (e:Ending) (w':World):Prop:=∃v n,e=.returned (.tuple #[v,.int .i64 n])/\Below w.heap.size w w'/\mG r w' v n
structure P8 (r4 r8:Nat) (C8:Array Value) (u:Lz.af) (W0 V:World):Prop where
 row8:V.heap[r8]? =some (.cells C8 26 (0,0))
 row4:∃C4,V.heap[r4]? =some (.cells C4 26 (0,0))/\C4.size=12
 below:Below r4 W0 V
 own:dP V (.agg C8) u
theorem P8.call {r4 r8:Nat} {C8:Array Value} {u:Lz.af} {W0 V V':World} (h:P8 r4 r8 C8 u W0 V) (hb:Below V.heap.size V V'):P8 r4 r8 C8 u W0 V':=by
 obtain⟨C4,h4,SF⟩:=h.row4;exact⟨(hb.block _ (aI h.row8)).trans h.row8,⟨C4,(hb.block _ (aI h4)).trans h4,SF⟩,h.below.trans (hb.mono (Nat.le_of_lt (aI h4))),h.own.below hb⟩
theorem P8.drew {r4 r8:Nat} {C8:Array Value} {u:Lz.af} {W0 V:World} (h:P8 r4 r8 C8 u W0 V):P8 r4 r8 C8 u W0 V.drew:=h.call (Below.refl _ _).drew
theorem P8.store {r4 r8:Nat} {C8:Array Value} {u:Lz.af} {W0 V:World} {o:Oper} {a:Act} {K:Act->World->Prop} {Q:Exit->Act->World->Prop} (h:P8 r4 r8 C8 u W0 V) (dG:r4≠r8) (SF:C8.size=12) (h1:C8.all (·.oneCell')=true) (x y:Operand) (ho:o.op=.store 26 x y) (hx:a.eval x=.pointer (some ⟨r4,0,none⟩)) (hy:a.eval y=.agg C8)
  (hK:P8 r4 r8 C8 u W0 (V.setRow r4 C8)/\(V.setRow r4 C8).heap[r4]? =some (.cells C8 26 (0,0))->K (a.put o.dst undef) (V.setRow r4 C8)):o.wp Tryz.prog a V K Q:=by
 obtain⟨C4,h4,hs⟩:=h.row4;have bN:=setRow_heap V r4 C4 C8 26 (0,0) h4;exact wp_store_row 26 x y ho r4 C8 hx hy 26 C4 h4 (by rw[SF];exact bd) (by rw[hs,SF]) h1 (hK ⟨⟨by rw[setRow_other _ _ _ _ (by omega)];exact h.row8,⟨C8,bN,SF⟩,az h.below (Nat.le_refl _),h.own.setRow h4 C8⟩,bN⟩)
theorem wF {o:Oper} {ev:Operand->Value} {w:World} (x:Operand) (ho:o.op=.load 26 x)
  (g:Nat) (hx:ev x=.pointer (some ⟨g,0,none⟩)) (cs:Array Value) (fr:Nat×Nat) (hg:w.heap[g]? =some (.cells cs 26 fr)) (hs:cs.size=12):(execOp ev o).run Tryz.prog w=.ok (.value (.agg cs)) w:=by
 unfold execOp;simp only[ho,hx,Instr.loadAt,Instr.sureAddr,Sem.run_bind,Sem.run_pure,Result.andThen_ok,run_loadVar_row w g 26 26 cs fr _ hg Tryz.underlying26 rfl (by rw[hs];exact bd)]
theorem dP.form {w:World} {v:Value} {u:Lz.af} (h:dP w v u):∃(sch usr pas:ByteArray) (hh:Bool) (hst:ByteArray) (prt:Int) (opq:Bool) (a:Option Addr) (n c:Nat) (hq hf:Bool) (qry frg:ByteArray),
  v=.agg #[.string sch,.string usr,.string pas,.bool hh,.string hst,.int .i64 prt,.bool opq,.slice a n c,.bool hq,.bool hf,.string qry,.string frg]:=by
 obtain⟨sch,usr,pas,hh,hst,prt,opq,a,c,xs,hq,hf,qry,frg,h1,_⟩:=h.val.form;exact⟨sch,usr,pas,hh,hst,prt,opq,a,xs.length,c,hq,hf,qry,frg,h1⟩
theorem fO {V:World} {r:Nat} {x0 x1 x2 x3 x4 x5 x6 x7 x8 x9 rH rC:Value} {t:TypeId} {fr:Nat×Nat} (h:V.heap[r]? =some (.cells #[x0,x1,x2,x3,x4,x5,x6,x7,x8,x9,rH,rC] t fr)):V.cell? ⟨r,0,none⟩=some (x0)/\V.cell? ⟨r,1,none⟩=some (x1)/\V.cell? ⟨r,2,none⟩=some (x2)/\V.cell? ⟨r,3,none⟩=some (x3)/\V.cell? ⟨r,4,none⟩=some (x4)/\V.cell? ⟨r,5,none⟩=some (x5)/\V.cell? ⟨r,6,none⟩=some (x6)/\V.cell? ⟨r,7,none⟩=some (x7)/\V.cell? ⟨r,8,none⟩=some (x8)/\V.cell? ⟨r,9,none⟩=some (x9)/\V.cell? ⟨r,10,none⟩=some (rH)/\V.cell? ⟨r,11,none⟩=some (rC):=
 ⟨rowAt h 0 _ rfl,rowAt h 1 _ rfl,rowAt h 2 _ rfl,rowAt h 3 _ rfl,rowAt h 4 _ rfl,rowAt h 5 _ rfl,rowAt h 6 _ rfl,rowAt h 7 _ rfl,rowAt h 8 _ rfl,rowAt h 9 _ rfl,rowAt h 10 _ rfl,rowAt h 11 _ rfl⟩
theorem oC {s:List UInt8} (h:s.length<=4000):Lz.du s none=Lz.lT s none:=by
 unfold Lz.du;rw[if_neg (by omega)]
theorem uC (s:ByteArray) (w:World) (hE:jL w):Calls Tryz.prog 21 #[.string s,.pointer none] w (pD (Lz.du s.data.toList none) w):=by
 obtain⟨W,hW⟩:∃W,W=w.alloc (.cells bC 26):=⟨_,rfl⟩;have bg:Below w.heap.size w W:=by rw[hW];exact(Below.refl _ w).alloc (Nat.le_refl _) _
 have hR:W.heap[w.heap.size]? =some (.cells bC 26 (0,0)):=by rw[hW];exact aK _ _
 have lY:=hE.below bg;have aN:=aI hR;obtain⟨goal,hg⟩:∃goal,goal=Lz.du s.data.toList none:=⟨_,rfl⟩;rw[<-hg];have HG:=Ih hg;have HW:=Ih hW;have HR:=Ih hR;clear hg hW hR hE;by_cases bv:4000<s.size
 ·have Oe:(4000:Int)<(s.size:Int):=by omega
  have kQ:Hid (goal=.er 3):=by
   show _=_;rw[HG.out];unfold Lz.du;rw[if_pos (by rw[aa];exact bv)]
  clear bv;go_enter Tryz.func21,Tryz.ntmps21
  go_wp2_with (first |rw[<-HW.out]|(refine wpList_store_row rfl 26 (.tmp 4) (.tmp 13) rfl w.heap.size bC rfl rfl 26 _ HR.out bd rfl (by simp[Value.oneCell']) ?_))
  refine bodyPost_ret (bH (P:=Tryz.prog) (u:=5) rfl _ _ w.heap.size 26 _ (0,0) _ rfl (setRow_heap _ _ _ _ _ _ HR.out) Tryz.underlying26 rfl bd) rfl ?_;refine⟨_,_,rfl,az bg (Nat.le_refl _),?_⟩;rw[kQ.out];exact⟨rfl,uI _⟩
 ·have Oe:¬(4000:Int)<(s.size:Int):=by omega
  have dV:s.size<=4000:=by omega
  have F1:s.data.toList.length<=4000:=by rw[aa];exact dV
  clear bv;go_enter Tryz.func21,Tryz.ntmps21
  go_upto_region 3 with(rw[<-HW.out])
  have cR:=Ih (IW s (by omega) W lY);rw[<-oC F1,<-HG.out]at cR;have aa1:Hid (∀n,goal=.er n->n=70\/n=71\/n=72\/n=81\/n=82):=Ih (fun n hn=>Lz.rz ((oC F1).symm.trans (HG.out.symm.trans hn)));clear HG
  go_wp2_with fail
  refine cR.out.mono ?_;rintro e w2 ⟨v1,v2,rfl,ga,bt⟩;clear cR
  obtain⟨u,n,hn,Oh⟩:∃(u:Lz.af) (n:Int),(mG goal w2 v1 n/\(∀V,Calls Tryz.prog 54 #[v2] V (wj n V))/\((∃u',goal=.ok u'/\u=u'/\n=0)\/∃k,goal=.er k/\u=qq/\n=(k:Int)))/\dP w2 v1 u:=by
   cases goal with
   | ok u'=>
     obtain⟨rfl,h1⟩:=bt;exact⟨u',0,⟨⟨rfl,h1⟩,Qm,Or.inl ⟨u',rfl,rfl,rfl⟩⟩,h1⟩
   | er k=>
     obtain⟨h0,h1⟩:=bt;exact⟨qq,k,⟨⟨rfl,h1⟩,Nk k (aa1.out k rfl) v2 h0,Or.inr ⟨k,rfl,rfl,rfl⟩⟩,h1⟩
  obtain⟨_,Tp,Lk⟩:=hn;obtain⟨aS,bW,bF,bG,bn,bA,bL,a1,n1,c1,bB,bK,bX,bY,rfl⟩:=Oh.form
  have hP:P8 w.heap.size w2.heap.size #[.string aS,.string bW,.string bF,.bool bG,.string bn,.int .i64 bA,.bool bL,.slice a1 n1 c1,.bool bB,.bool bK,.string bX,.string bY] u w (w2.alloc (.cells #[.string aS,.string bW,.string bF,.bool bG,.string bn,.int .i64 bA,.bool bL,.slice a1 n1 c1,.bool bB,.bool bK,.string bX,.string bY] 26)):=by
   have AD:w2.heap[w.heap.size]? =some (.cells bC 26 (0,0)):=(ga.block _ aN).trans HR.out;have Ls:Below w2.heap.size w2 (w2.alloc (.cells #[.string aS,.string bW,.string bF,.bool bG,.string bn,.int .i64 bA,.bool bL,.slice a1 n1 c1,.bool bB,.bool bK,.string bX,.string bY] 26)):=(Below.refl _ _).alloc (Nat.le_refl _) _;have bi:Below w.heap.size w w2:=bg.trans (ga.mono bg.size);exact⟨aK _ _,⟨_,(Ls.block _ (aI AD)).trans AD,rfl⟩,bi.trans (Ls.mono bi.size),Oh.below Ls⟩
  have dG:w.heap.size≠w2.heap.size:=by have:=ga.size;omega
  have TE:=Ih Tp;have Xf:=Ih Lk;clear Tp Lk Oh bt
  go_upto_region 8 with fail
  generalize w2.alloc (.cells #[.string aS,.string bW,.string bF,.bool bG,.string bn,.int .i64 bA,.bool bL,.slice a1 n1 c1,.bool bB,.bool bK,.string bX,.string bY] 26)=V at hP⊢;generalize hr8:w2.heap.size=r8 at hP dG⊢;have RJ:=hP.drew;have cC:Hid (∀V,P8 w.heap.size r8 #[.string aS,.string bW,.string bF,.bool bG,.string bn,.int .i64 bA,.bool bL,.slice a1 n1 c1,.bool bB,.bool bK,.string bX,.string bY] u w V->Calls Tryz.prog 54 #[v2] V fun e w'=>e=.returned (.int .i64 n)/\P8 w.heap.size r8 #[.string aS,.string bW,.string bF,.bool bG,.string bn,.int .i64 bA,.bool bL,.slice a1 n1 c1,.bool bB,.bool bK,.string bX,.string bY] u w w'):=Ih (fun V hV=>(TE.out V).mono fun e w' ⟨h1,h2⟩=>⟨h1,hV.call h2⟩);have HP:=Ih hP;have KZ:(#[.string aS,.string bW,.string bF,.bool bG,.string bn,.int .i64 bA,.bool bL,.slice a1 n1 c1,.bool bB,.bool bK,.string bX,.string bY]:Array Value).all (·.oneCell')=true:=by simp[Value.oneCell']
  clear hr8 TE hP;refine wp_region_held_drew (S:=P8 w.heap.size r8 #[.string aS,.string bW,.string bF,.bool bG,.string bn,.int .i64 bA,.bool bL,.slice a1 n1 c1,.bool bB,.bool bK,.string bX,.string bY] u w) (by kernel_rfl) RJ (fun ar=>?_);refine wpAnyH_take (i:=0) (oi:=({dst:=some 41,op:=Op.load 26 (Operand.tmp 8),type:=26,pos:= "urls.go:378",after:= #[],guard:=none}:Oper)) (v:=.agg #[.string aS,.string bW,.string bF,.bool bG,.string bn,.int .i64 bA,.bool bL,.slice a1 n1 c1,.bool bB,.bool bK,.string bX,.string bY]) rfl (by kernel_rfl) (by kernel_rfl) (by kernel_rfl) (fun _ _ _ h=>h) (Or.inl ⟨by rfl,?_⟩) (by assumption) ?_
  ·exact fun W hW=>wF (.tmp 8) rfl r8 rfl _ (0,0) (P8.row8 hW) rfl
  (try simp only[Act.put,List.setIfInBounds_toArray,List.set_cons_zero,List.set_cons_succ])
  refine wpAnyH_take (i:=1) (oi:=({dst:=some 42,op:=Op.move (Operand.tmp 9),type:=59,pos:= "urls.go:378",after:= #[],guard:=none}:Oper)) (v:=v2) rfl (by kernel_rfl) (by kernel_rfl) (by kernel_rfl) (fun _ _ _ h=>h) (Or.inl ⟨by rfl,?_⟩) (by assumption) ?_
  ·intro W yC;go_simp
   try with_reducible rfl
  (try simp only[Act.put,List.setIfInBounds_toArray,List.set_cons_zero,List.set_cons_succ])
  refine wpAnyH_ready (rs:=[2]) (by kernel_rfl) (by simp) ?_;refine AllReadyH.cons rfl (fun K hK=>?_) AllReadyH.nil;go_simp
  go_at_call 54
  refine(cC.out _ (by assumption)).mono ?_;rintro e w4 ⟨rfl,Sa⟩;refine hK.out _ _ Sa (fun ar=>?_);clear hK K
  (try simp only[Act.put,List.setIfInBounds_toArray,List.set_cons_zero,List.set_cons_succ])
  refine wpAnyH_ready (rs:=[3]) (by kernel_rfl) (by simp) ?_;refine AllReadyH.cons rfl (fun K hK=>?_) AllReadyH.nil;rw[if_pos (by rfl)];refine P8.store (r4:=w.heap.size) (r8:=r8) (C8:= #[.string aS,.string bW,.string bF,.bool bG,.string bn,.int .i64 bA,.bool bL,.slice a1 n1 c1,.bool bB,.bool bK,.string bX,.string bY]) (u:=u) (W0:=w) ?h0 dG rfl KZ (.tmp 4) (.tmp 41) rfl rfl rfl ?h1
  case h0=>assumption
  rintro⟨hP9,hr9⟩;refine hK.out _ _ hP9 (fun ar=>?_);clear hK K
  (try simp only[Act.put,List.setIfInBounds_toArray])
  refine wpAnyH_take (i:=4) (oi:=({dst:=some 5,op:=Op.assign (Operand.tmp 43),type:=27,pos:= "urls.go:378",after:= #[{on:=2,ground:=Ground.data},{on:=3,ground:=Ground.chain},{on:=0,ground:=Ground.phase},{on:=1,ground:=Ground.phase},{on:=2,ground:=Ground.phase},{on:=3,ground:=Ground.phase}],guard:=none}:Oper)) (v:=.int .i64 n) rfl (by kernel_rfl) (by kernel_rfl) (by kernel_rfl) (fun _ _ _ h=>h) (Or.inl ⟨by rfl,?_⟩) (by assumption) ?_
  ·intro W yC;go_simp
   try with_reducible rfl
  (try simp only[Act.put])
  refine wpAnyH_done (by kernel_rfl) ?_ _
  go_wp2_with fail
  refine bodyPost_ret (bH (P:=Tryz.prog) (u:=5) rfl _ _ w.heap.size 26 _ (0,0) _ rfl hr9 Tryz.underlying26 rfl bd) rfl ?_;refine⟨_,_,rfl,hP9.below,?_⟩;rcases Xf.out with⟨u',h1,rfl,rfl⟩|⟨k,h1,rfl,rfl⟩
  ·rw[h1];exact⟨rfl,hP9.own⟩
  ·rw[h1];exact⟨rfl,hP9.own⟩
end Go.Proofs.YtlcbhacofagedaaGreatDoor
