/-
  Package match: every, One.
-/
import Derived.Test.YtibcmemcfjhgmaaGreatDoorV31
import Derived.Test.YtibcmemcfjhgmaaGreatDoorV32
namespace Go.Proofs.YtibcmemcfjhgmaaGreatDoor
open Go.RowKit
attribute [local go_sem ↓] Go.wp_at_zero Go.wp_at_succ
abbrev Oa:Array Value:= #[.string ⟨#[]⟩,.string ⟨#[]⟩,.string ⟨#[]⟩,.bool false,.string ⟨#[]⟩,.int .i64 0,.bool false,.slice none 0 0,.bool false,.bool false,.string ⟨#[]⟩,.string ⟨#[]⟩]
structure P8 (r4 r8:Nat) (C8:Array Value) (u:Lz.au) (W0 V:World):Prop where
 row8:V.heap[r8]? =some (.cells C8 38 (0,0))
 row4:∃C4,V.heap[r4]? =some (.cells C4 38 (0,0))/\C4.size=12
 below:Below r4 W0 V
 own:gH V (.agg C8) u
theorem P8.call {r4 r8:Nat} {C8:Array Value} {u:Lz.au} {W0 V V':World} (h:P8 r4 r8 C8 u W0 V) (hb:Below V.heap.size V V'):P8 r4 r8 C8 u W0 V':=by
 obtain⟨C4,h4,h12⟩:=h.row4;exact⟨(hb.block _ (aZ h.row8)).trans h.row8,⟨C4,(hb.block _ (aZ h4)).trans h4,h12⟩,h.below.trans (hb.mono (Nat.le_of_lt (aZ h4))),h.own.below hb⟩
theorem P8.drew {r4 r8:Nat} {C8:Array Value} {u:Lz.au} {W0 V:World} (h:P8 r4 r8 C8 u W0 V):P8 r4 r8 C8 u W0 V.drew:=h.call (Below.refl _ _).drew
theorem P8.store {r4 r8:Nat} {C8:Array Value} {u:Lz.au} {W0 V:World} {o:Oper} {a:Act} {K:Act->World->Prop} {Q:Exit->Act->World->Prop} (h:P8 r4 r8 C8 u W0 V) (du:r4≠r8) (h12:C8.size=12) (h1:C8.all (·.oneCell')=true) (x y:Operand) (ho:o.op=.store 38 x y) (hx:a.eval x=.pointer (some ⟨r4,0,none⟩)) (hy:a.eval y=.agg C8)
  (hK:P8 r4 r8 C8 u W0 (V.setRow r4 C8)/\(V.setRow r4 C8).heap[r4]? =some (.cells C8 38 (0,0))->K (a.put o.dst undef) (V.setRow r4 C8)):o.wp Tryz.prog a V K Q:=by
 obtain⟨C4,h4,hs⟩:=h.row4;have bz:=setRow_heap V r4 C4 C8 38 (0,0) h4;exact wp_store_row 38 x y ho r4 C8 hx hy 38 C4 h4 (by rw[h12];exact qg) (by rw[hs,h12]) h1 (hK ⟨⟨by rw[setRow_other _ _ _ _ (by omega)];exact h.row8,⟨C8,bz,h12⟩,aR h.below (Nat.le_refl _),h.own.setRow h4 C8⟩,bz⟩)
theorem wV {o:Oper} {ev:Operand->Value} {w:World} (x:Operand) (ho:o.op=.load 38 x)
  (g:Nat) (hx:ev x=.pointer (some ⟨g,0,none⟩)) (cs:Array Value) (fr:Nat×Nat) (hg:w.heap[g]? =some (.cells cs 38 fr)) (hs:cs.size=12):(execOp ev o).run Tryz.prog w=.ok (.value (.agg cs)) w:=by
 unfold execOp;simp only[ho,hx,Instr.loadAt,Instr.sureAddr,Sem.run_bind,Sem.run_pure,Result.andThen_ok,run_loadVar_row w g 38 38 cs fr _ hg Tryz.underlying38 rfl (by rw[hs];exact qg)]
theorem gH.form {w:World} {v:Value} {u:Lz.au} (h:gH w v u):∃(sch usr pas:ByteArray) (hh:Bool) (hst:ByteArray) (prt:Int) (opq:Bool) (a:Option Addr) (n c:Nat) (hq hf:Bool) (qry frg:ByteArray),
  v=.agg #[.string sch,.string usr,.string pas,.bool hh,.string hst,.int .i64 prt,.bool opq,.slice a n c,.bool hq,.bool hf,.string qry,.string frg]:=by
 obtain⟨sch,usr,pas,hh,hst,prt,opq,a,c,xs,hq,hf,qry,frg,h1,_⟩:=h.val.form;exact⟨sch,usr,pas,hh,hst,prt,opq,a,xs.length,c,hq,hf,qry,frg,h1⟩
theorem S4 {V:World} {r:Nat} {x0 x1 x2 x3 x4 x5 x6 x7 x8 x9 XH Xy:Value} {t:TypeId} {fr:Nat×Nat} (h:V.heap[r]? =some (.cells #[x0,x1,x2,x3,x4,x5,x6,x7,x8,x9,XH,Xy] t fr)):V.cell? ⟨r,0,none⟩=some (x0)/\V.cell? ⟨r,1,none⟩=some (x1)/\V.cell? ⟨r,2,none⟩=some (x2)/\V.cell? ⟨r,3,none⟩=some (x3)/\V.cell? ⟨r,4,none⟩=some (x4)/\V.cell? ⟨r,5,none⟩=some (x5)/\V.cell? ⟨r,6,none⟩=some (x6)/\V.cell? ⟨r,7,none⟩=some (x7)/\V.cell? ⟨r,8,none⟩=some (x8)/\V.cell? ⟨r,9,none⟩=some (x9)/\V.cell? ⟨r,10,none⟩=some (XH)/\V.cell? ⟨r,11,none⟩=some (Xy):=
 ⟨rowAt h 0 _ rfl,rowAt h 1 _ rfl,rowAt h 2 _ rfl,rowAt h 3 _ rfl,rowAt h 4 _ rfl,rowAt h 5 _ rfl,rowAt h 6 _ rfl,rowAt h 7 _ rfl,rowAt h 8 _ rfl,rowAt h 9 _ rfl,rowAt h 10 _ rfl,rowAt h 11 _ rfl⟩
theorem FV {s:List UInt8} (h:s.length<=4000):Lz.pn s none=Lz.pO s none:=by
 unfold Lz.pn;rw[if_neg (by omega)]
attribute [local go_sem ↓] Go.wp_at_zero Go.wp_at_succ
theorem j4.letters {w:World} {v:Value} {u:Lz.au} (h:j4 w v u):∃(jK px kd:ByteArray) (oK:Bool) (iz:ByteArray) (oJ:Int) (oL:Bool) (a1:Option Addr) (n1 c1:Nat) (gF jC:Bool) (pC py:ByteArray),
  v=.agg #[.string jK,.string px,.string kd,.bool oK,.string iz,.int .i64 oJ,.bool oL,.slice a1 n1 c1,.bool gF,.bool jC,.string pC,.string py]/\u.scheme=jK.data.toList/\u.hasHost=oK/\u.host=iz.data.toList/\u.port=oJ/\u.opq=oL/\j4 w (.agg #[.string jK,.string px,.string kd,.bool oK,.string iz,.int .i64 oJ,.bool oL,.slice a1 n1 c1,.bool gF,.bool jC,.string pC,.string py]) u:=by
 obtain⟨jK,px,kd,oK,iz,oJ,oL,a1,c1,xs,gF,jC,pC,py,rfl,e,hx⟩:=h.form;exact⟨jK,px,kd,oK,iz,oJ,oL,a1,xs.length,c1,gF,jC,pC,py,rfl,by rw[e],by rw[e],by rw[e],by rw[e],by rw[e],h⟩
attribute [local go_sem ↓] Go.wp_at_zero Go.wp_at_succ
theorem xU {V:World} {r:Nat} {x0 x1 x2 x3 x4 x5 x6 x7:Value} {t:TypeId} {fr:Nat×Nat} (h:V.heap[r]? =some (.cells #[x0,x1,x2,x3,x4,x5,x6,x7] t fr)):V.cell? ⟨r,0,none⟩=some x0/\V.cell? ⟨r,1,none⟩=some x1/\V.cell? ⟨r,2,none⟩=some x2/\V.cell? ⟨r,3,none⟩=some x3/\V.cell? ⟨r,4,none⟩=some x4/\V.cell? ⟨r,5,none⟩=some x5/\V.cell? ⟨r,6,none⟩=some x6/\V.cell? ⟨r,7,none⟩=some x7:=
 ⟨rowAt h 0 x0 rfl,rowAt h 1 x1 rfl,rowAt h 2 x2 rfl,rowAt h 3 x3 rfl,rowAt h 4 x4 rfl,rowAt h 5 x5 rfl,rowAt h 6 x6 rfl,rowAt h 7 x7 rfl⟩
attribute [local go_sem ↓] Go.wp_at_zero Go.wp_at_succ
attribute [local go_sem ↓] Go.wp_at_zero Go.wp_at_succ
end Go.Proofs.YtibcmemcfjhgmaaGreatDoor
