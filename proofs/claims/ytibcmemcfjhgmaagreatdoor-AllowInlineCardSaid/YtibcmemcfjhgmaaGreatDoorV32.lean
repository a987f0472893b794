/-
  Package match: Path.
-/
import Derived.Test.YtibcmemcfjhgmaaGreatDoorV30
namespace Go.Proofs.YtibcmemcfjhgmaaGreatDoor
open Go.RowKit
def mS (w:World):Prop:=
 ∃bm es clock,w.cell? ⟨5,0,none⟩=some (.map (some bm))/\bm<w.heap.size/\w.heap[bm]? =some (.map es clock)/\
  ∀(p:ByteArray) (W:World),p.size<=1000000000->W.heap[bm]? =some (.map es clock)->∃v,(Instr.lookup 240 (.map (some bm)) (.string p) false).run Tryz.prog W=.ok v W/\eY w v (Lz.lN p.data.toList)
theorem mS.below {w w':World} (h:mS w) (hb:Below w.heap.size w w') (hz:15<=w.heap.size):mS w':=by
 obtain⟨bm,es,clock,h1,h2,h3,h4⟩:=h;refine⟨bm,es,clock,?_,Nat.lt_of_lt_of_le h2 hb.size,by rw[hb.block _ h2];exact h3,fun p W hp hW=>?_⟩
 ·rw[hb.cell (p:=⟨5,0,none⟩) (Nat.lt_of_lt_of_le (by decide) hz)];exact h1
 ·obtain⟨v,hr,hv⟩:=h4 p W hp hW;exact⟨v,hr,hv.below hb⟩
structure M5 (w:World):Prop where
 s:Env w
 u:wg w
 mp:mS w
theorem M5.below {w w':World} (h:M5 w) (hb:Below w.heap.size w w'):M5 w':=⟨h.s.below hb,h.u.below hb,h.mp.below hb h.s.size⟩
attribute [local go_sem ↓] Go.wp_at_zero Go.wp_at_succ
attribute [local go_sem ↓] Go.wp_at_zero Go.wp_at_succ
end Go.Proofs.YtibcmemcfjhgmaaGreatDoor
