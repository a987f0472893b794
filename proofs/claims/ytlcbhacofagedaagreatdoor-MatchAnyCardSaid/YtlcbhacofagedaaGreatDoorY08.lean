/-
  What the package-level variables hold that the rows of law07 lay (no keywords among them), and Split, Itoa there.
-/
import Derived.Test.YtlcbhacofagedaaGreatDoorY06
import Derived.Deep.DeepCutAuto
import Derived.Stop.Asserts
import Derived.RowKitTokens
namespace Go.Proofs.YtlcbhacofagedaaGreatDoor
open Go.RowKit
structure de (w:World):Prop where
 ml:∃m,w.cell? ⟨3,0,none⟩=some (.int .i64 m)
 pow:Lib.TabIs Tryz.prog w "internal/strconv.uint64pow10" .u64 Lib.pow10Tab
 syn:∃te pe,w.cell? ⟨9,0,none⟩=some (.iface te pe)
 rng:∃te pe,w.cell? ⟨10,0,none⟩=some (.iface te pe)
 et:w.cell? ⟨1,0,none⟩=some (.iface 149 (.agg #[.pointer (some ⟨11,59,none⟩)]))
 db8:w.cell? ⟨8,7,none⟩=some (.int .u8 3)
 db16:w.cell? ⟨8,15,none⟩=some (.int .u8 4)
 size:11<=w.heap.size
theorem de.below {w w':World} (h:de w) (hb:Below w.heap.size w w'):de w':=by
 have hz:=h.size;have hc:∀b o,b<11->w'.cell? ⟨b,o,none⟩=w.cell? ⟨b,o,none⟩:=fun b o aN=>hb.cell (p:=⟨b,o,none⟩) (by show b<_;omega);obtain⟨h1,h2,h3,h4,h5,h6,h7,h8⟩:=h;refine⟨?_,?_,?_,?_,?_,?_,?_,Nat.le_trans hz hb.size⟩
 ·obtain⟨m,hm⟩:=h1;exact⟨m,by rw[hc _ _ (by decide)];exact hm⟩
 ·exact var?_below hb Qd (by show 4<_;omega) h2
 ·obtain⟨a,b,hm⟩:=h3;exact⟨a,b,by rw[hc _ _ (by decide)];exact hm⟩
 ·obtain⟨a,b,hm⟩:=h4;exact⟨a,b,by rw[hc _ _ (by decide)];exact hm⟩
 ·rw[hc _ _ (by decide)];exact h5
 ·rw[hc _ _ (by decide)];exact h6
 ·rw[hc _ _ (by decide)];exact h7
theorem pn (s:ByteArray) (c:UInt8) (hs:s.size<=1073741824) (w:World) (hE:de w):Calls Tryz.prog 108 #[.string s,.string ⟨#[c]⟩] w (LS (Lz.ag c s.data.toList) w):=by
 obtain⟨m,hm⟩:=hE.ml
 have hl:(Lib.splitB ⟨#[c]⟩ 0 (Lib.countB s ⟨#[c]⟩) s).map (·.data.toList)=Lz.ag c s.data.toList:=by
  rw[Lib.splitB_data];exact Lz.jF c s.data.toList
 have hn:(Lib.splitB ⟨#[c]⟩ 0 (Lib.countB s ⟨#[c]⟩) s).length=Lib.countB s ⟨#[c]⟩+1:=by
  have h:=(Lz.ld c s.data.toList).2;rw[<-hl,List.length_map]at h;exact h
 refine(Tryz.strings_Split s ⟨#[c]⟩ m w (by omega) hm (Nat.le_refl 1)).mono fun e w' ⟨he,hw⟩=>⟨_,?_,hl,hw⟩;rw[hn];exact he
theorem lp (n:Int) (h0: -9223372036854775808<=n) (h1:n<=9223372036854775807) (w:World) (hE:de w):Calls Tryz.prog 62 #[.int .i64 n] w (gl (Lib.itoa n) w):=
 (Tryz.strconv_Itoa n h0 h1 w hE.pow).mono fun _ _ ⟨he,k,os,hw⟩=>⟨_,he,rfl,by rw[hw];exact ac (below_drewN (Below.refl _ _) k) (uv _ _)⟩
end Go.Proofs.YtlcbhacofagedaaGreatDoor
