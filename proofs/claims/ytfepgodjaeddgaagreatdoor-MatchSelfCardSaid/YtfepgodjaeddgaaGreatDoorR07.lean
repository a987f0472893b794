/-
  What the package-level variables hold that the rows of law07 lay (no keywords among them), and Split, Itoa there.
-/
import Derived.Test.YtfepgodjaeddgaaGreatDoorR05
import Derived.Deep.DeepCutAuto
import Derived.Stop.Asserts
import Derived.RowKitTokens
namespace Go.Proofs.YtfepgodjaeddgaaGreatDoor
open Go.RowKit
structure EnvH (w:World):Prop where
 ml:∃m,w.cell? ⟨2,0,none⟩=some (.int .i64 m)
 pow:Lib.TabIs Tryz.prog w "internal/strconv.uint64pow10" .u64 Lib.pow10Tab
 syn:∃te pe,w.cell? ⟨9,0,none⟩=some (.iface te pe)
 rng:∃te pe,w.cell? ⟨10,0,none⟩=some (.iface te pe)
 et:w.cell? ⟨1,0,none⟩=some (.iface 164 (.agg #[.pointer (some ⟨11,50,none⟩)]))
 db8:w.cell? ⟨8,7,none⟩=some (.int .u8 3)
 db16:w.cell? ⟨8,15,none⟩=some (.int .u8 4)
 size:11<=w.heap.size
theorem EnvH.below {w w':World} (h:EnvH w) (hb:Below w.heap.size w w'):EnvH w':=by
 have hz:=h.size;have hc:∀b o,b<11->w'.cell? ⟨b,o,none⟩=w.cell? ⟨b,o,none⟩:=fun b o hlt=>hb.cell (p:=⟨b,o,none⟩) (by show b<_;omega);obtain⟨h1,h2,h3,h4,h5,h6,h7,h8⟩:=h;refine⟨?_,?_,?_,?_,?_,?_,?_,Nat.le_trans hz hb.size⟩
 ·obtain⟨m,hm⟩:=h1;exact⟨m,by rw[hc _ _ (by decide)];exact hm⟩
 ·exact var?_below hb gPow (by show 6<_;omega) h2
 ·obtain⟨a,b,hm⟩:=h3;exact⟨a,b,by rw[hc _ _ (by decide)];exact hm⟩
 ·obtain⟨a,b,hm⟩:=h4;exact⟨a,b,by rw[hc _ _ (by decide)];exact hm⟩
 ·rw[hc _ _ (by decide)];exact h5
 ·rw[hc _ _ (by decide)];exact h6
 ·rw[hc _ _ (by decide)];exact h7
theorem Split_h (s:ByteArray) (c:UInt8) (hs:s.size<=1073741824) (w:World) (hE:EnvH w):Calls Tryz.prog 22 #[.string s,.string ⟨#[c]⟩] w (RSplit (Lz.splitC c s.data.toList) w):=by
 obtain⟨m,hm⟩:=hE.ml
 have hl:(Lib.splitB ⟨#[c]⟩ 0 (Lib.countB s ⟨#[c]⟩) s).map (·.data.toList)=Lz.splitC c s.data.toList:=by
  rw[Lib.splitB_data];exact Lz.split_eq c s.data.toList
 have hn:(Lib.splitB ⟨#[c]⟩ 0 (Lib.countB s ⟨#[c]⟩) s).length=Lib.countB s ⟨#[c]⟩+1:=by
  have h:=(Lz.split_both c s.data.toList).2;rw[<-hl,List.length_map]at h;exact h
 refine(Tryz.strings_Split s ⟨#[c]⟩ m w (by omega) hm (Nat.le_refl 1)).mono fun e w' ⟨he,hw⟩=>⟨_,?_,hl,hw⟩;rw[hn];exact he
theorem Itoa_h (n:Int) (h0: -9223372036854775808<=n) (h1:n<=9223372036854775807) (w:World) (hE:EnvH w):Calls Tryz.prog 106 #[.int .i64 n] w (RStr (Lib.itoa n) w):=
 (Tryz.strconv_Itoa n h0 h1 w hE.pow).mono fun _ _ ⟨he,k,os,hw⟩=>⟨_,he,rfl,by rw[hw];exact below_call (below_drewN (Below.refl _ _) k) (grow_below _ _)⟩
end Go.Proofs.YtfepgodjaeddgaaGreatDoor
