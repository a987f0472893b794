/-
  The walk of the law SourcesParse.
-/
import Derived.Test.YtkaejkjheajaaaaGreatDoorBack
import Derived.Test.YtkaejkjheajaaaaGreatDoorRefE
import Derived.Test.YtkaejkjheajaaaaGreatDoorRefT
import Derived.Deep.RegionHeld3
import Derived.Deep.DrawnRows
namespace Go.Proofs.YtkaejkjheajaaaaGreatDoor
open Go.RowKit
attribute [local go_sem ↓] Go.wp_at_zero Go.wp_at_succ

theorem val_of_src {x : SrcB} {y : Lz.Src} (h : x.src = y) : x.val = .agg #[.int .i64 y.kind, .string ⟨y.text.toArray⟩, .int .i64 y.bits, .string ⟨y.scheme.toArray⟩, .string ⟨y.host.toArray⟩, .bool y.wild, .int .i64 y.port, .string ⟨y.path.toArray⟩] := by
  subst h; rfl
theorem Parse_is (s : ByteArray) (hs : s.size ≤ 1048576) (y : Lz.Src) (hy : parseR s.data.toList = y) (n : Int) (hn : parseE s.data.toList = n) (w : World) (hE : Env w) :
    Calls Tryz.prog 15 #[.string s] w fun e w' => e = .returned (.tuple #[.agg #[.int .i64 y.kind, .string ⟨y.text.toArray⟩, .int .i64 y.bits, .string ⟨y.scheme.toArray⟩, .string ⟨y.host.toArray⟩, .bool y.wild, .int .i64 y.port, .string ⟨y.path.toArray⟩], .int .i64 n]) ∧ Below w.heap.size w w' := by
  refine (Parse_any s hs w hE).mono ?_
  rintro e w' ⟨x, he, hx, hb⟩
  exact ⟨by rw [he, val_of_src hx.out, hy, hn], hb⟩
theorem Parse25_is (s : ByteArray) (hs : s.size ≤ 1048576) (y : Lz.Src) (hy : parseR s.data.toList = y) (n : Int) (hn : parseE s.data.toList = n) (w : World) (hE : Env w) :
    Calls Tryz.prog 17 #[.string s] w fun e w' => e = .returned (.tuple #[.agg #[.int .i64 y.kind, .string ⟨y.text.toArray⟩, .int .i64 y.bits, .string ⟨y.scheme.toArray⟩, .string ⟨y.host.toArray⟩, .bool y.wild, .int .i64 y.port, .string ⟨y.path.toArray⟩], .int .i64 n]) ∧ Below w.heap.size w w' := by
  refine (Parse25_any s hs w hE).mono ?_
  rintro e w' ⟨x, he, hx, hb⟩
  exact ⟨by rw [he, val_of_src hx.out, hy, hn], hb⟩
theorem Text25_is (y : Lz.Src) (N : Nat) (hN : N ≤ 1048576) (hf : SrcFits y N) (w : World) (hE : Env w) :
    Calls Tryz.prog 19 #[.agg #[.int .i64 y.kind, .string ⟨y.text.toArray⟩, .int .i64 y.bits, .string ⟨y.scheme.toArray⟩, .string ⟨y.host.toArray⟩, .bool y.wild, .int .i64 y.port, .string ⟨y.path.toArray⟩]] w
      fun e w' => e = .returned (.string ⟨(Lz.textT y).toArray⟩) ∧ Below w.heap.size w w' := by
  obtain ⟨h1, h2, h3, h4, h5, h6, h7, h8⟩ := hf
  refine (Text25_any (Lz.Src.toB y) (Nat.le_trans h1 hN) (Nat.le_trans h2 hN) (Nat.le_trans h3 hN) (Nat.le_trans h4 hN) (by show _ ≤ y.port; omega) (by show y.port ≤ _; omega) (by show _ ≤ y.bits; omega) (by show y.bits ≤ _; omega) w hE).mono ?_
  rintro e w' ⟨u, he, hu, hb⟩
  refine ⟨?_, hb⟩
  have : u = ⟨(Lz.textT y).toArray⟩ := ba_of_list hu.out
  rw [he, this]
/-- What was parsed fits, and so does what is told where nothing was. -/
theorem fits_any (l : List UInt8) (N : Nat) (h : l.length ≤ N) : SrcFits (parseR l) N := by
  cases hp : Lz.parseS l with
  | none =>
    have : parseR l = ⟨0, [], 0, [], [], false, 0, []⟩ := by simp [parseR, hp]
    rw [this]
    exact ⟨Nat.zero_le _, Nat.zero_le _, Nat.zero_le _, Nat.zero_le _, by decide, by decide, by decide, by decide⟩
  | some y =>
    have : parseR l = y := by simp [parseR, hp]
    rw [this]
    obtain ⟨h1, h2, h3, h4, h5, h6, h7, h8⟩ := (Lz.fits l y N hp h).1
    exact ⟨h1, h2, h3, h4, h5, h6, h7, h8⟩

/-- Two rows that hold the same source. -/
structure Twin (w : World) (a b : Nat) (y : Lz.Src) (W : World) : Prop where
  one : W.heap[a]? = some (.cells #[.int .i64 y.kind, .string ⟨y.text.toArray⟩, .int .i64 y.bits, .string ⟨y.scheme.toArray⟩, .string ⟨y.host.toArray⟩, .bool y.wild, .int .i64 y.port, .string ⟨y.path.toArray⟩] 28 (0, 0))
  two : W.heap[b]? = some (.cells #[.int .i64 y.kind, .string ⟨y.text.toArray⟩, .int .i64 y.bits, .string ⟨y.scheme.toArray⟩, .string ⟨y.host.toArray⟩, .bool y.wild, .int .i64 y.port, .string ⟨y.path.toArray⟩] 28 (0, 0))
  below : Below w.heap.size w W
theorem Twin.call {w W W' : World} {a b : Nat} {y : Lz.Src} (h : Twin w a b y W) (hb : Below W.heap.size W W') : Twin w a b y W' := ⟨by rw [hb.block _ (Array.getElem?_eq_some_iff.1 h.one).1]; exact h.one, by rw [hb.block _ (Array.getElem?_eq_some_iff.1 h.two).1]; exact h.two, below_call h.below hb⟩
theorem Twin.drew {w W : World} {a b : Nat} {y : Lz.Src} (h : Twin w a b y W) : Twin w a b y W.drew := ⟨h.one, h.two, h.below.drew⟩
theorem Twin.cells {w W : World} {a b : Nat} {y : Lz.Src} (h : Twin w a b y W) :
    (W.cell? ⟨a, 0, none⟩ = some (.int .i64 y.kind) ∧ W.cell? ⟨a, 1, none⟩ = some (.string ⟨y.text.toArray⟩) ∧ W.cell? ⟨a, 2, none⟩ = some (.int .i64 y.bits) ∧ W.cell? ⟨a, 3, none⟩ = some (.string ⟨y.scheme.toArray⟩) ∧ W.cell? ⟨a, 4, none⟩ = some (.string ⟨y.host.toArray⟩) ∧ W.cell? ⟨a, 5, none⟩ = some (.bool y.wild) ∧ W.cell? ⟨a, 6, none⟩ = some (.int .i64 y.port) ∧ W.cell? ⟨a, 7, none⟩ = some (.string ⟨y.path.toArray⟩)) ∧
    W.cell? ⟨b, 0, none⟩ = some (.int .i64 y.kind) ∧ W.cell? ⟨b, 1, none⟩ = some (.string ⟨y.text.toArray⟩) ∧ W.cell? ⟨b, 2, none⟩ = some (.int .i64 y.bits) ∧ W.cell? ⟨b, 3, none⟩ = some (.string ⟨y.scheme.toArray⟩) ∧ W.cell? ⟨b, 4, none⟩ = some (.string ⟨y.host.toArray⟩) ∧ W.cell? ⟨b, 5, none⟩ = some (.bool y.wild) ∧ W.cell? ⟨b, 6, none⟩ = some (.int .i64 y.port) ∧ W.cell? ⟨b, 7, none⟩ = some (.string ⟨y.path.toArray⟩) := by
  refine ⟨⟨?_, ?_, ?_, ?_, ?_, ?_, ?_, ?_⟩, ?_, ?_, ?_, ?_, ?_, ?_, ?_, ?_⟩
  all_goals first | (rw [cell_of_row _ _ _ _ _ _ h.one]; rfl) | (rw [cell_of_row _ _ _ _ _ _ h.two]; rfl)

set_option maxHeartbeats 4000000 in
set_option maxRecDepth 100000 in
theorem sourcesParse_any (s : ByteArray) (w : World) (hE : Env w) : Calls Tryz.prog 5 #[.string s] w (RBool true w) := by
  by_cases hlen : (300 : Int) < s.size
  · go_enter Tryz.func5, Tryz.ntmps5
    go_wp2_with fail
    refine (reads_any w hE).mono ?_
    rintro e w1 ⟨rfl, hb1⟩
    go_wp2
    go_ret
    exact ⟨rfl, hb1⟩
  · have hs : s.size ≤ 300 := by omega
    have hlen' : (s.size : Int) ≤ 300 := by omega
    clear hlen
    have hf := fits_any s.data.toList 300 (by rw [len_of_size]; exact hs)
    generalize hy : parseR s.data.toList = y at hf
    generalize hn : parseE s.data.toList = n
    have Hf := Lib.hid hf
    have Hy := Lib.hid hy
    have Hn := Lib.hid hn
    clear hf hy hn
    go_enter Tryz.func5, Tryz.ntmps5
    go_wp2_with fail
    refine (Parse_is s (by omega) y Hy.out n Hn.out w hE).mono ?_
    rintro e w1 ⟨rfl, hb1⟩
    have hx1 := hb1.alloc hb1.size (.cells #[.int .i64 y.kind, .string ⟨y.text.toArray⟩, .int .i64 y.bits, .string ⟨y.scheme.toArray⟩, .string ⟨y.host.toArray⟩, .bool y.wild, .int .i64 y.port, .string ⟨y.path.toArray⟩] 28)
    go_wp2_with fail
    refine (Parse25_is s (by omega) y Hy.out n Hn.out _ (hE.below hx1)).mono ?_
    rintro e w2 ⟨rfl, hb2⟩
    have hr2 := alloc_row_one hb2
    have hx2 := below_call hx1 hb2
    have hT : Twin w w1.heap.size w2.heap.size y (w2.alloc (.cells #[.int .i64 y.kind, .string ⟨y.text.toArray⟩, .int .i64 y.bits, .string ⟨y.scheme.toArray⟩, .string ⟨y.host.toArray⟩, .bool y.wild, .int .i64 y.port, .string ⟨y.path.toArray⟩] 28)) :=
      ⟨by rw [Below.heap_alloc _ _ _ (Array.getElem?_eq_some_iff.1 hr2).1]; exact hr2, alloc_row (Below.refl _ _), hx2.alloc hx2.size _⟩
    clear hb2 hx1 hr2 hx2 hb1
    go_wp2_with fail
    generalize (w2.alloc (.cells #[.int .i64 y.kind, .string ⟨y.text.toArray⟩, .int .i64 y.bits, .string ⟨y.scheme.toArray⟩, .string ⟨y.host.toArray⟩, .bool y.wild, .int .i64 y.port, .string ⟨y.path.toArray⟩] 28)) = w3 at hT ⊢
    generalize w1.heap.size = ra at hT ⊢
    generalize w2.heap.size = rb at hT ⊢
    obtain ⟨t, ht⟩ : ∃ t : ByteArray, t = ⟨(Lz.textT y).toArray⟩ := ⟨_, rfl⟩
    have cA : ∀ W : World, Twin w ra rb y W → Calls Tryz.prog 18 #[.agg #[.int .i64 y.kind, .string ⟨y.text.toArray⟩, .int .i64 y.bits, .string ⟨y.scheme.toArray⟩, .string ⟨y.host.toArray⟩, .bool y.wild, .int .i64 y.port, .string ⟨y.path.toArray⟩]] W
      fun e w' => e = .returned (.string t) ∧ Twin w ra rb y w' := fun W hW => (Text_is y 300 (by omega) Hf.out W (hE.below hW.below)).mono fun e w' ⟨h1, h2⟩ => ⟨by rw [ht]; exact h1, hW.call h2⟩
    have cB : ∀ W : World, Twin w ra rb y W → Calls Tryz.prog 19 #[.agg #[.int .i64 y.kind, .string ⟨y.text.toArray⟩, .int .i64 y.bits, .string ⟨y.scheme.toArray⟩, .string ⟨y.host.toArray⟩, .bool y.wild, .int .i64 y.port, .string ⟨y.path.toArray⟩]] W
      fun e w' => e = .returned (.string t) ∧ Twin w ra rb y w' := fun W hW => (Text25_is y 300 (by omega) Hf.out W (hE.below hW.below)).mono fun e w' ⟨h1, h2⟩ => ⟨by rw [ht]; exact h1, hW.call h2⟩
    have cR : ∀ W : World, Twin w ra rb y W → Calls Tryz.prog 16 #[] W
      fun e w' => e = .returned (.bool true) ∧ Twin w ra rb y w' := fun W hW => (reads_any W (hE.below hW.below)).mono fun e w' ⟨h1, h2⟩ => ⟨h1, hW.call h2⟩
    have CA := Lib.hid cA
    have CB := Lib.hid cB
    have CR := Lib.hid cR
    have hT0 := hT.drew
    have HT := Lib.hid hT
    clear cA cB cR ht hT
    go_region_held3 (fun W => (W.cell? ⟨ra, 0, none⟩ = some (.int .i64 y.kind) ∧ W.cell? ⟨ra, 1, none⟩ = some (.string ⟨y.text.toArray⟩) ∧ W.cell? ⟨ra, 2, none⟩ = some (.int .i64 y.bits) ∧ W.cell? ⟨ra, 3, none⟩ = some (.string ⟨y.scheme.toArray⟩) ∧ W.cell? ⟨ra, 4, none⟩ = some (.string ⟨y.host.toArray⟩) ∧ W.cell? ⟨ra, 5, none⟩ = some (.bool y.wild) ∧ W.cell? ⟨ra, 6, none⟩ = some (.int .i64 y.port) ∧ W.cell? ⟨ra, 7, none⟩ = some (.string ⟨y.path.toArray⟩)) ∧ W.cell? ⟨rb, 0, none⟩ = some (.int .i64 y.kind) ∧ W.cell? ⟨rb, 1, none⟩ = some (.string ⟨y.text.toArray⟩) ∧ W.cell? ⟨rb, 2, none⟩ = some (.int .i64 y.bits) ∧ W.cell? ⟨rb, 3, none⟩ = some (.string ⟨y.scheme.toArray⟩) ∧ W.cell? ⟨rb, 4, none⟩ = some (.string ⟨y.host.toArray⟩) ∧ W.cell? ⟨rb, 5, none⟩ = some (.bool y.wild) ∧ W.cell? ⟨rb, 6, none⟩ = some (.int .i64 y.port) ∧ W.cell? ⟨rb, 7, none⟩ = some (.string ⟨y.path.toArray⟩)) (exact Twin.cells (by assumption))
      (first
        | (go_at_call 18; (refine (CA.out _ (by assumption)).mono ?_); rintro e w9 ⟨rfl, hT9⟩)
        | (go_at_call 19; (refine (CB.out _ (by assumption)).mono ?_); rintro e w9 ⟨rfl, hT9⟩)
        | (go_at_call 16; (refine (CR.out _ (by assumption)).mono ?_); rintro e w9 ⟨rfl, hT9⟩))
    all_goals
      go_wp2
      go_ret
      exact ⟨rfl, Twin.below (by assumption)⟩
end Go.Proofs.YtkaejkjheajaaaaGreatDoor
