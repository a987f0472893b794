/-
  The walk of the law SourcesBack, out of the plain laws on parseS and textT.
-/
import Derived.Test.YtkaejkjheajaaaaGreatDoorReads
import Derived.Test.YtkaejkjheajaaaaGreatDoorText
namespace Go.Proofs.YtkaejkjheajaaaaGreatDoor
open Go.RowKit

def Lz.Src.toB (y : Lz.Src) : SrcB := ⟨y.kind, ⟨y.text.toArray⟩, y.bits, ⟨y.scheme.toArray⟩, ⟨y.host.toArray⟩, y.wild, y.port, ⟨y.path.toArray⟩⟩

/-- The bounds of a source that was parsed. -/
structure SrcFits (y : Lz.Src) (N : Nat) : Prop where
  text : y.text.length ≤ N
  scheme : y.scheme.length ≤ N
  host : y.host.length ≤ N
  path : y.path.length ≤ N
  port0 : -2 ≤ y.port
  port1 : y.port ≤ 65535
  bits0 : 0 ≤ y.bits
  bits1 : y.bits ≤ 512

theorem Text_is (y : Lz.Src) (N : Nat) (hN : N ≤ 1048576) (hf : SrcFits y N) (w : World) (hE : Env w) :
    Calls Tryz.prog 18 #[.agg #[.int .i64 y.kind, .string ⟨y.text.toArray⟩, .int .i64 y.bits, .string ⟨y.scheme.toArray⟩, .string ⟨y.host.toArray⟩, .bool y.wild, .int .i64 y.port, .string ⟨y.path.toArray⟩]] w
      fun e w' => e = .returned (.string ⟨(Lz.textT y).toArray⟩) ∧ Below w.heap.size w w' := by
  obtain ⟨h1, h2, h3, h4, h5, h6, h7, h8⟩ := hf
  refine (Text_any (Lz.Src.toB y) (Nat.le_trans h1 hN) (Nat.le_trans h2 hN) (Nat.le_trans h3 hN) (Nat.le_trans h4 hN) (by show _ ≤ y.port; omega) (by show y.port ≤ _; omega) (by show _ ≤ y.bits; omega) (by show y.bits ≤ _; omega) w hE).mono ?_
  rintro e w' ⟨u, he, hu, hb⟩
  refine ⟨?_, hb⟩
  have : u = ⟨(Lz.textT y).toArray⟩ := ba_of_list hu.out
  rw [he, this]

set_option maxHeartbeats 2000000 in
set_option maxRecDepth 100000 in
theorem back_any (hback : ∀ l y, Lz.parseS l = some y → Lz.parseS (Lz.textT y) = some y) (hfit : ∀ l y N, Lz.parseS l = some y → l.length ≤ N → SrcFits y N ∧ (Lz.textT y).length ≤ 4 * N + 100)
    (s : ByteArray) (w : World) (hE : Env w) : Calls Tryz.prog 6 #[.string s] w (RBool true w) := by
  by_cases hlen : (300 : Int) < s.size
  · go_enter Tryz.func6, Tryz.ntmps6
    go_wp2_with fail
    refine (reads_any w hE).mono ?_
    rintro e w1 ⟨rfl, hb1⟩
    go_wp2
    go_ret
    exact ⟨rfl, hb1⟩
  · have hs : s.size ≤ 300 := by omega
    have hlen' : (s.size : Int) ≤ 300 := by omega
    clear hlen
    cases hp : Lz.parseS s.data.toList with
    | none =>
      have Hp := Lib.hid hp
      clear hp
      go_enter Tryz.func6, Tryz.ntmps6
      go_wp2_with fail
      refine (Parse_no s (by omega) Hp.out w hE).mono ?_
      rintro e w1 ⟨rfl, hb1⟩
      have hx1 := hb1.alloc hb1.size (.cells #[.int .i64 0, .string ⟨#[]⟩, .int .i64 0, .string ⟨#[]⟩, .string ⟨#[]⟩, .bool false, .int .i64 0, .string ⟨#[]⟩] 28)
      go_wp2_with fail
      refine (reads_any _ (hE.below hx1)).mono ?_
      rintro e w2 ⟨rfl, hb2⟩
      go_wp2
      go_ret
      exact ⟨rfl, below_call hx1 hb2⟩
    | some y =>
      have Hp := Lib.hid hp
      obtain ⟨hf, hz⟩ := hfit _ y 300 hp (by rw [len_of_size]; exact hs)
      have Hb := Lib.hid (hback _ y hp)
      have Hf := Lib.hid hf
      clear hp hf
      have hz2 : (⟨(Lz.textT y).toArray⟩ : ByteArray).size ≤ 1300 := hz
      go_enter Tryz.func6, Tryz.ntmps6
      go_wp2_with fail
      refine (Parse_yes s (by omega) y Hp.out w hE).mono ?_
      rintro e w1 ⟨rfl, hb1⟩
      have hx1 := hb1.alloc hb1.size (.cells #[.int .i64 y.kind, .string ⟨y.text.toArray⟩, .int .i64 y.bits, .string ⟨y.scheme.toArray⟩, .string ⟨y.host.toArray⟩, .bool y.wild, .int .i64 y.port, .string ⟨y.path.toArray⟩] 28)
      go_wp2_with fail
      refine (Text_is y 300 (by omega) Hf.out _ (hE.below hx1)).mono ?_
      rintro e w2 ⟨rfl, hb2⟩
      have hr2 := alloc_row_one hb2
      have hx2 := below_call hx1 hb2
      clear hb2 hx1
      obtain ⟨t, ht⟩ : ∃ t : ByteArray, t = ⟨(Lz.textT y).toArray⟩ := ⟨_, rfl⟩
      rw [← ht] at hz2 ⊢
      have htl : t.data.toList = Lz.textT y := by rw [ht]
      have Ht := Lib.hid ht
      clear ht
      go_wp2_with fail
      refine (Parse_yes t (by omega) y (by rw [htl]; exact Hb.out) w2 (hE.below hx2)).mono ?_
      rintro e w3 ⟨rfl, hb3⟩
      have hr3 : ∀ o, (w3.alloc o).heap[w1.heap.size]? = some (.cells #[.int .i64 y.kind, .string ⟨y.text.toArray⟩, .int .i64 y.bits, .string ⟨y.scheme.toArray⟩, .string ⟨y.host.toArray⟩, .bool y.wild, .int .i64 y.port, .string ⟨y.path.toArray⟩] 28 (0, 0)) := fun o => by
        have hl := (Array.getElem?_eq_some_iff.1 hr2).1
        rw [Below.heap_alloc _ _ _ (Nat.lt_of_lt_of_le hl hb3.size), hb3.block _ hl]; exact hr2
      have hx3 := below_call hx2 hb3
      clear hb3 hx2 hr2
      go_wp2_with (first | (refine load_src_g rfl _ rfl w1.heap.size rfl _ (hr3 _) rfl ?_))
      have hx4 := hx3.alloc hx3.size (.cells #[.int .i64 y.kind, .string ⟨y.text.toArray⟩, .int .i64 y.bits, .string ⟨y.scheme.toArray⟩, .string ⟨y.host.toArray⟩, .bool y.wild, .int .i64 y.port, .string ⟨y.path.toArray⟩] 28)
      refine (Text_is y 300 (by omega) Hf.out _ (hE.below hx4)).mono ?_
      rintro e w5 ⟨rfl, hb5⟩
      rw [← Ht.out]
      have hx5 := below_call hx4 hb5
      clear hb5 hr3
      go_wp2_with fail
      refine (reads_any _ (hE.below hx5)).mono ?_
      rintro e w6 ⟨rfl, hb6⟩
      go_wp2
      go_ret
      exact ⟨rfl, below_call hx5 hb6⟩
end Go.Proofs.YtkaejkjheajaaaaGreatDoor
