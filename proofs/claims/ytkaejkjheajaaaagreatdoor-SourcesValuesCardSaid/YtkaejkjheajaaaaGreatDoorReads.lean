/-
  The chapter's expressions: lazaretlaw25.reads answers true.
-/
import Derived.Test.YtkaejkjheajaaaaGreatDoorSrcE
namespace Go.Proofs.YtkaejkjheajaaaaGreatDoor
open Go.RowKit

theorem ba_of_list {u : ByteArray} {l : List UInt8} (h : u.data.toList = l) : u = ⟨l.toArray⟩ := by
  subst h; rfl
/-- What Parse answers of a text that is an expression, or none, outright. -/
theorem Parse_yes (s : ByteArray) (hs : s.size ≤ 1048576) (y : Lz.Src) (h : Lz.parseS s.data.toList = some y) (w : World) (hE : Env w) :
    Calls Tryz.prog 15 #[.string s] w fun e w' => e = .returned (.tuple #[.agg #[.int .i64 y.kind, .string ⟨y.text.toArray⟩, .int .i64 y.bits, .string ⟨y.scheme.toArray⟩, .string ⟨y.host.toArray⟩, .bool y.wild, .int .i64 y.port, .string ⟨y.path.toArray⟩], .int .i64 0]) ∧ Below w.heap.size w w' := by
  refine (Parse_any s hs w hE).mono ?_
  rintro e w' ⟨x, he, hx, hb⟩
  have hx := hx.out
  refine ⟨?_, hb⟩
  have h1 : parseE s.data.toList = 0 := by simp [parseE, h]
  have h2 : parseR s.data.toList = y := by simp [parseR, h]
  rw [h2] at hx
  rw [he, h1, ← hx]
  rfl
theorem Parse_no (s : ByteArray) (hs : s.size ≤ 1048576) (h : Lz.parseS s.data.toList = none) (w : World) (hE : Env w) :
    Calls Tryz.prog 15 #[.string s] w fun e w' => e = .returned (.tuple #[.agg #[.int .i64 0, .string ⟨#[]⟩, .int .i64 0, .string ⟨#[]⟩, .string ⟨#[]⟩, .bool false, .int .i64 0, .string ⟨#[]⟩], .int .i64 250]) ∧ Below w.heap.size w w' := by
  refine (Parse_any s hs w hE).mono ?_
  rintro e w' ⟨x, he, hx, hb⟩
  have hx := hx.out
  refine ⟨?_, hb⟩
  have h1 : parseE s.data.toList = 250 := by simp [parseE, h]
  have h2 : parseR s.data.toList = ⟨0, [], 0, [], [], false, 0, []⟩ := by simp [parseR, h]
  rw [h2] at hx
  have : x.val = SrcB.val ⟨0, ⟨#[]⟩, 0, ⟨#[]⟩, ⟨#[]⟩, false, 0, ⟨#[]⟩⟩ := by
    obtain ⟨k, t, b, sc, ho, wd, po, pa⟩ := x
    unfold SrcB.src at hx
    injection hx with e1 e2 e3 e4 e5 e6 e7 e8
    dsimp only at e1 e2 e3 e4 e5 e6 e7 e8
    rw [e1, e3, e6, e7, ba_of_list e2, ba_of_list e4, ba_of_list e5, ba_of_list e8]
  rw [he, h1, this]
  rfl

theorem ex1 : Lz.parseS [39, 83, 69, 76, 70, 39] = some ⟨1, [115, 101, 108, 102], 0, [], [], false, -1, []⟩ := by decide +kernel
theorem ex2 : Lz.parseS [39, 110, 111, 110, 99, 101, 45, 97, 66, 61, 61, 39] = some ⟨4, [97, 66, 61, 61], 0, [], [], false, -1, []⟩ := by decide +kernel
theorem ex3 : Lz.parseS [39, 115, 104, 97, 50, 53, 54, 45, 120, 39] = some ⟨5, [120], 256, [], [], false, -1, []⟩ := by decide +kernel
theorem ex4 : Lz.parseS [42, 46, 97, 46, 98, 58, 42] = some ⟨3, [], 0, [], [97, 46, 98], true, -2, []⟩ := by decide +kernel
theorem ex5 : Lz.parseS [72, 84, 84, 80, 58, 47, 47, 120, 58, 48, 56, 48, 47, 112, 47] = some ⟨3, [], 0, [104, 116, 116, 112], [120], false, 80, [47, 112, 47]⟩ := by decide +kernel
theorem ex6 : Lz.parseS [104, 116, 116, 112, 115, 58] = some ⟨2, [], 0, [104, 116, 116, 112, 115], [], false, -1, []⟩ := by decide +kernel
theorem ex7 : Lz.parseS [42] = some ⟨3, [], 0, [], [], true, -1, []⟩ := by decide +kernel

/-- These blocks hold these objects. -/
def Holds (l : List (Nat × Obj)) (w : World) : Prop := ∀ p ∈ l, w.heap[p.1]? = some p.2
theorem Holds.below {l : List (Nat × Obj)} {w w' : World} (h : Holds l w) (hb : Below w.heap.size w w') : Holds l w' := fun p hp => by
  have h1 := h p hp
  rw [hb.block _ (Array.getElem?_eq_some_iff.1 h1).1]; exact h1
theorem Holds.alloc {l : List (Nat × Obj)} {w : World} (h : Holds l w) (o : Obj) : Holds ((w.heap.size, o) :: l) (w.alloc o) := fun p hp => by
  rcases List.mem_cons.1 hp with rfl | hp
  · show (w.heap.push o)[w.heap.size]? = _
    simp
  · have h1 := h p hp
    rw [Below.heap_alloc _ _ _ (Array.getElem?_eq_some_iff.1 h1).1]; exact h1
theorem Holds.step {l : List (Nat × Obj)} {w w' : World} {o : Obj} (h : Holds l w) (hb : Below (w.alloc o).heap.size (w.alloc o) w') : Holds ((w.heap.size, o) :: l) w' := (h.alloc o).below hb
theorem Holds.tail {p : Nat × Obj} {l : List (Nat × Obj)} {w : World} (h : Holds (p :: l) w) : Holds l w := fun q hq => h q (List.mem_cons_of_mem _ hq)
theorem below_step {w0 w w' : World} {o : Obj} (h : Below w0.heap.size w0 w) (hb : Below (w.alloc o).heap.size (w.alloc o) w') : Below w0.heap.size w0 w' := below_call (h.alloc h.size o) hb

def rdTexts : List ByteArray := [⟨#[39, 110, 111, 110, 101, 39]⟩, ⟨#[97, 46, 46, 98]⟩, ⟨#[120, 58, 121]⟩, ⟨#[39, 110, 111, 110, 99, 101, 45, 39]⟩, ⟨#[97, 47, 98, 63, 99]⟩, ⟨#[39]⟩]
theorem rdNone : ∀ x ∈ rdTexts, Lz.parseS x.data.toList = none := by decide +kernel
theorem rdSize : ∀ x ∈ rdTexts, x.size ≤ 1048576 := by decide +kernel

def rdRow1 : Obj := .cells #[.int .i64 1, .string ⟨#[115, 101, 108, 102]⟩, .int .i64 0, .string ⟨#[]⟩, .string ⟨#[]⟩, .bool false, .int .i64 (-1), .string ⟨#[]⟩] 28
def rdRow2 : Obj := .cells #[.int .i64 4, .string ⟨#[97, 66, 61, 61]⟩, .int .i64 0, .string ⟨#[]⟩, .string ⟨#[]⟩, .bool false, .int .i64 (-1), .string ⟨#[]⟩] 28
def rdRow3 : Obj := .cells #[.int .i64 5, .string ⟨#[120]⟩, .int .i64 256, .string ⟨#[]⟩, .string ⟨#[]⟩, .bool false, .int .i64 (-1), .string ⟨#[]⟩] 28
def rdRow4 : Obj := .cells #[.int .i64 3, .string ⟨#[]⟩, .int .i64 0, .string ⟨#[]⟩, .string ⟨#[97, 46, 98]⟩, .bool true, .int .i64 (-2), .string ⟨#[]⟩] 28
def rdRow5 : Obj := .cells #[.int .i64 3, .string ⟨#[]⟩, .int .i64 0, .string ⟨#[104, 116, 116, 112]⟩, .string ⟨#[120]⟩, .bool false, .int .i64 80, .string ⟨#[47, 112, 47]⟩] 28
def rdRow6 : Obj := .cells #[.int .i64 2, .string ⟨#[]⟩, .int .i64 0, .string ⟨#[104, 116, 116, 112, 115]⟩, .string ⟨#[]⟩, .bool false, .int .i64 (-1), .string ⟨#[]⟩] 28
def rdRow7 : Obj := .cells #[.int .i64 3, .string ⟨#[]⟩, .int .i64 0, .string ⟨#[]⟩, .string ⟨#[]⟩, .bool true, .int .i64 (-1), .string ⟨#[]⟩] 28
def rdStrs : Obj := .cells #[.string ⟨#[39, 110, 111, 110, 101, 39]⟩, .string ⟨#[97, 46, 46, 98]⟩, .string ⟨#[120, 58, 121]⟩, .string ⟨#[39, 110, 111, 110, 99, 101, 45, 39]⟩, .string ⟨#[97, 47, 98, 63, 99]⟩, .string ⟨#[39]⟩] 9
def rdBlocks (a1 a2 a3 a4 a5 a6 a7 S : Nat) : List (Nat × Obj) := [(S, rdStrs), (a7, rdRow7), (a6, rdRow6), (a5, rdRow5), (a4, rdRow4), (a3, rdRow3), (a2, rdRow2), (a1, rdRow1)]
theorem rdS (a1 a2 a3 a4 a5 a6 a7 S : Nat) : (S, rdStrs) ∈ rdBlocks a1 a2 a3 a4 a5 a6 a7 S := List.Mem.head _
theorem rd1 (a1 a2 a3 a4 a5 a6 a7 S : Nat) : (a1, rdRow1) ∈ rdBlocks a1 a2 a3 a4 a5 a6 a7 S := List.Mem.tail _ (List.Mem.tail _ (List.Mem.tail _ (List.Mem.tail _ (List.Mem.tail _ (List.Mem.tail _ (List.Mem.tail _ (List.Mem.head _)))))))
theorem rd2 (a1 a2 a3 a4 a5 a6 a7 S : Nat) : (a2, rdRow2) ∈ rdBlocks a1 a2 a3 a4 a5 a6 a7 S := List.Mem.tail _ (List.Mem.tail _ (List.Mem.tail _ (List.Mem.tail _ (List.Mem.tail _ (List.Mem.tail _ (List.Mem.head _))))))
theorem rd3 (a1 a2 a3 a4 a5 a6 a7 S : Nat) : (a3, rdRow3) ∈ rdBlocks a1 a2 a3 a4 a5 a6 a7 S := List.Mem.tail _ (List.Mem.tail _ (List.Mem.tail _ (List.Mem.tail _ (List.Mem.tail _ (List.Mem.head _)))))
theorem rd4 (a1 a2 a3 a4 a5 a6 a7 S : Nat) : (a4, rdRow4) ∈ rdBlocks a1 a2 a3 a4 a5 a6 a7 S := List.Mem.tail _ (List.Mem.tail _ (List.Mem.tail _ (List.Mem.tail _ (List.Mem.head _))))
theorem rd5 (a1 a2 a3 a4 a5 a6 a7 S : Nat) : (a5, rdRow5) ∈ rdBlocks a1 a2 a3 a4 a5 a6 a7 S := List.Mem.tail _ (List.Mem.tail _ (List.Mem.tail _ (List.Mem.head _)))
theorem rd6 (a1 a2 a3 a4 a5 a6 a7 S : Nat) : (a6, rdRow6) ∈ rdBlocks a1 a2 a3 a4 a5 a6 a7 S := List.Mem.tail _ (List.Mem.tail _ (List.Mem.head _))
theorem rd7 (a1 a2 a3 a4 a5 a6 a7 S : Nat) : (a7, rdRow7) ∈ rdBlocks a1 a2 a3 a4 a5 a6 a7 S := List.Mem.tail _ (List.Mem.head _)
/-- The loop's relation. -/
def RdRel (w : World) (L : List (Nat × Obj)) (v : Value) (wr : World) : Prop := ∃ k : Nat, k ≤ 6 ∧ v = .int .i64 k ∧ Holds L wr ∧ Below w.heap.size w wr

set_option maxHeartbeats 4000000 in
set_option maxRecDepth 100000 in
theorem reads_any (w : World) (hE : Env w) : Calls Tryz.prog 16 #[] w (RBool true w) := by
  go_enter Tryz.func16, Tryz.ntmps16
  go_wp2_with fail
  refine (Parse_yes _ (by decide) _ ex1 _ hE).mono ?_
  rintro e w1 ⟨rfl, hx1⟩
  have H1 : Holds [] w1 := fun p hp => by cases hp
  go_wp2_with fail
  refine (Parse_yes _ (by decide) _ ex2 _ (hE.below (hx1.alloc hx1.size _))).mono ?_
  rintro e w2 ⟨rfl, hb⟩
  have H2 := H1.step hb
  have hx2 := below_step hx1 hb
  clear hb H1
  go_wp2_with fail
  refine (Parse_yes _ (by decide) _ ex3 _ (hE.below (hx2.alloc hx2.size _))).mono ?_
  rintro e w3 ⟨rfl, hb⟩
  have H3 := H2.step hb
  have hx3 := below_step hx2 hb
  clear hb H2
  go_wp2_with fail
  refine (Parse_yes _ (by decide) _ ex4 _ (hE.below (hx3.alloc hx3.size _))).mono ?_
  rintro e w4 ⟨rfl, hb⟩
  have H4 := H3.step hb
  have hx4 := below_step hx3 hb
  clear hb H3
  go_wp2_with fail
  refine (Parse_yes _ (by decide) _ ex5 _ (hE.below (hx4.alloc hx4.size _))).mono ?_
  rintro e w5 ⟨rfl, hb⟩
  have H5 := H4.step hb
  have hx5 := below_step hx4 hb
  clear hb H4
  go_wp2_with fail
  refine (Parse_yes _ (by decide) _ ex6 _ (hE.below (hx5.alloc hx5.size _))).mono ?_
  rintro e w6 ⟨rfl, hb⟩
  have H6 := H5.step hb
  have hx6 := below_step hx5 hb
  clear hb H5
  go_wp2_with fail
  refine (Parse_yes _ (by decide) _ ex7 _ (hE.below (hx6.alloc hx6.size _))).mono ?_
  rintro e w7 ⟨rfl, hb⟩
  have H7 := H6.step hb
  have hx7 := below_step hx6 hb
  clear hb H6
  go_wp2_with fail
  have H8 : Holds (rdBlocks w1.heap.size w2.heap.size w3.heap.size w4.heap.size w5.heap.size w6.heap.size w7.heap.size (w7.heap.size + 1)) ((w7.alloc rdRow7).alloc rdStrs) := by
    have h := (H7.alloc rdRow7).alloc rdStrs
    have eS : (w7.alloc rdRow7).heap.size = w7.heap.size + 1 := by simp
    rw [eS] at h
    exact h
  have hx8 : Below w.heap.size w ((w7.alloc rdRow7).alloc rdStrs) := (hx7.alloc hx7.size _).alloc (by have := hx7.size; simp; omega) _
  clear H7 hx7 hx1 hx2 hx3 hx4 hx5 hx6
  obtain ⟨L, hL⟩ : ∃ L, L = rdBlocks w1.heap.size w2.heap.size w3.heap.size w4.heap.size w5.heap.size w6.heap.size w7.heap.size (w7.heap.size + 1) := ⟨_, rfl⟩
  rw [← hL] at H8
  have HL := Lib.hid hL
  clear hL
  go_loopw [49] (fun i wr => RdRel w L i wr) (fun i _ => 6 - (intOf i).toNat)
  case atStart => exact ⟨0, by omega, rfl, H8, hx8⟩
  case round =>
    clear H8 hx8
    obtain ⟨k, hk, rfl, hH, hx⟩ := hrel
    by_cases hlt : k < 6
    · obtain ⟨x, hxk⟩ : ∃ x, rdTexts[k]? = some x := ⟨_, List.getElem?_eq_getElem (by simpa [rdTexts] using hlt)⟩
      have hxm := List.mem_of_getElem? hxk
      have hxs := rdSize x hxm
      have hS : wr.heap[w7.heap.size + 1]? = some rdStrs := hH _ (by rw [HL.out]; exact rdS ..)
      have hc : wr.cell? ⟨w7.heap.size + 1, k, none⟩ = some (.string x) := by
        have h := cell_of_row wr (w7.heap.size + 1) k _ _ _ hS
        rw [h]
        have e : (#[.string ⟨#[39, 110, 111, 110, 101, 39]⟩, .string ⟨#[97, 46, 46, 98]⟩, .string ⟨#[120, 58, 121]⟩, .string ⟨#[39, 110, 111, 110, 99, 101, 45, 39]⟩, .string ⟨#[97, 47, 98, 63, 99]⟩, .string ⟨#[39]⟩] : Array Value) = (rdTexts.map Value.string).toArray := rfl
        rw [e]
        simp [hxk]
      have Hn := Lib.hid (rdNone x hxm)
      clear hS hxk hxm
      go_wp2_with fail
      refine (Parse_no x hxs Hn.out _ (hE.below hx)).mono ?_
      rintro e w9 ⟨rfl, hb9⟩
      have hH9 := (hH.below hb9).alloc (.cells #[.int .i64 0, .string ⟨#[]⟩, .int .i64 0, .string ⟨#[]⟩, .string ⟨#[]⟩, .bool false, .int .i64 0, .string ⟨#[]⟩] 28)
      have hx9 := below_call hx hb9
      clear hb9 hH hx hc
      go_wp2
      go_roundw
      case rel => exact ⟨k + 1, by omega, by go_num, hH9.tail, hx9.alloc hx9.size _⟩
      case measure => simp [intOf]; omega
    · have h1 : wr.heap[w1.heap.size]? = some rdRow1 := hH _ (by rw [HL.out]; exact rd1 ..)
      have h2 : wr.heap[w2.heap.size]? = some rdRow2 := hH _ (by rw [HL.out]; exact rd2 ..)
      have h3 : wr.heap[w3.heap.size]? = some rdRow3 := hH _ (by rw [HL.out]; exact rd3 ..)
      have h4 : wr.heap[w4.heap.size]? = some rdRow4 := hH _ (by rw [HL.out]; exact rd4 ..)
      have h5 : wr.heap[w5.heap.size]? = some rdRow5 := hH _ (by rw [HL.out]; exact rd5 ..)
      have h6 : wr.heap[w6.heap.size]? = some rdRow6 := hH _ (by rw [HL.out]; exact rd6 ..)
      have h7 : wr.heap[w7.heap.size]? = some rdRow7 := hH _ (by rw [HL.out]; exact rd7 ..)
      unfold rdRow1 at h1
      unfold rdRow2 at h2
      unfold rdRow3 at h3
      unfold rdRow4 at h4
      unfold rdRow5 at h5
      unfold rdRow6 at h6
      unfold rdRow7 at h7
      clear hH HL
      go_wp2_with (first | (refine load_src_g rfl _ rfl w1.heap.size rfl _ h1 rfl ?_) | (refine load_src_g rfl _ rfl w2.heap.size rfl _ h2 rfl ?_) | (refine load_src_g rfl _ rfl w3.heap.size rfl _ h3 rfl ?_) | (refine load_src_g rfl _ rfl w4.heap.size rfl _ h4 rfl ?_) | (refine load_src_g rfl _ rfl w5.heap.size rfl _ h5 rfl ?_) | (refine load_src_g rfl _ rfl w6.heap.size rfl _ h6 rfl ?_) | (refine load_src_g rfl _ rfl w7.heap.size rfl _ h7 rfl ?_))
      go_ret
      exact ⟨rfl, hx⟩
end Go.Proofs.YtkaejkjheajaaaaGreatDoor
