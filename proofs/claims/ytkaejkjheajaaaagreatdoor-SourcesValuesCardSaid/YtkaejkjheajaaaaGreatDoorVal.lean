/-
  The walk of the law SourcesValues.
-/
import Derived.Test.YtkaejkjheajaaaaGreatDoorParse
import Derived.Test.YtkaejkjheajaaaaGreatDoorLet
import Derived.StillTailTactics
import Derived.Deep.RegionHeld3
import Derived.Deep.DrawnRows
namespace Go.Proofs.YtkaejkjheajaaaaGreatDoor
open Go.RowKit
attribute [local go_sem ↓] Go.wp_at_zero Go.wp_at_succ

/-- The ways of the test in SourcesValues: bounds, and the answers of four tests, and the test's own. -/
def oddWays : List (Int × Int × Bool × Bool × Bool × Bool × Bool) := [(0, 42, false, false, true, true, true), (123, 255, false, false, true, true, true), (43, 122, true, false, true, true, true), (43, 122, false, true, true, true, true), (43, 57, false, false, true, true, false), (58, 64, false, false, true, true, true), (58, 64, false, false, false, true, false), (65, 90, false, false, true, true, false), (91, 96, false, false, true, true, true), (91, 96, false, false, true, false, false), (97, 122, false, false, true, true, false)]
def oddWay (c : UInt8) (x : Int × Int × Bool × Bool × Bool × Bool × Bool) : Bool :=
  decide (x.1 ≤ (c.toNat : Int)) && decide ((c.toNat : Int) ≤ x.2.1) && (((c.toNat : Int) == 44) == x.2.2.1) && (((c.toNat : Int) == 46) == x.2.2.2.1) && (((c.toNat : Int) != 61) == x.2.2.2.2.1) && (((c.toNat : Int) != 95) == x.2.2.2.2.2.1) && (Lz.oddV c == x.2.2.2.2.2.2)
theorem odd_any (c : UInt8) : oddWays.any (oddWay c) = true := by
  revert c; exact Lz.byte_all (by decide +kernel)
theorem odd_way {c : UInt8} {lo hi : Int} {a b d e v : Bool} (h : oddWay c (lo, hi, a, b, d, e, v) = true) :
    lo ≤ (c.toNat : Int) ∧ (c.toNat : Int) ≤ hi ∧ ((c.toNat : Int) == 44) = a ∧ ((c.toNat : Int) == 46) = b ∧ ((c.toNat : Int) != 61) = d ∧ ((c.toNat : Int) != 95) = e ∧ Lz.oddV c = v := by
  unfold oddWay at h
  simp only [Bool.and_eq_true, decide_eq_true_eq, beq_iff_eq] at h
  obtain ⟨⟨⟨⟨⟨⟨h1, h2⟩, h3⟩, h4⟩, h5⟩, h6⟩, h7⟩ := h
  exact ⟨h1, h2, h3, h4, h5, h6, h7⟩
theorem odd_cases (c : UInt8) : ∃ lo hi a b d e v, (lo, hi, a, b, d, e, v) ∈ oddWays ∧ lo ≤ (c.toNat : Int) ∧ (c.toNat : Int) ≤ hi ∧ ((c.toNat : Int) == 44) = a ∧ ((c.toNat : Int) == 46) = b ∧ ((c.toNat : Int) != 61) = d ∧ ((c.toNat : Int) != 95) = e ∧ Lz.oddV c = v := by
  obtain ⟨⟨lo, hi, a, b, d, e, v⟩, hm, h⟩ := List.any_eq_true.1 (odd_any c)
  exact ⟨lo, hi, a, b, d, e, v, hm, odd_way h⟩

def hdObj : Obj := .cells #[.string ⟨#[110, 111, 110, 99, 101, 45]⟩, .string ⟨#[115, 104, 97, 50, 53, 54, 45]⟩, .string ⟨#[115, 104, 97, 51, 56, 52, 45]⟩, .string ⟨#[83, 72, 65, 53, 49, 50, 45]⟩, .string ⟨#[78, 79, 78, 67, 69, 45]⟩] 9
/-- The k-th of the heads. -/
def hdB (k : Nat) : ByteArray := ⟨(Lz.headAt k).toArray⟩
theorem hdB_data (k : Nat) : (hdB k).data.toList = Lz.headAt k := rfl
theorem hdB_size (k : Nat) (hk : k < 5) : (hdB k).size ≤ 7 := by
  obtain rfl | rfl | rfl | rfl | rfl : k = 0 ∨ k = 1 ∨ k = 2 ∨ k = 3 ∨ k = 4 := by omega
  all_goals decide
/-- The bits of the five. -/
def btObj : Obj := .cells #[.int .i64 0, .int .i64 256, .int .i64 384, .int .i64 512, .int .i64 0] 3
/-- The rows of SourcesValues: the heads, and the first source. -/
structure VR (w : World) (H X : Nat) (kd bt : Int) (tx : ByteArray) (W : World) : Prop where
  hd : W.heap[H]? = some hdObj
  src : W.heap[X]? = some (.cells #[.int .i64 kd, .string tx, .int .i64 bt, .string ⟨#[]⟩, .string ⟨#[]⟩, .bool false, .int .i64 (-1), .string ⟨#[]⟩] 28 (0, 0))
  below : Below w.heap.size w W
theorem VR.call {w W W' : World} {H X : Nat} {kd bt : Int} {tx : ByteArray} (h : VR w H X kd bt tx W) (hb : Below W.heap.size W W') : VR w H X kd bt tx W' := ⟨by rw [hb.block _ (Array.getElem?_eq_some_iff.1 h.hd).1]; exact h.hd, by rw [hb.block _ (Array.getElem?_eq_some_iff.1 h.src).1]; exact h.src, below_call h.below hb⟩
theorem VR.drew {w W : World} {H X : Nat} {kd bt : Int} {tx : ByteArray} (h : VR w H X kd bt tx W) : VR w H X kd bt tx W.drew := ⟨h.hd, h.src, h.below.drew⟩
theorem VR.alloc {w W : World} {H X : Nat} {kd bt : Int} {tx : ByteArray} (h : VR w H X kd bt tx W) (o : Obj) : VR w H X kd bt tx (W.alloc o) := h.call ((Below.refl _ W).alloc (Nat.le_refl _) o)
theorem VR.head {w W : World} {H X : Nat} {kd bt : Int} {tx : ByteArray} (h : VR w H X kd bt tx W) {k : Nat} (hk : k < 5) : W.cell? ⟨H, k, none⟩ = some (.string (hdB k)) := by
  have h2 := h.hd
  unfold hdObj at h2
  rw [cell_of_row _ _ k _ _ _ h2]
  obtain rfl | rfl | rfl | rfl | rfl : k = 0 ∨ k = 1 ∨ k = 2 ∨ k = 3 ∨ k = 4 := by omega
  all_goals rfl
theorem VR.at {w W : World} {H X : Nat} {kd bt : Int} {tx : ByteArray} (h : VR w H X kd bt tx W) (j : Nat) : W.cell? ⟨X, j, none⟩ = (#[.int .i64 kd, .string tx, .int .i64 bt, .string ⟨#[]⟩, .string ⟨#[]⟩, .bool false, .int .i64 (-1), .string ⟨#[]⟩] : Array Value)[j]? := cell_of_row W _ j _ _ _ h.src

theorem VR.set {w W : World} {H X : Nat} {kd bt : Int} {tx : ByteArray} (h : VR w H X kd bt tx W) {B : Nat} (hB : w.heap.size ≤ B) (hH : H ≠ B) (hX : X ≠ B) (o : Nat) (v : Value) : VR w H X kd bt tx (W.setCell ⟨B, o, none⟩ v) :=
  ⟨by rw [Below.heap_setCell _ ⟨B, o, none⟩ _ H hH]; exact h.hd, by rw [Below.heap_setCell _ ⟨B, o, none⟩ _ X hX]; exact h.src, h.below.setCell (p := ⟨B, o, none⟩) hB _⟩
theorem VR.set8 {w W : World} {H X : Nat} {kd bt : Int} {tx : ByteArray} (h : VR w H X kd bt tx W) {B : Nat} (hB : w.heap.size ≤ B) (hH : H ≠ B) (hX : X ≠ B) (a b c d e f g i : Value) :
    VR w H X kd bt tx ((((((((W.setCell ⟨B, 0, none⟩ a).setCell ⟨B, 1, none⟩ b).setCell ⟨B, 2, none⟩ c).setCell ⟨B, 3, none⟩ d).setCell ⟨B, 4, none⟩ e).setCell ⟨B, 5, none⟩ f).setCell ⟨B, 6, none⟩ g).setCell ⟨B, 7, none⟩ i) :=
  (((((((h.set hB hH hX 0 a).set hB hH hX 1 b).set hB hH hX 2 c).set hB hH hX 3 d).set hB hH hX 4 e).set hB hH hX 5 f).set hB hH hX 6 g).set hB hH hX 7 i

theorem take_drop (u : ByteArray) (m : Nat) : List.take (u.size - m) (List.drop m u.data.toList) = List.drop m u.data.toList :=
  List.take_of_length_le (by rw [List.length_drop, len_of_size]; exact Nat.le_refl _)
theorem bcell {W w1 : World} (hb : Below W.heap.size W w1) : (∀ b o, b < W.heap.size → w1.cell? ⟨b, o, none⟩ = W.cell? ⟨b, o, none⟩) ∧ (∀ b o, b < W.heap.size → w1.frozen? ⟨b, o, none⟩ = W.frozen? ⟨b, o, none⟩) :=
  ⟨fun b o h => hb.cell (p := ⟨b, o, none⟩) h, fun b o h => hb.frozen (p := ⟨b, o, none⟩) h⟩

theorem wpAnyH_weaken {P : Program} {ops : Array Oper} {Q : Exit → Act → World → Prop} {md : Region.Mode} {S S' : World → Prop} (hS : ∀ W, S' W → S W) {fuel : Nat} {listed : Array Bool} {a : Act} {w : World} (h : wpAnyH P md ops Q S' fuel listed a w) : wpAnyH P md ops Q S fuel listed a w := by
  induction fuel generalizing listed a w with
  | zero => exact h
  | succ fuel ih => exact ⟨h.1, fun i hi => wpOp_mono (fun a' w' h' => ⟨hS _ h'.1, ih h'.2⟩) (h.2 i hi)⟩
theorem fresh_cell (wd : World) (x : Value) (T : TypeId) : (wd.alloc (.cells #[x] T)).drew.cell? ⟨wd.heap.size, 0, none⟩ = some x := World.cell?_alloc_mark wd #[x] T (0, 0) 0
theorem fresh_cell2 (wd : World) (o : Obj) (x : Value) (T : TypeId) : ((wd.alloc o).alloc (.cells #[x] T)).drew.cell? ⟨wd.heap.size + 1, 0, none⟩ = some x := by
  simp
theorem keep9 {W w9 : World} {p : Addr} {x : Value} (hb : Below W.heap.size W w9) (h : W.cell? p = some x) : w9.cell? p = some x := (hb.cell (World.block_lt_of_cell? _ _ h)).trans h
theorem keepA {W : World} {p : Addr} {x : Value} {o : Obj} (h : W.cell? p = some x) : (W.alloc o).cell? p = some x := (World.cell?_alloc_lt _ _ _ (World.block_lt_of_cell? _ _ h)).trans h
theorem keepD {W : World} {p : Addr} {x : Value} {o : Obj} (h : W.drew.cell? p = some x) : (W.alloc o).drew.cell? p = some x := keepA (W := W) h
theorem keepS {W : World} {B b : Nat} {x : Value} {a0 a1 a2 a3 a4 a5 a6 a7 : Value} (h : W.cell? ⟨b, 0, none⟩ = some x) (hne : B ≠ b) :
    ((((((((W.setCell ⟨B, 0, none⟩ a0).setCell ⟨B, 1, none⟩ a1).setCell ⟨B, 2, none⟩ a2).setCell ⟨B, 3, none⟩ a3).setCell ⟨B, 4, none⟩ a4).setCell ⟨B, 5, none⟩ a5).setCell ⟨B, 6, none⟩ a6).setCell ⟨B, 7, none⟩ a7).cell? ⟨b, 0, none⟩ = some x := by
  simp only [World.cell?_setCell_far _ _ _ _ (show (⟨B, _, none⟩ : Addr).block ≠ (⟨b, 0, none⟩ : Addr).block from hne), h]
theorem at_first (wd : World) (cs : Array Value) (T : TypeId) (o : Obj) : ((wd.alloc (.cells cs T)).alloc o).drew.heap[wd.heap.size]? = some (.cells cs T (0, 0)) := by
  show ((wd.alloc (.cells cs T)).alloc o).heap[wd.heap.size]? = _
  rw [Below.heap_alloc _ _ _ (by simp)]
  exact heap_alloc_new wd _
theorem at_second (wd : World) (cs : Array Value) (T : TypeId) (o : Obj) : ((wd.alloc o).alloc (.cells cs T)).drew.heap[wd.heap.size + 1]? = some (.cells cs T (0, 0)) := by
  show ((wd.alloc o).alloc (.cells cs T)).heap[wd.heap.size + 1]? = _
  have := heap_alloc_new (wd.alloc o) (.cells cs T)
  simpa using this
theorem row8_facts {W w9 : World} {B : Nat} {T : TypeId} (hb : Below W.heap.size W w9) (hr : W.heap[B]? = some (.cells #[.int .i64 0, .string ⟨#[]⟩, .int .i64 0, .string ⟨#[]⟩, .string ⟨#[]⟩, .bool false, .int .i64 0, .string ⟨#[]⟩] T (0, 0))) :
    (w9.cell? ⟨B, 0, none⟩ = some (.int .i64 0) ∧ w9.cell? ⟨B, 1, none⟩ = some (.string ⟨#[]⟩) ∧ w9.cell? ⟨B, 2, none⟩ = some (.int .i64 0) ∧ w9.cell? ⟨B, 3, none⟩ = some (.string ⟨#[]⟩) ∧ w9.cell? ⟨B, 4, none⟩ = some (.string ⟨#[]⟩) ∧ w9.cell? ⟨B, 5, none⟩ = some (.bool false) ∧ w9.cell? ⟨B, 6, none⟩ = some (.int .i64 0) ∧ w9.cell? ⟨B, 7, none⟩ = some (.string ⟨#[]⟩)) ∧
    (w9.frozen? ⟨B, 0, none⟩ = false ∧ w9.frozen? ⟨B, 1, none⟩ = false ∧ w9.frozen? ⟨B, 2, none⟩ = false ∧ w9.frozen? ⟨B, 3, none⟩ = false ∧ w9.frozen? ⟨B, 4, none⟩ = false ∧ w9.frozen? ⟨B, 5, none⟩ = false ∧ w9.frozen? ⟨B, 6, none⟩ = false ∧ w9.frozen? ⟨B, 7, none⟩ = false) := by
  have hl := (Array.getElem?_eq_some_iff.1 hr).1
  have hr9 : w9.heap[B]? = some (.cells #[.int .i64 0, .string ⟨#[]⟩, .int .i64 0, .string ⟨#[]⟩, .string ⟨#[]⟩, .bool false, .int .i64 0, .string ⟨#[]⟩] T (0, 0)) := by rw [hb.block _ hl]; exact hr
  have hc : ∀ j, w9.cell? ⟨B, j, none⟩ = (#[.int .i64 0, .string ⟨#[]⟩, .int .i64 0, .string ⟨#[]⟩, .string ⟨#[]⟩, .bool false, .int .i64 0, .string ⟨#[]⟩] : Array Value)[j]? := fun j => cell_of_row _ _ j _ _ _ hr9
  have hf : ∀ j, w9.frozen? ⟨B, j, none⟩ = false := fun j => frozen_of_row _ _ j _ _ hr9
  exact ⟨⟨hc 0, hc 1, hc 2, hc 3, hc 4, hc 5, hc 6, hc 7⟩, hf 0, hf 1, hf 2, hf 3, hf 4, hf 5, hf 6, hf 7⟩
attribute [local go_sem ↓] Go.wp_at_zero Go.wp_at_succ
set_option maxHeartbeats 4000000 in
set_option maxRecDepth 100000 in
theorem sourcesValues_at (k : Nat) (hk : k < 5) (v : Value) (l : List UInt8) (n : Int) (hn0 : 0 ≤ n) (hn1 : n ≤ 255) (hnk : n % 5 = k) (c : UInt8) (w : World) (hE : Env w) (hl : SlB w v l) :
    Calls Tryz.prog 4 #[v, .int .u8 n, .int .u8 c.toNat] w (RBool true w) := by
  have hc := byte_lt c
  have Hnk := Lib.hid hnk
  clear hnk
  go_enter Tryz.func4, Tryz.ntmps4
  go_wp2_with fail
  refine (letters_any v l ⟨#[43, 47, 45, 95]⟩ (by decide) w hl).mono ?_
  rintro e w1 ⟨u, rfl, hu, hb1⟩
  have hua : Lz.allB Lz.isLetter u.data.toList = true := by
    rw [hu.out]; exact Lz.letters_all _ _ _ (by decide) (by decide)
  have huz : u.size ≤ 40 := by rw [← len_of_size, hu.out]; exact Lz.letters_len _ _
  have Hua := Lib.hid hua
  clear hua hu hl
  have hk' : n.tmod 5 = k := by rw [Int.tmod_eq_emod_of_nonneg hn0]; exact Hnk.out
  have hhd : ((w1.alloc hdObj).cell? ⟨w1.heap.size, k, none⟩) = some (.string (hdB k)) := by
    unfold hdObj
    rw [World.cell?_alloc_mark]
    obtain rfl | rfl | rfl | rfl | rfl : k = 0 ∨ k = 1 ∨ k = 2 ∨ k = 3 ∨ k = 4 := by omega
    all_goals rfl
  unfold hdObj at hhd
  have hhz := hdB_size k hk
  obtain ⟨kd, hkd⟩ : ∃ kd : Int, kd = Lz.kindAt k := ⟨_, rfl⟩
  obtain ⟨bt, hbt⟩ : ∃ bt : Int, bt = Lz.bitAt k := ⟨_, rfl⟩
  have cP : ∀ (t : ByteArray) (W : World), t.data.toList = 39 :: (Lz.headAt k ++ u.data.toList ++ [61, 39]) → Env W → Calls Tryz.prog 15 #[.string t] W fun e w' => e = .returned (.tuple #[.agg #[.int .i64 kd, .string (u ++ ⟨#[61]⟩), .int .i64 bt, .string ⟨#[]⟩, .string ⟨#[]⟩, .bool false, .int .i64 (-1), .string ⟨#[]⟩], .int .i64 0]) ∧ Below W.heap.size W w' := by
    intro t W ht hW
    have hp : Lz.parseS t.data.toList = some ⟨kd, (u ++ ⟨#[61]⟩ : ByteArray).data.toList, bt, [], [], false, -1, []⟩ := by
      rw [ht, hkd, hbt, append_data']
      exact Lz.val_yes k hk _ Hua.out
    have htz : t.size ≤ 1048576 := by
      rw [← len_of_size, ht, ← hdB_data]
      simp only [List.length_cons, List.length_append, List.length_nil, len_of_size]
      omega
    exact Parse_yes t htz _ hp W hW
  have CP := Lib.hid cP
  have Hkd := Lib.hid hkd
  have Hbt := Lib.hid hbt
  clear cP hkd hbt
  have hxa : Below w.heap.size w (w1.alloc hdObj) := hb1.alloc hb1.size _
  go_wp2_with fail
  refine (CP.out _ _ (by simp [hdB_data]) (hE.below hxa)).mono ?_
  rintro e w2 ⟨rfl, hb2⟩
  have hV : VR w w1.heap.size w2.heap.size kd bt (u ++ ⟨#[61]⟩) (w2.alloc (.cells #[.int .i64 kd, .string (u ++ ⟨#[61]⟩), .int .i64 bt, .string ⟨#[]⟩, .string ⟨#[]⟩, .bool false, .int .i64 (-1), .string ⟨#[]⟩] 28)) := by
    have h1 := alloc_row_one hb2
    exact ⟨by rw [Below.heap_alloc _ _ _ (Array.getElem?_eq_some_iff.1 h1).1]; exact h1, alloc_row (Below.refl _ _), (below_call hxa hb2).alloc (below_call hxa hb2).size _⟩
  obtain ⟨odd, hodd⟩ : ∃ odd, odd = Lz.oddV c := ⟨_, rfl⟩
  have Hodd := Lib.hid hodd
  clear hodd hb1 hb2 hxa hhd hk'
  go_upto_region 5 with fail
  go_cut [12] (fun s12 wx => s12 = .bool odd ∧ VR w w1.heap.size w2.heap.size kd bt (u ++ ⟨#[61]⟩) wx)
  case first =>
    obtain ⟨lo, hi, t1, t2, t3, t4, t5, hm, u1, u2, h44, h46, h61, h95, hv⟩ := odd_cases c
    simp only [oddWays, List.mem_cons, Prod.mk.injEq, List.not_mem_nil, or_false] at hm
    rcases hm with ⟨rfl, rfl, rfl, rfl, rfl, rfl, rfl⟩ | ⟨rfl, rfl, rfl, rfl, rfl, rfl, rfl⟩ | ⟨rfl, rfl, rfl, rfl, rfl, rfl, rfl⟩ | ⟨rfl, rfl, rfl, rfl, rfl, rfl, rfl⟩ | ⟨rfl, rfl, rfl, rfl, rfl, rfl, rfl⟩ | ⟨rfl, rfl, rfl, rfl, rfl, rfl, rfl⟩ | ⟨rfl, rfl, rfl, rfl, rfl, rfl, rfl⟩ | ⟨rfl, rfl, rfl, rfl, rfl, rfl, rfl⟩ | ⟨rfl, rfl, rfl, rfl, rfl, rfl, rfl⟩ | ⟨rfl, rfl, rfl, rfl, rfl, rfl, rfl⟩ | ⟨rfl, rfl, rfl, rfl, rfl, rfl, rfl⟩
    all_goals
      have HV := Lib.hid (Hodd.out.trans hv)
      clear hv
      go_wp2_with fail
      go_meet
      exact ⟨by first | (rw [HV.out]; done) | (rw [HV.out]; congr 1; simp; omega), hV⟩
  case rest =>
    clear hV
    obtain ⟨rfl, hV⟩ := hcut
    have hhd := hV.head hk
    obtain ⟨m, hm⟩ : ∃ m : Nat, m = u.size / 2 := ⟨_, rfl⟩
    have cQ : ∀ (t : ByteArray) (W : World), t.data.toList = 39 :: (Lz.headAt k ++ u.data.toList.take m ++ [c] ++ u.data.toList.drop m ++ [39]) → VR w w1.heap.size w2.heap.size kd bt (u ++ ⟨#[61]⟩) W → Calls Tryz.prog 15 #[.string t] W
        fun e w' => ∃ (z : SrcB) (f : Int), e = .returned (.tuple #[z.val, .int .i64 f]) ∧ Hid (odd = true → f = 250) ∧ VR w w1.heap.size w2.heap.size kd bt (u ++ ⟨#[61]⟩) w' ∧ Below W.heap.size W w' := by
      intro t W ht hW
      have htz : t.size ≤ 1048576 := by
        rw [← len_of_size, ht, ← hdB_data]
        simp only [List.length_cons, List.length_append, List.length_nil, List.length_take, List.length_drop, len_of_size]
        omega
      refine (Parse_any t htz W (hE.below hW.below)).mono ?_
      rintro e w' ⟨z, he, _, hb⟩
      refine ⟨z, _, he, ?_, hW.call hb, hb⟩
      show _ → _
      intro ho
      have : Lz.parseS t.data.toList = none := by rw [ht]; exact Lz.val_no k hk _ _ c (by rw [← Hodd.out]; exact ho)
      simp [parseE, this]
    have CQ := Lib.hid cQ
    clear cQ
    have hcv : ∀ (W : World) (B : Nat), W.cell? ⟨B, 0, none⟩ = some (.int .u8 c.toNat) → (convert 22 9 (.slice (some ⟨B, 0, none⟩) 1 1)).run Tryz.prog W = .ok (.string ⟨#[c]⟩) W := by
      intro W B h
      exact run_convert_bytes_back (P := Tryz.prog) W 22 9 5 ⟨B, 0, none⟩ 1 [c] Tryz.underlying22 Tryz.underlying5 Tryz.underlying9 (by
        intro j hj
        have : j = 0 := by simpa using hj
        subst this
        rw [addr_add]; exact h)
    have hq0 : ((u.size : Int).tdiv 2) = (m : Int) := by rw [Int.tdiv_eq_ediv_of_nonneg (by omega)]; omega
    have hq00 : (u.size : Int) / 2 = (m : Int) := by omega
    have hqw : IntKind.i64.wrap (m : Int) = (m : Int) := IntWalk.i64_in _ (by omega)
    have hq1 : (0 : Int) ≤ (m : Int) := by omega
    have hq2 : (m : Int) ≤ u.size := by omega
    have hk0 : (0 : Int) ≤ (k : Int) := by omega
    have hk1 : (k : Int) < 5 := by omega
    have hz1 := extract_size_le u 0 m
    have hz2 := extract_size_le u m u.size
    clear hm
    go_upto_region 6 with fail
    go_cut [13, 14] (fun s13 s14 wx => ∃ f : Int, s14 = .int .i64 f ∧ Hid (odd = true → f = 250) ∧ VR w w1.heap.size w2.heap.size kd bt (u ++ ⟨#[61]⟩) wx)
    case first =>
      have hc1 : ¬ (9223372036854775807 < 1 + (hdB k).size) := by omega
      have hc2 : ¬ (9223372036854775807 < 1 + (hdB k).size + min m u.size) := by omega
      have hc3 : ¬ (9223372036854775807 < 1 + (hdB k).size + min m u.size + 1) := by omega
      have hc4 : ¬ (9223372036854775807 < 1 + (hdB k).size + min m u.size + 1 + (u.size - m)) := by omega
      have hc5 : ¬ (9223372036854775807 < 1 + (hdB k).size + min m u.size + 1 + (u.size - m) + 1) := by omega
      have hlt : w1.heap.size < wc.heap.size := (Array.getElem?_eq_some_iff.1 hV.hd).1
      have hlt2 : w2.heap.size < wc.heap.size := (Array.getElem?_eq_some_iff.1 hV.src).1
      have hlt3 := hV.below.size
      have HV := Lib.hid hV
      clear hV
      have hV0 := HV.out.drew
      generalize hwd : wc = wd at *
      have hcvA : ∀ (W : World) (T : TypeId) (fr : Nat × Nat), (convert 22 9 (.slice (some ⟨W.heap.size, 0, none⟩) 1 1)).run Tryz.prog (W.alloc (.cells #[.int .u8 c.toNat] T fr)).drew = .ok (.string ⟨#[c]⟩) (W.alloc (.cells #[.int .u8 c.toNat] T fr)).drew := fun W T fr => hcv _ _ (World.cell?_alloc_mark W #[.int .u8 c.toNat] T fr 0)
      have hcvB : ∀ (W : World) (o : Obj) (T : TypeId) (fr : Nat × Nat), (convert 22 9 (.slice (some ⟨W.heap.size + 1, 0, none⟩) 1 1)).run Tryz.prog ((W.alloc o).alloc (.cells #[.int .u8 c.toNat] T fr)).drew = .ok (.string ⟨#[c]⟩) ((W.alloc o).alloc (.cells #[.int .u8 c.toNat] T fr)).drew := fun W o T fr => hcv _ _ (by have := World.cell?_alloc_mark (W.alloc o) #[.int .u8 c.toNat] T fr 0; simpa using this)
      have hcvC : ∀ (W : World) (T : TypeId) (fr : Nat × Nat), (convert 22 9 (.slice (some ⟨W.heap.size, 0, none⟩) 1 1)).run Tryz.prog (W.drew.alloc (.cells #[.int .u8 c.toNat] T fr)) = .ok (.string ⟨#[c]⟩) (W.drew.alloc (.cells #[.int .u8 c.toNat] T fr)) := fun W T fr => hcv _ _ (World.cell?_alloc_mark W.drew #[.int .u8 c.toNat] T fr 0)
      have hcvD : ∀ (W : World) (o : Obj) (T : TypeId) (fr : Nat × Nat), (convert 22 9 (.slice (some ⟨W.heap.size + 1, 0, none⟩) 1 1)).run Tryz.prog ((W.drew.alloc o).alloc (.cells #[.int .u8 c.toNat] T fr)) = .ok (.string ⟨#[c]⟩) ((W.drew.alloc o).alloc (.cells #[.int .u8 c.toNat] T fr)) := fun W o T fr => hcv _ _ (by have := World.cell?_alloc_mark (W.drew.alloc o) #[.int .u8 c.toNat] T fr 0; simpa using this)
      have hVw := HV.out
      have hkp : ∀ W, VR w w1.heap.size w2.heap.size kd bt (u ++ ⟨#[61]⟩) W → W.cell? ⟨w1.heap.size, k, none⟩ = some (.string (hdB k)) := fun W h => VR.head h hk
      refine wp_region_held_drew (S := fun W => W.cell? ⟨w1.heap.size, k, none⟩ = some (.string (hdB k))) (by kernel_rfl) (hkp _ (VR.drew hVw)) (fun hHeld => ?_)
      refine wpAnyH_take (i := 0) (oi := ({ dst := some 74, op := Op.move (Operand.tmp 8), type := 35, pos := "outright.go:103", after := #[], guard := none } : Oper)) (v := ?_) rfl (by kernel_rfl) (by kernel_rfl) (by kernel_rfl) (fun _ _ _ h => h) (Or.inl ⟨by rfl, ?_⟩) (by assumption) ?_
      rotate_left
      · ((intro W hSw; (try dsimp only at hSw); go_simp); try with_reducible rfl)
      (try simp only [Act.put, List.setIfInBounds_toArray, List.set_cons_zero, List.set_cons_succ])
      refine wpAnyH_take (i := 1) (oi := ({ dst := some 75, op := Op.move (Operand.tmp 9), type := 3, pos := "outright.go:103", after := #[], guard := none } : Oper)) (v := ?_) rfl (by kernel_rfl) (by kernel_rfl) (by kernel_rfl) (fun _ _ _ h => h) (Or.inl ⟨by rfl, ?_⟩) (by assumption) ?_
      rotate_left
      · ((intro W hSw; (try dsimp only at hSw); go_simp); try with_reducible rfl)
      (try simp only [Act.put, List.setIfInBounds_toArray, List.set_cons_zero, List.set_cons_succ])
      refine wpAnyH_take (i := 2) (oi := ({ dst := some 76, op := Op.indexAddr 35 (Operand.tmp 74) (Operand.tmp 75), type := 0, pos := "outright.go:103", after := #[{ on := 0, ground := Ground.data }, { on := 1, ground := Ground.data }], guard := none } : Oper)) (v := ?_) rfl (by kernel_rfl) (by kernel_rfl) (by kernel_rfl) (fun _ _ _ h => h) (Or.inl ⟨by rfl, ?_⟩) (by assumption) ?_
      rotate_left
      · ((intro W hSw; (try dsimp only at hSw); go_simp); try with_reducible rfl)
      (try simp only [Act.put, List.setIfInBounds_toArray, List.set_cons_zero, List.set_cons_succ])
      refine wpAnyH_take (i := 3) (oi := ({ dst := some 77, op := Op.load 9 (Operand.tmp 76), type := 9, pos := "outright.go:103", after := #[{ on := 2, ground := Ground.data }], guard := none } : Oper)) (v := ?_) rfl (by kernel_rfl) (by kernel_rfl) (by kernel_rfl) (fun _ _ _ h => h) (Or.inl ⟨by rfl, ?_⟩) (by assumption) ?_
      rotate_left
      · ((intro W hSw; (try dsimp only at hSw); go_simp); try with_reducible rfl)
      (try simp only [Act.put, List.setIfInBounds_toArray, List.set_cons_zero, List.set_cons_succ])
      refine wpAnyH_take (i := 4) (oi := ({ dst := some 78, op := Op.binOp BinOp.add 9 (Operand.const (Value.string { data := #[39] })) (Operand.tmp 77) 9, type := 9, pos := "outright.go:103", after := #[{ on := 3, ground := Ground.data }], guard := none } : Oper)) (v := ?_) rfl (by kernel_rfl) (by kernel_rfl) (by kernel_rfl) (fun _ _ _ h => h) (Or.inl ⟨by rfl, ?_⟩) (by assumption) ?_
      rotate_left
      · ((intro W hSw; (try dsimp only at hSw); go_simp); try with_reducible rfl)
      (try simp only [Act.put, List.setIfInBounds_toArray, List.set_cons_zero, List.set_cons_succ])
      refine wpAnyH_take (i := 5) (oi := ({ dst := some 79, op := Op.move (Operand.tmp 7), type := 9, pos := "outright.go:103", after := #[], guard := none } : Oper)) (v := ?_) rfl (by kernel_rfl) (by kernel_rfl) (by kernel_rfl) (fun _ _ _ h => h) (Or.inl ⟨by rfl, ?_⟩) (by assumption) ?_
      rotate_left
      · ((intro W hSw; (try dsimp only at hSw); go_simp); try with_reducible rfl)
      (try simp only [Act.put, List.setIfInBounds_toArray, List.set_cons_zero, List.set_cons_succ])
      refine wpAnyH_take (i := 6) (oi := ({ dst := some 80, op := Op.move (Operand.tmp 7), type := 9, pos := "outright.go:103", after := #[], guard := none } : Oper)) (v := ?_) rfl (by kernel_rfl) (by kernel_rfl) (by kernel_rfl) (fun _ _ _ h => h) (Or.inl ⟨by rfl, ?_⟩) (by assumption) ?_
      rotate_left
      · ((intro W hSw; (try dsimp only at hSw); go_simp); try with_reducible rfl)
      (try simp only [Act.put, List.setIfInBounds_toArray, List.set_cons_zero, List.set_cons_succ])
      refine wpAnyH_take (i := 7) (oi := ({ dst := some 81, op := Op.call { callee := Callee.builtin Builtin.len, args := #[Operand.tmp 80], argTypes := #[9] }, type := 3, pos := "outright.go:103", after := #[{ on := 6, ground := Ground.data }], guard := none } : Oper)) (v := ?_) rfl (by kernel_rfl) (by kernel_rfl) (by kernel_rfl) (fun _ _ _ h => h) (Or.inl ⟨by rfl, ?_⟩) (by assumption) ?_
      rotate_left
      · ((intro W hSw; (try dsimp only at hSw); go_simp); try with_reducible rfl)
      (try simp only [Act.put, List.setIfInBounds_toArray, List.set_cons_zero, List.set_cons_succ])
      refine wpAnyH_take (i := 8) (oi := ({ dst := some 82, op := Op.binOp BinOp.quo 3 (Operand.tmp 81) (Operand.const (Value.int IntKind.i64 2)) 3, type := 3, pos := "outright.go:103", after := #[{ on := 7, ground := Ground.data }], guard := none } : Oper)) (v := ?_) rfl (by kernel_rfl) (by kernel_rfl) (by kernel_rfl) (fun _ _ _ h => h) (Or.inl ⟨by rfl, ?_⟩) (by assumption) ?_
      rotate_left
      · ((intro W hSw; (try dsimp only at hSw); go_simp); try with_reducible rfl)
      (try simp only [Act.put, List.setIfInBounds_toArray, List.set_cons_zero, List.set_cons_succ])
      refine wpAnyH_take (i := 9) (oi := ({ dst := some 83, op := Op.slice 9 (Operand.tmp 79) none (some (Operand.tmp 82)) none, type := 9, pos := "outright.go:103", after := #[{ on := 5, ground := Ground.data }, { on := 8, ground := Ground.data }], guard := none } : Oper)) (v := ?_) rfl (by kernel_rfl) (by kernel_rfl) (by kernel_rfl) (fun _ _ _ h => h) (Or.inl ⟨by rfl, ?_⟩) (by assumption) ?_
      rotate_left
      · ((intro W hSw; (try dsimp only at hSw); go_simp); try with_reducible rfl)
      (try simp only [Act.put, List.setIfInBounds_toArray, List.set_cons_zero, List.set_cons_succ])
      refine wpAnyH_take (i := 10) (oi := ({ dst := some 84, op := Op.binOp BinOp.add 9 (Operand.tmp 78) (Operand.tmp 83) 9, type := 9, pos := "outright.go:103", after := #[{ on := 4, ground := Ground.data }, { on := 9, ground := Ground.data }], guard := none } : Oper)) (v := ?_) rfl (by kernel_rfl) (by kernel_rfl) (by kernel_rfl) (fun _ _ _ h => h) (Or.inl ⟨by rfl, ?_⟩) (by assumption) ?_
      rotate_left
      · ((intro W hSw; (try dsimp only at hSw); go_simp); try with_reducible rfl)
      (try simp only [Act.put, List.setIfInBounds_toArray, List.set_cons_zero, List.set_cons_succ])
      refine wpAnyH_take (i := 11) (oi := ({ dst := some 85, op := Op.move (Operand.tmp 2), type := 5, pos := "outright.go:103", after := #[], guard := none } : Oper)) (v := ?_) rfl (by kernel_rfl) (by kernel_rfl) (by kernel_rfl) (fun _ _ _ h => h) (Or.inl ⟨by rfl, ?_⟩) (by assumption) ?_
      rotate_left
      · ((intro W hSw; (try dsimp only at hSw); go_simp); try with_reducible rfl)
      (try simp only [Act.put, List.setIfInBounds_toArray, List.set_cons_zero, List.set_cons_succ])
      refine wpAnyH_take (i := 15) (oi := ({ dst := some 89, op := Op.move (Operand.tmp 7), type := 9, pos := "outright.go:103", after := #[], guard := none } : Oper)) (v := ?_) rfl (by kernel_rfl) (by kernel_rfl) (by kernel_rfl) (fun _ _ _ h => h) (Or.inl ⟨by rfl, ?_⟩) (by assumption) ?_
      rotate_left
      · ((intro W hSw; (try dsimp only at hSw); go_simp); try with_reducible rfl)
      (try simp only [Act.put, List.setIfInBounds_toArray, List.set_cons_zero, List.set_cons_succ])
      refine wpAnyH_take (i := 16) (oi := ({ dst := some 90, op := Op.move (Operand.tmp 7), type := 9, pos := "outright.go:103", after := #[], guard := none } : Oper)) (v := ?_) rfl (by kernel_rfl) (by kernel_rfl) (by kernel_rfl) (fun _ _ _ h => h) (Or.inl ⟨by rfl, ?_⟩) (by assumption) ?_
      rotate_left
      · ((intro W hSw; (try dsimp only at hSw); go_simp); try with_reducible rfl)
      (try simp only [Act.put, List.setIfInBounds_toArray, List.set_cons_zero, List.set_cons_succ])
      refine wpAnyH_take (i := 17) (oi := ({ dst := some 91, op := Op.call { callee := Callee.builtin Builtin.len, args := #[Operand.tmp 90], argTypes := #[9] }, type := 3, pos := "outright.go:103", after := #[{ on := 16, ground := Ground.data }], guard := none } : Oper)) (v := ?_) rfl (by kernel_rfl) (by kernel_rfl) (by kernel_rfl) (fun _ _ _ h => h) (Or.inl ⟨by rfl, ?_⟩) (by assumption) ?_
      rotate_left
      · ((intro W hSw; (try dsimp only at hSw); go_simp); try with_reducible rfl)
      (try simp only [Act.put, List.setIfInBounds_toArray, List.set_cons_zero, List.set_cons_succ])
      refine wpAnyH_take (i := 18) (oi := ({ dst := some 92, op := Op.binOp BinOp.quo 3 (Operand.tmp 91) (Operand.const (Value.int IntKind.i64 2)) 3, type := 3, pos := "outright.go:103", after := #[{ on := 17, ground := Ground.data }], guard := none } : Oper)) (v := ?_) rfl (by kernel_rfl) (by kernel_rfl) (by kernel_rfl) (fun _ _ _ h => h) (Or.inl ⟨by rfl, ?_⟩) (by assumption) ?_
      rotate_left
      · ((intro W hSw; (try dsimp only at hSw); go_simp); try with_reducible rfl)
      (try simp only [Act.put, List.setIfInBounds_toArray, List.set_cons_zero, List.set_cons_succ])
      refine wpAnyH_take (i := 19) (oi := ({ dst := some 93, op := Op.slice 9 (Operand.tmp 89) (some (Operand.tmp 92)) none none, type := 9, pos := "outright.go:103", after := #[{ on := 15, ground := Ground.data }, { on := 18, ground := Ground.data }], guard := none } : Oper)) (v := ?_) rfl (by kernel_rfl) (by kernel_rfl) (by kernel_rfl) (fun _ _ _ h => h) (Or.inl ⟨by rfl, ?_⟩) (by assumption) ?_
      rotate_left
      · ((intro W hSw; (try dsimp only at hSw); go_simp); try with_reducible rfl)
      (try simp only [Act.put, List.setIfInBounds_toArray, List.set_cons_zero, List.set_cons_succ])
      refine wpAnyH_ready (rs := [12, 26]) (by kernel_rfl) (by simp) ?_
      refine AllReadyH.cons (o := ({ dst := some 86, op := Op.buildSlice 22 1 #[(0, Operand.tmp 85)], type := 22, pos := "outright.go:103", after := #[{ on := 11, ground := Ground.data }], guard := none } : Oper)) rfl (fun K hK => ?_) ?_
      · go_simp
        refine hK.out _ _ (hkp _ (VR.drew (VR.alloc hVw _))) (fun hHeld => ?_)
        clear hK K
        (try simp only [Act.put, List.setIfInBounds_toArray, List.set_cons_zero, List.set_cons_succ])
        refine wpAnyH_weaken (S' := fun W => W.cell? ⟨w1.heap.size, k, none⟩ = some (.string (hdB k)) ∧ W.cell? ⟨wd.heap.size, 0, none⟩ = some (.int .u8 c.toNat)) (fun W h => h.1) ?_
        have hHeld2 := And.intro hHeld (fresh_cell wd (.int .u8 c.toNat) 5)
        refine wpAnyH_take (i := 13) (oi := ({ dst := some 87, op := Op.convert 22 9 (Operand.tmp 86), type := 9, pos := "outright.go:103", after := #[{ on := 12, ground := Ground.data }], guard := none } : Oper)) (v := ?_) rfl (by kernel_rfl) (by kernel_rfl) (by kernel_rfl) (fun _ _ _ h => h) (Or.inl ⟨by rfl, ?_⟩) (by assumption) ?_
        rotate_left
        · ((intro W hSw; have hcw := hcv W _ hSw.2; go_simp); try with_reducible rfl)
        (try simp only [Act.put, List.setIfInBounds_toArray, List.set_cons_zero, List.set_cons_succ])
        refine wpAnyH_take (i := 14) (oi := ({ dst := some 88, op := Op.binOp BinOp.add 9 (Operand.tmp 84) (Operand.tmp 87) 9, type := 9, pos := "outright.go:103", after := #[{ on := 10, ground := Ground.data }, { on := 13, ground := Ground.data }], guard := none } : Oper)) (v := ?_) rfl (by kernel_rfl) (by kernel_rfl) (by kernel_rfl) (fun _ _ _ h => h) (Or.inl ⟨by rfl, ?_⟩) (by assumption) ?_
        rotate_left
        · ((intro W hSw; (try dsimp only at hSw); go_simp); try with_reducible rfl)
        (try simp only [Act.put, List.setIfInBounds_toArray, List.set_cons_zero, List.set_cons_succ])
        refine wpAnyH_take (i := 20) (oi := ({ dst := some 94, op := Op.binOp BinOp.add 9 (Operand.tmp 88) (Operand.tmp 93) 9, type := 9, pos := "outright.go:103", after := #[{ on := 14, ground := Ground.data }, { on := 19, ground := Ground.data }], guard := none } : Oper)) (v := ?_) rfl (by kernel_rfl) (by kernel_rfl) (by kernel_rfl) (fun _ _ _ h => h) (Or.inl ⟨by rfl, ?_⟩) (by assumption) ?_
        rotate_left
        · ((intro W hSw; (try dsimp only at hSw); go_simp); try with_reducible rfl)
        (try simp only [Act.put, List.setIfInBounds_toArray, List.set_cons_zero, List.set_cons_succ])
        refine wpAnyH_take (i := 21) (oi := ({ dst := some 95, op := Op.binOp BinOp.add 9 (Operand.tmp 94) (Operand.const (Value.string { data := #[39] })) 9, type := 9, pos := "outright.go:103", after := #[{ on := 20, ground := Ground.data }], guard := none } : Oper)) (v := ?_) rfl (by kernel_rfl) (by kernel_rfl) (by kernel_rfl) (fun _ _ _ h => h) (Or.inl ⟨by rfl, ?_⟩) (by assumption) ?_
        rotate_left
        · ((intro W hSw; (try dsimp only at hSw); go_simp); try with_reducible rfl)
        (try simp only [Act.put, List.setIfInBounds_toArray, List.set_cons_zero, List.set_cons_succ])
        refine wpAnyH_ready (rs := [22, 26]) (by kernel_rfl) (by simp) ?_
        refine AllReadyH.cons (o := ({ dst := some 96, op := Op.call { callee := Callee.value (Operand.func 15), args := #[Operand.tmp 95], argTypes := #[9] }, type := 31, pos := "outright.go:103", after := #[{ on := 21, ground := Ground.data }], guard := none } : Oper)) rfl (fun K hK => ?_) ?_
        · skip
          go_simp
          go_at_call 15
          with_reducible refine (CQ.out _ _ ?_ ?_).mono ?_
          · simp [hdB_data]; exact take_drop u m
          · with_reducible exact VR.drew (VR.alloc hVw _)
          rintro e w9 ⟨⟨y1, y2, y3, y4, y5, y6, y7, y8⟩, f, rfl, hf, hV9, hb9⟩
          dsimp only [SrcB.val]
          have hsz9 := hb9.size
          simp at hsz9
          refine hK.out _ _ ⟨hkp _ hV9, keep9 hb9 hHeld2.2⟩ (fun hHeld => ?_)
          clear hK K
          (try simp only [Act.put, List.setIfInBounds_toArray, List.set_cons_zero, List.set_cons_succ])
          have hHeld9 := hHeld
          refine wpAnyH_take (i := 23) (oi := ({ dst := some 73, op := Op.move (Operand.tmp 96), type := 31, pos := "outright.go:103", after := #[{ on := 22, ground := Ground.data }], guard := none } : Oper)) (v := ?_) rfl (by kernel_rfl) (by kernel_rfl) (by kernel_rfl) (fun _ _ _ h => h) (Or.inl ⟨by rfl, ?_⟩) (by assumption) ?_
          rotate_left
          · ((intro W hSw; (try dsimp only at hSw); go_simp); try with_reducible rfl)
          (try simp only [Act.put, List.setIfInBounds_toArray, List.set_cons_zero, List.set_cons_succ])
          refine wpAnyH_take (i := 24) (oi := ({ dst := some 97, op := Op.extract (Operand.tmp 73) 0, type := 28, pos := "outright.go:103", after := #[{ on := 23, ground := Ground.data }], guard := none } : Oper)) (v := ?_) rfl (by kernel_rfl) (by kernel_rfl) (by kernel_rfl) (fun _ _ _ h => h) (Or.inl ⟨by rfl, ?_⟩) (by assumption) ?_
          rotate_left
          · ((intro W hSw; (try dsimp only at hSw); go_simp); try with_reducible rfl)
          (try simp only [Act.put, List.setIfInBounds_toArray, List.set_cons_zero, List.set_cons_succ])
          refine wpAnyH_take (i := 25) (oi := ({ dst := some 98, op := Op.extract (Operand.tmp 73) 1, type := 30, pos := "outright.go:103", after := #[{ on := 23, ground := Ground.data }, { on := 27, ground := Ground.gcOnly Departure.lateStores }], guard := none } : Oper)) (v := ?_) rfl (by kernel_rfl) (by kernel_rfl) (by kernel_rfl) (fun _ _ _ h => h) (Or.inl ⟨by rfl, ?_⟩) (by assumption) ?_
          rotate_left
          · ((intro W hSw; (try dsimp only at hSw); go_simp); try with_reducible rfl)
          (try simp only [Act.put, List.setIfInBounds_toArray, List.set_cons_zero, List.set_cons_succ])
          refine wpAnyH_ready (rs := [26]) (by kernel_rfl) (by simp) ?_
          refine AllReadyH.cons (o := ({ dst := some 13, op := Op.alloc 28, type := 0, pos := "outright.go:103", after := #[], guard := none } : Oper)) rfl (fun K hK => ?_) ?_
          · go_simp
            refine hK.out _ _ ⟨hkp _ (VR.alloc hV9 _), keepA hHeld.2⟩ (fun hHeld => ?_)
            clear hK K
            (try simp only [Act.put, List.setIfInBounds_toArray, List.set_cons_zero, List.set_cons_succ])
            refine wpAnyH_ready (rs := [27]) (by kernel_rfl) (by simp) ?_
            refine AllReadyH.cons (o := ({ dst := none, op := Op.store 28 (Operand.tmp 13) (Operand.tmp 97), type := 0, pos := "outright.go:103", after := #[{ on := 26, ground := Ground.data }, { on := 24, ground := Ground.data }, { on := 22, ground := Ground.chain }, { on := 0, ground := Ground.phase }, { on := 1, ground := Ground.phase }, { on := 2, ground := Ground.phase }, { on := 3, ground := Ground.phase }, { on := 4, ground := Ground.phase }, { on := 5, ground := Ground.phase }, { on := 6, ground := Ground.phase }, { on := 7, ground := Ground.phase }, { on := 8, ground := Ground.phase }, { on := 9, ground := Ground.phase }, { on := 10, ground := Ground.phase }, { on := 11, ground := Ground.phase }, { on := 12, ground := Ground.phase }, { on := 13, ground := Ground.phase }, { on := 14, ground := Ground.phase }, { on := 15, ground := Ground.phase }, { on := 16, ground := Ground.phase }, { on := 17, ground := Ground.phase }, { on := 18, ground := Ground.phase }, { on := 19, ground := Ground.phase }, { on := 20, ground := Ground.phase }, { on := 21, ground := Ground.phase }, { on := 22, ground := Ground.phase }, { on := 23, ground := Ground.phase }, { on := 24, ground := Ground.phase }, { on := 25, ground := Ground.textOnly Departure.lateStores }, { on := 26, ground := Ground.phase }], guard := none } : Oper)) rfl (fun K hK => ?_) ?_
            · go_simp
              refine hK.out _ _ ⟨hkp _ (VR.alloc hV9 _), keepA hHeld9.2⟩ (fun hHeld => ?_)
              clear hK K
              (try simp only [Act.put, List.setIfInBounds_toArray, List.set_cons_zero, List.set_cons_succ])
              refine wpAnyH_take (i := 28) (oi := ({ dst := some 14, op := Op.assign (Operand.tmp 98), type := 30, pos := "outright.go:103", after := #[{ on := 25, ground := Ground.data }, { on := 27, ground := Ground.chain }, { on := 0, ground := Ground.phase }, { on := 1, ground := Ground.phase }, { on := 2, ground := Ground.phase }, { on := 3, ground := Ground.phase }, { on := 4, ground := Ground.phase }, { on := 5, ground := Ground.phase }, { on := 6, ground := Ground.phase }, { on := 7, ground := Ground.phase }, { on := 8, ground := Ground.phase }, { on := 9, ground := Ground.phase }, { on := 10, ground := Ground.phase }, { on := 11, ground := Ground.phase }, { on := 12, ground := Ground.phase }, { on := 13, ground := Ground.phase }, { on := 14, ground := Ground.phase }, { on := 15, ground := Ground.phase }, { on := 16, ground := Ground.phase }, { on := 17, ground := Ground.phase }, { on := 18, ground := Ground.phase }, { on := 19, ground := Ground.phase }, { on := 20, ground := Ground.phase }, { on := 21, ground := Ground.phase }, { on := 22, ground := Ground.phase }, { on := 23, ground := Ground.phase }, { on := 24, ground := Ground.phase }, { on := 25, ground := Ground.phase }, { on := 26, ground := Ground.phase }, { on := 27, ground := Ground.phase }], guard := none } : Oper)) (v := ?_) rfl (by kernel_rfl) (by kernel_rfl) (by kernel_rfl) (fun _ _ _ h => h) (Or.inl ⟨by rfl, ?_⟩) (by assumption) ?_
              rotate_left
              · ((intro W hSw; (try dsimp only at hSw); go_simp); try with_reducible rfl)
              (try simp only [Act.put, List.setIfInBounds_toArray, List.set_cons_zero, List.set_cons_succ])
              refine wpAnyH_done (by kernel_rfl) ?_ _
              go_wp2_with fail
              go_meet
              exact ⟨f, rfl, hf, VR.alloc hV9 _⟩
            · exact AllReadyH.nil
          · exact AllReadyH.nil
        refine AllReadyH.cons (o := ({ dst := some 13, op := Op.alloc 28, type := 0, pos := "outright.go:103", after := #[], guard := none } : Oper)) rfl (fun K hK => ?_) ?_
        · go_simp
          refine hK.out _ _ ⟨hkp _ (VR.drew (VR.alloc (VR.alloc hVw _) _)), keepD hHeld2.2⟩ (fun hHeld => ?_)
          clear hK K
          (try simp only [Act.put, List.setIfInBounds_toArray, List.set_cons_zero, List.set_cons_succ])
          refine wpAnyH_ready (rs := [22]) (by kernel_rfl) (by simp) ?_
          refine AllReadyH.cons (o := ({ dst := some 96, op := Op.call { callee := Callee.value (Operand.func 15), args := #[Operand.tmp 95], argTypes := #[9] }, type := 31, pos := "outright.go:103", after := #[{ on := 21, ground := Ground.data }], guard := none } : Oper)) rfl (fun K hK => ?_) ?_
          · skip
            go_simp
            go_at_call 15
            with_reducible refine (CQ.out _ _ ?_ ?_).mono ?_
            · simp [hdB_data]; exact take_drop u m
            · with_reducible exact VR.drew (VR.alloc (VR.alloc hVw _) _)
            rintro e w9 ⟨⟨y1, y2, y3, y4, y5, y6, y7, y8⟩, f, rfl, hf, hV9, hb9⟩
            dsimp only [SrcB.val]
            obtain ⟨⟨hc0, hc1, hc2, hc3, hc4, hc5, hc6, hc7⟩, hf0, hf1, hf2, hf3, hf4, hf5, hf6, hf7⟩ := row8_facts hb9 (at_second wd #[.int .i64 0, .string ⟨#[]⟩, .int .i64 0, .string ⟨#[]⟩, .string ⟨#[]⟩, .bool false, .int .i64 0, .string ⟨#[]⟩] 28 _)
            have hsz9 := hb9.size
            simp at hsz9
            refine hK.out _ _ ⟨hkp _ hV9, keep9 hb9 hHeld.2⟩ (fun hHeld => ?_)
            clear hK K
            (try simp only [Act.put, List.setIfInBounds_toArray, List.set_cons_zero, List.set_cons_succ])
            have hHeld9 := hHeld
            refine wpAnyH_take (i := 23) (oi := ({ dst := some 73, op := Op.move (Operand.tmp 96), type := 31, pos := "outright.go:103", after := #[{ on := 22, ground := Ground.data }], guard := none } : Oper)) (v := ?_) rfl (by kernel_rfl) (by kernel_rfl) (by kernel_rfl) (fun _ _ _ h => h) (Or.inl ⟨by rfl, ?_⟩) (by assumption) ?_
            rotate_left
            · ((intro W hSw; (try dsimp only at hSw); go_simp); try with_reducible rfl)
            (try simp only [Act.put, List.setIfInBounds_toArray, List.set_cons_zero, List.set_cons_succ])
            refine wpAnyH_take (i := 24) (oi := ({ dst := some 97, op := Op.extract (Operand.tmp 73) 0, type := 28, pos := "outright.go:103", after := #[{ on := 23, ground := Ground.data }], guard := none } : Oper)) (v := ?_) rfl (by kernel_rfl) (by kernel_rfl) (by kernel_rfl) (fun _ _ _ h => h) (Or.inl ⟨by rfl, ?_⟩) (by assumption) ?_
            rotate_left
            · ((intro W hSw; (try dsimp only at hSw); go_simp); try with_reducible rfl)
            (try simp only [Act.put, List.setIfInBounds_toArray, List.set_cons_zero, List.set_cons_succ])
            refine wpAnyH_take (i := 25) (oi := ({ dst := some 98, op := Op.extract (Operand.tmp 73) 1, type := 30, pos := "outright.go:103", after := #[{ on := 23, ground := Ground.data }, { on := 27, ground := Ground.gcOnly Departure.lateStores }], guard := none } : Oper)) (v := ?_) rfl (by kernel_rfl) (by kernel_rfl) (by kernel_rfl) (fun _ _ _ h => h) (Or.inl ⟨by rfl, ?_⟩) (by assumption) ?_
            rotate_left
            · ((intro W hSw; (try dsimp only at hSw); go_simp); try with_reducible rfl)
            (try simp only [Act.put, List.setIfInBounds_toArray, List.set_cons_zero, List.set_cons_succ])
            refine wpAnyH_ready (rs := [27]) (by kernel_rfl) (by simp) ?_
            refine AllReadyH.cons (o := ({ dst := none, op := Op.store 28 (Operand.tmp 13) (Operand.tmp 97), type := 0, pos := "outright.go:103", after := #[{ on := 26, ground := Ground.data }, { on := 24, ground := Ground.data }, { on := 22, ground := Ground.chain }, { on := 0, ground := Ground.phase }, { on := 1, ground := Ground.phase }, { on := 2, ground := Ground.phase }, { on := 3, ground := Ground.phase }, { on := 4, ground := Ground.phase }, { on := 5, ground := Ground.phase }, { on := 6, ground := Ground.phase }, { on := 7, ground := Ground.phase }, { on := 8, ground := Ground.phase }, { on := 9, ground := Ground.phase }, { on := 10, ground := Ground.phase }, { on := 11, ground := Ground.phase }, { on := 12, ground := Ground.phase }, { on := 13, ground := Ground.phase }, { on := 14, ground := Ground.phase }, { on := 15, ground := Ground.phase }, { on := 16, ground := Ground.phase }, { on := 17, ground := Ground.phase }, { on := 18, ground := Ground.phase }, { on := 19, ground := Ground.phase }, { on := 20, ground := Ground.phase }, { on := 21, ground := Ground.phase }, { on := 22, ground := Ground.phase }, { on := 23, ground := Ground.phase }, { on := 24, ground := Ground.phase }, { on := 25, ground := Ground.textOnly Departure.lateStores }, { on := 26, ground := Ground.phase }], guard := none } : Oper)) rfl (fun K hK => ?_) ?_
            · go_simp
              refine hK.out _ _ ⟨hkp _ (VR.set8 hV9 (by omega) (by omega) (by omega) _ _ _ _ _ _ _ _), keepS hHeld9.2 (by omega)⟩ (fun hHeld => ?_)
              clear hK K
              (try simp only [Act.put, List.setIfInBounds_toArray, List.set_cons_zero, List.set_cons_succ])
              refine wpAnyH_take (i := 28) (oi := ({ dst := some 14, op := Op.assign (Operand.tmp 98), type := 30, pos := "outright.go:103", after := #[{ on := 25, ground := Ground.data }, { on := 27, ground := Ground.chain }, { on := 0, ground := Ground.phase }, { on := 1, ground := Ground.phase }, { on := 2, ground := Ground.phase }, { on := 3, ground := Ground.phase }, { on := 4, ground := Ground.phase }, { on := 5, ground := Ground.phase }, { on := 6, ground := Ground.phase }, { on := 7, ground := Ground.phase }, { on := 8, ground := Ground.phase }, { on := 9, ground := Ground.phase }, { on := 10, ground := Ground.phase }, { on := 11, ground := Ground.phase }, { on := 12, ground := Ground.phase }, { on := 13, ground := Ground.phase }, { on := 14, ground := Ground.phase }, { on := 15, ground := Ground.phase }, { on := 16, ground := Ground.phase }, { on := 17, ground := Ground.phase }, { on := 18, ground := Ground.phase }, { on := 19, ground := Ground.phase }, { on := 20, ground := Ground.phase }, { on := 21, ground := Ground.phase }, { on := 22, ground := Ground.phase }, { on := 23, ground := Ground.phase }, { on := 24, ground := Ground.phase }, { on := 25, ground := Ground.phase }, { on := 26, ground := Ground.phase }, { on := 27, ground := Ground.phase }], guard := none } : Oper)) (v := ?_) rfl (by kernel_rfl) (by kernel_rfl) (by kernel_rfl) (fun _ _ _ h => h) (Or.inl ⟨by rfl, ?_⟩) (by assumption) ?_
              rotate_left
              · ((intro W hSw; (try dsimp only at hSw); go_simp); try with_reducible rfl)
              (try simp only [Act.put, List.setIfInBounds_toArray, List.set_cons_zero, List.set_cons_succ])
              refine wpAnyH_done (by kernel_rfl) ?_ _
              go_wp2_with fail
              go_meet
              exact ⟨f, rfl, hf, VR.set8 hV9 (by omega) (by omega) (by omega) _ _ _ _ _ _ _ _⟩
            · exact AllReadyH.nil
          · exact AllReadyH.nil
        exact AllReadyH.nil
      refine AllReadyH.cons (o := ({ dst := some 13, op := Op.alloc 28, type := 0, pos := "outright.go:103", after := #[], guard := none } : Oper)) rfl (fun K hK => ?_) ?_
      · go_simp
        refine hK.out _ _ (hkp _ (VR.drew (VR.alloc hVw _))) (fun hHeld => ?_)
        clear hK K
        (try simp only [Act.put, List.setIfInBounds_toArray, List.set_cons_zero, List.set_cons_succ])
        refine wpAnyH_ready (rs := [12]) (by kernel_rfl) (by simp) ?_
        refine AllReadyH.cons (o := ({ dst := some 86, op := Op.buildSlice 22 1 #[(0, Operand.tmp 85)], type := 22, pos := "outright.go:103", after := #[{ on := 11, ground := Ground.data }], guard := none } : Oper)) rfl (fun K hK => ?_) ?_
        · go_simp
          refine hK.out _ _ (hkp _ (VR.drew (VR.alloc (VR.alloc hVw _) _))) (fun hHeld => ?_)
          clear hK K
          (try simp only [Act.put, List.setIfInBounds_toArray, List.set_cons_zero, List.set_cons_succ])
          refine wpAnyH_weaken (S' := fun W => W.cell? ⟨w1.heap.size, k, none⟩ = some (.string (hdB k)) ∧ W.cell? ⟨wd.heap.size + 1, 0, none⟩ = some (.int .u8 c.toNat)) (fun W h => h.1) ?_
          have hHeld2 := And.intro hHeld (fresh_cell2 wd (.cells #[.int .i64 0, .string ⟨#[]⟩, .int .i64 0, .string ⟨#[]⟩, .string ⟨#[]⟩, .bool false, .int .i64 0, .string ⟨#[]⟩] 28) (.int .u8 c.toNat) 5)
          refine wpAnyH_take (i := 13) (oi := ({ dst := some 87, op := Op.convert 22 9 (Operand.tmp 86), type := 9, pos := "outright.go:103", after := #[{ on := 12, ground := Ground.data }], guard := none } : Oper)) (v := ?_) rfl (by kernel_rfl) (by kernel_rfl) (by kernel_rfl) (fun _ _ _ h => h) (Or.inl ⟨by rfl, ?_⟩) (by assumption) ?_
          rotate_left
          · ((intro W hSw; have hcw := hcv W _ hSw.2; go_simp); try with_reducible rfl)
          (try simp only [Act.put, List.setIfInBounds_toArray, List.set_cons_zero, List.set_cons_succ])
          refine wpAnyH_take (i := 14) (oi := ({ dst := some 88, op := Op.binOp BinOp.add 9 (Operand.tmp 84) (Operand.tmp 87) 9, type := 9, pos := "outright.go:103", after := #[{ on := 10, ground := Ground.data }, { on := 13, ground := Ground.data }], guard := none } : Oper)) (v := ?_) rfl (by kernel_rfl) (by kernel_rfl) (by kernel_rfl) (fun _ _ _ h => h) (Or.inl ⟨by rfl, ?_⟩) (by assumption) ?_
          rotate_left
          · ((intro W hSw; (try dsimp only at hSw); go_simp); try with_reducible rfl)
          (try simp only [Act.put, List.setIfInBounds_toArray, List.set_cons_zero, List.set_cons_succ])
          refine wpAnyH_take (i := 20) (oi := ({ dst := some 94, op := Op.binOp BinOp.add 9 (Operand.tmp 88) (Operand.tmp 93) 9, type := 9, pos := "outright.go:103", after := #[{ on := 14, ground := Ground.data }, { on := 19, ground := Ground.data }], guard := none } : Oper)) (v := ?_) rfl (by kernel_rfl) (by kernel_rfl) (by kernel_rfl) (fun _ _ _ h => h) (Or.inl ⟨by rfl, ?_⟩) (by assumption) ?_
          rotate_left
          · ((intro W hSw; (try dsimp only at hSw); go_simp); try with_reducible rfl)
          (try simp only [Act.put, List.setIfInBounds_toArray, List.set_cons_zero, List.set_cons_succ])
          refine wpAnyH_take (i := 21) (oi := ({ dst := some 95, op := Op.binOp BinOp.add 9 (Operand.tmp 94) (Operand.const (Value.string { data := #[39] })) 9, type := 9, pos := "outright.go:103", after := #[{ on := 20, ground := Ground.data }], guard := none } : Oper)) (v := ?_) rfl (by kernel_rfl) (by kernel_rfl) (by kernel_rfl) (fun _ _ _ h => h) (Or.inl ⟨by rfl, ?_⟩) (by assumption) ?_
          rotate_left
          · ((intro W hSw; (try dsimp only at hSw); go_simp); try with_reducible rfl)
          (try simp only [Act.put, List.setIfInBounds_toArray, List.set_cons_zero, List.set_cons_succ])
          refine wpAnyH_ready (rs := [22]) (by kernel_rfl) (by simp) ?_
          refine AllReadyH.cons (o := ({ dst := some 96, op := Op.call { callee := Callee.value (Operand.func 15), args := #[Operand.tmp 95], argTypes := #[9] }, type := 31, pos := "outright.go:103", after := #[{ on := 21, ground := Ground.data }], guard := none } : Oper)) rfl (fun K hK => ?_) ?_
          · skip
            go_simp
            go_at_call 15
            with_reducible refine (CQ.out _ _ ?_ ?_).mono ?_
            · simp [hdB_data]; exact take_drop u m
            · with_reducible exact VR.drew (VR.alloc (VR.alloc hVw _) _)
            rintro e w9 ⟨⟨y1, y2, y3, y4, y5, y6, y7, y8⟩, f, rfl, hf, hV9, hb9⟩
            dsimp only [SrcB.val]
            obtain ⟨⟨hc0, hc1, hc2, hc3, hc4, hc5, hc6, hc7⟩, hf0, hf1, hf2, hf3, hf4, hf5, hf6, hf7⟩ := row8_facts hb9 (at_first wd #[.int .i64 0, .string ⟨#[]⟩, .int .i64 0, .string ⟨#[]⟩, .string ⟨#[]⟩, .bool false, .int .i64 0, .string ⟨#[]⟩] 28 _)
            have hsz9 := hb9.size
            simp at hsz9
            refine hK.out _ _ ⟨hkp _ hV9, keep9 hb9 hHeld2.2⟩ (fun hHeld => ?_)
            clear hK K
            (try simp only [Act.put, List.setIfInBounds_toArray, List.set_cons_zero, List.set_cons_succ])
            have hHeld9 := hHeld
            refine wpAnyH_take (i := 23) (oi := ({ dst := some 73, op := Op.move (Operand.tmp 96), type := 31, pos := "outright.go:103", after := #[{ on := 22, ground := Ground.data }], guard := none } : Oper)) (v := ?_) rfl (by kernel_rfl) (by kernel_rfl) (by kernel_rfl) (fun _ _ _ h => h) (Or.inl ⟨by rfl, ?_⟩) (by assumption) ?_
            rotate_left
            · ((intro W hSw; (try dsimp only at hSw); go_simp); try with_reducible rfl)
            (try simp only [Act.put, List.setIfInBounds_toArray, List.set_cons_zero, List.set_cons_succ])
            refine wpAnyH_take (i := 24) (oi := ({ dst := some 97, op := Op.extract (Operand.tmp 73) 0, type := 28, pos := "outright.go:103", after := #[{ on := 23, ground := Ground.data }], guard := none } : Oper)) (v := ?_) rfl (by kernel_rfl) (by kernel_rfl) (by kernel_rfl) (fun _ _ _ h => h) (Or.inl ⟨by rfl, ?_⟩) (by assumption) ?_
            rotate_left
            · ((intro W hSw; (try dsimp only at hSw); go_simp); try with_reducible rfl)
            (try simp only [Act.put, List.setIfInBounds_toArray, List.set_cons_zero, List.set_cons_succ])
            refine wpAnyH_take (i := 25) (oi := ({ dst := some 98, op := Op.extract (Operand.tmp 73) 1, type := 30, pos := "outright.go:103", after := #[{ on := 23, ground := Ground.data }, { on := 27, ground := Ground.gcOnly Departure.lateStores }], guard := none } : Oper)) (v := ?_) rfl (by kernel_rfl) (by kernel_rfl) (by kernel_rfl) (fun _ _ _ h => h) (Or.inl ⟨by rfl, ?_⟩) (by assumption) ?_
            rotate_left
            · ((intro W hSw; (try dsimp only at hSw); go_simp); try with_reducible rfl)
            (try simp only [Act.put, List.setIfInBounds_toArray, List.set_cons_zero, List.set_cons_succ])
            refine wpAnyH_ready (rs := [27]) (by kernel_rfl) (by simp) ?_
            refine AllReadyH.cons (o := ({ dst := none, op := Op.store 28 (Operand.tmp 13) (Operand.tmp 97), type := 0, pos := "outright.go:103", after := #[{ on := 26, ground := Ground.data }, { on := 24, ground := Ground.data }, { on := 22, ground := Ground.chain }, { on := 0, ground := Ground.phase }, { on := 1, ground := Ground.phase }, { on := 2, ground := Ground.phase }, { on := 3, ground := Ground.phase }, { on := 4, ground := Ground.phase }, { on := 5, ground := Ground.phase }, { on := 6, ground := Ground.phase }, { on := 7, ground := Ground.phase }, { on := 8, ground := Ground.phase }, { on := 9, ground := Ground.phase }, { on := 10, ground := Ground.phase }, { on := 11, ground := Ground.phase }, { on := 12, ground := Ground.phase }, { on := 13, ground := Ground.phase }, { on := 14, ground := Ground.phase }, { on := 15, ground := Ground.phase }, { on := 16, ground := Ground.phase }, { on := 17, ground := Ground.phase }, { on := 18, ground := Ground.phase }, { on := 19, ground := Ground.phase }, { on := 20, ground := Ground.phase }, { on := 21, ground := Ground.phase }, { on := 22, ground := Ground.phase }, { on := 23, ground := Ground.phase }, { on := 24, ground := Ground.phase }, { on := 25, ground := Ground.textOnly Departure.lateStores }, { on := 26, ground := Ground.phase }], guard := none } : Oper)) rfl (fun K hK => ?_) ?_
            · go_simp
              refine hK.out _ _ ⟨hkp _ (VR.set8 hV9 (by omega) (by omega) (by omega) _ _ _ _ _ _ _ _), keepS hHeld9.2 (by omega)⟩ (fun hHeld => ?_)
              clear hK K
              (try simp only [Act.put, List.setIfInBounds_toArray, List.set_cons_zero, List.set_cons_succ])
              refine wpAnyH_take (i := 28) (oi := ({ dst := some 14, op := Op.assign (Operand.tmp 98), type := 30, pos := "outright.go:103", after := #[{ on := 25, ground := Ground.data }, { on := 27, ground := Ground.chain }, { on := 0, ground := Ground.phase }, { on := 1, ground := Ground.phase }, { on := 2, ground := Ground.phase }, { on := 3, ground := Ground.phase }, { on := 4, ground := Ground.phase }, { on := 5, ground := Ground.phase }, { on := 6, ground := Ground.phase }, { on := 7, ground := Ground.phase }, { on := 8, ground := Ground.phase }, { on := 9, ground := Ground.phase }, { on := 10, ground := Ground.phase }, { on := 11, ground := Ground.phase }, { on := 12, ground := Ground.phase }, { on := 13, ground := Ground.phase }, { on := 14, ground := Ground.phase }, { on := 15, ground := Ground.phase }, { on := 16, ground := Ground.phase }, { on := 17, ground := Ground.phase }, { on := 18, ground := Ground.phase }, { on := 19, ground := Ground.phase }, { on := 20, ground := Ground.phase }, { on := 21, ground := Ground.phase }, { on := 22, ground := Ground.phase }, { on := 23, ground := Ground.phase }, { on := 24, ground := Ground.phase }, { on := 25, ground := Ground.phase }, { on := 26, ground := Ground.phase }, { on := 27, ground := Ground.phase }], guard := none } : Oper)) (v := ?_) rfl (by kernel_rfl) (by kernel_rfl) (by kernel_rfl) (fun _ _ _ h => h) (Or.inl ⟨by rfl, ?_⟩) (by assumption) ?_
              rotate_left
              · ((intro W hSw; (try dsimp only at hSw); go_simp); try with_reducible rfl)
              (try simp only [Act.put, List.setIfInBounds_toArray, List.set_cons_zero, List.set_cons_succ])
              refine wpAnyH_done (by kernel_rfl) ?_ _
              go_wp2_with fail
              go_meet
              exact ⟨f, rfl, hf, VR.set8 hV9 (by omega) (by omega) (by omega) _ _ _ _ _ _ _ _⟩
            · exact AllReadyH.nil
          · exact AllReadyH.nil
        · exact AllReadyH.nil
      exact AllReadyH.nil
    case rest =>
      clear hV hhd hq0 hq00 hqw hq1 hq2 hz1 hz2 hcv CQ
      obtain ⟨f, rfl, hf, hV⟩ := hcut
      obtain ⟨nn, hnn⟩ : ∃ nn : Bool, nn = decide (k = 0 ∨ k = 4) := ⟨_, rfl⟩
      have Hnn := Lib.hid hnn
      have h4 : (kd == 4) = nn := by
        rw [hnn, Hkd.out]
        unfold Lz.kindAt
        by_cases h : k = 0 ∨ k = 4
        · rw [if_pos h, decide_eq_true h]; rfl
        · rw [if_neg h, decide_eq_false h]; rfl
      have h5 : (kd == 5) = !nn := by
        rw [hnn, Hkd.out]
        unfold Lz.kindAt
        by_cases h : k = 0 ∨ k = 4
        · rw [if_pos h, decide_eq_true h]; rfl
        · rw [if_neg h, decide_eq_false h]; rfl
      clear hnn
      go_upto_region 7 with fail
      go_cut [15] (fun s15 wx => s15 = .bool nn ∧ VR w w1.heap.size w2.heap.size kd bt (u ++ ⟨#[61]⟩) wx)
      case first =>
        by_cases e0 : k = 0
        · have b0 : ((k : Int) == 0) = true := beq_iff_eq.2 (by omega)
          have HN : Hid (nn = true) := by show _ = _; rw [Hnn.out]; exact decide_eq_true (Or.inl e0)
          clear e0
          go_wp2_with fail
          go_meet
          exact ⟨by rw [HN.out], hV⟩
        · have b0 : ((k : Int) == 0) = false := beq_eq_false_iff_ne.2 (by omega)
          by_cases e4 : k = 4
          · have b4 : ((k : Int) == 4) = true := beq_iff_eq.2 (by omega)
            have HN : Hid (nn = true) := by show _ = _; rw [Hnn.out]; exact decide_eq_true (Or.inr e4)
            clear e0 e4
            go_wp2_with fail
            go_meet
            exact ⟨by rw [HN.out], hV⟩
          · have b4 : ((k : Int) == 4) = false := beq_eq_false_iff_ne.2 (by omega)
            have HN : Hid (nn = false) := by show _ = _; rw [Hnn.out]; exact decide_eq_false (by omega)
            clear e0 e4
            go_wp2_with fail
            go_meet
            exact ⟨by rw [HN.out], hV⟩
      case rest =>
        clear hV
        obtain ⟨rfl, hV⟩ := hcut
        have cb : (wc.alloc btObj).cell? ⟨wc.heap.size, k, none⟩ = some (.int .i64 bt) := by
          unfold btObj
          rw [World.cell?_alloc_mark, Hbt.out]
          obtain rfl | rfl | rfl | rfl | rfl : k = 0 ∨ k = 1 ∨ k = 2 ∨ k = 3 ∨ k = 4 := by omega
          all_goals rfl
        have hV2 := hV.alloc btObj
        unfold btObj at cb hV2
        have k0 := hV2.at 0
        have k1 := hV2.at 1
        have k2 := hV2.at 2
        simp at k0 k1 k2
        have hxB := hV2.below
        clear hV
        have hce : ¬ (9223372036854775807 < u.size + 1) := by omega
        go_wp2_with fail
        generalize wc.alloc (.cells #[.int .i64 0, .int .i64 256, .int .i64 384, .int .i64 512, .int .i64 0] 3) = w3 at k0 k1 k2 cb hxB ⊢
        clear hV2
        cases odd
        · cases nn
          all_goals
            refine wp_region_still_tail 42 (by kernel_rfl) (by kernel_rfl) ?_
            simp only [List.take_succ_cons, List.take_zero, List.drop_succ_cons, List.drop_zero]
            repeat still_step
            refine wpStill_nil ?_
            change wpList _ _ _ _ _ w3.drew
            go_wp2_with fail
            refine (reads_any _ (hE.below hxB.drew)).mono ?_
            rintro e w6 ⟨rfl, hb6⟩
            go_wp2
            go_ret
            exact ⟨rfl, below_call hxB.drew hb6⟩
        · have hf2 : (f == 250) = true := beq_iff_eq.2 (hf.out rfl)
          cases nn
          all_goals
            refine wp_region_still_tail 42 (by kernel_rfl) (by kernel_rfl) ?_
            simp only [List.take_succ_cons, List.take_zero, List.drop_succ_cons, List.drop_zero]
            repeat still_step
            refine wpStill_nil ?_
            change wpList _ _ _ _ _ w3.drew
            go_wp2_with fail
            refine (reads_any _ (hE.below hxB.drew)).mono ?_
            rintro e w6 ⟨rfl, hb6⟩
            go_wp2
            go_ret
            exact ⟨rfl, below_call hxB.drew hb6⟩
end Go.Proofs.YtkaejkjheajaaaaGreatDoor
