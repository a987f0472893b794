/-
  lazaretlaw07.HostsSix: it returns true, whatever the two addresses, and however the first is written.
-/
import Derived.Test.YtkaejkjheajaaaaGreatDoorKForm
import Derived.Test.YtkaejkjheajaaaaGreatDoorKFour
import Derived.Test.YtkaejkjheajaaaaGreatDoorHostT
import Derived.Laws.BitsAllLaws
import Derived.Laws.StructEq
import Derived.ChangeKeysEq
import Derived.Deep.RegionHeld3
import Derived.Deep.DrawnRows
namespace Lz
open Go

/-- What is written at a place: a piece, or the last two with dots. -/
def pieceD (a : List Nat) (pad dots : Bool) (j : Nat) : Bs := if dots && j == 6 then dottedP [a.getD 6 0 / 256, a.getD 6 0 % 256, a.getD 7 0 / 256, a.getD 7 0 % 256] else padP pad (hexD (a.getD j 0))
/-- What is written ahead of a place. -/
def preS (a : List Nat) (pad dots : Bool) (j : Nat) : Bs := joinP [58] ((sixL a pad dots).take j)
theorem preS_zero (a : List Nat) (pad dots : Bool) : preS a pad dots 0 = [] := rfl
theorem sixL_len {a : List Nat} (h8 : a.length = 8) (pad dots : Bool) : (sixL a pad dots).length = if dots then 7 else 8 := by
  unfold sixL
  cases dots <;> simp [h8]
theorem sixL_at {a : List Nat} (h8 : a.length = 8) (pad dots : Bool) {j : Nat} (hj : j < 8) (h7 : ¬ (dots = true ∧ j = 7)) : (sixL a pad dots)[j]? = some (pieceD a pad dots j) := by
  unfold sixL pieceD
  cases dots
  · simp [List.getD, List.getElem?_eq_getElem (show j < a.length by omega)]
  · have : j < 7 := by simp at h7; omega
    by_cases h6 : j = 6
    · subst h6
      rw [if_pos rfl, List.getElem?_append_right (by simp [h8]), if_pos (by simp)]
      simp [h8]
    · rw [if_pos rfl, List.getElem?_append_left (by simp [h8]; omega), if_neg (by simp [h6])]
      simp [List.getD, List.getElem?_take, List.getElem?_eq_getElem (show j < a.length by omega)]
      omega
theorem preS_step {a : List Nat} (h8 : a.length = 8) (pad dots : Bool) {j : Nat} (hj : j < 8) (h7 : ¬ (dots = true ∧ j = 7)) :
    preS a pad dots (j + 1) = (if 0 < j then preS a pad dots j ++ [58] else []) ++ pieceD a pad dots j := by
  have hat := sixL_at h8 pad dots hj h7
  unfold preS
  rw [List.take_add_one, hat]
  show joinP [58] ((sixL a pad dots).take j ++ [_]) = _
  by_cases h0 : 0 < j
  · rw [if_pos h0, joinC_snoc _ (by
      intro h
      have := congrArg List.length h
      rw [List.length_take, sixL_len h8] at this
      simp at this
      split at this <;> omega)]
  · obtain rfl : j = 0 := by omega
    rw [if_neg h0]
    rfl
theorem preS_seven {a : List Nat} (h8 : a.length = 8) (pad : Bool) : preS a pad true 8 = preS a pad true 7 := by
  unfold preS
  have := sixL_len h8 pad true
  rw [List.take_of_length_le (by rw [this]; simp), List.take_of_length_le (by rw [this]; simp)]
theorem preS_all {a : List Nat} (h8 : a.length = 8) (pad dots : Bool) : preS a pad dots 8 = sixT a pad dots := by
  unfold preS sixT
  rw [List.take_of_length_le (by rw [sixL_len h8]; split <;> omega)]
theorem padP_len {x : Bs} (pad : Bool) (h : x.length ≤ 4) : (padP pad x).length ≤ 4 := by
  unfold padP
  split
  · simp; omega
  · exact h
theorem padP_step {x : Bs} (h : x.length < 4) : padP true (48 :: x) = padP true x := by
  unfold padP
  simp only [if_true, List.length_cons]
  rw [show 4 - x.length = (4 - (x.length + 1)) + 1 by omega, List.replicate_succ', List.append_assoc]
  rfl
theorem padP_end {x : Bs} (h : ¬ x.length < 4) : padP true x = x := by
  unfold padP
  rw [if_pos rfl, show 4 - x.length = 0 by omega]
  rfl
theorem cols_drop (s : Bs) (i : Nat) (c d : UInt8) (hc : s[i]? = some c) (hd : s[i + 1]? = some d) : cols (s.drop i) = (if c == 58 && d == 58 then 1 else 0) + cols (s.drop (i + 1)) := by
  have h1 := List.getElem?_eq_some_iff.1 hc
  have h2 := List.getElem?_eq_some_iff.1 hd
  obtain ⟨l1, e1⟩ := h1
  obtain ⟨l2, e2⟩ := h2
  rw [List.drop_eq_getElem_cons l1, List.drop_eq_getElem_cons l2, e1, e2, cols]
end Lz
namespace Go.Proofs.YtkaejkjheajaaaaGreatDoor
open Go.RowKit
attribute [local go_sem ↓] Go.wp_at_zero Go.wp_at_succ

/-- Eight pieces lie in a block. -/
structure RowOf (w : World) (B : Nat) (l : List Nat) : Prop where
  lt : B < w.heap.size
  c : ∀ j x, l[j]? = some x → w.cell? ⟨B, j, none⟩ = some (.int .u16 (x : Nat))
theorem RowOf.below {w w' : World} {B : Nat} {l : List Nat} (h : RowOf w B l) (hb : Below w.heap.size w w') : RowOf w' B l :=
  ⟨Nat.lt_of_lt_of_le h.lt hb.size, fun j x hj => by rw [hb.cell (p := ⟨B, j, none⟩) h.lt]; exact h.c j x hj⟩
theorem RowOf.at {w : World} {B : Nat} {l : List Nat} (h : RowOf w B l) (h8 : l.length = 8) {j : Nat} (hj : j < 8) : w.cell? ⟨B, j, none⟩ = some (.int .u16 ((l.getD j 0 : Nat) : Int)) :=
  h.c j _ (by simp [List.getD, List.getElem?_eq_getElem (show j < l.length by omega)])
theorem rowOf_alloc (w : World) (l : List Nat) (T : TypeId) : RowOf (w.alloc (.cells (l.map fun n : Nat => Value.int .u16 (n : Int)).toArray T)) w.heap.size l :=
  ⟨by simp, fun j x hj => by rw [World.cell?_alloc_mark]; simp [hj]⟩
theorem getD_lt {l : List Nat} (h : ∀ n ∈ l, n < 65536) (j : Nat) : l.getD j 0 < 65536 := by
  unfold List.getD
  cases e : l[j]? with
  | none => simp
  | some x => exact h x (List.mem_of_getElem? e)
theorem and1 (m : Nat) (hm : m < 256) : bits .and .u8 (m : Int) 1 = if m % 2 = 1 then 1 else 0 := by
  rw [show (1 : Int) = ((1 : Nat) : Int) from rfl, u8_and_nat _ _ hm (by omega), Nat.and_one_is_mod]
  split <;> omega
theorem and2_bit : ∀ m : Fin 256, m.val &&& 2 = if m.val / 2 % 2 = 1 then 2 else 0 := by decide +kernel
theorem and2 (m : Nat) (hm : m < 256) : bits .and .u8 (m : Int) 2 = if m / 2 % 2 = 1 then 2 else 0 := by
  rw [show (2 : Int) = ((2 : Nat) : Int) from rfl, u8_and_nat _ _ hm (by omega), and2_bit ⟨m, hm⟩]
  show (((if m / 2 % 2 = 1 then 2 else 0 : Nat)) : Int) = _
  split <;> rfl

/-- What the region with the dots needs of a world. -/
def DotE (w1 W : World) : Prop := EnvH W ∧ Below w1.heap.size w1 W
def DotS (A x6 x7 : Nat) (w1 W : World) : Prop := W.cell? ⟨A, 6, none⟩ = some (.int .u16 (x6 : Int)) ∧ W.cell? ⟨A, 7, none⟩ = some (.int .u16 (x7 : Int)) ∧ DotE w1 W
theorem itoaS (b : Nat) (hb : b < 256) {A x6 x7 : Nat} {w1 W : World} (hA : A < w1.heap.size) (h : DotS A x6 x7 w1 W) : Calls Tryz.prog 14 #[.int .i64 b] W fun e w' => ∃ u : ByteArray, e = .returned (.string u) ∧ Hid (u.data.toList = Lib.decDigits b) ∧ u.size ≤ 3 ∧ DotS A x6 x7 w1 w' := by
  obtain ⟨h6, h7, hE, hbl⟩ := h
  refine (itoaB b hb W hE).mono ?_
  rintro e w' ⟨u, he, hu, hs, hb'⟩
  have hlt : A < W.heap.size := Nat.lt_of_lt_of_le hA hbl.size
  exact ⟨u, he, hu, hs, by rw [hb'.cell (p := ⟨A, 6, none⟩) hlt]; exact h6, by rw [hb'.cell (p := ⟨A, 7, none⟩) hlt]; exact h7, hE.below hb', below_call hbl hb'⟩
theorem parseSixH (u : ByteArray) (a : List Nat) (sp : Bool) (h : Lz.sixP u.data.toList = some a) (hz : u.size ≤ 1000) (w : World) (hE : EnvH w) : Calls Tryz.prog 21 #[.string ((⟨#[91]⟩ : ByteArray) ++ u ++ (⟨#[93]⟩ : ByteArray)), .bool sp] w fun e w' =>
    ∃ t : ByteArray, e = .returned (.tuple #[.string t, .int .i64 0]) ∧ Hid (t.data.toList = [91] ++ Lz.textP a ++ [93]) ∧ Below w.heap.size w w' := by
  have hd : ((⟨#[91]⟩ : ByteArray) ++ u ++ (⟨#[93]⟩ : ByteArray)).data.toList = [91] ++ u.data.toList ++ [93] := by rw [append_data', append_data']
  refine (ParseH_any _ sp ?_ ?_ w hE).mono ?_
  · rw [← len_of_size, hd]; simp; omega
  · intro _ h91
    rw [hd] at h91
    exact absurd rfl h91
  · rintro e w' ⟨t, he, ht, hb⟩
    rw [hd, Lz.six_host h sp] at he ht
    exact ⟨t, he, ht, hb⟩
theorem eqRow_items (a b : List Nat) (h8 : a.length = 8) (h8' : b.length = 8) (W : World) : ∀ is : List Nat, (∀ i ∈ is, i < 8) →
    (Op.eqItems 9999 24 1 (a.map fun n : Nat => Value.int .u16 (n : Int)).toArray (b.map fun n : Nat => Value.int .u16 (n : Int)).toArray is).run Tryz.prog W = .ok (is.all fun i => a.getD i 0 == b.getD i 0) W
  | [], _ => by simp [Op.eqItems]
  | i :: is, h => by
    have hi := h i (by simp)
    have ih := eqRow_items a b h8 h8' W is (fun j hj => h j (List.mem_cons_of_mem _ hj))
    have at1 : ∀ l : List Nat, l.length = 8 → (part 24 (l.map fun n : Nat => Value.int .u16 (n : Int)).toArray (i * 1)).run Tryz.prog W = .ok (.int .u16 ((l.getD i 0 : Nat) : Int)) W := by
      intro l hl
      refine run_part_plain W (by kernel_rfl) ?_
      simp [List.getD, List.getElem?_eq_getElem (show i < l.length by omega)]
    simp only [Op.eqItems, Sem.run_bind, at1 a h8, at1 b h8', Result.andThen_ok]
    rw [run_equalIn_int (w := W) 9998 24 .u16 .u16 _ _ Tryz.underlying24]
    simp only [Result.andThen_ok, List.all_cons]
    generalize a.getD i 0 = x
    generalize b.getD i 0 = y
    by_cases e : x = y
    · rw [e]; simp [ih]
    · have h1 : ((x : Int) == (y : Int)) = false := by
        rw [Bool.eq_false_iff]
        intro h
        have h' : (x : Int) = (y : Int) := by simpa using h
        omega
      have h2 : (x == y) = false := by simpa using e
      rw [h1, h2]
      simp
set_option maxRecDepth 100000 in
theorem eqRow (a b : List Nat) (h8 : a.length = 8) (h8' : b.length = 8) (W : World) : (Op.equalIn 10000 49 (.agg (a.map fun n : Nat => Value.int .u16 (n : Int)).toArray) (.agg (b.map fun n : Nat => Value.int .u16 (n : Int)).toArray)).run Tryz.prog W = .ok (decide (a = b)) W := by
  obtain ⟨i0, hi, _⟩ := Option.map_eq_some_iff.1 sizeU16
  refine (run_equalIn_array (w := W) 9999 _ _ Tryz.underlying49 hi).trans ?_
  rw [show Tryz.prog.cellsOf 24 = 1 by kernel_rfl, eqRow_items a b h8 h8' W _ (by simp)]
  congr 1
  by_cases e : a = b
  · subst e; simp
  · rw [decide_eq_false e, Bool.eq_false_iff]
    intro h
    apply e
    apply List.ext_getElem (by omega)
    intro i h1 h2
    have := List.all_eq_true.1 h i (by simp; omega)
    simpa [List.getD, List.getElem?_eq_getElem h1, List.getElem?_eq_getElem h2] using this
theorem is_true2 (s h : ByteArray) (e0 : Int) (ho : isP s.data.toList true h.data.toList e0 = true) (hs : s.size ≤ 1000) (w0 w : World) (hE : EnvH w) (hb : Below w0.heap.size w0 w) :
    Calls Tryz.prog 22 #[.string s, .bool true, .string h, .int .i64 e0] w (RTrue true w0) := by
  refine (is_any s true h e0 (by omega) (fun h => by cases h) w hE).mono ?_
  rintro e w' ⟨he, hb'⟩
  rw [ho] at he
  exact ⟨he, hE.below hb', below_call hb hb'⟩
/-- A whole row is loaded, behind a guard that holds. -/
theorem load_row_g {ops : Array Oper} {rest : List Oper} {o : Oper} {a : Act} {w : World} {Q : Exit → Act → World → Prop} (hw : Region.wanted o (yielded ops a.tmps) = true) (x : Operand) (ho : o.op = .load 49 x)
    (g : Nat) (hx : a.eval x = .pointer (some ⟨g, 0, none⟩)) (cs : Array Value) (hg : w.heap[g]? = some (.cells cs 49 (0, 0))) (hs : cs.size = 8)
    (hk : wpList Tryz.prog ops Q rest (a.put o.dst (.agg cs)) w) : wpList Tryz.prog ops Q (o :: rest) a w :=
  wpList_step fun K hK => by
    rw [if_pos hw]
    exact wp_load_row 49 x ho g hx 49 cs (0, 0) _ hg Tryz.underlying49 rfl (by rw [show (Tryz.prog.info? 49).map (·.size) = some 8 by kernel_rfl, hs]) (hK _ _ hk)
def sizeS : Value → Nat
  | .string s => s.size
  | _ => 0
set_option maxHeartbeats 4000000 in
set_option maxRecDepth 100000 in
theorem hostsSix_go (a b : List Nat) (m : Nat) (ha : a.length = 8 ∧ ∀ n ∈ a, n < 65536) (hb : b.length = 8 ∧ ∀ n ∈ b, n < 65536) (hm : m < 256) (w : World) (hE : EnvH w) :
    Calls Tryz.prog 9 #[sixV a, sixV b, .int .u8 m] w (RBool true w) := by
  unfold sixV
  obtain ⟨pad, hpad⟩ : ∃ pad : Bool, pad = decide (m % 2 = 1) := ⟨_, rfl⟩
  obtain ⟨dots, hdots⟩ : ∃ dots : Bool, dots = decide (m / 2 % 2 = 1) := ⟨_, rfl⟩
  obtain ⟨p, hp, hpI⟩ : ∃ p : Int, bits .and .u8 (m : Int) 1 = p ∧ (p == 1) = pad := ⟨_, rfl, by rw [and1 m hm, hpad]; split <;> simp_all⟩
  obtain ⟨d, hd, hdI⟩ : ∃ d : Int, bits .and .u8 (m : Int) 2 = d ∧ (d == 2) = dots := ⟨_, rfl, by rw [and2 m hm, hdots]; split <;> simp_all⟩
  have hdN : (d != 2) = !dots := by rw [← hdI]; rfl
  obtain ⟨ca, hca⟩ : ∃ cs, cs = (a.map fun n : Nat => Value.int .u16 (n : Int)).toArray := ⟨_, rfl⟩
  obtain ⟨cb, hcb⟩ : ∃ cs, cs = (b.map fun n : Nat => Value.int .u16 (n : Int)).toArray := ⟨_, rfl⟩
  rw [← hca, ← hcb]
  have ra := rowOf_alloc w a 49
  rw [← hca] at ra
  have rb := rowOf_alloc (w.alloc (.cells ca 49)) b 49
  rw [← hcb] at rb
  have hb1 : Below w.heap.size w (w.alloc (.cells ca 49)) := (Below.refl _ w).alloc (Nat.le_refl _) _
  have hb2 : Below (w.alloc (.cells ca 49)).heap.size (w.alloc (.cells ca 49)) ((w.alloc (.cells ca 49)).alloc (.cells cb 49)) := (Below.refl _ _).alloc (Nat.le_refl _) _
  have ra2 := Lib.hid (ra.below hb2)
  have RB := Lib.hid rb
  have HB := Lib.hid (below_call hb1 hb2)
  have Hca := Lib.hid hca
  have Hcb := Lib.hid hcb
  have Ha := Lib.hid ha
  have Hb := Lib.hid hb
  clear ra rb hb1 hb2 hca hcb ha hb hpad hdots
  go_enter Tryz.func9, Tryz.ntmps9
  go_upto_region 1 with fail
  have ra := ra2.out
  have rb : RowOf ((w.alloc (.cells ca 49)).alloc (.cells cb 49)) (w.heap.size + 1) b := by
    have := RB.out
    rwa [show (w.alloc (.cells ca 49)).heap.size = w.heap.size + 1 by simp] at this
  have hb := HB.out
  have hra : ((w.alloc (.cells ca 49)).alloc (.cells cb 49)).heap[w.heap.size]? = some (.cells ca 49 (0, 0)) := by
    rw [heap_alloc_old _ _ (by simp)]; exact heap_alloc_new w _
  have hrb : ((w.alloc (.cells ca 49)).alloc (.cells cb 49)).heap[w.heap.size + 1]? = some (.cells cb 49 (0, 0)) := by
    have := heap_alloc_new (w.alloc (.cells ca 49)) (.cells cb 49 (0, 0))
    rwa [show (w.alloc (.cells ca 49)).heap.size = w.heap.size + 1 by simp] at this
  generalize (w.alloc (.cells ca 49)).alloc (.cells cb 49) = w0 at ra rb hb hra hrb ⊢
  clear ra2 RB HB
  obtain ⟨A, hA⟩ : ∃ A, A = w.heap.size := ⟨_, rfl⟩
  rw [← hA] at ra hra rb hrb
  have hE0 := hE.below hb
  have HA := Lib.hid hA
  have HRA := Lib.hid ra
  have HRB := Lib.hid rb
  have Hra := Lib.hid hra
  have Hrb := Lib.hid hrb
  simp only [← hA]
  clear hA ra rb hra hrb
  go_wp2_with fail
  go_loopw [7, 8, 9] (fun t o i wr => ∃ (j : Nat) (u v : ByteArray), j ≤ 8 ∧ t = .string u ∧ o = .string v ∧ i = .int .i64 j ∧ u.size ≤ 20 * j ∧ v.size ≤ 20 * j ∧ Hid (u.data.toList = Lz.preS a pad dots j) ∧ Hid (v.data.toList = Lz.preS b false false j) ∧ Below w0.heap.size w0 wr) (fun _ _ i _ => 8 - (intOf i).toNat)
  case atStart => exact ⟨0, ⟨#[]⟩, ⟨#[]⟩, Nat.zero_le _, rfl, rfl, rfl, Nat.le_refl _, Nat.le_refl _, Lib.hid rfl, Lib.hid rfl, Below.refl _ _⟩
  case round =>
    obtain ⟨j, u, v, hj, rfl, rfl, rfl, huz, hvz, hu, hv, hbr⟩ := hrel
    have hEr := hE0.below hbr
    by_cases hlt : j < 8
    · have hltI : (j : Int) < 8 := by omega
      have hj0 : (0 : Int) ≤ (j : Int) := by omega
      obtain ⟨x, hx⟩ : ∃ x, x = a.getD j 0 := ⟨_, rfl⟩
      obtain ⟨y, hy⟩ : ∃ y, y = b.getD j 0 := ⟨_, rfl⟩
      have hx6 : x < 65536 := by rw [hx]; exact getD_lt Ha.out.2 j
      have hy6 : y < 65536 := by rw [hy]; exact getD_lt Hb.out.2 j
      have hcx : wr.cell? ⟨A, j, none⟩ = some (.int .u16 (x : Int)) := by rw [hx]; exact (HRA.out.below hbr).at Ha.out.1 hlt
      have hxw : IntKind.u64.wrap (x : Int) = (x : Int) := wrap64 (by omega) (by omega)
      have hyw : IntKind.u64.wrap (y : Int) = (y : Int) := wrap64 (by omega) (by omega)
      have hEd : EnvH wr.drew := hEr.below (Below.refl _ _).drew
      have Hx := Lib.hid hx
      have Hy := Lib.hid hy
      clear hx hy
      go_wp2_with fail
      refine (FormatUint_16 x (by omega) _ hEr.db16).mono ?_
      rintro e w1 ⟨h, rfl, hh, hb1⟩
      have hh2 : Hid (h.data.toList = Lz.hexD x) := by show _ = _; rw [hh.out, Lz.baseD_hex]
      have hhz : h.size ≤ 4 := by rw [← len_of_size, hh2.out]; exact hexD4 hx6
      have hbr1 := below_call hbr hb1
      have hE1 := hEr.below hb1
      clear hh hcx hEd hb1 hbr hEr
      go_upto_if 28 with fail
      go_cut [10] (fun s10 wx => ∃ h2 : ByteArray, s10 = .string h2 ∧ Hid (h2.data.toList = Lz.padP pad (Lz.hexD x)) ∧ w1 = wx)
      case first =>
        cases pad
        · go_wp2_with fail
          go_meet
          exact ⟨h, rfl, by show _ = _; rw [hh2.out]; rfl, rfl⟩
        · go_wp2_with fail
          go_loopw [10] (fun t wr2 => ∃ h2 : ByteArray, t = .string h2 ∧ h2.size ≤ 4 ∧ Hid (Lz.padP true h2.data.toList = Lz.padP true (Lz.hexD x)) ∧ w1 = wr2) (fun t _ => 4 - sizeS t)
          case atStart => exact ⟨h, rfl, hhz, by show _ = _; rw [hh2.out], rfl⟩
          case round =>
            obtain ⟨h3, rfl, hz3, hp3, rfl⟩ := hrel
            by_cases hl : h3.size < 4
            · have hlI : (h3.size : Int) < 4 := by omega
              have hn0 : ¬ (9223372036854775807 < 1 + h3.size) := by omega
              go_wp2_with fail
              go_roundw
              case rel => exact ⟨(⟨#[48]⟩ : ByteArray) ++ h3, rfl, by rw [ByteArray.size_append]; show 1 + h3.size ≤ 4; omega, by show _ = _; rw [show ((⟨#[48]⟩ : ByteArray) ++ h3).data.toList = 48 :: h3.data.toList by rw [append_data']; rfl, ← hp3.out]; exact Lz.padP_step (by rw [len_of_size]; exact hl), by first | trivial | rfl⟩
              case measure => show 4 - ((⟨#[48]⟩ : ByteArray) ++ h3).size < 4 - h3.size; rw [ByteArray.size_append]; show 4 - (1 + h3.size) < _; omega
            · have hlI : ¬ (h3.size : Int) < 4 := by omega
              go_wp2_with fail
              go_meet
              exact ⟨h3, rfl, by show _ = _; rw [← hp3.out, Lz.padP_end (by rw [len_of_size]; exact hl)], rfl⟩
      case rest =>
      clear hhz hh2
      obtain ⟨h2, rfl, hh2, rfl⟩ := hcut
      have hz2 : h2.size ≤ 4 := by rw [← len_of_size, hh2.out]; exact Lz.padP_len pad (hexD4 hx6)
      go_upto_if 35 with fail
      go_cut [7, 8] (fun s7 s8 wx => ∃ u1 v1 : ByteArray, s7 = .string u1 ∧ s8 = .string v1 ∧ Hid (u1.data.toList = if 0 < j then Lz.preS a pad dots j ++ [58] else []) ∧ Hid (v1.data.toList = if 0 < j then Lz.preS b false false j ++ [58] else []) ∧ u1.size ≤ 20 * j + 1 ∧ v1.size ≤ 20 * j + 1 ∧ w1 = wx)
      case first =>
        by_cases hj1 : 0 < j
        · have hj1I : (0 : Int) < (j : Int) := by omega
          have hn1 : ¬ (9223372036854775807 < u.size + 1) := by omega
          have hn2 : ¬ (9223372036854775807 < v.size + 1) := by omega
          go_wp2_with fail
          go_meet
          refine ⟨_, _, rfl, rfl, ?_, ?_, ?_, ?_, rfl⟩
          · show _ = _
            rw [append_data', hu.out, if_pos hj1]
          · show _ = _
            rw [append_data', hv.out, if_pos hj1]
          · rw [ByteArray.size_append]; show u.size + 1 ≤ _; omega
          · rw [ByteArray.size_append]; show v.size + 1 ≤ _; omega
        · have hj1I : ¬ (0 : Int) < (j : Int) := by omega
          have hj00 : Hid (j = 0) := by show _ = _; omega
          go_wp2_with fail
          go_meet
          refine ⟨_, _, rfl, rfl, ?_, ?_, by omega, by omega, rfl⟩
          · show _ = _
            rw [hu.out, if_neg hj1, hj00.out]; rfl
          · show _ = _
            rw [hv.out, if_neg hj1, hj00.out]; rfl
      case rest =>
      clear hu hv huz hvz
      obtain ⟨u1, v1, rfl, rfl, hu1, hv1, huz1, hvz1, rfl⟩ := hcut
      obtain ⟨q, hq⟩ : ∃ q : Bool, q = (dots && decide (j = 6)) := ⟨_, rfl⟩
      have Hq := Lib.hid hq
      clear hq
      go_upto_region 11 with fail
      go_cut [46] (fun s wx => s = .bool q ∧ w1 = wx)
      case first =>
        cases dots
        · have HQ : Hid (q = false) := by show _ = _; rw [Hq.out]; rfl
          go_wp2_with fail
          go_meet
          exact ⟨by rw [HQ.out], rfl⟩
        · have HQ : Hid (q = ((j : Int) == 6)) := by
            show _ = _
            rw [Hq.out]
            by_cases h : j = 6
            · subst h; rfl
            · rw [decide_eq_false h]; symm; simp; omega
          go_wp2_with fail
          go_meet
          exact ⟨by rw [HQ.out], rfl⟩
      case rest =>
      obtain ⟨rfl, rfl⟩ := hcut
      go_upto_if 46 with fail
      go_cut [10] (fun s10 wx => ∃ h3 : ByteArray, s10 = .string h3 ∧ Hid (h3.data.toList = Lz.pieceD a pad dots j) ∧ h3.size ≤ 15 ∧ Below w1.heap.size w1 wx)
      case first =>
        cases q
        · have hother : Hid (h2.data.toList = Lz.pieceD a pad dots j) := by
            have hno : ¬ (dots && decide (j = 6)) = true := by rw [← Hq.out]; simp
            show _ = _
            rw [hh2.out, Hx.out, Lz.pieceD, if_neg (by simpa using hno)]
          go_wp2_with fail
          go_meet
          exact ⟨h2, rfl, hother, by omega, Below.refl _ _⟩
        · have hj6 : Hid (dots = true ∧ j = 6) := by
            have := Hq.out.symm
            show _ ∧ _
            simpa using this
          have hlA : A < w1.heap.size := Nat.lt_of_lt_of_le HRA.out.lt hbr1.size
          obtain ⟨x6, hx6'⟩ : ∃ x6, x6 = a.getD 6 0 := ⟨_, rfl⟩
          obtain ⟨x7, hx7'⟩ : ∃ x7, x7 = a.getD 7 0 := ⟨_, rfl⟩
          have h6l : x6 < 65536 := by rw [hx6']; exact getD_lt Ha.out.2 6
          have h7l : x7 < 65536 := by rw [hx7']; exact getD_lt Ha.out.2 7
          have hS : DotS A x6 x7 w1 w1.drew := by
            have r := (HRA.out.below hbr1).below (Below.refl _ w1).drew
            refine ⟨by rw [hx6']; exact r.at Ha.out.1 (by omega), by rw [hx7']; exact r.at Ha.out.1 (by omega), hE1.below (Below.refl _ _).drew, (Below.refl _ _).drew⟩
          obtain ⟨p6, hp6⟩ : ∃ p6, p6 = x6 / 256 := ⟨_, rfl⟩
          obtain ⟨q6, hq6⟩ : ∃ q6, q6 = x6 % 256 := ⟨_, rfl⟩
          obtain ⟨p7, hp7⟩ : ∃ p7, p7 = x7 / 256 := ⟨_, rfl⟩
          obtain ⟨q7, hq7⟩ : ∃ q7, q7 = x7 % 256 := ⟨_, rfl⟩
          have HD : Hid (Lz.pieceD a pad dots j = Lz.dottedP [p6, q6, p7, q7]) := by
            show _ = _
            obtain ⟨e1, e2⟩ := hj6.out
            subst e2
            rw [Lz.pieceD, e1, hp6, hq6, hp7, hq7, hx6', hx7']; rfl
          have hP6 : (x6 : Int) / 256 = (p6 : Int) := by omega
          have hP7 : (x7 : Int) / 256 = (p7 : Int) := by omega
          have hQ6 : bits .and .u16 (x6 : Int) 255 = (q6 : Int) := by
            rw [show (255 : Int) = ((255 : Nat) : Int) from rfl, u16_and_nat _ _ h6l (by omega), nat_mask8, hq6]
          have hQ7 : bits .and .u16 (x7 : Int) 255 = (q7 : Int) := by
            rw [show (255 : Int) = ((255 : Nat) : Int) from rfl, u16_and_nat _ _ h7l (by omega), nat_mask8, hq7]
          have l1 : p6 < 256 := by omega
          have l2 : q6 < 256 := by omega
          have l3 : p7 < 256 := by omega
          have l4 : q7 < 256 := by omega
          have k1 : IntKind.i64.wrap (p6 : Int) = (p6 : Int) := IntWalk.i64_in _ (by omega)
          have k2 : IntKind.i64.wrap (q6 : Int) = (q6 : Int) := IntWalk.i64_in _ (by omega)
          have k3 : IntKind.i64.wrap (p7 : Int) = (p7 : Int) := IntWalk.i64_in _ (by omega)
          have k4 : IntKind.i64.wrap (q7 : Int) = (q7 : Int) := IntWalk.i64_in _ (by omega)
          clear hp6 hq6 hp7 hq7 hx6' hx7'
          go_wp2_with fail
          go_region_held3 (fun W => W.cell? ⟨A, 6, none⟩ = some (.int .u16 (x6 : Int)) ∧ W.cell? ⟨A, 7, none⟩ = some (.int .u16 (x7 : Int)) ∧ DotE w1 W) (assumption) (first
            | (go_at_call_of 14 (Value.int .i64 (p6 : Int)); refine (itoaS p6 l1 hlA (by assumption)).mono ?_; rintro e w2 ⟨t3, rfl, ht3, hs3, hS2⟩; have n1 : ¬ (9223372036854775807 < t3.size + 1) := (by omega))
            | (go_at_call_of 14 (Value.int .i64 (q6 : Int)); refine (itoaS q6 l2 hlA (by assumption)).mono ?_; rintro e w3 ⟨t2, rfl, ht2, hs2, hS3⟩; have n2 : ¬ (9223372036854775807 < t3.size + 1 + t2.size) := (by omega); have n3 : ¬ (9223372036854775807 < t3.size + 1 + t2.size + 1) := (by omega))
            | (go_at_call_of 14 (Value.int .i64 (p7 : Int)); refine (itoaS p7 l3 hlA (by assumption)).mono ?_; rintro e w4 ⟨t1, rfl, ht1, hs1, hS4⟩; have n4 : ¬ (9223372036854775807 < t3.size + 1 + t2.size + 1 + t1.size) := (by omega); have n5 : ¬ (9223372036854775807 < t3.size + 1 + t2.size + 1 + t1.size + 1) := (by omega))
            | (go_at_call_of 14 (Value.int .i64 (q7 : Int)); refine (itoaS q7 l4 hlA (by assumption)).mono ?_; rintro e w5 ⟨t0, rfl, ht0, hs0, hS5⟩; have n6 : ¬ (9223372036854775807 < t3.size + 1 + t2.size + 1 + t1.size + 1 + t0.size) := (by omega)))
          go_wp2_with fail
          go_meet
          exact ⟨_, rfl, by show _ = _; rw [HD.out]; exact append4 ht3.out ht2.out ht1.out ht0.out, append4_size hs3 hs2 hs1 hs0, hS5.2.2.2⟩
      case rest =>
      clear hh2 hz2
      obtain ⟨h3, rfl, hh3, hz3, hb3⟩ := hcut
      have hbw := below_call hbr1 hb3
      have hEw := hE1.below hb3
      clear hb3 hbr1 hE1 Hq q
      obtain ⟨q, hq⟩ : ∃ q : Bool, q = (!dots || decide (j < 7)) := ⟨_, rfl⟩
      have Hq := Lib.hid hq
      clear hq
      go_upto_region 13 with fail
      go_cut [79] (fun s wx => s = .bool q ∧ wc = wx)
      case first =>
        cases dots
        · have HQ : Hid (q = true) := by show _ = _; rw [Hq.out]; rfl
          go_wp2_with fail
          go_meet
          exact ⟨by rw [HQ.out], rfl⟩
        · by_cases h7 : j < 7
          · have HQ : Hid (q = true) := by show _ = _; rw [Hq.out, decide_eq_true h7]; rfl
            have h7I : (j : Int) < 7 := by omega
            go_wp2_with fail
            go_meet
            exact ⟨by rw [HQ.out], rfl⟩
          · have HQ : Hid (q = false) := by show _ = _; rw [Hq.out, decide_eq_false h7]; rfl
            have h7I : ¬ (j : Int) < 7 := by omega
            go_wp2_with fail
            go_meet
            exact ⟨by rw [HQ.out], rfl⟩
      case rest =>
      obtain ⟨rfl, rfl⟩ := hcut
      go_upto_if 79 with fail
      go_cut [7] (fun s wx => ∃ u2 : ByteArray, s = .string u2 ∧ Hid (u2.data.toList = Lz.preS a pad dots (j + 1)) ∧ u2.size ≤ 20 * (j + 1) ∧ wc = wx)
      case first =>
        cases q
        · have h7 : Hid (dots = true ∧ j = 7) := by
            have := Hq.out.symm
            simp at this
            exact ⟨this.1, by omega⟩
          have hz1 : 1 ≤ u1.size := by
            rw [← len_of_size, hu1.out, if_pos (by have := h7.out.2; omega), List.length_append]
            exact Nat.le_add_left _ _
          have hzI : (1 : Int) ≤ (u1.size : Int) := by omega
          obtain ⟨k, hk⟩ : ∃ k : Nat, k = u1.size - 1 := ⟨_, rfl⟩
          have hkw : IntKind.i64.wrap ((u1.size : Int) - 1) = (k : Int) := by rw [IntWalk.i64_in _ (by omega)]; omega
          have hkI : (u1.size : Int) - 1 = (k : Int) := by omega
          have hk0 : (0 : Int) ≤ (k : Int) := by omega
          have hkl : (k : Int) ≤ (u1.size : Int) := by omega
          have HX : Hid ((u1.extract 0 k).data.toList = Lz.preS a pad dots (j + 1)) := by
            obtain ⟨e1, e2⟩ := h7.out
            show _ = _
            rw [Lib.extract_data, hu1.out, if_pos (by omega), e2, e1, Lz.preS_seven Ha.out.1]
            have hl : (Lz.preS a pad true 7).length = k := by
              have := congrArg List.length hu1.out
              rw [len_of_size, if_pos (by omega), List.length_append, e2, e1] at this
              simp at this; omega
            rw [Nat.sub_zero, List.drop_zero, List.take_append_of_le_length (by omega), ← hl, List.take_length]
          clear hk
          go_wp2_with fail
          go_meet
          exact ⟨_, rfl, HX, by rw [ByteArray.size_extract]; omega, rfl⟩
        · have hn7 : ¬ (dots = true ∧ j = 7) := by
            rintro ⟨e1, e2⟩
            have := Hq.out
            rw [e1, e2] at this
            exact absurd this (by decide)
          have hn1 : ¬ (9223372036854775807 < u1.size + h3.size) := by omega
          go_wp2_with fail
          go_meet
          refine ⟨_, rfl, ?_, ?_, rfl⟩
          · show _ = _
            rw [append_data', hu1.out, hh3.out, Lz.preS_step Ha.out.1 pad dots hlt hn7]
          · rw [ByteArray.size_append]; omega
      case rest =>
      clear hu1 huz1 hh3 hz3 Hq
      obtain ⟨u2, rfl, hu2, huz2, rfl⟩ := hcut
      have hcy : wc.cell? ⟨A + 1, j, none⟩ = some (.int .u16 (y : Int)) := by rw [Hy.out]; exact (HRB.out.below hbw).at Hb.out.1 hlt
      go_wp2_with fail
      refine (FormatUint_16 y (by omega) _ hEw.db16).mono ?_
      rintro e w3 ⟨g, rfl, hg, hb3⟩
      have hg2 : g.data.toList = Lz.hexD y := by rw [hg.out, Lz.baseD_hex]
      have hgz : g.size ≤ 4 := by rw [← len_of_size, hg2]; exact hexD4 hy6
      have hn2 : ¬ (9223372036854775807 < v1.size + g.size) := by omega
      have HG : Hid ((v1 ++ g).data.toList = Lz.preS b false false (j + 1)) := by
        show _ = _
        rw [append_data', hv1.out, hg2, Lz.preS_step Hb.out.1 false false hlt (by simp), Hy.out]
        rfl
      have hb4 := below_call hbw hb3
      have hvz2 : (v1 ++ g).size ≤ 20 * (j + 1) := by rw [ByteArray.size_append]; omega
      clear hg hg2 hcy hb3 hbw hEw hv1
      go_wp2_with fail
      go_roundw
      case rel => exact ⟨j + 1, u2, v1 ++ g, by omega, rfl, rfl, by go_num, huz2, hvz2, hu2, HG, hb4⟩
      case measure => simp [intOf]; omega
    · have hjk : j = 8 := by omega
      have hltI : ¬ (j : Int) < 8 := by omega
      have hu8 : Lz.sixP u.data.toList = some a := by rw [hu.out, hjk, Lz.preS_all Ha.out.1]; exact Lz.six_written Ha.out.1 Ha.out.2 pad dots
      have hv8 : Lz.sixP v.data.toList = some b := by rw [hv.out, hjk, Lz.preS_all Hb.out.1]; exact Lz.six_written Hb.out.1 Hb.out.2 false false
      have hud : u.data.toList = Lz.sixT a pad dots := by rw [hu.out, hjk, Lz.preS_all Ha.out.1]
      have huz8 : u.size ≤ 160 := by omega
      have hvz8 : v.size ≤ 160 := by omega
      have n1 : ¬ (9223372036854775807 < 1 + u.size) := by omega
      have n2 : ¬ (9223372036854775807 < 1 + u.size + 1) := by omega
      have n3 : ¬ (9223372036854775807 < 1 + v.size) := by omega
      have n4 : ¬ (9223372036854775807 < 1 + v.size + 1) := by omega
      have cU := Lib.hid (fun W hW => parseSixH u a true hu8 (by omega) W hW)
      have cV := Lib.hid (fun W hW => parseSixH v b false hv8 (by omega) W hW)
      have Hud := Lib.hid hud
      clear hu8 hv8 hu hv hud huz hvz hjk hlt hj
      go_wp2_with fail
      refine (cU.out _ hEr).mono ?_
      rintro e w1 ⟨t1, rfl, ht1, hb1⟩
      have hbr1 := below_call hbr hb1
      have hE1 := hEr.below hb1
      clear hb1 hbr hEr
      go_wp2_with fail
      refine (cV.out _ hE1).mono ?_
      rintro e w2 ⟨t2, rfl, ht2, hb2⟩
      have hbr2 := below_call hbr1 hb2
      have hE2 := hE1.below hb2
      clear hb2 hbr1 hE1
      have htl : (Lz.textP a).length ≤ 100 := text_len a Ha.out.1 Ha.out.2
      have ht1z : t1.size ≤ 102 := by rw [← len_of_size, ht1.out]; simp; omega
      have hI : (Lz.ipP t1.data.toList == true && decide (t1.data.toList.length ≤ 1000)) = true := by
        rw [ht1.out, Lz.ip_six Ha.out]; simp; omega
      have hIs : isP t1.data.toList true t1.data.toList 0 = true := by
        have := isP_of (Lz.wrap_six a Ha.out.1 Ha.out.2 true) rfl rfl
        rw [ht1.out]; exact this
      obtain ⟨r, hr⟩ : ∃ r : Bool, r = decide (a = b) := ⟨_, rfl⟩
      have cEq : ∀ W, (Op.equalIn 10000 49 (.agg ca) (.agg cb)).run Tryz.prog W = .ok r W := by
        intro W
        rw [Hca.out, Hcb.out, hr]
        exact eqRow a b Ha.out.1 Hb.out.1 W
      have hgu : Tryz.prog.eqGuardType Tryz.prog.depth 49 = false := by kernel_rfl
      have hteq : (t1.toList == t2.toList) = r := by
        rw [hr, Bool.eq_iff_iff, decide_eq_true_eq, beq_iff_eq, Lib.toList_data, Lib.toList_data, ht1.out, ht2.out, Lz.text_inj Ha.out Hb.out]
      have hra2 : Hid (w2.heap[A]? = some (.cells ca 49 (0, 0))) := by
        show _ = _
        rw [hbr2.block A HRA.out.lt]; exact Hra.out
      have hrb2 : Hid (w2.heap[A + 1]? = some (.cells cb 49 (0, 0))) := by
        show _ = _
        rw [hbr2.block (A + 1) HRB.out.lt]; exact Hrb.out
      have hca8 : Hid (ca.size = 8) := by show _ = _; rw [Hca.out]; simp [Ha.out.1]
      have hcb8 : Hid (cb.size = 8) := by show _ = _; rw [Hcb.out]; simp [Hb.out.1]
      have CEQ := Lib.hid cEq
      clear hr htl cEq
      have hb2 := Below.refl w2.heap.size w2
      go_upto_region 19 with fail
      go_cut [134] (fun s wx => s = .bool false ∧ EnvH wx ∧ Below w2.heap.size w2 wx)
      case first =>
        have cEq := CEQ.out
        go_wp2_with (first
          | (refine load_row_g rfl _ rfl A rfl ca hra2.out hca8.out ?_)
          | (refine load_row_g rfl _ rfl (A + 1) rfl cb hrb2.out hcb8.out ?_)
          | (go_at_call 24; refine (ip_is _ true w2 _ (by assumption) (by assumption) (by assumption)).mono ?_; rintro e wn ⟨rfl, hEn, hbn⟩)
          | (go_at_call 22; refine (is_true2 _ _ _ (by assumption) (by omega) w2 _ (by assumption) (by assumption)).mono ?_; rintro e wn ⟨rfl, hEn, hbn⟩))
        go_meet
        exact ⟨rfl, by assumption, by assumption⟩
      case rest =>
      clear hb2 hE2 hteq hgu hra2 hrb2 CEQ hca8 hcb8 ht2 cU cV hI hIs
      obtain ⟨rfl, hE3, hb3⟩ := hcut
      have hb3' := below_call hbr2 hb3
      have hcols : Hid (Lz.cols t1.data.toList ≤ 1) := by show _ ≤ _; rw [ht1.out]; exact Lz.text_cols a
      have hsmall : Hid (∀ c ∈ t1.data.toList, (65 ≤ c && c ≤ 90) = false) := by show ∀ c ∈ _, _; rw [ht1.out]; exact Lz.text_small a
      clear hb3 hbr2 ht1
      go_wp2_with fail
      go_loopw [15, 16] (fun rn i wx => ∃ (R k : Nat), rn = .int .i64 R ∧ i = .int .i64 k ∧ k ≤ t1.size ∧ Hid (R + Lz.cols (t1.data.toList.drop k) ≤ 1) ∧ R ≤ 1 ∧ wc = wx) (fun _ i _ => t1.size - (intOf i).toNat)
      case atStart => exact ⟨0, 0, rfl, rfl, Nat.zero_le _, by show _ ≤ _; rw [List.drop_zero, Nat.zero_add]; exact hcols.out, by omega, rfl⟩
      case round =>
        obtain ⟨R, k, rfl, rfl, hk, hR, hR1, rfl⟩ := hrel
        have hkw : IntKind.i64.wrap ((k : Int) + 1) = (k : Int) + 1 := IntWalk.i64_in _ (by omega)
        have hk0 : (0 : Int) ≤ (k : Int) := by omega
        have hk1 : (0 : Int) ≤ (k : Int) + 1 := by omega
        have hk2 : ((k : Int) + 1).toNat = k + 1 := by omega
        by_cases hl : k + 1 < t1.size
        · have hlI : (k : Int) + 1 < (t1.size : Int) := by omega
          have hlI0 : (k : Int) < (t1.size : Int) := by omega
          have hl0 : k < t1.size := by omega
          obtain ⟨c, hc⟩ : ∃ c, c = t1[k] := ⟨_, rfl⟩
          obtain ⟨d, hd'⟩ : ∃ d, d = t1[k + 1] := ⟨_, rfl⟩
          have hgc := get_of_lt hl0
          have hgd := get_of_lt hl
          rw [← hc] at hgc
          rw [← hd'] at hgd
          have hcI : (t1[k].toNat : Int) = (c.toNat : Int) := by rw [hc]
          have hdI' : (t1[k + 1].toNat : Int) = (d.toNat : Int) := by rw [hd']
          have hstep := Lz.cols_drop t1.data.toList k c d hgc hgd
          have hsm := hsmall.out c (List.mem_of_getElem? hgc)
          obtain ⟨p1, hp1⟩ : ∃ p1, p1 = (c == 58) := ⟨_, rfl⟩
          obtain ⟨p2, hp2⟩ : ∃ p2, p2 = (d == 58) := ⟨_, rfl⟩
          have hc58 : ((c.toNat : Int) == 58) = p1 := by rw [hp1]; exact beqI c 58
          have hd58 : ((d.toNat : Int) == 58) = p2 := by rw [hp2]; exact beqI d 58
          have hRq := hR.out
          rw [hstep, ← hp1, ← hp2] at hRq
          obtain ⟨q, hq⟩ : ∃ q, q = (p1 && p2) := ⟨_, rfl⟩
          rw [← hq] at hRq
          have HRq := Lib.hid hRq
          have Hq := Lib.hid hq
          have Hsm := Lib.hid hsm
          have hRw : IntKind.i64.wrap ((R : Int) + 1) = (R : Int) + 1 := IntWalk.i64_in _ (by omega)
          clear hc hd' hgc hgd hstep hsm hp1 hp2 hRq hq hR
          go_upto_region 25 with fail
          go_cut [152] (fun s wx => s = .bool q ∧ wc = wx)
          case first =>
            cases p1
            · have HQ : Hid (q = false) := by show _ = _; rw [Hq.out]; rfl
              go_wp2_with fail
              go_meet
              exact ⟨by rw [HQ.out], rfl⟩
            · have HQ : Hid (q = p2) := by show _ = _; rw [Hq.out]; rfl
              go_wp2_with fail
              go_meet
              exact ⟨by rw [HQ.out], rfl⟩
          case rest =>
          obtain ⟨rfl, rfl⟩ := hcut
          clear Hq hc58 hd58
          go_upto_if 152 with fail
          obtain ⟨R2, hR2⟩ : ∃ R2 : Nat, R2 = R + (if q then 1 else 0) := ⟨_, rfl⟩
          have HR2 := Lib.hid hR2
          clear hR2
          go_cut [15] (fun s wx => s = .int .i64 (R2 : Int) ∧ wc = wx)
          case first =>
            cases q
            · have HX : Hid ((R2 : Int) = (R : Int)) := by
                show _ = _
                rw [HR2.out]; simp
              go_wp2_with fail
              go_meet
              exact ⟨by rw [HX.out], rfl⟩
            · have HX : Hid ((R2 : Int) = (R : Int) + 1) := by
                show _ = _
                rw [HR2.out]; simp
              go_wp2_with fail
              go_meet
              exact ⟨by rw [HX.out], rfl⟩
          case rest =>
          obtain ⟨rfl, rfl⟩ := hcut
          go_upto_region 27 with fail
          go_cut [164] (fun s wx => s = .bool false ∧ wc = wx)
          case first =>
            by_cases h65 : 65 ≤ (c.toNat : Int)
            · have h90 : ¬ (c.toNat : Int) ≤ 90 := by
                intro h90
                have := Hsm.out
                simp only [Bool.and_eq_false_iff, decide_eq_false_iff_not, UInt8.le_iff_toNat_le] at this
                have e1 : (65 : UInt8).toNat = 65 := rfl
                have e2 : (90 : UInt8).toNat = 90 := rfl
                omega
              have d1 := decide_eq_true h65
              have d2 := decide_eq_false h90
              go_wp2_with fail
              go_meet
              exact ⟨rfl, rfl⟩
            · have d1 := decide_eq_false h65
              go_wp2_with fail
              go_meet
              exact ⟨rfl, rfl⟩
          case rest =>
          obtain ⟨rfl, rfl⟩ := hcut
          go_wp2_with fail
          go_roundw
          case rel =>
            have hle : R2 + Lz.cols (t1.data.toList.drop (k + 1)) ≤ 1 := by
              have h1 := HRq.out
              have h2 := HR2.out
              rw [h2]
              cases q <;> simp at h1 ⊢ <;> omega
            exact ⟨R2, k + 1, rfl, by go_num, by omega, hle, by omega, trivial⟩
          case measure => simp [intOf]; omega
        · have hlI : ¬ (k : Int) + 1 < (t1.size : Int) := by omega
          have hR1I : (R : Int) ≤ 1 := by omega
          have hR1d := decide_eq_true hR1I
          have f1 : isP ((⟨#[91]⟩ : ByteArray) ++ u).data.toList true (⟨#[]⟩ : ByteArray).data.toList 72 = true := by
            have e : ((⟨#[91]⟩ : ByteArray) ++ u).data.toList = [91] ++ Lz.sixT a pad dots := by rw [append_data', Hud.out]
            rw [e]
            exact isP_of (n := 72) (Lz.six_open (Lz.six_last a pad dots)) rfl rfl
          have f2 : isP ((⟨#[91]⟩ : ByteArray) ++ u ++ (⟨#[58, 48, 93]⟩ : ByteArray)).data.toList true (⟨#[]⟩ : ByteArray).data.toList 72 = true := by
            have e : ((⟨#[91]⟩ : ByteArray) ++ u ++ (⟨#[58, 48, 93]⟩ : ByteArray)).data.toList = [91] ++ (Lz.sixT a pad dots ++ [58, 48]) ++ [93] := by
              rw [append_data', append_data', Hud.out]; simp
            rw [e]
            exact isP_of (n := 72) (Lz.six_more Ha.out.1 Ha.out.2 pad dots) rfl rfl
          have z1 : ((⟨#[91]⟩ : ByteArray) ++ u).size ≤ 1000 := by rw [ByteArray.size_append]; show 1 + u.size ≤ _; omega
          have z2 : ((⟨#[91]⟩ : ByteArray) ++ u ++ (⟨#[58, 48, 93]⟩ : ByteArray)).size ≤ 1000 := by rw [ByteArray.size_append, ByteArray.size_append]; show 1 + u.size + 3 ≤ _; omega
          have n5 : ¬ (9223372036854775807 < 1 + u.size + 3) := by omega
          have hbc := Below.refl wc.heap.size wc
          go_wp2_with (first
            | (go_at_call 22; refine (is_true2 _ _ _ (by assumption) (by assumption) wc _ (by assumption) (by assumption)).mono ?_; rintro e wn ⟨rfl, hEn, hbn⟩)
            | (go_at_call 20; refine (houses_true wc _ (by assumption) (by assumption)).mono ?_; rintro e wn ⟨rfl, hEn, hbn⟩))
          go_ret
          exact ⟨rfl, below_call hb (below_call hb3' (by assumption))⟩
end Go.Proofs.YtkaejkjheajaaaaGreatDoor
