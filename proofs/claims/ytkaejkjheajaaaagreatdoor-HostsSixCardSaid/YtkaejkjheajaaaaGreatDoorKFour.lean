/-
  lazaretlaw07.HostsFour: it returns true, whatever the address, and however it is written.
-/
import Derived.Test.YtkaejkjheajaaaaGreatDoorKForm
import Derived.Laws.BitsAllLaws
import Derived.Deep.RegionHeld3
import Derived.Deep.DrawnRows
namespace Go.Proofs.YtkaejkjheajaaaaGreatDoor
open Go.RowKit
attribute [local go_sem ↓] Go.wp_at_zero Go.wp_at_succ

/-- Four bytes lie in a block. -/
structure BoxOf (w : World) (B a0 a1 a2 a3 : Nat) : Prop where
  c0 : w.cell? ⟨B, 0, none⟩ = some (.int .u8 (a0 : Int))
  c1 : w.cell? ⟨B, 1, none⟩ = some (.int .u8 (a1 : Int))
  c2 : w.cell? ⟨B, 2, none⟩ = some (.int .u8 (a2 : Int))
  c3 : w.cell? ⟨B, 3, none⟩ = some (.int .u8 (a3 : Int))
theorem BoxOf.below {w w' : World} {B a0 a1 a2 a3 : Nat} (h : BoxOf w B a0 a1 a2 a3) (hB : B < w.heap.size) (hb : Below w.heap.size w w') : BoxOf w' B a0 a1 a2 a3 :=
  ⟨by rw [hb.cell (p := ⟨B, 0, none⟩) hB]; exact h.c0, by rw [hb.cell (p := ⟨B, 1, none⟩) hB]; exact h.c1, by rw [hb.cell (p := ⟨B, 2, none⟩) hB]; exact h.c2, by rw [hb.cell (p := ⟨B, 3, none⟩) hB]; exact h.c3⟩
theorem BoxOf.at {w : World} {B a0 a1 a2 a3 : Nat} (h : BoxOf w B a0 a1 a2 a3) (j : Nat) (hj : j < 4) : w.cell? ⟨B, j, none⟩ = some (.int .u8 (([a0, a1, a2, a3].getD j 0 : Nat) : Int)) := by
  obtain rfl | rfl | rfl | rfl : j = 0 ∨ j = 1 ∨ j = 2 ∨ j = 3 := by omega
  · exact h.c0
  · exact h.c1
  · exact h.c2
  · exact h.c3
/-- The labels ahead, each with its dot. -/
def preP (n : Nat) (ways : Nat → Nat) (j : Nat) : List UInt8 := (List.range j).flatMap fun i => Lz.formP (n / 2 ^ (24 - 8 * i) % 256) (ways i) ++ [46]
theorem preP_succ (n : Nat) (ways : Nat → Nat) (j : Nat) : preP n ways (j + 1) = preP n ways j ++ (Lz.formP (n / 2 ^ (24 - 8 * j) % 256) (ways j) ++ [46]) := by
  unfold preP; rw [List.range_succ, List.flatMap_append]; simp
theorem join_pre : ∀ (xs : List (List UInt8)) (z : List UInt8), Lz.joinP [46] (xs ++ [z]) = xs.flatMap (fun x => x ++ [46]) ++ z
  | [], z => rfl
  | x :: r, z => by
    have ih := join_pre r z
    cases r with
    | nil => simp [Lz.joinP]
    | cons y r =>
      show Lz.joinP [46] (x :: y :: (r ++ [z])) = _
      rw [Lz.joinP, show (y :: (r ++ [z]) : List (List UInt8)) = (y :: r) ++ [z] from rfl, ih]
      simp
theorem preP_join (n k : Nat) (ways : Nat → Nat) (z : List UInt8) : preP n ways (k - 1) ++ z = Lz.joinP [46] (Lz.aheadP n k ways ++ [z]) := by
  rw [join_pre]
  unfold preP Lz.aheadP
  rw [List.flatMap_map]
theorem and255 (m : Nat) (h : m < 4294967296) : bits .and .u32 (m : Int) 255 = ((m % 256 : Nat) : Int) := by
  rw [show (255 : Int) = ((255 : Nat) : Int) from rfl, u32_and_nat _ _ h (by omega), nat_mask8]
theorem div2 (n k : Nat) : (n : Int) / 2 ^ k = ((n / 2 ^ k : Nat) : Int) := by simp
theorem dlen3 {n : Nat} (h : n < 256) : (Lib.decDigits n).length ≤ 3 := by
  have := dec3 (UInt8.ofNat n)
  rwa [show (UInt8.ofNat n).toNat = n by simp; omega] at this
theorem mask_u64 (n k : Nat) (h : n < 4294967296) (hk : k ≤ 32) : bits .and .u64 (n : Int) (((2 ^ k - 1 : Nat)) : Int) = ((n % 2 ^ k : Nat) : Int) := by
  have : 2 ^ k ≤ 2 ^ 32 := Nat.pow_le_pow_right (by omega) hk
  rw [u64_and_nat _ _ (by omega) (by omega), Nat.and_two_pow_sub_one_eq_mod]
theorem itoaB (b : Nat) (hb : b < 256) (w : World) (hE : EnvH w) : Calls Tryz.prog 14 #[.int .i64 b] w fun e w' => ∃ u : ByteArray, e = .returned (.string u) ∧ Hid (u.data.toList = Lib.decDigits b) ∧ u.size ≤ 3 ∧ Below w.heap.size w w' := by
  refine (Itoa_h (b : Int) (by omega) (by omega) w hE).mono ?_
  rintro e w' ⟨u, he, hu, hb'⟩
  have hd : u.data.toList = Lib.decDigits b := by rw [hu.out, Lib.itoa_nonneg]
  exact ⟨u, he, Lib.hid hd, by rw [← len_of_size, hd]; exact dlen3 hb, hb'⟩
theorem isP_of {s h : List UInt8} {b : Bool} {n : Nat} {r : Lz.Res} (e : Lz.hostPr s b = r) (h1 : resT r = h) (h2 : resE r = n) : isP s b h (n : Int) = true := by
  unfold isP; rw [e, h1, h2]; simp
theorem append4 {t3 t2 t1 t0 : ByteArray} {b3 b2 b1 b0 : Nat} (h3 : t3.data.toList = Lib.decDigits b3) (h2 : t2.data.toList = Lib.decDigits b2) (h1 : t1.data.toList = Lib.decDigits b1) (h0 : t0.data.toList = Lib.decDigits b0) :
    (t3 ++ (⟨#[46]⟩ : ByteArray) ++ t2 ++ (⟨#[46]⟩ : ByteArray) ++ t1 ++ (⟨#[46]⟩ : ByteArray) ++ t0).data.toList = Lz.dottedP [b3, b2, b1, b0] := by
  simp only [append_data', h3, h2, h1, h0, Lz.dottedP, List.map, Lz.joinP, List.append_assoc]
theorem append4_size {t3 t2 t1 t0 : ByteArray} (h3 : t3.size ≤ 3) (h2 : t2.size ≤ 3) (h1 : t1.size ≤ 3) (h0 : t0.size ≤ 3) : (t3 ++ (⟨#[46]⟩ : ByteArray) ++ t2 ++ (⟨#[46]⟩ : ByteArray) ++ t1 ++ (⟨#[46]⟩ : ByteArray) ++ t0).size ≤ 15 := by
  simp only [ByteArray.size_append]
  show t3.size + 1 + t2.size + 1 + t1.size + 1 + t0.size ≤ 15
  omega
theorem houses_true (w0 w : World) (hE : EnvH w) (hb : Below w0.heap.size w0 w) : Calls Tryz.prog 20 #[] w (RTrue true w0) := by
  refine (houses_any w hE).mono ?_
  rintro e w' ⟨he, hb'⟩
  exact ⟨he, hE.below hb', below_call hb hb'⟩
theorem form_asc : ∀ c : UInt8, Lz.isForm c = true → c.toNat < 128 := Lz.byte_all (by decide +kernel)
theorem okIs_of {s h : List UInt8} {b : Bool} {n : Nat} {r : Lz.Res} (e : Lz.hostPr s b = r) (h1 : resT r = h) (h2 : resE r = n) (hl : s.length ≤ 1000) (ha : ∀ c ∈ s, c.toNat < 128) : okIs s b h (n : Int) = true := by
  unfold okIs
  rw [isP_of e h1 h2]
  simpa using ⟨hl, ha⟩
theorem okIs_ok {s h : List UInt8} {b : Bool} (e : Lz.hostPr s b = .ok h) (hl : s.length ≤ 1000) (ha : ∀ c ∈ s, c.toNat < 128) : okIs s b h 0 = true := okIs_of (n := 0) e rfl rfl hl ha
theorem okIs_er {s : List UInt8} {b : Bool} (e : Lz.hostPr s b = .er 71) (hl : s.length ≤ 1000) (ha : ∀ c ∈ s, c.toNat < 128) : okIs s b [] 71 = true := okIs_of (n := 71) e rfl rfl hl ha
/-- What the law asks of the two texts. -/
structure FourOk (s8 s11 s12 : ByteArray) : Prop where
  c1 : okIs s8.data.toList true s11.data.toList 0 = true
  c2 : okIs (s8 ++ (⟨#[46]⟩ : ByteArray)).data.toList true s11.data.toList 0 = true
  c3 : okIs s8.data.toList false s8.data.toList 0 = true
  c4 : okIs s12.data.toList true (⟨#[]⟩ : ByteArray).data.toList 71 = true
  c5 : okIs (s8 ++ (⟨#[46, 48, 46, 48, 46, 48, 46, 48]⟩ : ByteArray)).data.toList true (⟨#[]⟩ : ByteArray).data.toList 71 = true
  c6 : (Lz.ipP s11.data.toList == true && decide (s11.data.toList.length ≤ 1000)) = true
  z8 : s8.size ≤ 200
theorem fourOk (n k : Nat) (ways : Nat → Nat) (hk : 1 ≤ k ∧ k ≤ 4) (hn : n < 4294967296) (u x0 x1 s11 : ByteArray) (z y a3 : Nat) (hu : u.data.toList = preP n ways (k - 1)) (hx0 : x0.data.toList = Lz.formP z a3) (hx1 : x1.data.toList = Lz.formP y a3)
    (hz : z = Lz.lastV n k) (hy : y = Lz.lastV n k + 2 ^ (8 * (5 - k))) (ha : ways 3 = a3) (h11 : s11.data.toList = Lz.dottedP (Lz.bytes4 n)) (zu : u.size ≤ 100) (z0 : x0.size ≤ 20) (z1 : x1.size ≤ 20) (z11 : s11.size ≤ 15) : FourOk (u ++ x0) s11 (u ++ x1) := by
  have e8 : (u ++ x0).data.toList = Lz.joinP [46] (Lz.aheadP n k ways ++ [Lz.formP (Lz.lastV n k) (ways 3)]) := by rw [append_data', hu, hx0, preP_join, hz, ha]
  have e12 : (u ++ x1).data.toList = Lz.joinP [46] (Lz.aheadP n k ways ++ [Lz.formP (Lz.lastV n k + 2 ^ (8 * (5 - k))) (ways 3)]) := by rw [append_data', hu, hx1, preP_join, hy, ha]
  have l8 : (u ++ x0).data.toList.length ≤ 120 := by rw [append_data', List.length_append, len_of_size, len_of_size]; omega
  have l12 : (u ++ x1).data.toList.length ≤ 120 := by rw [append_data', List.length_append, len_of_size, len_of_size]; omega
  have asc : ∀ m, ∀ c ∈ Lz.joinP [46] (Lz.aheadP n k ways ++ [Lz.formP m (ways 3)]), c.toNat < 128 := by
    intro m c hc
    rcases Lz.join_chars (fun x hx => (Lz.ahead_form n k ways m (ways 3) x hx).2) c hc with h | rfl
    · exact form_asc c h
    · decide
  have a8 : ∀ c ∈ (u ++ x0).data.toList, c.toNat < 128 := by rw [e8]; exact asc _
  have a12 : ∀ c ∈ (u ++ x1).data.toList, c.toNat < 128 := by rw [e12]; exact asc _
  have f1 := Lz.four_says n k ways hk hn false
  have f2 := Lz.four_says n k ways hk hn true
  simp only [Bool.false_eq_true, if_false, if_true, List.append_nil] at f1 f2
  have f3 := Lz.other_forms (ls := Lz.aheadP n k ways ++ [Lz.formP (Lz.lastV n k) (ways 3)]) fun x hx => (Lz.ahead_form n k ways _ _ x hx).2
  have f4 := Lz.four_beyond n k ways hk
  have f5 := Lz.four_more n k ways
  rw [← e8] at f1 f3 f5
  rw [← e12] at f4
  rw [Lz.join_snoc _ (by simp) [], ← e8, List.append_nil] at f2
  rw [← h11] at f1 f2
  refine ⟨okIs_ok f1 (by omega) a8, okIs_ok (by rw [append_data']; exact f2) ?_ ?_, okIs_ok f3 (by omega) a8, okIs_er f4 (by omega) a12, okIs_er (by rw [append_data']; exact f5) ?_ ?_, ?_, ?_⟩
  · rw [append_data', List.length_append]; simp only [List.length_cons, List.length_nil]; omega
  · rw [append_data']; intro c hc; rcases List.mem_append.1 hc with h | h
    · exact a8 c h
    · simp at h; subst h; decide
  · rw [append_data', List.length_append]; simp only [List.length_cons, List.length_nil]; omega
  · rw [append_data']; intro c hc; rcases List.mem_append.1 hc with h | h
    · exact a8 c h
    · simp only [List.mem_cons, List.not_mem_nil, or_false] at h
      rcases h with rfl | rfl | rfl | rfl | rfl | rfl | rfl | rfl <;> decide
  · rw [h11, Lz.ip_dotted, ← h11, len_of_size]; simp; omega
  · rw [← len_of_size]; omega
set_option maxHeartbeats 4000000 in
set_option maxRecDepth 100000 in
theorem hostsFour_1 (n m : Nat) (a0 a1 a2 a3 : Nat) (hn : n < 4294967296) (hm : m < 256) (hk : m % 4 + 1 = 1) (ha0 : a0 < 256) (ha1 : a1 < 256) (ha2 : a2 < 256) (ha3 : a3 < 256) (w : World) (hE : EnvH w) :
    Calls Tryz.prog 8 #[.int .u32 n, .int .u8 m, .agg #[.int .u8 a0, .int .u8 a1, .int .u8 a2, .int .u8 a3]] w (RBool true w) := by
  obtain ⟨ways, hways⟩ : ∃ ways : Nat → Nat, ways = fun i => [a0, a1, a2, a3].getD i 0 := ⟨_, rfl⟩
  have Hways := Lib.hid hways
  have hkI : (m : Int) % 4 = 0 := by omega
  have hkI2 : (1 : Int) + 0 = 1 := by omega
  have Hn := Lib.hid hn
  have hnI : (n : Int) < 4294967296 := by omega
  clear hways hk hn
  have hb0 : Below w.heap.size w (w.alloc (.cells #[.int .u8 (a0 : Int), .int .u8 (a1 : Int), .int .u8 (a2 : Int), .int .u8 (a3 : Int)] 44)) := (Below.refl _ w).alloc (Nat.le_refl _) _
  have Hb0 := Lib.hid hb0
  clear hb0
  go_enter Tryz.func8, Tryz.ntmps8
  go_upto_region 1 with fail
  have hb0 := Hb0.out
  have hc0 : (w.alloc (.cells #[.int .u8 (a0 : Int), .int .u8 (a1 : Int), .int .u8 (a2 : Int), .int .u8 (a3 : Int)] 44)).cell? ⟨w.heap.size, 0, none⟩ = some (.int .u8 (a0 : Int)) := by rw [World.cell?_alloc_mark]; rfl
  have hc1 : (w.alloc (.cells #[.int .u8 (a0 : Int), .int .u8 (a1 : Int), .int .u8 (a2 : Int), .int .u8 (a3 : Int)] 44)).cell? ⟨w.heap.size, 1, none⟩ = some (.int .u8 (a1 : Int)) := by rw [World.cell?_alloc_mark]; rfl
  have hc2 : (w.alloc (.cells #[.int .u8 (a0 : Int), .int .u8 (a1 : Int), .int .u8 (a2 : Int), .int .u8 (a3 : Int)] 44)).cell? ⟨w.heap.size, 2, none⟩ = some (.int .u8 (a2 : Int)) := by rw [World.cell?_alloc_mark]; rfl
  have hc3 : (w.alloc (.cells #[.int .u8 (a0 : Int), .int .u8 (a1 : Int), .int .u8 (a2 : Int), .int .u8 (a3 : Int)] 44)).cell? ⟨w.heap.size, 3, none⟩ = some (.int .u8 (a3 : Int)) := by rw [World.cell?_alloc_mark]; rfl
  have hz0 : w.heap.size < (w.alloc (.cells #[.int .u8 (a0 : Int), .int .u8 (a1 : Int), .int .u8 (a2 : Int), .int .u8 (a3 : Int)] 44)).heap.size := by simp
  generalize w.alloc (.cells #[.int .u8 (a0 : Int), .int .u8 (a1 : Int), .int .u8 (a2 : Int), .int .u8 (a3 : Int)] 44) = wx at hb0 hc0 hc1 hc2 hc3 hz0 ⊢
  have HX := Lib.hid (⟨hc0, hc1, hc2, hc3⟩ : BoxOf wx w.heap.size a0 a1 a2 a3)
  clear hc0 hc1 hc2 hc3 Hb0
  go_wp2_with fail
  try simp only [hkI]
  go_loopw [8, 9] (fun t i wr => ∃ (j : Nat) (u : ByteArray), j ≤ 0 ∧ t = .string u ∧ i = .int .i64 j ∧ u.size ≤ 25 * j ∧ Hid (u.data.toList = preP n ways j) ∧ Hid (BoxOf wr w.heap.size a0 a1 a2 a3) ∧ w.heap.size < wr.heap.size ∧ Below w.heap.size w wr) (fun _ i _ => 0 - (intOf i).toNat)
  case atStart => exact ⟨0, ⟨#[]⟩, Nat.zero_le _, rfl, rfl, Nat.le_refl _, Lib.hid rfl, HX.out, hz0, hb0⟩
  case round =>
    clear hb0 hz0 HX
    obtain ⟨j, u, hj, rfl, rfl, huz, hu, HB, hz, hb⟩ := hrel
    have hEr := hE.below hb
    by_cases hlt : j < 0
    · obtain ⟨sh, hsh⟩ : ∃ sh : Nat, sh = 24 - 8 * j := ⟨_, rfl⟩
      have hj4 : j < 4 := by omega
      have hj4I : (j : Int) < 4 := by omega
      have hj0 : (0 : Int) ≤ (j : Int) := by omega
      have hltI : (j : Int) < 0 := by omega
      have hw1 : IntKind.i64.wrap (8 * (j : Int)) = 8 * (j : Int) := IntWalk.i64_in _ (by omega)
      have hw2 : IntKind.i64.wrap (24 - 8 * (j : Int)) = (sh : Int) := by rw [IntWalk.i64_in _ (by omega)]; omega
      have hw3 : (24 : Int) - 8 * (j : Int) = (sh : Int) := by omega
      have hw4 : IntKind.i64.wrap (sh : Int) = (sh : Int) := IntWalk.i64_in _ (by omega)
      have hsh0 : (0 : Int) ≤ (sh : Int) := by omega
      have hs32 : sh ≤ 32 := by omega
      have hsm : min sh 32 = sh := Nat.min_eq_left hs32
      have hq2 : n / 2 ^ sh < 4294967296 := Nat.lt_of_le_of_lt (Nat.div_le_self _ _) Hn.out
      obtain ⟨q, hq⟩ : ∃ q : Nat, q = n / 2 ^ sh % 256 := ⟨_, rfl⟩
      have hand : bits .and .u32 ((n : Int) / 2 ^ sh) 255 = (q : Int) := by rw [div2, and255 _ hq2, hq]
      have hq256 : q < 256 := by rw [hq]; exact Nat.mod_lt _ (by omega)
      have hqw : IntKind.u64.wrap (q : Int) = (q : Int) := wrap64 (by omega) (by omega)
      obtain ⟨aj, haj⟩ : ∃ aj, aj = ways j := ⟨_, rfl⟩
      have hcj : wr.cell? ⟨w.heap.size, j, none⟩ = some (.int .u8 (aj : Int)) := by rw [haj, Hways.out]; exact HB.out.at j hj4
      have haj2 : aj < 256 := by
        rw [haj, Hways.out]
        obtain rfl | rfl | rfl | rfl : j = 0 ∨ j = 1 ∨ j = 2 ∨ j = 3 := by omega
        all_goals assumption
      have cF := fun W hW => form_any q aj (by omega) haj2 W hW
      have hfl := Lz.formP_len q aj (by omega)
      have CF := Lib.hid cF
      have HQ : Hid (preP n ways (j + 1) = u.data.toList ++ (Lz.formP q aj ++ [46])) := by
        show _ = _
        rw [preP_succ, hu.out, ← hsh, ← hq, ← haj]
      have hEd : EnvH wr.drew := hEr.below (Below.refl _ _).drew
      clear hsh hq haj cF hq2
      go_wp2_with fail
      go_region_held3 (fun W => W.cell? ⟨w.heap.size, j, none⟩ = some (.int .u8 (aj : Int))) (first | go_keep | (show World.cell? _ _ = _; rw [hb2.cell (p := ⟨w.heap.size, j, none⟩) hz]; assumption)) ((go_at_call 23; (with_reducible refine (CF.out _ hEd).mono ?_); rintro e w2 ⟨x, rfl, hx, hb2⟩; have hxz : x.size ≤ 20 := (by rw [← len_of_size, hx.out]; exact hfl); have hs1 : ¬ (9223372036854775807 < u.size + x.size) := (by omega); have hs2 : ¬ (9223372036854775807 < u.size + x.size + 1) := (by omega)))
      have hxd : (u ++ x ++ (⟨#[46]⟩ : ByteArray)).data.toList = preP n ways (j + 1) := by
        rw [append_data', append_data', hx.out, HQ.out, List.append_assoc]
      have hxs : (u ++ x ++ (⟨#[46]⟩ : ByteArray)).size ≤ 25 * (j + 1) := by
        rw [← len_of_size, append_data', append_data', List.length_append, List.length_append, len_of_size, len_of_size]
        show u.size + x.size + 1 ≤ _
        omega
      have Hxd := Lib.hid hxd
      have Hxs := Lib.hid hxs
      have HB2 := Lib.hid ((HB.out.below hz (Below.refl _ wr).drew).below hz hb2)
      have hz2 : w.heap.size < w2.heap.size := Nat.lt_of_lt_of_le hz hb2.size
      have hb02 : Below w.heap.size w w2 := below_call hb.drew hb2
      generalize u ++ x ++ (⟨#[46]⟩ : ByteArray) = u2 at Hxd Hxs ⊢
      clear hxd hxs hx hu HB hcj HQ
      go_wp2_with fail
      go_roundw
      case rel => exact ⟨j + 1, u2, by omega, rfl, by go_num, Hxs.out, Hxd.out, HB2.out, hz2, hb02⟩
      case measure => simp [intOf]; omega
    · have hjk : j = 0 := by omega
      have hu2 : Hid (u.data.toList = preP n ways 0) := by show _ = _; rw [hu.out, hjk]
      have huz2 : u.size ≤ 100 := by omega
      have hltI : ¬ (j : Int) < 0 := by omega
      obtain ⟨z, hz'⟩ : ∃ z : Nat, z = n % 4294967296 := ⟨_, rfl⟩
      have hmask : bits .and .u64 (n : Int) 4294967295 = (z : Int) := by rw [hz']; exact mask_u64 n 32 Hn.out (by omega)
      have hz32 : z < 4294967296 := by rw [hz']; exact Nat.mod_lt _ (by omega)
      obtain ⟨y, hy'⟩ : ∃ y : Nat, y = z + 4294967296 := ⟨_, rfl⟩
      have hyI : (z : Int) + 4294967296 = (y : Int) := by omega
      have hyw : IntKind.u64.wrap (y : Int) = (y : Int) := wrap64 (by omega) (by omega)
      have hy40 : y ≤ 1099511627776 := by omega
      obtain ⟨b3, hb3⟩ : ∃ b : Nat, b = n / 16777216 % 256 := ⟨_, rfl⟩
      obtain ⟨b2, hb2⟩ : ∃ b : Nat, b = n / 65536 % 256 := ⟨_, rfl⟩
      obtain ⟨b1, hb1⟩ : ∃ b : Nat, b = n / 256 % 256 := ⟨_, rfl⟩
      obtain ⟨b0, hb0⟩ : ∃ b : Nat, b = n % 256 := ⟨_, rfl⟩
      have hnl := Hn.out
      have hI3 : (n : Int) / 16777216 = (b3 : Int) := by omega
      have hI2 : bits .and .u32 ((n : Int) / 65536) 255 = (b2 : Int) := by rw [show (n : Int) / 65536 = ((n / 65536 : Nat) : Int) by omega, and255 _ (by omega), hb2]
      have hI1 : bits .and .u32 ((n : Int) / 256) 255 = (b1 : Int) := by rw [show (n : Int) / 256 = ((n / 256 : Nat) : Int) by omega, and255 _ (by omega), hb1]
      have hI0 : bits .and .u32 (n : Int) 255 = (b0 : Int) := by rw [and255 _ hnl, hb0]
      have h3l : b3 < 256 := by omega
      have h2l : b2 < 256 := by omega
      have h1l : b1 < 256 := by omega
      have h0l : b0 < 256 := by omega
      have HW : Hid (Lz.bytes4 n = [b3, b2, b1, b0]) := by show _ = _; rw [hb3, hb2, hb1, hb0]; rfl
      have Hz' := Lib.hid hz'
      have Hy' := Lib.hid hy'
      clear hz' hy' hb3 hb2 hb1 hb0 hjk hlt hu huz hj
      go_wp2_with fail
      refine (itoaB b3 h3l _ hEr).mono ?_
      rintro e w1 ⟨t3, rfl, ht3, hs3, hb1⟩
      have hE1 := hEr.below hb1
      have hx1 := below_call hb hb1
      have HB1 := Lib.hid (HB.out.below hz hb1)
      have hz1 : w.heap.size < w1.heap.size := Nat.lt_of_lt_of_le hz hb1.size
      have hk1 : ¬ (9223372036854775807 < t3.size + 1) := by omega
      clear HB hz hb1 hb
      go_wp2_with fail
      refine (itoaB b2 h2l _ hE1).mono ?_
      rintro e w2 ⟨t2, rfl, ht2, hs2, hb2⟩
      have hE2 := hE1.below hb2
      have hx2 := below_call hx1 hb2
      have HB2 := Lib.hid (HB1.out.below hz1 hb2)
      have hz2 : w.heap.size < w2.heap.size := Nat.lt_of_lt_of_le hz1 hb2.size
      have hk2 : ¬ (9223372036854775807 < t3.size + 1 + t2.size) := by omega
      have hk3 : ¬ (9223372036854775807 < t3.size + 1 + t2.size + 1) := by omega
      clear HB1 hz1 hb2 hx1 hE1
      go_wp2_with fail
      refine (itoaB b1 h1l _ hE2).mono ?_
      rintro e w3 ⟨t1, rfl, ht1, hs1, hb3⟩
      have hE3 := hE2.below hb3
      have hx3 := below_call hx2 hb3
      have HB3 := Lib.hid (HB2.out.below hz2 hb3)
      have hz3 : w.heap.size < w3.heap.size := Nat.lt_of_lt_of_le hz2 hb3.size
      have hk4 : ¬ (9223372036854775807 < t3.size + 1 + t2.size + 1 + t1.size) := by omega
      have hk5 : ¬ (9223372036854775807 < t3.size + 1 + t2.size + 1 + t1.size + 1) := by omega
      clear HB2 hz2 hb3 hx2 hE2
      go_wp2_with fail
      refine (itoaB b0 h0l _ hE3).mono ?_
      rintro e w4 ⟨t0, rfl, ht0, hs0, hb4⟩
      have hE4 := hE3.below hb4
      have hx4 := below_call hx3 hb4
      have HB4 := Lib.hid (HB3.out.below hz3 hb4)
      have hz4 : w.heap.size < w4.heap.size := Nat.lt_of_lt_of_le hz3 hb4.size
      have hk6 : ¬ (9223372036854775807 < t3.size + 1 + t2.size + 1 + t1.size + 1 + t0.size) := by omega
      clear HB3 hz3 hb4 hx3 hE3
      go_upto_region 9 with fail
      have H4 := Lib.hid (append4 ht3.out ht2.out ht1.out ht0.out)
      have hz11 : (t3 ++ (⟨#[46]⟩ : ByteArray) ++ t2 ++ (⟨#[46]⟩ : ByteArray) ++ t1 ++ (⟨#[46]⟩ : ByteArray) ++ t0).size ≤ 15 := append4_size hs3 hs2 hs1 hs0
      generalize t3 ++ (⟨#[46]⟩ : ByteArray) ++ t2 ++ (⟨#[46]⟩ : ByteArray) ++ t1 ++ (⟨#[46]⟩ : ByteArray) ++ t0 = s11 at H4 hz11 ⊢
      clear ht3 ht2 ht1 ht0 hs3 hs2 hs1 hs0 hk1 hk2 hk3 hk4 hk5 hk6
      have hv1 : IntKind.i64.wrap (5 - 1) = 5 - 1 := by decide
      have hv2 : IntKind.i64.wrap (8 * (5 - 1)) = 32 := by decide
      simp only [Int.reduceSub, Int.reduceMul] at hv1 hv2
      have hp1 : IntKind.u64.wrap (2 ^ 32) = 4294967296 := by decide
      have hp2 : IntKind.u64.wrap 4294967296 = 4294967296 := by decide
      have hp3 : IntKind.u64.wrap (1 * 2 ^ 32) = 4294967296 := by decide
      have h3c : w4.cell? ⟨w.heap.size, 3, none⟩ = some (.int .u8 (a3 : Int)) := HB4.out.c3
      have cF1 := Lib.hid (fun W hW => form_any y a3 (by omega) ha3 W hW)
      have cF0 := Lib.hid (fun W hW => form_any z a3 (by omega) ha3 W hW)
      have hfl1 := Lz.formP_len y a3 (by omega)
      have hfl0 := Lz.formP_len z a3 (by omega)
      have hEd4 : EnvH w4.drew := hE4.below (Below.refl _ _).drew
      go_region_held3 (fun W => W.cell? ⟨w.heap.size, 3, none⟩ = some (.int .u8 (a3 : Int))) (first | go_keep | (show World.cell? _ _ = _; rw [hb5.cell (p := ⟨w.heap.size, 3, none⟩) hz4]; assumption)) ((go_at_call 23; (with_reducible refine (cF1.out _ hEd4).mono ?_); rintro e w5 ⟨x1, rfl, hx1, hb5⟩; have hxz1 : x1.size ≤ 20 := (by rw [← len_of_size, hx1.out]; exact hfl1); have hs1 : ¬ (9223372036854775807 < u.size + x1.size) := (by omega)))
      have hE5 := hEd4.below hb5
      have hx5 := below_call hx4.drew hb5
      have hz5 : w.heap.size < w5.heap.size := Nat.lt_of_lt_of_le hz4 hb5.size
      have h3c5 : w5.cell? ⟨w.heap.size, 3, none⟩ = some (.int .u8 (a3 : Int)) := by assumption
      clear hx4 HB4 hEd4 hE4 h3c
      go_wp2_with fail
      refine (cF0.out _ hE5).mono ?_
      rintro e w6 ⟨x0, rfl, hx0, hb6⟩
      have hxz0 : x0.size ≤ 20 := by rw [← len_of_size, hx0.out]; exact hfl0
      have hs0 : ¬ (9223372036854775807 < u.size + x0.size) := by omega
      have hE6 := hE5.below hb6
      have hx6 := below_call hx5 hb6
      go_upto_region 11 with fail
      have hok : FourOk (u ++ x0) s11 (u ++ x1) := fourOk n 1 ways (by omega) Hn.out u x0 x1 s11 z y a3 hu2.out hx0.out hx1.out Hz'.out (by rw [Hy'.out, Hz'.out]; rfl) (by rw [Hways.out]; rfl) (by rw [H4.out, HW.out]) huz2 hxz0 hxz1 hz11
      generalize u ++ x0 = s8 at hok ⊢
      generalize u ++ x1 = s12 at hok ⊢
      obtain ⟨k1, k2, k3, k4, k5, k6, k8⟩ := hok
      have hs8 : ¬ (9223372036854775807 < s8.size + 1) := by omega
      have hs9 : ¬ (9223372036854775807 < s8.size + 8) := by omega
      clear hx5 hE5 hb5 hb6 hs1 hs0
      go_wp2_with (first
        | (go_at_call 22; refine (is_true _ _ _ _ w _ (by assumption) (by assumption) (by assumption)).mono ?_; rintro e wn ⟨rfl, hEn, hbn⟩)
        | (go_at_call 24; refine (ip_is _ true w _ (by assumption) (by assumption) (by assumption)).mono ?_; rintro e wn ⟨rfl, hEn, hbn⟩)
        | (go_at_call 20; refine (houses_true w _ (by assumption) (by assumption)).mono ?_; rintro e wn ⟨rfl, hEn, hbn⟩))
      go_ret
      exact ⟨rfl, by assumption⟩

set_option maxHeartbeats 4000000 in
set_option maxRecDepth 100000 in
theorem hostsFour_2 (n m : Nat) (a0 a1 a2 a3 : Nat) (hn : n < 4294967296) (hm : m < 256) (hk : m % 4 + 1 = 2) (ha0 : a0 < 256) (ha1 : a1 < 256) (ha2 : a2 < 256) (ha3 : a3 < 256) (w : World) (hE : EnvH w) :
    Calls Tryz.prog 8 #[.int .u32 n, .int .u8 m, .agg #[.int .u8 a0, .int .u8 a1, .int .u8 a2, .int .u8 a3]] w (RBool true w) := by
  obtain ⟨ways, hways⟩ : ∃ ways : Nat → Nat, ways = fun i => [a0, a1, a2, a3].getD i 0 := ⟨_, rfl⟩
  have Hways := Lib.hid hways
  have hkI : (m : Int) % 4 = 1 := by omega
  have hkI2 : (1 : Int) + 1 = 2 := by omega
  have Hn := Lib.hid hn
  have hnI : (n : Int) < 4294967296 := by omega
  clear hways hk hn
  have hb0 : Below w.heap.size w (w.alloc (.cells #[.int .u8 (a0 : Int), .int .u8 (a1 : Int), .int .u8 (a2 : Int), .int .u8 (a3 : Int)] 44)) := (Below.refl _ w).alloc (Nat.le_refl _) _
  have Hb0 := Lib.hid hb0
  clear hb0
  go_enter Tryz.func8, Tryz.ntmps8
  go_upto_region 1 with fail
  have hb0 := Hb0.out
  have hc0 : (w.alloc (.cells #[.int .u8 (a0 : Int), .int .u8 (a1 : Int), .int .u8 (a2 : Int), .int .u8 (a3 : Int)] 44)).cell? ⟨w.heap.size, 0, none⟩ = some (.int .u8 (a0 : Int)) := by rw [World.cell?_alloc_mark]; rfl
  have hc1 : (w.alloc (.cells #[.int .u8 (a0 : Int), .int .u8 (a1 : Int), .int .u8 (a2 : Int), .int .u8 (a3 : Int)] 44)).cell? ⟨w.heap.size, 1, none⟩ = some (.int .u8 (a1 : Int)) := by rw [World.cell?_alloc_mark]; rfl
  have hc2 : (w.alloc (.cells #[.int .u8 (a0 : Int), .int .u8 (a1 : Int), .int .u8 (a2 : Int), .int .u8 (a3 : Int)] 44)).cell? ⟨w.heap.size, 2, none⟩ = some (.int .u8 (a2 : Int)) := by rw [World.cell?_alloc_mark]; rfl
  have hc3 : (w.alloc (.cells #[.int .u8 (a0 : Int), .int .u8 (a1 : Int), .int .u8 (a2 : Int), .int .u8 (a3 : Int)] 44)).cell? ⟨w.heap.size, 3, none⟩ = some (.int .u8 (a3 : Int)) := by rw [World.cell?_alloc_mark]; rfl
  have hz0 : w.heap.size < (w.alloc (.cells #[.int .u8 (a0 : Int), .int .u8 (a1 : Int), .int .u8 (a2 : Int), .int .u8 (a3 : Int)] 44)).heap.size := by simp
  generalize w.alloc (.cells #[.int .u8 (a0 : Int), .int .u8 (a1 : Int), .int .u8 (a2 : Int), .int .u8 (a3 : Int)] 44) = wx at hb0 hc0 hc1 hc2 hc3 hz0 ⊢
  have HX := Lib.hid (⟨hc0, hc1, hc2, hc3⟩ : BoxOf wx w.heap.size a0 a1 a2 a3)
  clear hc0 hc1 hc2 hc3 Hb0
  go_wp2_with fail
  try simp only [hkI]
  go_loopw [8, 9] (fun t i wr => ∃ (j : Nat) (u : ByteArray), j ≤ 1 ∧ t = .string u ∧ i = .int .i64 j ∧ u.size ≤ 25 * j ∧ Hid (u.data.toList = preP n ways j) ∧ Hid (BoxOf wr w.heap.size a0 a1 a2 a3) ∧ w.heap.size < wr.heap.size ∧ Below w.heap.size w wr) (fun _ i _ => 1 - (intOf i).toNat)
  case atStart => exact ⟨0, ⟨#[]⟩, Nat.zero_le _, rfl, rfl, Nat.le_refl _, Lib.hid rfl, HX.out, hz0, hb0⟩
  case round =>
    clear hb0 hz0 HX
    obtain ⟨j, u, hj, rfl, rfl, huz, hu, HB, hz, hb⟩ := hrel
    have hEr := hE.below hb
    by_cases hlt : j < 1
    · obtain ⟨sh, hsh⟩ : ∃ sh : Nat, sh = 24 - 8 * j := ⟨_, rfl⟩
      have hj4 : j < 4 := by omega
      have hj4I : (j : Int) < 4 := by omega
      have hj0 : (0 : Int) ≤ (j : Int) := by omega
      have hltI : (j : Int) < 1 := by omega
      have hw1 : IntKind.i64.wrap (8 * (j : Int)) = 8 * (j : Int) := IntWalk.i64_in _ (by omega)
      have hw2 : IntKind.i64.wrap (24 - 8 * (j : Int)) = (sh : Int) := by rw [IntWalk.i64_in _ (by omega)]; omega
      have hw3 : (24 : Int) - 8 * (j : Int) = (sh : Int) := by omega
      have hw4 : IntKind.i64.wrap (sh : Int) = (sh : Int) := IntWalk.i64_in _ (by omega)
      have hsh0 : (0 : Int) ≤ (sh : Int) := by omega
      have hs32 : sh ≤ 32 := by omega
      have hsm : min sh 32 = sh := Nat.min_eq_left hs32
      have hq2 : n / 2 ^ sh < 4294967296 := Nat.lt_of_le_of_lt (Nat.div_le_self _ _) Hn.out
      obtain ⟨q, hq⟩ : ∃ q : Nat, q = n / 2 ^ sh % 256 := ⟨_, rfl⟩
      have hand : bits .and .u32 ((n : Int) / 2 ^ sh) 255 = (q : Int) := by rw [div2, and255 _ hq2, hq]
      have hq256 : q < 256 := by rw [hq]; exact Nat.mod_lt _ (by omega)
      have hqw : IntKind.u64.wrap (q : Int) = (q : Int) := wrap64 (by omega) (by omega)
      obtain ⟨aj, haj⟩ : ∃ aj, aj = ways j := ⟨_, rfl⟩
      have hcj : wr.cell? ⟨w.heap.size, j, none⟩ = some (.int .u8 (aj : Int)) := by rw [haj, Hways.out]; exact HB.out.at j hj4
      have haj2 : aj < 256 := by
        rw [haj, Hways.out]
        obtain rfl | rfl | rfl | rfl : j = 0 ∨ j = 1 ∨ j = 2 ∨ j = 3 := by omega
        all_goals assumption
      have cF := fun W hW => form_any q aj (by omega) haj2 W hW
      have hfl := Lz.formP_len q aj (by omega)
      have CF := Lib.hid cF
      have HQ : Hid (preP n ways (j + 1) = u.data.toList ++ (Lz.formP q aj ++ [46])) := by
        show _ = _
        rw [preP_succ, hu.out, ← hsh, ← hq, ← haj]
      have hEd : EnvH wr.drew := hEr.below (Below.refl _ _).drew
      clear hsh hq haj cF hq2
      go_wp2_with fail
      go_region_held3 (fun W => W.cell? ⟨w.heap.size, j, none⟩ = some (.int .u8 (aj : Int))) (first | go_keep | (show World.cell? _ _ = _; rw [hb2.cell (p := ⟨w.heap.size, j, none⟩) hz]; assumption)) ((go_at_call 23; (with_reducible refine (CF.out _ hEd).mono ?_); rintro e w2 ⟨x, rfl, hx, hb2⟩; have hxz : x.size ≤ 20 := (by rw [← len_of_size, hx.out]; exact hfl); have hs1 : ¬ (9223372036854775807 < u.size + x.size) := (by omega); have hs2 : ¬ (9223372036854775807 < u.size + x.size + 1) := (by omega)))
      have hxd : (u ++ x ++ (⟨#[46]⟩ : ByteArray)).data.toList = preP n ways (j + 1) := by
        rw [append_data', append_data', hx.out, HQ.out, List.append_assoc]
      have hxs : (u ++ x ++ (⟨#[46]⟩ : ByteArray)).size ≤ 25 * (j + 1) := by
        rw [← len_of_size, append_data', append_data', List.length_append, List.length_append, len_of_size, len_of_size]
        show u.size + x.size + 1 ≤ _
        omega
      have Hxd := Lib.hid hxd
      have Hxs := Lib.hid hxs
      have HB2 := Lib.hid ((HB.out.below hz (Below.refl _ wr).drew).below hz hb2)
      have hz2 : w.heap.size < w2.heap.size := Nat.lt_of_lt_of_le hz hb2.size
      have hb02 : Below w.heap.size w w2 := below_call hb.drew hb2
      generalize u ++ x ++ (⟨#[46]⟩ : ByteArray) = u2 at Hxd Hxs ⊢
      clear hxd hxs hx hu HB hcj HQ
      go_wp2_with fail
      go_roundw
      case rel => exact ⟨j + 1, u2, by omega, rfl, by go_num, Hxs.out, Hxd.out, HB2.out, hz2, hb02⟩
      case measure => simp [intOf]; omega
    · have hjk : j = 1 := by omega
      have hu2 : Hid (u.data.toList = preP n ways 1) := by show _ = _; rw [hu.out, hjk]
      have huz2 : u.size ≤ 100 := by omega
      have hltI : ¬ (j : Int) < 1 := by omega
      obtain ⟨z, hz'⟩ : ∃ z : Nat, z = n % 16777216 := ⟨_, rfl⟩
      have hmask : bits .and .u64 (n : Int) 16777215 = (z : Int) := by rw [hz']; exact mask_u64 n 24 Hn.out (by omega)
      have hz32 : z < 16777216 := by rw [hz']; exact Nat.mod_lt _ (by omega)
      obtain ⟨y, hy'⟩ : ∃ y : Nat, y = z + 16777216 := ⟨_, rfl⟩
      have hyI : (z : Int) + 16777216 = (y : Int) := by omega
      have hyw : IntKind.u64.wrap (y : Int) = (y : Int) := wrap64 (by omega) (by omega)
      have hy40 : y ≤ 1099511627776 := by omega
      obtain ⟨b3, hb3⟩ : ∃ b : Nat, b = n / 16777216 % 256 := ⟨_, rfl⟩
      obtain ⟨b2, hb2⟩ : ∃ b : Nat, b = n / 65536 % 256 := ⟨_, rfl⟩
      obtain ⟨b1, hb1⟩ : ∃ b : Nat, b = n / 256 % 256 := ⟨_, rfl⟩
      obtain ⟨b0, hb0⟩ : ∃ b : Nat, b = n % 256 := ⟨_, rfl⟩
      have hnl := Hn.out
      have hI3 : (n : Int) / 16777216 = (b3 : Int) := by omega
      have hI2 : bits .and .u32 ((n : Int) / 65536) 255 = (b2 : Int) := by rw [show (n : Int) / 65536 = ((n / 65536 : Nat) : Int) by omega, and255 _ (by omega), hb2]
      have hI1 : bits .and .u32 ((n : Int) / 256) 255 = (b1 : Int) := by rw [show (n : Int) / 256 = ((n / 256 : Nat) : Int) by omega, and255 _ (by omega), hb1]
      have hI0 : bits .and .u32 (n : Int) 255 = (b0 : Int) := by rw [and255 _ hnl, hb0]
      have h3l : b3 < 256 := by omega
      have h2l : b2 < 256 := by omega
      have h1l : b1 < 256 := by omega
      have h0l : b0 < 256 := by omega
      have HW : Hid (Lz.bytes4 n = [b3, b2, b1, b0]) := by show _ = _; rw [hb3, hb2, hb1, hb0]; rfl
      have Hz' := Lib.hid hz'
      have Hy' := Lib.hid hy'
      clear hz' hy' hb3 hb2 hb1 hb0 hjk hlt hu huz hj
      go_wp2_with fail
      refine (itoaB b3 h3l _ hEr).mono ?_
      rintro e w1 ⟨t3, rfl, ht3, hs3, hb1⟩
      have hE1 := hEr.below hb1
      have hx1 := below_call hb hb1
      have HB1 := Lib.hid (HB.out.below hz hb1)
      have hz1 : w.heap.size < w1.heap.size := Nat.lt_of_lt_of_le hz hb1.size
      have hk1 : ¬ (9223372036854775807 < t3.size + 1) := by omega
      clear HB hz hb1 hb
      go_wp2_with fail
      refine (itoaB b2 h2l _ hE1).mono ?_
      rintro e w2 ⟨t2, rfl, ht2, hs2, hb2⟩
      have hE2 := hE1.below hb2
      have hx2 := below_call hx1 hb2
      have HB2 := Lib.hid (HB1.out.below hz1 hb2)
      have hz2 : w.heap.size < w2.heap.size := Nat.lt_of_lt_of_le hz1 hb2.size
      have hk2 : ¬ (9223372036854775807 < t3.size + 1 + t2.size) := by omega
      have hk3 : ¬ (9223372036854775807 < t3.size + 1 + t2.size + 1) := by omega
      clear HB1 hz1 hb2 hx1 hE1
      go_wp2_with fail
      refine (itoaB b1 h1l _ hE2).mono ?_
      rintro e w3 ⟨t1, rfl, ht1, hs1, hb3⟩
      have hE3 := hE2.below hb3
      have hx3 := below_call hx2 hb3
      have HB3 := Lib.hid (HB2.out.below hz2 hb3)
      have hz3 : w.heap.size < w3.heap.size := Nat.lt_of_lt_of_le hz2 hb3.size
      have hk4 : ¬ (9223372036854775807 < t3.size + 1 + t2.size + 1 + t1.size) := by omega
      have hk5 : ¬ (9223372036854775807 < t3.size + 1 + t2.size + 1 + t1.size + 1) := by omega
      clear HB2 hz2 hb3 hx2 hE2
      go_wp2_with fail
      refine (itoaB b0 h0l _ hE3).mono ?_
      rintro e w4 ⟨t0, rfl, ht0, hs0, hb4⟩
      have hE4 := hE3.below hb4
      have hx4 := below_call hx3 hb4
      have HB4 := Lib.hid (HB3.out.below hz3 hb4)
      have hz4 : w.heap.size < w4.heap.size := Nat.lt_of_lt_of_le hz3 hb4.size
      have hk6 : ¬ (9223372036854775807 < t3.size + 1 + t2.size + 1 + t1.size + 1 + t0.size) := by omega
      clear HB3 hz3 hb4 hx3 hE3
      go_upto_region 9 with fail
      have H4 := Lib.hid (append4 ht3.out ht2.out ht1.out ht0.out)
      have hz11 : (t3 ++ (⟨#[46]⟩ : ByteArray) ++ t2 ++ (⟨#[46]⟩ : ByteArray) ++ t1 ++ (⟨#[46]⟩ : ByteArray) ++ t0).size ≤ 15 := append4_size hs3 hs2 hs1 hs0
      generalize t3 ++ (⟨#[46]⟩ : ByteArray) ++ t2 ++ (⟨#[46]⟩ : ByteArray) ++ t1 ++ (⟨#[46]⟩ : ByteArray) ++ t0 = s11 at H4 hz11 ⊢
      clear ht3 ht2 ht1 ht0 hs3 hs2 hs1 hs0 hk1 hk2 hk3 hk4 hk5 hk6
      have hv1 : IntKind.i64.wrap (5 - 2) = 5 - 2 := by decide
      have hv2 : IntKind.i64.wrap (8 * (5 - 2)) = 24 := by decide
      simp only [Int.reduceSub, Int.reduceMul] at hv1 hv2
      have hp1 : IntKind.u64.wrap (2 ^ 24) = 16777216 := by decide
      have hp2 : IntKind.u64.wrap 16777216 = 16777216 := by decide
      have hp3 : IntKind.u64.wrap (1 * 2 ^ 24) = 16777216 := by decide
      have h3c : w4.cell? ⟨w.heap.size, 3, none⟩ = some (.int .u8 (a3 : Int)) := HB4.out.c3
      have cF1 := Lib.hid (fun W hW => form_any y a3 (by omega) ha3 W hW)
      have cF0 := Lib.hid (fun W hW => form_any z a3 (by omega) ha3 W hW)
      have hfl1 := Lz.formP_len y a3 (by omega)
      have hfl0 := Lz.formP_len z a3 (by omega)
      have hEd4 : EnvH w4.drew := hE4.below (Below.refl _ _).drew
      go_region_held3 (fun W => W.cell? ⟨w.heap.size, 3, none⟩ = some (.int .u8 (a3 : Int))) (first | go_keep | (show World.cell? _ _ = _; rw [hb5.cell (p := ⟨w.heap.size, 3, none⟩) hz4]; assumption)) ((go_at_call 23; (with_reducible refine (cF1.out _ hEd4).mono ?_); rintro e w5 ⟨x1, rfl, hx1, hb5⟩; have hxz1 : x1.size ≤ 20 := (by rw [← len_of_size, hx1.out]; exact hfl1); have hs1 : ¬ (9223372036854775807 < u.size + x1.size) := (by omega)))
      have hE5 := hEd4.below hb5
      have hx5 := below_call hx4.drew hb5
      have hz5 : w.heap.size < w5.heap.size := Nat.lt_of_lt_of_le hz4 hb5.size
      have h3c5 : w5.cell? ⟨w.heap.size, 3, none⟩ = some (.int .u8 (a3 : Int)) := by assumption
      clear hx4 HB4 hEd4 hE4 h3c
      go_wp2_with fail
      refine (cF0.out _ hE5).mono ?_
      rintro e w6 ⟨x0, rfl, hx0, hb6⟩
      have hxz0 : x0.size ≤ 20 := by rw [← len_of_size, hx0.out]; exact hfl0
      have hs0 : ¬ (9223372036854775807 < u.size + x0.size) := by omega
      have hE6 := hE5.below hb6
      have hx6 := below_call hx5 hb6
      go_upto_region 11 with fail
      have hok : FourOk (u ++ x0) s11 (u ++ x1) := fourOk n 2 ways (by omega) Hn.out u x0 x1 s11 z y a3 hu2.out hx0.out hx1.out Hz'.out (by rw [Hy'.out, Hz'.out]; rfl) (by rw [Hways.out]; rfl) (by rw [H4.out, HW.out]) huz2 hxz0 hxz1 hz11
      generalize u ++ x0 = s8 at hok ⊢
      generalize u ++ x1 = s12 at hok ⊢
      obtain ⟨k1, k2, k3, k4, k5, k6, k8⟩ := hok
      have hs8 : ¬ (9223372036854775807 < s8.size + 1) := by omega
      have hs9 : ¬ (9223372036854775807 < s8.size + 8) := by omega
      clear hx5 hE5 hb5 hb6 hs1 hs0
      go_wp2_with (first
        | (go_at_call 22; refine (is_true _ _ _ _ w _ (by assumption) (by assumption) (by assumption)).mono ?_; rintro e wn ⟨rfl, hEn, hbn⟩)
        | (go_at_call 24; refine (ip_is _ true w _ (by assumption) (by assumption) (by assumption)).mono ?_; rintro e wn ⟨rfl, hEn, hbn⟩)
        | (go_at_call 20; refine (houses_true w _ (by assumption) (by assumption)).mono ?_; rintro e wn ⟨rfl, hEn, hbn⟩))
      go_ret
      exact ⟨rfl, by assumption⟩

set_option maxHeartbeats 4000000 in
set_option maxRecDepth 100000 in
theorem hostsFour_3 (n m : Nat) (a0 a1 a2 a3 : Nat) (hn : n < 4294967296) (hm : m < 256) (hk : m % 4 + 1 = 3) (ha0 : a0 < 256) (ha1 : a1 < 256) (ha2 : a2 < 256) (ha3 : a3 < 256) (w : World) (hE : EnvH w) :
    Calls Tryz.prog 8 #[.int .u32 n, .int .u8 m, .agg #[.int .u8 a0, .int .u8 a1, .int .u8 a2, .int .u8 a3]] w (RBool true w) := by
  obtain ⟨ways, hways⟩ : ∃ ways : Nat → Nat, ways = fun i => [a0, a1, a2, a3].getD i 0 := ⟨_, rfl⟩
  have Hways := Lib.hid hways
  have hkI : (m : Int) % 4 = 2 := by omega
  have hkI2 : (1 : Int) + 2 = 3 := by omega
  have Hn := Lib.hid hn
  have hnI : (n : Int) < 4294967296 := by omega
  clear hways hk hn
  have hb0 : Below w.heap.size w (w.alloc (.cells #[.int .u8 (a0 : Int), .int .u8 (a1 : Int), .int .u8 (a2 : Int), .int .u8 (a3 : Int)] 44)) := (Below.refl _ w).alloc (Nat.le_refl _) _
  have Hb0 := Lib.hid hb0
  clear hb0
  go_enter Tryz.func8, Tryz.ntmps8
  go_upto_region 1 with fail
  have hb0 := Hb0.out
  have hc0 : (w.alloc (.cells #[.int .u8 (a0 : Int), .int .u8 (a1 : Int), .int .u8 (a2 : Int), .int .u8 (a3 : Int)] 44)).cell? ⟨w.heap.size, 0, none⟩ = some (.int .u8 (a0 : Int)) := by rw [World.cell?_alloc_mark]; rfl
  have hc1 : (w.alloc (.cells #[.int .u8 (a0 : Int), .int .u8 (a1 : Int), .int .u8 (a2 : Int), .int .u8 (a3 : Int)] 44)).cell? ⟨w.heap.size, 1, none⟩ = some (.int .u8 (a1 : Int)) := by rw [World.cell?_alloc_mark]; rfl
  have hc2 : (w.alloc (.cells #[.int .u8 (a0 : Int), .int .u8 (a1 : Int), .int .u8 (a2 : Int), .int .u8 (a3 : Int)] 44)).cell? ⟨w.heap.size, 2, none⟩ = some (.int .u8 (a2 : Int)) := by rw [World.cell?_alloc_mark]; rfl
  have hc3 : (w.alloc (.cells #[.int .u8 (a0 : Int), .int .u8 (a1 : Int), .int .u8 (a2 : Int), .int .u8 (a3 : Int)] 44)).cell? ⟨w.heap.size, 3, none⟩ = some (.int .u8 (a3 : Int)) := by rw [World.cell?_alloc_mark]; rfl
  have hz0 : w.heap.size < (w.alloc (.cells #[.int .u8 (a0 : Int), .int .u8 (a1 : Int), .int .u8 (a2 : Int), .int .u8 (a3 : Int)] 44)).heap.size := by simp
  generalize w.alloc (.cells #[.int .u8 (a0 : Int), .int .u8 (a1 : Int), .int .u8 (a2 : Int), .int .u8 (a3 : Int)] 44) = wx at hb0 hc0 hc1 hc2 hc3 hz0 ⊢
  have HX := Lib.hid (⟨hc0, hc1, hc2, hc3⟩ : BoxOf wx w.heap.size a0 a1 a2 a3)
  clear hc0 hc1 hc2 hc3 Hb0
  go_wp2_with fail
  try simp only [hkI]
  go_loopw [8, 9] (fun t i wr => ∃ (j : Nat) (u : ByteArray), j ≤ 2 ∧ t = .string u ∧ i = .int .i64 j ∧ u.size ≤ 25 * j ∧ Hid (u.data.toList = preP n ways j) ∧ Hid (BoxOf wr w.heap.size a0 a1 a2 a3) ∧ w.heap.size < wr.heap.size ∧ Below w.heap.size w wr) (fun _ i _ => 2 - (intOf i).toNat)
  case atStart => exact ⟨0, ⟨#[]⟩, Nat.zero_le _, rfl, rfl, Nat.le_refl _, Lib.hid rfl, HX.out, hz0, hb0⟩
  case round =>
    clear hb0 hz0 HX
    obtain ⟨j, u, hj, rfl, rfl, huz, hu, HB, hz, hb⟩ := hrel
    have hEr := hE.below hb
    by_cases hlt : j < 2
    · obtain ⟨sh, hsh⟩ : ∃ sh : Nat, sh = 24 - 8 * j := ⟨_, rfl⟩
      have hj4 : j < 4 := by omega
      have hj4I : (j : Int) < 4 := by omega
      have hj0 : (0 : Int) ≤ (j : Int) := by omega
      have hltI : (j : Int) < 2 := by omega
      have hw1 : IntKind.i64.wrap (8 * (j : Int)) = 8 * (j : Int) := IntWalk.i64_in _ (by omega)
      have hw2 : IntKind.i64.wrap (24 - 8 * (j : Int)) = (sh : Int) := by rw [IntWalk.i64_in _ (by omega)]; omega
      have hw3 : (24 : Int) - 8 * (j : Int) = (sh : Int) := by omega
      have hw4 : IntKind.i64.wrap (sh : Int) = (sh : Int) := IntWalk.i64_in _ (by omega)
      have hsh0 : (0 : Int) ≤ (sh : Int) := by omega
      have hs32 : sh ≤ 32 := by omega
      have hsm : min sh 32 = sh := Nat.min_eq_left hs32
      have hq2 : n / 2 ^ sh < 4294967296 := Nat.lt_of_le_of_lt (Nat.div_le_self _ _) Hn.out
      obtain ⟨q, hq⟩ : ∃ q : Nat, q = n / 2 ^ sh % 256 := ⟨_, rfl⟩
      have hand : bits .and .u32 ((n : Int) / 2 ^ sh) 255 = (q : Int) := by rw [div2, and255 _ hq2, hq]
      have hq256 : q < 256 := by rw [hq]; exact Nat.mod_lt _ (by omega)
      have hqw : IntKind.u64.wrap (q : Int) = (q : Int) := wrap64 (by omega) (by omega)
      obtain ⟨aj, haj⟩ : ∃ aj, aj = ways j := ⟨_, rfl⟩
      have hcj : wr.cell? ⟨w.heap.size, j, none⟩ = some (.int .u8 (aj : Int)) := by rw [haj, Hways.out]; exact HB.out.at j hj4
      have haj2 : aj < 256 := by
        rw [haj, Hways.out]
        obtain rfl | rfl | rfl | rfl : j = 0 ∨ j = 1 ∨ j = 2 ∨ j = 3 := by omega
        all_goals assumption
      have cF := fun W hW => form_any q aj (by omega) haj2 W hW
      have hfl := Lz.formP_len q aj (by omega)
      have CF := Lib.hid cF
      have HQ : Hid (preP n ways (j + 1) = u.data.toList ++ (Lz.formP q aj ++ [46])) := by
        show _ = _
        rw [preP_succ, hu.out, ← hsh, ← hq, ← haj]
      have hEd : EnvH wr.drew := hEr.below (Below.refl _ _).drew
      clear hsh hq haj cF hq2
      go_wp2_with fail
      go_region_held3 (fun W => W.cell? ⟨w.heap.size, j, none⟩ = some (.int .u8 (aj : Int))) (first | go_keep | (show World.cell? _ _ = _; rw [hb2.cell (p := ⟨w.heap.size, j, none⟩) hz]; assumption)) ((go_at_call 23; (with_reducible refine (CF.out _ hEd).mono ?_); rintro e w2 ⟨x, rfl, hx, hb2⟩; have hxz : x.size ≤ 20 := (by rw [← len_of_size, hx.out]; exact hfl); have hs1 : ¬ (9223372036854775807 < u.size + x.size) := (by omega); have hs2 : ¬ (9223372036854775807 < u.size + x.size + 1) := (by omega)))
      have hxd : (u ++ x ++ (⟨#[46]⟩ : ByteArray)).data.toList = preP n ways (j + 1) := by
        rw [append_data', append_data', hx.out, HQ.out, List.append_assoc]
      have hxs : (u ++ x ++ (⟨#[46]⟩ : ByteArray)).size ≤ 25 * (j + 1) := by
        rw [← len_of_size, append_data', append_data', List.length_append, List.length_append, len_of_size, len_of_size]
        show u.size + x.size + 1 ≤ _
        omega
      have Hxd := Lib.hid hxd
      have Hxs := Lib.hid hxs
      have HB2 := Lib.hid ((HB.out.below hz (Below.refl _ wr).drew).below hz hb2)
      have hz2 : w.heap.size < w2.heap.size := Nat.lt_of_lt_of_le hz hb2.size
      have hb02 : Below w.heap.size w w2 := below_call hb.drew hb2
      generalize u ++ x ++ (⟨#[46]⟩ : ByteArray) = u2 at Hxd Hxs ⊢
      clear hxd hxs hx hu HB hcj HQ
      go_wp2_with fail
      go_roundw
      case rel => exact ⟨j + 1, u2, by omega, rfl, by go_num, Hxs.out, Hxd.out, HB2.out, hz2, hb02⟩
      case measure => simp [intOf]; omega
    · have hjk : j = 2 := by omega
      have hu2 : Hid (u.data.toList = preP n ways 2) := by show _ = _; rw [hu.out, hjk]
      have huz2 : u.size ≤ 100 := by omega
      have hltI : ¬ (j : Int) < 2 := by omega
      obtain ⟨z, hz'⟩ : ∃ z : Nat, z = n % 65536 := ⟨_, rfl⟩
      have hmask : bits .and .u64 (n : Int) 65535 = (z : Int) := by rw [hz']; exact mask_u64 n 16 Hn.out (by omega)
      have hz32 : z < 65536 := by rw [hz']; exact Nat.mod_lt _ (by omega)
      obtain ⟨y, hy'⟩ : ∃ y : Nat, y = z + 65536 := ⟨_, rfl⟩
      have hyI : (z : Int) + 65536 = (y : Int) := by omega
      have hyw : IntKind.u64.wrap (y : Int) = (y : Int) := wrap64 (by omega) (by omega)
      have hy40 : y ≤ 1099511627776 := by omega
      obtain ⟨b3, hb3⟩ : ∃ b : Nat, b = n / 16777216 % 256 := ⟨_, rfl⟩
      obtain ⟨b2, hb2⟩ : ∃ b : Nat, b = n / 65536 % 256 := ⟨_, rfl⟩
      obtain ⟨b1, hb1⟩ : ∃ b : Nat, b = n / 256 % 256 := ⟨_, rfl⟩
      obtain ⟨b0, hb0⟩ : ∃ b : Nat, b = n % 256 := ⟨_, rfl⟩
      have hnl := Hn.out
      have hI3 : (n : Int) / 16777216 = (b3 : Int) := by omega
      have hI2 : bits .and .u32 ((n : Int) / 65536) 255 = (b2 : Int) := by rw [show (n : Int) / 65536 = ((n / 65536 : Nat) : Int) by omega, and255 _ (by omega), hb2]
      have hI1 : bits .and .u32 ((n : Int) / 256) 255 = (b1 : Int) := by rw [show (n : Int) / 256 = ((n / 256 : Nat) : Int) by omega, and255 _ (by omega), hb1]
      have hI0 : bits .and .u32 (n : Int) 255 = (b0 : Int) := by rw [and255 _ hnl, hb0]
      have h3l : b3 < 256 := by omega
      have h2l : b2 < 256 := by omega
      have h1l : b1 < 256 := by omega
      have h0l : b0 < 256 := by omega
      have HW : Hid (Lz.bytes4 n = [b3, b2, b1, b0]) := by show _ = _; rw [hb3, hb2, hb1, hb0]; rfl
      have Hz' := Lib.hid hz'
      have Hy' := Lib.hid hy'
      clear hz' hy' hb3 hb2 hb1 hb0 hjk hlt hu huz hj
      go_wp2_with fail
      refine (itoaB b3 h3l _ hEr).mono ?_
      rintro e w1 ⟨t3, rfl, ht3, hs3, hb1⟩
      have hE1 := hEr.below hb1
      have hx1 := below_call hb hb1
      have HB1 := Lib.hid (HB.out.below hz hb1)
      have hz1 : w.heap.size < w1.heap.size := Nat.lt_of_lt_of_le hz hb1.size
      have hk1 : ¬ (9223372036854775807 < t3.size + 1) := by omega
      clear HB hz hb1 hb
      go_wp2_with fail
      refine (itoaB b2 h2l _ hE1).mono ?_
      rintro e w2 ⟨t2, rfl, ht2, hs2, hb2⟩
      have hE2 := hE1.below hb2
      have hx2 := below_call hx1 hb2
      have HB2 := Lib.hid (HB1.out.below hz1 hb2)
      have hz2 : w.heap.size < w2.heap.size := Nat.lt_of_lt_of_le hz1 hb2.size
      have hk2 : ¬ (9223372036854775807 < t3.size + 1 + t2.size) := by omega
      have hk3 : ¬ (9223372036854775807 < t3.size + 1 + t2.size + 1) := by omega
      clear HB1 hz1 hb2 hx1 hE1
      go_wp2_with fail
      refine (itoaB b1 h1l _ hE2).mono ?_
      rintro e w3 ⟨t1, rfl, ht1, hs1, hb3⟩
      have hE3 := hE2.below hb3
      have hx3 := below_call hx2 hb3
      have HB3 := Lib.hid (HB2.out.below hz2 hb3)
      have hz3 : w.heap.size < w3.heap.size := Nat.lt_of_lt_of_le hz2 hb3.size
      have hk4 : ¬ (9223372036854775807 < t3.size + 1 + t2.size + 1 + t1.size) := by omega
      have hk5 : ¬ (9223372036854775807 < t3.size + 1 + t2.size + 1 + t1.size + 1) := by omega
      clear HB2 hz2 hb3 hx2 hE2
      go_wp2_with fail
      refine (itoaB b0 h0l _ hE3).mono ?_
      rintro e w4 ⟨t0, rfl, ht0, hs0, hb4⟩
      have hE4 := hE3.below hb4
      have hx4 := below_call hx3 hb4
      have HB4 := Lib.hid (HB3.out.below hz3 hb4)
      have hz4 : w.heap.size < w4.heap.size := Nat.lt_of_lt_of_le hz3 hb4.size
      have hk6 : ¬ (9223372036854775807 < t3.size + 1 + t2.size + 1 + t1.size + 1 + t0.size) := by omega
      clear HB3 hz3 hb4 hx3 hE3
      go_upto_region 9 with fail
      have H4 := Lib.hid (append4 ht3.out ht2.out ht1.out ht0.out)
      have hz11 : (t3 ++ (⟨#[46]⟩ : ByteArray) ++ t2 ++ (⟨#[46]⟩ : ByteArray) ++ t1 ++ (⟨#[46]⟩ : ByteArray) ++ t0).size ≤ 15 := append4_size hs3 hs2 hs1 hs0
      generalize t3 ++ (⟨#[46]⟩ : ByteArray) ++ t2 ++ (⟨#[46]⟩ : ByteArray) ++ t1 ++ (⟨#[46]⟩ : ByteArray) ++ t0 = s11 at H4 hz11 ⊢
      clear ht3 ht2 ht1 ht0 hs3 hs2 hs1 hs0 hk1 hk2 hk3 hk4 hk5 hk6
      have hv1 : IntKind.i64.wrap (5 - 3) = 5 - 3 := by decide
      have hv2 : IntKind.i64.wrap (8 * (5 - 3)) = 16 := by decide
      simp only [Int.reduceSub, Int.reduceMul] at hv1 hv2
      have hp1 : IntKind.u64.wrap (2 ^ 16) = 65536 := by decide
      have hp2 : IntKind.u64.wrap 65536 = 65536 := by decide
      have hp3 : IntKind.u64.wrap (1 * 2 ^ 16) = 65536 := by decide
      have h3c : w4.cell? ⟨w.heap.size, 3, none⟩ = some (.int .u8 (a3 : Int)) := HB4.out.c3
      have cF1 := Lib.hid (fun W hW => form_any y a3 (by omega) ha3 W hW)
      have cF0 := Lib.hid (fun W hW => form_any z a3 (by omega) ha3 W hW)
      have hfl1 := Lz.formP_len y a3 (by omega)
      have hfl0 := Lz.formP_len z a3 (by omega)
      have hEd4 : EnvH w4.drew := hE4.below (Below.refl _ _).drew
      go_region_held3 (fun W => W.cell? ⟨w.heap.size, 3, none⟩ = some (.int .u8 (a3 : Int))) (first | go_keep | (show World.cell? _ _ = _; rw [hb5.cell (p := ⟨w.heap.size, 3, none⟩) hz4]; assumption)) ((go_at_call 23; (with_reducible refine (cF1.out _ hEd4).mono ?_); rintro e w5 ⟨x1, rfl, hx1, hb5⟩; have hxz1 : x1.size ≤ 20 := (by rw [← len_of_size, hx1.out]; exact hfl1); have hs1 : ¬ (9223372036854775807 < u.size + x1.size) := (by omega)))
      have hE5 := hEd4.below hb5
      have hx5 := below_call hx4.drew hb5
      have hz5 : w.heap.size < w5.heap.size := Nat.lt_of_lt_of_le hz4 hb5.size
      have h3c5 : w5.cell? ⟨w.heap.size, 3, none⟩ = some (.int .u8 (a3 : Int)) := by assumption
      clear hx4 HB4 hEd4 hE4 h3c
      go_wp2_with fail
      refine (cF0.out _ hE5).mono ?_
      rintro e w6 ⟨x0, rfl, hx0, hb6⟩
      have hxz0 : x0.size ≤ 20 := by rw [← len_of_size, hx0.out]; exact hfl0
      have hs0 : ¬ (9223372036854775807 < u.size + x0.size) := by omega
      have hE6 := hE5.below hb6
      have hx6 := below_call hx5 hb6
      go_upto_region 11 with fail
      have hok : FourOk (u ++ x0) s11 (u ++ x1) := fourOk n 3 ways (by omega) Hn.out u x0 x1 s11 z y a3 hu2.out hx0.out hx1.out Hz'.out (by rw [Hy'.out, Hz'.out]; rfl) (by rw [Hways.out]; rfl) (by rw [H4.out, HW.out]) huz2 hxz0 hxz1 hz11
      generalize u ++ x0 = s8 at hok ⊢
      generalize u ++ x1 = s12 at hok ⊢
      obtain ⟨k1, k2, k3, k4, k5, k6, k8⟩ := hok
      have hs8 : ¬ (9223372036854775807 < s8.size + 1) := by omega
      have hs9 : ¬ (9223372036854775807 < s8.size + 8) := by omega
      clear hx5 hE5 hb5 hb6 hs1 hs0
      go_wp2_with (first
        | (go_at_call 22; refine (is_true _ _ _ _ w _ (by assumption) (by assumption) (by assumption)).mono ?_; rintro e wn ⟨rfl, hEn, hbn⟩)
        | (go_at_call 24; refine (ip_is _ true w _ (by assumption) (by assumption) (by assumption)).mono ?_; rintro e wn ⟨rfl, hEn, hbn⟩)
        | (go_at_call 20; refine (houses_true w _ (by assumption) (by assumption)).mono ?_; rintro e wn ⟨rfl, hEn, hbn⟩))
      go_ret
      exact ⟨rfl, by assumption⟩

set_option maxHeartbeats 4000000 in
set_option maxRecDepth 100000 in
theorem hostsFour_4 (n m : Nat) (a0 a1 a2 a3 : Nat) (hn : n < 4294967296) (hm : m < 256) (hk : m % 4 + 1 = 4) (ha0 : a0 < 256) (ha1 : a1 < 256) (ha2 : a2 < 256) (ha3 : a3 < 256) (w : World) (hE : EnvH w) :
    Calls Tryz.prog 8 #[.int .u32 n, .int .u8 m, .agg #[.int .u8 a0, .int .u8 a1, .int .u8 a2, .int .u8 a3]] w (RBool true w) := by
  obtain ⟨ways, hways⟩ : ∃ ways : Nat → Nat, ways = fun i => [a0, a1, a2, a3].getD i 0 := ⟨_, rfl⟩
  have Hways := Lib.hid hways
  have hkI : (m : Int) % 4 = 3 := by omega
  have hkI2 : (1 : Int) + 3 = 4 := by omega
  have Hn := Lib.hid hn
  have hnI : (n : Int) < 4294967296 := by omega
  clear hways hk hn
  have hb0 : Below w.heap.size w (w.alloc (.cells #[.int .u8 (a0 : Int), .int .u8 (a1 : Int), .int .u8 (a2 : Int), .int .u8 (a3 : Int)] 44)) := (Below.refl _ w).alloc (Nat.le_refl _) _
  have Hb0 := Lib.hid hb0
  clear hb0
  go_enter Tryz.func8, Tryz.ntmps8
  go_upto_region 1 with fail
  have hb0 := Hb0.out
  have hc0 : (w.alloc (.cells #[.int .u8 (a0 : Int), .int .u8 (a1 : Int), .int .u8 (a2 : Int), .int .u8 (a3 : Int)] 44)).cell? ⟨w.heap.size, 0, none⟩ = some (.int .u8 (a0 : Int)) := by rw [World.cell?_alloc_mark]; rfl
  have hc1 : (w.alloc (.cells #[.int .u8 (a0 : Int), .int .u8 (a1 : Int), .int .u8 (a2 : Int), .int .u8 (a3 : Int)] 44)).cell? ⟨w.heap.size, 1, none⟩ = some (.int .u8 (a1 : Int)) := by rw [World.cell?_alloc_mark]; rfl
  have hc2 : (w.alloc (.cells #[.int .u8 (a0 : Int), .int .u8 (a1 : Int), .int .u8 (a2 : Int), .int .u8 (a3 : Int)] 44)).cell? ⟨w.heap.size, 2, none⟩ = some (.int .u8 (a2 : Int)) := by rw [World.cell?_alloc_mark]; rfl
  have hc3 : (w.alloc (.cells #[.int .u8 (a0 : Int), .int .u8 (a1 : Int), .int .u8 (a2 : Int), .int .u8 (a3 : Int)] 44)).cell? ⟨w.heap.size, 3, none⟩ = some (.int .u8 (a3 : Int)) := by rw [World.cell?_alloc_mark]; rfl
  have hz0 : w.heap.size < (w.alloc (.cells #[.int .u8 (a0 : Int), .int .u8 (a1 : Int), .int .u8 (a2 : Int), .int .u8 (a3 : Int)] 44)).heap.size := by simp
  generalize w.alloc (.cells #[.int .u8 (a0 : Int), .int .u8 (a1 : Int), .int .u8 (a2 : Int), .int .u8 (a3 : Int)] 44) = wx at hb0 hc0 hc1 hc2 hc3 hz0 ⊢
  have HX := Lib.hid (⟨hc0, hc1, hc2, hc3⟩ : BoxOf wx w.heap.size a0 a1 a2 a3)
  clear hc0 hc1 hc2 hc3 Hb0
  go_wp2_with fail
  try simp only [hkI]
  go_loopw [8, 9] (fun t i wr => ∃ (j : Nat) (u : ByteArray), j ≤ 3 ∧ t = .string u ∧ i = .int .i64 j ∧ u.size ≤ 25 * j ∧ Hid (u.data.toList = preP n ways j) ∧ Hid (BoxOf wr w.heap.size a0 a1 a2 a3) ∧ w.heap.size < wr.heap.size ∧ Below w.heap.size w wr) (fun _ i _ => 3 - (intOf i).toNat)
  case atStart => exact ⟨0, ⟨#[]⟩, Nat.zero_le _, rfl, rfl, Nat.le_refl _, Lib.hid rfl, HX.out, hz0, hb0⟩
  case round =>
    clear hb0 hz0 HX
    obtain ⟨j, u, hj, rfl, rfl, huz, hu, HB, hz, hb⟩ := hrel
    have hEr := hE.below hb
    by_cases hlt : j < 3
    · obtain ⟨sh, hsh⟩ : ∃ sh : Nat, sh = 24 - 8 * j := ⟨_, rfl⟩
      have hj4 : j < 4 := by omega
      have hj4I : (j : Int) < 4 := by omega
      have hj0 : (0 : Int) ≤ (j : Int) := by omega
      have hltI : (j : Int) < 3 := by omega
      have hw1 : IntKind.i64.wrap (8 * (j : Int)) = 8 * (j : Int) := IntWalk.i64_in _ (by omega)
      have hw2 : IntKind.i64.wrap (24 - 8 * (j : Int)) = (sh : Int) := by rw [IntWalk.i64_in _ (by omega)]; omega
      have hw3 : (24 : Int) - 8 * (j : Int) = (sh : Int) := by omega
      have hw4 : IntKind.i64.wrap (sh : Int) = (sh : Int) := IntWalk.i64_in _ (by omega)
      have hsh0 : (0 : Int) ≤ (sh : Int) := by omega
      have hs32 : sh ≤ 32 := by omega
      have hsm : min sh 32 = sh := Nat.min_eq_left hs32
      have hq2 : n / 2 ^ sh < 4294967296 := Nat.lt_of_le_of_lt (Nat.div_le_self _ _) Hn.out
      obtain ⟨q, hq⟩ : ∃ q : Nat, q = n / 2 ^ sh % 256 := ⟨_, rfl⟩
      have hand : bits .and .u32 ((n : Int) / 2 ^ sh) 255 = (q : Int) := by rw [div2, and255 _ hq2, hq]
      have hq256 : q < 256 := by rw [hq]; exact Nat.mod_lt _ (by omega)
      have hqw : IntKind.u64.wrap (q : Int) = (q : Int) := wrap64 (by omega) (by omega)
      obtain ⟨aj, haj⟩ : ∃ aj, aj = ways j := ⟨_, rfl⟩
      have hcj : wr.cell? ⟨w.heap.size, j, none⟩ = some (.int .u8 (aj : Int)) := by rw [haj, Hways.out]; exact HB.out.at j hj4
      have haj2 : aj < 256 := by
        rw [haj, Hways.out]
        obtain rfl | rfl | rfl | rfl : j = 0 ∨ j = 1 ∨ j = 2 ∨ j = 3 := by omega
        all_goals assumption
      have cF := fun W hW => form_any q aj (by omega) haj2 W hW
      have hfl := Lz.formP_len q aj (by omega)
      have CF := Lib.hid cF
      have HQ : Hid (preP n ways (j + 1) = u.data.toList ++ (Lz.formP q aj ++ [46])) := by
        show _ = _
        rw [preP_succ, hu.out, ← hsh, ← hq, ← haj]
      have hEd : EnvH wr.drew := hEr.below (Below.refl _ _).drew
      clear hsh hq haj cF hq2
      go_wp2_with fail
      go_region_held3 (fun W => W.cell? ⟨w.heap.size, j, none⟩ = some (.int .u8 (aj : Int))) (first | go_keep | (show World.cell? _ _ = _; rw [hb2.cell (p := ⟨w.heap.size, j, none⟩) hz]; assumption)) ((go_at_call 23; (with_reducible refine (CF.out _ hEd).mono ?_); rintro e w2 ⟨x, rfl, hx, hb2⟩; have hxz : x.size ≤ 20 := (by rw [← len_of_size, hx.out]; exact hfl); have hs1 : ¬ (9223372036854775807 < u.size + x.size) := (by omega); have hs2 : ¬ (9223372036854775807 < u.size + x.size + 1) := (by omega)))
      have hxd : (u ++ x ++ (⟨#[46]⟩ : ByteArray)).data.toList = preP n ways (j + 1) := by
        rw [append_data', append_data', hx.out, HQ.out, List.append_assoc]
      have hxs : (u ++ x ++ (⟨#[46]⟩ : ByteArray)).size ≤ 25 * (j + 1) := by
        rw [← len_of_size, append_data', append_data', List.length_append, List.length_append, len_of_size, len_of_size]
        show u.size + x.size + 1 ≤ _
        omega
      have Hxd := Lib.hid hxd
      have Hxs := Lib.hid hxs
      have HB2 := Lib.hid ((HB.out.below hz (Below.refl _ wr).drew).below hz hb2)
      have hz2 : w.heap.size < w2.heap.size := Nat.lt_of_lt_of_le hz hb2.size
      have hb02 : Below w.heap.size w w2 := below_call hb.drew hb2
      generalize u ++ x ++ (⟨#[46]⟩ : ByteArray) = u2 at Hxd Hxs ⊢
      clear hxd hxs hx hu HB hcj HQ
      go_wp2_with fail
      go_roundw
      case rel => exact ⟨j + 1, u2, by omega, rfl, by go_num, Hxs.out, Hxd.out, HB2.out, hz2, hb02⟩
      case measure => simp [intOf]; omega
    · have hjk : j = 3 := by omega
      have hu2 : Hid (u.data.toList = preP n ways 3) := by show _ = _; rw [hu.out, hjk]
      have huz2 : u.size ≤ 100 := by omega
      have hltI : ¬ (j : Int) < 3 := by omega
      obtain ⟨z, hz'⟩ : ∃ z : Nat, z = n % 256 := ⟨_, rfl⟩
      have hmask : bits .and .u64 (n : Int) 255 = (z : Int) := by rw [hz']; exact mask_u64 n 8 Hn.out (by omega)
      have hz32 : z < 256 := by rw [hz']; exact Nat.mod_lt _ (by omega)
      obtain ⟨y, hy'⟩ : ∃ y : Nat, y = z + 256 := ⟨_, rfl⟩
      have hyI : (z : Int) + 256 = (y : Int) := by omega
      have hyw : IntKind.u64.wrap (y : Int) = (y : Int) := wrap64 (by omega) (by omega)
      have hy40 : y ≤ 1099511627776 := by omega
      obtain ⟨b3, hb3⟩ : ∃ b : Nat, b = n / 16777216 % 256 := ⟨_, rfl⟩
      obtain ⟨b2, hb2⟩ : ∃ b : Nat, b = n / 65536 % 256 := ⟨_, rfl⟩
      obtain ⟨b1, hb1⟩ : ∃ b : Nat, b = n / 256 % 256 := ⟨_, rfl⟩
      obtain ⟨b0, hb0⟩ : ∃ b : Nat, b = n % 256 := ⟨_, rfl⟩
      have hnl := Hn.out
      have hI3 : (n : Int) / 16777216 = (b3 : Int) := by omega
      have hI2 : bits .and .u32 ((n : Int) / 65536) 255 = (b2 : Int) := by rw [show (n : Int) / 65536 = ((n / 65536 : Nat) : Int) by omega, and255 _ (by omega), hb2]
      have hI1 : bits .and .u32 ((n : Int) / 256) 255 = (b1 : Int) := by rw [show (n : Int) / 256 = ((n / 256 : Nat) : Int) by omega, and255 _ (by omega), hb1]
      have hI0 : bits .and .u32 (n : Int) 255 = (b0 : Int) := by rw [and255 _ hnl, hb0]
      have h3l : b3 < 256 := by omega
      have h2l : b2 < 256 := by omega
      have h1l : b1 < 256 := by omega
      have h0l : b0 < 256 := by omega
      have HW : Hid (Lz.bytes4 n = [b3, b2, b1, b0]) := by show _ = _; rw [hb3, hb2, hb1, hb0]; rfl
      have Hz' := Lib.hid hz'
      have Hy' := Lib.hid hy'
      clear hz' hy' hb3 hb2 hb1 hb0 hjk hlt hu huz hj
      go_wp2_with fail
      refine (itoaB b3 h3l _ hEr).mono ?_
      rintro e w1 ⟨t3, rfl, ht3, hs3, hb1⟩
      have hE1 := hEr.below hb1
      have hx1 := below_call hb hb1
      have HB1 := Lib.hid (HB.out.below hz hb1)
      have hz1 : w.heap.size < w1.heap.size := Nat.lt_of_lt_of_le hz hb1.size
      have hk1 : ¬ (9223372036854775807 < t3.size + 1) := by omega
      clear HB hz hb1 hb
      go_wp2_with fail
      refine (itoaB b2 h2l _ hE1).mono ?_
      rintro e w2 ⟨t2, rfl, ht2, hs2, hb2⟩
      have hE2 := hE1.below hb2
      have hx2 := below_call hx1 hb2
      have HB2 := Lib.hid (HB1.out.below hz1 hb2)
      have hz2 : w.heap.size < w2.heap.size := Nat.lt_of_lt_of_le hz1 hb2.size
      have hk2 : ¬ (9223372036854775807 < t3.size + 1 + t2.size) := by omega
      have hk3 : ¬ (9223372036854775807 < t3.size + 1 + t2.size + 1) := by omega
      clear HB1 hz1 hb2 hx1 hE1
      go_wp2_with fail
      refine (itoaB b1 h1l _ hE2).mono ?_
      rintro e w3 ⟨t1, rfl, ht1, hs1, hb3⟩
      have hE3 := hE2.below hb3
      have hx3 := below_call hx2 hb3
      have HB3 := Lib.hid (HB2.out.below hz2 hb3)
      have hz3 : w.heap.size < w3.heap.size := Nat.lt_of_lt_of_le hz2 hb3.size
      have hk4 : ¬ (9223372036854775807 < t3.size + 1 + t2.size + 1 + t1.size) := by omega
      have hk5 : ¬ (9223372036854775807 < t3.size + 1 + t2.size + 1 + t1.size + 1) := by omega
      clear HB2 hz2 hb3 hx2 hE2
      go_wp2_with fail
      refine (itoaB b0 h0l _ hE3).mono ?_
      rintro e w4 ⟨t0, rfl, ht0, hs0, hb4⟩
      have hE4 := hE3.below hb4
      have hx4 := below_call hx3 hb4
      have HB4 := Lib.hid (HB3.out.below hz3 hb4)
      have hz4 : w.heap.size < w4.heap.size := Nat.lt_of_lt_of_le hz3 hb4.size
      have hk6 : ¬ (9223372036854775807 < t3.size + 1 + t2.size + 1 + t1.size + 1 + t0.size) := by omega
      clear HB3 hz3 hb4 hx3 hE3
      go_upto_region 9 with fail
      have H4 := Lib.hid (append4 ht3.out ht2.out ht1.out ht0.out)
      have hz11 : (t3 ++ (⟨#[46]⟩ : ByteArray) ++ t2 ++ (⟨#[46]⟩ : ByteArray) ++ t1 ++ (⟨#[46]⟩ : ByteArray) ++ t0).size ≤ 15 := append4_size hs3 hs2 hs1 hs0
      generalize t3 ++ (⟨#[46]⟩ : ByteArray) ++ t2 ++ (⟨#[46]⟩ : ByteArray) ++ t1 ++ (⟨#[46]⟩ : ByteArray) ++ t0 = s11 at H4 hz11 ⊢
      clear ht3 ht2 ht1 ht0 hs3 hs2 hs1 hs0 hk1 hk2 hk3 hk4 hk5 hk6
      have hv1 : IntKind.i64.wrap (5 - 4) = 5 - 4 := by decide
      have hv2 : IntKind.i64.wrap (8 * (5 - 4)) = 8 := by decide
      simp only [Int.reduceSub, Int.reduceMul] at hv1 hv2
      have hp1 : IntKind.u64.wrap (2 ^ 8) = 256 := by decide
      have hp2 : IntKind.u64.wrap 256 = 256 := by decide
      have hp3 : IntKind.u64.wrap (1 * 2 ^ 8) = 256 := by decide
      have h3c : w4.cell? ⟨w.heap.size, 3, none⟩ = some (.int .u8 (a3 : Int)) := HB4.out.c3
      have cF1 := Lib.hid (fun W hW => form_any y a3 (by omega) ha3 W hW)
      have cF0 := Lib.hid (fun W hW => form_any z a3 (by omega) ha3 W hW)
      have hfl1 := Lz.formP_len y a3 (by omega)
      have hfl0 := Lz.formP_len z a3 (by omega)
      have hEd4 : EnvH w4.drew := hE4.below (Below.refl _ _).drew
      go_region_held3 (fun W => W.cell? ⟨w.heap.size, 3, none⟩ = some (.int .u8 (a3 : Int))) (first | go_keep | (show World.cell? _ _ = _; rw [hb5.cell (p := ⟨w.heap.size, 3, none⟩) hz4]; assumption)) ((go_at_call 23; (with_reducible refine (cF1.out _ hEd4).mono ?_); rintro e w5 ⟨x1, rfl, hx1, hb5⟩; have hxz1 : x1.size ≤ 20 := (by rw [← len_of_size, hx1.out]; exact hfl1); have hs1 : ¬ (9223372036854775807 < u.size + x1.size) := (by omega)))
      have hE5 := hEd4.below hb5
      have hx5 := below_call hx4.drew hb5
      have hz5 : w.heap.size < w5.heap.size := Nat.lt_of_lt_of_le hz4 hb5.size
      have h3c5 : w5.cell? ⟨w.heap.size, 3, none⟩ = some (.int .u8 (a3 : Int)) := by assumption
      clear hx4 HB4 hEd4 hE4 h3c
      go_wp2_with fail
      refine (cF0.out _ hE5).mono ?_
      rintro e w6 ⟨x0, rfl, hx0, hb6⟩
      have hxz0 : x0.size ≤ 20 := by rw [← len_of_size, hx0.out]; exact hfl0
      have hs0 : ¬ (9223372036854775807 < u.size + x0.size) := by omega
      have hE6 := hE5.below hb6
      have hx6 := below_call hx5 hb6
      go_upto_region 11 with fail
      have hok : FourOk (u ++ x0) s11 (u ++ x1) := fourOk n 4 ways (by omega) Hn.out u x0 x1 s11 z y a3 hu2.out hx0.out hx1.out Hz'.out (by rw [Hy'.out, Hz'.out]; rfl) (by rw [Hways.out]; rfl) (by rw [H4.out, HW.out]) huz2 hxz0 hxz1 hz11
      generalize u ++ x0 = s8 at hok ⊢
      generalize u ++ x1 = s12 at hok ⊢
      obtain ⟨k1, k2, k3, k4, k5, k6, k8⟩ := hok
      have hs8 : ¬ (9223372036854775807 < s8.size + 1) := by omega
      have hs9 : ¬ (9223372036854775807 < s8.size + 8) := by omega
      clear hx5 hE5 hb5 hb6 hs1 hs0
      go_wp2_with (first
        | (go_at_call 22; refine (is_true _ _ _ _ w _ (by assumption) (by assumption) (by assumption)).mono ?_; rintro e wn ⟨rfl, hEn, hbn⟩)
        | (go_at_call 24; refine (ip_is _ true w _ (by assumption) (by assumption) (by assumption)).mono ?_; rintro e wn ⟨rfl, hEn, hbn⟩)
        | (go_at_call 20; refine (houses_true w _ (by assumption) (by assumption)).mono ?_; rintro e wn ⟨rfl, hEn, hbn⟩))
      go_ret
      exact ⟨rfl, by assumption⟩

theorem hostsFour_any (n m a0 a1 a2 a3 : Nat) (hn : n < 4294967296) (hm : m < 256) (ha0 : a0 < 256) (ha1 : a1 < 256) (ha2 : a2 < 256) (ha3 : a3 < 256) (w : World) (hE : EnvH w) :
    Calls Tryz.prog 8 #[.int .u32 n, .int .u8 m, .agg #[.int .u8 a0, .int .u8 a1, .int .u8 a2, .int .u8 a3]] w (RBool true w) := by
  obtain h | h | h | h : m % 4 + 1 = 1 ∨ m % 4 + 1 = 2 ∨ m % 4 + 1 = 3 ∨ m % 4 + 1 = 4 := by omega
  · exact hostsFour_1 n m a0 a1 a2 a3 hn hm h ha0 ha1 ha2 ha3 w hE
  · exact hostsFour_2 n m a0 a1 a2 a3 hn hm h ha0 ha1 ha2 ha3 w hE
  · exact hostsFour_3 n m a0 a1 a2 a3 hn hm h ha0 ha1 ha2 ha3 w hE
  · exact hostsFour_4 n m a0 a1 a2 a3 hn hm h ha0 ha1 ha2 ha3 w hE
end Go.Proofs.YtkaejkjheajaaaaGreatDoor
