/-
  The walks of sources.parse and sources.Parse.
-/
import Derived.Test.YtkaejkjheajaaaaGreatDoorSrcD
import Derived.Test.YtkaejkjheajaaaaGreatDoorAs
namespace Go.Proofs.YtkaejkjheajaaaaGreatDoor
open Go.RowKit

theorem Bady.up {w : World} {n m : Nat} {v : Value} (hnm : n ≤ m) (h : Bady w n v) : Bady w m v := by
  induction hnm with
  | refl => exact h
  | step _ ih => exact Or.inl ih
theorem SrcRes.up {o : Option Lz.Src} {x : SrcB} {w : World} {n m : Nat} {v : Value} (hnm : n ≤ m) (h : SrcRes o x w n v) : SrcRes o x w m v := by
  cases o with
  | none => exact Bady.up hnm h
  | some y => exact h
theorem SrcRes.setRow {o : Option Lz.Src} {x : SrcB} {w : World} {R : Nat} {cs : Array Value} {t : TypeId} {fr : Nat × Nat} {n : Nat} {v : Value} (hr : w.heap[R]? = some (.cells cs t fr)) (h0 : cs[0]? = some (.int .i64 0)) (cells : Array Value) (h : SrcRes o x w n v) : SrcRes o x (w.setRow R cells) n v := by
  cases o with
  | none => exact Bady.setRow hr h0 cells h
  | some y => exact h

theorem trimSuffix_le (s p : List UInt8) : (Lib.trimSuffix s p).length ≤ s.length := by
  unfold Lib.trimSuffix
  split
  · simp [List.length_take]
  · exact Nat.le_refl _

theorem alloc_row_one {w w1 : World} {o : Obj} (hb : Below (w.alloc o).heap.size (w.alloc o) w1) : w1.heap[w.heap.size]? = some o := by
  rw [hb.block w.heap.size (by simp)]
  show (w.heap.push _)[w.heap.size]? = _
  simp

theorem head_at {s : ByteArray} (h : 0 < s.size) : s.data.toList.head? = some s[0] := by
  have := get_of_lt h
  cases hl : s.data.toList with
  | nil => rw [hl] at this; cases this
  | cons a r => rw [hl] at this; simpa using this
theorem last_at {s : ByteArray} (h : 0 < s.size) : s.data.toList.getLast? = some (s[s.size - 1]'(by omega)) := by
  rw [List.getLast?_eq_getElem?, len_of_size]
  exact get_of_lt (by omega)
theorem byte_beq (a b : UInt8) : ((a.toNat : Int) == (b.toNat : Int)) = (a == b) := by
  by_cases h : a = b
  · subst h; simp
  · have : ¬ (a.toNat : Int) = b.toNat := fun e => h (UInt8.toNat_inj.1 (by omega))
    rw [beq_eq_false_iff_ne.2 this, beq_eq_false_iff_ne.2 h]

theorem dropLast_extract (s : ByteArray) : (s.extract 1 (s.size - 1)).data.toList = (s.data.toList.drop 1).dropLast := by
  rw [Lib.extract_data, List.dropLast_eq_take, List.length_drop, len_of_size]

set_option maxHeartbeats 2000000 in
set_option maxRecDepth 100000 in
theorem parse_any (s : ByteArray) (hs : s.size ≤ 1048576) (w : World) (hE : Env w) : Calls Tryz.prog 28 #[.string s] w (RSrc (Lz.parseS s.data.toList) 3 w) := by
  obtain ⟨q, hq⟩ : ∃ q, q = Lz.quotes s.data.toList := ⟨_, rfl⟩
  have Hq := Lib.hid hq
  clear hq
  have hx0 : Below w.heap.size w (w.alloc (.cells #[.int .i64 0, .string ⟨#[]⟩, .int .i64 0, .string ⟨#[]⟩, .string ⟨#[]⟩, .bool false, .int .i64 0, .string ⟨#[]⟩] 28)) := (Below.refl _ w).alloc (Nat.le_refl _) _
  have hE0 := hE.below hx0
  go_enter Tryz.func28, Tryz.ntmps28
  go_upto_region 1 with fail
  go_cut [21] (fun s21 wx => s21 = .bool q ∧ wx = (w.alloc (.cells #[.int .i64 0, .string ⟨#[]⟩, .int .i64 0, .string ⟨#[]⟩, .string ⟨#[]⟩, .bool false, .int .i64 0, .string ⟨#[]⟩] 28)))
  case first =>
    by_cases h1 : 1 < s.size
    · have h0 : 0 < s.size := by omega
      have hl : s.size - 1 < s.size := by omega
      have g0 := head_at h0
      have g1 := last_at h0
      have hqe : q = ((s[0].toNat : Int) == 39 && ((s[s.size - 1].toNat : Int) == 39)) := by
        rw [Hq.out]
        unfold Lz.quotes
        rw [g0, g1, len_of_size, decide_eq_true h1]
        have e1 := byte_beq s[0] 39
        have e2 := byte_beq (s[s.size - 1]'(by omega)) 39
        simp only [Bool.true_and]
        rw [show ((39 : UInt8).toNat : Int) = 39 from rfl] at e1 e2
        rw [e1, e2]
        rfl
      have Hqe := Lib.hid hqe
      clear hqe g0 g1
      generalize ha : ((s[0].toNat : Int) == 39) = a at Hqe
      generalize hb : ((s[s.size - 1].toNat : Int) == 39) = b at Hqe
      cases a <;> cases b
      all_goals
        go_wp2_with fail
        all_goals
          go_meet
          exact ⟨by have h := Hqe.out; subst h; rfl, rfl⟩
    · have hqe : q = false := by
        rw [Hq.out]
        unfold Lz.quotes
        rw [len_of_size, decide_eq_false h1]
        rfl
      have Hqe := Lib.hid hqe
      clear hqe
      have h1' : (s.size : Int) ≤ 1 := by omega
      clear h1
      go_wp2_with fail
      all_goals
        go_meet
        exact ⟨by have h := Hqe.out; subst h; rfl, rfl⟩
  case rest =>
    obtain ⟨rfl, rfl⟩ := hcut
    cases q
    · go_wp2_with fail
      refine (CutSuffix_c s ⟨#[58]⟩ (by omega) _).mono ?_
      rintro e w1 ⟨v, rfl, hv, rfl⟩
      have hvz : v.size ≤ 1048576 := by
        rw [← len_of_size v, hv.out]
        exact Nat.le_trans (trimSuffix_le _ _) (by rw [len_of_size]; exact hs)
      have cS := Lib.hid (fun w => scheme_any v (by omega) w)
      generalize hsf : Lib.hasSuffix s.data.toList (ByteArray.data ⟨#[58]⟩).toList = sf
      have Hsf := Lib.hid hsf
      clear hsf
      generalize hsb : Lz.schemeB v.data.toList = sb at cS
      have Hsb := Lib.hid hsb
      clear hsb
      by_cases hyes : sf = true ∧ sb = true
      · obtain ⟨rfl, rfl⟩ := hyes
        go_wp2_with fail
        refine (cS.out _).mono ?_
        rintro e w1 ⟨rfl, rfl⟩
        go_wp2_with fail
        refine (Lower_c v (by omega) _).mono ?_
        rintro e w1 ⟨u, rfl, hu, hb1⟩
        have hR1 := alloc_row_one hb1
        have hx1 := below_call hx0 hb1
        go_wp2_with (refine store_src rfl _ _ rfl w.heap.size rfl rfl _ hR1 rfl ?_)
        refine bodyPost_ret (results_src (u := 3) rfl _ _ w.heap.size ⟨2, ⟨#[]⟩, 0, u, ⟨#[]⟩, false, -1, ⟨#[]⟩⟩ (0, 0) rfl (setRow_heap _ _ _ _ _ _ hR1)) rfl ⟨_, _, rfl, ?_, below_setRow hx1 (Nat.le_refl _) _⟩
        have hp : Lz.parseS s.data.toList = some (Lz.schemeS (Lz.low v.data.toList)) := by
          unfold Lz.parseS
          have h1 : Lib.hasSuffix s.data.toList [58] = true := Hsf.out
          have h2 : v.data.toList = Lib.trimSuffix s.data.toList [58] := hv.out
          rw [← Hq.out, ← h2, h1, Hsb.out]
          rfl
        rw [hp]
        exact ⟨by unfold SrcB.src; rw [hu.out]; rfl, rfl⟩
      · have hp : Lz.parseS s.data.toList = Lz.hostedS s.data.toList := by
          unfold Lz.parseS
          have h2 : v.data.toList = Lib.trimSuffix s.data.toList [58] := hv.out
          have h1 : Lib.hasSuffix s.data.toList [58] = sf := Hsf.out
          rw [← Hq.out, ← h2, h1, Hsb.out]
          cases sf <;> cases sb <;> simp_all
        have Hp := Lib.hid hp
        have hcase : (sf = false) ∨ (sf = true ∧ sb = false) := by cases sf <;> cases sb <;> simp_all
        clear hyes hp
        rcases hcase with rfl | ⟨rfl, rfl⟩
        all_goals
          go_wp2_with (first | (go_at_call 45; refine (cS.out _).mono ?_; rintro e w1 ⟨rfl, rfl⟩) | (go_at_call 47; fail))
          refine (hosted_any s hs _ hE0).mono ?_
          rintro e w1 ⟨x, v2, rfl, hv2, hb1⟩
          have hR1 := alloc_row_one hb1
          have hx1 := below_call hx0 hb1
          clear hb1
          obtain ⟨k1, t1, b1, sc1, ho1, wd1, po1, pa1⟩ := x
          go_wp2_with (refine store_src rfl _ _ rfl w.heap.size rfl rfl _ hR1 rfl ?_)
          refine bodyPost_ret (results_src (u := 3) rfl _ _ w.heap.size ⟨k1, t1, b1, sc1, ho1, wd1, po1, pa1⟩ (0, 0) rfl (setRow_heap _ _ _ _ _ _ hR1)) rfl ⟨_, _, rfl, ?_, below_setRow hx1 (Nat.le_refl _) _⟩
          rw [Hp.out]
          exact hv2.out.setRow hR1 rfl _
    · have h1 : 1 < s.size := by
        have h := Hq.out
        unfold Lz.quotes at h
        rw [len_of_size] at h
        by_cases h1 : 1 < s.size
        · exact h1
        · rw [decide_eq_false h1] at h
          simp at h
      have hz := extract_size_le s 1 (s.size - 1)
      have hc1 : ((s.size : Int) - 1) = ((s.size - 1 : Nat) : Int) := by omega
      have Hc1 := Lib.hid hc1
      clear hc1
      go_wp2_with fail
      refine (quoted_any (s.extract 1 (s.size - 1)) (by omega) _ hE0).mono ?_
      rintro e w1 ⟨x, v2, rfl, hv2, hb1⟩
      have hR1 := alloc_row_one hb1
      have hx1 := below_call hx0 hb1
      clear hb1
      have hp : Lz.parseS s.data.toList = Lz.quotedS (s.extract 1 (s.size - 1)).data.toList := by
        unfold Lz.parseS
        rw [← Hq.out, dropLast_extract, if_pos rfl]
      have Hp := Lib.hid hp
      clear hp
      obtain ⟨k1, t1, b1, sc1, ho1, wd1, po1, pa1⟩ := x
      go_wp2_with (refine store_src rfl _ _ rfl w.heap.size rfl rfl _ hR1 rfl ?_)
      refine bodyPost_ret (results_src (u := 3) rfl _ _ w.heap.size ⟨k1, t1, b1, sc1, ho1, wd1, po1, pa1⟩ (0, 0) rfl (setRow_heap _ _ _ _ _ _ hR1)) rfl ⟨_, _, rfl, ?_, below_setRow hx1 (Nat.le_refl _) _⟩
      rw [Hp.out]
      exact (hv2.out.up (Nat.zero_le 3)).setRow hR1 rfl _

/-- What sources.Parse answers. -/
def parseR (l : List UInt8) : Lz.Src := (Lz.parseS l).getD ⟨0, [], 0, [], [], false, 0, []⟩
def parseE (l : List UInt8) : Int := if (Lz.parseS l).isSome then 0 else 250
def RParse (l : List UInt8) (w : World) (e : Ending) (w' : World) : Prop :=
  ∃ x : SrcB, e = .returned (.tuple #[x.val, .int .i64 (parseE l)]) ∧ Hid (x.src = parseR l) ∧ Below w.heap.size w w'

theorem results_src2 {fn : Func} {p u : Tmp} (h : fn.results = #[.cell p 28, .tmp u]) (tmps : Array Value) (w : World) (g : Nat) (x : SrcB) (fr : Nat × Nat) (n : Int)
    (hp : tmps.getD p undef = .pointer (some ⟨g, 0, none⟩)) (hu : tmps.getD u undef = .int .i64 n) (hg : w.heap[g]? = some (.cells #[.int .i64 x.kind, .string x.text, .int .i64 x.bits, .string x.scheme, .string x.host, .bool x.wild, .int .i64 x.port, .string x.path] 28 fr)) :
    (results fn tmps).run Tryz.prog w = .ok (.tuple #[x.val, .int .i64 n]) w := by
  rw [← hu]; exact results_src h tmps w g x fr hp hg

set_option maxHeartbeats 2000000 in
set_option maxRecDepth 100000 in
theorem Parse_any (s : ByteArray) (hs : s.size ≤ 1048576) (w : World) (hE : Env w) : Calls Tryz.prog 15 #[.string s] w (RParse s.data.toList w) := by
  have hx0 : Below w.heap.size w (w.alloc (.cells #[.int .i64 0, .string ⟨#[]⟩, .int .i64 0, .string ⟨#[]⟩, .string ⟨#[]⟩, .bool false, .int .i64 0, .string ⟨#[]⟩] 28)) := (Below.refl _ w).alloc (Nat.le_refl _) _
  have hE0 := hE.below hx0
  go_enter Tryz.func15, Tryz.ntmps15
  go_wp2_with fail
  refine (parse_any s hs _ hE0).mono ?_
  rintro e w1 ⟨x, v, rfl, hv, hb1⟩
  have hR1 := alloc_row_one hb1
  have hx1 := below_call hx0 hb1
  have hE1 := hE.below hx1
  clear hb1
  obtain ⟨k1, t1, b1, sc1, ho1, wd1, po1, pa1⟩ := x
  dsimp only [SrcB.val]
  have hR2 : ∀ o1 o2 : Obj, ((w1.alloc o1).alloc o2).heap[w.heap.size]? = some (.cells #[.int .i64 0, .string ⟨#[]⟩, .int .i64 0, .string ⟨#[]⟩, .string ⟨#[]⟩, .bool false, .int .i64 0, .string ⟨#[]⟩] 28 (0, 0)) := fun o1 o2 => by
    have hl := (Array.getElem?_eq_some_iff.1 hR1).1
    rw [Below.heap_alloc _ _ _ (by simp; omega), Below.heap_alloc _ _ _ hl]; exact hR1
  cases hp : Lz.parseS s.data.toList with
  | some y =>
    rw [hp] at hv
    obtain ⟨hy, rfl⟩ := hv.out
    have Hy := Lib.hid hy
    clear hy hv
    have HE : Hid (parseE s.data.toList = 0 ∧ parseR s.data.toList = y) := by refine ⟨?_, ?_⟩ <;> simp [parseE, parseR, hp]
    clear hp
    go_wp2_with fail
    refine (As_nil _ _).mono ?_
    rintro e w2 ⟨rfl, rfl⟩
    go_wp2_with (refine store_src rfl _ _ rfl w.heap.size rfl rfl _ (hR2 _ _) rfl ?_)
    refine bodyPost_ret (results_src2 (u := 3) rfl _ _ w.heap.size ⟨k1, t1, b1, sc1, ho1, wd1, po1, pa1⟩ (0, 0) 0 rfl rfl (setRow_heap _ _ _ _ _ _ (hR2 _ _))) rfl ⟨⟨k1, t1, b1, sc1, ho1, wd1, po1, pa1⟩, by rw [HE.out.1], by show _ = _; rw [HE.out.2]; exact Hy.out, below_setRow ?_ (Nat.le_refl _) _⟩
    exact (hx1.alloc (by have := hx1.size; omega) _).alloc (by have := hx1.size; simp; omega) _
  | none =>
    rw [hp] at hv
    have hB : Bady w1 3 v := hv.out
    obtain ⟨t0, x0, rfl⟩ := hB.iface
    have HE : Hid (parseE s.data.toList = 250 ∧ parseR s.data.toList = ⟨0, [], 0, [], [], false, 0, []⟩) := by refine ⟨?_, ?_⟩ <;> simp [parseE, parseR, hp]
    clear hp hv
    have hxa : ∀ o1 o2 : Obj, Below w1.heap.size w1 ((w1.alloc o1).alloc o2) := fun o1 o2 => ((Below.refl _ w1).alloc (Nat.le_refl _) _).alloc (by simp) _
    have HB := Lib.hid hB
    clear hB
    go_wp2_with fail
    refine (As_bady 3 t0 x0 (w1.heap.size + 1) (.string ⟨#[]⟩) _ (hE1.below (hxa _ _)) (HB.out.below (hxa _ _)) (by simp) (by simp)).mono ?_
    rintro e w2 ⟨rfl, hb2⟩
    have hR3 : w2.heap[w.heap.size]? = some (.cells #[.int .i64 0, .string ⟨#[]⟩, .int .i64 0, .string ⟨#[]⟩, .string ⟨#[]⟩, .bool false, .int .i64 0, .string ⟨#[]⟩] 28 (0, 0)) := by
      have hl := (Array.getElem?_eq_some_iff.1 hR1).1
      rw [hb2.block _ (by omega)]; exact hR2 _ _
    have hx3 : Below w.heap.size w w2 := (hx1.trans ((hxa _ _).mono hx1.size)).trans (hb2.mono (by have := hx1.size; omega))
    clear hb2 hR2 hxa hR1
    go_wp2_with (refine store_src rfl _ _ rfl w.heap.size rfl rfl _ hR3 rfl ?_)
    refine bodyPost_ret (results_src2 (u := 3) rfl _ _ w.heap.size ⟨0, ⟨#[]⟩, 0, ⟨#[]⟩, ⟨#[]⟩, false, 0, ⟨#[]⟩⟩ (0, 0) 250 rfl rfl (setRow_heap _ _ _ _ _ _ hR3)) rfl ⟨⟨0, ⟨#[]⟩, 0, ⟨#[]⟩, ⟨#[]⟩, false, 0, ⟨#[]⟩⟩, by rw [HE.out.1], by show _ = _; rw [HE.out.2]; rfl, below_setRow hx3 (Nat.le_refl _) _⟩
end Go.Proofs.YtkaejkjheajaaaaGreatDoor
