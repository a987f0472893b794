/-
  lazaretlaw08.UrlsAlone: it returns true, whatever the texts.
  lazaretlaw08.UrlsDots: it returns true, whatever the numbers.
  The statement and the card of lazaretlaw08.UrlsDots: whatever comes in, the law returns true, and what came in reads as it did.
-/
import Derived.Test.YthijceooebebfaaGreatDoorM34
import Derived.Test.YthijceooebebfaaGreatDoorM32
import Derived.Deep.DrawnRows
import Derived.Deep.RegionHeld3
import Derived.IntWalk
import Derived.Test.YthijceooebebfaaGreatDoorCards
import Derived.Test.YthijceooebebfaaGreatDoorTie
namespace Go.Proofs.YthijceooebebfaaGreatDoor
open Go.RowKit
/-- Of two answers that are one, the URLs are one, and the numbers. -/
theorem two_same {R : Lz.UR} {u1 u2 : Lz.UrlL} {z1 z2 : Int} (h1 : (R = .ok u1 ∧ z1 = 0) ∨ ∃ k : Nat, R = .er k ∧ u1 = zeroU ∧ z1 = (k : Int)) (h2 : (R = .ok u2 ∧ z2 = 0) ∨ ∃ k : Nat, R = .er k ∧ u2 = zeroU ∧ z2 = (k : Int)) : u2 = u1 ∧ z2 = z1 := by
  rcases h1 with ⟨h1, h1'⟩ | ⟨k, h1, h1', h1''⟩
  · rcases h2 with ⟨h2, h2'⟩ | ⟨k2, h2, _⟩
    · rw [h1] at h2; injection h2 with h2; exact ⟨h2.symm, by omega⟩
    · rw [h1] at h2; cases h2
  · rcases h2 with ⟨h2, h2'⟩ | ⟨k2, h2, h2', h2''⟩
    · rw [h1] at h2; cases h2
    · rw [h1] at h2; injection h2 with h2; exact ⟨by rw [h1', h2'], by omega⟩
theorem path_of {s base : List UInt8} {u : Lz.UrlL} {z : Int} (h : (Lz.byU s base = .ok u ∧ z = 0) ∨ ∃ k : Nat, Lz.byU s base = .er k ∧ u = zeroU ∧ z = (k : Int)) : u.path.length ≤ 1000000000 := by
  rcases h with ⟨h, _⟩ | ⟨k, _, h, _⟩
  · exact (by_ok h).1.path
  · rw [h]; show (0 : Nat) ≤ _; omega
theorem by_front (F : ByteArray) (hF : F.data.toList ∈ Lz.fronts) (s base : ByteArray) (hs : s.size ≤ 800) (w : World) (hE : EnvU w) : Calls Tryz.prog 17 #[.string (F ++ s), .string base] w (RParse (Lz.byU (F.data.toList ++ s.data.toList) []) w) := by
  have := by_any (F ++ s) base w hE
  have e : Lz.byU (F ++ s).data.toList base.data.toList = Lz.byU (F.data.toList ++ s.data.toList) [] := by
    rw [append_data', Lz.alone_by hF _ (by rw [len_of_size]; exact hs), Lz.alone_by hF _ (by rw [len_of_size]; exact hs)]
  rw [e] at this
  exact this
theorem idxF0 (w : World) : (Instr.index 37 (.agg #[.string ⟨#[120, 45, 121, 58]⟩, .string ⟨#[104, 116, 116, 112, 58, 47, 47, 104, 47]⟩, .string ⟨#[119, 115, 115, 58, 47, 47, 104, 58, 49, 47]⟩, .string ⟨#[102, 105, 108, 101, 58, 47, 47, 104, 47]⟩]) (.int .i64 0)).run Tryz.prog w = .ok (.string ⟨#[120, 45, 121, 58]⟩) w := by kernel_rfl
theorem idxF1 (w : World) : (Instr.index 37 (.agg #[.string ⟨#[120, 45, 121, 58]⟩, .string ⟨#[104, 116, 116, 112, 58, 47, 47, 104, 47]⟩, .string ⟨#[119, 115, 115, 58, 47, 47, 104, 58, 49, 47]⟩, .string ⟨#[102, 105, 108, 101, 58, 47, 47, 104, 47]⟩]) (.int .i64 1)).run Tryz.prog w = .ok (.string ⟨#[104, 116, 116, 112, 58, 47, 47, 104, 47]⟩) w := by kernel_rfl
theorem idxF2 (w : World) : (Instr.index 37 (.agg #[.string ⟨#[120, 45, 121, 58]⟩, .string ⟨#[104, 116, 116, 112, 58, 47, 47, 104, 47]⟩, .string ⟨#[119, 115, 115, 58, 47, 47, 104, 58, 49, 47]⟩, .string ⟨#[102, 105, 108, 101, 58, 47, 47, 104, 47]⟩]) (.int .i64 2)).run Tryz.prog w = .ok (.string ⟨#[119, 115, 115, 58, 47, 47, 104, 58, 49, 47]⟩) w := by kernel_rfl
theorem idxF3 (w : World) : (Instr.index 37 (.agg #[.string ⟨#[120, 45, 121, 58]⟩, .string ⟨#[104, 116, 116, 112, 58, 47, 47, 104, 47]⟩, .string ⟨#[119, 115, 115, 58, 47, 47, 104, 58, 49, 47]⟩, .string ⟨#[102, 105, 108, 101, 58, 47, 47, 104, 47]⟩]) (.int .i64 3)).run Tryz.prog w = .ok (.string ⟨#[102, 105, 108, 101, 58, 47, 47, 104, 47]⟩) w := by kernel_rfl
set_option maxHeartbeats 8000000 in
set_option maxRecDepth 100000 in
theorem urlsAlone_any (s a b : ByteArray) (w : World) (hE : EnvU w) : Calls Tryz.prog 6 #[.string s, .string a, .string b] w (RBool true w) := by
  have hb00 := Below.refl w.heap.size w
  have cH := Lib.hid (places_any w hE)
  by_cases hbig : 800 < s.size ∨ 800 < a.size ∨ 800 < b.size
  · obtain ⟨q1, h1⟩ : ∃ q, decide ((800 : Int) < (s.size : Int)) = q := ⟨_, rfl⟩
    obtain ⟨q2, h2⟩ : ∃ q, decide ((800 : Int) < (a.size : Int)) = q := ⟨_, rfl⟩
    obtain ⟨q3, h3⟩ : ∃ q, decide ((800 : Int) < (b.size : Int)) = q := ⟨_, rfl⟩
    have hq : (q1 || (q2 || q3)) = true := by
      rw [← h1, ← h2, ← h3]; simp; omega
    clear hbig
    cases q1 <;> cases q2 <;> cases q3 <;> first | (exact absurd hq (by decide)) | skip
    all_goals
      clear hq
      go_enter Tryz.func6, Tryz.ntmps6
      go_wp2_with fail
      refine cH.out.mono ?_
      rintro e w1 ⟨rfl, hb⟩
      go_wp2_with fail
      go_ret
      exact ⟨rfl, hb⟩
  · have g1 : ¬ (800 : Int) < (s.size : Int) := by omega
    have g2 : ¬ (800 : Int) < (a.size : Int) := by omega
    have g3 : ¬ (800 : Int) < (b.size : Int) := by omega
    have hs8 : s.size ≤ 800 := by omega
    have n1 : ¬ (9223372036854775807 < 4 + s.size) := by omega
    have n2 : ¬ (9223372036854775807 < 9 + s.size) := by omega
    have n3 : ¬ (9223372036854775807 < 10 + s.size) := by omega
    have hb00 := Below.refl w.heap.size w
    clear hbig cH
    go_enter Tryz.func6, Tryz.ntmps6
    go_wp2_with fail
    go_loopw [28] (fun k wr => ∃ i : Nat, k = .int .i64 i ∧ i ≤ 4 ∧ EnvU wr ∧ Below w.heap.size w wr) (fun k _ => 4 - (intOf k).toNat)
    case atStart => exact ⟨0, rfl, by omega, hE, hb00⟩
    case round =>
      obtain ⟨i, rfl, hi, hEr, hbr⟩ := hrel
      by_cases hlt : i < 4
      · rcases (show i = 0 ∨ i = 1 ∨ i = 2 ∨ i = 3 by omega) with rfl | rfl | rfl | rfl
        all_goals
          have j0 := idxF0 wr
          have j1 := idxF1 wr
          have j2 := idxF2 wr
          have j3 := idxF3 wr
          go_upto_region 6 with fail
          clear j0 j1 j2 j3
          go_wp2_with fail
          refine (by_front _ ?hF s a hs8 _ hEr).mono ?_
          case hF => decide
          intro e w1 hr
          obtain ⟨v1, z1, u1, rfl, hb1, hox, hk1⟩ := hr.open
          obtain ⟨sc1, us1, pa1, hh1, hs1, pr1, op1, a1, n1, c1, hq1, hf1, qr1, fr1, rfl⟩ := hox.form
          have hP := PU.new (w := w) (hEr.below hb1) (below_call hbr hb1) hox
          have hpl := path_of hk1
          clear hox hr
          go_upto_region 7 with fail
          generalize w1.alloc (.cells #[.string sc1, .string us1, .string pa1, .bool hh1, .string hs1, .int .i64 pr1, .bool op1, .slice a1 n1 c1, .bool hq1, .bool hf1, .string qr1, .string fr1] 27) = V at hP ⊢
          generalize w1.heap.size = r1 at hP ⊢
          have HP := Lib.hid hP
          clear hP hb1
          go_wp2_with fail
          refine (by_front _ ?hF s b hs8 _ HP.out.env).mono ?_
          case hF => decide
          intro e w2 hr
          obtain ⟨v2, z2, u2, rfl, hb2, hox, hk2⟩ := hr.open
          obtain ⟨hu, hz⟩ := two_same hk1 hk2
          subst hu hz
          obtain ⟨sc2, us2, pa2, hh2, hs2, pr2, op2, a2, n2, c2, hq2, hf2, qr2, fr2, rfl⟩ := hox.form
          have hP2 := (HP.out.call hb2).alloc (.cells #[.string sc2, .string us2, .string pa2, .bool hh2, .string hs2, .int .i64 pr2, .bool op2, .slice a2 n2 c2, .bool hq2, .bool hf2, .string qr2, .string fr2] 27)
          have hQ2 := PU.new (w := w) (HP.out.env.below hb2) (below_call HP.out.below hb2) hox
          clear hox hr hk1 hk2 hb2 HP
          go_upto_region 8 with fail
          generalize w2.alloc (.cells #[.string sc2, .string us2, .string pa2, .bool hh2, .string hs2, .int .i64 pr2, .bool op2, .slice a2 n2 c2, .bool hq2, .bool hf2, .string qr2, .string fr2] 27) = V2 at hP2 hQ2 ⊢
          generalize w2.heap.size = r2 at hQ2 ⊢
          have HP2 := Lib.hid hP2
          have HQ2 := Lib.hid hQ2
          have ez : (z2 != z2) = false := by simp
          have cS := Lib.hid (same_yes _ _ u2 V2 hP2.own.val hQ2.own.val hpl)
          clear hP2 hQ2
          go_wp2_with (first | (refine load_url_g rfl _ rfl r1 rfl _ HP2.out.row rfl ?_) | (refine load_url_g rfl _ rfl r2 rfl _ HQ2.out.row rfl ?_))
          refine cS.out.mono ?_
          rintro e w3 ⟨rfl, hb3⟩
          have hQ3 := HQ2.out.call hb3
          clear HP2 HQ2 cS hb3
          go_wp2_with fail
          go_roundw
          case rel => first | exact ⟨1, by go_num, by omega, hQ3.env, hQ3.below⟩ | exact ⟨2, by go_num, by omega, hQ3.env, hQ3.below⟩ | exact ⟨3, by go_num, by omega, hQ3.env, hQ3.below⟩ | exact ⟨4, by go_num, by omega, hQ3.env, hQ3.below⟩
          case measure => simp [intOf]
      · obtain rfl : i = 4 := by omega
        have cH := Lib.hid (places_any wr hEr)
        go_wp2_with fail
        refine cH.out.mono ?_
        rintro e w1 ⟨rfl, hb⟩
        go_wp2_with fail
        go_ret
        exact ⟨rfl, below_call hbr hb⟩
end Go.Proofs.YthijceooebebfaaGreatDoor

namespace Go.Proofs.YthijceooebebfaaGreatDoor
open Go.RowKit
attribute [local go_sem ↓] Go.wp_at_zero Go.wp_at_succ
theorem cell_new (w : World) (v : Value) (T : TypeId) : (w.alloc (.cells #[v] T)).cell? ⟨w.heap.size, 0, none⟩ = some v := by
  simp
theorem cell_new2 (w : World) (o : Obj) (v : Value) (T : TypeId) : ((w.alloc o).alloc (.cells #[v] T)).cell? ⟨w.heap.size + 1, 0, none⟩ = some v := by
  simp
theorem cellA {V : World} {p : Addr} {v : Value} {o : Obj} (h : V.cell? p = some v) : (V.alloc o).cell? p = some v := by
  rw [World.cell?_alloc_some V p o (by rw [h]; rfl)]; exact h
theorem wpAnyH_weaken {P : Program} {ops : Array Oper} {Q : Exit → Act → World → Prop} {md : Region.Mode} {S S' : World → Prop} (hS : ∀ W, S' W → S W) {fuel : Nat} {listed : Array Bool} {a : Act} {w : World} (h : wpAnyH P md ops Q S' fuel listed a w) : wpAnyH P md ops Q S fuel listed a w := by
  induction fuel generalizing listed a w with
  | zero => exact h
  | succ fuel ih => exact ⟨h.1, fun i hi => wpOp_mono (fun a' w' h' => ⟨hS _ h'.1, ih h'.2⟩) (h.2 i hi)⟩
/-- The path that is wanted behind one number more. -/
def nextF (acc : List (List UInt8)) (x : UInt8) (last : Bool) : List (List UInt8) :=
  (if x.toNat % 5 = 0 then acc else if x.toNat % 5 = 1 then acc.dropLast else acc ++ [Lz.pAt x]) ++ (if last = true ∧ x.toNat % 5 < 2 then [[]] else [])
theorem wantF_step {acc : List (List UInt8)} {l : List UInt8} {i : Nat} (hi : i < l.length) : Lz.wantF acc (l.drop i) = Lz.wantF (nextF acc l[i] (decide (i + 1 = l.length))) (l.drop (i + 1)) := by
  rw [List.drop_eq_getElem_cons hi, Lz.wantF]
  unfold nextF
  have : (l.drop (i + 1) = []) ↔ i + 1 = l.length := by rw [List.drop_eq_nil_iff]; omega
  simp only [this, decide_eq_true_eq]
theorem own_trunc {w : World} {B : Nat} {g : Nat} {n c : Nat} {xs : List Value} (h : w.ownsRow B 9 1 (.slice (some ⟨g, 0, none⟩) n c) n xs) (hn : 1 ≤ n) : w.ownsRow B 9 1 (.slice (some ⟨g, 0, none⟩) (n - 1) c) (n - 1) xs.dropLast := by
  obtain ⟨h1, h2⟩ := h
  rcases h2 with ⟨h2, _⟩ | ⟨g', cap, cur, h2, h3, h4, h5, h6, h7, h8⟩
  · cases h2
  · injection h2 with h2a h2b h2c
    injection h2a with h2a
    injection h2a with h2a _ _
    subst h2a h2c
    refine ⟨by rw [List.length_dropLast]; omega, .inr ⟨_, _, cur, rfl, h3, h4, by omega, h6, h7, ?_⟩⟩
    rw [← h8, List.dropLast_eq_take, List.take_take, List.length_take]
    congr 1
    rw [Array.length_toList]
    omega
/-- What the law's texts are, up to a place. -/
def flatF (k : UInt8) (f : UInt8 → List UInt8) (l : List UInt8) : List UInt8 := l.flatMap fun x => k :: f x
theorem flatF_step {k : UInt8} {f : UInt8 → List UInt8} {l : List UInt8} {i : Nat} (hi : i < l.length) : flatF k f (l.take (i + 1)) = flatF k f (l.take i) ++ k :: f l[i] := by
  unfold flatF
  rw [List.take_succ_eq_append_getElem hi, List.flatMap_append]
  simp
theorem own_nil (w : World) (B : Nat) : w.ownsRow B 9 1 (.slice none 0 0) ([] : List ByteArray).length (([] : List ByteArray).map Value.string) := World.ownsRow_nil w B _ _
/-- The relation of the law's loop. -/
structure DotR (l : List UInt8) (w : World) (S T : ByteArray) (i : Nat) (v : Value) (xs : List ByteArray) (W : World) : Prop where
  s : S.data.toList = flatF 47 Lz.pAt (l.take i)
  t : T.data.toList = flatF 92 Lz.qAt (l.take i)
  sz : S.size ≤ 3 * i
  tz : T.size ≤ 5 * i
  own : W.ownsRow w.heap.size 9 1 v xs.length (xs.map Value.string)
  len : xs.length ≤ 2 * i
  want : Lz.wantF (xs.map fun x : ByteArray => x.data.toList) (l.drop i) = Lz.wantF [] l
  below : Below w.heap.size w W
theorem DotR.next {l : List UInt8} {w : World} {S T : ByteArray} {i : Nat} {v v' : Value} {xs xs' : List ByteArray} {W W' : World} (h : DotR l w S T i v xs W) (hi : i < l.length) (p q : ByteArray)
    (hp : p.data.toList = Lz.pAt l[i]) (hq : q.data.toList = Lz.qAt l[i]) (hpz : p.size ≤ 2) (hqz : q.size ≤ 4) (own : W'.ownsRow w.heap.size 9 1 v' xs'.length (xs'.map Value.string))
    (hx : (xs'.map fun x : ByteArray => x.data.toList) = nextF (xs.map fun x : ByteArray => x.data.toList) l[i] (decide (i + 1 = l.length))) (hl : xs'.length ≤ xs.length + 2) (hb : Below w.heap.size w W') :
    DotR l w (S ++ ⟨#[47]⟩ ++ p) (T ++ ⟨#[92]⟩ ++ q) (i + 1) v' xs' W' := by
  have e1 : (⟨#[47]⟩ : ByteArray).size = 1 := rfl
  have e2 : (⟨#[92]⟩ : ByteArray).size = 1 := rfl
  have := h.sz
  have := h.tz
  have := h.len
  refine ⟨?_, ?_, ?_, ?_, own, by omega, ?_, hb⟩
  · rw [append_data', append_data', h.s, hp, flatF_step hi]; simp
  · rw [append_data', append_data', h.t, hq, flatF_step hi]; simp
  · rw [ByteArray.size_append, ByteArray.size_append]; omega
  · rw [ByteArray.size_append, ByteArray.size_append]; omega
  · rw [hx, ← wantF_step hi]; exact h.want
theorem DotR.call {l : List UInt8} {w : World} {S T : ByteArray} {i : Nat} {v : Value} {xs : List ByteArray} {W W' : World} (h : DotR l w S T i v xs W) (hb : Below W.heap.size W W') : DotR l w S T i v xs W' :=
  ⟨h.s, h.t, h.sz, h.tz, h.own.kept (below_grown hb) (by cases v <;> first | (exact .inl rfl) | (rename_i a _ _; cases a <;> first | (exact .inl rfl) | (exact .inr (by simp [Value.ownBlock])))), h.len, h.want, below_call h.below hb⟩
theorem nextF0 {acc : List (List UInt8)} {x : UInt8} {last : Bool} (h : x.toNat % 5 = 0) : nextF acc x last = acc ++ (if last = true then [[]] else []) := by
  unfold nextF; rw [if_pos h]
  cases last
  · simp
  · rw [if_pos ⟨rfl, by omega⟩, if_pos rfl]
theorem nextF1 {acc : List (List UInt8)} {x : UInt8} {last : Bool} (h : x.toNat % 5 = 1) : nextF acc x last = acc.dropLast ++ (if last = true then [[]] else []) := by
  unfold nextF; rw [if_neg (by omega), if_pos h]
  cases last
  · simp
  · rw [if_pos ⟨rfl, by omega⟩, if_pos rfl]
theorem nextF2 {acc : List (List UInt8)} {x : UInt8} {last : Bool} (h : 1 < x.toNat % 5) : nextF acc x last = acc ++ [Lz.pAt x] := by
  unfold nextF; rw [if_neg (by omega), if_neg (by omega), if_neg (by omega), List.append_nil]
theorem own_addr {w : World} {B : Nat} {a : Option Addr} {n c : Nat} {xs : List Value} (h : w.ownsRow B 9 1 (.slice a n c) n xs) (hn : 0 < n) : ∃ g, a = some ⟨g, 0, none⟩ := by
  rcases h.2 with ⟨_, h2⟩ | ⟨g', cap, cur, h2, _⟩
  · omega
  · injection h2 with h2; exact ⟨g', h2⟩
theorem own_call {W W' : World} {B : Nat} {v : Value} {n : Nat} {xs : List Value} (h : W.ownsRow B 9 1 v n xs) (hb : Below W.heap.size W W') : W'.ownsRow B 9 1 v n xs :=
  h.kept (below_grown hb) (by cases v <;> first | (exact .inl rfl) | (rename_i a _ _; cases a <;> first | (exact .inl rfl) | (exact .inr (by simp [Value.ownBlock]))))
theorem dots_val {l : List UInt8} {W : World} {B : Nat} {v : Value} {xs : List ByteArray} (hp : (xs.map fun x : ByteArray => x.data.toList) = (Lz.dotsV l).path) (ho : W.ownsRow B 9 1 v xs.length (xs.map Value.string)) :
    UrlVal W (.agg #[.string ⟨#[104, 116, 116, 112, 115]⟩, .string ⟨#[]⟩, .string ⟨#[]⟩, .bool true, .string ⟨#[104]⟩, .int .i64 (-1), .bool false, v, .bool false, .bool false, .string ⟨#[]⟩, .string ⟨#[]⟩]) (Lz.dotsV l) :=
  UrlOwn.val ⟨B, ⟨⟨#[104, 116, 116, 112, 115]⟩, ⟨#[]⟩, ⟨#[]⟩, true, ⟨#[104]⟩, -1, false, v, xs, false, false, ⟨#[]⟩, ⟨#[]⟩⟩, rfl, .inl ho, Lib.hid (by
    unfold MkV.url
    simp only
    rw [hp]
    rfl)⟩
theorem own_snoc {xs : List ByteArray} {p : ByteArray} : xs.map Value.string ++ [Value.string p] = (xs ++ [p]).map Value.string := by simp
theorem pAt_lo {x : UInt8} : (x.toNat % 5 = 0 → Lz.pAt x = [46] ∧ Lz.qAt x = [37, 50, 69]) ∧ (x.toNat % 5 = 1 → Lz.pAt x = [46, 46] ∧ Lz.qAt x = [46, 37, 50, 101]) ∧ (1 < x.toNat % 5 → Lz.pAt x = [UInt8.ofNat (97 + x.toNat % 26)] ∧ Lz.qAt x = [UInt8.ofNat (97 + x.toNat % 26)]) := by
  unfold Lz.pAt Lz.qAt
  refine ⟨fun h => ?_, fun h => ?_, fun h => ?_⟩
  · rw [if_pos h, if_pos h]; exact ⟨rfl, rfl⟩
  · rw [if_neg (by omega), if_pos h, if_neg (by omega), if_pos h]; exact ⟨rfl, rfl⟩
  · rw [if_neg (by omega), if_neg (by omega), if_neg (by omega), if_neg (by omega)]; exact ⟨rfl, rfl⟩
set_option maxHeartbeats 8000000 in
set_option maxRecDepth 100000 in
theorem urlsDots_any (v0 : Value) (l : List UInt8) (w : World) (hl : SlB w v0 l) (hE : EnvU w) : Calls Tryz.prog 7 #[v0] w (RBool true w) := by
  obtain ⟨a, cc, rfl, hlm, hcell⟩ := hl
  have hb00 := Below.refl w.heap.size w
  by_cases hbig : 40 < l.length
  · have hbg : (40 : Int) < (l.length : Int) := by omega
    have cH := Lib.hid (places_any w hE)
    clear hbig
    go_enter Tryz.func7, Tryz.ntmps7
    go_wp2_with fail
    refine cH.out.mono ?_
    rintro e w1 ⟨rfl, hb⟩
    go_wp2_with fail
    go_ret
    exact ⟨rfl, hb⟩
  · have hbg : ¬ (40 : Int) < (l.length : Int) := by omega
    have hl4 : l.length ≤ 40 := by omega
    have HC := Lib.hid hcell
    have HE := Lib.hid hE
    obtain ⟨n, hn⟩ : ∃ n, n = l.length := ⟨_, rfl⟩
    rw [← hn] at hbg hl4 hlm
    have HN := Lib.hid hn
    clear hbig hcell hE hlm
    go_enter Tryz.func7, Tryz.ntmps7
    go_wp2_with (rw [← HN.out])
    clear hn
    go_loopw [3, 4, 5, 6] (fun ps pt pw k wr => ∃ (S T : ByteArray) (i : Nat) (v : Value) (xs : List ByteArray), ps = .string S ∧ pt = .string T ∧ pw = v ∧ k = .int .i64 i ∧ i ≤ n ∧ Hid (DotR l w S T i v xs wr)) (fun _ _ _ k _ => n - (intOf k).toNat)
    case atStart => exact ⟨⟨#[]⟩, ⟨#[]⟩, 0, .slice none 0 0, [], rfl, rfl, rfl, rfl, Nat.zero_le _, Lib.hid ⟨rfl, rfl, Nat.zero_le _, Nat.zero_le _, own_nil _ _, Nat.zero_le _, rfl, hb00⟩⟩
    case round =>
      obtain ⟨S, T, i, v, xs, rfl, rfl, hv, rfl, hi, HR⟩ := hrel
      subst hv
      by_cases hlt : i < n
      · have hltI : (i : Int) < (n : Int) := by omega
        have hi0 : (0 : Int) ≤ (i : Int) := by omega
        have hltl : i < l.length := by rw [← HN.out]; exact hlt
        obtain ⟨x, hx⟩ : ∃ x, x = l[i] := ⟨_, rfl⟩
        obtain ⟨Bx, off, rfl, hBx, hc0⟩ := HC.out i x (by rw [hx]; exact List.getElem?_eq_getElem hltl)
        obtain ⟨r, hr⟩ : ∃ r, r = x.toNat % 26 := ⟨_, rfl⟩
        obtain ⟨c, hc⟩ : ∃ c : UInt8, c = UInt8.ofNat (97 + x.toNat % 26) := ⟨_, rfl⟩
        have hcn : c.toNat = 97 + r := by rw [hc, hr, UInt8.toNat_ofNat']; omega
        have rI : (x.toNat : Int) % 26 = (r : Int) := by omega
        have rT : Int.tmod (x.toNat : Int) 26 = (r : Int) := by rw [Int.tmod_eq_emod_of_nonneg (by omega)]; exact rI
        have rS : (97 : Int) + (r : Int) = (c.toNat : Int) := by omega
        have hr26 : r < 26 := by omega
        have hcw8 : IntKind.u8.wrap (c.toNat : Int) = (c.toNat : Int) := IntWalk.u8_in _ (by omega)
        have HCN := Lib.hid hcn
        clear hcn rI
        have hx255 := x.toNat_lt
        have hc255 := c.toNat_lt
        have hcr : wr.cell? ⟨Bx, off + i, none⟩ = some (.int .u8 x.toNat) := by rw [HR.out.below.cell (p := ⟨Bx, off + i, none⟩) hBx]; exact hc0
        have hcd : wr.drew.cell? ⟨Bx, off + i, none⟩ = some (.int .u8 x.toNat) := hcr
        have hcv : ∀ (W : World) (B : Nat), W.cell? ⟨B, 0, none⟩ = some (.int .u8 c.toNat) → (convert 35 9 (.slice (some ⟨B, 0, none⟩) 1 1)).run Tryz.prog W = .ok (.string ⟨#[c]⟩) W := by
          intro W B h
          exact run_convert_bytes_back (P := Tryz.prog) W 35 9 5 ⟨B, 0, none⟩ 1 [c] Tryz.underlying35 Tryz.underlying5 Tryz.underlying9 (by
            intro j hj
            have : j = 0 := by simpa using hj
            subst this
            rw [addr_add]; exact h)
        have HX := Lib.hid hx
        have HCc := Lib.hid hc
        have hc1 := hc0
        clear hx hc hr hc0
        go_upto_region 8 with fail
        go_cut [7, 8] (fun p q wx => p = .string ⟨#[c]⟩ ∧ q = .string ⟨#[c]⟩ ∧ Below wr.heap.size wr wx)
        case first =>
          refine wp_region_held_drew (S := fun V => V.cell? ⟨Bx, off + i, none⟩ = some (.int .u8 x.toNat)) (by kernel_rfl) hcd (fun hHeld => ?_)
          refine wpAnyH_take (i := 0) (oi := ({ dst := some 23, op := Op.move (Operand.tmp 0), type := 35, pos := "outright.go:83", after := #[], guard := none } : Oper)) (v := ?_) rfl (by kernel_rfl) (by kernel_rfl) (by kernel_rfl) (fun _ _ _ h => h) (Or.inl ⟨by rfl, ?_⟩) (by assumption) ?_
          rotate_left
          · (intro W hSw; go_simp; try with_reducible rfl)
          (try simp only [Act.put, List.setIfInBounds_toArray, List.set_cons_zero, List.set_cons_succ])
          refine wpAnyH_take (i := 1) (oi := ({ dst := some 24, op := Op.move (Operand.tmp 6), type := 3, pos := "outright.go:83", after := #[], guard := none } : Oper)) (v := ?_) rfl (by kernel_rfl) (by kernel_rfl) (by kernel_rfl) (fun _ _ _ h => h) (Or.inl ⟨by rfl, ?_⟩) (by assumption) ?_
          rotate_left
          · (intro W hSw; go_simp; try with_reducible rfl)
          (try simp only [Act.put, List.setIfInBounds_toArray, List.set_cons_zero, List.set_cons_succ])
          refine wpAnyH_take (i := 2) (oi := ({ dst := some 25, op := Op.indexAddr 35 (Operand.tmp 23) (Operand.tmp 24), type := 0, pos := "outright.go:83", after := #[{ on := 0, ground := Ground.data }, { on := 1, ground := Ground.data }], guard := none } : Oper)) (v := ?_) rfl (by kernel_rfl) (by kernel_rfl) (by kernel_rfl) (fun _ _ _ h => h) (Or.inl ⟨by rfl, ?_⟩) (by assumption) ?_
          rotate_left
          · (intro W hSw; go_simp; try with_reducible rfl)
          (try simp only [Act.put, List.setIfInBounds_toArray, List.set_cons_zero, List.set_cons_succ])
          refine wpAnyH_take (i := 3) (oi := ({ dst := some 26, op := Op.load 5 (Operand.tmp 25), type := 5, pos := "outright.go:83", after := #[{ on := 2, ground := Ground.data }], guard := none } : Oper)) (v := ?_) rfl (by kernel_rfl) (by kernel_rfl) (by kernel_rfl) (fun _ _ _ h => h) (Or.inl ⟨by rfl, ?_⟩) (by assumption) ?_
          rotate_left
          · (intro W hSw; have hcs : W.cell? ⟨Bx, off + i, none⟩ = some (.int .u8 x.toNat) := hSw; go_simp; try with_reducible rfl)
          (try simp only [Act.put, List.setIfInBounds_toArray, List.set_cons_zero, List.set_cons_succ])
          refine wpAnyH_take (i := 4) (oi := ({ dst := some 27, op := Op.binOp BinOp.rem 5 (Operand.tmp 26) (Operand.const (Value.int IntKind.u8 26)) 5, type := 5, pos := "outright.go:83", after := #[{ on := 3, ground := Ground.data }], guard := none } : Oper)) (v := ?_) rfl (by kernel_rfl) (by kernel_rfl) (by kernel_rfl) (fun _ _ _ h => h) (Or.inl ⟨by rfl, ?_⟩) (by assumption) ?_
          rotate_left
          · (intro W hSw; go_simp; try with_reducible rfl)
          (try simp only [Act.put, List.setIfInBounds_toArray, List.set_cons_zero, List.set_cons_succ])
          refine wpAnyH_take (i := 5) (oi := ({ dst := some 28, op := Op.binOp BinOp.add 5 (Operand.const (Value.int IntKind.u8 97)) (Operand.tmp 27) 5, type := 5, pos := "outright.go:83", after := #[{ on := 4, ground := Ground.data }], guard := none } : Oper)) (v := ?_) rfl (by kernel_rfl) (by kernel_rfl) (by kernel_rfl) (fun _ _ _ h => h) (Or.inl ⟨by rfl, ?_⟩) (by assumption) ?_
          rotate_left
          · (intro W hSw; go_simp; try with_reducible rfl)
          (try simp only [Act.put, List.setIfInBounds_toArray, List.set_cons_zero, List.set_cons_succ])
          refine wpAnyH_take (i := 8) (oi := ({ dst := some 31, op := Op.move (Operand.tmp 0), type := 35, pos := "outright.go:83", after := #[{ on := 16, ground := Ground.gcOnly Departure.lateStores }], guard := none } : Oper)) (v := ?_) rfl (by kernel_rfl) (by kernel_rfl) (by kernel_rfl) (fun _ _ _ h => h) (Or.inl ⟨by rfl, ?_⟩) (by assumption) ?_
          rotate_left
          · (intro W hSw; go_simp; try with_reducible rfl)
          (try simp only [Act.put, List.setIfInBounds_toArray, List.set_cons_zero, List.set_cons_succ])
          refine wpAnyH_take (i := 9) (oi := ({ dst := some 32, op := Op.move (Operand.tmp 6), type := 3, pos := "outright.go:83", after := #[{ on := 16, ground := Ground.gcOnly Departure.lateStores }], guard := none } : Oper)) (v := ?_) rfl (by kernel_rfl) (by kernel_rfl) (by kernel_rfl) (fun _ _ _ h => h) (Or.inl ⟨by rfl, ?_⟩) (by assumption) ?_
          rotate_left
          · (intro W hSw; go_simp; try with_reducible rfl)
          (try simp only [Act.put, List.setIfInBounds_toArray, List.set_cons_zero, List.set_cons_succ])
          refine wpAnyH_take (i := 10) (oi := ({ dst := some 33, op := Op.indexAddr 35 (Operand.tmp 31) (Operand.tmp 32), type := 0, pos := "outright.go:83", after := #[{ on := 8, ground := Ground.data }, { on := 9, ground := Ground.data }, { on := 16, ground := Ground.gcOnly Departure.lateStores }], guard := none } : Oper)) (v := ?_) rfl (by kernel_rfl) (by kernel_rfl) (by kernel_rfl) (fun _ _ _ h => h) (Or.inl ⟨by rfl, ?_⟩) (by assumption) ?_
          rotate_left
          · (intro W hSw; go_simp; try with_reducible rfl)
          (try simp only [Act.put, List.setIfInBounds_toArray, List.set_cons_zero, List.set_cons_succ])
          refine wpAnyH_take (i := 11) (oi := ({ dst := some 34, op := Op.load 5 (Operand.tmp 33), type := 5, pos := "outright.go:83", after := #[{ on := 10, ground := Ground.data }, { on := 16, ground := Ground.gcOnly Departure.lateStores }], guard := none } : Oper)) (v := ?_) rfl (by kernel_rfl) (by kernel_rfl) (by kernel_rfl) (fun _ _ _ h => h) (Or.inl ⟨by rfl, ?_⟩) (by assumption) ?_
          rotate_left
          · (intro W hSw; have hcs : W.cell? ⟨Bx, off + i, none⟩ = some (.int .u8 x.toNat) := hSw; go_simp; try with_reducible rfl)
          (try simp only [Act.put, List.setIfInBounds_toArray, List.set_cons_zero, List.set_cons_succ])
          refine wpAnyH_take (i := 12) (oi := ({ dst := some 35, op := Op.binOp BinOp.rem 5 (Operand.tmp 34) (Operand.const (Value.int IntKind.u8 26)) 5, type := 5, pos := "outright.go:83", after := #[{ on := 11, ground := Ground.data }, { on := 16, ground := Ground.gcOnly Departure.lateStores }], guard := none } : Oper)) (v := ?_) rfl (by kernel_rfl) (by kernel_rfl) (by kernel_rfl) (fun _ _ _ h => h) (Or.inl ⟨by rfl, ?_⟩) (by assumption) ?_
          rotate_left
          · (intro W hSw; go_simp; try with_reducible rfl)
          (try simp only [Act.put, List.setIfInBounds_toArray, List.set_cons_zero, List.set_cons_succ])
          refine wpAnyH_take (i := 13) (oi := ({ dst := some 36, op := Op.binOp BinOp.add 5 (Operand.const (Value.int IntKind.u8 97)) (Operand.tmp 35) 5, type := 5, pos := "outright.go:83", after := #[{ on := 12, ground := Ground.data }, { on := 16, ground := Ground.gcOnly Departure.lateStores }], guard := none } : Oper)) (v := ?_) rfl (by kernel_rfl) (by kernel_rfl) (by kernel_rfl) (fun _ _ _ h => h) (Or.inl ⟨by rfl, ?_⟩) (by assumption) ?_
          rotate_left
          · (intro W hSw; go_simp; try with_reducible rfl)
          (try simp only [Act.put, List.setIfInBounds_toArray, List.set_cons_zero, List.set_cons_succ])
          refine wpAnyH_ready (rs := [6, 14]) (by kernel_rfl) (by simp) ?_
          refine AllReadyH.cons (o := ({ dst := some 29, op := Op.buildSlice 35 1 #[(0, Operand.tmp 28)], type := 35, pos := "outright.go:83", after := #[{ on := 5, ground := Ground.data }], guard := none } : Oper)) rfl (fun K hK => ?_) ?_
          · go_simp
            refine hK.out _ _ (cellA hHeld) (fun hHeld1 => ?_)
            clear hK K
            (try simp only [Act.put, List.setIfInBounds_toArray, List.set_cons_zero, List.set_cons_succ])
            refine wpAnyH_weaken (S' := fun V => V.cell? ⟨Bx, off + i, none⟩ = some (.int .u8 x.toNat) ∧ V.cell? ⟨wr.heap.size, 0, none⟩ = some (.int .u8 c.toNat)) (fun V h => h.1) ?_
            have hHeld2 : ((wr.alloc (.cells #[.int .u8 c.toNat] 5)).drew).cell? ⟨Bx, off + i, none⟩ = some (.int .u8 x.toNat) ∧ ((wr.alloc (.cells #[.int .u8 c.toNat] 5)).drew).cell? ⟨wr.heap.size, 0, none⟩ = some (.int .u8 c.toNat) := ⟨hHeld1, cell_new wr _ _⟩
            refine wpAnyH_take (i := 7) (oi := ({ dst := some 30, op := Op.convert 35 9 (Operand.tmp 29), type := 9, pos := "outright.go:83", after := #[{ on := 6, ground := Ground.data }], guard := none } : Oper)) (v := ?_) rfl (by kernel_rfl) (by kernel_rfl) (by kernel_rfl) (fun _ _ _ h => h) (Or.inl ⟨by rfl, ?_⟩) (by assumption) ?_
            rotate_left
            · (intro W hSw; have hcw := hcv W _ hSw.2; go_simp; try with_reducible rfl)
            (try simp only [Act.put, List.setIfInBounds_toArray, List.set_cons_zero, List.set_cons_succ])
            refine wpAnyH_take (i := 16) (oi := ({ dst := some 7, op := Op.assign (Operand.tmp 30), type := 9, pos := "outright.go:83", after := #[{ on := 7, ground := Ground.data }, { on := 0, ground := Ground.phase }, { on := 1, ground := Ground.phase }, { on := 2, ground := Ground.phase }, { on := 3, ground := Ground.phase }, { on := 4, ground := Ground.phase }, { on := 5, ground := Ground.phase }, { on := 6, ground := Ground.phase }, { on := 7, ground := Ground.phase }, { on := 8, ground := Ground.textOnly Departure.lateStores }, { on := 9, ground := Ground.textOnly Departure.lateStores }, { on := 10, ground := Ground.textOnly Departure.lateStores }, { on := 11, ground := Ground.textOnly Departure.lateStores }, { on := 12, ground := Ground.textOnly Departure.lateStores }, { on := 13, ground := Ground.textOnly Departure.lateStores }, { on := 14, ground := Ground.textOnly Departure.lateStores }, { on := 15, ground := Ground.textOnly Departure.lateStores }], guard := none } : Oper)) (v := ?_) rfl (by kernel_rfl) (by kernel_rfl) (by kernel_rfl) (fun _ _ _ h => h) (Or.inl ⟨by rfl, ?_⟩) (by assumption) ?_
            rotate_left
            · (intro W hSw; go_simp; try with_reducible rfl)
            (try simp only [Act.put, List.setIfInBounds_toArray, List.set_cons_zero, List.set_cons_succ])
            refine wpAnyH_ready (rs := [14]) (by kernel_rfl) (by simp) ?_
            refine AllReadyH.cons (o := ({ dst := some 37, op := Op.buildSlice 35 1 #[(0, Operand.tmp 36)], type := 35, pos := "outright.go:83", after := #[{ on := 13, ground := Ground.data }, { on := 16, ground := Ground.gcOnly Departure.lateStores }], guard := none } : Oper)) rfl (fun K hK => ?_) ?_
            · go_simp
              have hHeld3 : (((wr.alloc (.cells #[.int .u8 c.toNat] 5)).alloc (.cells #[.int .u8 c.toNat] 5)).drew).cell? ⟨Bx, off + i, none⟩ = some (.int .u8 x.toNat) ∧ (((wr.alloc (.cells #[.int .u8 c.toNat] 5)).alloc (.cells #[.int .u8 c.toNat] 5)).drew).cell? ⟨wr.heap.size, 0, none⟩ = some (.int .u8 c.toNat) := ⟨cellA hHeld2.1, cellA hHeld2.2⟩
              refine hK.out _ _ hHeld3 (fun _ => ?_)
              clear hK K
              (try simp only [Act.put, List.setIfInBounds_toArray, List.set_cons_zero, List.set_cons_succ])
              refine wpAnyH_weaken (S' := fun V => (V.cell? ⟨Bx, off + i, none⟩ = some (.int .u8 x.toNat) ∧ V.cell? ⟨wr.heap.size, 0, none⟩ = some (.int .u8 c.toNat)) ∧ V.cell? ⟨wr.heap.size + 1, 0, none⟩ = some (.int .u8 c.toNat)) (fun V h => h.1) ?_
              have hHeld4 : ((((wr.alloc (.cells #[.int .u8 c.toNat] 5)).alloc (.cells #[.int .u8 c.toNat] 5)).drew).cell? ⟨Bx, off + i, none⟩ = some (.int .u8 x.toNat) ∧ (((wr.alloc (.cells #[.int .u8 c.toNat] 5)).alloc (.cells #[.int .u8 c.toNat] 5)).drew).cell? ⟨wr.heap.size, 0, none⟩ = some (.int .u8 c.toNat)) ∧ (((wr.alloc (.cells #[.int .u8 c.toNat] 5)).alloc (.cells #[.int .u8 c.toNat] 5)).drew).cell? ⟨wr.heap.size + 1, 0, none⟩ = some (.int .u8 c.toNat) := ⟨hHeld3, cell_new2 wr _ _ _⟩
              refine wpAnyH_take (i := 15) (oi := ({ dst := some 38, op := Op.convert 35 9 (Operand.tmp 37), type := 9, pos := "outright.go:83", after := #[{ on := 14, ground := Ground.data }, { on := 16, ground := Ground.gcOnly Departure.lateStores }], guard := none } : Oper)) (v := ?_) rfl (by kernel_rfl) (by kernel_rfl) (by kernel_rfl) (fun _ _ _ h => h) (Or.inl ⟨by rfl, ?_⟩) (by assumption) ?_
              rotate_left
              · (intro W hSw; have hcw := hcv W _ hSw.2; go_simp; try with_reducible rfl)
              (try simp only [Act.put, List.setIfInBounds_toArray, List.set_cons_zero, List.set_cons_succ])
              refine wpAnyH_take (i := 17) (oi := ({ dst := some 8, op := Op.assign (Operand.tmp 38), type := 9, pos := "outright.go:83", after := #[{ on := 15, ground := Ground.data }, { on := 16, ground := Ground.chain }, { on := 0, ground := Ground.phase }, { on := 1, ground := Ground.phase }, { on := 2, ground := Ground.phase }, { on := 3, ground := Ground.phase }, { on := 4, ground := Ground.phase }, { on := 5, ground := Ground.phase }, { on := 6, ground := Ground.phase }, { on := 7, ground := Ground.phase }, { on := 8, ground := Ground.phase }, { on := 9, ground := Ground.phase }, { on := 10, ground := Ground.phase }, { on := 11, ground := Ground.phase }, { on := 12, ground := Ground.phase }, { on := 13, ground := Ground.phase }, { on := 14, ground := Ground.phase }, { on := 15, ground := Ground.phase }, { on := 16, ground := Ground.phase }], guard := none } : Oper)) (v := ?_) rfl (by kernel_rfl) (by kernel_rfl) (by kernel_rfl) (fun _ _ _ h => h) (Or.inl ⟨by rfl, ?_⟩) (by assumption) ?_
              rotate_left
              · (intro W hSw; go_simp; try with_reducible rfl)
              (try simp only [Act.put, List.setIfInBounds_toArray, List.set_cons_zero, List.set_cons_succ])
              refine wpAnyH_done (by kernel_rfl) ?_ _
              go_wp2_with fail
              go_meet
              exact ⟨rfl, rfl, (((Below.refl wr.heap.size wr).drew).alloc (Nat.le_refl _) _).alloc (by simp) _⟩
            · exact AllReadyH.nil
          refine AllReadyH.cons (o := ({ dst := some 37, op := Op.buildSlice 35 1 #[(0, Operand.tmp 36)], type := 35, pos := "outright.go:83", after := #[{ on := 13, ground := Ground.data }, { on := 16, ground := Ground.gcOnly Departure.lateStores }], guard := none } : Oper)) rfl (fun K hK => ?_) ?_
          · go_simp
            refine hK.out _ _ (cellA hHeld) (fun hHeld1 => ?_)
            clear hK K
            (try simp only [Act.put, List.setIfInBounds_toArray, List.set_cons_zero, List.set_cons_succ])
            refine wpAnyH_weaken (S' := fun V => V.cell? ⟨Bx, off + i, none⟩ = some (.int .u8 x.toNat) ∧ V.cell? ⟨wr.heap.size, 0, none⟩ = some (.int .u8 c.toNat)) (fun V h => h.1) ?_
            have hHeld2 : ((wr.alloc (.cells #[.int .u8 c.toNat] 5)).drew).cell? ⟨Bx, off + i, none⟩ = some (.int .u8 x.toNat) ∧ ((wr.alloc (.cells #[.int .u8 c.toNat] 5)).drew).cell? ⟨wr.heap.size, 0, none⟩ = some (.int .u8 c.toNat) := ⟨hHeld1, cell_new wr _ _⟩
            refine wpAnyH_take (i := 15) (oi := ({ dst := some 38, op := Op.convert 35 9 (Operand.tmp 37), type := 9, pos := "outright.go:83", after := #[{ on := 14, ground := Ground.data }, { on := 16, ground := Ground.gcOnly Departure.lateStores }], guard := none } : Oper)) (v := ?_) rfl (by kernel_rfl) (by kernel_rfl) (by kernel_rfl) (fun _ _ _ h => h) (Or.inl ⟨by rfl, ?_⟩) (by assumption) ?_
            rotate_left
            · (intro W hSw; have hcw := hcv W _ hSw.2; go_simp; try with_reducible rfl)
            (try simp only [Act.put, List.setIfInBounds_toArray, List.set_cons_zero, List.set_cons_succ])
            refine wpAnyH_ready (rs := [6]) (by kernel_rfl) (by simp) ?_
            refine AllReadyH.cons (o := ({ dst := some 29, op := Op.buildSlice 35 1 #[(0, Operand.tmp 28)], type := 35, pos := "outright.go:83", after := #[{ on := 5, ground := Ground.data }], guard := none } : Oper)) rfl (fun K hK => ?_) ?_
            · go_simp
              have hHeld3 : (((wr.alloc (.cells #[.int .u8 c.toNat] 5)).alloc (.cells #[.int .u8 c.toNat] 5)).drew).cell? ⟨Bx, off + i, none⟩ = some (.int .u8 x.toNat) ∧ (((wr.alloc (.cells #[.int .u8 c.toNat] 5)).alloc (.cells #[.int .u8 c.toNat] 5)).drew).cell? ⟨wr.heap.size, 0, none⟩ = some (.int .u8 c.toNat) := ⟨cellA hHeld2.1, cellA hHeld2.2⟩
              refine hK.out _ _ hHeld3 (fun _ => ?_)
              clear hK K
              (try simp only [Act.put, List.setIfInBounds_toArray, List.set_cons_zero, List.set_cons_succ])
              refine wpAnyH_weaken (S' := fun V => (V.cell? ⟨Bx, off + i, none⟩ = some (.int .u8 x.toNat) ∧ V.cell? ⟨wr.heap.size, 0, none⟩ = some (.int .u8 c.toNat)) ∧ V.cell? ⟨wr.heap.size + 1, 0, none⟩ = some (.int .u8 c.toNat)) (fun V h => h.1) ?_
              have hHeld4 : ((((wr.alloc (.cells #[.int .u8 c.toNat] 5)).alloc (.cells #[.int .u8 c.toNat] 5)).drew).cell? ⟨Bx, off + i, none⟩ = some (.int .u8 x.toNat) ∧ (((wr.alloc (.cells #[.int .u8 c.toNat] 5)).alloc (.cells #[.int .u8 c.toNat] 5)).drew).cell? ⟨wr.heap.size, 0, none⟩ = some (.int .u8 c.toNat)) ∧ (((wr.alloc (.cells #[.int .u8 c.toNat] 5)).alloc (.cells #[.int .u8 c.toNat] 5)).drew).cell? ⟨wr.heap.size + 1, 0, none⟩ = some (.int .u8 c.toNat) := ⟨hHeld3, cell_new2 wr _ _ _⟩
              refine wpAnyH_take (i := 7) (oi := ({ dst := some 30, op := Op.convert 35 9 (Operand.tmp 29), type := 9, pos := "outright.go:83", after := #[{ on := 6, ground := Ground.data }], guard := none } : Oper)) (v := ?_) rfl (by kernel_rfl) (by kernel_rfl) (by kernel_rfl) (fun _ _ _ h => h) (Or.inl ⟨by rfl, ?_⟩) (by assumption) ?_
              rotate_left
              · (intro W hSw; have hcw := hcv W _ hSw.2; go_simp; try with_reducible rfl)
              (try simp only [Act.put, List.setIfInBounds_toArray, List.set_cons_zero, List.set_cons_succ])
              refine wpAnyH_take (i := 16) (oi := ({ dst := some 7, op := Op.assign (Operand.tmp 30), type := 9, pos := "outright.go:83", after := #[{ on := 7, ground := Ground.data }, { on := 0, ground := Ground.phase }, { on := 1, ground := Ground.phase }, { on := 2, ground := Ground.phase }, { on := 3, ground := Ground.phase }, { on := 4, ground := Ground.phase }, { on := 5, ground := Ground.phase }, { on := 6, ground := Ground.phase }, { on := 7, ground := Ground.phase }, { on := 8, ground := Ground.textOnly Departure.lateStores }, { on := 9, ground := Ground.textOnly Departure.lateStores }, { on := 10, ground := Ground.textOnly Departure.lateStores }, { on := 11, ground := Ground.textOnly Departure.lateStores }, { on := 12, ground := Ground.textOnly Departure.lateStores }, { on := 13, ground := Ground.textOnly Departure.lateStores }, { on := 14, ground := Ground.textOnly Departure.lateStores }, { on := 15, ground := Ground.textOnly Departure.lateStores }], guard := none } : Oper)) (v := ?_) rfl (by kernel_rfl) (by kernel_rfl) (by kernel_rfl) (fun _ _ _ h => h) (Or.inl ⟨by rfl, ?_⟩) (by assumption) ?_
              rotate_left
              · (intro W hSw; go_simp; try with_reducible rfl)
              (try simp only [Act.put, List.setIfInBounds_toArray, List.set_cons_zero, List.set_cons_succ])
              refine wpAnyH_take (i := 17) (oi := ({ dst := some 8, op := Op.assign (Operand.tmp 38), type := 9, pos := "outright.go:83", after := #[{ on := 15, ground := Ground.data }, { on := 16, ground := Ground.chain }, { on := 0, ground := Ground.phase }, { on := 1, ground := Ground.phase }, { on := 2, ground := Ground.phase }, { on := 3, ground := Ground.phase }, { on := 4, ground := Ground.phase }, { on := 5, ground := Ground.phase }, { on := 6, ground := Ground.phase }, { on := 7, ground := Ground.phase }, { on := 8, ground := Ground.phase }, { on := 9, ground := Ground.phase }, { on := 10, ground := Ground.phase }, { on := 11, ground := Ground.phase }, { on := 12, ground := Ground.phase }, { on := 13, ground := Ground.phase }, { on := 14, ground := Ground.phase }, { on := 15, ground := Ground.phase }, { on := 16, ground := Ground.phase }], guard := none } : Oper)) (v := ?_) rfl (by kernel_rfl) (by kernel_rfl) (by kernel_rfl) (fun _ _ _ h => h) (Or.inl ⟨by rfl, ?_⟩) (by assumption) ?_
              rotate_left
              · (intro W hSw; go_simp; try with_reducible rfl)
              (try simp only [Act.put, List.setIfInBounds_toArray, List.set_cons_zero, List.set_cons_succ])
              refine wpAnyH_done (by kernel_rfl) ?_ _
              go_wp2_with fail
              go_meet
              exact ⟨rfl, rfl, (((Below.refl wr.heap.size wr).drew).alloc (Nat.le_refl _) _).alloc (by simp) _⟩
            · exact AllReadyH.nil
          exact AllReadyH.nil
        case rest =>
          obtain ⟨rfl, rfl, hbc⟩ := hcut
          have hRc : DotR l w S T i u5 xs wc := HR.out.call hbc
          have hRc := hRc
          obtain ⟨m, hm⟩ : ∃ m, m = x.toNat % 5 := ⟨_, rfl⟩
          have mI : (x.toNat : Int) % 5 = (m : Int) := by omega
          have mT : Int.tmod (x.toNat : Int) 5 = (m : Int) := by rw [Int.tmod_eq_emod_of_nonneg (by omega)]; exact mI
          have hcx : wc.cell? ⟨Bx, off + i, none⟩ = some (.int .u8 x.toNat) := by rw [hbc.cell (p := ⟨Bx, off + i, none⟩) (Nat.lt_of_lt_of_le hBx HR.out.below.size)]; exact hcr
          obtain ⟨a5, c5, rfl, hxc, _⟩ := PathOwn.form (B := w.heap.size) (.inl hRc.own)
          obtain ⟨i0, hi0, hz0, hz1, hz2⟩ := info_parts infoTxt
          have hxl := hRc.len
          have hsz := hRc.below.size
          have hSz := hRc.sz
          have hTz := hRc.tz
          obtain ⟨q, hq⟩ : ∃ q, q = decide (i + 1 = l.length) := ⟨_, rfl⟩
          have hlast : ((i : Int) == (n : Int) - 1) = q := by
            rw [hq, Bool.eq_iff_iff]
            have := HN.out
            simp
            omega
          have hnw : RowKit.wrap64 ((n : Int) - 1) = (n : Int) - 1 := by unfold RowKit.wrap64; omega
          have s1 : ¬ (9223372036854775807 < S.size + 1) := by omega
          have s2 : ¬ (9223372036854775807 < S.size + 1 + 1) := by omega
          have s3 : ¬ (9223372036854775807 < S.size + 1 + 2) := by omega
          have t1 : ¬ (9223372036854775807 < T.size + 1) := by omega
          have t2 : ¬ (9223372036854775807 < T.size + 1 + 1) := by omega
          have t3 : ¬ (9223372036854775807 < T.size + 1 + 3) := by omega
          have t4 : ¬ (9223372036854775807 < T.size + 1 + 4) := by omega
          have HRc := Lib.hid hRc
          obtain ⟨kx, hkx⟩ : ∃ kx, kx = xs.length := ⟨_, rfl⟩
          have HKx := Lib.hid hkx
          have HM := Lib.hid hm
          have HQ := Lib.hid hq
          have hown0 := hRc.own
          rw [← hkx] at hown0 hxc hxl ⊢
          have Hown := Lib.hid hown0
          have Hxc := Lib.hid hxc
          clear hRc hm hq mI hcd hcv hcr hxc HR hown0 hkx
          by_cases h0 : m = 0
          · have h0' := h0
            subst h0
            have hp := pAt_lo.1 (HM.out.symm)
            cases q with
            | false =>
              go_wp2_with fail
              go_roundw
              case rel => exact ⟨_, _, i + 1, _, xs, rfl, rfl, rfl, by go_num, by omega, Lib.hid (HRc.out.next hltl ⟨#[46]⟩ ⟨#[37, 50, 69]⟩ (by rw [← HX.out, hp.1]) (by rw [← HX.out, hp.2]) (by decide) (by decide) (by rw [← HKx.out]; exact Hown.out) (by rw [← HX.out, ← HQ.out, nextF0 HM.out.symm]; simp) (by simp) HRc.out.below)⟩
              case measure => simp [intOf]; omega
            | true =>
              go_wp2_with (first | (at_builtin; refine wpList_append_own _ rfl (.tmp 73) (.tmp 74) 25 rfl w.heap.size 9 i0 (.string ⟨#[]⟩) 1 16 Tryz.underlying25 hi0 hz0 hz1 hz2 rfl (by decide) _ _ _ rfl (Hown.out.alloc _) ⟨wc.heap.size, 0, none⟩ 1 1 [.string ⟨#[]⟩] rfl rfl (cell_one _ _ _) (by simp [Value.oneCell']) (by unfold maxLen; omega) (by omega) (by simp; omega) ?_))
              intro v' w3 hown' hgrow _
              have hb3 := Below.grown1 HRc.out.below Hown.out hgrow hsz (Nat.le_refl _)
              rw [own_snoc] at hown'
              have Hown3 := Lib.hid hown'
              clear hown' hgrow
              go_wp2_with fail
              go_roundw
              case rel => exact ⟨_, _, i + 1, v', (xs ++ [⟨#[]⟩]), rfl, rfl, rfl, by go_num, by omega, Lib.hid (HRc.out.next hltl ⟨#[46]⟩ ⟨#[37, 50, 69]⟩ (by rw [← HX.out, hp.1]) (by rw [← HX.out, hp.2]) (by decide) (by decide) (by have := Hown3.out; rwa [HKx.out, show xs.length + 1 = (xs ++ [(⟨#[]⟩ : ByteArray)]).length by simp] at this) (by rw [← HX.out, ← HQ.out, nextF0 HM.out.symm]; simp) (by simp) hb3)⟩
              case measure => simp [intOf]; omega
          · by_cases h1 : m = 1
            · subst h1
              have hp := pAt_lo.2.1 (HM.out.symm)
              by_cases hk0 : kx = 0
              · subst hk0
                obtain rfl : xs = [] := List.length_eq_zero_iff.1 HKx.out.symm
                cases q with
                | false =>
                  go_wp2_with fail
                  go_roundw
                  case rel => exact ⟨_, _, i + 1, _, [], rfl, rfl, rfl, by go_num, by omega, Lib.hid (HRc.out.next hltl ⟨#[46, 46]⟩ ⟨#[46, 37, 50, 101]⟩ (by rw [← HX.out, hp.1]) (by rw [← HX.out, hp.2]) (by decide) (by decide) HRc.out.own (by rw [← HX.out, ← HQ.out, nextF1 HM.out.symm]; simp) (by simp) HRc.out.below)⟩
                  case measure => simp [intOf]; omega
                | true =>
                  go_wp2_with (first | (at_builtin; refine wpList_append_own _ rfl (.tmp 73) (.tmp 74) 25 rfl w.heap.size 9 i0 (.string ⟨#[]⟩) 1 16 Tryz.underlying25 hi0 hz0 hz1 hz2 rfl (by decide) _ _ _ rfl (Hown.out.alloc _) ⟨wc.heap.size, 0, none⟩ 1 1 [.string ⟨#[]⟩] rfl rfl (cell_one _ _ _) (by simp [Value.oneCell']) (by unfold maxLen; omega) (by omega) (by simp; omega) ?_))
                  intro v' w3 hown' hgrow _
                  have hb3 := Below.grown1 HRc.out.below Hown.out hgrow hsz (Nat.le_refl _)
                  have Hown3 := Lib.hid hown'
                  clear hown' hgrow
                  go_wp2_with fail
                  go_roundw
                  case rel => exact ⟨_, _, i + 1, v', [⟨#[]⟩], rfl, rfl, rfl, by go_num, by omega, Lib.hid (HRc.out.next hltl ⟨#[46, 46]⟩ ⟨#[46, 37, 50, 101]⟩ (by rw [← HX.out, hp.1]) (by rw [← HX.out, hp.2]) (by decide) (by decide) Hown3.out (by rw [← HX.out, ← HQ.out, nextF1 HM.out.symm]; rfl) (by simp) hb3)⟩
                  case measure => simp [intOf]; omega
              · obtain ⟨g, rfl⟩ := own_addr Hown.out (by omega)
                obtain ⟨k1, hk1⟩ : ∃ k1, k1 = kx - 1 := ⟨_, rfl⟩
                have hkI : (kx : Int) - 1 = (k1 : Int) := by omega
                have hk01 : (0 : Int) < (kx : Int) := by omega
                have hk02 : (0 : Int) ≤ (k1 : Int) := by omega
                have hkc : (k1 : Int) ≤ (c5 : Int) := by have := Hxc.out; omega
                have hkc2 : k1 ≤ c5 := by have := Hxc.out; omega
                have hown1 := own_trunc Hown.out (by omega)
                rw [← hk1, ← List.map_dropLast] at hown1
                have Hown1 := Lib.hid hown1
                have hl1 : xs.dropLast.length = k1 := by rw [List.length_dropLast, ← HKx.out, hk1]
                have Hl1 := Lib.hid hl1
                clear hown1 hk1 hl1 hk0
                cases q with
                | false =>
                  go_wp2_with fail
                  go_roundw
                  case rel => exact ⟨_, _, i + 1, _, xs.dropLast, rfl, rfl, rfl, by go_num, by omega, Lib.hid (HRc.out.next hltl ⟨#[46, 46]⟩ ⟨#[46, 37, 50, 101]⟩ (by rw [← HX.out, hp.1]) (by rw [← HX.out, hp.2]) (by decide) (by decide) (by rw [Hl1.out]; exact Hown1.out) (by rw [← HX.out, ← HQ.out, nextF1 HM.out.symm]; simp [List.map_dropLast]) (by rw [List.length_dropLast]; omega) HRc.out.below)⟩
                  case measure => simp [intOf]; omega
                | true =>
                  go_wp2_with (first | (at_builtin; refine wpList_append_own _ rfl (.tmp 73) (.tmp 74) 25 rfl w.heap.size 9 i0 (.string ⟨#[]⟩) 1 16 Tryz.underlying25 hi0 hz0 hz1 hz2 rfl (by decide) _ _ _ rfl (Hown1.out.alloc _) ⟨wc.heap.size, 0, none⟩ 1 1 [.string ⟨#[]⟩] rfl rfl (cell_one _ _ _) (by simp [Value.oneCell']) (by unfold maxLen; omega) (by omega) (by simp; omega) ?_))
                  intro v' w3 hown' hgrow _
                  have hb3 := Below.grown1 HRc.out.below Hown1.out hgrow hsz (Nat.le_refl _)
                  rw [← List.map_dropLast, own_snoc] at hown'
                  have Hown3 := Lib.hid hown'
                  clear hown' hgrow
                  go_wp2_with fail
                  go_roundw
                  case rel => exact ⟨_, _, i + 1, v', xs.dropLast ++ [⟨#[]⟩], rfl, rfl, rfl, by go_num, by omega, Lib.hid (HRc.out.next hltl ⟨#[46, 46]⟩ ⟨#[46, 37, 50, 101]⟩ (by rw [← HX.out, hp.1]) (by rw [← HX.out, hp.2]) (by decide) (by decide) (by have := Hown3.out; rwa [← Hl1.out, show xs.dropLast.length + 1 = (xs.dropLast ++ [(⟨#[]⟩ : ByteArray)]).length by simp] at this) (by rw [← HX.out, ← HQ.out, nextF1 HM.out.symm]; simp [List.map_dropLast]) (by rw [List.length_append, List.length_dropLast]; show _ + 1 ≤ _; omega) hb3)⟩
                  case measure => simp [intOf]; omega
            · have hm2 : 1 < m := by omega
              have e0 : ((m : Int) == 0) = false := by simp; omega
              have e1 : ((m : Int) == 1) = false := by simp; omega
              have e2 : ¬ ((m : Int) < 2) := by omega
              have e2b : decide ((m : Int) < 2) = false := decide_eq_false e2
              have hp := (pAt_lo (x := x)).2.2 (by rw [← HM.out]; exact hm2)
              rw [← HCc.out] at hp
              have HM2 : Hid (1 < x.toNat % 5) := Lib.hid (by rw [← HM.out]; exact hm2)
              go_wp2_with (first | (at_builtin; refine wpList_append_own _ rfl (.tmp 44) (.tmp 46) 25 rfl w.heap.size 9 i0 (.string ⟨#[]⟩) 1 16 Tryz.underlying25 hi0 hz0 hz1 hz2 rfl (by decide) _ _ _ rfl (Hown.out.alloc _) ⟨wc.heap.size, 0, none⟩ 1 1 [.string ⟨#[c]⟩] rfl rfl (cell_one _ _ _) (by simp [Value.oneCell']) (by unfold maxLen; omega) (by omega) (by simp; omega) ?_))
              intro v' w3 hown' hgrow _
              have hb3 := Below.grown1 HRc.out.below Hown.out hgrow hsz (Nat.le_refl _)
              rw [own_snoc] at hown'
              have Hown3 := Lib.hid hown'
              have hcx3 : w3.cell? ⟨Bx, off + i, none⟩ = some (.int .u8 x.toNat) := by rw [hb3.cell (p := ⟨Bx, off + i, none⟩) hBx]; exact hc1
              clear hown' hgrow hcx
              cases q
              all_goals
                go_wp2_with fail
                go_roundw
                case rel => exact ⟨_, _, i + 1, v', (xs ++ [⟨#[c]⟩]), rfl, rfl, rfl, by go_num, by omega, Lib.hid (HRc.out.next hltl ⟨#[c]⟩ ⟨#[c]⟩ (by rw [← HX.out, hp.1]) (by rw [← HX.out, hp.2]) (by show 1 ≤ _; omega) (by show 1 ≤ _; omega) (by have := Hown3.out; rwa [HKx.out, show xs.length + 1 = (xs ++ [(⟨#[c]⟩ : ByteArray)]).length by simp] at this) (by rw [← HX.out, ← HQ.out, nextF2 HM2.out, hp.1]; simp) (by simp) hb3)⟩
                case measure => simp [intOf]; omega
      · have hltI : ¬ (i : Int) < (n : Int) := by omega
        obtain rfl : i = n := by omega
        have hw := HR.out.want
        rw [List.drop_eq_nil_of_le (by rw [← HN.out]; exact Nat.le_refl _)] at hw
        have hw' : (xs.map fun x : ByteArray => x.data.toList) = Lz.wantF [] l := hw
        have hsd := HR.out.s
        have htd := HR.out.t
        rw [List.take_of_length_le (by rw [← HN.out]; exact Nat.le_refl _)] at hsd htd
        have hSz := HR.out.sz
        have hTz := HR.out.tz
        have s9 : ¬ (9223372036854775807 < 9 + S.size) := by omega
        have t8 : ¬ (9223372036854775807 < 8 + T.size) := by omega
        have Hw := Lib.hid hw'
        have Hsd := Lib.hid hsd
        have Htd := Lib.hid htd
        obtain ⟨q, hq⟩ : ∃ q, q = decide (l = []) := ⟨_, rfl⟩
        have hz : ((i : Int) == 0) = q := by
          rw [hq, Bool.eq_iff_iff]
          have := HN.out
          simp only [beq_iff_eq, decide_eq_true_eq]
          constructor
          · intro h; exact List.length_eq_zero_iff.1 (by omega)
          · intro h; rw [h] at this; simp at this; omega
        have HQ := Lib.hid hq
        have hEr := HE.out.below HR.out.below
        have Hown := Lib.hid HR.out.own
        have Hbel := Lib.hid HR.out.below
        have hl40 : l.length ≤ 40 := by rw [← HN.out]; exact hl4
        have H40 := Lib.hid hl40
        clear hw hw' hsd htd hq HR hEr hl40
        go_upto_if 86 with fail
        go_cut [5] (fun pv wx => ∃ xs' : List ByteArray, Hid (wx.ownsRow w.heap.size 9 1 pv xs'.length (xs'.map Value.string)) ∧ Hid ((xs'.map fun x : ByteArray => x.data.toList) = (Lz.dotsV l).path) ∧ Below w.heap.size w wx)
        case first =>
          cases q with
          | true =>
            have hle := Hbel.out.size
            go_wp2_with fail
            go_meet
            exact ⟨[⟨#[]⟩], Lib.hid ⟨rfl, .inr ⟨wr.heap.size, 1, #[.string ⟨#[]⟩], rfl, hle, heap_new _ _, Nat.le_refl 1, by unfold maxLen; omega, rfl, rfl⟩⟩, Lib.hid (by unfold Lz.dotsV; rw [if_pos (of_decide_eq_true HQ.out.symm)]; rfl), Hbel.out.alloc hle _⟩
          | false =>
            go_wp2_with fail
            go_meet
            exact ⟨xs, Hown, Lib.hid (by unfold Lz.dotsV; rw [if_neg (of_decide_eq_false HQ.out.symm)]; exact Hw.out), Hbel.out⟩
        case rest =>
          obtain ⟨xs', HO, HP, hbx⟩ := hcut
          obtain ⟨a5, c5, rfl, _, _⟩ := PathOwn.form (B := w.heap.size) (.inl HO.out)
          have hEx := HE.out.below hbx
          have cP1 := Lib.hid (parse_any0 ((⟨#[104, 116, 116, 112, 115, 58, 47, 47, 104]⟩ : ByteArray) ++ S) wc hEx)
          rw [show ((⟨#[104, 116, 116, 112, 115, 58, 47, 47, 104]⟩ : ByteArray) ++ S).data.toList = [104, 116, 116, 112, 115, 58, 47, 47, 104] ++ l.flatMap (fun x => 47 :: Lz.pAt x) by rw [append_data', Hsd.out]; rfl, Lz.dots_one l H40.out] at cP1
          have Hbx := Lib.hid hbx
          clear hEx hbx Hown Hbel Hw
          go_wp2_with fail
          refine cP1.out.mono ?_
          intro e w1 hr
          obtain ⟨v1, z1, u1, rfl, hb1, hox, hk1⟩ := hr.open
          obtain ⟨rfl, rfl⟩ : u1 = Lz.dotsV l ∧ z1 = 0 := by
            rcases hk1 with ⟨h, h2⟩ | ⟨k, h, _⟩
            · injection h with h; exact ⟨h.symm, h2⟩
            · cases h
          obtain ⟨sc1, us1, pa1, hh1, hs1, pr1, op1, a1, n1, c1, hq1, hf1, qr1, fr1, rfl⟩ := hox.form
          have hP1 := PU.new (w := w) ((HE.out.below Hbx.out).below hb1) (below_call Hbx.out hb1) hox
          have hO1 : w1.ownsRow w.heap.size 9 1 (.slice a5 xs'.length c5) xs'.length (xs'.map Value.string) := own_call HO.out hb1
          have hO2 := own_call hO1 ((Below.refl w1.heap.size w1).alloc (Nat.le_refl _) (.cells #[.string sc1, .string us1, .string pa1, .bool hh1, .string hs1, .int .i64 pr1, .bool op1, .slice a1 n1 c1, .bool hq1, .bool hf1, .string qr1, .string fr1] 27))
          clear hk1 hox hr cP1 hb1 hO1
          go_upto_region 23 with fail
          generalize w1.alloc (.cells #[.string sc1, .string us1, .string pa1, .bool hh1, .string hs1, .int .i64 pr1, .bool op1, .slice a1 n1 c1, .bool hq1, .bool hf1, .string qr1, .string fr1] 27) = V at hP1 hO2 ⊢
          generalize w1.heap.size = r1 at hP1 ⊢
          have HP1 := Lib.hid hP1
          have HO2 := Lib.hid hO2
          have cP2 := Lib.hid (parse_any0 ((⟨#[104, 116, 116, 112, 115, 58, 92, 104]⟩ : ByteArray) ++ T) V hP1.env)
          rw [show ((⟨#[104, 116, 116, 112, 115, 58, 92, 104]⟩ : ByteArray) ++ T).data.toList = [104, 116, 116, 112, 115, 58, 92, 104] ++ l.flatMap (fun x => 92 :: Lz.qAt x) by rw [append_data', Htd.out]; rfl, Lz.dots_two l H40.out] at cP2
          clear hP1 hO2 HO
          go_wp2_with fail
          refine cP2.out.mono ?_
          intro e w2 hr
          obtain ⟨v2, z2, u2, rfl, hb2, hox, hk2⟩ := hr.open
          obtain ⟨rfl, rfl⟩ : u2 = Lz.dotsV l ∧ z2 = 0 := by
            rcases hk2 with ⟨h, h2⟩ | ⟨k, h, _⟩
            · injection h with h; exact ⟨h.symm, h2⟩
            · cases h
          obtain ⟨sc2, us2, pa2, hh2, hs2, pr2, op2, a2, n2, c2, hq2, hf2, qr2, fr2, rfl⟩ := hox.form
          have hP2 := (HP1.out.call hb2).alloc (.cells #[.string sc2, .string us2, .string pa2, .bool hh2, .string hs2, .int .i64 pr2, .bool op2, .slice a2 n2 c2, .bool hq2, .bool hf2, .string qr2, .string fr2] 27)
          have hQ2 := PU.new (w := w) (HP1.out.env.below hb2) (below_call HP1.out.below hb2) hox
          have hO3 := own_call (own_call HO2.out hb2) ((Below.refl w2.heap.size w2).alloc (Nat.le_refl _) (.cells #[.string sc2, .string us2, .string pa2, .bool hh2, .string hs2, .int .i64 pr2, .bool op2, .slice a2 n2 c2, .bool hq2, .bool hf2, .string qr2, .string fr2] 27))
          clear hk2 hox hr cP2 hb2 HP1 HO2
          go_upto_region 24 with fail
          generalize w2.alloc (.cells #[.string sc2, .string us2, .string pa2, .bool hh2, .string hs2, .int .i64 pr2, .bool op2, .slice a2 n2 c2, .bool hq2, .bool hf2, .string qr2, .string fr2] 27) = V2 at hP2 hQ2 hO3 ⊢
          generalize w2.heap.size = r2 at hQ2 ⊢
          have hpl : (Lz.dotsV l).path.length ≤ 1000000000 := (textOk_parse (Lz.dots_one l H40.out) (fun x hx => by cases hx)).path
          have HP2 := Lib.hid hP2
          have HQ2 := Lib.hid hQ2
          have HO3 := Lib.hid hO3
          have cS1 := Lib.hid (same_yes _ _ (Lz.dotsV l) V2 hP2.own.val hQ2.own.val hpl)
          clear hP2 hQ2 hO3
          go_wp2_with (first | (refine load_url_g rfl _ rfl r1 rfl _ HP2.out.row rfl ?_) | (refine load_url_g rfl _ rfl r2 rfl _ HQ2.out.row rfl ?_))
          refine cS1.out.mono ?_
          rintro e w5 ⟨rfl, hb5⟩
          have hP5 := HP2.out.call hb5
          have hO5 := own_call HO3.out hb5
          have HP5 := Lib.hid hP5
          have cS2 := Lib.hid (same_yes _ _ (Lz.dotsV l) w5 hP5.own.val (dots_val HP.out hO5) hpl)
          clear hP5 hO5 HP2 HQ2 HO3 hb5 cS1
          go_wp2_with (first | (refine load_url_g rfl _ rfl r1 rfl _ HP5.out.row rfl ?_))
          refine cS2.out.mono ?_
          rintro e w6 ⟨rfl, hb6⟩
          have hP6 := HP5.out.call hb6
          have cH := Lib.hid (places_any w6 hP6.env)
          have hb06 := hP6.below
          clear hP6 HP5 hb6 cS2
          go_wp2_with fail
          refine cH.out.mono ?_
          rintro e w7 ⟨rfl, hb7⟩
          go_wp2_with fail
          go_ret
          exact ⟨rfl, below_call hb06 hb7⟩
end Go.Proofs.YthijceooebebfaaGreatDoor

namespace Go.Proofs.YthijceooebebfaaGreatDoor.urlsDots
open Go.ChangeShapes Go.WideShapes Go.ChangeAt Go.RowKit Go.Proofs.YthijceooebebfaaGreatDoor

theorem walk (v0 : Value) (l0 : List UInt8) (w : World) (i0 : SlB w v0 l0) (hE : EnvU w) : Calls Tryz.prog 7 #[v0] w (RBool true w) := urlsDots_any v0 l0 w i0 hE

theorem env {W : World} (h : laidMetH Tryz.prog Rows.urlsSchemesRow.laid W) (hsh : W.ShapedOpen Tryz.prog) : EnvU W := envU_row h hsh

set_option maxRecDepth 100000 in
/-- WHAT THE WALK GIVES, FOR EVERY ARGUMENT AND EVERY WORLD THAT HOLDS WHAT THE ROW LISTS. -/
theorem contract (H : Type) (enc : TypeId × Value → H) (W : World) (base : Nat) (args : Array Value) (ds gs : List (DataW H)) (before : List MemPlace)
    (hval : ∀ (j : Nat) t v, Tryz.f7.params[j]? = some t → args[j]? = some v → Value.okWide Tryz.prog W .any base t v)
    (hW : DataW.Whole enc Tryz.prog Tryz.f7.params.toList Rows.urlsDotsSpec.vars false W args.toList ds gs before) (hL : laidMetH Tryz.prog Rows.urlsDotsRow.laid W) (hsh : W.ShapedOpen Tryz.prog) :
    Calls Tryz.prog 7 args W fun e W' => ∃ v, e = .returned v ∧ Rows.urlsDotsSpec.post enc Tryz.prog Tryz.f7 false true false false W args v W' := by
  have hW' := hW
  obtain ⟨p, q, hA0, hV, rfl, hfz, hnd⟩ := hW
  have hA : DataW.TrodAll enc Tryz.prog W 0 (fun _ => true) true Tryz.f7.params.toList args.toList ds p := hA0
  rw [Tryz.params7] at hA hval
  have hAk := hA
  have hlt : ∀ x ∈ p, x.block < W.heap.size := fun x hx => hW'.lt x (List.mem_append_left _ hx)
  obtain ⟨v0, d0, rfl, rfl, h0⟩ := trodAll_one hA
  obtain ⟨rfl, rfl⟩ := trodVars_none hV
  obtain ⟨l0, i0⟩ := slB_of (hval 0 35 v0 rfl rfl) h0
  clear hA0
  refine (walk v0 l0 W i0 (env hL hsh)).mono fun e W' hr => ?_
  obtain ⟨he, hb⟩ : e = .returned (.bool true) ∧ Below W.heap.size W W' := hr
  subst he
  refine ⟨_, rfl, _, _, _, [], p, [], hW', ?_, ?_, ?_, hb.frame _, ?_⟩
  · exact trodAll_mk1 (shut_bool Tryz.underlying4 true)
  · exact trodAll_below hb (by decide +kernel) hAk hlt
  · rfl
  · exact fun h => by cases h

theorem met (os : Os) (args : Array Value) : laidMetH Tryz.prog Rows.urlsDotsRow.laid ((startU os).forCall (fun _ _ => 0) ⟨#[], args, []⟩).memory := metU os args
theorem reads (os : Os) {H : Type} (enc : TypeId × Value → H) : ∃ places, DataW.whole enc Tryz.prog ((startU os).forCall (fun _ _ => 0) ⟨#[], #[.slice none 0 0], []⟩).memory Tryz.f7.params.toList Rows.urlsDotsSpec.vars false #[Value.slice none 0 0].toList 8 = some ([.nil], [], places) :=
  ⟨[], by kernel_rfl⟩

set_option maxRecDepth 100000 in
theorem lifted (os : Os) (started : os.Started) (H : Type) (enc : TypeId × Value → H) (F : Stop.Interp) :
    ReturnsInHanded {} Tryz.checked os 7 .any ((OpenSpec.ofChange Rows.urlsDotsSpec).preRow enc Tryz.prog Tryz.f7 Rows.urlsDotsRow.domain false Rows.urlsDotsRow.laid) (((OpenSpec.ofChange Rows.urlsDotsSpec).at F).post enc Tryz.prog Tryz.f7 false true false false) := by
  obtain ⟨places, hx⟩ := reads os enc
  refine returnsInHanded_of_row (C := Tryz.checked) (s := OpenSpec.ofChange Rows.urlsDotsSpec) ownU started (by kernel_rfl) Tryz.func7
    (witness_row_atRef (enc := enc) (C := Tryz.checked) false (startU os) #[.slice none 0 0] rfl (by kernel_rfl) (by kernel_rfl) (by kernel_rfl)
      (OpenSpec.preRow_of_cond 8 hx (by kernel_rfl) (fun k hk => by cases hk) (by kernel_rfl) (met os _))) ?_
  intro W base args ds gs before hval hW _ _ _ hL hsh _
  exact contract H enc W base args ds gs before hval hW hL hsh

theorem c1 : Rows.urlsDotsRow.wf (OpenSpec.ofChange Rows.urlsDotsSpec) = true := by kernel_rfl
theorem c2 : namedTie Tryz.prog Rows.urlsDotsRow.named Rows.urlsDotsSpec.vars = true := by kernel_rfl
theorem c3 : (Rows.urlsDotsRow.inPlace == Tryz.prog.inPlace 7) = true := by kernel_rfl
theorem c4 : (Rows.urlsDotsRow.unfollowed == Tryz.prog.unfollowed 7) = true := by kernel_rfl
theorem c5 : (Rows.urlsDotsRow.recurses == Tryz.prog.recurses 7) = true := by kernel_rfl
theorem c6 : (Rows.urlsDotsRow.named == Tryz.prog.varsNamed 7) = true := by kernel_rfl
theorem c7 : (Rows.urlsDotsRow.lifted == Tryz.prog.liftsFinal) = true := liftU
theorem c8 : (Tryz.prog.make == some Rows.urlsDotsRow.make) = true := makeU
theorem c9 : (Rows.urlsDotsRow.plainKeys == Tryz.prog.plainKeys) = true := keysU
theorem closed : joinedFacts Tryz.prog 7 Tryz.f7 Rows.urlsDotsSpec Rows.urlsDotsRow = true := by
  unfold joinedFacts
  repeat' (with_reducible refine andI ?_ ?_)
  all_goals first
    | with_reducible exact c1 | with_reducible exact laidOut | with_reducible exact mapsU | with_reducible exact c2 | with_reducible exact c3 | with_reducible exact c4 | with_reducible exact c5 | with_reducible exact c6
    | with_reducible exact c9 | with_reducible exact heardU | with_reducible exact mayU | with_reducible exact c7 | with_reducible exact c8
    | kernel_rfl
set_option maxRecDepth 100000 in
theorem said : Rows.UrlsDotsSaid :=
  OpenClaim.holds_of_cond 7 Tryz.f7 rfl rfl rfl rfl rfl rfl rfl ⟨rfl, rfl, rfl, rfl, rfl⟩ rfl rfl rfl rfl rfl (by kernel_rfl) Tryz.func7 closed
    (of_decide_eq_true (by kernel_rfl)) (by unfold Func.isWrapper; first | (rw [if_pos (by decide +kernel)]; kernel_rfl) | (rw [if_neg (by decide +kernel)]; exact ⟨rfl, rfl⟩))
    (fun os started H enc _ F => by rw [OpenClaim.pre_eq_preRow]; exact lifted os started H enc F)

theorem plain (f : FuncId) (fn : Func) (hf : Tryz.pinned.checked.prog.funcNamed "lazaret/lazaretlaw08.UrlsDots" = some f) (hfn : Tryz.pinned.checked.prog.funcs[f]? = some fn) :
    true = Tryz.pinned.checked.prog.looks [] ∧ ∀ (j : Nat) t, fn.params[j]? = some t → Tryz.pinned.checked.prog.wantsStandIn t = false := by
  obtain rfl : f = 7 := Option.some.inj ((show Tryz.prog.funcNamed "lazaret/lazaretlaw08.UrlsDots" = some 7 by kernel_rfl).symm.trans hf) |>.symm
  obtain rfl : fn = Tryz.f7 := (Option.some.inj (Tryz.func7.symm.trans hfn)).symm
  refine ⟨by kernel_rfl, fun j t ht => ?_⟩
  rw [Tryz.params7] at ht
  have hall : ∀ t ∈ (#[35] : Array TypeId), Tryz.prog.wantsStandIn t = false := by decide +kernel
  exact hall t (Array.mem_of_getElem? ht)

theorem card : Rows.UrlsDotsCardSaid :=
  Claim7.holds_tied_plain_at .later [] _ _ _ _ said (fun _ h => by cases h) (by kernel_rfl) (fun _ h => by cases h) urlsDots_row_tie rfl ⟨rfl, rfl⟩ (by kernel_rfl) rfl plain (by kernel_rfl)
end Go.Proofs.YthijceooebebfaaGreatDoor.urlsDots
