/-
  Package arena: above; what a store into a node's row leaves.
  Package arena: Index of a number, free.
  Package arena: hang (behind all kids), Append.
-/
import Derived.Test.YtnbdalohlldnbaaGreatDoorM02
namespace Go.Proofs.YtnbdalohlldnbaaGreatDoor
open Go.RowKit Bd
attribute [local go_sem ↓] Go.wp_at_zero Go.wp_at_succ
set_option maxHeartbeats 1000000 in
theorem above_any {own : Nat → Nat} {w : World} {ap : Nat} {nv : Value} {l : List NB} (i x : Int) (h : ArH own w ap nv l) (hE : Endz (l.map NB.n) l.length x) (hl : l.length ≤ 1000000) : Calls Tryz.prog 129 #[.pointer (some ⟨ap, 0, none⟩), .int .i64 i, .int .i64 x] w (RB (above (l.map NB.n) i x) w) := by
  have cU : Hid (∀ (j : Nat) (y : NB), l[j]? = some y → Calls Tryz.prog 170 #[.pointer (some ⟨ap, 0, none⟩), .int .i64 (j : Int)] w (RI (up (l.map NB.n) (j : Int)) w)) := Lib.hid (fun j y hj => up_any h hj hl)
  obtain ⟨R, hR⟩ : ∃ R, R = above (l.map NB.n) i x := ⟨_, rfl⟩
  rw [← hR]
  unfold above at hR
  rw [List.length_map] at hR
  have hex : Hid (∀ z, has (l.map NB.n) z = true → ∃ (j : Nat) (y : NB), z = (j : Int) ∧ l[j]? = some y) := Lib.hid (fun z hz => has_ex hz)
  generalize l.length = N at *
  generalize l.map NB.n = A at *
  have HR : Hid (aboveF A i (N + 1) x = R) := Lib.hid hR.symm
  clear hR h
  go_enter Tryz.func129, Tryz.ntmps129
  go_wp2_with fail
  go_loopw [2] (fun y wr => ∃ z : Int, y = .int .i64 z ∧ Hid (Endz A N z) ∧ Hid (aboveF A i (N + 1) z = R) ∧ w = wr) (fun y _ => steps A N (intOf y))
  case atStart => exact ⟨x, rfl, Lib.hid hE, HR, rfl⟩
  case round =>
  obtain ⟨z, rfl, hz, hab, rfl⟩ := hrel
  clear HR hE
  by_cases h0 : 0 ≤ z
  · obtain ⟨q, hq⟩ : ∃ q, (z == i) = q := ⟨_, rfl⟩
    cases q with
    | true =>
      have HQ : Hid (R = true) := by show _ = _; rw [← hab.out, above_step h0, hq]; rfl
      clear hab hz
      go_wp2_with fail
      go_ret
      exact ⟨by rw [HQ.out]; rfl, rfl⟩
    | false =>
      obtain ⟨k, hk, hh, hz2⟩ := hz.out.has h0
      obtain ⟨j, y, rfl, hj⟩ := hex.out z hh
      have cU1 := Lib.hid (cU.out j y hj)
      have HE : Hid (Endz A N (up A (j : Int))) := Lib.hid (hz2.mono (by omega))
      have HA : Hid (aboveF A i (N + 1) (up A (j : Int)) = R) := Lib.hid (by
        rw [← hab.out, above_step h0, hq, hk]
        exact above_eq hz2 (by omega))
      have HM : Hid (steps A N (up A (j : Int)) < steps A N (j : Int)) := Lib.hid (by
        have e1 : steps A N (j : Int) = steps A k (up A (j : Int)) + 1 := by rw [hk]; conv => lhs; unfold steps; rw [if_neg (by omega)]
        rw [e1, steps_eq hz2 (show k ≤ N by omega)]
        exact Nat.lt_succ_self _)
      clear hk hh hz2 hj hz hab
      generalize up A (j : Int) = u at *
      go_wp2_with fail
      refine cU1.out.mono ?_
      rintro e w1 ⟨rfl, rfl⟩
      go_wp2_with fail
      go_roundw
      case rel => exact ⟨u, rfl, HE, HA, trivial⟩
      case measure => exact HM.out
  · have HQ : Hid (R = false) := by show _ = _; rw [← hab.out]; unfold aboveF; rw [if_pos (by omega)]
    clear hab hz
    go_wp2_with fail
    go_ret
    exact ⟨by rw [HQ.out]; rfl, rfl⟩
/-- A slice's row with one cell turned. -/
theorem SlO.set {own : Nat → Nat} {q : Nat} {w : World} {e : TypeId} {size n : Nat} {g cap : Nat} {xs : List Value} (h : SlO own q w e size (.slice (some ⟨g, 0, none⟩) n cap) n xs) (j : Nat) (u : Value) : SlO own q (w.setCell ⟨g, j, none⟩ u) e size (.slice (some ⟨g, 0, none⟩) n cap) n (xs.set j u) := by
  refine ⟨⟨by rw [List.length_set]; exact h.1.1, ?_⟩, fun g' hg' => ⟨(h.2 g' hg').1, by have := (h.2 g' hg').2; simpa [World.setCell] using this⟩⟩
  rcases h.1.2 with ⟨e1, _⟩ | ⟨g1, cap1, cur, e1, hg, h3, h4, h5, h6⟩
  · cases e1
  · injection e1 with e1 e2 e3
    injection e1 with e1
    injection e1 with e1
    subst e1; subst e3
    refine Or.inr ⟨g, cap, _, rfl, row_setC hg j u, h3, h4, by simpa using h5, ?_⟩
    rw [Array.toList_setIfInBounds, ← h6, List.take_set]
theorem nrows_set (ys : List NB) : ∀ (p : Nat) (x x' : NB) (k : Nat) (u : Value), ys[p]? = some x → k < 11 → x.row.set k u = x'.row → (ys.flatMap NB.row).set (p * 11 + k) u = (ys.set p x').flatMap NB.row := by
  induction ys with
  | nil => intro p x x' k u h; simp at h
  | cons y r ih =>
    intro p x x' k u h hk hr
    cases p with
    | zero =>
      obtain rfl : y = x := by simpa using h
      rw [List.flatMap_cons, List.set_cons_zero, List.flatMap_cons, ← hr, Nat.zero_mul, Nat.zero_add, List.set_append_left _ _ (by show k < 11; exact hk)]
    | succ p =>
      rw [List.flatMap_cons, List.set_cons_succ, List.flatMap_cons, List.set_append_right _ _ (by show 11 ≤ _; omega), show (p + 1) * 11 + k - y.row.length = p * 11 + k by show (p + 1) * 11 + k - 11 = _; omega, ih p x x' k u (by simpa using h) hk hr]
/-- A store into a node's row: the kids are as they were. -/
theorem ArH.put {own : Nat → Nat} {w : World} {ap g n cap : Nat} {l : List NB} {p : Nat} {x x' : NB} {k : Nat} {u : Value} (h : ArH own w ap (.slice (some ⟨g, 0, none⟩) n cap) l) (hL : Lbl own w) (hp : l[p]? = some x) (hk : k < 11) (hr : x.row.set k u = x'.row) (hkv : x'.kv = x.kv) (hks : x'.n.kids = x.n.kids) :
    ArH own (w.setCell ⟨g, p * 11 + k, none⟩ u) ap (.slice (some ⟨g, 0, none⟩) n cap) (l.set p x') ∧ Fr (fun y => y == 5) own own w (w.setCell ⟨g, p * 11 + k, none⟩ u) := by
  have hg : own g = 5 := (h.s.2 g rfl).1
  have hf : Fr (fun y => y == 5) own own w (w.setCell ⟨g, p * 11 + k, none⟩ u) := Fr.setCell hL (p := ⟨g, p * 11 + k, none⟩) u (by simp [hg])
  have hn : n = l.length := by
    obtain ⟨a, c, e, _⟩ := h.s.1.form
    injection e
  subst hn
  refine ⟨⟨h.o, hf.keep h.h (by rw [h.o]; rfl), ?_, fun j y hj => ?_⟩, hf⟩
  · have := SlO.set h.s (p * 11 + k) u
    rw [nrows_set l p x x' k u hp hk hr] at this
    rw [List.length_set]; exact this
  · rw [List.getElem?_set] at hj
    by_cases hjp : p = j
    · subst hjp
      rw [if_pos rfl] at hj
      split at hj
      · obtain rfl := Option.some.inj hj
        have := (h.k p x hp).keep hf (beq_eq_false_iff_ne.2 (by omega))
        rw [hkv, hks]; exact this
      · cases hj
    · rw [if_neg hjp] at hj
      exact (h.k j y hj).keep hf (beq_eq_false_iff_ne.2 (by omega))
/-- New kids of a node. -/
theorem ArH.kids {own own9 : Nat → Nat} {w w9 : World} {ap g n cap : Nat} {l : List NB} {p : Nat} {x : NB} {v9 : Value} {ks : List Int} (h : ArH own w ap (.slice (some ⟨g, 0, none⟩) n cap) l) (hp : l[p]? = some x) (hf : Fr (fun y => y == 9 + p) own own9 w w9) (hs : SlO own9 (9 + p) w9 3 1 v9 ks.length (ints ks)) :
    ArH own9 (w9.setCell ⟨g, p * 11 + 8, none⟩ v9) ap (.slice (some ⟨g, 0, none⟩) n cap) (l.set p ⟨{ x.n with kids := ks }, v9⟩) ∧ Fr cAr own own9 w (w9.setCell ⟨g, p * 11 + 8, none⟩ v9) := by
  have hn : n = l.length := by
    obtain ⟨a, c, e, _⟩ := h.s.1.form
    injection e
  subst hn
  have hgl := (h.s.2 g rfl).2
  have hg : own9 g = 5 := by rw [hf.old g hgl]; exact (h.s.2 g rfl).1
  have hs5 := h.s.keep hf (beq_eq_false_iff_ne.2 (by omega))
  have hf5 : Fr (fun y => y == 5) own9 own9 w9 (w9.setCell ⟨g, p * 11 + 8, none⟩ v9) := Fr.setCell hf.lbl (p := ⟨g, p * 11 + 8, none⟩) v9 (by simp [hg])
  have ho : own9 ap = 2 := by rw [hf.old ap (row_lt h.h)]; exact h.o
  have hap := hf.keep h.h (by rw [h.o]; exact beq_eq_false_iff_ne.2 (by omega))
  refine ⟨⟨ho, hf5.keep hap (by rw [ho]; rfl), ?_, fun j y hj => ?_⟩, (hf.mono (fun y hy => ?_)).trans (hf5.mono (fun y hy => ?_))⟩
  · have := SlO.set hs5 (p * 11 + 8) v9
    rw [nrows_set l p x ⟨{ x.n with kids := ks }, v9⟩ 8 v9 hp (by omega) rfl] at this
    rw [List.length_set]; exact this
  · rw [List.getElem?_set] at hj
    by_cases hjp : p = j
    · subst hjp
      rw [if_pos rfl] at hj
      split at hj
      · obtain rfl := Option.some.inj hj
        exact hs.keep hf5 (beq_eq_false_iff_ne.2 (by omega))
      · cases hj
    · rw [if_neg hjp] at hj
      exact ((h.k j y hj).keep hf (beq_eq_false_iff_ne.2 (by omega))).keep hf5 (beq_eq_false_iff_ne.2 (by omega))
  · cases hx5 : (y == 9 + p) with
    | false => rfl
    | true => rw [beq_iff_eq.1 hx5] at hy; simp [cAr] at hy
  · cases hx5 : (y == 5) with
    | false => rfl
    | true => rw [beq_iff_eq.1 hx5] at hy; cases hy
end Go.Proofs.YtnbdalohlldnbaaGreatDoor

namespace Go.Proofs.YtnbdalohlldnbaaGreatDoor
open Go.RowKit Bd
attribute [local go_sem ↓] Go.wp_at_zero Go.wp_at_succ
/-- The first place of a number; -1: none. -/
def idxI (l : List Int) (x : Int) : Int := if x ∈ l then (l.idxOf x : Int) else -1
theorem idx_take {l : List Int} {x : Int} {j : Nat} (h : ∀ y ∈ l.take j, y ≠ x) (hj : l[j]? = some x) : l.idxOf x = j ∧ x ∈ l := by
  induction l generalizing j with
  | nil => simp at hj
  | cons a r ih =>
    cases j with
    | zero =>
      obtain rfl : a = x := by simpa using hj
      exact ⟨by simp, by simp⟩
    | succ j =>
      have ha : a ≠ x := h a (by simp)
      obtain ⟨e1, e2⟩ := ih (j := j) (fun y hy => h y (by rw [List.take_succ_cons]; exact List.mem_cons_of_mem _ hy)) (by simpa using hj)
      exact ⟨by rw [List.idxOf_cons, e1, show (a == x) = false from beq_eq_false_iff_ne.2 ha]; rfl, List.mem_cons_of_mem _ e2⟩
set_option maxHeartbeats 1000000 in
theorem IndexI_any (v : Value) (l : List Int) (x : Int) (w : World) (h : IntsAt w v l) (hL : l.length ≤ 1000000000) : Calls Tryz.prog 123 #[v, .int .i64 x] w (RI (idxI l x) w) := by
  obtain ⟨a, c, rfl, hx⟩ := h
  obtain ⟨R, hR⟩ : ∃ R, R = idxI l x := ⟨_, rfl⟩
  rw [← hR]
  obtain ⟨n, hn⟩ : ∃ n, n = l.length := ⟨_, rfl⟩
  rw [← hn] at hL ⊢
  have HN := Lib.hid hn
  have HX := Lib.hid hx
  have HR := Lib.hid hR
  clear hn hx hR
  go_enter Tryz.func123, Tryz.ntmps123
  go_wp2_with fail
  go_loopw [8] (fun i wr => ∃ j : Nat, i = .int .i64 j ∧ j ≤ n ∧ Hid (∀ y ∈ l.take j, y ≠ x) ∧ w = wr) (fun i _ => n - (intOf i).toNat)
  case atStart => exact ⟨0, rfl, Nat.zero_le _, Lib.hid (fun y hy => by cases hy), rfl⟩
  case round =>
  obtain ⟨j, rfl, hj, hT, rfl⟩ := hrel
  by_cases hlt : j < n
  · have hltI : (j : Int) < (n : Int) := by omega
    have hj0 : (0 : Int) ≤ (j : Int) := by omega
    obtain ⟨y, hy⟩ : ∃ y, l[j]? = some y := ⟨_, List.getElem?_eq_getElem (by rw [← HN.out]; exact hlt)⟩
    obtain ⟨g, off, rfl, hc⟩ := HX.out j y hy
    obtain ⟨q, hq⟩ : ∃ q, (x == y) = q := ⟨_, rfl⟩
    cases q with
    | true =>
      have HQ : Hid (R = (j : Int)) := by
        show _ = _
        obtain rfl := beq_iff_eq.1 hq
        obtain ⟨e1, e2⟩ := idx_take hT.out hy
        rw [HR.out]; unfold idxI; rw [if_pos e2, e1]
      clear hy hT HX
      go_wp2_with fail
      go_ret
      exact ⟨by rw [HQ.out]; rfl, rfl⟩
    | false =>
      have HT2 : Hid (∀ z ∈ l.take (j + 1), z ≠ x) := Lib.hid (fun z hz => by
        rw [List.take_add_one, hy] at hz
        rcases List.mem_append.1 hz with h | h
        · exact hT.out z h
        · rw [List.mem_singleton.1 h]; exact fun e => by rw [e] at hq; simp at hq)
      clear hy hT
      go_wp2_with fail
      go_roundw
      case rel => exact ⟨j + 1, by go_num, by omega, HT2, trivial⟩
      case measure => simp [intOf]; omega
  · have hltI : ¬ (j : Int) < (n : Int) := by omega
    have HQ : Hid (R = -1) := by
      show _ = _
      rw [HR.out]; unfold idxI
      rw [if_neg (fun hm => by
        have := hT.out
        rw [List.take_of_length_le (by rw [← HN.out]; omega)] at this
        exact this x hm rfl)]
    clear hT HX
    go_wp2_with fail
    go_ret
    exact ⟨by rw [HQ.out]; rfl, rfl⟩
/-- Numbers behind numbers. -/
theorem op_append_int {w : World} {o : Oper} {a : Act} {K : Act → World → Prop} {Q : Exit → Act → World → Prop} {own : Nat → Nat} (s x : Operand)
    (ho : o.op = .call { callee := .builtin .append, args := #[s, x], argTypes := #[29, 29] }) (hty : o.type = 29) (hL : Lbl own w) (q : Nat) (v : Value) (n : Nat) (xs : List Int) (hs : a.eval s = v) (hown : SlO own q w 3 1 v n (ints xs)) (g off m c : Nat) (news : List Int) (hx : a.eval x = .slice (some ⟨g, off, none⟩) m c) (hm : m = news.length) (hp : ∀ j y, news[j]? = some y → w.cell? ⟨g, off + j, none⟩ = some (.int .i64 y))
    (hl : n + m ≤ 1000000)
    (h : ∀ v' w' own', SlO own' q w' 3 1 v' (xs ++ news).length (ints (xs ++ news)) → Fr (fun k => k == q) own own' w w' → K (a.put o.dst v') w') : Oper.wp Tryz.prog o a w K Q := by
  obtain ⟨i0, hi, hz0, hz1, hz2⟩ := info_parts infoInt
  obtain ⟨v', w', own', hr, h2, h3⟩ := run_append_sl (P := Tryz.prog) w hL 29 29 3 i0 (.int .i64 0) 1 8 Tryz.underlying29 hi hz0 hz1 hz2 rfl v n _ hown ⟨g, off, none⟩ m c (ints news) (by rw [ints_len, hm, Nat.mul_one]) (fun j u hj => by
      unfold ints at hj
      rw [List.getElem?_map, Option.map_eq_some_iff] at hj
      obtain ⟨y, hj, rfl⟩ := hj
      rw [addr_add']; exact hp j y hj) (ints_one news) (by unfold maxLen; omega) (by omega)
  have e1 : ints xs ++ ints news = ints (xs ++ news) := by simp [ints]
  have e2 : n + m = (xs ++ news).length := by have := hown.1.1; rw [ints_len] at this; rw [List.length_append]; omega
  rw [e1, e2] at h2
  unfold Oper.wp execOp
  simp only [ho, hty, resolve, invoke, builtin, Sem.run_bind, Sem.run_pure, Result.andThen_ok, List.map_toArray, List.map_cons, List.map_nil, hs, hx, hr]
  exact h _ _ _ h2 h3
/-- The first k of a slice, with no room behind. -/
theorem SlO.cut {own : Nat → Nat} {q : Nat} {w : World} {e : TypeId} {g n cap : Nat} {xs : List Value} (h : SlO own q w e 1 (.slice (some ⟨g, 0, none⟩) n cap) n xs) (k : Nat) (hk : k ≤ n) : SlO own q w e 1 (.slice (some ⟨g, 0, none⟩) k k) k (xs.take k) := by
  refine ⟨⟨by rw [List.length_take, h.1.1]; omega, ?_⟩, h.2⟩
  rcases h.1.2 with ⟨e1, _⟩ | ⟨g1, cap1, cur, e1, hg, h3, h4, h5, h6⟩
  · cases e1
  · injection e1 with e1 e2 e3
    injection e1 with e1
    injection e1 with e1
    subst e1; subst e3
    exact Or.inr ⟨g, k, cur, rfl, hg, Nat.le_refl _, by omega, by omega, by rw [← h6, List.take_take]; congr 1; omega⟩
theorem upd_set {l : List NB} {p : Nat} {x z : NB} {f : NodeL → NodeL} (hp : l[p]? = some x) (hz : z.n = f x.n) : (l.set p z).map NB.n = upd (l.map NB.n) (p : Int) f := by
  unfold upd
  rw [List.map_set, show ((p : Int)).toNat = p from rfl, hz]
  refine List.ext_getElem? (fun j => ?_)
  rw [List.getElem?_set, List.getElem?_modify]
  by_cases hj : p = j
  · subst hj
    rw [if_pos rfl, List.getElem?_map, hp, if_pos (by rw [List.length_map]; exact (List.getElem?_eq_some_iff.1 hp).1)]; simp
  · rw [if_neg hj]; simp [hj]
theorem erase_cut {l : List Int} {x : Int} : l.erase x = l.take (l.idxOf x) ++ l.drop (l.idxOf x + 1) := by
  rw [List.erase_eq_eraseIdx_of_idxOf rfl, List.eraseIdx_eq_take_drop_succ]
theorem idx_lt {l : List Int} {x : Int} (h : x ∈ l) : l.idxOf x < l.length := List.idxOf_lt_length_iff.2 h
theorem ArH.og {own : Nat → Nat} {w : World} {ap g n cap : Nat} {l : List NB} (h : ArH own w ap (.slice (some ⟨g, 0, none⟩) n cap) l) : own g = 5 := (h.s.2 g rfl).1
theorem ArH.nodes {own : Nat → Nat} {w : World} {ap g n cap : Nat} {l : List NB} (h : ArH own w ap (.slice (some ⟨g, 0, none⟩) n cap) l) : ∃ cur, w.heap[g]? = some (.cells cur 54 (0, 0)) := by
  rcases h.s.1.2 with ⟨e1, _⟩ | ⟨g1, cap1, cur, e1, hg, _⟩
  · cases e1
  · injection e1 with e1 _ _
    injection e1 with e1
    injection e1 with e1
    subst e1
    exact ⟨cur, hg⟩
theorem Fr.cell_keep {c : Nat → Bool} {own own' : Nat → Nat} {w w' : World} (h : Fr c own own' w w') {p : Addr} (hp : p.block < w.heap.size) (hc : c (own p.block) = false) : w'.cell? p = w.cell? p := World.cell?_of_block (w := w) (h.block p.block hp hc)
theorem ArH.row {own : Nat → Nat} {w : World} {ap g n cap : Nat} {l : List NB} (h : ArH own w ap (.slice (some ⟨g, 0, none⟩) n cap) l) {j : Nat} {x : NB} (hj : l[j]? = some x) : ∀ k u, x.row[k]? = some u → w.cell? ⟨g, j * 11 + k, none⟩ = some u := by
  obtain ⟨g', cap', e, _, _, _, hc⟩ := h.cells hj
  injection e with e _ _
  injection e with e
  injection e with e
  subst e
  exact hc
/-- What free leaves. -/
def RFree (own : Nat → Nat) (ap : Nat) (nv : Value) (a : Ar) (w : World) (e : Ending) (w' : World) : Prop := e = .returned (.tuple #[]) ∧ ∃ own' l', l'.map NB.n = a ∧ ArH own' w' ap nv l' ∧ Fr cAr own own' w w'
set_option maxHeartbeats 2000000 in
set_option maxRecDepth 100000 in
theorem free_any {own : Nat → Nat} {w : World} {ap : Nat} {nv : Value} {l : List NB} {i : Nat} {x : NB} (h : ArH own w ap nv l) (hL : Lbl own w) (hi : l[i]? = some x) (hpar : 0 ≤ x.n.parent → ∃ (P : Nat) (y : NB), x.n.parent = (P : Int) ∧ l[P]? = some y ∧ (i : Int) ∈ y.n.kids ∧ y.n.kids.length ≤ 1000000) :
    Calls Tryz.prog 169 #[.pointer (some ⟨ap, 0, none⟩), .int .i64 (i : Int)] w (RFree own ap nv (free (l.map NB.n) (i : Int)) w) := by
  have c0 := rowAt h.h 0 _ rfl
  have hlt := (List.getElem?_eq_some_iff.1 hi).1
  obtain ⟨g, cap, rfl, hcap, _, _, hc⟩ := h.cells hi
  have k6 := (row11 hc).2.2.2.2.2.2.1
  obtain ⟨pr, hpr⟩ : ∃ z, z = x.n.parent := ⟨_, rfl⟩
  rw [← hpr] at k6 hpar
  have hfree : free (l.map NB.n) (i : Int) = if pr < 0 then l.map NB.n else upd (upd (l.map NB.n) pr fun n => { n with kids := n.kids.erase (i : Int) }) (i : Int) fun n => { n with parent := -1 } := by
    unfold free; rw [rd_of hi, ← hpr]
  rw [hfree]
  obtain ⟨N, hN⟩ : ∃ N, N = l.length := ⟨_, rfl⟩
  have i0 : (0 : Int) ≤ (i : Int) := by omega
  have i1 : (i : Int) < (N : Int) := by omega
  rw [← hN] at c0 hcap
  rw [← hN] at h ⊢
  by_cases h0 : pr < 0
  · rw [if_pos h0]
    have HA := Lib.hid h
    clear h hc hpar hfree hpr hi hN
    go_enter Tryz.func169, Tryz.ntmps169
    go_wp2_with fail
    go_end0
    exact ⟨rfl, own, l, rfl, HA.out, Fr.refl _ hL⟩
  · rw [if_neg h0]
    obtain ⟨P, y, hP, hy, hmem, hyl⟩ := hpar (by omega)
    clear hpar hfree
    subst hP
    have hSK := h.k P y hy
    obtain ⟨k, hkk⟩ : ∃ k, k = y.n.kids.idxOf (i : Int) := ⟨_, rfl⟩
    have hkl := idx_lt hmem
    rw [← hkk] at hkl
    have hget : y.n.kids[k]? = some (i : Int) := by rw [hkk, List.getElem?_eq_getElem (idx_lt hmem), List.getElem_idxOf]
    obtain ⟨gk, ck, hkv, hnc, _⟩ := hSK.1.cell (ints_get hget)
    have cI := IndexI_any y.kv y.n.kids (i : Int) w (SlO.ints hSK) (by omega)
    rw [show idxI y.n.kids (i : Int) = (k : Int) by unfold idxI; rw [if_pos hmem, ← hkk]] at cI
    have k8 := (row11 (h.row hy)).2.2.2.2.2.2.2.2.1
    have hPl := (List.getElem?_eq_some_iff.1 hy).1
    rw [← hN] at hPl
    obtain ⟨nk, hnk⟩ : ∃ n, n = y.n.kids.length := ⟨_, rfl⟩
    obtain ⟨ks, hks⟩ : ∃ z, z = y.n.kids := ⟨_, rfl⟩
    rw [← hks] at hnk hkl hnc hkk hyl
    rw [← hks, ← hnk] at hkv
    rw [← hnk] at hkl hnc hyl
    obtain ⟨k1, hk1⟩ : ∃ k1, k1 = k + 1 := ⟨_, rfl⟩
    have wk : IntKind.i64.wrap ((k : Int) + 1) = (k1 : Int) := by rw [hk1]; exact IntWalk.i64_in _ (by omega)
    obtain ⟨off2, hoff2⟩ : ∃ o2, o2 = if ck = k1 then 0 else k1 := ⟨_, rfl⟩
    have HKV : Hid (∀ V, ArH own V ap (.slice (some ⟨g, 0, none⟩) N cap) l → SlO own (9 + P) V 3 1 (.slice (some ⟨gk, 0, none⟩) k k) k (ints (ks.take k)) ∧ ∀ j z, (ks.drop k1)[j]? = some z → V.cell? ⟨gk, off2 + j, none⟩ = some (.int .i64 z)) := Lib.hid (fun V hV => by
      have hS := hV.k P y hy
      rw [hkv, ← hks, ← hnk] at hS
      refine ⟨?_, fun j z hj => ?_⟩
      · have := SlO.cut hS k (by omega)
        rwa [show (ints ks).take k = ints (ks.take k) by simp [ints, List.map_take]] at this
      · rw [List.getElem?_drop] at hj
        have hj2 := (List.getElem?_eq_some_iff.1 hj).1
        obtain ⟨g1, c1, e1, h1, hu⟩ := hS.1.cell (ints_get hj)
        injection e1 with e1 e2 e3
        injection e1 with e1
        injection e1 with e1
        subst e1; subst e3
        rw [hoff2, if_neg (by omega)]; exact hu)
    have HC8 : Hid (∀ V, ArH own V ap (.slice (some ⟨g, 0, none⟩) N cap) l → V.cell? ⟨g, P * 11 + 8, none⟩ = some (.slice (some ⟨gk, 0, none⟩) nk ck)) := Lib.hid (fun V hV => by
      rw [(row11 (hV.row hy)).2.2.2.2.2.2.2.2.1, hkv])
    have HM : Hid (nk - k1 = (ks.drop k1).length) := Lib.hid (by rw [List.length_drop, hnk])
    have HO := Lib.hid hoff2
    have HGoal : Hid (∀ v9 : Value, (l.set P ⟨{ y.n with kids := ks.take k ++ ks.drop k1 }, v9⟩).map NB.n = upd (l.map NB.n) (P : Int) fun n => { n with kids := n.kids.erase (i : Int) }) := Lib.hid (fun v9 => upd_set hy (by
      dsimp only
      rw [erase_cut, ← hks, ← hkk, hk1]))
    have HI : Hid (∀ v9 : Value, ∃ x1, (l.set P ⟨{ y.n with kids := ks.take k ++ ks.drop k1 }, v9⟩)[i]? = some x1) := Lib.hid (fun v9 => ⟨_, List.getElem?_eq_getElem (by rw [List.length_set]; exact hlt)⟩)
    rw [hkv] at k8 cI
    have cI := Lib.hid cI
    have p0 : (0 : Int) ≤ (P : Int) := by omega
    have p1 : (P : Int) < (N : Int) := by omega
    have q0 : (0 : Int) ≤ (k : Int) := by omega
    have q1 : (k : Int) ≤ (ck : Int) := by omega
    have q2 : (k : Int) ≤ (nk : Int) := by omega
    have q3 : (0 : Int) ≤ (k1 : Int) := by omega
    have q4 : (k1 : Int) ≤ (nk : Int) := by omega
    have q5 : (nk : Int) ≤ (ck : Int) := by omega
    have hkn : k + (nk - k1) ≤ 1000000 := by omega
    have HNL := Lib.hid hN
    have hA : ArH own w ap (.slice (some ⟨g, 0, none⟩) N cap) l := h
    have hF : Fr cAr own own w w := Fr.refl _ hL
    clear hN hk1 h hc hpr hi hSK hkv hget hmem hkk hnk hks hoff2 hPl hyl hcap
    go_enter Tryz.func169, Tryz.ntmps169
    go_wp2_with fail
    refine cI.out.mono ?_
    rintro e w1 ⟨rfl, rfl⟩
    go_upto_region 4 with fail
    clear c0 k6 k8 cI
    go_cut [41] (fun s wx => ∃ own9 v9, ArH own9 wx ap (.slice (some ⟨g, 0, none⟩) N cap) (l.set P ⟨{ y.n with kids := ks.take k ++ ks.drop k1 }, v9⟩) ∧ s = v9 ∧ Fr cAr own own9 w wx)
    case first =>
      have hd := (Below.refl w.heap.size w).drew
      replace hA := hA.below hd hF.lbl
      replace hF := hF.trans (Fr.of_below hd hF.lbl)
      clear hd
      refine wp_region_held_drew (S := fun U => U.cell? ⟨ap, 0, none⟩ = some (.slice (some ⟨g, 0, none⟩) N cap)) (by kernel_rfl) (rowAt hA.h 0 _ rfl) (fun hHeld => ?_)
      generalize w.drew = V at hHeld hA hF ⊢
      refine TkH 0 28 ?_; refine TkH 1 29 ?_; refine TkH 2 30 ?_; refine TkH 3 31 ?_; refine TkH 4 32 ?_
      (try simp only [Act.put]); (try simp only [List.setIfInBounds_toArray]); (try simp only [List.set_cons_zero, List.set_cons_succ])
      refine TkH 5 33 ?_; refine TkH 6 34 ?_; refine TkH 7 35 ?_; refine TkH 8 36 ?_; refine TkH 9 37 ?_
      (try simp only [Act.put]); (try simp only [List.setIfInBounds_toArray]); (try simp only [List.set_cons_zero, List.set_cons_succ])
      refine TkH 10 38 ?_; refine TkH 11 39 ?_
      (try simp only [Act.put]); (try simp only [List.setIfInBounds_toArray]); (try simp only [List.set_cons_zero, List.set_cons_succ])
      refine TkD 12 (some 40) (v := .slice (some ⟨gk, off2, none⟩) (nk - k1) (ck - k1)) rfl rfl ?_ ?_
      · (intro W hSw; (try dsimp only at hSw); go_simp; rw [HO.out]; split <;> rfl)
      (try simp only [Act.put]); (try simp only [List.setIfInBounds_toArray]); (try simp only [List.set_cons_zero, List.set_cons_succ])
      refine wpAnyH_ready (rs := [13]) (by kernel_rfl) (by simp) ?_
      refine AllReadyH.cons rfl (fun K hK => ?_) AllReadyH.nil
      rw [if_pos (by rfl)]
      have hKV := HKV.out V hA
      refine op_append_int (.tmp 36) (.tmp 40) rfl rfl hF.lbl (9 + P) (.slice (some ⟨gk, 0, none⟩) k k) k (ks.take k) rfl hKV.1 gk off2 (nk - k1) (ck - k1) (ks.drop k1) rfl HM.out hKV.2 (by omega) ?_
      intro v7 V9 own9 hs9 hf9
      obtain ⟨a9, c9, hv9, _⟩ := hs9.1.form
      obtain ⟨n9, hn9⟩ : ∃ n, n = (ks.take k ++ ks.drop k1).length := ⟨_, rfl⟩
      rw [← hn9] at hv9
      subst hv9
      clear hn9 hKV
      have hS9 := rowAt (hf9.keep hA.h (by rw [hA.o]; exact beq_eq_false_iff_ne.2 (by omega))) 0 (.slice (some ⟨g, 0, none⟩) N cap) rfl
      obtain ⟨cur, hcur⟩ := hA.nodes
      have hcur9 := hf9.keep hcur (by rw [hA.og]; exact beq_eq_false_iff_ne.2 (by omega))
      have z8 := frozen_row hcur9 (P * 11 + 8)
      have c8 := (Fr.cell_keep hf9 (p := ⟨g, P * 11 + 8, none⟩) (row_lt hcur) (by rw [hA.og]; exact beq_eq_false_iff_ne.2 (by omega))).trans (HC8.out V hA)
      obtain ⟨hA9, hF9⟩ := hA.kids hy hf9 hs9
      replace hF := hF.trans hF9
      clear hHeld
      refine hK.out _ _ hS9 (fun hHeld => ?_)
      clear hK K
      clear hs9 hf9 hF9 hA hcur hcur9 hS9
      clear V
      obtain ⟨V, rfl⟩ : ∃ U, U = V9 := ⟨_, rfl⟩
      (try simp only [Act.put]); (try simp only [List.setIfInBounds_toArray]); (try simp only [List.set_cons_zero, List.set_cons_succ])
      focus (refine TkH 14 42 ?_; refine TkH 15 43 ?_)
      (try simp only [Act.put]); (try simp only [List.setIfInBounds_toArray]); (try simp only [List.set_cons_zero, List.set_cons_succ])
      refine wpAnyH_ready (rs := [16]) (by kernel_rfl) (by simp) ?_
      refine AllReadyH.cons rfl (fun K hK => ?_) AllReadyH.nil
      go_simp
      have hS9 := rowAt hA9.h 0 (.slice (some ⟨g, 0, none⟩) N cap) rfl
      generalize hV9 : V.setCell ⟨g, P * 11 + 8, none⟩ (.slice a9 n9 c9) = V9 at *
      clear hHeld
      refine hK.out _ _ hS9 (fun hHeld => ?_)
      clear hK K
      clear hV9 c8 z8 hS9
      clear V
      obtain ⟨V, rfl⟩ : ∃ U, U = V9 := ⟨_, rfl⟩
      (try simp only [Act.put]); (try simp only [List.setIfInBounds_toArray]); (try simp only [List.set_cons_zero, List.set_cons_succ])
      refine wpAnyH_done (by kernel_rfl) ?_ _
      go_wp2_with fail
      go_meet
      exact ⟨own9, _, hA9, rfl, hF⟩

    case rest =>
    obtain ⟨own9, v9, hA9, _, hF9⟩ := hcut
    obtain ⟨x1, hx1⟩ := HI.out v9
    have hg9 := HGoal.out v9
    generalize l.set P ⟨{ y.n with kids := ks.take k ++ ks.drop k1 }, v9⟩ = l1 at hA9 hx1 hg9
    have c0 := rowAt hA9.h 0 (.slice (some ⟨g, 0, none⟩) N cap) rfl
    have c6 := hA9.row hx1 6 (.int .i64 x1.n.parent) rfl
    obtain ⟨cur, hcur⟩ := hA9.nodes
    have z6 := frozen_row hcur (i * 11 + 6)
    obtain ⟨hA2, hF2⟩ := hA9.put hF9.lbl hx1 (k := 6) (u := .int .i64 (-1)) (x' := ⟨{ x1.n with parent := -1 }, x1.kv⟩) (by omega) rfl rfl rfl
    have HA := Lib.hid hA2
    have HF : Hid (Fr cAr own own9 w (wc.setCell ⟨g, i * 11 + 6, none⟩ (.int .i64 (-1)))) := Lib.hid (hF9.trans (hF2.mono (fun y hy => by
      cases hx5 : (y == 5) with
      | false => rfl
      | true => rw [beq_iff_eq.1 hx5] at hy; cases hy)))
    have HG : Hid ((l1.set i ⟨{ x1.n with parent := -1 }, x1.kv⟩).map NB.n = upd (upd (l.map NB.n) (P : Int) fun n => { n with kids := n.kids.erase (i : Int) }) (i : Int) fun n => { n with parent := -1 }) := Lib.hid (by rw [← hg9]; exact upd_set hx1 rfl)
    clear hA9 hF9 hx1 hg9 hA2 hF2 hcur HGoal HI HKV HC8 hA hF
    go_wp2_with fail
    go_end0
    exact ⟨rfl, own9, _, HG.out, HA.out, HF.out⟩
end Go.Proofs.YtnbdalohlldnbaaGreatDoor

namespace Go.Proofs.YtnbdalohlldnbaaGreatDoor
open Go.RowKit Bd
attribute [local go_sem ↓] Go.wp_at_zero Go.wp_at_succ
/-- What hang asks: of the node's parent, if there is one, it is a kid; there are not too many kids. -/
structure ParOk (l : List NB) : Prop where
  len : l.length ≤ 1000000
  kids : ∀ (j : Nat) (x : NB), l[j]? = some x → x.n.kids.length ≤ 100000
  par : ∀ (i : Nat) (x : NB), l[i]? = some x → 0 ≤ x.n.parent → ∃ (P : Nat) (y : NB), x.n.parent = (P : Int) ∧ l[P]? = some y ∧ (i : Int) ∈ y.n.kids
theorem kids_upd (a : Ar) (i : Int) (f : NodeL → NodeL) (j : Nat) (x : NodeL) (hx : (upd a i f)[j]? = some x) (hf : ∀ n, (f n).kids.length ≤ n.kids.length) : ∃ y, a[j]? = some y ∧ x.kids.length ≤ y.kids.length := by
  unfold upd at hx
  rw [List.getElem?_modify] at hx
  cases hj : a[j]? with
  | none => rw [hj] at hx; cases hx
  | some y =>
    rw [hj] at hx
    refine ⟨y, rfl, ?_⟩
    by_cases e : i.toNat = j
    · simp [e] at hx; rw [← hx]; exact hf y
    · simp [e] at hx; rw [← hx]; exact Nat.le_refl _
theorem upd_len (a : Ar) (i : Int) (f : NodeL → NodeL) : (upd a i f).length = a.length := by unfold upd; simp
theorem free_len (a : Ar) (i : Int) : (free a i).length = a.length := by
  unfold free; split
  · rfl
  · rw [upd_len, upd_len]
theorem free_kids (a : Ar) (i : Int) (j : Nat) (x : NodeL) (hx : (free a i)[j]? = some x) : ∃ y, a[j]? = some y ∧ x.kids.length ≤ y.kids.length := by
  unfold free at hx
  split at hx
  · exact ⟨x, hx, Nat.le_refl _⟩
  · obtain ⟨y, hy, h1⟩ := kids_upd _ _ _ j x hx (fun n => Nat.le_refl _)
    obtain ⟨z, hz, h2⟩ := kids_upd _ _ _ j y hy (fun n => List.length_erase_le)
    exact ⟨z, hz, by omega⟩
set_option maxHeartbeats 2000000 in
set_option maxRecDepth 100000 in
theorem hang_any {own : Nat → Nat} {w : World} {ap : Nat} {nv : Value} {l : List NB} {P i : Nat} (h : ArH own w ap nv l) (hL : Lbl own w) (hO : ParOk l) (hP : P < l.length) (hi : i < l.length) :
    Calls Tryz.prog 124 #[.pointer (some ⟨ap, 0, none⟩), .int .i64 (P : Int), .int .i64 (-1), .int .i64 (i : Int)] w (RFree own ap nv (hang (l.map NB.n) (P : Int) (-1) (i : Int)) w) := by
  obtain ⟨x, hx⟩ : ∃ x, l[i]? = some x := ⟨_, List.getElem?_eq_getElem hi⟩
  have cF := Lib.hid (free_any h hL hx (fun h0 => by
    obtain ⟨P', y, e1, e2, e3⟩ := hO.par i x hx h0
    exact ⟨P', y, e1, e2, e3, by have := hO.kids P' y e2; omega⟩))
  obtain ⟨x0, hx0⟩ : ∃ x, l[P]? = some x := ⟨_, List.getElem?_eq_getElem hP⟩
  obtain ⟨g, cap, rfl, hcap, _, _, _⟩ := h.cells hx0
  obtain ⟨N, hN⟩ : ∃ N, N = l.length := ⟨_, rfl⟩
  rw [← hN] at h cF hP hi hcap ⊢
  have HN := Lib.hid hN
  have HO := Lib.hid hO
  have i0 : (0 : Int) ≤ (P : Int) := by omega
  have i1 : (P : Int) < (N : Int) := by omega
  have i2 : (0 : Int) ≤ (i : Int) := by omega
  have i3 : (i : Int) < (N : Int) := by omega
  clear h hL hO hx hx0 hN
  go_enter Tryz.func124, Tryz.ntmps124
  go_wp2_with fail
  refine cF.out.mono ?_
  rintro e w1 ⟨rfl, own1, l1, hm1, hA, hF⟩
  have hl1 : l1.length = N := by rw [← List.length_map (f := NB.n), hm1, free_len, List.length_map, HN.out]
  obtain ⟨y, hy⟩ : ∃ y, l1[P]? = some y := ⟨_, List.getElem?_eq_getElem (by omega)⟩
  have hyk : y.n.kids.length ≤ 100000 := by
    obtain ⟨z, hz, h1⟩ := free_kids (l.map NB.n) (i : Int) P y.n (by rw [← hm1, List.getElem?_map, hy]; rfl)
    rw [List.getElem?_map] at hz
    cases hz2 : l[P]? with
    | none => rw [hz2] at hz; cases hz
    | some z2 =>
      rw [hz2] at hz
      obtain rfl := Option.some.inj hz
      have := HO.out.kids P z2 hz2
      omega
  have c0 := rowAt hA.h 0 (.slice (some ⟨g, 0, none⟩) N cap) rfl
  have k8 := hA.row hy 8 _ rfl
  have HM1 := Lib.hid hm1
  have HL1 := Lib.hid hl1
  clear cF hm1 hl1
  go_upto_region 3 with fail
  clear c0 k8
  go_cut [31] (fun s wx => ∃ own9 v9, ArH own9 wx ap (.slice (some ⟨g, 0, none⟩) N cap) (l1.set P ⟨{ y.n with kids := y.n.kids ++ [(i : Int)] }, v9⟩) ∧ Fr cAr own own9 w wx)
  case first =>
    have hd := (Below.refl w1.heap.size w1).drew
    replace hA := hA.below hd hF.lbl
    replace hF := hF.trans (Fr.of_below hd hF.lbl)
    clear hd
    refine wp_region_held_drew (S := fun U => U.cell? ⟨ap, 0, none⟩ = some (.slice (some ⟨g, 0, none⟩) N cap)) (by kernel_rfl) (rowAt hA.h 0 _ rfl) (fun hHeld => ?_)
    generalize w1.drew = V at hHeld hA hF ⊢
    refine TkH 0 23 ?_; refine TkH 1 24 ?_; refine TkH 2 25 ?_; refine TkH 3 26 ?_; refine TkH 4 27 ?_
    (try simp only [Act.put]); (try simp only [List.setIfInBounds_toArray]); (try simp only [List.set_cons_zero, List.set_cons_succ])
    refine TkH 5 28 ?_; refine TkH 6 29 ?_
    (try simp only [Act.put]); (try simp only [List.setIfInBounds_toArray]); (try simp only [List.set_cons_zero, List.set_cons_succ])
    refine wpAnyH_ready (rs := [7]) (by kernel_rfl) (by simp) ?_
    refine AllReadyH.cons rfl (fun K hK => ?_) AllReadyH.nil
    go_simp
    obtain ⟨V9, hV9⟩ : ∃ U, U = V.alloc (.cells #[.int .i64 (i : Int)] 3) := ⟨_, rfl⟩
    rw [← hV9]
    have hb9 : Below V.heap.size V V9 := by rw [hV9]; exact (Below.refl _ _).alloc (Nat.le_refl _) _
    have hc6 : V9.heap[V.heap.size]? = some (.cells #[.int .i64 (i : Int)] 3 (0, 0)) := by rw [hV9]; exact heap_new _ _
    replace hA := hA.below hb9 hF.lbl
    replace hF := hF.trans (Fr.of_below hb9 hF.lbl)
    have hS9 := rowAt hA.h 0 (.slice (some ⟨g, 0, none⟩) N cap) rfl
    clear hHeld
    refine hK.out _ _ hS9 (fun hHeld => ?_)
    clear hK K
    clear hb9 hV9 hS9
    obtain ⟨g6, hgg⟩ : ∃ z, z = V.heap.size := ⟨_, rfl⟩
    rw [← hgg] at hc6 ⊢
    clear hgg
    clear V
    obtain ⟨V, rfl⟩ : ∃ U, U = V9 := ⟨_, rfl⟩
    (try simp only [Act.put]); (try simp only [List.setIfInBounds_toArray]); (try simp only [List.set_cons_zero, List.set_cons_succ])
    refine wpAnyH_ready (rs := [8]) (by kernel_rfl) (by simp) ?_
    refine AllReadyH.cons rfl (fun K hK => ?_) AllReadyH.nil
    rw [if_pos (by rfl)]
    have hKV := hA.k P y hy
    refine op_append_int (.tmp 28) (.tmp 30) rfl rfl hF.lbl (9 + P) y.kv y.n.kids.length y.n.kids rfl hKV g6 0 1 1 [(i : Int)] rfl rfl (fun j z hj => by match j, hj with | 0, hj => (obtain rfl := Option.some.inj hj; exact rowAt hc6 0 _ rfl)) (by omega) ?_
    intro v7 V9 own9 hs9 hf9
    obtain ⟨a9, c9, hv9, _⟩ := hs9.1.form
    obtain ⟨n9, hn9⟩ : ∃ n, n = (y.n.kids ++ [(i : Int)]).length := ⟨_, rfl⟩
    rw [← hn9] at hv9
    subst hv9
    clear hn9 hKV
    have hS9 := rowAt (hf9.keep hA.h (by rw [hA.o]; exact beq_eq_false_iff_ne.2 (by omega))) 0 (.slice (some ⟨g, 0, none⟩) N cap) rfl
    obtain ⟨cur, hcur⟩ := hA.nodes
    have hcur9 := hf9.keep hcur (by rw [hA.og]; exact beq_eq_false_iff_ne.2 (by omega))
    have z8 := frozen_row hcur9 (P * 11 + 8)
    have c8 := (Fr.cell_keep hf9 (p := ⟨g, P * 11 + 8, none⟩) (row_lt hcur) (by rw [hA.og]; exact beq_eq_false_iff_ne.2 (by omega))).trans (hA.row hy 8 _ rfl)
    obtain ⟨hA9, hF9⟩ := hA.kids hy hf9 hs9
    replace hF := hF.trans hF9
    clear hHeld
    refine hK.out _ _ hS9 (fun hHeld => ?_)
    clear hK K
    clear hs9 hf9 hF9 hA hcur hcur9 hS9 hc6
    clear V
    obtain ⟨V, rfl⟩ : ∃ U, U = V9 := ⟨_, rfl⟩
    (try simp only [Act.put]); (try simp only [List.setIfInBounds_toArray]); (try simp only [List.set_cons_zero, List.set_cons_succ])
    focus (refine TkH 9 32 ?_; refine TkH 10 33 ?_)
    (try simp only [Act.put]); (try simp only [List.setIfInBounds_toArray]); (try simp only [List.set_cons_zero, List.set_cons_succ])
    refine wpAnyH_ready (rs := [11]) (by kernel_rfl) (by simp) ?_
    refine AllReadyH.cons rfl (fun K hK => ?_) AllReadyH.nil
    go_simp
    have hS9 := rowAt hA9.h 0 (.slice (some ⟨g, 0, none⟩) N cap) rfl
    generalize hV9 : V.setCell ⟨g, P * 11 + 8, none⟩ (.slice a9 n9 c9) = V9 at *
    clear hHeld
    refine hK.out _ _ hS9 (fun hHeld => ?_)
    clear hK K
    clear hV9 c8 z8 hS9
    clear V
    obtain ⟨V, rfl⟩ : ∃ U, U = V9 := ⟨_, rfl⟩
    (try simp only [Act.put]); (try simp only [List.setIfInBounds_toArray]); (try simp only [List.set_cons_zero, List.set_cons_succ])
    refine wpAnyH_done (by kernel_rfl) ?_ _
    go_wp2_with fail
    go_meet
    exact ⟨own9, _, hA9, hF⟩

  case rest =>
  obtain ⟨own9, v9, hA9, hF9⟩ := hcut
  obtain ⟨x1, hx1⟩ : ∃ x1, (l1.set P ⟨{ y.n with kids := y.n.kids ++ [(i : Int)] }, v9⟩)[i]? = some x1 := ⟨_, List.getElem?_eq_getElem (by rw [List.length_set, HL1.out]; exact hi)⟩
  have hg9 : (l1.set P ⟨{ y.n with kids := y.n.kids ++ [(i : Int)] }, v9⟩).map NB.n = upd (free (l.map NB.n) (i : Int)) (P : Int) fun n => { n with kids := laid n.kids (-1) (i : Int) } := by
    rw [← HM1.out]
    exact upd_set hy (by dsimp only; unfold laid; rw [if_pos (by omega)])
  generalize l1.set P ⟨{ y.n with kids := y.n.kids ++ [(i : Int)] }, v9⟩ = l2 at hA9 hx1 hg9
  have c0 := rowAt hA9.h 0 (.slice (some ⟨g, 0, none⟩) N cap) rfl
  have c6 := hA9.row hx1 6 (.int .i64 x1.n.parent) rfl
  obtain ⟨cur, hcur⟩ := hA9.nodes
  have z6 := frozen_row hcur (i * 11 + 6)
  obtain ⟨hA2, hF2⟩ := hA9.put hF9.lbl hx1 (k := 6) (u := .int .i64 (P : Int)) (x' := ⟨{ x1.n with parent := (P : Int) }, x1.kv⟩) (by omega) rfl rfl rfl
  have HA := Lib.hid hA2
  have HF : Hid (Fr cAr own own9 w (wc.setCell ⟨g, i * 11 + 6, none⟩ (.int .i64 (P : Int)))) := Lib.hid (hF9.trans (hF2.mono (fun y hy => by
    cases hx5 : (y == 5) with
    | false => rfl
    | true => rw [beq_iff_eq.1 hx5] at hy; cases hy)))
  have HG : Hid ((l2.set i ⟨{ x1.n with parent := (P : Int) }, x1.kv⟩).map NB.n = hang (l.map NB.n) (P : Int) (-1) (i : Int)) := Lib.hid (by
    unfold hang
    rw [← hg9]; exact upd_set hx1 rfl)
  clear hA9 hF9 hx1 hg9 hA2 hF2 hcur hA hF hy
  go_wp2_with fail
  go_end0
  exact ⟨rfl, own9, _, HG.out, HA.out, HF.out⟩
/-- What an act on an arena answers: a number, and what the arena is then. -/
def RAct (own : Nat → Nat) (ap : Nat) (r : Ar × Int) (w : World) (e : Ending) (w' : World) : Prop := e = .returned (.int .i64 r.2) ∧ ∃ own' nv' l', l'.map NB.n = r.1 ∧ ArH own' w' ap nv' l' ∧ Fr cAr own own' w w'
set_option maxHeartbeats 2000000 in
set_option maxRecDepth 100000 in
theorem Append_any {own : Nat → Nat} {w : World} {ap : Nat} {nv : Value} {l : List NB} (p i : Int) (h : ArH own w ap nv l) (hL : Lbl own w) (hO : ParOk l) (hne : l ≠ []) (hE : ∀ x, has (l.map NB.n) x = true → Endz (l.map NB.n) l.length x) :
    Calls Tryz.prog 61 #[.pointer (some ⟨ap, 0, none⟩), .int .i64 p, .int .i64 i] w (RAct own ap (append (l.map NB.n) p i) w) := by
  have cN := Lib.hid (none_any h hne)
  have cHo := Lib.hid (holds_any p h)
  have cHa := Lib.hid (hangs_any i h)
  have cAb : Hid (has (l.map NB.n) p = true → Calls Tryz.prog 129 #[.pointer (some ⟨ap, 0, none⟩), .int .i64 i, .int .i64 p] w (RB (above (l.map NB.n) i p) w)) := Lib.hid (fun hp => above_any i p h (hE p hp) hO.len)
  have cHg : Hid (has (l.map NB.n) p = true → has (l.map NB.n) i = true → Calls Tryz.prog 124 #[.pointer (some ⟨ap, 0, none⟩), .int .i64 p, .int .i64 (-1), .int .i64 i] w (RFree own ap nv (hang (l.map NB.n) p (-1) i) w)) := Lib.hid (fun h1 h2 => by
    obtain ⟨P, x, rfl, hx⟩ := has_ex h1
    obtain ⟨I, y, rfl, hy⟩ := has_ex h2
    exact hang_any h hL hO (List.getElem?_eq_some_iff.1 hx).1 (List.getElem?_eq_some_iff.1 hy).1)
  have HS : Hid (RAct own ap ((l.map NB.n), 2) w (.returned (.int .i64 2)) w) := Lib.hid ⟨rfl, own, nv, l, rfl, h, Fr.refl _ hL⟩
  obtain ⟨r, hr⟩ : ∃ r, r = append (l.map NB.n) p i := ⟨_, rfl⟩
  rw [← hr]
  unfold append at hr
  rw [show (l.map NB.n).isEmpty = false by cases l with | nil => exact absurd rfl hne | cons a b => rfl] at hr
  have hho : holds (l.map NB.n) p = true → has (l.map NB.n) p = true := fun h => by unfold holds at h; rw [Bool.and_eq_true] at h; exact h.1
  have hha : hangs (l.map NB.n) i = true → has (l.map NB.n) i = true := fun h => by unfold hangs at h; rw [Bool.and_eq_true] at h; exact h.1
  generalize l.map NB.n = A at *
  generalize holds A p = q1 at *
  generalize hangs A i = q2 at *
  generalize above A i p = q3 at *
  generalize hang A p (-1) i = Ah at *
  generalize has A p = h1 at *
  generalize has A i = h2 at *
  have HR := Lib.hid hr
  have H1 := Lib.hid hho
  have H2 := Lib.hid hha
  clear hr hho hha h hL hO hne hE
  cases q1 with
  | false =>
    have HQ : Hid (r = (A, 2)) := by show _ = _; rw [HR.out]; simp
    clear HR cAb cHg H1 H2 cHa
    go_enter Tryz.func61, Tryz.ntmps61
    go_wp2_with fail
    refine cN.out.mono ?_
    rintro e w1 ⟨rfl, rfl⟩
    go_wp2_with fail
    refine cHo.out.mono ?_
    rintro e w1 ⟨rfl, rfl⟩
    go_wp2_with fail
    go_ret
    rw [HQ.out]; exact HS.out
  | true =>
  cases q2 with
  | false =>
    have HQ : Hid (r = (A, 2)) := by show _ = _; rw [HR.out]; simp
    clear HR cAb cHg H1 H2
    go_enter Tryz.func61, Tryz.ntmps61
    go_wp2_with fail
    refine cN.out.mono ?_
    rintro e w1 ⟨rfl, rfl⟩
    go_wp2_with fail
    refine cHo.out.mono ?_
    rintro e w1 ⟨rfl, rfl⟩
    go_wp2_with fail
    refine cHa.out.mono ?_
    rintro e w1 ⟨rfl, rfl⟩
    go_wp2_with fail
    go_ret
    rw [HQ.out]; exact HS.out
  | true =>
  have cAb1 := Lib.hid (cAb.out (H1.out rfl))
  have cHg1 := Lib.hid (cHg.out (H1.out rfl) (H2.out rfl))
  clear cAb cHg H1 H2
  cases q3 with
  | true =>
    have HQ : Hid (r = (A, 2)) := by show _ = _; rw [HR.out]; simp
    clear HR cHg1
    go_enter Tryz.func61, Tryz.ntmps61
    go_wp2_with fail
    refine cN.out.mono ?_
    rintro e w1 ⟨rfl, rfl⟩
    go_wp2_with fail
    refine cHo.out.mono ?_
    rintro e w1 ⟨rfl, rfl⟩
    go_wp2_with fail
    refine cHa.out.mono ?_
    rintro e w1 ⟨rfl, rfl⟩
    go_wp2_with fail
    refine cAb1.out.mono ?_
    rintro e w1 ⟨rfl, rfl⟩
    go_wp2_with fail
    go_ret
    rw [HQ.out]; exact HS.out
  | false =>
    have HQ : Hid (r = (Ah, 0)) := by show _ = _; rw [HR.out]; simp
    clear HR HS
    go_enter Tryz.func61, Tryz.ntmps61
    go_wp2_with fail
    refine cN.out.mono ?_
    rintro e w1 ⟨rfl, rfl⟩
    go_wp2_with fail
    refine cHo.out.mono ?_
    rintro e w1 ⟨rfl, rfl⟩
    go_wp2_with fail
    refine cHa.out.mono ?_
    rintro e w1 ⟨rfl, rfl⟩
    go_wp2_with fail
    refine cAb1.out.mono ?_
    rintro e w1 ⟨rfl, rfl⟩
    go_wp2_with fail
    refine cHg1.out.mono ?_
    rintro e w1 ⟨rfl, own1, l1, hm, hA1, hF1⟩
    have HA := Lib.hid (⟨hm, hA1, hF1⟩ : _ ∧ _ ∧ _)
    clear hm hA1 hF1
    go_wp2_with fail
    go_ret
    rw [HQ.out]
    exact ⟨rfl, own1, _, l1, HA.out.1, HA.out.2.1, HA.out.2.2⟩
end Go.Proofs.YtnbdalohlldnbaaGreatDoor
