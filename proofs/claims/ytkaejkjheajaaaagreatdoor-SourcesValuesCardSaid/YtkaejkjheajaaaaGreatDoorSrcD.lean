/-
  The walk of sources.hosted.
-/
import Derived.Test.YtkaejkjheajaaaaGreatDoorSrcC
import Derived.BigRegion
import Derived.Deep.DeepCutAuto
namespace Go.Proofs.YtkaejkjheajaaaaGreatDoor
open Go.RowKit

def srcZero : SrcB := ⟨3, ⟨#[]⟩, 0, ⟨#[]⟩, ⟨#[]⟩, false, -1, ⟨#[]⟩⟩
/-- An error: none, or one at which a bad is found. -/
def ErrSt (w : World) (n : Nat) (good : Bool) (v : Value) : Prop := (good = true ∧ v = .nilIface) ∨ (good = false ∧ Bady w n v)
theorem Bady.below' {w w' : World} (hb : Below w.heap.size w w') : ∀ {n : Nat} {v : Value}, Bady w n v → Bady w' n v
  | 0, _, h => h
  | n + 1, v, h => by
    rcases h with h | ⟨p, g, len, cap, v0, h1, h2, h3, h4, h5, h6, h7, h8⟩
    · exact Or.inl (Bady.below' hb h)
    · exact Or.inr ⟨p, g, len, cap, v0, h1, Nat.lt_of_lt_of_le h2 hb.size, Nat.lt_of_lt_of_le h3 hb.size, by rw [hb.cell (p := ⟨p, 0, none⟩) h2]; exact h4, h5, h6, by rw [hb.cell (p := ⟨g, 0, none⟩) h3]; exact h7, Bady.below' hb h8⟩
theorem ErrSt.below {w w' : World} {n : Nat} {g : Bool} {v : Value} (h : ErrSt w n g v) (hb : Below w.heap.size w w') : ErrSt w' n g v := by
  rcases h with h | ⟨h1, h2⟩
  · exact Or.inl h
  · exact Or.inr ⟨h1, h2.below' hb⟩
theorem ErrSt.succ {w : World} {n : Nat} {g : Bool} {v : Value} (h : ErrSt w n g v) : ErrSt w (n + 1) g v := by
  rcases h with h | ⟨h1, h2⟩
  · exact Or.inl h
  · exact Or.inr ⟨h1, Or.inl h2⟩
theorem Bady.iface' {w : World} : ∀ {n : Nat} {v : Value}, Bady w n v → ∃ t x, v = .iface t x
  | 0, _, ⟨b, h⟩ => ⟨_, _, h⟩
  | n + 1, v, h => by
    rcases h with h | ⟨p, g, len, cap, v0, h1, _⟩
    · exact Bady.iface' h
    · exact ⟨_, _, h1⟩
theorem ErrSt.form {w : World} {n : Nat} {g : Bool} {v : Value} (h : ErrSt w n g v) : v = .nilIface ∨ ∃ t x, v = .iface t x := by
  rcases h with ⟨_, h⟩ | ⟨_, h⟩
  · exact Or.inl h
  · exact Or.inr h.iface'

/-- It returns such an error. -/
def RSt (n : Nat) (good : Bool) (w : World) (e : Ending) (w' : World) : Prop := ∃ v, e = .returned v ∧ Hid (ErrSt w' n good v) ∧ Below w.heap.size w w'

theorem rjoin_st {n : Nat} {v0 : Value} {w : World} {e : Ending} {w' : World} (h0 : Bady w n v0) (h : RJoin v0 w e w') : RSt (n + 1) false w e w' := by
  obtain ⟨p, g, len, cap, he, q1, q2, q3, q4, q5, q6, hb⟩ := h
  exact ⟨_, he, Or.inr ⟨rfl, Or.inr ⟨p, g, len, cap, v0, rfl, q1, q2, q3, q4, q5, q6, h0.below' hb⟩⟩, hb⟩

theorem Join_st (g n : Nat) (g0 g1 : Bool) (c0 c1 : Value) (w : World) (s0 : ErrSt w n g0 c0) (s1 : ErrSt w n g1 c1) (h0 : w.cell? ⟨g, 0, none⟩ = some c0) (h1 : w.cell? ⟨g, 1, none⟩ = some c1) :
    Calls Tryz.prog 92 #[.slice (some ⟨g, 0, none⟩) 2 2] w (RSt (n + 1) (g0 && g1) w) := by
  rcases s0 with ⟨rfl, rfl⟩ | ⟨rfl, b0⟩
  · rcases s1 with ⟨rfl, rfl⟩ | ⟨rfl, b1⟩
    · exact (Join_nn g w h0 h1).mono fun e w' ⟨he, hw⟩ => ⟨_, he, Or.inl ⟨rfl, rfl⟩, by rw [hw]; exact Below.refl _ _⟩
    · obtain ⟨t, x, rfl⟩ := b1.iface'
      exact (Join_ne g t x w h0 h1).mono fun e w' h => rjoin_st b1 h
  · obtain ⟨t, x, rfl⟩ := b0.iface'
    rcases s1 with ⟨rfl, rfl⟩ | ⟨rfl, b1⟩
    · exact (Join_en g t x w h0 h1).mono fun e w' h => rjoin_st b0 h
    · obtain ⟨t1, x1, rfl⟩ := b1.iface'
      exact (Join_ee g t x t1 x1 w h0 h1).mono fun e w' h => rjoin_st b0 h

/-- host and port, in such words. -/
def RIntoSt (o : Option SrcB) (x : SrcB) (n T : Nat) (w : World) (e : Ending) (w' : World) : Prop :=
  ∃ v y, e = .returned v ∧ Hid (ErrSt w' n o.isSome v) ∧ SrcRow w' T y ∧ Hid ((∀ z, o = some z → z = y) ∧ y.path = x.path) ∧ Below T w w'
theorem into_st {o : Option SrcB} {x : SrcB} {n T : Nat} {w : World} {e : Ending} {w' : World} (hp : ∀ z, o = some z → z.path = x.path) (h : RInto o x n T w e w') : RIntoSt o x n T w e w' := by
  obtain ⟨v, he, hv, hb⟩ := h
  have hv := hv.out
  cases o with
  | none =>
    obtain ⟨h1, h2⟩ := hv
    exact ⟨v, x, he, Or.inr ⟨rfl, h1⟩, h2, ⟨fun z hz => (by cases hz), rfl⟩, hb⟩
  | some y =>
    obtain ⟨h1, h2⟩ := hv
    exact ⟨v, y, he, Or.inl ⟨rfl, h1⟩, h2, ⟨fun z hz => (Option.some.inj hz).symm, hp y rfl⟩, hb⟩
theorem hostO_path {s : ByteArray} {x z : SrcB} (h : hostO s x = some z) : z.path = x.path := by
  unfold hostO at h
  split at h
  · rw [← Option.some.inj h]
  · split at h
    · rw [← Option.some.inj h]
    · cases h
theorem portO_path {s : ByteArray} {x z : SrcB} (h : portO s x = some z) : z.path = x.path := by
  unfold portO at h
  obtain ⟨n, _, hn⟩ := Option.map_eq_some_iff.1 h
  rw [← hn]
theorem host_st (s : ByteArray) (hs : s.size ≤ 1048576) (T : Nat) (x : SrcB) (w : World) (hE : Env w) (hT : SrcRow w T x) :
    Calls Tryz.prog 91 #[.string s, .pointer (some ⟨T, 0, none⟩)] w (RIntoSt (hostO s x) x 0 T w) := (host_any s hs T x w hE hT).mono fun _ _ h => into_st (fun _ hz => hostO_path hz) h
theorem port_st (s : ByteArray) (hs : s.size ≤ 1048576) (T : Nat) (x : SrcB) (w : World) (hE : Env w) (hT : SrcRow w T x) :
    Calls Tryz.prog 93 #[.string s, .pointer (some ⟨T, 0, none⟩)] w (RIntoSt (portO s x) x 1 T w) := (port_any s hs T x w hE hT).mono fun _ _ h => into_st (fun _ hz => portO_path hz) h

theorem hosted_spec (nm nu r : ByteArray) (y y1 y2 : SrcB) (ok2 gp : Bool) (hy : y = { srcZero with scheme := y.scheme, path := y.path }) (hnm : nm.data.toList = (Lib.cut r.data.toList [58]).1) (hnu : nu.data.toList = (Lib.cut r.data.toList [58]).2.1)
    (hok : (Lib.cut r.data.toList [58]).2.2 = ok2) (h1 : ∀ z, hostO nm y = some z → z = y1) (h2 : ok2 = true → ∀ z, portO nu y1 = some z → z = y2) (h3 : ok2 = false → y2 = y1) (hgp : (y.path.data.toList.isEmpty || Lz.allB Lz.isSeen y.path.data.toList) = gp) :
    Lz.hostedQ y.scheme.data.toList y.path.data.toList r.data.toList = if ((hostO nm y).isSome && (if ok2 then (portO nu y1).isSome else true)) && gp then some y2.src else none := by
  have hh : Lz.hostP nm.data.toList = (hostO nm y).map (fun z => (z.wild, z.host.data.toList)) := by
    unfold Lz.hostP hostO
    split
    · rw [hy]; rfl
    · split <;> rfl
  unfold Lz.hostedQ
  rw [← hnm, ← hnu, hh, hok, hgp]
  cases ho : hostO nm y with
  | none => rfl
  | some z =>
    have hz := h1 z ho
    subst hz
    have hz2 : z = { y with wild := z.wild, host := z.host } := by
      unfold hostO at ho
      split at ho
      · rw [← Option.some.inj ho]
      · split at ho
        · rw [← Option.some.inj ho]
        · cases ho
    cases ok2 with
    | false =>
      have h32 := h3 rfl
      subst h32
      simp only [Option.map_some, Option.isSome_some, Bool.true_and, Bool.false_eq_true, if_false]
      cases gp
      · rfl
      · simp only [if_true]
        rw [hz2, hy]
        rfl
    | true =>
      simp only [Option.map_some, Option.isSome_some, Bool.true_and, if_true]
      have hp : Lz.portP nu.data.toList = (portO nu z).map (·.port) := by
        unfold portO
        rw [Option.map_map]
        simp [Function.comp_def]
      rw [hp]
      cases hpo : portO nu z with
      | none => rfl
      | some q =>
        have hq := h2 rfl q hpo
        subst hq
        have hq2 : q = { z with port := q.port } := by
          unfold portO at hpo
          obtain ⟨n, _, hn⟩ := Option.map_eq_some_iff.1 hpo
          rw [← hn]
        simp only [Option.map_some, Option.isSome_some, Bool.true_and]
        cases gp
        · rfl
        · simp only [if_true]
          rw [hq2, hz2, hy]
          rfl

theorem extract_tail (s : ByteArray) (k : Nat) : (s.extract k s.size).data.toList = s.data.toList.drop k := by
  rw [Lib.extract_data, List.take_of_length_le (by rw [List.length_drop, len_of_size]; exact Nat.le_refl _)]
theorem extract_head (s : ByteArray) (k : Nat) : (s.extract 0 k).data.toList = s.data.toList.take k := by
  rw [Lib.extract_data]; rfl

theorem Bady.setRow {w : World} {R : Nat} {cs : Array Value} {t : TypeId} {fr : Nat × Nat} (hr : w.heap[R]? = some (.cells cs t fr)) (h0 : cs[0]? = some (.int .i64 0)) (cells : Array Value) : ∀ {n : Nat} {v : Value}, Bady w n v → Bady (w.setRow R cells) n v
  | 0, _, h => h
  | n + 1, v, h => by
    have hc : w.cell? ⟨R, 0, none⟩ = some (.int .i64 0) := by rw [cell_of_row w R 0 _ _ _ hr]; exact h0
    rcases h with h | ⟨p, g, len, cap, v0, h1, h2, h3, h4, h5, h6, h7, h8⟩
    · exact Or.inl (Bady.setRow hr h0 cells h)
    · have hpR : p ≠ R := by rintro rfl; rw [hc] at h4; cases h4
      have hgR : g ≠ R := by
        rintro rfl
        rw [hc] at h7
        obtain ⟨t, x, hx⟩ := h8.iface'
        rw [hx] at h7
        cases h7
      exact Or.inr ⟨p, g, len, cap, v0, h1, by rw [setRow_size]; exact h2, by rw [setRow_size]; exact h3, by rw [cell_setRow_other _ _ _ _ hpR]; exact h4, h5, h6, by rw [cell_setRow_other _ _ _ _ hgR]; exact h7, Bady.setRow hr h0 cells h8⟩
theorem rsrc_fin {o : Option Lz.Src} {gg : Bool} {y : SrcB} {v : Value} {w : World} {n R : Nat} {cs : Array Value} {t : TypeId} {fr : Nat × Nat} (hr : w.heap[R]? = some (.cells cs t fr)) (h0 : cs[0]? = some (.int .i64 0)) (cells : Array Value)
    (ho : o = if gg then some y.src else none) (hv : ErrSt w n gg v) : Hid (SrcRes o y (w.setRow R cells) n v) := by
  rcases hv with ⟨rfl, rfl⟩ | ⟨rfl, hb⟩
  · subst ho; exact ⟨rfl, rfl⟩
  · subst ho; exact hb.setRow hr h0 cells
theorem ErrSt.zero {w w' : World} {g : Bool} {v : Value} (h : ErrSt w 0 g v) : ErrSt w' 0 g v := h

theorem cut_sizes (s p : List UInt8) : (Lib.cut s p).1.length ≤ s.length ∧ (Lib.cut s p).2.1.length ≤ s.length := by
  unfold Lib.cut
  split
  · exact ⟨by simp [List.length_take]; omega, by simp [List.length_drop]⟩
  · simp

theorem IndexByte_47 (s : ByteArray) (w : World) : Calls Tryz.prog 90 #[.string s, .int .u8 47] w fun e w' => e = .returned (.int .i64 (Lib.indexByte s.data.toList 47)) ∧ w = w' := IndexByte_c s 47 w
theorem indexByte_lt (l : List UInt8) (c : UInt8) : Lib.indexByte l c < l.length := by
  induction l with
  | nil => unfold Lib.indexByte; simp
  | cons b l ih =>
    unfold Lib.indexByte
    split
    · simp
    · split
      · simp
        omega
      · simp
        omega

theorem alloc_two {w w1 : World} {o1 o2 : Obj} (hb : Below ((w.alloc o1).alloc o2).heap.size ((w.alloc o1).alloc o2) w1) : w1.heap[w.heap.size]? = some o1 ∧ w1.heap[w.heap.size + 1]? = some o2 := by
  have h1 : ((w.heap.push o1).push o2)[w.heap.size]? = some o1 := by
    rw [Array.getElem?_push, if_neg (by simp), Array.getElem?_push, if_pos rfl]
  have h2 : ((w.heap.push o1).push o2)[w.heap.size + 1]? = some o2 := by
    rw [Array.getElem?_push, if_pos (by simp)]
  exact ⟨(hb.block _ (by simp; omega)).trans h1, (hb.block _ (by simp)).trans h2⟩


/-- The rows of sources.hosted: the result's, of eight cells, and the source's own. -/
structure HRows (w wx : World) (x : SrcB) : Prop where
  row : ∃ cs : Array Value, cs.size = 8 ∧ cs[0]? = some (.int .i64 0) ∧ wx.heap[w.heap.size]? = some (.cells cs 28 (0, 0))
  src : SrcRow wx (w.heap.size + 1) x
  below : Below w.heap.size w wx
theorem HRows.call {w w1 w2 : World} {x : SrcB} (h : HRows w w1 x) (hb : Below w1.heap.size w1 w2) : HRows w w2 x := by
  obtain ⟨⟨cs, h1, h2, h3⟩, h4, h5⟩ := h
  exact ⟨⟨cs, h1, h2, by rw [hb.block _ (Array.getElem?_eq_some_iff.1 h3).1]; exact h3⟩, h4.below hb, below_call h5 hb⟩
theorem HRows.into {w w1 w2 : World} {x y : SrcB} (h : HRows w w1 x) (hb : Below (w.heap.size + 1) w1 w2) (hy : SrcRow w2 (w.heap.size + 1) y) : HRows w w2 y := by
  obtain ⟨⟨cs, h1, h2, h3⟩, h4, h5⟩ := h
  exact ⟨⟨cs, h1, h2, by rw [hb.block _ (by omega)]; exact h3⟩, hy, h5.trans (hb.mono (by omega))⟩
theorem HRows.drew {w w1 : World} {x : SrcB} (h : HRows w w1 x) : HRows w w1.drew x := ⟨h.row, h.src, h.below.drew⟩

/-- Behind the scheme. -/
def HRel1 (s : ByteArray) (w : World) (v : Value) (wx : World) : Prop :=
  ∃ (rest : ByteArray) (x : SrcB), v = .string rest ∧ rest.size ≤ 1048576 ∧ HRows w wx x ∧ Hid (Lz.hostedS s.data.toList = Lz.hostedP x.scheme.data.toList rest.data.toList ∧ x = { srcZero with scheme := x.scheme })
/-- Behind the path. -/
def HRel2 (s : ByteArray) (w : World) (v : Value) (wx : World) : Prop :=
  ∃ (r : ByteArray) (y : SrcB), v = .string r ∧ r.size ≤ 1048576 ∧ y.path.size ≤ 1048576 ∧ HRows w wx y ∧ Hid (Lz.hostedS s.data.toList = Lz.hostedQ y.scheme.data.toList y.path.data.toList r.data.toList ∧ y = { srcZero with scheme := y.scheme, path := y.path })
/-- Behind the port. -/
def HRel3 (s : ByteArray) (w : World) (v : Value) (wx : World) : Prop :=
  ∃ (gg : Bool) (y : SrcB), Hid (ErrSt wx 2 gg v) ∧ y.path.size ≤ 1048576 ∧ HRows w wx y ∧ Hid (∀ gp, (y.path.data.toList.isEmpty || Lz.allB Lz.isSeen y.path.data.toList) = gp → Lz.hostedS s.data.toList = if gg && gp then some y.src else none)
/-- Behind all. -/
def HRel4 (s : ByteArray) (w : World) (v : Value) (wx : World) : Prop :=
  ∃ (gg : Bool) (y : SrcB), Hid (ErrSt wx 3 gg v) ∧ HRows w wx y ∧ Hid (Lz.hostedS s.data.toList = if gg then some y.src else none)

set_option maxHeartbeats 4000000 in
set_option maxRecDepth 100000 in
theorem hosted_any (s : ByteArray) (hs : s.size ≤ 1048576) (w : World) (hE : Env w) : Calls Tryz.prog 47 #[.string s] w (RSrc (Lz.hostedS s.data.toList) 3 w) := by
  go_enter Tryz.func47, Tryz.ntmps47
  go_wp2_with fail
  have hx0 : Below w.heap.size w ((w.alloc (.cells #[.int .i64 0, .string ⟨#[]⟩, .int .i64 0, .string ⟨#[]⟩, .string ⟨#[]⟩, .bool false, .int .i64 0, .string ⟨#[]⟩] 28)).alloc (.cells srcZero.cells 28)) := ((Below.refl _ w).alloc (Nat.le_refl _) _).alloc (by simp) _
  refine (Cut_c s ⟨#[58, 47, 47]⟩ (by omega) _ (hE.below hx0)).mono ?_
  rintro e w1 ⟨hd, rest0, rfl, hhd, hrest, hb1⟩
  obtain ⟨hR0, hT1⟩ := alloc_two hb1
  have hx1 := below_call hx0 hb1
  have hH1 : HRows w w1 srcZero := ⟨⟨_, rfl, rfl, hR0⟩, hT1, hx1⟩
  clear hb1 hx0 hR0 hT1 hx1
  generalize hok : (Lib.cut s.data.toList (ByteArray.data ⟨#[58, 47, 47]⟩).toList).2.2 = ok
  have Hok := Lib.hid hok
  clear hok
  have hz := cut_sizes s.data.toList [58, 47, 47]
  have hhz : hd.size ≤ 1048576 := by rw [← len_of_size hd, hhd.out]; exact Nat.le_trans hz.1 (by rw [len_of_size]; exact hs)
  have hrz : rest0.size ≤ 1048576 := by rw [← len_of_size rest0, hrest.out]; exact Nat.le_trans hz.2 (by rw [len_of_size]; exact hs)
  clear hz
  have cS := Lib.hid (scheme_any hd (by omega) w1)
  generalize hsb : Lz.schemeB hd.data.toList = sb at cS
  have Hsb := Lib.hid hsb
  clear hsb
  go_upto_if 20 with fail
  go_cut [0] (fun s0 wx => HRel1 s w s0 wx)
  case first =>
    cases ok
    · go_wp2_with fail
      go_meet
      refine ⟨s, srcZero, rfl, hs, hH1, ?_, rfl⟩
      unfold Lz.hostedS
      have h1 : (Lib.cut s.data.toList [58, 47, 47]).2.2 = false := Hok.out
      simp only [h1]
      rfl
    · cases sb
      · obtain ⟨⟨cs, hcsz, hcs0, hR1⟩, hT1, hx1⟩ := hH1
        go_wp2_with (first | (go_at_call 45; refine (cS.out).mono ?_; rintro e w2 ⟨rfl, rfl⟩) | (refine store_src rfl _ _ rfl w.heap.size rfl rfl _ hR1 hcsz ?_))
        refine bodyPost_ret (results_src rfl _ _ w.heap.size ⟨0, ⟨#[]⟩, 0, ⟨#[]⟩, ⟨#[]⟩, false, 0, ⟨#[]⟩⟩ (0, 0) rfl (setRow_heap _ _ _ _ _ _ hR1)) rfl ⟨_, _, rfl, ?_, below_setRow hx1 (Nat.le_refl _) _⟩
        have hn : Lz.hostedS s.data.toList = none := by
          unfold Lz.hostedS
          have h1 : (Lib.cut s.data.toList [58, 47, 47]).2.2 = true := Hok.out
          have h2 : Lz.schemeB (Lib.cut s.data.toList [58, 47, 47]).1 = false := by rw [← Hsb.out, hhd.out]
          simp only [h1, h2, if_true]
          rfl
        rw [hn]
        exact Or.inl (Or.inl (Or.inl ⟨_, rfl⟩))
      · go_wp2_with fail
        refine (cS.out).mono ?_
        rintro e w2 ⟨rfl, rfl⟩
        go_wp2_with fail
        refine (Lower_c hd (by omega) _).mono ?_
        rintro e w2 ⟨u, rfl, hu, hb2⟩
        have hH2 := hH1.call hb2
        have hT2 := hH2.src
        have c3 := hT2.cell 3
        have f3 := hT2.free 3
        simp only [SrcB.cells] at c3
        simp at c3
        have hT3 := hT2.store (y := { srcZero with scheme := u }) 3 (.string u) (by rfl)
        have hH3 := hH2.into ((Below.refl (w.heap.size + 1) w2).setCell (p := ⟨w.heap.size + 1, 3, none⟩) (Nat.le_refl _) (.string u)) hT3
        clear hT2 hT3 hb2
        go_wp2_with fail
        go_meet
        refine ⟨rest0, { srcZero with scheme := u }, rfl, hrz, hH3, ?_, rfl⟩
        unfold Lz.hostedS
        have h1 : (Lib.cut s.data.toList [58, 47, 47]).2.2 = true := Hok.out
        have h2 : Lz.schemeB (Lib.cut s.data.toList [58, 47, 47]).1 = true := by rw [← Hsb.out, hhd.out]
        simp only [h1, h2, if_true]
        show _ = Lz.hostedP u.data.toList _
        rw [hu.out, hhd.out, hrest.out]
  case rest =>
    clear hH1 cS Hsb Hok hhd hrest hhz hrz
    obtain ⟨rest, x, rfl, hrz, hH1, HS⟩ := hcut
    go_wp2_with fail
    have cI := Lib.hid (IndexByte_47 rest wc)
    have hil := indexByte_lt rest.data.toList 47
    rw [len_of_size] at hil
    generalize hi : Lib.indexByte rest.data.toList 47 = i at cI hil
    have Hi := Lib.hid hi
    clear hi
    refine (cI.out).mono ?_
    rintro e w2 ⟨rfl, rfl⟩
    go_upto_if 33 with fail
    go_cut [0] (fun s0 wx => HRel2 s w s0 wx)
    case first =>
      by_cases hi0 : 0 ≤ i
      · obtain ⟨k, rfl⟩ : ∃ k : Nat, i = k := ⟨i.toNat, by omega⟩
        have hT1 := hH1.src
        have c7 := hT1.cell 7
        have f7 := hT1.free 7
        simp only [SrcB.cells] at c7
        simp at c7
        have hT2 := hT1.store (y := { x with path := rest.extract k rest.size }) 7 (.string (rest.extract k rest.size)) (by rfl)
        have hH2 := (hH1.into ((Below.refl (w.heap.size + 1) wc).setCell (p := ⟨w.heap.size + 1, 7, none⟩) (Nat.le_refl _) (.string (rest.extract k rest.size))) hT2).drew
        clear hT2 hT1
        go_wp2
        go_region
        go_wp2_with fail
        go_meet
        refine ⟨rest.extract 0 k, { x with path := rest.extract k rest.size }, rfl, Nat.le_trans (extract_size_le _ _ _) hrz, Nat.le_trans (extract_size_le _ _ _) hrz, hH2, ?_, by rw [HS.out.2]⟩
        rw [HS.out.1]
        unfold Lz.hostedP
        rw [Hi.out, if_pos (by omega)]
        show _ = Lz.hostedQ x.scheme.data.toList (rest.extract k rest.size).data.toList _
        rw [extract_tail, extract_head]
        rfl
      · have hi1 : i < 0 := by omega
        go_wp2_with fail
        go_meet
        have h2 := HS.out.2
        refine ⟨rest, x, rfl, hrz, by rw [h2]; exact Nat.zero_le _, hH1, ?_, by rw [h2]⟩
        rw [HS.out.1]
        unfold Lz.hostedP
        rw [Hi.out, if_neg (by omega)]
        rw [h2]
        rfl
    case rest =>
      clear hH1 Hi cI hil HS hrz
      obtain ⟨r, y, rfl, hqz, hyz, hH2, HQ⟩ := hcut
      rename_i w3
      go_wp2_with fail
      refine (Cut_c r ⟨#[58]⟩ (by omega) _ (hE.below hH2.below)).mono ?_
      rintro e w4 ⟨nm, nu, rfl, hnm, hnu, hb4⟩
      generalize hok : (Lib.cut r.data.toList (ByteArray.data ⟨#[58]⟩).toList).2.2 = ok2
      have Hok2 := Lib.hid hok
      clear hok
      have hz := cut_sizes r.data.toList [58]
      have hnmz : nm.size ≤ 1048576 := by rw [← len_of_size nm, hnm.out]; exact Nat.le_trans hz.1 (by rw [len_of_size]; exact hqz)
      have hnuz : nu.size ≤ 1048576 := by rw [← len_of_size nu, hnu.out]; exact Nat.le_trans hz.2 (by rw [len_of_size]; exact hqz)
      clear hz
      have hH4 := hH2.call hb4
      clear hH2 hb4
      go_wp2_with fail
      refine (host_st nm hnmz (w.heap.size + 1) y w4 (hE.below hH4.below) hH4.src).mono ?_
      rintro e w5 ⟨v1, y1, rfl, hv1, hT5, hy1, hb5⟩
      have hH5 := hH4.into hb5 hT5
      clear hH4 hb5 hT5
      go_upto_if 49 with fail
      go_cut [12] (fun s12 wx => HRel3 s w s12 wx)
      case first =>
        cases ok2
        · go_wp2_with fail
          go_meet
          refine ⟨(hostO nm y).isSome, y1, hv1.out.succ.succ, by rw [hy1.out.2]; exact hyz, hH5, fun gp hgp => ?_⟩
          rw [HQ.out.1, hosted_spec nm nu r y y1 y1 false gp HQ.out.2 hnm.out hnu.out Hok2.out hy1.out.1 (fun h => by cases h) (fun _ => rfl) (by rw [← hy1.out.2]; exact hgp)]
          simp only [Bool.false_eq_true, if_false, Bool.and_true]
        · go_wp2_with fail
          refine (port_st nu hnuz (w.heap.size + 1) y1 w5 (hE.below hH5.below) hH5.src).mono ?_
          rintro e w6 ⟨v2, y2, rfl, hv2, hT6, hy2, hb6⟩
          have hH6 := hH5.into hb6 hT6
          have f1 := hv1.out.form
          have f2 := hv2.out.form
          clear hH5 hb6 hT6
          rcases f1 with rfl | ⟨t1, q1, rfl⟩ <;> rcases f2 with rfl | ⟨t2, q2, rfl⟩
          all_goals
            go_wp2_with fail
            refine (Join_st w6.heap.size 1 _ _ _ _ _ hv1.out.zero.succ (hv2.out.below ((Below.refl _ w6).alloc (Nat.le_refl _) _)) (by simp) (by simp)).mono ?_
            rintro e w7 ⟨v3, rfl, hv3, hb7⟩
            have hH7 := hH6.call (((Below.refl _ w6).alloc (Nat.le_refl _) _).trans (hb7.mono (by simp)))
            clear hb7
            go_wp2_with fail
            go_meet
            refine ⟨_, y2, hv3.out, by rw [hy2.out.2, hy1.out.2]; exact hyz, hH7, fun gp hgp => ?_⟩
            rw [HQ.out.1]
            exact hosted_spec nm nu r y y1 y2 true gp HQ.out.2 hnm.out hnu.out Hok2.out hy1.out.1 (fun _ => hy2.out.1) (fun h => by cases h) (by rw [← hy1.out.2, ← hy2.out.2]; exact hgp)
      case rest =>
        clear hH5 hv1 hy1 Hok2 hnm hnu hnmz hnuz HQ hyz hqz
        obtain ⟨gg, y2, hv3, hy2p, hH7, HF⟩ := hcut
        have hT7 := hH7.src
        have c7 := hT7.cell 7
        have f7 := hT7.free 7
        simp only [SrcB.cells] at c7
        simp at c7
        have cP := Lib.hid (fun w => all_any pred_seen y2.path (by omega) w)
        generalize hsn : Lz.allB Lz.isSeen y2.path.data.toList = sn at cP
        have Hsn := Lib.hid hsn
        clear hsn hT7
        obtain ⟨gp, hgp⟩ : ∃ gp, gp = (y2.path.data.toList.isEmpty || sn) := ⟨_, rfl⟩
        have Hgp := Lib.hid hgp
        clear hgp
        go_upto_region 14 with fail
        go_cut [63] (fun s63 wx => s63 = .bool (!gp) ∧ HRows w wx y2 ∧ Hid (ErrSt wx 2 gg u12))
        case first =>
          by_cases hp0 : 0 < y2.path.size
          · have he := isEmpty_of_pos hp0
            have hge : gp = sn := by rw [Hgp.out]; rw [Lib.toList_data] at he; rw [he]; rfl
            subst hge
            go_wp2_with (go_at_call 86; refine (cP.out _).mono ?_; rintro e w8 ⟨rfl, rfl⟩)
            go_meet
            exact ⟨rfl, hH7, hv3⟩
          · have he := isEmpty_of_size (show y2.path.size = 0 by omega)
            have hge : gp = true := by rw [Hgp.out]; rw [Lib.toList_data] at he; rw [he]; rfl
            subst hge
            go_wp2_with (go_at_call 86; refine (cP.out _).mono ?_; rintro e w8 ⟨rfl, rfl⟩)
            go_meet
            exact ⟨rfl, hH7, hv3⟩
        case rest =>
          clear hH7 hv3 c7 f7 cP
          obtain ⟨rfl, hH7, hv3⟩ := hcut
          go_upto_if 63 with fail
          go_cut [12] (fun s12 wx => HRel4 s w s12 wx)
          case first =>
            have HG := HF.out gp (by rw [Hsn.out, Hgp.out])
            have HG := Lib.hid HG
            clear HF
            cases gp
            · have f3 := hv3.out.form
              rcases f3 with rfl | ⟨t3, q3, rfl⟩
              all_goals
                go_wp2_with fail
                refine (Join_st _ 2 _ false _ (.iface 58 (.string ⟨#[112, 97, 116, 104]⟩)) _ (hv3.out.below ((Below.refl _ _).alloc (Nat.le_refl _) _)) (Or.inr ⟨rfl, Or.inl (Or.inl ⟨_, rfl⟩)⟩) (by simp) (by simp)).mono ?_
                rintro e w8 ⟨v4, rfl, hv4, hb8⟩
                have hH8 := hH7.call (((Below.refl _ _).alloc (Nat.le_refl _) _).trans (hb8.mono (by simp)))
                clear hb8 hH7 hv3
                go_wp2_with fail
                go_meet
                exact ⟨_, y2, hv4.out, hH8, HG.out⟩
            · go_wp2_with fail
              go_meet
              exact ⟨gg, y2, hv3.out.succ, hH7, by have h := HG.out; rw [Bool.and_true] at h; exact h⟩
          case rest =>
            clear hH7 hv3 HF Hgp Hsn
            obtain ⟨gg, y3, hv4, hH9, HG⟩ := hcut
            obtain ⟨⟨cs, hcsz, hcs0, hR9⟩, hT9, hx9⟩ := hH9
            have Hcs0 := Lib.hid hcs0
            have Hv := Lib.hid hv4
            clear hcs0
            have hTl : _ = some (Obj.cells #[.int .i64 y3.kind, .string y3.text, .int .i64 y3.bits, .string y3.scheme, .string y3.host, .bool y3.wild, .int .i64 y3.port, .string y3.path] 28 (0, 0)) := hT9
            clear hT9
            go_wp2_with (first | (refine wpList_load_row rfl 28 _ rfl (w.heap.size + 1) rfl 28 _ (0, 0) _ hTl Tryz.underlying28 rfl srcSize ?_) | (refine store_src rfl _ _ rfl w.heap.size rfl rfl _ hR9 hcsz ?_))
            refine bodyPost_ret (results_src (u := 3) rfl _ _ w.heap.size y3 (0, 0) rfl (setRow_heap _ _ _ _ _ _ hR9)) rfl ⟨y3, _, rfl, rsrc_fin hR9 Hcs0.out _ HG.out hv4.out, below_setRow hx9 (Nat.le_refl _) _⟩
end Go.Proofs.YtkaejkjheajaaaaGreatDoor
