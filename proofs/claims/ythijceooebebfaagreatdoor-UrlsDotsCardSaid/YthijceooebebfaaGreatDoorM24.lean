/-
  strings.NewReplacer of three bytes that fall away: built.
  The contracts of the library that the walks of this seat lean on, at this dump: each one application of a summary that the kit proves.
  strings.Count at one byte.
-/
import Derived.Test.YthijceooebebfaaGreatDoorM23
import Derived.Test.YthijceooebebfaaGreatDoorM22
import Derived.Test.YthijceooebebfaaGreatDoorM11
import Derived.Test.YthijceooebebfaaGreatDoorM05
import Derived.Test.YthijceooebebfaaGreatDoorM02
import Derived.Shelf.Strings.Builder1
import Derived.Shelf.Strings.Builder2
import Derived.Shelf.Strings.OnBuilder
import Derived.Shelf.Strings.Trim
import Derived.Shelf.Small.Utf8
import Derived.Shelf.Small.Strs
import Derived.Shelf.Strings.BuilderF
import Derived.Shelf.Strings.BuilderK
import Derived.Shelf.Strconv.Itoa0
import Derived.Shelf.Strconv.Itoa1
import Derived.Shelf.LaysM
import Derived.Shelf.Strconv.Itoa2
import Derived.Shelf.Strconv.Itoa3
import Derived.Shelf.Strconv.Itoa4
import Derived.Shelf.Strconv.Clone
import Derived.Shelf.Strconv.SyntaxError
import Derived.Shelf.LaysC
import Derived.Shelf.Strconv.ToError
import Derived.Shelf.Strconv.Lower
import Derived.Shelf.Strconv.ParseUint10
import Derived.Shelf.Strconv.ParseUint10Empty
import Derived.Shelf.Strconv.ParseUint10Any
import Derived.Shelf.Strconv.RangeError
import Derived.Shelf.Strconv.ToErrorRange
import Derived.Ground.MpProg
import Derived.Shelf.Pu.ParseUintPublic10
import Derived.Shelf.Pu.ErrVarParseUint
import Derived.Shelf.Strings.Search1
import Derived.Shelf.Strings.Search2
import Derived.Shelf.Strings.Search3
import Derived.Shelf.Strings.Cut
import Derived.Shelf.Strings.Count
import Derived.Shelf.Strings.Shaped
import Derived.Shelf.GgClosure.StringsIndexFunc
import Derived.Shelf.GgClosure.StringsTrimFunc
import Derived.Ground.GgwProg
import Derived.Shelf.GgClosure.StringsIndexFuncTop
import Derived.Shelf.GgClosure.StringsRunes
import Derived.Shelf.Strings.Prefix
import Derived.Shelf.Strings.Split
import Derived.Shelf.Strings.Replace
import Derived.Shelf.Strings.SplitShaped
import Derived.Shelf.Strings.Runes
import Derived.Shelf.Strings.IndexAny
import Derived.Shelf.Strings.AsciiSet
import Derived.Shelf.Strings.IndexAnyAll
import Derived.Shelf.Unicode.DecodeSlow
import Derived.Shelf.Unicode.DecodeAny
import Derived.Shelf.Unicode.DecodeLast
import Derived.Shelf.Strings.FuncGrows
import Derived.Test.YthijceooebebfaaGreatDoorProg
import Derived.Test.YthijceooebebfaaGreatDoorM20
namespace Go.Proofs.YthijceooebebfaaGreatDoor
open Go.RowKit

theorem bsZero : Tryz.zeroCells187 = Array.replicate 257 (.slice none 0 0) := by kernel_rfl
/-- What is built of an empty replacer: 257 cells. -/
noncomputable def bsZ (v : Value) : Array Value := Tryz.zeroCells187.setIfInBounds 256 v
theorem bsZ_size (v : Value) : (bsZ v).size = 257 := by unfold bsZ; rw [bsZero]; simp
theorem bsZ_lo (v : Value) (k : Nat) (hk : k < 256) : (bsZ v)[k]? = some (.slice none 0 0) := by
  unfold bsZ
  rw [bsZero, Array.getElem?_setIfInBounds_ne (by omega), Array.getElem?_replicate, if_pos (by omega)]
theorem bsZ_hi (v : Value) : (bsZ v)[256]? = some v := by
  unfold bsZ
  rw [bsZero, Array.getElem?_setIfInBounds_self_of_lt (by simp)]
theorem bsZ_all (a : Option Addr) (n c : Nat) : (bsZ (.slice a n c)).all (·.oneCell') = true := by
  rw [Array.all_eq_true']
  intro x hx
  obtain ⟨k, hk⟩ := Array.mem_iff_getElem?.1 hx
  have hkl : k < 257 := by have := (Array.getElem?_eq_some_iff.1 hk).1; rw [bsZ_size] at this; exact this
  rcases Nat.lt_or_ge k 256 with h | h
  · rw [bsZ_lo _ _ h] at hk; rw [← Option.some.inj hk]; rfl
  · obtain rfl : k = 256 := by omega
    rw [bsZ_hi] at hk; rw [← Option.some.inj hk]; rfl
theorem bsSize : (Tryz.prog.info? 187).map (·.size) = some 257 := by kernel_rfl
/-- What is replaced, and by what. -/
def rsB : List ByteArray := [⟨#[9]⟩, ⟨#[]⟩, ⟨#[10]⟩, ⟨#[]⟩, ⟨#[13]⟩, ⟨#[]⟩]
/-- A replacer that is not built yet. -/
def RNew (B : Nat) (w : World) (e : Ending) (w' : World) : Prop := ∃ b G c, e = .returned (.pointer (some ⟨b, 0, none⟩)) ∧ B ≤ b ∧ RepRow w' b 0 0 0 .nilIface (.slice (some ⟨G, 0, none⟩) 6 c) ∧ w'.ownsRow B 9 1 (.slice (some ⟨G, 0, none⟩) 6 c) 6 (rsB.map Value.string) ∧ Below w.heap.size w w'
set_option maxHeartbeats 1000000 in
set_option maxRecDepth 100000 in
theorem NewR_any (B : Nat) (p : Addr) (c : Nat) (w : World) (hB : B ≤ w.heap.size) (hc : ∀ (j : Nat) (u : Value), (rsB.map Value.string)[j]? = some u → w.cell? (p.add j) = some u) :
    Calls Tryz.prog 61 #[.slice (some p) 6 c] w (RNew B w) := by
  obtain ⟨i0, hi, hz0, hz1, hz2⟩ := info_parts infoTxt
  have Hc := Lib.hid hc
  clear hc
  go_enter Tryz.func61, Tryz.ntmps61
  go_wp2_with (at_builtin; refine wpList_append_own _ rfl (.const (.slice none 0 0)) (.tmp 8) 25 rfl B 9 i0 (.string ⟨#[]⟩) 1 16 Tryz.underlying25 hi hz0 hz1 hz2 rfl (by decide) _ 0 [] rfl (World.ownsRow_nil _ B _ _) p 6 c (rsB.map Value.string) rfl rfl Hc.out (by decide) (by unfold maxLen; omega) (by omega) (by omega) ?_)
  intro v' w' hown hg hnil
  have hb : Below w.heap.size w w' := (Below.refl _ w).grown hg (Nat.le_refl _) (fun k hk => by simp [Value.ownBlock] at hk)
  have hP : PathOwn w' B v' rsB := .inl hown
  obtain ⟨a', c', hv', _, hcells⟩ := hP.form
  have hv2 : v' = .slice a' 6 c' := hv'
  subst hv2
  obtain ⟨G, off, rfl, _, _⟩ := hcells 0 ⟨#[9]⟩ rfl
  have hoff : off = 0 := by
    rcases hown.2 with ⟨h, _⟩ | ⟨g, cap, cur, h, _⟩
    · cases h
    · injection h with h _ _; injection h with h; injection h with h1 h2 _
  subst hoff
  have Hown : Hid (w'.ownsRow B 9 1 (.slice (some ⟨G, 0, none⟩) 6 c') 6 (rsB.map Value.string)) := Lib.hid hown
  have hwz := hb.size
  clear hown hg hP hcells hnil hv'
  go_wp2_with fail
  go_ret
  refine ⟨_, G, c', rfl, by omega, ?_, Hown.out.alloc _, below_call hb ((Below.refl _ _).alloc (Nat.le_refl _) _)⟩
  show (w'.heap.push _)[w'.heap.size]? = _
  simp

theorem conv_one (w : World) (o : UInt8) : (convert 35 9 (.slice (some ⟨w.heap.size, 0, none⟩) 1 1)).run Tryz.prog (w.alloc (.cells #[.int .u8 (o.toNat : Int)] 5)) = .ok (.string ⟨#[o]⟩) (w.alloc (.cells #[.int .u8 (o.toNat : Int)] 5)) := by
  refine run_convert_bytes_back (P := Tryz.prog) _ 35 9 5 ⟨w.heap.size, 0, none⟩ 1 [o] Tryz.underlying35 Tryz.underlying5 Tryz.underlying9 ?_
  intro j hj
  have hj0 : j = 0 := by simpa using hj
  subst hj0
  exact cell_one w (.int .u8 (o.toNat : Int)) 5 0 _ rfl
theorem idx13 (W : World) : (Instr.index 9 (.string ⟨#[13]⟩) (.int .i64 0)).run Tryz.prog W = .ok (.int .u8 13) W := by kernel_rfl
theorem idx10 (W : World) : (Instr.index 9 (.string ⟨#[10]⟩) (.int .i64 0)).run Tryz.prog W = .ok (.int .u8 10) W := by kernel_rfl
theorem idx9 (W : World) : (Instr.index 9 (.string ⟨#[9]⟩) (.int .i64 0)).run Tryz.prog W = .ok (.int .u8 9) W := by kernel_rfl
theorem bytes_none (w : World) : ∃ (cap : Nat) (w' : World), (convert 9 35 (.string ⟨#[]⟩)).run Tryz.prog w = .ok (.slice (some ⟨w.heap.size, 0, none⟩) 0 cap) w' ∧ Below w.heap.size w w' :=
  ⟨_, _, run_bytes_of_string (P := Tryz.prog) w 9 35 5 ⟨#[]⟩ Tryz.underlying9 Tryz.underlying35 Tryz.underlying5, (Below.refl _ w).drew.alloc (Nat.le_refl _) _⟩
def doneQ (m k : Nat) : Prop := (k = 13 ∧ m ≤ 2) ∨ (k = 10 ∧ m ≤ 1) ∨ (k = 9 ∧ m = 0)
def toB : List ByteArray := [⟨#[13]⟩, ⟨#[10]⟩, ⟨#[9]⟩]
structure BsAt (B g m : Nat) (wr : World) (cs : Array Value) (T : Nat) : Prop where
  row : wr.heap[g]? = some (.cells cs 187 (0, 0))
  size : cs.size = 257
  hit : ∀ k, k < 256 → doneQ m k → ∃ A c, cs[k]? = some (.slice (some A) 0 c)
  miss : ∀ k, k < 256 → ¬ doneQ m k → cs[k]? = some (.slice none 0 0)
  last : cs[256]? = some (.slice (some ⟨T, 0, none⟩) (3 - m) 3)
  own : wr.ownsRow B 9 1 (.slice (some ⟨T, 0, none⟩) (3 - m) 3) (3 - m) ((toB.take (3 - m)).map Value.string)
def BsLoop (B g : Nat) (w : World) (i : Value) (wr : World) : Prop := ∃ m : Nat, m ≤ 3 ∧ i = .int .i64 (2 * (m : Int) - 2) ∧ Below B w wr ∧ ∃ cs T, BsAt B g m wr cs T
def RBuild (w : World) (e : Ending) (w' : World) : Prop := ∃ g, e = .returned (.iface 188 (.pointer (some ⟨g, 0, none⟩))) ∧ Below w.heap.size w w' ∧ BsRep w' g
set_option maxHeartbeats 4000000 in
set_option maxRecDepth 100000 in
theorem build_any (B b : Nat) (e : Int) (G c : Nat) (w : World) (hr : RepRow w b 0 1 e .nilIface (.slice (some ⟨G, 0, none⟩) 6 c)) (hown : w.ownsRow B 9 1 (.slice (some ⟨G, 0, none⟩) 6 c) 6 (rsB.map Value.string)) :
    Calls Tryz.prog 134 #[.pointer (some ⟨b, 0, none⟩)] w (RBuild w) := by
  obtain ⟨i0, hi, hz0, hz1, hz2⟩ := info_parts infoTxt
  have r4 := rowAt hr 4 (.slice (some ⟨G, 0, none⟩) 6 c) rfl
  have hGc : ∀ k x, rsB[k]? = some x → w.cell? ⟨G, k, none⟩ = some (.string x) := fun k x hk => by
    have := hown.cells (g := G) rfl k (.string x) (by rw [List.getElem?_map, hk]; rfl)
    rw [addr_add] at this; exact this
  have o0 := hGc 0 ⟨#[9]⟩ rfl
  have o1 := hGc 1 ⟨#[]⟩ rfl
  have o2 := hGc 2 ⟨#[10]⟩ rfl
  have o3 := hGc 3 ⟨#[]⟩ rfl
  have o4 := hGc 4 ⟨#[13]⟩ rfl
  have o5 := hGc 5 ⟨#[]⟩ rfl
  have hGl : G < w.heap.size := World.block_lt_of_cell? _ _ o0
  have hYs : Tryz.zeroCells187.size = 257 := by rw [bsZero]; simp
  have HGc := Lib.hid hGc
  have HYs := Lib.hid hYs
  clear hown hr hGc hYs
  go_enter Tryz.func134, Tryz.ntmps134
  go_wp2_with fail
  refine wp_loop_rounds 4 ?_
  rw [rounds_succ]
  go_wp2_with fail
  rw [rounds_succ]
  go_wp2_with fail
  rw [rounds_succ]
  go_wp2_with fail
  rw [rounds_succ]
  clear o0 o1 o2 o3 o4 o5 r4
  go_upto_region 26 with fail
  go_wp2_with (refine wpList_make_own _ rfl (.const (.int .i64 0)) (.tmp 93) 25 rfl w.heap.size 9 i0 (.string ⟨#[]⟩) 1 Tryz.underlying25 hi hz0 hz1 .i64 .i64 3 3 rfl rfl rfl (by rw [hz2]; omega) (by decide) (Nat.le_refl _) ?_)
  intro w1 hown1 hg1
  have hb1 : Below w.heap.size w w1 := (Below.refl _ w).grown hg1 (Nat.le_refl _) (fun k hk => by cases hk)
  have Hown1 := Lib.hid hown1
  have hw1 := hb1.size
  clear hown1 hg1
  go_wp2_with (refine wpList_store_row rfl 187 (.tmp 11) (.tmp 95) rfl w1.heap.size (bsZ (.slice (some ⟨w.heap.size, 0, none⟩) 0 3)) rfl rfl 187 Tryz.zeroCells187 (by show (w1.heap.push _)[w1.heap.size]? = _; simp) (by rw [bsZ_size]; exact bsSize) (by rw [HYs.out, bsZ_size]) (bsZ_all _ _ _) ?_)
  obtain ⟨Y, hY⟩ : ∃ Y, Y = Tryz.zeroCells187 := ⟨_, rfl⟩
  rw [← hY]
  obtain ⟨Z, hZ⟩ : ∃ Z, Z = bsZ (.slice (some ⟨w.heap.size, 0, none⟩) 0 3) := ⟨_, rfl⟩
  rw [← hZ]
  have HZ := Lib.hid hZ
  have hR1 : ((w1.alloc (.cells Y 187)).setRow w1.heap.size Z).heap[w1.heap.size]? = some (.cells Z 187 (0, 0)) := setRow_heap _ _ Y _ _ _ (by show (w1.heap.push _)[w1.heap.size]? = _; simp)
  have hgr : (w1.alloc (.cells Y 187)).grownBy ((w1.alloc (.cells Y 187)).setRow w1.heap.size Z) (some w1.heap.size) := ⟨rfl, rfl, rfl, by simp, fun k _ hk => setRow_other _ _ _ _ (fun e => hk (by rw [e]))⟩
  have hb2 : Below w.heap.size w ((w1.alloc (.cells Y 187)).setRow w1.heap.size Z) := (hb1.alloc hw1 _).grown hgr (by simp; omega) (fun k hk => by injection hk with hk; omega)
  have hown2 := (Hown1.out.alloc (.cells Y 187)).kept hgr (.inr (by simp [Value.ownBlock]; have := Hown1.out.lt w.heap.size rfl; omega))
  generalize (w1.alloc (.cells Y 187)).setRow w1.heap.size Z = w2 at hR1 hb2 hown2 ⊢
  have HB2 := Lib.hid hb2
  have HR1 := Lib.hid hR1
  have HO2 := Lib.hid hown2
  clear hgr hb1 hb2 hR1 hown2 Hown1 hZ hY
  go_wp2_with fail
  go_loopw [12] (fun i wr => BsLoop w.heap.size w1.heap.size w i wr) (fun i _ => (intOf i + 2).toNat)
  case atStart =>
    refine ⟨3, by omega, rfl, HB2.out, Z, w.heap.size, HR1.out, by rw [HZ.out]; exact bsZ_size _, fun k hk h => ?_, fun k hk _ => by rw [HZ.out]; exact bsZ_lo _ k hk, by rw [HZ.out]; exact bsZ_hi _, HO2.out⟩
    unfold doneQ at h; omega
  case round =>
    obtain ⟨m, hm, rfl, hbw, cs, T, hA⟩ := hrel
    obtain ⟨g0, hg0⟩ : ∃ g0, g0 = w1.heap.size := ⟨_, rfl⟩
    rw [← hg0] at hA
    have hg0w : w.heap.size ≤ g0 := by rw [hg0]; exact hw1
    obtain rfl | rfl | rfl | rfl : m = 3 ∨ m = 2 ∨ m = 1 ∨ m = 0 := by omega
    · rw [← hg0]
      clear hg0
      have oc : wr.cell? ⟨G, 4, none⟩ = some (.string ⟨#[13]⟩) := by rw [hbw.cell (p := ⟨G, 4, none⟩) hGl]; exact HGc.out 4 ⟨#[13]⟩ rfl
      have oe : wr.cell? ⟨G, 5, none⟩ = some (.string ⟨#[]⟩) := by rw [hbw.cell (p := ⟨G, 5, none⟩) hGl]; exact HGc.out 5 ⟨#[]⟩ rfl
      have cg := rowAt hA.row 13 (.slice none 0 0) (hA.miss 13 (by decide) (by unfold doneQ; omega))
      have c256 := rowAt hA.row 256 (.slice (some ⟨T, 0, none⟩) 0 3) hA.last
      have hnil := fun W : World => Lib.run_eql_slice_nil (P := Tryz.prog) W 35 5 none 0 0 0 0 Tryz.underlying35
      have hidx := fun W : World => idx13 W
      have hconv : (convert 35 9 (.slice (some ⟨wr.heap.size, 0, none⟩) 1 1)).run Tryz.prog (wr.alloc (.cells #[.int .u8 13] 5)) = .ok (.string ⟨#[13]⟩) (wr.alloc (.cells #[.int .u8 13] 5)) := conv_one wr 13
      have hT : T < wr.heap.size := (hA.own.lt T rfl).2
      have hTg : ¬ g0 = T := fun e => by
        rcases hA.own.2 with ⟨h, _⟩ | ⟨g1, cap, cur, h, _, hh, _⟩
        · cases h
        · injection h with h _ _; injection h with h; injection h with h1 _ _
          rw [← h1, ← e, hA.row] at hh
          injection hh with hh
          injection hh with _ h2 _
          exact absurd h2 (by decide)
      have hoa := (hA.own.alloc (.cells #[.int .u8 13] 5)).alloc (.cells #[.string ⟨#[13]⟩] 9)
      have HA := Lib.hid hA
      have Hoa := Lib.hid hoa
      have hbsz := hbw.size
      clear hA hoa
      go_wp2_with (at_builtin; refine wpList_append_fits _ rfl (.tmp 119) (.tmp 123) 25 rfl w.heap.size 9 i0 1 Tryz.underlying25 hi hz1 T 0 3 _ rfl Hoa.out ⟨wr.heap.size + 1, 0, none⟩ 1 1 [.string ⟨#[13]⟩] rfl rfl (fun j u hj => by have := cell_one (wr.alloc (.cells #[.int .u8 13] 5)) (.string ⟨#[13]⟩) 9 j u hj; simpa using this) (by simp [Value.oneCell']) (by omega) ?_)
      intro w3 hown3 hg3
      have hg0l : g0 < wr.heap.size := row_lt HA.out.row
      have hR3 : w3.heap[g0]? = some (.cells cs 187 (0, 0)) := by
        rw [hg3.block g0 (by simp; omega) (fun e => hTg (by injection e)), Below.heap_alloc _ _ _ (by simp; omega), Below.heap_alloc _ _ _ hg0l]
        exact HA.out.row
      have hb3 : Below w.heap.size w w3 := ((hbw.alloc hbsz _).alloc (by simp; omega) _).grown hg3 (by simp; omega) (fun k hk => by injection hk with hk; subst hk; exact (HA.out.own.lt _ rfl).1)
      have d256 := rowAt hR3 256 _ HA.out.last
      have z256 := rowFz hR3 256
      have hg0b : w.heap.size ≤ g0 := hg0w
      have hb4 : Below w.heap.size w (w3.setCell ⟨g0, 256, none⟩ (.slice (some ⟨T, 0, none⟩) 1 3)) := hb3.setCell (p := ⟨g0, 256, none⟩) hg0b _
      have hR4 : (w3.setCell ⟨g0, 256, none⟩ (.slice (some ⟨T, 0, none⟩) 1 3)).heap[g0]? = some (.cells (cs.setIfInBounds 256 (.slice (some ⟨T, 0, none⟩) 1 3)) 187 (0, 0)) := rowSet hR3 256 _ rfl
      have hown4 := hown3.kept (grown_setCell w3 ⟨g0, 256, none⟩ (.slice (some ⟨T, 0, none⟩) 1 3)) (.inr (by simp [Value.ownBlock]; exact fun e => hTg e.symm))
      have Hown4 := Lib.hid hown4
      have HR4 := Lib.hid hR4
      have HB4 := Lib.hid hb4
      clear hown3 hg3 hR3 hb3 hown4 hR4 hb4 hconv oc oe cg c256
      go_upto_region 34 with fail
      generalize w3.setCell ⟨g0, 256, none⟩ (.slice (some ⟨T, 0, none⟩) 1 3) = w4 at Hown4 HR4 HB4 ⊢
      have hg4 : g0 < w4.heap.size := row_lt HR4.out
      obtain ⟨cap, w5, kb, hb5⟩ := bytes_none w4
      have hR5 : w5.heap[g0]? = _ := (hb5.block g0 hg4).trans HR4.out
      have hown5 := own_below Hown4.out hb5
      have c5 := rowAt hR5 13 (.slice none 0 0) (by rw [Array.getElem?_setIfInBounds_ne (by omega)]; exact HA.out.miss 13 (by decide) (by unfold doneQ; omega))
      have f5 := rowFz hR5 13
      have hR6 : (w5.setCell ⟨g0, 13, none⟩ (.slice (some ⟨w4.heap.size, 0, none⟩) 0 cap)).heap[g0]? = some (.cells ((cs.setIfInBounds 256 (.slice (some ⟨T, 0, none⟩) 1 3)).setIfInBounds 13 (.slice (some ⟨w4.heap.size, 0, none⟩) 0 cap)) 187 (0, 0)) := rowSet hR5 13 _ rfl
      have hb6 : Below w.heap.size w (w5.setCell ⟨g0, 13, none⟩ (.slice (some ⟨w4.heap.size, 0, none⟩) 0 cap)) := (HB4.out.trans (hb5.mono HB4.out.size)).setCell (p := ⟨g0, 13, none⟩) hg0b _
      have hown6 := hown5.kept (grown_setCell w5 ⟨g0, 13, none⟩ (.slice (some ⟨w4.heap.size, 0, none⟩) 0 cap)) (.inr (by simp [Value.ownBlock]; exact fun e => hTg e.symm))
      have HF : Hid (BsLoop w.heap.size g0 w (.int .i64 2) (w5.setCell ⟨g0, 13, none⟩ (.slice (some ⟨w4.heap.size, 0, none⟩) 0 cap))) := by
        refine ⟨2, by omega, rfl, hb6, _, T, hR6, by simp [HA.out.size], fun k hk h => ?_, fun k hk h => ?_, ?_, hown6⟩
        · by_cases h13 : k = 13
          · exact ⟨⟨w4.heap.size, 0, none⟩, cap, by rw [h13, Array.getElem?_setIfInBounds_self_of_lt (by simp [HA.out.size])]⟩
          · rw [Array.getElem?_setIfInBounds_ne (by omega), Array.getElem?_setIfInBounds_ne (by omega)]
            exact HA.out.hit k hk (by unfold doneQ at h ⊢; omega)
        · have h13 : k ≠ 13 := fun e => h (by unfold doneQ; omega)
          rw [Array.getElem?_setIfInBounds_ne (by omega), Array.getElem?_setIfInBounds_ne (by omega)]
          exact HA.out.miss k hk (by unfold doneQ at h ⊢; omega)
        · rw [Array.getElem?_setIfInBounds_ne (by omega), Array.getElem?_setIfInBounds_self_of_lt (by simp [HA.out.size])]
      clear hR5 hown5 hR6 hb6 hown6
      go_wp2_with fail
      go_roundw
      case rel => exact HF.out
      case measure => simp [intOf]
    · rw [← hg0]
      clear hg0
      have oc : wr.cell? ⟨G, 2, none⟩ = some (.string ⟨#[10]⟩) := by rw [hbw.cell (p := ⟨G, 2, none⟩) hGl]; exact HGc.out 2 ⟨#[10]⟩ rfl
      have oe : wr.cell? ⟨G, 3, none⟩ = some (.string ⟨#[]⟩) := by rw [hbw.cell (p := ⟨G, 3, none⟩) hGl]; exact HGc.out 3 ⟨#[]⟩ rfl
      have cg := rowAt hA.row 10 (.slice none 0 0) (hA.miss 10 (by decide) (by unfold doneQ; omega))
      have c256 := rowAt hA.row 256 (.slice (some ⟨T, 0, none⟩) 1 3) hA.last
      have hnil := fun W : World => Lib.run_eql_slice_nil (P := Tryz.prog) W 35 5 none 0 0 0 0 Tryz.underlying35
      have hidx := fun W : World => idx10 W
      have hconv : (convert 35 9 (.slice (some ⟨wr.heap.size, 0, none⟩) 1 1)).run Tryz.prog (wr.alloc (.cells #[.int .u8 10] 5)) = .ok (.string ⟨#[10]⟩) (wr.alloc (.cells #[.int .u8 10] 5)) := conv_one wr 10
      have hT : T < wr.heap.size := (hA.own.lt T rfl).2
      have hTg : ¬ g0 = T := fun e => by
        rcases hA.own.2 with ⟨h, _⟩ | ⟨g1, cap, cur, h, _, hh, _⟩
        · cases h
        · injection h with h _ _; injection h with h; injection h with h1 _ _
          rw [← h1, ← e, hA.row] at hh
          injection hh with hh
          injection hh with _ h2 _
          exact absurd h2 (by decide)
      have hoa := (hA.own.alloc (.cells #[.int .u8 10] 5)).alloc (.cells #[.string ⟨#[10]⟩] 9)
      have HA := Lib.hid hA
      have Hoa := Lib.hid hoa
      have hbsz := hbw.size
      clear hA hoa
      go_wp2_with (at_builtin; refine wpList_append_fits _ rfl (.tmp 119) (.tmp 123) 25 rfl w.heap.size 9 i0 1 Tryz.underlying25 hi hz1 T 1 3 _ rfl Hoa.out ⟨wr.heap.size + 1, 0, none⟩ 1 1 [.string ⟨#[10]⟩] rfl rfl (fun j u hj => by have := cell_one (wr.alloc (.cells #[.int .u8 10] 5)) (.string ⟨#[10]⟩) 9 j u hj; simpa using this) (by simp [Value.oneCell']) (by omega) ?_)
      intro w3 hown3 hg3
      have hg0l : g0 < wr.heap.size := row_lt HA.out.row
      have hR3 : w3.heap[g0]? = some (.cells cs 187 (0, 0)) := by
        rw [hg3.block g0 (by simp; omega) (fun e => hTg (by injection e)), Below.heap_alloc _ _ _ (by simp; omega), Below.heap_alloc _ _ _ hg0l]
        exact HA.out.row
      have hb3 : Below w.heap.size w w3 := ((hbw.alloc hbsz _).alloc (by simp; omega) _).grown hg3 (by simp; omega) (fun k hk => by injection hk with hk; subst hk; exact (HA.out.own.lt _ rfl).1)
      have d256 := rowAt hR3 256 _ HA.out.last
      have z256 := rowFz hR3 256
      have hg0b : w.heap.size ≤ g0 := hg0w
      have hb4 : Below w.heap.size w (w3.setCell ⟨g0, 256, none⟩ (.slice (some ⟨T, 0, none⟩) 2 3)) := hb3.setCell (p := ⟨g0, 256, none⟩) hg0b _
      have hR4 : (w3.setCell ⟨g0, 256, none⟩ (.slice (some ⟨T, 0, none⟩) 2 3)).heap[g0]? = some (.cells (cs.setIfInBounds 256 (.slice (some ⟨T, 0, none⟩) 2 3)) 187 (0, 0)) := rowSet hR3 256 _ rfl
      have hown4 := hown3.kept (grown_setCell w3 ⟨g0, 256, none⟩ (.slice (some ⟨T, 0, none⟩) 2 3)) (.inr (by simp [Value.ownBlock]; exact fun e => hTg e.symm))
      have Hown4 := Lib.hid hown4
      have HR4 := Lib.hid hR4
      have HB4 := Lib.hid hb4
      clear hown3 hg3 hR3 hb3 hown4 hR4 hb4 hconv oc oe cg c256
      go_upto_region 34 with fail
      generalize w3.setCell ⟨g0, 256, none⟩ (.slice (some ⟨T, 0, none⟩) 2 3) = w4 at Hown4 HR4 HB4 ⊢
      have hg4 : g0 < w4.heap.size := row_lt HR4.out
      obtain ⟨cap, w5, kb, hb5⟩ := bytes_none w4
      have hR5 : w5.heap[g0]? = _ := (hb5.block g0 hg4).trans HR4.out
      have hown5 := own_below Hown4.out hb5
      have c5 := rowAt hR5 10 (.slice none 0 0) (by rw [Array.getElem?_setIfInBounds_ne (by omega)]; exact HA.out.miss 10 (by decide) (by unfold doneQ; omega))
      have f5 := rowFz hR5 10
      have hR6 : (w5.setCell ⟨g0, 10, none⟩ (.slice (some ⟨w4.heap.size, 0, none⟩) 0 cap)).heap[g0]? = some (.cells ((cs.setIfInBounds 256 (.slice (some ⟨T, 0, none⟩) 2 3)).setIfInBounds 10 (.slice (some ⟨w4.heap.size, 0, none⟩) 0 cap)) 187 (0, 0)) := rowSet hR5 10 _ rfl
      have hb6 : Below w.heap.size w (w5.setCell ⟨g0, 10, none⟩ (.slice (some ⟨w4.heap.size, 0, none⟩) 0 cap)) := (HB4.out.trans (hb5.mono HB4.out.size)).setCell (p := ⟨g0, 10, none⟩) hg0b _
      have hown6 := hown5.kept (grown_setCell w5 ⟨g0, 10, none⟩ (.slice (some ⟨w4.heap.size, 0, none⟩) 0 cap)) (.inr (by simp [Value.ownBlock]; exact fun e => hTg e.symm))
      have HF : Hid (BsLoop w.heap.size g0 w (.int .i64 0) (w5.setCell ⟨g0, 10, none⟩ (.slice (some ⟨w4.heap.size, 0, none⟩) 0 cap))) := by
        refine ⟨1, by omega, rfl, hb6, _, T, hR6, by simp [HA.out.size], fun k hk h => ?_, fun k hk h => ?_, ?_, hown6⟩
        · by_cases h13 : k = 10
          · exact ⟨⟨w4.heap.size, 0, none⟩, cap, by rw [h13, Array.getElem?_setIfInBounds_self_of_lt (by simp [HA.out.size])]⟩
          · rw [Array.getElem?_setIfInBounds_ne (by omega), Array.getElem?_setIfInBounds_ne (by omega)]
            exact HA.out.hit k hk (by unfold doneQ at h ⊢; omega)
        · have h13 : k ≠ 10 := fun e => h (by unfold doneQ; omega)
          rw [Array.getElem?_setIfInBounds_ne (by omega), Array.getElem?_setIfInBounds_ne (by omega)]
          exact HA.out.miss k hk (by unfold doneQ at h ⊢; omega)
        · rw [Array.getElem?_setIfInBounds_ne (by omega), Array.getElem?_setIfInBounds_self_of_lt (by simp [HA.out.size])]
      clear hR5 hown5 hR6 hb6 hown6
      go_wp2_with fail
      go_roundw
      case rel => exact HF.out
      case measure => simp [intOf]
    · rw [← hg0]
      clear hg0
      have oc : wr.cell? ⟨G, 0, none⟩ = some (.string ⟨#[9]⟩) := by rw [hbw.cell (p := ⟨G, 0, none⟩) hGl]; exact HGc.out 0 ⟨#[9]⟩ rfl
      have oe : wr.cell? ⟨G, 1, none⟩ = some (.string ⟨#[]⟩) := by rw [hbw.cell (p := ⟨G, 1, none⟩) hGl]; exact HGc.out 1 ⟨#[]⟩ rfl
      have cg := rowAt hA.row 9 (.slice none 0 0) (hA.miss 9 (by decide) (by unfold doneQ; omega))
      have c256 := rowAt hA.row 256 (.slice (some ⟨T, 0, none⟩) 2 3) hA.last
      have hnil := fun W : World => Lib.run_eql_slice_nil (P := Tryz.prog) W 35 5 none 0 0 0 0 Tryz.underlying35
      have hidx := fun W : World => idx9 W
      have hconv : (convert 35 9 (.slice (some ⟨wr.heap.size, 0, none⟩) 1 1)).run Tryz.prog (wr.alloc (.cells #[.int .u8 9] 5)) = .ok (.string ⟨#[9]⟩) (wr.alloc (.cells #[.int .u8 9] 5)) := conv_one wr 9
      have hT : T < wr.heap.size := (hA.own.lt T rfl).2
      have hTg : ¬ g0 = T := fun e => by
        rcases hA.own.2 with ⟨h, _⟩ | ⟨g1, cap, cur, h, _, hh, _⟩
        · cases h
        · injection h with h _ _; injection h with h; injection h with h1 _ _
          rw [← h1, ← e, hA.row] at hh
          injection hh with hh
          injection hh with _ h2 _
          exact absurd h2 (by decide)
      have hoa := (hA.own.alloc (.cells #[.int .u8 9] 5)).alloc (.cells #[.string ⟨#[9]⟩] 9)
      have HA := Lib.hid hA
      have Hoa := Lib.hid hoa
      have hbsz := hbw.size
      clear hA hoa
      go_wp2_with (at_builtin; refine wpList_append_fits _ rfl (.tmp 119) (.tmp 123) 25 rfl w.heap.size 9 i0 1 Tryz.underlying25 hi hz1 T 2 3 _ rfl Hoa.out ⟨wr.heap.size + 1, 0, none⟩ 1 1 [.string ⟨#[9]⟩] rfl rfl (fun j u hj => by have := cell_one (wr.alloc (.cells #[.int .u8 9] 5)) (.string ⟨#[9]⟩) 9 j u hj; simpa using this) (by simp [Value.oneCell']) (by omega) ?_)
      intro w3 hown3 hg3
      have hg0l : g0 < wr.heap.size := row_lt HA.out.row
      have hR3 : w3.heap[g0]? = some (.cells cs 187 (0, 0)) := by
        rw [hg3.block g0 (by simp; omega) (fun e => hTg (by injection e)), Below.heap_alloc _ _ _ (by simp; omega), Below.heap_alloc _ _ _ hg0l]
        exact HA.out.row
      have hb3 : Below w.heap.size w w3 := ((hbw.alloc hbsz _).alloc (by simp; omega) _).grown hg3 (by simp; omega) (fun k hk => by injection hk with hk; subst hk; exact (HA.out.own.lt _ rfl).1)
      have d256 := rowAt hR3 256 _ HA.out.last
      have z256 := rowFz hR3 256
      have hg0b : w.heap.size ≤ g0 := hg0w
      have hb4 : Below w.heap.size w (w3.setCell ⟨g0, 256, none⟩ (.slice (some ⟨T, 0, none⟩) 3 3)) := hb3.setCell (p := ⟨g0, 256, none⟩) hg0b _
      have hR4 : (w3.setCell ⟨g0, 256, none⟩ (.slice (some ⟨T, 0, none⟩) 3 3)).heap[g0]? = some (.cells (cs.setIfInBounds 256 (.slice (some ⟨T, 0, none⟩) 3 3)) 187 (0, 0)) := rowSet hR3 256 _ rfl
      have hown4 := hown3.kept (grown_setCell w3 ⟨g0, 256, none⟩ (.slice (some ⟨T, 0, none⟩) 3 3)) (.inr (by simp [Value.ownBlock]; exact fun e => hTg e.symm))
      have Hown4 := Lib.hid hown4
      have HR4 := Lib.hid hR4
      have HB4 := Lib.hid hb4
      clear hown3 hg3 hR3 hb3 hown4 hR4 hb4 hconv oc oe cg c256
      go_upto_region 34 with fail
      generalize w3.setCell ⟨g0, 256, none⟩ (.slice (some ⟨T, 0, none⟩) 3 3) = w4 at Hown4 HR4 HB4 ⊢
      have hg4 : g0 < w4.heap.size := row_lt HR4.out
      obtain ⟨cap, w5, kb, hb5⟩ := bytes_none w4
      have hR5 : w5.heap[g0]? = _ := (hb5.block g0 hg4).trans HR4.out
      have hown5 := own_below Hown4.out hb5
      have c5 := rowAt hR5 9 (.slice none 0 0) (by rw [Array.getElem?_setIfInBounds_ne (by omega)]; exact HA.out.miss 9 (by decide) (by unfold doneQ; omega))
      have f5 := rowFz hR5 9
      have hR6 : (w5.setCell ⟨g0, 9, none⟩ (.slice (some ⟨w4.heap.size, 0, none⟩) 0 cap)).heap[g0]? = some (.cells ((cs.setIfInBounds 256 (.slice (some ⟨T, 0, none⟩) 3 3)).setIfInBounds 9 (.slice (some ⟨w4.heap.size, 0, none⟩) 0 cap)) 187 (0, 0)) := rowSet hR5 9 _ rfl
      have hb6 : Below w.heap.size w (w5.setCell ⟨g0, 9, none⟩ (.slice (some ⟨w4.heap.size, 0, none⟩) 0 cap)) := (HB4.out.trans (hb5.mono HB4.out.size)).setCell (p := ⟨g0, 9, none⟩) hg0b _
      have hown6 := hown5.kept (grown_setCell w5 ⟨g0, 9, none⟩ (.slice (some ⟨w4.heap.size, 0, none⟩) 0 cap)) (.inr (by simp [Value.ownBlock]; exact fun e => hTg e.symm))
      have HF : Hid (BsLoop w.heap.size g0 w (.int .i64 (-2)) (w5.setCell ⟨g0, 9, none⟩ (.slice (some ⟨w4.heap.size, 0, none⟩) 0 cap))) := by
        refine ⟨0, by omega, rfl, hb6, _, T, hR6, by simp [HA.out.size], fun k hk h => ?_, fun k hk h => ?_, ?_, hown6⟩
        · by_cases h13 : k = 9
          · exact ⟨⟨w4.heap.size, 0, none⟩, cap, by rw [h13, Array.getElem?_setIfInBounds_self_of_lt (by simp [HA.out.size])]⟩
          · rw [Array.getElem?_setIfInBounds_ne (by omega), Array.getElem?_setIfInBounds_ne (by omega)]
            exact HA.out.hit k hk (by unfold doneQ at h ⊢; omega)
        · have h13 : k ≠ 9 := fun e => h (by unfold doneQ; omega)
          rw [Array.getElem?_setIfInBounds_ne (by omega), Array.getElem?_setIfInBounds_ne (by omega)]
          exact HA.out.miss k hk (by unfold doneQ at h ⊢; omega)
        · rw [Array.getElem?_setIfInBounds_ne (by omega), Array.getElem?_setIfInBounds_self_of_lt (by simp [HA.out.size])]
      clear hR5 hown5 hR6 hb6 hown6
      go_wp2_with fail
      go_roundw
      case rel => exact HF.out
      case measure => simp [intOf]
    · rw [← hg0]
      clear hg0
      have HF : Hid (RBuild w (.returned (.iface 188 (.pointer (some ⟨g0, 0, none⟩)))) wr) := by
        refine ⟨g0, rfl, hbw, ⟨cs, hA.row, fun k hk => ?_, ?_⟩⟩
        · split
          · exact hA.hit k hk (by unfold doneQ; omega)
          · exact hA.miss k hk (by unfold doneQ; omega)
        · rcases hA.own.2 with ⟨h, _⟩ | ⟨g1, cap, cur, h, _, hh, _, _, _, htk⟩
          · cases h
          · injection h with h _ hcap
            injection h with h
            injection h with h1 _ _
            subst h1
            have hget : ∀ (k : Nat) (x : ByteArray), toB[k]? = some x → cur[k]? = some (Value.string x) := by
              intro k x hk
              have h1 : (toB.map Value.string)[k]? = some (Value.string x) := by rw [List.getElem?_map, hk]; rfl
              have h2 : cur.toList.take 3 = toB.map Value.string := htk
              rw [← h2, List.getElem?_take] at h1
              split at h1
              · simpa using h1
              · cases h1
            exact ⟨T, 3, cur, hA.last, hh, hget 0 _ rfl, hget 1 _ rfl, hget 2 _ rfl⟩
      clear hA
      go_wp2_with fail
      go_ret
      exact HF.out

set_option maxRecDepth 100000 in
theorem bo_any (B b : Nat) (e : Int) (G c : Nat) (w : World) (hBb : B ≤ b) (hr : RepRow w b 0 1 e .nilIface (.slice (some ⟨G, 0, none⟩) 6 c)) (hown : w.ownsRow B 9 1 (.slice (some ⟨G, 0, none⟩) 6 c) 6 (rsB.map Value.string)) (hB : B ≤ w.heap.size) :
    Calls Tryz.prog 92 #[.pointer (some ⟨b, 0, none⟩)] w fun e' w' => e' = .returned (.tuple #[]) ∧ RBuilt1 B b 0 1 e w w' := by
  have cB := Lib.hid (build_any B b e G c w hr hown)
  have HR := Lib.hid hr
  have hbl : b < w.heap.size := row_lt hr
  clear hr hown
  go_enter Tryz.func92, Tryz.ntmps92
  go_wp2_with fail
  refine cB.out.mono ?_
  rintro e1 w1 ⟨g, rfl, hb1, hbs⟩
  have hr1 : RepRow w1 b 0 1 e .nilIface (.slice (some ⟨G, 0, none⟩) 6 c) := (hb1.block b hbl).trans HR.out
  have c3 := rowAt hr1 3 .nilIface rfl
  have f3 := rowFz hr1 3
  have hr2 := RepRow.set hr1 3 (.iface 188 (.pointer (some ⟨g, 0, none⟩))) (d' := 0) (s' := 1) (rv' := .iface 188 (.pointer (some ⟨g, 0, none⟩))) (ov' := .slice (some ⟨G, 0, none⟩) 6 c) (by simp)
  have hbs2 := BsRep.set hbs hr1 3 (.iface 188 (.pointer (some ⟨g, 0, none⟩)))
  have c4 := rowAt hr2 4 (.slice (some ⟨G, 0, none⟩) 6 c) rfl
  have f4 := rowFz hr2 4
  have hr3 := RepRow.set hr2 4 (.slice none 0 0) (d' := 0) (s' := 1) (rv' := .iface 188 (.pointer (some ⟨g, 0, none⟩))) (ov' := .slice none 0 0) (by simp)
  have hbs3 := BsRep.set hbs2 hr2 4 (.slice none 0 0)
  have hbb := ((hb1.mono hB).setCell (p := ⟨b, 3, none⟩) hBb (.iface 188 (.pointer (some ⟨g, 0, none⟩)))).setCell (p := ⟨b, 4, none⟩) hBb (.slice none 0 0)
  have HF : Hid (RBuilt1 B b 0 1 e w ((w1.setCell ⟨b, 3, none⟩ (.iface 188 (.pointer (some ⟨g, 0, none⟩)))).setCell ⟨b, 4, none⟩ (.slice none 0 0))) := ⟨hbb, g, hr3, hbs3⟩
  clear hr1 hr2 hr3 hbs hbs2 hbs3 hbb
  go_wp2_with fail
  go_end0
  exact ⟨rfl, HF.out⟩
end Go.Proofs.YthijceooebebfaaGreatDoor

namespace Go.Proofs
open Go.Shelf
def Tryz.lays283_ren : Go.Shelf.Ren := ⟨fun | 283 => 77 | n => n, fun | 3 => 3 | 9 => 9 | 4 => 4 | n => n, fun | n => n⟩
theorem Tryz.lays283 : Go.Proofs.Lays.n283 Tryz.prog Tryz.lays283_ren := {
  mixed := by kernel_rfl
  f283 := Tryz.func77.trans (congrArg some (by kernel_rfl))
  t3 := Tryz.underlying3
  a3 := Tryz.isAgg3
  z3 := Tryz.sizeOf3
  v3 := Tryz.zeroValue3
  t4 := Tryz.underlying4
  a4 := Tryz.isAgg4
  z4 := Tryz.sizeOf4
  v4 := Tryz.zeroValue4
  t9 := Tryz.underlying9
  a9 := Tryz.isAgg9
  z9 := Tryz.sizeOf9
  v9 := Tryz.zeroValue9 }
open Go.Lib in
theorem Tryz.internal_strconv_small (i : Nat) (h : i < 100) (w : World) :
    Calls Tryz.prog 77 #[.int .i64 i] w fun e w' => e = .returned (.string ⟨(Lib.decDigits i).toArray⟩) ∧ w' = w := Any.internal_strconv_small Tryz.lays283 i h w
def Tryz.laysM284_ren : Go.Shelf.Ren := ⟨fun | 284 => 78 | 129 => 116 | 317 => 115 | 318 => 117 | n => n, fun | 53 => 100 | 3 => 3 | 212 => 150 | 0 => 0 | 4 => 4 | 46 => 93 | 5 => 5 | 9 => 9 | n => n, fun | 17 => 0 | n => n⟩
theorem Tryz.laysM284 : Go.Proofs.LaysM.n284 Tryz.prog Tryz.laysM284_ren := {
  mixed := by kernel_rfl
  f129 := Tryz.func116.trans (congrArg some (by kernel_rfl))
  f284 := Tryz.func78.trans (congrArg some (by kernel_rfl))
  f317 := Tryz.func115.trans (congrArg some (by kernel_rfl))
  f318 := Tryz.func117.trans (congrArg some (by kernel_rfl))
  t0 := Tryz.underlying0
  a0 := Tryz.isAgg0
  z0 := Tryz.sizeOf0
  v0 := Tryz.zeroValue0
  t3 := Tryz.underlying3
  a3 := Tryz.isAgg3
  z3 := Tryz.sizeOf3
  v3 := Tryz.zeroValue3
  t4 := Tryz.underlying4
  a4 := Tryz.isAgg4
  z4 := Tryz.sizeOf4
  v4 := Tryz.zeroValue4
  t5 := Tryz.underlying5
  a5 := Tryz.isAgg5
  z5 := Tryz.sizeOf5
  v5 := Tryz.zeroValue5
  t9 := Tryz.underlying9
  a9 := Tryz.isAgg9
  z9 := Tryz.sizeOf9
  v9 := Tryz.zeroValue9
  t46 := Tryz.underlying93
  a46 := Tryz.isAgg93
  z46 := Tryz.sizeOf93
  v46 := Tryz.zeroValue93
  t53 := Tryz.underlying100
  a53 := Tryz.isAgg100
  z53 := Tryz.sizeOf100
  v53 := Tryz.zeroValue100
  t212 := Tryz.underlying150
  a212 := Tryz.isAgg150
  z212 := Tryz.sizeOf150
  v212 := Tryz.zeroValue150
  g17 := by kernel_rfl
  i0 := by kernel_rfl
  i3 := by kernel_rfl
  i4 := by kernel_rfl
  i5 := by kernel_rfl
  i9 := by kernel_rfl
  i46 := by kernel_rfl
  i53 := by kernel_rfl
  i212 := by kernel_rfl
  m17 := by kernel_rfl }
open Go.Lib in
theorem Tryz.internal_strconv_numDigits (u : Nat) (h1 : 1 ≤ u) (h2 : u < 18446744073709551616) (w : World) (htab : Lib.TabIs Tryz.prog w "internal/strconv.uint64pow10" .u64 Lib.pow10Tab) :
    Calls Tryz.prog 78 #[.int .u64 u] w fun e w' => e = .returned (.int .i64 (Lib.nDigits u)) ∧ w' = w := Any.internal_strconv_numDigits Tryz.laysM284 u h1 h2 w htab
def Tryz.lays285_ren : Go.Shelf.Ren := ⟨fun | 285 => 79 | n => n, fun | 37 => 35 | 53 => 100 | 3 => 3 | 4 => 4 | 51 => 39 | 9 => 9 | 5 => 5 | 0 => 0 | n => n, fun | n => n⟩
theorem Tryz.lays285 : Go.Proofs.Lays.n285 Tryz.prog Tryz.lays285_ren := {
  mixed := by kernel_rfl
  f285 := Tryz.func79.trans (congrArg some (by kernel_rfl))
  t0 := Tryz.underlying0
  a0 := Tryz.isAgg0
  z0 := Tryz.sizeOf0
  v0 := Tryz.zeroValue0
  t3 := Tryz.underlying3
  a3 := Tryz.isAgg3
  z3 := Tryz.sizeOf3
  v3 := Tryz.zeroValue3
  t4 := Tryz.underlying4
  a4 := Tryz.isAgg4
  z4 := Tryz.sizeOf4
  v4 := Tryz.zeroValue4
  t5 := Tryz.underlying5
  a5 := Tryz.isAgg5
  z5 := Tryz.sizeOf5
  v5 := Tryz.zeroValue5
  t9 := Tryz.underlying9
  a9 := Tryz.isAgg9
  z9 := Tryz.sizeOf9
  v9 := Tryz.zeroValue9
  t37 := Tryz.underlying35
  a37 := Tryz.isAgg35
  z37 := Tryz.sizeOf35
  v37 := Tryz.zeroValue35
  t51 := Tryz.underlying39
  a51 := Tryz.isAgg39
  z51 := Tryz.sizeOf39
  v51 := Tryz.zeroValue39
  t53 := Tryz.underlying100
  a53 := Tryz.isAgg100
  z53 := Tryz.sizeOf100
  v53 := Tryz.zeroValue100 }
open Go.RowKit Go.Sort Go.Lib in
theorem Tryz.internal_strconv_formatBase10 (blk off cap : Nat) (u : Nat) (d : Array UInt8) (w : World) (hH : Holds (fun (b : UInt8) => Value.int .u8 (b.toNat : Int)) w blk off d) (hu : u < 10 ^ d.size) (hu64 : u < 18446744073709551616) (hsz : d.size < 4611686018427387904) :
    Calls Tryz.prog 79 #[.slice (some ⟨blk, off, none⟩) d.size cap, .int .u64 u] w fun e w' =>
      e = .returned (.tuple #[]) ∧ ∃ (n v' : Nat) (dk : Array UInt8), w' = (putRow (fun (b : UInt8) => Value.int .u8 (b.toNat : Int)) w blk off dk).drewN n ∧ FmtInv d.size u 0 v' dk := Any.internal_strconv_formatBase10 Tryz.lays285 blk off cap u d w hH hu hu64 hsz
def Tryz.lays138_ren : Go.Shelf.Ren := ⟨fun | 138 => 175 | 195 => 199 | 218 => 200 | 143 => 177 | 219 => 88 | 217 => 114 | 225 => 126 | 224 => 127 | 267 => 128 | 266 => 144 | 314 => 148 | n => n, fun | 9 => 9 | 3 => 3 | 4 => 4 | 5 => 5 | 0 => 0 | 46 => 93 | 146 => 172 | 51 => 39 | n => n, fun | 1 => 1 | n => n⟩
theorem Tryz.lays138 : Go.Proofs.Lays.n138 Tryz.prog Tryz.lays138_ren := {
  mixed := by kernel_rfl
  f138 := Tryz.func175.trans (congrArg some (by kernel_rfl))
  f143 := Tryz.func177.trans (congrArg some (by kernel_rfl))
  f195 := Tryz.func199.trans (congrArg some (by kernel_rfl))
  f217 := Tryz.func114.trans (congrArg some (by kernel_rfl))
  f218 := Tryz.func200.trans (congrArg some (by kernel_rfl))
  f219 := Tryz.func88.trans (congrArg some (by kernel_rfl))
  f224 := Tryz.func127.trans (congrArg some (by kernel_rfl))
  f225 := Tryz.func126.trans (congrArg some (by kernel_rfl))
  f266 := Tryz.func144.trans (congrArg some (by kernel_rfl))
  f267 := Tryz.func128.trans (congrArg some (by kernel_rfl))
  f314 := Tryz.func148.trans (congrArg some (by kernel_rfl))
  t0 := Tryz.underlying0
  a0 := Tryz.isAgg0
  z0 := Tryz.sizeOf0
  v0 := Tryz.zeroValue0
  t3 := Tryz.underlying3
  a3 := Tryz.isAgg3
  z3 := Tryz.sizeOf3
  v3 := Tryz.zeroValue3
  t4 := Tryz.underlying4
  a4 := Tryz.isAgg4
  z4 := Tryz.sizeOf4
  v4 := Tryz.zeroValue4
  t5 := Tryz.underlying5
  a5 := Tryz.isAgg5
  z5 := Tryz.sizeOf5
  v5 := Tryz.zeroValue5
  t9 := Tryz.underlying9
  a9 := Tryz.isAgg9
  z9 := Tryz.sizeOf9
  v9 := Tryz.zeroValue9
  t46 := Tryz.underlying93
  a46 := Tryz.isAgg93
  z46 := Tryz.sizeOf93
  v46 := Tryz.zeroValue93
  t51 := Tryz.underlying39
  a51 := Tryz.isAgg39
  z51 := Tryz.sizeOf39
  v51 := Tryz.zeroValue39
  t146 := Tryz.underlying172
  a146 := Tryz.isAgg172
  z146 := Tryz.sizeOf172
  v146 := Tryz.zeroValue172
  g1 := by kernel_rfl }
open Go.RowKit Go.Lib in
theorem Tryz.strings_Count_one (s : ByteArray) (c : UInt8) (w : World) :
    Calls Tryz.prog 175 #[.string s, .string ⟨#[c]⟩] w fun e w' => e = .returned (.int .i64 (Lib.countByte s.data.toList c)) ∧ w' = w := Any.strings_Count_one Tryz.lays138 s c w
end Go.Proofs

namespace Go.Proofs.YthijceooebebfaaGreatDoor
open Go.RowKit
theorem Count_c (s : ByteArray) (c : UInt8) (w : World) : Calls Tryz.prog 175 #[.string s, .string ⟨#[c]⟩] w fun e w' => e = .returned (.int .i64 ((s.data.toList.count c : Nat) : Int)) ∧ w = w' :=
  (Tryz.strings_Count_one s c w).mono fun _ _ ⟨h1, h2⟩ => ⟨h1, h2.symm⟩
end Go.Proofs.YthijceooebebfaaGreatDoor
