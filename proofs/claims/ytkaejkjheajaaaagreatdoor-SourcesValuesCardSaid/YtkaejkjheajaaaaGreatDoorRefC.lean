/-
  The walk of the document's answer for source expressions, third part: host.
-/
import Derived.Test.YtkaejkjheajaaaaGreatDoorSrcD
import Derived.Test.YtkaejkjheajaaaaGreatDoorRefB
import Derived.Deep.RegionHeld3
namespace Go.Proofs.YtkaejkjheajaaaaGreatDoor
open Go.RowKit

/-- A source, and whether it is one. -/
def RSrcB (o : Option Lz.Src) (w : World) (e : Ending) (w' : World) : Prop :=
  ∃ x : SrcB, e = .returned (.tuple #[x.val, .bool o.isSome]) ∧ Hid (∀ y, o = some y → x.src = y) ∧ Below w.heap.size w w'

/-- Behind the port: what is left is the name. -/
def hostR (sch path nm : List UInt8) (port : Int) (gg : Bool) : Option Lz.Src :=
  match Lz.hostP nm with
  | none => none
  | some (wild, host) => if gg then some ⟨3, [], 0, sch, host, wild, port, path⟩ else none
theorem hostedQ_miss {sch path r : List UInt8} (h : Lib.index r [58] = -1) : Lz.hostedQ sch path r = hostR sch path r (-1) (path.all Lz.isSeen) := by
  unfold Lz.hostedQ hostR
  rw [Lz.cut_miss r [58] h, Lz.path_ref]
  rfl
theorem hostedQ_hit {sch path r : List UInt8} {k : Nat} (h : Lib.index r [58] = k) (p : Int) (hp : ∀ m, Lz.portP (r.drop (k + 1)) = some m → p = m) :
    Lz.hostedQ sch path r = hostR sch path (r.take k) p (path.all Lz.isSeen && (Lz.portP (r.drop (k + 1))).isSome) := by
  have e : Lib.cut r [58] = (r.take k, r.drop (k + 1), true) := by
    unfold Lib.cut
    rw [h, if_pos (by omega)]
    simp
  unfold Lz.hostedQ hostR
  rw [e, Lz.path_ref]
  dsimp only
  cases Lz.hostP (r.take k) with
  | none => rfl
  | some q =>
    cases hq : Lz.portP (r.drop (k + 1)) with
    | none => simp
    | some m => simp [hp m hq]

/-- Behind the port. -/
def HRel5 (s : ByteArray) (w : World) (v b : Value) (wx : World) : Prop :=
  ∃ (nm : ByteArray) (gg : Bool) (y : SrcB), v = .string nm ∧ b = .bool gg ∧ nm.size ≤ 1048576 ∧ HRows w wx y ∧ Hid (Lz.hostedS s.data.toList = hostR y.scheme.data.toList y.path.data.toList nm.data.toList y.port gg ∧ y = { srcZero with scheme := y.scheme, path := y.path, port := y.port })

/-- A cell of a row may be read, and written. -/
theorem row_at {w : World} {R : Nat} {cs : Array Value} {t : TypeId} (h : w.heap[R]? = some (.cells cs t (0, 0))) {n : Nat} (hn : cs.size = n) (k : Nat) (hk : k < n) : w.cell? ⟨R, k, none⟩ = some (cs.getD k undef) ∧ w.frozen? ⟨R, k, none⟩ = false := by
  refine ⟨?_, by simp [World.frozen?, h]⟩
  rw [cell_of_row w R k _ _ _ h]
  have : k < cs.size := by omega
  simp [Array.getD, this]

theorem row_set {w : World} {R : Nat} {cs : Array Value} {t : TypeId} {fr : Nat × Nat} (h : w.heap[R]? = some (.cells cs t fr)) (k : Nat) (v : Value) : (w.setCell ⟨R, k, none⟩ v).heap[R]? = some (.cells (cs.setIfInBounds k v) t fr) := by
  rw [setCell_eq_setRow w R k cs _ _ v h]
  exact setRow_heap _ _ _ _ _ _ h
theorem arr8 (cs : Array Value) (h : cs.size = 8) (a b c d e f g i : Value) : (((((((cs.setIfInBounds 0 a).setIfInBounds 1 b).setIfInBounds 2 c).setIfInBounds 3 d).setIfInBounds 4 e).setIfInBounds 5 f).setIfInBounds 6 g).setIfInBounds 7 i = #[a, b, c, d, e, f, g, i] := by
  apply Array.ext_getElem?
  intro j
  by_cases hj : j < 8
  · obtain rfl | rfl | rfl | rfl | rfl | rfl | rfl | rfl : j = 0 ∨ j = 1 ∨ j = 2 ∨ j = 3 ∨ j = 4 ∨ j = 5 ∨ j = 6 ∨ j = 7 := by omega
    all_goals simp [h]
  · rw [Array.getElem?_eq_none (by simp [h]; omega), Array.getElem?_eq_none (by simp; omega)]
theorem heap_drew {w : World} {R : Nat} {o : Option Obj} (h : w.heap[R]? = o) : w.drew.heap[R]? = o := h
/-- A row of eight cells that is written cell by cell. -/
theorem row8 {w : World} {R : Nat} {cs : Array Value} {t : TypeId} {fr : Nat × Nat} (h : w.heap[R]? = some (.cells cs t fr)) (hn : cs.size = 8) (a b c d e f g i : Value) :
    ((((((((w.setCell ⟨R, 0, none⟩ a).setCell ⟨R, 1, none⟩ b).setCell ⟨R, 2, none⟩ c).setCell ⟨R, 3, none⟩ d).setCell ⟨R, 4, none⟩ e).setCell ⟨R, 5, none⟩ f).setCell ⟨R, 6, none⟩ g).setCell ⟨R, 7, none⟩ i).heap[R]? = some (.cells #[a, b, c, d, e, f, g, i] t fr) := by
  rw [← arr8 cs hn a b c d e f g i]
  exact row_set (row_set (row_set (row_set (row_set (row_set (row_set (row_set h 0 a) 1 b) 2 c) 3 d) 4 e) 5 f) 6 g) 7 i
theorem below8 {B : Nat} {w0 w : World} {R : Nat} (h : Below B w0 w) (hR : B ≤ R) (a b c d e f g i : Value) :
    Below B w0 ((((((((w.setCell ⟨R, 0, none⟩ a).setCell ⟨R, 1, none⟩ b).setCell ⟨R, 2, none⟩ c).setCell ⟨R, 3, none⟩ d).setCell ⟨R, 4, none⟩ e).setCell ⟨R, 5, none⟩ f).setCell ⟨R, 6, none⟩ g).setCell ⟨R, 7, none⟩ i) :=
  (((((((h.setCell (p := ⟨R, 0, none⟩) hR a).setCell (p := ⟨R, 1, none⟩) hR b).setCell (p := ⟨R, 2, none⟩) hR c).setCell (p := ⟨R, 3, none⟩) hR d).setCell (p := ⟨R, 4, none⟩) hR e).setCell (p := ⟨R, 5, none⟩) hR f).setCell (p := ⟨R, 6, none⟩) hR g).setCell (p := ⟨R, 7, none⟩) hR i

set_option maxHeartbeats 4000000 in
set_option maxRecDepth 100000 in
theorem host25_any (s : ByteArray) (hs : s.size ≤ 1048576) (w : World) : Calls Tryz.prog 33 #[.string s] w (RSrcB (Lz.hostedS s.data.toList) w) := by
  go_enter Tryz.func33, Tryz.ntmps33
  have hH0 : HRows w ((w.alloc (.cells #[.int .i64 0, .string ⟨#[]⟩, .int .i64 0, .string ⟨#[]⟩, .string ⟨#[]⟩, .bool false, .int .i64 0, .string ⟨#[]⟩] 28)).alloc (.cells srcZero.cells 28)) srcZero := by
    have hx0 : Below w.heap.size w ((w.alloc (.cells #[.int .i64 0, .string ⟨#[]⟩, .int .i64 0, .string ⟨#[]⟩, .string ⟨#[]⟩, .bool false, .int .i64 0, .string ⟨#[]⟩] 28)).alloc (.cells srcZero.cells 28)) := ((Below.refl _ w).alloc (Nat.le_refl _) _).alloc (by simp) _
    obtain ⟨hR0, hT1⟩ := alloc_two (Below.refl _ ((w.alloc (.cells #[.int .i64 0, .string ⟨#[]⟩, .int .i64 0, .string ⟨#[]⟩, .string ⟨#[]⟩, .bool false, .int .i64 0, .string ⟨#[]⟩] 28)).alloc (.cells srcZero.cells 28)))
    exact ⟨⟨_, rfl, rfl, hR0⟩, hT1, hx0⟩
  have hil := Lib.index_le s.data.toList [58, 47, 47]
  have hig := Lib.index_ge s.data.toList [58, 47, 47]
  have hir := Lib.index_room s.data.toList [58, 47, 47]
  rw [len_of_size] at hil hir
  have cF := Lib.hid (find_any s ⟨#[58, 47, 47]⟩ hs (by decide) (by simp))
  generalize hi : Lib.index s.data.toList (ByteArray.data ⟨#[58, 47, 47]⟩).toList = i at cF
  have hi' : Lib.index s.data.toList [58, 47, 47] = i := hi
  rw [hi'] at hil hig hir
  have Hi := Lib.hid hi'
  clear hi hi'
  go_wp2_with fail
  refine (cF.out _).mono ?_
  rintro e w1 ⟨rfl, rfl⟩
  go_upto_if 12 with fail
  go_cut [0] (fun s0 wx => HRel1 s w s0 wx)
  case first =>
    clear cF
    by_cases hi0 : 0 ≤ i
    · obtain ⟨k, rfl⟩ : ∃ k : Nat, i = k := ⟨i.toNat, by omega⟩
      have hk : k + 3 ≤ s.size := by have := hir hi0; simp at this; omega
      have hk3 : (k : Int) + 3 ≤ s.size := by omega
      have hz := extract_size_le s 0 k
      have cS := Lib.hid (scheme25_any (s.extract 0 k) (by omega))
      have cL := Lib.hid (Lower02_c (s.extract 0 k) (by omega))
      generalize hsb : Lz.schemeB (s.extract 0 k).data.toList = sb at cS
      have Hsb := Lib.hid hsb
      clear hsb hz hir hig
      have HC : Hid (Lib.cut s.data.toList [58, 47, 47] = (s.data.toList.take k, s.data.toList.drop (k + 3), true)) := by
        show _ = _
        unfold Lib.cut
        rw [Hi.out, if_pos (by omega)]
        simp
      cases sb
      · obtain ⟨⟨cs, hcsz, hcs0, hR1⟩, hT1, hx1⟩ := hH0
        have hTl : _ = some (Obj.cells #[.int .i64 3, .string ⟨#[]⟩, .int .i64 0, .string ⟨#[]⟩, .string ⟨#[]⟩, .bool false, .int .i64 (-1), .string ⟨#[]⟩] 28 (0, 0)) := hT1
        clear hT1
        go_wp2_with (first | (go_at_call 31; (with_reducible refine (cS.out _).mono ?_); rintro e w2 ⟨rfl, rfl⟩) | (refine wpList_load_row rfl 28 _ rfl (w.heap.size + 1) rfl 28 _ (0, 0) _ hTl Tryz.underlying28 rfl srcSize ?_) | (refine store_src rfl _ _ rfl w.heap.size rfl rfl _ hR1 hcsz ?_))
        refine bodyPost_ret (results_src (u := 3) rfl _ _ w.heap.size srcZero (0, 0) rfl (setRow_heap _ _ _ _ _ _ hR1)) rfl ⟨srcZero, ?_, ?_, below_setRow hx1 (Nat.le_refl _) _⟩
        all_goals
          have hn : Lz.hostedS s.data.toList = none := by
            unfold Lz.hostedS
            rw [HC.out]
            have h2 : Lz.schemeB (s.data.toList.take k) = false := by rw [← Hsb.out, extract_head]
            simp only [h2, if_true]
            rfl
          rw [hn]
        · rfl
        · exact Lib.hid (fun y h => by cases h)
      · go_wp2_with fail
        refine (cS.out _).mono ?_
        rintro e w2 ⟨rfl, rfl⟩
        go_wp2_with fail
        (with_reducible refine (cL.out _).mono ?_)
        rintro e w2 ⟨u, rfl, hu, hb2⟩
        have hH2 := hH0.call hb2
        have hT2 := hH2.src
        have c3 := hT2.cell 3
        have f3 := hT2.free 3
        simp only [SrcB.cells] at c3
        simp at c3
        have hT3 := hT2.store (y := { srcZero with scheme := u }) 3 (.string u) (by rfl)
        have hH3 := hH2.into ((Below.refl (w.heap.size + 1) w2).setCell (p := ⟨w.heap.size + 1, 3, none⟩) (Nat.le_refl _) (.string u)) hT3
        have hz3 := extract_size_le s (k + 3) s.size
        clear hT2 hT3 hb2
        go_wp2_with fail
        go_meet
        refine ⟨s.extract (k + 3) s.size, { srcZero with scheme := u }, rfl, by omega, hH3, ?_, rfl⟩
        unfold Lz.hostedS
        rw [HC.out]
        have h2 : Lz.schemeB (s.data.toList.take k) = true := by rw [← Hsb.out, extract_head]
        simp only [h2, if_true]
        show _ = Lz.hostedP u.data.toList _
        rw [hu.out, extract_head, extract_tail]
    · have hin : i = -1 := by omega
      have HC : Hid (Lib.cut s.data.toList [58, 47, 47] = (s.data.toList, [], false)) := by
        show _ = _
        exact Lz.cut_miss _ _ (by rw [Hi.out]; exact hin)
      have hi1 : i < 0 := by omega
      clear hir hig hin
      go_wp2_with fail
      go_meet
      refine ⟨s, srcZero, rfl, hs, hH0, ?_, rfl⟩
      unfold Lz.hostedS
      rw [HC.out]
      rfl
  case rest =>
    clear hH0 cF Hi hil hig hir
    obtain ⟨rest, x, rfl, hrz, hH1, HS⟩ := hcut
    have cI := Lib.hid (find_any rest ⟨#[47]⟩ hrz (by decide) (by simp) wc)
    have hix : Lib.index rest.data.toList (ByteArray.data ⟨#[47]⟩).toList = Lib.indexByte rest.data.toList 47 := Lz.index_one _ _
    rw [hix] at cI
    have hil := indexByte_lt rest.data.toList 47
    rw [len_of_size] at hil
    clear hix
    generalize hi : Lib.indexByte rest.data.toList 47 = i at cI hil
    have Hi := Lib.hid hi
    clear hi
    go_wp2_with fail
    refine (cI.out).mono ?_
    rintro e w2 ⟨rfl, rfl⟩
    go_upto_if 31 with fail
    go_cut [0] (fun s0 wx => HRel2 s w s0 wx)
    case first =>
      by_cases hi0 : 0 ≤ i
      · obtain ⟨k, rfl⟩ : ∃ k : Nat, i = k := ⟨i.toNat, by omega⟩
        have hT1 := hH1.src
        have c7 := hT1.cell 7
        have f7 := hT1.free 7
        simp only [SrcB.cells] at c7
        simp at c7
        have hT2 := hT1.store (y := { x with path := rest.extract k rest.size }) 7 (.string (rest.extract k rest.size)) (by rfl)
        have hH2 := hH1.into ((Below.refl (w.heap.size + 1) wc).setCell (p := ⟨w.heap.size + 1, 7, none⟩) (Nat.le_refl _) (.string (rest.extract k rest.size))) hT2
        clear hT2 hT1 cI
        go_wp2_with fail
        go_meet
        refine ⟨rest.extract 0 k, { x with path := rest.extract k rest.size }, rfl, Nat.le_trans (extract_size_le _ _ _) hrz, Nat.le_trans (extract_size_le _ _ _) hrz, hH2, ?_, by rw [HS.out.2]⟩
        rw [HS.out.1]
        unfold Lz.hostedP
        rw [Hi.out, if_pos (by omega)]
        show _ = Lz.hostedQ x.scheme.data.toList (rest.extract k rest.size).data.toList _
        rw [extract_tail, extract_head]
        rfl
      · have hi1 : i < 0 := by omega
        clear cI
        go_wp2_with fail
        go_meet
        have h2 := HS.out.2
        refine ⟨rest, x, rfl, hrz, by rw [h2]; exact Nat.zero_le _, hH1, ?_, by rw [h2]⟩
        rw [HS.out.1]
        unfold Lz.hostedP
        rw [Hi.out, if_neg (by omega)]
        rw [h2]
        rfl
    case rest =>
      clear hH1 Hi cI hil HS hrz
      obtain ⟨r, y, rfl, hqz, hyz, hH2, HQ⟩ := hcut
      have hT2 := hH2.src
      have c7 := hT2.cell 7
      simp only [SrcB.cells] at c7
      simp at c7
      have cP := Lib.hid (path_any y.path (by omega) wc)
      generalize hgp : y.path.data.toList.all Lz.isSeen = gp at cP
      have Hgp := Lib.hid hgp
      have cI := Lib.hid (find_any r ⟨#[58]⟩ hqz (by decide) (by simp) wc)
      have hil := Lib.index_le r.data.toList [58]
      have hir := Lib.index_room r.data.toList [58]
      rw [len_of_size] at hil hir
      generalize hi : Lib.index r.data.toList (ByteArray.data ⟨#[58]⟩).toList = i at cI
      have hi' : Lib.index r.data.toList [58] = i := hi
      rw [hi'] at hil hir
      have hig := Lib.index_ge r.data.toList [58]
      rw [hi'] at hig
      have Hi := Lib.hid hi'
      clear hi hi' hgp hT2
      go_wp2_with fail
      (with_reducible refine (cP.out).mono ?_)
      rintro e w2 ⟨rfl, rfl⟩
      go_wp2_with fail
      (with_reducible refine (cI.out).mono ?_)
      rintro e w2 ⟨rfl, rfl⟩
      go_upto_if 45 with fail
      go_cut [0, 6] (fun s0 s6 wx => HRel5 s w s0 s6 wx)
      case first =>
        clear cP cI
        by_cases hi0 : 0 ≤ i
        · obtain ⟨k, rfl⟩ : ∃ k : Nat, i = k := ⟨i.toNat, by omega⟩
          have hk : k + 1 ≤ r.size := by have := hir hi0; simp at this; omega
          have hk1 : (k : Int) + 1 ≤ r.size := by omega
          have hz := extract_size_le r (k + 1) r.size
          have hz2 := extract_size_le r 0 k
          have cO := Lib.hid (port25_any (r.extract (k + 1) r.size) (by omega) wc)
          clear hir hig
          have hT2 := hH2.src
          have c6 := hT2.cell 6
          have f6 := hT2.free 6
          simp only [SrcB.cells] at c6
          simp at c6
          cases gp
          all_goals
            go_wp2_with fail
            (with_reducible refine (cO.out).mono ?_)
            rintro e w4 ⟨p, rfl, hp, rfl⟩
            generalize hpo : Lz.portP (r.extract (k + 1) r.size).data.toList = po at hp
            have Hpo := Lib.hid hpo
            clear hpo
            obtain ⟨pb, hpb⟩ : ∃ pb, pb = po.isSome := ⟨_, rfl⟩
            rw [← hpb]
            have Hpb := Lib.hid hpb
            clear hpb
            have hT3 := hT2.store (y := { y with port := p }) 6 (.int .i64 p) (by rfl)
            have hH3 := hH2.into ((Below.refl (w.heap.size + 1) wc).setCell (p := ⟨w.heap.size + 1, 6, none⟩) (Nat.le_refl _) (.int .i64 p)) hT3
            clear hT3
            go_wp2_with fail
            go_meet
            refine ⟨r.extract 0 k, _, { y with port := p }, rfl, rfl, by omega, hH3, ?_, by rw [HQ.out.2]⟩
            rw [HQ.out.1, hostedQ_hit Hi.out p (by rw [← extract_tail, Hpo.out]; exact hp.out), Hgp.out, ← extract_tail, Hpo.out, ← Hpb.out, extract_head]
            rfl
        · have Hin := Lib.hid (show i = -1 by omega)
          have hi1 : i < 0 := by omega
          clear hir hig
          go_wp2_with fail
          go_meet
          have h2 := HQ.out.2
          refine ⟨r, gp, y, rfl, rfl, hqz, hH2, ?_, by rw [h2]⟩
          rw [HQ.out.1, hostedQ_miss (by rw [Hi.out]; exact Hin.out), Hgp.out]
          rw [h2]
          rfl
      case rest =>
        clear hH2 cP cI Hi hil hig hir Hgp HQ c7
        obtain ⟨nm, gg, y, rfl, rfl, hnz, hH3, HQ⟩ := hcut
        have hT3 := hH3.src
        have c5 := hT3.cell 5
        have f5 := hT3.free 5
        simp only [SrcB.cells] at c5
        simp at c5
        by_cases hstar : nm.data.toList = [42]
        · have hst := eq_star true (decide_eq_true hstar)
          have hT4 := hT3.store (y := { y with wild := true }) 5 (.bool true) (by rfl)
          have hH4 := hH3.into ((Below.refl (w.heap.size + 1) wc).setCell (p := ⟨w.heap.size + 1, 5, none⟩) (Nat.le_refl _) (.bool true)) hT4
          have HF : Hid (Lz.hostedS s.data.toList = if gg then some (SrcB.src { y with wild := true }) else none) := by
            show _ = _
            rw [HQ.out.1]
            unfold hostR Lz.hostP
            rw [if_pos hstar]
            dsimp only
            rw [HQ.out.2]
            rfl
          obtain ⟨⟨cs, hcsz, hcs0, hR1⟩, hT5, hx1⟩ := hH4
          clear hT3 hT4 hstar hcs0 hH3
          have hTl : _ = some (Obj.cells #[.int .i64 y.kind, .string y.text, .int .i64 y.bits, .string y.scheme, .string y.host, .bool true, .int .i64 y.port, .string y.path] 28 (0, 0)) := hT5
          clear hT5
          go_wp2_with (first | (refine wpList_load_row rfl 28 _ rfl (w.heap.size + 1) rfl 28 _ (0, 0) _ hTl Tryz.underlying28 rfl srcSize ?_) | (refine store_src rfl _ _ rfl w.heap.size rfl rfl _ hR1 hcsz ?_))
          refine bodyPost_ret (results_src (u := 3) rfl _ _ w.heap.size { y with wild := true } (0, 0) rfl (setRow_heap _ _ _ _ _ _ hR1)) rfl ⟨{ y with wild := true }, ?_, ?_, below_setRow hx1 (Nat.le_refl _) _⟩
          · rw [HF.out]; cases gg <;> rfl
          · refine Lib.hid (fun z hz => ?_)
            rw [HF.out] at hz
            cases gg
            · cases hz
            · exact Option.some.inj hz
        · have hst := eq_star false (decide_eq_false hstar)
          have Hstar := Lib.hid hstar
          clear hstar
          have hpre : Lib.hasPrefix nm.data.toList [42, 46] = (decide (1 < (nm.size : Int)) && ((nm.extract 0 2).toList == [42, 46])) := by
            rw [Lib.toList_data, extract_head, show (List.take 2 nm.data.toList == [42, 46]) = Lib.hasPrefix nm.data.toList [42, 46] from Lz.take_prefix [42, 46] nm.data.toList]
            by_cases h : 1 < (nm.size : Int)
            · rw [decide_eq_true h]; rfl
            · rw [Lz.short_prefix (by rw [len_of_size]; simp; omega), decide_eq_false h]; rfl
          generalize hwb : Lib.hasPrefix nm.data.toList [42, 46] = wb at hpre
          have Hwb := Lib.hid hwb
          clear hwb
          go_upto_region 22 with fail
          go_cut [74] (fun s74 wx => s74 = .bool wb ∧ HRows w wx y)
          case first =>
            cases wb
            · have hcase : (nm.size : Int) ≤ 1 ∨ (1 < (nm.size : Int) ∧ ((nm.extract 0 2).toList == [42, 46]) = false) := by
                by_cases h : 1 < (nm.size : Int)
                · rw [decide_eq_true h] at hpre
                  exact Or.inr ⟨h, by rw [← Bool.true_and (_ == _)]; exact hpre.symm⟩
                · exact Or.inl (by omega)
              clear hpre
              rcases hcase with h1 | ⟨h1, h2⟩
              all_goals
                go_wp2_with fail
                go_meet
                exact ⟨rfl, hH3⟩
            · have hcase : 1 < (nm.size : Int) ∧ ((nm.extract 0 2).toList == [42, 46]) = true := by
                have h := hpre.symm
                rw [Bool.and_eq_true, decide_eq_true_eq] at h
                exact h
              obtain ⟨h1, h2⟩ := hcase
              clear hpre
              go_wp2_with fail
              go_meet
              exact ⟨rfl, hH3⟩
          case rest =>
            clear hpre hH3 hT3 c5 f5
            obtain ⟨rfl, hH3⟩ := hcut
            have hT3 := hH3.src
            have c5 := hT3.cell 5
            have f5 := hT3.free 5
            simp only [SrcB.cells] at c5
            simp at c5
            go_upto_if 74 with fail
            go_cut [0] (fun s0 wx => ∃ nn : ByteArray, s0 = .string nn ∧ nn.size ≤ 1048576 ∧ HRows w wx { y with wild := wb } ∧ Hid (nn.data.toList = Lib.trimPrefix nm.data.toList [42, 46]))
            case first =>
              cases wb
              · go_wp2_with fail
                go_meet
                refine ⟨nm, rfl, hnz, ?_, ?_⟩
                · have : ({ y with wild := false } : SrcB) = y := by rw [HQ.out.2]; rfl
                  rw [this]; exact hH3
                · show _ = _
                  unfold Lib.trimPrefix
                  rw [Hwb.out]
                  rfl
              · have hT4 := hT3.store (y := { y with wild := true }) 5 (.bool true) (by rfl)
                have hH4 := hH3.into ((Below.refl (w.heap.size + 1) wc).setCell (p := ⟨w.heap.size + 1, 5, none⟩) (Nat.le_refl _) (.bool true)) hT4
                have h2 : (2 : Int) ≤ nm.size := by
                  have h := Hwb.out
                  by_cases hl : nm.data.toList.length < ([42, 46] : List UInt8).length
                  · rw [Lz.short_prefix hl] at h; cases h
                  · rw [len_of_size] at hl; simp at hl; omega
                clear hT3 hT4 hH3
                go_wp2_with fail
                go_meet
                refine ⟨nm.extract 2 nm.size, rfl, Nat.le_trans (extract_size_le _ _ _) hnz, hH4, ?_⟩
                show _ = _
                unfold Lib.trimPrefix
                rw [Hwb.out, if_pos rfl, extract_tail]
                rfl
            case rest =>
              clear hH3 hT3 c5 f5 hst
              obtain ⟨nn, rfl, hnnz, hH5, Hnn⟩ := hcut
              have hT5 := hH5.src
              have cL := Lib.hid (Lower02_c nn (by omega) wc)
              go_wp2_with fail
              refine (cL.out).mono ?_
              rintro e w5 ⟨u, rfl, hu, hb5⟩
              have hH6 := hH5.call hb5
              have hT6 := hH6.src
              have c4 := hT6.cell 4
              have f4 := hT6.free 4
              simp only [SrcB.cells] at c4
              simp at c4
              have hT7 := hT6.store (y := { y with wild := wb, host := u }) 4 (.string u) (by rfl)
              have hH7 := hH6.into ((Below.refl (w.heap.size + 1) w5).setCell (p := ⟨w.heap.size + 1, 4, none⟩) (Nat.le_refl _) (.string u)) hT7
              have cN := Lib.hid (fun w => labels25_any nn (by omega) w)
              generalize hnb : Lz.namedB nn.data.toList = nb at cN
              have Hnb := Lib.hid hnb
              clear hnb hT5 hT6 hT7 hH5 hH6 hb5 cL
              go_upto_region 26 with fail
              have hx7 := hH7.below
              obtain ⟨⟨cs, hcsz, hcs0, hR7⟩, hT7, _⟩ := hH7
              generalize w5.setCell ⟨w.heap.size + 1, 4, none⟩ (.string u) = w7 at hx7 hR7 hT7 ⊢
              have hTl : w7.drew.heap[w.heap.size + 1]? = some (Obj.cells #[.int .i64 y.kind, .string y.text, .int .i64 y.bits, .string y.scheme, .string u, .bool wb, .int .i64 y.port, .string y.path] 28 (0, 0)) := hT7
              have hRl : w7.drew.heap[w.heap.size]? = some (Obj.cells cs 28 (0, 0)) := hR7
              have hx8 : Below w.heap.size w w7.drew := hx7.drew
              have k0 := hT7.cell 0
              have k1 := hT7.cell 1
              have k2 := hT7.cell 2
              have k3 := hT7.cell 3
              have k4 := hT7.cell 4
              have k5 := hT7.cell 5
              have k6 := hT7.cell 6
              have k7 := hT7.cell 7
              simp only [SrcB.cells] at k0 k1 k2 k3 k4 k5 k6 k7
              simp at k0 k1 k2 k3 k4 k5 k6 k7
              have r0 := row_at hR7 hcsz 0 (by decide)
              have r1 := row_at hR7 hcsz 1 (by decide)
              have r2 := row_at hR7 hcsz 2 (by decide)
              have r3 := row_at hR7 hcsz 3 (by decide)
              have r4 := row_at hR7 hcsz 4 (by decide)
              have r5 := row_at hR7 hcsz 5 (by decide)
              have r6 := row_at hR7 hcsz 6 (by decide)
              have r7 := row_at hR7 hcsz 7 (by decide)
              obtain ⟨r0, q0⟩ := r0
              obtain ⟨r1, q1⟩ := r1
              obtain ⟨r2, q2⟩ := r2
              obtain ⟨r3, q3⟩ := r3
              obtain ⟨r4, q4⟩ := r4
              obtain ⟨r5, q5⟩ := r5
              obtain ⟨r6, q6⟩ := r6
              obtain ⟨r7, q7⟩ := r7
              clear hT7 hcs0 f4 c4 hTl hRl
              have hR8 := row8 hR7 hcsz (.int .i64 y.kind) (.string y.text) (.int .i64 y.bits) (.string y.scheme) (.string u) (.bool wb) (.int .i64 y.port) (.string y.path)
              have hx9 := below8 hx7 (Nat.le_refl _) (.int .i64 y.kind) (.string y.text) (.int .i64 y.bits) (.string y.scheme) (.string u) (.bool wb) (.int .i64 y.port) (.string y.path)
              have HR8 := Lib.hid hR8
              have HX9 := Lib.hid hx9
              clear hR8 hx9 hx8 hx7 hR7
              have HP : Hid (Lz.hostP nm.data.toList = if nb then some (wb, Lz.low nn.data.toList) else none) := by
                show _ = _
                unfold Lz.hostP
                rw [if_neg Hstar.out, ← Hnn.out, Hnb.out, Hwb.out]
              have HF : Hid (Lz.hostedS s.data.toList = if nb && gg then some (SrcB.src { y with wild := wb, host := u }) else none) := by
                show _ = _
                rw [HQ.out.1]
                unfold hostR
                rw [HP.out]
                cases nb
                · rfl
                · simp only [if_true, Bool.true_and]
                  rw [HQ.out.2, ← hu.out]
                  rfl
              clear HP HQ
              cases gg
              · go_region
                go_wp2_with fail
                refine bodyPost_ret (results_src (u := 3) rfl _ _ w.heap.size { y with wild := wb, host := u } (0, 0) rfl (heap_drew HR8.out)) rfl ⟨{ y with wild := wb, host := u }, ?_, ?_, ?_⟩
                · rw [HF.out, Bool.and_false]; rfl
                · refine Lib.hid (fun z hz => ?_)
                  rw [HF.out, Bool.and_false] at hz
                  cases hz
                · exact HX9.out.drew
              · go_region_with ((go_at_call 59; refine (cN.out _).mono ?_; rintro e w9 ⟨rfl, rfl⟩))
                all_goals
                  go_wp2_with fail
                  refine bodyPost_ret (results_src (u := 3) rfl _ _ w.heap.size { y with wild := wb, host := u } (0, 0) rfl (heap_drew HR8.out)) rfl ⟨{ y with wild := wb, host := u }, ?_, ?_, ?_⟩
                  · rw [HF.out, Bool.and_true]; cases nb <;> rfl
                  · refine Lib.hid (fun z hz => ?_)
                    rw [HF.out, Bool.and_true] at hz
                    cases nb
                    · cases hz
                    · exact Option.some.inj hz
                  · exact HX9.out.drew
end Go.Proofs.YtkaejkjheajaaaaGreatDoor
