/-
  Package urls: TrimLeft at slashes, relative.
  Package urls: files.
  sync.Once.Do, one goroutine, not yet done: by the pattern of the kit's Lazy texts. (Types %t of the two Mutexes by number: two types bear one name.)
-/
import Derived.Test.YthijceooebebfaaGreatDoorM22
import Derived.Shelf.Strings.SlTrimAscii
import Derived.Tactics2
import Derived.Defers
import Derived.Laws.Pointers
import Derived.Laws.LoneSync
import Derived.RegionTactic
import Derived.RegionCalls
import Derived.ChangeAlike
namespace Lz
open Go
theorem lead_drop (sp : Bool) (l : Bs) : l.dropWhile (slashQ sp) = l.drop (leadS sp l) := by
  unfold leadS
  induction l with
  | nil => rfl
  | cons c r ih =>
    cases h : slashQ sp c with
    | true => simp [h, ih]
    | false => simp [h]
theorem lead_le (sp : Bool) (l : Bs) : leadS sp l ≤ l.length := by
  unfold leadS
  induction l with
  | nil => simp
  | cons c r ih =>
    cases h : slashQ sp c with
    | true => simp [h, ih]
    | false => simp [h]
end Lz
namespace Go.Proofs.YthijceooebebfaaGreatDoor
open Go.RowKit

theorem slashB_asc (sp : Bool) : ∀ (j : Nat) b, (slashB sp).data.toList[j]? = some b → b.toNat < 128 := by
  cases sp
  · exact ascii_of_all (by decide)
  · exact ascii_of_all (by decide)
theorem slashB_size (sp : Bool) : (slashB sp).size < 4294967281 := by cases sp <;> decide
theorem TrimLeft_sl (s : ByteArray) (sp : Bool) (w : World) : Calls Tryz.prog 70 #[.string s, .string (slashB sp)] w (RStr (s.data.toList.drop (Lz.leadS sp s.data.toList)) w) := by
  refine (Any.strings_TrimLeft_laid Tryz.lays161 (by kernel_rfl) s (slashB sp) w (slashB_size sp) (slashB_asc sp)).mono ?_
  rintro e w' ⟨h1, h2⟩
  refine ⟨_, h1, Lib.hid ?_, h2⟩
  show Lib.trimLeftS s.data.toList (slashB sp).data.toList = _
  unfold Lib.trimLeftS
  have : (slashB sp).data.toList.contains = Lz.slashQ sp := by
    rw [← Lz.slash_contains sp]; cases sp <;> rfl
  rw [← Lz.lead_drop, this]
theorem extract_from (s : ByteArray) (k : Nat) : (s.extract k s.size).data.toList = s.data.toList.drop k := extract_tail' s k
theorem urlSize : (Tryz.prog.info? 27).map (·.size) = some 12 := by kernel_rfl
theorem relU_def (u b : Lz.UrlL) (r : List UInt8) (sp : Bool) (hsp : Lz.specP u.scheme = sp) : Lz.relU u b r = if 1 < Lz.leadS sp r then Lz.hostedU u (if sp then r.drop (Lz.leadS sp r) else r.drop 2) else if Lz.leadS sp r = 1 then .ok (Lz.onP (Lz.restU u b) (r.drop 1)) else .ok (Lz.pathU (Lz.restU u b) b r) := by
  unfold Lz.relU; rw [hsp]

set_option maxHeartbeats 2000000 in
set_option maxRecDepth 100000 in
theorem relM_any (B M : Nat) (u b : Lz.UrlL) (v : Value) (r : ByteArray) (hr : r.size ≤ 900000) (w : World) (hE : EnvH w) (hm : MkIs B M w u) (hB : B ≤ w.heap.size) (hBg : 9 ≤ B) (hv : UrlKept B w v b) (hL : b.path.length ≤ 40000000) (hL2 : u.path.length ≤ 40000000) :
    Calls Tryz.prog 67 #[.pointer (some ⟨M, 0, none⟩), v, .string r] w (RMkE B M (Lz.relU u b r.data.toList) w) := by
  obtain ⟨sch2, usr2, pas2, hh2, hst2, prt2, opq2, a2, c2, xs2, hq2, hf2, qry2, frg2, hvv, hbx, hcells2⟩ := hv.now.form
  obtain ⟨W, hW⟩ : ∃ W, W = w.alloc (.cells #[.string sch2, .string usr2, .string pas2, .bool hh2, .string hst2, .int .i64 prt2, .bool opq2, .slice a2 xs2.length c2, .bool hq2, .bool hf2, .string qry2, .string frg2] 27) := ⟨_, rfl⟩
  have hbW : Below w.heap.size w W := by rw [hW]; exact (Below.refl _ w).alloc (Nat.le_refl _) _
  have hBW : B ≤ W.heap.size := Nat.le_trans hB hbW.size
  have hR : W.heap[w.heap.size]? = some (.cells #[.string sch2, .string usr2, .string pas2, .bool hh2, .string hst2, .int .i64 prt2, .bool opq2, .slice a2 xs2.length c2, .bool hq2, .bool hf2, .string qry2, .string frg2] 27 (0, 0)) := by
    rw [hW]; show (w.heap.push _)[w.heap.size]? = _; simp
  have hwl : w.heap.size < W.heap.size := row_lt hR
  have hmW := hm.below hbW
  have hEW := hE.below hbW
  have hMl : M < w.heap.size := by obtain ⟨x, hx, _⟩ := hm; exact row_lt hx.row
  obtain ⟨sp, hsp⟩ : ∃ sp, sp = Lz.specP u.scheme := ⟨_, rfl⟩
  obtain ⟨n, hn⟩ : ∃ n, n = Lz.leadS sp r.data.toList := ⟨_, rfl⟩
  have hU := relU_def u b r.data.toList sp hsp.symm
  rw [← hn] at hU
  obtain ⟨goal, hgoal⟩ : ∃ goal, goal = Lz.relU u b r.data.toList := ⟨_, rfl⟩
  rw [← hgoal] at hU ⊢
  have h12 : W.cell? ⟨M, 12, none⟩ = some (.bool sp) ∧ W.cell? ⟨M, 13, none⟩ = some (.string (slashB sp)) := by
    obtain ⟨sch, usr, pas, hh, hst, prt, opq, a, c, xs, hq, hf, qry, frg, hk, rfl, _, _⟩ := hmW.form
    rw [hsp]; exact ⟨rowAt hk.row 12 _ rfl, rowAt hk.row 13 _ rfl⟩
  obtain ⟨h12, h13⟩ := h12
  have cT := Lib.hid (TrimLeft_sl r sp W)
  rw [← hn] at cT
  have hnl : n ≤ r.size := by rw [hn, ← len_of_size]; exact Lz.lead_le _ _
  have HV := Lib.hid hv
  have HU := Lib.hid hU
  have HR := Lib.hid hR
  have HM := Lib.hid hmW
  have HW : Hid (W = w.alloc (.cells #[.string sch2, .string usr2, .string pas2, .bool hh2, .string hst2, .int .i64 prt2, .bool opq2, .slice a2 xs2.length c2, .bool hq2, .bool hf2, .string qry2, .string frg2] 27)) := Lib.hid hW
  have Hvv := Lib.hid hvv.symm
  subst hvv
  clear hv hU hR hmW hm hE hcells2 hgoal hn hsp hbx hW
  go_enter Tryz.func67, Tryz.ntmps67
  go_wp2_with (rw [← HW.out])
  refine cT.out.mono ?_
  rintro e w1 ⟨tb, rfl, htb, hb1⟩
  have htz : tb.size = r.size - n := by rw [← len_of_size, htb.out, List.length_drop, len_of_size]
  have hsub : (r.size : Int) - (tb.size : Int) = (n : Int) := by omega
  have hsub2 : IntKind.i64.wrap (n : Int) = (n : Int) := IntWalk.i64_in _ (by omega)
  have g12 : w1.cell? ⟨M, 12, none⟩ = some (.bool sp) := by rw [hb1.cell (p := ⟨M, 12, none⟩) (show M < _ by omega)]; exact h12
  have hR1 : w1.heap[w.heap.size]? = _ := (hb1.block _ hwl).trans HR.out
  have hm1 := HM.out.below hb1
  have hE1 := hEW.below hb1
  have hB1 : B ≤ w1.heap.size := Nat.le_trans hBW hb1.size
  have hb01 : Below B w w1 := (hbW.mono hB).trans (hb1.mono hBW)
  have hv1 := HV.out.at hb01
  have hwl1 : w.heap.size < w1.heap.size := row_lt hR1
  clear htb htz cT h12 h13
  rcases Nat.lt_or_ge 1 n with hn1 | hn1
  · have hn1I : (1 : Int) < (n : Int) := by omega
    have hn0 : (0 : Int) ≤ (n : Int) := by omega
    have hnI : (n : Int) ≤ (r.size : Int) := by omega
    have h2I : (2 : Int) ≤ (r.size : Int) := by omega
    cases sp with
    | true =>
      have HG : Hid (goal = Lz.hostedU u (r.extract n r.size).data.toList) := by show _ = _; rw [HU.out, if_pos hn1, if_pos rfl, extract_from]
      have cH := Lib.hid (hostedM_any B M u (r.extract n r.size) (by have := extract_size_le' r n r.size; omega) w1 hE1 hm1 hB1 hBg (by omega))
      go_wp2_with fail
      refine cH.out.mono ?_
      rintro e w2 ⟨v2, rfl, hb2, hres⟩
      go_wp2_with fail
      go_ret
      refine ⟨_, rfl, hb01.trans hb2, ?_⟩
      rw [HG.out]; exact hres
    | false =>
      have HG : Hid (goal = Lz.hostedU u (r.extract 2 r.size).data.toList) := by show _ = _; rw [HU.out, if_pos hn1, if_neg (by simp), extract_from]
      have cH := Lib.hid (hostedM_any B M u (r.extract 2 r.size) (by have := extract_size_le' r 2 r.size; omega) w1 hE1 hm1 hB1 hBg (by omega))
      go_wp2_with fail
      refine cH.out.mono ?_
      rintro e w2 ⟨v2, rfl, hb2, hres⟩
      go_wp2_with fail
      go_ret
      refine ⟨_, rfl, hb01.trans hb2, ?_⟩
      rw [HG.out]; exact hres
  · have hn1I : ¬ ((1 : Int) < (n : Int)) := by omega
    have cR := rest_any B M u b _ w1 hm1 hB1 (hv1.now)
    have CR := Lib.hid cR
    clear cR
    by_cases hn2 : n = 1
    · have hnb : ((n : Int) == 1) = true := by rw [hn2]; rfl
      have h1I : (1 : Int) ≤ (r.size : Int) := by omega
      have HG : Hid (goal = .ok (Lz.onP (Lz.restU u b) (r.extract 1 r.size).data.toList)) := by show _ = _; rw [HU.out, if_neg (by omega), if_pos hn2, extract_from]
      clear hn2
      have HRX := hR1
      go_wp2_with (refine wpList_load_row rfl 27 (.tmp 4) rfl w.heap.size rfl 27 _ (0, 0) _ HRX Tryz.underlying27 rfl urlSize ?_)
      refine CR.out.mono ?_
      rintro e w2 ⟨⟨rfl, hb2, hm2⟩, _⟩
      have hb02 := hb01.trans hb2
      have cO := Lib.hid (on_any B M (r.extract 1 r.size) _ w2 (hE1.at hb2 hBg) hm2 (Nat.le_trans hB1 hb2.size) hBg (by show u.path.length + _ ≤ _; have := extract_size_le' r 1 r.size; omega))
      go_wp2_with fail
      refine cO.out.mono ?_
      rintro e w3 ⟨rfl, hb3, hm3⟩
      go_wp2_with fail
      go_ret
      refine ⟨_, rfl, hb02.trans hb3, ?_⟩
      rw [HG.out]; exact ⟨rfl, hm3⟩
    · have hnb : ((n : Int) == 1) = false := by rw [beq_eq_false_iff_ne]; omega
      have HG : Hid (goal = .ok (Lz.pathU (Lz.restU u b) b r.data.toList)) := by show _ = _; rw [HU.out, if_neg (by omega), if_neg hn2]
      clear hn2
      have HRX := hR1
      go_wp2_with (refine wpList_load_row rfl 27 (.tmp 4) rfl w.heap.size rfl 27 _ (0, 0) _ HRX Tryz.underlying27 rfl urlSize ?_)
      refine CR.out.mono ?_
      rintro e w2 ⟨⟨rfl, hb2, hm2⟩, hkeep⟩
      have hR2 := (hkeep w.heap.size hwl1 (by omega)).trans hR1
      have hb02 := hb01.trans hb2
      have cP := Lib.hid (pathM_any B M _ b _ r w2 (hE1.at hb2 hBg) hm2 (Nat.le_trans hB1 hb2.size) hBg (hv1.at hb2).now (by omega))
      clear hkeep HRX hR1
      have HRX := hR2
      go_wp2_with (refine wpList_load_row rfl 27 (.tmp 4) rfl w.heap.size rfl 27 _ (0, 0) _ HRX Tryz.underlying27 rfl urlSize ?_)
      refine cP.out.mono ?_
      rintro e w3 ⟨rfl, hb3, hm3⟩
      go_wp2_with fail
      go_ret
      refine ⟨_, rfl, hb02.trans hb3, ?_⟩
      rw [HG.out]; exact ⟨rfl, hm3⟩
end Go.Proofs.YthijceooebebfaaGreatDoor

namespace Go.Proofs.YthijceooebebfaaGreatDoor
open Go.RowKit

/-- A base, as the program is handed it: none, or where its value lies. -/
def BaseAt (B : Nat) (w : World) (bv : Value) : Option Lz.UrlL → Prop
  | none => bv = .pointer none
  | some u => ∃ (p : Nat) (fr : Nat × Nat) (sch usr pas : ByteArray) (hh : Bool) (hst : ByteArray) (prt : Int) (opq : Bool) (a : Option Addr) (c : Nat) (xs : List ByteArray) (hq hf : Bool) (qry frg : ByteArray), bv = .pointer (some ⟨p, 0, none⟩) ∧ p < B ∧
      w.heap[p]? = some (.cells #[.string sch, .string usr, .string pas, .bool hh, .string hst, .int .i64 prt, .bool opq, .slice a xs.length c, .bool hq, .bool hf, .string qry, .string frg] 27 fr) ∧
      u = ⟨sch.data.toList, usr.data.toList, pas.data.toList, hh, hst.data.toList, prt, opq, xs.map (fun x : ByteArray => x.data.toList), hq, hf, qry.data.toList, frg.data.toList⟩ ∧
      ∀ (j : Nat) (x : ByteArray), xs[j]? = some x → ∃ G off, a = some ⟨G, off, none⟩ ∧ G < B ∧ w.cell? ⟨G, off + j, none⟩ = some (.string x)
theorem BaseAt.at {B : Nat} {w w' : World} {bv : Value} {b : Option Lz.UrlL} (h : BaseAt B w bv b) (hb : Below B w w') : BaseAt B w' bv b := by
  cases b with
  | none => exact h
  | some u =>
    obtain ⟨p, fr, sch, usr, pas, hh, hst, prt, opq, a, c, xs, hq, hf, qry, frg, h1, h2, h3, h4, h5⟩ := h
    refine ⟨p, fr, sch, usr, pas, hh, hst, prt, opq, a, c, xs, hq, hf, qry, frg, h1, h2, by rw [hb.block p h2]; exact h3, h4, fun j x hj => ?_⟩
    obtain ⟨G, off, e1, e2, e3⟩ := h5 j x hj
    exact ⟨G, off, e1, e2, by rw [hb.cell (p := ⟨G, off + j, none⟩) e2]; exact e3⟩
/-- What the base holds, as a value. -/
theorem base_kept {B : Nat} {w : World} {sch usr pas : ByteArray} {hh : Bool} {hst : ByteArray} {prt : Int} {opq : Bool} {a : Option Addr} {c : Nat} {xs : List ByteArray} {hq hf : Bool} {qry frg : ByteArray} (hB : B ≤ w.heap.size)
    (h : ∀ (j : Nat) (x : ByteArray), xs[j]? = some x → ∃ G off, a = some ⟨G, off, none⟩ ∧ G < B ∧ w.cell? ⟨G, off + j, none⟩ = some (.string x)) :
    UrlKept B w (.agg #[.string sch, .string usr, .string pas, .bool hh, .string hst, .int .i64 prt, .bool opq, .slice a xs.length c, .bool hq, .bool hf, .string qry, .string frg]) ⟨sch.data.toList, usr.data.toList, pas.data.toList, hh, hst.data.toList, prt, opq, xs.map (fun x : ByteArray => x.data.toList), hq, hf, qry.data.toList, frg.data.toList⟩ := by
  intro w' hb
  refine ⟨⟨sch, usr, pas, hh, hst, prt, opq, .slice a xs.length c, xs, hq, hf, qry, frg⟩, rfl, ⟨a, c, xs, rfl, rfl, fun j x hj => ?_⟩, Lib.hid rfl⟩
  obtain ⟨G, off, e1, e2, e3⟩ := h j x hj
  exact ⟨G, off, e1, Nat.lt_of_lt_of_le e2 (Nat.le_trans hB hb.size), by rw [hb.cell (p := ⟨G, off + j, none⟩) e2]; exact e3⟩
theorem mk_cell {B M : Nat} {w : World} {u : Lz.UrlL} (hm : MkIs B M w u) (k : Nat) (hk : k < 14) : ∃ v, w.cell? ⟨M, k, none⟩ = some v ∧ w.frozen? ⟨M, k, none⟩ = false := by
  obtain ⟨x, hx, _⟩ := hm
  refine ⟨_, rowAt hx.row k _ (Array.getElem?_eq_getElem (by simpa using hk)), rowFz hx.row k⟩
theorem mk_host {B M : Nat} {w w1 : World} {u : Lz.UrlL} (hm : MkIs B M w1 u) (hb : Below B w w1) (h : ByteArray) :
    Below B w (w1.setCell ⟨M, 4, none⟩ (.string h)) ∧ MkIs B M (w1.setCell ⟨M, 4, none⟩ (.string h)) { u with host := h.data.toList } := by
  obtain ⟨sch, usr, pas, hh, hst, prt, opq, a, c, ys, hq, hf, qry, frg, hk, rfl, hc, hcells⟩ := hm.form
  exact ⟨hb.setCell (p := ⟨M, 4, none⟩) hk.le _, _, mk_set hk 4 (.string h) ⟨sch, usr, pas, hh, h, prt, opq, .slice a ys.length c, ys, hq, hf, qry, frg⟩ (Lz.specP sch.data.toList) (slashB (Lz.specP sch.data.toList)) (by simp) (fun _ h => h), Lib.hid rfl⟩
theorem mk_hh {B M : Nat} {w w1 : World} {u : Lz.UrlL} (hm : MkIs B M w1 u) (hb : Below B w w1) (q : Bool) :
    Below B w (w1.setCell ⟨M, 3, none⟩ (.bool q)) ∧ MkIs B M (w1.setCell ⟨M, 3, none⟩ (.bool q)) { u with hasHost := q } := by
  obtain ⟨sch, usr, pas, hh, hst, prt, opq, a, c, ys, hq, hf, qry, frg, hk, rfl, hc, hcells⟩ := hm.form
  exact ⟨hb.setCell (p := ⟨M, 3, none⟩) hk.le _, _, mk_set hk 3 (.bool q) ⟨sch, usr, pas, q, hst, prt, opq, .slice a ys.length c, ys, hq, hf, qry, frg⟩ (Lz.specP sch.data.toList) (slashB (Lz.specP sch.data.toList)) (by simp) (fun _ h => h), Lib.hid rfl⟩
theorem mk_get {B M : Nat} {w : World} {u : Lz.UrlL} (hm : MkIs B M w u) : ∃ hst : ByteArray, w.cell? ⟨M, 4, none⟩ = some (.string hst) ∧ hst.data.toList = u.host := by
  obtain ⟨sch, usr, pas, hh, hst, prt, opq, a, c, ys, hq, hf, qry, frg, hk, rfl, hc, hcells⟩ := hm.form
  exact ⟨hst, rowAt hk.row 4 _ rfl, rfl⟩
theorem mk_sp {B M : Nat} {w : World} {u : Lz.UrlL} (hm : MkIs B M w u) {sp : Bool} (hsp : sp = Lz.specP u.scheme) : w.cell? ⟨M, 12, none⟩ = some (.bool sp) ∧ w.cell? ⟨M, 13, none⟩ = some (.string (slashB sp)) := by
  obtain ⟨sch, usr, pas, hh, hst, prt, opq, a, c, xs, hq, hf, qry, frg, hk, rfl, _, _⟩ := hm.form
  rw [hsp]; exact ⟨rowAt hk.row 12 _ rfl, rowAt hk.row 13 _ rfl⟩
theorem path_one (w : World) (B : Nat) (x : ByteArray) : PathOwn (w.alloc (.cells #[.string x] 9)) B (.slice (some ⟨w.heap.size, 0, none⟩) 1 1) [x] :=
  .inr ⟨⟨w.heap.size, 0, none⟩, rfl, rfl, fun j u hj => cell_one w (.string x) 9 j u hj, fun _ => ⟨#[.string x], (0, 0), by show (w.heap.push _)[w.heap.size]? = _; simp⟩⟩

/-- What files does behind the slashes: with two and more. -/
theorem filesU_two (u : Lz.UrlL) (b : Option Lz.UrlL) (r : List UInt8) (h : 1 < Lz.leadS true r) : Lz.filesU u b r =
    (if Lz.driveP (Lz.cutS true (r.drop 2)).1 then .ok (Lz.onP { u with hasHost := true } (r.drop 2))
    else (if (Lz.cutS true (r.drop 2)).1 = [] then Lz.UR.ok { u with hasHost := true } else Lz.hostU { u with hasHost := true } (Lz.cutS true (r.drop 2)).1).bind fun u => .ok (Lz.onP (if u.host = Lz.localS then { u with host := [] } else u) (Lz.cutS true (r.drop 2)).2.1)) := by
  unfold Lz.filesU; simp only; rw [if_pos h]
theorem filesU_one (u : Lz.UrlL) (b : Option Lz.UrlL) (r : List UInt8) (h : Lz.leadS true r = 1) : Lz.filesU u b r =
    .ok (Lz.onP (match b with
      | some x => if x.scheme = Lz.fileS then (if Lz.drivenP (r.drop 1) = false ∧ Lz.rootedP x.path = true then { u with hasHost := true, host := x.host, path := x.path.take 1 } else { u with hasHost := true, host := x.host }) else { u with hasHost := true }
      | none => { u with hasHost := true }) (r.drop 1)) := by
  unfold Lz.filesU; simp only; rw [if_neg (by omega), if_pos h]
  cases b <;> rfl
theorem filesU_none (u : Lz.UrlL) (b : Option Lz.UrlL) (r : List UInt8) (h : Lz.leadS true r = 0) : Lz.filesU u b r = match b with
    | some x => if x.scheme = Lz.fileS then (if Lz.drivenP r then .ok (Lz.onP { u with hasHost := true, host := x.host } r) else .ok (Lz.pathU { u with hasHost := true, host := x.host } x r)) else .ok (Lz.onP { u with hasHost := true } r)
    | none => .ok (Lz.onP { u with hasHost := true } r) := by
  unfold Lz.filesU; simp only; rw [if_neg (by omega), if_neg (by omega)]
  cases b <;> rfl
end Go.Proofs.YthijceooebebfaaGreatDoor

namespace Go.Proofs.YthijceooebebfaaGreatDoor
open Go.RowKit

theorem disableO (w : World) : (callFunc 178 #[]).run Tryz.prog w = .ok (.value (.tuple #[])) w := run_call_mark0 Tryz.func178 (by kernel_rfl) (by kernel_rfl) (by kernel_rfl) .disable (by kernel_rfl) w
theorem enableO (w : World) : (callFunc 180 #[]).run Tryz.prog w = .ok (.value (.tuple #[])) w := run_call_mark0 Tryz.func180 (by kernel_rfl) (by kernel_rfl) (by kernel_rfl) .enable (by kernel_rfl) w
theorem acquireO (a : Addr) (w : World) : (callFunc 181 #[.pointer (some a)]).run Tryz.prog w = .ok (.value (.tuple #[])) w := run_call_marked Tryz.func181 (by kernel_rfl) (by kernel_rfl) (by kernel_rfl) .acquire (by kernel_rfl) a w
theorem releaseO (a : Addr) (w : World) : (callFunc 183 #[.pointer (some a)]).run Tryz.prog w = .ok (.value (.tuple #[])) w := run_call_marked Tryz.func183 (by kernel_rfl) (by kernel_rfl) (by kernel_rfl) .releaseMerge (by kernel_rfl) a w

set_option maxRecDepth 100000 in
/-- '(*sync/atomic.Bool).Store(true)', entered as a deferred call: the cell holds 1. -/
theorem storeO (a : Addr) (x : Value) (u : FrameMode) (w : World) (hc : w.cell? a = some x) (hz : w.frozen? a = false) :
    CallsD Tryz.prog 154 #[.pointer (some a), .bool true] u w fun e u' w' => u' = u ∧ (e = .returned (.tuple #[]) ∧ w' = w.drew.setCell a (.int .u32 1)) := by
  have hc' : w.drew.cell? a = some x := by go_simp
  have hz' : w.drew.frozen? a = false := by go_simp
  have hst := run_call_store (P := Tryz.prog) Tryz.func166 (by kernel_rfl) (by kernel_rfl) (by kernel_rfl) (by kernel_rfl) (k := .u32) (y := 1) hc' hz'
  go_enter_d Tryz.func154, Tryz.ntmps154
  go_wp2
  go_region_calls
  all_goals (go_end0; exact ⟨rfl, rfl⟩)

set_option maxRecDepth 100000 in
/-- '(*sync.Mutex).Unlock', entered as a deferred call, the lock held and nobody waiting. -/
theorem unlockO (a : Addr) (u : FrameMode) (w : World) (hc : w.cell? a = some (.int .i32 1)) (hz : w.frozen? a = false) :
    CallsD Tryz.prog 153 #[.pointer (some a)] u w fun e u' w' => u' = u ∧ (e = .returned (.tuple #[]) ∧ w' = w.setCell a (.int .i32 0)) := by
  have hd := disableO
  have he := enableO
  have hr := releaseO
  have hadd := run_call_add (P := Tryz.prog) Tryz.func184 (by kernel_rfl) (by kernel_rfl) (by kernel_rfl) .i32 (by kernel_rfl) (y := -1) (s := 0) hc hz (by simp [go_sem]; rfl)
  have hcv := run_convert_to_unsafe (P := Tryz.prog) (src := 223) (dst := 77) Tryz.underlying223 Tryz.underlying77 (by kernel_rfl) hc
  go_enter_d Tryz.func153, Tryz.ntmps153
  go_wp2
  go_end0
  go_wp2
  go_end0
  exact ⟨rfl, rfl⟩

set_option maxRecDepth 100000 in
/-- '(*sync.Mutex).Lock', the lock free. -/
theorem lockO (a : Addr) (w : World) (hc : w.cell? a = some (.int .i32 0)) (hz : w.frozen? a = false) :
    Calls Tryz.prog 152 #[.pointer (some a)] w fun e w' => e = .returned (.tuple #[]) ∧ w' = w.setCell a (.int .i32 1) := by
  have hd := disableO
  have he := enableO
  have ha := acquireO
  have hcas := run_call_cas_hit (P := Tryz.prog) Tryz.func179 (by kernel_rfl) (by kernel_rfl) (by kernel_rfl) .i32 (by kernel_rfl) (y := 1) hc hz
  have hc' : (w.setCell a (.int .i32 1)).cell? a = some (.int .i32 1) := World.cell?_setCell_same w a _ hc
  have hcv := run_convert_to_unsafe (P := Tryz.prog) (src := 223) (dst := 77) Tryz.underlying223 Tryz.underlying77 (by kernel_rfl) hc'
  go_enter Tryz.func152, Tryz.ntmps152
  go_wp2
  first | go_end0 | (simp only [Exit.inBlock, Exit.then]; refine bodyPost_ret (results_none rfl _ _ _) rfl ?_) | refine bodyPost_ret (results_none rfl _ _ _) rfl ?_
  go_wp2
  go_end0
  exact ⟨rfl, rfl⟩

/-- The built replacer: what is said of it stays where other kinds of blocks are written. -/
structure BsRep (w : World) (g : Nat) : Prop where
  row : ∃ cs : Array Value, w.heap[g]? = some (.cells cs 187 (0, 0)) ∧ (∀ k : Nat, k < 256 → (if k = 9 ∨ k = 10 ∨ k = 13 then ∃ A c, cs[k]? = some (.slice (some A) 0 c) else cs[k]? = some (.slice none 0 0))) ∧
    ∃ G c cs2, cs[256]? = some (.slice (some ⟨G, 0, none⟩) 3 c) ∧ w.heap[G]? = some (.cells cs2 9 (0, 0)) ∧ cs2[0]? = some (.string ⟨#[13]⟩) ∧ cs2[1]? = some (.string ⟨#[10]⟩) ∧ cs2[2]? = some (.string ⟨#[9]⟩)
theorem BsRep.kept {w w' : World} {g : Nat} (h : BsRep w g) (hk : ∀ (k : Nat) (cs : Array Value) (t : TypeId), w.heap[k]? = some (.cells cs t (0, 0)) → t = 187 ∨ t = 9 → w'.heap[k]? = w.heap[k]?) : BsRep w' g := by
  obtain ⟨cs, h1, h2, G, c, cs2, h3, h4, h5⟩ := h.row
  exact ⟨cs, by rw [hk g cs _ h1 (.inl rfl)]; exact h1, h2, G, c, cs2, h3, by rw [hk G cs2 _ h4 (.inr rfl)]; exact h4, h5⟩
/-- strings.Replacer's block. -/
def RepRow (w : World) (b : Nat) (d s e : Int) (rv ov : Value) : Prop := w.heap[b]? = some (.cells #[.int .u32 d, .int .i32 s, .int .u32 e, rv, ov] 123 (0, 0))
theorem BsRep.set {w : World} {g b : Nat} {d s e : Int} {rv ov : Value} (h : BsRep w g) (hr : RepRow w b d s e rv ov) (k : Nat) (v : Value) : BsRep (w.setCell ⟨b, k, none⟩ v) g :=
  h.kept fun j _ _ hj ht => setCell_other (fun e => by
    have e' : j = b := e
    rw [e', show w.heap[b]? = _ from hr] at hj
    injection hj with hj
    injection hj with _ h2 _
    rcases ht with ht | ht <;> (rw [ht] at h2; exact absurd h2 (by decide))) v
theorem BsRep.below {w w' : World} {g : Nat} (h : BsRep w g) (hb : Below w.heap.size w w') : BsRep w' g   := h.kept fun j _ _ hj _ => hb.block j (row_lt hj)
theorem RepRow.set {w : World} {b : Nat} {d s e : Int} {rv ov : Value} (h : RepRow w b d s e rv ov) (k : Nat) (v : Value) {d' s' : Int} {rv' ov' : Value} (hc : (#[.int .u32 d, .int .i32 s, .int .u32 e, rv, ov] : Array Value).setIfInBounds k v = #[.int .u32 d', .int .i32 s', .int .u32 e, rv', ov']) : RepRow (w.setCell ⟨b, k, none⟩ v) b d' s' e rv' ov' := rowSet h k v hc
/-- The replacer is built. -/
def RBuilt1 (B b : Nat) (d s e : Int) (w : World) (w' : World) : Prop := Below B w w' ∧ ∃ g, RepRow w' b d s e (.iface 188 (.pointer (some ⟨g, 0, none⟩))) (.slice none 0 0) ∧ BsRep w' g
set_option maxRecDepth 100000 in
set_option maxHeartbeats 2000000 in
theorem slowO (B b : Nat) (e : Int) (rv ov : Value) (w : World) (hBb : B ≤ b) (hrow : RepRow w b 0 0 e rv ov)
    (cB : ∀ W, Below B w W → W = w.setCell ⟨b, 1, none⟩ (.int .i32 1) → Calls Tryz.prog 92 #[.pointer (some ⟨b, 0, none⟩)] W fun e' W' => e' = .returned (.tuple #[]) ∧ RBuilt1 B b 0 1 e W W') :
    Calls Tryz.prog 133 #[.pointer (some ⟨b, 0, none⟩), .func (.func 92) #[.pointer (some ⟨b, 0, none⟩)] #[]] w fun e' w' => e' = .returned (.tuple #[]) ∧ RBuilt1 B b 1 0 e w w' := by
  have c0 := rowAt hrow 0 (.int .u32 0) rfl
  have c1 := rowAt hrow 1 (.int .i32 0) rfl
  have f0 := rowFz hrow 0
  have f1 := rowFz hrow 1
  have hl := run_call_load (P := Tryz.prog) Tryz.func151 (by kernel_rfl) (by kernel_rfl) (by kernel_rfl) .u32 (by kernel_rfl) (w := w.setCell ⟨b, 1, none⟩ (.int .i32 1)) (a := ⟨b, 0, none⟩) (x := 0) ((World.cell?_setCell_other _ ⟨b, 1, none⟩ ⟨b, 0, none⟩ _ (by simp)).trans c0)
  have hnot : ∀ (x : Bool) (w : World), (Op.unary .not (.bool x)).run Tryz.prog w = .ok (.bool (!x)) w := fun _ _ => rfl
  have hb1 : Below B w (w.setCell ⟨b, 1, none⟩ (.int .i32 1)) := (Below.refl B w).setCell (p := ⟨b, 1, none⟩) hBb _
  have CB := Lib.hid (cB _ hb1 rfl)
  have Hb1 := Lib.hid hb1
  clear cB hb1
  go_enter_defers Tryz.func133, Tryz.ntmps133
  go_wp2_with (first | (go_at_call 152; refine (lockO ⟨b, 1, none⟩ _ (by go_simp) (by go_simp)).mono ?_; rintro e w' ⟨rfl, rfl⟩) | (go_at_call 132; go_in) | (go_at_call 92; refine CB.out.mono ?_; rintro e2 w2 ⟨rfl, hw2⟩))
  obtain ⟨hbw, g, hr2, hbs⟩ := hw2
  have d0 := rowAt hr2 0 (.int .u32 0) rfl
  have d1 := rowAt hr2 1 (.int .i32 1) rfl
  have z0 := rowFz hr2 0
  have z1 := rowFz hr2 1
  have hr3 : RepRow (w2.drew.setCell ⟨b, 0, none⟩ (.int .u32 1)) b 1 1 e (.iface 188 (.pointer (some ⟨g, 0, none⟩))) (.slice none 0 0) := RepRow.set (w := w2.drew) hr2 0 (.int .u32 1) (by simp)
  have hbs3 : BsRep (w2.drew.setCell ⟨b, 0, none⟩ (.int .u32 1)) g := BsRep.set (w := w2.drew) (hbs.kept fun _ _ _ _ _ => rfl) hr2 0 _
  have hr4 := RepRow.set hr3 1 (.int .i32 0) (d' := 1) (s' := 0) (rv' := .iface 188 (.pointer (some ⟨g, 0, none⟩))) (ov' := .slice none 0 0) (by simp)
  have hbs4 := BsRep.set hbs3 hr3 1 (.int .i32 0)
  refine leaves_cons (f := 154) (args := #[.pointer (some ⟨b, 0, none⟩), .bool true]) (by simp) (by simp [go_sem]) ?_
  refine (storeO ⟨b, 0, none⟩ (.int .u32 0) .returning _ d0 z0).mono ?_
  rintro e3 u3 w3 ⟨rfl, rfl, rfl⟩
  refine leaves_cons (f := 153) (args := #[.pointer (some ⟨b, 1, none⟩)]) (by simp [settle]) (by simp [go_sem]) ?_
  refine (unlockO ⟨b, 1, none⟩ _ _ (rowAt hr3 1 _ rfl) (rowFz hr3 1)).mono ?_
  rintro e3 u3 w3 ⟨rfl, rfl, rfl⟩
  have hB4 : Below B w ((w2.drew.setCell ⟨b, 0, none⟩ (.int .u32 1)).setCell ⟨b, 1, none⟩ (.int .i32 0)) := ((Hb1.out.trans hbw).drew.setCell (p := ⟨b, 0, none⟩) hBb _).setCell (p := ⟨b, 1, none⟩) hBb _
  have HF : Hid (RBuilt1 B b 1 0 e w ((w2.drew.setCell ⟨b, 0, none⟩ (.int .u32 1)).setCell ⟨b, 1, none⟩ (.int .i32 0))) := ⟨hB4, g, hr4, hbs4⟩
  clear hr2 hr3 hr4 hbs hbs3 hbs4 hB4
  simp [Leaves, settle, results, Tryz.results133]
  exact HF.out
set_option maxRecDepth 100000 in
set_option maxHeartbeats 2000000 in
/-- sync.Once.Do, not yet done. -/
theorem doO (B b : Nat) (e : Int) (rv ov : Value) (w : World) (hBb : B ≤ b) (hrow : RepRow w b 0 0 e rv ov)
    (cB : ∀ W, Below B w W → W = w.setCell ⟨b, 1, none⟩ (.int .i32 1) → Calls Tryz.prog 92 #[.pointer (some ⟨b, 0, none⟩)] W fun e' W' => e' = .returned (.tuple #[]) ∧ RBuilt1 B b 0 1 e W W') :
    Calls Tryz.prog 91 #[.pointer (some ⟨b, 0, none⟩), .func (.func 92) #[.pointer (some ⟨b, 0, none⟩)] #[]] w fun e' w' => e' = .returned (.tuple #[]) ∧ RBuilt1 B b 1 0 e w w' := by
  have c0 := rowAt hrow 0 (.int .u32 0) rfl
  have hl := run_call_load (P := Tryz.prog) Tryz.func151 (by kernel_rfl) (by kernel_rfl) (by kernel_rfl) .u32 (by kernel_rfl) c0
  have hnot : ∀ (x : Bool) (w : World), (Op.unary .not (.bool x)).run Tryz.prog w = .ok (.bool (!x)) w := fun _ _ => rfl
  have cS := Lib.hid (slowO B b e rv ov w hBb hrow cB)
  clear cB
  go_enter Tryz.func91, Tryz.ntmps91
  go_wp2_with (first | (go_at_call 133; refine cS.out.mono ?_; rintro e w' ⟨rfl, hw2⟩) | (go_at_call 132; go_in))
  go_end0
  exact ⟨rfl, hw2⟩
end Go.Proofs.YthijceooebebfaaGreatDoor
