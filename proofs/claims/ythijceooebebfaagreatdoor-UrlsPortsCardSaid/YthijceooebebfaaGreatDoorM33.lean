/-
  Package urls: Origin.
  lazaretlaw08: by, reads, places.
-/
import Derived.Test.YthijceooebebfaaGreatDoorM32
namespace Go.Proofs.YthijceooebebfaaGreatDoor
open Go.RowKit
theorem textOk_wq {u : Lz.UrlL} (hN : Lz.NU u) (hw : Lz.wq u ≤ 100000) : TextOk u := by
  have h1 : u.host.length ≤ Lz.wq u := by unfold Lz.wq Lz.wt; omega
  have h2 := Lz.path_wq u
  have h3 := Lz.textU_len (u := u) hN.port
  have hp := hN.port
  refine ⟨by omega, by omega, ?_, ?_, by omega⟩
  · rcases hp with h | ⟨n, h, _⟩ <;> omega
  · rcases hp with h | ⟨n, h, hn, _⟩ <;> omega
theorem textOk_parse {s : List UInt8} {b : Option Lz.UrlL} {u : Lz.UrlL} (e : Lz.parseU s b = .ok u) (hb : ∀ x, b = some x → ∃ t, Lz.parseU t none = .ok x) : TextOk u :=
  textOk_wq (Lz.parse_form e) (by have := Lz.parse_wq e hb; omega)
/-- A URL that Origin is asked of. -/
structure OrigOk (u : Lz.UrlL) : Prop where
  scheme : u.scheme.length ≤ 1000000000
  host : u.host.length ≤ 1000000000
  p0 : -9223372036854775808 ≤ u.port
  p1 : u.port ≤ 9223372036854775807
theorem origOk_parse {s : List UInt8} {b : Option Lz.UrlL} {u : Lz.UrlL} (e : Lz.parseU s b = .ok u) (hb : ∀ x, b = some x → ∃ t, Lz.parseU t none = .ok x) : OrigOk u := by
  have h := textOk_parse e hb
  have h2 := Lz.parse_wq e hb
  refine ⟨?_, h.host, h.p0, h.p1⟩
  have h1 : u.scheme.length ≤ Lz.wq u := by unfold Lz.wq Lz.wt; omega
  omega
/-- A URL in a row of its own. -/
structure PO (r : Nat) (C : Array Value) (u : Lz.UrlL) (W0 V : World) : Prop where
  row : V.heap[r]? = some (.cells C 27 (0, 0))
  below : Below W0.heap.size W0 V
  env : EnvU V
  val : UrlVal V (.agg C) u
theorem PO.call {r : Nat} {C : Array Value} {u : Lz.UrlL} {W0 V V' : World} (h : PO r C u W0 V) (hb : Below V.heap.size V V') : PO r C u W0 V' :=
  ⟨(hb.block _ (row_lt h.row)).trans h.row, below_call h.below hb, h.env.below hb, h.val.below hb⟩
theorem PO.drew {r : Nat} {C : Array Value} {u : Lz.UrlL} {W0 V : World} (h : PO r C u W0 V) : PO r C u W0 V.drew := h.call (Below.refl _ _).drew

set_option maxHeartbeats 4000000 in
set_option maxRecDepth 100000 in
theorem Origin_def (v : Value) (u : Lz.UrlL) (w : World) (hv : UrlVal w v u) (hE : EnvU w) (hO : OrigOk u) (hd : Lz.defP u.scheme ≠ -1) : Calls Tryz.prog 22 #[v] w (RStr (u.scheme ++ [58, 47, 47] ++ Lz.atU u) w) := by
  obtain ⟨goal, hg⟩ : ∃ goal, goal = u.scheme ++ [58, 47, 47] ++ Lz.atU u := ⟨_, rfl⟩
  rw [← hg]
  have HG := Lib.hid hg
  obtain ⟨sch, usr, pas, hh, hst, prt, opq, a, c, xs, hq, hf, qry, frg, rfl, hu, hx⟩ := hv.form
  obtain ⟨C, hC⟩ : ∃ C : Array Value, C = #[.string sch, .string usr, .string pas, .bool hh, .string hst, .int .i64 prt, .bool opq, .slice a xs.length c, .bool hq, .bool hf, .string qry, .string frg] := ⟨_, rfl⟩
  have hss : u.scheme = sch.data.toList := by rw [hu]
  have hs1 : sch.size ≤ 1000000000 := by rw [← len_of_size, ← hss]; exact hO.scheme
  obtain ⟨W, hW⟩ : ∃ W, W = w.alloc (.cells #[.string sch, .string usr, .string pas, .bool hh, .string hst, .int .i64 prt, .bool opq, .slice a xs.length c, .bool hq, .bool hf, .string qry, .string frg] 27) := ⟨_, rfl⟩
  have hbW : Below w.heap.size w W := by rw [hW]; exact (Below.refl _ w).alloc (Nat.le_refl _) _
  have hR : W.heap[w.heap.size]? = some (.cells #[.string sch, .string usr, .string pas, .bool hh, .string hst, .int .i64 prt, .bool opq, .slice a xs.length c, .bool hq, .bool hf, .string qry, .string frg] 27 (0, 0)) := by rw [hW]; exact heap_new _ _
  have hP : PO w.heap.size #[.string sch, .string usr, .string pas, .bool hh, .string hst, .int .i64 prt, .bool opq, .slice a xs.length c, .bool hq, .bool hf, .string qry, .string frg] u w W := ⟨hR, hbW, hE.below hbW, hv.below hbW⟩
  have hPd := hP.drew
  have cA : Hid (∀ V, PO w.heap.size #[.string sch, .string usr, .string pas, .bool hh, .string hst, .int .i64 prt, .bool opq, .slice a xs.length c, .bool hq, .bool hf, .string qry, .string frg] u w V → Calls Tryz.prog 29 #[.agg #[.string sch, .string usr, .string pas, .bool hh, .string hst, .int .i64 prt, .bool opq, .slice a xs.length c, .bool hq, .bool hf, .string qry, .string frg]] V fun e w' => ∃ t : ByteArray, e = .returned (.string t) ∧ Hid (t.data.toList = Lz.atU u) ∧ t.size ≤ 1000000100 ∧ PO w.heap.size #[.string sch, .string usr, .string pas, .bool hh, .string hst, .int .i64 prt, .bool opq, .slice a xs.length c, .bool hq, .bool hf, .string qry, .string frg] u w w') := Lib.hid (by
    intro V hV
    refine (at_any _ u V hV.val hV.env.h hO.p0 hO.p1 hO.host).mono ?_
    rintro e w' ⟨t, he, ht, hb'⟩
    refine ⟨t, he, ht, ?_, hV.call hb'⟩
    rw [← len_of_size, ht.out]
    unfold Lz.atU
    split
    · have := hO.host; omega
    · have h1 := itoa_len2 hO.p0 hO.p1
      have h2 := hO.host
      simp only [List.length_append, List.length_singleton]
      omega)
  have c0 := rowAt hR 0 (.string sch) rfl
  obtain ⟨d, hdd⟩ : ∃ d, d = Lz.defP sch.data.toList := ⟨_, rfl⟩
  have hdb : (d == -1) = false := by rw [hdd, ← hss]; exact beq_eq_false_iff_ne.2 hd
  have hdb2 : (d != -1) = true := by rw [bne, hdb]; rfl
  have cD : Hid (Calls Tryz.prog 15 #[.string sch] W fun e w' => e = .returned (.int .i64 d) ∧ W = w') := Lib.hid (by rw [hdd]; exact Default_any sch W)
  have n1 : ¬ (9223372036854775807 < sch.size + 3) := by omega
  have HG2 : Hid (goal = sch.data.toList ++ [58, 47, 47] ++ Lz.atU u) := Lib.hid (by rw [HG.out, hss])
  have HW := Lib.hid hW
  have HP := Lib.hid hP
  clear hC hW hR hv hx hg hE hu hss hO hd hdd HG hP
  go_enter Tryz.func22, Tryz.ntmps22
  go_wp2_with (rw [← HW.out])
  refine cD.out.mono ?_
  rintro e w1 ⟨rfl, rfl⟩
  go_upto_region 2 with fail
  go_cut [2] (fun s wx => ∃ t : ByteArray, s = .string t ∧ Hid (t.data.toList = goal) ∧ Below w.heap.size w wx)
  case first =>
    have hPw := HP.out
    go_region_held3 (fun V => (V.cell? ⟨w.heap.size, 0, none⟩ = some (.string sch) ∧ V.cell? ⟨w.heap.size, 1, none⟩ = some (.string usr) ∧ V.cell? ⟨w.heap.size, 2, none⟩ = some (.string pas) ∧ V.cell? ⟨w.heap.size, 3, none⟩ = some (.bool hh) ∧ V.cell? ⟨w.heap.size, 4, none⟩ = some (.string hst) ∧ V.cell? ⟨w.heap.size, 5, none⟩ = some (.int .i64 prt) ∧ V.cell? ⟨w.heap.size, 6, none⟩ = some (.bool opq) ∧ V.cell? ⟨w.heap.size, 7, none⟩ = some (.slice a xs.length c) ∧ V.cell? ⟨w.heap.size, 8, none⟩ = some (.bool hq) ∧ V.cell? ⟨w.heap.size, 9, none⟩ = some (.bool hf) ∧ V.cell? ⟨w.heap.size, 10, none⟩ = some (.string qry) ∧ V.cell? ⟨w.heap.size, 11, none⟩ = some (.string frg)) ∧ PO w.heap.size #[.string sch, .string usr, .string pas, .bool hh, .string hst, .int .i64 prt, .bool opq, .slice a xs.length c, .bool hq, .bool hf, .string qry, .string frg] u w V) (first | exact ⟨row12 (PO.row (by assumption)), by assumption⟩) (first | (go_at_call 29; refine (cA.out _ (by assumption)).mono ?_; rintro e w4 ⟨t, rfl, ht, hts, hP4⟩; have n2 : ¬ (9223372036854775807 < sch.size + 3 + t.size) := (by omega)))
    go_wp2_with fail
    go_meet
    exact ⟨_, rfl, by show _ = _; rw [HG2.out, append_data', append_data', ht.out], hP4.below⟩
  case rest =>
    obtain ⟨t, rfl, ht, hb⟩ := hcut
    go_wp2_with fail
    go_ret
    exact ⟨t, rfl, ht, hb⟩
theorem load_url_g {ops : Array Oper} {rest : List Oper} {o : Oper} {a : Act} {w : World} {Q : Exit → Act → World → Prop} (hw : Region.wanted o (yielded ops a.tmps) = true) (x : Operand) (ho : o.op = .load 27 x)
    (g : Nat) (hx : a.eval x = .pointer (some ⟨g, 0, none⟩)) (cs : Array Value) (hg : w.heap[g]? = some (.cells cs 27 (0, 0))) (hs : cs.size = 12)
    (hk : wpList Tryz.prog ops Q rest (a.put o.dst (.agg cs)) w) : wpList Tryz.prog ops Q (o :: rest) a w :=
  wpList_step fun K hK => by
    rw [if_pos hw]
    exact wp_load_row 27 x ho g hx 27 cs (0, 0) _ hg Tryz.underlying27 rfl (by rw [hs]; exact urlSize) (hK _ _ hk)
theorem ParseRes.cases {r : Lz.UR} {w : World} {v : Value} {n : Int} (h : ParseRes r w v n) : ∃ u, UrlOwn w v u ∧ ((r = .ok u ∧ n = 0) ∨ ∃ k : Nat, r = .er k ∧ u = zeroU ∧ n = (k : Int)) := by
  cases r with
  | ok u => exact ⟨u, h.2, Or.inl ⟨rfl, h.1⟩⟩
  | er k => exact ⟨zeroU, h.2, Or.inr ⟨k, rfl, rfl, h.1⟩⟩
def nullS : List UInt8 := [110, 117, 108, 108]
theorem originU_null {u : Lz.UrlL} (hd : Lz.defP u.scheme = -1) (h : ¬ (u.scheme = Lz.blobS ∧ u.opq = true ∧ u.path ≠ [])) : Lz.originU u = nullS := by
  unfold Lz.originU; rw [if_neg (by simp [hd]), if_neg h]; rfl
theorem def_http {s : List UInt8} (h : s = Lz.httpS ∨ s = Lz.httpsS) : Lz.defP s ≠ -1 := by rcases h with rfl | rfl <;> decide
def blobR : Lz.UR → List UInt8
  | .ok x => if x.scheme = Lz.httpS ∨ x.scheme = Lz.httpsS then x.scheme ++ [58, 47, 47] ++ Lz.atU x else nullS
  | .er _ => nullS
theorem originU_blob {u : Lz.UrlL} (hd : Lz.defP u.scheme = -1) (h : u.scheme = Lz.blobS ∧ u.opq = true ∧ u.path ≠ []) : Lz.originU u = blobR (Lz.parseU (u.path.headD []) none) := by
  unfold Lz.originU; rw [if_neg (by simp [hd]), if_pos h]
  cases Lz.parseU (u.path.headD []) none <;> rfl
set_option maxHeartbeats 4000000 in
set_option maxRecDepth 100000 in
theorem Origin_any (v : Value) (u : Lz.UrlL) (w : World) (hv : UrlVal w v u) (hE : EnvU w) (hO : OrigOk u) : Calls Tryz.prog 22 #[v] w (RStr (Lz.originU u) w) := by
  by_cases hd : Lz.defP u.scheme = -1
  case neg =>
    rw [show Lz.originU u = u.scheme ++ [58, 47, 47] ++ Lz.atU u by unfold Lz.originU; rw [if_pos hd]]
    exact Origin_def v u w hv hE hO hd
  obtain ⟨goal, hg⟩ : ∃ goal, goal = Lz.originU u := ⟨_, rfl⟩
  rw [← hg]
  have hnull := fun h => hg.trans (originU_null hd h)
  have hblob := fun h => hg.trans (originU_blob hd h)
  obtain ⟨sch, usr, pas, hh, hst, prt, opq, a, c, xs, hq, hf, qry, frg, rfl, rfl, hx⟩ := hv.form
  obtain ⟨W, hW⟩ : ∃ W, W = w.alloc (.cells #[.string sch, .string usr, .string pas, .bool hh, .string hst, .int .i64 prt, .bool opq, .slice a xs.length c, .bool hq, .bool hf, .string qry, .string frg] 27) := ⟨_, rfl⟩
  have hbW : Below w.heap.size w W := by rw [hW]; exact (Below.refl _ w).alloc (Nat.le_refl _) _
  have hR : W.heap[w.heap.size]? = some (.cells #[.string sch, .string usr, .string pas, .bool hh, .string hst, .int .i64 prt, .bool opq, .slice a xs.length c, .bool hq, .bool hf, .string qry, .string frg] 27 (0, 0)) := by rw [hW]; exact heap_new _ _
  have c0 := rowAt hR 0 (.string sch) rfl
  have c6 := rowAt hR 6 (.bool opq) rfl
  have c7 := rowAt hR 7 (.slice a xs.length c) rfl
  obtain ⟨d, hdd⟩ : ∃ d, d = Lz.defP sch.data.toList := ⟨_, rfl⟩
  have hdb : (d == -1) = true := by rw [hdd]; simpa using hd
  have hdb2 : (d != -1) = false := by rw [bne, hdb]; rfl
  have cD : Hid (Calls Tryz.prog 15 #[.string sch] W fun e w' => e = .returned (.int .i64 d) ∧ W = w') := Lib.hid (by rw [hdd]; exact Default_any sch W)
  have HW := Lib.hid hW
  by_cases hs : sch.data.toList = Lz.blobS
  case neg =>
    have e0 := text_no (k := [98, 108, 111, 98]) hs
    have HG : Hid (goal = nullS) := Lib.hid (hnull (fun h => hs h.1))
    clear hW hR hv hx hg hE hO hd hdd hnull hblob hs
    go_enter Tryz.func22, Tryz.ntmps22
    go_wp2_with (rw [← HW.out])
    refine cD.out.mono ?_
    rintro e w1 ⟨rfl, rfl⟩
    go_wp2_with fail
    go_ret
    exact ⟨_, rfl, Lib.hid HG.out.symm, hbW⟩
  have e0 := text_yes (k := [98, 108, 111, 98]) hs
  cases opq with
  | false =>
    have HG : Hid (goal = nullS) := Lib.hid (hnull (fun h => by cases h.2.1))
    clear hW hR hv hx hg hE hO hd hdd hnull hblob hs
    go_enter Tryz.func22, Tryz.ntmps22
    go_wp2_with (rw [← HW.out])
    refine cD.out.mono ?_
    rintro e w1 ⟨rfl, rfl⟩
    go_wp2_with fail
    go_ret
    exact ⟨_, rfl, Lib.hid HG.out.symm, hbW⟩
  | true =>
    cases xs with
    | nil =>
      have HG : Hid (goal = nullS) := Lib.hid (hnull (fun h => h.2.2 rfl))
      simp only [List.length_nil] at c7 HW
      clear hW hR hv hx hg hE hO hd hdd hnull hblob hs
      go_enter Tryz.func22, Tryz.ntmps22
      go_wp2_with (rw [← HW.out])
      refine cD.out.mono ?_
      rintro e w1 ⟨rfl, rfl⟩
      go_wp2_with fail
      go_ret
      exact ⟨_, rfl, Lib.hid HG.out.symm, hbW⟩
    | cons x0 xr =>
      have hblob := hblob ⟨hs, rfl, by simp⟩
      obtain ⟨G, o, ha, hG, hc0⟩ := hx 0 x0 rfl
      subst ha
      have hc1 : W.cell? ⟨G, o + 0, none⟩ = some (.string x0) := by rw [hbW.cell (p := ⟨G, o + 0, none⟩) hG]; exact hc0
      have hc2 : W.cell? ⟨G, o, none⟩ = some (.string x0) := hc1
      obtain ⟨n, hn⟩ : ∃ n, n = xr.length + 1 := ⟨_, rfl⟩
      simp only [List.length_cons] at c7 HW
      rw [← hn] at c7 HW
      have hlen : (0 : Int) < (n : Int) := by omega
      have hn0 : 0 < n := by omega
      obtain ⟨R, hRR⟩ : ∃ R, R = Lz.parseU x0.data.toList none := ⟨_, rfl⟩
      have HB : Hid (goal = blobR R) := Lib.hid (by rw [hRR]; exact hblob)
      have HR0 := Lib.hid hRR
      have cP : Hid (Calls Tryz.prog 20 #[.string x0, .pointer none] W (RParse R W)) := Lib.hid (by rw [hRR]; exact Parse_any none (.pointer none) x0 W (hE.below hbW) rfl (fun y h => by cases h))
      have HE := Lib.hid (hE.below hbW)
      have hneq : (n == 0) = false := by simp; omega
      have HN := Lib.hid hn
      clear hW hR hv hx hg hE hO hd hdd hnull hblob hs hc0 hn hRR
      go_enter Tryz.func22, Tryz.ntmps22
      go_wp2_with (rw [← HN.out, ← HW.out])
      refine cD.out.mono ?_
      rintro e w1 ⟨rfl, rfl⟩
      go_wp2_with fail
      refine cP.out.mono ?_
      rintro e w2 ⟨v2, k, rfl, hb2, hres⟩
      obtain ⟨x, hox, hk⟩ := hres.cases
      have hb02 := hbW.trans (hb2.mono hbW.size)
      obtain ⟨sc1, us1, pa1, hh1, hs1, pr1, op1, a1, n1, c1, hq1, hf1, qr1, fr1, rfl⟩ := hox.form
      have hEV := (HE.out.below hb2).below ((Below.refl w2.heap.size w2).alloc (Nat.le_refl _) (.cells #[.string sc1, .string us1, .string pa1, .bool hh1, .string hs1, .int .i64 pr1, .bool op1, .slice a1 n1 c1, .bool hq1, .bool hf1, .string qr1, .string fr1] 27))
      have hbV := hb02.alloc hb02.size (.cells #[.string sc1, .string us1, .string pa1, .bool hh1, .string hs1, .int .i64 pr1, .bool op1, .slice a1 n1 c1, .bool hq1, .bool hf1, .string qr1, .string fr1] 27)
      have hrV : (w2.alloc (.cells #[.string sc1, .string us1, .string pa1, .bool hh1, .string hs1, .int .i64 pr1, .bool op1, .slice a1 n1 c1, .bool hq1, .bool hf1, .string qr1, .string fr1] 27)).heap[w2.heap.size]? = some (.cells #[.string sc1, .string us1, .string pa1, .bool hh1, .string hs1, .int .i64 pr1, .bool op1, .slice a1 n1 c1, .bool hq1, .bool hf1, .string qr1, .string fr1] 27 (0, 0)) := heap_new _ _
      have hoV := hox.below ((Below.refl w2.heap.size w2).alloc (Nat.le_refl _) (.cells #[.string sc1, .string us1, .string pa1, .bool hh1, .string hs1, .int .i64 pr1, .bool op1, .slice a1 n1 c1, .bool hq1, .bool hf1, .string qr1, .string fr1] 27))
      clear hres hox HE cP cD hb2
      go_upto_region 5 with fail
      generalize w2.alloc (.cells #[.string sc1, .string us1, .string pa1, .bool hh1, .string hs1, .int .i64 pr1, .bool op1, .slice a1 n1 c1, .bool hq1, .bool hf1, .string qr1, .string fr1] 27) = V at hEV hbV hrV hoV ⊢
      generalize w2.heap.size = r2 at hrV ⊢
      have k0 := rowAt hrV 0 (.string sc1) rfl
      rcases hk with ⟨hR, hk0⟩ | ⟨m, hR, _, hk0⟩
      case inr =>
        have hm := Lz.parse_err (HR0.out.symm.trans hR)
        have HG : Hid (goal = nullS) := Lib.hid (by rw [HB.out, hR]; rfl)
        have hkb : (k == 0) = false := by rw [hk0]; simp; omega
        clear hR hk0 hm HB HR0
        go_wp2_with fail
        go_ret
        exact ⟨_, rfl, Lib.hid HG.out.symm, hbV⟩
      case inl =>
        have hkb : (k == 0) = true := by rw [hk0]; rfl
        have hxs : x.scheme = sc1.data.toList := by
          obtain ⟨_, _, _, _, _, _, _, _, _, _, _, _, _, _, h1, h2, _⟩ := hoV.val.form
          rw [h2]
          simp only [Value.agg.injEq, Array.mk.injEq, List.cons.injEq, Value.string.injEq] at h1
          rw [h1.1]
        have hOx := origOk_parse (HR0.out.symm.trans hR) (fun y h => by cases h)
        by_cases h1 : sc1.data.toList = Lz.httpS ∨ sc1.data.toList = Lz.httpsS
        · have HG : Hid (goal = x.scheme ++ [58, 47, 47] ++ Lz.atU x) := Lib.hid (by rw [HB.out, hR, blobR, if_pos (by rw [hxs]; exact h1)])
          have cO := Lib.hid (Origin_def _ x V hoV.val hEV hOx (by rw [hxs]; exact def_http h1))
          rw [← HG.out] at cO
          have HRV := Lib.hid hrV
          by_cases h2 : sc1.data.toList = Lz.httpS
          · have q1 := text_yes (k := [104, 116, 116, 112]) h2
            clear h1 h2 hxs hOx hR hk0 HB HR0 HG hoV hEV hrV
            go_wp2_with (first | (refine wpList_load_row rfl 27 (.tmp 3) rfl r2 rfl 27 _ (0, 0) _ HRV.out Tryz.underlying27 rfl urlSize ?_))
            refine cO.out.mono ?_
            rintro e w5 ⟨t, rfl, ht, hb5⟩
            go_wp2_with fail
            go_ret
            exact ⟨_, rfl, ht, below_call hbV hb5⟩
          · have q1 := text_no (k := [104, 116, 116, 112]) h2
            have q2 := text_yes (k := [104, 116, 116, 112, 115]) (h1.resolve_left h2)
            clear h1 h2 hxs hOx hR hk0 HB HR0 HG hoV hEV hrV
            go_wp2_with (first | (refine wpList_load_row rfl 27 (.tmp 3) rfl r2 rfl 27 _ (0, 0) _ HRV.out Tryz.underlying27 rfl urlSize ?_))
            refine cO.out.mono ?_
            rintro e w5 ⟨t, rfl, ht, hb5⟩
            go_wp2_with fail
            go_ret
            exact ⟨_, rfl, ht, below_call hbV hb5⟩
        · have HG : Hid (goal = nullS) := Lib.hid (by rw [HB.out, hR, blobR, if_neg (by rw [hxs]; exact h1)])
          have q1 := text_no (k := [104, 116, 116, 112]) (fun h => h1 (Or.inl h))
          have q2 := text_no (k := [104, 116, 116, 112, 115]) (fun h => h1 (Or.inr h))
          clear h1 hxs hOx hR hk0 HB HR0 hoV hEV hrV
          go_wp2_with fail
          go_ret
          exact ⟨_, rfl, Lib.hid HG.out.symm, hbV⟩
end Go.Proofs.YthijceooebebfaaGreatDoor

namespace Go.Proofs.YthijceooebebfaaGreatDoor
open Go.RowKit
/-- A URL in a row of its own, as a base. -/
theorem base_of_own {W : World} {C : Array Value} {u : Lz.UrlL} (h : UrlOwn W (.agg C) u) : BaseAt (W.alloc (.cells C 27)).heap.size (W.alloc (.cells C 27)) (.pointer (some ⟨W.heap.size, 0, none⟩)) (some u) := by
  obtain ⟨sch, usr, pas, hh, hst, prt, opq, a, c, xs, hq, hf, qry, frg, h1, hu, hx⟩ := h.val.form
  obtain rfl : C = #[.string sch, .string usr, .string pas, .bool hh, .string hst, .int .i64 prt, .bool opq, .slice a xs.length c, .bool hq, .bool hf, .string qry, .string frg] := by injection h1
  have hb : Below W.heap.size W (W.alloc (.cells #[.string sch, .string usr, .string pas, .bool hh, .string hst, .int .i64 prt, .bool opq, .slice a xs.length c, .bool hq, .bool hf, .string qry, .string frg] 27)) := (Below.refl _ _).alloc (Nat.le_refl _) _
  refine ⟨W.heap.size, (0, 0), sch, usr, pas, hh, hst, prt, opq, a, c, xs, hq, hf, qry, frg, rfl, by simp, heap_new _ _, hu, fun j x hj => ?_⟩
  obtain ⟨G, o, ha, hG, hc⟩ := hx j x hj
  refine ⟨G, o, ha, Nat.lt_of_lt_of_le hG hb.size, ?_⟩
  rw [hb.cell (p := ⟨G, o + j, none⟩) hG]; exact hc
theorem wq_host (u : Lz.UrlL) : u.host.length ≤ Lz.wq u := by unfold Lz.wq Lz.wt; omega

def byM (s : List UInt8) : Lz.UR → Lz.UR
  | .ok b => Lz.parseU s (some b)
  | .er _ => Lz.parseU s none
set_option maxHeartbeats 4000000 in
set_option maxRecDepth 100000 in
theorem by_any (s base : ByteArray) (w : World) (hE : EnvU w) : Calls Tryz.prog 17 #[.string s, .string base] w (RParse (Lz.byU s.data.toList base.data.toList) w) := by
  obtain ⟨W, hW⟩ : ∃ W, W = w.alloc (.cells zeroC 27) := ⟨_, rfl⟩
  have hbW : Below w.heap.size w W := by rw [hW]; exact (Below.refl _ w).alloc (Nat.le_refl _) _
  have hR : W.heap[w.heap.size]? = some (.cells zeroC 27 (0, 0)) := by rw [hW]; exact heap_new _ _
  have hEW := hE.below hbW
  obtain ⟨goal, hg⟩ : ∃ goal, goal = Lz.byU s.data.toList base.data.toList := ⟨_, rfl⟩
  rw [← hg]
  obtain ⟨R, hRR⟩ : ∃ R, R = Lz.parseU base.data.toList none := ⟨_, rfl⟩
  have hgo : goal = byM s.data.toList R := by rw [hg, hRR]; rfl
  have HG := Lib.hid hgo
  have HRR := Lib.hid hRR
  have cP := Lib.hid (Parse_any none (.pointer none) base W hEW rfl (fun y h => by cases h))
  rw [← hRR] at cP
  have HW := Lib.hid hW
  have HR := Lib.hid hR
  have HE := Lib.hid hEW
  clear hg hgo hRR hW hR hE hEW
  go_enter Tryz.func17, Tryz.ntmps17
  go_wp2_with (rw [← HW.out])
  refine cP.out.mono ?_
  rintro e w1 ⟨v1, n, rfl, hb1, hres⟩
  obtain ⟨x, hox, hk⟩ := hres.cases
  have hb01 := hbW.trans (hb1.mono hbW.size)
  obtain ⟨sc1, us1, pa1, hh1, hs1, pr1, op1, a1, n1, c1, hq1, hf1, qr1, fr1, rfl⟩ := hox.form
  have hbase := base_of_own hox
  have hba := (Below.refl w1.heap.size w1).alloc (Nat.le_refl _) (.cells #[.string sc1, .string us1, .string pa1, .bool hh1, .string hs1, .int .i64 pr1, .bool op1, .slice a1 n1 c1, .bool hq1, .bool hf1, .string qr1, .string fr1] 27)
  have hEV := (HE.out.below hb1).below hba
  have hbV := hb01.trans (hba.mono hb01.size)
  have hlt := row_lt HR.out
  have hrV : (w1.alloc (.cells #[.string sc1, .string us1, .string pa1, .bool hh1, .string hs1, .int .i64 pr1, .bool op1, .slice a1 n1 c1, .bool hq1, .bool hf1, .string qr1, .string fr1] 27)).heap[w.heap.size]? = some (.cells zeroC 27 (0, 0)) := (hba.block _ (Nat.lt_of_lt_of_le hlt hb1.size)).trans ((hb1.block _ hlt).trans HR.out)
  clear hres hox HE cP hb1 hba
  go_upto_region 2 with fail
  generalize w1.alloc (.cells #[.string sc1, .string us1, .string pa1, .bool hh1, .string hs1, .int .i64 pr1, .bool op1, .slice a1 n1 c1, .bool hq1, .bool hf1, .string qr1, .string fr1] 27) = V at hbase hEV hbV hrV ⊢
  generalize w1.heap.size = r1 at hbase ⊢
  rcases hk with ⟨hR, hk0⟩ | ⟨m, hR, _, hk0⟩
  · have hkb : (n != 0) = false := by rw [hk0]; rfl
    have hT := textOk_parse (HRR.out.symm.trans hR) (fun y h => by cases h)
    have cQ := Lib.hid (Parse_any (some x) _ s V hEV hbase (fun y hy => by cases hy; exact hT))
    have HG2 : Hid (goal = Lz.parseU s.data.toList (some x)) := Lib.hid (by rw [HG.out, hR]; rfl)
    rw [← HG2.out] at cQ
    have HRV := Lib.hid hrV
    clear hk0 hR HG hT hbase hEV hrV
    go_wp2_with fail
    refine cQ.out.mono ?_
    rintro e w2 ⟨v2, k, rfl, hb2, hres2⟩
    obtain ⟨y, hoy, _⟩ := hres2.cases
    obtain ⟨sc2, us2, pa2, hh2, hs2, pr2, op2, a2, n2, c2, hq2, hf2, qr2, fr2, rfl⟩ := hoy.form
    have hb02 := hbV.trans (hb2.mono hbV.size)
    have hr2 : w2.heap[w.heap.size]? = some (.cells zeroC 27 (0, 0)) := (hb2.block _ (row_lt HRV.out)).trans HRV.out
    have HR2 := Lib.hid hr2
    clear hr2 hoy cQ hb2
    go_wp2_with (first | (refine wpList_store_row rfl 27 (.tmp 4) (.tmp 21) rfl w.heap.size #[.string sc2, .string us2, .string pa2, .bool hh2, .string hs2, .int .i64 pr2, .bool op2, .slice a2 n2 c2, .bool hq2, .bool hf2, .string qr2, .string fr2] rfl rfl 27 _ HR2.out urlSize rfl (by simp [Value.oneCell']) ?_))
    refine bodyPost_ret (results_row2 (P := Tryz.prog) (u := 5) rfl _ _ w.heap.size 27 _ (0, 0) _ rfl (setRow_heap _ _ _ _ _ _ HR2.out) Tryz.underlying27 rfl urlSize) rfl ?_
    refine ⟨_, _, rfl, below_setRow hb02 (Nat.le_refl _), ?_⟩
    cases goal with
    | ok z => exact ⟨hres2.1, hres2.2.setRow HR2.out _⟩
    | er z => exact ⟨hres2.1, hres2.2.setRow HR2.out _⟩
  · have hm := Lz.parse_err (HRR.out.symm.trans hR)
    have hkb : (n != 0) = true := by rw [hk0]; simp; omega
    have cQ := Lib.hid (Parse_any none (.pointer none) s V hEV rfl (fun y hy => by cases hy))
    have HG2 : Hid (goal = Lz.parseU s.data.toList none) := Lib.hid (by rw [HG.out, hR]; rfl)
    rw [← HG2.out] at cQ
    have HRV := Lib.hid hrV
    clear hk0 hR HG hm hbase hEV hrV
    go_wp2_with fail
    refine cQ.out.mono ?_
    rintro e w2 ⟨v2, k, rfl, hb2, hres2⟩
    obtain ⟨y, hoy, _⟩ := hres2.cases
    obtain ⟨sc2, us2, pa2, hh2, hs2, pr2, op2, a2, n2, c2, hq2, hf2, qr2, fr2, rfl⟩ := hoy.form
    have hb02 := hbV.trans (hb2.mono hbV.size)
    have hr2 : w2.heap[w.heap.size]? = some (.cells zeroC 27 (0, 0)) := (hb2.block _ (row_lt HRV.out)).trans HRV.out
    have HR2 := Lib.hid hr2
    clear hr2 hoy cQ hb2
    go_wp2_with (first | (refine wpList_store_row rfl 27 (.tmp 4) (.tmp 17) rfl w.heap.size #[.string sc2, .string us2, .string pa2, .bool hh2, .string hs2, .int .i64 pr2, .bool op2, .slice a2 n2 c2, .bool hq2, .bool hf2, .string qr2, .string fr2] rfl rfl 27 _ HR2.out urlSize rfl (by simp [Value.oneCell']) ?_))
    refine bodyPost_ret (results_row2 (P := Tryz.prog) (u := 5) rfl _ _ w.heap.size 27 _ (0, 0) _ rfl (setRow_heap _ _ _ _ _ _ HR2.out) Tryz.underlying27 rfl urlSize) rfl ?_
    refine ⟨_, _, rfl, below_setRow hb02 (Nat.le_refl _), ?_⟩
    cases goal with
    | ok z => exact ⟨hres2.1, hres2.2.setRow HR2.out _⟩
    | er z => exact ⟨hres2.1, hres2.2.setRow HR2.out _⟩

/-! ## reads -/
def readB (b : Option Lz.UrlL) (s want : List UInt8) (e0 : Nat) : Prop := (∃ u, Lz.parseU s b = .ok u ∧ e0 = 0 ∧ Lz.textU u = want) ∨ (∃ n, Lz.parseU s b = .er n ∧ e0 = n ∧ n ≠ 0)
theorem readsU_none {s want : List UInt8} {e0 : Nat} (h : Lz.readsU s [] want e0 = true) : readB none s want e0 := by
  unfold Lz.readsU at h
  rw [if_pos rfl] at h
  simp only at h
  cases hp : Lz.parseU s none with
  | ok u => rw [hp] at h; simp at h; exact Or.inl ⟨u, hp, h.1, h.2⟩
  | er n => rw [hp] at h; simp at h; exact Or.inr ⟨n, hp, h.1, h.2⟩
theorem readsU_some {s base want : List UInt8} {e0 : Nat} (hb : base ≠ []) (h : Lz.readsU s base want e0 = true) : ∃ b, Lz.parseU base none = .ok b ∧ readB (some b) s want e0 := by
  unfold Lz.readsU at h
  rw [if_neg hb] at h
  simp only at h
  cases hq : Lz.parseU base none with
  | er n => rw [hq] at h; cases h
  | ok b =>
    rw [hq] at h
    simp only at h
    refine ⟨b, rfl, ?_⟩
    cases hp : Lz.parseU s (some b) with
    | ok u => rw [hp] at h; simp at h; exact Or.inl ⟨u, hp, h.1, h.2⟩
    | er n => rw [hp] at h; simp at h; exact Or.inr ⟨n, hp, h.1, h.2⟩
theorem zero_val (w : World) : UrlVal w (.agg zeroC) zeroU := (zero_own w).val

set_option maxHeartbeats 8000000 in
set_option maxRecDepth 100000 in
theorem reads_true (s base want : ByteArray) (e0 : Nat) (w : World) (hE : EnvU w) (h : Lz.readsU s.data.toList base.data.toList want.data.toList e0 = true) : Calls Tryz.prog 26 #[.string s, .string base, .string want, .int .i64 e0] w (RBool true w) := by
  obtain ⟨b, hb0, hbr⟩ : ∃ b : Option Lz.UrlL, (match b with | none => base.data.toList = [] | some x => base.data.toList ≠ [] ∧ Lz.parseU base.data.toList none = .ok x) ∧ readB b s.data.toList want.data.toList e0 := by
    by_cases hz : base.data.toList = []
    · rw [hz] at h; exact ⟨none, hz, readsU_none h⟩
    · obtain ⟨x, h1, h2⟩ := readsU_some hz h
      exact ⟨some x, ⟨hz, h1⟩, h2⟩
  have hT : ∀ y, b = some y → TextOk y := by
    intro y hy; subst hy; exact textOk_parse hb0.2 (fun z hz => by cases hz)
  have hTy : ∀ u, Lz.parseU s.data.toList b = .ok u → TextOk u := fun u hu => textOk_parse hu (fun x hx => by subst hx; exact ⟨_, hb0.2⟩)
  have HB := Lib.hid hb0
  have HBR := Lib.hid hbr
  have HT := Lib.hid hT
  have HTy := Lib.hid hTy
  have HE := Lib.hid hE
  have hb00 := Below.refl w.heap.size w
  obtain ⟨q, hq⟩ : ∃ q, base.toList.isEmpty = q := ⟨_, rfl⟩
  have hqq : q = decide (base.data.toList = []) := by
    rw [← hq, Lib.toList_data]
    cases base.data.toList <;> rfl
  have Hqq := Lib.hid hqq
  clear h hb0 hbr hT hTy hE hqq
  go_enter Tryz.func26, Tryz.ntmps26
  go_upto_if 15 with fail
  go_cut [9] (fun s wx => EnvU wx ∧ Below w.heap.size w wx ∧ BaseAt wx.heap.size wx s b)
  case first =>
    cases b with
    | none =>
      obtain rfl : q = true := Hqq.out.trans (decide_eq_true HB.out)
      go_wp2_with fail
      go_meet
      exact ⟨HE.out, hb00, rfl⟩
    | some x =>
      obtain rfl : q = false := Hqq.out.trans (decide_eq_false HB.out.1)
      have cP := Lib.hid (Parse_any none (.pointer none) base w HE.out rfl (fun y h => by cases h))
      have hp : Hid (Lz.parseU base.data.toList none = .ok x) := Lib.hid HB.out.2
      rw [hp.out] at cP
      go_wp2_with fail
      refine cP.out.mono ?_
      rintro e w1 ⟨v1, n, rfl, hb1, hn, hox⟩
      subst hn
      obtain ⟨sc1, us1, pa1, hh1, hs1, pr1, op1, a1, n1, c1, hq1, hf1, qr1, fr1, rfl⟩ := hox.form
      have hbase := base_of_own hox
      have hba := (Below.refl w1.heap.size w1).alloc (Nat.le_refl _) (.cells #[.string sc1, .string us1, .string pa1, .bool hh1, .string hs1, .int .i64 pr1, .bool op1, .slice a1 n1 c1, .bool hq1, .bool hf1, .string qr1, .string fr1] 27)
      have hEV := (HE.out.below hb1).below hba
      have hbV := hb1.trans (hba.mono hb1.size)
      clear hox cP hba
      go_upto_region 4 with fail
      generalize w1.alloc (.cells #[.string sc1, .string us1, .string pa1, .bool hh1, .string hs1, .int .i64 pr1, .bool op1, .slice a1 n1 c1, .bool hq1, .bool hf1, .string qr1, .string fr1] 27) = V at hbase hEV hbV ⊢
      generalize w1.heap.size = r1 at hbase ⊢
      go_wp2_with fail
      go_meet
      exact ⟨hEV, hbV, hbase⟩
  case rest =>
    obtain ⟨hE1, hb1, hbase⟩ := hcut
    have cP := Lib.hid (Parse_any b _ s wc hE1 hbase HT.out)
    have HE1 := Lib.hid hE1
    clear hE1 hbase HT HB HE
    go_wp2_with fail
    refine cP.out.mono ?_
    rintro e w2 ⟨v2, n, rfl, hb2, hres⟩
    obtain ⟨x, hox, hk⟩ := hres.cases
    obtain ⟨sc1, us1, pa1, hh1, hs1, pr1, op1, a1, n1, c1, hq1, hf1, qr1, fr1, rfl⟩ := hox.form
    have hb02 := below_call hb1 hb2
    have hba := (Below.refl w2.heap.size w2).alloc (Nat.le_refl _) (.cells #[.string sc1, .string us1, .string pa1, .bool hh1, .string hs1, .int .i64 pr1, .bool op1, .slice a1 n1 c1, .bool hq1, .bool hf1, .string qr1, .string fr1] 27)
    have hEV := (HE1.out.below hb2).below hba
    have hbV := below_call hb02 hba
    have hoV := hox.below hba
    have hrV : (w2.alloc (.cells #[.string sc1, .string us1, .string pa1, .bool hh1, .string hs1, .int .i64 pr1, .bool op1, .slice a1 n1 c1, .bool hq1, .bool hf1, .string qr1, .string fr1] 27)).heap[w2.heap.size]? = some (.cells #[.string sc1, .string us1, .string pa1, .bool hh1, .string hs1, .int .i64 pr1, .bool op1, .slice a1 n1 c1, .bool hq1, .bool hf1, .string qr1, .string fr1] 27 (0, 0)) := heap_new _ _
    clear hox hba cP hres
    go_upto_region 8 with fail
    generalize w2.alloc (.cells #[.string sc1, .string us1, .string pa1, .bool hh1, .string hs1, .int .i64 pr1, .bool op1, .slice a1 n1 c1, .bool hq1, .bool hf1, .string qr1, .string fr1] 27) = V at hoV hEV hbV hrV ⊢
    generalize w2.heap.size = r2 at hrV ⊢
    have HRV := Lib.hid hrV
    rcases HBR.out with ⟨u, hu, rfl, ht⟩ | ⟨k, hu, rfl, hk0⟩
    · obtain ⟨hxu, hn⟩ : u = x ∧ n = 0 := by
        rcases hk with ⟨h1, h2⟩ | ⟨m, h1, _⟩
        · rw [hu] at h1; injection h1 with h1; exact ⟨h1, h2⟩
        · rw [hu] at h1; cases h1
      subst hn hxu
      have hTu := HTy.out u hu
      have cT := Lib.hid (Text_any _ u V hoV.val hEV.h hTu.p0 hTu.p1 hTu.host (by have := hTu.text; omega) hTu.path)
      have Ht := Lib.hid ht
      clear hk hu ht hTu hoV hEV hrV HBR HTy
      go_wp2_with (first | (refine load_url_g rfl _ rfl r2 rfl _ HRV.out rfl ?_))
      refine cT.out.mono ?_
      rintro e w3 ⟨t, rfl, htt, hb3⟩
      have hwt : (t.toList == want.toList) = true := by rw [same_text, htt.out, Ht.out]; simp
      clear htt Ht cT
      go_wp2_with fail
      go_ret
      exact ⟨rfl, below_call hbV hb3⟩
    · obtain ⟨hxu, hn⟩ : x = zeroU ∧ n = (e0 : Int) := by
        rcases hk with ⟨h1, h2⟩ | ⟨m, h1, h3, h2⟩
        · rw [hu] at h1; cases h1
        · rw [hu] at h1; injection h1 with h1; exact ⟨h3, by rw [h2, h1]⟩
      subst hn hxu
      have cS := Lib.hid (lawSame_any _ _ zeroU zeroU V hoV.val (zero_val V) (by show (0 : Nat) ≤ _; omega))
      have hkb : ((e0 : Int) == 0) = false := by simp; omega
      have hkc : ((e0 : Int) != 0) = true := by rw [bne, hkb]; rfl
      rw [show decide (zeroU = zeroU) = true by simp] at cS
      clear hk hu hk0 hoV hEV hrV HBR HTy
      go_wp2_with (first | (refine load_url_g rfl _ rfl r2 rfl _ HRV.out rfl ?_))
      refine cS.out.mono ?_
      rintro e w3 ⟨rfl, hb3⟩
      go_wp2_with fail
      go_ret
      exact ⟨rfl, below_call hbV hb3⟩
/-! ## places -/
def RTrueU (w0 : World) (e : Ending) (w' : World) : Prop := e = .returned (.bool true) ∧ EnvU w' ∧ Below w0.heap.size w0 w'
theorem reads_is (s base want : ByteArray) (e0 : Int) (w0 w : World) (ho : (decide (0 ≤ e0) && Lz.readsU s.data.toList base.data.toList want.data.toList e0.toNat) = true) (hE : EnvU w) (hb : Below w0.heap.size w0 w) :
    Calls Tryz.prog 26 #[.string s, .string base, .string want, .int .i64 e0] w (RTrueU w0) := by
  simp only [Bool.and_eq_true, decide_eq_true_eq] at ho
  have he : e0 = ((e0.toNat : Nat) : Int) := by omega
  have := reads_true s base want e0.toNat w hE ho.2
  rw [← he] at this
  refine this.mono ?_
  rintro e w' ⟨he, hb'⟩
  exact ⟨he, hE.below hb', below_call hb hb'⟩
theorem default_is (s : ByteArray) (d : Int) (w : World) (h : Lz.defP s.data.toList = d) : Calls Tryz.prog 15 #[.string s] w fun e w' => e = .returned (.int .i64 d) ∧ w = w' := by
  rw [← h]; exact Default_any s w
theorem special_is (s : ByteArray) (w : World) (h : Lz.specP s.data.toList = true) : Calls Tryz.prog 13 #[.string s] w fun e w' => e = .returned (.bool true) ∧ w = w' := by
  rw [← h]; exact Special_any s w
set_option maxHeartbeats 8000000 in
set_option maxRecDepth 100000 in
theorem places_any (w : World) (hE : EnvU w) : Calls Tryz.prog 12 #[] w (RBool true w) := by
  have hb := Below.refl w.heap.size w
  go_enter Tryz.func12, Tryz.ntmps12
  go_wp2_with (first
    | (go_at_call 26; refine (reads_is _ _ _ _ w _ (by decide +kernel) (by assumption) (by assumption)).mono ?_; rintro e wn ⟨rfl, hEn, hbn⟩)
    | (go_at_call 15; refine (default_is _ 80 _ (by decide +kernel)).mono ?_; rintro e wn ⟨rfl, rfl⟩)
    | (go_at_call 15; refine (default_is _ (-1) _ (by decide +kernel)).mono ?_; rintro e wn ⟨rfl, rfl⟩)
    | (go_at_call 13; refine (special_is _ _ (by decide +kernel)).mono ?_; rintro e wn ⟨rfl, rfl⟩))
  go_ret
  exact ⟨rfl, by assumption⟩
end Go.Proofs.YthijceooebebfaaGreatDoor
