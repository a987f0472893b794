/-
  lazaretlaw27.AllowNonce.
-/
import Derived.Test.YtjhccadmmnjpeaaGreatDoorT48
namespace Lz
open Go
theorem key_head : ∀ k ∈ keywords, k.head? ≠ some 110 := by decide +kernel
theorem not_key_nonce (x : Bs) : keywords.contains (sNonce ++ x) = false := by
  rw [Bool.eq_false_iff]
  intro h
  have := key_head _ (List.contains_iff_mem.1 h)
  exact this rfl
theorem q_nonce (h rest : Bs) (hl : low h = sNonce) (hz : h.length = 6) : quotedS (h ++ rest) = if baseB rest then some (nonceS rest) else none := by
  have hlow : low (h ++ rest) = sNonce ++ low rest := by rw [low_append, hl]
  have hd : (h ++ rest).drop 6 = rest := by rw [← hz]; simp
  unfold quotedS
  rw [hlow, not_key_nonce]
  simp only [Bool.false_eq_true, if_false]
  rw [hasPrefix_self, hd, Bool.true_and]
  cases baseB rest
  · simp only [Bool.false_eq_true, if_false]
    have hs : ∀ b, shaS (h ++ rest) b = none := by
      intro b
      unfold shaS
      rw [hlow, sSha_form]
      rfl
    rw [hs, hs, hs]
    rfl
  · rfl

theorem parse_inline : parseS inlineV = some (keyS inlineS) := by decide +kernel
def letN (b : UInt8) : UInt8 := 97 + b % 26
def nonceW (l : List UInt8) : Bs := 110 :: l.map letN
def nonceV (n : Bs) : Bs := 39 :: ([110, 111, 110, 99, 101, 45] ++ n ++ [39])
theorem letN_ok : ∀ b : UInt8, isLetter (letN b) = true := byte_all (by decide +kernel)
theorem nonce_base (l : List UInt8) : baseB (nonceW l) = true := by
  have := base_ends (nonceW l) [] (fun c hc => by
    rcases List.mem_cons.1 hc with rfl | hc
    · decide
    · obtain ⟨b, _, rfl⟩ := List.mem_map.1 hc; exact letN_ok b) (by simp [nonceW]) (Or.inl rfl)
  rwa [List.append_nil] at this
theorem parse_nonce (l : List UInt8) : parseS (nonceV (nonceW l)) = some (nonceS (nonceW l)) := by
  unfold nonceV
  rw [parse_wrap, q_nonce _ _ (by decide) rfl, if_pos (nonce_base l)]
def withN (vs : List Bs) (l : List UInt8) : List Bs := vs ++ [nonceV (nonceW l), inlineV]
theorem list_with (vs : List Bs) (l : List UInt8) : listS (withN vs l) = listS vs ++ [nonceS (nonceW l), keyS inlineS] := by
  unfold withN
  rw [listS_app', listS_cons, parse_nonce, listS_cons, parse_inline]
  rfl
theorem none_with (vs : List Bs) (l : List UInt8) : noneM (withN vs l) = false := by
  unfold withN
  match vs with
  | [] => exact none_two _ _ _
  | [a] => exact none_two _ _ _
  | a :: b :: r => exact none_two _ _ _
theorem all_with (vs : List Bs) (l : List UInt8) (kind : Int) : allP kind (withN vs l) = false :=
  all_of_mem (x := nonceS (nonceW l)) (by rw [list_with]; simp) (by simp [barS, nonceS])
theorem nonce_with (vs : List Bs) (l : List UInt8) : nonceP (withN vs l) (nonceW l) = true := by
  unfold nonceP
  rw [list_with]
  simp [nonceS, nonceW]
theorem nonce_law (sum : Int → Bs → Bs) (vs : List Bs) (l : List UInt8) (n t : Bs) (kind : Int) (h1 : 1 ≤ kind) (h5 : kind ≤ 5) :
    ((inlineP sum kind (withN vs l) n t && (!(elemP kind && nonceP (withN vs l) n) && !hashP sum (withN vs l) t)) || ((elemP kind && !inlineP sum kind (withN vs l) (nonceW l) t) || allP kind (withN vs l))) = false := by
  rw [all_with, Bool.or_false]
  have hi : ∀ n, inlineP sum kind (withN vs l) n t = ((elemP kind && nonceP (withN vs l) n) || ((elemP kind || hasK (listS (withN vs l)) hashesS) && hashP sum (withN vs l) t)) := by
    intro n
    unfold inlineP
    rw [if_neg (by rw [none_with]; simp; omega), all_with, Bool.false_or]
    cases h : elemP kind && nonceP (withN vs l) n <;> simp
  rw [hi, hi, nonce_with]
  cases elemP kind <;> cases nonceP (withN vs l) n <;> cases hashP sum (withN vs l) t <;> simp
end Lz
namespace Go.Proofs.YtjhccadmmnjpeaaGreatDoor
open Go.RowKit
attribute [local go_sem ↓] Go.wp_at_zero Go.wp_at_succ
/-- Two more texts behind a row of the call's own. -/
theorem wpList_append_twoA {w : World} {ops : Array Oper} {rest : List Oper} {o : Oper} {a : Act} {Q : Exit → Act → World → Prop} (hgd : o.guard = none) (s x : Operand)
    (ho : o.op = .call { callee := .builtin .append, args := #[s, x], argTypes := #[22, 22] }) (hty : o.type = 22) (base : Nat) (v : Value) (xs : List ByteArray) (hs : a.eval s = v) (hown : w.ownsRow base 9 1 v xs.length (xs.map Value.string)) (Bm : Nat) (c : Nat) (p q : ByteArray) (hx : a.eval x = .slice (some ⟨Bm, 0, none⟩) 2 c) (hp : w.cell? ⟨Bm, 0, none⟩ = some (.string p)) (hq : w.cell? ⟨Bm, 1, none⟩ = some (.string q))
    (hL : xs.length ≤ 1000000) (hbase : base ≤ w.heap.size)
    (h : ∀ v' w', w'.ownsRow base 9 1 v' (xs ++ [p, q]).length ((xs ++ [p, q]).map Value.string) → w.grownBy w' v.ownBlock → wpList Tryz.prog ops Q rest (a.put o.dst v') w') : wpList Tryz.prog ops Q (o :: rest) a w := by
  refine wpList_plain hgd fun K hK => ?_
  obtain ⟨i0, hi, hz0, hz1, hz2⟩ := info_parts infoTxt
  obtain ⟨v', w', hr, h2, h3, h4, h5⟩ := run_append_own_at (P := Tryz.prog) w base 22 22 9 i0 (.string ⟨#[]⟩) 1 16 Tryz.underlying22 hi hz0 hz1 hz2 rfl (by decide) v xs.length _ hown ⟨Bm, 0, none⟩ 2 c [.string p, .string q] rfl (fun j u hj => by
      match j, hj with
      | 0, hj =>
        obtain rfl := Option.some.inj hj
        rw [addr_add]; exact hp
      | 1, hj =>
        obtain rfl := Option.some.inj hj
        rw [addr_add]; exact hq) (fun u hu => by
          rcases List.mem_cons.1 hu with rfl | hu
          · rfl
          · rw [List.mem_singleton.1 hu]; rfl) (by unfold maxLen; omega) (by omega) hbase
  have e1 : xs.map Value.string ++ [Value.string p, Value.string q] = (xs ++ [p, q]).map Value.string := by simp
  have e2 : xs.length + 2 = (xs ++ [p, q]).length := by simp
  rw [e1, e2] at h2
  unfold Oper.wp execOp
  simp only [ho, hty, resolve, invoke, builtin, Sem.run_bind, Sem.run_pure, Result.andThen_ok, List.map_toArray, List.map_cons, List.map_nil, hs, hx, hr]
  exact hK _ _ (h _ _ h2 h3)
def nonQ : ByteArray := ⟨#[39, 110, 111, 110, 99, 101, 45]⟩
def quoQ : ByteArray := ⟨#[39]⟩
theorem letN_step {l : List UInt8} {j : Nat} {c : UInt8} (h : l[j]? = some c) : Lz.nonceW (l.take (j + 1)) = Lz.nonceW (l.take j) ++ [Lz.letN c] := by
  unfold Lz.nonceW
  rw [List.take_add_one, h]
  simp
theorem nonce_len (l : List UInt8) : (Lz.nonceW l).length = l.length + 1 := by unfold Lz.nonceW; simp
set_option maxHeartbeats 8000000 in
set_option maxRecDepth 100000 in
theorem allowNonce_any {tab : List UInt32} {tab2 : List UInt64} (lv : Value) (l : List (List UInt8)) (bv : Value) (bs : List UInt8) (s tx : ByteArray) (w : World) (hl : PathAt w lv l) (hbv : SlB w bv bs) (hE : EnvA tab tab2 w) : Calls Tryz.prog 5 #[lv, bv, .agg #[.string s, .string tx]] w (RBool true w) := by
  obtain ⟨W0, hW0⟩ : ∃ B0, B0 = w.alloc (.cells #[.string s, .string tx] 23) := ⟨_, rfl⟩
  have hb0 : Below w.heap.size w W0 := by rw [hW0]; exact (Below.refl _ w).alloc (Nat.le_refl _) _
  have hr0 : W0.heap[w.heap.size]? = some (.cells #[.string s, .string tx] 23 (0, 0)) := by rw [hW0]; exact heap_new _ _
  have hlt0 := row_lt hr0
  have HBX := Lib.hid hW0
  have HPC : Hid (∀ V, Below W0.heap.size W0 V → V.cell? ⟨w.heap.size, 0, none⟩ = some (.string s) ∧ V.cell? ⟨w.heap.size, 1, none⟩ = some (.string tx)) := Lib.hid (fun V hV => ⟨by rw [hV.cell (p := ⟨w.heap.size, 0, none⟩) hlt0]; exact rowAt hr0 0 _ rfl, by rw [hV.cell (p := ⟨w.heap.size, 1, none⟩) hlt0]; exact rowAt hr0 1 _ rfl⟩)
  have hl0 := hl.below hb0
  obtain ⟨la, lc, xs, rfl, rfl, hx⟩ := hl0
  obtain ⟨n, hn⟩ : ∃ n, n = xs.length := ⟨_, rfl⟩
  have hl0 := hl.below hb0
  obtain ⟨ba, bc, rfl, hl9, hcell⟩ := hbv
  obtain ⟨m, hm⟩ : ∃ m, m = bs.length := ⟨_, rfl⟩
  rw [← hn] at hl0 ⊢
  rw [← hm]
  have HN := Lib.hid hn
  have HM := Lib.hid hm
  have HP : Hid (∀ V, Below W0.heap.size W0 V → PathAt V (.slice la n lc) (xs.map (fun x : ByteArray => x.data.toList))) := Lib.hid (fun V hV => hl0.below hV)
  have HX := Lib.hid hx
  have HC : Hid (∀ V, Below W0.heap.size W0 V → ∀ (j : Nat) (x : UInt8), bs[j]? = some x → ∃ B off, ba = some ⟨B, off, none⟩ ∧ V.cell? ⟨B, off + j, none⟩ = some (.int .u8 x.toNat)) := Lib.hid (fun V hV j x hj => by
    obtain ⟨B, off, e, hB, hc⟩ := hcell j x hj
    exact ⟨B, off, e, by rw [(hb0.trans (hV.mono hb0.size)).cell (p := ⟨B, off + j, none⟩) hB]; exact hc⟩)
  obtain ⟨q, hq⟩ : ∃ q, q = decide (10 < n ∨ 30 < m ∨ 500 < tx.size ∨ 300 < s.size) := ⟨_, rfl⟩
  have Hq := Lib.hid hq
  have kH : Hid (∀ V, Below W0.heap.size W0 V → Calls Tryz.prog 9 #[] V fun e w' => e = .returned (.bool true) ∧ Below w.heap.size w w') := Lib.hid (fun V hV => (lets27_any tab tab2 V ((hE.below hb0).below hV)).mono fun e w' ⟨h1, h2⟩ => ⟨h1, below_call (below_call hb0 hV) h2⟩)
  have HE := Lib.hid (hE.below hb0)
  obtain ⟨x0, x1⟩ := HPC.out W0 (Below.refl _ _)
  clear hq hn hm hx hl hl0 hE hb0 hr0 hlt0 hcell hW0
  go_enter Tryz.func5, Tryz.ntmps5
  go_upto_region 1 with fail
  rw [← HBX.out]
  go_cut [33] (fun s wx => s = .bool q ∧ W0 = wx)
  case first =>
    by_cases h0 : 10 < n
    · have i0 : (10 : Int) < (n : Int) := by omega
      have HQ : Hid (q = true) := by show _ = _; rw [Hq.out]; exact decide_eq_true (Or.inl h0)
      clear h0
      go_wp2_with fail
      go_meet
      exact ⟨by rw [HQ.out], rfl⟩
    have i0 : ¬ (10 : Int) < (n : Int) := by omega
    by_cases h1 : 30 < m
    · have i1 : (30 : Int) < (m : Int) := by omega
      have HQ : Hid (q = true) := by show _ = _; rw [Hq.out]; exact decide_eq_true (Or.inr (Or.inl h1))
      clear h0 h1
      go_wp2_with fail
      go_meet
      exact ⟨by rw [HQ.out], rfl⟩
    have i1 : ¬ (30 : Int) < (m : Int) := by omega
    by_cases h2 : 500 < tx.size
    · have i2 : (500 : Int) < (tx.size : Int) := by omega
      have HQ : Hid (q = true) := by show _ = _; rw [Hq.out]; exact decide_eq_true (Or.inr (Or.inr (Or.inl h2)))
      clear h0 h1 h2
      go_wp2_with fail
      go_meet
      exact ⟨by rw [HQ.out], rfl⟩
    have i2 : ¬ (500 : Int) < (tx.size : Int) := by omega
    by_cases h3 : 300 < s.size
    · have i3 : (300 : Int) < (s.size : Int) := by omega
      have HQ : Hid (q = true) := by show _ = _; rw [Hq.out]; exact decide_eq_true (Or.inr (Or.inr (Or.inr h3)))
      clear h0 h1 h2 h3
      go_wp2_with fail
      go_meet
      exact ⟨by rw [HQ.out], rfl⟩
    have i3 : ¬ (300 : Int) < (s.size : Int) := by omega
    have HQ : Hid (q = false) := by show _ = _; rw [Hq.out]; exact decide_eq_false (fun h => by omega)
    clear h0 h1 h2 h3
    go_wp2_with fail
    go_meet
    exact ⟨by rw [HQ.out], rfl⟩
  case rest =>
  obtain ⟨rfl, rfl⟩ := hcut
  clear x0 x1
  cases q with
  | true =>
    go_wp2_with fail
    refine (kH.out _ (Below.refl _ _)).mono ?_
    rintro e w5 ⟨rfl, hb5⟩
    go_wp2_with fail
    go_ret
    exact ⟨rfl, hb5⟩
  | false =>
  have hqf := of_decide_eq_false Hq.out.symm
  have hn10 : n ≤ 10 := by omega
  have hm30 : m ≤ 30 := by omega
  have htx : tx.size ≤ 500 := by omega
  clear hqf Hq
  go_wp2_with fail
  go_loopw [7] (fun i wr => ∃ j : Nat, i = .int .i64 j ∧ j ≤ n ∧ Hid (∀ x ∈ xs.take j, x.size ≤ 100) ∧ W0 = wr) (fun i _ => n - (intOf i).toNat)
  case atStart => exact ⟨0, rfl, Nat.zero_le _, Lib.hid (fun x hx => by cases hx), rfl⟩
  case round =>
  obtain ⟨j, rfl, hj, hT, rfl⟩ := hrel
  by_cases hlt : j < n
  · have hltI : (j : Int) < (n : Int) := by omega
    have hj0 : (0 : Int) ≤ (j : Int) := by omega
    obtain ⟨x, hx⟩ : ∃ x, xs[j]? = some x := ⟨_, List.getElem?_eq_getElem (by rw [← HN.out]; exact hlt)⟩
    obtain ⟨B, off, rfl, hB, hc⟩ := HX.out j x hx
    by_cases hz : 100 < x.size
    · have hzI : (100 : Int) < (x.size : Int) := by omega
      clear hx hz
      go_wp2_with fail
      refine (kH.out _ (Below.refl _ _)).mono ?_
      rintro e w5 ⟨rfl, hb5⟩
      go_wp2_with fail
      go_ret
      exact ⟨rfl, hb5⟩
    · have hzI : ¬ (100 : Int) < (x.size : Int) := by omega
      have HT : Hid (∀ y ∈ xs.take (j + 1), y.size ≤ 100) := Lib.hid (fun y hy => by
        rw [List.take_add_one, hx] at hy
        rcases List.mem_append.1 hy with h | h
        · exact hT.out y h
        · rw [List.mem_singleton.1 h]; omega)
      clear hx hz
      go_wp2_with fail
      go_roundw
      case rel => exact ⟨j + 1, by go_num, by omega, HT, trivial⟩
      case measure => simp [intOf]; omega
  · have hltI : ¬ (j : Int) < (n : Int) := by omega
    have HZ : Hid (∀ y ∈ xs, y.size ≤ 100) := by
      show ∀ y ∈ xs, y.size ≤ 100
      have := hT.out
      rwa [List.take_of_length_le (by have := HN.out; omega)] at this
    clear hT
    go_wp2_with fail
    go_loopw [8, 9] (fun z i wr => ∃ (k : Nat) (y : ByteArray), z = .string y ∧ i = .int .i64 k ∧ k ≤ m ∧ Hid (y.data.toList = Lz.nonceW (bs.take k)) ∧ Below W0.heap.size W0 wr) (fun _ i _ => m - (intOf i).toNat)
    case atStart => exact ⟨0, ⟨#[110]⟩, rfl, rfl, Nat.zero_le _, Lib.hid rfl, Below.refl _ _⟩
    case round =>
    obtain ⟨k, y, rfl, rfl, hk, hy, hbr⟩ := hrel
    have hys : y.size = k + 1 := by rw [← len_of_size, hy.out, nonce_len, List.length_take, ← HM.out]; omega
    by_cases hkm : k < m
    · have hkI : (k : Int) < (m : Int) := by omega
      have hk0 : (0 : Int) ≤ (k : Int) := by omega
      obtain ⟨c, hc⟩ : ∃ c, bs[k]? = some c := ⟨_, List.getElem?_eq_getElem (by rw [← HM.out]; exact hkm)⟩
      obtain ⟨B, off, rfl, hcc⟩ := HC.out wr hbr k c hc
      have HY := Lib.hid (letN_step hc)
      obtain ⟨r, hr⟩ : ∃ r, r = c.toNat % 26 := ⟨_, rfl⟩
      have fr : Int.tmod (c.toNat : Int) 26 = (r : Int) := by rw [Int.tmod_eq_emod_of_nonneg (by omega)]; omega
      obtain ⟨g, hg⟩ : ∃ g, g = Lz.letN c := ⟨_, rfl⟩
      have hgn : g.toNat = 97 + r := by rw [hg, hr]; unfold Lz.letN; simp [UInt8.toNat_add, UInt8.toNat_mod]; omega
      have fg : (97 : Int) + (r : Int) = (g.toNat : Int) := by omega
      have fw : (g.toNat : Int) % 256 = (g.toNat : Int) := by omega
      rw [← hg] at HY
      have hconv := run_convert_bytes_back (P := Tryz.prog) (wr.alloc (.cells #[.int .u8 (g.toNat : Int)] 5)) 30 9 5 ⟨wr.heap.size, 0, none⟩ 1 [g] Tryz.underlying30 Tryz.underlying5 Tryz.underlying9 (fun j hj => by
        have h0 : j = 0 := by simpa using hj
        subst h0
        rw [addr_add]; exact rowAt (heap_new _ _) 0 _ rfl)
      have hconv : (convert 30 9 (.slice (some ⟨wr.heap.size, 0, none⟩) 1 1)).run Tryz.prog (wr.alloc (.cells #[.int .u8 (g.toNat : Int)] 5)) = .ok (.string ⟨#[g]⟩) (wr.alloc (.cells #[.int .u8 (g.toNat : Int)] 5)) := hconv
      have hbs := hbr.alloc (o := .cells #[.int .u8 (g.toNat : Int)] 5) hbr.size
      clear hc hr hg hgn
      go_wp2_with fail
      go_roundw
      case rel => exact ⟨k + 1, _, rfl, by go_num, by omega, Lib.hid (by rw [HY.out, ← hy.out]; simp [ByteArray.data_append]), hbs⟩
      case measure => simp [intOf]; omega
    · have hkI : ¬ (k : Int) < (m : Int) := by omega
      have hye : Hid (y.data.toList = Lz.nonceW bs) := by
        show _ = _
        have := hy.out
        rwa [List.take_of_length_le (by have := HM.out; omega)] at this
      have hys : y.size ≤ 31 := by omega
      have hpW := HP.out wr hbr
      go_wp2_with (at_builtin; refine wpList_append_nilA rfl (.const (.slice none 0 0)) (.tmp 64) rfl rfl wr.heap.size la n lc xs rfl rfl hpW HN.out (by omega) (Nat.le_refl _) ?_)
      intro v2 w2 hown2 hg2
      have hb2 : Below wr.heap.size wr w2 := (Below.refl _ wr).grown hg2 (Nat.le_refl _) (fun k hk => by cases hk)
      have Hown2 := Lib.hid hown2
      have hb2s := hb2.size
      clear hown2 hg2 hpW
      go_wp2_with (at_builtin; refine wpList_append_twoA rfl (.tmp 65) (.tmp 69) rfl rfl wr.heap.size v2 xs rfl (Hown2.out.alloc _) w2.heap.size 2 (nonQ ++ y ++ quoQ) inlineQ rfl (rowAt (heap_new _ _) 0 _ rfl) (rowAt (heap_new _ _) 1 _ rfl) (by rw [← HN.out]; omega) (by simp; omega) ?_)
      intro v3 w3 hown3 hg3
      obtain ⟨p, hp⟩ : ∃ p, p = nonQ ++ y ++ quoQ := ⟨_, rfl⟩
      have hps : p.size ≤ 50 := by
        have e7 : nonQ.size = 7 := rfl
        have e1 : quoQ.size = 1 := rfl
        rw [hp, ByteArray.size_append, ByteArray.size_append]; omega
      have hpl : p.data.toList = Lz.nonceV (Lz.nonceW bs) := by rw [hp]; simp only [ByteArray.data_append, Array.toList_append, hye.out]; rfl
      rw [← hp] at hown3
      have hown3 : w3.ownsRow wr.heap.size 9 1 v3 (xs ++ [p, inlineQ]).length ((xs ++ [p, inlineQ]).map Value.string) := by rw [List.length_append, List.map_append]; exact hown3
      have hb3 : Below wr.heap.size wr w3 := Below.grown1 hb2 Hown2.out hg3 hb2s (Nat.le_refl _)
      have hp3 : PathAt w3 v3 ((xs ++ [p, inlineQ]).map (fun x : ByteArray => x.data.toList)) := by
        obtain ⟨a, c, e, _, hc⟩ := PathOwn.form (Or.inl hown3)
        exact ⟨a, c, _, e, rfl, hc⟩
      have hv3 : ValsAt w3 v3 ((xs ++ [p, inlineQ]).map (fun x : ByteArray => x.data.toList)) := valsA hp3 (by rw [List.length_append]; have := HN.out; simp; omega) (fun x hx => by
        rcases List.mem_append.1 hx with h | h
        · have := HZ.out x h; omega
        · simp only [List.mem_cons, List.not_mem_nil, or_false] at h
          rcases h with rfl | rfl
          · omega
          · decide)
      have hb03 : Below W0.heap.size W0 w3 := below_call hbr hb3
      have hE3 := HE.out.below hb03
      obtain ⟨L, hL⟩ : ∃ L, L = xs.map (fun x : ByteArray => x.data.toList) := ⟨_, rfl⟩
      have hLe : (xs ++ [p, inlineQ]).map (fun x : ByteArray => x.data.toList) = Lz.withN L bs := by rw [List.map_append, hL]; simp only [List.map_cons, List.map_nil, hpl]; rfl
      rw [hLe] at hv3
      obtain ⟨a3, n3, c3, rfl⟩ : ∃ a n c, v3 = .slice a n c := by
        obtain ⟨a, c, e, _⟩ := PathOwn.form (Or.inl hown3)
        exact ⟨a, _, c, e⟩
      have HPC3 := Lib.hid (fun V (hV : Below w3.heap.size w3 V) => HPC.out V (below_call hb03 hV))
      have kH3 := Lib.hid (fun V (hV : Below w3.heap.size w3 V) => kH.out V (below_call hb03 hV))
      obtain ⟨zf, hzf⟩ : ∃ f : Nat → ByteArray → Bool, f = fun (i : Nat) (x : ByteArray) => Lz.inlineP (Lz.sumD (digA tab tab2)) (i : Int) (Lz.withN L bs) x.data.toList tx.data.toList := ⟨_, rfl⟩
      obtain ⟨zn, hzn⟩ : ∃ z, z = Lz.nonceP (Lz.withN L bs) s.data.toList := ⟨_, rfl⟩
      obtain ⟨zh, hzh⟩ : ∃ z, z = Lz.hashP (Lz.sumD (digA tab tab2)) (Lz.withN L bs) tx.data.toList := ⟨_, rfl⟩
      have kI : Hid (∀ (i : Nat) (x : ByteArray) V, Below w3.heap.size w3 V → Calls Tryz.prog 10 #[.int .i64 (i : Int), .slice a3 n3 c3, .string x, .string tx] V (RBool (zf i x) V)) := Lib.hid (fun i x V hV => by rw [hzf]; exact InlineA_any tab tab2 (i : Int) _ _ x tx (by omega) V (hE3.below hV) (hv3.below hV))
      have kN : Hid (∀ V, Below w3.heap.size w3 V → Calls Tryz.prog 14 #[.slice a3 n3 c3, .string s] V (RBool zn V)) := Lib.hid (fun V hV => by rw [hzn]; exact NonceA_any _ _ s V (hE3.below hV).m.s (hv3.below hV))
      have kX : Hid (∀ V, Below w3.heap.size w3 V → Calls Tryz.prog 16 #[.slice a3 n3 c3, .string tx] V (RBool zh V)) := Lib.hid (fun V hV => by rw [hzh]; exact HashA_any tab tab2 _ _ tx (by omega) V (hE3.below hV) (hv3.below hV))
      have kA : Hid (∀ (i : Nat) V, Below w3.heap.size w3 V → Calls Tryz.prog 12 #[.int .i64 (i : Int), .slice a3 n3 c3] V (RBool false V)) := Lib.hid (fun i V hV => Lz.all_with L bs (i : Int) ▸ AllA_any (i : Int) _ _ V (hE3.below hV).m.s (hv3.below hV))
      have LAW : Hid (∀ i : Nat, 1 ≤ i → i ≤ 5 → ((zf i s && (!(((i : Int) == 1 || (i : Int) == 4) && zn) && !zh)) || ((((i : Int) == 1 || (i : Int) == 4) && !zf i y) || false)) = false) := Lib.hid (fun i h1 h5 => by
        have h := Lz.nonce_law (Lz.sumD (digA tab tab2)) L bs s.data.toList tx.data.toList (i : Int) (by omega) (by omega)
        rw [Lz.all_with, ← hye.out] at h
        rw [hzf, hzn, hzh]; exact h)
      clear hown3 hg3 hb2 hb3 hp3 hv3 hE3 hL hLe hp hps hpl hzf hzn hzh Hown2 HP HX HZ HC HPC kH HE hb03 hbr hys hye hy
      go_wp2_with fail
      go_loopw [11, 12, 13] (fun k _ _ wq => ∃ i : Nat, k = .int .i64 i ∧ 1 ≤ i ∧ i ≤ 6 ∧ Below w3.heap.size w3 wq) (fun k _ _ _ => 6 - (intOf k).toNat)
      case atStart => exact ⟨1, rfl, by omega, by omega, Below.refl _ _⟩
      case round =>
      obtain ⟨i, rfl, hi1, hi6, hbq⟩ := hrel
      by_cases hi : i ≤ 5
      · have hiI : (i : Int) ≤ 5 := by omega
        obtain ⟨x0, x1⟩ := HPC3.out wr hbq
        have kI1 := Lib.hid (kI.out i s wr hbq)
        obtain ⟨z1, hz1⟩ : ∃ z, z = zf i s := ⟨_, rfl⟩
        obtain ⟨z2, hz2⟩ : ∃ z, z = zf i y := ⟨_, rfl⟩
        have kI2 := Lib.hid (kI.out i y)
        have law := LAW.out i hi1 hi
        obtain ⟨e0, he0⟩ : ∃ e, e = ((i : Int) == 1 || (i : Int) == 4) := ⟨_, rfl⟩
        rw [← hz1, ← hz2, ← he0] at law
        rw [← hz1] at kI1
        rw [← hz2] at kI2
        have HE0 := Lib.hid he0
        have Hlaw := Lib.hid law
        clear law he0 hz1 hz2
        go_wp2_with fail
        refine kI1.out.mono ?_
        rintro e v1 ⟨rfl, hn1⟩
        replace hn1 := below_call hbq hn1
        clear x0 x1
        obtain ⟨x0, x1⟩ := HPC3.out _ hn1
        go_upto_region 18 with fail
        go_cut [12, 13] from 71 to 122 (fun a b wx => a = .bool z1 ∧ b = .bool e0 ∧ v1 = wx)
        case first =>
          obtain rfl | rfl | rfl | rfl | rfl : i = 1 ∨ i = 2 ∨ i = 3 ∨ i = 4 ∨ i = 5 := by omega
          all_goals
            go_wp2_with fail
            go_meet
            exact ⟨rfl, by rw [HE0.out]; rfl, rfl⟩
        case rest =>
        obtain ⟨rfl, rfl, rfl⟩ := hcut
        clear x0 x1
        obtain ⟨x0, x1⟩ := HPC3.out _ hn1
        cases e0 with
        | false =>
          cases z1 with
          | false =>
            go_wp2_with fail
            refine (kA.out i _ hn1).mono ?_
            rintro e v2 ⟨rfl, hn2⟩
            replace hn2 := below_call hn1 hn2
            go_wp2_with fail
            go_roundw
            case rel => exact ⟨i + 1, by go_num, by omega, by omega, hn2⟩
            case measure => simp [intOf]; omega
          | true =>
            obtain rfl : zh = true := by have := Hlaw.out; simpa using this
            go_wp2_with fail
            refine (kX.out _ hn1).mono ?_
            rintro e v2 ⟨rfl, hn2⟩
            replace hn2 := below_call hn1 hn2
            go_wp2_with fail
            refine (kA.out i _ hn2).mono ?_
            rintro e v3 ⟨rfl, hn3⟩
            replace hn3 := below_call hn2 hn3
            go_wp2_with fail
            go_roundw
            case rel => exact ⟨i + 1, by go_num, by omega, by omega, hn3⟩
            case measure => simp [intOf]; omega
        | true =>
          obtain rfl : z2 = true := by
            have := Hlaw.out
            cases z2
            · simp at this
            · rfl
          cases z1 with
          | false =>
            go_wp2_with fail
            refine (kI2.out _ hn1).mono ?_
            rintro e v2 ⟨rfl, hn2⟩
            replace hn2 := below_call hn1 hn2
            go_wp2_with fail
            refine (kA.out i _ hn2).mono ?_
            rintro e v3 ⟨rfl, hn3⟩
            replace hn3 := below_call hn2 hn3
            go_wp2_with fail
            go_roundw
            case rel => exact ⟨i + 1, by go_num, by omega, by omega, hn3⟩
            case measure => simp [intOf]; omega
          | true =>
            go_wp2_with fail
            refine (kN.out _ hn1).mono ?_
            rintro e v2 ⟨rfl, hn2⟩
            replace hn2 := below_call hn1 hn2
            clear x0 x1
            obtain ⟨x0, x1⟩ := HPC3.out _ hn2
            cases zn with
            | true =>
              go_wp2_with fail
              refine (kI2.out _ hn2).mono ?_
              rintro e v3 ⟨rfl, hn3⟩
              replace hn3 := below_call hn2 hn3
              go_wp2_with fail
              refine (kA.out i _ hn3).mono ?_
              rintro e v4 ⟨rfl, hn4⟩
              replace hn4 := below_call hn3 hn4
              go_wp2_with fail
              go_roundw
              case rel => exact ⟨i + 1, by go_num, by omega, by omega, hn4⟩
              case measure => simp [intOf]; omega
            | false =>
              obtain rfl : zh = true := by have := Hlaw.out; simpa using this
              go_wp2_with fail
              refine (kX.out _ hn2).mono ?_
              rintro e v3 ⟨rfl, hn3⟩
              replace hn3 := below_call hn2 hn3
              clear x0 x1
              obtain ⟨x0, x1⟩ := HPC3.out _ hn3
              go_wp2_with fail
              refine (kI2.out _ hn3).mono ?_
              rintro e v4 ⟨rfl, hn4⟩
              replace hn4 := below_call hn3 hn4
              go_wp2_with fail
              refine (kA.out i _ hn4).mono ?_
              rintro e v5 ⟨rfl, hn5⟩
              replace hn5 := below_call hn4 hn5
              go_wp2_with fail
              go_roundw
              case rel => exact ⟨i + 1, by go_num, by omega, by omega, hn5⟩
              case measure => simp [intOf]; omega
      · obtain rfl : i = 6 := by omega
        go_wp2_with fail
        refine (kH3.out _ hbq).mono ?_
        rintro e v6 ⟨rfl, hn6⟩
        go_wp2_with fail
        go_ret
        exact ⟨rfl, hn6⟩
end Go.Proofs.YtjhccadmmnjpeaaGreatDoor
