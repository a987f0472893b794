/-
  lazaretlaw27.AllowMore.
-/
import Derived.Test.YtjhccadmmnjpeaaGreatDoorT48
namespace Lz
open Go
def oddW : Bs := [97, 46, 46, 98]
theorem parse_odd : parseS oddW = none := by decide +kernel
def moreW (vs : List Bs) (k : Nat) : List Bs := vs.take k ++ oddW :: vs.drop k
theorem list_more (vs : List Bs) (k : Nat) : listS (moreW vs k) = listS vs := by
  unfold moreW
  rw [listS_app', listS_cons, parse_odd]
  show listS (vs.take k) ++ listS (vs.drop k) = _
  rw [← listS_app', List.take_append_drop]
theorem none_more {vs : List Bs} (h : vs ≠ []) (k : Nat) : noneM (moreW vs k) = false := by
  have hl : (moreW vs k).length = vs.length + 1 := by
    unfold moreW
    rw [List.length_append, List.length_cons, List.length_take, List.length_drop]; omega
  have h1 : vs.length ≠ 0 := fun e => h (List.length_eq_zero_iff.1 e)
  unfold noneM
  match hm : moreW vs k with
  | [] => rw [hm] at hl; simp at hl
  | [a] => rw [hm, List.length_singleton] at hl; omega
  | a :: b :: r => simp
theorem quote_low : ∀ c : UInt8, low1 c = 39 → c = 39 := byte_all (by decide +kernel)
theorem low_none_parse {a : Bs} (h : low a = noneS) : parseS a = none := by
  have hl : a.length = 6 := by
    have := congrArg List.length h
    unfold low at this
    rwa [List.length_map] at this
  match a, hl with
  | [x0, x1, x2, x3, x4, x5], _ =>
    have e := h
    unfold low at e
    simp only [List.map_cons, List.map_nil] at e
    have h0 : x0 = 39 := by
      have : low1 x0 = 39 := by injection e
      exact quote_low x0 this
    have h5 : x5 = 39 := by
      have : low1 x5 = 39 := by
        injection e with _ e; injection e with _ e; injection e with _ e; injection e with _ e; injection e with _ e; injection e
      exact quote_low x5 this
    subst h0; subst h5
    rw [show ([39, x1, x2, x3, x4, 39] : Bs) = 39 :: ([x1, x2, x3, x4] ++ [39]) from rfl, parse_wrap]
    have hq : low [x1, x2, x3, x4] = [110, 111, 110, 101] := by
      unfold low
      simp only [List.map_cons, List.map_nil]
      injection e with _ e; injection e with e1 e; injection e with e2 e; injection e with e3 e; injection e with e4 e
      rw [e1, e2, e3, e4]
    unfold quotedS shaS
    rw [hq]
    have a1 : keywords.contains ([110, 111, 110, 101] : Bs) = false := by decide
    have a2 : Lib.hasPrefix ([110, 111, 110, 101] : Bs) sNonce = false := by decide
    have a3 : ∀ b ∈ [(256 : Int), 384, 512], Lib.hasPrefix ([110, 111, 110, 101] : Bs) (sSha b) = false := by decide +kernel
    rw [a1, a2, a3 256 (by simp), a3 384 (by simp), a3 512 (by simp)]
    rfl
theorem inline_same (sum : Int → Bs → Bs) {vs : List Bs} (h : vs ≠ []) (k : Nat) (kind : Int) (n t : Bs) : inlineP sum kind vs n t = inlineP sum kind (moreW vs k) n t := by
  have hA : allP kind (moreW vs k) = allP kind vs := by unfold allP; rw [list_more]
  have hN : nonceP (moreW vs k) n = nonceP vs n := by unfold nonceP; rw [list_more]
  have hH : hashP sum (moreW vs k) t = hashP sum vs t := by unfold hashP; rw [list_more]
  unfold inlineP
  rw [none_more h k, hA, hN, hH, list_more]
  by_cases hk : kind < 1 ∨ 5 < kind
  · rw [if_pos (by rcases hk with h | h; exact Or.inl h; exact Or.inr (Or.inl h)), if_pos (by rcases hk with h | h; exact Or.inl h; exact Or.inr (Or.inl h))]
  · by_cases hn : noneM vs = true
    · rw [if_pos (Or.inr (Or.inr hn)), if_neg (by simp; omega)]
      have hl : listS vs = [] := by
        unfold noneM at hn
        cases vs with
        | nil => exact absurd rfl h
        | cons a r =>
          simp at hn
          obtain ⟨rfl, hn⟩ := hn
          rw [listS_cons, low_none_parse hn]; rfl
      have e1 : allP kind vs = false := by unfold allP; rw [hl]; rfl
      have e2 : nonceP vs n = false := by unfold nonceP; rw [hl]; simp
      have e3 : hashP sum vs t = false := by unfold hashP; rw [hl]; rfl
      rw [e1, e2, e3]
      simp
    · have c1 : ¬ (kind < 1 ∨ 5 < kind ∨ noneM vs = true) := fun e => e.elim (fun e => hk (Or.inl e)) (fun e => e.elim (fun e => hk (Or.inr e)) hn)
      have c2 : ¬ (kind < 1 ∨ 5 < kind ∨ false = true) := fun e => e.elim (fun e => hk (Or.inl e)) (fun e => e.elim (fun e => hk (Or.inr e)) (fun e => by cases e))
      rw [if_neg c1, if_neg c2]
theorem hash_same (sum : Int → Bs → Bs) (vs : List Bs) (k : Nat) (t : Bs) : hashP sum vs t = hashP sum (moreW vs k) t := by unfold hashP; rw [list_more]
theorem integ_same (fields : Bs → List Bs) (vs : List Bs) (k : Nat) (t : Bs) : integrityP fields vs t = integrityP fields (moreW vs k) t := by unfold integrityP; rw [list_more]
end Lz
namespace Go.Proofs.YtjhccadmmnjpeaaGreatDoor
open Go.RowKit
attribute [local go_sem ↓] Go.wp_at_zero Go.wp_at_succ
/-- A row of texts behind a row of the call's own, inside a region that draws. -/
theorem op_append_rowA {w : World} {o : Oper} {a : Act} {K : Act → World → Prop} {Q : Exit → Act → World → Prop} (s x : Operand)
    (ho : o.op = .call { callee := .builtin .append, args := #[s, x], argTypes := #[22, 22] }) (hty : o.type = 22) (base : Nat) (v : Value) (xs : List ByteArray) (hs : a.eval s = v) (hown : w.ownsRow base 9 1 v xs.length (xs.map Value.string)) (ad : Addr) (n c : Nat) (ys : List ByteArray) (hx : a.eval x = .slice (some ad) n c)
    (hp : PathAt w (.slice (some ad) n c) (ys.map (fun x : ByteArray => x.data.toList))) (hn : n = ys.length)
    (hL : xs.length + n ≤ 1000000) (hbase : base ≤ w.heap.size)
    (h : ∀ v' w', w'.ownsRow base 9 1 v' (xs ++ ys).length ((xs ++ ys).map Value.string) → w.grownBy w' v.ownBlock → K (a.put o.dst v') w') : Oper.wp Tryz.prog o a w K Q := by
  obtain ⟨i0, hi, hz0, hz1, hz2⟩ := info_parts infoTxt
  obtain ⟨a1, c1, zs, he, hys, hc⟩ := hp
  obtain rfl : zs = ys := by
    exact (List.map_inj_right (fun x y e => ByteArray.ext (Array.toList_inj.1 e))).1 hys
  injection he with e1 e2 e3
  subst e1; subst e3
  obtain ⟨v', w', hr, h2, h3, h4, h5⟩ := run_append_own_at (P := Tryz.prog) w base 22 22 9 i0 (.string ⟨#[]⟩) 1 16 Tryz.underlying22 hi hz0 hz1 hz2 rfl (by decide) v xs.length _ hown ad n c (zs.map Value.string) (by rw [List.length_map, hn, Nat.mul_one]) (fun j u hj => by
      rw [List.getElem?_map] at hj
      cases hy : zs[j]? with
      | none => rw [hy] at hj; cases hj
      | some y =>
        rw [hy] at hj
        obtain rfl := Option.some.inj hj
        obtain ⟨B, off, e, _, hc2⟩ := hc j y hy
        obtain rfl := Option.some.inj e
        rw [show (⟨B, off, none⟩ : Addr).add j = ⟨B, off + j, none⟩ by unfold Addr.add; split <;> simp_all]; exact hc2) (fun u hu => by obtain ⟨y, _, rfl⟩ := List.mem_map.1 hu; rfl) (by unfold maxLen; omega) (by omega) hbase
  have e1 : xs.map Value.string ++ zs.map Value.string = (xs ++ zs).map Value.string := by rw [List.map_append]
  have e2 : xs.length + n = (xs ++ zs).length := by rw [List.length_append, hn]
  rw [e1, e2] at h2
  unfold Oper.wp execOp
  simp only [ho, hty, resolve, invoke, builtin, Sem.run_bind, Sem.run_pure, Result.andThen_ok, List.map_toArray, List.map_cons, List.map_nil, hs, hx, hr]
  exact h _ _ h2 h3
def oddQ : ByteArray := ⟨#[97, 46, 46, 98]⟩
def abcQ : ByteArray := ⟨#[97, 98, 99]⟩
theorem more_map (xs : List ByteArray) (k : Nat) : (xs.take k ++ [oddQ] ++ xs.drop k).map (fun x : ByteArray => x.data.toList) = Lz.moreW (xs.map (fun x : ByteArray => x.data.toList)) k := by
  unfold Lz.moreW
  rw [List.map_append, List.map_append, List.map_take, List.map_drop, List.append_assoc]
  rfl
set_option maxHeartbeats 8000000 in
set_option maxRecDepth 100000 in
theorem allowMore_any {tab : List UInt32} {tab2 : List UInt64} (lv : Value) (l : List (List UInt8)) (ax : Nat) (tx : ByteArray) (w : World) (hl : PathAt w lv l) (hcp : ∀ a n c, lv = .slice a n c → n ≤ c) (hax : ax < 256) (hE : EnvA tab tab2 w) : Calls Tryz.prog 6 #[lv, .int .u8 (ax : Int), .string tx] w (RBool true w) := by
  have hl0 := hl
  obtain ⟨la, lc, xs, rfl, rfl, hx⟩ := hl
  obtain ⟨n, hn⟩ : ∃ n, n = xs.length := ⟨_, rfl⟩
  have hcp := hcp _ _ _ rfl
  rw [← hn] at hl0 hcp ⊢
  have HN := Lib.hid hn
  have HP : Hid (∀ V, Below w.heap.size w V → PathAt V (.slice la n lc) (xs.map (fun x : ByteArray => x.data.toList))) := Lib.hid (fun V hV => hl0.below hV)
  have HX := Lib.hid hx
  obtain ⟨q, hq⟩ : ∃ q, q = decide (10 < n ∨ n = 0 ∨ 500 < tx.size) := ⟨_, rfl⟩
  have Hq := Lib.hid hq
  have kH : Hid (∀ V, Below w.heap.size w V → Calls Tryz.prog 9 #[] V fun e w' => e = .returned (.bool true) ∧ Below w.heap.size w w') := Lib.hid (fun V hV => (lets27_any tab tab2 V (hE.below hV)).mono fun e w' ⟨h1, h2⟩ => ⟨h1, below_call hV h2⟩)
  have HE := Lib.hid hE
  have HCP := Lib.hid hcp
  clear hq hn hx hl0 hE hcp
  go_enter Tryz.func6, Tryz.ntmps6
  go_upto_region 1 with fail
  go_cut [23] (fun s wx => s = .bool q ∧ w = wx)
  case first =>
    by_cases h0 : 10 < n
    · have i0 : (10 : Int) < (n : Int) := by omega
      have HQ : Hid (q = true) := by show _ = _; rw [Hq.out]; exact decide_eq_true (Or.inl h0)
      clear h0
      go_wp2_with fail
      go_meet
      exact ⟨by rw [HQ.out], rfl⟩
    have i0 : ¬ (10 : Int) < (n : Int) := by omega
    by_cases h1 : n = 0
    · have HQ : Hid (q = true) := by show _ = _; rw [Hq.out]; exact decide_eq_true (Or.inr (Or.inl h1))
      subst h1
      go_wp2_with fail
      go_meet
      exact ⟨by rw [HQ.out], rfl⟩
    have i1 : ((n : Int) == 0) = false := by rw [beq_eq_false_iff_ne]; omega
    by_cases h2 : 500 < tx.size
    · have i2 : (500 : Int) < (tx.size : Int) := by omega
      have HQ : Hid (q = true) := by show _ = _; rw [Hq.out]; exact decide_eq_true (Or.inr (Or.inr h2))
      clear h0 h1 h2
      go_wp2_with fail
      go_meet
      exact ⟨by rw [HQ.out], rfl⟩
    have i2 : ¬ (500 : Int) < (tx.size : Int) := by omega
    have HQ : Hid (q = false) := by show _ = _; rw [Hq.out]; exact decide_eq_false (fun h => by omega)
    clear h0 h1 h2
    go_wp2_with fail
    go_meet
    exact ⟨by rw [HQ.out], rfl⟩
  case rest =>
  obtain ⟨rfl, rfl⟩ := hcut
  cases q with
  | true =>
    go_wp2_with fail
    refine (kH.out _ (Below.refl _ _)).mono ?_
    rintro e w5 ⟨rfl, hb5⟩
    go_wp2_with fail
    go_ret
    exact ⟨rfl, hb5⟩
  | false =>
  have hqf := of_decide_eq_false Hq.out.symm
  have hn10 : n ≤ 10 := by omega
  have hn0 : 0 < n := by omega
  have htx : tx.size ≤ 500 := by omega
  clear hqf Hq
  go_wp2_with fail
  go_loopw [7] (fun i wr => ∃ j : Nat, i = .int .i64 j ∧ j ≤ n ∧ Hid (∀ x ∈ xs.take j, x.size ≤ 100) ∧ w = wr) (fun i _ => n - (intOf i).toNat)
  case atStart => exact ⟨0, rfl, Nat.zero_le _, Lib.hid (fun x hx => by cases hx), rfl⟩
  case round =>
  obtain ⟨j, rfl, hj, hT, rfl⟩ := hrel
  by_cases hlt : j < n
  · have hltI : (j : Int) < (n : Int) := by omega
    have hj0 : (0 : Int) ≤ (j : Int) := by omega
    obtain ⟨x, hx⟩ : ∃ x, xs[j]? = some x := ⟨_, List.getElem?_eq_getElem (by rw [← HN.out]; exact hlt)⟩
    obtain ⟨B, off, rfl, hB, hc⟩ := HX.out j x hx
    by_cases hz : 100 < x.size
    · have hzI : (100 : Int) < (x.size : Int) := by omega
      clear hx hz
      go_wp2_with fail
      refine (kH.out _ (Below.refl _ _)).mono ?_
      rintro e w5 ⟨rfl, hb5⟩
      go_wp2_with fail
      go_ret
      exact ⟨rfl, hb5⟩
    · have hzI : ¬ (100 : Int) < (x.size : Int) := by omega
      have HT : Hid (∀ y ∈ xs.take (j + 1), y.size ≤ 100) := Lib.hid (fun y hy => by
        rw [List.take_add_one, hx] at hy
        rcases List.mem_append.1 hy with h | h
        · exact hT.out y h
        · rw [List.mem_singleton.1 h]; omega)
      clear hx hz
      go_wp2_with fail
      go_roundw
      case rel => exact ⟨j + 1, by go_num, by omega, HT, trivial⟩
      case measure => simp [intOf]; omega
  · have hltI : ¬ (j : Int) < (n : Int) := by omega
    have HZ : Hid (∀ y ∈ xs, y.size ≤ 100) := by
      show ∀ y ∈ xs, y.size ≤ 100
      have := hT.out
      rwa [List.take_of_length_le (by have := HN.out; omega)] at this
    clear hT
    obtain ⟨k, hk⟩ : ∃ k, k = ax % (n + 1) := ⟨_, rfl⟩
    have hkn : k ≤ n := by have h := Nat.mod_lt ax (Nat.succ_pos n); rw [← show k = ax % (n + 1) from hk] at h; omega
    have ft : Int.tmod (ax : Int) ((n : Int) + 1) = (k : Int) := by rw [Int.tmod_eq_emod_of_nonneg (by omega), hk]; rfl
    have fn1 : ((n : Int) + 1 == 0) = false := by rw [beq_eq_false_iff_ne]; omega
    have fn2 : ¬ ((n : Int) + 1 = 0) := by omega
    clear hk
    obtain ⟨x00, hx00⟩ : ∃ x, xs[0]? = some x := ⟨_, List.getElem?_eq_getElem (by rw [← HN.out]; exact hn0)⟩
    obtain ⟨B, off, rfl, _, _⟩ := HX.out 0 x00 hx00
    clear hx00
    have hcp := HCP.out
    have kI0 : (0 : Int) ≤ (k : Int) := by omega
    have kI1 : (k : Int) ≤ (n : Int) := by omega
    have kI2 : (k : Int) ≤ (lc : Int) := by omega
    have HP1 : Hid (∀ V, Below w.heap.size w V → PathAt V (.slice (some ⟨B, off, none⟩) k lc) ((xs.take k).map (fun x : ByteArray => x.data.toList))) := Lib.hid (fun V hV => by
      obtain ⟨a, c, ys, he, hy, hc⟩ := HP.out V hV
      obtain rfl : ys = xs := by
        exact ((List.map_inj_right (fun x y e => ByteArray.ext (Array.toList_inj.1 e))).1 hy)
      injection he with e1 e2 e3
      subst e1
      refine ⟨_, lc, ys.take k, by rw [List.length_take, ← HN.out, Nat.min_eq_left hkn], rfl, fun j x hj => ?_⟩
      rw [List.getElem?_take] at hj
      split at hj
      · exact hc j x hj
      · cases hj)
    obtain ⟨off2, hoff2⟩ : ∃ o2, o2 = if lc = k then off else off + k := ⟨_, rfl⟩
    have HP2 : Hid (∀ V, Below w.heap.size w V → PathAt V (.slice (some ⟨B, off2, none⟩) (n - k) (lc - k)) ((xs.drop k).map (fun x : ByteArray => x.data.toList))) := Lib.hid (fun V hV => by
      obtain ⟨a, c, ys, he, hy, hc⟩ := HP.out V hV
      obtain rfl : ys = xs := by
        exact ((List.map_inj_right (fun x y e => ByteArray.ext (Array.toList_inj.1 e))).1 hy)
      injection he with e1 e2 e3
      subst e1
      refine ⟨_, lc - k, ys.drop k, by rw [List.length_drop, ← HN.out], rfl, fun j x hj => ?_⟩
      rw [List.getElem?_drop] at hj
      have hjn := (List.getElem?_eq_some_iff.1 hj).1
      rw [← HN.out] at hjn
      obtain ⟨B1, o1, e1, hB1, hc1⟩ := hc _ x hj
      obtain ⟨rfl, rfl⟩ : B1 = B ∧ o1 = off := by injection Option.some.inj e1 with h1 h2; exact ⟨h1.symm, h2.symm⟩
      refine ⟨B1, _, rfl, hB1, ?_⟩
      rw [hoff2, if_neg (by omega), Nat.add_assoc]
      exact hc1)
    have HO := Lib.hid hoff2
    clear hoff2
    have HK : Hid (k = (xs.take k).length ∧ k ≤ 10) := Lib.hid ⟨by rw [List.length_take, ← HN.out, Nat.min_eq_left hkn], by omega⟩
    have HK2 : Hid (n - k = (xs.drop k).length ∧ n ≤ 10) := Lib.hid ⟨by rw [List.length_drop, ← HN.out], hn10⟩
    go_upto_region 9 with fail
    go_cut [9] (fun z wx => PathAt wx z (Lz.moreW (xs.map (fun x : ByteArray => x.data.toList)) k) ∧ Below w.heap.size w wx)
    case first =>
      refine wp_region_held_drew (S := fun V => Below w.heap.size w V) (by kernel_rfl) (Below.refl _ w).drew (fun hHeld => ?_)
      generalize w.drew = W0 at hHeld ⊢
      refine TkD 0 (some 44) (v := ?_) rfl rfl ?_ ?_
      rotate_left
      · (intro W hSw; (try dsimp only at hSw); go_simp; try with_reducible rfl)
      (try simp only [Act.put]); (try simp only [List.setIfInBounds_toArray]); (try simp only [List.set_cons_zero, List.set_cons_succ])
      refine TkD 1 (some 45) (v := ?_) rfl rfl ?_ ?_
      rotate_left
      · (intro W hSw; (try dsimp only at hSw); go_simp; try with_reducible rfl)
      (try simp only [Act.put]); (try simp only [List.setIfInBounds_toArray]); (try simp only [List.set_cons_zero, List.set_cons_succ])
      refine TkD 2 (some 46) (v := ?_) rfl rfl ?_ ?_
      rotate_left
      · (intro W hSw; (try dsimp only at hSw); go_simp; try with_reducible rfl)
      (try simp only [Act.put]); (try simp only [List.setIfInBounds_toArray]); (try simp only [List.set_cons_zero, List.set_cons_succ])
      refine TkD 6 (some 50) (v := ?_) rfl rfl ?_ ?_
      rotate_left
      · (intro W hSw; (try dsimp only at hSw); go_simp; try with_reducible rfl)
      (try simp only [Act.put]); (try simp only [List.setIfInBounds_toArray]); (try simp only [List.set_cons_zero, List.set_cons_succ])
      refine TkD 7 (some 51) (v := ?_) rfl rfl ?_ ?_
      rotate_left
      · (intro W hSw; (try dsimp only at hSw); go_simp; try with_reducible rfl)
      (try simp only [Act.put]); (try simp only [List.setIfInBounds_toArray]); (try simp only [List.set_cons_zero, List.set_cons_succ])
      refine TkD 8 (some 52) (v := .slice (some ⟨B, off2, none⟩) (n - k) (lc - k)) rfl rfl ?_ ?_
      · (intro W hSw; (try dsimp only at hSw); go_simp; rw [HO.out]; split <;> rfl)
      (try simp only [Act.put]); (try simp only [List.setIfInBounds_toArray]); (try simp only [List.set_cons_zero, List.set_cons_succ])
      refine wpAnyH_ready (rs := [3, 4]) (by kernel_rfl) (by simp) ?_
      refine AllReadyH.cons rfl (fun K hK => ?_) (AllReadyH.cons rfl (fun K hK => ?_) AllReadyH.nil)
      · skip
        rw [if_pos (by rfl)]
        refine op_append_nilA (.const (.slice none 0 0)) (.tmp 46) rfl rfl w.heap.size (some ⟨B, off, none⟩) k lc (xs.take k) rfl rfl (HP1.out W0 hHeld) HK.out.1 (by have := HK.out.2; omega) hHeld.size ?_
        intro v5 w5 hown5 hgrow5
        have hb5 : Below w.heap.size w w5 := hHeld.grown hgrow5 hHeld.size (fun k hk => by cases hk)
        have hcm5 : Below W0.heap.size W0 w5 := (Below.refl _ _).grown hgrow5 (Nat.le_refl _) (fun k hk => by cases hk)
        clear hHeld hgrow5
        refine hK.out _ _ hb5 (fun hHeld => ?_)
        clear hK K
        (try simp only [Act.put]); (try simp only [List.setIfInBounds_toArray]); (try simp only [List.set_cons_zero, List.set_cons_succ])
        refine wpAnyH_ready (rs := [4]) (by kernel_rfl) (by simp) ?_
        refine AllReadyH.cons rfl (fun K hK => ?_) AllReadyH.nil
        have hown5b := own_below hown5 ((Below.refl w5.heap.size w5).alloc (Nat.le_refl _) (.cells #[.string oddQ] 9))
        clear hown5
        go_simp
        have hb6 : Below w.heap.size w (w5.alloc (.cells #[.string oddQ] 9)) := hHeld.alloc hHeld.size _
        have hc6 : (w5.alloc (.cells #[.string oddQ] 9)).cell? ⟨w5.heap.size, 0, none⟩ = some (.string oddQ) := rowAt (heap_new w5 (.cells #[.string oddQ] 9)) 0 (.string oddQ) rfl
        clear hHeld
        refine hK.out _ _ hb6 (fun hHeld => ?_)
        clear hK K
        (try simp only [Act.put]); (try simp only [List.setIfInBounds_toArray]); (try simp only [List.set_cons_zero, List.set_cons_succ])
        have hown5 := hown5b
        clear hown5b hcm5
        refine wpAnyH_ready (rs := [5]) (by kernel_rfl) (by simp) ?_
        refine AllReadyH.cons rfl (fun K hK => ?_) AllReadyH.nil
        rw [if_pos (by rfl)]
        refine op_append_snocA (.tmp 47) (.tmp 48) rfl rfl w.heap.size v5 (xs.take k) rfl hown5 w5.heap.size 1 oddQ rfl hc6 (by rw [← HK.out.1]; have := HK.out.2; omega) hHeld.size ?_
        intro v7 w7 hown7 hgrow7
        have hb7 : Below w.heap.size w w7 := hHeld.grown hgrow7 hHeld.size (fun k hk => (hown5.lt k hk).1)
        clear hHeld hgrow7 hown5 hc6
        refine hK.out _ _ hb7 (fun hHeld => ?_)
        clear hK K
        (try simp only [Act.put]); (try simp only [List.setIfInBounds_toArray]); (try simp only [List.set_cons_zero, List.set_cons_succ])
        refine wpAnyH_ready (rs := [9]) (by kernel_rfl) (by simp) ?_
        refine AllReadyH.cons rfl (fun K hK => ?_) AllReadyH.nil
        rw [if_pos (by rfl)]
        refine op_append_rowA (.tmp 49) (.tmp 52) rfl rfl w.heap.size v7 (xs.take k ++ [oddQ]) rfl hown7 _ _ _ (xs.drop k) rfl (HP2.out w7 hHeld) HK2.out.1 (by rw [List.length_append, ← HK.out.1]; have := HK.out.2; have := HK2.out.2; show k + 1 + (n - k) ≤ _; omega) hHeld.size ?_
        intro v8 w8 hown8 hgrow8
        have hb8 : Below w.heap.size w w8 := hHeld.grown hgrow8 hHeld.size (fun k hk => (hown7.lt k hk).1)
        have hp8 : PathAt w8 v8 (Lz.moreW (xs.map (fun x : ByteArray => x.data.toList)) k) := by
          obtain ⟨a7, c7, e7, _, k7⟩ := PathOwn.form (Or.inl hown8)
          exact ⟨a7, c7, _, e7, more_map xs k, k7⟩
        clear hHeld hown7 hgrow8 hown8
        refine hK.out _ _ hb8 (fun hHeld => ?_)
        clear hK K
        (try simp only [Act.put]); (try simp only [List.setIfInBounds_toArray]); (try simp only [List.set_cons_zero, List.set_cons_succ])
        refine TkD 10 (some 9) (v := ?_) rfl rfl ?_ ?_
        rotate_left
        · (intro W hSw; (try dsimp only at hSw); go_simp; try with_reducible rfl)
        (try simp only [Act.put]); (try simp only [List.setIfInBounds_toArray]); (try simp only [List.set_cons_zero, List.set_cons_succ])
        refine wpAnyH_done (by kernel_rfl) ?_ _
        go_wp2_with fail
        go_meet
        exact ⟨hp8, hHeld⟩
      · skip
        have hw0 := hHeld.size
        go_simp
        have hb6 : Below w.heap.size w (W0.alloc (.cells #[.string oddQ] 9)) := hHeld.alloc hHeld.size _
        have hc6 : (W0.alloc (.cells #[.string oddQ] 9)).cell? ⟨W0.heap.size, 0, none⟩ = some (.string oddQ) := rowAt (heap_new W0 (.cells #[.string oddQ] 9)) 0 (.string oddQ) rfl
        clear hHeld
        refine hK.out _ _ hb6 (fun hHeld => ?_)
        clear hK K
        (try simp only [Act.put]); (try simp only [List.setIfInBounds_toArray]); (try simp only [List.set_cons_zero, List.set_cons_succ])
        refine wpAnyH_ready (rs := [3]) (by kernel_rfl) (by simp) ?_
        refine AllReadyH.cons rfl (fun K hK => ?_) AllReadyH.nil
        rw [if_pos (by rfl)]
        refine op_append_nilA (.const (.slice none 0 0)) (.tmp 46) rfl rfl w.heap.size (some ⟨B, off, none⟩) k lc (xs.take k) rfl rfl (HP1.out (W0.alloc (.cells #[.string oddQ] 9)) hHeld) HK.out.1 (by have := HK.out.2; omega) hHeld.size ?_
        intro v5 w5 hown5 hgrow5
        have hb5 : Below w.heap.size w w5 := hHeld.grown hgrow5 hHeld.size (fun k hk => by cases hk)
        have hcm5 : Below (W0.alloc (.cells #[.string oddQ] 9)).heap.size (W0.alloc (.cells #[.string oddQ] 9)) w5 := (Below.refl _ _).grown hgrow5 (Nat.le_refl _) (fun k hk => by cases hk)
        clear hHeld hgrow5
        refine hK.out _ _ hb5 (fun hHeld => ?_)
        clear hK K
        (try simp only [Act.put]); (try simp only [List.setIfInBounds_toArray]); (try simp only [List.set_cons_zero, List.set_cons_succ])
        have hc6b : w5.cell? ⟨W0.heap.size, 0, none⟩ = some (.string oddQ) := by rw [hcm5.cell (p := ⟨W0.heap.size, 0, none⟩) (by simp)]; exact hc6
        clear hc6 hcm5
        have hc6 := hc6b
        clear hc6b
        refine wpAnyH_ready (rs := [5]) (by kernel_rfl) (by simp) ?_
        refine AllReadyH.cons rfl (fun K hK => ?_) AllReadyH.nil
        rw [if_pos (by rfl)]
        refine op_append_snocA (.tmp 47) (.tmp 48) rfl rfl w.heap.size v5 (xs.take k) rfl hown5 W0.heap.size 1 oddQ rfl hc6 (by rw [← HK.out.1]; have := HK.out.2; omega) hHeld.size ?_
        intro v7 w7 hown7 hgrow7
        have hb7 : Below w.heap.size w w7 := hHeld.grown hgrow7 hHeld.size (fun k hk => (hown5.lt k hk).1)
        clear hHeld hgrow7 hown5 hc6
        refine hK.out _ _ hb7 (fun hHeld => ?_)
        clear hK K
        (try simp only [Act.put]); (try simp only [List.setIfInBounds_toArray]); (try simp only [List.set_cons_zero, List.set_cons_succ])
        refine wpAnyH_ready (rs := [9]) (by kernel_rfl) (by simp) ?_
        refine AllReadyH.cons rfl (fun K hK => ?_) AllReadyH.nil
        rw [if_pos (by rfl)]
        refine op_append_rowA (.tmp 49) (.tmp 52) rfl rfl w.heap.size v7 (xs.take k ++ [oddQ]) rfl hown7 _ _ _ (xs.drop k) rfl (HP2.out w7 hHeld) HK2.out.1 (by rw [List.length_append, ← HK.out.1]; have := HK.out.2; have := HK2.out.2; show k + 1 + (n - k) ≤ _; omega) hHeld.size ?_
        intro v8 w8 hown8 hgrow8
        have hb8 : Below w.heap.size w w8 := hHeld.grown hgrow8 hHeld.size (fun k hk => (hown7.lt k hk).1)
        have hp8 : PathAt w8 v8 (Lz.moreW (xs.map (fun x : ByteArray => x.data.toList)) k) := by
          obtain ⟨a7, c7, e7, _, k7⟩ := PathOwn.form (Or.inl hown8)
          exact ⟨a7, c7, _, e7, more_map xs k, k7⟩
        clear hHeld hown7 hgrow8 hown8
        refine hK.out _ _ hb8 (fun hHeld => ?_)
        clear hK K
        (try simp only [Act.put]); (try simp only [List.setIfInBounds_toArray]); (try simp only [List.set_cons_zero, List.set_cons_succ])
        refine TkD 10 (some 9) (v := ?_) rfl rfl ?_ ?_
        rotate_left
        · (intro W hSw; (try dsimp only at hSw); go_simp; try with_reducible rfl)
        (try simp only [Act.put]); (try simp only [List.setIfInBounds_toArray]); (try simp only [List.set_cons_zero, List.set_cons_succ])
        refine wpAnyH_done (by kernel_rfl) ?_ _
        go_wp2_with fail
        go_meet
        exact ⟨hp8, hHeld⟩
    case rest =>
    obtain ⟨hpz, hbz⟩ := hcut
    obtain ⟨az, nz, cz, hzz⟩ : ∃ a n c, _ = Value.slice a n c := by
      obtain ⟨a, c, _, e, _⟩ := hpz
      exact ⟨a, _, c, e⟩
    subst hzz
    obtain ⟨L, hL⟩ : ∃ L, L = xs.map (fun x : ByteArray => x.data.toList) := ⟨_, rfl⟩
    have hLn : L ≠ [] := by
      intro h
      have := congrArg List.length h
      rw [hL, List.length_map, ← HN.out] at this
      simp at this; omega
    have hLl : L.length = n := by rw [hL, List.length_map, HN.out]
    have hv0 : ValsAt w (.slice (some ⟨B, off, none⟩) n lc) L := by rw [hL]; exact valsA (HP.out w (Below.refl _ _)) (by rw [← HN.out]; omega) (fun x hx => by have := HZ.out x hx; omega)
    have hvz : ValsAt wc (.slice az nz cz) (Lz.moreW L k) := ⟨by rw [hL]; exact hpz, by unfold Lz.moreW; rw [List.length_append, List.length_take, List.length_cons, List.length_drop, hLl]; omega, fun y hy => by
      unfold Lz.moreW at hy
      have hLz : ∀ y ∈ L, y.length ≤ 90000 := fun y hy => by
        rw [hL] at hy
        obtain ⟨x, hx, rfl⟩ := List.mem_map.1 hy
        rw [len_of_size]; have := HZ.out x hx; omega
      rcases List.mem_append.1 hy with h | h
      · exact hLz y (List.mem_of_mem_take h)
      · rcases List.mem_cons.1 h with rfl | h
        · decide
        · exact hLz y (List.mem_of_mem_drop h)⟩
    obtain ⟨zf, hzf⟩ : ∃ f : Nat → Bool, f = fun (i : Nat) => Lz.inlineP (Lz.sumD (digA tab tab2)) (i : Int) L abcQ.data.toList tx.data.toList := ⟨_, rfl⟩
    obtain ⟨zh, hzh⟩ : ∃ z, z = Lz.hashP (Lz.sumD (digA tab tab2)) L tx.data.toList := ⟨_, rfl⟩
    obtain ⟨zg, hzg⟩ : ∃ z, z = Lz.integrityP Lz.fieldsP L tx.data.toList := ⟨_, rfl⟩
    have kI : Hid (∀ (i : Nat) V, Below wc.heap.size wc V → Calls Tryz.prog 10 #[.int .i64 (i : Int), .slice (some ⟨B, off, none⟩) n lc, .string abcQ, .string tx] V (RBool (zf i) V)) := Lib.hid (fun i V hV => by rw [hzf]; exact InlineA_any tab tab2 (i : Int) _ _ abcQ tx (by omega) V (HE.out.below (below_call hbz hV)) (hv0.below (below_call hbz hV)))
    have kJ : Hid (∀ (i : Nat) V, Below wc.heap.size wc V → Calls Tryz.prog 10 #[.int .i64 (i : Int), .slice az nz cz, .string abcQ, .string tx] V (RBool (zf i) V)) := Lib.hid (fun i V hV => by
      have h := InlineA_any tab tab2 (i : Int) _ _ abcQ tx (by omega) V (HE.out.below (below_call hbz hV)) (hvz.below hV)
      rw [← Lz.inline_same _ hLn] at h
      rw [hzf]; exact h)
    have kX : Hid (∀ V, Below wc.heap.size wc V → Calls Tryz.prog 16 #[.slice (some ⟨B, off, none⟩) n lc, .string tx] V (RBool zh V)) := Lib.hid (fun V hV => by rw [hzh]; exact HashA_any tab tab2 _ _ tx (by omega) V (HE.out.below (below_call hbz hV)) (hv0.below (below_call hbz hV)))
    have kY : Hid (∀ V, Below wc.heap.size wc V → Calls Tryz.prog 16 #[.slice az nz cz, .string tx] V (RBool zh V)) := Lib.hid (fun V hV => by rw [hzh, Lz.hash_same _ L k]; exact HashA_any tab tab2 _ _ tx (by omega) V (HE.out.below (below_call hbz hV)) (hvz.below hV))
    have kG : Hid (∀ V, Below wc.heap.size wc V → Calls Tryz.prog 19 #[.slice (some ⟨B, off, none⟩) n lc, .string tx] V (RBool zg V)) := Lib.hid (fun V hV => by rw [hzg]; exact Integrity_any _ _ tx (by omega) V (HE.out.below (below_call hbz hV)).m.s (hv0.below (below_call hbz hV)))
    have kO : Hid (∀ V, Below wc.heap.size wc V → Calls Tryz.prog 19 #[.slice az nz cz, .string tx] V (RBool zg V)) := Lib.hid (fun V hV => by rw [hzg, Lz.integ_same _ L k]; exact Integrity_any _ _ tx (by omega) V (HE.out.below (below_call hbz hV)).m.s (hvz.below hV))
    have kH3 := Lib.hid (fun V (hV : Below wc.heap.size wc V) => kH.out V (below_call hbz hV))
    clear hpz hv0 hvz hL hLn hLl hzf hzh hzg HP1 HP2 HK HK2 HO kH HE HP HX HZ HCP hcp hbz ft fn1 fn2 hltI
    go_wp2_with fail
    go_loopw [10] (fun k wr => ∃ i : Nat, k = .int .i64 i ∧ 1 ≤ i ∧ i ≤ 6 ∧ Below wc.heap.size wc wr) (fun k _ => 6 - (intOf k).toNat)
    case atStart => exact ⟨1, rfl, by omega, by omega, Below.refl _ _⟩
    case round =>
    obtain ⟨i, rfl, hi1, hi6, hbr⟩ := hrel
    by_cases hi : i ≤ 5
    · have hiI : (i : Int) ≤ 5 := by omega
      have kI1 := Lib.hid (kI.out i wr hbr)
      have kJ1 := Lib.hid (kJ.out i)
      obtain ⟨zi, hzi⟩ : ∃ z, z = zf i := ⟨_, rfl⟩
      rw [← hzi] at kI1 kJ1
      clear hzi
      go_wp2_with fail
      refine kI1.out.mono ?_
      rintro e v1 ⟨rfl, hn1⟩
      replace hn1 := below_call hbr hn1
      go_wp2_with fail
      refine (kJ1.out _ hn1).mono ?_
      rintro e v2 ⟨rfl, hn2⟩
      replace hn2 := below_call hn1 hn2
      cases zi
      all_goals
        go_wp2_with fail
        go_roundw
        case rel => exact ⟨i + 1, by go_num, by omega, by omega, hn2⟩
        case measure => simp [intOf]; omega
    · obtain rfl : i = 6 := by omega
      go_wp2_with fail
      refine (kX.out _ hbr).mono ?_
      rintro e v1 ⟨rfl, hn1⟩
      replace hn1 := below_call hbr hn1
      go_wp2_with fail
      refine (kY.out _ hn1).mono ?_
      rintro e v2 ⟨rfl, hn2⟩
      replace hn2 := below_call hn1 hn2
      cases zh
      all_goals
        go_wp2_with fail
        refine (kG.out _ hn2).mono ?_
        rintro e v3 ⟨rfl, hn3⟩
        replace hn3 := below_call hn2 hn3
        go_wp2_with fail
        refine (kO.out _ hn3).mono ?_
        rintro e v4 ⟨rfl, hn4⟩
        replace hn4 := below_call hn3 hn4
        cases zg
        all_goals
          go_wp2_with fail
          refine (kH3.out _ hn4).mono ?_
          rintro e v6 ⟨rfl, hn6⟩
          go_wp2_with fail
          go_ret
          exact ⟨rfl, hn6⟩
end Go.Proofs.YtjhccadmmnjpeaaGreatDoor
