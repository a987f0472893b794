/-
  lazaretlaw07.is and lazaretlaw07.houses.
-/
import Derived.Test.YtkaejkjheajaaaaGreatDoorJHost
namespace Go.Proofs.YtkaejkjheajaaaaGreatDoor
open Go.RowKit

/-- Does Parse tell this text of that one, and this error's number? -/
def isP (s : List UInt8) (special : Bool) (h : List UInt8) (e : Int) : Bool := resT (Lz.hostPr s special) == h && ((resE (Lz.hostPr s special) : Int) == e)

set_option maxHeartbeats 1000000 in
set_option maxRecDepth 100000 in
theorem is_any (s : ByteArray) (special : Bool) (h : ByteArray) (e0 : Int) (hs : s.size ≤ 900000) (hca : special = false → s.data.toList[0]? ≠ some 91 → CAny s) (w : World) (hE : EnvH w) :
    Calls Tryz.prog 22 #[.string s, .bool special, .string h, .int .i64 e0] w (RBool (isP s.data.toList special h.data.toList e0) w) := by
  have cH := ParseH_any s special hs hca w hE
  unfold isP
  generalize Lz.hostPr s.data.toList special = r at cH ⊢
  have CH := Lib.hid cH
  clear cH hca
  generalize hn : ((resE r : Nat) : Int) = n at *
  by_cases h1 : resT r = h.data.toList
  · have HQ : Hid ((resT r == h.data.toList && (n == e0)) = (n == e0)) := by show _ = _; rw [h1]; simp
    have H1 := Lib.hid h1
    clear h1
    go_enter Tryz.func22, Tryz.ntmps22
    go_wp2_with fail
    refine (CH.out).mono ?_
    rintro e w1 ⟨u, rfl, hu, hb1⟩
    have hus : (u.toList == h.toList) = true := by rw [bytes_beq, hu.out, H1.out]; simp
    rw [hn]
    go_wp2
    go_ret
    rw [HQ.out]
    exact ⟨rfl, hb1⟩
  · have HQ : Hid ((resT r == h.data.toList && (n == e0)) = false) := by show _ = _; rw [beq_eq_false_iff_ne.2 h1]; rfl
    have H1 := Lib.hid h1
    clear h1
    go_enter Tryz.func22, Tryz.ntmps22
    go_wp2_with fail
    refine (CH.out).mono ?_
    rintro e w1 ⟨u, rfl, hu, hb1⟩
    have hus : (u.toList == h.toList) = false := by rw [bytes_beq, hu.out]; exact beq_eq_false_iff_ne.2 H1.out
    rw [hn]
    go_wp2
    go_ret
    rw [HQ.out]
    exact ⟨rfl, hb1⟩

/-- It is true; and all that was laid is as it was. -/
def RTrue (b : Bool) (w0 : World) (e : Ending) (w' : World) : Prop := e = .returned (.bool b) ∧ EnvH w' ∧ Below w0.heap.size w0 w'
def okIs (s : List UInt8) (special : Bool) (h : List UInt8) (e : Int) : Bool := isP s special h e && decide (s.length ≤ 1000) && s.all fun c => decide (c.toNat < 128)
theorem cany_asc {s : ByteArray} (hs : s.size ≤ 900000) (ha : ∀ c ∈ s.data.toList, c.toNat < 128) : CAny s := fun W _ => ContainsAny_asc s (by omega) ha W
theorem is_true (s : ByteArray) (special : Bool) (h : ByteArray) (e0 : Int) (w0 w : World) (ho : okIs s.data.toList special h.data.toList e0 = true) (hE : EnvH w) (hb : Below w0.heap.size w0 w) :
    Calls Tryz.prog 22 #[.string s, .bool special, .string h, .int .i64 e0] w (RTrue true w0) := by
  unfold okIs at ho
  simp only [Bool.and_eq_true, decide_eq_true_eq, List.all_eq_true, len_of_size] at ho
  obtain ⟨⟨h1, h2⟩, h3⟩ := ho
  refine (is_any s special h e0 (by omega) (fun _ _ => cany_asc (by omega) h3) w hE).mono ?_
  rintro e w' ⟨he, hb'⟩
  rw [h1] at he
  exact ⟨he, hE.below hb', below_call hb hb'⟩
theorem ip_is (s : ByteArray) (b : Bool) (w0 w : World) (ho : (Lz.ipP s.data.toList == b && decide (s.data.toList.length ≤ 1000)) = true) (hE : EnvH w) (hb : Below w0.heap.size w0 w) :
    Calls Tryz.prog 24 #[.string s] w (RTrue b w0) := by
  simp only [Bool.and_eq_true, decide_eq_true_eq, beq_iff_eq, len_of_size] at ho
  refine (IP_any s (by omega) w hE).mono ?_
  rintro e w' ⟨he, hb'⟩
  rw [ho.1] at he
  exact ⟨he, hE.below hb', below_call hb hb'⟩

set_option maxHeartbeats 4000000 in
set_option maxRecDepth 100000 in
theorem houses_any (w : World) (hE : EnvH w) : Calls Tryz.prog 20 #[] w (RBool true w) := by
  have hb := Below.refl w.heap.size w
  go_enter Tryz.func20, Tryz.ntmps20
  go_wp2_with (first
    | (go_at_call 22; refine (is_true _ _ _ _ w _ (by decide +kernel) (by assumption) (by assumption)).mono ?_; rintro e wn ⟨rfl, hEn, hbn⟩)
    | (go_at_call 24; refine (ip_is _ true w _ (by decide +kernel) (by assumption) (by assumption)).mono ?_; rintro e wn ⟨rfl, hEn, hbn⟩)
    | (go_at_call 24; refine (ip_is _ false w _ (by decide +kernel) (by assumption) (by assumption)).mono ?_; rintro e wn ⟨rfl, hEn, hbn⟩))
  go_ret
  exact ⟨rfl, by assumption⟩
end Go.Proofs.YtkaejkjheajaaaaGreatDoor
