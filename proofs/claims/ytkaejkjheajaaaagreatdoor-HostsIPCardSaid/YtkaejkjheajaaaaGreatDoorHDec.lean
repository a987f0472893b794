/-
  percent.Decode.
-/
import Derived.Test.YtkaejkjheajaaaaGreatDoorShelg
import Derived.Test.YtkaejkjheajaaaaGreatDoorBuild
import Derived.Test.YtkaejkjheajaaaaGreatDoorHex
namespace Lz
open Go
theorem decode_some {l : Bs} {b : UInt8} (h : tripleP l = some b) : decodeP l = b :: decodeP (l.drop 3) ∧ 3 ≤ l.length := by
  match l with
  | [] => simp [tripleP] at h
  | c :: r =>
    refine ⟨?_, ?_⟩
    · rw [decodeP]
      split
      · rename_i b' hb; rw [hb] at h; injection h with h; subst h; rfl
      · rename_i hb; rw [hb] at h; cases h
    · unfold tripleP at h
      split at h
      · rename_i heq; rw [heq]; simp
      · cases h
theorem decode_none {l : Bs} {c : UInt8} (hc : l[0]? = some c) (h : tripleP l = none) : decodeP l = c :: decodeP (l.drop 1) := by
  match l with
  | [] => simp at hc
  | x :: r =>
    simp at hc; subst hc
    rw [decodeP]
    split
    · rename_i b' hb; rw [hb] at h; cases h
    · rfl
theorem decode_len (l : Bs) : (decodeP l).length ≤ l.length := by
  generalize hn : l.length = n
  induction n using Nat.strongRecOn generalizing l with
  | _ n ih =>
    match l with
    | [] => simp [decodeP]
    | c :: r =>
      rw [decodeP]
      split
      · have := ih (r.drop 2).length (by simp at hn; simp; omega) (r.drop 2) rfl
        simp at hn this ⊢; omega
      · have := ih r.length (by simp at hn; omega) r rfl
        simp at hn ⊢; omega
end Lz
namespace Go.Proofs.YtkaejkjheajaaaaGreatDoor
open Go.RowKit

/-- Where Decode stands. -/
structure DecAt (l : List UInt8) (w : World) (u : ByteArray) (acc : List UInt8) (wr : World) : Prop where
  sum : acc ++ Lz.decodeP u.data.toList = Lz.decodeP l
  len : acc.length + u.size ≤ l.length
  made : Lib.IsBuilder 146 5 w.heap.size w.heap.size (Lib.byteCells acc) wr
  below : Below w.heap.size w wr

theorem byteCells_snoc (acc : List UInt8) (c : UInt8) : Lib.byteCells acc ++ [.int .u8 (c.toNat : Int)] = Lib.byteCells (acc ++ [c]) := by
  simp [Lib.byteCells]

theorem DecAt.some {l : List UInt8} {w : World} {u : ByteArray} {acc : List UInt8} {wr w' : World} {b : UInt8} (h : DecAt l w u acc wr) (hb : Lz.tripleP u.data.toList = some b)
    (hm : Lib.IsBuilder 146 5 w.heap.size w.heap.size (Lib.byteCells acc ++ [.int .u8 (b.toNat : Int)]) w') (hw : Below w.heap.size wr w') {v : ByteArray} (hv : v.data.toList = u.data.toList.drop 3) : DecAt l w v (acc ++ [b]) w' := by
  obtain ⟨h1, h2⟩ := Lz.decode_some hb
  have hz : v.size = u.size - 3 := by rw [← len_of_size, hv, List.length_drop, len_of_size]
  rw [len_of_size] at h2
  exact ⟨by rw [← h.sum, h1, hv]; simp, by have := h.len; simp; omega, by rw [← byteCells_snoc]; exact hm, h.below.trans hw⟩

theorem DecAt.none {l : List UInt8} {w : World} {u : ByteArray} {acc : List UInt8} {wr w' : World} {c : UInt8} (h : DecAt l w u acc wr) (hc : u.data.toList[0]? = .some c) (hb : Lz.tripleP u.data.toList = .none)
    (hm : Lib.IsBuilder 146 5 w.heap.size w.heap.size (Lib.byteCells acc ++ [.int .u8 (c.toNat : Int)]) w') (hw : Below w.heap.size wr w') {v : ByteArray} (hv : v.data.toList = u.data.toList.drop 1) : DecAt l w v (acc ++ [c]) w' := by
  have h1 := Lz.decode_none hc hb
  have hz : v.size = u.size - 1 := by rw [← len_of_size, hv, List.length_drop, len_of_size]
  have hu : 0 < u.size := by
    have := (List.getElem?_eq_some_iff.1 hc).1
    rwa [len_of_size] at this
  exact ⟨by rw [← h.sum, h1, hv]; simp, by have := h.len; simp; omega, by rw [← byteCells_snoc]; exact hm, h.below.trans hw⟩

theorem tail1 (u : ByteArray) : (u.extract 1 u.size).data.toList = u.data.toList.drop 1 := extract_tail' u 1
theorem tail3 (u : ByteArray) : ((u.extract 2 u.size).extract 1 (u.extract 2 u.size).size).data.toList = u.data.toList.drop 3 := by
  rw [extract_tail', extract_tail', List.drop_drop]

theorem tail3' (u : ByteArray) : ((u.extract 2 u.size).extract 1 (u.size - 2)).data.toList = u.data.toList.drop 3 := by
  rw [show u.size - 2 = (u.extract 2 u.size).size by have := congrArg List.length (extract_tail' u 2); rw [List.length_drop, len_of_size, len_of_size] at this; exact this.symm]
  exact tail3 u

set_option maxRecDepth 100000 in
theorem Decode_any (s : ByteArray) (hs : s.size ≤ 1073741824) (w : World) : Calls Tryz.prog 103 #[.string s] w (RStr (Lz.decodeP s.data.toList) w) := by
  obtain ⟨l, hl⟩ : ∃ l, l = s.data.toList := ⟨_, rfl⟩
  have hlen : l.length = s.size := by rw [hl]; exact len_of_size s
  have h0 : DecAt l w s [] (w.alloc (.cells #[.pointer none, .slice none 0 0] 146)) :=
    ⟨by rw [hl]; rfl, by simp [hlen], Lib.fresh_isBuilder _ _ _, (Below.refl _ w).alloc (Nat.le_refl _) _⟩
  rw [← hl]
  clear hl
  have Hlen := Lib.hid hlen
  clear hlen
  go_enter Tryz.func103, Tryz.ntmps103
  go_wp2
  go_loopw [0] (fun s0 wr => ∃ (u : ByteArray) (acc : List UInt8), s0 = .string u ∧ DecAt l w u acc wr) (fun s0 _ => match s0 with | .string u => u.size | _ => 0)
  case atStart => exact ⟨s, [], rfl, h0⟩
  case round =>
    clear h0
    obtain ⟨u, acc, rfl, hD⟩ := hrel
    have hsz : acc.length + u.size ≤ s.size := by rw [← Hlen.out]; exact hD.len
    have hbw := hD.below.size
    by_cases hz : u.size = 0
    · have he := isEmpty_of_size hz
      have hS := Lib.hid hD.sum
      go_wp2_with fail
      refine (Tryz.Builder_String_any _ _ acc _ hD.made (by exact hbw)).mono ?_
      rintro e w' ⟨rfl, hb⟩
      go_wp2
      go_ret
      refine ⟨_, rfl, Lib.hid ?_, hD.below.trans hb⟩
      rw [← hS.out]
      have : u.data.toList = [] := List.length_eq_zero_iff.1 (by rw [len_of_size]; exact hz)
      rw [this]
      simp [Lz.decodeP]
    · have he := isEmpty_of_pos (s := u) (by omega)
      have hg := get_of_lt (s := u) (n := 0) (by omega)
      have Hg := Lib.hid hg
      have HD := Lib.hid hD
      go_wp2_with fail
      refine (triple_any u (by omega) _).mono ?_
      rintro e w' ⟨c, rfl, hc, rfl⟩
      generalize hq : Lz.tripleP u.data.toList = q at hc
      have Hq := Lib.hid hq
      clear hg hq hD
      cases q with
      | none =>
        go_wp2_with fail
        refine (WriteByte_any w.heap.size w.heap.size _ _ _ HD.out.made (by simp [Lib.byteCells]; omega) hbw).mono ?_
        rintro e w2 ⟨rfl, hm, hb⟩
        go_wp2
        go_roundw
        case rel => exact ⟨_, _, rfl, HD.out.none Hg.out Hq.out hm hb (tail1 u)⟩
        case measure => simp; omega
      | some b =>
        have hcb : c = b := hc.out b rfl
        have h3 : 3 ≤ u.size := by rw [← len_of_size]; exact (Lz.decode_some Hq.out).2
        have hz2 : (u.extract 2 u.size).size = u.size - 2 := by rw [← len_of_size, extract_tail', List.length_drop, len_of_size]
        subst hcb
        go_wp2_with fail
        refine (WriteByte_any w.heap.size w.heap.size _ _ _ HD.out.made (by simp [Lib.byteCells]; omega) hbw).mono ?_
        rintro e w2 ⟨rfl, hm, hb⟩
        go_wp2
        go_roundw
        case rel =>
          refine ⟨_, _, rfl, HD.out.some Hq.out hm hb ?_⟩
          with_reducible first | exact tail3 u | exact tail3' u
        case measure => simp; omega
end Go.Proofs.YtkaejkjheajaaaaGreatDoor
