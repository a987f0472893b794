/-
  Bytes that the call itself collects by append, and the text that they are turned to.
-/
import Derived.Test.YtkaejkjheajaaaaGreatDoorAscii
import Derived.Laws.AppendOwn
namespace Go.Proofs.YtkaejkjheajaaaaGreatDoor
open Go.RowKit

/-- Bytes as cells. -/
def u8s (l : List UInt8) : List Value := l.map fun c => Value.int .u8 c.toNat
theorem u8s_snoc (l : List UInt8) (c : UInt8) : u8s l ++ [.int .u8 (c.toNat : Int)] = u8s (l ++ [c]) := by simp [u8s]
theorem u8s_app (l m : List UInt8) : u8s l ++ u8s m = u8s (l ++ m) := by simp [u8s]
theorem Tryz.infoU8 : (Tryz.prog.info? 5).map (fun i => (i.zero, i.size, i.bytes)) = some (some (.int .u8 0), 1, 1) := by kernel_rfl
theorem cell_one (w : World) (v : Value) (T : TypeId) (j : Nat) (u : Value) (h : [v][j]? = some u) : (w.alloc (.cells #[v] T)).cell? ((⟨w.heap.size, 0, none⟩ : Addr).add j) = some u := by
  rw [addr_add, World.cell?_alloc_mark]
  have hj : j < 1 := by have := (List.getElem?_eq_some_iff.1 h).1; simpa using this
  obtain rfl : j = 0 := by omega
  simpa using h
theorem Below.grown1 {B : Nat} {a w w' : World} {o : Obj} {v : Value} {base e size n : Nat} {xs : List Value} (h : Below B a w) (hown : w.ownsRow base e size v n xs) (hg : (w.alloc o).grownBy w' v.ownBlock) (hB : B ≤ w.heap.size) (hb : B ≤ base) : Below B a w' :=
  (h.alloc hB o).grown hg (by simp; omega) (fun k hk => Nat.le_trans hb ((hown.alloc o).lt k hk).1)
theorem conv_nil (w : World) : (convert 22 9 (.slice none 0 0)).run Tryz.prog w = .ok (.string ⟨#[]⟩) w := by kernel_rfl
/-- What has been collected, as a text. -/
theorem conv_own {w : World} {base : Nat} {v : Value} {n : Nat} {l : List UInt8} (h : w.ownsRow base 5 1 v n (u8s l)) :
    (convert 22 9 v).run Tryz.prog w = .ok (.string ⟨l.toArray⟩) w := by
  have hl : l.length = n := by have := h.1; simpa [u8s] using this
  rcases h.2 with ⟨rfl, h0⟩ | ⟨g, cap, cur, rfl, hbg, hg, hn, hcm, hcs, htk⟩
  · obtain rfl : l = [] := List.length_eq_zero_iff.1 (by omega)
    exact conv_nil w
  · rw [← hl]
    refine run_convert_bytes_back (P := Tryz.prog) w 22 9 5 ⟨g, 0, none⟩ cap l Tryz.underlying22 Tryz.underlying5 Tryz.underlying9 ?_
    intro j hj
    rw [addr_add]
    have h1 : cur[j]? = some (.int .u8 (l[j].toNat : Int)) := by
      have h2 : (u8s l)[j]? = some (.int .u8 (l[j].toNat : Int)) := by simp [u8s, hj]
      rw [← htk, List.getElem?_take] at h2
      split at h2
      · simpa using h2
      · cases h2
    simp [World.cell?, hg, h1]
end Go.Proofs.YtkaejkjheajaaaaGreatDoor
