/-
  From a row's list of what is laid, and from the world's shape, to 'Env': what the walks ask of the package-level variables.
-/
import Derived.Test.YtkaejkjheajaaaaGreatDoorSrcA
import Derived.Test.YtkaejkjheajaaaaGreatDoorRows
import Derived.ProofKit
import Derived.OpenShut
import Derived.Deep.DeepHandedRow
import Derived.Deep.DeepWitnessRowRef
import Derived.Lib.LaidTab
import Derived.Lib.LaidU8
import Derived.LaidMore
import Derived.LaidSub
import Derived.LaidHandle
import Derived.Shelf.Vars
set_option maxRecDepth 100000
namespace Go.Proofs.YtkaejkjheajaaaaGreatDoor
open Go.ChangeShapes Go.WideShapes Go.ChangeAt Go.RowKit

theorem laid_reads {l : List (String × DataW Unit)} {W : World} (h : laidMetH Tryz.prog l W) {n : String} {d : DataW Unit} (hm : (n, d) ∈ l) (hn : d.handleName?.isNone = true) : Lib.VarReads Tryz.prog W n d :=
  Lib.laidMet.reads (laidMetH_iff.1 h).1 (List.mem_filter.2 ⟨hm, hn⟩)

theorem tab_of_reads {W : World} {name : String} {k : IntKind} {zs : List Int} {g : Nat} {t e : TypeId} {n : Nat}
    (hg : Tryz.prog.globalNamed name = some g) (hty : (Tryz.prog.globals[g]?).map (·.type) = some t) (ht : Tryz.prog.underlying t = some (.array n e)) (he : Tryz.prog.underlying e = some (.int k)) (hce : Tryz.prog.cellsOf e = 1) (hct : Tryz.prog.cellsOf t = n)
    (h : Lib.VarReads Tryz.prog W name (Lib.tabData k zs)) : Lib.TabIs Tryz.prog W name k zs := by
  obtain ⟨g', t', cs, fuel, p, hg', ht', hvar, hd⟩ := h
  obtain rfl := Option.some.inj (hg.symm.trans hg')
  obtain rfl := Option.some.inj (hty.symm.trans ht')
  unfold Lib.TabIs
  rw [hvar, ← Lib.cells_of_tab ht he hce hct hd]

theorem iface_of_reads {W : World} {name : String} {nm : String} {d : DataW Unit} {g : Nat} {t : TypeId} {ms : Array (String × TypeId)}
    (hg : Tryz.prog.globalNamed name = some g) (hty : (Tryz.prog.globals[g]?).map (·.type) = some t) (ht : Tryz.prog.underlying t = some (.interface ms))
    (h : Lib.VarReads Tryz.prog W name (.iface nm d)) : ∃ te pe, W.cell? ⟨g, 0, none⟩ = some (.iface te pe) := by
  obtain ⟨g', t', cs, fuel, p, hg', ht', hvar, hd⟩ := h
  obtain rfl := Option.some.inj (hg.symm.trans hg')
  obtain rfl := Option.some.inj (hty.symm.trans ht')
  have hcell := World.var?_cell hg hvar 0
  cases fuel with
  | zero => simp [DataW.trod] at hd
  | succ n =>
    unfold DataW.trod at hd
    rw [ht] at hd
    obtain ⟨cs⟩ := cs
    match cs, hd, hcell with
    | [.iface u v], _, hcell => exact ⟨u, v, by simpa using hcell⟩
    | [.nilIface], hd, _ => simp at hd
    | [], hd, _ => simp at hd
    | _ :: _ :: _, hd, _ => simp at hd

theorem gKw : Tryz.prog.globalNamed "lazaret/sources.keywords" = some 1 := by kernel_rfl
theorem gSyn : Tryz.prog.globalNamed "strconv.ErrSyntax" = some 8 := by kernel_rfl
theorem gRng : Tryz.prog.globalNamed "strconv.ErrRange" = some 9 := by kernel_rfl
theorem gEt : Tryz.prog.globalNamed "errors.errorType" = some 0 := by kernel_rfl
theorem gEtRt : (Tryz.prog.cutTypes.find? (·.1 == "internal/reflectlite.rtype")).map (·.2) = some 121 := by kernel_rfl
theorem gEtRow : ((List.range Tryz.prog.types.size).filter fun t => Tryz.prog.rowNamed t [101, 114, 114, 111, 114]) = [55] := by kernel_rfl

theorem et_of_laid {l : List (String × DataW Unit)} {W : World} (h : laidMetH Tryz.prog l W) (hm : ("errors.errorType", Rows.laid_errors_errorType) ∈ l) :
    W.cell? ⟨0, 0, none⟩ = some (.iface 121 (.agg #[.pointer (some ⟨10, 55, none⟩)])) := by
  obtain ⟨name, u, ty, e1, e2, e3, e4, e5⟩ := (laidMetH_iff.1 h).2 _ (List.mem_filter.2 ⟨hm, rfl⟩)
  have en : name = [101, 114, 114, 111, 114] := (Option.some.inj e1).symm
  subst en
  obtain rfl := Option.some.inj (gEtRt.symm.trans e2)
  have hm : ty ∈ (List.range Tryz.prog.types.size).filter fun t => Tryz.prog.rowNamed t [101, 114, 114, 111, 114] := List.mem_filter.2 ⟨List.mem_range.2 e3, e4⟩
  rw [gEtRow] at hm
  obtain rfl := List.mem_singleton.1 hm
  have hh : typeHandle Tryz.prog 55 = .pointer (some ⟨10, 55, none⟩) := by kernel_rfl
  rw [hh] at e5
  simpa using World.var?_cell gEt e5 0

theorem spot_none {w : World} {b o : Nat} {sp : Option Nat} {v : Value} (h : w.cell? ⟨b, o, sp⟩ = some v) : sp = none := by
  cases sp with
  | none => rfl
  | some x =>
    unfold World.cell? at h
    split at h <;> simp at h

theorem kw_of_laid {W : World} (h : Lib.VarReads Tryz.prog W "lazaret/sources.keywords" Rows.laid_lazaret_sources_keywords) :
    ∃ b o c, W.cell? ⟨1, 0, none⟩ = some (.slice (some ⟨b, o, none⟩) 8 c) ∧ b < W.heap.size ∧ ∀ j, j < 8 → W.cell? ⟨b, o + j, none⟩ = some (.string ((Lz.keywords.map (fun l => (⟨l.toArray⟩ : ByteArray))).getD j ByteArray.empty)) := by
  obtain ⟨g', t', cs, fuel, p, hg', ht', hvar, hd⟩ := h
  obtain rfl := Option.some.inj (gKw.symm.trans hg')
  obtain rfl := Option.some.inj ((show (Tryz.prog.globals[1]?).map (·.type) = some 35 by kernel_rfl).symm.trans ht')
  have hcell := World.var?_cell gKw hvar 0
  obtain ⟨a, cap, hcs, _, hall⟩ := open_row (Tryz.underlying35) (by kernel_rfl) hd
  obtain ⟨b, o, sp⟩ := a
  have hc0 : cs[0]? = some (.slice (some ⟨b, o, sp⟩) 8 cap) := by
    rw [← Array.getElem?_toList, hcs]; rfl
  have hstr : ∀ j, j < 8 → ∃ s : ByteArray, W.cell? ((⟨b, o, sp⟩ : Addr).add j) = some (.string s) ∧ s.data.toList = Lz.keywords.getD j [] := by
    intro j hj
    obtain ⟨v, n, q, hv, ht⟩ := hall j (.lit (.string (Lz.keywords.getD j []))) (by
      match j, hj with
      | 0, _ => rfl
      | 1, _ => rfl
      | 2, _ => rfl
      | 3, _ => rfl
      | 4, _ => rfl
      | 5, _ => rfl
      | 6, _ => rfl
      | 7, _ => rfl)
    obtain ⟨s, hs, hx, _⟩ := DataW.trod_string (Tryz.underlying9) ht
    obtain rfl : v = .string s := by simpa using hs
    refine ⟨s, hv, ?_⟩
    simp only [Prod.mk.injEq, DataW.lit.injEq, Lit.string.injEq] at hx
    exact hx.1.symm
  obtain ⟨s0, hs0, _⟩ := hstr 0 (by omega)
  have hs0 : W.cell? ⟨b, o, sp⟩ = some (.string s0) := by simpa [Addr.add] using hs0
  obtain rfl := spot_none hs0
  refine ⟨b, o, cap, ?_, ?_, ?_⟩
  · rw [hcell]; exact hc0
  · unfold World.cell? at hs0
    rcases Nat.lt_or_ge b W.heap.size with h' | h'
    · exact h'
    · simp [Array.getElem?_eq_none h'] at hs0
  · intro j hj
    obtain ⟨s, hs, he⟩ := hstr j hj
    rw [show (⟨b, o + j, none⟩ : Addr) = (⟨b, o, none⟩ : Addr).add j by simp [Addr.add], hs]
    have : s = ⟨(Lz.keywords.getD j []).toArray⟩ := by rw [← he]
    rw [this]
    match j, hj with
    | 0, _ => rfl
    | 1, _ => rfl
    | 2, _ => rfl
    | 3, _ => rfl
    | 4, _ => rfl
    | 5, _ => rfl
    | 6, _ => rfl
    | 7, _ => rfl

theorem env_of_laid {l : List (String × DataW Unit)} {W : World} (h : laidMetH Tryz.prog l W) (hsh : W.ShapedOpen Tryz.prog)
    (m1 : ("internal/strconv.uint64pow10", Rows.laid_internal_strconv_uint64pow10) ∈ l) (m2 : ("errors.errorType", Rows.laid_errors_errorType) ∈ l)
    (m3 : ("strconv.ErrRange", Rows.laid_strconv_ErrRange) ∈ l) (m4 : ("strconv.ErrSyntax", Rows.laid_strconv_ErrSyntax) ∈ l) (m5 : ("lazaret/sources.keywords", Rows.laid_lazaret_sources_keywords) ∈ l) : Env W where
  ml := cell_of_shapedOpen_int (zero := #[.int .i64 0]) (t := 3) hsh (of_decide_eq_true (by kernel_rfl)) (by kernel_rfl) rfl (by kernel_rfl) (by kernel_rfl) (Tryz.underlying3)
  pow := tab_of_reads gPow (t := 161) (by kernel_rfl) (Tryz.underlying161) (Tryz.underlying46) (by kernel_rfl) (by kernel_rfl) (laid_reads h m1 rfl)
  syn := iface_of_reads gSyn (t := 55) (by kernel_rfl) (Tryz.underlying55) (laid_reads h m4 rfl)
  rng := iface_of_reads gRng (t := 55) (by kernel_rfl) (Tryz.underlying55) (laid_reads h m3 rfl)
  et := et_of_laid h m2
  kw := kw_of_laid (laid_reads h m5 rfl)
  size := by
    have hs : (((begin Tryz.prog (fun _ _ => 0) default).world.heap[10 - 1]?).bind Obj.row?).isSome = true := by kernel_rfl
    obtain ⟨⟨zero, t⟩, h0⟩ := Option.isSome_iff_exists.1 hs
    obtain ⟨cs, hc, _⟩ := hsh.1 (10 - 1) zero t (of_decide_eq_true (by kernel_rfl)) h0
    have := (Array.getElem?_eq_some_iff.1 hc).1
    omega
end Go.Proofs.YtkaejkjheajaaaaGreatDoor
