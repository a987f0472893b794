/-
  From a row's list of what is laid, and from the world's shape, to 'EnvH': what the walks of hosts ask of the package-level variables.
-/
import Derived.Test.YtkaejkjheajaaaaGreatDoorEnv
import Derived.Test.YtkaejkjheajaaaaGreatDoorHEnv
set_option maxRecDepth 100000
namespace Go.Proofs.YtkaejkjheajaaaaGreatDoor
open Go.ChangeShapes Go.WideShapes Go.ChangeAt Go.RowKit

def dbTab : List Int := [0, 1, 56, 2, 57, 49, 28, 3, 61, 58, 42, 50, 38, 29, 17, 4, 62, 47, 59, 36, 45, 43, 51, 22, 53, 39, 33, 30, 24, 18, 12, 5, 63, 55, 48, 27, 60, 41, 37, 16, 46, 35, 44, 21, 52, 32, 23, 11, 54, 26, 40, 15, 34, 20, 31, 10, 25, 14, 19, 9, 13, 8, 7, 6]
theorem gDb : Tryz.prog.globalNamed "math/bits.deBruijn64tab" = some 4 := by kernel_rfl
theorem envH_of_laid {l : List (String × DataW Unit)} {W : World} (h : laidMetH Tryz.prog l W) (hsh : W.ShapedOpen Tryz.prog)
    (m1 : ("internal/strconv.uint64pow10", Rows.laid_internal_strconv_uint64pow10) ∈ l) (m2 : ("errors.errorType", Rows.laid_errors_errorType) ∈ l)
    (m3 : ("strconv.ErrRange", Rows.laid_strconv_ErrRange) ∈ l) (m4 : ("strconv.ErrSyntax", Rows.laid_strconv_ErrSyntax) ∈ l) (m5 : ("math/bits.deBruijn64tab", Rows.laid_math_bits_deBruijn64tab) ∈ l) : EnvH W := by
  have hdb : Lib.TabIs Tryz.prog W "math/bits.deBruijn64tab" .u8 dbTab := tab_of_reads gDb (t := 192) (by kernel_rfl) (Tryz.underlying192) (Tryz.underlying5) (by kernel_rfl) (by kernel_rfl) (laid_reads h m5 rfl)
  have hcell := fun o => World.var?_cell gDb hdb o
  exact {
    ml := cell_of_shapedOpen_int (zero := #[.int .i64 0]) (t := 3) hsh (of_decide_eq_true (by kernel_rfl)) (by kernel_rfl) rfl (by kernel_rfl) (by kernel_rfl) (Tryz.underlying3)
    pow := tab_of_reads gPow (t := 161) (by kernel_rfl) (Tryz.underlying161) (Tryz.underlying46) (by kernel_rfl) (by kernel_rfl) (laid_reads h m1 rfl)
    syn := iface_of_reads gSyn (t := 55) (by kernel_rfl) (Tryz.underlying55) (laid_reads h m4 rfl)
    rng := iface_of_reads gRng (t := 55) (by kernel_rfl) (Tryz.underlying55) (laid_reads h m3 rfl)
    et := et_of_laid h m2
    db8 := (hcell 7).trans (by rfl)
    db16 := (hcell 15).trans (by rfl)
    size := by
      have hs : (((begin Tryz.prog (fun _ _ => 0) default).world.heap[10 - 1]?).bind Obj.row?).isSome = true := by kernel_rfl
      obtain ⟨⟨zero, t⟩, h0⟩ := Option.isSome_iff_exists.1 hs
      obtain ⟨cs, hc, _⟩ := hsh.1 (10 - 1) zero t (of_decide_eq_true (by kernel_rfl)) h0
      have := (Array.getElem?_eq_some_iff.1 hc).1
      omega }
end Go.Proofs.YtkaejkjheajaaaaGreatDoor
