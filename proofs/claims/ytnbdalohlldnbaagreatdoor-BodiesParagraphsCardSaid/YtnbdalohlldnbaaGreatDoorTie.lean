/-
  DERIVED. GIVEN WITH THE SEED: THE PROGRAM's TIES (one call each: nine closed facts by the kernel) AND EACH ROW's TIE, after the 31st guide's Derived/Test/Toyas{Tie, Card}.lean. No idea stands in it: it is a product of the set-up. Laid BY PROGRAM, IN A SANDBOX (cutbox-door.mjs). By AI agents, Wed Nov 11 2026. No macro, syntax, notation, axiom, sorry.
-/
import Derived.Test.YtnbdalohlldnbaaGreatDoorRows
import Derived.LaidByTextLater
import Derived.SevenTiedAt
import Derived.LaidSub
import Derived.LaidOnce
namespace Go.Proofs.YtnbdalohlldnbaaGreatDoor
open Go
set_option maxRecDepth 100000
theorem seatTie1 : Tryz.prog.laidByTextLater [("unicode.White_Space", Rows.laid_unicode_White_Space), ("strings.asciiSpace", Rows.laid_strings_asciiSpace), ("lazaret/kinds.scopes", Rows.laid_lazaret_kinds_scopes), ("lazaret/builder.by", Rows.laid_lazaret_builder_by), ("lazaret/bodies.headings", Rows.laid_lazaret_bodies_headings)] [.listed, .data, .data, .mapped, .widerDeep] true :=
  Program.laidByTextLater_by_one 103 8 257 (by kernel_rfl) (by kernel_rfl) (by kernel_rfl) (by kernel_rfl) (by kernel_rfl) (by kernel_rfl) (fun _ _ => by kernel_rfl)
theorem noOwnUnsafe : Tryz.pinned.checked.prog.headLifts.contains "ownunsafe" = false := by kernel_rfl
theorem tie : Tryz.prog.laidByTextLater [("unicode.White_Space", Rows.laid_unicode_White_Space), ("strings.asciiSpace", Rows.laid_strings_asciiSpace), ("lazaret/kinds.scopes", Rows.laid_lazaret_kinds_scopes), ("lazaret/builder.by", Rows.laid_lazaret_builder_by), ("lazaret/bodies.headings", Rows.laid_lazaret_bodies_headings)] [.listed, .data, .data, .mapped, .widerDeep] true :=
  Program.laidByTextLater.sub seatTie1 ["unicode.White_Space", "strings.asciiSpace", "lazaret/kinds.scopes", "lazaret/builder.by", "lazaret/bodies.headings"] (by kernel_rfl) (by kernel_rfl)
theorem bodiesNone_row_tie : Rows.bodiesNoneRow.laidByTextAt .later Tryz.pinned [.listed, .data, .data, .mapped, .widerDeep] true :=
  OpenClaim.laidByTextAt_later rfl rfl tie noOwnUnsafe
theorem bodiesNested_row_tie : Rows.bodiesNestedRow.laidByTextAt .later Tryz.pinned [.listed, .data, .data, .mapped, .widerDeep] true :=
  OpenClaim.laidByTextAt_later rfl rfl tie noOwnUnsafe
theorem bodiesParagraphs_row_tie : Rows.bodiesParagraphsRow.laidByTextAt .later Tryz.pinned [.listed, .data, .data, .mapped, .widerDeep] true :=
  OpenClaim.laidByTextAt_later rfl rfl tie noOwnUnsafe
theorem bodiesSingle_row_tie : Rows.bodiesSingleRow.laidByTextAt .later Tryz.pinned [.listed, .data, .data, .mapped, .widerDeep] true :=
  OpenClaim.laidByTextAt_later rfl rfl tie noOwnUnsafe
theorem bodiesBehind_row_tie : Rows.bodiesBehindRow.laidByTextAt .later Tryz.pinned [.listed, .data, .data, .mapped, .widerDeep] true :=
  OpenClaim.laidByTextAt_later rfl rfl tie noOwnUnsafe
theorem bodiesNoneUpto_row_tie : Rows.bodiesNoneUptoRow.laidByTextAt .later Tryz.pinned [.listed, .data, .data, .mapped, .widerDeep] true :=
  OpenClaim.laidByTextAt_later rfl rfl tie noOwnUnsafe
theorem bodiesNestedUpto_row_tie : Rows.bodiesNestedUptoRow.laidByTextAt .later Tryz.pinned [.listed, .data, .data, .mapped, .widerDeep] true :=
  OpenClaim.laidByTextAt_later rfl rfl tie noOwnUnsafe
theorem bodiesParagraphsUpto_row_tie : Rows.bodiesParagraphsUptoRow.laidByTextAt .later Tryz.pinned [.listed, .data, .data, .mapped, .widerDeep] true :=
  OpenClaim.laidByTextAt_later rfl rfl tie noOwnUnsafe
theorem bodiesSingleUpto_row_tie : Rows.bodiesSingleUptoRow.laidByTextAt .later Tryz.pinned [.listed, .data, .data, .mapped, .widerDeep] true :=
  OpenClaim.laidByTextAt_later rfl rfl tie noOwnUnsafe
theorem bodiesBehindUpto_row_tie : Rows.bodiesBehindUptoRow.laidByTextAt .later Tryz.pinned [.listed, .data, .data, .mapped, .widerDeep] true :=
  OpenClaim.laidByTextAt_later rfl rfl tie noOwnUnsafe
end Go.Proofs.YtnbdalohlldnbaaGreatDoor
