/-
  DERIVED. GIVEN WITH THE SEED: THE CARDS: each row of YtlcbhacofagedaaGreatDoorRows.lean that lists a variable, with what it lists TIED to the program's text (the seventh form; the later family's looks); each row that meets fmt, with fmt's text TOLD by the authors' own Lean function (tested against real Go, not proved from fmt's source: count such statements apart). THE CARD IS WHAT COUNTS. Prove the row's statement (the work); the ties are given (YtlcbhacofagedaaGreatDoorTie.lean); close each card by the builder's one call (the guide's Derived/Test/ToyasCard.lean, 'card_holds'). Laid BY PROGRAM, IN A SANDBOX (cutbox-door.mjs). By AI agents, Wed Nov 11 2026. No macro, syntax, notation, axiom, sorry.
-/
import Derived.Test.YtlcbhacofagedaaGreatDoorRows
import GoSem.ClaimSeven
namespace Go.Proofs.YtlcbhacofagedaaGreatDoor
namespace Rows

/-- THE TIED CARD OF 'lazaretlaw26.MatchAny'. -/
def matchAnyCard : Claim7 := { stood := { row := matchAnyRow, standIns := [], harness := (true, "6a0aa28cd1e1f667e6f359c2ae506f67a336014086ef918699807e7485e8374b"), looks := true }, kinds := [], alts := [], laidByText := true, laidKinds := [.data, .data, .data, .data, .handle, .sentinel, .sentinel, .widerDeep, .mappedDeep, .pinned], laidTests := true, laidLooks := .later }
def MatchAnyCardSaid : Prop := Claim7.holds Tryz.pinned (.plain (OpenSpec.ofChange matchAnySpec)) matchAnyCard

/-- THE SECOND FORM's CARD OF 'lazaretlaw26.MatchAny'. -/
def matchAnyUptoCard : Claim7 := { stood := { row := matchAnyUptoRow, standIns := [], harness := (true, "6a0aa28cd1e1f667e6f359c2ae506f67a336014086ef918699807e7485e8374b"), looks := true }, kinds := [], alts := [], laidByText := true, laidKinds := [.data, .data, .data, .data, .handle, .sentinel, .sentinel, .widerDeep, .mappedDeep, .pinned], laidTests := true, laidLooks := .later }
def MatchAnyUptoCardSaid : Prop := Claim7.holds Tryz.pinned (.plain (OpenSpec.upto matchAnySpec)) matchAnyUptoCard
end Rows
end Go.Proofs.YtlcbhacofagedaaGreatDoor
