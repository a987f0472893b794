/-
  DERIVED. GIVEN WITH THE SEED: THE CARDS: each row of YtipndhbgehdeoaaGreatDoorRows.lean that lists a variable, with what it lists TIED to the program's text (the seventh form; the later family's looks); each row that meets fmt, with fmt's text TOLD by the authors' own Lean function (tested against real Go, not proved from fmt's source: count such statements apart). THE CARD IS WHAT COUNTS. Prove the row's statement (the work); the ties are given (YtipndhbgehdeoaaGreatDoorTie.lean); close each card by the builder's one call (the guide's Derived/Test/ToyasCard.lean, 'card_holds'). Laid BY PROGRAM, IN A SANDBOX (cutbox-door.mjs). By AI agents, Wed Nov 11 2026. No macro, syntax, notation, axiom, sorry.
-/
import Derived.Test.YtipndhbgehdeoaaGreatDoorRows
import GoSem.ClaimSeven
namespace Go.Proofs.YtipndhbgehdeoaaGreatDoor
namespace Rows

/-- THE TIED CARD OF 'lazaretlaw08.UrlsTell'. -/
def urlsTellCard : Claim7 := { stood := { row := urlsTellRow, standIns := [], harness := (true, "d51e8b606436dd14fe5d5f1c71d624a38987266f936ba76d2b0de95609aab2e5"), looks := true }, kinds := [], alts := [], laidByText := true, laidKinds := [.data, .data, .data, .data, .handle, .sentinel, .sentinel, .pinned], laidTests := true, laidLooks := .later }
def UrlsTellCardSaid : Prop := Claim7.holds Tryz.pinned (.plain (OpenSpec.ofChange urlsTellSpec)) urlsTellCard

/-- THE TIED CARD OF 'lazaretlaw08.UrlsRaw'. -/
def urlsRawCard : Claim7 := { stood := { row := urlsRawRow, standIns := [], harness := (true, "d51e8b606436dd14fe5d5f1c71d624a38987266f936ba76d2b0de95609aab2e5"), looks := true }, kinds := [], alts := [], laidByText := true, laidKinds := [.data, .data, .data, .data, .handle, .sentinel, .sentinel, .pinned], laidTests := true, laidLooks := .later }
def UrlsRawCardSaid : Prop := Claim7.holds Tryz.pinned (.plain (OpenSpec.ofChange urlsRawSpec)) urlsRawCard

/-- THE SECOND FORM's CARD OF 'lazaretlaw08.UrlsTell'. -/
def urlsTellUptoCard : Claim7 := { stood := { row := urlsTellUptoRow, standIns := [], harness := (true, "d51e8b606436dd14fe5d5f1c71d624a38987266f936ba76d2b0de95609aab2e5"), looks := true }, kinds := [], alts := [], laidByText := true, laidKinds := [.data, .data, .data, .data, .handle, .sentinel, .sentinel, .pinned], laidTests := true, laidLooks := .later }
def UrlsTellUptoCardSaid : Prop := Claim7.holds Tryz.pinned (.plain (OpenSpec.upto urlsTellSpec)) urlsTellUptoCard

/-- THE SECOND FORM's CARD OF 'lazaretlaw08.UrlsRaw'. -/
def urlsRawUptoCard : Claim7 := { stood := { row := urlsRawUptoRow, standIns := [], harness := (true, "d51e8b606436dd14fe5d5f1c71d624a38987266f936ba76d2b0de95609aab2e5"), looks := true }, kinds := [], alts := [], laidByText := true, laidKinds := [.data, .data, .data, .data, .handle, .sentinel, .sentinel, .pinned], laidTests := true, laidLooks := .later }
def UrlsRawUptoCardSaid : Prop := Claim7.holds Tryz.pinned (.plain (OpenSpec.upto urlsRawSpec)) urlsRawUptoCard
end Rows
end Go.Proofs.YtipndhbgehdeoaaGreatDoor
