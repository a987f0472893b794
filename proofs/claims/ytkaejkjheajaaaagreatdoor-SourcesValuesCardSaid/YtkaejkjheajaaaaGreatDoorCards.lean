/-
  DERIVED. GIVEN WITH THE SEED: THE CARDS: each row of YtkaejkjheajaaaaGreatDoorRows.lean that lists a variable, with what it lists TIED to the program's text (the seventh form; the later family's looks); each row that meets fmt, with fmt's text TOLD by the authors' own Lean function (tested against real Go, not proved from fmt's source: count such statements apart). THE CARD IS WHAT COUNTS. Prove the row's statement (the work); the ties are given (YtkaejkjheajaaaaGreatDoorTie.lean); close each card by the builder's one call (the guide's Derived/Test/ToyasCard.lean, 'card_holds'). Laid BY PROGRAM, IN A SANDBOX (cutbox-door.mjs). By AI agents, Wed Nov 11 2026. No macro, syntax, notation, axiom, sorry.
-/
import Derived.Test.YtkaejkjheajaaaaGreatDoorRows
import GoSem.ClaimSeven
namespace Go.Proofs.YtkaejkjheajaaaaGreatDoor
namespace Rows

/-- THE TIED CARD OF 'lazaretlaw25.SourcesHost'. -/
def sourcesHostCard : Claim7 := { stood := { row := sourcesHostRow, standIns := [], harness := (true, "7b2060cc6f8768a7749ce0fc43faa4b32ec066ed87c8592205f002089bbb1c58"), looks := true }, kinds := [], alts := [], laidByText := true, laidKinds := [.data, .data, .data, .data, .handle, .sentinel, .sentinel, .widerDeep, .pinned], laidTests := true, laidLooks := .later }
def SourcesHostCardSaid : Prop := Claim7.holds Tryz.pinned (.plain (OpenSpec.ofChange sourcesHostSpec)) sourcesHostCard

/-- THE TIED CARD OF 'lazaretlaw25.SourcesValues'. -/
def sourcesValuesCard : Claim7 := { stood := { row := sourcesValuesRow, standIns := [], harness := (true, "7b2060cc6f8768a7749ce0fc43faa4b32ec066ed87c8592205f002089bbb1c58"), looks := true }, kinds := [], alts := [], laidByText := true, laidKinds := [.data, .data, .data, .data, .handle, .sentinel, .sentinel, .widerDeep, .pinned], laidTests := true, laidLooks := .later }
def SourcesValuesCardSaid : Prop := Claim7.holds Tryz.pinned (.plain (OpenSpec.ofChange sourcesValuesSpec)) sourcesValuesCard

/-- THE TIED CARD OF 'lazaretlaw25.SourcesParse'. -/
def sourcesParseCard : Claim7 := { stood := { row := sourcesParseRow, standIns := [], harness := (true, "7b2060cc6f8768a7749ce0fc43faa4b32ec066ed87c8592205f002089bbb1c58"), looks := true }, kinds := [], alts := [], laidByText := true, laidKinds := [.data, .data, .data, .data, .handle, .sentinel, .sentinel, .widerDeep, .pinned], laidTests := true, laidLooks := .later }
def SourcesParseCardSaid : Prop := Claim7.holds Tryz.pinned (.plain (OpenSpec.ofChange sourcesParseSpec)) sourcesParseCard

/-- THE TIED CARD OF 'lazaretlaw25.SourcesBack'. -/
def sourcesBackCard : Claim7 := { stood := { row := sourcesBackRow, standIns := [], harness := (true, "7b2060cc6f8768a7749ce0fc43faa4b32ec066ed87c8592205f002089bbb1c58"), looks := true }, kinds := [], alts := [], laidByText := true, laidKinds := [.data, .data, .data, .data, .handle, .sentinel, .sentinel, .widerDeep, .pinned], laidTests := true, laidLooks := .later }
def SourcesBackCardSaid : Prop := Claim7.holds Tryz.pinned (.plain (OpenSpec.ofChange sourcesBackSpec)) sourcesBackCard

/-- THE TIED CARD OF 'lazaretlaw07.HostsAgain'. -/
def hostsAgainCard : Claim7 := { stood := { row := hostsAgainRow, standIns := [], harness := (true, "7b2060cc6f8768a7749ce0fc43faa4b32ec066ed87c8592205f002089bbb1c58"), looks := true }, kinds := [], alts := [], laidByText := true, laidKinds := [.data, .data, .data, .data, .handle, .sentinel, .sentinel, .pinned], laidTests := true, laidLooks := .later }
def HostsAgainCardSaid : Prop := Claim7.holds Tryz.pinned (.plain (OpenSpec.ofChange hostsAgainSpec)) hostsAgainCard

/-- THE TIED CARD OF 'lazaretlaw07.HostsFour'. -/
def hostsFourCard : Claim7 := { stood := { row := hostsFourRow, standIns := [], harness := (true, "7b2060cc6f8768a7749ce0fc43faa4b32ec066ed87c8592205f002089bbb1c58"), looks := true }, kinds := [], alts := [], laidByText := true, laidKinds := [.data, .data, .data, .data, .handle, .sentinel, .sentinel, .pinned], laidTests := true, laidLooks := .later }
def HostsFourCardSaid : Prop := Claim7.holds Tryz.pinned (.plain (OpenSpec.ofChange hostsFourSpec)) hostsFourCard

/-- THE TIED CARD OF 'lazaretlaw07.HostsSix'. -/
def hostsSixCard : Claim7 := { stood := { row := hostsSixRow, standIns := [], harness := (true, "7b2060cc6f8768a7749ce0fc43faa4b32ec066ed87c8592205f002089bbb1c58"), looks := true }, kinds := [], alts := [], laidByText := true, laidKinds := [.data, .data, .data, .data, .handle, .sentinel, .sentinel, .pinned], laidTests := true, laidLooks := .later }
def HostsSixCardSaid : Prop := Claim7.holds Tryz.pinned (.plain (OpenSpec.ofChange hostsSixSpec)) hostsSixCard

/-- THE TIED CARD OF 'lazaretlaw07.HostsTriples'. -/
def hostsTriplesCard : Claim7 := { stood := { row := hostsTriplesRow, standIns := [], harness := (true, "7b2060cc6f8768a7749ce0fc43faa4b32ec066ed87c8592205f002089bbb1c58"), looks := true }, kinds := [], alts := [], laidByText := true, laidKinds := [.data, .data, .data, .data, .handle, .sentinel, .sentinel, .pinned], laidTests := true, laidLooks := .later }
def HostsTriplesCardSaid : Prop := Claim7.holds Tryz.pinned (.plain (OpenSpec.ofChange hostsTriplesSpec)) hostsTriplesCard

/-- THE TIED CARD OF 'lazaretlaw07.HostsIP'. -/
def hostsIPCard : Claim7 := { stood := { row := hostsIPRow, standIns := [], harness := (true, "7b2060cc6f8768a7749ce0fc43faa4b32ec066ed87c8592205f002089bbb1c58"), looks := true }, kinds := [], alts := [], laidByText := true, laidKinds := [.data, .data, .data, .data, .handle, .sentinel, .sentinel, .pinned], laidTests := true, laidLooks := .later }
def HostsIPCardSaid : Prop := Claim7.holds Tryz.pinned (.plain (OpenSpec.ofChange hostsIPSpec)) hostsIPCard

/-- THE SECOND FORM's CARD OF 'lazaretlaw25.SourcesHost'. -/
def sourcesHostUptoCard : Claim7 := { stood := { row := sourcesHostUptoRow, standIns := [], harness := (true, "7b2060cc6f8768a7749ce0fc43faa4b32ec066ed87c8592205f002089bbb1c58"), looks := true }, kinds := [], alts := [], laidByText := true, laidKinds := [.data, .data, .data, .data, .handle, .sentinel, .sentinel, .widerDeep, .pinned], laidTests := true, laidLooks := .later }
def SourcesHostUptoCardSaid : Prop := Claim7.holds Tryz.pinned (.plain (OpenSpec.upto sourcesHostSpec)) sourcesHostUptoCard

/-- THE SECOND FORM's CARD OF 'lazaretlaw25.SourcesValues'. -/
def sourcesValuesUptoCard : Claim7 := { stood := { row := sourcesValuesUptoRow, standIns := [], harness := (true, "7b2060cc6f8768a7749ce0fc43faa4b32ec066ed87c8592205f002089bbb1c58"), looks := true }, kinds := [], alts := [], laidByText := true, laidKinds := [.data, .data, .data, .data, .handle, .sentinel, .sentinel, .widerDeep, .pinned], laidTests := true, laidLooks := .later }
def SourcesValuesUptoCardSaid : Prop := Claim7.holds Tryz.pinned (.plain (OpenSpec.upto sourcesValuesSpec)) sourcesValuesUptoCard

/-- THE SECOND FORM's CARD OF 'lazaretlaw25.SourcesParse'. -/
def sourcesParseUptoCard : Claim7 := { stood := { row := sourcesParseUptoRow, standIns := [], harness := (true, "7b2060cc6f8768a7749ce0fc43faa4b32ec066ed87c8592205f002089bbb1c58"), looks := true }, kinds := [], alts := [], laidByText := true, laidKinds := [.data, .data, .data, .data, .handle, .sentinel, .sentinel, .widerDeep, .pinned], laidTests := true, laidLooks := .later }
def SourcesParseUptoCardSaid : Prop := Claim7.holds Tryz.pinned (.plain (OpenSpec.upto sourcesParseSpec)) sourcesParseUptoCard

/-- THE SECOND FORM's CARD OF 'lazaretlaw25.SourcesBack'. -/
def sourcesBackUptoCard : Claim7 := { stood := { row := sourcesBackUptoRow, standIns := [], harness := (true, "7b2060cc6f8768a7749ce0fc43faa4b32ec066ed87c8592205f002089bbb1c58"), looks := true }, kinds := [], alts := [], laidByText := true, laidKinds := [.data, .data, .data, .data, .handle, .sentinel, .sentinel, .widerDeep, .pinned], laidTests := true, laidLooks := .later }
def SourcesBackUptoCardSaid : Prop := Claim7.holds Tryz.pinned (.plain (OpenSpec.upto sourcesBackSpec)) sourcesBackUptoCard

/-- THE SECOND FORM's CARD OF 'lazaretlaw07.HostsAgain'. -/
def hostsAgainUptoCard : Claim7 := { stood := { row := hostsAgainUptoRow, standIns := [], harness := (true, "7b2060cc6f8768a7749ce0fc43faa4b32ec066ed87c8592205f002089bbb1c58"), looks := true }, kinds := [], alts := [], laidByText := true, laidKinds := [.data, .data, .data, .data, .handle, .sentinel, .sentinel, .pinned], laidTests := true, laidLooks := .later }
def HostsAgainUptoCardSaid : Prop := Claim7.holds Tryz.pinned (.plain (OpenSpec.upto hostsAgainSpec)) hostsAgainUptoCard

/-- THE SECOND FORM's CARD OF 'lazaretlaw07.HostsFour'. -/
def hostsFourUptoCard : Claim7 := { stood := { row := hostsFourUptoRow, standIns := [], harness := (true, "7b2060cc6f8768a7749ce0fc43faa4b32ec066ed87c8592205f002089bbb1c58"), looks := true }, kinds := [], alts := [], laidByText := true, laidKinds := [.data, .data, .data, .data, .handle, .sentinel, .sentinel, .pinned], laidTests := true, laidLooks := .later }
def HostsFourUptoCardSaid : Prop := Claim7.holds Tryz.pinned (.plain (OpenSpec.upto hostsFourSpec)) hostsFourUptoCard

/-- THE SECOND FORM's CARD OF 'lazaretlaw07.HostsSix'. -/
def hostsSixUptoCard : Claim7 := { stood := { row := hostsSixUptoRow, standIns := [], harness := (true, "7b2060cc6f8768a7749ce0fc43faa4b32ec066ed87c8592205f002089bbb1c58"), looks := true }, kinds := [], alts := [], laidByText := true, laidKinds := [.data, .data, .data, .data, .handle, .sentinel, .sentinel, .pinned], laidTests := true, laidLooks := .later }
def HostsSixUptoCardSaid : Prop := Claim7.holds Tryz.pinned (.plain (OpenSpec.upto hostsSixSpec)) hostsSixUptoCard

/-- THE SECOND FORM's CARD OF 'lazaretlaw07.HostsTriples'. -/
def hostsTriplesUptoCard : Claim7 := { stood := { row := hostsTriplesUptoRow, standIns := [], harness := (true, "7b2060cc6f8768a7749ce0fc43faa4b32ec066ed87c8592205f002089bbb1c58"), looks := true }, kinds := [], alts := [], laidByText := true, laidKinds := [.data, .data, .data, .data, .handle, .sentinel, .sentinel, .pinned], laidTests := true, laidLooks := .later }
def HostsTriplesUptoCardSaid : Prop := Claim7.holds Tryz.pinned (.plain (OpenSpec.upto hostsTriplesSpec)) hostsTriplesUptoCard

/-- THE SECOND FORM's CARD OF 'lazaretlaw07.HostsIP'. -/
def hostsIPUptoCard : Claim7 := { stood := { row := hostsIPUptoRow, standIns := [], harness := (true, "7b2060cc6f8768a7749ce0fc43faa4b32ec066ed87c8592205f002089bbb1c58"), looks := true }, kinds := [], alts := [], laidByText := true, laidKinds := [.data, .data, .data, .data, .handle, .sentinel, .sentinel, .pinned], laidTests := true, laidLooks := .later }
def HostsIPUptoCardSaid : Prop := Claim7.holds Tryz.pinned (.plain (OpenSpec.upto hostsIPSpec)) hostsIPUptoCard
end Rows
end Go.Proofs.YtkaejkjheajaaaaGreatDoor
