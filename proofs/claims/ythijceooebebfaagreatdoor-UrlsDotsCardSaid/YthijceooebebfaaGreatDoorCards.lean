/-
  DERIVED. GIVEN WITH THE SEED: THE CARDS: each row of YthijceooebebfaaGreatDoorRows.lean that lists a variable, with what it lists TIED to the program's text (the seventh form; the later family's looks); each row that meets fmt, with fmt's text TOLD by the authors' own Lean function (tested against real Go, not proved from fmt's source: count such statements apart). THE CARD IS WHAT COUNTS. Prove the row's statement (the work); the ties are given (YthijceooebebfaaGreatDoorTie.lean); close each card by the builder's one call (the guide's Derived/Test/ToyasCard.lean, 'card_holds'). Laid BY PROGRAM, IN A SANDBOX (cutbox-door.mjs). By AI agents, Wed Nov 11 2026. No macro, syntax, notation, axiom, sorry.
-/
import Derived.Test.YthijceooebebfaaGreatDoorRows
import GoSem.ClaimSeven
namespace Go.Proofs.YthijceooebebfaaGreatDoor
namespace Rows

/-- THE TIED CARD OF 'lazaretlaw08.UrlsSchemes'. -/
def urlsSchemesCard : Claim7 := { stood := { row := urlsSchemesRow, standIns := [], harness := (true, "011829601b271a957a1384e2b6156485e477cd61ff5a2c45edf96ceaa53aef42"), looks := true }, kinds := [], alts := [], laidByText := true, laidKinds := [.data, .data, .data, .data, .handle, .sentinel, .sentinel, .pinned], laidTests := true, laidLooks := .later }
def UrlsSchemesCardSaid : Prop := Claim7.holds Tryz.pinned (.plain (OpenSpec.ofChange urlsSchemesSpec)) urlsSchemesCard

/-- THE TIED CARD OF 'lazaretlaw08.UrlsAgain'. -/
def urlsAgainCard : Claim7 := { stood := { row := urlsAgainRow, standIns := [], harness := (true, "011829601b271a957a1384e2b6156485e477cd61ff5a2c45edf96ceaa53aef42"), looks := true }, kinds := [], alts := [], laidByText := true, laidKinds := [.data, .data, .data, .data, .handle, .sentinel, .sentinel, .pinned], laidTests := true, laidLooks := .later }
def UrlsAgainCardSaid : Prop := Claim7.holds Tryz.pinned (.plain (OpenSpec.ofChange urlsAgainSpec)) urlsAgainCard

/-- THE TIED CARD OF 'lazaretlaw08.UrlsBlank'. -/
def urlsBlankCard : Claim7 := { stood := { row := urlsBlankRow, standIns := [], harness := (true, "011829601b271a957a1384e2b6156485e477cd61ff5a2c45edf96ceaa53aef42"), looks := true }, kinds := [], alts := [], laidByText := true, laidKinds := [.data, .data, .data, .data, .handle, .sentinel, .sentinel, .pinned], laidTests := true, laidLooks := .later }
def UrlsBlankCardSaid : Prop := Claim7.holds Tryz.pinned (.plain (OpenSpec.ofChange urlsBlankSpec)) urlsBlankCard

/-- THE TIED CARD OF 'lazaretlaw08.UrlsAlone'. -/
def urlsAloneCard : Claim7 := { stood := { row := urlsAloneRow, standIns := [], harness := (true, "011829601b271a957a1384e2b6156485e477cd61ff5a2c45edf96ceaa53aef42"), looks := true }, kinds := [], alts := [], laidByText := true, laidKinds := [.data, .data, .data, .data, .handle, .sentinel, .sentinel, .pinned], laidTests := true, laidLooks := .later }
def UrlsAloneCardSaid : Prop := Claim7.holds Tryz.pinned (.plain (OpenSpec.ofChange urlsAloneSpec)) urlsAloneCard

/-- THE TIED CARD OF 'lazaretlaw08.UrlsDots'. -/
def urlsDotsCard : Claim7 := { stood := { row := urlsDotsRow, standIns := [], harness := (true, "011829601b271a957a1384e2b6156485e477cd61ff5a2c45edf96ceaa53aef42"), looks := true }, kinds := [], alts := [], laidByText := true, laidKinds := [.data, .data, .data, .data, .handle, .sentinel, .sentinel, .pinned], laidTests := true, laidLooks := .later }
def UrlsDotsCardSaid : Prop := Claim7.holds Tryz.pinned (.plain (OpenSpec.ofChange urlsDotsSpec)) urlsDotsCard

/-- THE TIED CARD OF 'lazaretlaw08.UrlsPorts'. -/
def urlsPortsCard : Claim7 := { stood := { row := urlsPortsRow, standIns := [], harness := (true, "011829601b271a957a1384e2b6156485e477cd61ff5a2c45edf96ceaa53aef42"), looks := true }, kinds := [], alts := [], laidByText := true, laidKinds := [.data, .data, .data, .data, .handle, .sentinel, .sentinel, .pinned], laidTests := true, laidLooks := .later }
def UrlsPortsCardSaid : Prop := Claim7.holds Tryz.pinned (.plain (OpenSpec.ofChange urlsPortsSpec)) urlsPortsCard

/-- THE TIED CARD OF 'lazaretlaw08.UrlsOrigins'. -/
def urlsOriginsCard : Claim7 := { stood := { row := urlsOriginsRow, standIns := [], harness := (true, "011829601b271a957a1384e2b6156485e477cd61ff5a2c45edf96ceaa53aef42"), looks := true }, kinds := [], alts := [], laidByText := true, laidKinds := [.data, .data, .data, .data, .handle, .sentinel, .sentinel, .pinned], laidTests := true, laidLooks := .later }
def UrlsOriginsCardSaid : Prop := Claim7.holds Tryz.pinned (.plain (OpenSpec.ofChange urlsOriginsSpec)) urlsOriginsCard

/-- THE TIED CARD OF 'lazaretlaw08.UrlsTell'. -/
def urlsTellCard : Claim7 := { stood := { row := urlsTellRow, standIns := [], harness := (true, "011829601b271a957a1384e2b6156485e477cd61ff5a2c45edf96ceaa53aef42"), looks := true }, kinds := [], alts := [], laidByText := true, laidKinds := [.data, .data, .data, .data, .handle, .sentinel, .sentinel, .pinned], laidTests := true, laidLooks := .later }
def UrlsTellCardSaid : Prop := Claim7.holds Tryz.pinned (.plain (OpenSpec.ofChange urlsTellSpec)) urlsTellCard

/-- THE TIED CARD OF 'lazaretlaw08.UrlsRaw'. -/
def urlsRawCard : Claim7 := { stood := { row := urlsRawRow, standIns := [], harness := (true, "011829601b271a957a1384e2b6156485e477cd61ff5a2c45edf96ceaa53aef42"), looks := true }, kinds := [], alts := [], laidByText := true, laidKinds := [.data, .data, .data, .data, .handle, .sentinel, .sentinel, .pinned], laidTests := true, laidLooks := .later }
def UrlsRawCardSaid : Prop := Claim7.holds Tryz.pinned (.plain (OpenSpec.ofChange urlsRawSpec)) urlsRawCard

/-- THE SECOND FORM's CARD OF 'lazaretlaw08.UrlsSchemes'. -/
def urlsSchemesUptoCard : Claim7 := { stood := { row := urlsSchemesUptoRow, standIns := [], harness := (true, "011829601b271a957a1384e2b6156485e477cd61ff5a2c45edf96ceaa53aef42"), looks := true }, kinds := [], alts := [], laidByText := true, laidKinds := [.data, .data, .data, .data, .handle, .sentinel, .sentinel, .pinned], laidTests := true, laidLooks := .later }
def UrlsSchemesUptoCardSaid : Prop := Claim7.holds Tryz.pinned (.plain (OpenSpec.upto urlsSchemesSpec)) urlsSchemesUptoCard

/-- THE SECOND FORM's CARD OF 'lazaretlaw08.UrlsAgain'. -/
def urlsAgainUptoCard : Claim7 := { stood := { row := urlsAgainUptoRow, standIns := [], harness := (true, "011829601b271a957a1384e2b6156485e477cd61ff5a2c45edf96ceaa53aef42"), looks := true }, kinds := [], alts := [], laidByText := true, laidKinds := [.data, .data, .data, .data, .handle, .sentinel, .sentinel, .pinned], laidTests := true, laidLooks := .later }
def UrlsAgainUptoCardSaid : Prop := Claim7.holds Tryz.pinned (.plain (OpenSpec.upto urlsAgainSpec)) urlsAgainUptoCard

/-- THE SECOND FORM's CARD OF 'lazaretlaw08.UrlsBlank'. -/
def urlsBlankUptoCard : Claim7 := { stood := { row := urlsBlankUptoRow, standIns := [], harness := (true, "011829601b271a957a1384e2b6156485e477cd61ff5a2c45edf96ceaa53aef42"), looks := true }, kinds := [], alts := [], laidByText := true, laidKinds := [.data, .data, .data, .data, .handle, .sentinel, .sentinel, .pinned], laidTests := true, laidLooks := .later }
def UrlsBlankUptoCardSaid : Prop := Claim7.holds Tryz.pinned (.plain (OpenSpec.upto urlsBlankSpec)) urlsBlankUptoCard

/-- THE SECOND FORM's CARD OF 'lazaretlaw08.UrlsAlone'. -/
def urlsAloneUptoCard : Claim7 := { stood := { row := urlsAloneUptoRow, standIns := [], harness := (true, "011829601b271a957a1384e2b6156485e477cd61ff5a2c45edf96ceaa53aef42"), looks := true }, kinds := [], alts := [], laidByText := true, laidKinds := [.data, .data, .data, .data, .handle, .sentinel, .sentinel, .pinned], laidTests := true, laidLooks := .later }
def UrlsAloneUptoCardSaid : Prop := Claim7.holds Tryz.pinned (.plain (OpenSpec.upto urlsAloneSpec)) urlsAloneUptoCard

/-- THE SECOND FORM's CARD OF 'lazaretlaw08.UrlsDots'. -/
def urlsDotsUptoCard : Claim7 := { stood := { row := urlsDotsUptoRow, standIns := [], harness := (true, "011829601b271a957a1384e2b6156485e477cd61ff5a2c45edf96ceaa53aef42"), looks := true }, kinds := [], alts := [], laidByText := true, laidKinds := [.data, .data, .data, .data, .handle, .sentinel, .sentinel, .pinned], laidTests := true, laidLooks := .later }
def UrlsDotsUptoCardSaid : Prop := Claim7.holds Tryz.pinned (.plain (OpenSpec.upto urlsDotsSpec)) urlsDotsUptoCard

/-- THE SECOND FORM's CARD OF 'lazaretlaw08.UrlsPorts'. -/
def urlsPortsUptoCard : Claim7 := { stood := { row := urlsPortsUptoRow, standIns := [], harness := (true, "011829601b271a957a1384e2b6156485e477cd61ff5a2c45edf96ceaa53aef42"), looks := true }, kinds := [], alts := [], laidByText := true, laidKinds := [.data, .data, .data, .data, .handle, .sentinel, .sentinel, .pinned], laidTests := true, laidLooks := .later }
def UrlsPortsUptoCardSaid : Prop := Claim7.holds Tryz.pinned (.plain (OpenSpec.upto urlsPortsSpec)) urlsPortsUptoCard

/-- THE SECOND FORM's CARD OF 'lazaretlaw08.UrlsOrigins'. -/
def urlsOriginsUptoCard : Claim7 := { stood := { row := urlsOriginsUptoRow, standIns := [], harness := (true, "011829601b271a957a1384e2b6156485e477cd61ff5a2c45edf96ceaa53aef42"), looks := true }, kinds := [], alts := [], laidByText := true, laidKinds := [.data, .data, .data, .data, .handle, .sentinel, .sentinel, .pinned], laidTests := true, laidLooks := .later }
def UrlsOriginsUptoCardSaid : Prop := Claim7.holds Tryz.pinned (.plain (OpenSpec.upto urlsOriginsSpec)) urlsOriginsUptoCard

/-- THE SECOND FORM's CARD OF 'lazaretlaw08.UrlsTell'. -/
def urlsTellUptoCard : Claim7 := { stood := { row := urlsTellUptoRow, standIns := [], harness := (true, "011829601b271a957a1384e2b6156485e477cd61ff5a2c45edf96ceaa53aef42"), looks := true }, kinds := [], alts := [], laidByText := true, laidKinds := [.data, .data, .data, .data, .handle, .sentinel, .sentinel, .pinned], laidTests := true, laidLooks := .later }
def UrlsTellUptoCardSaid : Prop := Claim7.holds Tryz.pinned (.plain (OpenSpec.upto urlsTellSpec)) urlsTellUptoCard

/-- THE SECOND FORM's CARD OF 'lazaretlaw08.UrlsRaw'. -/
def urlsRawUptoCard : Claim7 := { stood := { row := urlsRawUptoRow, standIns := [], harness := (true, "011829601b271a957a1384e2b6156485e477cd61ff5a2c45edf96ceaa53aef42"), looks := true }, kinds := [], alts := [], laidByText := true, laidKinds := [.data, .data, .data, .data, .handle, .sentinel, .sentinel, .pinned], laidTests := true, laidLooks := .later }
def UrlsRawUptoCardSaid : Prop := Claim7.holds Tryz.pinned (.plain (OpenSpec.upto urlsRawSpec)) urlsRawUptoCard
end Rows
end Go.Proofs.YthijceooebebfaaGreatDoor
