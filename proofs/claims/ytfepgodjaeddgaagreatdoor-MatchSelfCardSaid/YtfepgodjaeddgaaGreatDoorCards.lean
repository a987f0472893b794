/-
  DERIVED. GIVEN WITH THE SEED: THE CARDS: each row of YtfepgodjaeddgaaGreatDoorRows.lean that lists a variable, with what it lists TIED to the program's text (the seventh form; the later family's looks); each row that meets fmt, with fmt's text TOLD by the authors' own Lean function (tested against real Go, not proved from fmt's source: count such statements apart). THE CARD IS WHAT COUNTS. Prove the row's statement (the work); the ties are given (YtfepgodjaeddgaaGreatDoorTie.lean); close each card by the builder's one call (the guide's Derived/Test/ToyasCard.lean, 'card_holds'). Laid BY PROGRAM, IN A SANDBOX (cutbox-door.mjs). By AI agents, Wed Nov 11 2026. No macro, syntax, notation, axiom, sorry.
-/
import Derived.Test.YtfepgodjaeddgaaGreatDoorRows
import GoSem.ClaimSeven
namespace Go.Proofs.YtfepgodjaeddgaaGreatDoor
namespace Rows

/-- THE TIED CARD OF 'lazaretlaw26.MatchTexts'. -/
def matchTextsCard : Claim7 := { stood := { row := matchTextsRow, standIns := [], harness := (true, "ece1531832b8cb6b03d3b62b373d87e5db36ceb9aaed587c4f2a48fc67d509fb"), looks := true }, kinds := [], alts := [], laidByText := true, laidKinds := [.data, .data, .data, .data, .handle, .sentinel, .sentinel, .widerDeep, .mappedDeep, .pinned], laidTests := true, laidLooks := .later }
def MatchTextsCardSaid : Prop := Claim7.holds Tryz.pinned (.plain (OpenSpec.ofChange matchTextsSpec)) matchTextsCard

/-- THE TIED CARD OF 'lazaretlaw26.MatchMore'. -/
def matchMoreCard : Claim7 := { stood := { row := matchMoreRow, standIns := [], harness := (true, "ece1531832b8cb6b03d3b62b373d87e5db36ceb9aaed587c4f2a48fc67d509fb"), looks := true }, kinds := [], alts := [], laidByText := true, laidKinds := [.data, .data, .data, .data, .handle, .sentinel, .sentinel, .widerDeep, .mappedDeep, .pinned], laidTests := true, laidLooks := .later }
def MatchMoreCardSaid : Prop := Claim7.holds Tryz.pinned (.plain (OpenSpec.ofChange matchMoreSpec)) matchMoreCard

/-- THE TIED CARD OF 'lazaretlaw26.MatchPaths'. -/
def matchPathsCard : Claim7 := { stood := { row := matchPathsRow, standIns := [], harness := (true, "ece1531832b8cb6b03d3b62b373d87e5db36ceb9aaed587c4f2a48fc67d509fb"), looks := true }, kinds := [], alts := [], laidByText := true, laidKinds := [.data, .data, .data, .data, .handle, .sentinel, .sentinel, .widerDeep, .mappedDeep, .pinned], laidTests := true, laidLooks := .later }
def MatchPathsCardSaid : Prop := Claim7.holds Tryz.pinned (.plain (OpenSpec.ofChange matchPathsSpec)) matchPathsCard

/-- THE TIED CARD OF 'lazaretlaw26.MatchSelf'. -/
def matchSelfCard : Claim7 := { stood := { row := matchSelfRow, standIns := [], harness := (true, "ece1531832b8cb6b03d3b62b373d87e5db36ceb9aaed587c4f2a48fc67d509fb"), looks := true }, kinds := [], alts := [], laidByText := true, laidKinds := [.data, .data, .data, .data, .handle, .sentinel, .sentinel, .widerDeep, .mappedDeep, .pinned], laidTests := true, laidLooks := .later }
def MatchSelfCardSaid : Prop := Claim7.holds Tryz.pinned (.plain (OpenSpec.ofChange matchSelfSpec)) matchSelfCard

/-- THE TIED CARD OF 'lazaretlaw26.MatchAny'. -/
def matchAnyCard : Claim7 := { stood := { row := matchAnyRow, standIns := [], harness := (true, "ece1531832b8cb6b03d3b62b373d87e5db36ceb9aaed587c4f2a48fc67d509fb"), looks := true }, kinds := [], alts := [], laidByText := true, laidKinds := [.data, .data, .data, .data, .handle, .sentinel, .sentinel, .widerDeep, .mappedDeep, .pinned], laidTests := true, laidLooks := .later }
def MatchAnyCardSaid : Prop := Claim7.holds Tryz.pinned (.plain (OpenSpec.ofChange matchAnySpec)) matchAnyCard

/-- THE SECOND FORM's CARD OF 'lazaretlaw26.MatchTexts'. -/
def matchTextsUptoCard : Claim7 := { stood := { row := matchTextsUptoRow, standIns := [], harness := (true, "ece1531832b8cb6b03d3b62b373d87e5db36ceb9aaed587c4f2a48fc67d509fb"), looks := true }, kinds := [], alts := [], laidByText := true, laidKinds := [.data, .data, .data, .data, .handle, .sentinel, .sentinel, .widerDeep, .mappedDeep, .pinned], laidTests := true, laidLooks := .later }
def MatchTextsUptoCardSaid : Prop := Claim7.holds Tryz.pinned (.plain (OpenSpec.upto matchTextsSpec)) matchTextsUptoCard

/-- THE SECOND FORM's CARD OF 'lazaretlaw26.MatchMore'. -/
def matchMoreUptoCard : Claim7 := { stood := { row := matchMoreUptoRow, standIns := [], harness := (true, "ece1531832b8cb6b03d3b62b373d87e5db36ceb9aaed587c4f2a48fc67d509fb"), looks := true }, kinds := [], alts := [], laidByText := true, laidKinds := [.data, .data, .data, .data, .handle, .sentinel, .sentinel, .widerDeep, .mappedDeep, .pinned], laidTests := true, laidLooks := .later }
def MatchMoreUptoCardSaid : Prop := Claim7.holds Tryz.pinned (.plain (OpenSpec.upto matchMoreSpec)) matchMoreUptoCard

/-- THE SECOND FORM's CARD OF 'lazaretlaw26.MatchPaths'. -/
def matchPathsUptoCard : Claim7 := { stood := { row := matchPathsUptoRow, standIns := [], harness := (true, "ece1531832b8cb6b03d3b62b373d87e5db36ceb9aaed587c4f2a48fc67d509fb"), looks := true }, kinds := [], alts := [], laidByText := true, laidKinds := [.data, .data, .data, .data, .handle, .sentinel, .sentinel, .widerDeep, .mappedDeep, .pinned], laidTests := true, laidLooks := .later }
def MatchPathsUptoCardSaid : Prop := Claim7.holds Tryz.pinned (.plain (OpenSpec.upto matchPathsSpec)) matchPathsUptoCard

/-- THE SECOND FORM's CARD OF 'lazaretlaw26.MatchSelf'. -/
def matchSelfUptoCard : Claim7 := { stood := { row := matchSelfUptoRow, standIns := [], harness := (true, "ece1531832b8cb6b03d3b62b373d87e5db36ceb9aaed587c4f2a48fc67d509fb"), looks := true }, kinds := [], alts := [], laidByText := true, laidKinds := [.data, .data, .data, .data, .handle, .sentinel, .sentinel, .widerDeep, .mappedDeep, .pinned], laidTests := true, laidLooks := .later }
def MatchSelfUptoCardSaid : Prop := Claim7.holds Tryz.pinned (.plain (OpenSpec.upto matchSelfSpec)) matchSelfUptoCard

/-- THE SECOND FORM's CARD OF 'lazaretlaw26.MatchAny'. -/
def matchAnyUptoCard : Claim7 := { stood := { row := matchAnyUptoRow, standIns := [], harness := (true, "ece1531832b8cb6b03d3b62b373d87e5db36ceb9aaed587c4f2a48fc67d509fb"), looks := true }, kinds := [], alts := [], laidByText := true, laidKinds := [.data, .data, .data, .data, .handle, .sentinel, .sentinel, .widerDeep, .mappedDeep, .pinned], laidTests := true, laidLooks := .later }
def MatchAnyUptoCardSaid : Prop := Claim7.holds Tryz.pinned (.plain (OpenSpec.upto matchAnySpec)) matchAnyUptoCard
end Rows
end Go.Proofs.YtfepgodjaeddgaaGreatDoor
