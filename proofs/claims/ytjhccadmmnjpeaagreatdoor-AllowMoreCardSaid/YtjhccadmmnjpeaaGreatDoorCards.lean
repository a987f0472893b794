/-
  DERIVED. GIVEN WITH THE SEED: THE CARDS: each row of YtjhccadmmnjpeaaGreatDoorRows.lean that lists a variable, with what it lists TIED to the program's text (the seventh form; the later family's looks); each row that meets fmt, with fmt's text TOLD by the authors' own Lean function (tested against real Go, not proved from fmt's source: count such statements apart). THE CARD IS WHAT COUNTS. Prove the row's statement (the work); the ties are given (YtjhccadmmnjpeaaGreatDoorTie.lean); close each card by the builder's one call (the guide's Derived/Test/ToyasCard.lean, 'card_holds'). Laid BY PROGRAM, IN A SANDBOX (cutbox-door.mjs). By AI agents, Wed Nov 11 2026. No macro, syntax, notation, axiom, sorry.
-/
import Derived.Test.YtjhccadmmnjpeaaGreatDoorRows
import GoSem.ClaimSeven
namespace Go.Proofs.YtjhccadmmnjpeaaGreatDoor
namespace Rows

/-- THE TIED CARD OF 'lazaretlaw27.AllowInline'. -/
def allowInlineCard : Claim7 := { stood := { row := allowInlineRow, standIns := [], harness := (true, "dceaf4b3e0cce307e7ef50806d2acafb6b15eb4c86b4e487671ec125b27b902d"), looks := true }, kinds := [], alts := [], laidByText := true, laidKinds := [.data, .data, .data, .data, .data, .data, .handle, .sentinel, .sentinel, .widerDeep, .mappedDeep, .pinned], laidTests := true, laidLooks := .later }
def AllowInlineCardSaid : Prop := Claim7.holds Tryz.pinned (.plain (OpenSpec.ofChange allowInlineSpec)) allowInlineCard

/-- THE TIED CARD OF 'lazaretlaw27.AllowHash'. -/
def allowHashCard : Claim7 := { stood := { row := allowHashRow, standIns := [], harness := (true, "dceaf4b3e0cce307e7ef50806d2acafb6b15eb4c86b4e487671ec125b27b902d"), looks := true }, kinds := [], alts := [], laidByText := true, laidKinds := [.data, .data, .data, .data, .data, .data, .handle, .sentinel, .sentinel, .widerDeep, .mappedDeep, .pinned], laidTests := true, laidLooks := .later }
def AllowHashCardSaid : Prop := Claim7.holds Tryz.pinned (.plain (OpenSpec.ofChange allowHashSpec)) allowHashCard

/-- THE TIED CARD OF 'lazaretlaw27.AllowNonce'. -/
def allowNonceCard : Claim7 := { stood := { row := allowNonceRow, standIns := [], harness := (true, "dceaf4b3e0cce307e7ef50806d2acafb6b15eb4c86b4e487671ec125b27b902d"), looks := true }, kinds := [], alts := [], laidByText := true, laidKinds := [.data, .data, .data, .data, .data, .data, .handle, .sentinel, .sentinel, .widerDeep, .mappedDeep, .pinned], laidTests := true, laidLooks := .later }
def AllowNonceCardSaid : Prop := Claim7.holds Tryz.pinned (.plain (OpenSpec.ofChange allowNonceSpec)) allowNonceCard

/-- THE TIED CARD OF 'lazaretlaw27.AllowMore'. -/
def allowMoreCard : Claim7 := { stood := { row := allowMoreRow, standIns := [], harness := (true, "dceaf4b3e0cce307e7ef50806d2acafb6b15eb4c86b4e487671ec125b27b902d"), looks := true }, kinds := [], alts := [], laidByText := true, laidKinds := [.data, .data, .data, .data, .data, .data, .handle, .sentinel, .sentinel, .widerDeep, .mappedDeep, .pinned], laidTests := true, laidLooks := .later }
def AllowMoreCardSaid : Prop := Claim7.holds Tryz.pinned (.plain (OpenSpec.ofChange allowMoreSpec)) allowMoreCard

/-- THE TIED CARD OF 'lazaretlaw27.AllowStrict'. -/
def allowStrictCard : Claim7 := { stood := { row := allowStrictRow, standIns := [], harness := (true, "dceaf4b3e0cce307e7ef50806d2acafb6b15eb4c86b4e487671ec125b27b902d"), looks := true }, kinds := [], alts := [], laidByText := true, laidKinds := [.data, .data, .data, .data, .data, .data, .handle, .sentinel, .sentinel, .widerDeep, .mappedDeep, .pinned], laidTests := true, laidLooks := .later }
def AllowStrictCardSaid : Prop := Claim7.holds Tryz.pinned (.plain (OpenSpec.ofChange allowStrictSpec)) allowStrictCard

/-- THE SECOND FORM's CARD OF 'lazaretlaw27.AllowInline'. -/
def allowInlineUptoCard : Claim7 := { stood := { row := allowInlineUptoRow, standIns := [], harness := (true, "dceaf4b3e0cce307e7ef50806d2acafb6b15eb4c86b4e487671ec125b27b902d"), looks := true }, kinds := [], alts := [], laidByText := true, laidKinds := [.data, .data, .data, .data, .data, .data, .handle, .sentinel, .sentinel, .widerDeep, .mappedDeep, .pinned], laidTests := true, laidLooks := .later }
def AllowInlineUptoCardSaid : Prop := Claim7.holds Tryz.pinned (.plain (OpenSpec.upto allowInlineSpec)) allowInlineUptoCard

/-- THE SECOND FORM's CARD OF 'lazaretlaw27.AllowHash'. -/
def allowHashUptoCard : Claim7 := { stood := { row := allowHashUptoRow, standIns := [], harness := (true, "dceaf4b3e0cce307e7ef50806d2acafb6b15eb4c86b4e487671ec125b27b902d"), looks := true }, kinds := [], alts := [], laidByText := true, laidKinds := [.data, .data, .data, .data, .data, .data, .handle, .sentinel, .sentinel, .widerDeep, .mappedDeep, .pinned], laidTests := true, laidLooks := .later }
def AllowHashUptoCardSaid : Prop := Claim7.holds Tryz.pinned (.plain (OpenSpec.upto allowHashSpec)) allowHashUptoCard

/-- THE SECOND FORM's CARD OF 'lazaretlaw27.AllowNonce'. -/
def allowNonceUptoCard : Claim7 := { stood := { row := allowNonceUptoRow, standIns := [], harness := (true, "dceaf4b3e0cce307e7ef50806d2acafb6b15eb4c86b4e487671ec125b27b902d"), looks := true }, kinds := [], alts := [], laidByText := true, laidKinds := [.data, .data, .data, .data, .data, .data, .handle, .sentinel, .sentinel, .widerDeep, .mappedDeep, .pinned], laidTests := true, laidLooks := .later }
def AllowNonceUptoCardSaid : Prop := Claim7.holds Tryz.pinned (.plain (OpenSpec.upto allowNonceSpec)) allowNonceUptoCard

/-- THE SECOND FORM's CARD OF 'lazaretlaw27.AllowMore'. -/
def allowMoreUptoCard : Claim7 := { stood := { row := allowMoreUptoRow, standIns := [], harness := (true, "dceaf4b3e0cce307e7ef50806d2acafb6b15eb4c86b4e487671ec125b27b902d"), looks := true }, kinds := [], alts := [], laidByText := true, laidKinds := [.data, .data, .data, .data, .data, .data, .handle, .sentinel, .sentinel, .widerDeep, .mappedDeep, .pinned], laidTests := true, laidLooks := .later }
def AllowMoreUptoCardSaid : Prop := Claim7.holds Tryz.pinned (.plain (OpenSpec.upto allowMoreSpec)) allowMoreUptoCard

/-- THE SECOND FORM's CARD OF 'lazaretlaw27.AllowStrict'. -/
def allowStrictUptoCard : Claim7 := { stood := { row := allowStrictUptoRow, standIns := [], harness := (true, "dceaf4b3e0cce307e7ef50806d2acafb6b15eb4c86b4e487671ec125b27b902d"), looks := true }, kinds := [], alts := [], laidByText := true, laidKinds := [.data, .data, .data, .data, .data, .data, .handle, .sentinel, .sentinel, .widerDeep, .mappedDeep, .pinned], laidTests := true, laidLooks := .later }
def AllowStrictUptoCardSaid : Prop := Claim7.holds Tryz.pinned (.plain (OpenSpec.upto allowStrictSpec)) allowStrictUptoCard
end Rows
end Go.Proofs.YtjhccadmmnjpeaaGreatDoor
