/-
  DERIVED. GIVEN WITH THE SEED: THE CARDS: each row of YtibcmemcfjhgmaaGreatDoorRows.lean that lists a variable, with what it lists TIED to the program's text (the seventh form; the later family's looks); each row that meets fmt, with fmt's text TOLD by the authors' own Lean function (tested against real Go, not proved from fmt's source: count such statements apart). THE CARD IS WHAT COUNTS. Prove the row's statement (the work); the ties are given (YtibcmemcfjhgmaaGreatDoorTie.lean); close each card by the builder's one call (the guide's Derived/Test/ToyasCard.lean, 'card_holds'). Laid BY PROGRAM, IN A SANDBOX (cutbox-door.mjs). By AI agents, Wed Nov 11 2026. No macro, syntax, notation, axiom, sorry.
-/
import Derived.Test.YtibcmemcfjhgmaaGreatDoorRows
import GoSem.ClaimSeven
namespace Go.Proofs.YtibcmemcfjhgmaaGreatDoor
namespace Rows

/-- THE TIED CARD OF 'lazaretlaw27.AllowInline'. -/
def allowInlineCard : Claim7 := { stood := { row := allowInlineRow, standIns := [], harness := (true, "c93c2e9bd3e9755fa3d9df021915ab5671d0cb8fc152cb72c1ad11da8b6734ea"), looks := true }, kinds := [], alts := [], laidByText := true, laidKinds := [.data, .data, .data, .data, .data, .data, .handle, .sentinel, .sentinel, .widerDeep, .mappedDeep, .pinned], laidTests := true, laidLooks := .later }
def AllowInlineCardSaid : Prop := Claim7.holds Tryz.pinned (.plain (OpenSpec.ofChange allowInlineSpec)) allowInlineCard

/-- THE TIED CARD OF 'lazaretlaw31.JudgeMore'. -/
def judgeMoreCard : Claim7 := { stood := { row := judgeMoreRow, standIns := [], harness := (true, "c93c2e9bd3e9755fa3d9df021915ab5671d0cb8fc152cb72c1ad11da8b6734ea"), looks := true }, kinds := [], alts := [], laidByText := true, laidKinds := [.data, .data, .data, .data, .data, .data, .handle, .sentinel, .sentinel, .data, .widerDeep, .mappedDeep, .mapped, .pinned], laidTests := true, laidLooks := .later }
def JudgeMoreCardSaid : Prop := Claim7.holds Tryz.pinned (.plain (OpenSpec.ofChange judgeMoreSpec)) judgeMoreCard

/-- THE TIED CARD OF 'lazaretlaw31.JudgeEach'. -/
def judgeEachCard : Claim7 := { stood := { row := judgeEachRow, standIns := [], harness := (true, "c93c2e9bd3e9755fa3d9df021915ab5671d0cb8fc152cb72c1ad11da8b6734ea"), looks := true }, kinds := [], alts := [], laidByText := true, laidKinds := [.data, .data, .data, .data, .data, .data, .handle, .sentinel, .sentinel, .data, .widerDeep, .mappedDeep, .mapped, .pinned], laidTests := true, laidLooks := .later }
def JudgeEachCardSaid : Prop := Claim7.holds Tryz.pinned (.plain (OpenSpec.ofChange judgeEachSpec)) judgeEachCard

/-- THE TIED CARD OF 'lazaretlaw31.JudgeNone'. -/
def judgeNoneCard : Claim7 := { stood := { row := judgeNoneRow, standIns := [], harness := (true, "c93c2e9bd3e9755fa3d9df021915ab5671d0cb8fc152cb72c1ad11da8b6734ea"), looks := true }, kinds := [], alts := [], laidByText := true, laidKinds := [.data, .data, .data, .data, .data, .data, .handle, .sentinel, .sentinel, .data, .widerDeep, .mappedDeep, .mapped, .pinned], laidTests := true, laidLooks := .later }
def JudgeNoneCardSaid : Prop := Claim7.holds Tryz.pinned (.plain (OpenSpec.ofChange judgeNoneSpec)) judgeNoneCard

/-- THE SECOND FORM's CARD OF 'lazaretlaw27.AllowInline'. -/
def allowInlineUptoCard : Claim7 := { stood := { row := allowInlineUptoRow, standIns := [], harness := (true, "c93c2e9bd3e9755fa3d9df021915ab5671d0cb8fc152cb72c1ad11da8b6734ea"), looks := true }, kinds := [], alts := [], laidByText := true, laidKinds := [.data, .data, .data, .data, .data, .data, .handle, .sentinel, .sentinel, .widerDeep, .mappedDeep, .pinned], laidTests := true, laidLooks := .later }
def AllowInlineUptoCardSaid : Prop := Claim7.holds Tryz.pinned (.plain (OpenSpec.upto allowInlineSpec)) allowInlineUptoCard

/-- THE SECOND FORM's CARD OF 'lazaretlaw31.JudgeMore'. -/
def judgeMoreUptoCard : Claim7 := { stood := { row := judgeMoreUptoRow, standIns := [], harness := (true, "c93c2e9bd3e9755fa3d9df021915ab5671d0cb8fc152cb72c1ad11da8b6734ea"), looks := true }, kinds := [], alts := [], laidByText := true, laidKinds := [.data, .data, .data, .data, .data, .data, .handle, .sentinel, .sentinel, .data, .widerDeep, .mappedDeep, .mapped, .pinned], laidTests := true, laidLooks := .later }
def JudgeMoreUptoCardSaid : Prop := Claim7.holds Tryz.pinned (.plain (OpenSpec.upto judgeMoreSpec)) judgeMoreUptoCard

/-- THE SECOND FORM's CARD OF 'lazaretlaw31.JudgeEach'. -/
def judgeEachUptoCard : Claim7 := { stood := { row := judgeEachUptoRow, standIns := [], harness := (true, "c93c2e9bd3e9755fa3d9df021915ab5671d0cb8fc152cb72c1ad11da8b6734ea"), looks := true }, kinds := [], alts := [], laidByText := true, laidKinds := [.data, .data, .data, .data, .data, .data, .handle, .sentinel, .sentinel, .data, .widerDeep, .mappedDeep, .mapped, .pinned], laidTests := true, laidLooks := .later }
def JudgeEachUptoCardSaid : Prop := Claim7.holds Tryz.pinned (.plain (OpenSpec.upto judgeEachSpec)) judgeEachUptoCard

/-- THE SECOND FORM's CARD OF 'lazaretlaw31.JudgeNone'. -/
def judgeNoneUptoCard : Claim7 := { stood := { row := judgeNoneUptoRow, standIns := [], harness := (true, "c93c2e9bd3e9755fa3d9df021915ab5671d0cb8fc152cb72c1ad11da8b6734ea"), looks := true }, kinds := [], alts := [], laidByText := true, laidKinds := [.data, .data, .data, .data, .data, .data, .handle, .sentinel, .sentinel, .data, .widerDeep, .mappedDeep, .mapped, .pinned], laidTests := true, laidLooks := .later }
def JudgeNoneUptoCardSaid : Prop := Claim7.holds Tryz.pinned (.plain (OpenSpec.upto judgeNoneSpec)) judgeNoneUptoCard
end Rows
end Go.Proofs.YtibcmemcfjhgmaaGreatDoor
