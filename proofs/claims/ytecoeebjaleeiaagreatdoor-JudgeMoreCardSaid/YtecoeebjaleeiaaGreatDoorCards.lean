/-
  DERIVED. GIVEN WITH THE SEED: THE CARDS: each row of YtecoeebjaleeiaaGreatDoorRows.lean that lists a variable, with what it lists TIED to the program's text (the seventh form; the later family's looks); each row that meets fmt, with fmt's text TOLD by the authors' own Lean function (tested against real Go, not proved from fmt's source: count such statements apart). THE CARD IS WHAT COUNTS. Prove the row's statement (the work); the ties are given (YtecoeebjaleeiaaGreatDoorTie.lean); close each card by the builder's one call (the guide's Derived/Test/ToyasCard.lean, 'card_holds'). Laid BY PROGRAM, IN A SANDBOX (cutbox-door.mjs). By AI agents, Wed Nov 11 2026. No macro, syntax, notation, axiom, sorry.
-/
import Derived.Test.YtecoeebjaleeiaaGreatDoorRows
import GoSem.ClaimSeven
namespace Go.Proofs.YtecoeebjaleeiaaGreatDoor
namespace Rows

/-- THE TIED CARD OF 'lazaretlaw31.JudgeMore'. -/
def judgeMoreCard : Claim7 := { stood := { row := judgeMoreRow, standIns := [], harness := (true, "fff177a17fb865b1f60fe792a974592d515a9f1f6eba842f355cad909f5aba68"), looks := true }, kinds := [], alts := [], laidByText := true, laidKinds := [.data, .data, .data, .data, .data, .data, .handle, .sentinel, .sentinel, .data, .widerDeep, .mappedDeep, .mapped, .pinned], laidTests := true, laidLooks := .later }
def JudgeMoreCardSaid : Prop := Claim7.holds Tryz.pinned (.plain (OpenSpec.ofChange judgeMoreSpec)) judgeMoreCard

/-- THE TIED CARD OF 'lazaretlaw31.JudgeEach'. -/
def judgeEachCard : Claim7 := { stood := { row := judgeEachRow, standIns := [], harness := (true, "fff177a17fb865b1f60fe792a974592d515a9f1f6eba842f355cad909f5aba68"), looks := true }, kinds := [], alts := [], laidByText := true, laidKinds := [.data, .data, .data, .data, .data, .data, .handle, .sentinel, .sentinel, .data, .widerDeep, .mappedDeep, .mapped, .pinned], laidTests := true, laidLooks := .later }
def JudgeEachCardSaid : Prop := Claim7.holds Tryz.pinned (.plain (OpenSpec.ofChange judgeEachSpec)) judgeEachCard

/-- THE TIED CARD OF 'lazaretlaw31.JudgeNone'. -/
def judgeNoneCard : Claim7 := { stood := { row := judgeNoneRow, standIns := [], harness := (true, "fff177a17fb865b1f60fe792a974592d515a9f1f6eba842f355cad909f5aba68"), looks := true }, kinds := [], alts := [], laidByText := true, laidKinds := [.data, .data, .data, .data, .data, .data, .handle, .sentinel, .sentinel, .data, .widerDeep, .mappedDeep, .mapped, .pinned], laidTests := true, laidLooks := .later }
def JudgeNoneCardSaid : Prop := Claim7.holds Tryz.pinned (.plain (OpenSpec.ofChange judgeNoneSpec)) judgeNoneCard

/-- THE SECOND FORM's CARD OF 'lazaretlaw31.JudgeMore'. -/
def judgeMoreUptoCard : Claim7 := { stood := { row := judgeMoreUptoRow, standIns := [], harness := (true, "fff177a17fb865b1f60fe792a974592d515a9f1f6eba842f355cad909f5aba68"), looks := true }, kinds := [], alts := [], laidByText := true, laidKinds := [.data, .data, .data, .data, .data, .data, .handle, .sentinel, .sentinel, .data, .widerDeep, .mappedDeep, .mapped, .pinned], laidTests := true, laidLooks := .later }
def JudgeMoreUptoCardSaid : Prop := Claim7.holds Tryz.pinned (.plain (OpenSpec.upto judgeMoreSpec)) judgeMoreUptoCard

/-- THE SECOND FORM's CARD OF 'lazaretlaw31.JudgeEach'. -/
def judgeEachUptoCard : Claim7 := { stood := { row := judgeEachUptoRow, standIns := [], harness := (true, "fff177a17fb865b1f60fe792a974592d515a9f1f6eba842f355cad909f5aba68"), looks := true }, kinds := [], alts := [], laidByText := true, laidKinds := [.data, .data, .data, .data, .data, .data, .handle, .sentinel, .sentinel, .data, .widerDeep, .mappedDeep, .mapped, .pinned], laidTests := true, laidLooks := .later }
def JudgeEachUptoCardSaid : Prop := Claim7.holds Tryz.pinned (.plain (OpenSpec.upto judgeEachSpec)) judgeEachUptoCard

/-- THE SECOND FORM's CARD OF 'lazaretlaw31.JudgeNone'. -/
def judgeNoneUptoCard : Claim7 := { stood := { row := judgeNoneUptoRow, standIns := [], harness := (true, "fff177a17fb865b1f60fe792a974592d515a9f1f6eba842f355cad909f5aba68"), looks := true }, kinds := [], alts := [], laidByText := true, laidKinds := [.data, .data, .data, .data, .data, .data, .handle, .sentinel, .sentinel, .data, .widerDeep, .mappedDeep, .mapped, .pinned], laidTests := true, laidLooks := .later }
def JudgeNoneUptoCardSaid : Prop := Claim7.holds Tryz.pinned (.plain (OpenSpec.upto judgeNoneSpec)) judgeNoneUptoCard
end Rows
end Go.Proofs.YtecoeebjaleeiaaGreatDoor
