/-
  DERIVED. GIVEN WITH THE SEED: THE CARDS: each row of YtafnnnhmplgkcaaGreatDoorRows.lean that lists a variable, with what it lists TIED to the program's text (the seventh form; the later family's looks); each row that meets fmt, with fmt's text TOLD by the authors' own Lean function (tested against real Go, not proved from fmt's source: count such statements apart). THE CARD IS WHAT COUNTS. Prove the row's statement (the work); the ties are given (YtafnnnhmplgkcaaGreatDoorTie.lean); close each card by the builder's one call (the guide's Derived/Test/ToyasCard.lean, 'card_holds'). Laid BY PROGRAM, IN A SANDBOX (cutbox-door.mjs). By AI agents, Wed Nov 11 2026. No macro, syntax, notation, axiom, sorry.
-/
import Derived.Test.YtafnnnhmplgkcaaGreatDoorRows
import GoSem.ClaimSeven
namespace Go.Proofs.YtafnnnhmplgkcaaGreatDoor
namespace Rows

/-- THE TIED CARD OF 'hairsbreadthlaw23.RemTurn'. -/
def remTurnCard : Claim7 := { stood := { row := remTurnRow, standIns := [], harness := (true, "d12374fa5881fe318a696ab29351edc95e7963a2099123b04aafdc46378df3ba"), looks := false }, kinds := [], alts := [], laidByText := true, laidKinds := [.data], laidTests := true, laidLooks := .later }
def RemTurnCardSaid : Prop := Claim7.holds Tryz.pinned (.plain (OpenSpec.ofChange remTurnSpec)) remTurnCard

/-- THE TIED CARD OF 'hairsbreadthlaw22.SqrtSquare'. -/
def sqrtSquareCard : Claim7 := { stood := { row := sqrtSquareRow, standIns := [], harness := (true, "d12374fa5881fe318a696ab29351edc95e7963a2099123b04aafdc46378df3ba"), looks := false }, kinds := [], alts := [], laidByText := true, laidKinds := [.data], laidTests := true, laidLooks := .later }
def SqrtSquareCardSaid : Prop := Claim7.holds Tryz.pinned (.plain (OpenSpec.ofChange sqrtSquareSpec)) sqrtSquareCard

/-- THE TIED CARD OF 'hairsbreadthlaw22.SqrtFour'. -/
def sqrtFourCard : Claim7 := { stood := { row := sqrtFourRow, standIns := [], harness := (true, "d12374fa5881fe318a696ab29351edc95e7963a2099123b04aafdc46378df3ba"), looks := false }, kinds := [], alts := [], laidByText := true, laidKinds := [.data], laidTests := true, laidLooks := .later }
def SqrtFourCardSaid : Prop := Claim7.holds Tryz.pinned (.plain (OpenSpec.ofChange sqrtFourSpec)) sqrtFourCard

/-- THE TIED CARD OF 'hairsbreadthlaw23.RemHalf'. -/
def remHalfCard : Claim7 := { stood := { row := remHalfRow, standIns := [], harness := (true, "d12374fa5881fe318a696ab29351edc95e7963a2099123b04aafdc46378df3ba"), looks := false }, kinds := [], alts := [], laidByText := true, laidKinds := [.data], laidTests := true, laidLooks := .later }
def RemHalfCardSaid : Prop := Claim7.holds Tryz.pinned (.plain (OpenSpec.ofChange remHalfSpec)) remHalfCard

/-- THE TIED CARD OF 'hairsbreadthlaw23.RemStep'. -/
def remStepCard : Claim7 := { stood := { row := remStepRow, standIns := [], harness := (true, "d12374fa5881fe318a696ab29351edc95e7963a2099123b04aafdc46378df3ba"), looks := false }, kinds := [], alts := [], laidByText := true, laidKinds := [.data], laidTests := true, laidLooks := .later }
def RemStepCardSaid : Prop := Claim7.holds Tryz.pinned (.plain (OpenSpec.ofChange remStepSpec)) remStepCard

/-- THE TIED CARD OF 'hairsbreadthlaw22.SqrtBetween'. -/
def sqrtBetweenCard : Claim7 := { stood := { row := sqrtBetweenRow, standIns := [], harness := (true, "d12374fa5881fe318a696ab29351edc95e7963a2099123b04aafdc46378df3ba"), looks := false }, kinds := [], alts := [], laidByText := true, laidKinds := [.data], laidTests := true, laidLooks := .later }
def SqrtBetweenCardSaid : Prop := Claim7.holds Tryz.pinned (.plain (OpenSpec.ofChange sqrtBetweenSpec)) sqrtBetweenCard

/-- THE TIED CARD OF 'hairsbreadthlaw23.RemMultiple'. -/
def remMultipleCard : Claim7 := { stood := { row := remMultipleRow, standIns := [], harness := (true, "d12374fa5881fe318a696ab29351edc95e7963a2099123b04aafdc46378df3ba"), looks := false }, kinds := [], alts := [], laidByText := true, laidKinds := [.data], laidTests := true, laidLooks := .later }
def RemMultipleCardSaid : Prop := Claim7.holds Tryz.pinned (.plain (OpenSpec.ofChange remMultipleSpec)) remMultipleCard

/-- THE SECOND FORM's CARD OF 'hairsbreadthlaw23.RemTurn'. -/
def remTurnUptoCard : Claim7 := { stood := { row := remTurnUptoRow, standIns := [], harness := (true, "d12374fa5881fe318a696ab29351edc95e7963a2099123b04aafdc46378df3ba"), looks := false }, kinds := [], alts := [], laidByText := true, laidKinds := [.data], laidTests := true, laidLooks := .later }
def RemTurnUptoCardSaid : Prop := Claim7.holds Tryz.pinned (.plain (OpenSpec.upto remTurnSpec)) remTurnUptoCard

/-- THE SECOND FORM's CARD OF 'hairsbreadthlaw22.SqrtSquare'. -/
def sqrtSquareUptoCard : Claim7 := { stood := { row := sqrtSquareUptoRow, standIns := [], harness := (true, "d12374fa5881fe318a696ab29351edc95e7963a2099123b04aafdc46378df3ba"), looks := false }, kinds := [], alts := [], laidByText := true, laidKinds := [.data], laidTests := true, laidLooks := .later }
def SqrtSquareUptoCardSaid : Prop := Claim7.holds Tryz.pinned (.plain (OpenSpec.upto sqrtSquareSpec)) sqrtSquareUptoCard

/-- THE SECOND FORM's CARD OF 'hairsbreadthlaw22.SqrtFour'. -/
def sqrtFourUptoCard : Claim7 := { stood := { row := sqrtFourUptoRow, standIns := [], harness := (true, "d12374fa5881fe318a696ab29351edc95e7963a2099123b04aafdc46378df3ba"), looks := false }, kinds := [], alts := [], laidByText := true, laidKinds := [.data], laidTests := true, laidLooks := .later }
def SqrtFourUptoCardSaid : Prop := Claim7.holds Tryz.pinned (.plain (OpenSpec.upto sqrtFourSpec)) sqrtFourUptoCard

/-- THE SECOND FORM's CARD OF 'hairsbreadthlaw23.RemHalf'. -/
def remHalfUptoCard : Claim7 := { stood := { row := remHalfUptoRow, standIns := [], harness := (true, "d12374fa5881fe318a696ab29351edc95e7963a2099123b04aafdc46378df3ba"), looks := false }, kinds := [], alts := [], laidByText := true, laidKinds := [.data], laidTests := true, laidLooks := .later }
def RemHalfUptoCardSaid : Prop := Claim7.holds Tryz.pinned (.plain (OpenSpec.upto remHalfSpec)) remHalfUptoCard

/-- THE SECOND FORM's CARD OF 'hairsbreadthlaw23.RemStep'. -/
def remStepUptoCard : Claim7 := { stood := { row := remStepUptoRow, standIns := [], harness := (true, "d12374fa5881fe318a696ab29351edc95e7963a2099123b04aafdc46378df3ba"), looks := false }, kinds := [], alts := [], laidByText := true, laidKinds := [.data], laidTests := true, laidLooks := .later }
def RemStepUptoCardSaid : Prop := Claim7.holds Tryz.pinned (.plain (OpenSpec.upto remStepSpec)) remStepUptoCard

/-- THE SECOND FORM's CARD OF 'hairsbreadthlaw22.SqrtBetween'. -/
def sqrtBetweenUptoCard : Claim7 := { stood := { row := sqrtBetweenUptoRow, standIns := [], harness := (true, "d12374fa5881fe318a696ab29351edc95e7963a2099123b04aafdc46378df3ba"), looks := false }, kinds := [], alts := [], laidByText := true, laidKinds := [.data], laidTests := true, laidLooks := .later }
def SqrtBetweenUptoCardSaid : Prop := Claim7.holds Tryz.pinned (.plain (OpenSpec.upto sqrtBetweenSpec)) sqrtBetweenUptoCard

/-- THE SECOND FORM's CARD OF 'hairsbreadthlaw23.RemMultiple'. -/
def remMultipleUptoCard : Claim7 := { stood := { row := remMultipleUptoRow, standIns := [], harness := (true, "d12374fa5881fe318a696ab29351edc95e7963a2099123b04aafdc46378df3ba"), looks := false }, kinds := [], alts := [], laidByText := true, laidKinds := [.data], laidTests := true, laidLooks := .later }
def RemMultipleUptoCardSaid : Prop := Claim7.holds Tryz.pinned (.plain (OpenSpec.upto remMultipleSpec)) remMultipleUptoCard
end Rows
end Go.Proofs.YtafnnnhmplgkcaaGreatDoor
