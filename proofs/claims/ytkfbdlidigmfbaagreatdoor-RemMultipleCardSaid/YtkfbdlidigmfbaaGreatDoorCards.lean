/-
  DERIVED. GIVEN WITH THE SEED: THE CARDS: each row of YtkfbdlidigmfbaaGreatDoorRows.lean that lists a variable, with what it lists TIED to the program's text (the seventh form; the later family's looks); each row that meets fmt, with fmt's text TOLD by the authors' own Lean function (tested against real Go, not proved from fmt's source: count such statements apart). THE CARD IS WHAT COUNTS. Prove the row's statement (the work); the ties are given (YtkfbdlidigmfbaaGreatDoorTie.lean); close each card by the builder's one call (the guide's Derived/Test/ToyasCard.lean, 'card_holds'). Laid BY PROGRAM, IN A SANDBOX (cutbox-door.mjs). By AI agents, Wed Nov 11 2026. No macro, syntax, notation, axiom, sorry.
-/
import Derived.Test.YtkfbdlidigmfbaaGreatDoorRows
import GoSem.ClaimSeven
namespace Go.Proofs.YtkfbdlidigmfbaaGreatDoor
namespace Rows

/-- THE TIED CARD OF 'hairsbreadthlaw22.SqrtBetween'. -/
def sqrtBetweenCard : Claim7 := { stood := { row := sqrtBetweenRow, standIns := [], harness := (true, "1cd463eeba65e297d42e1824d20c790c34df21e721d1ad9fc5cb1bd74f2e5b60"), looks := false }, kinds := [], alts := [], laidByText := true, laidKinds := [.data], laidTests := true, laidLooks := .later }
def SqrtBetweenCardSaid : Prop := Claim7.holds Tryz.pinned (.plain (OpenSpec.ofChange sqrtBetweenSpec)) sqrtBetweenCard

/-- THE TIED CARD OF 'hairsbreadthlaw23.RemMultiple'. -/
def remMultipleCard : Claim7 := { stood := { row := remMultipleRow, standIns := [], harness := (true, "1cd463eeba65e297d42e1824d20c790c34df21e721d1ad9fc5cb1bd74f2e5b60"), looks := false }, kinds := [], alts := [], laidByText := true, laidKinds := [.data], laidTests := true, laidLooks := .later }
def RemMultipleCardSaid : Prop := Claim7.holds Tryz.pinned (.plain (OpenSpec.ofChange remMultipleSpec)) remMultipleCard

/-- THE SECOND FORM's CARD OF 'hairsbreadthlaw22.SqrtBetween'. -/
def sqrtBetweenUptoCard : Claim7 := { stood := { row := sqrtBetweenUptoRow, standIns := [], harness := (true, "1cd463eeba65e297d42e1824d20c790c34df21e721d1ad9fc5cb1bd74f2e5b60"), looks := false }, kinds := [], alts := [], laidByText := true, laidKinds := [.data], laidTests := true, laidLooks := .later }
def SqrtBetweenUptoCardSaid : Prop := Claim7.holds Tryz.pinned (.plain (OpenSpec.upto sqrtBetweenSpec)) sqrtBetweenUptoCard

/-- THE SECOND FORM's CARD OF 'hairsbreadthlaw23.RemMultiple'. -/
def remMultipleUptoCard : Claim7 := { stood := { row := remMultipleUptoRow, standIns := [], harness := (true, "1cd463eeba65e297d42e1824d20c790c34df21e721d1ad9fc5cb1bd74f2e5b60"), looks := false }, kinds := [], alts := [], laidByText := true, laidKinds := [.data], laidTests := true, laidLooks := .later }
def RemMultipleUptoCardSaid : Prop := Claim7.holds Tryz.pinned (.plain (OpenSpec.upto remMultipleSpec)) remMultipleUptoCard
end Rows
end Go.Proofs.YtkfbdlidigmfbaaGreatDoor
