/-
  DERIVED. GIVEN WITH THE SEED: THE CARDS: each row of YtippohicjhilnaaGreatDoorRows.lean that lists a variable, with what it lists TIED to the program's text (the seventh form; the later family's looks); each row that meets fmt, with fmt's text TOLD by the authors' own Lean function (tested against real Go, not proved from fmt's source: count such statements apart). THE CARD IS WHAT COUNTS. Prove the row's statement (the work); the ties are given (YtippohicjhilnaaGreatDoorTie.lean); close each card by the builder's one call (the guide's Derived/Test/ToyasCard.lean, 'card_holds'). Laid BY PROGRAM, IN A SANDBOX (cutbox-door.mjs). By AI agents, Wed Nov 11 2026. No macro, syntax, notation, axiom, sorry.
-/
import Derived.Test.YtippohicjhilnaaGreatDoorRows
import GoSem.ClaimSeven
namespace Go.Proofs.YtippohicjhilnaaGreatDoor
namespace Rows

/-- THE TIED CARD OF 'hairsbreadthtop.TopNearest'. -/
def topNearestCard : Claim7 := { stood := { row := topNearestRow, standIns := [], harness := (true, "4d2cee7ab8a0f4b4b898be12d138ac8c53082e4908f4962841a422ec1b7d8cf1"), looks := true }, kinds := [], alts := [], laidByText := true, laidKinds := [.data, .data, .data, .data, .data, .data, .data, .pinned], laidTests := true, laidLooks := .later }
def TopNearestCardSaid : Prop := Claim7.holds Tryz.pinned (.plain (OpenSpec.ofChange topNearestSpec)) topNearestCard

/-- THE TIED CARD OF 'hairsbreadthtop.TopRem'. -/
def topRemCard : Claim7 := { stood := { row := topRemRow, standIns := [], harness := (true, "4d2cee7ab8a0f4b4b898be12d138ac8c53082e4908f4962841a422ec1b7d8cf1"), looks := true }, kinds := [], alts := [], laidByText := true, laidKinds := [.data, .data, .data, .data, .data, .data, .data, .pinned], laidTests := true, laidLooks := .later }
def TopRemCardSaid : Prop := Claim7.holds Tryz.pinned (.plain (OpenSpec.ofChange topRemSpec)) topRemCard

/-- THE SECOND FORM's CARD OF 'hairsbreadthtop.TopNearest'. -/
def topNearestUptoCard : Claim7 := { stood := { row := topNearestUptoRow, standIns := [], harness := (true, "4d2cee7ab8a0f4b4b898be12d138ac8c53082e4908f4962841a422ec1b7d8cf1"), looks := true }, kinds := [], alts := [], laidByText := true, laidKinds := [.data, .data, .data, .data, .data, .data, .data, .pinned], laidTests := true, laidLooks := .later }
def TopNearestUptoCardSaid : Prop := Claim7.holds Tryz.pinned (.plain (OpenSpec.upto topNearestSpec)) topNearestUptoCard

/-- THE SECOND FORM's CARD OF 'hairsbreadthtop.TopRem'. -/
def topRemUptoCard : Claim7 := { stood := { row := topRemUptoRow, standIns := [], harness := (true, "4d2cee7ab8a0f4b4b898be12d138ac8c53082e4908f4962841a422ec1b7d8cf1"), looks := true }, kinds := [], alts := [], laidByText := true, laidKinds := [.data, .data, .data, .data, .data, .data, .data, .pinned], laidTests := true, laidLooks := .later }
def TopRemUptoCardSaid : Prop := Claim7.holds Tryz.pinned (.plain (OpenSpec.upto topRemSpec)) topRemUptoCard
end Rows
end Go.Proofs.YtippohicjhilnaaGreatDoor
