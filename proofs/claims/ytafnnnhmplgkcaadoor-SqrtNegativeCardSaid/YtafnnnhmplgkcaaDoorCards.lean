/-
  DERIVED. GIVEN WITH THE SEED: THE CARDS: each row of YtafnnnhmplgkcaaDoorRows.lean that lists a variable, with what it lists TIED to the program's text (the seventh form; the later family's looks); each row that meets fmt, with fmt's text TOLD by the authors' own Lean function (tested against real Go, not proved from fmt's source: count such statements apart). THE CARD IS WHAT COUNTS. Prove the row's statement (the work); the ties are given (YtafnnnhmplgkcaaDoorTie.lean); close each card by the builder's one call (the guide's Derived/Test/ToyasCard.lean, 'card_holds'). Laid BY PROGRAM, IN A SANDBOX (cutbox-door.mjs). By AI agents, Wed Nov 11 2026. No macro, syntax, notation, axiom, sorry.
-/
import Derived.Test.YtafnnnhmplgkcaaDoorRows
import GoSem.ClaimSeven
namespace Go.Proofs.YtafnnnhmplgkcaaDoor
namespace Rows

/-- THE TIED CARD OF 'hairsbreadthlaw22.SqrtOrder'. -/
def sqrtOrderCard : Claim7 := { stood := { row := sqrtOrderRow, standIns := [], harness := (true, "8cf80f93e1b2058791ebfa8a5f8178274424c155b00efd78731e966f55f936f7"), looks := false }, kinds := [], alts := [], laidByText := true, laidKinds := [.data], laidTests := true, laidLooks := .later }
def SqrtOrderCardSaid : Prop := Claim7.holds Tryd.pinned (.plain (OpenSpec.ofChange sqrtOrderSpec)) sqrtOrderCard

/-- THE TIED CARD OF 'hairsbreadthlaw22.SqrtNegative'. -/
def sqrtNegativeCard : Claim7 := { stood := { row := sqrtNegativeRow, standIns := [], harness := (true, "8cf80f93e1b2058791ebfa8a5f8178274424c155b00efd78731e966f55f936f7"), looks := false }, kinds := [], alts := [], laidByText := true, laidKinds := [.data], laidTests := true, laidLooks := .later }
def SqrtNegativeCardSaid : Prop := Claim7.holds Tryd.pinned (.plain (OpenSpec.ofChange sqrtNegativeSpec)) sqrtNegativeCard

/-- THE TIED CARD OF 'hairsbreadthlaw22.SqrtKnown'. -/
def sqrtKnownCard : Claim7 := { stood := { row := sqrtKnownRow, standIns := [], harness := (true, "8cf80f93e1b2058791ebfa8a5f8178274424c155b00efd78731e966f55f936f7"), looks := false }, kinds := [], alts := [], laidByText := true, laidKinds := [.data], laidTests := true, laidLooks := .later }
def SqrtKnownCardSaid : Prop := Claim7.holds Tryd.pinned (.plain (OpenSpec.ofChange sqrtKnownSpec)) sqrtKnownCard

/-- THE SECOND FORM's CARD OF 'hairsbreadthlaw22.SqrtOrder'. -/
def sqrtOrderUptoCard : Claim7 := { stood := { row := sqrtOrderUptoRow, standIns := [], harness := (true, "8cf80f93e1b2058791ebfa8a5f8178274424c155b00efd78731e966f55f936f7"), looks := false }, kinds := [], alts := [], laidByText := true, laidKinds := [.data], laidTests := true, laidLooks := .later }
def SqrtOrderUptoCardSaid : Prop := Claim7.holds Tryd.pinned (.plain (OpenSpec.upto sqrtOrderSpec)) sqrtOrderUptoCard

/-- THE SECOND FORM's CARD OF 'hairsbreadthlaw22.SqrtNegative'. -/
def sqrtNegativeUptoCard : Claim7 := { stood := { row := sqrtNegativeUptoRow, standIns := [], harness := (true, "8cf80f93e1b2058791ebfa8a5f8178274424c155b00efd78731e966f55f936f7"), looks := false }, kinds := [], alts := [], laidByText := true, laidKinds := [.data], laidTests := true, laidLooks := .later }
def SqrtNegativeUptoCardSaid : Prop := Claim7.holds Tryd.pinned (.plain (OpenSpec.upto sqrtNegativeSpec)) sqrtNegativeUptoCard

/-- THE SECOND FORM's CARD OF 'hairsbreadthlaw22.SqrtKnown'. -/
def sqrtKnownUptoCard : Claim7 := { stood := { row := sqrtKnownUptoRow, standIns := [], harness := (true, "8cf80f93e1b2058791ebfa8a5f8178274424c155b00efd78731e966f55f936f7"), looks := false }, kinds := [], alts := [], laidByText := true, laidKinds := [.data], laidTests := true, laidLooks := .later }
def SqrtKnownUptoCardSaid : Prop := Claim7.holds Tryd.pinned (.plain (OpenSpec.upto sqrtKnownSpec)) sqrtKnownUptoCard
end Rows
end Go.Proofs.YtafnnnhmplgkcaaDoor
