/-
  DERIVED. GIVEN WITH THE SEED: THE CARDS: each row of YtgbdemipeoboeaaDoorRows.lean that lists a variable, with what it lists TIED to the program's text (the seventh form; the later family's looks); each row that meets fmt, with fmt's text TOLD by the authors' own Lean function (tested against real Go, not proved from fmt's source: count such statements apart). THE CARD IS WHAT COUNTS. Prove the row's statement (the work); the ties are given (YtgbdemipeoboeaaDoorTie.lean); close each card by the builder's one call (the guide's Derived/Test/ToyasCard.lean, 'card_holds'). Laid BY PROGRAM, IN A SANDBOX (cutbox-door.mjs). By AI agents, Wed Nov 11 2026. No macro, syntax, notation, axiom, sorry.
-/
import Derived.Test.YtgbdemipeoboeaaDoorRows
import GoSem.ClaimSeven
namespace Go.Proofs.YtgbdemipeoboeaaDoor
namespace Rows

/-- THE TIED CARD OF 'hairsbreadthlaw21.DivOne'. -/
def divOneCard : Claim7 := { stood := { row := divOneRow, standIns := [], harness := (true, "b7d7084ee25aeac9a7dc6497c4ea23997c896cdd0a8e3376c58bb74ae2727cd3"), looks := false }, kinds := [], alts := [], laidByText := true, laidKinds := [.data], laidTests := true, laidLooks := .later }
def DivOneCardSaid : Prop := Claim7.holds Tryd.pinned (.plain (OpenSpec.ofChange divOneSpec)) divOneCard

/-- THE TIED CARD OF 'hairsbreadthlaw21.DivSpecial'. -/
def divSpecialCard : Claim7 := { stood := { row := divSpecialRow, standIns := [], harness := (true, "b7d7084ee25aeac9a7dc6497c4ea23997c896cdd0a8e3376c58bb74ae2727cd3"), looks := false }, kinds := [], alts := [], laidByText := true, laidKinds := [.data], laidTests := true, laidLooks := .later }
def DivSpecialCardSaid : Prop := Claim7.holds Tryd.pinned (.plain (OpenSpec.ofChange divSpecialSpec)) divSpecialCard

/-- THE TIED CARD OF 'hairsbreadthlaw21.DivKnown'. -/
def divKnownCard : Claim7 := { stood := { row := divKnownRow, standIns := [], harness := (true, "b7d7084ee25aeac9a7dc6497c4ea23997c896cdd0a8e3376c58bb74ae2727cd3"), looks := false }, kinds := [], alts := [], laidByText := true, laidKinds := [.data], laidTests := true, laidLooks := .later }
def DivKnownCardSaid : Prop := Claim7.holds Tryd.pinned (.plain (OpenSpec.ofChange divKnownSpec)) divKnownCard

/-- THE TIED CARD OF 'hairsbreadthlaw21.DivTurn'. -/
def divTurnCard : Claim7 := { stood := { row := divTurnRow, standIns := [], harness := (true, "b7d7084ee25aeac9a7dc6497c4ea23997c896cdd0a8e3376c58bb74ae2727cd3"), looks := false }, kinds := [], alts := [], laidByText := true, laidKinds := [.data], laidTests := true, laidLooks := .later }
def DivTurnCardSaid : Prop := Claim7.holds Tryd.pinned (.plain (OpenSpec.ofChange divTurnSpec)) divTurnCard

/-- THE TIED CARD OF 'hairsbreadthlaw22.SqrtOrder'. -/
def sqrtOrderCard : Claim7 := { stood := { row := sqrtOrderRow, standIns := [], harness := (true, "b7d7084ee25aeac9a7dc6497c4ea23997c896cdd0a8e3376c58bb74ae2727cd3"), looks := false }, kinds := [], alts := [], laidByText := true, laidKinds := [.data], laidTests := true, laidLooks := .later }
def SqrtOrderCardSaid : Prop := Claim7.holds Tryd.pinned (.plain (OpenSpec.ofChange sqrtOrderSpec)) sqrtOrderCard

/-- THE TIED CARD OF 'hairsbreadthlaw22.SqrtNegative'. -/
def sqrtNegativeCard : Claim7 := { stood := { row := sqrtNegativeRow, standIns := [], harness := (true, "b7d7084ee25aeac9a7dc6497c4ea23997c896cdd0a8e3376c58bb74ae2727cd3"), looks := false }, kinds := [], alts := [], laidByText := true, laidKinds := [.data], laidTests := true, laidLooks := .later }
def SqrtNegativeCardSaid : Prop := Claim7.holds Tryd.pinned (.plain (OpenSpec.ofChange sqrtNegativeSpec)) sqrtNegativeCard

/-- THE TIED CARD OF 'hairsbreadthlaw22.SqrtKnown'. -/
def sqrtKnownCard : Claim7 := { stood := { row := sqrtKnownRow, standIns := [], harness := (true, "b7d7084ee25aeac9a7dc6497c4ea23997c896cdd0a8e3376c58bb74ae2727cd3"), looks := false }, kinds := [], alts := [], laidByText := true, laidKinds := [.data], laidTests := true, laidLooks := .later }
def SqrtKnownCardSaid : Prop := Claim7.holds Tryd.pinned (.plain (OpenSpec.ofChange sqrtKnownSpec)) sqrtKnownCard

/-- THE TIED CARD OF 'hairsbreadthlaw23.RemSpecial'. -/
def remSpecialCard : Claim7 := { stood := { row := remSpecialRow, standIns := [], harness := (true, "b7d7084ee25aeac9a7dc6497c4ea23997c896cdd0a8e3376c58bb74ae2727cd3"), looks := false }, kinds := [], alts := [], laidByText := true, laidKinds := [.data], laidTests := true, laidLooks := .later }
def RemSpecialCardSaid : Prop := Claim7.holds Tryd.pinned (.plain (OpenSpec.ofChange remSpecialSpec)) remSpecialCard

/-- THE TIED CARD OF 'hairsbreadthlaw23.RemKnown'. -/
def remKnownCard : Claim7 := { stood := { row := remKnownRow, standIns := [], harness := (true, "b7d7084ee25aeac9a7dc6497c4ea23997c896cdd0a8e3376c58bb74ae2727cd3"), looks := false }, kinds := [], alts := [], laidByText := true, laidKinds := [.data], laidTests := true, laidLooks := .later }
def RemKnownCardSaid : Prop := Claim7.holds Tryd.pinned (.plain (OpenSpec.ofChange remKnownSpec)) remKnownCard

/-- THE SECOND FORM's CARD OF 'hairsbreadthlaw21.DivOne'. -/
def divOneUptoCard : Claim7 := { stood := { row := divOneUptoRow, standIns := [], harness := (true, "b7d7084ee25aeac9a7dc6497c4ea23997c896cdd0a8e3376c58bb74ae2727cd3"), looks := false }, kinds := [], alts := [], laidByText := true, laidKinds := [.data], laidTests := true, laidLooks := .later }
def DivOneUptoCardSaid : Prop := Claim7.holds Tryd.pinned (.plain (OpenSpec.upto divOneSpec)) divOneUptoCard

/-- THE SECOND FORM's CARD OF 'hairsbreadthlaw21.DivSpecial'. -/
def divSpecialUptoCard : Claim7 := { stood := { row := divSpecialUptoRow, standIns := [], harness := (true, "b7d7084ee25aeac9a7dc6497c4ea23997c896cdd0a8e3376c58bb74ae2727cd3"), looks := false }, kinds := [], alts := [], laidByText := true, laidKinds := [.data], laidTests := true, laidLooks := .later }
def DivSpecialUptoCardSaid : Prop := Claim7.holds Tryd.pinned (.plain (OpenSpec.upto divSpecialSpec)) divSpecialUptoCard

/-- THE SECOND FORM's CARD OF 'hairsbreadthlaw21.DivKnown'. -/
def divKnownUptoCard : Claim7 := { stood := { row := divKnownUptoRow, standIns := [], harness := (true, "b7d7084ee25aeac9a7dc6497c4ea23997c896cdd0a8e3376c58bb74ae2727cd3"), looks := false }, kinds := [], alts := [], laidByText := true, laidKinds := [.data], laidTests := true, laidLooks := .later }
def DivKnownUptoCardSaid : Prop := Claim7.holds Tryd.pinned (.plain (OpenSpec.upto divKnownSpec)) divKnownUptoCard

/-- THE SECOND FORM's CARD OF 'hairsbreadthlaw21.DivTurn'. -/
def divTurnUptoCard : Claim7 := { stood := { row := divTurnUptoRow, standIns := [], harness := (true, "b7d7084ee25aeac9a7dc6497c4ea23997c896cdd0a8e3376c58bb74ae2727cd3"), looks := false }, kinds := [], alts := [], laidByText := true, laidKinds := [.data], laidTests := true, laidLooks := .later }
def DivTurnUptoCardSaid : Prop := Claim7.holds Tryd.pinned (.plain (OpenSpec.upto divTurnSpec)) divTurnUptoCard

/-- THE SECOND FORM's CARD OF 'hairsbreadthlaw22.SqrtOrder'. -/
def sqrtOrderUptoCard : Claim7 := { stood := { row := sqrtOrderUptoRow, standIns := [], harness := (true, "b7d7084ee25aeac9a7dc6497c4ea23997c896cdd0a8e3376c58bb74ae2727cd3"), looks := false }, kinds := [], alts := [], laidByText := true, laidKinds := [.data], laidTests := true, laidLooks := .later }
def SqrtOrderUptoCardSaid : Prop := Claim7.holds Tryd.pinned (.plain (OpenSpec.upto sqrtOrderSpec)) sqrtOrderUptoCard

/-- THE SECOND FORM's CARD OF 'hairsbreadthlaw22.SqrtNegative'. -/
def sqrtNegativeUptoCard : Claim7 := { stood := { row := sqrtNegativeUptoRow, standIns := [], harness := (true, "b7d7084ee25aeac9a7dc6497c4ea23997c896cdd0a8e3376c58bb74ae2727cd3"), looks := false }, kinds := [], alts := [], laidByText := true, laidKinds := [.data], laidTests := true, laidLooks := .later }
def SqrtNegativeUptoCardSaid : Prop := Claim7.holds Tryd.pinned (.plain (OpenSpec.upto sqrtNegativeSpec)) sqrtNegativeUptoCard

/-- THE SECOND FORM's CARD OF 'hairsbreadthlaw22.SqrtKnown'. -/
def sqrtKnownUptoCard : Claim7 := { stood := { row := sqrtKnownUptoRow, standIns := [], harness := (true, "b7d7084ee25aeac9a7dc6497c4ea23997c896cdd0a8e3376c58bb74ae2727cd3"), looks := false }, kinds := [], alts := [], laidByText := true, laidKinds := [.data], laidTests := true, laidLooks := .later }
def SqrtKnownUptoCardSaid : Prop := Claim7.holds Tryd.pinned (.plain (OpenSpec.upto sqrtKnownSpec)) sqrtKnownUptoCard

/-- THE SECOND FORM's CARD OF 'hairsbreadthlaw23.RemSpecial'. -/
def remSpecialUptoCard : Claim7 := { stood := { row := remSpecialUptoRow, standIns := [], harness := (true, "b7d7084ee25aeac9a7dc6497c4ea23997c896cdd0a8e3376c58bb74ae2727cd3"), looks := false }, kinds := [], alts := [], laidByText := true, laidKinds := [.data], laidTests := true, laidLooks := .later }
def RemSpecialUptoCardSaid : Prop := Claim7.holds Tryd.pinned (.plain (OpenSpec.upto remSpecialSpec)) remSpecialUptoCard

/-- THE SECOND FORM's CARD OF 'hairsbreadthlaw23.RemKnown'. -/
def remKnownUptoCard : Claim7 := { stood := { row := remKnownUptoRow, standIns := [], harness := (true, "b7d7084ee25aeac9a7dc6497c4ea23997c896cdd0a8e3376c58bb74ae2727cd3"), looks := false }, kinds := [], alts := [], laidByText := true, laidKinds := [.data], laidTests := true, laidLooks := .later }
def RemKnownUptoCardSaid : Prop := Claim7.holds Tryd.pinned (.plain (OpenSpec.upto remKnownSpec)) remKnownUptoCard
end Rows
end Go.Proofs.YtgbdemipeoboeaaDoor
