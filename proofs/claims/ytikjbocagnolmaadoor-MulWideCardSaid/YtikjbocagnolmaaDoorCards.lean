/-
  DERIVED. GIVEN WITH THE SEED: THE CARDS: each row of YtikjbocagnolmaaDoorRows.lean that lists a variable, with what it lists TIED to the program's text (the seventh form; the later family's looks); each row that meets fmt, with fmt's text TOLD by the authors' own Lean function (tested against real Go, not proved from fmt's source: count such statements apart). THE CARD IS WHAT COUNTS. Prove the row's statement (the work); the ties are given (YtikjbocagnolmaaDoorTie.lean); close each card by the builder's one call (the guide's Derived/Test/ToyasCard.lean, 'card_holds'). Laid BY PROGRAM, IN A SANDBOX (cutbox-door.mjs). By AI agents, Wed Nov 11 2026. No macro, syntax, notation, axiom, sorry.
-/
import Derived.Test.YtikjbocagnolmaaDoorRows
import GoSem.ClaimSeven
namespace Go.Proofs.YtikjbocagnolmaaDoor
namespace Rows

/-- THE TIED CARD OF 'hairsbreadthlaw25.ConvBack'. -/
def convBackCard : Claim7 := { stood := { row := convBackRow, standIns := [], harness := (true, "432fb0fd2245206525dd590d1f3ef6c1f624b1b3a61d98f65d60bfa2a90895d0"), looks := false }, kinds := [], alts := [], laidByText := true, laidKinds := [.data], laidTests := true, laidLooks := .later }
def ConvBackCardSaid : Prop := Claim7.holds Tryd.pinned (.plain (OpenSpec.ofChange convBackSpec)) convBackCard

/-- THE TIED CARD OF 'hairsbreadthlaw25.ConvOn'. -/
def convOnCard : Claim7 := { stood := { row := convOnRow, standIns := [], harness := (true, "432fb0fd2245206525dd590d1f3ef6c1f624b1b3a61d98f65d60bfa2a90895d0"), looks := false }, kinds := [], alts := [], laidByText := true, laidKinds := [.data], laidTests := true, laidLooks := .later }
def ConvOnCardSaid : Prop := Claim7.holds Tryd.pinned (.plain (OpenSpec.ofChange convOnSpec)) convOnCard

/-- THE TIED CARD OF 'hairsbreadthlaw25.ConvKnown'. -/
def convKnownCard : Claim7 := { stood := { row := convKnownRow, standIns := [], harness := (true, "432fb0fd2245206525dd590d1f3ef6c1f624b1b3a61d98f65d60bfa2a90895d0"), looks := false }, kinds := [], alts := [], laidByText := true, laidKinds := [.data], laidTests := true, laidLooks := .later }
def ConvKnownCardSaid : Prop := Claim7.holds Tryd.pinned (.plain (OpenSpec.ofChange convKnownSpec)) convKnownCard

/-- THE TIED CARD OF 'hairsbreadthlaw25.ConvTurn'. -/
def convTurnCard : Claim7 := { stood := { row := convTurnRow, standIns := [], harness := (true, "432fb0fd2245206525dd590d1f3ef6c1f624b1b3a61d98f65d60bfa2a90895d0"), looks := false }, kinds := [], alts := [], laidByText := true, laidKinds := [.data], laidTests := true, laidLooks := .later }
def ConvTurnCardSaid : Prop := Claim7.holds Tryd.pinned (.plain (OpenSpec.ofChange convTurnSpec)) convTurnCard

/-- THE TIED CARD OF 'hairsbreadthlaw19.MulOrder'. -/
def mulOrderCard : Claim7 := { stood := { row := mulOrderRow, standIns := [], harness := (true, "432fb0fd2245206525dd590d1f3ef6c1f624b1b3a61d98f65d60bfa2a90895d0"), looks := false }, kinds := [], alts := [], laidByText := true, laidKinds := [.data], laidTests := true, laidLooks := .later }
def MulOrderCardSaid : Prop := Claim7.holds Tryd.pinned (.plain (OpenSpec.ofChange mulOrderSpec)) mulOrderCard

/-- THE TIED CARD OF 'hairsbreadthlaw19.MulSpecial'. -/
def mulSpecialCard : Claim7 := { stood := { row := mulSpecialRow, standIns := [], harness := (true, "432fb0fd2245206525dd590d1f3ef6c1f624b1b3a61d98f65d60bfa2a90895d0"), looks := false }, kinds := [], alts := [], laidByText := true, laidKinds := [.data], laidTests := true, laidLooks := .later }
def MulSpecialCardSaid : Prop := Claim7.holds Tryd.pinned (.plain (OpenSpec.ofChange mulSpecialSpec)) mulSpecialCard

/-- THE TIED CARD OF 'hairsbreadthlaw19.MulKnown'. -/
def mulKnownCard : Claim7 := { stood := { row := mulKnownRow, standIns := [], harness := (true, "432fb0fd2245206525dd590d1f3ef6c1f624b1b3a61d98f65d60bfa2a90895d0"), looks := false }, kinds := [], alts := [], laidByText := true, laidKinds := [.data], laidTests := true, laidLooks := .later }
def MulKnownCardSaid : Prop := Claim7.holds Tryd.pinned (.plain (OpenSpec.ofChange mulKnownSpec)) mulKnownCard

/-- THE TIED CARD OF 'hairsbreadthlaw21.DivOne'. -/
def divOneCard : Claim7 := { stood := { row := divOneRow, standIns := [], harness := (true, "432fb0fd2245206525dd590d1f3ef6c1f624b1b3a61d98f65d60bfa2a90895d0"), looks := false }, kinds := [], alts := [], laidByText := true, laidKinds := [.data], laidTests := true, laidLooks := .later }
def DivOneCardSaid : Prop := Claim7.holds Tryd.pinned (.plain (OpenSpec.ofChange divOneSpec)) divOneCard

/-- THE TIED CARD OF 'hairsbreadthlaw21.DivSpecial'. -/
def divSpecialCard : Claim7 := { stood := { row := divSpecialRow, standIns := [], harness := (true, "432fb0fd2245206525dd590d1f3ef6c1f624b1b3a61d98f65d60bfa2a90895d0"), looks := false }, kinds := [], alts := [], laidByText := true, laidKinds := [.data], laidTests := true, laidLooks := .later }
def DivSpecialCardSaid : Prop := Claim7.holds Tryd.pinned (.plain (OpenSpec.ofChange divSpecialSpec)) divSpecialCard

/-- THE TIED CARD OF 'hairsbreadthlaw21.DivKnown'. -/
def divKnownCard : Claim7 := { stood := { row := divKnownRow, standIns := [], harness := (true, "432fb0fd2245206525dd590d1f3ef6c1f624b1b3a61d98f65d60bfa2a90895d0"), looks := false }, kinds := [], alts := [], laidByText := true, laidKinds := [.data], laidTests := true, laidLooks := .later }
def DivKnownCardSaid : Prop := Claim7.holds Tryd.pinned (.plain (OpenSpec.ofChange divKnownSpec)) divKnownCard

/-- THE TIED CARD OF 'hairsbreadthlaw19.MulTurn'. -/
def mulTurnCard : Claim7 := { stood := { row := mulTurnRow, standIns := [], harness := (true, "432fb0fd2245206525dd590d1f3ef6c1f624b1b3a61d98f65d60bfa2a90895d0"), looks := false }, kinds := [], alts := [], laidByText := true, laidKinds := [.data], laidTests := true, laidLooks := .later }
def MulTurnCardSaid : Prop := Claim7.holds Tryd.pinned (.plain (OpenSpec.ofChange mulTurnSpec)) mulTurnCard

/-- THE TIED CARD OF 'hairsbreadthlaw21.DivTurn'. -/
def divTurnCard : Claim7 := { stood := { row := divTurnRow, standIns := [], harness := (true, "432fb0fd2245206525dd590d1f3ef6c1f624b1b3a61d98f65d60bfa2a90895d0"), looks := false }, kinds := [], alts := [], laidByText := true, laidKinds := [.data], laidTests := true, laidLooks := .later }
def DivTurnCardSaid : Prop := Claim7.holds Tryd.pinned (.plain (OpenSpec.ofChange divTurnSpec)) divTurnCard

/-- THE TIED CARD OF 'hairsbreadthlaw19.MulWide'. -/
def mulWideCard : Claim7 := { stood := { row := mulWideRow, standIns := [], harness := (true, "432fb0fd2245206525dd590d1f3ef6c1f624b1b3a61d98f65d60bfa2a90895d0"), looks := false }, kinds := [], alts := [], laidByText := true, laidKinds := [.data], laidTests := true, laidLooks := .later }
def MulWideCardSaid : Prop := Claim7.holds Tryd.pinned (.plain (OpenSpec.ofChange mulWideSpec)) mulWideCard

/-- THE SECOND FORM's CARD OF 'hairsbreadthlaw25.ConvBack'. -/
def convBackUptoCard : Claim7 := { stood := { row := convBackUptoRow, standIns := [], harness := (true, "432fb0fd2245206525dd590d1f3ef6c1f624b1b3a61d98f65d60bfa2a90895d0"), looks := false }, kinds := [], alts := [], laidByText := true, laidKinds := [.data], laidTests := true, laidLooks := .later }
def ConvBackUptoCardSaid : Prop := Claim7.holds Tryd.pinned (.plain (OpenSpec.upto convBackSpec)) convBackUptoCard

/-- THE SECOND FORM's CARD OF 'hairsbreadthlaw25.ConvOn'. -/
def convOnUptoCard : Claim7 := { stood := { row := convOnUptoRow, standIns := [], harness := (true, "432fb0fd2245206525dd590d1f3ef6c1f624b1b3a61d98f65d60bfa2a90895d0"), looks := false }, kinds := [], alts := [], laidByText := true, laidKinds := [.data], laidTests := true, laidLooks := .later }
def ConvOnUptoCardSaid : Prop := Claim7.holds Tryd.pinned (.plain (OpenSpec.upto convOnSpec)) convOnUptoCard

/-- THE SECOND FORM's CARD OF 'hairsbreadthlaw25.ConvKnown'. -/
def convKnownUptoCard : Claim7 := { stood := { row := convKnownUptoRow, standIns := [], harness := (true, "432fb0fd2245206525dd590d1f3ef6c1f624b1b3a61d98f65d60bfa2a90895d0"), looks := false }, kinds := [], alts := [], laidByText := true, laidKinds := [.data], laidTests := true, laidLooks := .later }
def ConvKnownUptoCardSaid : Prop := Claim7.holds Tryd.pinned (.plain (OpenSpec.upto convKnownSpec)) convKnownUptoCard

/-- THE SECOND FORM's CARD OF 'hairsbreadthlaw25.ConvTurn'. -/
def convTurnUptoCard : Claim7 := { stood := { row := convTurnUptoRow, standIns := [], harness := (true, "432fb0fd2245206525dd590d1f3ef6c1f624b1b3a61d98f65d60bfa2a90895d0"), looks := false }, kinds := [], alts := [], laidByText := true, laidKinds := [.data], laidTests := true, laidLooks := .later }
def ConvTurnUptoCardSaid : Prop := Claim7.holds Tryd.pinned (.plain (OpenSpec.upto convTurnSpec)) convTurnUptoCard

/-- THE SECOND FORM's CARD OF 'hairsbreadthlaw19.MulOrder'. -/
def mulOrderUptoCard : Claim7 := { stood := { row := mulOrderUptoRow, standIns := [], harness := (true, "432fb0fd2245206525dd590d1f3ef6c1f624b1b3a61d98f65d60bfa2a90895d0"), looks := false }, kinds := [], alts := [], laidByText := true, laidKinds := [.data], laidTests := true, laidLooks := .later }
def MulOrderUptoCardSaid : Prop := Claim7.holds Tryd.pinned (.plain (OpenSpec.upto mulOrderSpec)) mulOrderUptoCard

/-- THE SECOND FORM's CARD OF 'hairsbreadthlaw19.MulSpecial'. -/
def mulSpecialUptoCard : Claim7 := { stood := { row := mulSpecialUptoRow, standIns := [], harness := (true, "432fb0fd2245206525dd590d1f3ef6c1f624b1b3a61d98f65d60bfa2a90895d0"), looks := false }, kinds := [], alts := [], laidByText := true, laidKinds := [.data], laidTests := true, laidLooks := .later }
def MulSpecialUptoCardSaid : Prop := Claim7.holds Tryd.pinned (.plain (OpenSpec.upto mulSpecialSpec)) mulSpecialUptoCard

/-- THE SECOND FORM's CARD OF 'hairsbreadthlaw19.MulKnown'. -/
def mulKnownUptoCard : Claim7 := { stood := { row := mulKnownUptoRow, standIns := [], harness := (true, "432fb0fd2245206525dd590d1f3ef6c1f624b1b3a61d98f65d60bfa2a90895d0"), looks := false }, kinds := [], alts := [], laidByText := true, laidKinds := [.data], laidTests := true, laidLooks := .later }
def MulKnownUptoCardSaid : Prop := Claim7.holds Tryd.pinned (.plain (OpenSpec.upto mulKnownSpec)) mulKnownUptoCard

/-- THE SECOND FORM's CARD OF 'hairsbreadthlaw21.DivOne'. -/
def divOneUptoCard : Claim7 := { stood := { row := divOneUptoRow, standIns := [], harness := (true, "432fb0fd2245206525dd590d1f3ef6c1f624b1b3a61d98f65d60bfa2a90895d0"), looks := false }, kinds := [], alts := [], laidByText := true, laidKinds := [.data], laidTests := true, laidLooks := .later }
def DivOneUptoCardSaid : Prop := Claim7.holds Tryd.pinned (.plain (OpenSpec.upto divOneSpec)) divOneUptoCard

/-- THE SECOND FORM's CARD OF 'hairsbreadthlaw21.DivSpecial'. -/
def divSpecialUptoCard : Claim7 := { stood := { row := divSpecialUptoRow, standIns := [], harness := (true, "432fb0fd2245206525dd590d1f3ef6c1f624b1b3a61d98f65d60bfa2a90895d0"), looks := false }, kinds := [], alts := [], laidByText := true, laidKinds := [.data], laidTests := true, laidLooks := .later }
def DivSpecialUptoCardSaid : Prop := Claim7.holds Tryd.pinned (.plain (OpenSpec.upto divSpecialSpec)) divSpecialUptoCard

/-- THE SECOND FORM's CARD OF 'hairsbreadthlaw21.DivKnown'. -/
def divKnownUptoCard : Claim7 := { stood := { row := divKnownUptoRow, standIns := [], harness := (true, "432fb0fd2245206525dd590d1f3ef6c1f624b1b3a61d98f65d60bfa2a90895d0"), looks := false }, kinds := [], alts := [], laidByText := true, laidKinds := [.data], laidTests := true, laidLooks := .later }
def DivKnownUptoCardSaid : Prop := Claim7.holds Tryd.pinned (.plain (OpenSpec.upto divKnownSpec)) divKnownUptoCard

/-- THE SECOND FORM's CARD OF 'hairsbreadthlaw19.MulTurn'. -/
def mulTurnUptoCard : Claim7 := { stood := { row := mulTurnUptoRow, standIns := [], harness := (true, "432fb0fd2245206525dd590d1f3ef6c1f624b1b3a61d98f65d60bfa2a90895d0"), looks := false }, kinds := [], alts := [], laidByText := true, laidKinds := [.data], laidTests := true, laidLooks := .later }
def MulTurnUptoCardSaid : Prop := Claim7.holds Tryd.pinned (.plain (OpenSpec.upto mulTurnSpec)) mulTurnUptoCard

/-- THE SECOND FORM's CARD OF 'hairsbreadthlaw21.DivTurn'. -/
def divTurnUptoCard : Claim7 := { stood := { row := divTurnUptoRow, standIns := [], harness := (true, "432fb0fd2245206525dd590d1f3ef6c1f624b1b3a61d98f65d60bfa2a90895d0"), looks := false }, kinds := [], alts := [], laidByText := true, laidKinds := [.data], laidTests := true, laidLooks := .later }
def DivTurnUptoCardSaid : Prop := Claim7.holds Tryd.pinned (.plain (OpenSpec.upto divTurnSpec)) divTurnUptoCard

/-- THE SECOND FORM's CARD OF 'hairsbreadthlaw19.MulWide'. -/
def mulWideUptoCard : Claim7 := { stood := { row := mulWideUptoRow, standIns := [], harness := (true, "432fb0fd2245206525dd590d1f3ef6c1f624b1b3a61d98f65d60bfa2a90895d0"), looks := false }, kinds := [], alts := [], laidByText := true, laidKinds := [.data], laidTests := true, laidLooks := .later }
def MulWideUptoCardSaid : Prop := Claim7.holds Tryd.pinned (.plain (OpenSpec.upto mulWideSpec)) mulWideUptoCard
end Rows
end Go.Proofs.YtikjbocagnolmaaDoor
