/-
  DERIVED. GIVEN WITH THE SEED: THE CARDS: each row of YtngiodcdelfdmaaGreatDoorRows.lean that lists a variable, with what it lists TIED to the program's text (the seventh form; the later family's looks); each row that meets fmt, with fmt's text TOLD by the authors' own Lean function (tested against real Go, not proved from fmt's source: count such statements apart). THE CARD IS WHAT COUNTS. Prove the row's statement (the work); the ties are given (YtngiodcdelfdmaaGreatDoorTie.lean); close each card by the builder's one call (the guide's Derived/Test/ToyasCard.lean, 'card_holds'). Laid BY PROGRAM, IN A SANDBOX (cutbox-door.mjs). By AI agents, Wed Nov 11 2026. No macro, syntax, notation, axiom, sorry.
-/
import Derived.Test.YtngiodcdelfdmaaGreatDoorRows
import GoSem.ClaimSeven
namespace Go.Proofs.YtngiodcdelfdmaaGreatDoor
namespace Rows

/-- THE TIED CARD OF 'hairsbreadthlaw25.ConvAll'. -/
def convAllCard : Claim7 := { stood := { row := convAllRow, standIns := [], harness := (true, "4d899eedff4f872587e640449f9eae106149ea39a9674b04290355383a746ff7"), looks := false }, kinds := [], alts := [], laidByText := true, laidKinds := [.data], laidTests := true, laidLooks := .later }
def ConvAllCardSaid : Prop := Claim7.holds Tryz.pinned (.plain (OpenSpec.ofChange convAllSpec)) convAllCard

/-- THE TIED CARD OF 'hairsbreadthlaw19.MulAll'. -/
def mulAllCard : Claim7 := { stood := { row := mulAllRow, standIns := [], harness := (true, "4d899eedff4f872587e640449f9eae106149ea39a9674b04290355383a746ff7"), looks := false }, kinds := [], alts := [], laidByText := true, laidKinds := [.data], laidTests := true, laidLooks := .later }
def MulAllCardSaid : Prop := Claim7.holds Tryz.pinned (.plain (OpenSpec.ofChange mulAllSpec)) mulAllCard

/-- THE TIED CARD OF 'hairsbreadthlaw19.MulTerms'. -/
def mulTermsCard : Claim7 := { stood := { row := mulTermsRow, standIns := [], harness := (true, "4d899eedff4f872587e640449f9eae106149ea39a9674b04290355383a746ff7"), looks := false }, kinds := [], alts := [], laidByText := true, laidKinds := [.data], laidTests := true, laidLooks := .later }
def MulTermsCardSaid : Prop := Claim7.holds Tryz.pinned (.plain (OpenSpec.ofChange mulTermsSpec)) mulTermsCard

/-- THE TIED CARD OF 'hairsbreadthlaw21.DivAll'. -/
def divAllCard : Claim7 := { stood := { row := divAllRow, standIns := [], harness := (true, "4d899eedff4f872587e640449f9eae106149ea39a9674b04290355383a746ff7"), looks := false }, kinds := [], alts := [], laidByText := true, laidKinds := [.data], laidTests := true, laidLooks := .later }
def DivAllCardSaid : Prop := Claim7.holds Tryz.pinned (.plain (OpenSpec.ofChange divAllSpec)) divAllCard

/-- THE TIED CARD OF 'hairsbreadthlaw22.SqrtAll'. -/
def sqrtAllCard : Claim7 := { stood := { row := sqrtAllRow, standIns := [], harness := (true, "4d899eedff4f872587e640449f9eae106149ea39a9674b04290355383a746ff7"), looks := false }, kinds := [], alts := [], laidByText := true, laidKinds := [.data], laidTests := true, laidLooks := .later }
def SqrtAllCardSaid : Prop := Claim7.holds Tryz.pinned (.plain (OpenSpec.ofChange sqrtAllSpec)) sqrtAllCard

/-- THE TIED CARD OF 'hairsbreadthlaw23.RemAll'. -/
def remAllCard : Claim7 := { stood := { row := remAllRow, standIns := [], harness := (true, "4d899eedff4f872587e640449f9eae106149ea39a9674b04290355383a746ff7"), looks := false }, kinds := [], alts := [], laidByText := true, laidKinds := [.data], laidTests := true, laidLooks := .later }
def RemAllCardSaid : Prop := Claim7.holds Tryz.pinned (.plain (OpenSpec.ofChange remAllSpec)) remAllCard

/-- THE TIED CARD OF 'hairsbreadthlaw21.DivPowers'. -/
def divPowersCard : Claim7 := { stood := { row := divPowersRow, standIns := [], harness := (true, "4d899eedff4f872587e640449f9eae106149ea39a9674b04290355383a746ff7"), looks := false }, kinds := [], alts := [], laidByText := true, laidKinds := [.data], laidTests := true, laidLooks := .later }
def DivPowersCardSaid : Prop := Claim7.holds Tryz.pinned (.plain (OpenSpec.ofChange divPowersSpec)) divPowersCard

/-- THE TIED CARD OF 'hairsbreadthlaw20.FmaAll'. -/
def fmaAllCard : Claim7 := { stood := { row := fmaAllRow, standIns := [], harness := (true, "4d899eedff4f872587e640449f9eae106149ea39a9674b04290355383a746ff7"), looks := false }, kinds := [], alts := [], laidByText := true, laidKinds := [.data], laidTests := true, laidLooks := .later }
def FmaAllCardSaid : Prop := Claim7.holds Tryz.pinned (.plain (OpenSpec.ofChange fmaAllSpec)) fmaAllCard

/-- THE TIED CARD OF 'hairsbreadthlaw21.DivBack'. -/
def divBackCard : Claim7 := { stood := { row := divBackRow, standIns := [], harness := (true, "4d899eedff4f872587e640449f9eae106149ea39a9674b04290355383a746ff7"), looks := false }, kinds := [], alts := [], laidByText := true, laidKinds := [.data], laidTests := true, laidLooks := .later }
def DivBackCardSaid : Prop := Claim7.holds Tryz.pinned (.plain (OpenSpec.ofChange divBackSpec)) divBackCard

/-- THE TIED CARD OF 'hairsbreadthlaw25.ConvDouble'. -/
def convDoubleCard : Claim7 := { stood := { row := convDoubleRow, standIns := [], harness := (true, "4d899eedff4f872587e640449f9eae106149ea39a9674b04290355383a746ff7"), looks := false }, kinds := [], alts := [], laidByText := true, laidKinds := [.data], laidTests := true, laidLooks := .later }
def ConvDoubleCardSaid : Prop := Claim7.holds Tryz.pinned (.plain (OpenSpec.ofChange convDoubleSpec)) convDoubleCard

/-- THE SECOND FORM's CARD OF 'hairsbreadthlaw25.ConvAll'. -/
def convAllUptoCard : Claim7 := { stood := { row := convAllUptoRow, standIns := [], harness := (true, "4d899eedff4f872587e640449f9eae106149ea39a9674b04290355383a746ff7"), looks := false }, kinds := [], alts := [], laidByText := true, laidKinds := [.data], laidTests := true, laidLooks := .later }
def ConvAllUptoCardSaid : Prop := Claim7.holds Tryz.pinned (.plain (OpenSpec.upto convAllSpec)) convAllUptoCard

/-- THE SECOND FORM's CARD OF 'hairsbreadthlaw19.MulAll'. -/
def mulAllUptoCard : Claim7 := { stood := { row := mulAllUptoRow, standIns := [], harness := (true, "4d899eedff4f872587e640449f9eae106149ea39a9674b04290355383a746ff7"), looks := false }, kinds := [], alts := [], laidByText := true, laidKinds := [.data], laidTests := true, laidLooks := .later }
def MulAllUptoCardSaid : Prop := Claim7.holds Tryz.pinned (.plain (OpenSpec.upto mulAllSpec)) mulAllUptoCard

/-- THE SECOND FORM's CARD OF 'hairsbreadthlaw19.MulTerms'. -/
def mulTermsUptoCard : Claim7 := { stood := { row := mulTermsUptoRow, standIns := [], harness := (true, "4d899eedff4f872587e640449f9eae106149ea39a9674b04290355383a746ff7"), looks := false }, kinds := [], alts := [], laidByText := true, laidKinds := [.data], laidTests := true, laidLooks := .later }
def MulTermsUptoCardSaid : Prop := Claim7.holds Tryz.pinned (.plain (OpenSpec.upto mulTermsSpec)) mulTermsUptoCard

/-- THE SECOND FORM's CARD OF 'hairsbreadthlaw21.DivAll'. -/
def divAllUptoCard : Claim7 := { stood := { row := divAllUptoRow, standIns := [], harness := (true, "4d899eedff4f872587e640449f9eae106149ea39a9674b04290355383a746ff7"), looks := false }, kinds := [], alts := [], laidByText := true, laidKinds := [.data], laidTests := true, laidLooks := .later }
def DivAllUptoCardSaid : Prop := Claim7.holds Tryz.pinned (.plain (OpenSpec.upto divAllSpec)) divAllUptoCard

/-- THE SECOND FORM's CARD OF 'hairsbreadthlaw22.SqrtAll'. -/
def sqrtAllUptoCard : Claim7 := { stood := { row := sqrtAllUptoRow, standIns := [], harness := (true, "4d899eedff4f872587e640449f9eae106149ea39a9674b04290355383a746ff7"), looks := false }, kinds := [], alts := [], laidByText := true, laidKinds := [.data], laidTests := true, laidLooks := .later }
def SqrtAllUptoCardSaid : Prop := Claim7.holds Tryz.pinned (.plain (OpenSpec.upto sqrtAllSpec)) sqrtAllUptoCard

/-- THE SECOND FORM's CARD OF 'hairsbreadthlaw23.RemAll'. -/
def remAllUptoCard : Claim7 := { stood := { row := remAllUptoRow, standIns := [], harness := (true, "4d899eedff4f872587e640449f9eae106149ea39a9674b04290355383a746ff7"), looks := false }, kinds := [], alts := [], laidByText := true, laidKinds := [.data], laidTests := true, laidLooks := .later }
def RemAllUptoCardSaid : Prop := Claim7.holds Tryz.pinned (.plain (OpenSpec.upto remAllSpec)) remAllUptoCard

/-- THE SECOND FORM's CARD OF 'hairsbreadthlaw21.DivPowers'. -/
def divPowersUptoCard : Claim7 := { stood := { row := divPowersUptoRow, standIns := [], harness := (true, "4d899eedff4f872587e640449f9eae106149ea39a9674b04290355383a746ff7"), looks := false }, kinds := [], alts := [], laidByText := true, laidKinds := [.data], laidTests := true, laidLooks := .later }
def DivPowersUptoCardSaid : Prop := Claim7.holds Tryz.pinned (.plain (OpenSpec.upto divPowersSpec)) divPowersUptoCard

/-- THE SECOND FORM's CARD OF 'hairsbreadthlaw20.FmaAll'. -/
def fmaAllUptoCard : Claim7 := { stood := { row := fmaAllUptoRow, standIns := [], harness := (true, "4d899eedff4f872587e640449f9eae106149ea39a9674b04290355383a746ff7"), looks := false }, kinds := [], alts := [], laidByText := true, laidKinds := [.data], laidTests := true, laidLooks := .later }
def FmaAllUptoCardSaid : Prop := Claim7.holds Tryz.pinned (.plain (OpenSpec.upto fmaAllSpec)) fmaAllUptoCard

/-- THE SECOND FORM's CARD OF 'hairsbreadthlaw21.DivBack'. -/
def divBackUptoCard : Claim7 := { stood := { row := divBackUptoRow, standIns := [], harness := (true, "4d899eedff4f872587e640449f9eae106149ea39a9674b04290355383a746ff7"), looks := false }, kinds := [], alts := [], laidByText := true, laidKinds := [.data], laidTests := true, laidLooks := .later }
def DivBackUptoCardSaid : Prop := Claim7.holds Tryz.pinned (.plain (OpenSpec.upto divBackSpec)) divBackUptoCard

/-- THE SECOND FORM's CARD OF 'hairsbreadthlaw25.ConvDouble'. -/
def convDoubleUptoCard : Claim7 := { stood := { row := convDoubleUptoRow, standIns := [], harness := (true, "4d899eedff4f872587e640449f9eae106149ea39a9674b04290355383a746ff7"), looks := false }, kinds := [], alts := [], laidByText := true, laidKinds := [.data], laidTests := true, laidLooks := .later }
def ConvDoubleUptoCardSaid : Prop := Claim7.holds Tryz.pinned (.plain (OpenSpec.upto convDoubleSpec)) convDoubleUptoCard
end Rows
end Go.Proofs.YtngiodcdelfdmaaGreatDoor
