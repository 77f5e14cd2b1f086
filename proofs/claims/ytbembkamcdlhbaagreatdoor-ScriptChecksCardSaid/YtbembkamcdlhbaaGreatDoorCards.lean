/-
  DERIVED. GIVEN WITH THE SEED: THE CARDS: each row of YtbembkamcdlhbaaGreatDoorRows.lean that lists a variable, with what it lists TIED to the program's text (the seventh form; the later family's looks); each row that meets fmt, with fmt's text TOLD by the authors' own Lean function (tested against real Go, not proved from fmt's source: count such statements apart). THE CARD IS WHAT COUNTS. Prove the row's statement (the work); the ties are given (YtbembkamcdlhbaaGreatDoorTie.lean); close each card by the builder's one call (the guide's Derived/Test/ToyasCard.lean, 'card_holds'). Laid BY PROGRAM, IN A SANDBOX (cutbox-door.mjs). By AI agents, Wed Nov 11 2026. No macro, syntax, notation, axiom, sorry.
-/
import Derived.Test.YtbembkamcdlhbaaGreatDoorRows
import GoSem.ClaimSeven
namespace Go.Proofs.YtbembkamcdlhbaaGreatDoor
namespace Rows

/-- THE TIED CARD OF 'hairsbreadthlaw29.TableKeeps'. -/
def tableKeepsCard : Claim7 := { stood := { row := tableKeepsRow, standIns := [], harness := (true, "36cf923a36fec8ea6ea9b802b65ab8cfe1b0a00038de914b97856a614ccbdbbe"), looks := true }, kinds := [], alts := [], laidByText := true, laidKinds := [.data, .data], laidTests := true, laidLooks := .later }
def TableKeepsCardSaid : Prop := Claim7.holds Tryz.pinned (.plain (OpenSpec.ofChange tableKeepsSpec)) tableKeepsCard

/-- THE TIED CARD OF 'hairsbreadthlaw29.TableRuns'. -/
def tableRunsCard : Claim7 := { stood := { row := tableRunsRow, standIns := [], harness := (true, "36cf923a36fec8ea6ea9b802b65ab8cfe1b0a00038de914b97856a614ccbdbbe"), looks := true }, kinds := [], alts := [], laidByText := true, laidKinds := [.data, .data], laidTests := true, laidLooks := .later }
def TableRunsCardSaid : Prop := Claim7.holds Tryz.pinned (.plain (OpenSpec.ofChange tableRunsSpec)) tableRunsCard

/-- THE TIED CARD OF 'hairsbreadthtop.TopNearest'. -/
def topNearestCard : Claim7 := { stood := { row := topNearestRow, standIns := [], harness := (true, "36cf923a36fec8ea6ea9b802b65ab8cfe1b0a00038de914b97856a614ccbdbbe"), looks := true }, kinds := [], alts := [], laidByText := true, laidKinds := [.data, .data, .data, .data, .data, .data, .data, .pinned], laidTests := true, laidLooks := .later }
def TopNearestCardSaid : Prop := Claim7.holds Tryz.pinned (.plain (OpenSpec.ofChange topNearestSpec)) topNearestCard

/-- THE TIED CARD OF 'hairsbreadthtop.TopRem'. -/
def topRemCard : Claim7 := { stood := { row := topRemRow, standIns := [], harness := (true, "36cf923a36fec8ea6ea9b802b65ab8cfe1b0a00038de914b97856a614ccbdbbe"), looks := true }, kinds := [], alts := [], laidByText := true, laidKinds := [.data, .data, .data, .data, .data, .data, .data, .pinned], laidTests := true, laidLooks := .later }
def TopRemCardSaid : Prop := Claim7.holds Tryz.pinned (.plain (OpenSpec.ofChange topRemSpec)) topRemCard

/-- THE TIED CARD OF 'hairsbreadthlaw30.ScriptRuns'. -/
def scriptRunsCard : Claim7 := { stood := { row := scriptRunsRow, standIns := [], harness := (true, "36cf923a36fec8ea6ea9b802b65ab8cfe1b0a00038de914b97856a614ccbdbbe"), looks := true }, kinds := [], alts := [], laidByText := true, laidKinds := [.data, .data, .data, .data, .data, .data, .data, .pinned], laidTests := true, laidLooks := .later }
def ScriptRunsCardSaid : Prop := Claim7.holds Tryz.pinned (.plain (OpenSpec.ofChange scriptRunsSpec)) scriptRunsCard

/-- THE TIED CARD OF 'hairsbreadthlaw30.ScriptTail'. -/
def scriptTailCard : Claim7 := { stood := { row := scriptTailRow, standIns := [], harness := (true, "36cf923a36fec8ea6ea9b802b65ab8cfe1b0a00038de914b97856a614ccbdbbe"), looks := true }, kinds := [], alts := [], laidByText := true, laidKinds := [.data, .data, .data, .data, .data, .data, .data, .pinned], laidTests := true, laidLooks := .later }
def ScriptTailCardSaid : Prop := Claim7.holds Tryz.pinned (.plain (OpenSpec.ofChange scriptTailSpec)) scriptTailCard

/-- THE TIED CARD OF 'hairsbreadthlaw30.ScriptBlank'. -/
def scriptBlankCard : Claim7 := { stood := { row := scriptBlankRow, standIns := [], harness := (true, "36cf923a36fec8ea6ea9b802b65ab8cfe1b0a00038de914b97856a614ccbdbbe"), looks := true }, kinds := [], alts := [], laidByText := true, laidKinds := [.data, .data, .data, .data, .data, .data, .data, .pinned], laidTests := true, laidLooks := .later }
def ScriptBlankCardSaid : Prop := Claim7.holds Tryz.pinned (.plain (OpenSpec.ofChange scriptBlankSpec)) scriptBlankCard

/-- THE TIED CARD OF 'hairsbreadthlaw30.ScriptChecks'. -/
def scriptChecksCard : Claim7 := { stood := { row := scriptChecksRow, standIns := [], harness := (true, "36cf923a36fec8ea6ea9b802b65ab8cfe1b0a00038de914b97856a614ccbdbbe"), looks := true }, kinds := [], alts := [], laidByText := true, laidKinds := [.data, .data, .data, .data, .data, .data, .data, .pinned], laidTests := true, laidLooks := .later }
def ScriptChecksCardSaid : Prop := Claim7.holds Tryz.pinned (.plain (OpenSpec.ofChange scriptChecksSpec)) scriptChecksCard

/-- THE TIED CARD OF 'hairsbreadthlaw30.ScriptKnown'. -/
def scriptKnownCard : Claim7 := { stood := { row := scriptKnownRow, standIns := [], harness := (true, "36cf923a36fec8ea6ea9b802b65ab8cfe1b0a00038de914b97856a614ccbdbbe"), looks := true }, kinds := [], alts := [], laidByText := true, laidKinds := [.data, .data, .data, .data, .data, .data, .data, .pinned], laidTests := true, laidLooks := .later }
def ScriptKnownCardSaid : Prop := Claim7.holds Tryz.pinned (.plain (OpenSpec.ofChange scriptKnownSpec)) scriptKnownCard

/-- THE SECOND FORM's CARD OF 'hairsbreadthlaw29.TableKeeps'. -/
def tableKeepsUptoCard : Claim7 := { stood := { row := tableKeepsUptoRow, standIns := [], harness := (true, "36cf923a36fec8ea6ea9b802b65ab8cfe1b0a00038de914b97856a614ccbdbbe"), looks := true }, kinds := [], alts := [], laidByText := true, laidKinds := [.data, .data], laidTests := true, laidLooks := .later }
def TableKeepsUptoCardSaid : Prop := Claim7.holds Tryz.pinned (.plain (OpenSpec.upto tableKeepsSpec)) tableKeepsUptoCard

/-- THE SECOND FORM's CARD OF 'hairsbreadthlaw29.TableRuns'. -/
def tableRunsUptoCard : Claim7 := { stood := { row := tableRunsUptoRow, standIns := [], harness := (true, "36cf923a36fec8ea6ea9b802b65ab8cfe1b0a00038de914b97856a614ccbdbbe"), looks := true }, kinds := [], alts := [], laidByText := true, laidKinds := [.data, .data], laidTests := true, laidLooks := .later }
def TableRunsUptoCardSaid : Prop := Claim7.holds Tryz.pinned (.plain (OpenSpec.upto tableRunsSpec)) tableRunsUptoCard

/-- THE SECOND FORM's CARD OF 'hairsbreadthtop.TopNearest'. -/
def topNearestUptoCard : Claim7 := { stood := { row := topNearestUptoRow, standIns := [], harness := (true, "36cf923a36fec8ea6ea9b802b65ab8cfe1b0a00038de914b97856a614ccbdbbe"), looks := true }, kinds := [], alts := [], laidByText := true, laidKinds := [.data, .data, .data, .data, .data, .data, .data, .pinned], laidTests := true, laidLooks := .later }
def TopNearestUptoCardSaid : Prop := Claim7.holds Tryz.pinned (.plain (OpenSpec.upto topNearestSpec)) topNearestUptoCard

/-- THE SECOND FORM's CARD OF 'hairsbreadthtop.TopRem'. -/
def topRemUptoCard : Claim7 := { stood := { row := topRemUptoRow, standIns := [], harness := (true, "36cf923a36fec8ea6ea9b802b65ab8cfe1b0a00038de914b97856a614ccbdbbe"), looks := true }, kinds := [], alts := [], laidByText := true, laidKinds := [.data, .data, .data, .data, .data, .data, .data, .pinned], laidTests := true, laidLooks := .later }
def TopRemUptoCardSaid : Prop := Claim7.holds Tryz.pinned (.plain (OpenSpec.upto topRemSpec)) topRemUptoCard

/-- THE SECOND FORM's CARD OF 'hairsbreadthlaw30.ScriptRuns'. -/
def scriptRunsUptoCard : Claim7 := { stood := { row := scriptRunsUptoRow, standIns := [], harness := (true, "36cf923a36fec8ea6ea9b802b65ab8cfe1b0a00038de914b97856a614ccbdbbe"), looks := true }, kinds := [], alts := [], laidByText := true, laidKinds := [.data, .data, .data, .data, .data, .data, .data, .pinned], laidTests := true, laidLooks := .later }
def ScriptRunsUptoCardSaid : Prop := Claim7.holds Tryz.pinned (.plain (OpenSpec.upto scriptRunsSpec)) scriptRunsUptoCard

/-- THE SECOND FORM's CARD OF 'hairsbreadthlaw30.ScriptTail'. -/
def scriptTailUptoCard : Claim7 := { stood := { row := scriptTailUptoRow, standIns := [], harness := (true, "36cf923a36fec8ea6ea9b802b65ab8cfe1b0a00038de914b97856a614ccbdbbe"), looks := true }, kinds := [], alts := [], laidByText := true, laidKinds := [.data, .data, .data, .data, .data, .data, .data, .pinned], laidTests := true, laidLooks := .later }
def ScriptTailUptoCardSaid : Prop := Claim7.holds Tryz.pinned (.plain (OpenSpec.upto scriptTailSpec)) scriptTailUptoCard

/-- THE SECOND FORM's CARD OF 'hairsbreadthlaw30.ScriptBlank'. -/
def scriptBlankUptoCard : Claim7 := { stood := { row := scriptBlankUptoRow, standIns := [], harness := (true, "36cf923a36fec8ea6ea9b802b65ab8cfe1b0a00038de914b97856a614ccbdbbe"), looks := true }, kinds := [], alts := [], laidByText := true, laidKinds := [.data, .data, .data, .data, .data, .data, .data, .pinned], laidTests := true, laidLooks := .later }
def ScriptBlankUptoCardSaid : Prop := Claim7.holds Tryz.pinned (.plain (OpenSpec.upto scriptBlankSpec)) scriptBlankUptoCard

/-- THE SECOND FORM's CARD OF 'hairsbreadthlaw30.ScriptChecks'. -/
def scriptChecksUptoCard : Claim7 := { stood := { row := scriptChecksUptoRow, standIns := [], harness := (true, "36cf923a36fec8ea6ea9b802b65ab8cfe1b0a00038de914b97856a614ccbdbbe"), looks := true }, kinds := [], alts := [], laidByText := true, laidKinds := [.data, .data, .data, .data, .data, .data, .data, .pinned], laidTests := true, laidLooks := .later }
def ScriptChecksUptoCardSaid : Prop := Claim7.holds Tryz.pinned (.plain (OpenSpec.upto scriptChecksSpec)) scriptChecksUptoCard

/-- THE SECOND FORM's CARD OF 'hairsbreadthlaw30.ScriptKnown'. -/
def scriptKnownUptoCard : Claim7 := { stood := { row := scriptKnownUptoRow, standIns := [], harness := (true, "36cf923a36fec8ea6ea9b802b65ab8cfe1b0a00038de914b97856a614ccbdbbe"), looks := true }, kinds := [], alts := [], laidByText := true, laidKinds := [.data, .data, .data, .data, .data, .data, .data, .pinned], laidTests := true, laidLooks := .later }
def ScriptKnownUptoCardSaid : Prop := Claim7.holds Tryz.pinned (.plain (OpenSpec.upto scriptKnownSpec)) scriptKnownUptoCard
end Rows
end Go.Proofs.YtbembkamcdlhbaaGreatDoor
