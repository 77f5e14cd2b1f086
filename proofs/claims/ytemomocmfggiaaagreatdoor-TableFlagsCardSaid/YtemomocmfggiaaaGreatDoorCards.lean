/-
  DERIVED. GIVEN WITH THE SEED: THE CARDS: each row of YtemomocmfggiaaaGreatDoorRows.lean that lists a variable, with what it lists TIED to the program's text (the seventh form; the later family's looks); each row that meets fmt, with fmt's text TOLD by the authors' own Lean function (tested against real Go, not proved from fmt's source: count such statements apart). THE CARD IS WHAT COUNTS. Prove the row's statement (the work); the ties are given (YtemomocmfggiaaaGreatDoorTie.lean); close each card by the builder's one call (the guide's Derived/Test/ToyasCard.lean, 'card_holds'). Laid BY PROGRAM, IN A SANDBOX (cutbox-door.mjs). By AI agents, Wed Nov 11 2026. No macro, syntax, notation, axiom, sorry.
-/
import Derived.Test.YtemomocmfggiaaaGreatDoorRows
import GoSem.ClaimSeven
namespace Go.Proofs.YtemomocmfggiaaaGreatDoor
namespace Rows

/-- THE TIED CARD OF 'hairsbreadthlaw29.TableFlags'. -/
def tableFlagsCard : Claim7 := { stood := { row := tableFlagsRow, standIns := [], harness := (true, "a076c2c3570269640d4780e8856f70f737b74ae0dab777f1e6b2959e73d9f373"), looks := false }, kinds := [], alts := [], laidByText := true, laidKinds := [.data, .data], laidTests := true, laidLooks := .later }
def TableFlagsCardSaid : Prop := Claim7.holds Tryz.pinned (.plain (OpenSpec.ofChange tableFlagsSpec)) tableFlagsCard

/-- THE TIED CARD OF 'hairsbreadthlaw29.TableKeeps'. -/
def tableKeepsCard : Claim7 := { stood := { row := tableKeepsRow, standIns := [], harness := (true, "a076c2c3570269640d4780e8856f70f737b74ae0dab777f1e6b2959e73d9f373"), looks := false }, kinds := [], alts := [], laidByText := true, laidKinds := [.data, .data], laidTests := true, laidLooks := .later }
def TableKeepsCardSaid : Prop := Claim7.holds Tryz.pinned (.plain (OpenSpec.ofChange tableKeepsSpec)) tableKeepsCard

/-- THE TIED CARD OF 'hairsbreadthlaw29.TableNil'. -/
def tableNilCard : Claim7 := { stood := { row := tableNilRow, standIns := [], harness := (true, "a076c2c3570269640d4780e8856f70f737b74ae0dab777f1e6b2959e73d9f373"), looks := false }, kinds := [], alts := [], laidByText := true, laidKinds := [.data, .data], laidTests := true, laidLooks := .later }
def TableNilCardSaid : Prop := Claim7.holds Tryz.pinned (.plain (OpenSpec.ofChange tableNilSpec)) tableNilCard

/-- THE TIED CARD OF 'hairsbreadthlaw29.TableRuns'. -/
def tableRunsCard : Claim7 := { stood := { row := tableRunsRow, standIns := [], harness := (true, "a076c2c3570269640d4780e8856f70f737b74ae0dab777f1e6b2959e73d9f373"), looks := false }, kinds := [], alts := [], laidByText := true, laidKinds := [.data, .data], laidTests := true, laidLooks := .later }
def TableRunsCardSaid : Prop := Claim7.holds Tryz.pinned (.plain (OpenSpec.ofChange tableRunsSpec)) tableRunsCard

/-- THE TIED CARD OF 'hairsbreadthlaw29.TableBad'. -/
def tableBadCard : Claim7 := { stood := { row := tableBadRow, standIns := [], harness := (true, "a076c2c3570269640d4780e8856f70f737b74ae0dab777f1e6b2959e73d9f373"), looks := false }, kinds := [], alts := [], laidByText := true, laidKinds := [.data, .data], laidTests := true, laidLooks := .later }
def TableBadCardSaid : Prop := Claim7.holds Tryz.pinned (.plain (OpenSpec.ofChange tableBadSpec)) tableBadCard

/-- THE TIED CARD OF 'hairsbreadthlaw29.TableKnown'. -/
def tableKnownCard : Claim7 := { stood := { row := tableKnownRow, standIns := [], harness := (true, "a076c2c3570269640d4780e8856f70f737b74ae0dab777f1e6b2959e73d9f373"), looks := false }, kinds := [], alts := [], laidByText := true, laidKinds := [.data, .data], laidTests := true, laidLooks := .later }
def TableKnownCardSaid : Prop := Claim7.holds Tryz.pinned (.plain (OpenSpec.ofChange tableKnownSpec)) tableKnownCard

/-- THE TIED CARD OF 'hairsbreadthlaw29.TableAlone'. -/
def tableAloneCard : Claim7 := { stood := { row := tableAloneRow, standIns := [], harness := (true, "a076c2c3570269640d4780e8856f70f737b74ae0dab777f1e6b2959e73d9f373"), looks := false }, kinds := [], alts := [], laidByText := true, laidKinds := [.data, .data], laidTests := true, laidLooks := .later }
def TableAloneCardSaid : Prop := Claim7.holds Tryz.pinned (.plain (OpenSpec.ofChange tableAloneSpec)) tableAloneCard

/-- THE SECOND FORM's CARD OF 'hairsbreadthlaw29.TableFlags'. -/
def tableFlagsUptoCard : Claim7 := { stood := { row := tableFlagsUptoRow, standIns := [], harness := (true, "a076c2c3570269640d4780e8856f70f737b74ae0dab777f1e6b2959e73d9f373"), looks := false }, kinds := [], alts := [], laidByText := true, laidKinds := [.data, .data], laidTests := true, laidLooks := .later }
def TableFlagsUptoCardSaid : Prop := Claim7.holds Tryz.pinned (.plain (OpenSpec.upto tableFlagsSpec)) tableFlagsUptoCard

/-- THE SECOND FORM's CARD OF 'hairsbreadthlaw29.TableKeeps'. -/
def tableKeepsUptoCard : Claim7 := { stood := { row := tableKeepsUptoRow, standIns := [], harness := (true, "a076c2c3570269640d4780e8856f70f737b74ae0dab777f1e6b2959e73d9f373"), looks := false }, kinds := [], alts := [], laidByText := true, laidKinds := [.data, .data], laidTests := true, laidLooks := .later }
def TableKeepsUptoCardSaid : Prop := Claim7.holds Tryz.pinned (.plain (OpenSpec.upto tableKeepsSpec)) tableKeepsUptoCard

/-- THE SECOND FORM's CARD OF 'hairsbreadthlaw29.TableNil'. -/
def tableNilUptoCard : Claim7 := { stood := { row := tableNilUptoRow, standIns := [], harness := (true, "a076c2c3570269640d4780e8856f70f737b74ae0dab777f1e6b2959e73d9f373"), looks := false }, kinds := [], alts := [], laidByText := true, laidKinds := [.data, .data], laidTests := true, laidLooks := .later }
def TableNilUptoCardSaid : Prop := Claim7.holds Tryz.pinned (.plain (OpenSpec.upto tableNilSpec)) tableNilUptoCard

/-- THE SECOND FORM's CARD OF 'hairsbreadthlaw29.TableRuns'. -/
def tableRunsUptoCard : Claim7 := { stood := { row := tableRunsUptoRow, standIns := [], harness := (true, "a076c2c3570269640d4780e8856f70f737b74ae0dab777f1e6b2959e73d9f373"), looks := false }, kinds := [], alts := [], laidByText := true, laidKinds := [.data, .data], laidTests := true, laidLooks := .later }
def TableRunsUptoCardSaid : Prop := Claim7.holds Tryz.pinned (.plain (OpenSpec.upto tableRunsSpec)) tableRunsUptoCard

/-- THE SECOND FORM's CARD OF 'hairsbreadthlaw29.TableBad'. -/
def tableBadUptoCard : Claim7 := { stood := { row := tableBadUptoRow, standIns := [], harness := (true, "a076c2c3570269640d4780e8856f70f737b74ae0dab777f1e6b2959e73d9f373"), looks := false }, kinds := [], alts := [], laidByText := true, laidKinds := [.data, .data], laidTests := true, laidLooks := .later }
def TableBadUptoCardSaid : Prop := Claim7.holds Tryz.pinned (.plain (OpenSpec.upto tableBadSpec)) tableBadUptoCard

/-- THE SECOND FORM's CARD OF 'hairsbreadthlaw29.TableKnown'. -/
def tableKnownUptoCard : Claim7 := { stood := { row := tableKnownUptoRow, standIns := [], harness := (true, "a076c2c3570269640d4780e8856f70f737b74ae0dab777f1e6b2959e73d9f373"), looks := false }, kinds := [], alts := [], laidByText := true, laidKinds := [.data, .data], laidTests := true, laidLooks := .later }
def TableKnownUptoCardSaid : Prop := Claim7.holds Tryz.pinned (.plain (OpenSpec.upto tableKnownSpec)) tableKnownUptoCard

/-- THE SECOND FORM's CARD OF 'hairsbreadthlaw29.TableAlone'. -/
def tableAloneUptoCard : Claim7 := { stood := { row := tableAloneUptoRow, standIns := [], harness := (true, "a076c2c3570269640d4780e8856f70f737b74ae0dab777f1e6b2959e73d9f373"), looks := false }, kinds := [], alts := [], laidByText := true, laidKinds := [.data, .data], laidTests := true, laidLooks := .later }
def TableAloneUptoCardSaid : Prop := Claim7.holds Tryz.pinned (.plain (OpenSpec.upto tableAloneSpec)) tableAloneUptoCard
end Rows
end Go.Proofs.YtemomocmfggiaaaGreatDoor
