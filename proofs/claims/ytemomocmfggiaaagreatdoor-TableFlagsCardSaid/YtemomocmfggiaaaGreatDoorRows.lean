/-
  NARROWER THAN 'FOR EVERY INPUT', by the rows' own cells (each row's printed sentence says how): TableFlags: laid · TableKeeps: laid · TableNil: laid · TableRuns: laid · TableBad: laid · TableKnown: laid · TableAlone: laid.
  DERIVED. THE GIVEN ROWS OF THIS SEAT. 7 by the template 'for every input the law returns true; each argument reads behind the call as it read before'; 0 by the template 'total and deterministic' (their statements: YtemomocmfggiaaaGreatDoorTotals.lean).
  GIVEN WITH THE SEED: the statements are not yours to turn. If you find one false, say at which input.
  Laid BY PROGRAM, IN A SANDBOX (cutbox-rows.mjs): the forced cells as the released guide's own fill.sh prints them over the translation e8bd00d80fd887ad… (all of the seat's roots in one cut). By AI agents, Wed Nov 11 2026. No macro, syntax, notation, axiom, sorry.
-/
import Derived.Test.YtemomocmfggiaaaGreatDoorChecked
import GoSem.Claim
import GoSem.ClaimJoined
import GoSem.ClaimMapViews
import Derived.JoinedTies
import Derived.KernelRfl
namespace Go.Proofs.YtemomocmfggiaaaGreatDoor
/- THE CELL 'sum', in the pinned program and in every row, IS THE sha256 OF THE DUMP (.gsa) THAT YtemomocmfggiaaaGreatDoorProg.lean LOADS. Nothing in Lean hashes anything: it is a label: what it is worth is what the hold of that sum in a sandbox is worth. -/
noncomputable def Tryz.pinned : Pinned := { name := "ytemomocmfggiaaagreatdoor", sum := "e8bd00d80fd887ad6503f9d0f5906a8ece5922643924bcfa8fcaea2f9f024953", checked := Tryz.checked }
namespace Rows
def none {H : Type} : Left H := { results := [], args := [] }

/- WHAT THE LISTED PACKAGE-LEVEL VARIABLES READ AS WHEN THE CALL BEGINS. Each datum BY PROGRAM (the guide's laid-datum.mjs) off the statement by which the dump's own 'gosem.cut.vars' lays the variable. In a bare row this is a premise. The card (YtemomocmfggiaaaGreatDoorCards.lean) ties it to the program's text. -/
def laid_hairsbreadth_format_table {H : Type} : DataW H := .agg [.agg [.lit (.int .i64 16), .lit (.int .i64 11), .lit (.int .i64 15)], .agg [.lit (.int .i64 32), .lit (.int .i64 24), .lit (.int .i64 127)], .agg [.lit (.int .i64 64), .lit (.int .i64 53), .lit (.int .i64 1023)], .agg [.lit (.int .i64 128), .lit (.int .i64 113), .lit (.int .i64 16383)]]
def laid_hairsbreadth_toint_ends {H : Type} : DataW H := .agg [.agg [.lit (.int .u64 2147483648), .lit (.int .u64 2147483647)], .agg [.lit (.int .u64 0), .lit (.int .u64 4294967295)], .agg [.lit (.int .u64 9223372036854775808), .lit (.int .u64 9223372036854775807)], .agg [.lit (.int .u64 0), .lit (.int .u64 18446744073709551615)]]

/-- 'hairsbreadthlaw29.TableFlags': WHATEVER THE INPUT: true; the input reads as it did. -/
def tableFlagsSpec : ChangeSpec := { name := "tableFlags", fn := fun _ => fun
  | [d] => { results := [.lit (.bool true)], args := [d] }
  | _ => none }
def tableFlagsRow : OpenClaim := { program := "ytemomocmfggiaaagreatdoor", sum := "e8bd00d80fd887ad6503f9d0f5906a8ece5922643924bcfa8fcaea2f9f024953", func := "hairsbreadth/hairsbreadthlaw29.TableFlags", spec := "tableFlags", inPlace := ["math/bits.Add64", "math/bits.Sub64"], unfollowed := true, recurses := true, named := ["hairsbreadth/format.table", "hairsbreadth/toint.ends"], apart := false, laid := [("hairsbreadth/format.table", laid_hairsbreadth_format_table), ("hairsbreadth/toint.ends", laid_hairsbreadth_toint_ends)] }
def TableFlagsSaid : Prop := tableFlagsRow.holds Tryz.pinned (OpenSpec.ofChange tableFlagsSpec)

/-- ITS FALSE NEIGHBOUR: 'it returns false'. Refute it at one input. -/
def tableFlagsWrong : ChangeSpec := { name := "tableFlags", fn := fun _ => fun
  | [d] => { results := [.lit (.bool false)], args := [d] }
  | _ => none }
def TableFlagsWrongFalsely : Prop := tableFlagsRow.holds Tryz.pinned (OpenSpec.ofChange tableFlagsWrong)

/-- 'hairsbreadthlaw29.TableKeeps': WHATEVER THE INPUT: true; the input reads as it did. -/
def tableKeepsSpec : ChangeSpec := { name := "tableKeeps", fn := fun _ => fun
  | [d1, d2] => { results := [.lit (.bool true)], args := [d1, d2] }
  | _ => none }
def tableKeepsRow : OpenClaim := { program := "ytemomocmfggiaaagreatdoor", sum := "e8bd00d80fd887ad6503f9d0f5906a8ece5922643924bcfa8fcaea2f9f024953", func := "hairsbreadth/hairsbreadthlaw29.TableKeeps", spec := "tableKeeps", inPlace := ["math/bits.Add64", "math/bits.Sub64"], unfollowed := true, recurses := true, named := ["hairsbreadth/format.table", "hairsbreadth/toint.ends"], apart := false, laid := [("hairsbreadth/format.table", laid_hairsbreadth_format_table), ("hairsbreadth/toint.ends", laid_hairsbreadth_toint_ends)] }
def TableKeepsSaid : Prop := tableKeepsRow.holds Tryz.pinned (OpenSpec.ofChange tableKeepsSpec)

/-- ITS FALSE NEIGHBOUR: 'it returns false'. Refute it at one input. -/
def tableKeepsWrong : ChangeSpec := { name := "tableKeeps", fn := fun _ => fun
  | [d1, d2] => { results := [.lit (.bool false)], args := [d1, d2] }
  | _ => none }
def TableKeepsWrongFalsely : Prop := tableKeepsRow.holds Tryz.pinned (OpenSpec.ofChange tableKeepsWrong)

/-- 'hairsbreadthlaw29.TableNil': WHATEVER THE INPUT: true; the input reads as it did. -/
def tableNilSpec : ChangeSpec := { name := "tableNil", fn := fun _ => fun
  | [d] => { results := [.lit (.bool true)], args := [d] }
  | _ => none }
def tableNilRow : OpenClaim := { program := "ytemomocmfggiaaagreatdoor", sum := "e8bd00d80fd887ad6503f9d0f5906a8ece5922643924bcfa8fcaea2f9f024953", func := "hairsbreadth/hairsbreadthlaw29.TableNil", spec := "tableNil", inPlace := ["math/bits.Add64", "math/bits.Sub64"], unfollowed := true, recurses := true, named := ["hairsbreadth/format.table", "hairsbreadth/toint.ends"], apart := false, laid := [("hairsbreadth/format.table", laid_hairsbreadth_format_table), ("hairsbreadth/toint.ends", laid_hairsbreadth_toint_ends)] }
def TableNilSaid : Prop := tableNilRow.holds Tryz.pinned (OpenSpec.ofChange tableNilSpec)

/-- ITS FALSE NEIGHBOUR: 'it returns false'. Refute it at one input. -/
def tableNilWrong : ChangeSpec := { name := "tableNil", fn := fun _ => fun
  | [d] => { results := [.lit (.bool false)], args := [d] }
  | _ => none }
def TableNilWrongFalsely : Prop := tableNilRow.holds Tryz.pinned (OpenSpec.ofChange tableNilWrong)

/-- 'hairsbreadthlaw29.TableRuns': WHATEVER THE INPUT: true; the input reads as it did. -/
def tableRunsSpec : ChangeSpec := { name := "tableRuns", fn := fun _ => fun
  | [d] => { results := [.lit (.bool true)], args := [d] }
  | _ => none }
def tableRunsRow : OpenClaim := { program := "ytemomocmfggiaaagreatdoor", sum := "e8bd00d80fd887ad6503f9d0f5906a8ece5922643924bcfa8fcaea2f9f024953", func := "hairsbreadth/hairsbreadthlaw29.TableRuns", spec := "tableRuns", inPlace := ["math/bits.Add64", "math/bits.Sub64"], unfollowed := true, recurses := true, named := ["hairsbreadth/format.table", "hairsbreadth/toint.ends"], apart := false, laid := [("hairsbreadth/format.table", laid_hairsbreadth_format_table), ("hairsbreadth/toint.ends", laid_hairsbreadth_toint_ends)] }
def TableRunsSaid : Prop := tableRunsRow.holds Tryz.pinned (OpenSpec.ofChange tableRunsSpec)

/-- ITS FALSE NEIGHBOUR: 'it returns false'. Refute it at one input. -/
def tableRunsWrong : ChangeSpec := { name := "tableRuns", fn := fun _ => fun
  | [d] => { results := [.lit (.bool false)], args := [d] }
  | _ => none }
def TableRunsWrongFalsely : Prop := tableRunsRow.holds Tryz.pinned (OpenSpec.ofChange tableRunsWrong)

/-- 'hairsbreadthlaw29.TableBad': WHATEVER THE INPUT: true; the input reads as it did. -/
def tableBadSpec : ChangeSpec := { name := "tableBad", fn := fun _ => fun
  | [d1, d2, d3] => { results := [.lit (.bool true)], args := [d1, d2, d3] }
  | _ => none }
def tableBadRow : OpenClaim := { program := "ytemomocmfggiaaagreatdoor", sum := "e8bd00d80fd887ad6503f9d0f5906a8ece5922643924bcfa8fcaea2f9f024953", func := "hairsbreadth/hairsbreadthlaw29.TableBad", spec := "tableBad", inPlace := ["math/bits.Add64", "math/bits.Sub64"], unfollowed := true, recurses := true, named := ["hairsbreadth/format.table", "hairsbreadth/toint.ends"], apart := false, laid := [("hairsbreadth/format.table", laid_hairsbreadth_format_table), ("hairsbreadth/toint.ends", laid_hairsbreadth_toint_ends)] }
def TableBadSaid : Prop := tableBadRow.holds Tryz.pinned (OpenSpec.ofChange tableBadSpec)

/-- ITS FALSE NEIGHBOUR: 'it returns false'. Refute it at one input. -/
def tableBadWrong : ChangeSpec := { name := "tableBad", fn := fun _ => fun
  | [d1, d2, d3] => { results := [.lit (.bool false)], args := [d1, d2, d3] }
  | _ => none }
def TableBadWrongFalsely : Prop := tableBadRow.holds Tryz.pinned (OpenSpec.ofChange tableBadWrong)

/-- 'hairsbreadthlaw29.TableKnown': WHATEVER THE INPUT: true; the input reads as it did. -/
def tableKnownSpec : ChangeSpec := { name := "tableKnown", fn := fun _ => fun
  | [] => { results := [.lit (.bool true)], args := [] }
  | _ => none }
def tableKnownRow : OpenClaim := { program := "ytemomocmfggiaaagreatdoor", sum := "e8bd00d80fd887ad6503f9d0f5906a8ece5922643924bcfa8fcaea2f9f024953", func := "hairsbreadth/hairsbreadthlaw29.TableKnown", spec := "tableKnown", inPlace := ["math/bits.Add64", "math/bits.Sub64"], unfollowed := true, recurses := true, named := ["hairsbreadth/format.table", "hairsbreadth/toint.ends"], apart := false, laid := [("hairsbreadth/format.table", laid_hairsbreadth_format_table), ("hairsbreadth/toint.ends", laid_hairsbreadth_toint_ends)] }
def TableKnownSaid : Prop := tableKnownRow.holds Tryz.pinned (OpenSpec.ofChange tableKnownSpec)

/-- ITS FALSE NEIGHBOUR: 'it returns false'. Refute it at one input. -/
def tableKnownWrong : ChangeSpec := { name := "tableKnown", fn := fun _ => fun
  | [] => { results := [.lit (.bool false)], args := [] }
  | _ => none }
def TableKnownWrongFalsely : Prop := tableKnownRow.holds Tryz.pinned (OpenSpec.ofChange tableKnownWrong)

/-- 'hairsbreadthlaw29.TableAlone': WHATEVER THE INPUT: true; the input reads as it did. -/
def tableAloneSpec : ChangeSpec := { name := "tableAlone", fn := fun _ => fun
  | [d] => { results := [.lit (.bool true)], args := [d] }
  | _ => none }
def tableAloneRow : OpenClaim := { program := "ytemomocmfggiaaagreatdoor", sum := "e8bd00d80fd887ad6503f9d0f5906a8ece5922643924bcfa8fcaea2f9f024953", func := "hairsbreadth/hairsbreadthlaw29.TableAlone", spec := "tableAlone", inPlace := ["math/bits.Add64", "math/bits.Sub64"], unfollowed := true, recurses := true, named := ["hairsbreadth/format.table", "hairsbreadth/toint.ends"], apart := false, laid := [("hairsbreadth/format.table", laid_hairsbreadth_format_table), ("hairsbreadth/toint.ends", laid_hairsbreadth_toint_ends)] }
def TableAloneSaid : Prop := tableAloneRow.holds Tryz.pinned (OpenSpec.ofChange tableAloneSpec)

/-- ITS FALSE NEIGHBOUR: 'it returns false'. Refute it at one input. -/
def tableAloneWrong : ChangeSpec := { name := "tableAlone", fn := fun _ => fun
  | [d] => { results := [.lit (.bool false)], args := [d] }
  | _ => none }
def TableAloneWrongFalsely : Prop := tableAloneRow.holds Tryz.pinned (OpenSpec.ofChange tableAloneWrong)

/- THE SECOND FORM. 'bulk': how many values and letters a reading holds, each counted each time it is reached (what is shared counts as often as it is met; a slice's spare places count too). A statement '..UptoSaid' is the law's where the arguments, and the package variables that the reading takes, are together of bulk at most 1048576: NARROWER than '..Said'. Prove '..Said' where nothing that the law and all that it calls make is longer than what came in: it says more and counts as full. Else prove '..UptoSaid'. A law counts once. -/
mutual
def uptoBulk {H : Type} : DataW H → Nat
  | .lit (.string bytes) => bytes.length + 1
  | .lit _ => 1
  | .nil => 1
  | .ptr d => uptoBulk d + 1
  | .slice elems spare => uptoBulkAll elems + uptoBulkAll spare + 1
  | .agg parts => uptoBulkAll parts + 1
  | .iface _ d => uptoBulk d + 1
  | .map entries => uptoBulkEntries entries + 1
  | .held _ => 1
def uptoBulkAll {H : Type} : List (DataW H) → Nat
  | [] => 0
  | d :: r => uptoBulk d + uptoBulkAll r
def uptoBulkEntries {H : Type} : List (Lit × DataW H) → Nat
  | [] => 0
  | x :: r => uptoBulkEntry x + uptoBulkEntries r
def uptoBulkEntry {H : Type} : Lit × DataW H → Nat
  | (.string bytes, d) => bytes.length + uptoBulk d + 1
  | (_, d) => uptoBulk d + 1
 end
def uptoSmall : (H : Type) → List (DataW H) → Bool := fun _ ds => decide (uptoBulkAll ds ≤ 1048576)
def OpenSpec.upto (s : _root_.Go.ChangeSpec) : _root_.Go.OpenSpec := { _root_.Go.OpenSpec.ofChange s with cond := some uptoSmall }

/-- 'hairsbreadthlaw29.TableFlags', WHERE WHAT IT READS IS OF BULK AT MOST 1048576: true; the input reads as it did. -/
def tableFlagsUptoRow : OpenClaim := { program := "ytemomocmfggiaaagreatdoor", sum := "e8bd00d80fd887ad6503f9d0f5906a8ece5922643924bcfa8fcaea2f9f024953", func := "hairsbreadth/hairsbreadthlaw29.TableFlags", spec := "tableFlags", inPlace := ["math/bits.Add64", "math/bits.Sub64"], unfollowed := true, recurses := true, named := ["hairsbreadth/format.table", "hairsbreadth/toint.ends"], apart := false, laid := [("hairsbreadth/format.table", laid_hairsbreadth_format_table), ("hairsbreadth/toint.ends", laid_hairsbreadth_toint_ends)], narrowed := true }
def TableFlagsUptoSaid : Prop := tableFlagsUptoRow.holds Tryz.pinned (OpenSpec.upto tableFlagsSpec)

/-- 'hairsbreadthlaw29.TableKeeps', WHERE WHAT IT READS IS OF BULK AT MOST 1048576: true; the input reads as it did. -/
def tableKeepsUptoRow : OpenClaim := { program := "ytemomocmfggiaaagreatdoor", sum := "e8bd00d80fd887ad6503f9d0f5906a8ece5922643924bcfa8fcaea2f9f024953", func := "hairsbreadth/hairsbreadthlaw29.TableKeeps", spec := "tableKeeps", inPlace := ["math/bits.Add64", "math/bits.Sub64"], unfollowed := true, recurses := true, named := ["hairsbreadth/format.table", "hairsbreadth/toint.ends"], apart := false, laid := [("hairsbreadth/format.table", laid_hairsbreadth_format_table), ("hairsbreadth/toint.ends", laid_hairsbreadth_toint_ends)], narrowed := true }
def TableKeepsUptoSaid : Prop := tableKeepsUptoRow.holds Tryz.pinned (OpenSpec.upto tableKeepsSpec)

/-- 'hairsbreadthlaw29.TableNil', WHERE WHAT IT READS IS OF BULK AT MOST 1048576: true; the input reads as it did. -/
def tableNilUptoRow : OpenClaim := { program := "ytemomocmfggiaaagreatdoor", sum := "e8bd00d80fd887ad6503f9d0f5906a8ece5922643924bcfa8fcaea2f9f024953", func := "hairsbreadth/hairsbreadthlaw29.TableNil", spec := "tableNil", inPlace := ["math/bits.Add64", "math/bits.Sub64"], unfollowed := true, recurses := true, named := ["hairsbreadth/format.table", "hairsbreadth/toint.ends"], apart := false, laid := [("hairsbreadth/format.table", laid_hairsbreadth_format_table), ("hairsbreadth/toint.ends", laid_hairsbreadth_toint_ends)], narrowed := true }
def TableNilUptoSaid : Prop := tableNilUptoRow.holds Tryz.pinned (OpenSpec.upto tableNilSpec)

/-- 'hairsbreadthlaw29.TableRuns', WHERE WHAT IT READS IS OF BULK AT MOST 1048576: true; the input reads as it did. -/
def tableRunsUptoRow : OpenClaim := { program := "ytemomocmfggiaaagreatdoor", sum := "e8bd00d80fd887ad6503f9d0f5906a8ece5922643924bcfa8fcaea2f9f024953", func := "hairsbreadth/hairsbreadthlaw29.TableRuns", spec := "tableRuns", inPlace := ["math/bits.Add64", "math/bits.Sub64"], unfollowed := true, recurses := true, named := ["hairsbreadth/format.table", "hairsbreadth/toint.ends"], apart := false, laid := [("hairsbreadth/format.table", laid_hairsbreadth_format_table), ("hairsbreadth/toint.ends", laid_hairsbreadth_toint_ends)], narrowed := true }
def TableRunsUptoSaid : Prop := tableRunsUptoRow.holds Tryz.pinned (OpenSpec.upto tableRunsSpec)

/-- 'hairsbreadthlaw29.TableBad', WHERE WHAT IT READS IS OF BULK AT MOST 1048576: true; the input reads as it did. -/
def tableBadUptoRow : OpenClaim := { program := "ytemomocmfggiaaagreatdoor", sum := "e8bd00d80fd887ad6503f9d0f5906a8ece5922643924bcfa8fcaea2f9f024953", func := "hairsbreadth/hairsbreadthlaw29.TableBad", spec := "tableBad", inPlace := ["math/bits.Add64", "math/bits.Sub64"], unfollowed := true, recurses := true, named := ["hairsbreadth/format.table", "hairsbreadth/toint.ends"], apart := false, laid := [("hairsbreadth/format.table", laid_hairsbreadth_format_table), ("hairsbreadth/toint.ends", laid_hairsbreadth_toint_ends)], narrowed := true }
def TableBadUptoSaid : Prop := tableBadUptoRow.holds Tryz.pinned (OpenSpec.upto tableBadSpec)

/-- 'hairsbreadthlaw29.TableKnown', WHERE WHAT IT READS IS OF BULK AT MOST 1048576: true; the input reads as it did. -/
def tableKnownUptoRow : OpenClaim := { program := "ytemomocmfggiaaagreatdoor", sum := "e8bd00d80fd887ad6503f9d0f5906a8ece5922643924bcfa8fcaea2f9f024953", func := "hairsbreadth/hairsbreadthlaw29.TableKnown", spec := "tableKnown", inPlace := ["math/bits.Add64", "math/bits.Sub64"], unfollowed := true, recurses := true, named := ["hairsbreadth/format.table", "hairsbreadth/toint.ends"], apart := false, laid := [("hairsbreadth/format.table", laid_hairsbreadth_format_table), ("hairsbreadth/toint.ends", laid_hairsbreadth_toint_ends)], narrowed := true }
def TableKnownUptoSaid : Prop := tableKnownUptoRow.holds Tryz.pinned (OpenSpec.upto tableKnownSpec)

/-- 'hairsbreadthlaw29.TableAlone', WHERE WHAT IT READS IS OF BULK AT MOST 1048576: true; the input reads as it did. -/
def tableAloneUptoRow : OpenClaim := { program := "ytemomocmfggiaaagreatdoor", sum := "e8bd00d80fd887ad6503f9d0f5906a8ece5922643924bcfa8fcaea2f9f024953", func := "hairsbreadth/hairsbreadthlaw29.TableAlone", spec := "tableAlone", inPlace := ["math/bits.Add64", "math/bits.Sub64"], unfollowed := true, recurses := true, named := ["hairsbreadth/format.table", "hairsbreadth/toint.ends"], apart := false, laid := [("hairsbreadth/format.table", laid_hairsbreadth_format_table), ("hairsbreadth/toint.ends", laid_hairsbreadth_toint_ends)], narrowed := true }
def TableAloneUptoSaid : Prop := tableAloneUptoRow.holds Tryz.pinned (OpenSpec.upto tableAloneSpec)

end Rows
end Go.Proofs.YtemomocmfggiaaaGreatDoor
