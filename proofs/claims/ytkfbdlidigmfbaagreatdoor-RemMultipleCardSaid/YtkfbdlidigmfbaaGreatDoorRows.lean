/-
  NARROWER THAN 'FOR EVERY INPUT', by the rows' own cells (each row's printed sentence says how): SqrtBetween: laid · RemMultiple: laid.
  DERIVED. THE GIVEN ROWS OF THIS SEAT. 2 by the template 'for every input the law returns true; each argument reads behind the call as it read before'; 0 by the template 'total and deterministic' (their statements: YtkfbdlidigmfbaaGreatDoorTotals.lean).
  GIVEN WITH THE SEED: the statements are not yours to turn. If you find one false, say at which input.
  Laid BY PROGRAM, IN A SANDBOX (cutbox-rows.mjs): the forced cells as the released guide's own fill.sh prints them over the translation e52992f41989a57f… (all of the seat's roots in one cut). By AI agents, Wed Nov 11 2026. No macro, syntax, notation, axiom, sorry.
-/
import Derived.Test.YtkfbdlidigmfbaaGreatDoorChecked
import GoSem.Claim
import GoSem.ClaimJoined
import GoSem.ClaimMapViews
import Derived.JoinedTies
import Derived.KernelRfl
namespace Go.Proofs.YtkfbdlidigmfbaaGreatDoor
/- THE CELL 'sum', in the pinned program and in every row, IS THE sha256 OF THE DUMP (.gsa) THAT YtkfbdlidigmfbaaGreatDoorProg.lean LOADS. Nothing in Lean hashes anything: it is a label: what it is worth is what the hold of that sum in a sandbox is worth. -/
noncomputable def Tryz.pinned : Pinned := { name := "ytkfbdlidigmfbaagreatdoor", sum := "e52992f41989a57f6a6d76975ed5740f6325ad503edd973a2ca61a0e3bbcd199", checked := Tryz.checked }
namespace Rows
def none {H : Type} : Left H := { results := [], args := [] }

/- WHAT THE LISTED PACKAGE-LEVEL VARIABLES READ AS WHEN THE CALL BEGINS. Each datum BY PROGRAM (the guide's laid-datum.mjs) off the statement by which the dump's own 'gosem.cut.vars' lays the variable. In a bare row this is a premise. The card (YtkfbdlidigmfbaaGreatDoorCards.lean) ties it to the program's text. -/
def laid_hairsbreadth_format_table {H : Type} : DataW H := .agg [.agg [.lit (.int .i64 16), .lit (.int .i64 11), .lit (.int .i64 15)], .agg [.lit (.int .i64 32), .lit (.int .i64 24), .lit (.int .i64 127)], .agg [.lit (.int .i64 64), .lit (.int .i64 53), .lit (.int .i64 1023)], .agg [.lit (.int .i64 128), .lit (.int .i64 113), .lit (.int .i64 16383)]]

/-- 'hairsbreadthlaw22.SqrtBetween': WHATEVER THE INPUT: true; the input reads as it did. -/
def sqrtBetweenSpec : ChangeSpec := { name := "sqrtBetween", fn := fun _ => fun
  | [d1, d2, d3] => { results := [.lit (.bool true)], args := [d1, d2, d3] }
  | _ => none }
def sqrtBetweenRow : OpenClaim := { program := "ytkfbdlidigmfbaagreatdoor", sum := "e52992f41989a57f6a6d76975ed5740f6325ad503edd973a2ca61a0e3bbcd199", func := "hairsbreadth/hairsbreadthlaw22.SqrtBetween", spec := "sqrtBetween", inPlace := ["math/bits.Add64", "math/bits.Sub64"], unfollowed := true, recurses := true, named := ["hairsbreadth/format.table"], apart := false, laid := [("hairsbreadth/format.table", laid_hairsbreadth_format_table)] }
def SqrtBetweenSaid : Prop := sqrtBetweenRow.holds Tryz.pinned (OpenSpec.ofChange sqrtBetweenSpec)

/-- ITS FALSE NEIGHBOUR: 'it returns false'. Refute it at one input. -/
def sqrtBetweenWrong : ChangeSpec := { name := "sqrtBetween", fn := fun _ => fun
  | [d1, d2, d3] => { results := [.lit (.bool false)], args := [d1, d2, d3] }
  | _ => none }
def SqrtBetweenWrongFalsely : Prop := sqrtBetweenRow.holds Tryz.pinned (OpenSpec.ofChange sqrtBetweenWrong)

/-- 'hairsbreadthlaw23.RemMultiple': WHATEVER THE INPUT: true; the input reads as it did. -/
def remMultipleSpec : ChangeSpec := { name := "remMultiple", fn := fun _ => fun
  | [d1, d2, d3] => { results := [.lit (.bool true)], args := [d1, d2, d3] }
  | _ => none }
def remMultipleRow : OpenClaim := { program := "ytkfbdlidigmfbaagreatdoor", sum := "e52992f41989a57f6a6d76975ed5740f6325ad503edd973a2ca61a0e3bbcd199", func := "hairsbreadth/hairsbreadthlaw23.RemMultiple", spec := "remMultiple", inPlace := ["math/bits.Add64", "math/bits.Sub64"], unfollowed := true, recurses := true, named := ["hairsbreadth/format.table"], apart := false, laid := [("hairsbreadth/format.table", laid_hairsbreadth_format_table)] }
def RemMultipleSaid : Prop := remMultipleRow.holds Tryz.pinned (OpenSpec.ofChange remMultipleSpec)

/-- ITS FALSE NEIGHBOUR: 'it returns false'. Refute it at one input. -/
def remMultipleWrong : ChangeSpec := { name := "remMultiple", fn := fun _ => fun
  | [d1, d2, d3] => { results := [.lit (.bool false)], args := [d1, d2, d3] }
  | _ => none }
def RemMultipleWrongFalsely : Prop := remMultipleRow.holds Tryz.pinned (OpenSpec.ofChange remMultipleWrong)

/- THE SECOND FORM. 'bulk': how many values and letters a reading holds, each counted each time it is reached (what is shared counts as often as it is met; a slice's spare places count too). A statement '..UptoSaid' is the law's where the arguments, and the package variables that the reading takes, are together of bulk at most 1048576: NARROWER than '..Said'. Prove '..Said' where nothing that the law and all that it calls make is longer than what came in: it says more and counts as full. Else prove '..UptoSaid'. A law counts once. -/
mutual
def uptoBulk {H : Type} : DataW H → Nat
  | .lit (.string bytes) => bytes.length + 1
  | .lit _ => 1
  | .nil => 1
  | .ptr d => uptoBulk d + 1
  | .slice elems spare => uptoBulkAll elems + uptoBulkAll spare + 1
  | .agg parts => uptoBulkAll parts + 1
  | .iface _ d => uptoBulk d + 1
  | .map entries => uptoBulkEntries entries + 1
  | .held _ => 1
def uptoBulkAll {H : Type} : List (DataW H) → Nat
  | [] => 0
  | d :: r => uptoBulk d + uptoBulkAll r
def uptoBulkEntries {H : Type} : List (Lit × DataW H) → Nat
  | [] => 0
  | x :: r => uptoBulkEntry x + uptoBulkEntries r
def uptoBulkEntry {H : Type} : Lit × DataW H → Nat
  | (.string bytes, d) => bytes.length + uptoBulk d + 1
  | (_, d) => uptoBulk d + 1
 end
def uptoSmall : (H : Type) → List (DataW H) → Bool := fun _ ds => decide (uptoBulkAll ds ≤ 1048576)
def OpenSpec.upto (s : _root_.Go.ChangeSpec) : _root_.Go.OpenSpec := { _root_.Go.OpenSpec.ofChange s with cond := some uptoSmall }

/-- 'hairsbreadthlaw22.SqrtBetween', WHERE WHAT IT READS IS OF BULK AT MOST 1048576: true; the input reads as it did. -/
def sqrtBetweenUptoRow : OpenClaim := { program := "ytkfbdlidigmfbaagreatdoor", sum := "e52992f41989a57f6a6d76975ed5740f6325ad503edd973a2ca61a0e3bbcd199", func := "hairsbreadth/hairsbreadthlaw22.SqrtBetween", spec := "sqrtBetween", inPlace := ["math/bits.Add64", "math/bits.Sub64"], unfollowed := true, recurses := true, named := ["hairsbreadth/format.table"], apart := false, laid := [("hairsbreadth/format.table", laid_hairsbreadth_format_table)], narrowed := true }
def SqrtBetweenUptoSaid : Prop := sqrtBetweenUptoRow.holds Tryz.pinned (OpenSpec.upto sqrtBetweenSpec)

/-- 'hairsbreadthlaw23.RemMultiple', WHERE WHAT IT READS IS OF BULK AT MOST 1048576: true; the input reads as it did. -/
def remMultipleUptoRow : OpenClaim := { program := "ytkfbdlidigmfbaagreatdoor", sum := "e52992f41989a57f6a6d76975ed5740f6325ad503edd973a2ca61a0e3bbcd199", func := "hairsbreadth/hairsbreadthlaw23.RemMultiple", spec := "remMultiple", inPlace := ["math/bits.Add64", "math/bits.Sub64"], unfollowed := true, recurses := true, named := ["hairsbreadth/format.table"], apart := false, laid := [("hairsbreadth/format.table", laid_hairsbreadth_format_table)], narrowed := true }
def RemMultipleUptoSaid : Prop := remMultipleUptoRow.holds Tryz.pinned (OpenSpec.upto remMultipleSpec)

end Rows
end Go.Proofs.YtkfbdlidigmfbaaGreatDoor
