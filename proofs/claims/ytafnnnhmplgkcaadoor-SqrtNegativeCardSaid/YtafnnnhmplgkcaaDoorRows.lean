/-
  NARROWER THAN 'FOR EVERY INPUT', by the rows' own cells (each row's printed sentence says how): SqrtOrder: laid · SqrtNegative: laid · SqrtKnown: laid.
  DERIVED. THE GIVEN ROWS OF THIS SEAT. 3 by the template 'for every input the law returns true; each argument reads behind the call as it read before'; 0 by the template 'total and deterministic' (their statements: YtafnnnhmplgkcaaDoorTotals.lean).
  GIVEN WITH THE SEED: the statements are not yours to turn. If you find one false, say at which input.
  Laid BY PROGRAM, IN A SANDBOX (cutbox-rows.mjs): the forced cells as the released guide's own fill.sh prints them over the translation 13bda778411e4307… (all of the seat's roots in one cut). By AI agents, Wed Nov 11 2026. No macro, syntax, notation, axiom, sorry.
-/
import Derived.Test.YtafnnnhmplgkcaaDoorChecked
import GoSem.Claim
import GoSem.ClaimJoined
import GoSem.ClaimMapViews
import Derived.JoinedTies
import Derived.KernelRfl
namespace Go.Proofs.YtafnnnhmplgkcaaDoor
/- THE CELL 'sum', in the pinned program and in every row, IS THE sha256 OF THE DUMP (.gsa) THAT YtafnnnhmplgkcaaDoorProg.lean LOADS. Nothing in Lean hashes anything: it is a label: what it is worth is what the hold of that sum in a sandbox is worth. -/
noncomputable def Tryd.pinned : Pinned := { name := "ytafnnnhmplgkcaadoor", sum := "13bda778411e4307c76a5373d90f85273a9442a38860f0780d861c7ea4fd3c73", checked := Tryd.checked }
namespace Rows
def none {H : Type} : Left H := { results := [], args := [] }

/- WHAT THE LISTED PACKAGE-LEVEL VARIABLES READ AS WHEN THE CALL BEGINS. Each datum BY PROGRAM (the guide's laid-datum.mjs) off the statement by which the dump's own 'gosem.cut.vars' lays the variable. In a bare row this is a premise. The card (YtafnnnhmplgkcaaDoorCards.lean) ties it to the program's text. -/
def laid_hairsbreadth_format_table {H : Type} : DataW H := .agg [.agg [.lit (.int .i64 16), .lit (.int .i64 11), .lit (.int .i64 15)], .agg [.lit (.int .i64 32), .lit (.int .i64 24), .lit (.int .i64 127)], .agg [.lit (.int .i64 64), .lit (.int .i64 53), .lit (.int .i64 1023)], .agg [.lit (.int .i64 128), .lit (.int .i64 113), .lit (.int .i64 16383)]]

/-- 'hairsbreadthlaw22.SqrtOrder': WHATEVER THE INPUT: true; the input reads as it did. -/
def sqrtOrderSpec : ChangeSpec := { name := "sqrtOrder", fn := fun _ => fun
  | [d1, d2, d3, d4] => { results := [.lit (.bool true)], args := [d1, d2, d3, d4] }
  | _ => none }
def sqrtOrderRow : OpenClaim := { program := "ytafnnnhmplgkcaadoor", sum := "13bda778411e4307c76a5373d90f85273a9442a38860f0780d861c7ea4fd3c73", func := "hairsbreadth/hairsbreadthlaw22.SqrtOrder", spec := "sqrtOrder", inPlace := ["math/bits.Add64"], unfollowed := true, recurses := true, named := ["hairsbreadth/format.table"], apart := false, laid := [("hairsbreadth/format.table", laid_hairsbreadth_format_table)] }
def SqrtOrderSaid : Prop := sqrtOrderRow.holds Tryd.pinned (OpenSpec.ofChange sqrtOrderSpec)

/-- ITS FALSE NEIGHBOUR: 'it returns false'. Refute it at one input. -/
def sqrtOrderWrong : ChangeSpec := { name := "sqrtOrder", fn := fun _ => fun
  | [d1, d2, d3, d4] => { results := [.lit (.bool false)], args := [d1, d2, d3, d4] }
  | _ => none }
def SqrtOrderWrongFalsely : Prop := sqrtOrderRow.holds Tryd.pinned (OpenSpec.ofChange sqrtOrderWrong)

/-- 'hairsbreadthlaw22.SqrtNegative': WHATEVER THE INPUT: true; the input reads as it did. -/
def sqrtNegativeSpec : ChangeSpec := { name := "sqrtNegative", fn := fun _ => fun
  | [d1, d2, d3] => { results := [.lit (.bool true)], args := [d1, d2, d3] }
  | _ => none }
def sqrtNegativeRow : OpenClaim := { program := "ytafnnnhmplgkcaadoor", sum := "13bda778411e4307c76a5373d90f85273a9442a38860f0780d861c7ea4fd3c73", func := "hairsbreadth/hairsbreadthlaw22.SqrtNegative", spec := "sqrtNegative", inPlace := ["math/bits.Add64"], unfollowed := true, recurses := true, named := ["hairsbreadth/format.table"], apart := false, laid := [("hairsbreadth/format.table", laid_hairsbreadth_format_table)] }
def SqrtNegativeSaid : Prop := sqrtNegativeRow.holds Tryd.pinned (OpenSpec.ofChange sqrtNegativeSpec)

/-- ITS FALSE NEIGHBOUR: 'it returns false'. Refute it at one input. -/
def sqrtNegativeWrong : ChangeSpec := { name := "sqrtNegative", fn := fun _ => fun
  | [d1, d2, d3] => { results := [.lit (.bool false)], args := [d1, d2, d3] }
  | _ => none }
def SqrtNegativeWrongFalsely : Prop := sqrtNegativeRow.holds Tryd.pinned (OpenSpec.ofChange sqrtNegativeWrong)

/-- 'hairsbreadthlaw22.SqrtKnown': WHATEVER THE INPUT: true; the input reads as it did. -/
def sqrtKnownSpec : ChangeSpec := { name := "sqrtKnown", fn := fun _ => fun
  | [] => { results := [.lit (.bool true)], args := [] }
  | _ => none }
def sqrtKnownRow : OpenClaim := { program := "ytafnnnhmplgkcaadoor", sum := "13bda778411e4307c76a5373d90f85273a9442a38860f0780d861c7ea4fd3c73", func := "hairsbreadth/hairsbreadthlaw22.SqrtKnown", spec := "sqrtKnown", inPlace := ["math/bits.Add64"], unfollowed := true, recurses := true, named := ["hairsbreadth/format.table"], apart := false, laid := [("hairsbreadth/format.table", laid_hairsbreadth_format_table)] }
def SqrtKnownSaid : Prop := sqrtKnownRow.holds Tryd.pinned (OpenSpec.ofChange sqrtKnownSpec)

/-- ITS FALSE NEIGHBOUR: 'it returns false'. Refute it at one input. -/
def sqrtKnownWrong : ChangeSpec := { name := "sqrtKnown", fn := fun _ => fun
  | [] => { results := [.lit (.bool false)], args := [] }
  | _ => none }
def SqrtKnownWrongFalsely : Prop := sqrtKnownRow.holds Tryd.pinned (OpenSpec.ofChange sqrtKnownWrong)

/- THE SECOND FORM. 'bulk': how many values and letters a reading holds, each counted each time it is reached (what is shared counts as often as it is met; a slice's spare places count too). A statement '..UptoSaid' is the law's where the arguments, and the package variables that the reading takes, are together of bulk at most 1048576: NARROWER than '..Said'. Prove '..Said' where nothing that the law and all that it calls make is longer than what came in: it says more and counts as full. Else prove '..UptoSaid'. A law counts once. -/
mutual
def uptoBulk {H : Type} : DataW H → Nat
  | .lit (.string bytes) => bytes.length + 1
  | .lit _ => 1
  | .nil => 1
  | .ptr d => uptoBulk d + 1
  | .slice elems spare => uptoBulkAll elems + uptoBulkAll spare + 1
  | .agg parts => uptoBulkAll parts + 1
  | .iface _ d => uptoBulk d + 1
  | .map entries => uptoBulkEntries entries + 1
  | .held _ => 1
def uptoBulkAll {H : Type} : List (DataW H) → Nat
  | [] => 0
  | d :: r => uptoBulk d + uptoBulkAll r
def uptoBulkEntries {H : Type} : List (Lit × DataW H) → Nat
  | [] => 0
  | x :: r => uptoBulkEntry x + uptoBulkEntries r
def uptoBulkEntry {H : Type} : Lit × DataW H → Nat
  | (.string bytes, d) => bytes.length + uptoBulk d + 1
  | (_, d) => uptoBulk d + 1
 end
def uptoSmall : (H : Type) → List (DataW H) → Bool := fun _ ds => decide (uptoBulkAll ds ≤ 1048576)
def OpenSpec.upto (s : _root_.Go.ChangeSpec) : _root_.Go.OpenSpec := { _root_.Go.OpenSpec.ofChange s with cond := some uptoSmall }

/-- 'hairsbreadthlaw22.SqrtOrder', WHERE WHAT IT READS IS OF BULK AT MOST 1048576: true; the input reads as it did. -/
def sqrtOrderUptoRow : OpenClaim := { program := "ytafnnnhmplgkcaadoor", sum := "13bda778411e4307c76a5373d90f85273a9442a38860f0780d861c7ea4fd3c73", func := "hairsbreadth/hairsbreadthlaw22.SqrtOrder", spec := "sqrtOrder", inPlace := ["math/bits.Add64"], unfollowed := true, recurses := true, named := ["hairsbreadth/format.table"], apart := false, laid := [("hairsbreadth/format.table", laid_hairsbreadth_format_table)], narrowed := true }
def SqrtOrderUptoSaid : Prop := sqrtOrderUptoRow.holds Tryd.pinned (OpenSpec.upto sqrtOrderSpec)

/-- 'hairsbreadthlaw22.SqrtNegative', WHERE WHAT IT READS IS OF BULK AT MOST 1048576: true; the input reads as it did. -/
def sqrtNegativeUptoRow : OpenClaim := { program := "ytafnnnhmplgkcaadoor", sum := "13bda778411e4307c76a5373d90f85273a9442a38860f0780d861c7ea4fd3c73", func := "hairsbreadth/hairsbreadthlaw22.SqrtNegative", spec := "sqrtNegative", inPlace := ["math/bits.Add64"], unfollowed := true, recurses := true, named := ["hairsbreadth/format.table"], apart := false, laid := [("hairsbreadth/format.table", laid_hairsbreadth_format_table)], narrowed := true }
def SqrtNegativeUptoSaid : Prop := sqrtNegativeUptoRow.holds Tryd.pinned (OpenSpec.upto sqrtNegativeSpec)

/-- 'hairsbreadthlaw22.SqrtKnown', WHERE WHAT IT READS IS OF BULK AT MOST 1048576: true; the input reads as it did. -/
def sqrtKnownUptoRow : OpenClaim := { program := "ytafnnnhmplgkcaadoor", sum := "13bda778411e4307c76a5373d90f85273a9442a38860f0780d861c7ea4fd3c73", func := "hairsbreadth/hairsbreadthlaw22.SqrtKnown", spec := "sqrtKnown", inPlace := ["math/bits.Add64"], unfollowed := true, recurses := true, named := ["hairsbreadth/format.table"], apart := false, laid := [("hairsbreadth/format.table", laid_hairsbreadth_format_table)], narrowed := true }
def SqrtKnownUptoSaid : Prop := sqrtKnownUptoRow.holds Tryd.pinned (OpenSpec.upto sqrtKnownSpec)

end Rows
end Go.Proofs.YtafnnnhmplgkcaaDoor
