/-
  NARROWER THAN 'FOR EVERY INPUT', by the rows' own cells (each row's printed sentence says how): FmaNan: laid · FmaKnown: laid · MulOne: laid · FmaTurn: laid · FmaProduct: laid · FmaRest: laid · FmaSum: laid.
  DERIVED. THE GIVEN ROWS OF THIS SEAT. 7 by the template 'for every input the law returns true; each argument reads behind the call as it read before'; 0 by the template 'total and deterministic' (their statements: YtnknpgmnejndeaaGreatDoorTotals.lean).
  GIVEN WITH THE SEED: the statements are not yours to turn. If you find one false, say at which input.
  Laid BY PROGRAM, IN A SANDBOX (cutbox-rows.mjs): the forced cells as the released guide's own fill.sh prints them over the translation abb3fb979ab43e52… (all of the seat's roots in one cut). By AI agents, Wed Nov 11 2026. No macro, syntax, notation, axiom, sorry.
-/
import Derived.Test.YtnknpgmnejndeaaGreatDoorChecked
import GoSem.Claim
import GoSem.ClaimJoined
import GoSem.ClaimMapViews
import Derived.JoinedTies
import Derived.KernelRfl
namespace Go.Proofs.YtnknpgmnejndeaaGreatDoor
/- THE CELL 'sum', in the pinned program and in every row, IS THE sha256 OF THE DUMP (.gsa) THAT YtnknpgmnejndeaaGreatDoorProg.lean LOADS. Nothing in Lean hashes anything: it is a label: what it is worth is what the hold of that sum in a sandbox is worth. -/
noncomputable def Tryz.pinned : Pinned := { name := "ytnknpgmnejndeaagreatdoor", sum := "abb3fb979ab43e5288132200f3c51e5270f171d74a2107a204492995336e7252", checked := Tryz.checked }
namespace Rows
def none {H : Type} : Left H := { results := [], args := [] }

/- WHAT THE LISTED PACKAGE-LEVEL VARIABLES READ AS WHEN THE CALL BEGINS. Each datum BY PROGRAM (the guide's laid-datum.mjs) off the statement by which the dump's own 'gosem.cut.vars' lays the variable. In a bare row this is a premise. The card (YtnknpgmnejndeaaGreatDoorCards.lean) ties it to the program's text. -/
def laid_hairsbreadth_format_table {H : Type} : DataW H := .agg [.agg [.lit (.int .i64 16), .lit (.int .i64 11), .lit (.int .i64 15)], .agg [.lit (.int .i64 32), .lit (.int .i64 24), .lit (.int .i64 127)], .agg [.lit (.int .i64 64), .lit (.int .i64 53), .lit (.int .i64 1023)], .agg [.lit (.int .i64 128), .lit (.int .i64 113), .lit (.int .i64 16383)]]

/-- 'hairsbreadthlaw20.FmaNan': WHATEVER THE INPUT: true; the input reads as it did. -/
def fmaNanSpec : ChangeSpec := { name := "fmaNan", fn := fun _ => fun
  | [d1, d2, d3, d4, d5] => { results := [.lit (.bool true)], args := [d1, d2, d3, d4, d5] }
  | _ => none }
def fmaNanRow : OpenClaim := { program := "ytnknpgmnejndeaagreatdoor", sum := "abb3fb979ab43e5288132200f3c51e5270f171d74a2107a204492995336e7252", func := "hairsbreadth/hairsbreadthlaw20.FmaNan", spec := "fmaNan", inPlace := ["math/bits.Add64", "math/bits.Sub64"], unfollowed := true, recurses := true, named := ["hairsbreadth/format.table"], apart := false, laid := [("hairsbreadth/format.table", laid_hairsbreadth_format_table)] }
def FmaNanSaid : Prop := fmaNanRow.holds Tryz.pinned (OpenSpec.ofChange fmaNanSpec)

/-- ITS FALSE NEIGHBOUR: 'it returns false'. Refute it at one input. -/
def fmaNanWrong : ChangeSpec := { name := "fmaNan", fn := fun _ => fun
  | [d1, d2, d3, d4, d5] => { results := [.lit (.bool false)], args := [d1, d2, d3, d4, d5] }
  | _ => none }
def FmaNanWrongFalsely : Prop := fmaNanRow.holds Tryz.pinned (OpenSpec.ofChange fmaNanWrong)

/-- 'hairsbreadthlaw20.FmaKnown': WHATEVER THE INPUT: true; the input reads as it did. -/
def fmaKnownSpec : ChangeSpec := { name := "fmaKnown", fn := fun _ => fun
  | [] => { results := [.lit (.bool true)], args := [] }
  | _ => none }
def fmaKnownRow : OpenClaim := { program := "ytnknpgmnejndeaagreatdoor", sum := "abb3fb979ab43e5288132200f3c51e5270f171d74a2107a204492995336e7252", func := "hairsbreadth/hairsbreadthlaw20.FmaKnown", spec := "fmaKnown", inPlace := ["math/bits.Add64", "math/bits.Sub64"], unfollowed := true, recurses := true, named := ["hairsbreadth/format.table"], apart := false, laid := [("hairsbreadth/format.table", laid_hairsbreadth_format_table)] }
def FmaKnownSaid : Prop := fmaKnownRow.holds Tryz.pinned (OpenSpec.ofChange fmaKnownSpec)

/-- ITS FALSE NEIGHBOUR: 'it returns false'. Refute it at one input. -/
def fmaKnownWrong : ChangeSpec := { name := "fmaKnown", fn := fun _ => fun
  | [] => { results := [.lit (.bool false)], args := [] }
  | _ => none }
def FmaKnownWrongFalsely : Prop := fmaKnownRow.holds Tryz.pinned (OpenSpec.ofChange fmaKnownWrong)

/-- 'hairsbreadthlaw19.MulOne': WHATEVER THE INPUT: true; the input reads as it did. -/
def mulOneSpec : ChangeSpec := { name := "mulOne", fn := fun _ => fun
  | [d1, d2, d3] => { results := [.lit (.bool true)], args := [d1, d2, d3] }
  | _ => none }
def mulOneRow : OpenClaim := { program := "ytnknpgmnejndeaagreatdoor", sum := "abb3fb979ab43e5288132200f3c51e5270f171d74a2107a204492995336e7252", func := "hairsbreadth/hairsbreadthlaw19.MulOne", spec := "mulOne", inPlace := ["math/bits.Add64", "math/bits.Sub64"], unfollowed := true, recurses := true, named := ["hairsbreadth/format.table"], apart := false, laid := [("hairsbreadth/format.table", laid_hairsbreadth_format_table)] }
def MulOneSaid : Prop := mulOneRow.holds Tryz.pinned (OpenSpec.ofChange mulOneSpec)

/-- ITS FALSE NEIGHBOUR: 'it returns false'. Refute it at one input. -/
def mulOneWrong : ChangeSpec := { name := "mulOne", fn := fun _ => fun
  | [d1, d2, d3] => { results := [.lit (.bool false)], args := [d1, d2, d3] }
  | _ => none }
def MulOneWrongFalsely : Prop := mulOneRow.holds Tryz.pinned (OpenSpec.ofChange mulOneWrong)

/-- 'hairsbreadthlaw20.FmaTurn': WHATEVER THE INPUT: true; the input reads as it did. -/
def fmaTurnSpec : ChangeSpec := { name := "fmaTurn", fn := fun _ => fun
  | [d1, d2, d3, d4, d5] => { results := [.lit (.bool true)], args := [d1, d2, d3, d4, d5] }
  | _ => none }
def fmaTurnRow : OpenClaim := { program := "ytnknpgmnejndeaagreatdoor", sum := "abb3fb979ab43e5288132200f3c51e5270f171d74a2107a204492995336e7252", func := "hairsbreadth/hairsbreadthlaw20.FmaTurn", spec := "fmaTurn", inPlace := ["math/bits.Add64", "math/bits.Sub64"], unfollowed := true, recurses := true, named := ["hairsbreadth/format.table"], apart := false, laid := [("hairsbreadth/format.table", laid_hairsbreadth_format_table)] }
def FmaTurnSaid : Prop := fmaTurnRow.holds Tryz.pinned (OpenSpec.ofChange fmaTurnSpec)

/-- ITS FALSE NEIGHBOUR: 'it returns false'. Refute it at one input. -/
def fmaTurnWrong : ChangeSpec := { name := "fmaTurn", fn := fun _ => fun
  | [d1, d2, d3, d4, d5] => { results := [.lit (.bool false)], args := [d1, d2, d3, d4, d5] }
  | _ => none }
def FmaTurnWrongFalsely : Prop := fmaTurnRow.holds Tryz.pinned (OpenSpec.ofChange fmaTurnWrong)

/-- 'hairsbreadthlaw20.FmaProduct': WHATEVER THE INPUT: true; the input reads as it did. -/
def fmaProductSpec : ChangeSpec := { name := "fmaProduct", fn := fun _ => fun
  | [d1, d2, d3, d4, d5] => { results := [.lit (.bool true)], args := [d1, d2, d3, d4, d5] }
  | _ => none }
def fmaProductRow : OpenClaim := { program := "ytnknpgmnejndeaagreatdoor", sum := "abb3fb979ab43e5288132200f3c51e5270f171d74a2107a204492995336e7252", func := "hairsbreadth/hairsbreadthlaw20.FmaProduct", spec := "fmaProduct", inPlace := ["math/bits.Add64", "math/bits.Sub64"], unfollowed := true, recurses := true, named := ["hairsbreadth/format.table"], apart := false, laid := [("hairsbreadth/format.table", laid_hairsbreadth_format_table)] }
def FmaProductSaid : Prop := fmaProductRow.holds Tryz.pinned (OpenSpec.ofChange fmaProductSpec)

/-- ITS FALSE NEIGHBOUR: 'it returns false'. Refute it at one input. -/
def fmaProductWrong : ChangeSpec := { name := "fmaProduct", fn := fun _ => fun
  | [d1, d2, d3, d4, d5] => { results := [.lit (.bool false)], args := [d1, d2, d3, d4, d5] }
  | _ => none }
def FmaProductWrongFalsely : Prop := fmaProductRow.holds Tryz.pinned (OpenSpec.ofChange fmaProductWrong)

/-- 'hairsbreadthlaw20.FmaRest': WHATEVER THE INPUT: true; the input reads as it did. -/
def fmaRestSpec : ChangeSpec := { name := "fmaRest", fn := fun _ => fun
  | [d1, d2, d3, d4] => { results := [.lit (.bool true)], args := [d1, d2, d3, d4] }
  | _ => none }
def fmaRestRow : OpenClaim := { program := "ytnknpgmnejndeaagreatdoor", sum := "abb3fb979ab43e5288132200f3c51e5270f171d74a2107a204492995336e7252", func := "hairsbreadth/hairsbreadthlaw20.FmaRest", spec := "fmaRest", inPlace := ["math/bits.Add64", "math/bits.Sub64"], unfollowed := true, recurses := true, named := ["hairsbreadth/format.table"], apart := false, laid := [("hairsbreadth/format.table", laid_hairsbreadth_format_table)] }
def FmaRestSaid : Prop := fmaRestRow.holds Tryz.pinned (OpenSpec.ofChange fmaRestSpec)

/-- ITS FALSE NEIGHBOUR: 'it returns false'. Refute it at one input. -/
def fmaRestWrong : ChangeSpec := { name := "fmaRest", fn := fun _ => fun
  | [d1, d2, d3, d4] => { results := [.lit (.bool false)], args := [d1, d2, d3, d4] }
  | _ => none }
def FmaRestWrongFalsely : Prop := fmaRestRow.holds Tryz.pinned (OpenSpec.ofChange fmaRestWrong)

/-- 'hairsbreadthlaw20.FmaSum': WHATEVER THE INPUT: true; the input reads as it did. -/
def fmaSumSpec : ChangeSpec := { name := "fmaSum", fn := fun _ => fun
  | [d1, d2, d3, d4] => { results := [.lit (.bool true)], args := [d1, d2, d3, d4] }
  | _ => none }
def fmaSumRow : OpenClaim := { program := "ytnknpgmnejndeaagreatdoor", sum := "abb3fb979ab43e5288132200f3c51e5270f171d74a2107a204492995336e7252", func := "hairsbreadth/hairsbreadthlaw20.FmaSum", spec := "fmaSum", inPlace := ["math/bits.Add64", "math/bits.Sub64"], unfollowed := true, recurses := true, named := ["hairsbreadth/format.table"], apart := false, laid := [("hairsbreadth/format.table", laid_hairsbreadth_format_table)] }
def FmaSumSaid : Prop := fmaSumRow.holds Tryz.pinned (OpenSpec.ofChange fmaSumSpec)

/-- ITS FALSE NEIGHBOUR: 'it returns false'. Refute it at one input. -/
def fmaSumWrong : ChangeSpec := { name := "fmaSum", fn := fun _ => fun
  | [d1, d2, d3, d4] => { results := [.lit (.bool false)], args := [d1, d2, d3, d4] }
  | _ => none }
def FmaSumWrongFalsely : Prop := fmaSumRow.holds Tryz.pinned (OpenSpec.ofChange fmaSumWrong)

/- THE SECOND FORM. 'bulk': how many values and letters a reading holds, each counted each time it is reached (what is shared counts as often as it is met; a slice's spare places count too). A statement '..UptoSaid' is the law's where the arguments, and the package variables that the reading takes, are together of bulk at most 1048576: NARROWER than '..Said'. Prove '..Said' where nothing that the law and all that it calls make is longer than what came in: it says more and counts as full. Else prove '..UptoSaid'. A law counts once. -/
mutual
def uptoBulk {H : Type} : DataW H → Nat
  | .lit (.string bytes) => bytes.length + 1
  | .lit _ => 1
  | .nil => 1
  | .ptr d => uptoBulk d + 1
  | .slice elems spare => uptoBulkAll elems + uptoBulkAll spare + 1
  | .agg parts => uptoBulkAll parts + 1
  | .iface _ d => uptoBulk d + 1
  | .map entries => uptoBulkEntries entries + 1
  | .held _ => 1
def uptoBulkAll {H : Type} : List (DataW H) → Nat
  | [] => 0
  | d :: r => uptoBulk d + uptoBulkAll r
def uptoBulkEntries {H : Type} : List (Lit × DataW H) → Nat
  | [] => 0
  | x :: r => uptoBulkEntry x + uptoBulkEntries r
def uptoBulkEntry {H : Type} : Lit × DataW H → Nat
  | (.string bytes, d) => bytes.length + uptoBulk d + 1
  | (_, d) => uptoBulk d + 1
 end
def uptoSmall : (H : Type) → List (DataW H) → Bool := fun _ ds => decide (uptoBulkAll ds ≤ 1048576)
def OpenSpec.upto (s : _root_.Go.ChangeSpec) : _root_.Go.OpenSpec := { _root_.Go.OpenSpec.ofChange s with cond := some uptoSmall }

/-- 'hairsbreadthlaw20.FmaNan', WHERE WHAT IT READS IS OF BULK AT MOST 1048576: true; the input reads as it did. -/
def fmaNanUptoRow : OpenClaim := { program := "ytnknpgmnejndeaagreatdoor", sum := "abb3fb979ab43e5288132200f3c51e5270f171d74a2107a204492995336e7252", func := "hairsbreadth/hairsbreadthlaw20.FmaNan", spec := "fmaNan", inPlace := ["math/bits.Add64", "math/bits.Sub64"], unfollowed := true, recurses := true, named := ["hairsbreadth/format.table"], apart := false, laid := [("hairsbreadth/format.table", laid_hairsbreadth_format_table)], narrowed := true }
def FmaNanUptoSaid : Prop := fmaNanUptoRow.holds Tryz.pinned (OpenSpec.upto fmaNanSpec)

/-- 'hairsbreadthlaw20.FmaKnown', WHERE WHAT IT READS IS OF BULK AT MOST 1048576: true; the input reads as it did. -/
def fmaKnownUptoRow : OpenClaim := { program := "ytnknpgmnejndeaagreatdoor", sum := "abb3fb979ab43e5288132200f3c51e5270f171d74a2107a204492995336e7252", func := "hairsbreadth/hairsbreadthlaw20.FmaKnown", spec := "fmaKnown", inPlace := ["math/bits.Add64", "math/bits.Sub64"], unfollowed := true, recurses := true, named := ["hairsbreadth/format.table"], apart := false, laid := [("hairsbreadth/format.table", laid_hairsbreadth_format_table)], narrowed := true }
def FmaKnownUptoSaid : Prop := fmaKnownUptoRow.holds Tryz.pinned (OpenSpec.upto fmaKnownSpec)

/-- 'hairsbreadthlaw19.MulOne', WHERE WHAT IT READS IS OF BULK AT MOST 1048576: true; the input reads as it did. -/
def mulOneUptoRow : OpenClaim := { program := "ytnknpgmnejndeaagreatdoor", sum := "abb3fb979ab43e5288132200f3c51e5270f171d74a2107a204492995336e7252", func := "hairsbreadth/hairsbreadthlaw19.MulOne", spec := "mulOne", inPlace := ["math/bits.Add64", "math/bits.Sub64"], unfollowed := true, recurses := true, named := ["hairsbreadth/format.table"], apart := false, laid := [("hairsbreadth/format.table", laid_hairsbreadth_format_table)], narrowed := true }
def MulOneUptoSaid : Prop := mulOneUptoRow.holds Tryz.pinned (OpenSpec.upto mulOneSpec)

/-- 'hairsbreadthlaw20.FmaTurn', WHERE WHAT IT READS IS OF BULK AT MOST 1048576: true; the input reads as it did. -/
def fmaTurnUptoRow : OpenClaim := { program := "ytnknpgmnejndeaagreatdoor", sum := "abb3fb979ab43e5288132200f3c51e5270f171d74a2107a204492995336e7252", func := "hairsbreadth/hairsbreadthlaw20.FmaTurn", spec := "fmaTurn", inPlace := ["math/bits.Add64", "math/bits.Sub64"], unfollowed := true, recurses := true, named := ["hairsbreadth/format.table"], apart := false, laid := [("hairsbreadth/format.table", laid_hairsbreadth_format_table)], narrowed := true }
def FmaTurnUptoSaid : Prop := fmaTurnUptoRow.holds Tryz.pinned (OpenSpec.upto fmaTurnSpec)

/-- 'hairsbreadthlaw20.FmaProduct', WHERE WHAT IT READS IS OF BULK AT MOST 1048576: true; the input reads as it did. -/
def fmaProductUptoRow : OpenClaim := { program := "ytnknpgmnejndeaagreatdoor", sum := "abb3fb979ab43e5288132200f3c51e5270f171d74a2107a204492995336e7252", func := "hairsbreadth/hairsbreadthlaw20.FmaProduct", spec := "fmaProduct", inPlace := ["math/bits.Add64", "math/bits.Sub64"], unfollowed := true, recurses := true, named := ["hairsbreadth/format.table"], apart := false, laid := [("hairsbreadth/format.table", laid_hairsbreadth_format_table)], narrowed := true }
def FmaProductUptoSaid : Prop := fmaProductUptoRow.holds Tryz.pinned (OpenSpec.upto fmaProductSpec)

/-- 'hairsbreadthlaw20.FmaRest', WHERE WHAT IT READS IS OF BULK AT MOST 1048576: true; the input reads as it did. -/
def fmaRestUptoRow : OpenClaim := { program := "ytnknpgmnejndeaagreatdoor", sum := "abb3fb979ab43e5288132200f3c51e5270f171d74a2107a204492995336e7252", func := "hairsbreadth/hairsbreadthlaw20.FmaRest", spec := "fmaRest", inPlace := ["math/bits.Add64", "math/bits.Sub64"], unfollowed := true, recurses := true, named := ["hairsbreadth/format.table"], apart := false, laid := [("hairsbreadth/format.table", laid_hairsbreadth_format_table)], narrowed := true }
def FmaRestUptoSaid : Prop := fmaRestUptoRow.holds Tryz.pinned (OpenSpec.upto fmaRestSpec)

/-- 'hairsbreadthlaw20.FmaSum', WHERE WHAT IT READS IS OF BULK AT MOST 1048576: true; the input reads as it did. -/
def fmaSumUptoRow : OpenClaim := { program := "ytnknpgmnejndeaagreatdoor", sum := "abb3fb979ab43e5288132200f3c51e5270f171d74a2107a204492995336e7252", func := "hairsbreadth/hairsbreadthlaw20.FmaSum", spec := "fmaSum", inPlace := ["math/bits.Add64", "math/bits.Sub64"], unfollowed := true, recurses := true, named := ["hairsbreadth/format.table"], apart := false, laid := [("hairsbreadth/format.table", laid_hairsbreadth_format_table)], narrowed := true }
def FmaSumUptoSaid : Prop := fmaSumUptoRow.holds Tryz.pinned (OpenSpec.upto fmaSumSpec)

end Rows
end Go.Proofs.YtnknpgmnejndeaaGreatDoor
