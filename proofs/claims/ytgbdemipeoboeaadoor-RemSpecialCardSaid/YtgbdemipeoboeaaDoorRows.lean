/-
  NARROWER THAN 'FOR EVERY INPUT', by the rows' own cells (each row's printed sentence says how): DivOne: laid · DivSpecial: laid · DivKnown: laid · DivTurn: laid · SqrtOrder: laid · SqrtNegative: laid · SqrtKnown: laid · RemSpecial: laid · RemKnown: laid.
  DERIVED. THE GIVEN ROWS OF THIS SEAT. 9 by the template 'for every input the law returns true; each argument reads behind the call as it read before'; 0 by the template 'total and deterministic' (their statements: YtgbdemipeoboeaaDoorTotals.lean).
  GIVEN WITH THE SEED: the statements are not yours to turn. If you find one false, say at which input.
  Laid BY PROGRAM, IN A SANDBOX (cutbox-rows.mjs): the forced cells as the released guide's own fill.sh prints them over the translation 3b352b87cee3be8a… (all of the seat's roots in one cut). By AI agents, Wed Nov 11 2026. No macro, syntax, notation, axiom, sorry.
-/
import Derived.Test.YtgbdemipeoboeaaDoorChecked
import GoSem.Claim
import GoSem.ClaimJoined
import GoSem.ClaimMapViews
import Derived.JoinedTies
import Derived.KernelRfl
namespace Go.Proofs.YtgbdemipeoboeaaDoor
/- THE CELL 'sum', in the pinned program and in every row, IS THE sha256 OF THE DUMP (.gsa) THAT YtgbdemipeoboeaaDoorProg.lean LOADS. Nothing in Lean hashes anything: it is a label: what it is worth is what the hold of that sum in a sandbox is worth. -/
noncomputable def Tryd.pinned : Pinned := { name := "ytgbdemipeoboeaadoor", sum := "3b352b87cee3be8a747f452505b5534e34348e34e81e745bccc82f21e9bbf3d0", checked := Tryd.checked }
namespace Rows
def none {H : Type} : Left H := { results := [], args := [] }

/- WHAT THE LISTED PACKAGE-LEVEL VARIABLES READ AS WHEN THE CALL BEGINS. Each datum BY PROGRAM (the guide's laid-datum.mjs) off the statement by which the dump's own 'gosem.cut.vars' lays the variable. In a bare row this is a premise. The card (YtgbdemipeoboeaaDoorCards.lean) ties it to the program's text. -/
def laid_hairsbreadth_format_table {H : Type} : DataW H := .agg [.agg [.lit (.int .i64 16), .lit (.int .i64 11), .lit (.int .i64 15)], .agg [.lit (.int .i64 32), .lit (.int .i64 24), .lit (.int .i64 127)], .agg [.lit (.int .i64 64), .lit (.int .i64 53), .lit (.int .i64 1023)], .agg [.lit (.int .i64 128), .lit (.int .i64 113), .lit (.int .i64 16383)]]

/-- 'hairsbreadthlaw21.DivOne': WHATEVER THE INPUT: true; the input reads as it did. -/
def divOneSpec : ChangeSpec := { name := "divOne", fn := fun _ => fun
  | [d1, d2, d3] => { results := [.lit (.bool true)], args := [d1, d2, d3] }
  | _ => none }
def divOneRow : OpenClaim := { program := "ytgbdemipeoboeaadoor", sum := "3b352b87cee3be8a747f452505b5534e34348e34e81e745bccc82f21e9bbf3d0", func := "hairsbreadth/hairsbreadthlaw21.DivOne", spec := "divOne", inPlace := ["math/bits.Add64", "math/bits.Sub64"], unfollowed := true, recurses := true, named := ["hairsbreadth/format.table"], apart := false, laid := [("hairsbreadth/format.table", laid_hairsbreadth_format_table)] }
def DivOneSaid : Prop := divOneRow.holds Tryd.pinned (OpenSpec.ofChange divOneSpec)

/-- ITS FALSE NEIGHBOUR: 'it returns false'. Refute it at one input. -/
def divOneWrong : ChangeSpec := { name := "divOne", fn := fun _ => fun
  | [d1, d2, d3] => { results := [.lit (.bool false)], args := [d1, d2, d3] }
  | _ => none }
def DivOneWrongFalsely : Prop := divOneRow.holds Tryd.pinned (OpenSpec.ofChange divOneWrong)

/-- 'hairsbreadthlaw21.DivSpecial': WHATEVER THE INPUT: true; the input reads as it did. -/
def divSpecialSpec : ChangeSpec := { name := "divSpecial", fn := fun _ => fun
  | [d1, d2, d3, d4] => { results := [.lit (.bool true)], args := [d1, d2, d3, d4] }
  | _ => none }
def divSpecialRow : OpenClaim := { program := "ytgbdemipeoboeaadoor", sum := "3b352b87cee3be8a747f452505b5534e34348e34e81e745bccc82f21e9bbf3d0", func := "hairsbreadth/hairsbreadthlaw21.DivSpecial", spec := "divSpecial", inPlace := ["math/bits.Add64", "math/bits.Sub64"], unfollowed := true, recurses := true, named := ["hairsbreadth/format.table"], apart := false, laid := [("hairsbreadth/format.table", laid_hairsbreadth_format_table)] }
def DivSpecialSaid : Prop := divSpecialRow.holds Tryd.pinned (OpenSpec.ofChange divSpecialSpec)

/-- ITS FALSE NEIGHBOUR: 'it returns false'. Refute it at one input. -/
def divSpecialWrong : ChangeSpec := { name := "divSpecial", fn := fun _ => fun
  | [d1, d2, d3, d4] => { results := [.lit (.bool false)], args := [d1, d2, d3, d4] }
  | _ => none }
def DivSpecialWrongFalsely : Prop := divSpecialRow.holds Tryd.pinned (OpenSpec.ofChange divSpecialWrong)

/-- 'hairsbreadthlaw21.DivKnown': WHATEVER THE INPUT: true; the input reads as it did. -/
def divKnownSpec : ChangeSpec := { name := "divKnown", fn := fun _ => fun
  | [] => { results := [.lit (.bool true)], args := [] }
  | _ => none }
def divKnownRow : OpenClaim := { program := "ytgbdemipeoboeaadoor", sum := "3b352b87cee3be8a747f452505b5534e34348e34e81e745bccc82f21e9bbf3d0", func := "hairsbreadth/hairsbreadthlaw21.DivKnown", spec := "divKnown", inPlace := ["math/bits.Add64", "math/bits.Sub64"], unfollowed := true, recurses := true, named := ["hairsbreadth/format.table"], apart := false, laid := [("hairsbreadth/format.table", laid_hairsbreadth_format_table)] }
def DivKnownSaid : Prop := divKnownRow.holds Tryd.pinned (OpenSpec.ofChange divKnownSpec)

/-- ITS FALSE NEIGHBOUR: 'it returns false'. Refute it at one input. -/
def divKnownWrong : ChangeSpec := { name := "divKnown", fn := fun _ => fun
  | [] => { results := [.lit (.bool false)], args := [] }
  | _ => none }
def DivKnownWrongFalsely : Prop := divKnownRow.holds Tryd.pinned (OpenSpec.ofChange divKnownWrong)

/-- 'hairsbreadthlaw21.DivTurn': WHATEVER THE INPUT: true; the input reads as it did. -/
def divTurnSpec : ChangeSpec := { name := "divTurn", fn := fun _ => fun
  | [d1, d2, d3, d4] => { results := [.lit (.bool true)], args := [d1, d2, d3, d4] }
  | _ => none }
def divTurnRow : OpenClaim := { program := "ytgbdemipeoboeaadoor", sum := "3b352b87cee3be8a747f452505b5534e34348e34e81e745bccc82f21e9bbf3d0", func := "hairsbreadth/hairsbreadthlaw21.DivTurn", spec := "divTurn", inPlace := ["math/bits.Add64", "math/bits.Sub64"], unfollowed := true, recurses := true, named := ["hairsbreadth/format.table"], apart := false, laid := [("hairsbreadth/format.table", laid_hairsbreadth_format_table)] }
def DivTurnSaid : Prop := divTurnRow.holds Tryd.pinned (OpenSpec.ofChange divTurnSpec)

/-- ITS FALSE NEIGHBOUR: 'it returns false'. Refute it at one input. -/
def divTurnWrong : ChangeSpec := { name := "divTurn", fn := fun _ => fun
  | [d1, d2, d3, d4] => { results := [.lit (.bool false)], args := [d1, d2, d3, d4] }
  | _ => none }
def DivTurnWrongFalsely : Prop := divTurnRow.holds Tryd.pinned (OpenSpec.ofChange divTurnWrong)

/-- 'hairsbreadthlaw22.SqrtOrder': WHATEVER THE INPUT: true; the input reads as it did. -/
def sqrtOrderSpec : ChangeSpec := { name := "sqrtOrder", fn := fun _ => fun
  | [d1, d2, d3, d4] => { results := [.lit (.bool true)], args := [d1, d2, d3, d4] }
  | _ => none }
def sqrtOrderRow : OpenClaim := { program := "ytgbdemipeoboeaadoor", sum := "3b352b87cee3be8a747f452505b5534e34348e34e81e745bccc82f21e9bbf3d0", func := "hairsbreadth/hairsbreadthlaw22.SqrtOrder", spec := "sqrtOrder", inPlace := ["math/bits.Add64"], unfollowed := true, recurses := true, named := ["hairsbreadth/format.table"], apart := false, laid := [("hairsbreadth/format.table", laid_hairsbreadth_format_table)] }
def SqrtOrderSaid : Prop := sqrtOrderRow.holds Tryd.pinned (OpenSpec.ofChange sqrtOrderSpec)

/-- ITS FALSE NEIGHBOUR: 'it returns false'. Refute it at one input. -/
def sqrtOrderWrong : ChangeSpec := { name := "sqrtOrder", fn := fun _ => fun
  | [d1, d2, d3, d4] => { results := [.lit (.bool false)], args := [d1, d2, d3, d4] }
  | _ => none }
def SqrtOrderWrongFalsely : Prop := sqrtOrderRow.holds Tryd.pinned (OpenSpec.ofChange sqrtOrderWrong)

/-- 'hairsbreadthlaw22.SqrtNegative': WHATEVER THE INPUT: true; the input reads as it did. -/
def sqrtNegativeSpec : ChangeSpec := { name := "sqrtNegative", fn := fun _ => fun
  | [d1, d2, d3] => { results := [.lit (.bool true)], args := [d1, d2, d3] }
  | _ => none }
def sqrtNegativeRow : OpenClaim := { program := "ytgbdemipeoboeaadoor", sum := "3b352b87cee3be8a747f452505b5534e34348e34e81e745bccc82f21e9bbf3d0", func := "hairsbreadth/hairsbreadthlaw22.SqrtNegative", spec := "sqrtNegative", inPlace := ["math/bits.Add64"], unfollowed := true, recurses := true, named := ["hairsbreadth/format.table"], apart := false, laid := [("hairsbreadth/format.table", laid_hairsbreadth_format_table)] }
def SqrtNegativeSaid : Prop := sqrtNegativeRow.holds Tryd.pinned (OpenSpec.ofChange sqrtNegativeSpec)

/-- ITS FALSE NEIGHBOUR: 'it returns false'. Refute it at one input. -/
def sqrtNegativeWrong : ChangeSpec := { name := "sqrtNegative", fn := fun _ => fun
  | [d1, d2, d3] => { results := [.lit (.bool false)], args := [d1, d2, d3] }
  | _ => none }
def SqrtNegativeWrongFalsely : Prop := sqrtNegativeRow.holds Tryd.pinned (OpenSpec.ofChange sqrtNegativeWrong)

/-- 'hairsbreadthlaw22.SqrtKnown': WHATEVER THE INPUT: true; the input reads as it did. -/
def sqrtKnownSpec : ChangeSpec := { name := "sqrtKnown", fn := fun _ => fun
  | [] => { results := [.lit (.bool true)], args := [] }
  | _ => none }
def sqrtKnownRow : OpenClaim := { program := "ytgbdemipeoboeaadoor", sum := "3b352b87cee3be8a747f452505b5534e34348e34e81e745bccc82f21e9bbf3d0", func := "hairsbreadth/hairsbreadthlaw22.SqrtKnown", spec := "sqrtKnown", inPlace := ["math/bits.Add64"], unfollowed := true, recurses := true, named := ["hairsbreadth/format.table"], apart := false, laid := [("hairsbreadth/format.table", laid_hairsbreadth_format_table)] }
def SqrtKnownSaid : Prop := sqrtKnownRow.holds Tryd.pinned (OpenSpec.ofChange sqrtKnownSpec)

/-- ITS FALSE NEIGHBOUR: 'it returns false'. Refute it at one input. -/
def sqrtKnownWrong : ChangeSpec := { name := "sqrtKnown", fn := fun _ => fun
  | [] => { results := [.lit (.bool false)], args := [] }
  | _ => none }
def SqrtKnownWrongFalsely : Prop := sqrtKnownRow.holds Tryd.pinned (OpenSpec.ofChange sqrtKnownWrong)

/-- 'hairsbreadthlaw23.RemSpecial': WHATEVER THE INPUT: true; the input reads as it did. -/
def remSpecialSpec : ChangeSpec := { name := "remSpecial", fn := fun _ => fun
  | [d1, d2, d3] => { results := [.lit (.bool true)], args := [d1, d2, d3] }
  | _ => none }
def remSpecialRow : OpenClaim := { program := "ytgbdemipeoboeaadoor", sum := "3b352b87cee3be8a747f452505b5534e34348e34e81e745bccc82f21e9bbf3d0", func := "hairsbreadth/hairsbreadthlaw23.RemSpecial", spec := "remSpecial", inPlace := ["math/bits.Add64", "math/bits.Sub64"], unfollowed := true, recurses := true, named := ["hairsbreadth/format.table"], apart := false, laid := [("hairsbreadth/format.table", laid_hairsbreadth_format_table)] }
def RemSpecialSaid : Prop := remSpecialRow.holds Tryd.pinned (OpenSpec.ofChange remSpecialSpec)

/-- ITS FALSE NEIGHBOUR: 'it returns false'. Refute it at one input. -/
def remSpecialWrong : ChangeSpec := { name := "remSpecial", fn := fun _ => fun
  | [d1, d2, d3] => { results := [.lit (.bool false)], args := [d1, d2, d3] }
  | _ => none }
def RemSpecialWrongFalsely : Prop := remSpecialRow.holds Tryd.pinned (OpenSpec.ofChange remSpecialWrong)

/-- 'hairsbreadthlaw23.RemKnown': WHATEVER THE INPUT: true; the input reads as it did. -/
def remKnownSpec : ChangeSpec := { name := "remKnown", fn := fun _ => fun
  | [] => { results := [.lit (.bool true)], args := [] }
  | _ => none }
def remKnownRow : OpenClaim := { program := "ytgbdemipeoboeaadoor", sum := "3b352b87cee3be8a747f452505b5534e34348e34e81e745bccc82f21e9bbf3d0", func := "hairsbreadth/hairsbreadthlaw23.RemKnown", spec := "remKnown", inPlace := ["math/bits.Add64", "math/bits.Sub64"], unfollowed := true, recurses := true, named := ["hairsbreadth/format.table"], apart := false, laid := [("hairsbreadth/format.table", laid_hairsbreadth_format_table)] }
def RemKnownSaid : Prop := remKnownRow.holds Tryd.pinned (OpenSpec.ofChange remKnownSpec)

/-- ITS FALSE NEIGHBOUR: 'it returns false'. Refute it at one input. -/
def remKnownWrong : ChangeSpec := { name := "remKnown", fn := fun _ => fun
  | [] => { results := [.lit (.bool false)], args := [] }
  | _ => none }
def RemKnownWrongFalsely : Prop := remKnownRow.holds Tryd.pinned (OpenSpec.ofChange remKnownWrong)

/- THE SECOND FORM. 'bulk': how many values and letters a reading holds, each counted each time it is reached (what is shared counts as often as it is met; a slice's spare places count too). A statement '..UptoSaid' is the law's where the arguments, and the package variables that the reading takes, are together of bulk at most 1048576: NARROWER than '..Said'. Prove '..Said' where nothing that the law and all that it calls make is longer than what came in: it says more and counts as full. Else prove '..UptoSaid'. A law counts once. -/
mutual
def uptoBulk {H : Type} : DataW H → Nat
  | .lit (.string bytes) => bytes.length + 1
  | .lit _ => 1
  | .nil => 1
  | .ptr d => uptoBulk d + 1
  | .slice elems spare => uptoBulkAll elems + uptoBulkAll spare + 1
  | .agg parts => uptoBulkAll parts + 1
  | .iface _ d => uptoBulk d + 1
  | .map entries => uptoBulkEntries entries + 1
  | .held _ => 1
def uptoBulkAll {H : Type} : List (DataW H) → Nat
  | [] => 0
  | d :: r => uptoBulk d + uptoBulkAll r
def uptoBulkEntries {H : Type} : List (Lit × DataW H) → Nat
  | [] => 0
  | x :: r => uptoBulkEntry x + uptoBulkEntries r
def uptoBulkEntry {H : Type} : Lit × DataW H → Nat
  | (.string bytes, d) => bytes.length + uptoBulk d + 1
  | (_, d) => uptoBulk d + 1
 end
def uptoSmall : (H : Type) → List (DataW H) → Bool := fun _ ds => decide (uptoBulkAll ds ≤ 1048576)
def OpenSpec.upto (s : _root_.Go.ChangeSpec) : _root_.Go.OpenSpec := { _root_.Go.OpenSpec.ofChange s with cond := some uptoSmall }

/-- 'hairsbreadthlaw21.DivOne', WHERE WHAT IT READS IS OF BULK AT MOST 1048576: true; the input reads as it did. -/
def divOneUptoRow : OpenClaim := { program := "ytgbdemipeoboeaadoor", sum := "3b352b87cee3be8a747f452505b5534e34348e34e81e745bccc82f21e9bbf3d0", func := "hairsbreadth/hairsbreadthlaw21.DivOne", spec := "divOne", inPlace := ["math/bits.Add64", "math/bits.Sub64"], unfollowed := true, recurses := true, named := ["hairsbreadth/format.table"], apart := false, laid := [("hairsbreadth/format.table", laid_hairsbreadth_format_table)], narrowed := true }
def DivOneUptoSaid : Prop := divOneUptoRow.holds Tryd.pinned (OpenSpec.upto divOneSpec)

/-- 'hairsbreadthlaw21.DivSpecial', WHERE WHAT IT READS IS OF BULK AT MOST 1048576: true; the input reads as it did. -/
def divSpecialUptoRow : OpenClaim := { program := "ytgbdemipeoboeaadoor", sum := "3b352b87cee3be8a747f452505b5534e34348e34e81e745bccc82f21e9bbf3d0", func := "hairsbreadth/hairsbreadthlaw21.DivSpecial", spec := "divSpecial", inPlace := ["math/bits.Add64", "math/bits.Sub64"], unfollowed := true, recurses := true, named := ["hairsbreadth/format.table"], apart := false, laid := [("hairsbreadth/format.table", laid_hairsbreadth_format_table)], narrowed := true }
def DivSpecialUptoSaid : Prop := divSpecialUptoRow.holds Tryd.pinned (OpenSpec.upto divSpecialSpec)

/-- 'hairsbreadthlaw21.DivKnown', WHERE WHAT IT READS IS OF BULK AT MOST 1048576: true; the input reads as it did. -/
def divKnownUptoRow : OpenClaim := { program := "ytgbdemipeoboeaadoor", sum := "3b352b87cee3be8a747f452505b5534e34348e34e81e745bccc82f21e9bbf3d0", func := "hairsbreadth/hairsbreadthlaw21.DivKnown", spec := "divKnown", inPlace := ["math/bits.Add64", "math/bits.Sub64"], unfollowed := true, recurses := true, named := ["hairsbreadth/format.table"], apart := false, laid := [("hairsbreadth/format.table", laid_hairsbreadth_format_table)], narrowed := true }
def DivKnownUptoSaid : Prop := divKnownUptoRow.holds Tryd.pinned (OpenSpec.upto divKnownSpec)

/-- 'hairsbreadthlaw21.DivTurn', WHERE WHAT IT READS IS OF BULK AT MOST 1048576: true; the input reads as it did. -/
def divTurnUptoRow : OpenClaim := { program := "ytgbdemipeoboeaadoor", sum := "3b352b87cee3be8a747f452505b5534e34348e34e81e745bccc82f21e9bbf3d0", func := "hairsbreadth/hairsbreadthlaw21.DivTurn", spec := "divTurn", inPlace := ["math/bits.Add64", "math/bits.Sub64"], unfollowed := true, recurses := true, named := ["hairsbreadth/format.table"], apart := false, laid := [("hairsbreadth/format.table", laid_hairsbreadth_format_table)], narrowed := true }
def DivTurnUptoSaid : Prop := divTurnUptoRow.holds Tryd.pinned (OpenSpec.upto divTurnSpec)

/-- 'hairsbreadthlaw22.SqrtOrder', WHERE WHAT IT READS IS OF BULK AT MOST 1048576: true; the input reads as it did. -/
def sqrtOrderUptoRow : OpenClaim := { program := "ytgbdemipeoboeaadoor", sum := "3b352b87cee3be8a747f452505b5534e34348e34e81e745bccc82f21e9bbf3d0", func := "hairsbreadth/hairsbreadthlaw22.SqrtOrder", spec := "sqrtOrder", inPlace := ["math/bits.Add64"], unfollowed := true, recurses := true, named := ["hairsbreadth/format.table"], apart := false, laid := [("hairsbreadth/format.table", laid_hairsbreadth_format_table)], narrowed := true }
def SqrtOrderUptoSaid : Prop := sqrtOrderUptoRow.holds Tryd.pinned (OpenSpec.upto sqrtOrderSpec)

/-- 'hairsbreadthlaw22.SqrtNegative', WHERE WHAT IT READS IS OF BULK AT MOST 1048576: true; the input reads as it did. -/
def sqrtNegativeUptoRow : OpenClaim := { program := "ytgbdemipeoboeaadoor", sum := "3b352b87cee3be8a747f452505b5534e34348e34e81e745bccc82f21e9bbf3d0", func := "hairsbreadth/hairsbreadthlaw22.SqrtNegative", spec := "sqrtNegative", inPlace := ["math/bits.Add64"], unfollowed := true, recurses := true, named := ["hairsbreadth/format.table"], apart := false, laid := [("hairsbreadth/format.table", laid_hairsbreadth_format_table)], narrowed := true }
def SqrtNegativeUptoSaid : Prop := sqrtNegativeUptoRow.holds Tryd.pinned (OpenSpec.upto sqrtNegativeSpec)

/-- 'hairsbreadthlaw22.SqrtKnown', WHERE WHAT IT READS IS OF BULK AT MOST 1048576: true; the input reads as it did. -/
def sqrtKnownUptoRow : OpenClaim := { program := "ytgbdemipeoboeaadoor", sum := "3b352b87cee3be8a747f452505b5534e34348e34e81e745bccc82f21e9bbf3d0", func := "hairsbreadth/hairsbreadthlaw22.SqrtKnown", spec := "sqrtKnown", inPlace := ["math/bits.Add64"], unfollowed := true, recurses := true, named := ["hairsbreadth/format.table"], apart := false, laid := [("hairsbreadth/format.table", laid_hairsbreadth_format_table)], narrowed := true }
def SqrtKnownUptoSaid : Prop := sqrtKnownUptoRow.holds Tryd.pinned (OpenSpec.upto sqrtKnownSpec)

/-- 'hairsbreadthlaw23.RemSpecial', WHERE WHAT IT READS IS OF BULK AT MOST 1048576: true; the input reads as it did. -/
def remSpecialUptoRow : OpenClaim := { program := "ytgbdemipeoboeaadoor", sum := "3b352b87cee3be8a747f452505b5534e34348e34e81e745bccc82f21e9bbf3d0", func := "hairsbreadth/hairsbreadthlaw23.RemSpecial", spec := "remSpecial", inPlace := ["math/bits.Add64", "math/bits.Sub64"], unfollowed := true, recurses := true, named := ["hairsbreadth/format.table"], apart := false, laid := [("hairsbreadth/format.table", laid_hairsbreadth_format_table)], narrowed := true }
def RemSpecialUptoSaid : Prop := remSpecialUptoRow.holds Tryd.pinned (OpenSpec.upto remSpecialSpec)

/-- 'hairsbreadthlaw23.RemKnown', WHERE WHAT IT READS IS OF BULK AT MOST 1048576: true; the input reads as it did. -/
def remKnownUptoRow : OpenClaim := { program := "ytgbdemipeoboeaadoor", sum := "3b352b87cee3be8a747f452505b5534e34348e34e81e745bccc82f21e9bbf3d0", func := "hairsbreadth/hairsbreadthlaw23.RemKnown", spec := "remKnown", inPlace := ["math/bits.Add64", "math/bits.Sub64"], unfollowed := true, recurses := true, named := ["hairsbreadth/format.table"], apart := false, laid := [("hairsbreadth/format.table", laid_hairsbreadth_format_table)], narrowed := true }
def RemKnownUptoSaid : Prop := remKnownUptoRow.holds Tryd.pinned (OpenSpec.upto remKnownSpec)

end Rows
end Go.Proofs.YtgbdemipeoboeaaDoor
