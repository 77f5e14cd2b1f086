/-
  NARROWER THAN 'FOR EVERY INPUT', by the rows' own cells (each row's printed sentence says how): ConvBack: laid · ConvOn: laid · ConvKnown: laid · ConvTurn: laid · MulOrder: laid · MulSpecial: laid · MulKnown: laid · DivOne: laid · DivSpecial: laid · DivKnown: laid · MulTurn: laid · DivTurn: laid · MulWide: laid.
  DERIVED. THE GIVEN ROWS OF THIS SEAT. 13 by the template 'for every input the law returns true; each argument reads behind the call as it read before'; 0 by the template 'total and deterministic' (their statements: YtikjbocagnolmaaDoorTotals.lean).
  GIVEN WITH THE SEED: the statements are not yours to turn. If you find one false, say at which input.
  Laid BY PROGRAM, IN A SANDBOX (cutbox-rows.mjs): the forced cells as the released guide's own fill.sh prints them over the translation 02450a4620a7a412… (all of the seat's roots in one cut). By AI agents, Wed Nov 11 2026. No macro, syntax, notation, axiom, sorry.
-/
import Derived.Test.YtikjbocagnolmaaDoorChecked
import GoSem.Claim
import GoSem.ClaimJoined
import GoSem.ClaimMapViews
import Derived.JoinedTies
import Derived.KernelRfl
namespace Go.Proofs.YtikjbocagnolmaaDoor
/- THE CELL 'sum', in the pinned program and in every row, IS THE sha256 OF THE DUMP (.gsa) THAT YtikjbocagnolmaaDoorProg.lean LOADS. Nothing in Lean hashes anything: it is a label: what it is worth is what the hold of that sum in a sandbox is worth. -/
noncomputable def Tryd.pinned : Pinned := { name := "ytikjbocagnolmaadoor", sum := "02450a4620a7a4127580a42c3d36fb134edd40b11ec9a66b3a760a5b64e4a4f2", checked := Tryd.checked }
namespace Rows
def none {H : Type} : Left H := { results := [], args := [] }

/- WHAT THE LISTED PACKAGE-LEVEL VARIABLES READ AS WHEN THE CALL BEGINS. Each datum BY PROGRAM (the guide's laid-datum.mjs) off the statement by which the dump's own 'gosem.cut.vars' lays the variable. In a bare row this is a premise. The card (YtikjbocagnolmaaDoorCards.lean) ties it to the program's text. -/
def laid_hairsbreadth_format_table {H : Type} : DataW H := .agg [.agg [.lit (.int .i64 16), .lit (.int .i64 11), .lit (.int .i64 15)], .agg [.lit (.int .i64 32), .lit (.int .i64 24), .lit (.int .i64 127)], .agg [.lit (.int .i64 64), .lit (.int .i64 53), .lit (.int .i64 1023)], .agg [.lit (.int .i64 128), .lit (.int .i64 113), .lit (.int .i64 16383)]]

/-- 'hairsbreadthlaw25.ConvBack': WHATEVER THE INPUT: true; the input reads as it did. -/
def convBackSpec : ChangeSpec := { name := "convBack", fn := fun _ => fun
  | [d1, d2, d3, d4, d5] => { results := [.lit (.bool true)], args := [d1, d2, d3, d4, d5] }
  | _ => none }
def convBackRow : OpenClaim := { program := "ytikjbocagnolmaadoor", sum := "02450a4620a7a4127580a42c3d36fb134edd40b11ec9a66b3a760a5b64e4a4f2", func := "hairsbreadth/hairsbreadthlaw25.ConvBack", spec := "convBack", inPlace := ["math/bits.Add64"], unfollowed := true, recurses := true, named := ["hairsbreadth/format.table"], apart := false, laid := [("hairsbreadth/format.table", laid_hairsbreadth_format_table)] }
def ConvBackSaid : Prop := convBackRow.holds Tryd.pinned (OpenSpec.ofChange convBackSpec)

/-- ITS FALSE NEIGHBOUR: 'it returns false'. Refute it at one input. -/
def convBackWrong : ChangeSpec := { name := "convBack", fn := fun _ => fun
  | [d1, d2, d3, d4, d5] => { results := [.lit (.bool false)], args := [d1, d2, d3, d4, d5] }
  | _ => none }
def ConvBackWrongFalsely : Prop := convBackRow.holds Tryd.pinned (OpenSpec.ofChange convBackWrong)

/-- 'hairsbreadthlaw25.ConvOn': WHATEVER THE INPUT: true; the input reads as it did. -/
def convOnSpec : ChangeSpec := { name := "convOn", fn := fun _ => fun
  | [d1, d2, d3, d4, d5, d6] => { results := [.lit (.bool true)], args := [d1, d2, d3, d4, d5, d6] }
  | _ => none }
def convOnRow : OpenClaim := { program := "ytikjbocagnolmaadoor", sum := "02450a4620a7a4127580a42c3d36fb134edd40b11ec9a66b3a760a5b64e4a4f2", func := "hairsbreadth/hairsbreadthlaw25.ConvOn", spec := "convOn", inPlace := ["math/bits.Add64"], unfollowed := true, recurses := true, named := ["hairsbreadth/format.table"], apart := false, laid := [("hairsbreadth/format.table", laid_hairsbreadth_format_table)] }
def ConvOnSaid : Prop := convOnRow.holds Tryd.pinned (OpenSpec.ofChange convOnSpec)

/-- ITS FALSE NEIGHBOUR: 'it returns false'. Refute it at one input. -/
def convOnWrong : ChangeSpec := { name := "convOn", fn := fun _ => fun
  | [d1, d2, d3, d4, d5, d6] => { results := [.lit (.bool false)], args := [d1, d2, d3, d4, d5, d6] }
  | _ => none }
def ConvOnWrongFalsely : Prop := convOnRow.holds Tryd.pinned (OpenSpec.ofChange convOnWrong)

/-- 'hairsbreadthlaw25.ConvKnown': WHATEVER THE INPUT: true; the input reads as it did. -/
def convKnownSpec : ChangeSpec := { name := "convKnown", fn := fun _ => fun
  | [] => { results := [.lit (.bool true)], args := [] }
  | _ => none }
def convKnownRow : OpenClaim := { program := "ytikjbocagnolmaadoor", sum := "02450a4620a7a4127580a42c3d36fb134edd40b11ec9a66b3a760a5b64e4a4f2", func := "hairsbreadth/hairsbreadthlaw25.ConvKnown", spec := "convKnown", inPlace := ["math/bits.Add64"], unfollowed := true, recurses := true, named := ["hairsbreadth/format.table"], apart := false, laid := [("hairsbreadth/format.table", laid_hairsbreadth_format_table)] }
def ConvKnownSaid : Prop := convKnownRow.holds Tryd.pinned (OpenSpec.ofChange convKnownSpec)

/-- ITS FALSE NEIGHBOUR: 'it returns false'. Refute it at one input. -/
def convKnownWrong : ChangeSpec := { name := "convKnown", fn := fun _ => fun
  | [] => { results := [.lit (.bool false)], args := [] }
  | _ => none }
def ConvKnownWrongFalsely : Prop := convKnownRow.holds Tryd.pinned (OpenSpec.ofChange convKnownWrong)

/-- 'hairsbreadthlaw25.ConvTurn': WHATEVER THE INPUT: true; the input reads as it did. -/
def convTurnSpec : ChangeSpec := { name := "convTurn", fn := fun _ => fun
  | [d1, d2, d3, d4] => { results := [.lit (.bool true)], args := [d1, d2, d3, d4] }
  | _ => none }
def convTurnRow : OpenClaim := { program := "ytikjbocagnolmaadoor", sum := "02450a4620a7a4127580a42c3d36fb134edd40b11ec9a66b3a760a5b64e4a4f2", func := "hairsbreadth/hairsbreadthlaw25.ConvTurn", spec := "convTurn", inPlace := ["math/bits.Add64"], unfollowed := true, recurses := true, named := ["hairsbreadth/format.table"], apart := false, laid := [("hairsbreadth/format.table", laid_hairsbreadth_format_table)] }
def ConvTurnSaid : Prop := convTurnRow.holds Tryd.pinned (OpenSpec.ofChange convTurnSpec)

/-- ITS FALSE NEIGHBOUR: 'it returns false'. Refute it at one input. -/
def convTurnWrong : ChangeSpec := { name := "convTurn", fn := fun _ => fun
  | [d1, d2, d3, d4] => { results := [.lit (.bool false)], args := [d1, d2, d3, d4] }
  | _ => none }
def ConvTurnWrongFalsely : Prop := convTurnRow.holds Tryd.pinned (OpenSpec.ofChange convTurnWrong)

/-- 'hairsbreadthlaw19.MulOrder': WHATEVER THE INPUT: true; the input reads as it did. -/
def mulOrderSpec : ChangeSpec := { name := "mulOrder", fn := fun _ => fun
  | [d1, d2, d3, d4, d5] => { results := [.lit (.bool true)], args := [d1, d2, d3, d4, d5] }
  | _ => none }
def mulOrderRow : OpenClaim := { program := "ytikjbocagnolmaadoor", sum := "02450a4620a7a4127580a42c3d36fb134edd40b11ec9a66b3a760a5b64e4a4f2", func := "hairsbreadth/hairsbreadthlaw19.MulOrder", spec := "mulOrder", inPlace := ["math/bits.Add64"], unfollowed := true, recurses := true, named := ["hairsbreadth/format.table"], apart := false, laid := [("hairsbreadth/format.table", laid_hairsbreadth_format_table)] }
def MulOrderSaid : Prop := mulOrderRow.holds Tryd.pinned (OpenSpec.ofChange mulOrderSpec)

/-- ITS FALSE NEIGHBOUR: 'it returns false'. Refute it at one input. -/
def mulOrderWrong : ChangeSpec := { name := "mulOrder", fn := fun _ => fun
  | [d1, d2, d3, d4, d5] => { results := [.lit (.bool false)], args := [d1, d2, d3, d4, d5] }
  | _ => none }
def MulOrderWrongFalsely : Prop := mulOrderRow.holds Tryd.pinned (OpenSpec.ofChange mulOrderWrong)

/-- 'hairsbreadthlaw19.MulSpecial': WHATEVER THE INPUT: true; the input reads as it did. -/
def mulSpecialSpec : ChangeSpec := { name := "mulSpecial", fn := fun _ => fun
  | [d1, d2, d3, d4] => { results := [.lit (.bool true)], args := [d1, d2, d3, d4] }
  | _ => none }
def mulSpecialRow : OpenClaim := { program := "ytikjbocagnolmaadoor", sum := "02450a4620a7a4127580a42c3d36fb134edd40b11ec9a66b3a760a5b64e4a4f2", func := "hairsbreadth/hairsbreadthlaw19.MulSpecial", spec := "mulSpecial", inPlace := ["math/bits.Add64"], unfollowed := true, recurses := true, named := ["hairsbreadth/format.table"], apart := false, laid := [("hairsbreadth/format.table", laid_hairsbreadth_format_table)] }
def MulSpecialSaid : Prop := mulSpecialRow.holds Tryd.pinned (OpenSpec.ofChange mulSpecialSpec)

/-- ITS FALSE NEIGHBOUR: 'it returns false'. Refute it at one input. -/
def mulSpecialWrong : ChangeSpec := { name := "mulSpecial", fn := fun _ => fun
  | [d1, d2, d3, d4] => { results := [.lit (.bool false)], args := [d1, d2, d3, d4] }
  | _ => none }
def MulSpecialWrongFalsely : Prop := mulSpecialRow.holds Tryd.pinned (OpenSpec.ofChange mulSpecialWrong)

/-- 'hairsbreadthlaw19.MulKnown': WHATEVER THE INPUT: true; the input reads as it did. -/
def mulKnownSpec : ChangeSpec := { name := "mulKnown", fn := fun _ => fun
  | [] => { results := [.lit (.bool true)], args := [] }
  | _ => none }
def mulKnownRow : OpenClaim := { program := "ytikjbocagnolmaadoor", sum := "02450a4620a7a4127580a42c3d36fb134edd40b11ec9a66b3a760a5b64e4a4f2", func := "hairsbreadth/hairsbreadthlaw19.MulKnown", spec := "mulKnown", inPlace := ["math/bits.Add64"], unfollowed := true, recurses := true, named := ["hairsbreadth/format.table"], apart := false, laid := [("hairsbreadth/format.table", laid_hairsbreadth_format_table)] }
def MulKnownSaid : Prop := mulKnownRow.holds Tryd.pinned (OpenSpec.ofChange mulKnownSpec)

/-- ITS FALSE NEIGHBOUR: 'it returns false'. Refute it at one input. -/
def mulKnownWrong : ChangeSpec := { name := "mulKnown", fn := fun _ => fun
  | [] => { results := [.lit (.bool false)], args := [] }
  | _ => none }
def MulKnownWrongFalsely : Prop := mulKnownRow.holds Tryd.pinned (OpenSpec.ofChange mulKnownWrong)

/-- 'hairsbreadthlaw21.DivOne': WHATEVER THE INPUT: true; the input reads as it did. -/
def divOneSpec : ChangeSpec := { name := "divOne", fn := fun _ => fun
  | [d1, d2, d3] => { results := [.lit (.bool true)], args := [d1, d2, d3] }
  | _ => none }
def divOneRow : OpenClaim := { program := "ytikjbocagnolmaadoor", sum := "02450a4620a7a4127580a42c3d36fb134edd40b11ec9a66b3a760a5b64e4a4f2", func := "hairsbreadth/hairsbreadthlaw21.DivOne", spec := "divOne", inPlace := ["math/bits.Add64", "math/bits.Sub64"], unfollowed := true, recurses := true, named := ["hairsbreadth/format.table"], apart := false, laid := [("hairsbreadth/format.table", laid_hairsbreadth_format_table)] }
def DivOneSaid : Prop := divOneRow.holds Tryd.pinned (OpenSpec.ofChange divOneSpec)

/-- ITS FALSE NEIGHBOUR: 'it returns false'. Refute it at one input. -/
def divOneWrong : ChangeSpec := { name := "divOne", fn := fun _ => fun
  | [d1, d2, d3] => { results := [.lit (.bool false)], args := [d1, d2, d3] }
  | _ => none }
def DivOneWrongFalsely : Prop := divOneRow.holds Tryd.pinned (OpenSpec.ofChange divOneWrong)

/-- 'hairsbreadthlaw21.DivSpecial': WHATEVER THE INPUT: true; the input reads as it did. -/
def divSpecialSpec : ChangeSpec := { name := "divSpecial", fn := fun _ => fun
  | [d1, d2, d3, d4] => { results := [.lit (.bool true)], args := [d1, d2, d3, d4] }
  | _ => none }
def divSpecialRow : OpenClaim := { program := "ytikjbocagnolmaadoor", sum := "02450a4620a7a4127580a42c3d36fb134edd40b11ec9a66b3a760a5b64e4a4f2", func := "hairsbreadth/hairsbreadthlaw21.DivSpecial", spec := "divSpecial", inPlace := ["math/bits.Add64", "math/bits.Sub64"], unfollowed := true, recurses := true, named := ["hairsbreadth/format.table"], apart := false, laid := [("hairsbreadth/format.table", laid_hairsbreadth_format_table)] }
def DivSpecialSaid : Prop := divSpecialRow.holds Tryd.pinned (OpenSpec.ofChange divSpecialSpec)

/-- ITS FALSE NEIGHBOUR: 'it returns false'. Refute it at one input. -/
def divSpecialWrong : ChangeSpec := { name := "divSpecial", fn := fun _ => fun
  | [d1, d2, d3, d4] => { results := [.lit (.bool false)], args := [d1, d2, d3, d4] }
  | _ => none }
def DivSpecialWrongFalsely : Prop := divSpecialRow.holds Tryd.pinned (OpenSpec.ofChange divSpecialWrong)

/-- 'hairsbreadthlaw21.DivKnown': WHATEVER THE INPUT: true; the input reads as it did. -/
def divKnownSpec : ChangeSpec := { name := "divKnown", fn := fun _ => fun
  | [] => { results := [.lit (.bool true)], args := [] }
  | _ => none }
def divKnownRow : OpenClaim := { program := "ytikjbocagnolmaadoor", sum := "02450a4620a7a4127580a42c3d36fb134edd40b11ec9a66b3a760a5b64e4a4f2", func := "hairsbreadth/hairsbreadthlaw21.DivKnown", spec := "divKnown", inPlace := ["math/bits.Add64", "math/bits.Sub64"], unfollowed := true, recurses := true, named := ["hairsbreadth/format.table"], apart := false, laid := [("hairsbreadth/format.table", laid_hairsbreadth_format_table)] }
def DivKnownSaid : Prop := divKnownRow.holds Tryd.pinned (OpenSpec.ofChange divKnownSpec)

/-- ITS FALSE NEIGHBOUR: 'it returns false'. Refute it at one input. -/
def divKnownWrong : ChangeSpec := { name := "divKnown", fn := fun _ => fun
  | [] => { results := [.lit (.bool false)], args := [] }
  | _ => none }
def DivKnownWrongFalsely : Prop := divKnownRow.holds Tryd.pinned (OpenSpec.ofChange divKnownWrong)

/-- 'hairsbreadthlaw19.MulTurn': WHATEVER THE INPUT: true; the input reads as it did. -/
def mulTurnSpec : ChangeSpec := { name := "mulTurn", fn := fun _ => fun
  | [d1, d2, d3, d4] => { results := [.lit (.bool true)], args := [d1, d2, d3, d4] }
  | _ => none }
def mulTurnRow : OpenClaim := { program := "ytikjbocagnolmaadoor", sum := "02450a4620a7a4127580a42c3d36fb134edd40b11ec9a66b3a760a5b64e4a4f2", func := "hairsbreadth/hairsbreadthlaw19.MulTurn", spec := "mulTurn", inPlace := ["math/bits.Add64"], unfollowed := true, recurses := true, named := ["hairsbreadth/format.table"], apart := false, laid := [("hairsbreadth/format.table", laid_hairsbreadth_format_table)] }
def MulTurnSaid : Prop := mulTurnRow.holds Tryd.pinned (OpenSpec.ofChange mulTurnSpec)

/-- ITS FALSE NEIGHBOUR: 'it returns false'. Refute it at one input. -/
def mulTurnWrong : ChangeSpec := { name := "mulTurn", fn := fun _ => fun
  | [d1, d2, d3, d4] => { results := [.lit (.bool false)], args := [d1, d2, d3, d4] }
  | _ => none }
def MulTurnWrongFalsely : Prop := mulTurnRow.holds Tryd.pinned (OpenSpec.ofChange mulTurnWrong)

/-- 'hairsbreadthlaw21.DivTurn': WHATEVER THE INPUT: true; the input reads as it did. -/
def divTurnSpec : ChangeSpec := { name := "divTurn", fn := fun _ => fun
  | [d1, d2, d3, d4] => { results := [.lit (.bool true)], args := [d1, d2, d3, d4] }
  | _ => none }
def divTurnRow : OpenClaim := { program := "ytikjbocagnolmaadoor", sum := "02450a4620a7a4127580a42c3d36fb134edd40b11ec9a66b3a760a5b64e4a4f2", func := "hairsbreadth/hairsbreadthlaw21.DivTurn", spec := "divTurn", inPlace := ["math/bits.Add64", "math/bits.Sub64"], unfollowed := true, recurses := true, named := ["hairsbreadth/format.table"], apart := false, laid := [("hairsbreadth/format.table", laid_hairsbreadth_format_table)] }
def DivTurnSaid : Prop := divTurnRow.holds Tryd.pinned (OpenSpec.ofChange divTurnSpec)

/-- ITS FALSE NEIGHBOUR: 'it returns false'. Refute it at one input. -/
def divTurnWrong : ChangeSpec := { name := "divTurn", fn := fun _ => fun
  | [d1, d2, d3, d4] => { results := [.lit (.bool false)], args := [d1, d2, d3, d4] }
  | _ => none }
def DivTurnWrongFalsely : Prop := divTurnRow.holds Tryd.pinned (OpenSpec.ofChange divTurnWrong)

/-- 'hairsbreadthlaw19.MulWide': WHATEVER THE INPUT: true; the input reads as it did. -/
def mulWideSpec : ChangeSpec := { name := "mulWide", fn := fun _ => fun
  | [d1, d2, d3, d4] => { results := [.lit (.bool true)], args := [d1, d2, d3, d4] }
  | _ => none }
def mulWideRow : OpenClaim := { program := "ytikjbocagnolmaadoor", sum := "02450a4620a7a4127580a42c3d36fb134edd40b11ec9a66b3a760a5b64e4a4f2", func := "hairsbreadth/hairsbreadthlaw19.MulWide", spec := "mulWide", inPlace := ["math/bits.Add64"], unfollowed := true, recurses := true, named := ["hairsbreadth/format.table"], apart := false, laid := [("hairsbreadth/format.table", laid_hairsbreadth_format_table)] }
def MulWideSaid : Prop := mulWideRow.holds Tryd.pinned (OpenSpec.ofChange mulWideSpec)

/-- ITS FALSE NEIGHBOUR: 'it returns false'. Refute it at one input. -/
def mulWideWrong : ChangeSpec := { name := "mulWide", fn := fun _ => fun
  | [d1, d2, d3, d4] => { results := [.lit (.bool false)], args := [d1, d2, d3, d4] }
  | _ => none }
def MulWideWrongFalsely : Prop := mulWideRow.holds Tryd.pinned (OpenSpec.ofChange mulWideWrong)

/- THE SECOND FORM. 'bulk': how many values and letters a reading holds, each counted each time it is reached (what is shared counts as often as it is met; a slice's spare places count too). A statement '..UptoSaid' is the law's where the arguments, and the package variables that the reading takes, are together of bulk at most 1048576: NARROWER than '..Said'. Prove '..Said' where nothing that the law and all that it calls make is longer than what came in: it says more and counts as full. Else prove '..UptoSaid'. A law counts once. -/
mutual
def uptoBulk {H : Type} : DataW H → Nat
  | .lit (.string bytes) => bytes.length + 1
  | .lit _ => 1
  | .nil => 1
  | .ptr d => uptoBulk d + 1
  | .slice elems spare => uptoBulkAll elems + uptoBulkAll spare + 1
  | .agg parts => uptoBulkAll parts + 1
  | .iface _ d => uptoBulk d + 1
  | .map entries => uptoBulkEntries entries + 1
  | .held _ => 1
def uptoBulkAll {H : Type} : List (DataW H) → Nat
  | [] => 0
  | d :: r => uptoBulk d + uptoBulkAll r
def uptoBulkEntries {H : Type} : List (Lit × DataW H) → Nat
  | [] => 0
  | x :: r => uptoBulkEntry x + uptoBulkEntries r
def uptoBulkEntry {H : Type} : Lit × DataW H → Nat
  | (.string bytes, d) => bytes.length + uptoBulk d + 1
  | (_, d) => uptoBulk d + 1
 end
def uptoSmall : (H : Type) → List (DataW H) → Bool := fun _ ds => decide (uptoBulkAll ds ≤ 1048576)
def OpenSpec.upto (s : _root_.Go.ChangeSpec) : _root_.Go.OpenSpec := { _root_.Go.OpenSpec.ofChange s with cond := some uptoSmall }

/-- 'hairsbreadthlaw25.ConvBack', WHERE WHAT IT READS IS OF BULK AT MOST 1048576: true; the input reads as it did. -/
def convBackUptoRow : OpenClaim := { program := "ytikjbocagnolmaadoor", sum := "02450a4620a7a4127580a42c3d36fb134edd40b11ec9a66b3a760a5b64e4a4f2", func := "hairsbreadth/hairsbreadthlaw25.ConvBack", spec := "convBack", inPlace := ["math/bits.Add64"], unfollowed := true, recurses := true, named := ["hairsbreadth/format.table"], apart := false, laid := [("hairsbreadth/format.table", laid_hairsbreadth_format_table)], narrowed := true }
def ConvBackUptoSaid : Prop := convBackUptoRow.holds Tryd.pinned (OpenSpec.upto convBackSpec)

/-- 'hairsbreadthlaw25.ConvOn', WHERE WHAT IT READS IS OF BULK AT MOST 1048576: true; the input reads as it did. -/
def convOnUptoRow : OpenClaim := { program := "ytikjbocagnolmaadoor", sum := "02450a4620a7a4127580a42c3d36fb134edd40b11ec9a66b3a760a5b64e4a4f2", func := "hairsbreadth/hairsbreadthlaw25.ConvOn", spec := "convOn", inPlace := ["math/bits.Add64"], unfollowed := true, recurses := true, named := ["hairsbreadth/format.table"], apart := false, laid := [("hairsbreadth/format.table", laid_hairsbreadth_format_table)], narrowed := true }
def ConvOnUptoSaid : Prop := convOnUptoRow.holds Tryd.pinned (OpenSpec.upto convOnSpec)

/-- 'hairsbreadthlaw25.ConvKnown', WHERE WHAT IT READS IS OF BULK AT MOST 1048576: true; the input reads as it did. -/
def convKnownUptoRow : OpenClaim := { program := "ytikjbocagnolmaadoor", sum := "02450a4620a7a4127580a42c3d36fb134edd40b11ec9a66b3a760a5b64e4a4f2", func := "hairsbreadth/hairsbreadthlaw25.ConvKnown", spec := "convKnown", inPlace := ["math/bits.Add64"], unfollowed := true, recurses := true, named := ["hairsbreadth/format.table"], apart := false, laid := [("hairsbreadth/format.table", laid_hairsbreadth_format_table)], narrowed := true }
def ConvKnownUptoSaid : Prop := convKnownUptoRow.holds Tryd.pinned (OpenSpec.upto convKnownSpec)

/-- 'hairsbreadthlaw25.ConvTurn', WHERE WHAT IT READS IS OF BULK AT MOST 1048576: true; the input reads as it did. -/
def convTurnUptoRow : OpenClaim := { program := "ytikjbocagnolmaadoor", sum := "02450a4620a7a4127580a42c3d36fb134edd40b11ec9a66b3a760a5b64e4a4f2", func := "hairsbreadth/hairsbreadthlaw25.ConvTurn", spec := "convTurn", inPlace := ["math/bits.Add64"], unfollowed := true, recurses := true, named := ["hairsbreadth/format.table"], apart := false, laid := [("hairsbreadth/format.table", laid_hairsbreadth_format_table)], narrowed := true }
def ConvTurnUptoSaid : Prop := convTurnUptoRow.holds Tryd.pinned (OpenSpec.upto convTurnSpec)

/-- 'hairsbreadthlaw19.MulOrder', WHERE WHAT IT READS IS OF BULK AT MOST 1048576: true; the input reads as it did. -/
def mulOrderUptoRow : OpenClaim := { program := "ytikjbocagnolmaadoor", sum := "02450a4620a7a4127580a42c3d36fb134edd40b11ec9a66b3a760a5b64e4a4f2", func := "hairsbreadth/hairsbreadthlaw19.MulOrder", spec := "mulOrder", inPlace := ["math/bits.Add64"], unfollowed := true, recurses := true, named := ["hairsbreadth/format.table"], apart := false, laid := [("hairsbreadth/format.table", laid_hairsbreadth_format_table)], narrowed := true }
def MulOrderUptoSaid : Prop := mulOrderUptoRow.holds Tryd.pinned (OpenSpec.upto mulOrderSpec)

/-- 'hairsbreadthlaw19.MulSpecial', WHERE WHAT IT READS IS OF BULK AT MOST 1048576: true; the input reads as it did. -/
def mulSpecialUptoRow : OpenClaim := { program := "ytikjbocagnolmaadoor", sum := "02450a4620a7a4127580a42c3d36fb134edd40b11ec9a66b3a760a5b64e4a4f2", func := "hairsbreadth/hairsbreadthlaw19.MulSpecial", spec := "mulSpecial", inPlace := ["math/bits.Add64"], unfollowed := true, recurses := true, named := ["hairsbreadth/format.table"], apart := false, laid := [("hairsbreadth/format.table", laid_hairsbreadth_format_table)], narrowed := true }
def MulSpecialUptoSaid : Prop := mulSpecialUptoRow.holds Tryd.pinned (OpenSpec.upto mulSpecialSpec)

/-- 'hairsbreadthlaw19.MulKnown', WHERE WHAT IT READS IS OF BULK AT MOST 1048576: true; the input reads as it did. -/
def mulKnownUptoRow : OpenClaim := { program := "ytikjbocagnolmaadoor", sum := "02450a4620a7a4127580a42c3d36fb134edd40b11ec9a66b3a760a5b64e4a4f2", func := "hairsbreadth/hairsbreadthlaw19.MulKnown", spec := "mulKnown", inPlace := ["math/bits.Add64"], unfollowed := true, recurses := true, named := ["hairsbreadth/format.table"], apart := false, laid := [("hairsbreadth/format.table", laid_hairsbreadth_format_table)], narrowed := true }
def MulKnownUptoSaid : Prop := mulKnownUptoRow.holds Tryd.pinned (OpenSpec.upto mulKnownSpec)

/-- 'hairsbreadthlaw21.DivOne', WHERE WHAT IT READS IS OF BULK AT MOST 1048576: true; the input reads as it did. -/
def divOneUptoRow : OpenClaim := { program := "ytikjbocagnolmaadoor", sum := "02450a4620a7a4127580a42c3d36fb134edd40b11ec9a66b3a760a5b64e4a4f2", func := "hairsbreadth/hairsbreadthlaw21.DivOne", spec := "divOne", inPlace := ["math/bits.Add64", "math/bits.Sub64"], unfollowed := true, recurses := true, named := ["hairsbreadth/format.table"], apart := false, laid := [("hairsbreadth/format.table", laid_hairsbreadth_format_table)], narrowed := true }
def DivOneUptoSaid : Prop := divOneUptoRow.holds Tryd.pinned (OpenSpec.upto divOneSpec)

/-- 'hairsbreadthlaw21.DivSpecial', WHERE WHAT IT READS IS OF BULK AT MOST 1048576: true; the input reads as it did. -/
def divSpecialUptoRow : OpenClaim := { program := "ytikjbocagnolmaadoor", sum := "02450a4620a7a4127580a42c3d36fb134edd40b11ec9a66b3a760a5b64e4a4f2", func := "hairsbreadth/hairsbreadthlaw21.DivSpecial", spec := "divSpecial", inPlace := ["math/bits.Add64", "math/bits.Sub64"], unfollowed := true, recurses := true, named := ["hairsbreadth/format.table"], apart := false, laid := [("hairsbreadth/format.table", laid_hairsbreadth_format_table)], narrowed := true }
def DivSpecialUptoSaid : Prop := divSpecialUptoRow.holds Tryd.pinned (OpenSpec.upto divSpecialSpec)

/-- 'hairsbreadthlaw21.DivKnown', WHERE WHAT IT READS IS OF BULK AT MOST 1048576: true; the input reads as it did. -/
def divKnownUptoRow : OpenClaim := { program := "ytikjbocagnolmaadoor", sum := "02450a4620a7a4127580a42c3d36fb134edd40b11ec9a66b3a760a5b64e4a4f2", func := "hairsbreadth/hairsbreadthlaw21.DivKnown", spec := "divKnown", inPlace := ["math/bits.Add64", "math/bits.Sub64"], unfollowed := true, recurses := true, named := ["hairsbreadth/format.table"], apart := false, laid := [("hairsbreadth/format.table", laid_hairsbreadth_format_table)], narrowed := true }
def DivKnownUptoSaid : Prop := divKnownUptoRow.holds Tryd.pinned (OpenSpec.upto divKnownSpec)

/-- 'hairsbreadthlaw19.MulTurn', WHERE WHAT IT READS IS OF BULK AT MOST 1048576: true; the input reads as it did. -/
def mulTurnUptoRow : OpenClaim := { program := "ytikjbocagnolmaadoor", sum := "02450a4620a7a4127580a42c3d36fb134edd40b11ec9a66b3a760a5b64e4a4f2", func := "hairsbreadth/hairsbreadthlaw19.MulTurn", spec := "mulTurn", inPlace := ["math/bits.Add64"], unfollowed := true, recurses := true, named := ["hairsbreadth/format.table"], apart := false, laid := [("hairsbreadth/format.table", laid_hairsbreadth_format_table)], narrowed := true }
def MulTurnUptoSaid : Prop := mulTurnUptoRow.holds Tryd.pinned (OpenSpec.upto mulTurnSpec)

/-- 'hairsbreadthlaw21.DivTurn', WHERE WHAT IT READS IS OF BULK AT MOST 1048576: true; the input reads as it did. -/
def divTurnUptoRow : OpenClaim := { program := "ytikjbocagnolmaadoor", sum := "02450a4620a7a4127580a42c3d36fb134edd40b11ec9a66b3a760a5b64e4a4f2", func := "hairsbreadth/hairsbreadthlaw21.DivTurn", spec := "divTurn", inPlace := ["math/bits.Add64", "math/bits.Sub64"], unfollowed := true, recurses := true, named := ["hairsbreadth/format.table"], apart := false, laid := [("hairsbreadth/format.table", laid_hairsbreadth_format_table)], narrowed := true }
def DivTurnUptoSaid : Prop := divTurnUptoRow.holds Tryd.pinned (OpenSpec.upto divTurnSpec)

/-- 'hairsbreadthlaw19.MulWide', WHERE WHAT IT READS IS OF BULK AT MOST 1048576: true; the input reads as it did. -/
def mulWideUptoRow : OpenClaim := { program := "ytikjbocagnolmaadoor", sum := "02450a4620a7a4127580a42c3d36fb134edd40b11ec9a66b3a760a5b64e4a4f2", func := "hairsbreadth/hairsbreadthlaw19.MulWide", spec := "mulWide", inPlace := ["math/bits.Add64"], unfollowed := true, recurses := true, named := ["hairsbreadth/format.table"], apart := false, laid := [("hairsbreadth/format.table", laid_hairsbreadth_format_table)], narrowed := true }
def MulWideUptoSaid : Prop := mulWideUptoRow.holds Tryd.pinned (OpenSpec.upto mulWideSpec)

end Rows
end Go.Proofs.YtikjbocagnolmaaDoor
