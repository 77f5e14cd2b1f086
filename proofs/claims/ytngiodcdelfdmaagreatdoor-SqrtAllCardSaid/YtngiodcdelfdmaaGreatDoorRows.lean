/-
  NARROWER THAN 'FOR EVERY INPUT', by the rows' own cells (each row's printed sentence says how): ConvAll: laid · MulAll: laid · MulTerms: laid · DivAll: laid · SqrtAll: laid · RemAll: laid · DivPowers: laid · FmaAll: laid · DivBack: laid · ConvDouble: laid.
  DERIVED. THE GIVEN ROWS OF THIS SEAT. 10 by the template 'for every input the law returns true; each argument reads behind the call as it read before'; 0 by the template 'total and deterministic' (their statements: YtngiodcdelfdmaaGreatDoorTotals.lean).
  GIVEN WITH THE SEED: the statements are not yours to turn. If you find one false, say at which input.
  Laid BY PROGRAM, IN A SANDBOX (cutbox-rows.mjs): the forced cells as the released guide's own fill.sh prints them over the translation 6e22f3f314eeab82… (all of the seat's roots in one cut). By AI agents, Wed Nov 11 2026. No macro, syntax, notation, axiom, sorry.
-/
import Derived.Test.YtngiodcdelfdmaaGreatDoorChecked
import GoSem.Claim
import GoSem.ClaimJoined
import GoSem.ClaimMapViews
import Derived.JoinedTies
import Derived.KernelRfl
namespace Go.Proofs.YtngiodcdelfdmaaGreatDoor
/- THE CELL 'sum', in the pinned program and in every row, IS THE sha256 OF THE DUMP (.gsa) THAT YtngiodcdelfdmaaGreatDoorProg.lean LOADS. Nothing in Lean hashes anything: it is a label: what it is worth is what the hold of that sum in a sandbox is worth. -/
noncomputable def Tryz.pinned : Pinned := { name := "ytngiodcdelfdmaagreatdoor", sum := "6e22f3f314eeab820bafa1711f956a42297641637407cc777e26e54b71454515", checked := Tryz.checked }
namespace Rows
def none {H : Type} : Left H := { results := [], args := [] }

/- WHAT THE LISTED PACKAGE-LEVEL VARIABLES READ AS WHEN THE CALL BEGINS. Each datum BY PROGRAM (the guide's laid-datum.mjs) off the statement by which the dump's own 'gosem.cut.vars' lays the variable. In a bare row this is a premise. The card (YtngiodcdelfdmaaGreatDoorCards.lean) ties it to the program's text. -/
def laid_hairsbreadth_format_table {H : Type} : DataW H := .agg [.agg [.lit (.int .i64 16), .lit (.int .i64 11), .lit (.int .i64 15)], .agg [.lit (.int .i64 32), .lit (.int .i64 24), .lit (.int .i64 127)], .agg [.lit (.int .i64 64), .lit (.int .i64 53), .lit (.int .i64 1023)], .agg [.lit (.int .i64 128), .lit (.int .i64 113), .lit (.int .i64 16383)]]

/-- 'hairsbreadthlaw25.ConvAll': WHATEVER THE INPUT: true; the input reads as it did. -/
def convAllSpec : ChangeSpec := { name := "convAll", fn := fun _ => fun
  | [d1, d2, d3, d4] => { results := [.lit (.bool true)], args := [d1, d2, d3, d4] }
  | _ => none }
def convAllRow : OpenClaim := { program := "ytngiodcdelfdmaagreatdoor", sum := "6e22f3f314eeab820bafa1711f956a42297641637407cc777e26e54b71454515", func := "hairsbreadth/hairsbreadthlaw25.ConvAll", spec := "convAll", inPlace := ["math/bits.Add64"], unfollowed := true, recurses := true, named := ["hairsbreadth/format.table"], apart := false, laid := [("hairsbreadth/format.table", laid_hairsbreadth_format_table)] }
def ConvAllSaid : Prop := convAllRow.holds Tryz.pinned (OpenSpec.ofChange convAllSpec)

/-- ITS FALSE NEIGHBOUR: 'it returns false'. Refute it at one input. -/
def convAllWrong : ChangeSpec := { name := "convAll", fn := fun _ => fun
  | [d1, d2, d3, d4] => { results := [.lit (.bool false)], args := [d1, d2, d3, d4] }
  | _ => none }
def ConvAllWrongFalsely : Prop := convAllRow.holds Tryz.pinned (OpenSpec.ofChange convAllWrong)

/-- 'hairsbreadthlaw19.MulAll': WHATEVER THE INPUT: true; the input reads as it did. -/
def mulAllSpec : ChangeSpec := { name := "mulAll", fn := fun _ => fun
  | [d1, d2, d3, d4] => { results := [.lit (.bool true)], args := [d1, d2, d3, d4] }
  | _ => none }
def mulAllRow : OpenClaim := { program := "ytngiodcdelfdmaagreatdoor", sum := "6e22f3f314eeab820bafa1711f956a42297641637407cc777e26e54b71454515", func := "hairsbreadth/hairsbreadthlaw19.MulAll", spec := "mulAll", inPlace := ["math/bits.Add64"], unfollowed := true, recurses := true, named := ["hairsbreadth/format.table"], apart := false, laid := [("hairsbreadth/format.table", laid_hairsbreadth_format_table)] }
def MulAllSaid : Prop := mulAllRow.holds Tryz.pinned (OpenSpec.ofChange mulAllSpec)

/-- ITS FALSE NEIGHBOUR: 'it returns false'. Refute it at one input. -/
def mulAllWrong : ChangeSpec := { name := "mulAll", fn := fun _ => fun
  | [d1, d2, d3, d4] => { results := [.lit (.bool false)], args := [d1, d2, d3, d4] }
  | _ => none }
def MulAllWrongFalsely : Prop := mulAllRow.holds Tryz.pinned (OpenSpec.ofChange mulAllWrong)

/-- 'hairsbreadthlaw19.MulTerms': WHATEVER THE INPUT: true; the input reads as it did. -/
def mulTermsSpec : ChangeSpec := { name := "mulTerms", fn := fun _ => fun
  | [d1, d2] => { results := [.lit (.bool true)], args := [d1, d2] }
  | _ => none }
def mulTermsRow : OpenClaim := { program := "ytngiodcdelfdmaagreatdoor", sum := "6e22f3f314eeab820bafa1711f956a42297641637407cc777e26e54b71454515", func := "hairsbreadth/hairsbreadthlaw19.MulTerms", spec := "mulTerms", inPlace := ["math/bits.Add64"], unfollowed := true, recurses := true, named := ["hairsbreadth/format.table"], apart := false, laid := [("hairsbreadth/format.table", laid_hairsbreadth_format_table)] }
def MulTermsSaid : Prop := mulTermsRow.holds Tryz.pinned (OpenSpec.ofChange mulTermsSpec)

/-- ITS FALSE NEIGHBOUR: 'it returns false'. Refute it at one input. -/
def mulTermsWrong : ChangeSpec := { name := "mulTerms", fn := fun _ => fun
  | [d1, d2] => { results := [.lit (.bool false)], args := [d1, d2] }
  | _ => none }
def MulTermsWrongFalsely : Prop := mulTermsRow.holds Tryz.pinned (OpenSpec.ofChange mulTermsWrong)

/-- 'hairsbreadthlaw21.DivAll': WHATEVER THE INPUT: true; the input reads as it did. -/
def divAllSpec : ChangeSpec := { name := "divAll", fn := fun _ => fun
  | [d1, d2, d3, d4] => { results := [.lit (.bool true)], args := [d1, d2, d3, d4] }
  | _ => none }
def divAllRow : OpenClaim := { program := "ytngiodcdelfdmaagreatdoor", sum := "6e22f3f314eeab820bafa1711f956a42297641637407cc777e26e54b71454515", func := "hairsbreadth/hairsbreadthlaw21.DivAll", spec := "divAll", inPlace := ["math/bits.Add64", "math/bits.Sub64"], unfollowed := true, recurses := true, named := ["hairsbreadth/format.table"], apart := false, laid := [("hairsbreadth/format.table", laid_hairsbreadth_format_table)] }
def DivAllSaid : Prop := divAllRow.holds Tryz.pinned (OpenSpec.ofChange divAllSpec)

/-- ITS FALSE NEIGHBOUR: 'it returns false'. Refute it at one input. -/
def divAllWrong : ChangeSpec := { name := "divAll", fn := fun _ => fun
  | [d1, d2, d3, d4] => { results := [.lit (.bool false)], args := [d1, d2, d3, d4] }
  | _ => none }
def DivAllWrongFalsely : Prop := divAllRow.holds Tryz.pinned (OpenSpec.ofChange divAllWrong)

/-- 'hairsbreadthlaw22.SqrtAll': WHATEVER THE INPUT: true; the input reads as it did. -/
def sqrtAllSpec : ChangeSpec := { name := "sqrtAll", fn := fun _ => fun
  | [d1, d2, d3] => { results := [.lit (.bool true)], args := [d1, d2, d3] }
  | _ => none }
def sqrtAllRow : OpenClaim := { program := "ytngiodcdelfdmaagreatdoor", sum := "6e22f3f314eeab820bafa1711f956a42297641637407cc777e26e54b71454515", func := "hairsbreadth/hairsbreadthlaw22.SqrtAll", spec := "sqrtAll", inPlace := ["math/bits.Add64"], unfollowed := true, recurses := true, named := ["hairsbreadth/format.table"], apart := false, laid := [("hairsbreadth/format.table", laid_hairsbreadth_format_table)] }
def SqrtAllSaid : Prop := sqrtAllRow.holds Tryz.pinned (OpenSpec.ofChange sqrtAllSpec)

/-- ITS FALSE NEIGHBOUR: 'it returns false'. Refute it at one input. -/
def sqrtAllWrong : ChangeSpec := { name := "sqrtAll", fn := fun _ => fun
  | [d1, d2, d3] => { results := [.lit (.bool false)], args := [d1, d2, d3] }
  | _ => none }
def SqrtAllWrongFalsely : Prop := sqrtAllRow.holds Tryz.pinned (OpenSpec.ofChange sqrtAllWrong)

/-- 'hairsbreadthlaw23.RemAll': WHATEVER THE INPUT: true; the input reads as it did. -/
def remAllSpec : ChangeSpec := { name := "remAll", fn := fun _ => fun
  | [d1, d2, d3] => { results := [.lit (.bool true)], args := [d1, d2, d3] }
  | _ => none }
def remAllRow : OpenClaim := { program := "ytngiodcdelfdmaagreatdoor", sum := "6e22f3f314eeab820bafa1711f956a42297641637407cc777e26e54b71454515", func := "hairsbreadth/hairsbreadthlaw23.RemAll", spec := "remAll", inPlace := ["math/bits.Add64", "math/bits.Sub64"], unfollowed := true, recurses := true, named := ["hairsbreadth/format.table"], apart := false, laid := [("hairsbreadth/format.table", laid_hairsbreadth_format_table)] }
def RemAllSaid : Prop := remAllRow.holds Tryz.pinned (OpenSpec.ofChange remAllSpec)

/-- ITS FALSE NEIGHBOUR: 'it returns false'. Refute it at one input. -/
def remAllWrong : ChangeSpec := { name := "remAll", fn := fun _ => fun
  | [d1, d2, d3] => { results := [.lit (.bool false)], args := [d1, d2, d3] }
  | _ => none }
def RemAllWrongFalsely : Prop := remAllRow.holds Tryz.pinned (OpenSpec.ofChange remAllWrong)

/-- 'hairsbreadthlaw21.DivPowers': WHATEVER THE INPUT: true; the input reads as it did. -/
def divPowersSpec : ChangeSpec := { name := "divPowers", fn := fun _ => fun
  | [d1, d2, d3, d4] => { results := [.lit (.bool true)], args := [d1, d2, d3, d4] }
  | _ => none }
def divPowersRow : OpenClaim := { program := "ytngiodcdelfdmaagreatdoor", sum := "6e22f3f314eeab820bafa1711f956a42297641637407cc777e26e54b71454515", func := "hairsbreadth/hairsbreadthlaw21.DivPowers", spec := "divPowers", inPlace := ["math/bits.Add64", "math/bits.Sub64"], unfollowed := true, recurses := true, named := ["hairsbreadth/format.table"], apart := false, laid := [("hairsbreadth/format.table", laid_hairsbreadth_format_table)] }
def DivPowersSaid : Prop := divPowersRow.holds Tryz.pinned (OpenSpec.ofChange divPowersSpec)

/-- ITS FALSE NEIGHBOUR: 'it returns false'. Refute it at one input. -/
def divPowersWrong : ChangeSpec := { name := "divPowers", fn := fun _ => fun
  | [d1, d2, d3, d4] => { results := [.lit (.bool false)], args := [d1, d2, d3, d4] }
  | _ => none }
def DivPowersWrongFalsely : Prop := divPowersRow.holds Tryz.pinned (OpenSpec.ofChange divPowersWrong)

/-- 'hairsbreadthlaw20.FmaAll': WHATEVER THE INPUT: true; the input reads as it did. -/
def fmaAllSpec : ChangeSpec := { name := "fmaAll", fn := fun _ => fun
  | [d1, d2, d3, d4, d5] => { results := [.lit (.bool true)], args := [d1, d2, d3, d4, d5] }
  | _ => none }
def fmaAllRow : OpenClaim := { program := "ytngiodcdelfdmaagreatdoor", sum := "6e22f3f314eeab820bafa1711f956a42297641637407cc777e26e54b71454515", func := "hairsbreadth/hairsbreadthlaw20.FmaAll", spec := "fmaAll", inPlace := ["math/bits.Add64", "math/bits.Sub64"], unfollowed := true, recurses := true, named := ["hairsbreadth/format.table"], apart := false, laid := [("hairsbreadth/format.table", laid_hairsbreadth_format_table)] }
def FmaAllSaid : Prop := fmaAllRow.holds Tryz.pinned (OpenSpec.ofChange fmaAllSpec)

/-- ITS FALSE NEIGHBOUR: 'it returns false'. Refute it at one input. -/
def fmaAllWrong : ChangeSpec := { name := "fmaAll", fn := fun _ => fun
  | [d1, d2, d3, d4, d5] => { results := [.lit (.bool false)], args := [d1, d2, d3, d4, d5] }
  | _ => none }
def FmaAllWrongFalsely : Prop := fmaAllRow.holds Tryz.pinned (OpenSpec.ofChange fmaAllWrong)

/-- 'hairsbreadthlaw21.DivBack': WHATEVER THE INPUT: true; the input reads as it did. -/
def divBackSpec : ChangeSpec := { name := "divBack", fn := fun _ => fun
  | [d1, d2, d3] => { results := [.lit (.bool true)], args := [d1, d2, d3] }
  | _ => none }
def divBackRow : OpenClaim := { program := "ytngiodcdelfdmaagreatdoor", sum := "6e22f3f314eeab820bafa1711f956a42297641637407cc777e26e54b71454515", func := "hairsbreadth/hairsbreadthlaw21.DivBack", spec := "divBack", inPlace := ["math/bits.Add64", "math/bits.Sub64"], unfollowed := true, recurses := true, named := ["hairsbreadth/format.table"], apart := false, laid := [("hairsbreadth/format.table", laid_hairsbreadth_format_table)] }
def DivBackSaid : Prop := divBackRow.holds Tryz.pinned (OpenSpec.ofChange divBackSpec)

/-- ITS FALSE NEIGHBOUR: 'it returns false'. Refute it at one input. -/
def divBackWrong : ChangeSpec := { name := "divBack", fn := fun _ => fun
  | [d1, d2, d3] => { results := [.lit (.bool false)], args := [d1, d2, d3] }
  | _ => none }
def DivBackWrongFalsely : Prop := divBackRow.holds Tryz.pinned (OpenSpec.ofChange divBackWrong)

/-- 'hairsbreadthlaw25.ConvDouble': WHATEVER THE INPUT: true; the input reads as it did. -/
def convDoubleSpec : ChangeSpec := { name := "convDouble", fn := fun _ => fun
  | [d1, d2, d3] => { results := [.lit (.bool true)], args := [d1, d2, d3] }
  | _ => none }
def convDoubleRow : OpenClaim := { program := "ytngiodcdelfdmaagreatdoor", sum := "6e22f3f314eeab820bafa1711f956a42297641637407cc777e26e54b71454515", func := "hairsbreadth/hairsbreadthlaw25.ConvDouble", spec := "convDouble", inPlace := ["math/bits.Add64", "math/bits.Sub64"], unfollowed := true, recurses := true, named := ["hairsbreadth/format.table"], apart := false, laid := [("hairsbreadth/format.table", laid_hairsbreadth_format_table)] }
def ConvDoubleSaid : Prop := convDoubleRow.holds Tryz.pinned (OpenSpec.ofChange convDoubleSpec)

/-- ITS FALSE NEIGHBOUR: 'it returns false'. Refute it at one input. -/
def convDoubleWrong : ChangeSpec := { name := "convDouble", fn := fun _ => fun
  | [d1, d2, d3] => { results := [.lit (.bool false)], args := [d1, d2, d3] }
  | _ => none }
def ConvDoubleWrongFalsely : Prop := convDoubleRow.holds Tryz.pinned (OpenSpec.ofChange convDoubleWrong)

/- THE SECOND FORM. 'bulk': how many values and letters a reading holds, each counted each time it is reached (what is shared counts as often as it is met; a slice's spare places count too). A statement '..UptoSaid' is the law's where the arguments, and the package variables that the reading takes, are together of bulk at most 1048576: NARROWER than '..Said'. Prove '..Said' where nothing that the law and all that it calls make is longer than what came in: it says more and counts as full. Else prove '..UptoSaid'. A law counts once. -/
mutual
def uptoBulk {H : Type} : DataW H → Nat
  | .lit (.string bytes) => bytes.length + 1
  | .lit _ => 1
  | .nil => 1
  | .ptr d => uptoBulk d + 1
  | .slice elems spare => uptoBulkAll elems + uptoBulkAll spare + 1
  | .agg parts => uptoBulkAll parts + 1
  | .iface _ d => uptoBulk d + 1
  | .map entries => uptoBulkEntries entries + 1
  | .held _ => 1
def uptoBulkAll {H : Type} : List (DataW H) → Nat
  | [] => 0
  | d :: r => uptoBulk d + uptoBulkAll r
def uptoBulkEntries {H : Type} : List (Lit × DataW H) → Nat
  | [] => 0
  | x :: r => uptoBulkEntry x + uptoBulkEntries r
def uptoBulkEntry {H : Type} : Lit × DataW H → Nat
  | (.string bytes, d) => bytes.length + uptoBulk d + 1
  | (_, d) => uptoBulk d + 1
 end
def uptoSmall : (H : Type) → List (DataW H) → Bool := fun _ ds => decide (uptoBulkAll ds ≤ 1048576)
def OpenSpec.upto (s : _root_.Go.ChangeSpec) : _root_.Go.OpenSpec := { _root_.Go.OpenSpec.ofChange s with cond := some uptoSmall }

/-- 'hairsbreadthlaw25.ConvAll', WHERE WHAT IT READS IS OF BULK AT MOST 1048576: true; the input reads as it did. -/
def convAllUptoRow : OpenClaim := { program := "ytngiodcdelfdmaagreatdoor", sum := "6e22f3f314eeab820bafa1711f956a42297641637407cc777e26e54b71454515", func := "hairsbreadth/hairsbreadthlaw25.ConvAll", spec := "convAll", inPlace := ["math/bits.Add64"], unfollowed := true, recurses := true, named := ["hairsbreadth/format.table"], apart := false, laid := [("hairsbreadth/format.table", laid_hairsbreadth_format_table)], narrowed := true }
def ConvAllUptoSaid : Prop := convAllUptoRow.holds Tryz.pinned (OpenSpec.upto convAllSpec)

/-- 'hairsbreadthlaw19.MulAll', WHERE WHAT IT READS IS OF BULK AT MOST 1048576: true; the input reads as it did. -/
def mulAllUptoRow : OpenClaim := { program := "ytngiodcdelfdmaagreatdoor", sum := "6e22f3f314eeab820bafa1711f956a42297641637407cc777e26e54b71454515", func := "hairsbreadth/hairsbreadthlaw19.MulAll", spec := "mulAll", inPlace := ["math/bits.Add64"], unfollowed := true, recurses := true, named := ["hairsbreadth/format.table"], apart := false, laid := [("hairsbreadth/format.table", laid_hairsbreadth_format_table)], narrowed := true }
def MulAllUptoSaid : Prop := mulAllUptoRow.holds Tryz.pinned (OpenSpec.upto mulAllSpec)

/-- 'hairsbreadthlaw19.MulTerms', WHERE WHAT IT READS IS OF BULK AT MOST 1048576: true; the input reads as it did. -/
def mulTermsUptoRow : OpenClaim := { program := "ytngiodcdelfdmaagreatdoor", sum := "6e22f3f314eeab820bafa1711f956a42297641637407cc777e26e54b71454515", func := "hairsbreadth/hairsbreadthlaw19.MulTerms", spec := "mulTerms", inPlace := ["math/bits.Add64"], unfollowed := true, recurses := true, named := ["hairsbreadth/format.table"], apart := false, laid := [("hairsbreadth/format.table", laid_hairsbreadth_format_table)], narrowed := true }
def MulTermsUptoSaid : Prop := mulTermsUptoRow.holds Tryz.pinned (OpenSpec.upto mulTermsSpec)

/-- 'hairsbreadthlaw21.DivAll', WHERE WHAT IT READS IS OF BULK AT MOST 1048576: true; the input reads as it did. -/
def divAllUptoRow : OpenClaim := { program := "ytngiodcdelfdmaagreatdoor", sum := "6e22f3f314eeab820bafa1711f956a42297641637407cc777e26e54b71454515", func := "hairsbreadth/hairsbreadthlaw21.DivAll", spec := "divAll", inPlace := ["math/bits.Add64", "math/bits.Sub64"], unfollowed := true, recurses := true, named := ["hairsbreadth/format.table"], apart := false, laid := [("hairsbreadth/format.table", laid_hairsbreadth_format_table)], narrowed := true }
def DivAllUptoSaid : Prop := divAllUptoRow.holds Tryz.pinned (OpenSpec.upto divAllSpec)

/-- 'hairsbreadthlaw22.SqrtAll', WHERE WHAT IT READS IS OF BULK AT MOST 1048576: true; the input reads as it did. -/
def sqrtAllUptoRow : OpenClaim := { program := "ytngiodcdelfdmaagreatdoor", sum := "6e22f3f314eeab820bafa1711f956a42297641637407cc777e26e54b71454515", func := "hairsbreadth/hairsbreadthlaw22.SqrtAll", spec := "sqrtAll", inPlace := ["math/bits.Add64"], unfollowed := true, recurses := true, named := ["hairsbreadth/format.table"], apart := false, laid := [("hairsbreadth/format.table", laid_hairsbreadth_format_table)], narrowed := true }
def SqrtAllUptoSaid : Prop := sqrtAllUptoRow.holds Tryz.pinned (OpenSpec.upto sqrtAllSpec)

/-- 'hairsbreadthlaw23.RemAll', WHERE WHAT IT READS IS OF BULK AT MOST 1048576: true; the input reads as it did. -/
def remAllUptoRow : OpenClaim := { program := "ytngiodcdelfdmaagreatdoor", sum := "6e22f3f314eeab820bafa1711f956a42297641637407cc777e26e54b71454515", func := "hairsbreadth/hairsbreadthlaw23.RemAll", spec := "remAll", inPlace := ["math/bits.Add64", "math/bits.Sub64"], unfollowed := true, recurses := true, named := ["hairsbreadth/format.table"], apart := false, laid := [("hairsbreadth/format.table", laid_hairsbreadth_format_table)], narrowed := true }
def RemAllUptoSaid : Prop := remAllUptoRow.holds Tryz.pinned (OpenSpec.upto remAllSpec)

/-- 'hairsbreadthlaw21.DivPowers', WHERE WHAT IT READS IS OF BULK AT MOST 1048576: true; the input reads as it did. -/
def divPowersUptoRow : OpenClaim := { program := "ytngiodcdelfdmaagreatdoor", sum := "6e22f3f314eeab820bafa1711f956a42297641637407cc777e26e54b71454515", func := "hairsbreadth/hairsbreadthlaw21.DivPowers", spec := "divPowers", inPlace := ["math/bits.Add64", "math/bits.Sub64"], unfollowed := true, recurses := true, named := ["hairsbreadth/format.table"], apart := false, laid := [("hairsbreadth/format.table", laid_hairsbreadth_format_table)], narrowed := true }
def DivPowersUptoSaid : Prop := divPowersUptoRow.holds Tryz.pinned (OpenSpec.upto divPowersSpec)

/-- 'hairsbreadthlaw20.FmaAll', WHERE WHAT IT READS IS OF BULK AT MOST 1048576: true; the input reads as it did. -/
def fmaAllUptoRow : OpenClaim := { program := "ytngiodcdelfdmaagreatdoor", sum := "6e22f3f314eeab820bafa1711f956a42297641637407cc777e26e54b71454515", func := "hairsbreadth/hairsbreadthlaw20.FmaAll", spec := "fmaAll", inPlace := ["math/bits.Add64", "math/bits.Sub64"], unfollowed := true, recurses := true, named := ["hairsbreadth/format.table"], apart := false, laid := [("hairsbreadth/format.table", laid_hairsbreadth_format_table)], narrowed := true }
def FmaAllUptoSaid : Prop := fmaAllUptoRow.holds Tryz.pinned (OpenSpec.upto fmaAllSpec)

/-- 'hairsbreadthlaw21.DivBack', WHERE WHAT IT READS IS OF BULK AT MOST 1048576: true; the input reads as it did. -/
def divBackUptoRow : OpenClaim := { program := "ytngiodcdelfdmaagreatdoor", sum := "6e22f3f314eeab820bafa1711f956a42297641637407cc777e26e54b71454515", func := "hairsbreadth/hairsbreadthlaw21.DivBack", spec := "divBack", inPlace := ["math/bits.Add64", "math/bits.Sub64"], unfollowed := true, recurses := true, named := ["hairsbreadth/format.table"], apart := false, laid := [("hairsbreadth/format.table", laid_hairsbreadth_format_table)], narrowed := true }
def DivBackUptoSaid : Prop := divBackUptoRow.holds Tryz.pinned (OpenSpec.upto divBackSpec)

/-- 'hairsbreadthlaw25.ConvDouble', WHERE WHAT IT READS IS OF BULK AT MOST 1048576: true; the input reads as it did. -/
def convDoubleUptoRow : OpenClaim := { program := "ytngiodcdelfdmaagreatdoor", sum := "6e22f3f314eeab820bafa1711f956a42297641637407cc777e26e54b71454515", func := "hairsbreadth/hairsbreadthlaw25.ConvDouble", spec := "convDouble", inPlace := ["math/bits.Add64", "math/bits.Sub64"], unfollowed := true, recurses := true, named := ["hairsbreadth/format.table"], apart := false, laid := [("hairsbreadth/format.table", laid_hairsbreadth_format_table)], narrowed := true }
def ConvDoubleUptoSaid : Prop := convDoubleUptoRow.holds Tryz.pinned (OpenSpec.upto convDoubleSpec)

end Rows
end Go.Proofs.YtngiodcdelfdmaaGreatDoor
