import Derived.Test.YtafnnnhmplgkcaaDoorV2
/- Laws of roots: examples. -/
namespace Go.Proofs.YtafnnnhmplgkcaaDoor
set_option linter.unusedVariables false
set_option maxRecDepth 100000
open Go.RowKit
theorem true_SqrtKnown (l : List Int) (h : l.length = 0) : F_law22_SqrtKnown l = [1] := by
  rw [List.length_eq_zero_iff.1 h]; kernel_rfl
end Go.Proofs.YtafnnnhmplgkcaaDoor
