import Derived.Test.YtnknpgmnejndeaaGreatDoorB2Fm
/- Laws of fused products: examples. -/
namespace Go.Proofs.YtnknpgmnejndeaaGreatDoor
set_option linter.unusedVariables false
set_option maxRecDepth 100000
open Go.RowKit
theorem true_FmaKnown (l : List Int) (h : l.length = 0) : F_law20_FmaKnown l = [1] := by
  rw [List.length_eq_zero_iff.1 h]; kernel_rfl
end Go.Proofs.YtnknpgmnejndeaaGreatDoor
