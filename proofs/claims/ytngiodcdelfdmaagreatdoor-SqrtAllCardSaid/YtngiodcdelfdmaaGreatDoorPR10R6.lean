import Derived.Test.YtngiodcdelfdmaaGreatDoorZKR6
import Derived.Test.YtngiodcdelfdmaaGreatDoorRL10R6
namespace Go.Proofs.YtngiodcdelfdmaaGreatDoor
set_option linter.unusedVariables false
set_option exponentiation.threshold 500
set_option linter.unusedSimpArgs false
set_option maxRecDepth 100000
open Go.RowKit
theorem v_Root {a j : Nat} (ha : a < 2 ^ j) (hj : j ≤ 1073741824) : fRootN [(a : Int)] = [((rootX a : Nat) : Int)] := by
 unfold fRootN; rw [gN_0, okN_of ha hj]; rfl
end Go.Proofs.YtngiodcdelfdmaaGreatDoor
