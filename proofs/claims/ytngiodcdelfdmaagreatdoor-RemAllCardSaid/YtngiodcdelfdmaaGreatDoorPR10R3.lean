import Derived.Test.YtngiodcdelfdmaaGreatDoorZKR3
import Derived.Test.YtngiodcdelfdmaaGreatDoorRL10R3
namespace Go.Proofs.YtngiodcdelfdmaaGreatDoor
set_option linter.unusedVariables false
set_option linter.unusedSimpArgs false
set_option maxRecDepth 100000
open Go.RowKit
theorem v_Div {a b j k : Nat} (ha : a < 2 ^ j) (hb : b < 2 ^ k) (hj : j ≤ 1073741824) (hk : k ≤ 1073741824) (h : 0 < b) : fDiv [(a : Int), (b : Int)] = [((a / b : Nat) : Int), ((a % b : Nat) : Int)] := by
 unfold fDiv; rw [gN_0, gN_1, okN_of ha hj, okN_of hb hk, decide_eq_true h]; rfl
end Go.Proofs.YtngiodcdelfdmaaGreatDoor
