import Derived.Test.YtngiodcdelfdmaaGreatDoorP19aR9
import Derived.Test.YtngiodcdelfdmaaGreatDoorP20wR9
import Derived.Test.YtngiodcdelfdmaaGreatDoorH1R9
namespace Go.Proofs.YtngiodcdelfdmaaGreatDoor
set_option linter.unusedVariables false
set_option linter.unusedSimpArgs false
set_option maxRecDepth 100000
open Go.RowKit
theorem k_class_Finite {F a1 a0 : Int} {φ A : Nat} (hF : fN F = φ) (hφ : φ < 4) (hA : nB a1 a0 = A) : F_class_Finite [F, a1, a0] = [b2i (decide (clsF φ A < 3))] := by
 rw [s_class_Finite, hF, hA, decide_eq_true hφ, Bool.true_and]
end Go.Proofs.YtngiodcdelfdmaaGreatDoor
