import Derived.Test.YtkfbdlidigmfbaaGreatDoorP22R7
import Derived.Test.YtkfbdlidigmfbaaGreatDoorP19aR7
namespace Go.Proofs.YtkfbdlidigmfbaaGreatDoor
set_option linter.unusedVariables false
set_option linter.unusedSimpArgs false
set_option maxRecDepth 100000
open Go.RowKit
theorem k_rem_Rem {F a1 a0 b1 b0 : Int} {φ A B : Nat} (hF : fN F = φ) (hφ : φ < 4) (hA : nB a1 a0 = A) (hB : nB b1 b0 = B) : F_rem_Rem [F, a1, a0, b1, b0] = [wd (remR φ A B).1 1, wd (remR φ A B).1 0, (((remR φ A B).2 : Nat) : Int)] := by
 rw [s_rem_Rem _ _ _ _ _ (by rw [hF]; exact hφ), hF, hA, hB, oR_eq']
end Go.Proofs.YtkfbdlidigmfbaaGreatDoor
