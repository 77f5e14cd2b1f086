import Derived.Test.YtkfbdlidigmfbaaGreatDoorP28B1
import Derived.Test.YtkfbdlidigmfbaaGreatDoorP29aB1
namespace Go.Proofs.YtkfbdlidigmfbaaGreatDoor
set_option linter.unusedVariables false
set_option linter.unusedSimpArgs false
set_option maxRecDepth 100000
open Go.RowKit
theorem k_sqrt_Sqrt {F M T a1 a0 : Int} {φ μ A : Nat} {τ : Bool} (hF : fN F = φ) (hφ : φ < 4) (hM : (u8 M).toNat = μ) (hM4 : u8 M ≤ 4) (hT : iNz T = τ) (hA : nB a1 a0 = A) : F_sqrt_Sqrt [F, M, T, a1, a0] = [wd (sqrtR φ μ τ A).1 1, wd (sqrtR φ μ τ A).1 0, (((sqrtR φ μ τ A).2 : Nat) : Int)] := by
 rw [s_sqrt_Sqrt _ _ _ _ _ (by rw [hF]; exact hφ) hM4, hF, hM, hT, hA, oR_eq']
end Go.Proofs.YtkfbdlidigmfbaaGreatDoor
