import Derived.Test.YtngiodcdelfdmaaGreatDoorP35R9
import Derived.Test.YtngiodcdelfdmaaGreatDoorP34R9
import Derived.Test.YtngiodcdelfdmaaGreatDoorP32R9
import Derived.Test.YtngiodcdelfdmaaGreatDoorP29R9
namespace Go.Proofs.YtngiodcdelfdmaaGreatDoor
set_option linter.unusedVariables false
set_option linter.unusedSimpArgs false
set_option maxRecDepth 100000
open Go.RowKit
theorem k_fma_Fma {F M T a1 a0 b1 b0 c1 c0 : Int} {φ μ A B C : Nat} {τ : Bool} (hF : fN F = φ) (hφ : φ < 4) (hM : (u8 M).toNat = μ) (hM4 : u8 M ≤ 4) (hT : iNz T = τ) (hA : nB a1 a0 = A) (hB : nB b1 b0 = B) (hC : nB c1 c0 = C) : F_fma_Fma [F, M, T, a1, a0, b1, b0, c1, c0] = [wd (fmaR φ μ τ A B C).1 1, wd (fmaR φ μ τ A B C).1 0, (((fmaR φ μ τ A B C).2 : Nat) : Int)] := by
 rw [s_fma_Fma _ _ _ _ _ _ _ _ _ (by rw [hF]; exact hφ) hM4, hF, hM, hT, hA, hB, hC, oR_eq']
end Go.Proofs.YtngiodcdelfdmaaGreatDoor
