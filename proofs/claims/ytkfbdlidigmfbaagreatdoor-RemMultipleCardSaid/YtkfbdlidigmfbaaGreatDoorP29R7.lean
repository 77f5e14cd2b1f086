import Derived.Test.YtkfbdlidigmfbaaGreatDoorP27R7
import Derived.Test.YtkfbdlidigmfbaaGreatDoorP19aR7
import Derived.Test.YtkfbdlidigmfbaaGreatDoorP20wR7
import Derived.Test.YtkfbdlidigmfbaaGreatDoorH1R7
namespace Go.Proofs.YtkfbdlidigmfbaaGreatDoor
set_option linter.unusedVariables false
set_option linter.unusedSimpArgs false
set_option maxRecDepth 100000
open Go.RowKit
theorem k_addsub_Add {F M T a1 a0 b1 b0 : Int} {φ μ A B : Nat} {τ : Bool} (hF : fN F = φ) (hφ : φ < 4) (hM : (u8 M).toNat = μ) (hM4 : u8 M ≤ 4) (hT : iNz T = τ) (hA : nB a1 a0 = A) (hB : nB b1 b0 = B) : F_addsub_Add [F, M, T, a1, a0, b1, b0] = [wd (addR φ μ τ A B).1 1, wd (addR φ μ τ A B).1 0, (((addR φ μ τ A B).2 : Nat) : Int)] := by
 rw [s_addsub_Add _ _ _ _ _ _ _ (by rw [hF]; exact hφ) hM4, hF, hM, hT, hA, hB, oR_eq']
end Go.Proofs.YtkfbdlidigmfbaaGreatDoor
