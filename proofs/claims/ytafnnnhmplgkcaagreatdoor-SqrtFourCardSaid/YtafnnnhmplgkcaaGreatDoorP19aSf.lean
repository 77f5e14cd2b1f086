import Derived.Test.YtafnnnhmplgkcaaGreatDoorP18aSf
/- Calls by numbers: what is answered, wherever the arguments come from; quotients by 1 and by itself. -/
namespace Go.Proofs.YtafnnnhmplgkcaaGreatDoor
set_option linter.unusedVariables false
set_option linter.unusedSimpArgs false
set_option maxRecDepth 100000
open Go.RowKit
theorem bt1 : iNz (b2i true) = true := rfl
theorem bt0 : iNz 1 = true := rfl
theorem u8_0 : u8 0 = 0 := by decide
theorem u64_0 : u64 0 = 0 := by decide
theorem size_lt {f : Nat} (hf : f < 4) (b : Nat) : sizeN f b < W128 := mk_W hf _ (FP.cod_lt _ _)
section
variable {F M T a1 a0 b1 b0 : Int} {φ μ A B : Nat} {τ : Bool}
theorem k_format_Emax (hF : fN F = φ) : F_format_Emax [F] = [((FP.fE φ : Nat) : Int)] := by rw [s_format_Emax, hF]
end
end Go.Proofs.YtafnnnhmplgkcaaGreatDoor
