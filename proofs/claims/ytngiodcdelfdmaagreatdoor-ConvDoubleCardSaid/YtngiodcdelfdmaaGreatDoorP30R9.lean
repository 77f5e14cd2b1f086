import Derived.Test.YtngiodcdelfdmaaGreatDoorP28R9
import Derived.Test.YtngiodcdelfdmaaGreatDoorP29aR9
namespace Go.Proofs.YtngiodcdelfdmaaGreatDoor
set_option linter.unusedVariables false
set_option linter.unusedSimpArgs false
set_option maxRecDepth 100000
open Go.RowKit
theorem k_sqrt_Sqrt {F M T a1 a0 : Int} {φ μ A : Nat} {τ : Bool} (hF : fN F = φ) (hφ : φ < 4) (hM : (u8 M).toNat = μ) (hM4 : u8 M ≤ 4) (hT : iNz T = τ) (hA : nB a1 a0 = A) : F_sqrt_Sqrt [F, M, T, a1, a0] = [wd (sqrtR φ μ τ A).1 1, wd (sqrtR φ μ τ A).1 0, (((sqrtR φ μ τ A).2 : Nat) : Int)] := by
 rw [s_sqrt_Sqrt _ _ _ _ _ (by rw [hF]; exact hφ) hM4, hF, hM, hT, hA, oR_eq']
theorem sqrtR_lt {f : Nat} (hf : f < 4) (m : Nat) (after : Bool) (a : Nat) : (sqrtR f m after a).1 < W128 := by
 unfold sqrtR
 split
 ·rename_i h; exact (quN_lt hf h).1
 ·split
  ·exact mk_W hf false (dfl_code hf)
  ·split
   ·exact mk_W hf _ (FP.two_pow_pos _)
   ·split
    ·exact mk_W hf _ (inf_W hf)
    ·refine mk_W hf _ (Nat.lt_of_le_of_lt ?_ (inf_lt hf))
     rw [FP.sqrtC_eq]; exact FP.roundC_le _ _ _ _ _ _ _
end Go.Proofs.YtngiodcdelfdmaaGreatDoor
