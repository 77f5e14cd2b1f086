import Derived.Test.YtkfbdlidigmfbaaGreatDoorP18aR7
namespace Go.Proofs.YtkfbdlidigmfbaaGreatDoor
set_option linter.unusedVariables false
set_option linter.unusedSimpArgs false
set_option maxRecDepth 100000
open Go.RowKit
theorem u8_0 : u8 0 = 0 := by decide
theorem u64_0 : u64 0 = 0 := by decide
theorem nB_00 : nB 0 0 = 0 := by unfold nB; rw [show u64 0 = 0 from by decide]; rfl
theorem u8_flag {k : Nat} (h : k ≤ 255) : u8 (k : Int) = (k : Int) := u8_id (by omega) (by omega)
theorem makeN_one {f : Nat} (hf : f < 4) : makeN f (iNz 0) ((FP.fE f : Nat) : Int) 0 = FP.mk f false (FP.oneC f) := by
 obtain ⟨n1, n2, n3, n4, n5, n6, n7, n8, n9⟩ := FP.fmtN hf
 unfold makeN
 rw [if_neg (by omega), Int.toNat_natCast, Nat.zero_mod, Nat.add_zero, Nat.mod_eq_of_lt (by omega)]; rfl
section
variable {F M T a1 a0 b1 b0 : Int} {φ μ A B : Nat} {τ : Bool}
theorem k_class_Of (hF : fN F = φ) (hφ : φ < 4) (hA : nB a1 a0 = A) : F_class_Of [F, a1, a0] = [((clsF φ A : Nat) : Int), b2i (FP.sgn φ A)] := by
 rw [s_class_Of, hF, hA, if_pos hφ]; unfold clsF; rw [if_pos hφ]
theorem k_format_Nought (hF : fN F = φ) (hφ : φ < 4) (hT : iNz T = τ) : F_format_Nought [F, T] = [wd (FP.mk φ τ 0) 1, wd (FP.mk φ τ 0) 0] := by rw [s_format_Nought, hF, if_pos hφ, hT, oB_eq]
theorem k_format_Emax (hF : fN F = φ) : F_format_Emax [F] = [((FP.fE φ : Nat) : Int)] := by rw [s_format_Emax, hF]
theorem k_one (hF : fN F = φ) (hφ : φ < 4) : F_format_Make [F, 0, i64 ((FP.fE φ : Nat) : Int), 0, 0] = [wd (FP.mk φ false (FP.oneC φ)) 1, wd (FP.mk φ false (FP.oneC φ)) 0] := by
 rw [s_format_Make, hF, if_pos hφ, nB_00, i64_i64, i64_fE, oB_eq]
 have : makeN φ (iNz 0) ((FP.fE φ : Nat) : Int) 0 = FP.mk φ false (FP.oneC φ) := makeN_one hφ
 rw [this]
end
end Go.Proofs.YtkfbdlidigmfbaaGreatDoor
