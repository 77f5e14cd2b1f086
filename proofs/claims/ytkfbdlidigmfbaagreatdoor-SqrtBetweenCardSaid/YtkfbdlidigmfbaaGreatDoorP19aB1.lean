import Derived.Test.YtkfbdlidigmfbaaGreatDoorP18aB1
namespace Go.Proofs.YtkfbdlidigmfbaaGreatDoor
set_option linter.unusedVariables false
set_option linter.unusedSimpArgs false
set_option maxRecDepth 100000
open Go.RowKit
theorem nB_00 : nB 0 0 = 0 := by unfold nB; rw [show u64 0 = 0 from by decide]; rfl
theorem md_lit (k : Nat) (h : k ≤ 4) : (u8 (k : Int)).toNat = k ∧ u8 (k : Int) ≤ 4 := by rw [u8_id (by omega) (by omega)]; exact ⟨Int.toNat_natCast k, by omega⟩
theorem u8_flag {k : Nat} (h : k ≤ 255) : u8 (k : Int) = (k : Int) := u8_id (by omega) (by omega)
theorem size_lt {f : Nat} (hf : f < 4) (b : Nat) : sizeN f b < W128 := mk_W hf _ (FP.cod_lt _ _)
theorem makeN_one {f : Nat} (hf : f < 4) : makeN f (iNz 0) ((FP.fE f : Nat) : Int) 0 = FP.mk f false (FP.oneC f) := by
 obtain ⟨n1, n2, n3, n4, n5, n6, n7, n8, n9⟩ := FP.fmtN hf
 unfold makeN
 rw [if_neg (by omega), Int.toNat_natCast, Nat.zero_mod, Nat.add_zero, Nat.mod_eq_of_lt (by omega)]; rfl
section
variable {F M T a1 a0 b1 b0 : Int} {φ μ A B : Nat} {τ : Bool}
theorem k_class_Of (hF : fN F = φ) (hφ : φ < 4) (hA : nB a1 a0 = A) : F_class_Of [F, a1, a0] = [((clsF φ A : Nat) : Int), b2i (FP.sgn φ A)] := by
 rw [s_class_Of, hF, hA, if_pos hφ]; unfold clsF; rw [if_pos hφ]
theorem k_addsub_Turn (hF : fN F = φ) (hA : nB a1 a0 = A) : F_addsub_Turn [F, a1, a0] = [wd (turnN φ A) 1, wd (turnN φ A) 0] := by rw [s_Turn', hF, hA, oB_eq]
theorem k_format_Emax (hF : fN F = φ) : F_format_Emax [F] = [((FP.fE φ : Nat) : Int)] := by rw [s_format_Emax, hF]
theorem k_format_Prec (hF : fN F = φ) : F_format_Prec [F] = [((FP.fP φ : Nat) : Int)] := by rw [s_format_Prec, hF]
end
end Go.Proofs.YtkfbdlidigmfbaaGreatDoor
