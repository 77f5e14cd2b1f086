import Derived.Test.YtngiodcdelfdmaaGreatDoorP18aR9
namespace Go.Proofs.YtngiodcdelfdmaaGreatDoor
set_option linter.unusedVariables false
set_option linter.unusedSimpArgs false
set_option maxRecDepth 100000
open Go.RowKit
theorem bt1 : iNz (b2i true) = true := rfl
theorem bt0 : iNz 1 = true := rfl
theorem nT {c : X} {l : List Int} (h : iNz (c.ev l) = true) : iNz ((X.not c).ev l) = false := by rw [ev_not, iNz_b2i, h]; rfl
theorem nF {c : X} {l : List Int} (h : iNz (c.ev l) = false) : iNz ((X.not c).ev l) = true := by rw [ev_not, iNz_b2i, h]; rfl
theorem u8_0 : u8 0 = 0 := by decide
theorem md_lit (k : Nat) (h : k ≤ 4) : (u8 (k : Int)).toNat = k ∧ u8 (k : Int) ≤ 4 := by rw [u8_id (by omega) (by omega)]; exact ⟨Int.toNat_natCast k, by omega⟩
theorem u8_flag {k : Nat} (h : k ≤ 255) : u8 (k : Int) = (k : Int) := u8_id (by omega) (by omega)
theorem cut_lt {f : Nat} (hf : f < 4) (b : Nat) : b % 2 ^ FP.fW f < W128 := Nat.lt_of_lt_of_le (Nat.mod_lt _ (FP.two_pow_pos _)) (pow_le128 (FP.fW_le hf))
section
variable {F M T a1 a0 b1 b0 : Int} {φ μ A B : Nat} {τ : Bool}
theorem k_class_NaN (hF : fN F = φ) (hA : nB a1 a0 = A) : F_class_NaN [F, a1, a0] = [b2i (decide (4 ≤ clsF φ A))] := by rw [s_class_NaN, hF, hA]
theorem k_class_Of (hF : fN F = φ) (hφ : φ < 4) (hA : nB a1 a0 = A) : F_class_Of [F, a1, a0] = [((clsF φ A : Nat) : Int), b2i (FP.sgn φ A)] := by
 rw [s_class_Of, hF, hA, if_pos hφ]; unfold clsF; rw [if_pos hφ]
theorem k_addsub_Turn (hF : fN F = φ) (hA : nB a1 a0 = A) : F_addsub_Turn [F, a1, a0] = [wd (turnN φ A) 1, wd (turnN φ A) 0] := by rw [s_Turn', hF, hA, oB_eq]
theorem k_format_Cut (hF : fN F = φ) (hA : nB a1 a0 = A) : F_format_Cut [F, a1, a0] = [wd (A % 2 ^ FP.fW φ) 1, wd (A % 2 ^ FP.fW φ) 0] := by rw [s_format_Cut, hF, hA, oB_eq]
end
end Go.Proofs.YtngiodcdelfdmaaGreatDoor
