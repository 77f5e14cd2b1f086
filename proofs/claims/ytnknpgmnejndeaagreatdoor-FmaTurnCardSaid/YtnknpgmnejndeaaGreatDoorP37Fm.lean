import Derived.Test.YtnknpgmnejndeaaGreatDoorP35Fm
import Derived.Test.YtnknpgmnejndeaaGreatDoorP36Fm
/- Fused products by numbers. -/
namespace Go.Proofs.YtnknpgmnejndeaaGreatDoor
set_option linter.unusedVariables false
set_option linter.unusedSimpArgs false
set_option maxRecDepth 100000
open Go.RowKit
theorem k_fma_Fma {F M T a1 a0 b1 b0 c1 c0 : Int} {φ μ A B C : Nat} {τ : Bool} (hF : fN F = φ) (hφ : φ < 4) (hM : (u8 M).toNat = μ) (hM4 : u8 M ≤ 4) (hT : iNz T = τ) (hA : nB a1 a0 = A) (hB : nB b1 b0 = B) (hC : nB c1 c0 = C) : F_fma_Fma [F, M, T, a1, a0, b1, b0, c1, c0] = [wd (fmaR φ μ τ A B C).1 1, wd (fmaR φ μ τ A B C).1 0, (((fmaR φ μ τ A B C).2 : Nat) : Int)] := by
  rw [s_fma_Fma _ _ _ _ _ _ _ _ _ (by rw [hF]; exact hφ) hM4, hF, hM, hT, hA, hB, hC, oR_eq']
theorem s_fma_Fma0 (f m t a1 a0 b1 b0 c1 c0 : Int) (h : ¬ (fN f < 4 ∧ u8 m ≤ 4)) : F_fma_Fma [f, m, t, a1, a0, b1, b0, c1, c0] = [0, 0, 0] := by
  rw [F_fma_Fma, t_fma_Fma]
  by_cases hf : fN f < 4
  · refine tF (by simp only [l_an, l_ca, l_na, l_mc, l_mn, getI_0, getI_s, oB_eq, oW_eq, ev_bin, ev_conv, ev_ite, ev_lit, ev_var_u, ev_var_i, ev_var_8, ev_var_b, ev_var_t, ev_not, ev_and, ev_beq, ev_max, ev_min, op_eql, op_neq, op_lss, op_leq, op_gtr, op_geq, op_add, op_sub, iNz_b2i, w64_u, w64_i, w8_u, u64_wd, u64_u64, i64_i64, u8_u8]; exact known_f hf) ?_
    refine tT (by simp only [l_an, l_ca, l_na, l_mc, l_mn, getI_0, getI_s, oB_eq, oW_eq, ev_bin, ev_conv, ev_ite, ev_lit, ev_var_u, ev_var_i, ev_var_8, ev_var_b, ev_var_t, ev_not, ev_and, ev_beq, ev_max, ev_min, op_eql, op_neq, op_lss, op_leq, op_gtr, op_geq, op_add, op_sub, iNz_b2i, w64_u, w64_i, w8_u, u64_wd, u64_u64, i64_i64, u8_u8]; rw [decide_eq_false (fun h2 => h ⟨hf, h2⟩)]; rfl) ?_
    rw [treeF_leaf rfl]; rfl
  · refine tT (by simp only [l_an, l_ca, l_na, l_mc, l_mn, getI_0, getI_s, oB_eq, oW_eq, ev_bin, ev_conv, ev_ite, ev_lit, ev_var_u, ev_var_i, ev_var_8, ev_var_b, ev_var_t, ev_not, ev_and, ev_beq, ev_max, ev_min, op_eql, op_neq, op_lss, op_leq, op_gtr, op_geq, op_add, op_sub, iNz_b2i, w64_u, w64_i, w8_u, u64_wd, u64_u64, i64_i64, u8_u8]; rw [decide_eq_false (fun h2 => hf ((u8_lt4 f).1 h2))]; rfl) ?_
    rw [treeF_leaf rfl]; rfl
theorem k_two {F : Int} {φ : Nat} (hF : fN F = φ) (hφ : φ < 4) : F_format_Make [F, 0, i64 (i64 ((FP.fE φ : Nat) : Int) + 1), 0, 0] = [wd (FP.mk φ false (twoC φ)) 1, wd (FP.mk φ false (twoC φ)) 0] := by
  obtain ⟨n1, n2, n3, n4, n5, n6, n7, n8, n9⟩ := FP.fmtN hφ
  have e : i64 (i64 ((FP.fE φ : Nat) : Int) + 1) = ((FP.fE φ + 1 : Nat) : Int) := by rw [i64_fE, i64_id (by omega) (by omega)]; omega
  have hp := FP.two_pow_pos (FP.fP φ - 1)
  have hm := make_code hφ (two_bits hφ).1 false
  have q1 : twoC φ / 2 ^ (FP.fP φ - 1) = FP.fE φ + 1 := by unfold twoC; exact Nat.mul_div_cancel _ hp
  have q2 : twoC φ % 2 ^ (FP.fP φ - 1) = 0 := by unfold twoC; exact Nat.mul_mod_left _ _
  rw [q1, q2] at hm
  rw [e, s_format_Make, hF, if_pos hφ, i64_nat (by omega), show nB 0 0 = 0 from nB_00, show iNz 0 = false by decide, hm, oB_eq]
theorem k_Unpack {F a1 a0 : Int} {φ A : Nat} (hF : fN F = φ) (hφ : φ < 4) (hA : nB a1 a0 = A) : F_fields_Unpack [F, a1, a0] = [b2i (FP.sgn φ A), ((clsF φ A : Nat) : Int), unE φ A, wd (unS φ A) 1, wd (unS φ A) 0] := by
  have sg : sgnF φ A = FP.sgn φ A := by unfold sgnF; rw [decide_eq_true hφ, Bool.true_and]
  rw [s_fields_Unpack, hF, hA, sg, oB_eq]; rfl
theorem rest_lim {f : Nat} (hf : f < 4) : i64 (i64 (iOp .mul .i64 2 (i64 ((FP.fP f : Nat) : Int))) - i64 ((FP.fE f : Nat) : Int)) = 2 * (FP.fP f : Int) - FP.fE f ∧ i64 (iOp .mul .i64 2 (i64 ((FP.fP f : Nat) : Int)) - i64 ((FP.fE f : Nat) : Int)) = 2 * (FP.fP f : Int) - FP.fE f := by
  obtain ⟨n1, n2, n3, n4, n5, n6, n7, n8, n9⟩ := FP.fmtN hf
  have e : iOp .mul .i64 2 (i64 ((FP.fP f : Nat) : Int)) = 2 * (FP.fP f : Int) := by
    rw [i64_fP]
    show IntKind.i64.wrap (2 * (FP.fP f : Int)) = _
    rw [w64_i, i64_id (by omega) (by omega)]
  rw [e, i64_fE, i64_id (n := 2 * (FP.fP f : Int)) (by omega) (by omega), i64_id (by omega) (by omega)]
  exact ⟨rfl, rfl⟩
theorem un_ids {f a b : Nat} : i64 (unE f a) = unE f a ∧ i64 (unE f b) = unE f b ∧ i64 (unE f a + unE f b) = unE f a + unE f b := by
  have h1 := unE_rng (f := f) (b := a)
  have h2 := unE_rng (f := f) (b := b)
  exact ⟨i64_id (by omega) (by omega), i64_id (by omega) (by omega), i64_id (by omega) (by omega)⟩
end Go.Proofs.YtnknpgmnejndeaaGreatDoor
