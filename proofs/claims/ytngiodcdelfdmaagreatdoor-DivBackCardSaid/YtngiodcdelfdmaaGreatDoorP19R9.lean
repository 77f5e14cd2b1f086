import Derived.Test.YtngiodcdelfdmaaGreatDoorP18R9
import Derived.Test.YtngiodcdelfdmaaGreatDoorP19aR9
namespace Go.Proofs.YtngiodcdelfdmaaGreatDoor
set_option linter.unusedVariables false
set_option linter.unusedSimpArgs false
set_option maxRecDepth 100000
open Go.RowKit
section
variable {F M T a1 a0 b1 b0 : Int} {φ μ A B : Nat} {τ : Bool}
theorem k_div_Div (hF : fN F = φ) (hφ : φ < 4) (hM : (u8 M).toNat = μ) (hM4 : u8 M ≤ 4) (hT : iNz T = τ) (hA : nB a1 a0 = A) (hB : nB b1 b0 = B) : F_div_Div [F, M, T, a1, a0, b1, b0] = [wd (divR φ μ τ A B).1 1, wd (divR φ μ τ A B).1 0, (((divR φ μ τ A B).2 : Nat) : Int)] := by
 rw [s_div_Div _ _ _ _ _ _ _ (by rw [hF]; exact hφ) hM4, hF, hM, hT, hA, hB, oR_eq']
theorem k_law21_plain (hF : fN F = φ) (hA : nB a1 a0 = A) : F_law21_plain [F, a1, a0] = [b2i (decide (clsF φ A = 1 ∨ clsF φ A = 2))] := by
 subst hF; subst hA
 rw [F_law21_plain, t_law21_plain]
 refine (treeF_call (by simp only [l_an, l_ca, l_na, l_mc, l_mn, getI_0, getI_s, oB_eq, oW_eq, ev_bin, ev_conv, ev_ite, ev_lit, ev_var_u, ev_var_i, ev_var_8, ev_var_b, ev_var_t, ev_not, ev_and, ev_beq, ev_max, ev_min, op_eql, op_neq, op_lss, op_leq, op_gtr, op_geq, op_add, op_sub, iNz_b2i, w64_u, w64_i, w8_u, u64_wd, u64_u64, i64_i64, u8_u8, ph_E10_class_Of]; exact s_Of' _ _ _) (by rfl)).trans ?_
 rw [fN_u, nB_u]
 have u8A := clsF_u8 (fN F) (nB a1 a0)
 refine tI (fN F < 4) (by simp only [l_an, l_ca, l_na, l_mc, l_mn, getI_0, getI_s, oB_eq, oW_eq, ev_bin, ev_conv, ev_ite, ev_lit, ev_var_u, ev_var_i, ev_var_8, ev_var_b, ev_var_t, ev_not, ev_and, ev_beq, ev_max, ev_min, op_eql, op_neq, op_lss, op_leq, op_gtr, op_geq, op_add, op_sub, iNz_b2i, w64_u, w64_i, w8_u, u64_wd, u64_u64, i64_i64, u8_u8, ← u8_lt4]) (fun h1 => ?_) (fun h1 => ?_)
 ·refine tI (clsF (fN F) (nB a1 a0) = 1) (by simp only [l_an, l_ca, l_na, l_mc, l_mn, getI_0, getI_s, oB_eq, oW_eq, ev_bin, ev_conv, ev_ite, ev_lit, ev_var_u, ev_var_i, ev_var_8, ev_var_b, ev_var_t, ev_not, ev_and, ev_beq, ev_max, ev_min, op_eql, op_neq, op_lss, op_leq, op_gtr, op_geq, op_add, op_sub, iNz_b2i, w64_u, w64_i, w8_u, u64_wd, u64_u64, i64_i64, u8_u8, u8A]; exact beq_nk _ 1) (fun h2 => ?_) (fun h2 => ?_)
  ·rw [treeF_leaf rfl, decide_eq_true (.inl h2)]; rfl
  ·rw [treeF_leaf rfl]
   simp only [l_an, l_ca, l_na, l_mc, l_mn, getI_0, getI_s, oB_eq, oW_eq, ev_bin, ev_conv, ev_ite, ev_lit, ev_var_u, ev_var_i, ev_var_8, ev_var_b, ev_var_t, ev_not, ev_and, ev_beq, ev_max, ev_min, op_eql, op_neq, op_lss, op_leq, op_gtr, op_geq, op_add, op_sub, iNz_b2i, w64_u, w64_i, w8_u, u64_wd, u64_u64, i64_i64, u8_u8, u8A, h2, false_or]
   rw [show ((clsF (fN F) (nB a1 a0) : Int) == 2) = decide (clsF (fN F) (nB a1 a0) = 2) from beq_nk _ 2]
 ·rw [treeF_leaf rfl, decide_eq_false (by unfold clsF; rw [if_neg h1]; omega)]; rfl
end
end Go.Proofs.YtngiodcdelfdmaaGreatDoor
