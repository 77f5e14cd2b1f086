import Derived.Test.YtngiodcdelfdmaaGreatDoorP28R6
import Derived.Test.YtngiodcdelfdmaaGreatDoorP19aR6
import Derived.Test.YtngiodcdelfdmaaGreatDoorP20wR6
import Derived.Test.YtngiodcdelfdmaaGreatDoorH1R6
namespace Go.Proofs.YtngiodcdelfdmaaGreatDoor
set_option linter.unusedVariables false
set_option linter.unusedSimpArgs false
set_option maxRecDepth 100000
open Go.RowKit
theorem s_sqrt_Sqrt0 (f m t a1 a0 : Int) (h : ¬ (fN f < 4 ∧ u8 m ≤ 4)) : F_sqrt_Sqrt [f, m, t, a1, a0] = [0, 0, 0] := by
 rw [F_sqrt_Sqrt, t_sqrt_Sqrt]
 by_cases hf : fN f < 4
 ·refine tF (by simp only [l_an, l_ca, l_na, l_mc, l_mn, getI_0, getI_s, oB_eq, oW_eq, ev_bin, ev_conv, ev_ite, ev_lit, ev_var_u, ev_var_i, ev_var_8, ev_var_b, ev_var_t, ev_not, ev_and, ev_beq, ev_max, ev_min, op_eql, op_neq, op_lss, op_leq, op_gtr, op_geq, op_add, op_sub, iNz_b2i, w64_u, w64_i, w8_u, u64_wd, u64_u64, i64_i64, u8_u8]; exact known_f hf) ?_
  refine tT (by simp only [l_an, l_ca, l_na, l_mc, l_mn, getI_0, getI_s, oB_eq, oW_eq, ev_bin, ev_conv, ev_ite, ev_lit, ev_var_u, ev_var_i, ev_var_8, ev_var_b, ev_var_t, ev_not, ev_and, ev_beq, ev_max, ev_min, op_eql, op_neq, op_lss, op_leq, op_gtr, op_geq, op_add, op_sub, iNz_b2i, w64_u, w64_i, w8_u, u64_wd, u64_u64, i64_i64, u8_u8]; rw [decide_eq_false (fun h2 => h ⟨hf, h2⟩)]; rfl) ?_
  rw [treeF_leaf rfl]; rfl
 ·refine tT (by simp only [l_an, l_ca, l_na, l_mc, l_mn, getI_0, getI_s, oB_eq, oW_eq, ev_bin, ev_conv, ev_ite, ev_lit, ev_var_u, ev_var_i, ev_var_8, ev_var_b, ev_var_t, ev_not, ev_and, ev_beq, ev_max, ev_min, op_eql, op_neq, op_lss, op_leq, op_gtr, op_geq, op_add, op_sub, iNz_b2i, w64_u, w64_i, w8_u, u64_wd, u64_u64, i64_i64, u8_u8]; rw [decide_eq_false (fun h2 => hf ((u8_lt4 f).1 h2))]; rfl) ?_
  rw [treeF_leaf rfl]; rfl
end Go.Proofs.YtngiodcdelfdmaaGreatDoor
