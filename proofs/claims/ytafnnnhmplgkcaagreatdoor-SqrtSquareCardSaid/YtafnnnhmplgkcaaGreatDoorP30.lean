import Derived.Test.YtafnnnhmplgkcaaGreatDoorP28
import Derived.Test.YtafnnnhmplgkcaaGreatDoorP29a
/- Roots by numbers. -/
namespace Go.Proofs.YtafnnnhmplgkcaaGreatDoor
set_option linter.unusedVariables false
set_option linter.unusedSimpArgs false
set_option maxRecDepth 100000
open Go.RowKit
theorem k_sqrt_Sqrt {F M T a1 a0 : Int} {φ μ A : Nat} {τ : Bool} (hF : fN F = φ) (hφ : φ < 4) (hM : (u8 M).toNat = μ) (hM4 : u8 M ≤ 4) (hT : iNz T = τ) (hA : nB a1 a0 = A) : F_sqrt_Sqrt [F, M, T, a1, a0] = [wd (sqrtR φ μ τ A).1 1, wd (sqrtR φ μ τ A).1 0, (((sqrtR φ μ τ A).2 : Nat) : Int)] := by
  rw [s_sqrt_Sqrt _ _ _ _ _ (by rw [hF]; exact hφ) hM4, hF, hM, hT, hA, oR_eq']
theorem s_sqrt_Sqrt0 (f m t a1 a0 : Int) (h : ¬ (fN f < 4 ∧ u8 m ≤ 4)) : F_sqrt_Sqrt [f, m, t, a1, a0] = [0, 0, 0] := by
  rw [F_sqrt_Sqrt, t_sqrt_Sqrt]
  by_cases hf : fN f < 4
  · refine tF (by simp only [l_an, l_ca, l_na, l_mc, l_mn, getI_0, getI_s, oB_eq, oW_eq, ev_bin, ev_conv, ev_ite, ev_lit, ev_var_u, ev_var_i, ev_var_8, ev_var_b, ev_var_t, ev_not, ev_and, ev_beq, ev_max, ev_min, op_eql, op_neq, op_lss, op_leq, op_gtr, op_geq, op_add, op_sub, iNz_b2i, w64_u, w64_i, w8_u, u64_wd, u64_u64, i64_i64, u8_u8]; exact known_f hf) ?_
    refine tT (by simp only [l_an, l_ca, l_na, l_mc, l_mn, getI_0, getI_s, oB_eq, oW_eq, ev_bin, ev_conv, ev_ite, ev_lit, ev_var_u, ev_var_i, ev_var_8, ev_var_b, ev_var_t, ev_not, ev_and, ev_beq, ev_max, ev_min, op_eql, op_neq, op_lss, op_leq, op_gtr, op_geq, op_add, op_sub, iNz_b2i, w64_u, w64_i, w8_u, u64_wd, u64_u64, i64_i64, u8_u8]; rw [decide_eq_false (fun h2 => h ⟨hf, h2⟩)]; rfl) ?_
    rw [treeF_leaf rfl]; rfl
  · refine tT (by simp only [l_an, l_ca, l_na, l_mc, l_mn, getI_0, getI_s, oB_eq, oW_eq, ev_bin, ev_conv, ev_ite, ev_lit, ev_var_u, ev_var_i, ev_var_8, ev_var_b, ev_var_t, ev_not, ev_and, ev_beq, ev_max, ev_min, op_eql, op_neq, op_lss, op_leq, op_gtr, op_geq, op_add, op_sub, iNz_b2i, w64_u, w64_i, w8_u, u64_wd, u64_u64, i64_i64, u8_u8]; rw [decide_eq_false (fun h2 => hf ((u8_lt4 f).1 h2))]; rfl) ?_
    rw [treeF_leaf rfl]; rfl
theorem sqrtR_lt {f : Nat} (hf : f < 4) (m : Nat) (after : Bool) (a : Nat) : (sqrtR f m after a).1 < W128 := by
  unfold sqrtR
  split
  · rename_i h; exact (quN_lt hf h).1
  · split
    · exact mk_W hf false (dfl_code hf)
    · split
      · exact mk_W hf _ (FP.two_pow_pos _)
      · split
        · exact mk_W hf _ (inf_W hf)
        · refine mk_W hf _ (Nat.lt_of_le_of_lt ?_ (inf_lt hf))
          rw [FP.sqrtC_eq]; exact FP.roundC_le _ _ _ _ _ _ _
end Go.Proofs.YtafnnnhmplgkcaaGreatDoor
