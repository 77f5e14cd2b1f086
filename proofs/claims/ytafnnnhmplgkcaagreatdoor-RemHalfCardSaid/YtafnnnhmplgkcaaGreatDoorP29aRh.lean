import Derived.Test.YtafnnnhmplgkcaaGreatDoorP19aRh
import Derived.Test.YtafnnnhmplgkcaaGreatDoorP20wRh
import Derived.Test.YtafnnnhmplgkcaaGreatDoorH1Rh
/- More calls by numbers. -/
namespace Go.Proofs.YtafnnnhmplgkcaaGreatDoor
set_option linter.unusedVariables false
set_option linter.unusedSimpArgs false
set_option maxRecDepth 100000
open Go.RowKit
theorem k_class_Finite {F a1 a0 : Int} {φ A : Nat} (hF : fN F = φ) (hφ : φ < 4) (hA : nB a1 a0 = A) : F_class_Finite [F, a1, a0] = [b2i (decide (clsF φ A < 3))] := by
  rw [s_class_Finite, hF, hA, decide_eq_true hφ, Bool.true_and]
theorem k_law23_size {F a1 a0 : Int} {φ A : Nat} (hF : fN F = φ) (hφ : φ < 4) (hA : nB a1 a0 = A) : F_law23_size [F, a1, a0] = [wd (sizeN φ A) 1, wd (sizeN φ A) 0] := by
  have hf : fN F < 4 := by rw [hF]; exact hφ
  rw [F_law23_size, t_law23_size]
  refine (treeF_call (by simp only [l_an, l_ca, l_na, l_mc, l_mn, getI_0, getI_s, oB_eq, oW_eq, ev_bin, ev_conv, ev_ite, ev_lit, ev_var_u, ev_var_i, ev_var_8, ev_var_b, ev_var_t, ev_not, ev_and, ev_beq, ev_max, ev_min, op_eql, op_neq, op_lss, op_leq, op_gtr, op_geq, op_add, op_sub, iNz_b2i, w64_u, w64_i, w8_u, u64_wd, u64_u64, i64_i64, u8_u8, ph_E10_format_Split]; exact s_Split' _ _ _) (by rfl)).trans ?_
  rw [fN_u, nB_u, sgnF_id hf, codF_id hf, hF, hA]
  unfold sizeN
  obtain ⟨n1, n2, n3, n4, n5, n6, n7, n8, n9⟩ := FP.fmtN hφ
  have hcl := FP.cod_lt φ A
  generalize FP.sgn φ A = s
  generalize FP.cod φ A = c at *
  have hfr : c % 2 ^ (FP.fP φ - 1) < W128 := mod_lt128 _ (by omega)
  refine (treeF_call (r := oB (FP.mk φ false c)) ?_ rfl).trans ?_
  · have hq2 := (cod_field hφ hcl).2
    simp only [l_an, l_ca, l_na, l_mc, l_mn, getI_0, getI_s, oB_eq, oW_eq, ev_bin, ev_conv, ev_ite, ev_lit, ev_var_u, ev_var_i, ev_var_8, ev_var_b, ev_var_t, ev_not, ev_and, ev_beq, ev_max, ev_min, op_eql, op_neq, op_lss, op_leq, op_gtr, op_geq, op_add, op_sub, iNz_b2i, w64_u, w64_i, w8_u, u64_wd, u64_u64, i64_i64, u8_u8, ph_E10_format_Make]
    rw [s_format_Make, fN_u, hF, if_pos hφ, nB_small hfr, i64_i64, i64_nat (by omega), show iNz 0 = false by decide, make_code hφ hcl, oB_eq]
  rw [treeF_leaf rfl]
  simp only [l_an, l_ca, l_na, l_mc, l_mn, getI_0, getI_s, oB_eq, oW_eq, ev_bin, ev_conv, ev_ite, ev_lit, ev_var_u, ev_var_i, ev_var_8, ev_var_b, ev_var_t, ev_not, ev_and, ev_beq, ev_max, ev_min, op_eql, op_neq, op_lss, op_leq, op_gtr, op_geq, op_add, op_sub, iNz_b2i, w64_u, w64_i, w8_u, u64_wd, u64_u64, i64_i64, u8_u8]
theorem nCmp_lt {p q : Nat} : decide (nCmp p q < 0) = decide (p < q) := by
  unfold nCmp
  by_cases h : p < q
  · rw [if_pos h, decide_eq_true h]; rfl
  · rw [if_neg h, decide_eq_false h]
    by_cases h2 : q < p
    · rw [if_pos h2]; rfl
    · rw [if_neg h2]; rfl
theorem w2_eq {a b : Nat} (ha : a < W128) (hb : b < W128) : (wd a 1 == wd b 1 && wd a 0 == wd b 0) = decide (a = b) := by
  rw [Bool.eq_iff_iff]
  simp only [Bool.and_eq_true, beq_iff_eq, decide_eq_true_iff]
  constructor
  · rintro ⟨h1, h0⟩
    rw [← nB_small ha, ← nB_small hb, h0, h1]
  · rintro rfl; exact ⟨rfl, rfl⟩
theorem w2_ne {a b : Nat} {q : Bool} (ha : a < W128) (hb : b < W128) (h : ¬ a = b) : (wd a 1 == wd b 1 && (wd a 0 == wd b 0 && q)) = false := by
  rw [← Bool.and_assoc, w2_eq ha hb, decide_eq_false h, Bool.false_and]
end Go.Proofs.YtafnnnhmplgkcaaGreatDoor
