import Derived.Test.YtgbdemipeoboeaaDoorP23
import Derived.Test.YtgbdemipeoboeaaDoorR2
/- Laws of remainders: special operands, examples. -/
namespace Go.Proofs.YtgbdemipeoboeaaDoor
set_option linter.unusedVariables false
set_option linter.unusedSimpArgs false
set_option maxRecDepth 100000
open Go.RowKit
theorem true_RemKnown (l : List Int) (h : l.length = 0) : F_law23_RemKnown l = [1] := by
  rw [List.length_eq_zero_iff.1 h]; kernel_rfl
theorem true_RemSpecial (l : List Int) (h : l.length = 4) : F_law23_RemSpecial l = [1] := by
  match l, h with
  | [f, a1, a0, n], _ =>
  rw [F_law23_RemSpecial, t_law23_RemSpecial]
  by_cases hf : fN f < 4
  · have known := known_f hf
    have u8A := clsF_u8 (fN f) (nB a1 a0)
    by_cases na : 4 ≤ clsF (fN f) (nB a1 a0)
    · obtain ⟨k1, k2, k3, k4⟩ := remR_nan hf na (iNz n)
      obtain ⟨q1, q2, q3⟩ := quN_lt hf na
      by_cases h5 : clsF (fN f) (nB a1 a0) = 5
      · rw [if_pos h5] at k1 k2 k3 k4
        refine tF (by simp only [sxs, u8_1]; exact known) ?_
        refine (treeF_call (r := [((clsF (fN f) (nB a1 a0) : Nat) : Int), b2i (FP.sgn (fN f) (nB a1 a0))]) (by simp only [sxs, ph_R2_class_Of, u8_1]; exact k_class_Of (fN_u f) hf (nB_u _ _)) (by rfl)).trans ?_
        refine (treeF_call (r := [wd (FP.mk (fN f) (iNz n) (0)) 1, wd (FP.mk (fN f) (iNz n) (0)) 0]) (by simp only [sxs, ph_R2_format_Nought, u8_1]; exact k_format_Nought (fN_u f) hf (iNz_b2i _)) (by rfl)).trans ?_
        refine (treeF_call (r := [wd (quN (fN f) (nB a1 a0)) 1, wd (quN (fN f) (nB a1 a0)) 0, (1 : Int)]) (by simp only [sxs, ph_R2_rem_Rem, u8_1]; exact (k_rem_Rem (fN_u f) hf (nB_u _ _) (nB_small (mk_W hf _ (FP.two_pow_pos _)))).trans (by rw [k1]; try rfl)) (by rfl)).trans ?_
        refine (treeF_call (r := [wd (FP.mk (fN f) (iNz n) (FP.inf (fN f))) 1, wd (FP.mk (fN f) (iNz n) (FP.inf (fN f))) 0]) (by simp only [sxs, ph_R2_format_Inf, u8_1]; exact k_format_Inf (fN_u f) hf (iNz_b2i _)) (by rfl)).trans ?_
        refine (treeF_call (r := [wd (quN (fN f) (nB a1 a0)) 1, wd (quN (fN f) (nB a1 a0)) 0, (1 : Int)]) (by simp only [sxs, ph_R2_rem_Rem, u8_1]; exact (k_rem_Rem (fN_u f) hf (nB_small (mk_W hf _ (inf_W hf))) (nB_u _ _)).trans (by rw [k2]; try rfl)) (by rfl)).trans ?_
        refine (treeF_call (r := [wd (FP.mk (fN f) (iNz n) (FP.inf (fN f))) 1, wd (FP.mk (fN f) (iNz n) (FP.inf (fN f))) 0]) (by simp only [sxs, ph_R2_format_Inf, u8_1]; exact k_format_Inf (fN_u f) hf (iNz_b2i _)) (by rfl)).trans ?_
        refine (treeF_call (r := [wd (quN (fN f) (nB a1 a0)) 1, wd (quN (fN f) (nB a1 a0)) 0, (1 : Int)]) (by simp only [sxs, ph_R2_rem_Rem, u8_1]; exact (k_rem_Rem (fN_u f) hf (nB_u _ _) (nB_small (mk_W hf _ (inf_W hf)))).trans (by rw [k3]; try rfl)) (by rfl)).trans ?_
        refine (treeF_call (r := [wd (FP.mk (fN f) (iNz n) (0)) 1, wd (FP.mk (fN f) (iNz n) (0)) 0]) (by simp only [sxs, ph_R2_format_Nought, u8_1]; exact k_format_Nought (fN_u f) hf (iNz_b2i _)) (by rfl)).trans ?_
        refine (treeF_call (r := [wd (quN (fN f) (nB a1 a0)) 1, wd (quN (fN f) (nB a1 a0)) 0, (1 : Int)]) (by simp only [sxs, ph_R2_rem_Rem, u8_1]; exact (k_rem_Rem (fN_u f) hf (nB_small (mk_W hf _ (FP.two_pow_pos _))) (nB_u _ _)).trans (by rw [k4]; try rfl)) (by rfl)).trans ?_
        refine tT (by simp only [sxs, u8A]; exact decide_eq_true (by omega)) ?_
        refine (treeF_call (r := [b2i (decide (4 ≤ clsF (fN f) (quN (fN f) (nB a1 a0))))]) (by simp only [sxs, ph_R2_class_NaN, u8_1]; exact k_class_NaN (fN_u f) (nB_small (q1))) (by rfl)).trans ?_
        refine tT (by simp only [sxs, u8_1]; exact decide_eq_true (q2)) ?_
        refine tT (by simp only [sxs, u8_1]; simp only [beq_self_eq_true, Bool.and_true, Bool.and_self, bt1, bt0]) ?_
        refine tT (by simp only [sxs, u8_1]; simp only [beq_self_eq_true, Bool.and_true, Bool.and_self, bt1, bt0]) ?_
        refine tT (by simp only [sxs, u8_1]; simp only [beq_self_eq_true, Bool.and_true, Bool.and_self, bt1, bt0]) ?_
        refine tT (by simp only [sxs, u8A, u8_1, h5]; rfl) ?_
        rw [treeF_leaf rfl]; rfl
      · rw [if_neg h5] at k1 k2 k3 k4
        have b5 : (((clsF (fN f) (nB a1 a0) : Nat) : Int) == 5) = false := (beq_nk _ 5).trans (decide_eq_false h5)
        refine tF (by simp only [sxs, u8_0]; exact known) ?_
        refine (treeF_call (r := [((clsF (fN f) (nB a1 a0) : Nat) : Int), b2i (FP.sgn (fN f) (nB a1 a0))]) (by simp only [sxs, ph_R2_class_Of, u8_0]; exact k_class_Of (fN_u f) hf (nB_u _ _)) (by rfl)).trans ?_
        refine (treeF_call (r := [wd (FP.mk (fN f) (iNz n) (0)) 1, wd (FP.mk (fN f) (iNz n) (0)) 0]) (by simp only [sxs, ph_R2_format_Nought, u8_0]; exact k_format_Nought (fN_u f) hf (iNz_b2i _)) (by rfl)).trans ?_
        refine (treeF_call (r := [wd (quN (fN f) (nB a1 a0)) 1, wd (quN (fN f) (nB a1 a0)) 0, (0 : Int)]) (by simp only [sxs, ph_R2_rem_Rem, u8_0]; exact (k_rem_Rem (fN_u f) hf (nB_u _ _) (nB_small (mk_W hf _ (FP.two_pow_pos _)))).trans (by rw [k1]; try rfl)) (by rfl)).trans ?_
        refine (treeF_call (r := [wd (FP.mk (fN f) (iNz n) (FP.inf (fN f))) 1, wd (FP.mk (fN f) (iNz n) (FP.inf (fN f))) 0]) (by simp only [sxs, ph_R2_format_Inf, u8_0]; exact k_format_Inf (fN_u f) hf (iNz_b2i _)) (by rfl)).trans ?_
        refine (treeF_call (r := [wd (quN (fN f) (nB a1 a0)) 1, wd (quN (fN f) (nB a1 a0)) 0, (0 : Int)]) (by simp only [sxs, ph_R2_rem_Rem, u8_0]; exact (k_rem_Rem (fN_u f) hf (nB_small (mk_W hf _ (inf_W hf))) (nB_u _ _)).trans (by rw [k2]; try rfl)) (by rfl)).trans ?_
        refine (treeF_call (r := [wd (FP.mk (fN f) (iNz n) (FP.inf (fN f))) 1, wd (FP.mk (fN f) (iNz n) (FP.inf (fN f))) 0]) (by simp only [sxs, ph_R2_format_Inf, u8_0]; exact k_format_Inf (fN_u f) hf (iNz_b2i _)) (by rfl)).trans ?_
        refine (treeF_call (r := [wd (quN (fN f) (nB a1 a0)) 1, wd (quN (fN f) (nB a1 a0)) 0, (0 : Int)]) (by simp only [sxs, ph_R2_rem_Rem, u8_0]; exact (k_rem_Rem (fN_u f) hf (nB_u _ _) (nB_small (mk_W hf _ (inf_W hf)))).trans (by rw [k3]; try rfl)) (by rfl)).trans ?_
        refine (treeF_call (r := [wd (FP.mk (fN f) (iNz n) (0)) 1, wd (FP.mk (fN f) (iNz n) (0)) 0]) (by simp only [sxs, ph_R2_format_Nought, u8_0]; exact k_format_Nought (fN_u f) hf (iNz_b2i _)) (by rfl)).trans ?_
        refine (treeF_call (r := [wd (quN (fN f) (nB a1 a0)) 1, wd (quN (fN f) (nB a1 a0)) 0, (0 : Int)]) (by simp only [sxs, ph_R2_rem_Rem, u8_0]; exact (k_rem_Rem (fN_u f) hf (nB_small (mk_W hf _ (FP.two_pow_pos _))) (nB_u _ _)).trans (by rw [k4]; try rfl)) (by rfl)).trans ?_
        refine tT (by simp only [sxs, u8A]; exact decide_eq_true (by omega)) ?_
        refine (treeF_call (r := [b2i (decide (4 ≤ clsF (fN f) (quN (fN f) (nB a1 a0))))]) (by simp only [sxs, ph_R2_class_NaN, u8_0]; exact k_class_NaN (fN_u f) (nB_small (q1))) (by rfl)).trans ?_
        refine tT (by simp only [sxs, u8_0]; exact decide_eq_true (q2)) ?_
        refine tT (by simp only [sxs, u8_0]; simp only [beq_self_eq_true, Bool.and_true, Bool.and_self, bt1, bt0]) ?_
        refine tT (by simp only [sxs, u8_0]; simp only [beq_self_eq_true, Bool.and_true, Bool.and_self, bt1, bt0]) ?_
        refine tT (by simp only [sxs, u8_0]; simp only [beq_self_eq_true, Bool.and_true, Bool.and_self, bt1, bt0]) ?_
        refine tT (by simp only [sxs, u8A, u8_0, b5]; rfl) ?_
        rw [treeF_leaf rfl]; rfl
    · obtain ⟨k1, k2, k3, k4, k5, k6⟩ := remR_special hf na (iNz n)
      have dl : dfl (fN f) < W128 := mk_W hf false (dfl_code hf)
      have dn : 4 ≤ clsF (fN f) (dfl (fN f)) := by rw [clsF_dfl hf]; exact Nat.le_refl _
      by_cases h3 : clsF (fN f) (nB a1 a0) = 3
      · have k3 := k3 h3
        have k6 := k6 (by omega)
        refine tF (by simp only [sxs, u8_1, u8_0]; exact known) ?_
        refine (treeF_call (r := [((clsF (fN f) (nB a1 a0) : Nat) : Int), b2i (FP.sgn (fN f) (nB a1 a0))]) (by simp only [sxs, ph_R2_class_Of, u8_1, u8_0]; exact k_class_Of (fN_u f) hf (nB_u _ _)) (by rfl)).trans ?_
        refine (treeF_call (r := [wd (FP.mk (fN f) (iNz n) (0)) 1, wd (FP.mk (fN f) (iNz n) (0)) 0]) (by simp only [sxs, ph_R2_format_Nought, u8_1, u8_0]; exact k_format_Nought (fN_u f) hf (iNz_b2i _)) (by rfl)).trans ?_
        refine (treeF_call (r := [wd (dfl (fN f)) 1, wd (dfl (fN f)) 0, (1 : Int)]) (by simp only [sxs, ph_R2_rem_Rem, u8_1, u8_0]; exact (k_rem_Rem (fN_u f) hf (nB_u _ _) (nB_small (mk_W hf _ (FP.two_pow_pos _)))).trans (by rw [k1]; try rfl)) (by rfl)).trans ?_
        refine (treeF_call (r := [wd (FP.mk (fN f) (iNz n) (FP.inf (fN f))) 1, wd (FP.mk (fN f) (iNz n) (FP.inf (fN f))) 0]) (by simp only [sxs, ph_R2_format_Inf, u8_1, u8_0]; exact k_format_Inf (fN_u f) hf (iNz_b2i _)) (by rfl)).trans ?_
        refine (treeF_call (r := [wd (dfl (fN f)) 1, wd (dfl (fN f)) 0, (1 : Int)]) (by simp only [sxs, ph_R2_rem_Rem, u8_1, u8_0]; exact (k_rem_Rem (fN_u f) hf (nB_small (mk_W hf _ (inf_W hf))) (nB_u _ _)).trans (by rw [k2]; try rfl)) (by rfl)).trans ?_
        refine (treeF_call (r := [wd (FP.mk (fN f) (iNz n) (FP.inf (fN f))) 1, wd (FP.mk (fN f) (iNz n) (FP.inf (fN f))) 0]) (by simp only [sxs, ph_R2_format_Inf, u8_1, u8_0]; exact k_format_Inf (fN_u f) hf (iNz_b2i _)) (by rfl)).trans ?_
        refine (treeF_call (r := [wd (dfl (fN f)) 1, wd (dfl (fN f)) 0, (1 : Int)]) (by simp only [sxs, ph_R2_rem_Rem, u8_1, u8_0]; exact (k_rem_Rem (fN_u f) hf (nB_u _ _) (nB_small (mk_W hf _ (inf_W hf)))).trans (by rw [k3]; try rfl)) (by rfl)).trans ?_
        refine (treeF_call (r := [wd (FP.mk (fN f) (iNz n) (0)) 1, wd (FP.mk (fN f) (iNz n) (0)) 0]) (by simp only [sxs, ph_R2_format_Nought, u8_1, u8_0]; exact k_format_Nought (fN_u f) hf (iNz_b2i _)) (by rfl)).trans ?_
        refine (treeF_call (r := [wd (FP.mk (fN f) (iNz n) (0)) 1, wd (FP.mk (fN f) (iNz n) (0)) 0, (0 : Int)]) (by simp only [sxs, ph_R2_rem_Rem, u8_1, u8_0]; exact (k_rem_Rem (fN_u f) hf (nB_small (mk_W hf _ (FP.two_pow_pos _))) (nB_u _ _)).trans (by rw [k6]; try rfl)) (by rfl)).trans ?_
        refine tF (by simp only [sxs, u8A]; exact decide_eq_false (by omega)) ?_
        refine (treeF_call (r := [b2i (decide (4 ≤ clsF (fN f) (dfl (fN f))))]) (by simp only [sxs, ph_R2_class_NaN, u8_1, u8_0]; exact k_class_NaN (fN_u f) (nB_small (dl))) (by rfl)).trans ?_
        refine tF (by exact nT (by simp only [sxs, u8_1, u8_0]; exact decide_eq_true (dn))) ?_
        refine (treeF_call (r := [b2i (decide (4 ≤ clsF (fN f) (dfl (fN f))))]) (by simp only [sxs, ph_R2_class_NaN, u8_1, u8_0]; exact k_class_NaN (fN_u f) (nB_small (dl))) (by rfl)).trans ?_
        refine tF (by exact nT (by simp only [sxs, u8_1, u8_0]; exact decide_eq_true (dn))) ?_
        refine tF (by simp only [sxs, u8_1, u8_0]; simp only [beq_self_eq_true, bne_self_eq_false]) ?_
        refine tF (by simp only [sxs, u8_1, u8_0]; simp only [beq_self_eq_true, bne_self_eq_false]) ?_
        refine tT (by simp only [sxs, u8A]; exact (beq_nk _ 3).trans (decide_eq_true (by omega))) ?_
        refine (treeF_call (r := [b2i (decide (4 ≤ clsF (fN f) (dfl (fN f))))]) (by simp only [sxs, ph_R2_class_NaN, u8_1, u8_0]; exact k_class_NaN (fN_u f) (nB_small (dl))) (by rfl)).trans ?_
        refine tT (by simp only [sxs, u8_1, u8_0]; exact decide_eq_true (dn)) ?_
        refine (treeF_call (r := [wd (FP.mk (fN f) (iNz n) (0)) 1, wd (FP.mk (fN f) (iNz n) (0)) 0]) (by simp only [sxs, ph_R2_format_Nought, u8_1, u8_0]; exact k_format_Nought (fN_u f) hf (iNz_b2i _)) (by rfl)).trans ?_
        refine tT (by simp only [sxs, u8_1, u8_0]; simp only [beq_self_eq_true, Bool.and_true, Bool.and_self, bt1, bt0]) ?_
        rw [treeF_leaf rfl]; rfl
      · have k4 := k4 h3
        by_cases h0 : clsF (fN f) (nB a1 a0) = 0
        · have k5 := k5 h0
          refine tF (by simp only [sxs, u8_1, u8_0]; exact known) ?_
          refine (treeF_call (r := [((clsF (fN f) (nB a1 a0) : Nat) : Int), b2i (FP.sgn (fN f) (nB a1 a0))]) (by simp only [sxs, ph_R2_class_Of, u8_1, u8_0]; exact k_class_Of (fN_u f) hf (nB_u _ _)) (by rfl)).trans ?_
          refine (treeF_call (r := [wd (FP.mk (fN f) (iNz n) (0)) 1, wd (FP.mk (fN f) (iNz n) (0)) 0]) (by simp only [sxs, ph_R2_format_Nought, u8_1, u8_0]; exact k_format_Nought (fN_u f) hf (iNz_b2i _)) (by rfl)).trans ?_
          refine (treeF_call (r := [wd (dfl (fN f)) 1, wd (dfl (fN f)) 0, (1 : Int)]) (by simp only [sxs, ph_R2_rem_Rem, u8_1, u8_0]; exact (k_rem_Rem (fN_u f) hf (nB_u _ _) (nB_small (mk_W hf _ (FP.two_pow_pos _)))).trans (by rw [k1]; try rfl)) (by rfl)).trans ?_
          refine (treeF_call (r := [wd (FP.mk (fN f) (iNz n) (FP.inf (fN f))) 1, wd (FP.mk (fN f) (iNz n) (FP.inf (fN f))) 0]) (by simp only [sxs, ph_R2_format_Inf, u8_1, u8_0]; exact k_format_Inf (fN_u f) hf (iNz_b2i _)) (by rfl)).trans ?_
          refine (treeF_call (r := [wd (dfl (fN f)) 1, wd (dfl (fN f)) 0, (1 : Int)]) (by simp only [sxs, ph_R2_rem_Rem, u8_1, u8_0]; exact (k_rem_Rem (fN_u f) hf (nB_small (mk_W hf _ (inf_W hf))) (nB_u _ _)).trans (by rw [k2]; try rfl)) (by rfl)).trans ?_
          refine (treeF_call (r := [wd (FP.mk (fN f) (iNz n) (FP.inf (fN f))) 1, wd (FP.mk (fN f) (iNz n) (FP.inf (fN f))) 0]) (by simp only [sxs, ph_R2_format_Inf, u8_1, u8_0]; exact k_format_Inf (fN_u f) hf (iNz_b2i _)) (by rfl)).trans ?_
          refine (treeF_call (r := [wd (nB a1 a0 % 2 ^ FP.fW (fN f)) 1, wd (nB a1 a0 % 2 ^ FP.fW (fN f)) 0, (0 : Int)]) (by simp only [sxs, ph_R2_rem_Rem, u8_1, u8_0]; exact (k_rem_Rem (fN_u f) hf (nB_u _ _) (nB_small (mk_W hf _ (inf_W hf)))).trans (by rw [k4]; try rfl)) (by rfl)).trans ?_
          refine (treeF_call (r := [wd (FP.mk (fN f) (iNz n) (0)) 1, wd (FP.mk (fN f) (iNz n) (0)) 0]) (by simp only [sxs, ph_R2_format_Nought, u8_1, u8_0]; exact k_format_Nought (fN_u f) hf (iNz_b2i _)) (by rfl)).trans ?_
          refine (treeF_call (r := [wd (dfl (fN f)) 1, wd (dfl (fN f)) 0, (1 : Int)]) (by simp only [sxs, ph_R2_rem_Rem, u8_1, u8_0]; exact (k_rem_Rem (fN_u f) hf (nB_small (mk_W hf _ (FP.two_pow_pos _))) (nB_u _ _)).trans (by rw [k5]; try rfl)) (by rfl)).trans ?_
          refine tF (by simp only [sxs, u8A]; exact decide_eq_false (by omega)) ?_
          refine (treeF_call (r := [b2i (decide (4 ≤ clsF (fN f) (dfl (fN f))))]) (by simp only [sxs, ph_R2_class_NaN, u8_1, u8_0]; exact k_class_NaN (fN_u f) (nB_small (dl))) (by rfl)).trans ?_
          refine tF (by exact nT (by simp only [sxs, u8_1, u8_0]; exact decide_eq_true (dn))) ?_
          refine (treeF_call (r := [b2i (decide (4 ≤ clsF (fN f) (dfl (fN f))))]) (by simp only [sxs, ph_R2_class_NaN, u8_1, u8_0]; exact k_class_NaN (fN_u f) (nB_small (dl))) (by rfl)).trans ?_
          refine tF (by exact nT (by simp only [sxs, u8_1, u8_0]; exact decide_eq_true (dn))) ?_
          refine tF (by simp only [sxs, u8_1, u8_0]; simp only [beq_self_eq_true, bne_self_eq_false]) ?_
          refine tF (by simp only [sxs, u8_1, u8_0]; simp only [beq_self_eq_true, bne_self_eq_false]) ?_
          refine tF (by simp only [sxs, u8A]; exact (beq_nk _ 3).trans (decide_eq_false (by omega))) ?_
          refine (treeF_call (r := [wd (nB a1 a0 % 2 ^ FP.fW (fN f)) 1, wd (nB a1 a0 % 2 ^ FP.fW (fN f)) 0]) (by simp only [sxs, ph_R2_format_Cut, u8_1, u8_0]; exact k_format_Cut (fN_u f) (nB_u _ _)) (by rfl)).trans ?_
          refine tT (by simp only [sxs, u8_1, u8_0]; simp only [beq_self_eq_true, Bool.and_true, Bool.and_self, bt1, bt0]) ?_
          refine tT (by simp only [sxs, u8A]; exact (beq_nk _ 0).trans (decide_eq_true (by omega))) ?_
          refine tT (by simp only [sxs, u8_1, u8_0]; simp only [beq_self_eq_true, bne_self_eq_false]) ?_
          rw [treeF_leaf rfl]; rfl
        · have k6 := k6 h0
          refine tF (by simp only [sxs, u8_1, u8_0]; exact known) ?_
          refine (treeF_call (r := [((clsF (fN f) (nB a1 a0) : Nat) : Int), b2i (FP.sgn (fN f) (nB a1 a0))]) (by simp only [sxs, ph_R2_class_Of, u8_1, u8_0]; exact k_class_Of (fN_u f) hf (nB_u _ _)) (by rfl)).trans ?_
          refine (treeF_call (r := [wd (FP.mk (fN f) (iNz n) (0)) 1, wd (FP.mk (fN f) (iNz n) (0)) 0]) (by simp only [sxs, ph_R2_format_Nought, u8_1, u8_0]; exact k_format_Nought (fN_u f) hf (iNz_b2i _)) (by rfl)).trans ?_
          refine (treeF_call (r := [wd (dfl (fN f)) 1, wd (dfl (fN f)) 0, (1 : Int)]) (by simp only [sxs, ph_R2_rem_Rem, u8_1, u8_0]; exact (k_rem_Rem (fN_u f) hf (nB_u _ _) (nB_small (mk_W hf _ (FP.two_pow_pos _)))).trans (by rw [k1]; try rfl)) (by rfl)).trans ?_
          refine (treeF_call (r := [wd (FP.mk (fN f) (iNz n) (FP.inf (fN f))) 1, wd (FP.mk (fN f) (iNz n) (FP.inf (fN f))) 0]) (by simp only [sxs, ph_R2_format_Inf, u8_1, u8_0]; exact k_format_Inf (fN_u f) hf (iNz_b2i _)) (by rfl)).trans ?_
          refine (treeF_call (r := [wd (dfl (fN f)) 1, wd (dfl (fN f)) 0, (1 : Int)]) (by simp only [sxs, ph_R2_rem_Rem, u8_1, u8_0]; exact (k_rem_Rem (fN_u f) hf (nB_small (mk_W hf _ (inf_W hf))) (nB_u _ _)).trans (by rw [k2]; try rfl)) (by rfl)).trans ?_
          refine (treeF_call (r := [wd (FP.mk (fN f) (iNz n) (FP.inf (fN f))) 1, wd (FP.mk (fN f) (iNz n) (FP.inf (fN f))) 0]) (by simp only [sxs, ph_R2_format_Inf, u8_1, u8_0]; exact k_format_Inf (fN_u f) hf (iNz_b2i _)) (by rfl)).trans ?_
          refine (treeF_call (r := [wd (nB a1 a0 % 2 ^ FP.fW (fN f)) 1, wd (nB a1 a0 % 2 ^ FP.fW (fN f)) 0, (0 : Int)]) (by simp only [sxs, ph_R2_rem_Rem, u8_1, u8_0]; exact (k_rem_Rem (fN_u f) hf (nB_u _ _) (nB_small (mk_W hf _ (inf_W hf)))).trans (by rw [k4]; try rfl)) (by rfl)).trans ?_
          refine (treeF_call (r := [wd (FP.mk (fN f) (iNz n) (0)) 1, wd (FP.mk (fN f) (iNz n) (0)) 0]) (by simp only [sxs, ph_R2_format_Nought, u8_1, u8_0]; exact k_format_Nought (fN_u f) hf (iNz_b2i _)) (by rfl)).trans ?_
          refine (treeF_call (r := [wd (FP.mk (fN f) (iNz n) (0)) 1, wd (FP.mk (fN f) (iNz n) (0)) 0, (0 : Int)]) (by simp only [sxs, ph_R2_rem_Rem, u8_1, u8_0]; exact (k_rem_Rem (fN_u f) hf (nB_small (mk_W hf _ (FP.two_pow_pos _))) (nB_u _ _)).trans (by rw [k6]; try rfl)) (by rfl)).trans ?_
          refine tF (by simp only [sxs, u8A]; exact decide_eq_false (by omega)) ?_
          refine (treeF_call (r := [b2i (decide (4 ≤ clsF (fN f) (dfl (fN f))))]) (by simp only [sxs, ph_R2_class_NaN, u8_1, u8_0]; exact k_class_NaN (fN_u f) (nB_small (dl))) (by rfl)).trans ?_
          refine tF (by exact nT (by simp only [sxs, u8_1, u8_0]; exact decide_eq_true (dn))) ?_
          refine (treeF_call (r := [b2i (decide (4 ≤ clsF (fN f) (dfl (fN f))))]) (by simp only [sxs, ph_R2_class_NaN, u8_1, u8_0]; exact k_class_NaN (fN_u f) (nB_small (dl))) (by rfl)).trans ?_
          refine tF (by exact nT (by simp only [sxs, u8_1, u8_0]; exact decide_eq_true (dn))) ?_
          refine tF (by simp only [sxs, u8_1, u8_0]; simp only [beq_self_eq_true, bne_self_eq_false]) ?_
          refine tF (by simp only [sxs, u8_1, u8_0]; simp only [beq_self_eq_true, bne_self_eq_false]) ?_
          refine tF (by simp only [sxs, u8A]; exact (beq_nk _ 3).trans (decide_eq_false (by omega))) ?_
          refine (treeF_call (r := [wd (nB a1 a0 % 2 ^ FP.fW (fN f)) 1, wd (nB a1 a0 % 2 ^ FP.fW (fN f)) 0]) (by simp only [sxs, ph_R2_format_Cut, u8_1, u8_0]; exact k_format_Cut (fN_u f) (nB_u _ _)) (by rfl)).trans ?_
          refine tT (by simp only [sxs, u8_1, u8_0]; simp only [beq_self_eq_true, Bool.and_true, Bool.and_self, bt1, bt0]) ?_
          refine tF (by simp only [sxs, u8A]; exact (beq_nk _ 0).trans (decide_eq_false (by omega))) ?_
          refine (treeF_call (r := [wd (FP.mk (fN f) (iNz n) (0)) 1, wd (FP.mk (fN f) (iNz n) (0)) 0]) (by simp only [sxs, ph_R2_format_Nought, u8_1, u8_0]; exact k_format_Nought (fN_u f) hf (iNz_b2i _)) (by rfl)).trans ?_
          refine tT (by simp only [sxs, u8_1, u8_0]; simp only [beq_self_eq_true, Bool.and_true, Bool.and_self, bt1, bt0]) ?_
          rw [treeF_leaf rfl]; rfl
  · skip
    refine tT (by simp only [sxs]; rw [decide_eq_false (fun h => hf ((u8_lt4 f).1 h))]; rfl) ?_
    refine (treeF_call (r := [(0 : Int), (0 : Int), (0 : Int)]) (by simp only [sxs, ph_R2_rem_Rem, u8_0, u64_0]; exact s_rem_Rem0 _ _ _ _ _ (by rw [fN_u]; exact hf)) (by rfl)).trans ?_
    refine tT (by simp only [sxs, u8_0, u64_0]; simp only [beq_self_eq_true, Bool.and_true, Bool.and_self, bt1, bt0]) ?_
    rw [treeF_leaf rfl]; rfl
end Go.Proofs.YtgbdemipeoboeaaDoor
