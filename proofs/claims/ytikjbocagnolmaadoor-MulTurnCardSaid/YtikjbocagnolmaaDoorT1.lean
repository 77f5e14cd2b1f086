import Derived.Test.YtikjbocagnolmaaDoorH3
import Derived.Test.YtikjbocagnolmaaDoorZG
/- Laws on turned signs, and on noughts and infinities. -/
namespace Go.Proofs.YtikjbocagnolmaaDoor
set_option linter.unusedVariables false
set_option linter.unusedSimpArgs false
set_option maxRecDepth 100000
open Go.RowKit
theorem u8_flag {k : Nat} (h : k ≤ 255) : u8 (k : Int) = (k : Int) := u8_id (by omega) (by omega)
theorem mir_int (m : Int) (hm : u8 m ≤ 4) : (if u8 m = 2 then (3 : Int) else if u8 m = 3 then 2 else u8 m) = ((FP.mir (u8 m).toNat : Nat) : Int) := by
  have := u8_rng m
  unfold FP.mir
  by_cases h2 : u8 m = 2
  · rw [if_pos h2, if_pos (show (u8 m).toNat = 2 by omega)]; rfl
  rw [if_neg h2, if_neg (show ¬ (u8 m).toNat = 2 by omega)]
  by_cases h3 : u8 m = 3
  · rw [if_pos h3, if_pos (show (u8 m).toNat = 3 by omega)]; rfl
  · rw [if_neg h3, if_neg (show ¬ (u8 m).toNat = 3 by omega)]; omega
theorem mir_le {m : Nat} (h : m ≤ 4) : FP.mir m ≤ 4 := by unfold FP.mir; split <;> (try split) <;> omega
theorem true_ConvTurn (l : List Int) (h : l.length = 6) : F_law25_ConvTurn l = [1] := by
  match l, h with
  | [f, t, m, u, a, b], _ =>
  rw [F_law25_ConvTurn, t_law25_ConvTurn, treeF_ite]
  simp only [l_an, l_ca, l_na, l_mc, l_mn, getI_0, getI_s, ev_bin, ev_not, op_lss, ev_var_8, ev_lit, iNz_b2i, Bool.not_eq_true', decide_eq_false_iff_not, u8_lt4]
  by_cases hf : ¬ fN f < 4
  · rw [if_pos hf, treeF_leaf rfl]; rfl
  rw [if_neg hf, treeF_ite]
  have hf := Classical.not_not.1 hf
  simp only [l_an, l_ca, l_na, l_mc, l_mn, getI_0, getI_s, ev_bin, ev_not, op_lss, ev_var_8, ev_lit, iNz_b2i, Bool.not_eq_true', decide_eq_false_iff_not, u8_lt4]
  by_cases ht : ¬ fN t < 4
  · rw [if_pos ht, treeF_leaf rfl]; rfl
  rw [if_neg ht, treeF_ite]
  have ht := Classical.not_not.1 ht
  simp only [l_an, l_ca, l_na, l_mc, l_mn, getI_0, getI_s, ev_bin, ev_not, op_leq, ev_var_8, ev_lit, iNz_b2i, Bool.not_eq_true', decide_eq_false_iff_not]
  by_cases hm : ¬ u8 m ≤ 4
  · rw [if_pos hm, treeF_leaf rfl]; rfl
  rw [if_neg hm]
  have hm := Classical.not_not.1 hm
  have hr := u8_rng m
  have key := convR_turn hf ht (u8 m).toNat (iNz u) (nB a b)
  have hlt := convR_lt hf ht (u8 m).toNat (iNz u) (nB a b)
  have hfl := convR_flag hf (fN t) (u8 m).toNat (iNz u) (nB a b)
  have hml := mir_le (m := (u8 m).toNat) (by omega)
  have hm8 : u8 ((FP.mir (u8 m).toNat : Nat) : Int) = ((FP.mir (u8 m).toNat : Nat) : Int) := u8_flag (by omega)
  refine (treeF_call (r := oR (convR (fN f) (fN t) (u8 m).toNat (iNz u) (nB a b))) ?_ rfl).trans ?_
  · simp only [l_an, l_ca, l_na, l_mc, l_mn, getI_0, getI_s, oB_eq, oW_eq, ev_bin, ev_conv, ev_ite, ev_lit, ev_var_u, ev_var_i, ev_var_8, ev_var_b, ev_var_t, ev_not, ev_and, ev_beq, ev_max, ev_min, op_eql, op_neq, op_lss, op_leq, op_gtr, op_geq, op_add, op_sub, iNz_b2i, w64_u, w64_i, w8_u, u64_wd, u64_u64, i64_i64, u8_u8, ph_E11_conv_Conv]
    rw [s_conv_Conv _ _ _ _ _ _ (by rw [fN_u]; exact hf) (by rw [fN_u]; exact ht) (by rw [u8_u8]; exact hm), fN_u, fN_u, nB_u, u8_u8, iNz_b2i]
  refine (treeF_call (r := oB (turnN (fN f) (nB a b))) ?_ rfl).trans ?_
  · simp only [l_an, l_ca, l_na, l_mc, l_mn, getI_0, getI_s, oB_eq, oW_eq, ev_bin, ev_conv, ev_ite, ev_lit, ev_var_u, ev_var_i, ev_var_8, ev_var_b, ev_var_t, ev_not, ev_and, ev_beq, ev_max, ev_min, op_eql, op_neq, op_lss, op_leq, op_gtr, op_geq, op_add, op_sub, iNz_b2i, w64_u, w64_i, w8_u, u64_wd, u64_u64, i64_i64, u8_u8, ph_E11_addsub_Turn]
    rw [s_Turn', fN_u, nB_u, oB_eq]
  refine (treeF_call (r := oR (turnN (fN t) (convR (fN f) (fN t) (u8 m).toNat (iNz u) (nB a b)).1, (convR (fN f) (fN t) (u8 m).toNat (iNz u) (nB a b)).2)) ?_ ?_).trans ?_
  · generalize convR (fN f) (fN t) (u8 m).toNat (iNz u) (nB a b) = p at *
    obtain ⟨p1, p2⟩ := p
    simp only [l_an, l_ca, l_na, l_mc, l_mn, getI_0, getI_s, oB_eq, oW_eq, ev_bin, ev_conv, ev_ite, ev_lit, ev_var_u, ev_var_i, ev_var_8, ev_var_b, ev_var_t, ev_not, ev_and, ev_beq, ev_max, ev_min, op_eql, op_neq, op_lss, op_leq, op_gtr, op_geq, op_add, op_sub, iNz_b2i, w64_u, w64_i, w8_u, u64_wd, u64_u64, i64_i64, u8_u8, oR_eq, ph_E11_conv_Conv, beq_iff_eq]
    rw [mir_int m hm, s_conv_Conv _ _ _ _ _ _ (by rw [fN_u]; exact hf) (by rw [fN_u]; exact ht) (by rw [hm8]; omega), fN_u, fN_u, nB_small (turn_lt _ _), hm8, iNz_b2i, Int.toNat_natCast, key, oR_eq]
  · rfl
  generalize convR (fN f) (fN t) (u8 m).toNat (iNz u) (nB a b) = p at *
  obtain ⟨p1, p2⟩ := p
  simp only at hlt hfl
  refine (treeF_call (r := oB (turnN (fN t) p1)) ?_ rfl).trans ?_
  · simp only [l_an, l_ca, l_na, l_mc, l_mn, getI_0, getI_s, oB_eq, oW_eq, ev_bin, ev_conv, ev_ite, ev_lit, ev_var_u, ev_var_i, ev_var_8, ev_var_b, ev_var_t, ev_not, ev_and, ev_beq, ev_max, ev_min, op_eql, op_neq, op_lss, op_leq, op_gtr, op_geq, op_add, op_sub, iNz_b2i, w64_u, w64_i, w8_u, u64_wd, u64_u64, i64_i64, u8_u8, oR_eq, ph_E11_addsub_Turn]
    rw [s_Turn', fN_u, nB_small hlt, oB_eq]
  have h8 := u8_flag (k := p2) (by omega)
  rw [treeF_ite]
  simp only [l_an, l_ca, l_na, l_mc, l_mn, getI_0, getI_s, oB_eq, oW_eq, ev_bin, ev_conv, ev_ite, ev_lit, ev_var_u, ev_var_i, ev_var_8, ev_var_b, ev_var_t, ev_not, ev_and, ev_beq, ev_max, ev_min, op_eql, op_neq, op_lss, op_leq, op_gtr, op_geq, op_add, op_sub, iNz_b2i, w64_u, w64_i, w8_u, u64_wd, u64_u64, i64_i64, u8_u8, oR_eq, h8, beq_self_eq_true, Bool.and_true, show iNz 1 = true from rfl, ↓reduceIte]
  rw [treeF_leaf rfl]; rfl
theorem true_MulTurn (l : List Int) (h : l.length = 7) : F_law19_MulTurn l = [1] := by
  match l, h with
  | [f, m, t, a1, a0, b1, b0], _ =>
  rw [F_law19_MulTurn, t_law19_MulTurn, treeF_ite]
  simp only [l_an, l_ca, l_na, l_mc, l_mn, getI_0, getI_s, ev_bin, ev_not, op_lss, ev_var_8, ev_lit, iNz_b2i, Bool.not_eq_true', decide_eq_false_iff_not, u8_lt4]
  by_cases hf : ¬ fN f < 4
  · rw [if_pos hf, treeF_leaf rfl]; rfl
  rw [if_neg hf, treeF_ite]
  have hf := Classical.not_not.1 hf
  simp only [l_an, l_ca, l_na, l_mc, l_mn, getI_0, getI_s, ev_bin, ev_not, op_leq, ev_var_8, ev_lit, iNz_b2i, Bool.not_eq_true', decide_eq_false_iff_not]
  by_cases hm : ¬ u8 m ≤ 4
  · rw [if_pos hm, treeF_leaf rfl]; rfl
  rw [if_neg hm]
  have hm := Classical.not_not.1 hm
  have hr := u8_rng m
  have hml := mir_le (m := (u8 m).toNat) (by omega)
  have hm8 : u8 ((FP.mir (u8 m).toNat : Nat) : Int) = ((FP.mir (u8 m).toNat : Nat) : Int) := u8_flag (by omega)
  have hff : fN (u8 f) < 4 := by rw [fN_u]; exact hf
  refine (treeF_call (r := [b2i (decide (4 ≤ clsF (fN f) (nB a1 a0)))]) ?_ rfl).trans ?_
  · simp only [l_an, l_ca, l_na, l_mc, l_mn, getI_0, getI_s, oB_eq, oW_eq, ev_bin, ev_conv, ev_ite, ev_lit, ev_var_u, ev_var_i, ev_var_8, ev_var_b, ev_var_t, ev_not, ev_and, ev_beq, ev_max, ev_min, op_eql, op_neq, op_lss, op_leq, op_gtr, op_geq, op_add, op_sub, iNz_b2i, w64_u, w64_i, w8_u, u64_wd, u64_u64, i64_i64, u8_u8, ph_E11_class_NaN]; rw [s_class_NaN, fN_u, nB_u]
  rw [treeF_ite]
  simp only [l_an, l_ca, l_na, l_mc, l_mn, getI_0, getI_s, ev_var_b, iNz_b2i, decide_eq_true_iff]
  by_cases na : 4 ≤ clsF (fN f) (nB a1 a0)
  · rw [if_pos na, treeF_leaf rfl]; rfl
  rw [if_neg na]
  refine (treeF_call (r := [b2i (decide (4 ≤ clsF (fN f) (nB b1 b0)))]) ?_ rfl).trans ?_
  · simp only [l_an, l_ca, l_na, l_mc, l_mn, getI_0, getI_s, oB_eq, oW_eq, ev_bin, ev_conv, ev_ite, ev_lit, ev_var_u, ev_var_i, ev_var_8, ev_var_b, ev_var_t, ev_not, ev_and, ev_beq, ev_max, ev_min, op_eql, op_neq, op_lss, op_leq, op_gtr, op_geq, op_add, op_sub, iNz_b2i, w64_u, w64_i, w8_u, u64_wd, u64_u64, i64_i64, u8_u8, ph_E11_class_NaN]; rw [s_class_NaN, fN_u, nB_u]
  rw [treeF_ite]
  simp only [l_an, l_ca, l_na, l_mc, l_mn, getI_0, getI_s, ev_var_b, iNz_b2i, decide_eq_true_iff]
  by_cases nb : 4 ≤ clsF (fN f) (nB b1 b0)
  · rw [if_pos nb, treeF_leaf rfl]; rfl
  rw [if_neg nb]
  have k1 := mulR_comm hf (u8 m).toNat (iNz t) na nb
  have k2 := mulR_turn hf (u8 m).toNat (iNz t) na nb
  have k3 := mulR_turns hf (u8 m).toNat (iNz t) na nb
  have k4 := mulR_nan hf (u8 m).toNat (iNz t) na nb
  have hlt := mulR_lt hf (u8 m).toNat (iNz t) na nb
  have hfl := mulR_flag hf (u8 m).toNat (iNz t) na nb
  refine (treeF_call (r := oR (mulR (fN f) (u8 m).toNat (iNz t) (nB a1 a0) (nB b1 b0))) ?_ rfl).trans ?_
  · simp only [l_an, l_ca, l_na, l_mc, l_mn, getI_0, getI_s, oB_eq, oW_eq, ev_bin, ev_conv, ev_ite, ev_lit, ev_var_u, ev_var_i, ev_var_8, ev_var_b, ev_var_t, ev_not, ev_and, ev_beq, ev_max, ev_min, op_eql, op_neq, op_lss, op_leq, op_gtr, op_geq, op_add, op_sub, iNz_b2i, w64_u, w64_i, w8_u, u64_wd, u64_u64, i64_i64, u8_u8, ph_E11_mul_Mul]
    rw [s_mul_Mul _ _ _ _ _ _ _ hff (by rw [u8_u8]; exact hm), fN_u, nB_u, nB_u, u8_u8, iNz_b2i]
  obtain ⟨y, hy, e2, e1⟩ : ∃ y, mulR (fN f) (FP.mir (u8 m).toNat) (iNz t) (turnN (fN f) (nB a1 a0)) (nB b1 b0) = y ∧ y.2 = (mulR (fN f) (u8 m).toNat (iNz t) (nB a1 a0) (nB b1 b0)).2 ∧
      y.1 = if 4 ≤ clsF (fN f) (mulR (fN f) (u8 m).toNat (iNz t) (nB a1 a0) (nB b1 b0)).1 then (mulR (fN f) (u8 m).toNat (iNz t) (nB a1 a0) (nB b1 b0)).1 else turnN (fN f) (mulR (fN f) (u8 m).toNat (iNz t) (nB a1 a0) (nB b1 b0)).1 := by
    refine ⟨_, k2, ?_, ?_⟩
    · split <;> rfl
    · by_cases hb : badC (clsF (fN f) (nB a1 a0)) (clsF (fN f) (nB b1 b0)) = true
      · rw [if_pos hb, if_pos (k4.2 hb)]
      · rw [if_neg hb, if_neg (fun h => hb (k4.1 h))]
  obtain ⟨y1, y2⟩ := y
  generalize hp : mulR (fN f) (u8 m).toNat (iNz t) (nB a1 a0) (nB b1 b0) = p at *
  obtain ⟨p1, p2⟩ := p
  simp only at hlt hfl e1 e2
  subst e2
  have h8 := u8_flag (k := y2) (by omega)
  have tl := turn_lt (fN f) (nB a1 a0)
  have tl2 := turn_lt (fN f) (nB b1 b0)
  refine (treeF_call (r := oB (turnN (fN f) (nB a1 a0))) ?_ rfl).trans ?_
  · simp only [l_an, l_ca, l_na, l_mc, l_mn, getI_0, getI_s, oB_eq, oW_eq, ev_bin, ev_conv, ev_ite, ev_lit, ev_var_u, ev_var_i, ev_var_8, ev_var_b, ev_var_t, ev_not, ev_and, ev_beq, ev_max, ev_min, op_eql, op_neq, op_lss, op_leq, op_gtr, op_geq, op_add, op_sub, iNz_b2i, w64_u, w64_i, w8_u, u64_wd, u64_u64, i64_i64, u8_u8, ph_E11_addsub_Turn]
    rw [s_Turn', fN_u, nB_u, oB_eq]
  refine (treeF_call (r := oR (y1, y2)) ?_ rfl).trans ?_
  · simp only [l_an, l_ca, l_na, l_mc, l_mn, getI_0, getI_s, oB_eq, oW_eq, ev_bin, ev_conv, ev_ite, ev_lit, ev_var_u, ev_var_i, ev_var_8, ev_var_b, ev_var_t, ev_not, ev_and, ev_beq, ev_max, ev_min, op_eql, op_neq, op_lss, op_leq, op_gtr, op_geq, op_add, op_sub, iNz_b2i, w64_u, w64_i, w8_u, u64_wd, u64_u64, i64_i64, u8_u8, oR_eq, ph_E11_mul_Mul, beq_iff_eq]
    rw [mir_int m hm, s_mul_Mul _ _ _ _ _ _ _ hff (by rw [hm8]; omega), fN_u, nB_small tl, nB_u, hm8, iNz_b2i, Int.toNat_natCast, hy, oR_eq]
  refine (treeF_call (r := oR (p1, y2)) ?_ rfl).trans ?_
  · simp only [l_an, l_ca, l_na, l_mc, l_mn, getI_0, getI_s, oB_eq, oW_eq, ev_bin, ev_conv, ev_ite, ev_lit, ev_var_u, ev_var_i, ev_var_8, ev_var_b, ev_var_t, ev_not, ev_and, ev_beq, ev_max, ev_min, op_eql, op_neq, op_lss, op_leq, op_gtr, op_geq, op_add, op_sub, iNz_b2i, w64_u, w64_i, w8_u, u64_wd, u64_u64, i64_i64, u8_u8, oR_eq, ph_E11_mul_Mul]
    rw [s_mul_Mul _ _ _ _ _ _ _ hff (by rw [u8_u8]; exact hm), fN_u, nB_u, nB_u, u8_u8, iNz_b2i, k1, oR_eq]
  rw [treeF_ite]
  simp only [l_an, l_ca, l_na, l_mc, l_mn, getI_0, getI_s, oB_eq, oW_eq, ev_bin, ev_conv, ev_ite, ev_lit, ev_var_u, ev_var_i, ev_var_8, ev_var_b, ev_var_t, ev_not, ev_and, ev_beq, ev_max, ev_min, op_eql, op_neq, op_lss, op_leq, op_gtr, op_geq, op_add, op_sub, iNz_b2i, w64_u, w64_i, w8_u, u64_wd, u64_u64, i64_i64, u8_u8, oR_eq, h8, beq_self_eq_true, Bool.and_true, show iNz 1 = true from rfl, Bool.not_true, Bool.false_eq_true, ↓reduceIte]
  rw [treeF_ite]
  simp only [l_an, l_ca, l_na, l_mc, l_mn, getI_0, getI_s, oB_eq, oW_eq, ev_bin, ev_conv, ev_ite, ev_lit, ev_var_u, ev_var_i, ev_var_8, ev_var_b, ev_var_t, ev_not, ev_and, ev_beq, ev_max, ev_min, op_eql, op_neq, op_lss, op_leq, op_gtr, op_geq, op_add, op_sub, iNz_b2i, w64_u, w64_i, w8_u, u64_wd, u64_u64, i64_i64, u8_u8, oR_eq, h8, bne_self_eq_false, Bool.false_eq_true, ↓reduceIte]
  refine (treeF_call (r := oB (turnN (fN f) (nB a1 a0))) ?_ rfl).trans ?_
  · simp only [l_an, l_ca, l_na, l_mc, l_mn, getI_0, getI_s, oB_eq, oW_eq, ev_bin, ev_conv, ev_ite, ev_lit, ev_var_u, ev_var_i, ev_var_8, ev_var_b, ev_var_t, ev_not, ev_and, ev_beq, ev_max, ev_min, op_eql, op_neq, op_lss, op_leq, op_gtr, op_geq, op_add, op_sub, iNz_b2i, w64_u, w64_i, w8_u, u64_wd, u64_u64, i64_i64, u8_u8, ph_E11_addsub_Turn]
    rw [s_Turn', fN_u, nB_u, oB_eq]
  refine (treeF_call (r := oB (turnN (fN f) (nB b1 b0))) ?_ rfl).trans ?_
  · simp only [l_an, l_ca, l_na, l_mc, l_mn, getI_0, getI_s, oB_eq, oW_eq, ev_bin, ev_conv, ev_ite, ev_lit, ev_var_u, ev_var_i, ev_var_8, ev_var_b, ev_var_t, ev_not, ev_and, ev_beq, ev_max, ev_min, op_eql, op_neq, op_lss, op_leq, op_gtr, op_geq, op_add, op_sub, iNz_b2i, w64_u, w64_i, w8_u, u64_wd, u64_u64, i64_i64, u8_u8, ph_E11_addsub_Turn]
    rw [s_Turn', fN_u, nB_u, oB_eq]
  refine (treeF_call (r := oR (p1, y2)) ?_ rfl).trans ?_
  · simp only [l_an, l_ca, l_na, l_mc, l_mn, getI_0, getI_s, oB_eq, oW_eq, ev_bin, ev_conv, ev_ite, ev_lit, ev_var_u, ev_var_i, ev_var_8, ev_var_b, ev_var_t, ev_not, ev_and, ev_beq, ev_max, ev_min, op_eql, op_neq, op_lss, op_leq, op_gtr, op_geq, op_add, op_sub, iNz_b2i, w64_u, w64_i, w8_u, u64_wd, u64_u64, i64_i64, u8_u8, oR_eq, ph_E11_mul_Mul]
    rw [s_mul_Mul _ _ _ _ _ _ _ hff (by rw [u8_u8]; exact hm), fN_u, nB_small tl, nB_small tl2, u8_u8, iNz_b2i, k3, oR_eq]
  rw [treeF_ite]
  simp only [l_an, l_ca, l_na, l_mc, l_mn, getI_0, getI_s, oB_eq, oW_eq, ev_bin, ev_conv, ev_ite, ev_lit, ev_var_u, ev_var_i, ev_var_8, ev_var_b, ev_var_t, ev_not, ev_and, ev_beq, ev_max, ev_min, op_eql, op_neq, op_lss, op_leq, op_gtr, op_geq, op_add, op_sub, iNz_b2i, w64_u, w64_i, w8_u, u64_wd, u64_u64, i64_i64, u8_u8, oR_eq, h8, beq_self_eq_true, Bool.and_true, show iNz 1 = true from rfl, Bool.not_true, Bool.false_eq_true, ↓reduceIte]
  refine (treeF_call (r := [b2i (decide (4 ≤ clsF (fN f) p1))]) ?_ rfl).trans ?_
  · simp only [l_an, l_ca, l_na, l_mc, l_mn, getI_0, getI_s, oB_eq, oW_eq, ev_bin, ev_conv, ev_ite, ev_lit, ev_var_u, ev_var_i, ev_var_8, ev_var_b, ev_var_t, ev_not, ev_and, ev_beq, ev_max, ev_min, op_eql, op_neq, op_lss, op_leq, op_gtr, op_geq, op_add, op_sub, iNz_b2i, w64_u, w64_i, w8_u, u64_wd, u64_u64, i64_i64, u8_u8, ph_E11_class_NaN]; rw [s_class_NaN, fN_u, nB_small hlt]
  rw [treeF_ite]
  simp only [l_an, l_ca, l_na, l_mc, l_mn, getI_0, getI_s, ev_var_b, iNz_b2i, decide_eq_true_iff]
  by_cases np : 4 ≤ clsF (fN f) p1
  · rw [if_pos np] at e1
    subst e1
    rw [if_pos np, treeF_ite]
    simp only [l_an, l_ca, l_na, l_mc, l_mn, getI_0, getI_s, oB_eq, oW_eq, ev_bin, ev_conv, ev_ite, ev_lit, ev_var_u, ev_var_i, ev_var_8, ev_var_b, ev_var_t, ev_not, ev_and, ev_beq, ev_max, ev_min, op_eql, op_neq, op_lss, op_leq, op_gtr, op_geq, op_add, op_sub, iNz_b2i, w64_u, w64_i, w8_u, u64_wd, u64_u64, i64_i64, u8_u8, h8, beq_self_eq_true, Bool.and_true, show iNz 1 = true from rfl, ↓reduceIte]
    rw [treeF_leaf rfl]; rfl
  · rw [if_neg np] at e1
    rw [if_neg np]
    refine (treeF_call (r := oB (turnN (fN f) p1)) ?_ rfl).trans ?_
    · simp only [l_an, l_ca, l_na, l_mc, l_mn, getI_0, getI_s, oB_eq, oW_eq, ev_bin, ev_conv, ev_ite, ev_lit, ev_var_u, ev_var_i, ev_var_8, ev_var_b, ev_var_t, ev_not, ev_and, ev_beq, ev_max, ev_min, op_eql, op_neq, op_lss, op_leq, op_gtr, op_geq, op_add, op_sub, iNz_b2i, w64_u, w64_i, w8_u, u64_wd, u64_u64, i64_i64, u8_u8, ph_E11_addsub_Turn]
      rw [s_Turn', fN_u, nB_small hlt, oB_eq]
    subst e1
    rw [treeF_ite]
    simp only [l_an, l_ca, l_na, l_mc, l_mn, getI_0, getI_s, oB_eq, oW_eq, ev_bin, ev_conv, ev_ite, ev_lit, ev_var_u, ev_var_i, ev_var_8, ev_var_b, ev_var_t, ev_not, ev_and, ev_beq, ev_max, ev_min, op_eql, op_neq, op_lss, op_leq, op_gtr, op_geq, op_add, op_sub, iNz_b2i, w64_u, w64_i, w8_u, u64_wd, u64_u64, i64_i64, u8_u8, h8, beq_self_eq_true, Bool.and_true, show iNz 1 = true from rfl, ↓reduceIte]
    rw [treeF_leaf rfl]; rfl
theorem true_MulSpecial (l : List Int) (h : l.length = 6) : F_law19_MulSpecial l = [1] := by
  match l, h with
  | [f, m, t, a1, a0, n], _ =>
  rw [F_law19_MulSpecial, t_law19_MulSpecial, treeF_ite]
  simp only [l_an, l_ca, l_na, l_mc, l_mn, getI_0, getI_s, ev_bin, ev_not, op_lss, ev_var_8, ev_lit, iNz_b2i, Bool.not_eq_true', decide_eq_false_iff_not, u8_lt4]
  by_cases hf : ¬ fN f < 4
  · rw [if_pos hf, treeF_leaf rfl]; rfl
  rw [if_neg hf, treeF_ite]
  have hf := Classical.not_not.1 hf
  simp only [l_an, l_ca, l_na, l_mc, l_mn, getI_0, getI_s, ev_bin, ev_not, op_leq, ev_var_8, ev_lit, iNz_b2i, Bool.not_eq_true', decide_eq_false_iff_not]
  by_cases hm : ¬ u8 m ≤ 4
  · rw [if_pos hm, treeF_leaf rfl]; rfl
  rw [if_neg hm]
  have hm := Classical.not_not.1 hm
  have hff : fN (u8 f) < 4 := by rw [fN_u]; exact hf
  refine (treeF_call (r := [b2i (decide (4 ≤ clsF (fN f) (nB a1 a0)))]) ?_ rfl).trans ?_
  · simp only [l_an, l_ca, l_na, l_mc, l_mn, getI_0, getI_s, oB_eq, oW_eq, ev_bin, ev_conv, ev_ite, ev_lit, ev_var_u, ev_var_i, ev_var_8, ev_var_b, ev_var_t, ev_not, ev_and, ev_beq, ev_max, ev_min, op_eql, op_neq, op_lss, op_leq, op_gtr, op_geq, op_add, op_sub, iNz_b2i, w64_u, w64_i, w8_u, u64_wd, u64_u64, i64_i64, u8_u8, ph_E11_class_NaN]; rw [s_class_NaN, fN_u, nB_u]
  rw [treeF_ite]
  simp only [l_an, l_ca, l_na, l_mc, l_mn, getI_0, getI_s, ev_var_b, iNz_b2i, decide_eq_true_iff]
  by_cases na : 4 ≤ clsF (fN f) (nB a1 a0)
  · rw [if_pos na, treeF_leaf rfl]; rfl
  rw [if_neg na]
  have c8 := clsF_u8 (fN f) (nB a1 a0)
  have hi := inf_W hf
  have hz : (0 : Nat) < 2 ^ (FP.fW (fN f) - 1) := FP.two_pow_pos _
  have lz := mk_W hf (iNz n) hz
  have li := mk_W hf (iNz n) hi
  have cz : clsF (fN f) (FP.mk (fN f) (iNz n) 0) = 0 := by rw [clsF_mk hf _ hz]; unfold FP.clsC; rw [if_pos rfl]
  have ci : clsF (fN f) (FP.mk (fN f) (iNz n) (FP.inf (fN f))) = 3 := by rw [clsF_mk hf _ hi]; exact FP.clsC_inf.2 rfl
  have mz := mulR_S hf (u8 m).toNat (iNz t) na (b := FP.mk (fN f) (iNz n) 0) (by rw [cz]; omega)
  have mi := mulR_S hf (u8 m).toNat (iNz t) na (b := FP.mk (fN f) (iNz n) (FP.inf (fN f))) (by rw [ci]; omega)
  rw [cz, FP.sgn_mk _ hz, FP.cod_mk _ hz] at mz
  rw [ci, FP.sgn_mk _ hi, FP.cod_mk _ hi] at mi
  have ca := clsF_cod hf (nB a1 a0)
  have sz : ∀ neg, clsF (fN f) (nB a1 a0) ≠ 3 → mulS (fN f) (u8 m).toNat (iNz t) neg (FP.cod (fN f) (nB a1 a0)) 0 = (0, 0) := fun neg h => by
    unfold mulS
    rw [if_neg (by rw [← ca, show FP.clsC (fN f) 0 = 0 by unfold FP.clsC; rw [if_pos rfl]]; omega)]
    unfold FP.mulC FP.val
    rw [FP.cval_zero, Nat.mul_zero, FP.roundC_zero]
  have si : ∀ neg, mulS (fN f) (u8 m).toNat (iNz t) neg (FP.cod (fN f) (nB a1 a0)) (FP.inf (fN f)) = (FP.inf (fN f), 0) := fun neg => by
    unfold mulS; rw [if_pos (.inr (FP.clsC_inf.2 rfl))]
  rw [si] at mi
  have sg : sgnF (fN f) (nB a1 a0) = FP.sgn (fN f) (nB a1 a0) := sgnF_id hf _
  have bq : ∀ x y : Bool, (!(x == y)) = (y != x) := by decide
  have ld := mk_W hf false (dfl_code hf)
  have nd : decide (4 ≤ clsF (fN f) (dfl (fN f))) = true := by rw [clsF_dfl hf]; rfl
  refine (treeF_call (r := [((clsF (fN f) (nB a1 a0) : Nat) : Int), b2i (sgnF (fN f) (nB a1 a0))]) ?_ rfl).trans ?_
  · simp only [l_an, l_ca, l_na, l_mc, l_mn, getI_0, getI_s, oB_eq, oW_eq, ev_bin, ev_conv, ev_ite, ev_lit, ev_var_u, ev_var_i, ev_var_8, ev_var_b, ev_var_t, ev_not, ev_and, ev_beq, ev_max, ev_min, op_eql, op_neq, op_lss, op_leq, op_gtr, op_geq, op_add, op_sub, iNz_b2i, w64_u, w64_i, w8_u, u64_wd, u64_u64, i64_i64, u8_u8, ph_E11_class_Of]; rw [s_Of', fN_u, nB_u]
  rw [sg]
  refine (treeF_call (r := oB (FP.mk (fN f) (iNz n) 0)) ?_ rfl).trans ?_
  · simp only [l_an, l_ca, l_na, l_mc, l_mn, getI_0, getI_s, oB_eq, oW_eq, ev_bin, ev_conv, ev_ite, ev_lit, ev_var_u, ev_var_i, ev_var_8, ev_var_b, ev_var_t, ev_not, ev_and, ev_beq, ev_max, ev_min, op_eql, op_neq, op_lss, op_leq, op_gtr, op_geq, op_add, op_sub, iNz_b2i, w64_u, w64_i, w8_u, u64_wd, u64_u64, i64_i64, u8_u8, ph_E11_format_Nought]; rw [s_format_Nought, fN_u, if_pos hf, iNz_b2i, oB_eq]
  refine (treeF_call (r := oR (mulR (fN f) (u8 m).toNat (iNz t) (nB a1 a0) (FP.mk (fN f) (iNz n) 0))) ?_ rfl).trans ?_
  · simp only [l_an, l_ca, l_na, l_mc, l_mn, getI_0, getI_s, oB_eq, oW_eq, ev_bin, ev_conv, ev_ite, ev_lit, ev_var_u, ev_var_i, ev_var_8, ev_var_b, ev_var_t, ev_not, ev_and, ev_beq, ev_max, ev_min, op_eql, op_neq, op_lss, op_leq, op_gtr, op_geq, op_add, op_sub, iNz_b2i, w64_u, w64_i, w8_u, u64_wd, u64_u64, i64_i64, u8_u8, ph_E11_mul_Mul]
    rw [s_mul_Mul _ _ _ _ _ _ _ hff (by rw [u8_u8]; exact hm), fN_u, nB_u, nB_small lz, u8_u8, iNz_b2i]
  refine (treeF_call (r := oB (FP.mk (fN f) (iNz n) (FP.inf (fN f)))) ?_ ?_).trans ?_
  · simp only [l_an, l_ca, l_na, l_mc, l_mn, getI_0, getI_s, oB_eq, oW_eq, ev_bin, ev_conv, ev_ite, ev_lit, ev_var_u, ev_var_i, ev_var_8, ev_var_b, ev_var_t, ev_not, ev_and, ev_beq, ev_max, ev_min, op_eql, op_neq, op_lss, op_leq, op_gtr, op_geq, op_add, op_sub, iNz_b2i, w64_u, w64_i, w8_u, u64_wd, u64_u64, i64_i64, u8_u8, ph_E11_format_Inf]
    generalize mulR (fN f) (u8 m).toNat (iNz t) (nB a1 a0) (FP.mk (fN f) (iNz n) 0) = q
    rw [s_format_Inf, fN_u, if_pos hf, iNz_b2i, oB_eq]
  · rfl
  refine (treeF_call (r := oR (mulR (fN f) (u8 m).toNat (iNz t) (nB a1 a0) (FP.mk (fN f) (iNz n) (FP.inf (fN f))))) ?_ ?_).trans ?_
  · generalize mulR (fN f) (u8 m).toNat (iNz t) (nB a1 a0) (FP.mk (fN f) (iNz n) 0) = q
    obtain ⟨q1, q2⟩ := q
    simp only [l_an, l_ca, l_na, l_mc, l_mn, getI_0, getI_s, oB_eq, oW_eq, ev_bin, ev_conv, ev_ite, ev_lit, ev_var_u, ev_var_i, ev_var_8, ev_var_b, ev_var_t, ev_not, ev_and, ev_beq, ev_max, ev_min, op_eql, op_neq, op_lss, op_leq, op_gtr, op_geq, op_add, op_sub, iNz_b2i, w64_u, w64_i, w8_u, u64_wd, u64_u64, i64_i64, u8_u8, oR_eq, ph_E11_mul_Mul]
    rw [s_mul_Mul _ _ _ _ _ _ _ hff (by rw [u8_u8]; exact hm), fN_u, nB_u, nB_small li, u8_u8, iNz_b2i]
  · rfl
  rw [mz, mi]
  by_cases c3 : clsF (fN f) (nB a1 a0) = 3
  · rw [c3, if_pos (show badC 3 0 = true by decide), if_neg (show ¬ badC 3 3 = true by decide), treeF_ite]
    simp only [l_an, l_ca, l_na, l_mc, l_mn, getI_0, getI_s, oB_eq, oW_eq, ev_bin, ev_conv, ev_ite, ev_lit, ev_var_u, ev_var_i, ev_var_8, ev_var_b, ev_var_t, ev_not, ev_and, ev_beq, ev_max, ev_min, op_eql, op_neq, op_lss, op_leq, op_gtr, op_geq, op_add, op_sub, iNz_b2i, w64_u, w64_i, w8_u, u64_wd, u64_u64, i64_i64, u8_u8, oR_eq, show u8 ((3 : Nat) : Int) = 3 from rfl, beq_self_eq_true, ↓reduceIte]
    refine (treeF_call (r := [b2i true]) ?_ rfl).trans ?_
    · simp only [l_an, l_ca, l_na, l_mc, l_mn, getI_0, getI_s, oB_eq, oW_eq, ev_bin, ev_conv, ev_ite, ev_lit, ev_var_u, ev_var_i, ev_var_8, ev_var_b, ev_var_t, ev_not, ev_and, ev_beq, ev_max, ev_min, op_eql, op_neq, op_lss, op_leq, op_gtr, op_geq, op_add, op_sub, iNz_b2i, w64_u, w64_i, w8_u, u64_wd, u64_u64, i64_i64, u8_u8, ph_E11_class_NaN]; rw [s_class_NaN, fN_u]; unfold dfl; rw [nB_small ld]; unfold dfl at nd; rw [nd]
    rw [treeF_ite]
    simp only [l_an, l_ca, l_na, l_mc, l_mn, getI_0, getI_s, oB_eq, oW_eq, ev_bin, ev_conv, ev_ite, ev_lit, ev_var_u, ev_var_i, ev_var_8, ev_var_b, ev_var_t, ev_not, ev_and, ev_beq, ev_max, ev_min, op_eql, op_neq, op_lss, op_leq, op_gtr, op_geq, op_add, op_sub, iNz_b2i, w64_u, w64_i, w8_u, u64_wd, u64_u64, i64_i64, u8_u8, ↓reduceIte]
    rw [treeF_ite]
    simp only [l_an, l_ca, l_na, l_mc, l_mn, getI_0, getI_s, oB_eq, oW_eq, ev_bin, ev_conv, ev_ite, ev_lit, ev_var_u, ev_var_i, ev_var_8, ev_var_b, ev_var_t, ev_not, ev_and, ev_beq, ev_max, ev_min, op_eql, op_neq, op_lss, op_leq, op_gtr, op_geq, op_add, op_sub, iNz_b2i, w64_u, w64_i, w8_u, u64_wd, u64_u64, i64_i64, u8_u8, show u8 ((1 : Nat) : Int) = 1 from rfl, beq_self_eq_true, ↓reduceIte]
    refine (treeF_call (r := oB (FP.mk (fN f) (FP.sgn (fN f) (nB a1 a0) != iNz n) (FP.inf (fN f)))) ?_ rfl).trans ?_
    · simp only [l_an, l_ca, l_na, l_mc, l_mn, getI_0, getI_s, oB_eq, oW_eq, ev_bin, ev_conv, ev_ite, ev_lit, ev_var_u, ev_var_i, ev_var_8, ev_var_b, ev_var_t, ev_not, ev_and, ev_beq, ev_max, ev_min, op_eql, op_neq, op_lss, op_leq, op_gtr, op_geq, op_add, op_sub, iNz_b2i, w64_u, w64_i, w8_u, u64_wd, u64_u64, i64_i64, u8_u8, ph_E11_format_Inf]; rw [s_format_Inf, fN_u, if_pos hf, iNz_b2i, bq, oB_eq]
    rw [treeF_ite]
    simp only [l_an, l_ca, l_na, l_mc, l_mn, getI_0, getI_s, oB_eq, oW_eq, ev_bin, ev_conv, ev_ite, ev_lit, ev_var_u, ev_var_i, ev_var_8, ev_var_b, ev_var_t, ev_not, ev_and, ev_beq, ev_max, ev_min, op_eql, op_neq, op_lss, op_leq, op_gtr, op_geq, op_add, op_sub, iNz_b2i, w64_u, w64_i, w8_u, u64_wd, u64_u64, i64_i64, u8_u8, show u8 ((0 : Nat) : Int) = 0 from rfl, beq_self_eq_true, Bool.and_true, show iNz 1 = true from rfl, ↓reduceIte]
    rw [treeF_leaf rfl]; rfl
  · have b0 : ¬ badC (clsF (fN f) (nB a1 a0)) 0 = true := by
      unfold badC; rw [decide_eq_false c3]; simp
    rw [if_neg b0, sz _ c3, treeF_ite]
    simp only [l_an, l_ca, l_na, l_mc, l_mn, getI_0, getI_s, oB_eq, oW_eq, ev_bin, ev_conv, ev_ite, ev_lit, ev_var_u, ev_var_i, ev_var_8, ev_var_b, ev_var_t, ev_not, ev_and, ev_beq, ev_max, ev_min, op_eql, op_neq, op_lss, op_leq, op_gtr, op_geq, op_add, op_sub, iNz_b2i, w64_u, w64_i, w8_u, u64_wd, u64_u64, i64_i64, u8_u8, oR_eq, c8, beq_iff_eq]
    rw [if_neg (show ¬ ((clsF (fN f) (nB a1 a0) : Nat) : Int) = 3 by omega)]
    refine (treeF_call (r := oB (FP.mk (fN f) (FP.sgn (fN f) (nB a1 a0) != iNz n) 0)) ?_ ?_).trans ?_
    · generalize (if badC (clsF (fN f) (nB a1 a0)) 3 = true then (dfl (fN f), 1) else (FP.mk (fN f) (FP.sgn (fN f) (nB a1 a0) != iNz n) (FP.inf (fN f)), 0)) = q
      obtain ⟨q1, q2⟩ := q
      simp only [l_an, l_ca, l_na, l_mc, l_mn, getI_0, getI_s, oB_eq, oW_eq, ev_bin, ev_conv, ev_ite, ev_lit, ev_var_u, ev_var_i, ev_var_8, ev_var_b, ev_var_t, ev_not, ev_and, ev_beq, ev_max, ev_min, op_eql, op_neq, op_lss, op_leq, op_gtr, op_geq, op_add, op_sub, iNz_b2i, w64_u, w64_i, w8_u, u64_wd, u64_u64, i64_i64, u8_u8, oR_eq, ph_E11_format_Nought]; rw [s_format_Nought, fN_u, if_pos hf, iNz_b2i, bq, oB_eq]
    · rfl
    by_cases cc : clsF (fN f) (nB a1 a0) = 0
    · rw [cc, if_pos (show badC 0 3 = true by decide), treeF_ite]
      simp only [l_an, l_ca, l_na, l_mc, l_mn, getI_0, getI_s, oB_eq, oW_eq, ev_bin, ev_conv, ev_ite, ev_lit, ev_var_u, ev_var_i, ev_var_8, ev_var_b, ev_var_t, ev_not, ev_and, ev_beq, ev_max, ev_min, op_eql, op_neq, op_lss, op_leq, op_gtr, op_geq, op_add, op_sub, iNz_b2i, w64_u, w64_i, w8_u, u64_wd, u64_u64, i64_i64, u8_u8, oR_eq, show u8 ((0 : Nat) : Int) = 0 from rfl, beq_self_eq_true, Bool.and_true, show iNz 1 = true from rfl, Bool.not_true, Bool.false_eq_true, ↓reduceIte]
      rw [treeF_ite]
      simp only [l_an, l_ca, l_na, l_mc, l_mn, getI_0, getI_s, oB_eq, oW_eq, ev_bin, ev_conv, ev_ite, ev_lit, ev_var_u, ev_var_i, ev_var_8, ev_var_b, ev_var_t, ev_not, ev_and, ev_beq, ev_max, ev_min, op_eql, op_neq, op_lss, op_leq, op_gtr, op_geq, op_add, op_sub, iNz_b2i, w64_u, w64_i, w8_u, u64_wd, u64_u64, i64_i64, u8_u8, show u8 ((0 : Nat) : Int) = 0 from rfl, beq_self_eq_true, ↓reduceIte]
      refine (treeF_call (r := [b2i true]) ?_ rfl).trans ?_
      · simp only [l_an, l_ca, l_na, l_mc, l_mn, getI_0, getI_s, oB_eq, oW_eq, ev_bin, ev_conv, ev_ite, ev_lit, ev_var_u, ev_var_i, ev_var_8, ev_var_b, ev_var_t, ev_not, ev_and, ev_beq, ev_max, ev_min, op_eql, op_neq, op_lss, op_leq, op_gtr, op_geq, op_add, op_sub, iNz_b2i, w64_u, w64_i, w8_u, u64_wd, u64_u64, i64_i64, u8_u8, ph_E11_class_NaN]; rw [s_class_NaN, fN_u]; unfold dfl; rw [nB_small ld]; unfold dfl at nd; rw [nd]
      rw [treeF_ite]
      simp only [l_an, l_ca, l_na, l_mc, l_mn, getI_0, getI_s, oB_eq, oW_eq, ev_bin, ev_conv, ev_ite, ev_lit, ev_var_u, ev_var_i, ev_var_8, ev_var_b, ev_var_t, ev_not, ev_and, ev_beq, ev_max, ev_min, op_eql, op_neq, op_lss, op_leq, op_gtr, op_geq, op_add, op_sub, iNz_b2i, w64_u, w64_i, w8_u, u64_wd, u64_u64, i64_i64, u8_u8, ↓reduceIte]
      rw [treeF_ite]
      simp only [l_an, l_ca, l_na, l_mc, l_mn, getI_0, getI_s, oB_eq, oW_eq, ev_bin, ev_conv, ev_ite, ev_lit, ev_var_u, ev_var_i, ev_var_8, ev_var_b, ev_var_t, ev_not, ev_and, ev_beq, ev_max, ev_min, op_eql, op_neq, op_lss, op_leq, op_gtr, op_geq, op_add, op_sub, iNz_b2i, w64_u, w64_i, w8_u, u64_wd, u64_u64, i64_i64, u8_u8, show u8 ((1 : Nat) : Int) = 1 from rfl, beq_self_eq_true, ↓reduceIte]
      rw [treeF_leaf rfl]; rfl
    · have b3 : ¬ badC (clsF (fN f) (nB a1 a0)) 3 = true := by
        unfold badC; rw [decide_eq_false cc]; simp
      rw [if_neg b3, treeF_ite]
      simp only [l_an, l_ca, l_na, l_mc, l_mn, getI_0, getI_s, oB_eq, oW_eq, ev_bin, ev_conv, ev_ite, ev_lit, ev_var_u, ev_var_i, ev_var_8, ev_var_b, ev_var_t, ev_not, ev_and, ev_beq, ev_max, ev_min, op_eql, op_neq, op_lss, op_leq, op_gtr, op_geq, op_add, op_sub, iNz_b2i, w64_u, w64_i, w8_u, u64_wd, u64_u64, i64_i64, u8_u8, oR_eq, show u8 ((0 : Nat) : Int) = 0 from rfl, beq_self_eq_true, Bool.and_true, show iNz 1 = true from rfl, Bool.not_true, Bool.false_eq_true, ↓reduceIte]
      rw [treeF_ite]
      simp only [l_an, l_ca, l_na, l_mc, l_mn, getI_0, getI_s, oB_eq, oW_eq, ev_bin, ev_conv, ev_ite, ev_lit, ev_var_u, ev_var_i, ev_var_8, ev_var_b, ev_var_t, ev_not, ev_and, ev_beq, ev_max, ev_min, op_eql, op_neq, op_lss, op_leq, op_gtr, op_geq, op_add, op_sub, iNz_b2i, w64_u, w64_i, w8_u, u64_wd, u64_u64, i64_i64, u8_u8, c8, beq_iff_eq]
      rw [if_neg (show ¬ ((clsF (fN f) (nB a1 a0) : Nat) : Int) = 0 by omega)]
      refine (treeF_call (r := oB (FP.mk (fN f) (FP.sgn (fN f) (nB a1 a0) != iNz n) (FP.inf (fN f)))) ?_ rfl).trans ?_
      · simp only [l_an, l_ca, l_na, l_mc, l_mn, getI_0, getI_s, oB_eq, oW_eq, ev_bin, ev_conv, ev_ite, ev_lit, ev_var_u, ev_var_i, ev_var_8, ev_var_b, ev_var_t, ev_not, ev_and, ev_beq, ev_max, ev_min, op_eql, op_neq, op_lss, op_leq, op_gtr, op_geq, op_add, op_sub, iNz_b2i, w64_u, w64_i, w8_u, u64_wd, u64_u64, i64_i64, u8_u8, ph_E11_format_Inf]; rw [s_format_Inf, fN_u, if_pos hf, iNz_b2i, bq, oB_eq]
      rw [treeF_ite]
      simp only [l_an, l_ca, l_na, l_mc, l_mn, getI_0, getI_s, oB_eq, oW_eq, ev_bin, ev_conv, ev_ite, ev_lit, ev_var_u, ev_var_i, ev_var_8, ev_var_b, ev_var_t, ev_not, ev_and, ev_beq, ev_max, ev_min, op_eql, op_neq, op_lss, op_leq, op_gtr, op_geq, op_add, op_sub, iNz_b2i, w64_u, w64_i, w8_u, u64_wd, u64_u64, i64_i64, u8_u8, show u8 ((0 : Nat) : Int) = 0 from rfl, beq_self_eq_true, Bool.and_true, show iNz 1 = true from rfl, ↓reduceIte]
      rw [treeF_leaf rfl]; rfl
end Go.Proofs.YtikjbocagnolmaaDoor
