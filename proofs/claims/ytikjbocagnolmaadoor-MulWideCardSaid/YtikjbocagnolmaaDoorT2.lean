import Derived.Test.YtikjbocagnolmaaDoorH4
import Derived.Test.YtikjbocagnolmaaDoorH5
import Derived.Test.YtikjbocagnolmaaDoorZG
/- Laws on conversions there and back, and on products' order. -/
namespace Go.Proofs.YtikjbocagnolmaaDoor
set_option linter.unusedVariables false
set_option linter.unusedSimpArgs false
set_option maxRecDepth 100000
open Go.RowKit
theorem oR_pr (p : Nat × Nat) : oR p = [wd p.1 1, wd p.1 0, (p.2 : Int)] := by obtain ⟨a, b⟩ := p; exact oR_eq a b
theorem u8_fl {k : Nat} (h : k ≤ 255) : u8 (k : Int) = (k : Int) := u8_id (by omega) (by omega)
theorem op_rem5 (m : Int) : iOp .rem .u8 (u8 m) 5 = (((u8 m).toNat % 5 : Nat) : Int) := by
  have := u8_rng m
  rw [iOp, Int.tmod_eq_emod_of_nonneg this.1]; omega
theorem mod5_le (m : Int) : (u8 m).toNat % 5 ≤ 4 := by omega
theorem z64 : u64 0 = 0 := by decide
theorem z8 : u8 0 = 0 := by decide
theorem iNz1 : iNz 1 = true := by decide
theorem q_conv {f t : Int} {M : Nat} {u : Bool} {a b : Int} (hf : fN f < 4) (ht : fN t < 4) (hM : M ≤ 4) : F_conv_Conv [u8 f, u8 t, (M : Int), b2i u, a, b] = oR (convR (fN f) (fN t) M u (nB a b)) := by
  rw [s_conv_Conv _ _ _ _ _ _ (by rw [fN_u]; exact hf) (by rw [fN_u]; exact ht) (by rw [u8_fl (by omega)]; omega), fN_u, fN_u, u8_fl (show M ≤ 255 by omega), iNz_b2i, Int.toNat_natCast]
def fitsB (f t b : Nat) : Bool := decide (f < 4) && (decide (t < 4) && (decide (clsF f b ≤ 3) && decide ((convR f t 4 false b).2 = 0)))
theorem q_fits (f t a b : Int) : F_conv_Fits [u8 f, u8 t, a, b] = [b2i (fitsB (fN f) (fN t) (nB a b))] := by
  rw [s_conv_Fits, fN_u, fN_u]; rfl
theorem fits_nan {f t b : Nat} (h : 4 ≤ clsF f b) : fitsB f t b = false := by
  unfold fitsB; rw [decide_eq_false (show ¬ clsF f b ≤ 3 by omega)]; simp
theorem fits_num {f t b : Nat} (hf : f < 4) (ht : t < 4) (h : ¬ 4 ≤ clsF f b) (m : Nat) (a : Bool) : fitsB f t b = decide ((convR f t m a b).2 = 0) := by
  unfold fitsB; rw [decide_eq_true hf, decide_eq_true ht, decide_eq_true (show clsF f b ≤ 3 by omega), Bool.true_and, Bool.true_and, Bool.true_and, decide_eq_decide]
  exact convR_zero hf ht _ _ _ _ h
theorem q_nan (f a b : Int) : F_class_NaN [u8 f, a, b] = [b2i (decide (4 ≤ clsF (fN f) (nB a b)))] := by
  rw [s_class_NaN, fN_u]
theorem true_ConvBack (l : List Int) (h : l.length = 8) : F_law25_ConvBack l = [1] := by
  match l, h with
  | [f, t, m, u, m2, u2, a, b], _ =>
  rw [F_law25_ConvBack, t_law25_ConvBack, treeF_ite]
  have nofits : ∀ x : Nat, ¬ (fN f < 4 ∧ fN t < 4) → fitsB (fN f) (fN t) x = false := fun x h => by
    unfold fitsB
    by_cases h1 : fN f < 4
    · rw [decide_eq_false (fun h2 => h ⟨h1, h2⟩)]; simp
    · rw [decide_eq_false h1]; simp
  simp only [l_an, l_ca, l_na, l_mc, l_mn, getI_0, getI_s, ev_bin, ev_not, op_lss, ev_var_8, ev_lit, iNz_b2i, Bool.not_eq_true', decide_eq_false_iff_not, u8_lt4]
  by_cases hf : ¬ fN f < 4
  · rw [if_pos hf]
    refine (treeF_call (r := [0, 0, 0]) ?_ rfl).trans ?_
    · simp only [l_an, l_ca, l_na, l_mc, l_mn, getI_0, getI_s, oB_eq, oW_eq, ev_bin, ev_conv, ev_ite, ev_lit, ev_var_u, ev_var_i, ev_var_8, ev_var_b, ev_var_t, ev_not, ev_and, ev_beq, ev_max, ev_min, op_eql, op_neq, op_lss, op_leq, op_gtr, op_geq, op_add, op_sub, iNz_b2i, w64_u, w64_i, w8_u, u64_wd, u64_u64, i64_i64, u8_u8, op_rem5, ph_E11_conv_Conv]
      rw [s_conv_Conv0 _ _ _ _ _ _ (by rw [fN_u]; exact fun h => hf h.1)]
    rw [treeF_ite]
    simp only [l_an, l_ca, l_na, l_mc, l_mn, getI_0, getI_s, oB_eq, oW_eq, ev_bin, ev_conv, ev_ite, ev_lit, ev_var_u, ev_var_i, ev_var_8, ev_var_b, ev_var_t, ev_not, ev_and, ev_beq, ev_max, ev_min, op_eql, op_neq, op_lss, op_leq, op_gtr, op_geq, op_add, op_sub, iNz_b2i, w64_u, w64_i, w8_u, u64_wd, u64_u64, i64_i64, u8_u8, z64, z8, beq_self_eq_true, Bool.and_true, iNz1, ↓reduceIte]
    refine (treeF_call (r := [b2i false]) ?_ rfl).trans ?_
    · simp only [l_an, l_ca, l_na, l_mc, l_mn, getI_0, getI_s, oB_eq, oW_eq, ev_bin, ev_conv, ev_ite, ev_lit, ev_var_u, ev_var_i, ev_var_8, ev_var_b, ev_var_t, ev_not, ev_and, ev_beq, ev_max, ev_min, op_eql, op_neq, op_lss, op_leq, op_gtr, op_geq, op_add, op_sub, iNz_b2i, w64_u, w64_i, w8_u, u64_wd, u64_u64, i64_i64, u8_u8, ph_E11_conv_Fits]
      rw [q_fits, nofits _ (fun h => hf h.1)]
    rw [treeF_ite]
    simp only [l_an, l_ca, l_na, l_mc, l_mn, getI_0, getI_s, oB_eq, oW_eq, ev_bin, ev_conv, ev_ite, ev_lit, ev_var_u, ev_var_i, ev_var_8, ev_var_b, ev_var_t, ev_not, ev_and, ev_beq, ev_max, ev_min, op_eql, op_neq, op_lss, op_leq, op_gtr, op_geq, op_add, op_sub, iNz_b2i, w64_u, w64_i, w8_u, u64_wd, u64_u64, i64_i64, u8_u8, Bool.not_false, ↓reduceIte]
    rw [treeF_leaf rfl]; rfl
  rw [if_neg hf, treeF_ite]
  have hf := Classical.not_not.1 hf
  simp only [l_an, l_ca, l_na, l_mc, l_mn, getI_0, getI_s, ev_bin, ev_not, op_lss, ev_var_8, ev_lit, iNz_b2i, Bool.not_eq_true', decide_eq_false_iff_not, u8_lt4]
  by_cases ht : ¬ fN t < 4
  · rw [if_pos ht]
    refine (treeF_call (r := [0, 0, 0]) ?_ rfl).trans ?_
    · simp only [l_an, l_ca, l_na, l_mc, l_mn, getI_0, getI_s, oB_eq, oW_eq, ev_bin, ev_conv, ev_ite, ev_lit, ev_var_u, ev_var_i, ev_var_8, ev_var_b, ev_var_t, ev_not, ev_and, ev_beq, ev_max, ev_min, op_eql, op_neq, op_lss, op_leq, op_gtr, op_geq, op_add, op_sub, iNz_b2i, w64_u, w64_i, w8_u, u64_wd, u64_u64, i64_i64, u8_u8, op_rem5, ph_E11_conv_Conv]
      rw [s_conv_Conv0 _ _ _ _ _ _ (by rw [fN_u, fN_u]; exact fun h => ht h.2.1)]
    rw [treeF_ite]
    simp only [l_an, l_ca, l_na, l_mc, l_mn, getI_0, getI_s, oB_eq, oW_eq, ev_bin, ev_conv, ev_ite, ev_lit, ev_var_u, ev_var_i, ev_var_8, ev_var_b, ev_var_t, ev_not, ev_and, ev_beq, ev_max, ev_min, op_eql, op_neq, op_lss, op_leq, op_gtr, op_geq, op_add, op_sub, iNz_b2i, w64_u, w64_i, w8_u, u64_wd, u64_u64, i64_i64, u8_u8, z64, z8, beq_self_eq_true, Bool.and_true, iNz1, ↓reduceIte]
    refine (treeF_call (r := [b2i false]) ?_ rfl).trans ?_
    · simp only [l_an, l_ca, l_na, l_mc, l_mn, getI_0, getI_s, oB_eq, oW_eq, ev_bin, ev_conv, ev_ite, ev_lit, ev_var_u, ev_var_i, ev_var_8, ev_var_b, ev_var_t, ev_not, ev_and, ev_beq, ev_max, ev_min, op_eql, op_neq, op_lss, op_leq, op_gtr, op_geq, op_add, op_sub, iNz_b2i, w64_u, w64_i, w8_u, u64_wd, u64_u64, i64_i64, u8_u8, ph_E11_conv_Fits]
      rw [q_fits, nofits _ (fun h => ht h.2)]
    rw [treeF_ite]
    simp only [l_an, l_ca, l_na, l_mc, l_mn, getI_0, getI_s, oB_eq, oW_eq, ev_bin, ev_conv, ev_ite, ev_lit, ev_var_u, ev_var_i, ev_var_8, ev_var_b, ev_var_t, ev_not, ev_and, ev_beq, ev_max, ev_min, op_eql, op_neq, op_lss, op_leq, op_gtr, op_geq, op_add, op_sub, iNz_b2i, w64_u, w64_i, w8_u, u64_wd, u64_u64, i64_i64, u8_u8, Bool.not_false, ↓reduceIte]
    rw [treeF_leaf rfl]; rfl
  rw [if_neg ht]
  have ht := Classical.not_not.1 ht
  have hM := mod5_le m
  have hM2 := mod5_le m2
  have r1 := u8_rng f
  have r2 := u8_rng t
  have hlt := convR_lt hf ht ((u8 m).toNat % 5) (iNz u) (nB a b)
  have hfl := convR_flag hf (fN t) ((u8 m).toNat % 5) (iNz u) (nB a b)
  have hnn := convR_nan hf ht ((u8 m).toNat % 5) (iNz u) (nB a b)
  have h8 := u8_fl (k := (convR (fN f) (fN t) ((u8 m).toNat % 5) (iNz u) (nB a b)).2) (by omega)
  refine (treeF_call (r := oR (convR (fN f) (fN t) ((u8 m).toNat % 5) (iNz u) (nB a b))) ?_ rfl).trans ?_
  · simp only [l_an, l_ca, l_na, l_mc, l_mn, getI_0, getI_s, oB_eq, oW_eq, ev_bin, ev_conv, ev_ite, ev_lit, ev_var_u, ev_var_i, ev_var_8, ev_var_b, ev_var_t, ev_not, ev_and, ev_beq, ev_max, ev_min, op_eql, op_neq, op_lss, op_leq, op_gtr, op_geq, op_add, op_sub, iNz_b2i, w64_u, w64_i, w8_u, u64_wd, u64_u64, i64_i64, u8_u8, op_rem5, ph_E11_conv_Conv]
    rw [q_conv hf ht hM, nB_u]
  refine (treeF_call (r := [b2i (decide (4 ≤ clsF (fN f) (nB a b)))]) ?_ rfl).trans ?_
  · simp only [l_an, l_ca, l_na, l_mc, l_mn, getI_0, getI_s, oB_eq, oW_eq, ev_bin, ev_conv, ev_ite, ev_lit, ev_var_u, ev_var_i, ev_var_8, ev_var_b, ev_var_t, ev_not, ev_and, ev_beq, ev_max, ev_min, op_eql, op_neq, op_lss, op_leq, op_gtr, op_geq, op_add, op_sub, iNz_b2i, w64_u, w64_i, w8_u, u64_wd, u64_u64, i64_i64, u8_u8, oR_pr, ph_E11_class_NaN]; rw [q_nan, nB_u]
  rw [treeF_ite]
  simp only [l_an, l_ca, l_na, l_mc, l_mn, getI_0, getI_s, oR_pr, ev_var_b, iNz_b2i, decide_eq_true_iff]
  by_cases nn : 4 ≤ clsF (fN f) (nB a b)
  · rw [if_pos nn]
    refine (treeF_call (r := [b2i true]) ?_ rfl).trans ?_
    · simp only [l_an, l_ca, l_na, l_mc, l_mn, getI_0, getI_s, oB_eq, oW_eq, ev_bin, ev_conv, ev_ite, ev_lit, ev_var_u, ev_var_i, ev_var_8, ev_var_b, ev_var_t, ev_not, ev_and, ev_beq, ev_max, ev_min, op_eql, op_neq, op_lss, op_leq, op_gtr, op_geq, op_add, op_sub, iNz_b2i, w64_u, w64_i, w8_u, u64_wd, u64_u64, i64_i64, u8_u8, ph_E11_class_NaN]; rw [q_nan, nB_small hlt, decide_eq_true (hnn.2 nn)]
    rw [treeF_ite]
    simp only [l_an, l_ca, l_na, l_mc, l_mn, getI_0, getI_s, oB_eq, oW_eq, ev_bin, ev_conv, ev_ite, ev_lit, ev_var_u, ev_var_i, ev_var_8, ev_var_b, ev_var_t, ev_not, ev_and, ev_beq, ev_max, ev_min, op_eql, op_neq, op_lss, op_leq, op_gtr, op_geq, op_add, op_sub, iNz_b2i, w64_u, w64_i, w8_u, u64_wd, u64_u64, i64_i64, u8_u8, ↓reduceIte]
    refine (treeF_call (r := [b2i false]) ?_ rfl).trans ?_
    · simp only [l_an, l_ca, l_na, l_mc, l_mn, getI_0, getI_s, oB_eq, oW_eq, ev_bin, ev_conv, ev_ite, ev_lit, ev_var_u, ev_var_i, ev_var_8, ev_var_b, ev_var_t, ev_not, ev_and, ev_beq, ev_max, ev_min, op_eql, op_neq, op_lss, op_leq, op_gtr, op_geq, op_add, op_sub, iNz_b2i, w64_u, w64_i, w8_u, u64_wd, u64_u64, i64_i64, u8_u8, ph_E11_conv_Fits]
      rw [q_fits, nB_u, fits_nan nn]
    rw [treeF_ite]
    simp only [l_an, l_ca, l_na, l_mc, l_mn, getI_0, getI_s, oB_eq, oW_eq, ev_bin, ev_conv, ev_ite, ev_lit, ev_var_u, ev_var_i, ev_var_8, ev_var_b, ev_var_t, ev_not, ev_and, ev_beq, ev_max, ev_min, op_eql, op_neq, op_lss, op_leq, op_gtr, op_geq, op_add, op_sub, iNz_b2i, w64_u, w64_i, w8_u, u64_wd, u64_u64, i64_i64, u8_u8, Bool.not_false, ↓reduceIte]
    rw [treeF_leaf rfl]; rfl
  rw [if_neg nn]
  have hfit := fits_num hf ht nn ((u8 m).toNat % 5) (iNz u)
  have hbk := convR_back hf ht ((u8 m).toNat % 5) (iNz u) ((u8 m2).toNat % 5) (iNz u2) nn
  have hfs := convR_flags hf (fN t) ((u8 m).toNat % 5) (iNz u) nn
  have hwd := convR_wider ht (f := fN f) (m := (u8 m).toNat % 5) (a := iNz u) (b := nB a b)
  generalize convR (fN f) (fN t) ((u8 m).toNat % 5) (iNz u) (nB a b) = p at *
  rw [treeF_ite]
  simp only [l_an, l_ca, l_na, l_mc, l_mn, getI_0, getI_s, oB_eq, oW_eq, ev_bin, ev_conv, ev_ite, ev_lit, ev_var_u, ev_var_i, ev_var_8, ev_var_b, ev_var_t, ev_not, ev_and, ev_beq, ev_max, ev_min, op_eql, op_neq, op_lss, op_leq, op_gtr, op_geq, op_add, op_sub, iNz_b2i, w64_u, w64_i, w8_u, u64_wd, u64_u64, i64_i64, u8_u8, decide_eq_true_iff]
  by_cases hw : fN f ≤ fN t
  · rw [if_pos (show u8 t ≥ u8 f by unfold fN at hw; omega)]
    have hz := hwd hw nn
    have hbk := hbk hz
    rw [decide_eq_true hz] at hfit
    rw [treeF_ite]
    simp only [l_an, l_ca, l_na, l_mc, l_mn, getI_0, getI_s, oB_eq, oW_eq, ev_bin, ev_conv, ev_ite, ev_lit, ev_var_u, ev_var_i, ev_var_8, ev_var_b, ev_var_t, ev_not, ev_and, ev_beq, ev_max, ev_min, op_eql, op_neq, op_lss, op_leq, op_gtr, op_geq, op_add, op_sub, iNz_b2i, w64_u, w64_i, w8_u, u64_wd, u64_u64, i64_i64, u8_u8, hz, show u8 ((0 : Nat) : Int) = 0 by decide, bne_self_eq_false, Bool.false_eq_true, ↓reduceIte]
    refine (treeF_call (r := [b2i true]) ?_ rfl).trans ?_
    · simp only [l_an, l_ca, l_na, l_mc, l_mn, getI_0, getI_s, oB_eq, oW_eq, ev_bin, ev_conv, ev_ite, ev_lit, ev_var_u, ev_var_i, ev_var_8, ev_var_b, ev_var_t, ev_not, ev_and, ev_beq, ev_max, ev_min, op_eql, op_neq, op_lss, op_leq, op_gtr, op_geq, op_add, op_sub, iNz_b2i, w64_u, w64_i, w8_u, u64_wd, u64_u64, i64_i64, u8_u8, ph_E11_conv_Fits]
      rw [q_fits, nB_u, hfit]
    rw [treeF_ite]
    simp only [l_an, l_ca, l_na, l_mc, l_mn, getI_0, getI_s, oB_eq, oW_eq, ev_bin, ev_conv, ev_ite, ev_lit, ev_var_u, ev_var_i, ev_var_8, ev_var_b, ev_var_t, ev_not, ev_and, ev_beq, ev_max, ev_min, op_eql, op_neq, op_lss, op_leq, op_gtr, op_geq, op_add, op_sub, iNz_b2i, w64_u, w64_i, w8_u, u64_wd, u64_u64, i64_i64, u8_u8, Bool.not_true, Bool.false_eq_true, ↓reduceIte]
    refine (treeF_call (r := [b2i true]) ?_ rfl).trans ?_
    · simp only [l_an, l_ca, l_na, l_mc, l_mn, getI_0, getI_s, oB_eq, oW_eq, ev_bin, ev_conv, ev_ite, ev_lit, ev_var_u, ev_var_i, ev_var_8, ev_var_b, ev_var_t, ev_not, ev_and, ev_beq, ev_max, ev_min, op_eql, op_neq, op_lss, op_leq, op_gtr, op_geq, op_add, op_sub, iNz_b2i, w64_u, w64_i, w8_u, u64_wd, u64_u64, i64_i64, u8_u8, ph_E11_conv_Fits]
      rw [q_fits, nB_u, hfit]
    rw [treeF_ite]
    simp only [l_an, l_ca, l_na, l_mc, l_mn, getI_0, getI_s, oB_eq, oW_eq, ev_bin, ev_conv, ev_ite, ev_lit, ev_var_u, ev_var_i, ev_var_8, ev_var_b, ev_var_t, ev_not, ev_and, ev_beq, ev_max, ev_min, op_eql, op_neq, op_lss, op_leq, op_gtr, op_geq, op_add, op_sub, iNz_b2i, w64_u, w64_i, w8_u, u64_wd, u64_u64, i64_i64, u8_u8, ↓reduceIte]
    refine (treeF_call (r := oR (nB a b % 2 ^ FP.fW (fN f), 0)) ?_ rfl).trans ?_
    · simp only [l_an, l_ca, l_na, l_mc, l_mn, getI_0, getI_s, oB_eq, oW_eq, ev_bin, ev_conv, ev_ite, ev_lit, ev_var_u, ev_var_i, ev_var_8, ev_var_b, ev_var_t, ev_not, ev_and, ev_beq, ev_max, ev_min, op_eql, op_neq, op_lss, op_leq, op_gtr, op_geq, op_add, op_sub, iNz_b2i, w64_u, w64_i, w8_u, u64_wd, u64_u64, i64_i64, u8_u8, op_rem5, ph_E11_conv_Conv]
      rw [q_conv ht hf hM2, nB_small hlt, hbk]
    refine (treeF_call (r := oB (nB a b % 2 ^ FP.fW (fN f))) ?_ rfl).trans ?_
    · simp only [l_an, l_ca, l_na, l_mc, l_mn, getI_0, getI_s, oB_eq, oW_eq, ev_bin, ev_conv, ev_ite, ev_lit, ev_var_u, ev_var_i, ev_var_8, ev_var_b, ev_var_t, ev_not, ev_and, ev_beq, ev_max, ev_min, op_eql, op_neq, op_lss, op_leq, op_gtr, op_geq, op_add, op_sub, iNz_b2i, w64_u, w64_i, w8_u, u64_wd, u64_u64, i64_i64, u8_u8, oR_pr, ph_E11_format_Cut]
      rw [s_format_Cut, fN_u, nB_u, oB_eq]
    rw [treeF_ite]
    simp only [l_an, l_ca, l_na, l_mc, l_mn, getI_0, getI_s, oB_eq, oW_eq, ev_bin, ev_conv, ev_ite, ev_lit, ev_var_u, ev_var_i, ev_var_8, ev_var_b, ev_var_t, ev_not, ev_and, ev_beq, ev_max, ev_min, op_eql, op_neq, op_lss, op_leq, op_gtr, op_geq, op_add, op_sub, iNz_b2i, w64_u, w64_i, w8_u, u64_wd, u64_u64, i64_i64, u8_u8, oR_pr, show u8 ((0 : Nat) : Int) = 0 by decide, beq_self_eq_true, Bool.and_true, iNz1, ↓reduceIte]
    rw [treeF_leaf rfl]; rfl
  · rw [if_neg (show ¬ u8 t ≥ u8 f by unfold fN at hw; omega)]
    refine (treeF_call (r := [b2i (decide (p.2 = 0))]) ?_ rfl).trans ?_
    · simp only [l_an, l_ca, l_na, l_mc, l_mn, getI_0, getI_s, oB_eq, oW_eq, ev_bin, ev_conv, ev_ite, ev_lit, ev_var_u, ev_var_i, ev_var_8, ev_var_b, ev_var_t, ev_not, ev_and, ev_beq, ev_max, ev_min, op_eql, op_neq, op_lss, op_leq, op_gtr, op_geq, op_add, op_sub, iNz_b2i, w64_u, w64_i, w8_u, u64_wd, u64_u64, i64_i64, u8_u8, ph_E11_conv_Fits]
      rw [q_fits, nB_u, hfit]
    rw [treeF_ite]
    simp only [l_an, l_ca, l_na, l_mc, l_mn, getI_0, getI_s, oB_eq, oW_eq, ev_bin, ev_conv, ev_ite, ev_lit, ev_var_u, ev_var_i, ev_var_8, ev_var_b, ev_var_t, ev_not, ev_and, ev_beq, ev_max, ev_min, op_eql, op_neq, op_lss, op_leq, op_gtr, op_geq, op_add, op_sub, iNz_b2i, w64_u, w64_i, w8_u, u64_wd, u64_u64, i64_i64, u8_u8, decide_eq_true_iff]
    by_cases hz : p.2 = 0
    · have hbk := hbk hz
      rw [if_pos hz, treeF_ite]
      simp only [l_an, l_ca, l_na, l_mc, l_mn, getI_0, getI_s, oB_eq, oW_eq, ev_bin, ev_conv, ev_ite, ev_lit, ev_var_u, ev_var_i, ev_var_8, ev_var_b, ev_var_t, ev_not, ev_and, ev_beq, ev_max, ev_min, op_eql, op_neq, op_lss, op_leq, op_gtr, op_geq, op_add, op_sub, iNz_b2i, w64_u, w64_i, w8_u, u64_wd, u64_u64, i64_i64, u8_u8, hz, show u8 ((0 : Nat) : Int) = 0 by decide, beq_self_eq_true, ↓reduceIte]
      refine (treeF_call (r := oR (nB a b % 2 ^ FP.fW (fN f), 0)) ?_ rfl).trans ?_
      · simp only [l_an, l_ca, l_na, l_mc, l_mn, getI_0, getI_s, oB_eq, oW_eq, ev_bin, ev_conv, ev_ite, ev_lit, ev_var_u, ev_var_i, ev_var_8, ev_var_b, ev_var_t, ev_not, ev_and, ev_beq, ev_max, ev_min, op_eql, op_neq, op_lss, op_leq, op_gtr, op_geq, op_add, op_sub, iNz_b2i, w64_u, w64_i, w8_u, u64_wd, u64_u64, i64_i64, u8_u8, op_rem5, ph_E11_conv_Conv]
        rw [q_conv ht hf hM2, nB_small hlt, hbk]
      refine (treeF_call (r := oB (nB a b % 2 ^ FP.fW (fN f))) ?_ rfl).trans ?_
      · simp only [l_an, l_ca, l_na, l_mc, l_mn, getI_0, getI_s, oB_eq, oW_eq, ev_bin, ev_conv, ev_ite, ev_lit, ev_var_u, ev_var_i, ev_var_8, ev_var_b, ev_var_t, ev_not, ev_and, ev_beq, ev_max, ev_min, op_eql, op_neq, op_lss, op_leq, op_gtr, op_geq, op_add, op_sub, iNz_b2i, w64_u, w64_i, w8_u, u64_wd, u64_u64, i64_i64, u8_u8, oR_pr, ph_E11_format_Cut]
        rw [s_format_Cut, fN_u, nB_u, oB_eq]
      rw [treeF_ite]
      simp only [l_an, l_ca, l_na, l_mc, l_mn, getI_0, getI_s, oB_eq, oW_eq, ev_bin, ev_conv, ev_ite, ev_lit, ev_var_u, ev_var_i, ev_var_8, ev_var_b, ev_var_t, ev_not, ev_and, ev_beq, ev_max, ev_min, op_eql, op_neq, op_lss, op_leq, op_gtr, op_geq, op_add, op_sub, iNz_b2i, w64_u, w64_i, w8_u, u64_wd, u64_u64, i64_i64, u8_u8, oR_pr, show u8 ((0 : Nat) : Int) = 0 by decide, beq_self_eq_true, Bool.and_true, iNz1, ↓reduceIte]
      rw [treeF_leaf rfl]; rfl
    · have h16 : (iOp .and .u8 (p.2 : Int) 16 != 0) = true := by
        rcases hfs with e | e | e | e
        · exact absurd e hz
        · rw [e]; decide
        · rw [e]; decide
        · rw [e]; decide
      rw [if_neg hz, treeF_ite]
      simp only [l_an, l_ca, l_na, l_mc, l_mn, getI_0, getI_s, oB_eq, oW_eq, ev_bin, ev_conv, ev_ite, ev_lit, ev_var_u, ev_var_i, ev_var_8, ev_var_b, ev_var_t, ev_not, ev_and, ev_beq, ev_max, ev_min, op_eql, op_neq, op_lss, op_leq, op_gtr, op_geq, op_add, op_sub, iNz_b2i, w64_u, w64_i, w8_u, u64_wd, u64_u64, i64_i64, u8_u8, h8, h16, ↓reduceIte]
      rw [treeF_ite]
      simp only [l_an, l_ca, l_na, l_mc, l_mn, getI_0, getI_s, oB_eq, oW_eq, ev_bin, ev_conv, ev_ite, ev_lit, ev_var_u, ev_var_i, ev_var_8, ev_var_b, ev_var_t, ev_not, ev_and, ev_beq, ev_max, ev_min, op_eql, op_neq, op_lss, op_leq, op_gtr, op_geq, op_add, op_sub, iNz_b2i, w64_u, w64_i, w8_u, u64_wd, u64_u64, i64_i64, u8_u8, decide_eq_true_iff]
      rw [if_pos (show u8 t < u8 f by unfold fN at hw; omega), treeF_leaf rfl]; rfl
theorem true_ConvOn (l : List Int) (h : l.length = 9) : F_law25_ConvOn l = [1] := by
  match l, h with
  | [f, t, y, m, u, m2, u2, a, b], _ =>
  rw [F_law25_ConvOn, t_law25_ConvOn, treeF_ite]
  simp only [l_an, l_ca, l_na, l_mc, l_mn, getI_0, getI_s, ev_bin, ev_not, op_lss, ev_var_8, ev_lit, iNz_b2i, Bool.not_eq_true', decide_eq_false_iff_not, u8_lt4]
  by_cases hf : ¬ fN f < 4
  · rw [if_pos hf, treeF_leaf rfl]; rfl
  rw [if_neg hf, treeF_ite]
  have hf := Classical.not_not.1 hf
  simp only [l_an, l_ca, l_na, l_mc, l_mn, getI_0, getI_s, ev_bin, ev_not, op_lss, ev_var_8, ev_lit, iNz_b2i, Bool.not_eq_true', decide_eq_false_iff_not, u8_lt4]
  by_cases ht : ¬ fN t < 4
  · rw [if_pos ht, treeF_leaf rfl]; rfl
  rw [if_neg ht, treeF_ite]
  have ht := Classical.not_not.1 ht
  simp only [l_an, l_ca, l_na, l_mc, l_mn, getI_0, getI_s, ev_bin, ev_not, op_lss, ev_var_8, ev_lit, iNz_b2i, Bool.not_eq_true', decide_eq_false_iff_not, u8_lt4]
  by_cases hy : ¬ fN y < 4
  · rw [if_pos hy, treeF_leaf rfl]; rfl
  rw [if_neg hy]
  have hy := Classical.not_not.1 hy
  have hM := mod5_le m
  have hM2 := mod5_le m2
  have r1 := u8_rng f
  have r2 := u8_rng t
  have r3 := u8_rng y
  refine (treeF_call (r := [b2i (decide (4 ≤ clsF (fN f) (nB a b)))]) ?_ rfl).trans ?_
  · simp only [l_an, l_ca, l_na, l_mc, l_mn, getI_0, getI_s, oB_eq, oW_eq, ev_bin, ev_conv, ev_ite, ev_lit, ev_var_u, ev_var_i, ev_var_8, ev_var_b, ev_var_t, ev_not, ev_and, ev_beq, ev_max, ev_min, op_eql, op_neq, op_lss, op_leq, op_gtr, op_geq, op_add, op_sub, iNz_b2i, w64_u, w64_i, w8_u, u64_wd, u64_u64, i64_i64, u8_u8, ph_E11_class_NaN]; rw [q_nan, nB_u]
  rw [treeF_ite]
  simp only [l_an, l_ca, l_na, l_mc, l_mn, getI_0, getI_s, ev_var_b, iNz_b2i, decide_eq_true_iff]
  by_cases nn : 4 ≤ clsF (fN f) (nB a b)
  · rw [if_pos nn, treeF_leaf rfl]; rfl
  rw [if_neg nn]
  have hlt := convR_lt hf ht ((u8 m).toNat % 5) (iNz u) (nB a b)
  have hfl := convR_flag hf (fN t) ((u8 m).toNat % 5) (iNz u) (nB a b)
  have hnn : ¬ 4 ≤ clsF (fN t) (convR (fN f) (fN t) ((u8 m).toNat % 5) (iNz u) (nB a b)).1 := fun h => nn ((convR_nan hf ht _ _ _).1 h)
  have hcut := convR_cut hf ht ((u8 m).toNat % 5) (iNz u) (nB a b)
  have hby := fun (hw : fN f ≤ fN y) => convR_by hw hy ht ((u8 m).toNat % 5) (iNz u) ((u8 m2).toNat % 5) (iNz u2) nn
  have hlx := convR_lt hf hy ((u8 m2).toNat % 5) (iNz u2) (nB a b)
  have h8 := u8_fl (k := (convR (fN f) (fN t) ((u8 m).toNat % 5) (iNz u) (nB a b)).2) (by omega)
  refine (treeF_call (r := oR (convR (fN f) (fN t) ((u8 m).toNat % 5) (iNz u) (nB a b))) ?_ rfl).trans ?_
  · simp only [l_an, l_ca, l_na, l_mc, l_mn, getI_0, getI_s, oB_eq, oW_eq, ev_bin, ev_conv, ev_ite, ev_lit, ev_var_u, ev_var_i, ev_var_8, ev_var_b, ev_var_t, ev_not, ev_and, ev_beq, ev_max, ev_min, op_eql, op_neq, op_lss, op_leq, op_gtr, op_geq, op_add, op_sub, iNz_b2i, w64_u, w64_i, w8_u, u64_wd, u64_u64, i64_i64, u8_u8, op_rem5, ph_E11_conv_Conv]
    rw [q_conv hf ht hM, nB_u]
  generalize convR (fN f) (fN t) ((u8 m).toNat % 5) (iNz u) (nB a b) = p at *
  rw [treeF_ite]
  simp only [l_an, l_ca, l_na, l_mc, l_mn, getI_0, getI_s, oB_eq, oW_eq, ev_bin, ev_conv, ev_ite, ev_lit, ev_var_u, ev_var_i, ev_var_8, ev_var_b, ev_var_t, ev_not, ev_and, ev_beq, ev_max, ev_min, op_eql, op_neq, op_lss, op_leq, op_gtr, op_geq, op_add, op_sub, iNz_b2i, w64_u, w64_i, w8_u, u64_wd, u64_u64, i64_i64, u8_u8, oR_pr, decide_eq_true_iff]
  by_cases hw : fN t ≤ fN y
  · rw [if_pos (show u8 y ≥ u8 t by unfold fN at hw; omega)]
    have z0 := convR_wider hy hw ((u8 m2).toNat % 5) (iNz u2) hnn
    have bk := convR_back ht hy ((u8 m2).toNat % 5) (iNz u2) ((u8 m2).toNat % 5) (iNz u2) hnn z0
    rw [hcut] at bk
    have hl2 := convR_lt ht hy ((u8 m2).toNat % 5) (iNz u2) p.1
    refine (treeF_call (r := oR (convR (fN t) (fN y) ((u8 m2).toNat % 5) (iNz u2) p.1)) ?_ rfl).trans ?_
    · simp only [l_an, l_ca, l_na, l_mc, l_mn, getI_0, getI_s, oB_eq, oW_eq, ev_bin, ev_conv, ev_ite, ev_lit, ev_var_u, ev_var_i, ev_var_8, ev_var_b, ev_var_t, ev_not, ev_and, ev_beq, ev_max, ev_min, op_eql, op_neq, op_lss, op_leq, op_gtr, op_geq, op_add, op_sub, iNz_b2i, w64_u, w64_i, w8_u, u64_wd, u64_u64, i64_i64, u8_u8, op_rem5, ph_E11_conv_Conv]
      rw [q_conv ht hy hM2, nB_small hlt]
    generalize convR (fN t) (fN y) ((u8 m2).toNat % 5) (iNz u2) p.1 = q at *
    rw [treeF_ite]
    simp only [l_an, l_ca, l_na, l_mc, l_mn, getI_0, getI_s, oB_eq, oW_eq, ev_bin, ev_conv, ev_ite, ev_lit, ev_var_u, ev_var_i, ev_var_8, ev_var_b, ev_var_t, ev_not, ev_and, ev_beq, ev_max, ev_min, op_eql, op_neq, op_lss, op_leq, op_gtr, op_geq, op_add, op_sub, iNz_b2i, w64_u, w64_i, w8_u, u64_wd, u64_u64, i64_i64, u8_u8, oR_pr, z0, show u8 ((0 : Nat) : Int) = 0 by decide, bne_self_eq_false, Bool.false_eq_true, ↓reduceIte]
    refine (treeF_call (r := oR (p.1, 0)) ?_ rfl).trans ?_
    · simp only [l_an, l_ca, l_na, l_mc, l_mn, getI_0, getI_s, oB_eq, oW_eq, ev_bin, ev_conv, ev_ite, ev_lit, ev_var_u, ev_var_i, ev_var_8, ev_var_b, ev_var_t, ev_not, ev_and, ev_beq, ev_max, ev_min, op_eql, op_neq, op_lss, op_leq, op_gtr, op_geq, op_add, op_sub, iNz_b2i, w64_u, w64_i, w8_u, u64_wd, u64_u64, i64_i64, u8_u8, op_rem5, ph_E11_conv_Conv]
      rw [q_conv hy ht hM2, nB_small hl2, bk]
    rw [treeF_ite]
    simp only [l_an, l_ca, l_na, l_mc, l_mn, getI_0, getI_s, oB_eq, oW_eq, ev_bin, ev_conv, ev_ite, ev_lit, ev_var_u, ev_var_i, ev_var_8, ev_var_b, ev_var_t, ev_not, ev_and, ev_beq, ev_max, ev_min, op_eql, op_neq, op_lss, op_leq, op_gtr, op_geq, op_add, op_sub, iNz_b2i, w64_u, w64_i, w8_u, u64_wd, u64_u64, i64_i64, u8_u8, oR_pr, show u8 ((0 : Nat) : Int) = 0 by decide, beq_self_eq_true, Bool.and_true, iNz1, Bool.not_true, Bool.false_eq_true, ↓reduceIte]
    rw [treeF_ite]
    simp only [l_an, l_ca, l_na, l_mc, l_mn, getI_0, getI_s, oB_eq, oW_eq, ev_bin, ev_conv, ev_ite, ev_lit, ev_var_u, ev_var_i, ev_var_8, ev_var_b, ev_var_t, ev_not, ev_and, ev_beq, ev_max, ev_min, op_eql, op_neq, op_lss, op_leq, op_gtr, op_geq, op_add, op_sub, iNz_b2i, w64_u, w64_i, w8_u, u64_wd, u64_u64, i64_i64, u8_u8, decide_eq_true_iff]
    by_cases hv : fN f ≤ fN y
    · rw [if_pos (show u8 y ≥ u8 f by unfold fN at hv; omega)]
      have hby := hby hv
      refine (treeF_call (r := oR (convR (fN f) (fN y) ((u8 m2).toNat % 5) (iNz u2) (nB a b))) ?_ rfl).trans ?_
      · simp only [l_an, l_ca, l_na, l_mc, l_mn, getI_0, getI_s, oB_eq, oW_eq, ev_bin, ev_conv, ev_ite, ev_lit, ev_var_u, ev_var_i, ev_var_8, ev_var_b, ev_var_t, ev_not, ev_and, ev_beq, ev_max, ev_min, op_eql, op_neq, op_lss, op_leq, op_gtr, op_geq, op_add, op_sub, iNz_b2i, w64_u, w64_i, w8_u, u64_wd, u64_u64, i64_i64, u8_u8, op_rem5, ph_E11_conv_Conv]
        rw [q_conv hf hy hM2, nB_u]
      refine (treeF_call (r := oR p) ?_ rfl).trans ?_
      · simp only [l_an, l_ca, l_na, l_mc, l_mn, getI_0, getI_s, oB_eq, oW_eq, ev_bin, ev_conv, ev_ite, ev_lit, ev_var_u, ev_var_i, ev_var_8, ev_var_b, ev_var_t, ev_not, ev_and, ev_beq, ev_max, ev_min, op_eql, op_neq, op_lss, op_leq, op_gtr, op_geq, op_add, op_sub, iNz_b2i, w64_u, w64_i, w8_u, u64_wd, u64_u64, i64_i64, u8_u8, oR_pr, op_rem5, ph_E11_conv_Conv]
        rw [q_conv hy ht hM, nB_small hlx, hby, oR_pr]
      rw [treeF_ite]
      simp only [l_an, l_ca, l_na, l_mc, l_mn, getI_0, getI_s, oB_eq, oW_eq, ev_bin, ev_conv, ev_ite, ev_lit, ev_var_u, ev_var_i, ev_var_8, ev_var_b, ev_var_t, ev_not, ev_and, ev_beq, ev_max, ev_min, op_eql, op_neq, op_lss, op_leq, op_gtr, op_geq, op_add, op_sub, iNz_b2i, w64_u, w64_i, w8_u, u64_wd, u64_u64, i64_i64, u8_u8, oR_pr, h8, beq_self_eq_true, Bool.and_true, iNz1, Bool.not_true, Bool.false_eq_true, ↓reduceIte]
      rw [treeF_leaf rfl]; rfl
    · rw [if_neg (show ¬ u8 y ≥ u8 f by unfold fN at hv; omega), treeF_leaf rfl]; rfl
  · rw [if_neg (show ¬ u8 y ≥ u8 t by unfold fN at hw; omega), treeF_ite]
    simp only [l_an, l_ca, l_na, l_mc, l_mn, getI_0, getI_s, oB_eq, oW_eq, ev_bin, ev_conv, ev_ite, ev_lit, ev_var_u, ev_var_i, ev_var_8, ev_var_b, ev_var_t, ev_not, ev_and, ev_beq, ev_max, ev_min, op_eql, op_neq, op_lss, op_leq, op_gtr, op_geq, op_add, op_sub, iNz_b2i, w64_u, w64_i, w8_u, u64_wd, u64_u64, i64_i64, u8_u8, decide_eq_true_iff]
    by_cases hv : fN f ≤ fN y
    · rw [if_pos (show u8 y ≥ u8 f by unfold fN at hv; omega)]
      have hby := hby hv
      refine (treeF_call (r := oR (convR (fN f) (fN y) ((u8 m2).toNat % 5) (iNz u2) (nB a b))) ?_ rfl).trans ?_
      · simp only [l_an, l_ca, l_na, l_mc, l_mn, getI_0, getI_s, oB_eq, oW_eq, ev_bin, ev_conv, ev_ite, ev_lit, ev_var_u, ev_var_i, ev_var_8, ev_var_b, ev_var_t, ev_not, ev_and, ev_beq, ev_max, ev_min, op_eql, op_neq, op_lss, op_leq, op_gtr, op_geq, op_add, op_sub, iNz_b2i, w64_u, w64_i, w8_u, u64_wd, u64_u64, i64_i64, u8_u8, op_rem5, ph_E11_conv_Conv]
        rw [q_conv hf hy hM2, nB_u]
      refine (treeF_call (r := oR p) ?_ rfl).trans ?_
      · simp only [l_an, l_ca, l_na, l_mc, l_mn, getI_0, getI_s, oB_eq, oW_eq, ev_bin, ev_conv, ev_ite, ev_lit, ev_var_u, ev_var_i, ev_var_8, ev_var_b, ev_var_t, ev_not, ev_and, ev_beq, ev_max, ev_min, op_eql, op_neq, op_lss, op_leq, op_gtr, op_geq, op_add, op_sub, iNz_b2i, w64_u, w64_i, w8_u, u64_wd, u64_u64, i64_i64, u8_u8, oR_pr, op_rem5, ph_E11_conv_Conv]
        rw [q_conv hy ht hM, nB_small hlx, hby, oR_pr]
      rw [treeF_ite]
      simp only [l_an, l_ca, l_na, l_mc, l_mn, getI_0, getI_s, oB_eq, oW_eq, ev_bin, ev_conv, ev_ite, ev_lit, ev_var_u, ev_var_i, ev_var_8, ev_var_b, ev_var_t, ev_not, ev_and, ev_beq, ev_max, ev_min, op_eql, op_neq, op_lss, op_leq, op_gtr, op_geq, op_add, op_sub, iNz_b2i, w64_u, w64_i, w8_u, u64_wd, u64_u64, i64_i64, u8_u8, oR_pr, h8, beq_self_eq_true, Bool.and_true, iNz1, Bool.not_true, Bool.false_eq_true, ↓reduceIte]
      rw [treeF_leaf rfl]; rfl
    · rw [if_neg (show ¬ u8 y ≥ u8 f by unfold fN at hv; omega), treeF_leaf rfl]; rfl
end Go.Proofs.YtikjbocagnolmaaDoor
