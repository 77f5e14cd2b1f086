import Derived.Test.YtikjbocagnolmaaDoorT2
/- The law on the order of products. -/
namespace Go.Proofs.YtikjbocagnolmaaDoor
set_option linter.unusedVariables false
set_option linter.unusedSimpArgs false
set_option maxRecDepth 100000
open Go.RowKit
theorem wd_cmp {x y : Nat} (hx : x < W128) (hy : y < W128) : (wd x 1 < wd y 1 ∨ (wd x 1 = wd y 1 ∧ wd x 0 < wd y 0)) ↔ x < y := by
  simp only [wd_cast, Nat.pow_one, Nat.pow_zero, Nat.div_one]
  rw [W64_val]; rw [W128_val] at hx hy
  omega
theorem wd_cmp_le {x y : Nat} (hx : x < W128) (hy : y < W128) : (wd x 1 < wd y 1 ∨ (wd x 1 = wd y 1 ∧ wd x 0 ≤ wd y 0)) ↔ x ≤ y := by
  simp only [wd_cast, Nat.pow_one, Nat.pow_zero, Nat.div_one]
  rw [W64_val]; rw [W128_val] at hx hy
  omega
theorem ite_same {α : Type} {p q : Prop} [Decidable p] [Decidable q] {x y : α} (h : ¬ (p ∧ q)) : (if p then (if q then x else y) else y) = y := by
  by_cases hp : p
  · rw [if_pos hp, if_neg (fun hq => h ⟨hp, hq⟩)]
  · rw [if_neg hp]
theorem ite_ord {α : Type} {p q r : Prop} [Decidable p] [Decidable q] [Decidable r] {x y : α} {s : Prop} [Decidable s] (h : (p ∨ (q ∧ r)) ↔ s) : (if p then x else if q then (if r then x else y) else y) = if s then x else y := by
  by_cases hs : s
  · rw [if_pos hs]
    rcases h.2 hs with hp | ⟨hq, hr⟩
    · rw [if_pos hp]
    · by_cases hp : p
      · rw [if_pos hp]
      · rw [if_neg hp, if_pos hq, if_pos hr]
  · have h' : ¬ (p ∨ (q ∧ r)) := fun e => hs (h.1 e)
    rw [if_neg hs, if_neg (fun e => h' (.inl e))]
    by_cases hq : q
    · rw [if_pos hq, if_neg (fun e => h' (.inr ⟨hq, e⟩))]
    · rw [if_neg hq]
theorem s_law19_size (f a b : Int) (hf : fN f < 4) : F_law19_size [f, a, b] = oB (sizeN (fN f) (nB a b)) := by
  refine Eq.trans ?_ (rB_eq _)
  rw [F_law19_size, t_law19_size]
  refine (treeF_call (by simp only [l_an, l_ca, l_na, l_mc, l_mn, getI_0, getI_s, oB_eq, oW_eq, ev_bin, ev_conv, ev_ite, ev_lit, ev_var_u, ev_var_i, ev_var_8, ev_var_b, ev_var_t, ev_not, ev_and, ev_beq, ev_max, ev_min, op_eql, op_neq, op_lss, op_leq, op_gtr, op_geq, op_add, op_sub, iNz_b2i, w64_u, w64_i, w8_u, u64_wd, u64_u64, i64_i64, u8_u8, ph_E10_format_Split]; exact s_Split' _ _ _) (by rfl)).trans ?_
  rw [fN_u, nB_u, sgnF_id hf, codF_id hf]
  unfold sizeN
  obtain ⟨n1, n2, n3, n4, n5, n6, n7, n8, n9⟩ := FP.fmtN hf
  have hcl := FP.cod_lt (fN f) (nB a b)
  generalize FP.sgn (fN f) (nB a b) = s
  generalize FP.cod (fN f) (nB a b) = c at *
  have hfr : c % 2 ^ (FP.fP (fN f) - 1) < W128 := mod_lt128 _ (by omega)
  have hq2 := (cod_field hf hcl).2
  refine (treeF_call (r := oB (FP.mk (fN f) false c)) ?_ rfl).trans ?_
  · simp only [l_an, l_ca, l_na, l_mc, l_mn, getI_0, getI_s, oB_eq, oW_eq, ev_bin, ev_conv, ev_ite, ev_lit, ev_var_u, ev_var_i, ev_var_8, ev_var_b, ev_var_t, ev_not, ev_and, ev_beq, ev_max, ev_min, op_eql, op_neq, op_lss, op_leq, op_gtr, op_geq, op_add, op_sub, iNz_b2i, w64_u, w64_i, w8_u, u64_wd, u64_u64, i64_i64, u8_u8, ph_E10_format_Make]
    rw [s_format_Make, fN_u, if_pos hf, nB_small hfr, i64_i64, i64_nat (by omega), show iNz 0 = false by decide, make_code hf hcl, oB_eq]
  rw [treeF_leaf rfl]
  simp only [l_an, l_ca, l_na, l_mc, l_mn, getI_0, getI_s, oB_eq, oW_eq, ev_bin, ev_conv, ev_ite, ev_lit, ev_var_u, ev_var_i, ev_var_8, ev_var_b, ev_var_t, ev_not, ev_and, ev_beq, ev_max, ev_min, op_eql, op_neq, op_lss, op_leq, op_gtr, op_geq, op_add, op_sub, iNz_b2i, w64_u, w64_i, w8_u, u64_wd, u64_u64, i64_i64, u8_u8]
  rfl
theorem sizeN_lt {f : Nat} (hf : f < 4) (b : Nat) : sizeN f b < W128 := mk_W hf _ (FP.cod_lt f b)
theorem sizeN_cls {f : Nat} (hf : f < 4) (b : Nat) : clsF f (sizeN f b) = clsF f b := by
  unfold sizeN; rw [clsF_mk hf _ (FP.cod_lt f b), clsF_cod hf]
theorem q_mul {f : Int} {M : Nat} {t : Bool} {a1 a0 b1 b0 : Int} (hf : fN f < 4) (hM : M ≤ 4) : F_mul_Mul [u8 f, (M : Int), b2i t, a1, a0, b1, b0] = oR (mulR (fN f) M t (nB a1 a0) (nB b1 b0)) := by
  rw [s_mul_Mul _ _ _ _ _ _ _ (by rw [fN_u]; exact hf) (by rw [u8_fl (by omega)]; omega), fN_u, u8_fl (show M ≤ 255 by omega), iNz_b2i, Int.toNat_natCast]
theorem true_MulOrder (l : List Int) (h : l.length = 9) : F_law19_MulOrder l = [1] := by
  match l, h with
  | [f, m, t, a1, a0, b1, b0, c1, c0], _ =>
  rw [F_law19_MulOrder, t_law19_MulOrder]
  have hM := mod5_le m
  have c8 := clsF_u8 (fN f) (nB c1 c0)
  refine (treeF_call (r := [((clsF (fN f) (nB c1 c0) : Nat) : Int), b2i (sgnF (fN f) (nB c1 c0))]) ?_ rfl).trans ?_
  · simp only [l_an, l_ca, l_na, l_mc, l_mn, getI_0, getI_s, oB_eq, oW_eq, ev_bin, ev_conv, ev_ite, ev_lit, ev_var_u, ev_var_i, ev_var_8, ev_var_b, ev_var_t, ev_not, ev_and, ev_beq, ev_max, ev_min, op_eql, op_neq, op_lss, op_leq, op_gtr, op_geq, op_add, op_sub, iNz_b2i, w64_u, w64_i, w8_u, u64_wd, u64_u64, i64_i64, u8_u8, ph_E11_class_Of]; rw [s_Of', fN_u, nB_u]
  rw [treeF_ite]
  simp only [l_an, l_ca, l_na, l_mc, l_mn, getI_0, getI_s, ev_bin, ev_not, op_lss, ev_var_8, ev_lit, iNz_b2i, Bool.not_eq_true', decide_eq_false_iff_not, u8_lt4]
  by_cases hf : ¬ fN f < 4
  · rw [if_pos hf, treeF_leaf rfl]; rfl
  rw [if_neg hf]
  have hf := Classical.not_not.1 hf
  refine (treeF_call (r := [b2i (decide (4 ≤ clsF (fN f) (nB a1 a0)))]) ?_ rfl).trans ?_
  · simp only [l_an, l_ca, l_na, l_mc, l_mn, getI_0, getI_s, oB_eq, oW_eq, ev_bin, ev_conv, ev_ite, ev_lit, ev_var_u, ev_var_i, ev_var_8, ev_var_b, ev_var_t, ev_not, ev_and, ev_beq, ev_max, ev_min, op_eql, op_neq, op_lss, op_leq, op_gtr, op_geq, op_add, op_sub, iNz_b2i, w64_u, w64_i, w8_u, u64_wd, u64_u64, i64_i64, u8_u8, ph_E11_class_NaN]; rw [q_nan, nB_u]
  rw [treeF_ite]
  simp only [l_an, l_ca, l_na, l_mc, l_mn, getI_0, getI_s, ev_var_b, iNz_b2i, decide_eq_true_iff]
  by_cases na : 4 ≤ clsF (fN f) (nB a1 a0)
  · rw [if_pos na, treeF_leaf rfl]; rfl
  rw [if_neg na]
  refine (treeF_call (r := [b2i (decide (4 ≤ clsF (fN f) (nB b1 b0)))]) ?_ rfl).trans ?_
  · simp only [l_an, l_ca, l_na, l_mc, l_mn, getI_0, getI_s, oB_eq, oW_eq, ev_bin, ev_conv, ev_ite, ev_lit, ev_var_u, ev_var_i, ev_var_8, ev_var_b, ev_var_t, ev_not, ev_and, ev_beq, ev_max, ev_min, op_eql, op_neq, op_lss, op_leq, op_gtr, op_geq, op_add, op_sub, iNz_b2i, w64_u, w64_i, w8_u, u64_wd, u64_u64, i64_i64, u8_u8, ph_E11_class_NaN]; rw [q_nan, nB_u]
  rw [treeF_ite]
  simp only [l_an, l_ca, l_na, l_mc, l_mn, getI_0, getI_s, ev_var_b, iNz_b2i, decide_eq_true_iff]
  by_cases nb : 4 ≤ clsF (fN f) (nB b1 b0)
  · rw [if_pos nb, treeF_leaf rfl]; rfl
  rw [if_neg nb, treeF_ite, treeF_ite]
  simp only [l_an, l_ca, l_na, l_mc, l_mn, getI_0, getI_s, ev_bin, op_neq, ev_lit, ev_var_8, c8, iNz_b2i, bne_iff_ne]
  by_cases hc : clsF (fN f) (nB c1 c0) ≠ 1 ∧ clsF (fN f) (nB c1 c0) ≠ 2
  · rw [if_pos (show ((clsF (fN f) (nB c1 c0) : Nat) : Int) ≠ 1 by omega), if_pos (show ((clsF (fN f) (nB c1 c0) : Nat) : Int) ≠ 2 by omega), treeF_leaf rfl]; rfl
  rw [ite_same (by omega)]
  have hc' : clsF (fN f) (nB c1 c0) = 1 ∨ clsF (fN f) (nB c1 c0) = 2 := by omega
  have mo := fun {x y : Nat} (hx : ¬ 4 ≤ clsF (fN f) x) (hy : ¬ 4 ≤ clsF (fN f) y) => mulR_size hf ((u8 m).toNat % 5) (iNz t) hx hy hc'
  have mab := mo na nb
  have mba := mo nb na
  have la := mulR_lt hf ((u8 m).toNat % 5) (iNz t) (a := sizeN (fN f) (nB a1 a0)) (b := sizeN (fN f) (nB c1 c0)) (by rw [sizeN_cls hf]; exact na) (by rw [sizeN_cls hf]; omega)
  have lb := mulR_lt hf ((u8 m).toNat % 5) (iNz t) (a := sizeN (fN f) (nB b1 b0)) (b := sizeN (fN f) (nB c1 c0)) (by rw [sizeN_cls hf]; exact nb) (by rw [sizeN_cls hf]; omega)
  have xl := sizeN_lt hf (nB a1 a0)
  have yl := sizeN_lt hf (nB b1 b0)
  have zl := sizeN_lt hf (nB c1 c0)
  have hff : fN (u8 f) < 4 := by rw [fN_u]; exact hf
  refine (treeF_call (r := oB (sizeN (fN f) (nB a1 a0))) ?_ rfl).trans ?_
  · simp only [l_an, l_ca, l_na, l_mc, l_mn, getI_0, getI_s, oB_eq, oW_eq, ev_bin, ev_conv, ev_ite, ev_lit, ev_var_u, ev_var_i, ev_var_8, ev_var_b, ev_var_t, ev_not, ev_and, ev_beq, ev_max, ev_min, op_eql, op_neq, op_lss, op_leq, op_gtr, op_geq, op_add, op_sub, iNz_b2i, w64_u, w64_i, w8_u, u64_wd, u64_u64, i64_i64, u8_u8, ph_E11_law19_size]; rw [s_law19_size _ _ _ hff, fN_u, nB_u, oB_eq]
  refine (treeF_call (r := oB (sizeN (fN f) (nB b1 b0))) ?_ rfl).trans ?_
  · simp only [l_an, l_ca, l_na, l_mc, l_mn, getI_0, getI_s, oB_eq, oW_eq, ev_bin, ev_conv, ev_ite, ev_lit, ev_var_u, ev_var_i, ev_var_8, ev_var_b, ev_var_t, ev_not, ev_and, ev_beq, ev_max, ev_min, op_eql, op_neq, op_lss, op_leq, op_gtr, op_geq, op_add, op_sub, iNz_b2i, w64_u, w64_i, w8_u, u64_wd, u64_u64, i64_i64, u8_u8, ph_E11_law19_size]; rw [s_law19_size _ _ _ hff, fN_u, nB_u, oB_eq]
  refine (treeF_call (r := oB (sizeN (fN f) (nB c1 c0))) ?_ rfl).trans ?_
  · simp only [l_an, l_ca, l_na, l_mc, l_mn, getI_0, getI_s, oB_eq, oW_eq, ev_bin, ev_conv, ev_ite, ev_lit, ev_var_u, ev_var_i, ev_var_8, ev_var_b, ev_var_t, ev_not, ev_and, ev_beq, ev_max, ev_min, op_eql, op_neq, op_lss, op_leq, op_gtr, op_geq, op_add, op_sub, iNz_b2i, w64_u, w64_i, w8_u, u64_wd, u64_u64, i64_i64, u8_u8, ph_E11_law19_size]; rw [s_law19_size _ _ _ hff, fN_u, nB_u, oB_eq]
  have qa : ∀ z1 z0 : Int, F_mul_Mul [u8 f, ((((u8 m).toNat % 5 : Nat)) : Int), b2i (iNz t), wd (sizeN (fN f) (nB a1 a0)) 1, wd (sizeN (fN f) (nB a1 a0)) 0, wd (sizeN (fN f) (nB c1 c0)) 1, wd (sizeN (fN f) (nB c1 c0)) 0] = oR (mulR (fN f) ((u8 m).toNat % 5) (iNz t) (sizeN (fN f) (nB a1 a0)) (sizeN (fN f) (nB c1 c0))) := fun _ _ => by
    rw [q_mul hf hM, nB_small xl, nB_small zl]
  have qb : ∀ z1 z0 : Int, F_mul_Mul [u8 f, ((((u8 m).toNat % 5 : Nat)) : Int), b2i (iNz t), wd (sizeN (fN f) (nB b1 b0)) 1, wd (sizeN (fN f) (nB b1 b0)) 0, wd (sizeN (fN f) (nB c1 c0)) 1, wd (sizeN (fN f) (nB c1 c0)) 0] = oR (mulR (fN f) ((u8 m).toNat % 5) (iNz t) (sizeN (fN f) (nB b1 b0)) (sizeN (fN f) (nB c1 c0))) := fun _ _ => by
    rw [q_mul hf hM, nB_small yl, nB_small zl]
  generalize mulR (fN f) ((u8 m).toNat % 5) (iNz t) (sizeN (fN f) (nB a1 a0)) (sizeN (fN f) (nB c1 c0)) = pa at *
  generalize mulR (fN f) ((u8 m).toNat % 5) (iNz t) (sizeN (fN f) (nB b1 b0)) (sizeN (fN f) (nB c1 c0)) = pb at *
  generalize sizeN (fN f) (nB a1 a0) = x at *
  generalize sizeN (fN f) (nB b1 b0) = y at *
  generalize sizeN (fN f) (nB c1 c0) = z at *
  rw [treeF_ite, treeF_ite, treeF_ite]
  simp only [l_an, l_ca, l_na, l_mc, l_mn, getI_0, getI_s, oB_eq, oW_eq, ev_bin, ev_conv, ev_ite, ev_lit, ev_var_u, ev_var_i, ev_var_8, ev_var_b, ev_var_t, ev_not, ev_and, ev_beq, ev_max, ev_min, op_eql, op_neq, op_lss, op_leq, op_gtr, op_geq, op_add, op_sub, iNz_b2i, w64_u, w64_i, w8_u, u64_wd, u64_u64, i64_i64, u8_u8, decide_eq_true_iff, beq_iff_eq, gt_iff_lt]
  rw [ite_ord (s := y < x) (by rw [← wd_cmp yl xl]; exact or_congr Iff.rfl (and_congr eq_comm Iff.rfl))]
  by_cases hs : y < x
  · rw [if_pos hs]
    have hle := mba (Nat.le_of_lt hs)
    refine (treeF_call (r := oR pb) ?_ rfl).trans ?_
    · simp only [l_an, l_ca, l_na, l_mc, l_mn, getI_0, getI_s, oB_eq, oW_eq, ev_bin, ev_conv, ev_ite, ev_lit, ev_var_u, ev_var_i, ev_var_8, ev_var_b, ev_var_t, ev_not, ev_and, ev_beq, ev_max, ev_min, op_eql, op_neq, op_lss, op_leq, op_gtr, op_geq, op_add, op_sub, iNz_b2i, w64_u, w64_i, w8_u, u64_wd, u64_u64, i64_i64, u8_u8, op_rem5, ph_E11_mul_Mul]; exact qb 0 0
    refine (treeF_call (r := oR pa) ?_ rfl).trans ?_
    · simp only [l_an, l_ca, l_na, l_mc, l_mn, getI_0, getI_s, oB_eq, oW_eq, ev_bin, ev_conv, ev_ite, ev_lit, ev_var_u, ev_var_i, ev_var_8, ev_var_b, ev_var_t, ev_not, ev_and, ev_beq, ev_max, ev_min, op_eql, op_neq, op_lss, op_leq, op_gtr, op_geq, op_add, op_sub, iNz_b2i, w64_u, w64_i, w8_u, u64_wd, u64_u64, i64_i64, u8_u8, oR_pr, op_rem5, ph_E11_mul_Mul]; rw [qa 0 0, oR_pr]
    rw [treeF_ite, treeF_ite, treeF_ite]
    simp only [l_an, l_ca, l_na, l_mc, l_mn, getI_0, getI_s, oB_eq, oW_eq, ev_bin, ev_conv, ev_ite, ev_lit, ev_var_u, ev_var_i, ev_var_8, ev_var_b, ev_var_t, ev_not, ev_and, ev_beq, ev_max, ev_min, op_eql, op_neq, op_lss, op_leq, op_gtr, op_geq, op_add, op_sub, iNz_b2i, w64_u, w64_i, w8_u, u64_wd, u64_u64, i64_i64, u8_u8, oR_pr, decide_eq_true_iff, beq_iff_eq]
    rw [ite_ord (s := pb.1 ≤ pa.1) (wd_cmp_le lb la), if_pos hle, treeF_leaf rfl]; rfl
  · rw [if_neg hs]
    have hle := mab (Nat.le_of_not_lt hs)
    refine (treeF_call (r := oR pa) ?_ rfl).trans ?_
    · simp only [l_an, l_ca, l_na, l_mc, l_mn, getI_0, getI_s, oB_eq, oW_eq, ev_bin, ev_conv, ev_ite, ev_lit, ev_var_u, ev_var_i, ev_var_8, ev_var_b, ev_var_t, ev_not, ev_and, ev_beq, ev_max, ev_min, op_eql, op_neq, op_lss, op_leq, op_gtr, op_geq, op_add, op_sub, iNz_b2i, w64_u, w64_i, w8_u, u64_wd, u64_u64, i64_i64, u8_u8, op_rem5, ph_E11_mul_Mul]; exact qa 0 0
    refine (treeF_call (r := oR pb) ?_ rfl).trans ?_
    · simp only [l_an, l_ca, l_na, l_mc, l_mn, getI_0, getI_s, oB_eq, oW_eq, ev_bin, ev_conv, ev_ite, ev_lit, ev_var_u, ev_var_i, ev_var_8, ev_var_b, ev_var_t, ev_not, ev_and, ev_beq, ev_max, ev_min, op_eql, op_neq, op_lss, op_leq, op_gtr, op_geq, op_add, op_sub, iNz_b2i, w64_u, w64_i, w8_u, u64_wd, u64_u64, i64_i64, u8_u8, oR_pr, op_rem5, ph_E11_mul_Mul]; rw [qb 0 0, oR_pr]
    rw [treeF_ite, treeF_ite, treeF_ite]
    simp only [l_an, l_ca, l_na, l_mc, l_mn, getI_0, getI_s, oB_eq, oW_eq, ev_bin, ev_conv, ev_ite, ev_lit, ev_var_u, ev_var_i, ev_var_8, ev_var_b, ev_var_t, ev_not, ev_and, ev_beq, ev_max, ev_min, op_eql, op_neq, op_lss, op_leq, op_gtr, op_geq, op_add, op_sub, iNz_b2i, w64_u, w64_i, w8_u, u64_wd, u64_u64, i64_i64, u8_u8, oR_pr, decide_eq_true_iff, beq_iff_eq]
    rw [ite_ord (s := pa.1 ≤ pb.1) (wd_cmp_le la lb), if_pos hle, treeF_leaf rfl]; rfl
end Go.Proofs.YtikjbocagnolmaaDoor
