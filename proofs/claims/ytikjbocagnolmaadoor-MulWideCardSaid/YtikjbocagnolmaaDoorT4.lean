import Derived.Test.YtikjbocagnolmaaDoorP14
/- The law on products in the next wider format. -/
namespace Go.Proofs.YtikjbocagnolmaaDoor
set_option linter.unusedVariables false
set_option linter.unusedSimpArgs false
set_option maxRecDepth 100000
open Go.RowKit
theorem s_pack_zero (f n c e h l : Int) (hf : fN f < 4) (hc : u8 c = 0) : F_fields_Pack [f, n, c, e, h, l] = oB (FP.mk (fN f) (iNz n) 0) ++ [1] := by
  rw [F_fields_Pack, t_fields_Pack]
  refine (treeF_call (by simp only [l_an, l_ca, l_na, l_mc, l_mn, getI_0, getI_s, oB_eq, oW_eq, ev_bin, ev_conv, ev_ite, ev_lit, ev_var_u, ev_var_i, ev_var_8, ev_var_b, ev_var_t, ev_not, ev_and, ev_beq, ev_max, ev_min, op_eql, op_neq, op_lss, op_leq, op_gtr, op_geq, op_add, op_sub, iNz_b2i, w64_u, w64_i, w8_u, u64_wd, u64_u64, i64_i64, u8_u8, ph_E4_format_Prec]; exact s_format_Prec _) (by rfl)).trans ?_
  refine (treeF_call (by simp only [l_an, l_ca, l_na, l_mc, l_mn, getI_0, getI_s, oB_eq, oW_eq, ev_bin, ev_conv, ev_ite, ev_lit, ev_var_u, ev_var_i, ev_var_8, ev_var_b, ev_var_t, ev_not, ev_and, ev_beq, ev_max, ev_min, op_eql, op_neq, op_lss, op_leq, op_gtr, op_geq, op_add, op_sub, iNz_b2i, w64_u, w64_i, w8_u, u64_wd, u64_u64, i64_i64, u8_u8, ph_E4_format_Emax]; exact s_format_Emax _) (by rfl)).trans ?_
  rw [treeF_ite]
  simp only [l_an, l_ca, l_na, l_mc, l_mn, getI_0, getI_s, ev_bin, ev_not, op_lss, ev_var_8, ev_lit, iNz_b2i, Bool.not_eq_true', decide_eq_false_iff_not, u8_lt4]
  rw [if_neg (show ¬ ¬ fN f < 4 from fun h => h hf), treeF_ite]
  simp only [l_an, l_ca, l_na, l_mc, l_mn, getI_0, getI_s, ev_bin, op_gtr, ev_var_8, ev_lit, iNz_b2i, decide_eq_true_iff]
  rw [if_neg (show ¬ u8 c > 3 by omega), treeF_ite]
  simp only [l_an, l_ca, l_na, l_mc, l_mn, getI_0, getI_s, ev_bin, op_eql, ev_var_8, ev_lit, iNz_b2i, beq_iff_eq]
  rw [if_pos hc]
  refine (treeF_call (r := oB (FP.mk (fN f) (iNz n) 0)) ?_ rfl).trans ?_
  · simp only [l_an, l_ca, l_na, l_mc, l_mn, getI_0, getI_s, oB_eq, oW_eq, ev_bin, ev_conv, ev_ite, ev_lit, ev_var_u, ev_var_i, ev_var_8, ev_var_b, ev_var_t, ev_not, ev_and, ev_beq, ev_max, ev_min, op_eql, op_neq, op_lss, op_leq, op_gtr, op_geq, op_add, op_sub, iNz_b2i, w64_u, w64_i, w8_u, u64_wd, u64_u64, i64_i64, u8_u8, ph_E4_format_Nought]; rw [s_format_Nought, fN_u, if_pos hf, iNz_b2i, oB_eq]
  rw [treeF_leaf rfl]
  simp only [l_an, l_ca, l_na, l_mc, l_mn, getI_0, getI_s, oB_eq, oW_eq, ev_bin, ev_conv, ev_ite, ev_lit, ev_var_u, ev_var_i, ev_var_8, ev_var_b, ev_var_t, ev_not, ev_and, ev_beq, ev_max, ev_min, op_eql, op_neq, op_lss, op_leq, op_gtr, op_geq, op_add, op_sub, iNz_b2i, w64_u, w64_i, w8_u, u64_wd, u64_u64, i64_i64, u8_u8]
theorem mul_wd128 (n : Nat) : wd (n * W128) 0 = 0 ∧ wd (n * W128) 1 = 0 ∧ wd (n * W128) 2 = wd n 0 ∧ wd (n * W128) 3 = wd n 1 := by
  have e : W128 = W64 ^ 2 := by rw [W128_val, W64_val]
  rw [e, wd_mulW, wd_mulW, wd_mulW, wd_mulW]
  exact ⟨rfl, rfl, rfl, rfl⟩
theorem op_add8 (a b : Int) : iOp .add .u8 a b = u8 (a + b) := w8_u _
theorem fN_succ {f : Int} (h : fN f ≤ 2) : fN (u8 (u8 f + 1)) = fN f + 1 := by
  have := u8_rng f
  unfold fN at *
  rw [u8_u8, u8_id (by omega) (by omega)]; omega
theorem s_widened (f a b : Int) (hf : fN f ≤ 2) (hc : clsF (fN f) (nB a b) < 3) :
    ∃ d, d < FP.inf (fN f + 1) ∧ FP.val (fN f) (FP.cod (fN f) (nB a b)) * 2 ^ FP.fU (fN f + 1) = FP.val (fN f + 1) d * 2 ^ FP.fU (fN f) ∧ F_law19_widened [f, a, b] = oB (FP.mk (fN f + 1) (FP.sgn (fN f) (nB a b)) d) := by
  have hf4 : fN f < 4 := by omega
  obtain ⟨hi, hz, hnz⟩ := cls_fin hf4 hc
  obtain ⟨d, hd, hv⟩ := FP.fits_wider (f := fN f) (t := fN f + 1) (by omega) (by omega) hi
  refine ⟨d, hd, hv, ?_⟩
  have hs := fN_succ hf
  have ru := unE_rng (f := fN f) (b := nB a b)
  have eu : i64 (unE (fN f) (nB a b)) = unE (fN f) (nB a b) := i64_small' ru.1 ru.2
  have c8 := clsF_u8 (fN f) (nB a b)
  have hl := un_lt (fN f) (nB a b)
  have key : F_fields_Pack [u8 (u8 f + 1), b2i (sgnF (fN f) (nB a b)), ((clsF (fN f) (nB a b) : Nat) : Int), unE (fN f) (nB a b), wd (unS (fN f) (nB a b)) 1, wd (unS (fN f) (nB a b)) 0] = oB (FP.mk (fN f + 1) (FP.sgn (fN f) (nB a b)) d) ++ [1] := by
    by_cases h0 : clsF (fN f) (nB a b) = 0
    · have hc0 := hz.1 h0
      have d0 : d = 0 := by
        apply Classical.byContradiction; intro hn
        have hp := FP.cval_pos (FP.fP_ge (show fN f + 1 < 4 by omega)) (show 0 < d by omega)
        rw [hc0] at hv
        unfold FP.val at hv
        rw [FP.cval_zero, Nat.zero_mul] at hv
        have := Nat.mul_pos hp (FP.two_pow_pos (FP.fU (fN f)))
        omega
      rw [s_pack_zero _ _ _ _ _ _ (by rw [hs]; omega) (by rw [c8, h0]; rfl), hs, iNz_b2i, sgnF_id hf4, d0]
    · have h12 : clsF (fN f) (nB a b) = 1 ∨ clsF (fN f) (nB a b) = 2 := by omega
      have hc0 := hnz.1 h12
      have d0 : 0 < d := by
        apply Classical.byContradiction; intro hn
        have hp := FP.cval_pos (FP.fP_ge hf4) (show 0 < FP.cod (fN f) (nB a b) by omega)
        rw [show d = 0 by omega] at hv
        unfold FP.val at hv
        rw [FP.cval_zero, Nat.zero_mul] at hv
        have := Nat.mul_pos hp (FP.two_pow_pos (FP.fU (fN f + 1)))
        omega
      obtain ⟨ue, us⟩ := FP.un_conv hf4 (show fN f + 1 < 4 by omega) (by omega) hi d0 hd hv
      have hE : unE (fN f) (nB a b) = FP.unExp (fN f + 1) d := by unfold unE; rw [if_pos h12, ue]
      have hS : unS (fN f) (nB a b) = FP.unSig (fN f + 1) d := by unfold unS; rw [if_pos h12, us]
      rw [s_pack_un (d := d) _ _ _ _ _ _ (by rw [hs]; omega) (by rw [c8]; omega) d0 (by rw [hs]; exact hd) (by rw [hs, eu, hE]) (by rw [hs, nB_small hl, hS]), hs, iNz_b2i, sgnF_id hf4]
  refine Eq.trans ?_ (rB_eq _)
  rw [F_law19_widened, t_law19_widened]
  refine (treeF_call (by simp only [l_an, l_ca, l_na, l_mc, l_mn, getI_0, getI_s, oB_eq, oW_eq, ev_bin, ev_conv, ev_ite, ev_lit, ev_var_u, ev_var_i, ev_var_8, ev_var_b, ev_var_t, ev_not, ev_and, ev_beq, ev_max, ev_min, op_eql, op_neq, op_lss, op_leq, op_gtr, op_geq, op_add, op_sub, iNz_b2i, w64_u, w64_i, w8_u, u64_wd, u64_u64, i64_i64, u8_u8, ph_E10_fields_Unpack]; exact s_fields_Unpack _ _ _) (by rfl)).trans ?_
  rw [fN_u, nB_u]
  refine (treeF_call (r := oB (FP.mk (fN f + 1) (FP.sgn (fN f) (nB a b)) d) ++ [1]) ?_ rfl).trans ?_
  · simp only [l_an, l_ca, l_na, l_mc, l_mn, getI_0, getI_s, oB_eq, oW_eq, ev_bin, ev_conv, ev_ite, ev_lit, ev_var_u, ev_var_i, ev_var_8, ev_var_b, ev_var_t, ev_not, ev_and, ev_beq, ev_max, ev_min, op_eql, op_neq, op_lss, op_leq, op_gtr, op_geq, op_add, op_sub, iNz_b2i, w64_u, w64_i, w8_u, u64_wd, u64_u64, i64_i64, u8_u8, ph_E10_fields_Pack, op_add8, eu, c8]
    rw [key, oB_eq]; rfl
  rw [treeF_leaf rfl]
  simp only [l_an, l_ca, l_na, l_mc, l_mn, getI_0, getI_s, oB_eq, oW_eq, ev_bin, ev_conv, ev_ite, ev_lit, ev_var_u, ev_var_i, ev_var_8, ev_var_b, ev_var_t, ev_not, ev_and, ev_beq, ev_max, ev_min, op_eql, op_neq, op_lss, op_leq, op_gtr, op_geq, op_add, op_sub, iNz_b2i, w64_u, w64_i, w8_u, u64_wd, u64_u64, i64_i64, u8_u8]
  rfl
theorem true_MulWide (l : List Int) (h : l.length = 7) : F_law19_MulWide l = [1] := by
  match l, h with
  | [f, m, t, a1, a0, b1, b0], _ =>
  rw [F_law19_MulWide, t_law19_MulWide, treeF_ite]
  simp only [l_an, l_ca, l_na, l_mc, l_mn, getI_0, getI_s, ev_bin, op_gtr, ev_var_8, ev_lit, iNz_b2i, decide_eq_true_iff]
  have r1 := u8_rng f
  by_cases hf : u8 f > 2
  · rw [if_pos hf, treeF_leaf rfl]; rfl
  rw [if_neg hf]
  have hf2 : fN f ≤ 2 := by unfold fN; omega
  have hf4 : fN f < 4 := by omega
  have hM := mod5_le m
  have hs := fN_succ hf2
  have hff : fN (u8 f) ≤ 2 := by rw [fN_u]; exact hf2
  refine (treeF_call (r := [b2i (decide (clsF (fN f) (nB a1 a0) < 3))]) ?_ rfl).trans ?_
  · simp only [l_an, l_ca, l_na, l_mc, l_mn, getI_0, getI_s, oB_eq, oW_eq, ev_bin, ev_conv, ev_ite, ev_lit, ev_var_u, ev_var_i, ev_var_8, ev_var_b, ev_var_t, ev_not, ev_and, ev_beq, ev_max, ev_min, op_eql, op_neq, op_lss, op_leq, op_gtr, op_geq, op_add, op_sub, iNz_b2i, w64_u, w64_i, w8_u, u64_wd, u64_u64, i64_i64, u8_u8, ph_E11_class_Finite]; rw [s_class_Finite, fN_u, nB_u, decide_eq_true hf4, Bool.true_and]
  rw [treeF_ite]
  simp only [l_an, l_ca, l_na, l_mc, l_mn, getI_0, getI_s, ev_not, ev_var_b, iNz_b2i, Bool.not_eq_true', decide_eq_false_iff_not]
  by_cases na : ¬ clsF (fN f) (nB a1 a0) < 3
  · rw [if_pos na, treeF_leaf rfl]; rfl
  rw [if_neg na]
  refine (treeF_call (r := [b2i (decide (clsF (fN f) (nB b1 b0) < 3))]) ?_ rfl).trans ?_
  · simp only [l_an, l_ca, l_na, l_mc, l_mn, getI_0, getI_s, oB_eq, oW_eq, ev_bin, ev_conv, ev_ite, ev_lit, ev_var_u, ev_var_i, ev_var_8, ev_var_b, ev_var_t, ev_not, ev_and, ev_beq, ev_max, ev_min, op_eql, op_neq, op_lss, op_leq, op_gtr, op_geq, op_add, op_sub, iNz_b2i, w64_u, w64_i, w8_u, u64_wd, u64_u64, i64_i64, u8_u8, ph_E11_class_Finite]; rw [s_class_Finite, fN_u, nB_u, decide_eq_true hf4, Bool.true_and]
  rw [treeF_ite]
  simp only [l_an, l_ca, l_na, l_mc, l_mn, getI_0, getI_s, ev_not, ev_var_b, iNz_b2i, Bool.not_eq_true', decide_eq_false_iff_not]
  by_cases nb : ¬ clsF (fN f) (nB b1 b0) < 3
  · rw [if_pos nb, treeF_leaf rfl]; rfl
  rw [if_neg nb]
  have na := Classical.not_not.1 na
  have nb := Classical.not_not.1 nb
  obtain ⟨hia, hza, hnza⟩ := cls_fin hf4 na
  obtain ⟨hib, hzb, hnzb⟩ := cls_fin hf4 nb
  obtain ⟨x, hx, vx, qx⟩ := s_widened (u8 f) (u64 a1) (u64 a0) hff (by rw [fN_u, nB_u]; exact na)
  obtain ⟨y, hy, vy, qy⟩ := s_widened (u8 f) (u64 b1) (u64 b0) hff (by rw [fN_u, nB_u]; exact nb)
  rw [fN_u] at hx hy
  rw [fN_u, nB_u] at vx qx vy qy
  obtain ⟨z, hz, ez, cz⟩ := FP.mulC_wider (m := (u8 m).toNat % 5) (a := iNz t) (n := FP.sgn (fN f) (nB a1 a0) != FP.sgn (fN f) (nB b1 b0)) (show fN f < 3 by omega) hia hib vx vy
  have h14 : fN f + 1 < 4 := by omega
  have wW := inf_W h14
  have lx : x < 2 ^ (FP.fW (fN f + 1) - 1) := Nat.lt_trans hx wW
  have ly : y < 2 ^ (FP.fW (fN f + 1) - 1) := Nat.lt_trans hy wW
  have lz : z < 2 ^ (FP.fW (fN f + 1) - 1) := Nat.lt_trans hz wW
  have cx := FP.clsC_fin.2 hx
  have cy := FP.clsC_fin.2 hy
  have czz := FP.clsC_fin.2 hz
  have nobad : ∀ i j, i < 3 → j < 3 → ¬ badC i j = true := fun i j hi hj => by
    unfold badC; rw [decide_eq_false (show ¬ i = 3 by omega), decide_eq_false (show ¬ j = 3 by omega)]; simp
  have mw : mulR (fN f + 1) ((u8 m).toNat % 5) (iNz t) (FP.mk (fN f + 1) (FP.sgn (fN f) (nB a1 a0)) x) (FP.mk (fN f + 1) (FP.sgn (fN f) (nB b1 b0)) y) = (FP.mk (fN f + 1) (FP.sgn (fN f) (nB a1 a0) != FP.sgn (fN f) (nB b1 b0)) z, 0) := by
    rw [mulR_S h14 _ _ (by rw [clsF_mk h14 _ lx]; omega) (by rw [clsF_mk h14 _ ly]; omega), clsF_mk h14 _ lx, clsF_mk h14 _ ly, if_neg (nobad _ _ cx cy), FP.sgn_mk _ lx, FP.sgn_mk _ ly, FP.cod_mk _ lx, FP.cod_mk _ ly]
    unfold mulS
    rw [if_neg (by omega), ez]
  have mf : mulR (fN f) ((u8 m).toNat % 5) (iNz t) (nB a1 a0) (nB b1 b0) = (FP.mk (fN f) (FP.sgn (fN f) (nB a1 a0) != FP.sgn (fN f) (nB b1 b0)) (FP.mulC (fN f) ((u8 m).toNat % 5) (iNz t) (FP.sgn (fN f) (nB a1 a0) != FP.sgn (fN f) (nB b1 b0)) (FP.cod (fN f) (nB a1 a0)) (FP.cod (fN f) (nB b1 b0))).1, (FP.mulC (fN f) ((u8 m).toNat % 5) (iNz t) (FP.sgn (fN f) (nB a1 a0) != FP.sgn (fN f) (nB b1 b0)) (FP.cod (fN f) (nB a1 a0)) (FP.cod (fN f) (nB b1 b0))).2) := by
    rw [mulR_S hf4 _ _ (by omega) (by omega), if_neg (nobad _ _ na nb)]
    unfold mulS
    rw [← clsF_cod hf4, ← clsF_cod hf4, if_neg (by omega)]
  have fl := FP.roundC_flag_set (FP.fP (fN f)) (FP.fE (fN f)) ((u8 m).toNat % 5) (iNz t) (FP.sgn (fN f) (nB a1 a0) != FP.sgn (fN f) (nB b1 b0)) (FP.val (fN f) (FP.cod (fN f) (nB a1 a0)) * FP.val (fN f) (FP.cod (fN f) (nB b1 b0))) (2 ^ FP.fU (fN f))
  have h8 : u8 ((FP.mulC (fN f) ((u8 m).toNat % 5) (iNz t) (FP.sgn (fN f) (nB a1 a0) != FP.sgn (fN f) (nB b1 b0)) (FP.cod (fN f) (nB a1 a0)) (FP.cod (fN f) (nB b1 b0))).2 : Int) = ((FP.mulC (fN f) ((u8 m).toNat % 5) (iNz t) (FP.sgn (fN f) (nB a1 a0) != FP.sgn (fN f) (nB b1 b0)) (FP.cod (fN f) (nB a1 a0)) (FP.cod (fN f) (nB b1 b0))).2 : Int) := by
    unfold FP.mulC; exact u8_fl (by omega)
  have cr := cz ((u8 m).toNat % 5) (iNz t) (FP.sgn (fN f) (nB a1 a0) != FP.sgn (fN f) (nB b1 b0))
  generalize hsn : (FP.sgn (fN f) (nB a1 a0) != FP.sgn (fN f) (nB b1 b0)) = sn at *
  have wx := mk_W h14 (FP.sgn (fN f) (nB a1 a0)) lx
  have wy := mk_W h14 (FP.sgn (fN f) (nB b1 b0)) ly
  have wz := mk_W h14 sn lz
  have clz : clsF (fN f + 1) (FP.mk (fN f + 1) sn z) < 3 := by rw [clsF_mk h14 _ lz]; exact czz
  have cf := conv_fin (f := fN f + 1) (t := fN f) (m := (u8 m).toNat % 5) (b := FP.mk (fN f + 1) sn z) (after := iNz t) (neg := sn) h14 hf4 clz
  rw [FP.cod_mk _ lz, cr] at cf
  have ru := unE_rng (f := fN f + 1) (b := FP.mk (fN f + 1) sn z)
  have eu : i64 (unE (fN f + 1) (FP.mk (fN f + 1) sn z)) = unE (fN f + 1) (FP.mk (fN f + 1) sn z) := i64_small' ru.1 ru.2
  have hlS := un_lt (fN f + 1) (FP.mk (fN f + 1) sn z)
  have hw := mul_W hlS
  refine (treeF_call (r := oB (FP.mk (fN f + 1) (FP.sgn (fN f) (nB a1 a0)) x)) ?_ rfl).trans ?_
  · simp only [l_an, l_ca, l_na, l_mc, l_mn, getI_0, getI_s, oB_eq, oW_eq, ev_bin, ev_conv, ev_ite, ev_lit, ev_var_u, ev_var_i, ev_var_8, ev_var_b, ev_var_t, ev_not, ev_and, ev_beq, ev_max, ev_min, op_eql, op_neq, op_lss, op_leq, op_gtr, op_geq, op_add, op_sub, iNz_b2i, w64_u, w64_i, w8_u, u64_wd, u64_u64, i64_i64, u8_u8, ph_E11_law19_widened]; rw [qx, oB_eq]
  refine (treeF_call (r := oB (FP.mk (fN f + 1) (FP.sgn (fN f) (nB b1 b0)) y)) ?_ rfl).trans ?_
  · simp only [l_an, l_ca, l_na, l_mc, l_mn, getI_0, getI_s, oB_eq, oW_eq, ev_bin, ev_conv, ev_ite, ev_lit, ev_var_u, ev_var_i, ev_var_8, ev_var_b, ev_var_t, ev_not, ev_and, ev_beq, ev_max, ev_min, op_eql, op_neq, op_lss, op_leq, op_gtr, op_geq, op_add, op_sub, iNz_b2i, w64_u, w64_i, w8_u, u64_wd, u64_u64, i64_i64, u8_u8, ph_E11_law19_widened]; rw [qy, oB_eq]
  refine (treeF_call (r := oR (FP.mk (fN f + 1) sn z, 0)) ?_ rfl).trans ?_
  · simp only [l_an, l_ca, l_na, l_mc, l_mn, getI_0, getI_s, oB_eq, oW_eq, ev_bin, ev_conv, ev_ite, ev_lit, ev_var_u, ev_var_i, ev_var_8, ev_var_b, ev_var_t, ev_not, ev_and, ev_beq, ev_max, ev_min, op_eql, op_neq, op_lss, op_leq, op_gtr, op_geq, op_add, op_sub, iNz_b2i, w64_u, w64_i, w8_u, u64_wd, u64_u64, i64_i64, u8_u8, op_rem5, op_add8, ph_E11_mul_Mul]
    have e : u8 (u8 f + 1) = u8 (u8 (u8 f + 1)) := (u8_u8 _).symm
    rw [e, q_mul (by rw [hs]; exact h14) hM, hs, nB_small wx, nB_small wy, mw]
  rw [treeF_ite]
  simp only [l_an, l_ca, l_na, l_mc, l_mn, getI_0, getI_s, oB_eq, oW_eq, ev_bin, ev_conv, ev_ite, ev_lit, ev_var_u, ev_var_i, ev_var_8, ev_var_b, ev_var_t, ev_not, ev_and, ev_beq, ev_max, ev_min, op_eql, op_neq, op_lss, op_leq, op_gtr, op_geq, op_add, op_sub, iNz_b2i, w64_u, w64_i, w8_u, u64_wd, u64_u64, i64_i64, u8_u8, oR_pr, show u8 ((0 : Nat) : Int) = 0 by decide, bne_self_eq_false, Bool.false_eq_true, ↓reduceIte]
  refine (treeF_call (r := [b2i sn, ((clsF (fN f + 1) (FP.mk (fN f + 1) sn z) : Nat) : Int), unE (fN f + 1) (FP.mk (fN f + 1) sn z)] ++ oB (unS (fN f + 1) (FP.mk (fN f + 1) sn z))) ?_ rfl).trans ?_
  · simp only [l_an, l_ca, l_na, l_mc, l_mn, getI_0, getI_s, oB_eq, oW_eq, ev_bin, ev_conv, ev_ite, ev_lit, ev_var_u, ev_var_i, ev_var_8, ev_var_b, ev_var_t, ev_not, ev_and, ev_beq, ev_max, ev_min, op_eql, op_neq, op_lss, op_leq, op_gtr, op_geq, op_add, op_sub, iNz_b2i, w64_u, w64_i, w8_u, u64_wd, u64_u64, i64_i64, u8_u8, op_add8, ph_E11_fields_Unpack]
    rw [s_fields_Unpack, hs, nB_small wz, sgnF_id h14, FP.sgn_mk _ lz, oB_eq]; rfl
  refine (treeF_call (r := oR (mulR (fN f) ((u8 m).toNat % 5) (iNz t) (nB a1 a0) (nB b1 b0))) ?_ rfl).trans ?_
  · simp only [l_an, l_ca, l_na, l_mc, l_mn, getI_0, getI_s, oB_eq, oW_eq, ev_bin, ev_conv, ev_ite, ev_lit, ev_var_u, ev_var_i, ev_var_8, ev_var_b, ev_var_t, ev_not, ev_and, ev_beq, ev_max, ev_min, op_eql, op_neq, op_lss, op_leq, op_gtr, op_geq, op_add, op_sub, iNz_b2i, w64_u, w64_i, w8_u, u64_wd, u64_u64, i64_i64, u8_u8, op_rem5, ph_E11_mul_Mul]
    rw [q_mul hf4 hM, nB_u, nB_u]
  rw [mf]
  generalize hR : FP.mulC (fN f) ((u8 m).toNat % 5) (iNz t) sn (FP.cod (fN f) (nB a1 a0)) (FP.cod (fN f) (nB b1 b0)) = R at *
  refine (treeF_call (r := oR (FP.mk (fN f) sn R.1, R.2)) ?_ rfl).trans ?_
  · simp only [l_an, l_ca, l_na, l_mc, l_mn, getI_0, getI_s, oB_eq, oW_eq, ev_bin, ev_conv, ev_ite, ev_lit, ev_var_u, ev_var_i, ev_var_8, ev_var_b, ev_var_t, ev_not, ev_and, ev_beq, ev_max, ev_min, op_eql, op_neq, op_lss, op_leq, op_gtr, op_geq, op_add, op_sub, iNz_b2i, w64_u, w64_i, w8_u, u64_wd, u64_u64, i64_i64, u8_u8, oR_pr, op_rem5, eu, ph_E11_pack_Round]
    have e0 : nW 0 0 (wd (unS (fN f + 1) (FP.mk (fN f + 1) sn z)) 0) (wd (unS (fN f + 1) (FP.mk (fN f + 1) sn z)) 1) = unS (fN f + 1) (FP.mk (fN f + 1) sn z) * W128 := by
      have w := nW_small hw
      have := mul_wd128 (unS (fN f + 1) (FP.mk (fN f + 1) sn z))
      rw [this.1, this.2.1, this.2.2.1, this.2.2.2] at w; exact w
    rw [s_pack_Round _ _ _ _ _ _ _ _ _ (by rw [fN_u]; exact hf4) (by rw [u8_fl (by omega)]; omega), fN_u, u8_fl (show (u8 m).toNat % 5 ≤ 255 by omega), iNz_b2i, iNz_b2i, Int.toNat_natCast, e0, eu, cf, oB_eq]; rfl
  rw [treeF_ite]
  simp only [l_an, l_ca, l_na, l_mc, l_mn, getI_0, getI_s, oB_eq, oW_eq, ev_bin, ev_conv, ev_ite, ev_lit, ev_var_u, ev_var_i, ev_var_8, ev_var_b, ev_var_t, ev_not, ev_and, ev_beq, ev_max, ev_min, op_eql, op_neq, op_lss, op_leq, op_gtr, op_geq, op_add, op_sub, iNz_b2i, w64_u, w64_i, w8_u, u64_wd, u64_u64, i64_i64, u8_u8, oR_pr, h8, beq_self_eq_true, Bool.and_true, iNz1, ↓reduceIte]
  rw [treeF_leaf rfl]; rfl
end Go.Proofs.YtikjbocagnolmaaDoor
