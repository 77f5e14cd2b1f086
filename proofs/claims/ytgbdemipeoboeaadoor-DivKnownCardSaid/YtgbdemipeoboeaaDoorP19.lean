import Derived.Test.YtgbdemipeoboeaaDoorP18
/- Calls by numbers: what is answered, wherever the arguments come from; quotients by 1 and by itself. -/
namespace Go.Proofs.YtgbdemipeoboeaaDoor
set_option linter.unusedVariables false
set_option linter.unusedSimpArgs false
set_option maxRecDepth 100000
open Go.RowKit
theorem bt1 : iNz (b2i true) = true := rfl
theorem bt0 : iNz 1 = true := rfl
theorem nT {c : X} {l : List Int} (h : iNz (c.ev l) = true) : iNz ((X.not c).ev l) = false := by rw [ev_not, iNz_b2i, h]; rfl
theorem nF {c : X} {l : List Int} (h : iNz (c.ev l) = false) : iNz ((X.not c).ev l) = true := by rw [ev_not, iNz_b2i, h]; rfl
theorem u8_0 : u8 0 = 0 := by decide
theorem u64_0 : u64 0 = 0 := by decide
theorem u8_1 : u8 1 = 1 := by decide
theorem u8_2 : u8 2 = 2 := by decide
theorem u8_16 : u8 16 = 16 := by decide
theorem nB_00 : nB 0 0 = 0 := by unfold nB; rw [show u64 0 = 0 from by decide]; rfl
theorem md_u {m : Int} (hm : u8 m ≤ 4) : (u8 (u8 m)).toNat = (u8 m).toNat ∧ u8 (u8 m) ≤ 4 := by rw [u8_u8]; exact ⟨rfl, hm⟩
theorem md_lit (k : Nat) (h : k ≤ 4) : (u8 (k : Int)).toNat = k ∧ u8 (k : Int) ≤ 4 := by rw [u8_id (by omega) (by omega)]; exact ⟨Int.toNat_natCast k, by omega⟩
theorem u8_flag {k : Nat} (h : k ≤ 255) : u8 (k : Int) = (k : Int) := u8_id (by omega) (by omega)
theorem mir_int (m : Int) (hm : u8 m ≤ 4) : (if u8 m = 2 then (3 : Int) else if u8 m = 3 then 2 else u8 m) = ((FP.mir (u8 m).toNat : Nat) : Int) := by
  have := u8_rng m
  unfold FP.mir
  by_cases h2 : u8 m = 2
  · rw [if_pos h2, if_pos (show (u8 m).toNat = 2 by omega)]; rfl
  rw [if_neg h2, if_neg (show ¬ (u8 m).toNat = 2 by omega)]
  by_cases h3 : u8 m = 3
  · rw [if_pos h3, if_pos (show (u8 m).toNat = 3 by omega)]; rfl
  · rw [if_neg h3, if_neg (show ¬ (u8 m).toNat = 3 by omega)]; omega
theorem mir_le {m : Nat} (h : m ≤ 4) : FP.mir m ≤ 4 := by unfold FP.mir; split <;> (try split) <;> omega
theorem md_mir {m : Int} (hm : u8 m ≤ 4) : (u8 (if (u8 m == 2) = true then (3 : Int) else if (u8 m == 3) = true then 2 else u8 m)).toNat = FP.mir (u8 m).toNat ∧ u8 (if (u8 m == 2) = true then (3 : Int) else if (u8 m == 3) = true then 2 else u8 m) ≤ 4 := by
  simp only [beq_iff_eq]
  rw [mir_int m hm]
  have h := mir_le (m := (u8 m).toNat) (by have := u8_rng m; omega)
  exact md_lit _ h
theorem size_lt {f : Nat} (hf : f < 4) (b : Nat) : sizeN f b < W128 := mk_W hf _ (FP.cod_lt _ _)
theorem cut_lt {f : Nat} (hf : f < 4) (b : Nat) : b % 2 ^ FP.fW f < W128 := Nat.lt_of_lt_of_le (Nat.mod_lt _ (FP.two_pow_pos _)) (pow_le128 (FP.fW_le hf))
theorem makeN_one {f : Nat} (hf : f < 4) : makeN f (iNz 0) ((FP.fE f : Nat) : Int) 0 = FP.mk f false (FP.oneC f) := by
  obtain ⟨n1, n2, n3, n4, n5, n6, n7, n8, n9⟩ := FP.fmtN hf
  unfold makeN
  rw [if_neg (by omega), Int.toNat_natCast, Nat.zero_mod, Nat.add_zero, Nat.mod_eq_of_lt (by omega)]; rfl
section
variable {F M T a1 a0 b1 b0 : Int} {φ μ A B : Nat} {τ : Bool}
theorem k_class_NaN (hF : fN F = φ) (hA : nB a1 a0 = A) : F_class_NaN [F, a1, a0] = [b2i (decide (4 ≤ clsF φ A))] := by rw [s_class_NaN, hF, hA]
theorem k_class_Signaling (hF : fN F = φ) (hA : nB a1 a0 = A) : F_class_Signaling [F, a1, a0] = [b2i (decide (clsF φ A = 5))] := by rw [s_class_Signaling, hF, hA]
theorem k_class_Of (hF : fN F = φ) (hφ : φ < 4) (hA : nB a1 a0 = A) : F_class_Of [F, a1, a0] = [((clsF φ A : Nat) : Int), b2i (FP.sgn φ A)] := by
  rw [s_class_Of, hF, hA, if_pos hφ]; unfold clsF; rw [if_pos hφ]
theorem k_addsub_Turn (hF : fN F = φ) (hA : nB a1 a0 = A) : F_addsub_Turn [F, a1, a0] = [wd (turnN φ A) 1, wd (turnN φ A) 0] := by rw [s_Turn', hF, hA, oB_eq]
theorem k_format_Nought (hF : fN F = φ) (hφ : φ < 4) (hT : iNz T = τ) : F_format_Nought [F, T] = [wd (FP.mk φ τ 0) 1, wd (FP.mk φ τ 0) 0] := by rw [s_format_Nought, hF, if_pos hφ, hT, oB_eq]
theorem k_format_Inf (hF : fN F = φ) (hφ : φ < 4) (hT : iNz T = τ) : F_format_Inf [F, T] = [wd (FP.mk φ τ (FP.inf φ)) 1, wd (FP.mk φ τ (FP.inf φ)) 0] := by rw [s_format_Inf, hF, if_pos hφ, hT, oB_eq]
theorem k_format_Cut (hF : fN F = φ) (hA : nB a1 a0 = A) : F_format_Cut [F, a1, a0] = [wd (A % 2 ^ FP.fW φ) 1, wd (A % 2 ^ FP.fW φ) 0] := by rw [s_format_Cut, hF, hA, oB_eq]
theorem k_format_Emax (hF : fN F = φ) : F_format_Emax [F] = [((FP.fE φ : Nat) : Int)] := by rw [s_format_Emax, hF]
theorem k_format_Prec (hF : fN F = φ) : F_format_Prec [F] = [((FP.fP φ : Nat) : Int)] := by rw [s_format_Prec, hF]
theorem k_one (hF : fN F = φ) (hφ : φ < 4) : F_format_Make [F, 0, i64 ((FP.fE φ : Nat) : Int), 0, 0] = [wd (FP.mk φ false (FP.oneC φ)) 1, wd (FP.mk φ false (FP.oneC φ)) 0] := by
  rw [s_format_Make, hF, if_pos hφ, nB_00, i64_i64, i64_fE, oB_eq]
  have : makeN φ (iNz 0) ((FP.fE φ : Nat) : Int) 0 = FP.mk φ false (FP.oneC φ) := makeN_one hφ
  rw [this]
theorem k_div_Div (hF : fN F = φ) (hφ : φ < 4) (hM : (u8 M).toNat = μ) (hM4 : u8 M ≤ 4) (hT : iNz T = τ) (hA : nB a1 a0 = A) (hB : nB b1 b0 = B) : F_div_Div [F, M, T, a1, a0, b1, b0] = [wd (divR φ μ τ A B).1 1, wd (divR φ μ τ A B).1 0, (((divR φ μ τ A B).2 : Nat) : Int)] := by
  rw [s_div_Div _ _ _ _ _ _ _ (by rw [hF]; exact hφ) hM4, hF, hM, hT, hA, hB, oR_eq']
theorem k_law21_plain (hF : fN F = φ) (hA : nB a1 a0 = A) : F_law21_plain [F, a1, a0] = [b2i (decide (clsF φ A = 1 ∨ clsF φ A = 2))] := by
  subst hF; subst hA
  rw [F_law21_plain, t_law21_plain]
  refine (treeF_call (by simp only [l_an, l_ca, l_na, l_mc, l_mn, getI_0, getI_s, oB_eq, oW_eq, ev_bin, ev_conv, ev_ite, ev_lit, ev_var_u, ev_var_i, ev_var_8, ev_var_b, ev_var_t, ev_not, ev_and, ev_beq, ev_max, ev_min, op_eql, op_neq, op_lss, op_leq, op_gtr, op_geq, op_add, op_sub, iNz_b2i, w64_u, w64_i, w8_u, u64_wd, u64_u64, i64_i64, u8_u8, ph_E10_class_Of]; exact s_Of' _ _ _) (by rfl)).trans ?_
  rw [fN_u, nB_u]
  have u8A := clsF_u8 (fN F) (nB a1 a0)
  refine tI (fN F < 4) (by simp only [l_an, l_ca, l_na, l_mc, l_mn, getI_0, getI_s, oB_eq, oW_eq, ev_bin, ev_conv, ev_ite, ev_lit, ev_var_u, ev_var_i, ev_var_8, ev_var_b, ev_var_t, ev_not, ev_and, ev_beq, ev_max, ev_min, op_eql, op_neq, op_lss, op_leq, op_gtr, op_geq, op_add, op_sub, iNz_b2i, w64_u, w64_i, w8_u, u64_wd, u64_u64, i64_i64, u8_u8, ← u8_lt4]) (fun h1 => ?_) (fun h1 => ?_)
  · refine tI (clsF (fN F) (nB a1 a0) = 1) (by simp only [l_an, l_ca, l_na, l_mc, l_mn, getI_0, getI_s, oB_eq, oW_eq, ev_bin, ev_conv, ev_ite, ev_lit, ev_var_u, ev_var_i, ev_var_8, ev_var_b, ev_var_t, ev_not, ev_and, ev_beq, ev_max, ev_min, op_eql, op_neq, op_lss, op_leq, op_gtr, op_geq, op_add, op_sub, iNz_b2i, w64_u, w64_i, w8_u, u64_wd, u64_u64, i64_i64, u8_u8, u8A]; exact beq_nk _ 1) (fun h2 => ?_) (fun h2 => ?_)
    · rw [treeF_leaf rfl, decide_eq_true (.inl h2)]; rfl
    · rw [treeF_leaf rfl]
      simp only [l_an, l_ca, l_na, l_mc, l_mn, getI_0, getI_s, oB_eq, oW_eq, ev_bin, ev_conv, ev_ite, ev_lit, ev_var_u, ev_var_i, ev_var_8, ev_var_b, ev_var_t, ev_not, ev_and, ev_beq, ev_max, ev_min, op_eql, op_neq, op_lss, op_leq, op_gtr, op_geq, op_add, op_sub, iNz_b2i, w64_u, w64_i, w8_u, u64_wd, u64_u64, i64_i64, u8_u8, u8A, h2, false_or]
      rw [show ((clsF (fN F) (nB a1 a0) : Int) == 2) = decide (clsF (fN F) (nB a1 a0) = 2) from beq_nk _ 2]
  · rw [treeF_leaf rfl, decide_eq_false (by unfold clsF; rw [if_neg h1]; omega)]; rfl
end
theorem s_div_Div0 (f m t a1 a0 b1 b0 : Int) (h : ¬ (fN f < 4 ∧ u8 m ≤ 4)) : F_div_Div [f, m, t, a1, a0, b1, b0] = [0, 0, 0] := by
  rw [F_div_Div, t_div_Div]
  refine tI (¬ fN f < 4) (by simp only [l_an, l_ca, l_na, l_mc, l_mn, getI_0, getI_s, oB_eq, oW_eq, ev_bin, ev_conv, ev_ite, ev_lit, ev_var_u, ev_var_i, ev_var_8, ev_var_b, ev_var_t, ev_not, ev_and, ev_beq, ev_max, ev_min, op_eql, op_neq, op_lss, op_leq, op_gtr, op_geq, op_add, op_sub, iNz_b2i, w64_u, w64_i, w8_u, u64_wd, u64_u64, i64_i64, u8_u8, ← u8_lt4]; exact decide_not.symm) (fun h1 => ?_) (fun h1 => ?_)
  · rw [treeF_leaf rfl]; rfl
  refine tT (by simp only [l_an, l_ca, l_na, l_mc, l_mn, getI_0, getI_s, oB_eq, oW_eq, ev_bin, ev_conv, ev_ite, ev_lit, ev_var_u, ev_var_i, ev_var_8, ev_var_b, ev_var_t, ev_not, ev_and, ev_beq, ev_max, ev_min, op_eql, op_neq, op_lss, op_leq, op_gtr, op_geq, op_add, op_sub, iNz_b2i, w64_u, w64_i, w8_u, u64_wd, u64_u64, i64_i64, u8_u8]; rw [decide_eq_false (fun h2 => h ⟨Decidable.not_not.1 h1, h2⟩)]; rfl) ?_
  rw [treeF_leaf rfl]; rfl
/-- by 1 -/
theorem divR_one {f : Nat} (hf : f < 4) (m : Nat) (after : Bool) {a : Nat} (ha : ¬ 4 ≤ clsF f a) : divR f m after a (FP.mk f false (FP.oneC f)) = (a % 2 ^ FP.fW f, 0) := by
  obtain ⟨o1, o2, o3, o4⟩ := one_bits hf
  have hl : ¬ likeC (clsF f a) 2 = true := by
    unfold likeC; simp only [Bool.and_eq_true, Bool.or_eq_true, decide_eq_true_iff]; omega
  rw [divR_S _ _ ha (by rw [o2]; decide), o2, if_neg hl, o3, o4, bne_false', ← FP.mk_cut hf]
  have hc : FP.clsC f (FP.oneC f) = 2 := by rw [← o2, clsF_cod hf, o3]
  have hd : divS f m after (FP.sgn f a) (FP.cod f a) (FP.oneC f) = (FP.cod f a, 0) := by
    have hca := clsF_cod hf a
    rw [hca] at ha
    unfold divS
    rw [hc]
    by_cases h3 : FP.clsC f (FP.cod f a) = 3
    · rw [if_pos h3, FP.clsC_inf.1 h3]
    rw [if_neg h3]
    by_cases h0 : FP.clsC f (FP.cod f a) = 0
    · rw [if_pos (.inr h0), clsC_zero_iff.1 h0]
    rw [if_neg (fun h => h.elim (by decide) h0), if_neg (by decide)]
    exact FP.divC_one hf (FP.clsC_fin.1 (by omega))
  rw [hd]
/-- by itself -/
theorem divR_self {f : Nat} (hf : f < 4) (m : Nat) (after : Bool) {a : Nat} (ha : clsF f a = 1 ∨ clsF f a = 2) : divR f m after a a = (FP.mk f false (FP.oneC f), 0) := by
  have hl : ¬ likeC (clsF f a) (clsF f a) = true := by
    unfold likeC; simp only [Bool.and_eq_true, Bool.or_eq_true, decide_eq_true_iff]; omega
  have hs : (FP.sgn f a != FP.sgn f a) = false := by cases FP.sgn f a <;> rfl
  rw [divR_S _ _ (by omega) (by omega), if_neg hl, hs]
  have hca := clsF_cod hf a
  rw [hca] at ha
  have h0 : 0 < FP.cod f a := Nat.pos_of_ne_zero fun h => by rw [h, clsC_zero] at ha; omega
  have hd : divS f m after false (FP.cod f a) (FP.cod f a) = (FP.oneC f, 0) := by
    unfold divS
    rw [if_neg (by omega), if_neg (by omega), if_neg (by omega)]
    exact FP.divC_self hf h0
  rw [hd]
theorem cls_nought {f : Nat} (hf : f < 4) (s : Bool) : clsF f (FP.mk f s 0) = 0 ∧ FP.cod f (FP.mk f s 0) = 0 ∧ FP.sgn f (FP.mk f s 0) = s := by
  have h := FP.two_pow_pos (FP.fW f - 1)
  exact ⟨by rw [clsF_mk hf _ h, clsC_zero], FP.cod_mk _ h, FP.sgn_mk _ h⟩
theorem cls_inf {f : Nat} (hf : f < 4) (s : Bool) : clsF f (FP.mk f s (FP.inf f)) = 3 ∧ FP.cod f (FP.mk f s (FP.inf f)) = FP.inf f ∧ FP.sgn f (FP.mk f s (FP.inf f)) = s := by
  have h := inf_W hf
  exact ⟨by rw [clsF_mk hf _ h]; exact FP.clsC_inf.2 rfl, FP.cod_mk _ h, FP.sgn_mk _ h⟩
/-- noughts and infinities -/
theorem divR_special {f : Nat} (hf : f < 4) (m : Nat) (after : Bool) {a : Nat} (ha : clsF f a = 1 ∨ clsF f a = 2) (n : Bool) :
    divR f m after a (FP.mk f n 0) = (FP.mk f (n != FP.sgn f a) (FP.inf f), 2) ∧ divR f m after (FP.mk f n 0) a = (FP.mk f (n != FP.sgn f a) 0, 0) ∧
    divR f m after a (FP.mk f n (FP.inf f)) = (FP.mk f (n != FP.sgn f a) 0, 0) ∧ divR f m after (FP.mk f n (FP.inf f)) a = (FP.mk f (n != FP.sgn f a) (FP.inf f), 0) ∧
    divR f m after (FP.mk f n 0) (FP.mk f n 0) = (dfl f, 1) ∧ divR f m after (FP.mk f n (FP.inf f)) (FP.mk f n (FP.inf f)) = (dfl f, 1) ∧
    divR f m after (FP.mk f n (FP.inf f)) (FP.mk f n 0) = (FP.mk f false (FP.inf f), 0) ∧ divR f m after (FP.mk f n 0) (FP.mk f n (FP.inf f)) = (FP.mk f false 0, 0) := by
  obtain ⟨z1, z2, z3⟩ := cls_nought hf n
  obtain ⟨i1, i2, i3⟩ := cls_inf hf n
  have hca := clsF_cod hf a
  have c0 : FP.clsC f 0 = 0 := clsC_zero f
  have ci : FP.clsC f (FP.inf f) = 3 := FP.clsC_inf.2 rfl
  have hsym : (FP.sgn f a != n) = (n != FP.sgn f a) := by cases FP.sgn f a <;> cases n <;> rfl
  have hnn : (n != n) = false := by cases n <;> rfl
  have go : ∀ {x y : Nat}, ¬ 4 ≤ clsF f x → ¬ 4 ≤ clsF f y → ¬ (clsF f x = clsF f y ∧ (clsF f x = 3 ∨ clsF f x = 0)) → divR f m after x y = (FP.mk f (FP.sgn f x != FP.sgn f y) (divS f m after (FP.sgn f x != FP.sgn f y) (FP.cod f x) (FP.cod f y)).1, (divS f m after (FP.sgn f x != FP.sgn f y) (FP.cod f x) (FP.cod f y)).2) := fun hx hy h => by
    rw [divR_S _ _ hx hy, if_neg (fun h' => h ((likeC_eq _ _).1 h'))]
  have li : ∀ {x y : Nat}, ¬ 4 ≤ clsF f x → ¬ 4 ≤ clsF f y → (clsF f x = clsF f y ∧ (clsF f x = 3 ∨ clsF f x = 0)) → divR f m after x y = (dfl f, 1) := fun hx hy h => by
    rw [divR_S _ _ hx hy, if_pos ((likeC_eq _ _).2 h)]
  refine ⟨?_, ?_, ?_, ?_, li (by omega) (by omega) (by omega), li (by omega) (by omega) (by omega), ?_, ?_⟩
  · rw [go (by omega) (by omega) (by omega), z2, z3, hsym]
    unfold divS; rw [c0, if_neg (by omega), if_neg (by omega), if_pos rfl]
  · rw [go (by omega) (by omega) (by omega), z2, z3]
    unfold divS; rw [c0, if_neg (by omega), if_pos (.inr rfl)]
  · rw [go (by omega) (by omega) (by omega), i2, i3, hsym]
    unfold divS; rw [ci, if_neg (by omega), if_pos (.inl rfl)]
  · rw [go (by omega) (by omega) (by omega), i2, i3]
    unfold divS; rw [ci, if_pos rfl]
  · rw [go (by omega) (by omega) (by omega), i2, i3, z2, z3, hnn]
    unfold divS; rw [ci, if_pos rfl]
  · rw [go (by omega) (by omega) (by omega), i2, i3, z2, z3, hnn]
    unfold divS; rw [c0, ci, if_neg (by decide), if_pos (.inl rfl)]
end Go.Proofs.YtgbdemipeoboeaaDoor
