import Derived.Test.YtngiodcdelfdmaaGreatDoorZKR2
/- What the trees of the document's conversions and terms answer. -/
namespace Go.Proofs.YtngiodcdelfdmaaGreatDoor
set_option linter.unusedVariables false
set_option linter.unusedSimpArgs false
set_option maxRecDepth 100000
open Go.RowKit
theorem v_refConv {f t m u a b : Int} (hf : fN f < 4) (ht : fN t < 4) (hm : fN m ≤ 4) : F_ref25_Conv [f, t, m, u, a, b] = oR (convR (fN f) (fN t) (fN m) (iNz u) (nB a b)) := by
  rw [F_ref25_Conv, t_ref25_Conv]
  refine tF (by simp only [nxs]; exact u8_gt3 hf) ?_
  refine tF (by simp only [nxs]; exact u8_gt3 ht) ?_
  refine tF (by simp only [nxs]; exact u8_gt4 hm) ?_
  unfold convR
  by_cases hn : 4 ≤ clsF (fN f) (nB a b)
  · refine (treeF_call (r := [wd (FP.mk (fN t) (FP.sgn (fN f) (nB a b)) (movC (fN f) (fN t) (FP.cod (fN f) (nB a b)))) 1, wd (FP.mk (fN t) (FP.sgn (fN f) (nB a b)) (movC (fN f) (fN t) (FP.cod (fN f) (nB a b)))) 0, if clsF (fN f) (nB a b) = 5 then 1 else 0, 1]) (by simp only [nxs, ph_RL9_ref11_Move]; exact (v_Move (by rw [fN_u]; exact hf) (by rw [fN_u]; exact ht)).trans (by rw [fN_u, fN_u, nB_u, if_pos hn])) (by rfl)).trans ?_
    refine tT (by simp only [nxs]; rfl) ?_
    rw [treeF_leaf rfl, if_pos hn, oR_eq]; simp only [nxs]
    by_cases h5 : clsF (fN f) (nB a b) = 5
    · rw [if_pos h5, if_pos h5]; rfl
    · rw [if_neg h5, if_neg h5]; rfl
  · refine (treeF_call (r := [0, 0, 0, 0]) (by simp only [nxs, ph_RL9_ref11_Move]; exact (v_Move (by rw [fN_u]; exact hf) (by rw [fN_u]; exact ht)).trans (by rw [fN_u, nB_u, if_neg hn])) (by rfl)).trans ?_
    refine tF (by simp only [nxs]; rfl) ?_
    rw [if_neg hn]
    have ua := clsF_u8 (fN f) (nB a b)
    refine (treeF_call (r := [((clsF (fN f) (nB a b) : Nat) : Int), b2i (FP.sgn (fN f) (nB a b))]) (by simp only [nxs, ph_RL9_ref08_Of]; exact (v_clsOf _ _ _).trans (by rw [fN_u, nB_u, sgnF_id hf])) (by rfl)).trans ?_
    by_cases ia : clsF (fN f) (nB a b) = 3
    · refine tT (by simp only [nxs, ua, ia]; rfl) ?_
      refine (treeF_call (r := [wd (FP.mk (fN t) (FP.sgn (fN f) (nB a b)) (FP.inf (fN t))) 1, wd (FP.mk (fN t) (FP.sgn (fN f) (nB a b)) (FP.inf (fN t))) 0]) (by simp only [nxs, ph_RL9_ref07_Inf]; exact (v_Inf (by rw [fN_u]; exact ht)).trans (by rw [fN_u, oB_eq, iNz_b2i])) (by rfl)).trans ?_
      rw [treeF_leaf rfl, if_pos ia, oR_eq]; simp only [nxs]; rfl
    · refine tF (by simp only [nxs, ua, beq_eq_false_iff_ne]; omega) ?_
      rw [if_neg ia]
      obtain ⟨ca, za, -⟩ := cls_fin hf (show clsF (fN f) (nB a b) < 3 by omega)
      refine (treeF_call (r := [b2i (FP.sgn (fN f) (nB a b)), ((FP.vM (fN f) (FP.cod (fN f) (nB a b)) : Nat) : Int), FP.vE (fN f) (FP.cod (fN f) (nB a b))]) (by simp only [nxs, ph_RL9_ref09_Of]; exact (v_Of9 (by rw [fN_u]; exact hf)).trans (by rw [fN_u, nB_u])) (by rfl)).trans ?_
      obtain ⟨ea, ea1, ea2⟩ := vE_i hf ca
      have Ma := vM_128 hf (FP.cod (fN f) (nB a b))
      have hz := FP.vM_zero (fN f)
      have pa : 0 < FP.cod (fN f) (nB a b) → 0 < FP.vM (fN f) (FP.cod (fN f) (nB a b)) := FP.vM_pos
      generalize FP.sgn (fN f) (nB a b) = sg at *
      have hC : 0 < FP.cod (fN f) (nB a b) → FP.refX (FP.fP (fN t)) (FP.fE (fN t)) (fN m) (iNz u) sg (FP.vM (fN f) (FP.cod (fN f) (nB a b))) (FP.vE (fN f) (FP.cod (fN f) (nB a b))) false = FP.convC (fN f) (fN t) (fN m) (iNz u) sg (FP.cod (fN f) (nB a b)) := fun h1 => FP.ref_conv hf ht h1
      have hC0 : FP.cod (fN f) (nB a b) = 0 → FP.convC (fN f) (fN t) (fN m) (iNz u) sg (FP.cod (fN f) (nB a b)) = (0, 0) := fun h => by
        unfold FP.convC
        have e0 : FP.val (fN f) 0 = 0 := FP.cval_zero _
        rw [h, e0, Nat.zero_mul, FP.roundC_zero]
      have hle : (FP.convC (fN f) (fN t) (fN m) (iNz u) sg (FP.cod (fN f) (nB a b))).1 ≤ FP.inf (fN t) := FP.roundC_le _ _ _ _ _ _ _
      have hfl : u8 (((FP.convC (fN f) (fN t) (fN m) (iNz u) sg (FP.cod (fN f) (nB a b))).2 : Nat) : Int) = (((FP.convC (fN f) (fN t) (fN m) (iNz u) sg (FP.cod (fN f) (nB a b))).2 : Nat) : Int) := roundC_flag8 _ _ _ _ _ _ _
      generalize FP.cod (fN f) (nB a b) = c at *
      generalize FP.vE (fN f) c = E at *
      obtain ⟨R, hR⟩ : ∃ R, FP.convC (fN f) (fN t) (fN m) (iNz u) sg c = R := ⟨_, rfl⟩
      rw [hR] at hC hC0 hle hfl ⊢
      have hRound : F_ref16_Round [u8 t, u8 m, b2i (iNz u), b2i sg, ((FP.vM (fN f) c : Nat) : Int), E, 0] = [wd (FP.mk (fN t) sg R.1) 1, wd (FP.mk (fN t) sg R.1) 0, ((R.2 : Nat) : Int)] := by
        by_cases h0 : c = 0
        · rw [h0, hz, hC0 h0]
          exact (v_Round0 (by rw [fN_u]; exact ht) (by rw [fN_u]; exact hm)).trans (by rw [fN_u, iNz_b2i]; rfl)
        · exact (v_Round (r := R) (by rw [fN_u]; exact ht) (by rw [fN_u]; exact hm) (pa (by omega)) Ma (by decide) ea (by omega) (by omega) (by rw [fN_u, fN_u, iNz_b2i, iNz_b2i]; exact hC (by omega)) (by rw [fN_u]; exact hle)).trans (by rw [fN_u, iNz_b2i])
      refine (treeF_call (r := [wd (FP.mk (fN t) sg R.1) 1, wd (FP.mk (fN t) sg R.1) 0, ((R.2 : Nat) : Int)]) ?_ (by rfl)).trans ?_
      · simp only [nxs, ph_RL9_ref16_Round, ea]
        exact hRound
      rw [treeF_leaf rfl]; simp only [nxs, hfl]
      obtain ⟨R1, R2⟩ := R
      rw [oR_eq]
theorem v_refConv0 {f t m u a b : Int} (h : ¬ (fN f < 4 ∧ fN t < 4 ∧ u8 m ≤ 4)) : F_ref25_Conv [f, t, m, u, a, b] = [0, 0, 0] := by
  rw [F_ref25_Conv, t_ref25_Conv]
  by_cases hf : fN f < 4
  · refine tF (by simp only [nxs]; exact u8_gt3 hf) ?_
    by_cases ht : fN t < 4
    · refine tF (by simp only [nxs]; exact u8_gt3 ht) ?_
      refine tT (by simp only [nxs]; exact decide_eq_true (by have := fun h2 => h ⟨hf, ht, h2⟩; omega)) ?_
      rw [treeF_leaf rfl]; rfl
    · refine tT (by simp only [nxs]; exact u8_gt3' ht) ?_
      rw [treeF_leaf rfl]; rfl
  · refine tT (by simp only [nxs]; exact u8_gt3' hf) ?_
    rw [treeF_leaf rfl]; rfl
/-! ### terms -/
theorem v_Term {n c e h l n' c' e' h' l' : Int} : F_ref19_Term [n, c, e, h, l, n', c', e', h', l'] =
    if (u8 c = 1 ∨ u8 c = 2) ∧ (u8 c' = 1 ∨ u8 c' = 2) then [i64 (i64 (i64 e + i64 e') + 1)] ++ oW (nB h l * nB h' l') else [0, 0, 0, 0, 0] := by
  rw [F_ref19_Term, t_ref19_Term]
  have hb := nB_128 h l
  have hb' := nB_128 h' l'
  by_cases c1 : u8 c = 1
  · refine tF (by simp only [nxs, c1]; rfl) ?_
    by_cases d1 : u8 c' = 1
    · refine tF (by simp only [nxs, d1]; rfl) ?_
      rw [if_pos ⟨.inl c1, .inl d1⟩]
      refine (treeF_call (r := [((nB h l : Nat) : Int)]) (by simp only [nxs, ph_RL8_ref01_Big]; exact (v_Big _ _).trans (by rw [nB_u])) (by rfl)).trans ?_
      refine (treeF_call (r := [((nB h' l' : Nat) : Int)]) (by simp only [nxs, ph_RL8_ref01_Big]; exact (v_Big _ _).trans (by rw [nB_u])) (by rfl)).trans ?_
      refine (treeF_call (r := [((nB h l * nB h' l' : Nat) : Int)]) (by simp only [nxs, ph_RL8_ref01_Mul]; exact v_Mul hb hb' (by decide) (by decide)) (by rfl)).trans ?_
      refine (treeF_call (r := [wd (nB h l * nB h' l') 0, wd (nB h l * nB h' l') 1, wd (nB h l * nB h' l') 2, wd (nB h l * nB h' l') 3]) (by simp only [nxs, ph_RL8_ref01_Low]; exact (v_Low (sz_mul hb hb') (by decide)).trans (oW_eq _)) (by rfl)).trans ?_
      rw [treeF_leaf rfl, oW_eq]; (simp only [nxs]) <;> rfl
    · refine tT (by simp only [nxs, bne_iff_ne]; exact d1) ?_
      by_cases d2 : u8 c' = 2
      · refine tF (by simp only [nxs, d2]; rfl) ?_
        rw [if_pos ⟨.inl c1, .inr d2⟩]
        refine (treeF_call (r := [((nB h l : Nat) : Int)]) (by simp only [nxs, ph_RL8_ref01_Big]; exact (v_Big _ _).trans (by rw [nB_u])) (by rfl)).trans ?_
        refine (treeF_call (r := [((nB h' l' : Nat) : Int)]) (by simp only [nxs, ph_RL8_ref01_Big]; exact (v_Big _ _).trans (by rw [nB_u])) (by rfl)).trans ?_
        refine (treeF_call (r := [((nB h l * nB h' l' : Nat) : Int)]) (by simp only [nxs, ph_RL8_ref01_Mul]; exact v_Mul hb hb' (by decide) (by decide)) (by rfl)).trans ?_
        refine (treeF_call (r := [wd (nB h l * nB h' l') 0, wd (nB h l * nB h' l') 1, wd (nB h l * nB h' l') 2, wd (nB h l * nB h' l') 3]) (by simp only [nxs, ph_RL8_ref01_Low]; exact (v_Low (sz_mul hb hb') (by decide)).trans (oW_eq _)) (by rfl)).trans ?_
        rw [treeF_leaf rfl, oW_eq]; (simp only [nxs]) <;> rfl
      · refine tT (by simp only [nxs, bne_iff_ne]; exact d2) ?_
        rw [if_neg (by omega)]
        rw [treeF_leaf rfl]; rfl
  · refine tT (by simp only [nxs, bne_iff_ne]; exact c1) ?_
    by_cases c2 : u8 c = 2
    · refine tF (by simp only [nxs, c2]; rfl) ?_
      by_cases d1 : u8 c' = 1
      · refine tF (by simp only [nxs, d1]; rfl) ?_
        rw [if_pos ⟨.inr c2, .inl d1⟩]
        refine (treeF_call (r := [((nB h l : Nat) : Int)]) (by simp only [nxs, ph_RL8_ref01_Big]; exact (v_Big _ _).trans (by rw [nB_u])) (by rfl)).trans ?_
        refine (treeF_call (r := [((nB h' l' : Nat) : Int)]) (by simp only [nxs, ph_RL8_ref01_Big]; exact (v_Big _ _).trans (by rw [nB_u])) (by rfl)).trans ?_
        refine (treeF_call (r := [((nB h l * nB h' l' : Nat) : Int)]) (by simp only [nxs, ph_RL8_ref01_Mul]; exact v_Mul hb hb' (by decide) (by decide)) (by rfl)).trans ?_
        refine (treeF_call (r := [wd (nB h l * nB h' l') 0, wd (nB h l * nB h' l') 1, wd (nB h l * nB h' l') 2, wd (nB h l * nB h' l') 3]) (by simp only [nxs, ph_RL8_ref01_Low]; exact (v_Low (sz_mul hb hb') (by decide)).trans (oW_eq _)) (by rfl)).trans ?_
        rw [treeF_leaf rfl, oW_eq]; (simp only [nxs]) <;> rfl
      · refine tT (by simp only [nxs, bne_iff_ne]; exact d1) ?_
        by_cases d2 : u8 c' = 2
        · refine tF (by simp only [nxs, d2]; rfl) ?_
          rw [if_pos ⟨.inr c2, .inr d2⟩]
          refine (treeF_call (r := [((nB h l : Nat) : Int)]) (by simp only [nxs, ph_RL8_ref01_Big]; exact (v_Big _ _).trans (by rw [nB_u])) (by rfl)).trans ?_
          refine (treeF_call (r := [((nB h' l' : Nat) : Int)]) (by simp only [nxs, ph_RL8_ref01_Big]; exact (v_Big _ _).trans (by rw [nB_u])) (by rfl)).trans ?_
          refine (treeF_call (r := [((nB h l * nB h' l' : Nat) : Int)]) (by simp only [nxs, ph_RL8_ref01_Mul]; exact v_Mul hb hb' (by decide) (by decide)) (by rfl)).trans ?_
          refine (treeF_call (r := [wd (nB h l * nB h' l') 0, wd (nB h l * nB h' l') 1, wd (nB h l * nB h' l') 2, wd (nB h l * nB h' l') 3]) (by simp only [nxs, ph_RL8_ref01_Low]; exact (v_Low (sz_mul hb hb') (by decide)).trans (oW_eq _)) (by rfl)).trans ?_
          rw [treeF_leaf rfl, oW_eq]; (simp only [nxs]) <;> rfl
        · refine tT (by simp only [nxs, bne_iff_ne]; exact d2) ?_
          rw [if_neg (by omega)]
          rw [treeF_leaf rfl]; rfl
    · refine tT (by simp only [nxs, bne_iff_ne]; exact c2) ?_
      rw [if_neg (by omega)]
      rw [treeF_leaf rfl]; rfl
end Go.Proofs.YtngiodcdelfdmaaGreatDoor
