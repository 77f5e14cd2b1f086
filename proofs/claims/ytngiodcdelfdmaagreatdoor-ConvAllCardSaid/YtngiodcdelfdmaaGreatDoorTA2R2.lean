import Derived.Test.YtngiodcdelfdmaaGreatDoorPR8R2
import Derived.Test.YtngiodcdelfdmaaGreatDoorRLMR2
/- Terms, conversions: the program's are the document's. -/
namespace Go.Proofs.YtngiodcdelfdmaaGreatDoor
set_option linter.unusedVariables false
set_option linter.unusedSimpArgs false
set_option maxRecDepth 100000
open Go.RowKit
theorem five_same (p : Prop) [Decidable p] (x : Int) (n : Nat) : ∃ a b c d e, (if p then [x] ++ oW n else [0, 0, 0, 0, 0]) = [a, b, c, d, e] := by
  by_cases h : p
  · rw [if_pos h, oW_eq]; exact ⟨_, _, _, _, _, rfl⟩
  · rw [if_neg h]; exact ⟨_, _, _, _, _, rfl⟩
theorem true_MulTerms (l : List Int) (h : l.length = 10) : F_law19_MulTerms l = [1] := by
  match l, h with
  | [n, c, e, h, l, n', c', e', h', l'], _ =>
  rw [F_law19_MulTerms, t_law19_MulTerms]
  obtain ⟨x0, x1, x2, x3, x4, hx⟩ := five_same ((u8 c = 1 ∨ u8 c = 2) ∧ (u8 c' = 1 ∨ u8 c' = 2)) (i64 (i64 (i64 e + i64 e') + 1)) (nB h l * nB h' l')
  refine (treeF_call (r := [x0, x1, x2, x3, x4]) (by simp only [nxs, ph_RLM_mul_Term]; exact (s_mul_Term _ _ _ _ _ _ _ _ _ _).trans (by rw [u8_u8, u8_u8, i64_i64, i64_i64, nB_u, nB_u]; exact hx)) (by rfl)).trans ?_
  refine (treeF_call (r := [x0, x1, x2, x3, x4]) (by simp only [nxs, ph_RLM_ref19_Term]; exact v_Term.trans (by rw [u8_u8, u8_u8, i64_i64, i64_i64, nB_u, nB_u]; exact hx)) (by rfl)).trans ?_
  refine tT (by simp only [nxs, beq_self_eq_true]) ?_
  refine tT (by simp only [nxs, beq_self_eq_true]; rfl) ?_
  have r1 := u8_rng c; have r2 := u8_rng c'
  refine (treeF_call (r := [b2i (badC (u8 c).toNat (u8 c').toNat)]) (by simp only [nxs, ph_RLM_mul_Bad]; exact (s_mul_Bad _ _ _ _ _ _ _ _ _ _).trans (by rw [u8_u8, u8_u8])) (by rfl)).trans ?_
  refine (treeF_call (r := [b2i (badC (u8 c).toNat (u8 c').toNat)]) (by simp only [nxs, ph_RLM_ref19_Bad]; exact v_Bad (by rw [u8_u8]; omega) (by rw [u8_u8]; omega)) (by rfl)).trans ?_
  refine tT (by simp only [nxs, beq_self_eq_true]) ?_
  rw [treeF_leaf rfl]; rfl
theorem conv_same (f t m u a b : Int) : ∃ x y z, F_conv_Conv [u8 f, u8 t, u8 m, b2i (iNz u), u64 a, u64 b] = [x, y, z] ∧ F_ref25_Conv [u8 f, u8 t, u8 m, b2i (iNz u), u64 a, u64 b] = [x, y, z] := by
  by_cases h : fN f < 4 ∧ fN t < 4 ∧ u8 m ≤ 4
  · obtain ⟨hf, ht, hm⟩ := h
    have hm2 : fN m ≤ 4 := by have := u8_rng m; unfold fN; omega
    obtain ⟨R, k⟩ : ∃ R : Nat × Nat, convR (fN f) (fN t) (fN m) (iNz u) (nB a b) = R := ⟨_, rfl⟩
    have k1 := s_conv_Conv (u8 f) (u8 t) (u8 m) (b2i (iNz u)) (u64 a) (u64 b) (by rw [fN_u]; exact hf) (by rw [fN_u]; exact ht) (by rw [u8_u8]; exact hm)
    have k2 := v_refConv (f := u8 f) (t := u8 t) (m := u8 m) (u := b2i (iNz u)) (a := u64 a) (b := u64 b) (by rw [fN_u]; exact hf) (by rw [fN_u]; exact ht) (by rw [fN_u]; exact hm2)
    rw [fN_u, fN_u, u8_u8, iNz_b2i, nB_u] at k1
    rw [fN_u, fN_u, fN_u, iNz_b2i, nB_u, k] at k2
    obtain ⟨r, g⟩ := R
    rw [oR_eq] at k2
    exact ⟨_, _, _, k1.trans (by rw [show convR (fN f) (fN t) (u8 m).toNat (iNz u) (nB a b) = (r, g) from k, oR_eq]), k2⟩
  · exact ⟨0, 0, 0, s_conv_Conv0 _ _ _ _ _ _ (by rw [fN_u, fN_u, u8_u8]; exact h), v_refConv0 (by rw [fN_u, fN_u, u8_u8]; exact h)⟩
theorem true_ConvAll (l : List Int) (h : l.length = 6) : F_law25_ConvAll l = [1] := by
  match l, h with
  | [f, t, m, u, a, b], _ =>
  rw [F_law25_ConvAll, t_law25_ConvAll]
  obtain ⟨x, y, z, k1, k2⟩ := conv_same f t m u a b
  have kF := s_conv_Fits (u8 f) (u8 t) (u64 a) (u64 b)
  rw [fN_u, fN_u, nB_u] at kF
  have ua := clsF_u8 (fN f) (nB a b)
  refine (treeF_call (r := [((clsF (fN f) (nB a b) : Nat) : Int), b2i (sgnF (fN f) (nB a b))]) (by simp only [nxs, ph_RLM_ref08_Of]; exact (v_clsOf _ _ _).trans (by rw [fN_u, nB_u])) (by rfl)).trans ?_
  have hne : ∀ p : Bool, p = false → (iNz (b2i p) == iNz 0) = true := fun p h => by rw [h]; rfl
  by_cases hf : fN f < 4
  · refine tT (by simp only [nxs]; exact decide_eq_true ((u8_lt4 f).2 hf)) ?_
    rw [decide_eq_true hf] at kF
    by_cases ht : fN t < 4
    · refine tT (by simp only [nxs]; exact decide_eq_true ((u8_lt4 t).2 ht)) ?_
      rw [decide_eq_true ht] at kF
      by_cases hc : clsF (fN f) (nB a b) ≤ 3
      · refine tT (by simp only [nxs, ua]; exact decide_eq_true (by omega)) ?_
        rw [decide_eq_true hc] at kF
        have k3 := v_refConv (f := u8 f) (t := u8 t) (m := 4) (u := 0) (a := u64 a) (b := u64 b) (by rw [fN_u]; exact hf) (by rw [fN_u]; exact ht) (by decide)
        rw [fN_u, fN_u, nB_u, show fN 4 = 4 by decide, show iNz 0 = false by decide] at k3
        have hfl : (convR (fN f) (fN t) 4 false (nB a b)).2 ≤ 24 := by
          unfold convR; split
          · show (if _ then 1 else 0) ≤ 24; split <;> omega
          · split
            · show 0 ≤ 24; omega
            · have := FP.roundC_flag_set (FP.fP (fN t)) (FP.fE (fN t)) 4 false (FP.sgn (fN f) (nB a b)) (FP.val (fN f) (FP.cod (fN f) (nB a b)) * 2 ^ FP.fU (fN t)) (2 ^ FP.fU (fN f))
              show (FP.roundC (FP.fP (fN t)) (FP.fE (fN t)) 4 false (FP.sgn (fN f) (nB a b)) (FP.val (fN f) (FP.cod (fN f) (nB a b)) * 2 ^ FP.fU (fN t)) (2 ^ FP.fU (fN f))).2 ≤ 24
              omega
        obtain ⟨R, hR⟩ : ∃ R, convR (fN f) (fN t) 4 false (nB a b) = R := ⟨_, rfl⟩
        rw [hR] at k3 kF hfl
        obtain ⟨r, g⟩ := R
        rw [oR_eq] at k3
        have g8 : u8 ((g : Nat) : Int) = g := u8_id (by omega) (by simp only at hfl; omega)
        refine (treeF_call (r := [wd r 1, wd r 0, (g : Int)]) (by simp only [nxs, ph_RLM_ref25_Conv]; exact k3) (by rfl)).trans ?_
        refine (treeF_call (r := [x, y, z]) (by simp only [nxs, ph_RLM_conv_Conv]; exact k1) (by rfl)).trans ?_
        refine (treeF_call (r := [x, y, z]) (by simp only [nxs, ph_RLM_ref25_Conv]; exact k2) (by rfl)).trans ?_
        refine tT (by simp only [nxs, beq_self_eq_true]; rfl) ?_
        refine (treeF_call (r := [b2i (decide (g = 0))]) (by simp only [nxs, ph_RLM_conv_Fits]; exact kF) (by rfl)).trans ?_
        refine tT (by simp only [nxs, g8]; by_cases hg : g = 0 <;> simp [hg, b2i]) ?_
        rw [treeF_leaf rfl]; rfl
      · refine tF (by simp only [nxs, ua]; exact decide_eq_false (by omega)) ?_
        rw [decide_eq_false hc] at kF
        refine (treeF_call (r := [x, y, z]) (by simp only [nxs, ph_RLM_conv_Conv]; exact k1) (by rfl)).trans ?_
        refine (treeF_call (r := [x, y, z]) (by simp only [nxs, ph_RLM_ref25_Conv]; exact k2) (by rfl)).trans ?_
        refine tT (by simp only [nxs, beq_self_eq_true]; rfl) ?_
        refine (treeF_call (r := [0]) (by simp only [nxs, ph_RLM_conv_Fits]; exact kF) (by rfl)).trans ?_
        refine tT (by simp only [nxs]; rfl) ?_
        rw [treeF_leaf rfl]; rfl
    · refine tF (by simp only [nxs]; exact decide_eq_false (fun h => ht ((u8_lt4 t).1 h))) ?_
      rw [decide_eq_false ht] at kF
      refine (treeF_call (r := [x, y, z]) (by simp only [nxs, ph_RLM_conv_Conv]; exact k1) (by rfl)).trans ?_
      refine (treeF_call (r := [x, y, z]) (by simp only [nxs, ph_RLM_ref25_Conv]; exact k2) (by rfl)).trans ?_
      refine tT (by simp only [nxs, beq_self_eq_true]; rfl) ?_
      refine (treeF_call (r := [0]) (by simp only [nxs, ph_RLM_conv_Fits]; exact kF) (by rfl)).trans ?_
      refine tT (by simp only [nxs]; rfl) ?_
      rw [treeF_leaf rfl]; rfl
  · refine tF (by simp only [nxs]; exact decide_eq_false (fun h => hf ((u8_lt4 f).1 h))) ?_
    rw [decide_eq_false hf] at kF
    refine (treeF_call (r := [x, y, z]) (by simp only [nxs, ph_RLM_conv_Conv]; exact k1) (by rfl)).trans ?_
    refine (treeF_call (r := [x, y, z]) (by simp only [nxs, ph_RLM_ref25_Conv]; exact k2) (by rfl)).trans ?_
    refine tT (by simp only [nxs, beq_self_eq_true]; rfl) ?_
    refine (treeF_call (r := [0]) (by simp only [nxs, ph_RLM_conv_Fits]; exact kF) (by rfl)).trans ?_
    refine tT (by simp only [nxs]; rfl) ?_
    rw [treeF_leaf rfl]; rfl
end Go.Proofs.YtngiodcdelfdmaaGreatDoor
