import Derived.Test.YtngiodcdelfdmaaGreatDoorZKR2
import Derived.Test.YtngiodcdelfdmaaGreatDoorRLMR2
import Derived.Test.YtngiodcdelfdmaaGreatDoorP32R2
/- Products: the program's are the document's. -/
namespace Go.Proofs.YtngiodcdelfdmaaGreatDoor
set_option linter.unusedVariables false
set_option linter.unusedSimpArgs false
set_option maxRecDepth 100000
open Go.RowKit
theorem v_refMul0 {f m t a1 a0 b1 b0 : Int} (h : ¬ (fN f < 4 ∧ u8 m ≤ 4)) : F_ref19_Mul [f, m, t, a1, a0, b1, b0] = [0, 0, 0] := by
  rw [F_ref19_Mul, t_ref19_Mul]
  by_cases hf : fN f < 4
  · refine tF (by simp only [nxs]; exact u8_gt3 hf) ?_
    refine tT (by simp only [nxs]; exact decide_eq_true (by have := fun h2 => h ⟨hf, h2⟩; omega)) ?_
    rw [treeF_leaf rfl]; rfl
  · refine tT (by simp only [nxs]; exact u8_gt3' hf) ?_
    rw [treeF_leaf rfl]; rfl
theorem true_MulAll (l : List Int) (h : l.length = 7) : F_law19_MulAll l = [1] := by
  match l, h with
  | [f, m, t, a1, a0, b1, b0], _ =>
  rw [F_law19_MulAll, t_law19_MulAll]
  by_cases hfm : fN f < 4 ∧ u8 m ≤ 4
  · obtain ⟨hf, hm⟩ := hfm
    have hm2 : fN m ≤ 4 := by have := u8_rng m; unfold fN; omega
    obtain ⟨R, k⟩ : ∃ R : Nat × Nat, mulR (fN f) (fN m) (iNz t) (nB a1 a0) (nB b1 b0) = R := ⟨_, rfl⟩
    refine (treeF_call (r := oR R) (by simp only [nxs, ph_RLM_mul_Mul]; exact (s_mul_Mul _ _ _ _ _ _ _ (by rw [fN_u]; exact hf) (by rw [u8_u8]; exact hm)).trans (by rw [fN_u, u8_u8, iNz_b2i, nB_u, nB_u]; exact congrArg oR k)) (by rfl)).trans ?_
    obtain ⟨r, g⟩ := R
    rw [oR_eq]
    refine (treeF_call (r := [wd r 1, wd r 0, (g : Int)]) (by simp only [nxs, ph_RLM_ref19_Mul]; exact (v_refMul (by rw [fN_u]; exact hf) (by rw [fN_u]; exact hm2)).trans (by rw [fN_u, fN_u, iNz_b2i, nB_u, nB_u, k, oR_eq])) (by rfl)).trans ?_
    refine tT (by simp only [nxs, beq_self_eq_true]; rfl) ?_
    rw [treeF_leaf rfl]; rfl
  · refine (treeF_call (r := [0, 0, 0]) (by simp only [nxs, ph_RLM_mul_Mul]; exact s_mul_Mul0 _ _ _ _ _ _ _ (by rw [fN_u, u8_u8]; exact hfm)) (by rfl)).trans ?_
    refine (treeF_call (r := [0, 0, 0]) (by simp only [nxs, ph_RLM_ref19_Mul]; exact v_refMul0 (by rw [fN_u, u8_u8]; exact hfm)) (by rfl)).trans ?_
    refine tT (by simp only [nxs, beq_self_eq_true]; rfl) ?_
    rw [treeF_leaf rfl]; rfl
end Go.Proofs.YtngiodcdelfdmaaGreatDoor
