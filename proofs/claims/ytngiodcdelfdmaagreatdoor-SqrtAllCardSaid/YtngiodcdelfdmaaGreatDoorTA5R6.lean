import Derived.Test.YtngiodcdelfdmaaGreatDoorPR11R6
import Derived.Test.YtngiodcdelfdmaaGreatDoorRLSR6
import Derived.Test.YtngiodcdelfdmaaGreatDoorP30R6
namespace Go.Proofs.YtngiodcdelfdmaaGreatDoor
set_option linter.unusedVariables false
set_option linter.unusedSimpArgs false
set_option maxRecDepth 100000
open Go.RowKit
theorem true_SqrtAll (l : List Int) (h : l.length = 5) : F_law22_SqrtAll l = [1] := by
 match l, h with
 | [f, m, t, a1, a0], _ =>
 rw [F_law22_SqrtAll, t_law22_SqrtAll]
 by_cases hfm : fN f < 4 ∧ u8 m ≤ 4
 ·obtain ⟨hf, hm⟩ := hfm
  have hm2 : fN m ≤ 4 := by have := u8_rng m; unfold fN; omega
  obtain ⟨R, k⟩ : ∃ R : Nat × Nat, sqrtR (fN f) (fN m) (iNz t) (nB a1 a0) = R := ⟨_, rfl⟩
  refine (treeF_call (r := oR R) (by simp only [nxs, ph_RLS_sqrt_Sqrt]; exact (s_sqrt_Sqrt _ _ _ _ _ (by rw [fN_u]; exact hf) (by rw [u8_u8]; exact hm)).trans (by rw [fN_u, u8_u8, iNz_b2i, nB_u]; exact congrArg oR k)) (by rfl)).trans ?_
  obtain ⟨r, g⟩ := R
  rw [oR_eq]
  refine (treeF_call (r := [wd r 1, wd r 0, (g : Int)]) (by simp only [nxs, ph_RLS_ref22_Sqrt]; exact (v_refSqrt (by rw [fN_u]; exact hf) (by rw [fN_u]; exact hm2)).trans (by rw [fN_u, fN_u, iNz_b2i, nB_u, k, oR_eq])) (by rfl)).trans ?_
  refine tT (by simp only [nxs, beq_self_eq_true]; rfl) ?_
  rw [treeF_leaf rfl]; rfl
 ·refine (treeF_call (r := [0, 0, 0]) (by simp only [nxs, ph_RLS_sqrt_Sqrt]; exact s_sqrt_Sqrt0 _ _ _ _ _ (by rw [fN_u, u8_u8]; exact hfm)) (by rfl)).trans ?_
  refine (treeF_call (r := [0, 0, 0]) (by simp only [nxs, ph_RLS_ref22_Sqrt]; exact v_refSqrt0 (by rw [fN_u, u8_u8]; exact hfm)) (by rfl)).trans ?_
  refine tT (by simp only [nxs, beq_self_eq_true]; rfl) ?_
  rw [treeF_leaf rfl]; rfl
end Go.Proofs.YtngiodcdelfdmaaGreatDoor
