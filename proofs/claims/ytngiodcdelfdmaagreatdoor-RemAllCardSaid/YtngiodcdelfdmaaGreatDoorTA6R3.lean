import Derived.Test.YtngiodcdelfdmaaGreatDoorPR12R3
import Derived.Test.YtngiodcdelfdmaaGreatDoorRLRR3
import Derived.Test.YtngiodcdelfdmaaGreatDoorP23R3
namespace Go.Proofs.YtngiodcdelfdmaaGreatDoor
set_option linter.unusedVariables false
set_option linter.unusedSimpArgs false
set_option maxRecDepth 100000
open Go.RowKit
theorem true_RemAll (l : List Int) (h : l.length = 5) : F_law23_RemAll l = [1] := by
 match l, h with
 | [f, a1, a0, b1, b0], _ =>
 rw [F_law23_RemAll, t_law23_RemAll]
 by_cases hf : fN f < 4
 ·refine tT (by simp only [nxs]; exact decide_eq_true ((u8_lt4 f).2 hf)) ?_
  obtain ⟨x, hx⟩ := v_Far (f := u8 f) (a1 := u64 a1) (a0 := u64 a0) (b1 := u64 b1) (b0 := u64 b0) (by rw [fN_u]; exact hf)
  refine (treeF_call (r := [b2i x]) (by simp only [nxs, ph_RLR_ref23_Far]; exact hx) (by rfl)).trans ?_
  cases x with
  | true =>
   refine tT (by simp only [nxs]) ?_
   rw [treeF_leaf rfl]; rfl
  | false =>
   refine tF (by simp only [nxs]) ?_
   obtain ⟨R, k⟩ : ∃ R : Nat × Nat, remR (fN f) (nB a1 a0) (nB b1 b0) = R := ⟨_, rfl⟩
   refine (treeF_call (r := oR R) (by simp only [nxs, ph_RLR_rem_Rem]; exact (s_rem_Rem _ _ _ _ _ (by rw [fN_u]; exact hf)).trans (by rw [fN_u, nB_u, nB_u]; exact congrArg oR k)) (by rfl)).trans ?_
   obtain ⟨r, g⟩ := R
   rw [oR_eq]
   refine (treeF_call (r := [wd r 1, wd r 0, (g : Int)]) (by simp only [nxs, ph_RLR_ref23_Rem]; exact (v_refRem (by rw [fN_u]; exact hf)).trans (by rw [fN_u, nB_u, nB_u, k, oR_eq])) (by rfl)).trans ?_
   refine tT (by simp only [nxs, beq_self_eq_true]; rfl) ?_
   rw [treeF_leaf rfl]; rfl
 ·refine tF (by simp only [nxs]; exact decide_eq_false (fun h => hf ((u8_lt4 f).1 h))) ?_
  refine (treeF_call (r := [0, 0, 0]) (by simp only [nxs, ph_RLR_rem_Rem]; exact s_rem_Rem0 _ _ _ _ _ (by rw [fN_u]; exact hf)) (by rfl)).trans ?_
  refine (treeF_call (r := [0, 0, 0]) (by simp only [nxs, ph_RLR_ref23_Rem]; exact v_refRem0 (by rw [fN_u]; exact hf)) (by rfl)).trans ?_
  refine tT (by simp only [nxs, beq_self_eq_true]; rfl) ?_
  rw [treeF_leaf rfl]; rfl
end Go.Proofs.YtngiodcdelfdmaaGreatDoor
