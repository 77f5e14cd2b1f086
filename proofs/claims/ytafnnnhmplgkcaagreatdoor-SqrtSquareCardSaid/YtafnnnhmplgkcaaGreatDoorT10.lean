import Derived.Test.YtafnnnhmplgkcaaGreatDoorP31
import Derived.Test.YtafnnnhmplgkcaaGreatDoorP32
import Derived.Test.YtafnnnhmplgkcaaGreatDoorV2
/- Laws of roots: of an exact square. -/
namespace Go.Proofs.YtafnnnhmplgkcaaGreatDoor
set_option linter.unusedVariables false
set_option linter.unusedSimpArgs false
set_option maxRecDepth 100000
open Go.RowKit
theorem true_SqrtSquare (l : List Int) (h : l.length = 5) : F_law22_SqrtSquare l = [1] := by
  match l, h with
  | [f, m, t, a1, a0], _ =>
  rw [F_law22_SqrtSquare, t_law22_SqrtSquare]
  by_cases hf : fN f < 4
  · have known := known_f hf
    obtain ⟨sa1, sa2, sa3⟩ := size_facts hf (nB a1 a0)
    by_cases ha : clsF (fN f) (sizeN (fN f) (nB a1 a0)) < 3
    · have ha' : clsF (fN f) (nB a1 a0) < 3 := by rw [← sa1]; exact ha
      have hs := sqrtR_square hf ((u8 m).toNat % 5) (iNz t) ha'
      have hg := mulR_flag' hf ((u8 m).toNat % 5) (iNz t) (sizeN (fN f) (nB a1 a0)) (sizeN (fN f) (nB a1 a0))
      have hl := mulR_lt' hf ((u8 m).toNat % 5) (iNz t) (sizeN (fN f) (nB a1 a0)) (sizeN (fN f) (nB a1 a0))
      by_cases h0 : (mulR (fN f) ((u8 m).toNat % 5) (iNz t) (sizeN (fN f) (nB a1 a0)) (sizeN (fN f) (nB a1 a0))).2 = 0
      · obtain ⟨s, sl, k1, k2⟩ := hs h0
        refine (treeF_call (r := [wd (sizeN (fN f) (nB a1 a0)) 1, wd (sizeN (fN f) (nB a1 a0)) 0]) (by simp only [sxs, ph_V2_law22_size, op_rem8, u8_0, u64_0]; exact k_law22_size (fN_u f) hf (nB_u _ _)) (by rfl)).trans ?_
        refine (treeF_call (r := [wd (s) 1, wd (s) 0, (0 : Int)]) (by simp only [sxs, ph_V2_mul_Mul, op_rem8, u8_0, u64_0]; exact (k_mul_Mul (fN_u f) hf ((md_rem m).1) ((md_rem m).2) (iNz_b2i _) (nB_small (size_lt hf _)) (nB_small (size_lt hf _))).trans (by rw [k1]; try rfl)) (by rfl)).trans ?_
        refine tF (by simp only [sxs, op_rem8, u8_0, u64_0]; exact known) ?_
        refine (treeF_call (r := [b2i (decide (clsF (fN f) (sizeN (fN f) (nB a1 a0)) < 3))]) (by simp only [sxs, ph_V2_class_Finite, op_rem8, u8_0, u64_0]; exact k_class_Finite (fN_u f) hf (nB_small (size_lt hf _))) (by rfl)).trans ?_
        refine tF (by exact nT (by simp only [sxs, op_rem8, u8_0, u64_0]; exact decide_eq_true (ha))) ?_
        refine tF (by simp only [sxs, op_rem8, u8_0, u64_0]; simp only [beq_self_eq_true, bne_self_eq_false]) ?_
        refine (treeF_call (r := [wd (sizeN (fN f) (nB a1 a0)) 1, wd (sizeN (fN f) (nB a1 a0)) 0, (0 : Int)]) (by simp only [sxs, ph_V2_sqrt_Sqrt, op_rem8, u8_0, u64_0]; exact (k_sqrt_Sqrt (fN_u f) hf ((md_rem m).1) ((md_rem m).2) (iNz_b2i _) (nB_small (sl))).trans (by rw [k2]; try rfl)) (by rfl)).trans ?_
        refine tT (by simp only [sxs, op_rem8, u8_0, u64_0]; simp only [beq_self_eq_true, Bool.and_true, Bool.and_self, bt1, bt0]) ?_
        rw [treeF_leaf rfl]; rfl
      · generalize k1 : mulR (fN f) ((u8 m).toNat % 5) (iNz t) (sizeN (fN f) (nB a1 a0)) (sizeN (fN f) (nB a1 a0)) = RR at *
        obtain ⟨s, g⟩ := RR
        simp only at h0 hg hl
        have g8 := u8_flag (k := g) (by omega)
        refine (treeF_call (r := [wd (sizeN (fN f) (nB a1 a0)) 1, wd (sizeN (fN f) (nB a1 a0)) 0]) (by simp only [sxs, ph_V2_law22_size, op_rem8, u8_0, u64_0]; exact k_law22_size (fN_u f) hf (nB_u _ _)) (by rfl)).trans ?_
        refine (treeF_call (r := [wd (s) 1, wd (s) 0, ((g : Nat) : Int)]) (by simp only [sxs, ph_V2_mul_Mul, op_rem8, u8_0, u64_0]; exact (k_mul_Mul (fN_u f) hf ((md_rem m).1) ((md_rem m).2) (iNz_b2i _) (nB_small (size_lt hf _)) (nB_small (size_lt hf _))).trans (by rw [k1]; try rfl)) (by rfl)).trans ?_
        refine tF (by simp only [sxs, op_rem8, u8_0, u64_0]; exact known) ?_
        refine (treeF_call (r := [b2i (decide (clsF (fN f) (sizeN (fN f) (nB a1 a0)) < 3))]) (by simp only [sxs, ph_V2_class_Finite, op_rem8, u8_0, u64_0]; exact k_class_Finite (fN_u f) hf (nB_small (size_lt hf _))) (by rfl)).trans ?_
        refine tF (by exact nT (by simp only [sxs, op_rem8, u8_0, u64_0]; exact decide_eq_true (ha))) ?_
        refine tT (by simp only [sxs, g8]; exact (bne_nk g 0).trans (decide_eq_true h0)) ?_
        rw [treeF_leaf rfl]; rfl
    · have hl := mulR_lt' hf ((u8 m).toNat % 5) (iNz t) (sizeN (fN f) (nB a1 a0)) (sizeN (fN f) (nB a1 a0))
      generalize k1 : mulR (fN f) ((u8 m).toNat % 5) (iNz t) (sizeN (fN f) (nB a1 a0)) (sizeN (fN f) (nB a1 a0)) = RR at *
      obtain ⟨s, g⟩ := RR
      refine (treeF_call (r := [wd (sizeN (fN f) (nB a1 a0)) 1, wd (sizeN (fN f) (nB a1 a0)) 0]) (by simp only [sxs, ph_V2_law22_size, op_rem8, u8_0, u64_0]; exact k_law22_size (fN_u f) hf (nB_u _ _)) (by rfl)).trans ?_
      refine (treeF_call (r := [wd (s) 1, wd (s) 0, ((g : Nat) : Int)]) (by simp only [sxs, ph_V2_mul_Mul, op_rem8, u8_0, u64_0]; exact (k_mul_Mul (fN_u f) hf ((md_rem m).1) ((md_rem m).2) (iNz_b2i _) (nB_small (size_lt hf _)) (nB_small (size_lt hf _))).trans (by rw [k1]; try rfl)) (by rfl)).trans ?_
      refine tF (by simp only [sxs, op_rem8, u8_0, u64_0]; exact known) ?_
      refine (treeF_call (r := [b2i (decide (clsF (fN f) (sizeN (fN f) (nB a1 a0)) < 3))]) (by simp only [sxs, ph_V2_class_Finite, op_rem8, u8_0, u64_0]; exact k_class_Finite (fN_u f) hf (nB_small (size_lt hf _))) (by rfl)).trans ?_
      refine tT (by exact nF (by simp only [sxs, op_rem8, u8_0, u64_0]; exact decide_eq_false (ha))) ?_
      rw [treeF_leaf rfl]; rfl
  · skip
    refine (treeF_call (r := [(0 : Int), (0 : Int)]) (by simp only [sxs, ph_V2_law22_size, op_rem8, u8_0, u64_0]; exact k_law22_size0 (by rw [fN_u]; exact hf)) (by rfl)).trans ?_
    refine (treeF_call (r := [(0 : Int), (0 : Int), (0 : Int)]) (by simp only [sxs, ph_V2_mul_Mul, op_rem8, u8_0, u64_0]; exact s_mul_Mul0 _ _ _ _ _ _ _ (fun h => hf (by have := h.1; rwa [fN_u] at this))) (by rfl)).trans ?_
    refine tT (by simp only [sxs]; rw [decide_eq_false (fun h => hf ((u8_lt4 f).1 h))]; rfl) ?_
    rw [treeF_leaf rfl]; rfl
end Go.Proofs.YtafnnnhmplgkcaaGreatDoor
