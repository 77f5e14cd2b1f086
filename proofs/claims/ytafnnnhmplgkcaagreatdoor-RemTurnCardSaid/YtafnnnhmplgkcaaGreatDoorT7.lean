import Derived.Test.YtafnnnhmplgkcaaGreatDoorP24
import Derived.Test.YtafnnnhmplgkcaaGreatDoorR3
/- Laws of remainders: turned signs. -/
namespace Go.Proofs.YtafnnnhmplgkcaaGreatDoor
set_option linter.unusedVariables false
set_option linter.unusedSimpArgs false
set_option maxRecDepth 100000
open Go.RowKit
theorem true_RemTurn (l : List Int) (h : l.length = 5) : F_law23_RemTurn l = [1] := by
  match l, h with
  | [f, a1, a0, b1, b0], _ =>
  rw [F_law23_RemTurn, t_law23_RemTurn]
  by_cases hf : fN f < 4
  · have known := known_f hf
    by_cases na : 4 ≤ clsF (fN f) (nB a1 a0)
    · skip
      refine tF (by simp only [sxs]; exact known) ?_
      refine (treeF_call (r := [b2i (decide (4 ≤ clsF (fN f) (nB a1 a0)))]) (by simp only [sxs, ph_R3_class_NaN]; exact k_class_NaN (fN_u f) (nB_u _ _)) (by rfl)).trans ?_
      refine tT (by simp only [sxs]; exact decide_eq_true (na)) ?_
      rw [treeF_leaf rfl]; rfl
    by_cases nb : 4 ≤ clsF (fN f) (nB b1 b0)
    · skip
      refine tF (by simp only [sxs]; exact known) ?_
      refine (treeF_call (r := [b2i (decide (4 ≤ clsF (fN f) (nB a1 a0)))]) (by simp only [sxs, ph_R3_class_NaN]; exact k_class_NaN (fN_u f) (nB_u _ _)) (by rfl)).trans ?_
      refine tF (by simp only [sxs]; exact decide_eq_false (na)) ?_
      refine (treeF_call (r := [b2i (decide (4 ≤ clsF (fN f) (nB b1 b0)))]) (by simp only [sxs, ph_R3_class_NaN]; exact k_class_NaN (fN_u f) (nB_u _ _)) (by rfl)).trans ?_
      refine tT (by simp only [sxs]; exact decide_eq_true (nb)) ?_
      rw [treeF_leaf rfl]; rfl
    rcases remR_turn hf na nb with ⟨_, k1, k2, k3⟩ | ⟨r, rl, nn, k1, k2, k3⟩
    · have dl : dfl (fN f) < W128 := mk_W hf false (dfl_code hf)
      have dn : 4 ≤ clsF (fN f) (dfl (fN f)) := by rw [clsF_dfl hf]; exact Nat.le_refl _
      refine tF (by simp only [sxs, u8_1, u8_0, u64_0]; exact known) ?_
      refine (treeF_call (r := [b2i (decide (4 ≤ clsF (fN f) (nB a1 a0)))]) (by simp only [sxs, ph_R3_class_NaN, u8_1, u8_0, u64_0]; exact k_class_NaN (fN_u f) (nB_u _ _)) (by rfl)).trans ?_
      refine tF (by simp only [sxs, u8_1, u8_0, u64_0]; exact decide_eq_false (na)) ?_
      refine (treeF_call (r := [b2i (decide (4 ≤ clsF (fN f) (nB b1 b0)))]) (by simp only [sxs, ph_R3_class_NaN, u8_1, u8_0, u64_0]; exact k_class_NaN (fN_u f) (nB_u _ _)) (by rfl)).trans ?_
      refine tF (by simp only [sxs, u8_1, u8_0, u64_0]; exact decide_eq_false (nb)) ?_
      refine (treeF_call (r := [wd (dfl (fN f)) 1, wd (dfl (fN f)) 0, (1 : Int)]) (by simp only [sxs, ph_R3_rem_Rem, u8_1, u8_0, u64_0]; exact (k_rem_Rem (fN_u f) hf (nB_u _ _) (nB_u _ _)).trans (by rw [k1]; try rfl)) (by rfl)).trans ?_
      refine (treeF_call (r := [wd (turnN (fN f) (nB b1 b0)) 1, wd (turnN (fN f) (nB b1 b0)) 0]) (by simp only [sxs, ph_R3_addsub_Turn, u8_1, u8_0, u64_0]; exact k_addsub_Turn (fN_u f) (nB_u _ _)) (by rfl)).trans ?_
      refine (treeF_call (r := [wd (dfl (fN f)) 1, wd (dfl (fN f)) 0, (1 : Int)]) (by simp only [sxs, ph_R3_rem_Rem, u8_1, u8_0, u64_0]; exact (k_rem_Rem (fN_u f) hf (nB_u _ _) (nB_small (turn_lt _ _))).trans (by rw [k2]; try rfl)) (by rfl)).trans ?_
      refine (treeF_call (r := [wd (turnN (fN f) (nB a1 a0)) 1, wd (turnN (fN f) (nB a1 a0)) 0]) (by simp only [sxs, ph_R3_addsub_Turn, u8_1, u8_0, u64_0]; exact k_addsub_Turn (fN_u f) (nB_u _ _)) (by rfl)).trans ?_
      refine (treeF_call (r := [wd (dfl (fN f)) 1, wd (dfl (fN f)) 0, (1 : Int)]) (by simp only [sxs, ph_R3_rem_Rem, u8_1, u8_0, u64_0]; exact (k_rem_Rem (fN_u f) hf (nB_small (turn_lt _ _)) (nB_u _ _)).trans (by rw [k3]; try rfl)) (by rfl)).trans ?_
      refine (treeF_call (r := [b2i (decide (4 ≤ clsF (fN f) (dfl (fN f))))]) (by simp only [sxs, ph_R3_class_NaN, u8_1, u8_0, u64_0]; exact k_class_NaN (fN_u f) (nB_small (dl))) (by rfl)).trans ?_
      refine tT (by simp only [sxs, u8_1, u8_0, u64_0]; exact decide_eq_true (dn)) ?_
      refine tT (by simp only [sxs, u8_1, u8_0, u64_0]; simp only [beq_self_eq_true, Bool.and_true, Bool.and_self, bt1, bt0]) ?_
      refine tT (by simp only [sxs, u8_1, u8_0, u64_0]; simp only [beq_self_eq_true, Bool.and_true, Bool.and_self, bt1, bt0]) ?_
      rw [treeF_leaf rfl]; rfl
    · skip
      refine tF (by simp only [sxs, u8_1, u8_0, u64_0]; exact known) ?_
      refine (treeF_call (r := [b2i (decide (4 ≤ clsF (fN f) (nB a1 a0)))]) (by simp only [sxs, ph_R3_class_NaN, u8_1, u8_0, u64_0]; exact k_class_NaN (fN_u f) (nB_u _ _)) (by rfl)).trans ?_
      refine tF (by simp only [sxs, u8_1, u8_0, u64_0]; exact decide_eq_false (na)) ?_
      refine (treeF_call (r := [b2i (decide (4 ≤ clsF (fN f) (nB b1 b0)))]) (by simp only [sxs, ph_R3_class_NaN, u8_1, u8_0, u64_0]; exact k_class_NaN (fN_u f) (nB_u _ _)) (by rfl)).trans ?_
      refine tF (by simp only [sxs, u8_1, u8_0, u64_0]; exact decide_eq_false (nb)) ?_
      refine (treeF_call (r := [wd (r) 1, wd (r) 0, (0 : Int)]) (by simp only [sxs, ph_R3_rem_Rem, u8_1, u8_0, u64_0]; exact (k_rem_Rem (fN_u f) hf (nB_u _ _) (nB_u _ _)).trans (by rw [k1]; try rfl)) (by rfl)).trans ?_
      refine (treeF_call (r := [wd (turnN (fN f) (nB b1 b0)) 1, wd (turnN (fN f) (nB b1 b0)) 0]) (by simp only [sxs, ph_R3_addsub_Turn, u8_1, u8_0, u64_0]; exact k_addsub_Turn (fN_u f) (nB_u _ _)) (by rfl)).trans ?_
      refine (treeF_call (r := [wd (r) 1, wd (r) 0, (0 : Int)]) (by simp only [sxs, ph_R3_rem_Rem, u8_1, u8_0, u64_0]; exact (k_rem_Rem (fN_u f) hf (nB_u _ _) (nB_small (turn_lt _ _))).trans (by rw [k2]; try rfl)) (by rfl)).trans ?_
      refine (treeF_call (r := [wd (turnN (fN f) (nB a1 a0)) 1, wd (turnN (fN f) (nB a1 a0)) 0]) (by simp only [sxs, ph_R3_addsub_Turn, u8_1, u8_0, u64_0]; exact k_addsub_Turn (fN_u f) (nB_u _ _)) (by rfl)).trans ?_
      refine (treeF_call (r := [wd (turnN (fN f) (r)) 1, wd (turnN (fN f) (r)) 0, (0 : Int)]) (by simp only [sxs, ph_R3_rem_Rem, u8_1, u8_0, u64_0]; exact (k_rem_Rem (fN_u f) hf (nB_small (turn_lt _ _)) (nB_u _ _)).trans (by rw [k3]; try rfl)) (by rfl)).trans ?_
      refine (treeF_call (r := [b2i (decide (4 ≤ clsF (fN f) (r)))]) (by simp only [sxs, ph_R3_class_NaN, u8_1, u8_0, u64_0]; exact k_class_NaN (fN_u f) (nB_small (rl))) (by rfl)).trans ?_
      refine tF (by simp only [sxs, u8_1, u8_0, u64_0]; exact decide_eq_false (nn)) ?_
      refine tT (by simp only [sxs, u8_1, u8_0, u64_0]; simp only [beq_self_eq_true, Bool.and_true, Bool.and_self, bt1, bt0]) ?_
      refine (treeF_call (r := [wd (turnN (fN f) (r)) 1, wd (turnN (fN f) (r)) 0]) (by simp only [sxs, ph_R3_addsub_Turn, u8_1, u8_0, u64_0]; exact k_addsub_Turn (fN_u f) (nB_small (rl))) (by rfl)).trans ?_
      refine tT (by simp only [sxs, u8_1, u8_0, u64_0]; simp only [beq_self_eq_true, Bool.and_true, Bool.and_self, bt1, bt0]) ?_
      rw [treeF_leaf rfl]; rfl
  · skip
    refine tT (by simp only [sxs]; rw [decide_eq_false (fun h => hf ((u8_lt4 f).1 h))]; rfl) ?_
    rw [treeF_leaf rfl]; rfl
end Go.Proofs.YtafnnnhmplgkcaaGreatDoor
