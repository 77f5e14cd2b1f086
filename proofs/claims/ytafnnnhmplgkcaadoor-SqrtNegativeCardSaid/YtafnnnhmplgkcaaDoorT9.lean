import Derived.Test.YtafnnnhmplgkcaaDoorP31
import Derived.Test.YtafnnnhmplgkcaaDoorV2
/- Laws of roots: their order; negative numbers, nans. -/
namespace Go.Proofs.YtafnnnhmplgkcaaDoor
set_option linter.unusedVariables false
set_option linter.unusedSimpArgs false
set_option maxRecDepth 100000
open Go.RowKit
theorem true_SqrtOrder (l : List Int) (h : l.length = 7) : F_law22_SqrtOrder l = [1] := by
  match l, h with
  | [f, m, t, a1, a0, b1, b0], _ =>
  rw [F_law22_SqrtOrder, t_law22_SqrtOrder]
  by_cases hf : fN f < 4
  · have known := known_f hf
    obtain ⟨sa1, sa2, sa3⟩ := size_facts hf (nB a1 a0)
    obtain ⟨sb1, sb2, sb3⟩ := size_facts hf (nB b1 b0)
    by_cases na : 4 ≤ clsF (fN f) (sizeN (fN f) (nB a1 a0))
    · skip
      refine (treeF_call (r := [wd (sizeN (fN f) (nB a1 a0)) 1, wd (sizeN (fN f) (nB a1 a0)) 0]) (by simp only [sxs, ph_V2_law22_size, op_rem8]; exact k_law22_size (fN_u f) hf (nB_u _ _)) (by rfl)).trans ?_
      refine (treeF_call (r := [wd (sizeN (fN f) (nB b1 b0)) 1, wd (sizeN (fN f) (nB b1 b0)) 0]) (by simp only [sxs, ph_V2_law22_size, op_rem8]; exact k_law22_size (fN_u f) hf (nB_u _ _)) (by rfl)).trans ?_
      refine (treeF_call (r := [b2i (decide (4 ≤ clsF (fN f) (sizeN (fN f) (nB a1 a0))))]) (by simp only [sxs, ph_V2_class_NaN, op_rem8]; exact k_class_NaN (fN_u f) (nB_small (size_lt hf _))) (by rfl)).trans ?_
      refine tT (by simp only [sxs, op_rem8]; exact decide_eq_true (na)) ?_
      rw [treeF_leaf rfl]; rfl
    by_cases nb : 4 ≤ clsF (fN f) (sizeN (fN f) (nB b1 b0))
    · skip
      refine (treeF_call (r := [wd (sizeN (fN f) (nB a1 a0)) 1, wd (sizeN (fN f) (nB a1 a0)) 0]) (by simp only [sxs, ph_V2_law22_size, op_rem8]; exact k_law22_size (fN_u f) hf (nB_u _ _)) (by rfl)).trans ?_
      refine (treeF_call (r := [wd (sizeN (fN f) (nB b1 b0)) 1, wd (sizeN (fN f) (nB b1 b0)) 0]) (by simp only [sxs, ph_V2_law22_size, op_rem8]; exact k_law22_size (fN_u f) hf (nB_u _ _)) (by rfl)).trans ?_
      refine (treeF_call (r := [b2i (decide (4 ≤ clsF (fN f) (sizeN (fN f) (nB a1 a0))))]) (by simp only [sxs, ph_V2_class_NaN, op_rem8]; exact k_class_NaN (fN_u f) (nB_small (size_lt hf _))) (by rfl)).trans ?_
      refine tF (by simp only [sxs, op_rem8]; exact decide_eq_false (na)) ?_
      refine (treeF_call (r := [b2i (decide (4 ≤ clsF (fN f) (sizeN (fN f) (nB b1 b0))))]) (by simp only [sxs, ph_V2_class_NaN, op_rem8]; exact k_class_NaN (fN_u f) (nB_small (size_lt hf _))) (by rfl)).trans ?_
      refine tT (by simp only [sxs, op_rem8]; exact decide_eq_true (nb)) ?_
      rw [treeF_leaf rfl]; rfl
    have na' : ¬ 4 ≤ clsF (fN f) (nB a1 a0) := by rw [← sa1]; exact na
    have nb' : ¬ 4 ≤ clsF (fN f) (nB b1 b0) := by rw [← sb1]; exact nb
    have o1 := sqrtR_order hf ((u8 m).toNat % 5) (iNz t) na' nb'
    have o2 := sqrtR_order hf ((u8 m).toNat % 5) (iNz t) nb' na'
    have la := sqrtR_lt hf ((u8 m).toNat % 5) (iNz t) (sizeN (fN f) (nB a1 a0))
    have lb := sqrtR_lt hf ((u8 m).toNat % 5) (iNz t) (sizeN (fN f) (nB b1 b0))
    generalize k1 : sqrtR (fN f) ((u8 m).toNat % 5) (iNz t) (sizeN (fN f) (nB a1 a0)) = RA at *
    generalize k2 : sqrtR (fN f) ((u8 m).toNat % 5) (iNz t) (sizeN (fN f) (nB b1 b0)) = RB at *
    obtain ⟨x, g1⟩ := RA
    obtain ⟨y, g2⟩ := RB
    simp only at o1 o2 la lb
    by_cases hc : sizeN (fN f) (nB b1 b0) < sizeN (fN f) (nB a1 a0)
    · have hle := o2 (Nat.le_of_lt hc)
      refine (treeF_call (r := [wd (sizeN (fN f) (nB a1 a0)) 1, wd (sizeN (fN f) (nB a1 a0)) 0]) (by simp only [sxs, ph_V2_law22_size, op_rem8]; exact k_law22_size (fN_u f) hf (nB_u _ _)) (by rfl)).trans ?_
      refine (treeF_call (r := [wd (sizeN (fN f) (nB b1 b0)) 1, wd (sizeN (fN f) (nB b1 b0)) 0]) (by simp only [sxs, ph_V2_law22_size, op_rem8]; exact k_law22_size (fN_u f) hf (nB_u _ _)) (by rfl)).trans ?_
      refine (treeF_call (r := [b2i (decide (4 ≤ clsF (fN f) (sizeN (fN f) (nB a1 a0))))]) (by simp only [sxs, ph_V2_class_NaN, op_rem8]; exact k_class_NaN (fN_u f) (nB_small (size_lt hf _))) (by rfl)).trans ?_
      refine tF (by simp only [sxs, op_rem8]; exact decide_eq_false (na)) ?_
      refine (treeF_call (r := [b2i (decide (4 ≤ clsF (fN f) (sizeN (fN f) (nB b1 b0))))]) (by simp only [sxs, ph_V2_class_NaN, op_rem8]; exact k_class_NaN (fN_u f) (nB_small (size_lt hf _))) (by rfl)).trans ?_
      refine tF (by simp only [sxs, op_rem8]; exact decide_eq_false (nb)) ?_
      refine (treeF_call (r := [nCmp (sizeN (fN f) (nB a1 a0)) (sizeN (fN f) (nB b1 b0))]) (by simp only [sxs, ph_V2_word_Cmp, op_rem8]; exact k_wordCmp (size_lt hf _) (size_lt hf _)) (by rfl)).trans ?_
      refine tT (by simp only [sxs, nCmp_i64]; exact nCmp_gt.trans (decide_eq_true hc)) ?_
      refine (treeF_call (r := [wd (y) 1, wd (y) 0, ((g2 : Nat) : Int)]) (by simp only [sxs, ph_V2_sqrt_Sqrt, op_rem8]; exact (k_sqrt_Sqrt (fN_u f) hf ((md_rem m).1) ((md_rem m).2) (iNz_b2i _) (nB_small (size_lt hf _))).trans (by rw [k2]; try rfl)) (by rfl)).trans ?_
      refine (treeF_call (r := [wd (x) 1, wd (x) 0, ((g1 : Nat) : Int)]) (by simp only [sxs, ph_V2_sqrt_Sqrt, op_rem8]; exact (k_sqrt_Sqrt (fN_u f) hf ((md_rem m).1) ((md_rem m).2) (iNz_b2i _) (nB_small (size_lt hf _))).trans (by rw [k1]; try rfl)) (by rfl)).trans ?_
      refine (treeF_call (r := [nCmp (y) (x)]) (by simp only [sxs, ph_V2_word_Cmp, op_rem8]; exact k_wordCmp (lb) (la)) (by rfl)).trans ?_
      refine tT (by simp only [sxs, nCmp_i64]; exact nCmp_le'.trans (decide_eq_true hle)) ?_
      rw [treeF_leaf rfl]; rfl
    · have hle := o1 (by omega)
      refine (treeF_call (r := [wd (sizeN (fN f) (nB a1 a0)) 1, wd (sizeN (fN f) (nB a1 a0)) 0]) (by simp only [sxs, ph_V2_law22_size, op_rem8]; exact k_law22_size (fN_u f) hf (nB_u _ _)) (by rfl)).trans ?_
      refine (treeF_call (r := [wd (sizeN (fN f) (nB b1 b0)) 1, wd (sizeN (fN f) (nB b1 b0)) 0]) (by simp only [sxs, ph_V2_law22_size, op_rem8]; exact k_law22_size (fN_u f) hf (nB_u _ _)) (by rfl)).trans ?_
      refine (treeF_call (r := [b2i (decide (4 ≤ clsF (fN f) (sizeN (fN f) (nB a1 a0))))]) (by simp only [sxs, ph_V2_class_NaN, op_rem8]; exact k_class_NaN (fN_u f) (nB_small (size_lt hf _))) (by rfl)).trans ?_
      refine tF (by simp only [sxs, op_rem8]; exact decide_eq_false (na)) ?_
      refine (treeF_call (r := [b2i (decide (4 ≤ clsF (fN f) (sizeN (fN f) (nB b1 b0))))]) (by simp only [sxs, ph_V2_class_NaN, op_rem8]; exact k_class_NaN (fN_u f) (nB_small (size_lt hf _))) (by rfl)).trans ?_
      refine tF (by simp only [sxs, op_rem8]; exact decide_eq_false (nb)) ?_
      refine (treeF_call (r := [nCmp (sizeN (fN f) (nB a1 a0)) (sizeN (fN f) (nB b1 b0))]) (by simp only [sxs, ph_V2_word_Cmp, op_rem8]; exact k_wordCmp (size_lt hf _) (size_lt hf _)) (by rfl)).trans ?_
      refine tF (by simp only [sxs, nCmp_i64]; exact nCmp_gt.trans (decide_eq_false hc)) ?_
      refine (treeF_call (r := [wd (x) 1, wd (x) 0, ((g1 : Nat) : Int)]) (by simp only [sxs, ph_V2_sqrt_Sqrt, op_rem8]; exact (k_sqrt_Sqrt (fN_u f) hf ((md_rem m).1) ((md_rem m).2) (iNz_b2i _) (nB_small (size_lt hf _))).trans (by rw [k1]; try rfl)) (by rfl)).trans ?_
      refine (treeF_call (r := [wd (y) 1, wd (y) 0, ((g2 : Nat) : Int)]) (by simp only [sxs, ph_V2_sqrt_Sqrt, op_rem8]; exact (k_sqrt_Sqrt (fN_u f) hf ((md_rem m).1) ((md_rem m).2) (iNz_b2i _) (nB_small (size_lt hf _))).trans (by rw [k2]; try rfl)) (by rfl)).trans ?_
      refine (treeF_call (r := [nCmp (x) (y)]) (by simp only [sxs, ph_V2_word_Cmp, op_rem8]; exact k_wordCmp (la) (lb)) (by rfl)).trans ?_
      refine tT (by simp only [sxs, nCmp_i64]; exact nCmp_le'.trans (decide_eq_true hle)) ?_
      rw [treeF_leaf rfl]; rfl
  · have nan0 : F_class_NaN [u8 f, 0, 0] = [b2i false] := by
      rw [s_class_NaN]; unfold clsF; rw [if_neg (by rw [fN_u]; exact hf)]; rfl
    have cmp0 : F_word_Cmp [0, 0, 0, 0] = [0] := by rw [s_word_Cmp]; rfl
    refine (treeF_call (r := [(0 : Int), (0 : Int)]) (by simp only [sxs, ph_V2_law22_size, op_rem8]; exact k_law22_size0 (by rw [fN_u]; exact hf)) (by rfl)).trans ?_
    refine (treeF_call (r := [(0 : Int), (0 : Int)]) (by simp only [sxs, ph_V2_law22_size, op_rem8]; exact k_law22_size0 (by rw [fN_u]; exact hf)) (by rfl)).trans ?_
    refine (treeF_call (r := [b2i (false)]) (by simp only [sxs, ph_V2_class_NaN, op_rem8]; exact nan0) (by rfl)).trans ?_
    refine tF (by simp only [sxs]) ?_
    refine (treeF_call (r := [b2i (false)]) (by simp only [sxs, ph_V2_class_NaN, op_rem8]; exact nan0) (by rfl)).trans ?_
    refine tF (by simp only [sxs]) ?_
    refine (treeF_call (r := [0]) (by simp only [sxs, ph_V2_word_Cmp, op_rem8]; exact cmp0) (by rfl)).trans ?_
    refine tF (by simp only [sxs]; rfl) ?_
    refine (treeF_call (r := [(0 : Int), (0 : Int), (0 : Int)]) (by simp only [sxs, ph_V2_sqrt_Sqrt, op_rem8]; exact s_sqrt_Sqrt0 _ _ _ _ _ (fun h => hf (by have := h.1; rwa [fN_u] at this))) (by rfl)).trans ?_
    refine (treeF_call (r := [(0 : Int), (0 : Int), (0 : Int)]) (by simp only [sxs, ph_V2_sqrt_Sqrt, op_rem8]; exact s_sqrt_Sqrt0 _ _ _ _ _ (fun h => hf (by have := h.1; rwa [fN_u] at this))) (by rfl)).trans ?_
    refine (treeF_call (r := [0]) (by simp only [sxs, ph_V2_word_Cmp, op_rem8]; exact cmp0) (by rfl)).trans ?_
    refine tT (by simp only [sxs]; rfl) ?_
    rw [treeF_leaf rfl]; rfl
theorem true_SqrtNegative (l : List Int) (h : l.length = 5) : F_law22_SqrtNegative l = [1] := by
  match l, h with
  | [f, m, t, a1, a0], _ =>
  rw [F_law22_SqrtNegative, t_law22_SqrtNegative]
  by_cases hf : fN f < 4
  · by_cases hm : u8 m ≤ 4
    · have known := known_f hf
      have knownm := known_m hm
      have u8A := clsF_u8 (fN f) (nB a1 a0)
      by_cases na : 4 ≤ clsF (fN f) (nB a1 a0)
      · have k1 := sqrtR_n1 (u8 m).toNat (iNz t) na
        obtain ⟨q1, q2, q3⟩ := quN_lt hf na
        by_cases h5 : clsF (fN f) (nB a1 a0) = 5
        · rw [if_pos h5] at k1
          refine (treeF_call (r := [wd (quN (fN f) (nB a1 a0)) 1, wd (quN (fN f) (nB a1 a0)) 0, (1 : Int)]) (by simp only [sxs, ph_V2_sqrt_Sqrt, u8_1]; exact (k_sqrt_Sqrt (fN_u f) hf ((md_u hm).1) ((md_u hm).2) (iNz_b2i _) (nB_u _ _)).trans (by rw [k1]; try rfl)) (by rfl)).trans ?_
          refine tF (by simp only [sxs, u8_1]; exact known) ?_
          refine tF (by simp only [sxs, u8_1]; exact knownm) ?_
          refine (treeF_call (r := [((clsF (fN f) (nB a1 a0) : Nat) : Int), b2i (FP.sgn (fN f) (nB a1 a0))]) (by simp only [sxs, ph_V2_class_Of, u8_1]; exact k_class_Of (fN_u f) hf (nB_u _ _)) (by rfl)).trans ?_
          refine tT (by simp only [sxs, u8A]; exact decide_eq_true (by omega)) ?_
          refine (treeF_call (r := [b2i (decide (4 ≤ clsF (fN f) (quN (fN f) (nB a1 a0))))]) (by simp only [sxs, ph_V2_class_NaN, u8_1]; exact k_class_NaN (fN_u f) (nB_small (q1))) (by rfl)).trans ?_
          refine tT (by simp only [sxs, u8_1]; exact decide_eq_true (q2)) ?_
          refine (treeF_call (r := [b2i (decide (clsF (fN f) (quN (fN f) (nB a1 a0)) = 5))]) (by simp only [sxs, ph_V2_class_Signaling, u8_1]; exact k_class_Signaling (fN_u f) (nB_small (q1))) (by rfl)).trans ?_
          refine tT (by exact nF (by simp only [sxs, u8_1]; exact decide_eq_false (q3))) ?_
          refine tT (by simp only [sxs, u8A, u8_1, h5]; rfl) ?_
          rw [treeF_leaf rfl]; rfl
        · rw [if_neg h5] at k1
          have b5 : (((clsF (fN f) (nB a1 a0) : Nat) : Int) == 5) = false := (beq_nk _ 5).trans (decide_eq_false h5)
          refine (treeF_call (r := [wd (quN (fN f) (nB a1 a0)) 1, wd (quN (fN f) (nB a1 a0)) 0, (0 : Int)]) (by simp only [sxs, ph_V2_sqrt_Sqrt, u8_0]; exact (k_sqrt_Sqrt (fN_u f) hf ((md_u hm).1) ((md_u hm).2) (iNz_b2i _) (nB_u _ _)).trans (by rw [k1]; try rfl)) (by rfl)).trans ?_
          refine tF (by simp only [sxs, u8_0]; exact known) ?_
          refine tF (by simp only [sxs, u8_0]; exact knownm) ?_
          refine (treeF_call (r := [((clsF (fN f) (nB a1 a0) : Nat) : Int), b2i (FP.sgn (fN f) (nB a1 a0))]) (by simp only [sxs, ph_V2_class_Of, u8_0]; exact k_class_Of (fN_u f) hf (nB_u _ _)) (by rfl)).trans ?_
          refine tT (by simp only [sxs, u8A]; exact decide_eq_true (by omega)) ?_
          refine (treeF_call (r := [b2i (decide (4 ≤ clsF (fN f) (quN (fN f) (nB a1 a0))))]) (by simp only [sxs, ph_V2_class_NaN, u8_0]; exact k_class_NaN (fN_u f) (nB_small (q1))) (by rfl)).trans ?_
          refine tT (by simp only [sxs, u8_0]; exact decide_eq_true (q2)) ?_
          refine (treeF_call (r := [b2i (decide (clsF (fN f) (quN (fN f) (nB a1 a0)) = 5))]) (by simp only [sxs, ph_V2_class_Signaling, u8_0]; exact k_class_Signaling (fN_u f) (nB_small (q1))) (by rfl)).trans ?_
          refine tT (by exact nF (by simp only [sxs, u8_0]; exact decide_eq_false (q3))) ?_
          refine tT (by simp only [sxs, u8A, u8_0, b5]; rfl) ?_
          rw [treeF_leaf rfl]; rfl
      · by_cases h0 : clsF (fN f) (nB a1 a0) = 0
        · have k1 := sqrtR_n0 hf (u8 m).toNat (iNz t) h0
          refine (treeF_call (r := [wd (nB a1 a0 % 2 ^ FP.fW (fN f)) 1, wd (nB a1 a0 % 2 ^ FP.fW (fN f)) 0, (0 : Int)]) (by simp only [sxs, ph_V2_sqrt_Sqrt, u8_0]; exact (k_sqrt_Sqrt (fN_u f) hf ((md_u hm).1) ((md_u hm).2) (iNz_b2i _) (nB_u _ _)).trans (by rw [k1]; try rfl)) (by rfl)).trans ?_
          refine tF (by simp only [sxs, u8_0]; exact known) ?_
          refine tF (by simp only [sxs, u8_0]; exact knownm) ?_
          refine (treeF_call (r := [((clsF (fN f) (nB a1 a0) : Nat) : Int), b2i (FP.sgn (fN f) (nB a1 a0))]) (by simp only [sxs, ph_V2_class_Of, u8_0]; exact k_class_Of (fN_u f) hf (nB_u _ _)) (by rfl)).trans ?_
          refine tF (by simp only [sxs, u8A]; exact decide_eq_false (by omega)) ?_
          refine tT (by simp only [sxs, u8A]; exact (beq_nk _ 0).trans (decide_eq_true (by omega))) ?_
          refine (treeF_call (r := [wd (nB a1 a0 % 2 ^ FP.fW (fN f)) 1, wd (nB a1 a0 % 2 ^ FP.fW (fN f)) 0]) (by simp only [sxs, ph_V2_format_Cut, u8_0]; exact k_format_Cut (fN_u f) (nB_u _ _)) (by rfl)).trans ?_
          refine tT (by simp only [sxs, u8_0]; simp only [beq_self_eq_true, Bool.and_true, Bool.and_self, bt1, bt0]) ?_
          rw [treeF_leaf rfl]; rfl
        · by_cases hs : FP.sgn (fN f) (nB a1 a0) = true
          · have k1 := sqrtR_n2 (u8 m).toNat (iNz t) na h0 hs
            have dl : dfl (fN f) < W128 := mk_W hf false (dfl_code hf)
            have dn : 4 ≤ clsF (fN f) (dfl (fN f)) := by rw [clsF_dfl hf]; exact Nat.le_refl _
            refine (treeF_call (r := [wd (dfl (fN f)) 1, wd (dfl (fN f)) 0, (1 : Int)]) (by simp only [sxs, ph_V2_sqrt_Sqrt, u8_1]; exact (k_sqrt_Sqrt (fN_u f) hf ((md_u hm).1) ((md_u hm).2) (iNz_b2i _) (nB_u _ _)).trans (by rw [k1]; try rfl)) (by rfl)).trans ?_
            refine tF (by simp only [sxs, u8_1]; exact known) ?_
            refine tF (by simp only [sxs, u8_1]; exact knownm) ?_
            refine (treeF_call (r := [((clsF (fN f) (nB a1 a0) : Nat) : Int), b2i (FP.sgn (fN f) (nB a1 a0))]) (by simp only [sxs, ph_V2_class_Of, u8_1]; exact k_class_Of (fN_u f) hf (nB_u _ _)) (by rfl)).trans ?_
            refine tF (by simp only [sxs, u8A]; exact decide_eq_false (by omega)) ?_
            refine tF (by simp only [sxs, u8A]; exact (beq_nk _ 0).trans (decide_eq_false (by omega))) ?_
            refine tT (by simp only [sxs]; exact hs) ?_
            refine (treeF_call (r := [b2i (decide (4 ≤ clsF (fN f) (dfl (fN f))))]) (by simp only [sxs, ph_V2_class_NaN, u8_1]; exact k_class_NaN (fN_u f) (nB_small (dl))) (by rfl)).trans ?_
            refine tT (by simp only [sxs, u8_1]; exact decide_eq_true (dn)) ?_
            refine tT (by simp only [sxs, u8_1]; simp only [beq_self_eq_true, bne_self_eq_false]) ?_
            rw [treeF_leaf rfl]; rfl
          · obtain ⟨k, g, k1, kl, kn, kg⟩ := sqrtR_n3 hf (u8 m).toNat (iNz t) na h0 hs
            refine (treeF_call (r := [wd (k) 1, wd (k) 0, ((g : Nat) : Int)]) (by simp only [sxs, ph_V2_sqrt_Sqrt]; exact (k_sqrt_Sqrt (fN_u f) hf ((md_u hm).1) ((md_u hm).2) (iNz_b2i _) (nB_u _ _)).trans (by rw [k1]; try rfl)) (by rfl)).trans ?_
            refine tF (by simp only [sxs]; exact known) ?_
            refine tF (by simp only [sxs]; exact knownm) ?_
            refine (treeF_call (r := [((clsF (fN f) (nB a1 a0) : Nat) : Int), b2i (FP.sgn (fN f) (nB a1 a0))]) (by simp only [sxs, ph_V2_class_Of]; exact k_class_Of (fN_u f) hf (nB_u _ _)) (by rfl)).trans ?_
            refine tF (by simp only [sxs, u8A]; exact decide_eq_false (by omega)) ?_
            refine tF (by simp only [sxs, u8A]; exact (beq_nk _ 0).trans (decide_eq_false (by omega))) ?_
            refine tF (by simp only [sxs]; exact Bool.eq_false_iff.2 hs) ?_
            refine (treeF_call (r := [b2i (decide (4 ≤ clsF (fN f) (k)))]) (by simp only [sxs, ph_V2_class_NaN]; exact k_class_NaN (fN_u f) (nB_small (kl))) (by rfl)).trans ?_
            refine tT (by exact nF (by simp only [sxs]; exact decide_eq_false (kn))) ?_
            refine tT (by simp only [sxs]; rcases kg with h | h | h | h <;> rw [h] <;> rfl) ?_
            rw [treeF_leaf rfl]; rfl
    · have known := known_f hf
      have hfm : ¬ (fN f < 4 ∧ u8 m ≤ 4) := fun h => hm h.2
      refine (treeF_call (r := [(0 : Int), (0 : Int), (0 : Int)]) (by simp only [sxs, ph_V2_sqrt_Sqrt, u8_0, u64_0]; exact s_sqrt_Sqrt0 _ _ _ _ _ (by rw [fN_u, u8_u8]; exact hfm)) (by rfl)).trans ?_
      refine tF (by simp only [sxs, u8_0, u64_0]; exact known) ?_
      refine tT (by simp only [sxs]; rw [decide_eq_false hm]; rfl) ?_
      refine tT (by simp only [sxs, u8_0, u64_0]; simp only [beq_self_eq_true, Bool.and_true, Bool.and_self, bt1, bt0]) ?_
      rw [treeF_leaf rfl]; rfl
  · have hfm : ¬ (fN f < 4 ∧ u8 m ≤ 4) := fun h => hf h.1
    refine (treeF_call (r := [(0 : Int), (0 : Int), (0 : Int)]) (by simp only [sxs, ph_V2_sqrt_Sqrt, u8_0, u64_0]; exact s_sqrt_Sqrt0 _ _ _ _ _ (by rw [fN_u, u8_u8]; exact hfm)) (by rfl)).trans ?_
    refine tT (by simp only [sxs]; rw [decide_eq_false (fun h => hf ((u8_lt4 f).1 h))]; rfl) ?_
    refine tT (by simp only [sxs, u8_0, u64_0]; simp only [beq_self_eq_true, Bool.and_true, Bool.and_self, bt1, bt0]) ?_
    rw [treeF_leaf rfl]; rfl
end Go.Proofs.YtafnnnhmplgkcaaDoor
