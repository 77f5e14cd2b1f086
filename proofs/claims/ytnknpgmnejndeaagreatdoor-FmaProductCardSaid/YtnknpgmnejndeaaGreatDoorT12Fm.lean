import Derived.Test.YtnknpgmnejndeaaGreatDoorP37Fm
import Derived.Test.YtnknpgmnejndeaaGreatDoorB2Fm
/- Laws of fused products; products by 1, by 2. -/
namespace Go.Proofs.YtnknpgmnejndeaaGreatDoor
set_option linter.unusedVariables false
set_option linter.unusedSimpArgs false
set_option maxRecDepth 100000
open Go.RowKit
theorem true_FmaSum (l : List Int) (h : l.length = 7) : F_law20_FmaSum l = [1] := by
  match l, h with
  | [f, m, t, a1, a0, c1, c0], _ =>
  rw [F_law20_FmaSum, t_law20_FmaSum]
  by_cases hf : fN f < 4
  · by_cases hm : u8 m ≤ 4
    · have known := known_f hf
      have knownm := known_m hm
      have k1 := fmaR_one hf (u8 m).toNat (iNz t) (nB a1 a0) (nB c1 c0)
      have hl := addR_lt hf (u8 m).toNat (iNz t) (nB a1 a0) (nB c1 c0)
      generalize k2 : addR (fN f) (u8 m).toNat (iNz t) (nB a1 a0) (nB c1 c0) = R at *
      obtain ⟨r, g⟩ := R
      refine tF (by simp only [sxs, u8_0, u64_0]; exact known) ?_
      refine (treeF_call (r := [((FP.fE (fN f) : Nat) : Int)]) (by simp only [sxs, ph_B2_format_Emax, u8_0, u64_0]; exact k_format_Emax (fN_u f)) (by rfl)).trans ?_
      refine (treeF_call (r := [wd (FP.mk (fN f) false (FP.oneC (fN f))) 1, wd (FP.mk (fN f) false (FP.oneC (fN f))) 0]) (by simp only [sxs, ph_B2_format_Make, u8_0, u64_0]; exact k_one (fN_u f) hf) (by rfl)).trans ?_
      refine (treeF_call (r := [wd (r) 1, wd (r) 0, ((g : Nat) : Int)]) (by simp only [sxs, ph_B2_fma_Fma, u8_0, u64_0]; exact (k_fma_Fma (fN_u f) hf ((md_u hm).1) ((md_u hm).2) (iNz_b2i _) (nB_u _ _) (nB_small (mk_W hf _ (one_bits hf).1)) (nB_u _ _)).trans (by rw [k1]; try rfl)) (by rfl)).trans ?_
      refine (treeF_call (r := [wd (r) 1, wd (r) 0, ((g : Nat) : Int)]) (by simp only [sxs, ph_B2_addsub_Add, u8_0, u64_0]; exact (k_addsub_Add (fN_u f) hf ((md_u hm).1) ((md_u hm).2) (iNz_b2i _) (nB_u _ _) (nB_u _ _)).trans (by rw [k2]; try rfl)) (by rfl)).trans ?_
      refine tT (by simp only [sxs, u8_0, u64_0]; simp only [beq_self_eq_true, Bool.and_true, Bool.and_self, bt1, bt0]) ?_
      rw [treeF_leaf rfl]; rfl
    · have known := known_f hf
      have hfm : ¬ (fN f < 4 ∧ u8 m ≤ 4) := fun h => hm h.2
      refine tF (by simp only [sxs, u8_0, u64_0]; exact known) ?_
      refine (treeF_call (r := [((FP.fE (fN f) : Nat) : Int)]) (by simp only [sxs, ph_B2_format_Emax, u8_0, u64_0]; exact k_format_Emax (fN_u f)) (by rfl)).trans ?_
      refine (treeF_call (r := [wd (FP.mk (fN f) false (FP.oneC (fN f))) 1, wd (FP.mk (fN f) false (FP.oneC (fN f))) 0]) (by simp only [sxs, ph_B2_format_Make, u8_0, u64_0]; exact k_one (fN_u f) hf) (by rfl)).trans ?_
      refine (treeF_call (r := [(0 : Int), (0 : Int), (0 : Int)]) (by simp only [sxs, ph_B2_fma_Fma, u8_0, u64_0]; exact s_fma_Fma0 _ _ _ _ _ _ _ _ _ (by rw [fN_u, u8_u8]; exact hfm)) (by rfl)).trans ?_
      refine (treeF_call (r := [(0 : Int), (0 : Int), (0 : Int)]) (by simp only [sxs, ph_B2_addsub_Add, u8_0, u64_0]; exact s_addsub_Add0 _ _ _ _ _ _ _ (by rw [fN_u, u8_u8]; exact hfm)) (by rfl)).trans ?_
      refine tT (by simp only [sxs, u8_0, u64_0]; simp only [beq_self_eq_true, Bool.and_true, Bool.and_self, bt1, bt0]) ?_
      rw [treeF_leaf rfl]; rfl
  · have hfm : ¬ (fN f < 4 ∧ u8 m ≤ 4) := fun h => hf h.1
    refine tT (by simp only [sxs]; rw [decide_eq_false (fun h => hf ((u8_lt4 f).1 h))]; rfl) ?_
    refine (treeF_call (r := [(0 : Int), (0 : Int), (0 : Int)]) (by simp only [sxs, ph_B2_fma_Fma, u8_0, u64_0]; exact s_fma_Fma0 _ _ _ _ _ _ _ _ _ (by rw [fN_u, u8_u8]; exact hfm)) (by rfl)).trans ?_
    refine tT (by simp only [sxs, u8_0, u64_0]; simp only [beq_self_eq_true, Bool.and_true, Bool.and_self, bt1, bt0]) ?_
    rw [treeF_leaf rfl]; rfl
theorem true_FmaProduct (l : List Int) (h : l.length = 8) : F_law20_FmaProduct l = [1] := by
  match l, h with
  | [f, m, t, a1, a0, b1, b0, n], _ =>
  rw [F_law20_FmaProduct, t_law20_FmaProduct]
  by_cases hf : fN f < 4
  · by_cases hm : u8 m ≤ 4
    · have known := known_f hf
      have knownm := known_m hm
      have hl := mulR_lt' hf (u8 m).toNat (iNz t) (nB a1 a0) (nB b1 b0)
      have hg := mulR_flag' hf (u8 m).toNat (iNz t) (nB a1 a0) (nB b1 b0)
      rcases fmaR_nought hf (u8 m).toNat (iNz t) (iNz n) (nB a1 a0) (nB b1 b0) with k2 | ⟨s, s', k2, k1⟩
      · generalize k1 : mulR (fN f) (u8 m).toNat (iNz t) (nB a1 a0) (nB b1 b0) = R at *
        obtain ⟨r, g⟩ := R
        simp only at hl hg
        have g8 := u8_flag (k := g) (by omega)
        by_cases c0 : clsF (fN f) r = 0
        · by_cases g0 : g = 0
          · subst g0
            refine (treeF_call (r := [wd (r) 1, wd (r) 0, (0 : Int)]) (by simp only [sxs, ph_B2_mul_Mul, u8_0]; exact (k_mul_Mul (fN_u f) hf ((md_u hm).1) ((md_u hm).2) (iNz_b2i _) (nB_u _ _) (nB_u _ _)).trans (by rw [k1]; try rfl)) (by rfl)).trans ?_
            refine (treeF_call (r := [wd (FP.mk (fN f) (iNz n) (0)) 1, wd (FP.mk (fN f) (iNz n) (0)) 0]) (by simp only [sxs, ph_B2_format_Nought, u8_0]; exact k_format_Nought (fN_u f) hf (iNz_b2i _)) (by rfl)).trans ?_
            refine (treeF_call (r := [wd (r) 1, wd (r) 0, (0 : Int)]) (by simp only [sxs, ph_B2_fma_Fma, u8_0]; exact (k_fma_Fma (fN_u f) hf ((md_u hm).1) ((md_u hm).2) (iNz_b2i _) (nB_u _ _) (nB_u _ _) (nB_small (mk_W hf _ (FP.two_pow_pos _)))).trans (by rw [k2]; try rfl)) (by rfl)).trans ?_
            refine tF (by simp only [sxs, u8_0]; exact known) ?_
            refine tF (by simp only [sxs, u8_0]; exact knownm) ?_
            refine (treeF_call (r := [((clsF (fN f) (r) : Nat) : Int), b2i (FP.sgn (fN f) (r))]) (by simp only [sxs, ph_B2_class_Of, u8_0]; exact k_class_Of (fN_u f) hf (nB_small (hl))) (by rfl)).trans ?_
            refine tT (by simp only [sxs, clsF_u8]; exact (beq_nk0 _).trans (decide_eq_true (c0))) ?_
            refine tT (by simp only [sxs, u8_0]; simp only [beq_self_eq_true, bne_self_eq_false]) ?_
            refine (treeF_call (r := [((clsF (fN f) (r) : Nat) : Int), b2i (FP.sgn (fN f) (r))]) (by simp only [sxs, ph_B2_class_Of, u8_0]; exact k_class_Of (fN_u f) hf (nB_small (hl))) (by rfl)).trans ?_
            refine tT (by simp only [sxs, clsF_u8]; exact (beq_nk0 _).trans (decide_eq_true (c0))) ?_
            refine tT (by simp only [sxs, u8_0]; simp only [beq_self_eq_true, bne_self_eq_false]) ?_
            rw [treeF_leaf rfl]; rfl
          · skip
            refine (treeF_call (r := [wd (r) 1, wd (r) 0, ((g : Nat) : Int)]) (by simp only [sxs, ph_B2_mul_Mul, g8]; exact (k_mul_Mul (fN_u f) hf ((md_u hm).1) ((md_u hm).2) (iNz_b2i _) (nB_u _ _) (nB_u _ _)).trans (by rw [k1]; try rfl)) (by rfl)).trans ?_
            refine (treeF_call (r := [wd (FP.mk (fN f) (iNz n) (0)) 1, wd (FP.mk (fN f) (iNz n) (0)) 0]) (by simp only [sxs, ph_B2_format_Nought, g8]; exact k_format_Nought (fN_u f) hf (iNz_b2i _)) (by rfl)).trans ?_
            refine (treeF_call (r := [wd (r) 1, wd (r) 0, ((g : Nat) : Int)]) (by simp only [sxs, ph_B2_fma_Fma, g8]; exact (k_fma_Fma (fN_u f) hf ((md_u hm).1) ((md_u hm).2) (iNz_b2i _) (nB_u _ _) (nB_u _ _) (nB_small (mk_W hf _ (FP.two_pow_pos _)))).trans (by rw [k2]; try rfl)) (by rfl)).trans ?_
            refine tF (by simp only [sxs, g8]; exact known) ?_
            refine tF (by simp only [sxs, g8]; exact knownm) ?_
            refine (treeF_call (r := [((clsF (fN f) (r) : Nat) : Int), b2i (FP.sgn (fN f) (r))]) (by simp only [sxs, ph_B2_class_Of, g8]; exact k_class_Of (fN_u f) hf (nB_small (hl))) (by rfl)).trans ?_
            refine tT (by simp only [sxs, clsF_u8]; exact (beq_nk0 _).trans (decide_eq_true (c0))) ?_
            refine tF (by simp only [sxs, g8]; exact (beq_nk0 g).trans (decide_eq_false g0)) ?_
            refine tT (by simp only [sxs, g8]; simp only [beq_self_eq_true, Bool.and_true, Bool.and_self, bt1, bt0]) ?_
            rw [treeF_leaf rfl]; rfl
        · skip
          refine (treeF_call (r := [wd (r) 1, wd (r) 0, ((g : Nat) : Int)]) (by simp only [sxs, ph_B2_mul_Mul, g8]; exact (k_mul_Mul (fN_u f) hf ((md_u hm).1) ((md_u hm).2) (iNz_b2i _) (nB_u _ _) (nB_u _ _)).trans (by rw [k1]; try rfl)) (by rfl)).trans ?_
          refine (treeF_call (r := [wd (FP.mk (fN f) (iNz n) (0)) 1, wd (FP.mk (fN f) (iNz n) (0)) 0]) (by simp only [sxs, ph_B2_format_Nought, g8]; exact k_format_Nought (fN_u f) hf (iNz_b2i _)) (by rfl)).trans ?_
          refine (treeF_call (r := [wd (r) 1, wd (r) 0, ((g : Nat) : Int)]) (by simp only [sxs, ph_B2_fma_Fma, g8]; exact (k_fma_Fma (fN_u f) hf ((md_u hm).1) ((md_u hm).2) (iNz_b2i _) (nB_u _ _) (nB_u _ _) (nB_small (mk_W hf _ (FP.two_pow_pos _)))).trans (by rw [k2]; try rfl)) (by rfl)).trans ?_
          refine tF (by simp only [sxs, g8]; exact known) ?_
          refine tF (by simp only [sxs, g8]; exact knownm) ?_
          refine (treeF_call (r := [((clsF (fN f) (r) : Nat) : Int), b2i (FP.sgn (fN f) (r))]) (by simp only [sxs, ph_B2_class_Of, g8]; exact k_class_Of (fN_u f) hf (nB_small (hl))) (by rfl)).trans ?_
          refine tF (by simp only [sxs, clsF_u8]; exact (beq_nk0 _).trans (decide_eq_false (c0))) ?_
          refine tT (by simp only [sxs, g8]; simp only [beq_self_eq_true, Bool.and_true, Bool.and_self, bt1, bt0]) ?_
          rw [treeF_leaf rfl]; rfl
      · obtain ⟨c1, -, -⟩ := cls_nought hf s
        obtain ⟨c2, -, -⟩ := cls_nought hf s'
        have l1 : FP.mk (fN f) s 0 < W128 := mk_W hf _ (FP.two_pow_pos _)
        have l2 : FP.mk (fN f) s' 0 < W128 := mk_W hf _ (FP.two_pow_pos _)
        refine (treeF_call (r := [wd (FP.mk (fN f) s' 0) 1, wd (FP.mk (fN f) s' 0) 0, (0 : Int)]) (by simp only [sxs, ph_B2_mul_Mul, u8_0]; exact (k_mul_Mul (fN_u f) hf ((md_u hm).1) ((md_u hm).2) (iNz_b2i _) (nB_u _ _) (nB_u _ _)).trans (by rw [k1]; try rfl)) (by rfl)).trans ?_
        refine (treeF_call (r := [wd (FP.mk (fN f) (iNz n) (0)) 1, wd (FP.mk (fN f) (iNz n) (0)) 0]) (by simp only [sxs, ph_B2_format_Nought, u8_0]; exact k_format_Nought (fN_u f) hf (iNz_b2i _)) (by rfl)).trans ?_
        refine (treeF_call (r := [wd (FP.mk (fN f) s 0) 1, wd (FP.mk (fN f) s 0) 0, (0 : Int)]) (by simp only [sxs, ph_B2_fma_Fma, u8_0]; exact (k_fma_Fma (fN_u f) hf ((md_u hm).1) ((md_u hm).2) (iNz_b2i _) (nB_u _ _) (nB_u _ _) (nB_small (mk_W hf _ (FP.two_pow_pos _)))).trans (by rw [k2]; try rfl)) (by rfl)).trans ?_
        refine tF (by simp only [sxs, u8_0]; exact known) ?_
        refine tF (by simp only [sxs, u8_0]; exact knownm) ?_
        refine (treeF_call (r := [((clsF (fN f) (FP.mk (fN f) s' 0) : Nat) : Int), b2i (FP.sgn (fN f) (FP.mk (fN f) s' 0))]) (by simp only [sxs, ph_B2_class_Of, u8_0]; exact k_class_Of (fN_u f) hf (nB_small (l2))) (by rfl)).trans ?_
        refine tT (by simp only [sxs, clsF_u8]; exact (beq_nk0 _).trans (decide_eq_true (c2))) ?_
        refine tT (by simp only [sxs, u8_0]; simp only [beq_self_eq_true, bne_self_eq_false]) ?_
        refine (treeF_call (r := [((clsF (fN f) (FP.mk (fN f) s 0) : Nat) : Int), b2i (FP.sgn (fN f) (FP.mk (fN f) s 0))]) (by simp only [sxs, ph_B2_class_Of, u8_0]; exact k_class_Of (fN_u f) hf (nB_small (l1))) (by rfl)).trans ?_
        refine tT (by simp only [sxs, clsF_u8]; exact (beq_nk0 _).trans (decide_eq_true (c1))) ?_
        refine tT (by simp only [sxs, u8_0]; simp only [beq_self_eq_true, bne_self_eq_false]) ?_
        rw [treeF_leaf rfl]; rfl
    · have known := known_f hf
      have hfm : ¬ (fN f < 4 ∧ u8 m ≤ 4) := fun h => hm h.2
      refine (treeF_call (r := [(0 : Int), (0 : Int), (0 : Int)]) (by simp only [sxs, ph_B2_mul_Mul, u8_0, u64_0]; exact s_mul_Mul0 _ _ _ _ _ _ _ (by rw [fN_u, u8_u8]; exact hfm)) (by rfl)).trans ?_
      refine (treeF_call (r := [wd (FP.mk (fN f) (iNz n) (0)) 1, wd (FP.mk (fN f) (iNz n) (0)) 0]) (by simp only [sxs, ph_B2_format_Nought, u8_0, u64_0]; exact k_format_Nought (fN_u f) hf (iNz_b2i _)) (by rfl)).trans ?_
      refine (treeF_call (r := [(0 : Int), (0 : Int), (0 : Int)]) (by simp only [sxs, ph_B2_fma_Fma, u8_0, u64_0]; exact s_fma_Fma0 _ _ _ _ _ _ _ _ _ (by rw [fN_u, u8_u8]; exact hfm)) (by rfl)).trans ?_
      refine tF (by simp only [sxs, u8_0, u64_0]; exact known) ?_
      refine tT (by simp only [sxs]; rw [decide_eq_false hm]; rfl) ?_
      refine tT (by simp only [sxs, u8_0, u64_0]; simp only [beq_self_eq_true, Bool.and_true, Bool.and_self, bt1, bt0]) ?_
      rw [treeF_leaf rfl]; rfl
  · have hfm : ¬ (fN f < 4 ∧ u8 m ≤ 4) := fun h => hf h.1
    have hx : F_format_Nought [u8 f, b2i (iNz n)] = [0, 0] := by rw [s_format_Nought, if_neg (by rw [fN_u]; exact hf)]; rfl
    refine (treeF_call (r := [(0 : Int), (0 : Int), (0 : Int)]) (by simp only [sxs, ph_B2_mul_Mul, u8_0, u64_0]; exact s_mul_Mul0 _ _ _ _ _ _ _ (by rw [fN_u, u8_u8]; exact hfm)) (by rfl)).trans ?_
    refine (treeF_call (r := [(0 : Int), (0 : Int)]) (by simp only [sxs, ph_B2_format_Nought, u8_0, u64_0]; exact hx) (by rfl)).trans ?_
    refine (treeF_call (r := [(0 : Int), (0 : Int), (0 : Int)]) (by simp only [sxs, ph_B2_fma_Fma, u8_0, u64_0]; exact s_fma_Fma0 _ _ _ _ _ _ _ _ _ (by rw [fN_u, u8_u8]; exact hfm)) (by rfl)).trans ?_
    refine tT (by simp only [sxs]; rw [decide_eq_false (fun h => hf ((u8_lt4 f).1 h))]; rfl) ?_
    refine tT (by simp only [sxs, u8_0, u64_0]; simp only [beq_self_eq_true, Bool.and_true, Bool.and_self, bt1, bt0]) ?_
    rw [treeF_leaf rfl]; rfl
theorem true_FmaTurn (l : List Int) (h : l.length = 9) : F_law20_FmaTurn l = [1] := by
  match l, h with
  | [f, m, t, a1, a0, b1, b0, c1, c0], _ =>
  rw [F_law20_FmaTurn, t_law20_FmaTurn]
  by_cases hf : fN f < 4
  · by_cases hm : u8 m ≤ 4
    · have known := known_f hf
      have knownm := known_m hm
      by_cases na : 4 ≤ clsF (fN f) (nB a1 a0)
      · skip
        refine tF (by simp only [sxs]; exact known) ?_
        refine tF (by simp only [sxs]; exact knownm) ?_
        refine (treeF_call (r := [b2i (decide (4 ≤ clsF (fN f) (nB a1 a0)))]) (by simp only [sxs, ph_B2_class_NaN]; exact k_class_NaN (fN_u f) (nB_u _ _)) (by rfl)).trans ?_
        refine tT (by simp only [sxs]; exact decide_eq_true (na)) ?_
        rw [treeF_leaf rfl]; rfl
      by_cases nb : 4 ≤ clsF (fN f) (nB b1 b0)
      · skip
        refine tF (by simp only [sxs]; exact known) ?_
        refine tF (by simp only [sxs]; exact knownm) ?_
        refine (treeF_call (r := [b2i (decide (4 ≤ clsF (fN f) (nB a1 a0)))]) (by simp only [sxs, ph_B2_class_NaN]; exact k_class_NaN (fN_u f) (nB_u _ _)) (by rfl)).trans ?_
        refine tF (by simp only [sxs]; exact decide_eq_false (na)) ?_
        refine (treeF_call (r := [b2i (decide (4 ≤ clsF (fN f) (nB b1 b0)))]) (by simp only [sxs, ph_B2_class_NaN]; exact k_class_NaN (fN_u f) (nB_u _ _)) (by rfl)).trans ?_
        refine tT (by simp only [sxs]; exact decide_eq_true (nb)) ?_
        rw [treeF_leaf rfl]; rfl
      by_cases nc : 4 ≤ clsF (fN f) (nB c1 c0)
      · skip
        refine tF (by simp only [sxs]; exact known) ?_
        refine tF (by simp only [sxs]; exact knownm) ?_
        refine (treeF_call (r := [b2i (decide (4 ≤ clsF (fN f) (nB a1 a0)))]) (by simp only [sxs, ph_B2_class_NaN]; exact k_class_NaN (fN_u f) (nB_u _ _)) (by rfl)).trans ?_
        refine tF (by simp only [sxs]; exact decide_eq_false (na)) ?_
        refine (treeF_call (r := [b2i (decide (4 ≤ clsF (fN f) (nB b1 b0)))]) (by simp only [sxs, ph_B2_class_NaN]; exact k_class_NaN (fN_u f) (nB_u _ _)) (by rfl)).trans ?_
        refine tF (by simp only [sxs]; exact decide_eq_false (nb)) ?_
        refine (treeF_call (r := [b2i (decide (4 ≤ clsF (fN f) (nB c1 c0)))]) (by simp only [sxs, ph_B2_class_NaN]; exact k_class_NaN (fN_u f) (nB_u _ _)) (by rfl)).trans ?_
        refine tT (by simp only [sxs]; exact decide_eq_true (nc)) ?_
        rw [treeF_leaf rfl]; rfl
      have k3 := fmaR_comm (u8 m).toNat (iNz t) na nb nc
      rcases fmaR_turn hf (u8 m).toNat (iNz t) na nb nc with ⟨k1, k2⟩ | ⟨s, s', k, g, hk, hs, k1, k2⟩
      · rw [k1] at k3
        have dl : dfl (fN f) < W128 := mk_W hf false (dfl_code hf)
        have d4 := clsF_dfl hf
        have dn : 4 ≤ clsF (fN f) (dfl (fN f)) := by rw [d4]; exact Nat.le_refl _
        refine tF (by simp only [sxs, u8_1]; exact known) ?_
        refine tF (by simp only [sxs, u8_1]; exact knownm) ?_
        refine (treeF_call (r := [b2i (decide (4 ≤ clsF (fN f) (nB a1 a0)))]) (by simp only [sxs, ph_B2_class_NaN, u8_1]; exact k_class_NaN (fN_u f) (nB_u _ _)) (by rfl)).trans ?_
        refine tF (by simp only [sxs, u8_1]; exact decide_eq_false (na)) ?_
        refine (treeF_call (r := [b2i (decide (4 ≤ clsF (fN f) (nB b1 b0)))]) (by simp only [sxs, ph_B2_class_NaN, u8_1]; exact k_class_NaN (fN_u f) (nB_u _ _)) (by rfl)).trans ?_
        refine tF (by simp only [sxs, u8_1]; exact decide_eq_false (nb)) ?_
        refine (treeF_call (r := [b2i (decide (4 ≤ clsF (fN f) (nB c1 c0)))]) (by simp only [sxs, ph_B2_class_NaN, u8_1]; exact k_class_NaN (fN_u f) (nB_u _ _)) (by rfl)).trans ?_
        refine tF (by simp only [sxs, u8_1]; exact decide_eq_false (nc)) ?_
        refine (treeF_call (r := [wd (dfl (fN f)) 1, wd (dfl (fN f)) 0, (1 : Int)]) (by simp only [sxs, ph_B2_fma_Fma, u8_1]; exact (k_fma_Fma (fN_u f) hf ((md_u hm).1) ((md_u hm).2) (iNz_b2i _) (nB_u _ _) (nB_u _ _) (nB_u _ _)).trans (by rw [k1]; try rfl)) (by rfl)).trans ?_
        refine (treeF_call (r := [wd (turnN (fN f) (nB a1 a0)) 1, wd (turnN (fN f) (nB a1 a0)) 0]) (by simp only [sxs, ph_B2_addsub_Turn, u8_1]; exact k_addsub_Turn (fN_u f) (nB_u _ _)) (by rfl)).trans ?_
        refine (treeF_call (r := [wd (turnN (fN f) (nB c1 c0)) 1, wd (turnN (fN f) (nB c1 c0)) 0]) (by simp only [sxs, ph_B2_addsub_Turn, u8_1]; exact k_addsub_Turn (fN_u f) (nB_u _ _)) (by rfl)).trans ?_
        refine (treeF_call (r := [wd (dfl (fN f)) 1, wd (dfl (fN f)) 0, (1 : Int)]) (by simp only [sxs, ph_B2_fma_Fma, u8_1]; exact (k_fma_Fma (fN_u f) hf ((md_mir hm).1) ((md_mir hm).2) (iNz_b2i _) (nB_small (turn_lt _ _)) (nB_u _ _) (nB_small (turn_lt _ _))).trans (by rw [k2]; try rfl)) (by rfl)).trans ?_
        refine (treeF_call (r := [wd (dfl (fN f)) 1, wd (dfl (fN f)) 0, (1 : Int)]) (by simp only [sxs, ph_B2_fma_Fma, u8_1]; exact (k_fma_Fma (fN_u f) hf ((md_u hm).1) ((md_u hm).2) (iNz_b2i _) (nB_u _ _) (nB_u _ _) (nB_u _ _)).trans (by rw [k3]; try rfl)) (by rfl)).trans ?_
        refine tF (by exact nT (by simp only [sxs, u8_1]; simp only [beq_self_eq_true, Bool.and_true, Bool.and_self, bt1, bt0])) ?_
        refine tF (by simp only [sxs, u8_1]; simp only [beq_self_eq_true, bne_self_eq_false]) ?_
        refine (treeF_call (r := [((clsF (fN f) (dfl (fN f)) : Nat) : Int), b2i (FP.sgn (fN f) (dfl (fN f)))]) (by simp only [sxs, ph_B2_class_Of, u8_1]; exact k_class_Of (fN_u f) hf (nB_small (dl))) (by rfl)).trans ?_
        refine tF (by simp only [sxs, clsF_u8]; exact (beq_nk0 _).trans (decide_eq_false (by omega))) ?_
        refine (treeF_call (r := [b2i (decide (4 ≤ clsF (fN f) (dfl (fN f))))]) (by simp only [sxs, ph_B2_class_NaN, u8_1]; exact k_class_NaN (fN_u f) (nB_small (dl))) (by rfl)).trans ?_
        refine tT (by simp only [sxs, u8_1]; exact decide_eq_true (dn)) ?_
        refine tT (by simp only [sxs, u8_1]; simp only [beq_self_eq_true, Bool.and_true, Bool.and_self, bt1, bt0]) ?_
        rw [treeF_leaf rfl]; rfl
      · have hfl := fmaR_flag (fN f) (u8 m).toNat (iNz t) (nB a1 a0) (nB b1 b0) (nB c1 c0)
        rw [k1] at k3 hfl
        simp only at hfl
        have g8 := u8_flag (k := g) (by omega)
        have kl : k < 2 ^ (FP.fW (fN f) - 1) := Nat.lt_of_le_of_lt hk (inf_lt hf)
        have l1 : FP.mk (fN f) s k < W128 := mk_W hf _ kl
        have l2 : FP.mk (fN f) s' k < W128 := mk_W hf _ kl
        have kc1 : clsF (fN f) (FP.mk (fN f) s k) = FP.clsC (fN f) k := clsF_mk hf _ kl
        have kc2 : clsF (fN f) (FP.mk (fN f) s' k) = FP.clsC (fN f) k := clsF_mk hf _ kl
        have kc3 := clsC_le3 hf hk
        by_cases k0 : k = 0
        · have z : FP.clsC (fN f) k = 0 := clsC_zero_iff.2 k0
          rw [z] at kc1 kc2
          refine tF (by simp only [sxs, g8]; exact known) ?_
          refine tF (by simp only [sxs, g8]; exact knownm) ?_
          refine (treeF_call (r := [b2i (decide (4 ≤ clsF (fN f) (nB a1 a0)))]) (by simp only [sxs, ph_B2_class_NaN, g8]; exact k_class_NaN (fN_u f) (nB_u _ _)) (by rfl)).trans ?_
          refine tF (by simp only [sxs, g8]; exact decide_eq_false (na)) ?_
          refine (treeF_call (r := [b2i (decide (4 ≤ clsF (fN f) (nB b1 b0)))]) (by simp only [sxs, ph_B2_class_NaN, g8]; exact k_class_NaN (fN_u f) (nB_u _ _)) (by rfl)).trans ?_
          refine tF (by simp only [sxs, g8]; exact decide_eq_false (nb)) ?_
          refine (treeF_call (r := [b2i (decide (4 ≤ clsF (fN f) (nB c1 c0)))]) (by simp only [sxs, ph_B2_class_NaN, g8]; exact k_class_NaN (fN_u f) (nB_u _ _)) (by rfl)).trans ?_
          refine tF (by simp only [sxs, g8]; exact decide_eq_false (nc)) ?_
          refine (treeF_call (r := [wd (FP.mk (fN f) s k) 1, wd (FP.mk (fN f) s k) 0, ((g : Nat) : Int)]) (by simp only [sxs, ph_B2_fma_Fma, g8]; exact (k_fma_Fma (fN_u f) hf ((md_u hm).1) ((md_u hm).2) (iNz_b2i _) (nB_u _ _) (nB_u _ _) (nB_u _ _)).trans (by rw [k1]; try rfl)) (by rfl)).trans ?_
          refine (treeF_call (r := [wd (turnN (fN f) (nB a1 a0)) 1, wd (turnN (fN f) (nB a1 a0)) 0]) (by simp only [sxs, ph_B2_addsub_Turn, g8]; exact k_addsub_Turn (fN_u f) (nB_u _ _)) (by rfl)).trans ?_
          refine (treeF_call (r := [wd (turnN (fN f) (nB c1 c0)) 1, wd (turnN (fN f) (nB c1 c0)) 0]) (by simp only [sxs, ph_B2_addsub_Turn, g8]; exact k_addsub_Turn (fN_u f) (nB_u _ _)) (by rfl)).trans ?_
          refine (treeF_call (r := [wd (FP.mk (fN f) s' k) 1, wd (FP.mk (fN f) s' k) 0, ((g : Nat) : Int)]) (by simp only [sxs, ph_B2_fma_Fma, g8]; exact (k_fma_Fma (fN_u f) hf ((md_mir hm).1) ((md_mir hm).2) (iNz_b2i _) (nB_small (turn_lt _ _)) (nB_u _ _) (nB_small (turn_lt _ _))).trans (by rw [k2]; try rfl)) (by rfl)).trans ?_
          refine (treeF_call (r := [wd (FP.mk (fN f) s k) 1, wd (FP.mk (fN f) s k) 0, ((g : Nat) : Int)]) (by simp only [sxs, ph_B2_fma_Fma, g8]; exact (k_fma_Fma (fN_u f) hf ((md_u hm).1) ((md_u hm).2) (iNz_b2i _) (nB_u _ _) (nB_u _ _) (nB_u _ _)).trans (by rw [k3]; try rfl)) (by rfl)).trans ?_
          refine tF (by exact nT (by simp only [sxs, g8]; simp only [beq_self_eq_true, Bool.and_true, Bool.and_self, bt1, bt0])) ?_
          refine tF (by simp only [sxs, g8]; simp only [beq_self_eq_true, bne_self_eq_false]) ?_
          refine (treeF_call (r := [((clsF (fN f) (FP.mk (fN f) s k) : Nat) : Int), b2i (FP.sgn (fN f) (FP.mk (fN f) s k))]) (by simp only [sxs, ph_B2_class_Of, g8]; exact k_class_Of (fN_u f) hf (nB_small (l1))) (by rfl)).trans ?_
          refine tT (by simp only [sxs, clsF_u8]; exact (beq_nk0 _).trans (decide_eq_true (kc1))) ?_
          refine (treeF_call (r := [((clsF (fN f) (FP.mk (fN f) s' k) : Nat) : Int), b2i (FP.sgn (fN f) (FP.mk (fN f) s' k))]) (by simp only [sxs, ph_B2_class_Of, g8]; exact k_class_Of (fN_u f) hf (nB_small (l2))) (by rfl)).trans ?_
          refine tT (by simp only [sxs, clsF_u8]; exact (beq_nk0 _).trans (decide_eq_true (kc2))) ?_
          rw [treeF_leaf rfl]; rfl
        · have z : ¬ FP.clsC (fN f) k = 0 := fun h => k0 (clsC_zero_iff.1 h)
          have nn : ¬ 4 ≤ clsF (fN f) (FP.mk (fN f) s k) := by rw [kc1]; omega
          have nz : ¬ clsF (fN f) (FP.mk (fN f) s k) = 0 := by rw [kc1]; exact z
          rw [hs k0, ← turn_mk hf s kl] at k2
          refine tF (by simp only [sxs, g8]; exact known) ?_
          refine tF (by simp only [sxs, g8]; exact knownm) ?_
          refine (treeF_call (r := [b2i (decide (4 ≤ clsF (fN f) (nB a1 a0)))]) (by simp only [sxs, ph_B2_class_NaN, g8]; exact k_class_NaN (fN_u f) (nB_u _ _)) (by rfl)).trans ?_
          refine tF (by simp only [sxs, g8]; exact decide_eq_false (na)) ?_
          refine (treeF_call (r := [b2i (decide (4 ≤ clsF (fN f) (nB b1 b0)))]) (by simp only [sxs, ph_B2_class_NaN, g8]; exact k_class_NaN (fN_u f) (nB_u _ _)) (by rfl)).trans ?_
          refine tF (by simp only [sxs, g8]; exact decide_eq_false (nb)) ?_
          refine (treeF_call (r := [b2i (decide (4 ≤ clsF (fN f) (nB c1 c0)))]) (by simp only [sxs, ph_B2_class_NaN, g8]; exact k_class_NaN (fN_u f) (nB_u _ _)) (by rfl)).trans ?_
          refine tF (by simp only [sxs, g8]; exact decide_eq_false (nc)) ?_
          refine (treeF_call (r := [wd (FP.mk (fN f) s k) 1, wd (FP.mk (fN f) s k) 0, ((g : Nat) : Int)]) (by simp only [sxs, ph_B2_fma_Fma, g8]; exact (k_fma_Fma (fN_u f) hf ((md_u hm).1) ((md_u hm).2) (iNz_b2i _) (nB_u _ _) (nB_u _ _) (nB_u _ _)).trans (by rw [k1]; try rfl)) (by rfl)).trans ?_
          refine (treeF_call (r := [wd (turnN (fN f) (nB a1 a0)) 1, wd (turnN (fN f) (nB a1 a0)) 0]) (by simp only [sxs, ph_B2_addsub_Turn, g8]; exact k_addsub_Turn (fN_u f) (nB_u _ _)) (by rfl)).trans ?_
          refine (treeF_call (r := [wd (turnN (fN f) (nB c1 c0)) 1, wd (turnN (fN f) (nB c1 c0)) 0]) (by simp only [sxs, ph_B2_addsub_Turn, g8]; exact k_addsub_Turn (fN_u f) (nB_u _ _)) (by rfl)).trans ?_
          refine (treeF_call (r := [wd (turnN (fN f) (FP.mk (fN f) s k)) 1, wd (turnN (fN f) (FP.mk (fN f) s k)) 0, ((g : Nat) : Int)]) (by simp only [sxs, ph_B2_fma_Fma, g8]; exact (k_fma_Fma (fN_u f) hf ((md_mir hm).1) ((md_mir hm).2) (iNz_b2i _) (nB_small (turn_lt _ _)) (nB_u _ _) (nB_small (turn_lt _ _))).trans (by rw [k2]; try rfl)) (by rfl)).trans ?_
          refine (treeF_call (r := [wd (FP.mk (fN f) s k) 1, wd (FP.mk (fN f) s k) 0, ((g : Nat) : Int)]) (by simp only [sxs, ph_B2_fma_Fma, g8]; exact (k_fma_Fma (fN_u f) hf ((md_u hm).1) ((md_u hm).2) (iNz_b2i _) (nB_u _ _) (nB_u _ _) (nB_u _ _)).trans (by rw [k3]; try rfl)) (by rfl)).trans ?_
          refine tF (by exact nT (by simp only [sxs, g8]; simp only [beq_self_eq_true, Bool.and_true, Bool.and_self, bt1, bt0])) ?_
          refine tF (by simp only [sxs, g8]; simp only [beq_self_eq_true, bne_self_eq_false]) ?_
          refine (treeF_call (r := [((clsF (fN f) (FP.mk (fN f) s k) : Nat) : Int), b2i (FP.sgn (fN f) (FP.mk (fN f) s k))]) (by simp only [sxs, ph_B2_class_Of, g8]; exact k_class_Of (fN_u f) hf (nB_small (l1))) (by rfl)).trans ?_
          refine tF (by simp only [sxs, clsF_u8]; exact (beq_nk0 _).trans (decide_eq_false (nz))) ?_
          refine (treeF_call (r := [b2i (decide (4 ≤ clsF (fN f) (FP.mk (fN f) s k)))]) (by simp only [sxs, ph_B2_class_NaN, g8]; exact k_class_NaN (fN_u f) (nB_small (l1))) (by rfl)).trans ?_
          refine tF (by simp only [sxs, g8]; exact decide_eq_false (nn)) ?_
          refine (treeF_call (r := [wd (turnN (fN f) (FP.mk (fN f) s k)) 1, wd (turnN (fN f) (FP.mk (fN f) s k)) 0]) (by simp only [sxs, ph_B2_addsub_Turn, g8]; exact k_addsub_Turn (fN_u f) (nB_small (l1))) (by rfl)).trans ?_
          refine tT (by simp only [sxs, g8]; simp only [beq_self_eq_true, Bool.and_true, Bool.and_self, bt1, bt0]) ?_
          rw [treeF_leaf rfl]; rfl
    · have known := known_f hf
      refine tF (by simp only [sxs]; exact known) ?_
      refine tT (by simp only [sxs]; rw [decide_eq_false hm]; rfl) ?_
      rw [treeF_leaf rfl]; rfl
  · skip
    refine tT (by simp only [sxs]; rw [decide_eq_false (fun h => hf ((u8_lt4 f).1 h))]; rfl) ?_
    rw [treeF_leaf rfl]; rfl
theorem true_FmaNan (l : List Int) (h : l.length = 7) : F_law20_FmaNan l = [1] := by
  match l, h with
  | [f, m, t, c1, c0, n, w], _ =>
  rw [F_law20_FmaNan, t_law20_FmaNan]
  by_cases hf : fN f < 4
  · by_cases hm : u8 m ≤ 4
    · have known := known_f hf
      have knownm := known_m hm
      obtain ⟨z1, z2, z3⟩ := cls_nought hf (iNz n)
      obtain ⟨i1, i2, i3⟩ := cls_inf hf (!(iNz n))
      have bZI : badC (clsF (fN f) (FP.mk (fN f) (iNz n) (0))) (clsF (fN f) (FP.mk (fN f) (!(iNz n)) (FP.inf (fN f)))) = true := by rw [z1, i1]; rfl
      have bIZ : badC (clsF (fN f) (FP.mk (fN f) (!(iNz n)) (FP.inf (fN f)))) (clsF (fN f) (FP.mk (fN f) (iNz n) (0))) = true := by rw [z1, i1]; rfl
      have bZZ : badC (clsF (fN f) (FP.mk (fN f) (iNz n) (0))) (clsF (fN f) (FP.mk (fN f) (iNz n) (0))) = false := by rw [z1]; rfl
      have bII : badC (clsF (fN f) (FP.mk (fN f) (!(iNz n)) (FP.inf (fN f)))) (clsF (fN f) (FP.mk (fN f) (!(iNz n)) (FP.inf (fN f)))) = false := by rw [i1]; rfl
      have nZ : ¬ 4 ≤ clsF (fN f) (FP.mk (fN f) (iNz n) (0)) := by rw [z1]; omega
      have nI : ¬ 4 ≤ clsF (fN f) (FP.mk (fN f) (!(iNz n)) (FP.inf (fN f))) := by rw [i1]; omega
      by_cases nc : 4 ≤ clsF (fN f) (nB c1 c0)
      · obtain ⟨q1, q2, q3⟩ := quN_lt hf nc
        by_cases h5 : clsF (fN f) (nB c1 c0) = 5
        · by_cases hw : iNz w = true
          · skip
            have k1 := fma_nan_r (u8 m).toNat (iNz t) nI nZ bIZ nc
            obtain ⟨g, -, k2⟩ := fma_nan_a (u8 m).toNat (iNz t) (a := FP.mk (fN f) (!(iNz n)) (FP.inf (fN f))) (b := FP.mk (fN f) (iNz n) (0)) nc
            have k3 := fma_nan_c (u8 m).toNat (iNz t) nI nI bII nc
            rw [if_pos h5] at k3
            refine tF (by simp only [sxs, u8_1, u8_0]; exact known) ?_
            refine tF (by simp only [sxs, u8_1, u8_0]; exact knownm) ?_
            refine (treeF_call (r := [wd (FP.mk (fN f) (iNz n) (0)) 1, wd (FP.mk (fN f) (iNz n) (0)) 0]) (by simp only [sxs, ph_B2_format_Nought, u8_1, u8_0]; exact k_format_Nought (fN_u f) hf (iNz_b2i _)) (by rfl)).trans ?_
            refine (treeF_call (r := [wd (FP.mk (fN f) (!(iNz n)) (FP.inf (fN f))) 1, wd (FP.mk (fN f) (!(iNz n)) (FP.inf (fN f))) 0]) (by simp only [sxs, ph_B2_format_Inf, u8_1, u8_0]; exact k_format_Inf (fN_u f) hf (iNz_b2i _)) (by rfl)).trans ?_
            refine tT (by simp only [sxs]; exact hw) ?_
            refine (treeF_call (r := [wd (quN (fN f) (nB c1 c0)) 1, wd (quN (fN f) (nB c1 c0)) 0, (1 : Int)]) (by simp only [sxs, ph_B2_fma_Fma, u8_1, u8_0]; exact (k_fma_Fma (fN_u f) hf ((md_u hm).1) ((md_u hm).2) (iNz_b2i _) (nB_small (mk_W hf _ (inf_W hf))) (nB_small (mk_W hf _ (FP.two_pow_pos _))) (nB_u _ _)).trans (by rw [k1]; try rfl)) (by rfl)).trans ?_
            refine (treeF_call (r := [b2i (decide (4 ≤ clsF (fN f) (quN (fN f) (nB c1 c0))))]) (by simp only [sxs, ph_B2_class_NaN, u8_1, u8_0]; exact k_class_NaN (fN_u f) (nB_small (q1))) (by rfl)).trans ?_
            refine tF (by exact nT (by simp only [sxs, u8_1, u8_0]; exact decide_eq_true (q2))) ?_
            refine tF (by simp only [sxs, u8_1, u8_0]; simp only [beq_self_eq_true, bne_self_eq_false]) ?_
            refine (treeF_call (r := [b2i (decide (4 ≤ clsF (fN f) (nB c1 c0)))]) (by simp only [sxs, ph_B2_class_NaN, u8_1, u8_0]; exact k_class_NaN (fN_u f) (nB_u _ _)) (by rfl)).trans ?_
            refine tF (by exact nT (by simp only [sxs, u8_1, u8_0]; exact decide_eq_true (nc))) ?_
            refine (treeF_call (r := [wd (quN (fN f) (nB c1 c0)) 1, wd (quN (fN f) (nB c1 c0)) 0, ((g : Nat) : Int)]) (by simp only [sxs, ph_B2_fma_Fma, u8_1, u8_0]; exact (k_fma_Fma (fN_u f) hf ((md_u hm).1) ((md_u hm).2) (iNz_b2i _) (nB_u _ _) (nB_small (mk_W hf _ (inf_W hf))) (nB_small (mk_W hf _ (FP.two_pow_pos _)))).trans (by rw [k2]; try rfl)) (by rfl)).trans ?_
            refine (treeF_call (r := [wd (quN (fN f) (nB c1 c0)) 1, wd (quN (fN f) (nB c1 c0)) 0, (1 : Int)]) (by simp only [sxs, ph_B2_fma_Fma, u8_1, u8_0]; exact (k_fma_Fma (fN_u f) hf ((md_u hm).1) ((md_u hm).2) (iNz_b2i _) (nB_small (mk_W hf _ (inf_W hf))) (nB_small (mk_W hf _ (inf_W hf))) (nB_u _ _)).trans (by rw [k3]; try rfl)) (by rfl)).trans ?_
            refine (treeF_call (r := [b2i (decide (4 ≤ clsF (fN f) (quN (fN f) (nB c1 c0))))]) (by simp only [sxs, ph_B2_class_NaN, u8_1, u8_0]; exact k_class_NaN (fN_u f) (nB_small (q1))) (by rfl)).trans ?_
            refine tT (by simp only [sxs, u8_1, u8_0]; exact decide_eq_true (q2)) ?_
            refine tT (by simp only [sxs, u8_1, u8_0]; simp only [beq_self_eq_true, Bool.and_true, Bool.and_self, bt1, bt0]) ?_
            refine tT (by simp only [sxs, u8_1, u8_0]; simp only [beq_self_eq_true, Bool.and_true, Bool.and_self, bt1, bt0]) ?_
            refine (treeF_call (r := [b2i (decide (clsF (fN f) (nB c1 c0) = 5))]) (by simp only [sxs, ph_B2_class_Signaling, u8_1, u8_0]; exact k_class_Signaling (fN_u f) (nB_u _ _)) (by rfl)).trans ?_
            refine tT (by simp only [sxs]; rw [decide_eq_true h5]; rfl) ?_
            rw [treeF_leaf rfl]; rfl
          · skip
            have k1 := fma_nan_r (u8 m).toNat (iNz t) nZ nI bZI nc
            obtain ⟨g, -, k2⟩ := fma_nan_a (u8 m).toNat (iNz t) (a := FP.mk (fN f) (iNz n) (0)) (b := FP.mk (fN f) (!(iNz n)) (FP.inf (fN f))) nc
            have k3 := fma_nan_c (u8 m).toNat (iNz t) nZ nZ bZZ nc
            rw [if_pos h5] at k3
            refine tF (by simp only [sxs, u8_1, u8_0]; exact known) ?_
            refine tF (by simp only [sxs, u8_1, u8_0]; exact knownm) ?_
            refine (treeF_call (r := [wd (FP.mk (fN f) (iNz n) (0)) 1, wd (FP.mk (fN f) (iNz n) (0)) 0]) (by simp only [sxs, ph_B2_format_Nought, u8_1, u8_0]; exact k_format_Nought (fN_u f) hf (iNz_b2i _)) (by rfl)).trans ?_
            refine (treeF_call (r := [wd (FP.mk (fN f) (!(iNz n)) (FP.inf (fN f))) 1, wd (FP.mk (fN f) (!(iNz n)) (FP.inf (fN f))) 0]) (by simp only [sxs, ph_B2_format_Inf, u8_1, u8_0]; exact k_format_Inf (fN_u f) hf (iNz_b2i _)) (by rfl)).trans ?_
            refine tF (by simp only [sxs]; exact Bool.eq_false_iff.2 hw) ?_
            refine (treeF_call (r := [wd (quN (fN f) (nB c1 c0)) 1, wd (quN (fN f) (nB c1 c0)) 0, (1 : Int)]) (by simp only [sxs, ph_B2_fma_Fma, u8_1, u8_0]; exact (k_fma_Fma (fN_u f) hf ((md_u hm).1) ((md_u hm).2) (iNz_b2i _) (nB_small (mk_W hf _ (FP.two_pow_pos _))) (nB_small (mk_W hf _ (inf_W hf))) (nB_u _ _)).trans (by rw [k1]; try rfl)) (by rfl)).trans ?_
            refine (treeF_call (r := [b2i (decide (4 ≤ clsF (fN f) (quN (fN f) (nB c1 c0))))]) (by simp only [sxs, ph_B2_class_NaN, u8_1, u8_0]; exact k_class_NaN (fN_u f) (nB_small (q1))) (by rfl)).trans ?_
            refine tF (by exact nT (by simp only [sxs, u8_1, u8_0]; exact decide_eq_true (q2))) ?_
            refine tF (by simp only [sxs, u8_1, u8_0]; simp only [beq_self_eq_true, bne_self_eq_false]) ?_
            refine (treeF_call (r := [b2i (decide (4 ≤ clsF (fN f) (nB c1 c0)))]) (by simp only [sxs, ph_B2_class_NaN, u8_1, u8_0]; exact k_class_NaN (fN_u f) (nB_u _ _)) (by rfl)).trans ?_
            refine tF (by exact nT (by simp only [sxs, u8_1, u8_0]; exact decide_eq_true (nc))) ?_
            refine (treeF_call (r := [wd (quN (fN f) (nB c1 c0)) 1, wd (quN (fN f) (nB c1 c0)) 0, ((g : Nat) : Int)]) (by simp only [sxs, ph_B2_fma_Fma, u8_1, u8_0]; exact (k_fma_Fma (fN_u f) hf ((md_u hm).1) ((md_u hm).2) (iNz_b2i _) (nB_u _ _) (nB_small (mk_W hf _ (FP.two_pow_pos _))) (nB_small (mk_W hf _ (inf_W hf)))).trans (by rw [k2]; try rfl)) (by rfl)).trans ?_
            refine (treeF_call (r := [wd (quN (fN f) (nB c1 c0)) 1, wd (quN (fN f) (nB c1 c0)) 0, (1 : Int)]) (by simp only [sxs, ph_B2_fma_Fma, u8_1, u8_0]; exact (k_fma_Fma (fN_u f) hf ((md_u hm).1) ((md_u hm).2) (iNz_b2i _) (nB_small (mk_W hf _ (FP.two_pow_pos _))) (nB_small (mk_W hf _ (FP.two_pow_pos _))) (nB_u _ _)).trans (by rw [k3]; try rfl)) (by rfl)).trans ?_
            refine (treeF_call (r := [b2i (decide (4 ≤ clsF (fN f) (quN (fN f) (nB c1 c0))))]) (by simp only [sxs, ph_B2_class_NaN, u8_1, u8_0]; exact k_class_NaN (fN_u f) (nB_small (q1))) (by rfl)).trans ?_
            refine tT (by simp only [sxs, u8_1, u8_0]; exact decide_eq_true (q2)) ?_
            refine tT (by simp only [sxs, u8_1, u8_0]; simp only [beq_self_eq_true, Bool.and_true, Bool.and_self, bt1, bt0]) ?_
            refine tT (by simp only [sxs, u8_1, u8_0]; simp only [beq_self_eq_true, Bool.and_true, Bool.and_self, bt1, bt0]) ?_
            refine (treeF_call (r := [b2i (decide (clsF (fN f) (nB c1 c0) = 5))]) (by simp only [sxs, ph_B2_class_Signaling, u8_1, u8_0]; exact k_class_Signaling (fN_u f) (nB_u _ _)) (by rfl)).trans ?_
            refine tT (by simp only [sxs]; rw [decide_eq_true h5]; rfl) ?_
            rw [treeF_leaf rfl]; rfl
        · by_cases hw : iNz w = true
          · skip
            have k1 := fma_nan_r (u8 m).toNat (iNz t) nI nZ bIZ nc
            obtain ⟨g, -, k2⟩ := fma_nan_a (u8 m).toNat (iNz t) (a := FP.mk (fN f) (!(iNz n)) (FP.inf (fN f))) (b := FP.mk (fN f) (iNz n) (0)) nc
            have k3 := fma_nan_c (u8 m).toNat (iNz t) nI nI bII nc
            rw [if_neg h5] at k3
            refine tF (by simp only [sxs, u8_1, u8_0]; exact known) ?_
            refine tF (by simp only [sxs, u8_1, u8_0]; exact knownm) ?_
            refine (treeF_call (r := [wd (FP.mk (fN f) (iNz n) (0)) 1, wd (FP.mk (fN f) (iNz n) (0)) 0]) (by simp only [sxs, ph_B2_format_Nought, u8_1, u8_0]; exact k_format_Nought (fN_u f) hf (iNz_b2i _)) (by rfl)).trans ?_
            refine (treeF_call (r := [wd (FP.mk (fN f) (!(iNz n)) (FP.inf (fN f))) 1, wd (FP.mk (fN f) (!(iNz n)) (FP.inf (fN f))) 0]) (by simp only [sxs, ph_B2_format_Inf, u8_1, u8_0]; exact k_format_Inf (fN_u f) hf (iNz_b2i _)) (by rfl)).trans ?_
            refine tT (by simp only [sxs]; exact hw) ?_
            refine (treeF_call (r := [wd (quN (fN f) (nB c1 c0)) 1, wd (quN (fN f) (nB c1 c0)) 0, (1 : Int)]) (by simp only [sxs, ph_B2_fma_Fma, u8_1, u8_0]; exact (k_fma_Fma (fN_u f) hf ((md_u hm).1) ((md_u hm).2) (iNz_b2i _) (nB_small (mk_W hf _ (inf_W hf))) (nB_small (mk_W hf _ (FP.two_pow_pos _))) (nB_u _ _)).trans (by rw [k1]; try rfl)) (by rfl)).trans ?_
            refine (treeF_call (r := [b2i (decide (4 ≤ clsF (fN f) (quN (fN f) (nB c1 c0))))]) (by simp only [sxs, ph_B2_class_NaN, u8_1, u8_0]; exact k_class_NaN (fN_u f) (nB_small (q1))) (by rfl)).trans ?_
            refine tF (by exact nT (by simp only [sxs, u8_1, u8_0]; exact decide_eq_true (q2))) ?_
            refine tF (by simp only [sxs, u8_1, u8_0]; simp only [beq_self_eq_true, bne_self_eq_false]) ?_
            refine (treeF_call (r := [b2i (decide (4 ≤ clsF (fN f) (nB c1 c0)))]) (by simp only [sxs, ph_B2_class_NaN, u8_1, u8_0]; exact k_class_NaN (fN_u f) (nB_u _ _)) (by rfl)).trans ?_
            refine tF (by exact nT (by simp only [sxs, u8_1, u8_0]; exact decide_eq_true (nc))) ?_
            refine (treeF_call (r := [wd (quN (fN f) (nB c1 c0)) 1, wd (quN (fN f) (nB c1 c0)) 0, ((g : Nat) : Int)]) (by simp only [sxs, ph_B2_fma_Fma, u8_1, u8_0]; exact (k_fma_Fma (fN_u f) hf ((md_u hm).1) ((md_u hm).2) (iNz_b2i _) (nB_u _ _) (nB_small (mk_W hf _ (inf_W hf))) (nB_small (mk_W hf _ (FP.two_pow_pos _)))).trans (by rw [k2]; try rfl)) (by rfl)).trans ?_
            refine (treeF_call (r := [wd (quN (fN f) (nB c1 c0)) 1, wd (quN (fN f) (nB c1 c0)) 0, (0 : Int)]) (by simp only [sxs, ph_B2_fma_Fma, u8_1, u8_0]; exact (k_fma_Fma (fN_u f) hf ((md_u hm).1) ((md_u hm).2) (iNz_b2i _) (nB_small (mk_W hf _ (inf_W hf))) (nB_small (mk_W hf _ (inf_W hf))) (nB_u _ _)).trans (by rw [k3]; try rfl)) (by rfl)).trans ?_
            refine (treeF_call (r := [b2i (decide (4 ≤ clsF (fN f) (quN (fN f) (nB c1 c0))))]) (by simp only [sxs, ph_B2_class_NaN, u8_1, u8_0]; exact k_class_NaN (fN_u f) (nB_small (q1))) (by rfl)).trans ?_
            refine tT (by simp only [sxs, u8_1, u8_0]; exact decide_eq_true (q2)) ?_
            refine tT (by simp only [sxs, u8_1, u8_0]; simp only [beq_self_eq_true, Bool.and_true, Bool.and_self, bt1, bt0]) ?_
            refine tT (by simp only [sxs, u8_1, u8_0]; simp only [beq_self_eq_true, Bool.and_true, Bool.and_self, bt1, bt0]) ?_
            refine (treeF_call (r := [b2i (decide (clsF (fN f) (nB c1 c0) = 5))]) (by simp only [sxs, ph_B2_class_Signaling, u8_1, u8_0]; exact k_class_Signaling (fN_u f) (nB_u _ _)) (by rfl)).trans ?_
            refine tT (by simp only [sxs]; rw [decide_eq_false h5]; rfl) ?_
            rw [treeF_leaf rfl]; rfl
          · skip
            have k1 := fma_nan_r (u8 m).toNat (iNz t) nZ nI bZI nc
            obtain ⟨g, -, k2⟩ := fma_nan_a (u8 m).toNat (iNz t) (a := FP.mk (fN f) (iNz n) (0)) (b := FP.mk (fN f) (!(iNz n)) (FP.inf (fN f))) nc
            have k3 := fma_nan_c (u8 m).toNat (iNz t) nZ nZ bZZ nc
            rw [if_neg h5] at k3
            refine tF (by simp only [sxs, u8_1, u8_0]; exact known) ?_
            refine tF (by simp only [sxs, u8_1, u8_0]; exact knownm) ?_
            refine (treeF_call (r := [wd (FP.mk (fN f) (iNz n) (0)) 1, wd (FP.mk (fN f) (iNz n) (0)) 0]) (by simp only [sxs, ph_B2_format_Nought, u8_1, u8_0]; exact k_format_Nought (fN_u f) hf (iNz_b2i _)) (by rfl)).trans ?_
            refine (treeF_call (r := [wd (FP.mk (fN f) (!(iNz n)) (FP.inf (fN f))) 1, wd (FP.mk (fN f) (!(iNz n)) (FP.inf (fN f))) 0]) (by simp only [sxs, ph_B2_format_Inf, u8_1, u8_0]; exact k_format_Inf (fN_u f) hf (iNz_b2i _)) (by rfl)).trans ?_
            refine tF (by simp only [sxs]; exact Bool.eq_false_iff.2 hw) ?_
            refine (treeF_call (r := [wd (quN (fN f) (nB c1 c0)) 1, wd (quN (fN f) (nB c1 c0)) 0, (1 : Int)]) (by simp only [sxs, ph_B2_fma_Fma, u8_1, u8_0]; exact (k_fma_Fma (fN_u f) hf ((md_u hm).1) ((md_u hm).2) (iNz_b2i _) (nB_small (mk_W hf _ (FP.two_pow_pos _))) (nB_small (mk_W hf _ (inf_W hf))) (nB_u _ _)).trans (by rw [k1]; try rfl)) (by rfl)).trans ?_
            refine (treeF_call (r := [b2i (decide (4 ≤ clsF (fN f) (quN (fN f) (nB c1 c0))))]) (by simp only [sxs, ph_B2_class_NaN, u8_1, u8_0]; exact k_class_NaN (fN_u f) (nB_small (q1))) (by rfl)).trans ?_
            refine tF (by exact nT (by simp only [sxs, u8_1, u8_0]; exact decide_eq_true (q2))) ?_
            refine tF (by simp only [sxs, u8_1, u8_0]; simp only [beq_self_eq_true, bne_self_eq_false]) ?_
            refine (treeF_call (r := [b2i (decide (4 ≤ clsF (fN f) (nB c1 c0)))]) (by simp only [sxs, ph_B2_class_NaN, u8_1, u8_0]; exact k_class_NaN (fN_u f) (nB_u _ _)) (by rfl)).trans ?_
            refine tF (by exact nT (by simp only [sxs, u8_1, u8_0]; exact decide_eq_true (nc))) ?_
            refine (treeF_call (r := [wd (quN (fN f) (nB c1 c0)) 1, wd (quN (fN f) (nB c1 c0)) 0, ((g : Nat) : Int)]) (by simp only [sxs, ph_B2_fma_Fma, u8_1, u8_0]; exact (k_fma_Fma (fN_u f) hf ((md_u hm).1) ((md_u hm).2) (iNz_b2i _) (nB_u _ _) (nB_small (mk_W hf _ (FP.two_pow_pos _))) (nB_small (mk_W hf _ (inf_W hf)))).trans (by rw [k2]; try rfl)) (by rfl)).trans ?_
            refine (treeF_call (r := [wd (quN (fN f) (nB c1 c0)) 1, wd (quN (fN f) (nB c1 c0)) 0, (0 : Int)]) (by simp only [sxs, ph_B2_fma_Fma, u8_1, u8_0]; exact (k_fma_Fma (fN_u f) hf ((md_u hm).1) ((md_u hm).2) (iNz_b2i _) (nB_small (mk_W hf _ (FP.two_pow_pos _))) (nB_small (mk_W hf _ (FP.two_pow_pos _))) (nB_u _ _)).trans (by rw [k3]; try rfl)) (by rfl)).trans ?_
            refine (treeF_call (r := [b2i (decide (4 ≤ clsF (fN f) (quN (fN f) (nB c1 c0))))]) (by simp only [sxs, ph_B2_class_NaN, u8_1, u8_0]; exact k_class_NaN (fN_u f) (nB_small (q1))) (by rfl)).trans ?_
            refine tT (by simp only [sxs, u8_1, u8_0]; exact decide_eq_true (q2)) ?_
            refine tT (by simp only [sxs, u8_1, u8_0]; simp only [beq_self_eq_true, Bool.and_true, Bool.and_self, bt1, bt0]) ?_
            refine tT (by simp only [sxs, u8_1, u8_0]; simp only [beq_self_eq_true, Bool.and_true, Bool.and_self, bt1, bt0]) ?_
            refine (treeF_call (r := [b2i (decide (clsF (fN f) (nB c1 c0) = 5))]) (by simp only [sxs, ph_B2_class_Signaling, u8_1, u8_0]; exact k_class_Signaling (fN_u f) (nB_u _ _)) (by rfl)).trans ?_
            refine tT (by simp only [sxs]; rw [decide_eq_false h5]; rfl) ?_
            rw [treeF_leaf rfl]; rfl
      · have dl : dfl (fN f) < W128 := mk_W hf false (dfl_code hf)
        have dn : 4 ≤ clsF (fN f) (dfl (fN f)) := by rw [clsF_dfl hf]; exact Nat.le_refl _
        by_cases hw : iNz w = true
        · have k1 := fma_nan_i (u8 m).toNat (iNz t) nI nZ bIZ nc
          refine tF (by simp only [sxs, u8_1, u8_0]; exact known) ?_
          refine tF (by simp only [sxs, u8_1, u8_0]; exact knownm) ?_
          refine (treeF_call (r := [wd (FP.mk (fN f) (iNz n) (0)) 1, wd (FP.mk (fN f) (iNz n) (0)) 0]) (by simp only [sxs, ph_B2_format_Nought, u8_1, u8_0]; exact k_format_Nought (fN_u f) hf (iNz_b2i _)) (by rfl)).trans ?_
          refine (treeF_call (r := [wd (FP.mk (fN f) (!(iNz n)) (FP.inf (fN f))) 1, wd (FP.mk (fN f) (!(iNz n)) (FP.inf (fN f))) 0]) (by simp only [sxs, ph_B2_format_Inf, u8_1, u8_0]; exact k_format_Inf (fN_u f) hf (iNz_b2i _)) (by rfl)).trans ?_
          refine tT (by simp only [sxs]; exact hw) ?_
          refine (treeF_call (r := [wd (dfl (fN f)) 1, wd (dfl (fN f)) 0, (1 : Int)]) (by simp only [sxs, ph_B2_fma_Fma, u8_1, u8_0]; exact (k_fma_Fma (fN_u f) hf ((md_u hm).1) ((md_u hm).2) (iNz_b2i _) (nB_small (mk_W hf _ (inf_W hf))) (nB_small (mk_W hf _ (FP.two_pow_pos _))) (nB_u _ _)).trans (by rw [k1]; try rfl)) (by rfl)).trans ?_
          refine (treeF_call (r := [b2i (decide (4 ≤ clsF (fN f) (dfl (fN f))))]) (by simp only [sxs, ph_B2_class_NaN, u8_1, u8_0]; exact k_class_NaN (fN_u f) (nB_small (dl))) (by rfl)).trans ?_
          refine tF (by exact nT (by simp only [sxs, u8_1, u8_0]; exact decide_eq_true (dn))) ?_
          refine tF (by simp only [sxs, u8_1, u8_0]; simp only [beq_self_eq_true, bne_self_eq_false]) ?_
          refine (treeF_call (r := [b2i (decide (4 ≤ clsF (fN f) (nB c1 c0)))]) (by simp only [sxs, ph_B2_class_NaN, u8_1, u8_0]; exact k_class_NaN (fN_u f) (nB_u _ _)) (by rfl)).trans ?_
          refine tT (by exact nF (by simp only [sxs, u8_1, u8_0]; exact decide_eq_false (nc))) ?_
          rw [treeF_leaf rfl]; rfl
        · have k1 := fma_nan_i (u8 m).toNat (iNz t) nZ nI bZI nc
          refine tF (by simp only [sxs, u8_1, u8_0]; exact known) ?_
          refine tF (by simp only [sxs, u8_1, u8_0]; exact knownm) ?_
          refine (treeF_call (r := [wd (FP.mk (fN f) (iNz n) (0)) 1, wd (FP.mk (fN f) (iNz n) (0)) 0]) (by simp only [sxs, ph_B2_format_Nought, u8_1, u8_0]; exact k_format_Nought (fN_u f) hf (iNz_b2i _)) (by rfl)).trans ?_
          refine (treeF_call (r := [wd (FP.mk (fN f) (!(iNz n)) (FP.inf (fN f))) 1, wd (FP.mk (fN f) (!(iNz n)) (FP.inf (fN f))) 0]) (by simp only [sxs, ph_B2_format_Inf, u8_1, u8_0]; exact k_format_Inf (fN_u f) hf (iNz_b2i _)) (by rfl)).trans ?_
          refine tF (by simp only [sxs]; exact Bool.eq_false_iff.2 hw) ?_
          refine (treeF_call (r := [wd (dfl (fN f)) 1, wd (dfl (fN f)) 0, (1 : Int)]) (by simp only [sxs, ph_B2_fma_Fma, u8_1, u8_0]; exact (k_fma_Fma (fN_u f) hf ((md_u hm).1) ((md_u hm).2) (iNz_b2i _) (nB_small (mk_W hf _ (FP.two_pow_pos _))) (nB_small (mk_W hf _ (inf_W hf))) (nB_u _ _)).trans (by rw [k1]; try rfl)) (by rfl)).trans ?_
          refine (treeF_call (r := [b2i (decide (4 ≤ clsF (fN f) (dfl (fN f))))]) (by simp only [sxs, ph_B2_class_NaN, u8_1, u8_0]; exact k_class_NaN (fN_u f) (nB_small (dl))) (by rfl)).trans ?_
          refine tF (by exact nT (by simp only [sxs, u8_1, u8_0]; exact decide_eq_true (dn))) ?_
          refine tF (by simp only [sxs, u8_1, u8_0]; simp only [beq_self_eq_true, bne_self_eq_false]) ?_
          refine (treeF_call (r := [b2i (decide (4 ≤ clsF (fN f) (nB c1 c0)))]) (by simp only [sxs, ph_B2_class_NaN, u8_1, u8_0]; exact k_class_NaN (fN_u f) (nB_u _ _)) (by rfl)).trans ?_
          refine tT (by exact nF (by simp only [sxs, u8_1, u8_0]; exact decide_eq_false (nc))) ?_
          rw [treeF_leaf rfl]; rfl
    · have known := known_f hf
      refine tF (by simp only [sxs]; exact known) ?_
      refine tT (by simp only [sxs]; rw [decide_eq_false hm]; rfl) ?_
      rw [treeF_leaf rfl]; rfl
  · skip
    refine tT (by simp only [sxs]; rw [decide_eq_false (fun h => hf ((u8_lt4 f).1 h))]; rfl) ?_
    rw [treeF_leaf rfl]; rfl
theorem true_MulOne (l : List Int) (h : l.length = 5) : F_law19_MulOne l = [1] := by
  match l, h with
  | [f, m, t, a1, a0], _ =>
  rw [F_law19_MulOne, t_law19_MulOne]
  by_cases hf : fN f < 4
  · by_cases hm : u8 m ≤ 4
    · have known := known_f hf
      have knownm := known_m hm
      by_cases na : 4 ≤ clsF (fN f) (nB a1 a0)
      · skip
        refine tF (by simp only [sxs]; exact known) ?_
        refine tF (by simp only [sxs]; exact knownm) ?_
        refine (treeF_call (r := [b2i (decide (4 ≤ clsF (fN f) (nB a1 a0)))]) (by simp only [sxs, ph_B2_class_NaN]; exact k_class_NaN (fN_u f) (nB_u _ _)) (by rfl)).trans ?_
        refine tT (by simp only [sxs]; exact decide_eq_true (na)) ?_
        rw [treeF_leaf rfl]; rfl
      · have k1 := mulR_one hf (u8 m).toNat (iNz t) na
        have k2 := mulR_two hf (u8 m).toNat (iNz t) na
        have hl := addR_bound hf (u8 m).toNat (iNz t) (nB a1 a0)
        generalize k3 : addR (fN f) (u8 m).toNat (iNz t) (nB a1 a0) (nB a1 a0) = R at *
        obtain ⟨r, g⟩ := R
        refine tF (by simp only [sxs, u8_0]; exact known) ?_
        refine tF (by simp only [sxs, u8_0]; exact knownm) ?_
        refine (treeF_call (r := [b2i (decide (4 ≤ clsF (fN f) (nB a1 a0)))]) (by simp only [sxs, ph_B2_class_NaN, u8_0]; exact k_class_NaN (fN_u f) (nB_u _ _)) (by rfl)).trans ?_
        refine tF (by simp only [sxs, u8_0]; exact decide_eq_false (na)) ?_
        refine (treeF_call (r := [((FP.fE (fN f) : Nat) : Int)]) (by simp only [sxs, ph_B2_format_Emax, u8_0]; exact k_format_Emax (fN_u f)) (by rfl)).trans ?_
        refine (treeF_call (r := [wd (FP.mk (fN f) false (FP.oneC (fN f))) 1, wd (FP.mk (fN f) false (FP.oneC (fN f))) 0]) (by simp only [sxs, ph_B2_format_Make, u8_0]; exact k_one (fN_u f) hf) (by rfl)).trans ?_
        refine (treeF_call (r := [((FP.fE (fN f) : Nat) : Int)]) (by simp only [sxs, ph_B2_format_Emax, u8_0]; exact k_format_Emax (fN_u f)) (by rfl)).trans ?_
        refine (treeF_call (r := [wd (FP.mk (fN f) false (twoC (fN f))) 1, wd (FP.mk (fN f) false (twoC (fN f))) 0]) (by simp only [sxs, ph_B2_format_Make, u8_0]; exact k_two (fN_u f) hf) (by rfl)).trans ?_
        refine (treeF_call (r := [wd (nB a1 a0 % 2 ^ FP.fW (fN f)) 1, wd (nB a1 a0 % 2 ^ FP.fW (fN f)) 0, (0 : Int)]) (by simp only [sxs, ph_B2_mul_Mul, u8_0]; exact (k_mul_Mul (fN_u f) hf ((md_u hm).1) ((md_u hm).2) (iNz_b2i _) (nB_u _ _) (nB_small (mk_W hf _ (one_bits hf).1))).trans (by rw [k1]; try rfl)) (by rfl)).trans ?_
        refine (treeF_call (r := [wd (nB a1 a0 % 2 ^ FP.fW (fN f)) 1, wd (nB a1 a0 % 2 ^ FP.fW (fN f)) 0]) (by simp only [sxs, ph_B2_format_Cut, u8_0]; exact k_format_Cut (fN_u f) (nB_u _ _)) (by rfl)).trans ?_
        refine tT (by simp only [sxs, u8_0]; simp only [beq_self_eq_true, Bool.and_true, Bool.and_self, bt1, bt0]) ?_
        refine (treeF_call (r := [wd (r) 1, wd (r) 0, ((g : Nat) : Int)]) (by simp only [sxs, ph_B2_mul_Mul, u8_0]; exact (k_mul_Mul (fN_u f) hf ((md_u hm).1) ((md_u hm).2) (iNz_b2i _) (nB_u _ _) (nB_small (mk_W hf _ (two_bits hf).1))).trans (by rw [k2]; try rfl)) (by rfl)).trans ?_
        refine (treeF_call (r := [wd (r) 1, wd (r) 0, ((g : Nat) : Int)]) (by simp only [sxs, ph_B2_addsub_Add, u8_0]; exact (k_addsub_Add (fN_u f) hf ((md_u hm).1) ((md_u hm).2) (iNz_b2i _) (nB_u _ _) (nB_u _ _)).trans (by rw [k3]; try rfl)) (by rfl)).trans ?_
        refine tT (by simp only [sxs, u8_0]; simp only [beq_self_eq_true, Bool.and_true, Bool.and_self, bt1, bt0]) ?_
        rw [treeF_leaf rfl]; rfl
    · have known := known_f hf
      refine tF (by simp only [sxs]; exact known) ?_
      refine tT (by simp only [sxs]; rw [decide_eq_false hm]; rfl) ?_
      rw [treeF_leaf rfl]; rfl
  · skip
    refine tT (by simp only [sxs]; rw [decide_eq_false (fun h => hf ((u8_lt4 f).1 h))]; rfl) ?_
    rw [treeF_leaf rfl]; rfl
theorem true_FmaRest (l : List Int) (h : l.length = 6) : F_law20_FmaRest l = [1] := by
  match l, h with
  | [f, a1, a0, b1, b0, w], _ =>
  rw [F_law20_FmaRest, t_law20_FmaRest]
  by_cases hw : iNz w = true
  · skip
    by_cases hf : fN f < 4
    · have known := known_f hf
      by_cases fa : clsF (fN f) (nB a1 a0) < 3
      · by_cases fb : clsF (fN f) (nB b1 b0) < 3
        · skip
          have hl := mulR_lt' hf 1 false (nB a1 a0) (nB b1 b0)
          have hg := mulR_flag' hf 1 false (nB a1 a0) (nB b1 b0)
          have hr := fun q k (ha : clsF (fN f) (nB a1 a0) = 1 ∨ clsF (fN f) (nB a1 a0) = 2) hb h hq hx => fmaR_rest (f := fN f) (m := 1) (t := false) (a := nB a1 a0) (b := nB b1 b0) (q := q) (k := k) hf (by omega) ha hb h hq hx
          generalize k1 : mulR (fN f) 1 false (nB a1 a0) (nB b1 b0) = R at *
          obtain ⟨r, g⟩ := R
          simp only at hl hg
          have g8 := u8_flag (k := g) (by omega)
          by_cases fr : clsF (fN f) r < 3
          · by_cases za : clsF (fN f) (nB a1 a0) = 0
            · skip
              refine tT (by simp only [sxs]; exact hw) ?_
              refine tF (by simp only [sxs, u8_0]; exact known) ?_
              refine (treeF_call (r := [b2i (decide (clsF (fN f) (nB a1 a0) < 3))]) (by simp only [sxs, ph_B2_class_Finite, u8_0]; exact k_class_Finite (fN_u f) hf (nB_u _ _)) (by rfl)).trans ?_
              refine tF (by exact nT (by simp only [sxs, u8_0]; exact decide_eq_true (fa))) ?_
              refine (treeF_call (r := [b2i (decide (clsF (fN f) (nB b1 b0) < 3))]) (by simp only [sxs, ph_B2_class_Finite, u8_0]; exact k_class_Finite (fN_u f) hf (nB_u _ _)) (by rfl)).trans ?_
              refine tF (by exact nT (by simp only [sxs, u8_0]; exact decide_eq_true (fb))) ?_
              refine (treeF_call (r := [b2i (FP.sgn (fN f) (nB a1 a0)), ((clsF (fN f) (nB a1 a0) : Nat) : Int), unE (fN f) (nB a1 a0), wd (unS (fN f) (nB a1 a0)) 1, wd (unS (fN f) (nB a1 a0)) 0]) (by simp only [sxs, ph_B2_fields_Unpack, u8_0]; exact k_Unpack (fN_u f) hf (nB_u _ _)) (by rfl)).trans ?_
              refine (treeF_call (r := [b2i (FP.sgn (fN f) (nB b1 b0)), ((clsF (fN f) (nB b1 b0) : Nat) : Int), unE (fN f) (nB b1 b0), wd (unS (fN f) (nB b1 b0)) 1, wd (unS (fN f) (nB b1 b0)) 0]) (by simp only [sxs, ph_B2_fields_Unpack, u8_0]; exact k_Unpack (fN_u f) hf (nB_u _ _)) (by rfl)).trans ?_
              refine (treeF_call (r := [wd (r) 1, wd (r) 0, ((g : Nat) : Int)]) (by simp only [sxs, ph_B2_mul_Mul, u8_0]; exact (k_mul_Mul (fN_u f) hf ((md_lit 1 (by decide)).1) ((md_lit 1 (by decide)).2) (show iNz 0 = false from rfl) (nB_u _ _) (nB_u _ _)).trans (by rw [k1]; try rfl)) (by rfl)).trans ?_
              refine (treeF_call (r := [b2i (decide (clsF (fN f) (r) < 3))]) (by simp only [sxs, ph_B2_class_Finite, u8_0]; exact k_class_Finite (fN_u f) hf (nB_small (hl))) (by rfl)).trans ?_
              refine tF (by exact nT (by simp only [sxs, u8_0]; exact decide_eq_true (fr))) ?_
              refine tT (by simp only [sxs, clsF_u8]; exact (beq_nk0 _).trans (decide_eq_true (za))) ?_
              rw [treeF_leaf rfl]; rfl
            by_cases zb : clsF (fN f) (nB b1 b0) = 0
            · skip
              refine tT (by simp only [sxs]; exact hw) ?_
              refine tF (by simp only [sxs, u8_0]; exact known) ?_
              refine (treeF_call (r := [b2i (decide (clsF (fN f) (nB a1 a0) < 3))]) (by simp only [sxs, ph_B2_class_Finite, u8_0]; exact k_class_Finite (fN_u f) hf (nB_u _ _)) (by rfl)).trans ?_
              refine tF (by exact nT (by simp only [sxs, u8_0]; exact decide_eq_true (fa))) ?_
              refine (treeF_call (r := [b2i (decide (clsF (fN f) (nB b1 b0) < 3))]) (by simp only [sxs, ph_B2_class_Finite, u8_0]; exact k_class_Finite (fN_u f) hf (nB_u _ _)) (by rfl)).trans ?_
              refine tF (by exact nT (by simp only [sxs, u8_0]; exact decide_eq_true (fb))) ?_
              refine (treeF_call (r := [b2i (FP.sgn (fN f) (nB a1 a0)), ((clsF (fN f) (nB a1 a0) : Nat) : Int), unE (fN f) (nB a1 a0), wd (unS (fN f) (nB a1 a0)) 1, wd (unS (fN f) (nB a1 a0)) 0]) (by simp only [sxs, ph_B2_fields_Unpack, u8_0]; exact k_Unpack (fN_u f) hf (nB_u _ _)) (by rfl)).trans ?_
              refine (treeF_call (r := [b2i (FP.sgn (fN f) (nB b1 b0)), ((clsF (fN f) (nB b1 b0) : Nat) : Int), unE (fN f) (nB b1 b0), wd (unS (fN f) (nB b1 b0)) 1, wd (unS (fN f) (nB b1 b0)) 0]) (by simp only [sxs, ph_B2_fields_Unpack, u8_0]; exact k_Unpack (fN_u f) hf (nB_u _ _)) (by rfl)).trans ?_
              refine (treeF_call (r := [wd (r) 1, wd (r) 0, ((g : Nat) : Int)]) (by simp only [sxs, ph_B2_mul_Mul, u8_0]; exact (k_mul_Mul (fN_u f) hf ((md_lit 1 (by decide)).1) ((md_lit 1 (by decide)).2) (show iNz 0 = false from rfl) (nB_u _ _) (nB_u _ _)).trans (by rw [k1]; try rfl)) (by rfl)).trans ?_
              refine (treeF_call (r := [b2i (decide (clsF (fN f) (r) < 3))]) (by simp only [sxs, ph_B2_class_Finite, u8_0]; exact k_class_Finite (fN_u f) hf (nB_small (hl))) (by rfl)).trans ?_
              refine tF (by exact nT (by simp only [sxs, u8_0]; exact decide_eq_true (fr))) ?_
              refine tF (by simp only [sxs, clsF_u8]; exact (beq_nk0 _).trans (decide_eq_false (za))) ?_
              refine tT (by simp only [sxs, clsF_u8]; exact (beq_nk0 _).trans (decide_eq_true (zb))) ?_
              rw [treeF_leaf rfl]; rfl
            obtain ⟨iea, ieb, ies⟩ := un_ids (f := fN f) (a := nB a1 a0) (b := nB b1 b0)
            obtain ⟨lm1, lm2⟩ := rest_lim hf
            by_cases hx : unE (fN f) (nB a1 a0) + unE (fN f) (nB b1 b0) < 2 * (FP.fP (fN f) : Int) - FP.fE (fN f)
            · skip
              refine tT (by simp only [sxs]; exact hw) ?_
              refine tF (by simp only [sxs, u8_0]; exact known) ?_
              refine (treeF_call (r := [b2i (decide (clsF (fN f) (nB a1 a0) < 3))]) (by simp only [sxs, ph_B2_class_Finite, u8_0]; exact k_class_Finite (fN_u f) hf (nB_u _ _)) (by rfl)).trans ?_
              refine tF (by exact nT (by simp only [sxs, u8_0]; exact decide_eq_true (fa))) ?_
              refine (treeF_call (r := [b2i (decide (clsF (fN f) (nB b1 b0) < 3))]) (by simp only [sxs, ph_B2_class_Finite, u8_0]; exact k_class_Finite (fN_u f) hf (nB_u _ _)) (by rfl)).trans ?_
              refine tF (by exact nT (by simp only [sxs, u8_0]; exact decide_eq_true (fb))) ?_
              refine (treeF_call (r := [b2i (FP.sgn (fN f) (nB a1 a0)), ((clsF (fN f) (nB a1 a0) : Nat) : Int), unE (fN f) (nB a1 a0), wd (unS (fN f) (nB a1 a0)) 1, wd (unS (fN f) (nB a1 a0)) 0]) (by simp only [sxs, ph_B2_fields_Unpack, u8_0]; exact k_Unpack (fN_u f) hf (nB_u _ _)) (by rfl)).trans ?_
              refine (treeF_call (r := [b2i (FP.sgn (fN f) (nB b1 b0)), ((clsF (fN f) (nB b1 b0) : Nat) : Int), unE (fN f) (nB b1 b0), wd (unS (fN f) (nB b1 b0)) 1, wd (unS (fN f) (nB b1 b0)) 0]) (by simp only [sxs, ph_B2_fields_Unpack, u8_0]; exact k_Unpack (fN_u f) hf (nB_u _ _)) (by rfl)).trans ?_
              refine (treeF_call (r := [wd (r) 1, wd (r) 0, ((g : Nat) : Int)]) (by simp only [sxs, ph_B2_mul_Mul, u8_0]; exact (k_mul_Mul (fN_u f) hf ((md_lit 1 (by decide)).1) ((md_lit 1 (by decide)).2) (show iNz 0 = false from rfl) (nB_u _ _) (nB_u _ _)).trans (by rw [k1]; try rfl)) (by rfl)).trans ?_
              refine (treeF_call (r := [b2i (decide (clsF (fN f) (r) < 3))]) (by simp only [sxs, ph_B2_class_Finite, u8_0]; exact k_class_Finite (fN_u f) hf (nB_small (hl))) (by rfl)).trans ?_
              refine tF (by exact nT (by simp only [sxs, u8_0]; exact decide_eq_true (fr))) ?_
              refine tF (by simp only [sxs, clsF_u8]; exact (beq_nk0 _).trans (decide_eq_false (za))) ?_
              refine tF (by simp only [sxs, clsF_u8]; exact (beq_nk0 _).trans (decide_eq_false (zb))) ?_
              refine (treeF_call (r := [((FP.fP (fN f) : Nat) : Int)]) (by simp only [sxs, ph_B2_format_Prec, u8_0]; exact k_format_Prec (fN_u f)) (by rfl)).trans ?_
              refine (treeF_call (r := [((FP.fE (fN f) : Nat) : Int)]) (by simp only [sxs, ph_B2_format_Emax, u8_0]; exact k_format_Emax (fN_u f)) (by rfl)).trans ?_
              refine tT (by simp only [sxs, iea, ieb, ies, lm1, lm2]; exact decide_eq_true hx) ?_
              rw [treeF_leaf rfl]; rfl
            obtain ⟨e, s, he, k2, hz⟩ := hr r g (by omega) (by omega) rfl fr (by omega)
            have el := Nat.lt_trans he (inf_lt hf)
            have ml : FP.mk (fN f) s e < W128 := mk_W hf _ el
            have mc : clsF (fN f) (FP.mk (fN f) s e) = 0 ↔ e = 0 := by rw [clsF_mk hf _ el]; exact clsC_zero_iff
            have hzz : decide (clsF (fN f) (FP.mk (fN f) s e) = 0) = decide (g = 0) := by rw [decide_eq_decide, mc, hz]
            refine tT (by simp only [sxs]; exact hw) ?_
            refine tF (by simp only [sxs, u8_0]; exact known) ?_
            refine (treeF_call (r := [b2i (decide (clsF (fN f) (nB a1 a0) < 3))]) (by simp only [sxs, ph_B2_class_Finite, u8_0]; exact k_class_Finite (fN_u f) hf (nB_u _ _)) (by rfl)).trans ?_
            refine tF (by exact nT (by simp only [sxs, u8_0]; exact decide_eq_true (fa))) ?_
            refine (treeF_call (r := [b2i (decide (clsF (fN f) (nB b1 b0) < 3))]) (by simp only [sxs, ph_B2_class_Finite, u8_0]; exact k_class_Finite (fN_u f) hf (nB_u _ _)) (by rfl)).trans ?_
            refine tF (by exact nT (by simp only [sxs, u8_0]; exact decide_eq_true (fb))) ?_
            refine (treeF_call (r := [b2i (FP.sgn (fN f) (nB a1 a0)), ((clsF (fN f) (nB a1 a0) : Nat) : Int), unE (fN f) (nB a1 a0), wd (unS (fN f) (nB a1 a0)) 1, wd (unS (fN f) (nB a1 a0)) 0]) (by simp only [sxs, ph_B2_fields_Unpack, u8_0]; exact k_Unpack (fN_u f) hf (nB_u _ _)) (by rfl)).trans ?_
            refine (treeF_call (r := [b2i (FP.sgn (fN f) (nB b1 b0)), ((clsF (fN f) (nB b1 b0) : Nat) : Int), unE (fN f) (nB b1 b0), wd (unS (fN f) (nB b1 b0)) 1, wd (unS (fN f) (nB b1 b0)) 0]) (by simp only [sxs, ph_B2_fields_Unpack, u8_0]; exact k_Unpack (fN_u f) hf (nB_u _ _)) (by rfl)).trans ?_
            refine (treeF_call (r := [wd (r) 1, wd (r) 0, ((g : Nat) : Int)]) (by simp only [sxs, ph_B2_mul_Mul, u8_0]; exact (k_mul_Mul (fN_u f) hf ((md_lit 1 (by decide)).1) ((md_lit 1 (by decide)).2) (show iNz 0 = false from rfl) (nB_u _ _) (nB_u _ _)).trans (by rw [k1]; try rfl)) (by rfl)).trans ?_
            refine (treeF_call (r := [b2i (decide (clsF (fN f) (r) < 3))]) (by simp only [sxs, ph_B2_class_Finite, u8_0]; exact k_class_Finite (fN_u f) hf (nB_small (hl))) (by rfl)).trans ?_
            refine tF (by exact nT (by simp only [sxs, u8_0]; exact decide_eq_true (fr))) ?_
            refine tF (by simp only [sxs, clsF_u8]; exact (beq_nk0 _).trans (decide_eq_false (za))) ?_
            refine tF (by simp only [sxs, clsF_u8]; exact (beq_nk0 _).trans (decide_eq_false (zb))) ?_
            refine (treeF_call (r := [((FP.fP (fN f) : Nat) : Int)]) (by simp only [sxs, ph_B2_format_Prec, u8_0]; exact k_format_Prec (fN_u f)) (by rfl)).trans ?_
            refine (treeF_call (r := [((FP.fE (fN f) : Nat) : Int)]) (by simp only [sxs, ph_B2_format_Emax, u8_0]; exact k_format_Emax (fN_u f)) (by rfl)).trans ?_
            refine tF (by simp only [sxs, iea, ieb, ies, lm1, lm2]; exact decide_eq_false hx) ?_
            refine (treeF_call (r := [wd (turnN (fN f) (r)) 1, wd (turnN (fN f) (r)) 0]) (by simp only [sxs, ph_B2_addsub_Turn, u8_0]; exact k_addsub_Turn (fN_u f) (nB_small (hl))) (by rfl)).trans ?_
            refine (treeF_call (r := [wd (FP.mk (fN f) s e) 1, wd (FP.mk (fN f) s e) 0, (0 : Int)]) (by simp only [sxs, ph_B2_fma_Fma, u8_0]; exact (k_fma_Fma (fN_u f) hf ((md_lit 1 (by decide)).1) ((md_lit 1 (by decide)).2) (show iNz 0 = false from rfl) (nB_u _ _) (nB_u _ _) (nB_small (turn_lt _ _))).trans (by rw [k2]; try rfl)) (by rfl)).trans ?_
            refine (treeF_call (r := [((clsF (fN f) (FP.mk (fN f) s e) : Nat) : Int), b2i (FP.sgn (fN f) (FP.mk (fN f) s e))]) (by simp only [sxs, ph_B2_class_Of, u8_0]; exact k_class_Of (fN_u f) hf (nB_small (ml))) (by rfl)).trans ?_
            refine tT (by simp only [sxs, u8_0]; simp only [beq_self_eq_true, bne_self_eq_false]) ?_
            refine tT (by simp only [sxs, clsF_u8, g8]; rw [beq_nk0, beq_nk0, hzz]; exact beq_self_eq_true _) ?_
            rw [treeF_leaf rfl]; rfl
          · skip
            refine tT (by simp only [sxs]; exact hw) ?_
            refine tF (by simp only [sxs, u8_0]; exact known) ?_
            refine (treeF_call (r := [b2i (decide (clsF (fN f) (nB a1 a0) < 3))]) (by simp only [sxs, ph_B2_class_Finite, u8_0]; exact k_class_Finite (fN_u f) hf (nB_u _ _)) (by rfl)).trans ?_
            refine tF (by exact nT (by simp only [sxs, u8_0]; exact decide_eq_true (fa))) ?_
            refine (treeF_call (r := [b2i (decide (clsF (fN f) (nB b1 b0) < 3))]) (by simp only [sxs, ph_B2_class_Finite, u8_0]; exact k_class_Finite (fN_u f) hf (nB_u _ _)) (by rfl)).trans ?_
            refine tF (by exact nT (by simp only [sxs, u8_0]; exact decide_eq_true (fb))) ?_
            refine (treeF_call (r := [b2i (FP.sgn (fN f) (nB a1 a0)), ((clsF (fN f) (nB a1 a0) : Nat) : Int), unE (fN f) (nB a1 a0), wd (unS (fN f) (nB a1 a0)) 1, wd (unS (fN f) (nB a1 a0)) 0]) (by simp only [sxs, ph_B2_fields_Unpack, u8_0]; exact k_Unpack (fN_u f) hf (nB_u _ _)) (by rfl)).trans ?_
            refine (treeF_call (r := [b2i (FP.sgn (fN f) (nB b1 b0)), ((clsF (fN f) (nB b1 b0) : Nat) : Int), unE (fN f) (nB b1 b0), wd (unS (fN f) (nB b1 b0)) 1, wd (unS (fN f) (nB b1 b0)) 0]) (by simp only [sxs, ph_B2_fields_Unpack, u8_0]; exact k_Unpack (fN_u f) hf (nB_u _ _)) (by rfl)).trans ?_
            refine (treeF_call (r := [wd (r) 1, wd (r) 0, ((g : Nat) : Int)]) (by simp only [sxs, ph_B2_mul_Mul, u8_0]; exact (k_mul_Mul (fN_u f) hf ((md_lit 1 (by decide)).1) ((md_lit 1 (by decide)).2) (show iNz 0 = false from rfl) (nB_u _ _) (nB_u _ _)).trans (by rw [k1]; try rfl)) (by rfl)).trans ?_
            refine (treeF_call (r := [b2i (decide (clsF (fN f) (r) < 3))]) (by simp only [sxs, ph_B2_class_Finite, u8_0]; exact k_class_Finite (fN_u f) hf (nB_small (hl))) (by rfl)).trans ?_
            refine tT (by exact nF (by simp only [sxs, u8_0]; exact decide_eq_false (fr))) ?_
            rw [treeF_leaf rfl]; rfl
        · skip
          refine tT (by simp only [sxs]; exact hw) ?_
          refine tF (by simp only [sxs, u8_0]; exact known) ?_
          refine (treeF_call (r := [b2i (decide (clsF (fN f) (nB a1 a0) < 3))]) (by simp only [sxs, ph_B2_class_Finite, u8_0]; exact k_class_Finite (fN_u f) hf (nB_u _ _)) (by rfl)).trans ?_
          refine tF (by exact nT (by simp only [sxs, u8_0]; exact decide_eq_true (fa))) ?_
          refine (treeF_call (r := [b2i (decide (clsF (fN f) (nB b1 b0) < 3))]) (by simp only [sxs, ph_B2_class_Finite, u8_0]; exact k_class_Finite (fN_u f) hf (nB_u _ _)) (by rfl)).trans ?_
          refine tT (by exact nF (by simp only [sxs, u8_0]; exact decide_eq_false (fb))) ?_
          rw [treeF_leaf rfl]; rfl
      · skip
        refine tT (by simp only [sxs]; exact hw) ?_
        refine tF (by simp only [sxs, u8_0]; exact known) ?_
        refine (treeF_call (r := [b2i (decide (clsF (fN f) (nB a1 a0) < 3))]) (by simp only [sxs, ph_B2_class_Finite, u8_0]; exact k_class_Finite (fN_u f) hf (nB_u _ _)) (by rfl)).trans ?_
        refine tT (by exact nF (by simp only [sxs, u8_0]; exact decide_eq_false (fa))) ?_
        rw [treeF_leaf rfl]; rfl
    · skip
      refine tT (by simp only [sxs]; exact hw) ?_
      refine tT (by simp only [sxs]; rw [decide_eq_false (fun h => hf ((u8_lt4 f).1 h))]; rfl) ?_
      rw [treeF_leaf rfl]; rfl
  · skip
    by_cases hf : fN f < 4
    · have known := known_f hf
      by_cases fa : clsF (fN f) (nB a1 a0) < 3
      · by_cases fb : clsF (fN f) (nB b1 b0) < 3
        · skip
          have hl := mulR_lt' hf 0 false (nB a1 a0) (nB b1 b0)
          have hg := mulR_flag' hf 0 false (nB a1 a0) (nB b1 b0)
          have hr := fun q k (ha : clsF (fN f) (nB a1 a0) = 1 ∨ clsF (fN f) (nB a1 a0) = 2) hb h hq hx => fmaR_rest (f := fN f) (m := 0) (t := false) (a := nB a1 a0) (b := nB b1 b0) (q := q) (k := k) hf (by omega) ha hb h hq hx
          generalize k1 : mulR (fN f) 0 false (nB a1 a0) (nB b1 b0) = R at *
          obtain ⟨r, g⟩ := R
          simp only at hl hg
          have g8 := u8_flag (k := g) (by omega)
          by_cases fr : clsF (fN f) r < 3
          · by_cases za : clsF (fN f) (nB a1 a0) = 0
            · skip
              refine tF (by simp only [sxs]; exact Bool.eq_false_iff.2 hw) ?_
              refine tF (by simp only [sxs, u8_0]; exact known) ?_
              refine (treeF_call (r := [b2i (decide (clsF (fN f) (nB a1 a0) < 3))]) (by simp only [sxs, ph_B2_class_Finite, u8_0]; exact k_class_Finite (fN_u f) hf (nB_u _ _)) (by rfl)).trans ?_
              refine tF (by exact nT (by simp only [sxs, u8_0]; exact decide_eq_true (fa))) ?_
              refine (treeF_call (r := [b2i (decide (clsF (fN f) (nB b1 b0) < 3))]) (by simp only [sxs, ph_B2_class_Finite, u8_0]; exact k_class_Finite (fN_u f) hf (nB_u _ _)) (by rfl)).trans ?_
              refine tF (by exact nT (by simp only [sxs, u8_0]; exact decide_eq_true (fb))) ?_
              refine (treeF_call (r := [b2i (FP.sgn (fN f) (nB a1 a0)), ((clsF (fN f) (nB a1 a0) : Nat) : Int), unE (fN f) (nB a1 a0), wd (unS (fN f) (nB a1 a0)) 1, wd (unS (fN f) (nB a1 a0)) 0]) (by simp only [sxs, ph_B2_fields_Unpack, u8_0]; exact k_Unpack (fN_u f) hf (nB_u _ _)) (by rfl)).trans ?_
              refine (treeF_call (r := [b2i (FP.sgn (fN f) (nB b1 b0)), ((clsF (fN f) (nB b1 b0) : Nat) : Int), unE (fN f) (nB b1 b0), wd (unS (fN f) (nB b1 b0)) 1, wd (unS (fN f) (nB b1 b0)) 0]) (by simp only [sxs, ph_B2_fields_Unpack, u8_0]; exact k_Unpack (fN_u f) hf (nB_u _ _)) (by rfl)).trans ?_
              refine (treeF_call (r := [wd (r) 1, wd (r) 0, ((g : Nat) : Int)]) (by simp only [sxs, ph_B2_mul_Mul, u8_0]; exact (k_mul_Mul (fN_u f) hf ((md_lit 0 (by decide)).1) ((md_lit 0 (by decide)).2) (show iNz 0 = false from rfl) (nB_u _ _) (nB_u _ _)).trans (by rw [k1]; try rfl)) (by rfl)).trans ?_
              refine (treeF_call (r := [b2i (decide (clsF (fN f) (r) < 3))]) (by simp only [sxs, ph_B2_class_Finite, u8_0]; exact k_class_Finite (fN_u f) hf (nB_small (hl))) (by rfl)).trans ?_
              refine tF (by exact nT (by simp only [sxs, u8_0]; exact decide_eq_true (fr))) ?_
              refine tT (by simp only [sxs, clsF_u8]; exact (beq_nk0 _).trans (decide_eq_true (za))) ?_
              rw [treeF_leaf rfl]; rfl
            by_cases zb : clsF (fN f) (nB b1 b0) = 0
            · skip
              refine tF (by simp only [sxs]; exact Bool.eq_false_iff.2 hw) ?_
              refine tF (by simp only [sxs, u8_0]; exact known) ?_
              refine (treeF_call (r := [b2i (decide (clsF (fN f) (nB a1 a0) < 3))]) (by simp only [sxs, ph_B2_class_Finite, u8_0]; exact k_class_Finite (fN_u f) hf (nB_u _ _)) (by rfl)).trans ?_
              refine tF (by exact nT (by simp only [sxs, u8_0]; exact decide_eq_true (fa))) ?_
              refine (treeF_call (r := [b2i (decide (clsF (fN f) (nB b1 b0) < 3))]) (by simp only [sxs, ph_B2_class_Finite, u8_0]; exact k_class_Finite (fN_u f) hf (nB_u _ _)) (by rfl)).trans ?_
              refine tF (by exact nT (by simp only [sxs, u8_0]; exact decide_eq_true (fb))) ?_
              refine (treeF_call (r := [b2i (FP.sgn (fN f) (nB a1 a0)), ((clsF (fN f) (nB a1 a0) : Nat) : Int), unE (fN f) (nB a1 a0), wd (unS (fN f) (nB a1 a0)) 1, wd (unS (fN f) (nB a1 a0)) 0]) (by simp only [sxs, ph_B2_fields_Unpack, u8_0]; exact k_Unpack (fN_u f) hf (nB_u _ _)) (by rfl)).trans ?_
              refine (treeF_call (r := [b2i (FP.sgn (fN f) (nB b1 b0)), ((clsF (fN f) (nB b1 b0) : Nat) : Int), unE (fN f) (nB b1 b0), wd (unS (fN f) (nB b1 b0)) 1, wd (unS (fN f) (nB b1 b0)) 0]) (by simp only [sxs, ph_B2_fields_Unpack, u8_0]; exact k_Unpack (fN_u f) hf (nB_u _ _)) (by rfl)).trans ?_
              refine (treeF_call (r := [wd (r) 1, wd (r) 0, ((g : Nat) : Int)]) (by simp only [sxs, ph_B2_mul_Mul, u8_0]; exact (k_mul_Mul (fN_u f) hf ((md_lit 0 (by decide)).1) ((md_lit 0 (by decide)).2) (show iNz 0 = false from rfl) (nB_u _ _) (nB_u _ _)).trans (by rw [k1]; try rfl)) (by rfl)).trans ?_
              refine (treeF_call (r := [b2i (decide (clsF (fN f) (r) < 3))]) (by simp only [sxs, ph_B2_class_Finite, u8_0]; exact k_class_Finite (fN_u f) hf (nB_small (hl))) (by rfl)).trans ?_
              refine tF (by exact nT (by simp only [sxs, u8_0]; exact decide_eq_true (fr))) ?_
              refine tF (by simp only [sxs, clsF_u8]; exact (beq_nk0 _).trans (decide_eq_false (za))) ?_
              refine tT (by simp only [sxs, clsF_u8]; exact (beq_nk0 _).trans (decide_eq_true (zb))) ?_
              rw [treeF_leaf rfl]; rfl
            obtain ⟨iea, ieb, ies⟩ := un_ids (f := fN f) (a := nB a1 a0) (b := nB b1 b0)
            obtain ⟨lm1, lm2⟩ := rest_lim hf
            by_cases hx : unE (fN f) (nB a1 a0) + unE (fN f) (nB b1 b0) < 2 * (FP.fP (fN f) : Int) - FP.fE (fN f)
            · skip
              refine tF (by simp only [sxs]; exact Bool.eq_false_iff.2 hw) ?_
              refine tF (by simp only [sxs, u8_0]; exact known) ?_
              refine (treeF_call (r := [b2i (decide (clsF (fN f) (nB a1 a0) < 3))]) (by simp only [sxs, ph_B2_class_Finite, u8_0]; exact k_class_Finite (fN_u f) hf (nB_u _ _)) (by rfl)).trans ?_
              refine tF (by exact nT (by simp only [sxs, u8_0]; exact decide_eq_true (fa))) ?_
              refine (treeF_call (r := [b2i (decide (clsF (fN f) (nB b1 b0) < 3))]) (by simp only [sxs, ph_B2_class_Finite, u8_0]; exact k_class_Finite (fN_u f) hf (nB_u _ _)) (by rfl)).trans ?_
              refine tF (by exact nT (by simp only [sxs, u8_0]; exact decide_eq_true (fb))) ?_
              refine (treeF_call (r := [b2i (FP.sgn (fN f) (nB a1 a0)), ((clsF (fN f) (nB a1 a0) : Nat) : Int), unE (fN f) (nB a1 a0), wd (unS (fN f) (nB a1 a0)) 1, wd (unS (fN f) (nB a1 a0)) 0]) (by simp only [sxs, ph_B2_fields_Unpack, u8_0]; exact k_Unpack (fN_u f) hf (nB_u _ _)) (by rfl)).trans ?_
              refine (treeF_call (r := [b2i (FP.sgn (fN f) (nB b1 b0)), ((clsF (fN f) (nB b1 b0) : Nat) : Int), unE (fN f) (nB b1 b0), wd (unS (fN f) (nB b1 b0)) 1, wd (unS (fN f) (nB b1 b0)) 0]) (by simp only [sxs, ph_B2_fields_Unpack, u8_0]; exact k_Unpack (fN_u f) hf (nB_u _ _)) (by rfl)).trans ?_
              refine (treeF_call (r := [wd (r) 1, wd (r) 0, ((g : Nat) : Int)]) (by simp only [sxs, ph_B2_mul_Mul, u8_0]; exact (k_mul_Mul (fN_u f) hf ((md_lit 0 (by decide)).1) ((md_lit 0 (by decide)).2) (show iNz 0 = false from rfl) (nB_u _ _) (nB_u _ _)).trans (by rw [k1]; try rfl)) (by rfl)).trans ?_
              refine (treeF_call (r := [b2i (decide (clsF (fN f) (r) < 3))]) (by simp only [sxs, ph_B2_class_Finite, u8_0]; exact k_class_Finite (fN_u f) hf (nB_small (hl))) (by rfl)).trans ?_
              refine tF (by exact nT (by simp only [sxs, u8_0]; exact decide_eq_true (fr))) ?_
              refine tF (by simp only [sxs, clsF_u8]; exact (beq_nk0 _).trans (decide_eq_false (za))) ?_
              refine tF (by simp only [sxs, clsF_u8]; exact (beq_nk0 _).trans (decide_eq_false (zb))) ?_
              refine (treeF_call (r := [((FP.fP (fN f) : Nat) : Int)]) (by simp only [sxs, ph_B2_format_Prec, u8_0]; exact k_format_Prec (fN_u f)) (by rfl)).trans ?_
              refine (treeF_call (r := [((FP.fE (fN f) : Nat) : Int)]) (by simp only [sxs, ph_B2_format_Emax, u8_0]; exact k_format_Emax (fN_u f)) (by rfl)).trans ?_
              refine tT (by simp only [sxs, iea, ieb, ies, lm1, lm2]; exact decide_eq_true hx) ?_
              rw [treeF_leaf rfl]; rfl
            obtain ⟨e, s, he, k2, hz⟩ := hr r g (by omega) (by omega) rfl fr (by omega)
            have el := Nat.lt_trans he (inf_lt hf)
            have ml : FP.mk (fN f) s e < W128 := mk_W hf _ el
            have mc : clsF (fN f) (FP.mk (fN f) s e) = 0 ↔ e = 0 := by rw [clsF_mk hf _ el]; exact clsC_zero_iff
            have hzz : decide (clsF (fN f) (FP.mk (fN f) s e) = 0) = decide (g = 0) := by rw [decide_eq_decide, mc, hz]
            refine tF (by simp only [sxs]; exact Bool.eq_false_iff.2 hw) ?_
            refine tF (by simp only [sxs, u8_0]; exact known) ?_
            refine (treeF_call (r := [b2i (decide (clsF (fN f) (nB a1 a0) < 3))]) (by simp only [sxs, ph_B2_class_Finite, u8_0]; exact k_class_Finite (fN_u f) hf (nB_u _ _)) (by rfl)).trans ?_
            refine tF (by exact nT (by simp only [sxs, u8_0]; exact decide_eq_true (fa))) ?_
            refine (treeF_call (r := [b2i (decide (clsF (fN f) (nB b1 b0) < 3))]) (by simp only [sxs, ph_B2_class_Finite, u8_0]; exact k_class_Finite (fN_u f) hf (nB_u _ _)) (by rfl)).trans ?_
            refine tF (by exact nT (by simp only [sxs, u8_0]; exact decide_eq_true (fb))) ?_
            refine (treeF_call (r := [b2i (FP.sgn (fN f) (nB a1 a0)), ((clsF (fN f) (nB a1 a0) : Nat) : Int), unE (fN f) (nB a1 a0), wd (unS (fN f) (nB a1 a0)) 1, wd (unS (fN f) (nB a1 a0)) 0]) (by simp only [sxs, ph_B2_fields_Unpack, u8_0]; exact k_Unpack (fN_u f) hf (nB_u _ _)) (by rfl)).trans ?_
            refine (treeF_call (r := [b2i (FP.sgn (fN f) (nB b1 b0)), ((clsF (fN f) (nB b1 b0) : Nat) : Int), unE (fN f) (nB b1 b0), wd (unS (fN f) (nB b1 b0)) 1, wd (unS (fN f) (nB b1 b0)) 0]) (by simp only [sxs, ph_B2_fields_Unpack, u8_0]; exact k_Unpack (fN_u f) hf (nB_u _ _)) (by rfl)).trans ?_
            refine (treeF_call (r := [wd (r) 1, wd (r) 0, ((g : Nat) : Int)]) (by simp only [sxs, ph_B2_mul_Mul, u8_0]; exact (k_mul_Mul (fN_u f) hf ((md_lit 0 (by decide)).1) ((md_lit 0 (by decide)).2) (show iNz 0 = false from rfl) (nB_u _ _) (nB_u _ _)).trans (by rw [k1]; try rfl)) (by rfl)).trans ?_
            refine (treeF_call (r := [b2i (decide (clsF (fN f) (r) < 3))]) (by simp only [sxs, ph_B2_class_Finite, u8_0]; exact k_class_Finite (fN_u f) hf (nB_small (hl))) (by rfl)).trans ?_
            refine tF (by exact nT (by simp only [sxs, u8_0]; exact decide_eq_true (fr))) ?_
            refine tF (by simp only [sxs, clsF_u8]; exact (beq_nk0 _).trans (decide_eq_false (za))) ?_
            refine tF (by simp only [sxs, clsF_u8]; exact (beq_nk0 _).trans (decide_eq_false (zb))) ?_
            refine (treeF_call (r := [((FP.fP (fN f) : Nat) : Int)]) (by simp only [sxs, ph_B2_format_Prec, u8_0]; exact k_format_Prec (fN_u f)) (by rfl)).trans ?_
            refine (treeF_call (r := [((FP.fE (fN f) : Nat) : Int)]) (by simp only [sxs, ph_B2_format_Emax, u8_0]; exact k_format_Emax (fN_u f)) (by rfl)).trans ?_
            refine tF (by simp only [sxs, iea, ieb, ies, lm1, lm2]; exact decide_eq_false hx) ?_
            refine (treeF_call (r := [wd (turnN (fN f) (r)) 1, wd (turnN (fN f) (r)) 0]) (by simp only [sxs, ph_B2_addsub_Turn, u8_0]; exact k_addsub_Turn (fN_u f) (nB_small (hl))) (by rfl)).trans ?_
            refine (treeF_call (r := [wd (FP.mk (fN f) s e) 1, wd (FP.mk (fN f) s e) 0, (0 : Int)]) (by simp only [sxs, ph_B2_fma_Fma, u8_0]; exact (k_fma_Fma (fN_u f) hf ((md_lit 0 (by decide)).1) ((md_lit 0 (by decide)).2) (show iNz 0 = false from rfl) (nB_u _ _) (nB_u _ _) (nB_small (turn_lt _ _))).trans (by rw [k2]; try rfl)) (by rfl)).trans ?_
            refine (treeF_call (r := [((clsF (fN f) (FP.mk (fN f) s e) : Nat) : Int), b2i (FP.sgn (fN f) (FP.mk (fN f) s e))]) (by simp only [sxs, ph_B2_class_Of, u8_0]; exact k_class_Of (fN_u f) hf (nB_small (ml))) (by rfl)).trans ?_
            refine tT (by simp only [sxs, u8_0]; simp only [beq_self_eq_true, bne_self_eq_false]) ?_
            refine tT (by simp only [sxs, clsF_u8, g8]; rw [beq_nk0, beq_nk0, hzz]; exact beq_self_eq_true _) ?_
            rw [treeF_leaf rfl]; rfl
          · skip
            refine tF (by simp only [sxs]; exact Bool.eq_false_iff.2 hw) ?_
            refine tF (by simp only [sxs, u8_0]; exact known) ?_
            refine (treeF_call (r := [b2i (decide (clsF (fN f) (nB a1 a0) < 3))]) (by simp only [sxs, ph_B2_class_Finite, u8_0]; exact k_class_Finite (fN_u f) hf (nB_u _ _)) (by rfl)).trans ?_
            refine tF (by exact nT (by simp only [sxs, u8_0]; exact decide_eq_true (fa))) ?_
            refine (treeF_call (r := [b2i (decide (clsF (fN f) (nB b1 b0) < 3))]) (by simp only [sxs, ph_B2_class_Finite, u8_0]; exact k_class_Finite (fN_u f) hf (nB_u _ _)) (by rfl)).trans ?_
            refine tF (by exact nT (by simp only [sxs, u8_0]; exact decide_eq_true (fb))) ?_
            refine (treeF_call (r := [b2i (FP.sgn (fN f) (nB a1 a0)), ((clsF (fN f) (nB a1 a0) : Nat) : Int), unE (fN f) (nB a1 a0), wd (unS (fN f) (nB a1 a0)) 1, wd (unS (fN f) (nB a1 a0)) 0]) (by simp only [sxs, ph_B2_fields_Unpack, u8_0]; exact k_Unpack (fN_u f) hf (nB_u _ _)) (by rfl)).trans ?_
            refine (treeF_call (r := [b2i (FP.sgn (fN f) (nB b1 b0)), ((clsF (fN f) (nB b1 b0) : Nat) : Int), unE (fN f) (nB b1 b0), wd (unS (fN f) (nB b1 b0)) 1, wd (unS (fN f) (nB b1 b0)) 0]) (by simp only [sxs, ph_B2_fields_Unpack, u8_0]; exact k_Unpack (fN_u f) hf (nB_u _ _)) (by rfl)).trans ?_
            refine (treeF_call (r := [wd (r) 1, wd (r) 0, ((g : Nat) : Int)]) (by simp only [sxs, ph_B2_mul_Mul, u8_0]; exact (k_mul_Mul (fN_u f) hf ((md_lit 0 (by decide)).1) ((md_lit 0 (by decide)).2) (show iNz 0 = false from rfl) (nB_u _ _) (nB_u _ _)).trans (by rw [k1]; try rfl)) (by rfl)).trans ?_
            refine (treeF_call (r := [b2i (decide (clsF (fN f) (r) < 3))]) (by simp only [sxs, ph_B2_class_Finite, u8_0]; exact k_class_Finite (fN_u f) hf (nB_small (hl))) (by rfl)).trans ?_
            refine tT (by exact nF (by simp only [sxs, u8_0]; exact decide_eq_false (fr))) ?_
            rw [treeF_leaf rfl]; rfl
        · skip
          refine tF (by simp only [sxs]; exact Bool.eq_false_iff.2 hw) ?_
          refine tF (by simp only [sxs, u8_0]; exact known) ?_
          refine (treeF_call (r := [b2i (decide (clsF (fN f) (nB a1 a0) < 3))]) (by simp only [sxs, ph_B2_class_Finite, u8_0]; exact k_class_Finite (fN_u f) hf (nB_u _ _)) (by rfl)).trans ?_
          refine tF (by exact nT (by simp only [sxs, u8_0]; exact decide_eq_true (fa))) ?_
          refine (treeF_call (r := [b2i (decide (clsF (fN f) (nB b1 b0) < 3))]) (by simp only [sxs, ph_B2_class_Finite, u8_0]; exact k_class_Finite (fN_u f) hf (nB_u _ _)) (by rfl)).trans ?_
          refine tT (by exact nF (by simp only [sxs, u8_0]; exact decide_eq_false (fb))) ?_
          rw [treeF_leaf rfl]; rfl
      · skip
        refine tF (by simp only [sxs]; exact Bool.eq_false_iff.2 hw) ?_
        refine tF (by simp only [sxs, u8_0]; exact known) ?_
        refine (treeF_call (r := [b2i (decide (clsF (fN f) (nB a1 a0) < 3))]) (by simp only [sxs, ph_B2_class_Finite, u8_0]; exact k_class_Finite (fN_u f) hf (nB_u _ _)) (by rfl)).trans ?_
        refine tT (by exact nF (by simp only [sxs, u8_0]; exact decide_eq_false (fa))) ?_
        rw [treeF_leaf rfl]; rfl
    · skip
      refine tF (by simp only [sxs]; exact Bool.eq_false_iff.2 hw) ?_
      refine tT (by simp only [sxs]; rw [decide_eq_false (fun h => hf ((u8_lt4 f).1 h))]; rfl) ?_
      rw [treeF_leaf rfl]; rfl
end Go.Proofs.YtnknpgmnejndeaaGreatDoor
