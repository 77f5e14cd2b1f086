import Derived.Test.YtngiodcdelfdmaaGreatDoorP40R9
import Derived.Test.YtngiodcdelfdmaaGreatDoorCDR9
import Derived.Test.YtngiodcdelfdmaaGreatDoorP19R9
namespace Go.Proofs.YtngiodcdelfdmaaGreatDoor
set_option linter.unusedVariables false
set_option linter.unusedSimpArgs false
set_option maxRecDepth 100000
open Go.RowKit
theorem fN_succ2 {f : Int} (h : fN f ≤ 2) : fN (u8 (u8 f + 1)) = fN f + 1 := by
 have := u8_rng f
 unfold fN at *
 rw [u8_u8, u8_id (by omega) (by omega)]; omega
theorem mulR_W {f : Nat} (hf : f < 4) (m : Nat) (t : Bool) (a b : Nat) : (mulR f m t a b).1 < W128 := by
 unfold mulR
 split
 ·rename_i h; exact (quN_lt hf h).1
 ·split
  ·rename_i h; exact (quN_lt hf h).1
  ·rename_i ha hb
   have := mulR_lt hf m t ha hb
   unfold mulR at this
   rw [if_neg ha, if_neg hb] at this
   exact this
set_option maxHeartbeats 1600000 in
theorem true_ConvDouble (l : List Int) (h : l.length = 5) : F_law25_ConvDouble l = [1] := by
 match l, h with
 | [f, a1, a0, b1, b0], _ =>
 rw [F_law25_ConvDouble, t_law25_ConvDouble, t_law25_ConvDouble_6, t_law25_ConvDouble_5, t_law25_ConvDouble_4, t_law25_ConvDouble_3, t_law25_ConvDouble_2, t_law25_ConvDouble_1]
 by_cases h2 : fN f ≤ 2
 ·have hf : fN f < 4 := by omega
  have hf1 : fN f + 1 < 4 := by omega
  by_cases ha : clsF (fN f) (nB a1 a0) < 3
  ·by_cases hb : clsF (fN f) (nB b1 b0) < 3
   ·obtain ⟨x, gx, kx⟩ : ∃ x gx, convR (fN f) (fN f + 1) (0) (false) (nB a1 a0) = (x, gx) := ⟨_, _, rfl⟩
    have wx : x < W128 := by have := (show (convR (fN f) (fN f + 1) (0) (false) (nB a1 a0)).1 < W128 from convR_lt hf hf1 _ _ _); rw [kx] at this; exact this
    obtain ⟨y, gy, ky⟩ : ∃ y gy, convR (fN f) (fN f + 1) (0) (false) (nB b1 b0) = (y, gy) := ⟨_, _, rfl⟩
    have wy : y < W128 := by have := (show (convR (fN f) (fN f + 1) (0) (false) (nB b1 b0)).1 < W128 from convR_lt hf hf1 _ _ _); rw [ky] at this; exact this
    obtain ⟨la, gla, kla⟩ : ∃ la gla, addR (fN f + 1) (0) (false) (x) (y) = (la, gla) := ⟨_, _, rfl⟩
    have wla : la < W128 := by have := (show (addR (fN f + 1) (0) (false) (x) (y)).1 < W128 from addR_lt hf1 _ _ _ _); rw [kla] at this; exact this
    obtain ⟨lm, glm, klm⟩ : ∃ lm glm, mulR (fN f + 1) (0) (false) (x) (y) = (lm, glm) := ⟨_, _, rfl⟩
    have wlm : lm < W128 := by have := (show (mulR (fN f + 1) (0) (false) (x) (y)).1 < W128 from mulR_W hf1 _ _ _ _); rw [klm] at this; exact this
    obtain ⟨ls, gls, kls⟩ : ∃ ls gls, sqrtR (fN f + 1) (0) (false) (x) = (ls, gls) := ⟨_, _, rfl⟩
    have wls : ls < W128 := by have := (show (sqrtR (fN f + 1) (0) (false) (x)).1 < W128 from sqrtR_lt hf1 _ _ _); rw [kls] at this; exact this
    obtain ⟨ma, gma, kma⟩ : ∃ ma gma, addR (fN f) (0) (false) (nB a1 a0) (nB b1 b0) = (ma, gma) := ⟨_, _, rfl⟩
    have wma : ma < W128 := by have := (show (addR (fN f) (0) (false) (nB a1 a0) (nB b1 b0)).1 < W128 from addR_lt hf _ _ _ _); rw [kma] at this; exact this
    obtain ⟨mm, gmm, kmm⟩ : ∃ mm gmm, mulR (fN f) (0) (false) (nB a1 a0) (nB b1 b0) = (mm, gmm) := ⟨_, _, rfl⟩
    have wmm : mm < W128 := by have := (show (mulR (fN f) (0) (false) (nB a1 a0) (nB b1 b0)).1 < W128 from mulR_W hf _ _ _ _); rw [kmm] at this; exact this
    obtain ⟨ms, gms, kms⟩ : ∃ ms gms, sqrtR (fN f) (0) (false) (nB a1 a0) = (ms, gms) := ⟨_, _, rfl⟩
    have wms : ms < W128 := by have := (show (sqrtR (fN f) (0) (false) (nB a1 a0)).1 < W128 from sqrtR_lt hf _ _ _); rw [kms] at this; exact this
    refine tF (by simp only [sxs]; have hu := u8_rng f; unfold fN at h2; exact decide_eq_false (by omega)) ?_
    refine (treeF_call (r := [b2i (decide (clsF (fN f) (nB a1 a0) < 3))]) (by simp only [sxs, ph_CD_class_Finite]; exact k_class_Finite (fN_u f) hf (nB_u _ _)) (by rfl)).trans ?_
    refine tF (by exact nT (by simp only [sxs]; exact decide_eq_true (ha))) ?_
    refine (treeF_call (r := [b2i (decide (clsF (fN f) (nB b1 b0) < 3))]) (by simp only [sxs, ph_CD_class_Finite]; exact k_class_Finite (fN_u f) hf (nB_u _ _)) (by rfl)).trans ?_
    refine tF (by exact nT (by simp only [sxs]; exact decide_eq_true (hb))) ?_
    refine (treeF_call (r := [wd (x) 1, wd (x) 0, ((gx : Nat) : Int)]) (by simp only [sxs, ph_CD_conv_Conv]; exact (k_conv_Conv (fN_u f) hf (fN_succ2 h2) hf1 ((md_lit 0 (by decide)).1) ((md_lit 0 (by decide)).2) (show iNz 0 = false from rfl) (nB_u _ _)).trans (by rw [kx]; try rfl)) (by rfl)).trans ?_
    refine (treeF_call (r := [wd (y) 1, wd (y) 0, ((gy : Nat) : Int)]) (by simp only [sxs, ph_CD_conv_Conv]; exact (k_conv_Conv (fN_u f) hf (fN_succ2 h2) hf1 ((md_lit 0 (by decide)).1) ((md_lit 0 (by decide)).2) (show iNz 0 = false from rfl) (nB_u _ _)).trans (by rw [ky]; try rfl)) (by rfl)).trans ?_
    refine (treeF_call (r := [wd (la) 1, wd (la) 0, ((gla : Nat) : Int)]) (by simp only [sxs, ph_CD_addsub_Add]; exact (k_addsub_Add (fN_succ2 h2) hf1 ((md_lit 0 (by decide)).1) ((md_lit 0 (by decide)).2) (show iNz 0 = false from rfl) (nB_small (wx)) (nB_small (wy))).trans (by rw [kla]; try rfl)) (by rfl)).trans ?_
    refine (treeF_call (r := [wd (lm) 1, wd (lm) 0, ((glm : Nat) : Int)]) (by simp only [sxs, ph_CD_mul_Mul]; exact (k_mul_Mul (fN_succ2 h2) hf1 ((md_lit 0 (by decide)).1) ((md_lit 0 (by decide)).2) (show iNz 0 = false from rfl) (nB_small (wx)) (nB_small (wy))).trans (by rw [klm]; try rfl)) (by rfl)).trans ?_
    refine (treeF_call (r := [wd (ls) 1, wd (ls) 0, ((gls : Nat) : Int)]) (by simp only [sxs, ph_CD_sqrt_Sqrt]; exact (k_sqrt_Sqrt (fN_succ2 h2) hf1 ((md_lit 0 (by decide)).1) ((md_lit 0 (by decide)).2) (show iNz 0 = false from rfl) (nB_small (wx))).trans (by rw [kls]; try rfl)) (by rfl)).trans ?_
    refine (treeF_call (r := [wd (ma) 1, wd (ma) 0, ((gma : Nat) : Int)]) (by simp only [sxs, ph_CD_addsub_Add]; exact (k_addsub_Add (fN_u f) hf ((md_lit 0 (by decide)).1) ((md_lit 0 (by decide)).2) (show iNz 0 = false from rfl) (nB_u _ _) (nB_u _ _)).trans (by rw [kma]; try rfl)) (by rfl)).trans ?_
    refine (treeF_call (r := [wd (mm) 1, wd (mm) 0, ((gmm : Nat) : Int)]) (by simp only [sxs, ph_CD_mul_Mul]; exact (k_mul_Mul (fN_u f) hf ((md_lit 0 (by decide)).1) ((md_lit 0 (by decide)).2) (show iNz 0 = false from rfl) (nB_u _ _) (nB_u _ _)).trans (by rw [kmm]; try rfl)) (by rfl)).trans ?_
    refine (treeF_call (r := [wd (ms) 1, wd (ms) 0, ((gms : Nat) : Int)]) (by simp only [sxs, ph_CD_sqrt_Sqrt]; exact (k_sqrt_Sqrt (fN_u f) hf ((md_lit 0 (by decide)).1) ((md_lit 0 (by decide)).2) (show iNz 0 = false from rfl) (nB_u _ _)).trans (by rw [kms]; try rfl)) (by rfl)).trans ?_
    refine (treeF_call (r := [((clsF (fN f) (ma) : Nat) : Int), b2i (FP.sgn (fN f) (ma))]) (by simp only [sxs, ph_CD_class_Of]; exact k_class_Of (fN_u f) hf (nB_small (wma))) (by rfl)).trans ?_
    by_cases hs1 : clsF (fN f) (ma) = 1
    ·refine tT (by simp only [sxs]; rw [clsF_u8]; exact (beq_nn _ 1).trans (decide_eq_true hs1)) ?_
     refine (treeF_call (r := [((clsF (fN f) (mm) : Nat) : Int), b2i (FP.sgn (fN f) (mm))]) (by simp only [sxs, ph_CD_class_Of]; exact k_class_Of (fN_u f) hf (nB_small (wmm))) (by rfl)).trans ?_
     by_cases hs2 : clsF (fN f) (mm) = 1
     ·refine tT (by simp only [sxs]; rw [clsF_u8]; exact (beq_nn _ 1).trans (decide_eq_true hs2)) ?_
      refine (treeF_call (r := [((clsF (fN f) (ms) : Nat) : Int), b2i (FP.sgn (fN f) (ms))]) (by simp only [sxs, ph_CD_class_Of]; exact k_class_Of (fN_u f) hf (nB_small (wms))) (by rfl)).trans ?_
      by_cases hs3 : clsF (fN f) (ms) = 1
      ·refine tT (by simp only [sxs]; rw [clsF_u8]; exact (beq_nn _ 1).trans (decide_eq_true hs3)) ?_
       rw [treeF_leaf rfl]; rfl
      ·refine tF (by simp only [sxs]; rw [clsF_u8]; exact (beq_nn _ 1).trans (decide_eq_false hs3)) ?_
       by_cases hs4 : clsF (fN f) (ms) = 0
       ·refine tT (by simp only [sxs]; rw [clsF_u8]; exact (beq_nk0 _).trans (decide_eq_true hs4)) ?_
        rw [treeF_leaf rfl]; rfl
       ·refine tF (by simp only [sxs]; rw [clsF_u8]; exact (beq_nk0 _).trans (decide_eq_false hs4)) ?_
        refine (treeF_call (r := [b2i (decide (4 ≤ clsF (fN f) (ms)))]) (by simp only [sxs, ph_CD_class_NaN]; exact k_class_NaN (fN_u f) (nB_small (wms))) (by rfl)).trans ?_
        by_cases hs5 : 4 ≤ clsF (fN f) (ms)
        ·refine tT (by simp only [sxs]; exact decide_eq_true hs5) ?_
         rw [treeF_leaf rfl]; rfl
        ·refine tF (by simp only [sxs]; exact decide_eq_false hs5) ?_
         obtain ⟨jls, qls⟩ := cd_sqrt (by omega) ha kx kls kms hs4 hs5
         refine (treeF_call (r := [wd (ms) 1, wd (ms) 0, ((jls : Nat) : Int)]) (by simp only [sxs, ph_CD_conv_Conv]; exact (k_conv_Conv (fN_succ2 h2) hf1 (fN_u f) hf ((md_lit 0 (by decide)).1) ((md_lit 0 (by decide)).2) (show iNz 0 = false from rfl) (nB_small (wls))).trans (by rw [qls]; try rfl)) (by rfl)).trans ?_
         refine tF (by exact nT (by simp only [sxs]; simp only [beq_self_eq_true, Bool.and_true, Bool.and_self, bt1, bt0])) ?_
         rw [treeF_leaf rfl]; rfl
     ·refine tF (by simp only [sxs]; rw [clsF_u8]; exact (beq_nn _ 1).trans (decide_eq_false hs2)) ?_
      by_cases hs6 : clsF (fN f) (mm) = 0
      ·refine tT (by simp only [sxs]; rw [clsF_u8]; exact (beq_nk0 _).trans (decide_eq_true hs6)) ?_
       refine (treeF_call (r := [((clsF (fN f) (ms) : Nat) : Int), b2i (FP.sgn (fN f) (ms))]) (by simp only [sxs, ph_CD_class_Of]; exact k_class_Of (fN_u f) hf (nB_small (wms))) (by rfl)).trans ?_
       by_cases hs7 : clsF (fN f) (ms) = 1
       ·refine tT (by simp only [sxs]; rw [clsF_u8]; exact (beq_nn _ 1).trans (decide_eq_true hs7)) ?_
        rw [treeF_leaf rfl]; rfl
       ·refine tF (by simp only [sxs]; rw [clsF_u8]; exact (beq_nn _ 1).trans (decide_eq_false hs7)) ?_
        by_cases hs8 : clsF (fN f) (ms) = 0
        ·refine tT (by simp only [sxs]; rw [clsF_u8]; exact (beq_nk0 _).trans (decide_eq_true hs8)) ?_
         rw [treeF_leaf rfl]; rfl
        ·refine tF (by simp only [sxs]; rw [clsF_u8]; exact (beq_nk0 _).trans (decide_eq_false hs8)) ?_
         refine (treeF_call (r := [b2i (decide (4 ≤ clsF (fN f) (ms)))]) (by simp only [sxs, ph_CD_class_NaN]; exact k_class_NaN (fN_u f) (nB_small (wms))) (by rfl)).trans ?_
         by_cases hs9 : 4 ≤ clsF (fN f) (ms)
         ·refine tT (by simp only [sxs]; exact decide_eq_true hs9) ?_
          rw [treeF_leaf rfl]; rfl
         ·refine tF (by simp only [sxs]; exact decide_eq_false hs9) ?_
          obtain ⟨jls, qls⟩ := cd_sqrt (by omega) ha kx kls kms hs8 hs9
          refine (treeF_call (r := [wd (ms) 1, wd (ms) 0, ((jls : Nat) : Int)]) (by simp only [sxs, ph_CD_conv_Conv]; exact (k_conv_Conv (fN_succ2 h2) hf1 (fN_u f) hf ((md_lit 0 (by decide)).1) ((md_lit 0 (by decide)).2) (show iNz 0 = false from rfl) (nB_small (wls))).trans (by rw [qls]; try rfl)) (by rfl)).trans ?_
          refine tF (by exact nT (by simp only [sxs]; simp only [beq_self_eq_true, Bool.and_true, Bool.and_self, bt1, bt0])) ?_
          rw [treeF_leaf rfl]; rfl
      ·refine tF (by simp only [sxs]; rw [clsF_u8]; exact (beq_nk0 _).trans (decide_eq_false hs6)) ?_
       refine (treeF_call (r := [b2i (decide (4 ≤ clsF (fN f) (mm)))]) (by simp only [sxs, ph_CD_class_NaN]; exact k_class_NaN (fN_u f) (nB_small (wmm))) (by rfl)).trans ?_
       by_cases hs10 : 4 ≤ clsF (fN f) (mm)
       ·refine tT (by simp only [sxs]; exact decide_eq_true hs10) ?_
        refine (treeF_call (r := [((clsF (fN f) (ms) : Nat) : Int), b2i (FP.sgn (fN f) (ms))]) (by simp only [sxs, ph_CD_class_Of]; exact k_class_Of (fN_u f) hf (nB_small (wms))) (by rfl)).trans ?_
        by_cases hs11 : clsF (fN f) (ms) = 1
        ·refine tT (by simp only [sxs]; rw [clsF_u8]; exact (beq_nn _ 1).trans (decide_eq_true hs11)) ?_
         rw [treeF_leaf rfl]; rfl
        ·refine tF (by simp only [sxs]; rw [clsF_u8]; exact (beq_nn _ 1).trans (decide_eq_false hs11)) ?_
         by_cases hs12 : clsF (fN f) (ms) = 0
         ·refine tT (by simp only [sxs]; rw [clsF_u8]; exact (beq_nk0 _).trans (decide_eq_true hs12)) ?_
          rw [treeF_leaf rfl]; rfl
         ·refine tF (by simp only [sxs]; rw [clsF_u8]; exact (beq_nk0 _).trans (decide_eq_false hs12)) ?_
          refine (treeF_call (r := [b2i (decide (4 ≤ clsF (fN f) (ms)))]) (by simp only [sxs, ph_CD_class_NaN]; exact k_class_NaN (fN_u f) (nB_small (wms))) (by rfl)).trans ?_
          by_cases hs13 : 4 ≤ clsF (fN f) (ms)
          ·refine tT (by simp only [sxs]; exact decide_eq_true hs13) ?_
           rw [treeF_leaf rfl]; rfl
          ·refine tF (by simp only [sxs]; exact decide_eq_false hs13) ?_
           obtain ⟨jls, qls⟩ := cd_sqrt (by omega) ha kx kls kms hs12 hs13
           refine (treeF_call (r := [wd (ms) 1, wd (ms) 0, ((jls : Nat) : Int)]) (by simp only [sxs, ph_CD_conv_Conv]; exact (k_conv_Conv (fN_succ2 h2) hf1 (fN_u f) hf ((md_lit 0 (by decide)).1) ((md_lit 0 (by decide)).2) (show iNz 0 = false from rfl) (nB_small (wls))).trans (by rw [qls]; try rfl)) (by rfl)).trans ?_
           refine tF (by exact nT (by simp only [sxs]; simp only [beq_self_eq_true, Bool.and_true, Bool.and_self, bt1, bt0])) ?_
           rw [treeF_leaf rfl]; rfl
       ·refine tF (by simp only [sxs]; exact decide_eq_false hs10) ?_
        obtain ⟨jlm, qlm⟩ := cd_mul (by omega) ha hb kx ky klm kmm
        refine (treeF_call (r := [wd (mm) 1, wd (mm) 0, ((jlm : Nat) : Int)]) (by simp only [sxs, ph_CD_conv_Conv]; exact (k_conv_Conv (fN_succ2 h2) hf1 (fN_u f) hf ((md_lit 0 (by decide)).1) ((md_lit 0 (by decide)).2) (show iNz 0 = false from rfl) (nB_small (wlm))).trans (by rw [qlm]; try rfl)) (by rfl)).trans ?_
        refine tF (by exact nT (by simp only [sxs]; simp only [beq_self_eq_true, Bool.and_true, Bool.and_self, bt1, bt0])) ?_
        refine (treeF_call (r := [((clsF (fN f) (ms) : Nat) : Int), b2i (FP.sgn (fN f) (ms))]) (by simp only [sxs, ph_CD_class_Of]; exact k_class_Of (fN_u f) hf (nB_small (wms))) (by rfl)).trans ?_
        by_cases hs14 : clsF (fN f) (ms) = 1
        ·refine tT (by simp only [sxs]; rw [clsF_u8]; exact (beq_nn _ 1).trans (decide_eq_true hs14)) ?_
         rw [treeF_leaf rfl]; rfl
        ·refine tF (by simp only [sxs]; rw [clsF_u8]; exact (beq_nn _ 1).trans (decide_eq_false hs14)) ?_
         by_cases hs15 : clsF (fN f) (ms) = 0
         ·refine tT (by simp only [sxs]; rw [clsF_u8]; exact (beq_nk0 _).trans (decide_eq_true hs15)) ?_
          rw [treeF_leaf rfl]; rfl
         ·refine tF (by simp only [sxs]; rw [clsF_u8]; exact (beq_nk0 _).trans (decide_eq_false hs15)) ?_
          refine (treeF_call (r := [b2i (decide (4 ≤ clsF (fN f) (ms)))]) (by simp only [sxs, ph_CD_class_NaN]; exact k_class_NaN (fN_u f) (nB_small (wms))) (by rfl)).trans ?_
          by_cases hs16 : 4 ≤ clsF (fN f) (ms)
          ·refine tT (by simp only [sxs]; exact decide_eq_true hs16) ?_
           rw [treeF_leaf rfl]; rfl
          ·refine tF (by simp only [sxs]; exact decide_eq_false hs16) ?_
           obtain ⟨jls, qls⟩ := cd_sqrt (by omega) ha kx kls kms hs15 hs16
           refine (treeF_call (r := [wd (ms) 1, wd (ms) 0, ((jls : Nat) : Int)]) (by simp only [sxs, ph_CD_conv_Conv]; exact (k_conv_Conv (fN_succ2 h2) hf1 (fN_u f) hf ((md_lit 0 (by decide)).1) ((md_lit 0 (by decide)).2) (show iNz 0 = false from rfl) (nB_small (wls))).trans (by rw [qls]; try rfl)) (by rfl)).trans ?_
           refine tF (by exact nT (by simp only [sxs]; simp only [beq_self_eq_true, Bool.and_true, Bool.and_self, bt1, bt0])) ?_
           rw [treeF_leaf rfl]; rfl
    ·refine tF (by simp only [sxs]; rw [clsF_u8]; exact (beq_nn _ 1).trans (decide_eq_false hs1)) ?_
     by_cases hs17 : clsF (fN f) (ma) = 0
     ·refine tT (by simp only [sxs]; rw [clsF_u8]; exact (beq_nk0 _).trans (decide_eq_true hs17)) ?_
      refine (treeF_call (r := [((clsF (fN f) (mm) : Nat) : Int), b2i (FP.sgn (fN f) (mm))]) (by simp only [sxs, ph_CD_class_Of]; exact k_class_Of (fN_u f) hf (nB_small (wmm))) (by rfl)).trans ?_
      by_cases hs18 : clsF (fN f) (mm) = 1
      ·refine tT (by simp only [sxs]; rw [clsF_u8]; exact (beq_nn _ 1).trans (decide_eq_true hs18)) ?_
       refine (treeF_call (r := [((clsF (fN f) (ms) : Nat) : Int), b2i (FP.sgn (fN f) (ms))]) (by simp only [sxs, ph_CD_class_Of]; exact k_class_Of (fN_u f) hf (nB_small (wms))) (by rfl)).trans ?_
       by_cases hs19 : clsF (fN f) (ms) = 1
       ·refine tT (by simp only [sxs]; rw [clsF_u8]; exact (beq_nn _ 1).trans (decide_eq_true hs19)) ?_
        rw [treeF_leaf rfl]; rfl
       ·refine tF (by simp only [sxs]; rw [clsF_u8]; exact (beq_nn _ 1).trans (decide_eq_false hs19)) ?_
        by_cases hs20 : clsF (fN f) (ms) = 0
        ·refine tT (by simp only [sxs]; rw [clsF_u8]; exact (beq_nk0 _).trans (decide_eq_true hs20)) ?_
         rw [treeF_leaf rfl]; rfl
        ·refine tF (by simp only [sxs]; rw [clsF_u8]; exact (beq_nk0 _).trans (decide_eq_false hs20)) ?_
         refine (treeF_call (r := [b2i (decide (4 ≤ clsF (fN f) (ms)))]) (by simp only [sxs, ph_CD_class_NaN]; exact k_class_NaN (fN_u f) (nB_small (wms))) (by rfl)).trans ?_
         by_cases hs21 : 4 ≤ clsF (fN f) (ms)
         ·refine tT (by simp only [sxs]; exact decide_eq_true hs21) ?_
          rw [treeF_leaf rfl]; rfl
         ·refine tF (by simp only [sxs]; exact decide_eq_false hs21) ?_
          obtain ⟨jls, qls⟩ := cd_sqrt (by omega) ha kx kls kms hs20 hs21
          refine (treeF_call (r := [wd (ms) 1, wd (ms) 0, ((jls : Nat) : Int)]) (by simp only [sxs, ph_CD_conv_Conv]; exact (k_conv_Conv (fN_succ2 h2) hf1 (fN_u f) hf ((md_lit 0 (by decide)).1) ((md_lit 0 (by decide)).2) (show iNz 0 = false from rfl) (nB_small (wls))).trans (by rw [qls]; try rfl)) (by rfl)).trans ?_
          refine tF (by exact nT (by simp only [sxs]; simp only [beq_self_eq_true, Bool.and_true, Bool.and_self, bt1, bt0])) ?_
          rw [treeF_leaf rfl]; rfl
      ·refine tF (by simp only [sxs]; rw [clsF_u8]; exact (beq_nn _ 1).trans (decide_eq_false hs18)) ?_
       by_cases hs22 : clsF (fN f) (mm) = 0
       ·refine tT (by simp only [sxs]; rw [clsF_u8]; exact (beq_nk0 _).trans (decide_eq_true hs22)) ?_
        refine (treeF_call (r := [((clsF (fN f) (ms) : Nat) : Int), b2i (FP.sgn (fN f) (ms))]) (by simp only [sxs, ph_CD_class_Of]; exact k_class_Of (fN_u f) hf (nB_small (wms))) (by rfl)).trans ?_
        by_cases hs23 : clsF (fN f) (ms) = 1
        ·refine tT (by simp only [sxs]; rw [clsF_u8]; exact (beq_nn _ 1).trans (decide_eq_true hs23)) ?_
         rw [treeF_leaf rfl]; rfl
        ·refine tF (by simp only [sxs]; rw [clsF_u8]; exact (beq_nn _ 1).trans (decide_eq_false hs23)) ?_
         by_cases hs24 : clsF (fN f) (ms) = 0
         ·refine tT (by simp only [sxs]; rw [clsF_u8]; exact (beq_nk0 _).trans (decide_eq_true hs24)) ?_
          rw [treeF_leaf rfl]; rfl
         ·refine tF (by simp only [sxs]; rw [clsF_u8]; exact (beq_nk0 _).trans (decide_eq_false hs24)) ?_
          refine (treeF_call (r := [b2i (decide (4 ≤ clsF (fN f) (ms)))]) (by simp only [sxs, ph_CD_class_NaN]; exact k_class_NaN (fN_u f) (nB_small (wms))) (by rfl)).trans ?_
          by_cases hs25 : 4 ≤ clsF (fN f) (ms)
          ·refine tT (by simp only [sxs]; exact decide_eq_true hs25) ?_
           rw [treeF_leaf rfl]; rfl
          ·refine tF (by simp only [sxs]; exact decide_eq_false hs25) ?_
           obtain ⟨jls, qls⟩ := cd_sqrt (by omega) ha kx kls kms hs24 hs25
           refine (treeF_call (r := [wd (ms) 1, wd (ms) 0, ((jls : Nat) : Int)]) (by simp only [sxs, ph_CD_conv_Conv]; exact (k_conv_Conv (fN_succ2 h2) hf1 (fN_u f) hf ((md_lit 0 (by decide)).1) ((md_lit 0 (by decide)).2) (show iNz 0 = false from rfl) (nB_small (wls))).trans (by rw [qls]; try rfl)) (by rfl)).trans ?_
           refine tF (by exact nT (by simp only [sxs]; simp only [beq_self_eq_true, Bool.and_true, Bool.and_self, bt1, bt0])) ?_
           rw [treeF_leaf rfl]; rfl
       ·refine tF (by simp only [sxs]; rw [clsF_u8]; exact (beq_nk0 _).trans (decide_eq_false hs22)) ?_
        refine (treeF_call (r := [b2i (decide (4 ≤ clsF (fN f) (mm)))]) (by simp only [sxs, ph_CD_class_NaN]; exact k_class_NaN (fN_u f) (nB_small (wmm))) (by rfl)).trans ?_
        by_cases hs26 : 4 ≤ clsF (fN f) (mm)
        ·refine tT (by simp only [sxs]; exact decide_eq_true hs26) ?_
         refine (treeF_call (r := [((clsF (fN f) (ms) : Nat) : Int), b2i (FP.sgn (fN f) (ms))]) (by simp only [sxs, ph_CD_class_Of]; exact k_class_Of (fN_u f) hf (nB_small (wms))) (by rfl)).trans ?_
         by_cases hs27 : clsF (fN f) (ms) = 1
         ·refine tT (by simp only [sxs]; rw [clsF_u8]; exact (beq_nn _ 1).trans (decide_eq_true hs27)) ?_
          rw [treeF_leaf rfl]; rfl
         ·refine tF (by simp only [sxs]; rw [clsF_u8]; exact (beq_nn _ 1).trans (decide_eq_false hs27)) ?_
          by_cases hs28 : clsF (fN f) (ms) = 0
          ·refine tT (by simp only [sxs]; rw [clsF_u8]; exact (beq_nk0 _).trans (decide_eq_true hs28)) ?_
           rw [treeF_leaf rfl]; rfl
          ·refine tF (by simp only [sxs]; rw [clsF_u8]; exact (beq_nk0 _).trans (decide_eq_false hs28)) ?_
           refine (treeF_call (r := [b2i (decide (4 ≤ clsF (fN f) (ms)))]) (by simp only [sxs, ph_CD_class_NaN]; exact k_class_NaN (fN_u f) (nB_small (wms))) (by rfl)).trans ?_
           by_cases hs29 : 4 ≤ clsF (fN f) (ms)
           ·refine tT (by simp only [sxs]; exact decide_eq_true hs29) ?_
            rw [treeF_leaf rfl]; rfl
           ·refine tF (by simp only [sxs]; exact decide_eq_false hs29) ?_
            obtain ⟨jls, qls⟩ := cd_sqrt (by omega) ha kx kls kms hs28 hs29
            refine (treeF_call (r := [wd (ms) 1, wd (ms) 0, ((jls : Nat) : Int)]) (by simp only [sxs, ph_CD_conv_Conv]; exact (k_conv_Conv (fN_succ2 h2) hf1 (fN_u f) hf ((md_lit 0 (by decide)).1) ((md_lit 0 (by decide)).2) (show iNz 0 = false from rfl) (nB_small (wls))).trans (by rw [qls]; try rfl)) (by rfl)).trans ?_
            refine tF (by exact nT (by simp only [sxs]; simp only [beq_self_eq_true, Bool.and_true, Bool.and_self, bt1, bt0])) ?_
            rw [treeF_leaf rfl]; rfl
        ·refine tF (by simp only [sxs]; exact decide_eq_false hs26) ?_
         obtain ⟨jlm, qlm⟩ := cd_mul (by omega) ha hb kx ky klm kmm
         refine (treeF_call (r := [wd (mm) 1, wd (mm) 0, ((jlm : Nat) : Int)]) (by simp only [sxs, ph_CD_conv_Conv]; exact (k_conv_Conv (fN_succ2 h2) hf1 (fN_u f) hf ((md_lit 0 (by decide)).1) ((md_lit 0 (by decide)).2) (show iNz 0 = false from rfl) (nB_small (wlm))).trans (by rw [qlm]; try rfl)) (by rfl)).trans ?_
         refine tF (by exact nT (by simp only [sxs]; simp only [beq_self_eq_true, Bool.and_true, Bool.and_self, bt1, bt0])) ?_
         refine (treeF_call (r := [((clsF (fN f) (ms) : Nat) : Int), b2i (FP.sgn (fN f) (ms))]) (by simp only [sxs, ph_CD_class_Of]; exact k_class_Of (fN_u f) hf (nB_small (wms))) (by rfl)).trans ?_
         by_cases hs30 : clsF (fN f) (ms) = 1
         ·refine tT (by simp only [sxs]; rw [clsF_u8]; exact (beq_nn _ 1).trans (decide_eq_true hs30)) ?_
          rw [treeF_leaf rfl]; rfl
         ·refine tF (by simp only [sxs]; rw [clsF_u8]; exact (beq_nn _ 1).trans (decide_eq_false hs30)) ?_
          by_cases hs31 : clsF (fN f) (ms) = 0
          ·refine tT (by simp only [sxs]; rw [clsF_u8]; exact (beq_nk0 _).trans (decide_eq_true hs31)) ?_
           rw [treeF_leaf rfl]; rfl
          ·refine tF (by simp only [sxs]; rw [clsF_u8]; exact (beq_nk0 _).trans (decide_eq_false hs31)) ?_
           refine (treeF_call (r := [b2i (decide (4 ≤ clsF (fN f) (ms)))]) (by simp only [sxs, ph_CD_class_NaN]; exact k_class_NaN (fN_u f) (nB_small (wms))) (by rfl)).trans ?_
           by_cases hs32 : 4 ≤ clsF (fN f) (ms)
           ·refine tT (by simp only [sxs]; exact decide_eq_true hs32) ?_
            rw [treeF_leaf rfl]; rfl
           ·refine tF (by simp only [sxs]; exact decide_eq_false hs32) ?_
            obtain ⟨jls, qls⟩ := cd_sqrt (by omega) ha kx kls kms hs31 hs32
            refine (treeF_call (r := [wd (ms) 1, wd (ms) 0, ((jls : Nat) : Int)]) (by simp only [sxs, ph_CD_conv_Conv]; exact (k_conv_Conv (fN_succ2 h2) hf1 (fN_u f) hf ((md_lit 0 (by decide)).1) ((md_lit 0 (by decide)).2) (show iNz 0 = false from rfl) (nB_small (wls))).trans (by rw [qls]; try rfl)) (by rfl)).trans ?_
            refine tF (by exact nT (by simp only [sxs]; simp only [beq_self_eq_true, Bool.and_true, Bool.and_self, bt1, bt0])) ?_
            rw [treeF_leaf rfl]; rfl
     ·refine tF (by simp only [sxs]; rw [clsF_u8]; exact (beq_nk0 _).trans (decide_eq_false hs17)) ?_
      refine (treeF_call (r := [b2i (decide (4 ≤ clsF (fN f) (ma)))]) (by simp only [sxs, ph_CD_class_NaN]; exact k_class_NaN (fN_u f) (nB_small (wma))) (by rfl)).trans ?_
      by_cases hs33 : 4 ≤ clsF (fN f) (ma)
      ·refine tT (by simp only [sxs]; exact decide_eq_true hs33) ?_
       refine (treeF_call (r := [((clsF (fN f) (mm) : Nat) : Int), b2i (FP.sgn (fN f) (mm))]) (by simp only [sxs, ph_CD_class_Of]; exact k_class_Of (fN_u f) hf (nB_small (wmm))) (by rfl)).trans ?_
       by_cases hs34 : clsF (fN f) (mm) = 1
       ·refine tT (by simp only [sxs]; rw [clsF_u8]; exact (beq_nn _ 1).trans (decide_eq_true hs34)) ?_
        refine (treeF_call (r := [((clsF (fN f) (ms) : Nat) : Int), b2i (FP.sgn (fN f) (ms))]) (by simp only [sxs, ph_CD_class_Of]; exact k_class_Of (fN_u f) hf (nB_small (wms))) (by rfl)).trans ?_
        by_cases hs35 : clsF (fN f) (ms) = 1
        ·refine tT (by simp only [sxs]; rw [clsF_u8]; exact (beq_nn _ 1).trans (decide_eq_true hs35)) ?_
         rw [treeF_leaf rfl]; rfl
        ·refine tF (by simp only [sxs]; rw [clsF_u8]; exact (beq_nn _ 1).trans (decide_eq_false hs35)) ?_
         by_cases hs36 : clsF (fN f) (ms) = 0
         ·refine tT (by simp only [sxs]; rw [clsF_u8]; exact (beq_nk0 _).trans (decide_eq_true hs36)) ?_
          rw [treeF_leaf rfl]; rfl
         ·refine tF (by simp only [sxs]; rw [clsF_u8]; exact (beq_nk0 _).trans (decide_eq_false hs36)) ?_
          refine (treeF_call (r := [b2i (decide (4 ≤ clsF (fN f) (ms)))]) (by simp only [sxs, ph_CD_class_NaN]; exact k_class_NaN (fN_u f) (nB_small (wms))) (by rfl)).trans ?_
          by_cases hs37 : 4 ≤ clsF (fN f) (ms)
          ·refine tT (by simp only [sxs]; exact decide_eq_true hs37) ?_
           rw [treeF_leaf rfl]; rfl
          ·refine tF (by simp only [sxs]; exact decide_eq_false hs37) ?_
           obtain ⟨jls, qls⟩ := cd_sqrt (by omega) ha kx kls kms hs36 hs37
           refine (treeF_call (r := [wd (ms) 1, wd (ms) 0, ((jls : Nat) : Int)]) (by simp only [sxs, ph_CD_conv_Conv]; exact (k_conv_Conv (fN_succ2 h2) hf1 (fN_u f) hf ((md_lit 0 (by decide)).1) ((md_lit 0 (by decide)).2) (show iNz 0 = false from rfl) (nB_small (wls))).trans (by rw [qls]; try rfl)) (by rfl)).trans ?_
           refine tF (by exact nT (by simp only [sxs]; simp only [beq_self_eq_true, Bool.and_true, Bool.and_self, bt1, bt0])) ?_
           rw [treeF_leaf rfl]; rfl
       ·refine tF (by simp only [sxs]; rw [clsF_u8]; exact (beq_nn _ 1).trans (decide_eq_false hs34)) ?_
        by_cases hs38 : clsF (fN f) (mm) = 0
        ·refine tT (by simp only [sxs]; rw [clsF_u8]; exact (beq_nk0 _).trans (decide_eq_true hs38)) ?_
         refine (treeF_call (r := [((clsF (fN f) (ms) : Nat) : Int), b2i (FP.sgn (fN f) (ms))]) (by simp only [sxs, ph_CD_class_Of]; exact k_class_Of (fN_u f) hf (nB_small (wms))) (by rfl)).trans ?_
         by_cases hs39 : clsF (fN f) (ms) = 1
         ·refine tT (by simp only [sxs]; rw [clsF_u8]; exact (beq_nn _ 1).trans (decide_eq_true hs39)) ?_
          rw [treeF_leaf rfl]; rfl
         ·refine tF (by simp only [sxs]; rw [clsF_u8]; exact (beq_nn _ 1).trans (decide_eq_false hs39)) ?_
          by_cases hs40 : clsF (fN f) (ms) = 0
          ·refine tT (by simp only [sxs]; rw [clsF_u8]; exact (beq_nk0 _).trans (decide_eq_true hs40)) ?_
           rw [treeF_leaf rfl]; rfl
          ·refine tF (by simp only [sxs]; rw [clsF_u8]; exact (beq_nk0 _).trans (decide_eq_false hs40)) ?_
           refine (treeF_call (r := [b2i (decide (4 ≤ clsF (fN f) (ms)))]) (by simp only [sxs, ph_CD_class_NaN]; exact k_class_NaN (fN_u f) (nB_small (wms))) (by rfl)).trans ?_
           by_cases hs41 : 4 ≤ clsF (fN f) (ms)
           ·refine tT (by simp only [sxs]; exact decide_eq_true hs41) ?_
            rw [treeF_leaf rfl]; rfl
           ·refine tF (by simp only [sxs]; exact decide_eq_false hs41) ?_
            obtain ⟨jls, qls⟩ := cd_sqrt (by omega) ha kx kls kms hs40 hs41
            refine (treeF_call (r := [wd (ms) 1, wd (ms) 0, ((jls : Nat) : Int)]) (by simp only [sxs, ph_CD_conv_Conv]; exact (k_conv_Conv (fN_succ2 h2) hf1 (fN_u f) hf ((md_lit 0 (by decide)).1) ((md_lit 0 (by decide)).2) (show iNz 0 = false from rfl) (nB_small (wls))).trans (by rw [qls]; try rfl)) (by rfl)).trans ?_
            refine tF (by exact nT (by simp only [sxs]; simp only [beq_self_eq_true, Bool.and_true, Bool.and_self, bt1, bt0])) ?_
            rw [treeF_leaf rfl]; rfl
        ·refine tF (by simp only [sxs]; rw [clsF_u8]; exact (beq_nk0 _).trans (decide_eq_false hs38)) ?_
         refine (treeF_call (r := [b2i (decide (4 ≤ clsF (fN f) (mm)))]) (by simp only [sxs, ph_CD_class_NaN]; exact k_class_NaN (fN_u f) (nB_small (wmm))) (by rfl)).trans ?_
         by_cases hs42 : 4 ≤ clsF (fN f) (mm)
         ·refine tT (by simp only [sxs]; exact decide_eq_true hs42) ?_
          refine (treeF_call (r := [((clsF (fN f) (ms) : Nat) : Int), b2i (FP.sgn (fN f) (ms))]) (by simp only [sxs, ph_CD_class_Of]; exact k_class_Of (fN_u f) hf (nB_small (wms))) (by rfl)).trans ?_
          by_cases hs43 : clsF (fN f) (ms) = 1
          ·refine tT (by simp only [sxs]; rw [clsF_u8]; exact (beq_nn _ 1).trans (decide_eq_true hs43)) ?_
           rw [treeF_leaf rfl]; rfl
          ·refine tF (by simp only [sxs]; rw [clsF_u8]; exact (beq_nn _ 1).trans (decide_eq_false hs43)) ?_
           by_cases hs44 : clsF (fN f) (ms) = 0
           ·refine tT (by simp only [sxs]; rw [clsF_u8]; exact (beq_nk0 _).trans (decide_eq_true hs44)) ?_
            rw [treeF_leaf rfl]; rfl
           ·refine tF (by simp only [sxs]; rw [clsF_u8]; exact (beq_nk0 _).trans (decide_eq_false hs44)) ?_
            refine (treeF_call (r := [b2i (decide (4 ≤ clsF (fN f) (ms)))]) (by simp only [sxs, ph_CD_class_NaN]; exact k_class_NaN (fN_u f) (nB_small (wms))) (by rfl)).trans ?_
            by_cases hs45 : 4 ≤ clsF (fN f) (ms)
            ·refine tT (by simp only [sxs]; exact decide_eq_true hs45) ?_
             rw [treeF_leaf rfl]; rfl
            ·refine tF (by simp only [sxs]; exact decide_eq_false hs45) ?_
             obtain ⟨jls, qls⟩ := cd_sqrt (by omega) ha kx kls kms hs44 hs45
             refine (treeF_call (r := [wd (ms) 1, wd (ms) 0, ((jls : Nat) : Int)]) (by simp only [sxs, ph_CD_conv_Conv]; exact (k_conv_Conv (fN_succ2 h2) hf1 (fN_u f) hf ((md_lit 0 (by decide)).1) ((md_lit 0 (by decide)).2) (show iNz 0 = false from rfl) (nB_small (wls))).trans (by rw [qls]; try rfl)) (by rfl)).trans ?_
             refine tF (by exact nT (by simp only [sxs]; simp only [beq_self_eq_true, Bool.and_true, Bool.and_self, bt1, bt0])) ?_
             rw [treeF_leaf rfl]; rfl
         ·refine tF (by simp only [sxs]; exact decide_eq_false hs42) ?_
          obtain ⟨jlm, qlm⟩ := cd_mul (by omega) ha hb kx ky klm kmm
          refine (treeF_call (r := [wd (mm) 1, wd (mm) 0, ((jlm : Nat) : Int)]) (by simp only [sxs, ph_CD_conv_Conv]; exact (k_conv_Conv (fN_succ2 h2) hf1 (fN_u f) hf ((md_lit 0 (by decide)).1) ((md_lit 0 (by decide)).2) (show iNz 0 = false from rfl) (nB_small (wlm))).trans (by rw [qlm]; try rfl)) (by rfl)).trans ?_
          refine tF (by exact nT (by simp only [sxs]; simp only [beq_self_eq_true, Bool.and_true, Bool.and_self, bt1, bt0])) ?_
          refine (treeF_call (r := [((clsF (fN f) (ms) : Nat) : Int), b2i (FP.sgn (fN f) (ms))]) (by simp only [sxs, ph_CD_class_Of]; exact k_class_Of (fN_u f) hf (nB_small (wms))) (by rfl)).trans ?_
          by_cases hs46 : clsF (fN f) (ms) = 1
          ·refine tT (by simp only [sxs]; rw [clsF_u8]; exact (beq_nn _ 1).trans (decide_eq_true hs46)) ?_
           rw [treeF_leaf rfl]; rfl
          ·refine tF (by simp only [sxs]; rw [clsF_u8]; exact (beq_nn _ 1).trans (decide_eq_false hs46)) ?_
           by_cases hs47 : clsF (fN f) (ms) = 0
           ·refine tT (by simp only [sxs]; rw [clsF_u8]; exact (beq_nk0 _).trans (decide_eq_true hs47)) ?_
            rw [treeF_leaf rfl]; rfl
           ·refine tF (by simp only [sxs]; rw [clsF_u8]; exact (beq_nk0 _).trans (decide_eq_false hs47)) ?_
            refine (treeF_call (r := [b2i (decide (4 ≤ clsF (fN f) (ms)))]) (by simp only [sxs, ph_CD_class_NaN]; exact k_class_NaN (fN_u f) (nB_small (wms))) (by rfl)).trans ?_
            by_cases hs48 : 4 ≤ clsF (fN f) (ms)
            ·refine tT (by simp only [sxs]; exact decide_eq_true hs48) ?_
             rw [treeF_leaf rfl]; rfl
            ·refine tF (by simp only [sxs]; exact decide_eq_false hs48) ?_
             obtain ⟨jls, qls⟩ := cd_sqrt (by omega) ha kx kls kms hs47 hs48
             refine (treeF_call (r := [wd (ms) 1, wd (ms) 0, ((jls : Nat) : Int)]) (by simp only [sxs, ph_CD_conv_Conv]; exact (k_conv_Conv (fN_succ2 h2) hf1 (fN_u f) hf ((md_lit 0 (by decide)).1) ((md_lit 0 (by decide)).2) (show iNz 0 = false from rfl) (nB_small (wls))).trans (by rw [qls]; try rfl)) (by rfl)).trans ?_
             refine tF (by exact nT (by simp only [sxs]; simp only [beq_self_eq_true, Bool.and_true, Bool.and_self, bt1, bt0])) ?_
             rw [treeF_leaf rfl]; rfl
      ·refine tF (by simp only [sxs]; exact decide_eq_false hs33) ?_
       obtain ⟨jla, qla⟩ := cd_add (by omega) ha hb kx ky kla kma
       refine (treeF_call (r := [wd (ma) 1, wd (ma) 0, ((jla : Nat) : Int)]) (by simp only [sxs, ph_CD_conv_Conv]; exact (k_conv_Conv (fN_succ2 h2) hf1 (fN_u f) hf ((md_lit 0 (by decide)).1) ((md_lit 0 (by decide)).2) (show iNz 0 = false from rfl) (nB_small (wla))).trans (by rw [qla]; try rfl)) (by rfl)).trans ?_
       refine tF (by exact nT (by simp only [sxs]; simp only [beq_self_eq_true, Bool.and_true, Bool.and_self, bt1, bt0])) ?_
       refine (treeF_call (r := [((clsF (fN f) (mm) : Nat) : Int), b2i (FP.sgn (fN f) (mm))]) (by simp only [sxs, ph_CD_class_Of]; exact k_class_Of (fN_u f) hf (nB_small (wmm))) (by rfl)).trans ?_
       by_cases hs49 : clsF (fN f) (mm) = 1
       ·refine tT (by simp only [sxs]; rw [clsF_u8]; exact (beq_nn _ 1).trans (decide_eq_true hs49)) ?_
        refine (treeF_call (r := [((clsF (fN f) (ms) : Nat) : Int), b2i (FP.sgn (fN f) (ms))]) (by simp only [sxs, ph_CD_class_Of]; exact k_class_Of (fN_u f) hf (nB_small (wms))) (by rfl)).trans ?_
        by_cases hs50 : clsF (fN f) (ms) = 1
        ·refine tT (by simp only [sxs]; rw [clsF_u8]; exact (beq_nn _ 1).trans (decide_eq_true hs50)) ?_
         rw [treeF_leaf rfl]; rfl
        ·refine tF (by simp only [sxs]; rw [clsF_u8]; exact (beq_nn _ 1).trans (decide_eq_false hs50)) ?_
         by_cases hs51 : clsF (fN f) (ms) = 0
         ·refine tT (by simp only [sxs]; rw [clsF_u8]; exact (beq_nk0 _).trans (decide_eq_true hs51)) ?_
          rw [treeF_leaf rfl]; rfl
         ·refine tF (by simp only [sxs]; rw [clsF_u8]; exact (beq_nk0 _).trans (decide_eq_false hs51)) ?_
          refine (treeF_call (r := [b2i (decide (4 ≤ clsF (fN f) (ms)))]) (by simp only [sxs, ph_CD_class_NaN]; exact k_class_NaN (fN_u f) (nB_small (wms))) (by rfl)).trans ?_
          by_cases hs52 : 4 ≤ clsF (fN f) (ms)
          ·refine tT (by simp only [sxs]; exact decide_eq_true hs52) ?_
           rw [treeF_leaf rfl]; rfl
          ·refine tF (by simp only [sxs]; exact decide_eq_false hs52) ?_
           obtain ⟨jls, qls⟩ := cd_sqrt (by omega) ha kx kls kms hs51 hs52
           refine (treeF_call (r := [wd (ms) 1, wd (ms) 0, ((jls : Nat) : Int)]) (by simp only [sxs, ph_CD_conv_Conv]; exact (k_conv_Conv (fN_succ2 h2) hf1 (fN_u f) hf ((md_lit 0 (by decide)).1) ((md_lit 0 (by decide)).2) (show iNz 0 = false from rfl) (nB_small (wls))).trans (by rw [qls]; try rfl)) (by rfl)).trans ?_
           refine tF (by exact nT (by simp only [sxs]; simp only [beq_self_eq_true, Bool.and_true, Bool.and_self, bt1, bt0])) ?_
           rw [treeF_leaf rfl]; rfl
       ·refine tF (by simp only [sxs]; rw [clsF_u8]; exact (beq_nn _ 1).trans (decide_eq_false hs49)) ?_
        by_cases hs53 : clsF (fN f) (mm) = 0
        ·refine tT (by simp only [sxs]; rw [clsF_u8]; exact (beq_nk0 _).trans (decide_eq_true hs53)) ?_
         refine (treeF_call (r := [((clsF (fN f) (ms) : Nat) : Int), b2i (FP.sgn (fN f) (ms))]) (by simp only [sxs, ph_CD_class_Of]; exact k_class_Of (fN_u f) hf (nB_small (wms))) (by rfl)).trans ?_
         by_cases hs54 : clsF (fN f) (ms) = 1
         ·refine tT (by simp only [sxs]; rw [clsF_u8]; exact (beq_nn _ 1).trans (decide_eq_true hs54)) ?_
          rw [treeF_leaf rfl]; rfl
         ·refine tF (by simp only [sxs]; rw [clsF_u8]; exact (beq_nn _ 1).trans (decide_eq_false hs54)) ?_
          by_cases hs55 : clsF (fN f) (ms) = 0
          ·refine tT (by simp only [sxs]; rw [clsF_u8]; exact (beq_nk0 _).trans (decide_eq_true hs55)) ?_
           rw [treeF_leaf rfl]; rfl
          ·refine tF (by simp only [sxs]; rw [clsF_u8]; exact (beq_nk0 _).trans (decide_eq_false hs55)) ?_
           refine (treeF_call (r := [b2i (decide (4 ≤ clsF (fN f) (ms)))]) (by simp only [sxs, ph_CD_class_NaN]; exact k_class_NaN (fN_u f) (nB_small (wms))) (by rfl)).trans ?_
           by_cases hs56 : 4 ≤ clsF (fN f) (ms)
           ·refine tT (by simp only [sxs]; exact decide_eq_true hs56) ?_
            rw [treeF_leaf rfl]; rfl
           ·refine tF (by simp only [sxs]; exact decide_eq_false hs56) ?_
            obtain ⟨jls, qls⟩ := cd_sqrt (by omega) ha kx kls kms hs55 hs56
            refine (treeF_call (r := [wd (ms) 1, wd (ms) 0, ((jls : Nat) : Int)]) (by simp only [sxs, ph_CD_conv_Conv]; exact (k_conv_Conv (fN_succ2 h2) hf1 (fN_u f) hf ((md_lit 0 (by decide)).1) ((md_lit 0 (by decide)).2) (show iNz 0 = false from rfl) (nB_small (wls))).trans (by rw [qls]; try rfl)) (by rfl)).trans ?_
            refine tF (by exact nT (by simp only [sxs]; simp only [beq_self_eq_true, Bool.and_true, Bool.and_self, bt1, bt0])) ?_
            rw [treeF_leaf rfl]; rfl
        ·refine tF (by simp only [sxs]; rw [clsF_u8]; exact (beq_nk0 _).trans (decide_eq_false hs53)) ?_
         refine (treeF_call (r := [b2i (decide (4 ≤ clsF (fN f) (mm)))]) (by simp only [sxs, ph_CD_class_NaN]; exact k_class_NaN (fN_u f) (nB_small (wmm))) (by rfl)).trans ?_
         by_cases hs57 : 4 ≤ clsF (fN f) (mm)
         ·refine tT (by simp only [sxs]; exact decide_eq_true hs57) ?_
          refine (treeF_call (r := [((clsF (fN f) (ms) : Nat) : Int), b2i (FP.sgn (fN f) (ms))]) (by simp only [sxs, ph_CD_class_Of]; exact k_class_Of (fN_u f) hf (nB_small (wms))) (by rfl)).trans ?_
          by_cases hs58 : clsF (fN f) (ms) = 1
          ·refine tT (by simp only [sxs]; rw [clsF_u8]; exact (beq_nn _ 1).trans (decide_eq_true hs58)) ?_
           rw [treeF_leaf rfl]; rfl
          ·refine tF (by simp only [sxs]; rw [clsF_u8]; exact (beq_nn _ 1).trans (decide_eq_false hs58)) ?_
           by_cases hs59 : clsF (fN f) (ms) = 0
           ·refine tT (by simp only [sxs]; rw [clsF_u8]; exact (beq_nk0 _).trans (decide_eq_true hs59)) ?_
            rw [treeF_leaf rfl]; rfl
           ·refine tF (by simp only [sxs]; rw [clsF_u8]; exact (beq_nk0 _).trans (decide_eq_false hs59)) ?_
            refine (treeF_call (r := [b2i (decide (4 ≤ clsF (fN f) (ms)))]) (by simp only [sxs, ph_CD_class_NaN]; exact k_class_NaN (fN_u f) (nB_small (wms))) (by rfl)).trans ?_
            by_cases hs60 : 4 ≤ clsF (fN f) (ms)
            ·refine tT (by simp only [sxs]; exact decide_eq_true hs60) ?_
             rw [treeF_leaf rfl]; rfl
            ·refine tF (by simp only [sxs]; exact decide_eq_false hs60) ?_
             obtain ⟨jls, qls⟩ := cd_sqrt (by omega) ha kx kls kms hs59 hs60
             refine (treeF_call (r := [wd (ms) 1, wd (ms) 0, ((jls : Nat) : Int)]) (by simp only [sxs, ph_CD_conv_Conv]; exact (k_conv_Conv (fN_succ2 h2) hf1 (fN_u f) hf ((md_lit 0 (by decide)).1) ((md_lit 0 (by decide)).2) (show iNz 0 = false from rfl) (nB_small (wls))).trans (by rw [qls]; try rfl)) (by rfl)).trans ?_
             refine tF (by exact nT (by simp only [sxs]; simp only [beq_self_eq_true, Bool.and_true, Bool.and_self, bt1, bt0])) ?_
             rw [treeF_leaf rfl]; rfl
         ·refine tF (by simp only [sxs]; exact decide_eq_false hs57) ?_
          obtain ⟨jlm, qlm⟩ := cd_mul (by omega) ha hb kx ky klm kmm
          refine (treeF_call (r := [wd (mm) 1, wd (mm) 0, ((jlm : Nat) : Int)]) (by simp only [sxs, ph_CD_conv_Conv]; exact (k_conv_Conv (fN_succ2 h2) hf1 (fN_u f) hf ((md_lit 0 (by decide)).1) ((md_lit 0 (by decide)).2) (show iNz 0 = false from rfl) (nB_small (wlm))).trans (by rw [qlm]; try rfl)) (by rfl)).trans ?_
          refine tF (by exact nT (by simp only [sxs]; simp only [beq_self_eq_true, Bool.and_true, Bool.and_self, bt1, bt0])) ?_
          refine (treeF_call (r := [((clsF (fN f) (ms) : Nat) : Int), b2i (FP.sgn (fN f) (ms))]) (by simp only [sxs, ph_CD_class_Of]; exact k_class_Of (fN_u f) hf (nB_small (wms))) (by rfl)).trans ?_
          by_cases hs61 : clsF (fN f) (ms) = 1
          ·refine tT (by simp only [sxs]; rw [clsF_u8]; exact (beq_nn _ 1).trans (decide_eq_true hs61)) ?_
           rw [treeF_leaf rfl]; rfl
          ·refine tF (by simp only [sxs]; rw [clsF_u8]; exact (beq_nn _ 1).trans (decide_eq_false hs61)) ?_
           by_cases hs62 : clsF (fN f) (ms) = 0
           ·refine tT (by simp only [sxs]; rw [clsF_u8]; exact (beq_nk0 _).trans (decide_eq_true hs62)) ?_
            rw [treeF_leaf rfl]; rfl
           ·refine tF (by simp only [sxs]; rw [clsF_u8]; exact (beq_nk0 _).trans (decide_eq_false hs62)) ?_
            refine (treeF_call (r := [b2i (decide (4 ≤ clsF (fN f) (ms)))]) (by simp only [sxs, ph_CD_class_NaN]; exact k_class_NaN (fN_u f) (nB_small (wms))) (by rfl)).trans ?_
            by_cases hs63 : 4 ≤ clsF (fN f) (ms)
            ·refine tT (by simp only [sxs]; exact decide_eq_true hs63) ?_
             rw [treeF_leaf rfl]; rfl
            ·refine tF (by simp only [sxs]; exact decide_eq_false hs63) ?_
             obtain ⟨jls, qls⟩ := cd_sqrt (by omega) ha kx kls kms hs62 hs63
             refine (treeF_call (r := [wd (ms) 1, wd (ms) 0, ((jls : Nat) : Int)]) (by simp only [sxs, ph_CD_conv_Conv]; exact (k_conv_Conv (fN_succ2 h2) hf1 (fN_u f) hf ((md_lit 0 (by decide)).1) ((md_lit 0 (by decide)).2) (show iNz 0 = false from rfl) (nB_small (wls))).trans (by rw [qls]; try rfl)) (by rfl)).trans ?_
             refine tF (by exact nT (by simp only [sxs]; simp only [beq_self_eq_true, Bool.and_true, Bool.and_self, bt1, bt0])) ?_
             rw [treeF_leaf rfl]; rfl
   ·skip
    refine tF (by simp only [sxs]; have hu := u8_rng f; unfold fN at h2; exact decide_eq_false (by omega)) ?_
    refine (treeF_call (r := [b2i (decide (clsF (fN f) (nB a1 a0) < 3))]) (by simp only [sxs, ph_CD_class_Finite]; exact k_class_Finite (fN_u f) hf (nB_u _ _)) (by rfl)).trans ?_
    refine tF (by exact nT (by simp only [sxs]; exact decide_eq_true (ha))) ?_
    refine (treeF_call (r := [b2i (decide (clsF (fN f) (nB b1 b0) < 3))]) (by simp only [sxs, ph_CD_class_Finite]; exact k_class_Finite (fN_u f) hf (nB_u _ _)) (by rfl)).trans ?_
    refine tT (by exact nF (by simp only [sxs]; exact decide_eq_false (hb))) ?_
    rw [treeF_leaf rfl]; rfl
  ·skip
   refine tF (by simp only [sxs]; have hu := u8_rng f; unfold fN at h2; exact decide_eq_false (by omega)) ?_
   refine (treeF_call (r := [b2i (decide (clsF (fN f) (nB a1 a0) < 3))]) (by simp only [sxs, ph_CD_class_Finite]; exact k_class_Finite (fN_u f) hf (nB_u _ _)) (by rfl)).trans ?_
   refine tT (by exact nF (by simp only [sxs]; exact decide_eq_false (ha))) ?_
   rw [treeF_leaf rfl]; rfl
 ·skip
  refine tT (by simp only [sxs]; have hu := u8_rng f; unfold fN at h2; exact decide_eq_true (by omega)) ?_
  rw [treeF_leaf rfl]; rfl
end Go.Proofs.YtngiodcdelfdmaaGreatDoor
