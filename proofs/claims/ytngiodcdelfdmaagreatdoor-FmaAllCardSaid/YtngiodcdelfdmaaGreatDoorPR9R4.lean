import Derived.Test.YtngiodcdelfdmaaGreatDoorZKR4
namespace Go.Proofs.YtngiodcdelfdmaaGreatDoor
set_option linter.unusedVariables false
set_option linter.unusedSimpArgs false
set_option maxRecDepth 100000
open Go.RowKit
theorem pick3_J {f a b c : Nat} (h : pkO3 f (badC (clsF f a) (clsF f b)) a b c = true) : fmaJ f a b c = badC (clsF f a) (clsF f b) := by
 by_cases hn : 4 ≤ clsF f a ∨ 4 ≤ clsF f b ∨ 4 ≤ clsF f c
 ·exact fmaJ_nan hn
 ·have hb : badC (clsF f a) (clsF f b) = true := by
   rcases pkO3_nan.1 h with h | h | h | h
   ·exact absurd (.inl h) hn
   ·exact absurd (.inr (.inl h)) hn
   ·exact absurd (.inr (.inr h)) hn
   ·exact h
  rw [fmaJ_num hn, fmaI_bad hb, hb]
theorem u8_pkF3 (f : Nat) (j : Bool) (a b c : Nat) : u8 ((pkF3 f j a b c : Nat) : Int) = ((pkF3 f j a b c : Nat) : Int) := by have := pkF3_le f j a b c; exact u8_id (by omega) (by omega)
theorem v_refFma {f m t a1 a0 b1 b0 c1 c0 : Int} (hf : fN f < 4) (hm : fN m ≤ 4) : F_ref20_Fma [f, m, t, a1, a0, b1, b0, c1, c0] = oR (fmaR (fN f) (fN m) (iNz t) (nB a1 a0) (nB b1 b0) (nB c1 c0)) := by
 rw [F_ref20_Fma, t_ref20_Fma]
 refine tF (by simp only [nxs]; exact u8_gt3 hf) ?_
 refine tF (by simp only [nxs]; exact u8_gt4 hm) ?_
 refine (treeF_call (r := [((clsF (fN f) (nB a1 a0) : Nat) : Int), b2i (FP.sgn (fN f) (nB a1 a0))]) (by simp only [nxs, ph_RL9_ref08_Of]; exact (v_clsOf _ _ _).trans (by rw [fN_u, nB_u, sgnF_id hf])) (by rfl)).trans ?_
 refine (treeF_call (r := [((clsF (fN f) (nB b1 b0) : Nat) : Int), b2i (FP.sgn (fN f) (nB b1 b0))]) (by simp only [nxs, ph_RL9_ref08_Of]; exact (v_clsOf _ _ _).trans (by rw [fN_u, nB_u, sgnF_id hf])) (by rfl)).trans ?_
 refine (treeF_call (r := [((clsF (fN f) (nB c1 c0) : Nat) : Int), b2i (FP.sgn (fN f) (nB c1 c0))]) (by simp only [nxs, ph_RL9_ref08_Of]; exact (v_clsOf _ _ _).trans (by rw [fN_u, nB_u, sgnF_id hf])) (by rfl)).trans ?_
 have ua := clsF_u8 (fN f) (nB a1 a0)
 have ub := clsF_u8 (fN f) (nB b1 b0)
 have uc := clsF_u8 (fN f) (nB c1 c0)
 refine (treeF_call (r := [b2i (badC (clsF (fN f) (nB a1 a0)) (clsF (fN f) (nB b1 b0)))]) (by simp only [nxs, ph_RL9_ref19_Bad]; exact v_Bad (by rw [ua, ua]) (by rw [ub, ub])) (by rfl)).trans ?_
 have hJ3 := @pick3_J (fN f) (nB a1 a0) (nB b1 b0) (nB c1 c0)
 obtain ⟨J, hj⟩ : ∃ J, badC (clsF (fN f) (nB a1 a0)) (clsF (fN f) (nB b1 b0)) = J := ⟨_, rfl⟩
 rw [hj] at hJ3 ⊢
 refine (treeF_call (r := [wd (pkB3 (fN f) J (nB a1 a0) (nB b1 b0) (nB c1 c0)) 1, wd (pkB3 (fN f) J (nB a1 a0) (nB b1 b0) (nB c1 c0)) 0, ((pkF3 (fN f) J (nB a1 a0) (nB b1 b0) (nB c1 c0) : Nat) : Int), b2i (pkO3 (fN f) J (nB a1 a0) (nB b1 b0) (nB c1 c0))]) (by simp only [nxs, ph_RL9_ref10_Pick_3]; exact (v_Pick_3 (by rw [fN_u]; exact hf)).trans (by rw [fN_u, nB_u, nB_u, nB_u, iNz_b2i])) (by rfl)).trans ?_
 by_cases hO : pkO3 (fN f) J (nB a1 a0) (nB b1 b0) (nB c1 c0) = true
 ·refine tT (by simp only [nxs]; exact hO) ?_
  have h2 := hJ3 hO
  have h3 := fmaR_pick (m := fN m) (after := iNz t) (show pkO3 (fN f) (fmaJ (fN f) (nB a1 a0) (nB b1 b0) (nB c1 c0)) (nB a1 a0) (nB b1 b0) (nB c1 c0) = true by rw [h2]; exact hO)
  rw [treeF_leaf rfl, h3, h2, oR_eq]; simp only [nxs, u8_pkF3]
 ·refine tF (by simp only [nxs]; exact Bool.eq_false_iff.2 hO) ?_
  have hnn : ¬ (4 ≤ clsF (fN f) (nB a1 a0) ∨ 4 ≤ clsF (fN f) (nB b1 b0) ∨ 4 ≤ clsF (fN f) (nB c1 c0) ∨ J = true) := fun h => hO (pkO3_nan.2 h)
  have na : ¬ 4 ≤ clsF (fN f) (nB a1 a0) := fun h => hnn (.inl h)
  have nb : ¬ 4 ≤ clsF (fN f) (nB b1 b0) := fun h => hnn (.inr (.inl h))
  have nc : ¬ 4 ≤ clsF (fN f) (nB c1 c0) := fun h => hnn (.inr (.inr (.inl h)))
  have nJ : J = false := by cases J with | false => rfl | true => exact absurd (.inr (.inr (.inr rfl))) hnn
  rw [fmaR_S (fN m) (iNz t) na nb nc]
  unfold fmaI fmaSg fmaSc
  rw [hj, nJ, Bool.false_or]
  have sx2 : iNz (b2i (!(FP.sgn (fN f) (nB a1 a0) == FP.sgn (fN f) (nB b1 b0)))) = (FP.sgn (fN f) (nB a1 a0) != FP.sgn (fN f) (nB b1 b0)) := by
   rw [iNz_b2i]; rfl
  obtain ⟨sg, hsg⟩ : ∃ s, (FP.sgn (fN f) (nB a1 a0) != FP.sgn (fN f) (nB b1 b0)) = s := ⟨_, rfl⟩
  have hsg2 : (!(FP.sgn (fN f) (nB a1 a0) == FP.sgn (fN f) (nB b1 b0))) = sg := hsg
  rw [hsg] at sx2 ⊢
  by_cases ia : clsF (fN f) (nB a1 a0) = 3
  ·refine tT (by simp only [nxs, ua, ia]; rfl) ?_
   rw [show infAB (fN f) (nB a1 a0) (nB b1 b0) = true by unfold infAB; rw [decide_eq_true ia, Bool.true_or]]
   by_cases ic : clsF (fN f) (nB c1 c0) = 3
   ·refine tT (by simp only [nxs, uc, ic]; rfl) ?_
    rw [decide_eq_true ic, Bool.true_and, Bool.true_and]
    cases hz : (sg != FP.sgn (fN f) (nB c1 c0)) with
    | true =>
     refine tT (by simp only [nxs, hsg2]; rw [bne_comm] at hz; exact hz) ?_
     refine (treeF_call (r := [wd (pkB3 (fN f) true (nB a1 a0) (nB b1 b0) (nB c1 c0)) 1, wd (pkB3 (fN f) true (nB a1 a0) (nB b1 b0) (nB c1 c0)) 0, ((pkF3 (fN f) true (nB a1 a0) (nB b1 b0) (nB c1 c0) : Nat) : Int), b2i (pkO3 (fN f) true (nB a1 a0) (nB b1 b0) (nB c1 c0))]) (by simp only [nxs, ph_RL9_ref10_Pick_3]; exact (v_Pick_3 (i := 1) (by rw [fN_u]; exact hf)).trans (by rw [fN_u, nB_u, nB_u, nB_u, show iNz 1 = true by decide])) (by rfl)).trans ?_
     have k1 : pkB3 (fN f) true (nB a1 a0) (nB b1 b0) (nB c1 c0) = dfl (fN f) := by unfold pkB3; rw [if_neg na, if_neg nb, if_neg nc, if_pos rfl]
     have k2 : pkF3 (fN f) true (nB a1 a0) (nB b1 b0) (nB c1 c0) = 1 := by unfold pkF3; rw [if_neg (by omega), if_pos rfl]
     rw [treeF_leaf rfl, k1, k2, if_pos rfl, oR_eq]; (simp only [nxs]) <;> rfl
    | false =>
     refine tF (by simp only [nxs, hsg2]; rw [bne_comm] at hz; exact hz) ?_
     refine (treeF_call (r := [wd (FP.mk (fN f) sg (FP.inf (fN f))) 1, wd (FP.mk (fN f) sg (FP.inf (fN f))) 0]) (by simp only [nxs, ph_RL9_ref07_Inf]; exact (v_Inf (by rw [fN_u]; exact hf)).trans (by rw [fN_u, oB_eq, sx2])) (by rfl)).trans ?_
     rw [treeF_leaf rfl, if_neg Bool.false_ne_true, if_pos rfl, if_pos rfl, oR_eq]; (simp only [nxs]) <;> rfl
   ·refine tF (by simp only [nxs, uc, beq_eq_false_iff_ne]; omega) ?_
    refine (treeF_call (r := [wd (FP.mk (fN f) sg (FP.inf (fN f))) 1, wd (FP.mk (fN f) sg (FP.inf (fN f))) 0]) (by simp only [nxs, ph_RL9_ref07_Inf]; exact (v_Inf (by rw [fN_u]; exact hf)).trans (by rw [fN_u, oB_eq, sx2])) (by rfl)).trans ?_
    rw [treeF_leaf rfl, decide_eq_false ic, Bool.false_and, Bool.and_false, if_neg Bool.false_ne_true, if_pos rfl, if_pos rfl, oR_eq]; (simp only [nxs]) <;> rfl
  ·refine tF (by simp only [nxs, ua, beq_eq_false_iff_ne]; omega) ?_
   by_cases ib : clsF (fN f) (nB b1 b0) = 3
   ·refine tT (by simp only [nxs, ub, ib]; rfl) ?_
    rw [show infAB (fN f) (nB a1 a0) (nB b1 b0) = true by unfold infAB; rw [decide_eq_true ib, Bool.or_true]]
    by_cases ic : clsF (fN f) (nB c1 c0) = 3
    ·refine tT (by simp only [nxs, uc, ic]; rfl) ?_
     rw [decide_eq_true ic, Bool.true_and, Bool.true_and]
     cases hz : (sg != FP.sgn (fN f) (nB c1 c0)) with
     | true =>
      refine tT (by simp only [nxs, hsg2]; rw [bne_comm] at hz; exact hz) ?_
      refine (treeF_call (r := [wd (pkB3 (fN f) true (nB a1 a0) (nB b1 b0) (nB c1 c0)) 1, wd (pkB3 (fN f) true (nB a1 a0) (nB b1 b0) (nB c1 c0)) 0, ((pkF3 (fN f) true (nB a1 a0) (nB b1 b0) (nB c1 c0) : Nat) : Int), b2i (pkO3 (fN f) true (nB a1 a0) (nB b1 b0) (nB c1 c0))]) (by simp only [nxs, ph_RL9_ref10_Pick_3]; exact (v_Pick_3 (i := 1) (by rw [fN_u]; exact hf)).trans (by rw [fN_u, nB_u, nB_u, nB_u, show iNz 1 = true by decide])) (by rfl)).trans ?_
      have k1 : pkB3 (fN f) true (nB a1 a0) (nB b1 b0) (nB c1 c0) = dfl (fN f) := by unfold pkB3; rw [if_neg na, if_neg nb, if_neg nc, if_pos rfl]
      have k2 : pkF3 (fN f) true (nB a1 a0) (nB b1 b0) (nB c1 c0) = 1 := by unfold pkF3; rw [if_neg (by omega), if_pos rfl]
      rw [treeF_leaf rfl, k1, k2, if_pos rfl, oR_eq]; (simp only [nxs]) <;> rfl
     | false =>
      refine tF (by simp only [nxs, hsg2]; rw [bne_comm] at hz; exact hz) ?_
      refine (treeF_call (r := [wd (FP.mk (fN f) sg (FP.inf (fN f))) 1, wd (FP.mk (fN f) sg (FP.inf (fN f))) 0]) (by simp only [nxs, ph_RL9_ref07_Inf]; exact (v_Inf (by rw [fN_u]; exact hf)).trans (by rw [fN_u, oB_eq, sx2])) (by rfl)).trans ?_
      rw [treeF_leaf rfl, if_neg Bool.false_ne_true, if_pos rfl, if_pos rfl, oR_eq]; (simp only [nxs]) <;> rfl
    ·refine tF (by simp only [nxs, uc, beq_eq_false_iff_ne]; omega) ?_
     refine (treeF_call (r := [wd (FP.mk (fN f) sg (FP.inf (fN f))) 1, wd (FP.mk (fN f) sg (FP.inf (fN f))) 0]) (by simp only [nxs, ph_RL9_ref07_Inf]; exact (v_Inf (by rw [fN_u]; exact hf)).trans (by rw [fN_u, oB_eq, sx2])) (by rfl)).trans ?_
     rw [treeF_leaf rfl, decide_eq_false ic, Bool.false_and, Bool.and_false, if_neg Bool.false_ne_true, if_pos rfl, if_pos rfl, oR_eq]; (simp only [nxs]) <;> rfl
   ·refine tF (by simp only [nxs, ub, beq_eq_false_iff_ne]; omega) ?_
    rw [show infAB (fN f) (nB a1 a0) (nB b1 b0) = false by unfold infAB; rw [decide_eq_false ia, decide_eq_false ib, Bool.false_or], Bool.false_and, if_neg Bool.false_ne_true, if_neg Bool.false_ne_true, if_neg Bool.false_ne_true]
    by_cases ic : clsF (fN f) (nB c1 c0) = 3
    ·refine tT (by simp only [nxs, uc, ic]; rfl) ?_
     refine (treeF_call (r := [wd (FP.mk (fN f) (FP.sgn (fN f) (nB c1 c0)) (FP.inf (fN f))) 1, wd (FP.mk (fN f) (FP.sgn (fN f) (nB c1 c0)) (FP.inf (fN f))) 0]) (by simp only [nxs, ph_RL9_ref07_Inf]; exact (v_Inf (by rw [fN_u]; exact hf)).trans (by rw [fN_u, oB_eq, iNz_b2i])) (by rfl)).trans ?_
     rw [treeF_leaf rfl, if_pos ic, if_pos ic, oR_eq]; (simp only [nxs]) <;> rfl
    ·refine tF (by simp only [nxs, uc, beq_eq_false_iff_ne]; omega) ?_
     rw [if_neg ic, if_neg ic]
     obtain ⟨ca, -, -⟩ := cls_fin hf (show clsF (fN f) (nB a1 a0) < 3 by omega)
     obtain ⟨cb, -, -⟩ := cls_fin hf (show clsF (fN f) (nB b1 b0) < 3 by omega)
     obtain ⟨cc, -, -⟩ := cls_fin hf (show clsF (fN f) (nB c1 c0) < 3 by omega)
     refine (treeF_call (r := [b2i (FP.sgn (fN f) (nB a1 a0)), ((FP.vM (fN f) (FP.cod (fN f) (nB a1 a0)) : Nat) : Int), FP.vE (fN f) (FP.cod (fN f) (nB a1 a0))]) (by simp only [nxs, ph_RL9_ref09_Of]; exact (v_Of9 (by rw [fN_u]; exact hf)).trans (by rw [fN_u, nB_u])) (by rfl)).trans ?_
     refine (treeF_call (r := [b2i (FP.sgn (fN f) (nB b1 b0)), ((FP.vM (fN f) (FP.cod (fN f) (nB b1 b0)) : Nat) : Int), FP.vE (fN f) (FP.cod (fN f) (nB b1 b0))]) (by simp only [nxs, ph_RL9_ref09_Of]; exact (v_Of9 (by rw [fN_u]; exact hf)).trans (by rw [fN_u, nB_u])) (by rfl)).trans ?_
     obtain ⟨ea, ea1, ea2⟩ := vE_i hf ca
     obtain ⟨eb, eb1, eb2⟩ := vE_i hf cb
     obtain ⟨ec, ec1, ec2⟩ := vE_i hf cc
     have Ma := vM_128 hf (FP.cod (fN f) (nB a1 a0))
     have Mb := vM_128 hf (FP.cod (fN f) (nB b1 b0))
     have Mc := vM_128 hf (FP.cod (fN f) (nB c1 c0))
     have hF := fun s t' => FP.ref_fma (f := fN f) (m := fN m) (after := iNz t) (s := s) (t := t') (c := FP.cod (fN f) (nB a1 a0)) (d := FP.cod (fN f) (nB b1 b0)) (e := FP.cod (fN f) (nB c1 c0)) hf
     have hle : ∀ s t', (FP.fmaC (fN f) (fN m) (iNz t) s t' (FP.cod (fN f) (nB a1 a0)) (FP.cod (fN f) (nB b1 b0)) (FP.cod (fN f) (nB c1 c0))).1 ≤ FP.inf (fN f) := fun s t' => FP.roundC_le _ _ _ _ _ _ _
     have hfl : ∀ s t', u8 (((FP.fmaC (fN f) (fN m) (iNz t) s t' (FP.cod (fN f) (nB a1 a0)) (FP.cod (fN f) (nB b1 b0)) (FP.cod (fN f) (nB c1 c0))).2 : Nat) : Int) = (((FP.fmaC (fN f) (fN m) (iNz t) s t' (FP.cod (fN f) (nB a1 a0)) (FP.cod (fN f) (nB b1 b0)) (FP.cod (fN f) (nB c1 c0))).2 : Nat) : Int) := fun s t' => roundC_flag8 _ _ _ _ _ _ _
     generalize FP.cod (fN f) (nB a1 a0) = c at *
     generalize FP.cod (fN f) (nB b1 b0) = d at *
     refine (treeF_call (r := [b2i sg, ((FP.vM (fN f) c * FP.vM (fN f) d : Nat) : Int), FP.vE (fN f) c + FP.vE (fN f) d]) (by simp only [nxs, ph_RL9_ref19_Product]; exact (v_Product (ε := FP.vE (fN f) c) (φ := FP.vE (fN f) d) Ma Mb (by decide) (by rw [i64_i64]; exact ea) (by rw [i64_i64]; exact eb) (by omega) (by omega) (by omega) (by omega)).trans (by rw [iNz_b2i, iNz_b2i, hsg])) (by rfl)).trans ?_
     refine (treeF_call (r := [b2i (FP.sgn (fN f) (nB c1 c0)), ((FP.vM (fN f) (FP.cod (fN f) (nB c1 c0)) : Nat) : Int), FP.vE (fN f) (FP.cod (fN f) (nB c1 c0))]) (by simp only [nxs, ph_RL9_ref09_Of]; exact (v_Of9 (by rw [fN_u]; exact hf)).trans (by rw [fN_u, nB_u])) (by rfl)).trans ?_
     generalize FP.sgn (fN f) (nB c1 c0) = z at *
     generalize FP.cod (fN f) (nB c1 c0) = e at *
     have hF := hF sg z; have hle := hle sg z; have hfl := hfl sg z
     have eab : i64 (FP.vE (fN f) c + FP.vE (fN f) d) = FP.vE (fN f) c + FP.vE (fN f) d := i64_id (by omega) (by omega)
     have hS := v_Signed (f := u8 f) (m := u8 m) (af := b2i (iNz t)) (s := b2i sg) (t := b2i z) (E := FP.vE (fN f) c + FP.vE (fN f) d) (F := FP.vE (fN f) e) (ε := FP.vE (fN f) c + FP.vE (fN f) d) (φ := FP.vE (fN f) e) (M := FP.vM (fN f) c * FP.vM (fN f) d) (K := FP.vM (fN f) e) (j := 256)
      (ng := FP.fmaN (fN f) (fN m) sg z c d e) (r := FP.fmaC (fN f) (fN m) (iNz t) sg z c d e) (by rw [fN_u]; exact hf) (by rw [fN_u]; exact hm) (sz_mul Ma Mb) (sz_mono Mc (by decide)) (by decide) eab ec (by omega) (by omega) (by omega) (by omega)
      (by
       rw [iNz_b2i, iNz_b2i, fN_u]
       intro h0
       have h1 := hF.1.1 h0
       refine ⟨?_, ?_⟩
       ·unfold FP.fmaN FP.sgN; rw [if_pos h1]
       ·unfold FP.fmaC; rw [h1, FP.roundC_zero])
      (by
       rw [iNz_b2i, iNz_b2i, iNz_b2i, fN_u, fN_u]
       intro h0
       have h1 : ¬ FP.sgV sg z (FP.val (fN f) c * FP.val (fN f) d) (FP.val (fN f) e * 2 ^ FP.fU (fN f)) = 0 := fun h => h0 (hF.1.2 h)
       have hN : FP.fmaN (fN f) (fN m) sg z c d e = FP.sumS sg z (FP.vM (fN f) c * FP.vM (fN f) d) (FP.vE (fN f) c + FP.vE (fN f) d) (FP.vM (fN f) e) (FP.vE (fN f) e) := by
        rw [hF.2.1]; unfold FP.fmaN FP.sgN; rw [if_neg h1]
       refine ⟨hN, ?_, hle⟩
       rw [← hN]
       exact hF.2.2 (by omega) _)
     rw [fN_u] at hS
     obtain ⟨R, hR⟩ : ∃ R, FP.fmaC (fN f) (fN m) (iNz t) sg z c d e = R := ⟨_, rfl⟩
     rw [hR] at hS hfl ⊢
     refine (treeF_call (r := [wd (FP.mk (fN f) (FP.fmaN (fN f) (fN m) sg z c d e) R.1) 1, wd (FP.mk (fN f) (FP.fmaN (fN f) (fN m) sg z c d e) R.1) 0, ((R.2 : Nat) : Int)]) ?_ (by rfl)).trans ?_
     ·simp only [nxs, ph_RL9_ref18_Signed, eab, ec]
      exact hS
     rw [treeF_leaf rfl]; simp only [nxs, hfl]
     obtain ⟨R1, R2⟩ := R
     rw [oR_eq]
theorem v_refFma0 {f m t a1 a0 b1 b0 c1 c0 : Int} (h : ¬ (fN f < 4 ∧ u8 m ≤ 4)) : F_ref20_Fma [f, m, t, a1, a0, b1, b0, c1, c0] = [0, 0, 0] := by
 rw [F_ref20_Fma, t_ref20_Fma]
 by_cases hf : fN f < 4
 ·refine tF (by simp only [nxs]; exact u8_gt3 hf) ?_
  refine tT (by simp only [nxs]; exact decide_eq_true (by have := fun h2 => h ⟨hf, h2⟩; omega)) ?_
  rw [treeF_leaf rfl]; rfl
 ·refine tT (by simp only [nxs]; exact u8_gt3' hf) ?_
  rw [treeF_leaf rfl]; rfl
end Go.Proofs.YtngiodcdelfdmaaGreatDoor
