import Derived.Test.YtngiodcdelfdmaaGreatDoorZKR5
import Derived.Test.YtngiodcdelfdmaaGreatDoorRL10R5
namespace Go.Proofs.YtngiodcdelfdmaaGreatDoor
set_option linter.unusedVariables false
set_option exponentiation.threshold 500
set_option linter.unusedSimpArgs false
set_option maxRecDepth 100000
open Go.RowKit
theorem v_Div {a b j k : Nat} (ha : a < 2 ^ j) (hb : b < 2 ^ k) (hj : j ≤ 1073741824) (hk : k ≤ 1073741824) (h : 0 < b) : fDiv [(a : Int), (b : Int)] = [((a / b : Nat) : Int), ((a % b : Nat) : Int)] := by
 unfold fDiv; rw [gN_0, gN_1, okN_of ha hj, okN_of hb hk, decide_eq_true h]; rfl
theorem v_refDiv {f m t a1 a0 b1 b0 : Int} (hf : fN f < 4) (hm : fN m ≤ 4) : F_ref21_Div [f, m, t, a1, a0, b1, b0] = oR (divR (fN f) (fN m) (iNz t) (nB a1 a0) (nB b1 b0)) := by
 rw [F_ref21_Div, t_ref21_Div]
 refine tF (by simp only [nxs]; exact u8_gt3 hf) ?_
 refine tF (by simp only [nxs]; exact u8_gt4 hm) ?_
 refine (treeF_call (r := [((clsF (fN f) (nB a1 a0) : Nat) : Int), b2i (FP.sgn (fN f) (nB a1 a0))]) (by simp only [nxs, ph_RL10_ref08_Of]; exact (v_clsOf _ _ _).trans (by rw [fN_u, nB_u, sgnF_id hf])) (by rfl)).trans ?_
 refine (treeF_call (r := [((clsF (fN f) (nB b1 b0) : Nat) : Int), b2i (FP.sgn (fN f) (nB b1 b0))]) (by simp only [nxs, ph_RL10_ref08_Of]; exact (v_clsOf _ _ _).trans (by rw [fN_u, nB_u, sgnF_id hf])) (by rfl)).trans ?_
 have ua := clsF_u8 (fN f) (nB a1 a0)
 have ub := clsF_u8 (fN f) (nB b1 b0)
 obtain ⟨J, hj⟩ : ∃ J, likeC (clsF (fN f) (nB a1 a0)) (clsF (fN f) (nB b1 b0)) = J := ⟨_, rfl⟩
 have hJ : (4 ≤ clsF (fN f) (nB a1 a0) ∨ 4 ≤ clsF (fN f) (nB b1 b0)) → J = false := fun h => by
  rw [← hj]; unfold likeC; simp; omega
 have hmul : divR (fN f) (fN m) (iNz t) (nB a1 a0) (nB b1 b0) = if 4 ≤ clsF (fN f) (nB a1 a0) then (quN (fN f) (nB a1 a0), nanFlag (fN f) (nB a1 a0) (nB b1 b0)) else if 4 ≤ clsF (fN f) (nB b1 b0) then (quN (fN f) (nB b1 b0), nanFlag (fN f) (nB a1 a0) (nB b1 b0)) else if J = true then (dfl (fN f), 1) else
  (FP.mk (fN f) (FP.sgn (fN f) (nB a1 a0) != FP.sgn (fN f) (nB b1 b0)) (divS (fN f) (fN m) (iNz t) (FP.sgn (fN f) (nB a1 a0) != FP.sgn (fN f) (nB b1 b0)) (FP.cod (fN f) (nB a1 a0)) (FP.cod (fN f) (nB b1 b0))).1, (divS (fN f) (fN m) (iNz t) (FP.sgn (fN f) (nB a1 a0) != FP.sgn (fN f) (nB b1 b0)) (FP.cod (fN f) (nB a1 a0)) (FP.cod (fN f) (nB b1 b0))).2) := by
  unfold divR; rw [hj]
 have ka := clsF_cod hf (nB a1 a0)
 have kb := clsF_cod hf (nB b1 b0)
 have sx2 : iNz (b2i (!(FP.sgn (fN f) (nB a1 a0) == FP.sgn (fN f) (nB b1 b0)))) = (FP.sgn (fN f) (nB a1 a0) != FP.sgn (fN f) (nB b1 b0)) := by
  rw [iNz_b2i]; rfl
 obtain ⟨sg, hsg⟩ : ∃ s, (FP.sgn (fN f) (nB a1 a0) != FP.sgn (fN f) (nB b1 b0)) = s := ⟨_, rfl⟩
 have hsg2 : (!(FP.sgn (fN f) (nB a1 a0) == FP.sgn (fN f) (nB b1 b0))) = sg := hsg
 rw [hsg] at sx2 hmul
 rw [hmul]
 have found : ∀ {x : Nat × Nat}, pkO2 (fN f) J (nB a1 a0) (nB b1 b0) = true → oR (if 4 ≤ clsF (fN f) (nB a1 a0) then (quN (fN f) (nB a1 a0), nanFlag (fN f) (nB a1 a0) (nB b1 b0)) else if 4 ≤ clsF (fN f) (nB b1 b0) then (quN (fN f) (nB b1 b0), nanFlag (fN f) (nB a1 a0) (nB b1 b0)) else if J = true then (dfl (fN f), 1) else x) = [wd (pkB2 (fN f) J (nB a1 a0) (nB b1 b0)) 1, wd (pkB2 (fN f) J (nB a1 a0) (nB b1 b0)) 0, ((pkF2 (fN f) J (nB a1 a0) (nB b1 b0) : Nat) : Int)] := fun h => by
  rw [pick_gen hJ h, oR_eq]
 have free : ∀ {x : Nat × Nat}, ¬ pkO2 (fN f) J (nB a1 a0) (nB b1 b0) = true → oR (if 4 ≤ clsF (fN f) (nB a1 a0) then (quN (fN f) (nB a1 a0), nanFlag (fN f) (nB a1 a0) (nB b1 b0)) else if 4 ≤ clsF (fN f) (nB b1 b0) then (quN (fN f) (nB b1 b0), nanFlag (fN f) (nB a1 a0) (nB b1 b0)) else if J = true then (dfl (fN f), 1) else x) = oR x := fun h => by
  obtain ⟨na, nb, hJf⟩ := pick_none h
  rw [if_neg na, if_neg nb, if_neg (by rw [hJf]; exact Bool.false_ne_true)]
 have hle0 : ∀ k, makeN (fN f) k 0 0 = FP.mk (fN f) k 0 := fun k => make_low hf (by have := FP.fP_ge hf; show 0 < _; omega)
 by_cases za : clsF (fN f) (nB a1 a0) = 0
 ·refine tT (by simp only [nxs, ua, za]; rfl) ?_
  have ca0 : FP.clsC (fN f) (FP.cod (fN f) (nB a1 a0)) = 0 := by rw [← ka]; exact za
  by_cases zb : clsF (fN f) (nB b1 b0) = 0
  ·refine tT (by simp only [nxs, ub, zb]; rfl) ?_
   have hJ1 : J = true := by rw [← hj, za, zb]; rfl
   refine (treeF_call (r := [wd (pkB2 (fN f) J (nB a1 a0) (nB b1 b0)) 1, wd (pkB2 (fN f) J (nB a1 a0) (nB b1 b0)) 0, ((pkF2 (fN f) J (nB a1 a0) (nB b1 b0) : Nat) : Int), b2i (pkO2 (fN f) J (nB a1 a0) (nB b1 b0))]) (by simp only [nxs, ph_RL10_ref10_Pick_2]; exact (v_Pick_2 (i := 1) (by rw [fN_u]; exact hf)).trans (by rw [fN_u, nB_u, nB_u, show iNz (1) = J from by rw [hJ1]; rfl])) (by rfl)).trans ?_
   have hO : pkO2 (fN f) J (nB a1 a0) (nB b1 b0) = true := by unfold pkO2; rw [hJ1, Bool.or_true, Bool.or_true]
   refine tT (by simp only [nxs]; exact hO) ?_
   rw [treeF_leaf rfl, found hO]; simp only [nxs, u8_pkF2]
  ·refine tF (by simp only [nxs, ub, beq_eq_false_iff_ne]; omega) ?_
   have hJ0 : J = false := by rw [← hj]; unfold likeC; rw [za, decide_eq_false (fun h => zb h.symm)]; rfl
   refine (treeF_call (r := [wd (pkB2 (fN f) J (nB a1 a0) (nB b1 b0)) 1, wd (pkB2 (fN f) J (nB a1 a0) (nB b1 b0)) 0, ((pkF2 (fN f) J (nB a1 a0) (nB b1 b0) : Nat) : Int), b2i (pkO2 (fN f) J (nB a1 a0) (nB b1 b0))]) (by simp only [nxs, ph_RL10_ref10_Pick_2]; exact (v_Pick_2 (i := 0) (by rw [fN_u]; exact hf)).trans (by rw [fN_u, nB_u, nB_u, show iNz (0) = J from by rw [hJ0]; rfl])) (by rfl)).trans ?_
   by_cases hO : pkO2 (fN f) J (nB a1 a0) (nB b1 b0) = true
   ·refine tT (by simp only [nxs]; exact hO) ?_
    rw [treeF_leaf rfl, found hO]; simp only [nxs, u8_pkF2]
   ·refine tF (by simp only [nxs]; exact Bool.eq_false_iff.2 hO) ?_
    have hd : divS (fN f) (fN m) (iNz t) sg (FP.cod (fN f) (nB a1 a0)) (FP.cod (fN f) (nB b1 b0)) = (0, 0) := by unfold divS; rw [if_neg (by omega), if_pos (.inr ca0)]
    by_cases ib : clsF (fN f) (nB b1 b0) = 3
    ·refine tT (by simp only [nxs, ub, ib]; rfl) ?_
     refine (treeF_call (r := [wd (FP.mk (fN f) sg 0) 1, wd (FP.mk (fN f) sg 0) 0]) (by simp only [nxs, ph_RL10_ref07_Make]; exact (v_MakeX (x := 0) (j := 1) (E := 0) (fN_u f) hf sx2 (by rfl) (by rfl) (by decide) (by decide)).trans (by rw [hle0])) (by rfl)).trans ?_
     rw [treeF_leaf rfl, free hO, hd, oR_eq]; (simp only [nxs]) <;> rfl
    ·refine tF (by simp only [nxs, ub, beq_eq_false_iff_ne]; omega) ?_
     refine (treeF_call (r := [wd (FP.mk (fN f) sg 0) 1, wd (FP.mk (fN f) sg 0) 0]) (by simp only [nxs, ph_RL10_ref07_Make]; exact (v_MakeX (x := 0) (j := 1) (E := 0) (fN_u f) hf sx2 (by rfl) (by rfl) (by decide) (by decide)).trans (by rw [hle0])) (by rfl)).trans ?_
     rw [treeF_leaf rfl, free hO, hd, oR_eq]; (simp only [nxs]) <;> rfl
 ·refine tF (by simp only [nxs, ua, beq_eq_false_iff_ne]; omega) ?_
  by_cases ia : clsF (fN f) (nB a1 a0) = 3
  ·refine tT (by simp only [nxs, ua, ia]; rfl) ?_
   have hJ1 : iNz (b2i (((clsF (fN f) (nB b1 b0) : Nat) : Int) == 3)) = J := by
    rw [iNz_b2i, ← hj]; unfold likeC
    by_cases hb : clsF (fN f) (nB b1 b0) = 3
    ·rw [ia, hb]; rfl
    ·rw [ia, decide_eq_false (fun h => hb h.symm), Bool.false_and, beq_eq_false_iff_ne]; omega
   refine (treeF_call (r := [wd (pkB2 (fN f) J (nB a1 a0) (nB b1 b0)) 1, wd (pkB2 (fN f) J (nB a1 a0) (nB b1 b0)) 0, ((pkF2 (fN f) J (nB a1 a0) (nB b1 b0) : Nat) : Int), b2i (pkO2 (fN f) J (nB a1 a0) (nB b1 b0))]) (by simp only [nxs, ph_RL10_ref10_Pick_2]; exact (v_Pick_2 (by rw [fN_u]; exact hf)).trans (by rw [fN_u, nB_u, nB_u, ub, hJ1])) (by rfl)).trans ?_
   by_cases hO : pkO2 (fN f) J (nB a1 a0) (nB b1 b0) = true
   ·refine tT (by simp only [nxs]; exact hO) ?_
    rw [treeF_leaf rfl, found hO]; simp only [nxs, u8_pkF2]
   ·refine tF (by simp only [nxs]; exact Bool.eq_false_iff.2 hO) ?_
    have hd : divS (fN f) (fN m) (iNz t) sg (FP.cod (fN f) (nB a1 a0)) (FP.cod (fN f) (nB b1 b0)) = (FP.inf (fN f), 0) := by unfold divS; rw [if_pos (by rw [← ka]; exact ia)]
    refine (treeF_call (r := [wd (FP.mk (fN f) sg (FP.inf (fN f))) 1, wd (FP.mk (fN f) sg (FP.inf (fN f))) 0]) (by simp only [nxs, ph_RL10_ref07_Inf]; exact (v_Inf (by rw [fN_u]; exact hf)).trans (by rw [fN_u, oB_eq, sx2])) (by rfl)).trans ?_
    rw [treeF_leaf rfl, free hO, hd, oR_eq]; (simp only [nxs]) <;> rfl
  ·refine tF (by simp only [nxs, ua, beq_eq_false_iff_ne]; omega) ?_
   have hJ0 : J = false := by rw [← hj]; unfold likeC; rw [decide_eq_false za, decide_eq_false ia, Bool.or_false, Bool.and_false]
   refine (treeF_call (r := [wd (pkB2 (fN f) J (nB a1 a0) (nB b1 b0)) 1, wd (pkB2 (fN f) J (nB a1 a0) (nB b1 b0)) 0, ((pkF2 (fN f) J (nB a1 a0) (nB b1 b0) : Nat) : Int), b2i (pkO2 (fN f) J (nB a1 a0) (nB b1 b0))]) (by simp only [nxs, ph_RL10_ref10_Pick_2]; exact (v_Pick_2 (i := 0) (by rw [fN_u]; exact hf)).trans (by rw [fN_u, nB_u, nB_u, show iNz (0) = J from by rw [hJ0]; rfl])) (by rfl)).trans ?_
   by_cases hO : pkO2 (fN f) J (nB a1 a0) (nB b1 b0) = true
   ·refine tT (by simp only [nxs]; exact hO) ?_
    rw [treeF_leaf rfl, found hO]; simp only [nxs, u8_pkF2]
   ·refine tF (by simp only [nxs]; exact Bool.eq_false_iff.2 hO) ?_
    obtain ⟨na, nb, -⟩ := pick_none hO
    have a3 : ¬ FP.clsC (fN f) (FP.cod (fN f) (nB a1 a0)) = 3 := by rw [← ka]; exact ia
    have a0' : ¬ FP.clsC (fN f) (FP.cod (fN f) (nB a1 a0)) = 0 := by rw [← ka]; exact za
    by_cases ib : clsF (fN f) (nB b1 b0) = 3
    ·refine tT (by simp only [nxs, ub, ib]; rfl) ?_
     have hd : divS (fN f) (fN m) (iNz t) sg (FP.cod (fN f) (nB a1 a0)) (FP.cod (fN f) (nB b1 b0)) = (0, 0) := by unfold divS; rw [if_neg a3, if_pos (.inl (by rw [← kb]; exact ib))]
     refine (treeF_call (r := [wd (FP.mk (fN f) sg 0) 1, wd (FP.mk (fN f) sg 0) 0]) (by simp only [nxs, ph_RL10_ref07_Make]; exact (v_MakeX (x := 0) (j := 1) (E := 0) (fN_u f) hf sx2 (by rfl) (by rfl) (by decide) (by decide)).trans (by rw [hle0])) (by rfl)).trans ?_
     rw [treeF_leaf rfl, free hO, hd, oR_eq]; (simp only [nxs]) <;> rfl
    ·refine tF (by simp only [nxs, ub, beq_eq_false_iff_ne]; omega) ?_
     by_cases zb : clsF (fN f) (nB b1 b0) = 0
     ·refine tT (by simp only [nxs, ub, zb]; rfl) ?_
      have hd : divS (fN f) (fN m) (iNz t) sg (FP.cod (fN f) (nB a1 a0)) (FP.cod (fN f) (nB b1 b0)) = (FP.inf (fN f), 2) := by unfold divS; rw [if_neg a3, if_neg (by rw [← kb]; omega), if_pos (by rw [← kb]; exact zb)]
      refine (treeF_call (r := [wd (FP.mk (fN f) sg (FP.inf (fN f))) 1, wd (FP.mk (fN f) sg (FP.inf (fN f))) 0]) (by simp only [nxs, ph_RL10_ref07_Inf]; exact (v_Inf (by rw [fN_u]; exact hf)).trans (by rw [fN_u, oB_eq, sx2])) (by rfl)).trans ?_
      rw [treeF_leaf rfl, free hO, hd, oR_eq]; (simp only [nxs]) <;> rfl
     ·refine tF (by simp only [nxs, ub, beq_eq_false_iff_ne]; omega) ?_
      have hd : divS (fN f) (fN m) (iNz t) sg (FP.cod (fN f) (nB a1 a0)) (FP.cod (fN f) (nB b1 b0)) = FP.divC (fN f) (fN m) (iNz t) sg (FP.cod (fN f) (nB a1 a0)) (FP.cod (fN f) (nB b1 b0)) := by unfold divS; rw [if_neg a3, if_neg (by rw [← kb]; omega), if_neg (by rw [← kb]; exact zb)]
      obtain ⟨ca, za', -⟩ := cls_fin hf (show clsF (fN f) (nB a1 a0) < 3 by omega)
      obtain ⟨cb, zb', -⟩ := cls_fin hf (show clsF (fN f) (nB b1 b0) < 3 by omega)
      rw [free hO, hd]
      refine (treeF_call (r := [b2i (FP.sgn (fN f) (nB a1 a0)), ((FP.vM (fN f) (FP.cod (fN f) (nB a1 a0)) : Nat) : Int), FP.vE (fN f) (FP.cod (fN f) (nB a1 a0))]) (by simp only [nxs, ph_RL10_ref09_Of]; exact (v_Of9 (by rw [fN_u]; exact hf)).trans (by rw [fN_u, nB_u])) (by rfl)).trans ?_
      refine (treeF_call (r := [b2i (FP.sgn (fN f) (nB b1 b0)), ((FP.vM (fN f) (FP.cod (fN f) (nB b1 b0)) : Nat) : Int), FP.vE (fN f) (FP.cod (fN f) (nB b1 b0))]) (by simp only [nxs, ph_RL10_ref09_Of]; exact (v_Of9 (by rw [fN_u]; exact hf)).trans (by rw [fN_u, nB_u])) (by rfl)).trans ?_
      obtain ⟨ea, ea1, ea2⟩ := vE_i hf ca
      obtain ⟨eb, eb1, eb2⟩ := vE_i hf cb
      have Ma := vM_128 hf (FP.cod (fN f) (nB a1 a0))
      have Mb := vM_128 hf (FP.cod (fN f) (nB b1 b0))
      have pa : 0 < FP.cod (fN f) (nB a1 a0) := by omega
      have pb : 0 < FP.cod (fN f) (nB b1 b0) := by omega
      have hC := FP.ref_div (f := fN f) (m := fN m) (after := iNz t) (neg := sg) hf pa pb
      have hle : (FP.divC (fN f) (fN m) (iNz t) sg (FP.cod (fN f) (nB a1 a0)) (FP.cod (fN f) (nB b1 b0))).1 ≤ FP.inf (fN f) := FP.roundC_le _ _ _ _ _ _ _
      have hfl : u8 (((FP.divC (fN f) (fN m) (iNz t) sg (FP.cod (fN f) (nB a1 a0)) (FP.cod (fN f) (nB b1 b0))).2 : Nat) : Int) = (((FP.divC (fN f) (fN m) (iNz t) sg (FP.cod (fN f) (nB a1 a0)) (FP.cod (fN f) (nB b1 b0))).2 : Nat) : Int) := roundC_flag8 _ _ _ _ _ _ _
      have hq0 := FP.big_quot hf pa pb (k := 400) (by have := FP.fP_le hf; omega)
      generalize FP.cod (fN f) (nB a1 a0) = c at *
      generalize FP.cod (fN f) (nB b1 b0) = d at *
      have mb := FP.vM_pos (f := fN f) pb
      have hS := sz_shl (k := 400) Ma
      refine (treeF_call (r := [((FP.vM (fN f) c * 2 ^ 400 : Nat) : Int)]) (by simp only [nxs, ph_RL10_ref01_Shl]; exact v_Shl Ma (by decide) (by rfl) (by decide)) (by rfl)).trans ?_
      refine (treeF_call (r := [((FP.vM (fN f) c * 2 ^ 400 / FP.vM (fN f) d : Nat) : Int), ((FP.vM (fN f) c * 2 ^ 400 % FP.vM (fN f) d : Nat) : Int)]) (by simp only [nxs, ph_RL10_ref01_Div]; exact v_Div hS Mb (by decide) (by decide) mb) (by rfl)).trans ?_
      have eE : i64 (i64 (FP.vE (fN f) c - FP.vE (fN f) d) - 400) = FP.vE (fN f) c - FP.vE (fN f) d - 400 := by rw [i64_id (n := FP.vE (fN f) c - FP.vE (fN f) d) (by omega) (by omega), i64_id (by omega) (by omega)]
      obtain ⟨R, hR⟩ : ∃ R, FP.divC (fN f) (fN m) (iNz t) sg c d = R := ⟨_, rfl⟩
      rw [hR] at hC hle hfl ⊢
      have hq := FP.two_pow_pos (FP.fP (fN f))
      have hmo : decide (((dlenN (FP.vM (fN f) c * 2 ^ 400 % FP.vM (fN f) d) : Nat) : Int) > 0) = decide (0 < FP.vM (fN f) c * 2 ^ 400 % FP.vM (fN f) d) := by
       rw [decide_eq_decide]
       have := dlen_zero_iff (n := FP.vM (fN f) c * 2 ^ 400 % FP.vM (fN f) d)
       omega
      have hRound := v_Round (f := u8 f) (m := u8 m) (af := b2i (iNz t)) (ng := b2i sg) (e := FP.vE (fN f) c - FP.vE (fN f) d - 400) (mo := b2i (decide (((dlenN (FP.vM (fN f) c * 2 ^ 400 % FP.vM (fN f) d) : Nat) : Int) > 0))) (Q := FP.vM (fN f) c * 2 ^ 400 / FP.vM (fN f) d) (r := R) (by rw [fN_u]; exact hf) (by rw [fN_u]; exact hm) (by omega) (sz_div hS) (by decide) (i64_id (by omega) (by omega)) (by omega) (by omega)
       (by rw [fN_u, fN_u, iNz_b2i, iNz_b2i, iNz_b2i, hmo]; exact hC) (by rw [fN_u]; exact hle)
      rw [fN_u, iNz_b2i] at hRound
      refine (treeF_call (r := [wd (FP.mk (fN f) sg R.1) 1, wd (FP.mk (fN f) sg R.1) 0, ((R.2 : Nat) : Int)]) ?_ (by rfl)).trans ?_
      ·simp only [nxs, ph_RL10_ref16_Round, ea, eb, eE, hsg2]
       exact hRound
      rw [treeF_leaf rfl]; simp only [nxs, hfl]
      obtain ⟨R1, R2⟩ := R
      rw [oR_eq]
theorem v_refDiv0 {f m t a1 a0 b1 b0 : Int} (h : ¬ (fN f < 4 ∧ u8 m ≤ 4)) : F_ref21_Div [f, m, t, a1, a0, b1, b0] = [0, 0, 0] := by
 rw [F_ref21_Div, t_ref21_Div]
 by_cases hf : fN f < 4
 ·refine tF (by simp only [nxs]; exact u8_gt3 hf) ?_
  refine tT (by simp only [nxs]; exact decide_eq_true (by have := fun h2 => h ⟨hf, h2⟩; omega)) ?_
  rw [treeF_leaf rfl]; rfl
 ·refine tT (by simp only [nxs]; exact u8_gt3' hf) ?_
  rw [treeF_leaf rfl]; rfl
end Go.Proofs.YtngiodcdelfdmaaGreatDoor
