import Derived.Test.YtngiodcdelfdmaaGreatDoorPR10R3
import Derived.Test.YtngiodcdelfdmaaGreatDoorP21R3
namespace Go.Proofs.YtngiodcdelfdmaaGreatDoor
set_option linter.unusedVariables false
set_option linter.unusedSimpArgs false
set_option maxRecDepth 100000
open Go.RowKit
theorem v_Far {f a1 a0 b1 b0 : Int} (hf : fN f < 4) : ∃ x : Bool, F_ref23_Far [f, a1, a0, b1, b0] = [b2i x] := by
 refine ⟨decide (i64 (i64 (FP.vE (fN f) (FP.cod (fN f) (nB a1 a0))) - i64 (FP.vE (fN f) (FP.cod (fN f) (nB b1 b0)))) > 600), ?_⟩
 rw [F_ref23_Far, t_ref23_Far]
 refine (treeF_call (r := [b2i (FP.sgn (fN f) (nB a1 a0)), ((FP.vM (fN f) (FP.cod (fN f) (nB a1 a0)) : Nat) : Int), FP.vE (fN f) (FP.cod (fN f) (nB a1 a0))]) (by simp only [nxs, ph_RL8_ref09_Of]; exact (v_Of9 (by rw [fN_u]; exact hf)).trans (by rw [fN_u, nB_u])) (by rfl)).trans ?_
 refine (treeF_call (r := [b2i (FP.sgn (fN f) (nB b1 b0)), ((FP.vM (fN f) (FP.cod (fN f) (nB b1 b0)) : Nat) : Int), FP.vE (fN f) (FP.cod (fN f) (nB b1 b0))]) (by simp only [nxs, ph_RL8_ref09_Of]; exact (v_Of9 (by rw [fN_u]; exact hf)).trans (by rw [fN_u, nB_u])) (by rfl)).trans ?_
 rw [treeF_leaf rfl]; simp only [nxs]
theorem v_refRem {f a1 a0 b1 b0 : Int} (hf : fN f < 4) : F_ref23_Rem [f, a1, a0, b1, b0] = oR (remR (fN f) (nB a1 a0) (nB b1 b0)) := by
 rw [F_ref23_Rem, t_ref23_Rem]
 refine tF (by simp only [nxs]; exact u8_gt3 hf) ?_
 refine (treeF_call (r := [((clsF (fN f) (nB a1 a0) : Nat) : Int), b2i (FP.sgn (fN f) (nB a1 a0))]) (by simp only [nxs, ph_RL10_ref08_Of]; exact (v_clsOf _ _ _).trans (by rw [fN_u, nB_u, sgnF_id hf])) (by rfl)).trans ?_
 refine (treeF_call (r := [((clsF (fN f) (nB b1 b0) : Nat) : Int), b2i (FP.sgn (fN f) (nB b1 b0))]) (by simp only [nxs, ph_RL10_ref08_Of]; exact (v_clsOf _ _ _).trans (by rw [fN_u, nB_u, sgnF_id hf])) (by rfl)).trans ?_
 have ua := clsF_u8 (fN f) (nB a1 a0)
 have ub := clsF_u8 (fN f) (nB b1 b0)
 have hrem : remR (fN f) (nB a1 a0) (nB b1 b0) = if 4 ≤ clsF (fN f) (nB a1 a0) then (quN (fN f) (nB a1 a0), nanFlag (fN f) (nB a1 a0) (nB b1 b0)) else if 4 ≤ clsF (fN f) (nB b1 b0) then (quN (fN f) (nB b1 b0), nanFlag (fN f) (nB a1 a0) (nB b1 b0)) else if badR (clsF (fN f) (nB a1 a0)) (clsF (fN f) (nB b1 b0)) = true then (dfl (fN f), 1) else if clsF (fN f) (nB a1 a0) = 0 ∨ clsF (fN f) (nB b1 b0) = 3 then (FP.mk (fN f) (FP.sgn (fN f) (nB a1 a0)) (FP.cod (fN f) (nB a1 a0)), 0) else (FP.mk (fN f) (FP.sgn (fN f) (nB a1 a0) != (FP.remT (FP.val (fN f) (FP.cod (fN f) (nB a1 a0))) (FP.val (fN f) (FP.cod (fN f) (nB b1 b0))) && !decide (FP.remV (FP.val (fN f) (FP.cod (fN f) (nB a1 a0))) (FP.val (fN f) (FP.cod (fN f) (nB b1 b0))) = 0))) (FP.remC (fN f) (FP.cod (fN f) (nB a1 a0)) (FP.cod (fN f) (nB b1 b0))), 0) := rfl
 have leaf : ∀ {J : Bool} {x y : Nat × Nat}, (4 ≤ clsF (fN f) (nB a1 a0) ∨ 4 ≤ clsF (fN f) (nB b1 b0)) → J = false → pkO2 (fN f) J (nB a1 a0) (nB b1 b0) = true → oR (if 4 ≤ clsF (fN f) (nB a1 a0) then (quN (fN f) (nB a1 a0), nanFlag (fN f) (nB a1 a0) (nB b1 b0)) else if 4 ≤ clsF (fN f) (nB b1 b0) then (quN (fN f) (nB b1 b0), nanFlag (fN f) (nB a1 a0) (nB b1 b0)) else x) = [wd (pkB2 (fN f) J (nB a1 a0) (nB b1 b0)) 1, wd (pkB2 (fN f) J (nB a1 a0) (nB b1 b0)) 0, ((pkF2 (fN f) J (nB a1 a0) (nB b1 b0) : Nat) : Int)] := fun {J x y} h hJ hO => by
  have h2 := pick_gen (X := x) (fun _ => hJ) hO
  rw [hJ] at h2 ⊢
  rw [if_neg Bool.false_ne_true] at h2
  rw [h2, oR_eq]
 have dleaf : ∀ {x : Nat × Nat}, ¬ 4 ≤ clsF (fN f) (nB a1 a0) → ¬ 4 ≤ clsF (fN f) (nB b1 b0) → oR (dfl (fN f), 1) = [wd (pkB2 (fN f) true (nB a1 a0) (nB b1 b0)) 1, wd (pkB2 (fN f) true (nB a1 a0) (nB b1 b0)) 0, ((pkF2 (fN f) true (nB a1 a0) (nB b1 b0) : Nat) : Int)] := fun {x} na nb => by
  unfold pkB2 pkF2
  rw [if_neg na, if_neg nb, if_pos rfl, if_neg (by omega), if_pos rfl, oR_eq]
 by_cases na : 4 ≤ clsF (fN f) (nB a1 a0)
 ·refine tT (by simp only [nxs, ua]; exact decide_eq_true (by omega)) ?_
  have hO : pkO2 (fN f) false (nB a1 a0) (nB b1 b0) = true := by unfold pkO2; rw [decide_eq_true na]; rfl
  refine (treeF_call (r := [wd (pkB2 (fN f) false (nB a1 a0) (nB b1 b0)) 1, wd (pkB2 (fN f) false (nB a1 a0) (nB b1 b0)) 0, ((pkF2 (fN f) false (nB a1 a0) (nB b1 b0) : Nat) : Int), b2i (pkO2 (fN f) false (nB a1 a0) (nB b1 b0))]) (by simp only [nxs, ph_RL10_ref10_Pick_2]; exact (v_Pick_2 (i := 0) (by rw [fN_u]; exact hf)).trans (by rw [fN_u, nB_u, nB_u, show iNz 0 = false from rfl])) (by rfl)).trans ?_
  refine tT (by simp only [nxs]; exact hO) ?_
  rw [treeF_leaf rfl, hrem, leaf (y := (0, 0)) (.inl na) rfl hO]; simp only [nxs, u8_pkF2]
 ·refine tF (by simp only [nxs, ua]; exact decide_eq_false (by omega)) ?_
  by_cases nb : 4 ≤ clsF (fN f) (nB b1 b0)
  ·refine tF (by simp only [nxs, ub]; rw [decide_eq_true (by omega)]; rfl) ?_
   have hO : pkO2 (fN f) false (nB a1 a0) (nB b1 b0) = true := by unfold pkO2; rw [decide_eq_true nb, Bool.true_or, Bool.or_true]
   refine (treeF_call (r := [wd (pkB2 (fN f) false (nB a1 a0) (nB b1 b0)) 1, wd (pkB2 (fN f) false (nB a1 a0) (nB b1 b0)) 0, ((pkF2 (fN f) false (nB a1 a0) (nB b1 b0) : Nat) : Int), b2i (pkO2 (fN f) false (nB a1 a0) (nB b1 b0))]) (by simp only [nxs, ph_RL10_ref10_Pick_2]; exact (v_Pick_2 (i := 0) (by rw [fN_u]; exact hf)).trans (by rw [fN_u, nB_u, nB_u, show iNz 0 = false from rfl])) (by rfl)).trans ?_
   refine tT (by simp only [nxs]; exact hO) ?_
   rw [treeF_leaf rfl, hrem, leaf (y := (0, 0)) (.inr nb) rfl hO]; simp only [nxs, u8_pkF2]
  ·refine tT (by simp only [nxs, ub]; rw [decide_eq_false (by omega)]; rfl) ?_
   have hOt : pkO2 (fN f) true (nB a1 a0) (nB b1 b0) = true := by unfold pkO2; rw [Bool.or_true, Bool.or_true]
   have hOf : pkO2 (fN f) false (nB a1 a0) (nB b1 b0) = false := by unfold pkO2; rw [decide_eq_false na, decide_eq_false nb]; rfl
   rw [hrem, if_neg na, if_neg nb]
   by_cases ia : clsF (fN f) (nB a1 a0) = 3
   ·refine tT (by simp only [nxs, ua, ia]; rfl) ?_
    refine (treeF_call (r := [wd (pkB2 (fN f) true (nB a1 a0) (nB b1 b0)) 1, wd (pkB2 (fN f) true (nB a1 a0) (nB b1 b0)) 0, ((pkF2 (fN f) true (nB a1 a0) (nB b1 b0) : Nat) : Int), b2i (pkO2 (fN f) true (nB a1 a0) (nB b1 b0))]) (by simp only [nxs, ph_RL10_ref10_Pick_2]; exact (v_Pick_2 (i := 1) (by rw [fN_u]; exact hf)).trans (by rw [fN_u, nB_u, nB_u, show iNz 1 = true from rfl])) (by rfl)).trans ?_
    refine tT (by simp only [nxs]; exact hOt) ?_
    rw [treeF_leaf rfl, if_pos (by unfold badR; rw [decide_eq_true ia, Bool.true_or]), dleaf (x := (0, 0)) na nb]; simp only [nxs, u8_pkF2]
   ·refine tF (by simp only [nxs, ua, beq_eq_false_iff_ne]; omega) ?_
    by_cases zb : clsF (fN f) (nB b1 b0) = 0
    ·refine (treeF_call (r := [wd (pkB2 (fN f) true (nB a1 a0) (nB b1 b0)) 1, wd (pkB2 (fN f) true (nB a1 a0) (nB b1 b0)) 0, ((pkF2 (fN f) true (nB a1 a0) (nB b1 b0) : Nat) : Int), b2i (pkO2 (fN f) true (nB a1 a0) (nB b1 b0))]) (by simp only [nxs, ph_RL10_ref10_Pick_2]; exact (v_Pick_2 (by rw [fN_u]; exact hf)).trans (by rw [fN_u, nB_u, nB_u, ub, zb]; rfl)) (by rfl)).trans ?_
     refine tT (by simp only [nxs]; exact hOt) ?_
     rw [treeF_leaf rfl, if_pos (by unfold badR; rw [decide_eq_true zb, Bool.or_true]), dleaf (x := (0, 0)) na nb]; simp only [nxs, u8_pkF2]
    ·have hq : iNz (b2i (((clsF (fN f) (nB b1 b0) : Nat) : Int) == 0)) = false := by rw [iNz_b2i, beq_eq_false_iff_ne]; omega
     refine (treeF_call (r := [wd (pkB2 (fN f) false (nB a1 a0) (nB b1 b0)) 1, wd (pkB2 (fN f) false (nB a1 a0) (nB b1 b0)) 0, ((pkF2 (fN f) false (nB a1 a0) (nB b1 b0) : Nat) : Int), b2i (pkO2 (fN f) false (nB a1 a0) (nB b1 b0))]) (by simp only [nxs, ph_RL10_ref10_Pick_2]; exact (v_Pick_2 (by rw [fN_u]; exact hf)).trans (by rw [fN_u, nB_u, nB_u, ub, hq])) (by rfl)).trans ?_
     refine tF (by simp only [nxs]; exact hOf) ?_
     rw [if_neg (by unfold badR; rw [decide_eq_false ia, decide_eq_false zb]; exact Bool.false_ne_true)]
     obtain ⟨ca, za', -⟩ := cls_fin hf (show clsF (fN f) (nB a1 a0) < 3 by omega)
     obtain ⟨ea, ea1, ea2⟩ := vE_i hf ca
     have Ma := vM_128 hf (FP.cod (fN f) (nB a1 a0))
     have hz := FP.vM_zero (fN f)
     by_cases ib : clsF (fN f) (nB b1 b0) = 3
     ·refine tT (by simp only [nxs, ub, ib]; rfl) ?_
      rw [if_pos (.inr ib)]
      have hval : F_ref23_value [u8 f, u64 a1, u64 a0] = [b2i (FP.sgn (fN f) (nB a1 a0)), ((FP.vM (fN f) (FP.cod (fN f) (nB a1 a0)) : Nat) : Int), FP.vE (fN f) (FP.cod (fN f) (nB a1 a0)), 0] := by
       rw [F_ref23_value, t_ref23_value]
       refine (treeFN_call (r := [b2i (FP.sgn (fN f) (nB a1 a0)), ((FP.vM (fN f) (FP.cod (fN f) (nB a1 a0)) : Nat) : Int), FP.vE (fN f) (FP.cod (fN f) (nB a1 a0))]) (by simp only [nxs, ph_RL8_ref09_Of]; exact (v_Of9 (by rw [fN_u]; exact hf)).trans (by rw [fN_u, nB_u])) (by rfl)).trans ?_
       rw [treeFN_leaf rfl]; simp only [nxs, ea]
      refine (treeF_call (r := [b2i (FP.sgn (fN f) (nB a1 a0)), ((FP.vM (fN f) (FP.cod (fN f) (nB a1 a0)) : Nat) : Int), FP.vE (fN f) (FP.cod (fN f) (nB a1 a0)), 0]) (by simp only [nxs, ph_RL10_ref23_value]; exact hval) (by rfl)).trans ?_
      have hRound : F_ref16_Round [u8 f, 0, 0, b2i (FP.sgn (fN f) (nB a1 a0)), ((FP.vM (fN f) (FP.cod (fN f) (nB a1 a0)) : Nat) : Int), FP.vE (fN f) (FP.cod (fN f) (nB a1 a0)), 0] = [wd (FP.mk (fN f) (FP.sgn (fN f) (nB a1 a0)) (FP.cod (fN f) (nB a1 a0))) 1, wd (FP.mk (fN f) (FP.sgn (fN f) (nB a1 a0)) (FP.cod (fN f) (nB a1 a0))) 0, 0] := by
       by_cases h0 : FP.cod (fN f) (nB a1 a0) = 0
       ·rw [h0, hz]
        exact (v_Round0 (by rw [fN_u]; exact hf) (by decide)).trans (by rw [fN_u, iNz_b2i])
       ·exact (v_Round (r := (FP.cod (fN f) (nB a1 a0), 0)) (by rw [fN_u]; exact hf) (by decide) (FP.vM_pos (by omega)) Ma (by decide) ea (by omega) (by omega) (by rw [fN_u, iNz_b2i]; exact (FP.ref_conv hf hf (by omega)).trans (FP.convC_fits hf ca rfl)) (by rw [fN_u]; exact Nat.le_of_lt ca)).trans (by rw [fN_u, iNz_b2i]; rfl)
      refine (treeF_call (r := [wd (FP.mk (fN f) (FP.sgn (fN f) (nB a1 a0)) (FP.cod (fN f) (nB a1 a0))) 1, wd (FP.mk (fN f) (FP.sgn (fN f) (nB a1 a0)) (FP.cod (fN f) (nB a1 a0))) 0, 0]) ?_ (by rfl)).trans ?_
      ·simp only [nxs, ph_RL10_ref16_Round, ea]
       exact hRound
      rw [treeF_leaf rfl, oR_eq]; (simp only [nxs]) <;> rfl
     ·refine tF (by simp only [nxs, ub, beq_eq_false_iff_ne]; omega) ?_
      obtain ⟨cb, zb', -⟩ := cls_fin hf (show clsF (fN f) (nB b1 b0) < 3 by omega)
      have pb : 0 < FP.cod (fN f) (nB b1 b0) := by omega
      refine (treeF_call (r := [b2i (FP.sgn (fN f) (nB a1 a0)), ((FP.vM (fN f) (FP.cod (fN f) (nB a1 a0)) : Nat) : Int), FP.vE (fN f) (FP.cod (fN f) (nB a1 a0))]) (by simp only [nxs, ph_RL10_ref09_Of]; exact (v_Of9 (by rw [fN_u]; exact hf)).trans (by rw [fN_u, nB_u])) (by rfl)).trans ?_
      refine (treeF_call (r := [b2i (FP.sgn (fN f) (nB b1 b0)), ((FP.vM (fN f) (FP.cod (fN f) (nB b1 b0)) : Nat) : Int), FP.vE (fN f) (FP.cod (fN f) (nB b1 b0))]) (by simp only [nxs, ph_RL10_ref09_Of]; exact (v_Of9 (by rw [fN_u]; exact hf)).trans (by rw [fN_u, nB_u])) (by rfl)).trans ?_
      obtain ⟨eb, eb1, eb2⟩ := vE_i hf cb
      have Mb := vM_128 hf (FP.cod (fN f) (nB b1 b0))
      have mb := FP.vM_pos (f := fN f) pb
      have hR := fun (M K : Nat) => FP.ref_rem (f := fN f) (m := 0) (c := FP.cod (fN f) (nB a1 a0)) (d := FP.cod (fN f) (nB b1 b0)) hf ca pb cb (M := M) (N := K)
      have hcle := (FP.remC_val hf ca pb cb).1
      have res : (if clsF (fN f) (nB a1 a0) = 0 ∨ clsF (fN f) (nB b1 b0) = 3 then (FP.mk (fN f) (FP.sgn (fN f) (nB a1 a0)) (FP.cod (fN f) (nB a1 a0)), 0) else (FP.mk (fN f) (FP.sgn (fN f) (nB a1 a0) != (FP.remT (FP.val (fN f) (FP.cod (fN f) (nB a1 a0))) (FP.val (fN f) (FP.cod (fN f) (nB b1 b0))) && !decide (FP.remV (FP.val (fN f) (FP.cod (fN f) (nB a1 a0))) (FP.val (fN f) (FP.cod (fN f) (nB b1 b0))) = 0))) (FP.remC (fN f) (FP.cod (fN f) (nB a1 a0)) (FP.cod (fN f) (nB b1 b0))), 0)) = (FP.mk (fN f) (FP.sgn (fN f) (nB a1 a0) != (FP.remT (FP.val (fN f) (FP.cod (fN f) (nB a1 a0))) (FP.val (fN f) (FP.cod (fN f) (nB b1 b0))) && !decide (FP.remV (FP.val (fN f) (FP.cod (fN f) (nB a1 a0))) (FP.val (fN f) (FP.cod (fN f) (nB b1 b0))) = 0))) (FP.remC (fN f) (FP.cod (fN f) (nB a1 a0)) (FP.cod (fN f) (nB b1 b0))), (0 : Nat)) := by
       by_cases h0 : clsF (fN f) (nB a1 a0) = 0
       ·have c0 := za'.1 h0
        have e0 : FP.val (fN f) 0 = 0 := FP.cval_zero _
        have v0 : FP.remV 0 (FP.val (fN f) (FP.cod (fN f) (nB b1 b0))) = 0 := by
         have hp := FP.cval_pos (FP.fP_ge hf) pb
         exact (FP.rem_small (A := 0) (B := FP.val (fN f) (FP.cod (fN f) (nB b1 b0))) (by show 2 * 0 < FP.cval _ _; omega)).2
        have r0 : FP.remC (fN f) 0 (FP.cod (fN f) (nB b1 b0)) = 0 := by unfold FP.remC; rw [e0, v0, FP.roundC_zero]
        rw [if_pos (.inl h0), c0, e0, v0, r0, decide_eq_true rfl, show (!true) = false from rfl, Bool.and_false, bne_false']
       ·rw [if_neg (by omega)]
      rw [res]
      generalize FP.sgn (fN f) (nB a1 a0) = s at *
      generalize FP.cod (fN f) (nB a1 a0) = c at *
      generalize FP.cod (fN f) (nB b1 b0) = d at *
      obtain ⟨x, hx⟩ : ∃ x : Nat, FP.vE (fN f) c - min (FP.vE (fN f) c) (FP.vE (fN f) d) = (x : Int) := ⟨(FP.vE (fN f) c - min (FP.vE (fN f) c) (FP.vE (fN f) d)).toNat, by omega⟩
      obtain ⟨y, hy⟩ : ∃ y : Nat, FP.vE (fN f) d - min (FP.vE (fN f) c) (FP.vE (fN f) d) = (y : Int) := ⟨(FP.vE (fN f) d - min (FP.vE (fN f) c) (FP.vE (fN f) d)).toNat, by omega⟩
      have hR := hR (FP.vM (fN f) c * 2 ^ x) (FP.vM (fN f) d * 2 ^ y) (by rw [hx]; rfl) (by rw [hy]; rfl)
      have hA : FP.vM (fN f) c * 2 ^ x < 2 ^ (128 + x) := sz_shl Ma
      have hB : FP.vM (fN f) d * 2 ^ y < 2 ^ (128 + y) := sz_shl Mb
      have hB0 : 0 < FP.vM (fN f) d * 2 ^ y := Nat.mul_pos mb (FP.two_pow_pos y)
      have hmin : i64 (min (FP.vE (fN f) c) (FP.vE (fN f) d)) = min (FP.vE (fN f) c) (FP.vE (fN f) d) := i64_id (by omega) (by omega)
      refine (treeF_call (r := [((FP.vM (fN f) c * 2 ^ x : Nat) : Int)]) (by simp only [nxs, ph_RL10_ref01_Shl]; exact v_Shl Ma (by decide) (by rw [ea, eb, hx, i64_i64]; exact i64_nat (by omega)) (by omega)) (by rfl)).trans ?_
      refine (treeF_call (r := [((FP.vM (fN f) d * 2 ^ y : Nat) : Int)]) (by simp only [nxs, ph_RL10_ref01_Shl]; exact v_Shl Mb (by decide) (by rw [ea, eb, hy, i64_i64]; exact i64_nat (by omega)) (by omega)) (by rfl)).trans ?_
      generalize FP.vM (fN f) c * 2 ^ x = X at *
      generalize FP.vM (fN f) d * 2 ^ y = Y at *
      obtain ⟨h1, h2, h3⟩ := hR
      have hv : FP.remV (FP.val (fN f) c) (FP.val (fN f) d) = 0 ↔ FP.remV X Y = 0 := by
       obtain ⟨_, k2, _⟩ := FP.remC_val hf ca pb cb
       constructor
       ·intro h0
        apply Nat.eq_zero_of_not_pos; intro hp
        have e1 := h3 hp false false (by decide)
        have e2 := congrArg Prod.fst e1
        rw [h0] at k2
        have hc0 : FP.remC (fN f) c d = 0 := by
         apply Nat.eq_zero_of_not_pos; intro hq
         have := FP.cval_pos (FP.fP_ge hf) hq
         unfold FP.val at k2; omega
        have e3 := FP.refX_false (FP.fP (fN f)) (FP.fE (fN f)) 0 false false (FP.remV X Y) (min (FP.vE (fN f) c) (FP.vE (fN f) d))
        rw [e3, FP.refR_eq (FP.fP_ge hf) (FP.fE_ge hf) hp] at e1
        have e4 := FP.roundC_flags (FP.fP_ge hf) (FP.two_pow_pos _) (congrArg Prod.snd e1)
        obtain ⟨cc, q1, q2⟩ := e4
        have e5 := FP.roundC_exact (m := 0) (after := false) (neg := false) (FP.fP_ge hf) (FP.two_pow_pos _) q1 q2
        rw [e5] at e1
        have e6 : cc = FP.remC (fN f) c d := congrArg Prod.fst e1
        rw [e6, hc0, FP.cval_zero, Nat.zero_mul] at q2
        have := Nat.mul_pos hp (FP.two_pow_pos (min (FP.vE (fN f) c) (FP.vE (fN f) d) - (2 - FP.fE (fN f) - FP.fP (fN f))).toNat)
        omega
       ·intro h0
        rw [h2 h0] at k2
        rw [← k2]; exact FP.cval_zero _
      obtain ⟨rc, hrc⟩ : ∃ r, FP.remC (fN f) c d = r := ⟨_, rfl⟩
      have hround : ∀ ng : Bool, ng = (s != FP.remT X Y) → F_ref16_Round [u8 f, 0, 0, b2i ng, ((FP.remV X Y : Nat) : Int), min (FP.vE (fN f) c) (FP.vE (fN f) d), 0] = [wd (FP.mk (fN f) (s != (FP.remT (FP.val (fN f) c) (FP.val (fN f) d) && !decide (FP.remV (FP.val (fN f) c) (FP.val (fN f) d) = 0))) rc) 1, wd (FP.mk (fN f) (s != (FP.remT (FP.val (fN f) c) (FP.val (fN f) d) && !decide (FP.remV (FP.val (fN f) c) (FP.val (fN f) d) = 0))) rc) 0, 0] := by
       intro ng hng
       by_cases h0 : FP.remV X Y = 0
       ·have ht : FP.remT X Y = false := by
         cases hT : FP.remT X Y with
         | false => rfl
         | true =>
          unfold FP.remV at h0; rw [if_pos hT] at h0
          have := Nat.mod_lt X hB0; omega
        rw [h0, hng, ht, decide_eq_true (hv.2 h0), show (!true) = false from rfl, Bool.and_false, bne_false', ← hrc, h2 h0]
        exact (v_Round0 (by rw [fN_u]; exact hf) (by decide)).trans (by rw [fN_u, iNz_b2i])
       ·have hp : 0 < FP.remV X Y := Nat.pos_of_ne_zero h0
        have hVl : FP.remV X Y < 2 ^ (128 + y) := by
         have := FP.remV_half (A := X) hB0; omega
        rw [← h1, decide_eq_false (fun h => h0 (hv.1 h)), show (!false) = true from rfl, Bool.and_true, ← hng, ← hrc]
        exact (v_Round (r := (FP.remC (fN f) c d, 0)) (by rw [fN_u]; exact hf) (by decide) hp hVl (by omega) hmin (by omega) (by omega) (by rw [fN_u]; exact h3 hp _ _ (by decide)) (by rw [fN_u]; exact Nat.le_of_lt hcle)).trans (by rw [fN_u, iNz_b2i]; rfl)
      rw [hrc]
      refine (treeF_call (r := [((X / Y : Nat) : Int), ((X % Y : Nat) : Int)]) (by simp only [nxs, ph_RL10_ref01_Div]; exact v_Div hA hB (by omega) (by omega) hB0) (by rfl)).trans ?_
      have hrl := Nat.mod_lt X hB0
      have hrs : X % Y < 2 ^ (128 + y) := Nat.lt_trans hrl hB
      have hVdef : FP.remV X Y = if FP.remT X Y = true then Y - X % Y else X % Y := rfl
      have hTdef : FP.remT X Y = (decide (Y < 2 * (X % Y)) || (decide (2 * (X % Y) = Y) && decide (X / Y % 2 = 1))) := rfl
      have hqs : X / Y < 2 ^ (128 + x) := sz_div hA
      have ho := bit0 (X / Y)
      generalize X / Y = Q at *
      generalize X % Y = r at *
      refine (treeF_call (r := [((r * 2 ^ 1 : Nat) : Int)]) (by simp only [nxs, ph_RL10_ref01_Shl]; exact v_Shl hrs (by omega) (by rfl) (by decide)) (by rfl)).trans ?_
      have hr2 : r * 2 ^ 1 < 2 ^ (128 + y + 1) := sz_shl hrs
      refine (treeF_call (r := [cmpI (r * 2 ^ 1) Y]) (by simp only [nxs, ph_RL10_ref01_Cmp]; exact v_Cmp hr2 hB (by omega) (by omega)) (by rfl)).trans ?_
      by_cases hgt : Y < 2 * r
      ·have hT : FP.remT X Y = true := by rw [hTdef, decide_eq_true hgt, Bool.true_or]
       refine tT (by simp only [nxs, i64_cmp]; exact decide_eq_true (by rw [cmpI_gt (by omega)]; decide)) ?_
       refine (treeF_call (r := [((Y - r : Nat) : Int)]) (by simp only [nxs, ph_RL10_ref01_Sub]; exact v_Sub hB (by omega) (by omega)) (by rfl)).trans ?_
       refine (treeF_call (r := [wd (FP.mk (fN f) (s != (FP.remT (FP.val (fN f) c) (FP.val (fN f) d) && !decide (FP.remV (FP.val (fN f) c) (FP.val (fN f) d) = 0))) rc) 1, wd (FP.mk (fN f) (s != (FP.remT (FP.val (fN f) c) (FP.val (fN f) d) && !decide (FP.remV (FP.val (fN f) c) (FP.val (fN f) d) = 0))) rc) 0, 0]) ?_ (by rfl)).trans ?_
       ·simp only [nxs, ph_RL10_ref16_Round, ea, eb, hmin]
        have h9 := hround (!s) (by rw [hT]; cases s <;> rfl)
        rw [hVdef, hT, if_pos rfl] at h9
        exact h9
       rw [treeF_leaf rfl, oR_eq]; (simp only [nxs]) <;> rfl
      ·refine tF (by simp only [nxs, i64_cmp]; exact decide_eq_false (by unfold cmpI; split <;> (try split) <;> omega)) ?_
       by_cases heq : 2 * r = Y
       ·refine tT (by simp only [nxs, i64_cmp, cmpI_zero]; exact decide_eq_true (by omega)) ?_
        refine (treeF_call (r := [b2i (FP.oddN Q)]) (by simp only [nxs, ph_RL10_ref01_Bit]; exact (v_Bit (k := 0) hqs (by omega) (by rfl) (by decide)).trans (by rw [ho])) (by rfl)).trans ?_
        by_cases hod : Q % 2 = 1
        ·have hT : FP.remT X Y = true := by rw [hTdef, decide_eq_true heq, decide_eq_true hod, Bool.and_true, Bool.or_true]
         refine tT (by simp only [nxs]; unfold FP.oddN; rw [hod]; rfl) ?_
         refine (treeF_call (r := [((Y - r : Nat) : Int)]) (by simp only [nxs, ph_RL10_ref01_Sub]; exact v_Sub hB (by omega) (by omega)) (by rfl)).trans ?_
         refine (treeF_call (r := [wd (FP.mk (fN f) (s != (FP.remT (FP.val (fN f) c) (FP.val (fN f) d) && !decide (FP.remV (FP.val (fN f) c) (FP.val (fN f) d) = 0))) rc) 1, wd (FP.mk (fN f) (s != (FP.remT (FP.val (fN f) c) (FP.val (fN f) d) && !decide (FP.remV (FP.val (fN f) c) (FP.val (fN f) d) = 0))) rc) 0, 0]) ?_ (by rfl)).trans ?_
         ·simp only [nxs, ph_RL10_ref16_Round, ea, eb, hmin]
          have h9 := hround (!s) (by rw [hT]; cases s <;> rfl)
          rw [hVdef, hT, if_pos rfl] at h9
          exact h9
         rw [treeF_leaf rfl, oR_eq]; (simp only [nxs]) <;> rfl
        ·have hT : FP.remT X Y = false := by rw [hTdef, decide_eq_false hgt, decide_eq_false hod, Bool.and_false]; rfl
         refine tF (by simp only [nxs]; unfold FP.oddN; rw [show Q % 2 = 0 by omega]; rfl) ?_
         refine (treeF_call (r := [wd (FP.mk (fN f) (s != (FP.remT (FP.val (fN f) c) (FP.val (fN f) d) && !decide (FP.remV (FP.val (fN f) c) (FP.val (fN f) d) = 0))) rc) 1, wd (FP.mk (fN f) (s != (FP.remT (FP.val (fN f) c) (FP.val (fN f) d) && !decide (FP.remV (FP.val (fN f) c) (FP.val (fN f) d) = 0))) rc) 0, 0]) ?_ (by rfl)).trans ?_
         ·simp only [nxs, ph_RL10_ref16_Round, ea, eb, hmin]
          have h9 := hround s (by rw [hT]; cases s <;> rfl)
          rw [hVdef, hT, if_neg Bool.false_ne_true] at h9
          exact h9
         rw [treeF_leaf rfl, oR_eq]; (simp only [nxs]) <;> rfl
       ·have hT : FP.remT X Y = false := by rw [hTdef, decide_eq_false hgt, decide_eq_false heq, Bool.false_and]; rfl
        refine tF (by simp only [nxs, i64_cmp, cmpI_zero]; exact decide_eq_false (by omega)) ?_
        refine (treeF_call (r := [wd (FP.mk (fN f) (s != (FP.remT (FP.val (fN f) c) (FP.val (fN f) d) && !decide (FP.remV (FP.val (fN f) c) (FP.val (fN f) d) = 0))) rc) 1, wd (FP.mk (fN f) (s != (FP.remT (FP.val (fN f) c) (FP.val (fN f) d) && !decide (FP.remV (FP.val (fN f) c) (FP.val (fN f) d) = 0))) rc) 0, 0]) ?_ (by rfl)).trans ?_
        ·simp only [nxs, ph_RL10_ref16_Round, ea, eb, hmin]
         have h9 := hround s (by rw [hT]; cases s <;> rfl)
         rw [hVdef, hT, if_neg Bool.false_ne_true] at h9
         exact h9
        rw [treeF_leaf rfl, oR_eq]; (simp only [nxs]) <;> rfl
theorem v_refRem0 {f a1 a0 b1 b0 : Int} (h : ¬ fN f < 4) : F_ref23_Rem [f, a1, a0, b1, b0] = [0, 0, 0] := by
 rw [F_ref23_Rem, t_ref23_Rem]
 refine tT (by simp only [nxs]; exact u8_gt3' h) ?_
 rw [treeF_leaf rfl]; rfl
end Go.Proofs.YtngiodcdelfdmaaGreatDoor
