import Derived.Test.YtngiodcdelfdmaaGreatDoorPR10R6
namespace Go.Proofs.YtngiodcdelfdmaaGreatDoor
set_option linter.unusedVariables false
set_option exponentiation.threshold 500
set_option linter.unusedSimpArgs false
set_option maxRecDepth 100000
open Go.RowKit
theorem u8_pkF1 (f : Nat) (j : Bool) (a : Nat) : u8 ((pkF1 f j a : Nat) : Int) = ((pkF1 f j a : Nat) : Int) := by have := pkF1_le f j a; exact u8_id (by omega) (by omega)
theorem cmpI_lt0 (a b : Nat) : decide (cmpI a b < 0) = decide (a < b) := by
 rw [decide_eq_decide]; unfold cmpI; split
 ·omega
 ·split <;> omega
theorem v_refSqrt {f m t a1 a0 : Int} (hf : fN f < 4) (hm : fN m ≤ 4) : F_ref22_Sqrt [f, m, t, a1, a0] = oR (sqrtR (fN f) (fN m) (iNz t) (nB a1 a0)) := by
 rw [F_ref22_Sqrt, t_ref22_Sqrt]
 refine tF (by simp only [nxs]; exact u8_gt3 hf) ?_
 refine tF (by simp only [nxs]; exact u8_gt4 hm) ?_
 refine (treeF_call (r := [((clsF (fN f) (nB a1 a0) : Nat) : Int), b2i (FP.sgn (fN f) (nB a1 a0))]) (by simp only [nxs, ph_RL10_ref08_Of]; exact (v_clsOf _ _ _).trans (by rw [fN_u, nB_u, sgnF_id hf])) (by rfl)).trans ?_
 have ua := clsF_u8 (fN f) (nB a1 a0)
 have hle0 : ∀ k, makeN (fN f) k 0 0 = FP.mk (fN f) k 0 := fun k => make_low hf (by have := FP.fP_ge hf; show 0 < _; omega)
 unfold sqrtR
 have hfree : pkO1 (fN f) false (nB a1 a0) = decide (4 ≤ clsF (fN f) (nB a1 a0)) := by unfold pkO1; rw [Bool.or_false]
 have hpkB : 4 ≤ clsF (fN f) (nB a1 a0) → ∀ j, pkB1 (fN f) j (nB a1 a0) = quN (fN f) (nB a1 a0) := fun h j => by unfold pkB1; rw [if_pos h]
 have hpkF : 4 ≤ clsF (fN f) (nB a1 a0) → pkF1 (fN f) false (nB a1 a0) = if clsF (fN f) (nB a1 a0) = 5 then 1 else 0 := fun h => by unfold pkF1; rw [if_pos h]; simp only [Bool.false_eq_true, false_or]
 cases hs : FP.sgn (fN f) (nB a1 a0) with
 | true =>
  refine tT (by simp only [nxs]) ?_
  by_cases za : clsF (fN f) (nB a1 a0) = 0
  ·refine tF (by simp only [nxs, ua, za]; rfl) ?_
   refine (treeF_call (r := [wd (pkB1 (fN f) false (nB a1 a0)) 1, wd (pkB1 (fN f) false (nB a1 a0)) 0, ((pkF1 (fN f) false (nB a1 a0) : Nat) : Int), b2i (pkO1 (fN f) false (nB a1 a0))]) (by simp only [nxs, ph_RL10_ref10_Pick_1]; exact (v_Pick_1 (i := 0) (by rw [fN_u]; exact hf)).trans (by rw [fN_u, nB_u, show iNz 0 = false from rfl])) (by rfl)).trans ?_
   refine tF (by simp only [nxs, hfree]; exact decide_eq_false (by omega)) ?_
   refine (treeF_call (r := [wd (FP.mk (fN f) true 0) 1, wd (FP.mk (fN f) true 0) 0]) (by simp only [nxs, ph_RL10_ref07_Make]; exact (v_MakeX (x := 0) (j := 1) (E := 0) (s := true) (fN_u f) hf (by rw [iNz_b2i]) (by rfl) (by rfl) (by decide) (by decide)).trans (by rw [hle0])) (by rfl)).trans ?_
   rw [treeF_leaf rfl, if_neg (by omega), if_neg (fun h => h.2 za), if_pos za, oR_eq]; (simp only [nxs]) <;> rfl
  ·refine tT (by simp only [nxs, ua, bne_iff_ne]; omega) ?_
   by_cases hn : 4 ≤ clsF (fN f) (nB a1 a0)
   ·refine (treeF_call (r := [wd (pkB1 (fN f) false (nB a1 a0)) 1, wd (pkB1 (fN f) false (nB a1 a0)) 0, ((pkF1 (fN f) false (nB a1 a0) : Nat) : Int), b2i (pkO1 (fN f) false (nB a1 a0))]) (by simp only [nxs, ph_RL10_ref10_Pick_1]; exact (v_Pick_1 (by rw [fN_u]; exact hf)).trans (by rw [fN_u, nB_u, ua, iNz_b2i, decide_eq_false (by omega)])) (by rfl)).trans ?_
    refine tT (by simp only [nxs, hfree]; exact decide_eq_true hn) ?_
    rw [treeF_leaf rfl, if_pos hn, oR_eq, ← hpkF hn]; simp only [nxs, u8_pkF1, hpkB hn]
   ·refine (treeF_call (r := [wd (pkB1 (fN f) true (nB a1 a0)) 1, wd (pkB1 (fN f) true (nB a1 a0)) 0, ((pkF1 (fN f) true (nB a1 a0) : Nat) : Int), b2i (pkO1 (fN f) true (nB a1 a0))]) (by simp only [nxs, ph_RL10_ref10_Pick_1]; exact (v_Pick_1 (by rw [fN_u]; exact hf)).trans (by rw [fN_u, nB_u, ua, iNz_b2i, decide_eq_true (by omega)])) (by rfl)).trans ?_
    refine tT (by simp only [nxs]; unfold pkO1; rw [Bool.or_true]) ?_
    have k1 : pkB1 (fN f) true (nB a1 a0) = dfl (fN f) := by unfold pkB1; rw [if_neg hn, if_pos rfl]
    have k2 : pkF1 (fN f) true (nB a1 a0) = 1 := by unfold pkF1; rw [if_neg hn, if_pos rfl]
    rw [treeF_leaf rfl, if_neg hn, if_pos ⟨rfl, za⟩, oR_eq, k1, k2]; (simp only [nxs]) <;> rfl
 | false =>
  refine tF (by simp only [nxs]) ?_
  refine (treeF_call (r := [wd (pkB1 (fN f) false (nB a1 a0)) 1, wd (pkB1 (fN f) false (nB a1 a0)) 0, ((pkF1 (fN f) false (nB a1 a0) : Nat) : Int), b2i (pkO1 (fN f) false (nB a1 a0))]) (by simp only [nxs, ph_RL10_ref10_Pick_1]; exact (v_Pick_1 (i := 0) (by rw [fN_u]; exact hf)).trans (by rw [fN_u, nB_u, show iNz 0 = false from rfl])) (by rfl)).trans ?_
  by_cases hn : 4 ≤ clsF (fN f) (nB a1 a0)
  ·refine tT (by simp only [nxs, hfree]; exact decide_eq_true hn) ?_
   rw [treeF_leaf rfl, if_pos hn, oR_eq, ← hpkF hn]; simp only [nxs, u8_pkF1, hpkB hn]
  ·refine tF (by simp only [nxs, hfree]; exact decide_eq_false hn) ?_
   rw [if_neg hn, if_neg (fun h => by cases h.1)]
   by_cases za : clsF (fN f) (nB a1 a0) = 0
   ·refine tT (by simp only [nxs, ua, za]; rfl) ?_
    refine (treeF_call (r := [wd (FP.mk (fN f) false 0) 1, wd (FP.mk (fN f) false 0) 0]) (by simp only [nxs, ph_RL10_ref07_Make]; exact (v_MakeX (x := 0) (j := 1) (E := 0) (s := false) (fN_u f) hf (by rw [iNz_b2i]) (by rfl) (by rfl) (by decide) (by decide)).trans (by rw [hle0])) (by rfl)).trans ?_
    rw [treeF_leaf rfl, if_pos za, oR_eq]; (simp only [nxs]) <;> rfl
   ·refine tF (by simp only [nxs, ua, beq_eq_false_iff_ne]; omega) ?_
    rw [if_neg za]
    by_cases ia : clsF (fN f) (nB a1 a0) = 3
    ·refine tT (by simp only [nxs, ua, ia]; rfl) ?_
     refine (treeF_call (r := [wd (FP.mk (fN f) false (FP.inf (fN f))) 1, wd (FP.mk (fN f) false (FP.inf (fN f))) 0]) (by simp only [nxs, ph_RL10_ref07_Inf]; exact (v_Inf (n := 0) (by rw [fN_u]; exact hf)).trans (by rw [fN_u, oB_eq]; rfl)) (by rfl)).trans ?_
     rw [treeF_leaf rfl, if_pos ia, oR_eq]; (simp only [nxs]) <;> rfl
    ·refine tF (by simp only [nxs, ua, beq_eq_false_iff_ne]; omega) ?_
     rw [if_neg ia]
     obtain ⟨ca, za', -⟩ := cls_fin hf (show clsF (fN f) (nB a1 a0) < 3 by omega)
     have pa : 0 < FP.cod (fN f) (nB a1 a0) := by omega
     refine (treeF_call (r := [b2i (FP.sgn (fN f) (nB a1 a0)), ((FP.vM (fN f) (FP.cod (fN f) (nB a1 a0)) : Nat) : Int), FP.vE (fN f) (FP.cod (fN f) (nB a1 a0))]) (by simp only [nxs, ph_RL10_ref09_Of]; exact (v_Of9 (by rw [fN_u]; exact hf)).trans (by rw [fN_u, nB_u])) (by rfl)).trans ?_
     obtain ⟨ea, ea1, ea2⟩ := vE_i hf ca
     have Ma := vM_128 hf (FP.cod (fN f) (nB a1 a0))
     have hle : (FP.sqrtC (fN f) (fN m) (iNz t) (FP.cod (fN f) (nB a1 a0))).1 ≤ FP.inf (fN f) := by rw [FP.sqrtC_eq]; exact FP.roundC_le _ _ _ _ _ _ _
     have hfl : u8 (((FP.sqrtC (fN f) (fN m) (iNz t) (FP.cod (fN f) (nB a1 a0))).2 : Nat) : Int) = (((FP.sqrtC (fN f) (fN m) (iNz t) (FP.cod (fN f) (nB a1 a0))).2 : Nat) : Int) := by rw [FP.sqrtC_eq]; exact roundC_flag8 _ _ _ _ _ _ _
     have mp := FP.vM_pos (f := fN f) pa
     have hC := fun (far : Nat) (e : Int) (q : Nat) => FP.ref_sqrt (f := fN f) (m := fN m) (after := iNz t) (c := FP.cod (fN f) (nB a1 a0)) (q := q) (far := far) (e := e) hf pa ca
     generalize FP.cod (fN f) (nB a1 a0) = c at *
     generalize FP.vE (fN f) c = E at *
     generalize FP.vM (fN f) c = M at *
     obtain ⟨R, hR⟩ : ∃ R, FP.sqrtC (fN f) (fN m) (iNz t) c = R := ⟨_, rfl⟩
     rw [hR] at hC hle hfl ⊢
     have e300 : i64 (E - 300) = E - 300 := i64_id (by omega) (by omega)
     have e301 : i64 (E - 301) = E - 301 := i64_id (by omega) (by omega)
     have rem : iOp .rem .i64 (E - 300) 2 = (E - 300).tmod 2 := rfl
     have quo : ∀ x : Int, iOp .quo .i64 x 2 = i64 (x.tdiv 2) := fun x => w64_i _
     have hrm : ((E - 300).tmod 2 ≠ 0) ↔ (E - 300) % 2 ≠ 0 := by
      have h1 := tmod2 (E - 300)
      constructor
      ·intro h2; rw [bne_iff_ne.2 h2] at h1; exact of_decide_eq_true h1.symm
      ·intro h2; rw [decide_eq_true h2] at h1; exact bne_iff_ne.1 h1
     by_cases hodd : (E - 300).tmod 2 ≠ 0
     ·refine tT (by simp only [nxs, ea, e300, rem, bne_iff_ne]; exact hodd) ?_
      have hod := hrm.1 hodd
      have hS : M * 2 ^ 301 < 2 ^ (128 + 301) := sz_shl Ma
      refine (treeF_call (r := [((M * 2 ^ 301 : Nat) : Int)]) (by simp only [nxs, ph_RL10_ref01_Shl]; exact v_Shl Ma (by decide) (by rfl) (by decide)) (by rfl)).trans ?_
      refine (treeF_call (r := [((rootX (M * 2 ^ 301) : Nat) : Int)]) (by simp only [nxs, ph_RL10_ref01_Root]; exact v_Root hS (by decide)) (by rfl)).trans ?_
      obtain ⟨q1, q2⟩ := rootX_spec (M * 2 ^ 301)
      have hq0 : 0 < rootX (M * 2 ^ 301) := by
       apply Nat.pos_of_ne_zero; intro h0
       rw [h0] at q2
       have := Nat.mul_le_mul mp (FP.two_pow_pos 301)
       have h9 : 2 ^ 1 ≤ 2 ^ 301 := Nat.pow_le_pow_right (by decide) (by decide)
       have h8 : 2 ^ 301 ≤ M * 2 ^ 301 := Nat.le_mul_of_pos_left _ mp
       omega
      obtain ⟨q, hq⟩ : ∃ q, rootX (M * 2 ^ 301) = q := ⟨_, rfl⟩
      rw [hq] at q1 q2 hq0 ⊢
      have hqs : q < 2 ^ (128 + 301) := Nat.lt_of_le_of_lt (Nat.le_trans (Nat.le_mul_of_pos_right q hq0) q1) hS
      refine (treeF_call (r := [((q * q : Nat) : Int)]) (by simp only [nxs, ph_RL10_ref01_Mul]; exact v_Mul hqs hqs (by decide) (by decide)) (by rfl)).trans ?_
      refine (treeF_call (r := [cmpI (q * q) (M * 2 ^ 301)]) (by simp only [nxs, ph_RL10_ref01_Cmp]; exact v_Cmp (sz_mul hqs hqs) hS (by decide) (by decide)) (by rfl)).trans ?_
      obtain ⟨e, he⟩ : ∃ e : Int, E - 301 = 2 * e := ⟨(E - 301) / 2, by omega⟩
      have htd : (E - 301).tdiv 2 = e := by rw [he, Int.mul_comm]; exact Int.mul_tdiv_cancel e (by decide)
      have hR2 := hC 301 e q (by decide) (by decide) (by omega) q1 q2
      have hRound := v_Round (f := u8 f) (m := u8 m) (af := b2i (iNz t)) (ng := 0) (e := e) (mo := b2i (decide (q * q < M * 2 ^ 301))) (Q := q) (r := R) (by rw [fN_u]; exact hf) (by rw [fN_u]; exact hm) hq0 hqs (by decide) (i64_id (by omega) (by omega)) (by omega) (by omega) (by rw [fN_u, fN_u, iNz_b2i, iNz_b2i, show iNz 0 = false from rfl]; exact hR2) (by rw [fN_u]; exact hle)
      rw [fN_u, show iNz 0 = false from rfl] at hRound
      have eQ : i64 e = e := i64_id (by omega) (by omega)
      refine (treeF_call (r := [wd (FP.mk (fN f) false R.1) 1, wd (FP.mk (fN f) false R.1) 0, ((R.2 : Nat) : Int)]) ?_ (by rfl)).trans ?_
      ·simp only [nxs, ph_RL10_ref16_Round, ea, e300, e301, quo, htd, eQ, i64_cmp, cmpI_lt0]
       exact hRound
      rw [treeF_leaf rfl]; simp only [nxs, hfl]
      obtain ⟨R1, R2⟩ := R
      rw [oR_eq]
     ·refine tF (by simp only [nxs, ea, e300, rem, bne_eq_false_iff_eq]; exact Classical.not_not.1 hodd) ?_
      have hod : (E - 300) % 2 = 0 := Classical.not_not.1 (fun h => hodd (hrm.2 h))
      have hS : M * 2 ^ 300 < 2 ^ (128 + 300) := sz_shl Ma
      refine (treeF_call (r := [((M * 2 ^ 300 : Nat) : Int)]) (by simp only [nxs, ph_RL10_ref01_Shl]; exact v_Shl Ma (by decide) (by rfl) (by decide)) (by rfl)).trans ?_
      refine (treeF_call (r := [((rootX (M * 2 ^ 300) : Nat) : Int)]) (by simp only [nxs, ph_RL10_ref01_Root]; exact v_Root hS (by decide)) (by rfl)).trans ?_
      obtain ⟨q1, q2⟩ := rootX_spec (M * 2 ^ 300)
      have hq0 : 0 < rootX (M * 2 ^ 300) := by
       apply Nat.pos_of_ne_zero; intro h0
       rw [h0] at q2
       have := Nat.mul_le_mul mp (FP.two_pow_pos 300)
       have h9 : 2 ^ 1 ≤ 2 ^ 300 := Nat.pow_le_pow_right (by decide) (by decide)
       have h8 : 2 ^ 300 ≤ M * 2 ^ 300 := Nat.le_mul_of_pos_left _ mp
       omega
      obtain ⟨q, hq⟩ : ∃ q, rootX (M * 2 ^ 300) = q := ⟨_, rfl⟩
      rw [hq] at q1 q2 hq0 ⊢
      have hqs : q < 2 ^ (128 + 300) := Nat.lt_of_le_of_lt (Nat.le_trans (Nat.le_mul_of_pos_right q hq0) q1) hS
      refine (treeF_call (r := [((q * q : Nat) : Int)]) (by simp only [nxs, ph_RL10_ref01_Mul]; exact v_Mul hqs hqs (by decide) (by decide)) (by rfl)).trans ?_
      refine (treeF_call (r := [cmpI (q * q) (M * 2 ^ 300)]) (by simp only [nxs, ph_RL10_ref01_Cmp]; exact v_Cmp (sz_mul hqs hqs) hS (by decide) (by decide)) (by rfl)).trans ?_
      obtain ⟨e, he⟩ : ∃ e : Int, E - 300 = 2 * e := ⟨(E - 300) / 2, by omega⟩
      have htd : (E - 300).tdiv 2 = e := by rw [he, Int.mul_comm]; exact Int.mul_tdiv_cancel e (by decide)
      have hR2 := hC 300 e q (by decide) (by decide) (by omega) q1 q2
      have hRound := v_Round (f := u8 f) (m := u8 m) (af := b2i (iNz t)) (ng := 0) (e := e) (mo := b2i (decide (q * q < M * 2 ^ 300))) (Q := q) (r := R) (by rw [fN_u]; exact hf) (by rw [fN_u]; exact hm) hq0 hqs (by decide) (i64_id (by omega) (by omega)) (by omega) (by omega) (by rw [fN_u, fN_u, iNz_b2i, iNz_b2i, show iNz 0 = false from rfl]; exact hR2) (by rw [fN_u]; exact hle)
      rw [fN_u, show iNz 0 = false from rfl] at hRound
      have eQ : i64 e = e := i64_id (by omega) (by omega)
      refine (treeF_call (r := [wd (FP.mk (fN f) false R.1) 1, wd (FP.mk (fN f) false R.1) 0, ((R.2 : Nat) : Int)]) ?_ (by rfl)).trans ?_
      ·simp only [nxs, ph_RL10_ref16_Round, ea, e300, e301, quo, htd, eQ, i64_cmp, cmpI_lt0]
       exact hRound
      rw [treeF_leaf rfl]; simp only [nxs, hfl]
      obtain ⟨R1, R2⟩ := R
      rw [oR_eq]
theorem v_refSqrt0 {f m t a1 a0 : Int} (h : ¬ (fN f < 4 ∧ u8 m ≤ 4)) : F_ref22_Sqrt [f, m, t, a1, a0] = [0, 0, 0] := by
 rw [F_ref22_Sqrt, t_ref22_Sqrt]
 by_cases hf : fN f < 4
 ·refine tF (by simp only [nxs]; exact u8_gt3 hf) ?_
  refine tT (by simp only [nxs]; exact decide_eq_true (by have := fun h2 => h ⟨hf, h2⟩; omega)) ?_
  rw [treeF_leaf rfl]; rfl
 ·refine tT (by simp only [nxs]; exact u8_gt3' hf) ?_
  rw [treeF_leaf rfl]; rfl
end Go.Proofs.YtngiodcdelfdmaaGreatDoor
