import Derived.Test.YtngiodcdelfdmaaGreatDoorP18aR5
import Derived.Test.YtngiodcdelfdmaaGreatDoorD1R5
namespace Go.Proofs.YtngiodcdelfdmaaGreatDoor
set_option linter.unusedVariables false
set_option linter.unusedSimpArgs false
set_option maxRecDepth 100000
open Go.RowKit
theorem s_div_Div (f m t a1 a0 b1 b0 : Int) (hf : fN f < 4) (hm : u8 m ≤ 4) : F_div_Div [f, m, t, a1, a0, b1, b0] = oR (divR (fN f) (u8 m).toNat (iNz t) (nB a1 a0) (nB b1 b0)) := by
 have hf3 : fN (u8 f) < 4 := by rw [fN_u]; exact hf
 have hm3 : u8 (u8 m) ≤ 4 := by rw [u8_u8]; exact hm
 have known := known_f hf
 have knownm := known_m hm
 have sg : ∀ x, sgnF (fN f) x = FP.sgn (fN f) x := fun x => by unfold sgnF; rw [decide_eq_true hf, Bool.true_and]
 have unA : F_fields_Unpack [u8 f, u64 a1, u64 a0] = [b2i (FP.sgn (fN f) (nB a1 a0)), ((clsF (fN f) (nB a1 a0) : Nat) : Int), unE (fN f) (nB a1 a0), wd (unS (fN f) (nB a1 a0)) 1, wd (unS (fN f) (nB a1 a0)) 0] := by
  rw [s_fields_Unpack, fN_u, nB_u, sg, oB_eq]; rfl
 have unB : F_fields_Unpack [u8 f, u64 b1, u64 b0] = [b2i (FP.sgn (fN f) (nB b1 b0)), ((clsF (fN f) (nB b1 b0) : Nat) : Int), unE (fN f) (nB b1 b0), wd (unS (fN f) (nB b1 b0)) 1, wd (unS (fN f) (nB b1 b0)) 0] := by
  rw [s_fields_Unpack, fN_u, nB_u, sg, oB_eq]; rfl
 have u8A := clsF_u8 (fN f) (nB a1 a0)
 have u8B := clsF_u8 (fN f) (nB b1 b0)
 have pk : ∀ j, iNz j = likeC (clsF (fN f) (nB a1 a0)) (clsF (fN f) (nB b1 b0)) → F_nan_Pick_2 [u8 f, j, u64 a1, u64 a0, u64 b1, u64 b0] = [wd (pkB2 (fN f) (likeC (clsF (fN f) (nB a1 a0)) (clsF (fN f) (nB b1 b0))) (nB a1 a0) (nB b1 b0)) 1, wd (pkB2 (fN f) (likeC (clsF (fN f) (nB a1 a0)) (clsF (fN f) (nB b1 b0))) (nB a1 a0) (nB b1 b0)) 0, ((pkF2 (fN f) (likeC (clsF (fN f) (nB a1 a0)) (clsF (fN f) (nB b1 b0))) (nB a1 a0) (nB b1 b0) : Nat) : Int), b2i (pkO2 (fN f) (likeC (clsF (fN f) (nB a1 a0)) (clsF (fN f) (nB b1 b0))) (nB a1 a0) (nB b1 b0))] := fun j hj => by
  rw [s_nan_Pick_2' _ _ _ _ _ _ hf3, fN_u, nB_u, nB_u, hj]
 have xb : (!(FP.sgn (fN f) (nB a1 a0) == FP.sgn (fN f) (nB b1 b0))) = (FP.sgn (fN f) (nB a1 a0) != FP.sgn (fN f) (nB b1 b0)) := rfl
 have infE : F_format_Inf [u8 f, b2i (!(FP.sgn (fN f) (nB a1 a0) == FP.sgn (fN f) (nB b1 b0)))] = [wd (FP.mk (fN f) (FP.sgn (fN f) (nB a1 a0) != FP.sgn (fN f) (nB b1 b0)) (FP.inf (fN f))) 1, wd (FP.mk (fN f) (FP.sgn (fN f) (nB a1 a0) != FP.sgn (fN f) (nB b1 b0)) (FP.inf (fN f))) 0] := by
  rw [s_format_Inf, fN_u, if_pos hf, iNz_b2i, oB_eq, xb]
 have norE : F_format_Nought [u8 f, b2i (!(FP.sgn (fN f) (nB a1 a0) == FP.sgn (fN f) (nB b1 b0)))] = [wd (FP.mk (fN f) (FP.sgn (fN f) (nB a1 a0) != FP.sgn (fN f) (nB b1 b0)) 0) 1, wd (FP.mk (fN f) (FP.sgn (fN f) (nB a1 a0) != FP.sgn (fN f) (nB b1 b0)) 0) 0] := by
  rw [s_format_Nought, fN_u, if_pos hf, iNz_b2i, oB_eq, xb]
 have like_ok : (clsF (fN f) (nB a1 a0) = clsF (fN f) (nB b1 b0) ∧ (clsF (fN f) (nB a1 a0) = 3 ∨ clsF (fN f) (nB a1 a0) = 0)) → pkO2 (fN f) (likeC (clsF (fN f) (nB a1 a0)) (clsF (fN f) (nB b1 b0))) (nB a1 a0) (nB b1 b0) = true := fun h => by
  unfold pkO2
  rw [(likeC_eq _ _).2 h, Bool.or_true, Bool.or_true]
 rw [oR_eq']
 generalize hR : divR (fN f) (u8 m).toNat (iNz t) (nB a1 a0) (nB b1 b0) = R
 have not_ok : ¬ pkO2 (fN f) (likeC (clsF (fN f) (nB a1 a0)) (clsF (fN f) (nB b1 b0))) (nB a1 a0) (nB b1 b0) = true → ¬ 4 ≤ clsF (fN f) (nB a1 a0) ∧ ¬ 4 ≤ clsF (fN f) (nB b1 b0) ∧ ¬ likeC (clsF (fN f) (nB a1 a0)) (clsF (fN f) (nB b1 b0)) = true := fun h => by
  unfold pkO2 at h
  simp only [Bool.or_eq_true, decide_eq_true_iff, not_or] at h
  exact h
 have rP : pkO2 (fN f) (likeC (clsF (fN f) (nB a1 a0)) (clsF (fN f) (nB b1 b0))) (nB a1 a0) (nB b1 b0) = true → R = (pkB2 (fN f) (likeC (clsF (fN f) (nB a1 a0)) (clsF (fN f) (nB b1 b0))) (nB a1 a0) (nB b1 b0), pkF2 (fN f) (likeC (clsF (fN f) (nB a1 a0)) (clsF (fN f) (nB b1 b0))) (nB a1 a0) (nB b1 b0)) := fun h => by
  rw [← hR]
  unfold divR pkB2 pkF2 nanFlag
  have lk : likeC (clsF (fN f) (nB a1 a0)) (clsF (fN f) (nB b1 b0)) = true → ¬ 4 ≤ clsF (fN f) (nB a1 a0) ∧ ¬ 4 ≤ clsF (fN f) (nB b1 b0) := fun h => by
   unfold likeC at h
   simp only [Bool.and_eq_true, Bool.or_eq_true, decide_eq_true_iff] at h
   omega
  by_cases h1 : 4 ≤ clsF (fN f) (nB a1 a0)
  ·have h3 : ¬ likeC (clsF (fN f) (nB a1 a0)) (clsF (fN f) (nB b1 b0)) = true := fun h => (lk h).1 h1
   simp only [h1, h3, if_true, true_or, false_or, Bool.false_eq_true]
  ·by_cases h2 : 4 ≤ clsF (fN f) (nB b1 b0)
   ·have h3 : ¬ likeC (clsF (fN f) (nB a1 a0)) (clsF (fN f) (nB b1 b0)) = true := fun h => (lk h).2 h2
    simp only [h1, h2, h3, if_true, if_false, or_true, false_or, Bool.false_eq_true]
   ·have h3 : likeC (clsF (fN f) (nB a1 a0)) (clsF (fN f) (nB b1 b0)) = true := by
     unfold pkO2 at h
     simpa only [Bool.or_eq_true, decide_eq_true_iff, h1, h2, false_or] using h
    simp only [h1, h2, h3, if_true, if_false, or_self]
 have rS : ¬ pkO2 (fN f) (likeC (clsF (fN f) (nB a1 a0)) (clsF (fN f) (nB b1 b0))) (nB a1 a0) (nB b1 b0) = true → R = (FP.mk (fN f) (FP.sgn (fN f) (nB a1 a0) != FP.sgn (fN f) (nB b1 b0)) (divS (fN f) (u8 m).toNat (iNz t) (FP.sgn (fN f) (nB a1 a0) != FP.sgn (fN f) (nB b1 b0)) (FP.cod (fN f) (nB a1 a0)) (FP.cod (fN f) (nB b1 b0))).1, (divS (fN f) (u8 m).toNat (iNz t) (FP.sgn (fN f) (nB a1 a0) != FP.sgn (fN f) (nB b1 b0)) (FP.cod (fN f) (nB a1 a0)) (FP.cod (fN f) (nB b1 b0))).2) := fun h => by
  obtain ⟨h1, h2, h3⟩ := not_ok h
  rw [← hR]; unfold divR; rw [if_neg h1, if_neg h2, if_neg h3]
 have cA : FP.clsC (fN f) (FP.cod (fN f) (nB a1 a0)) = clsF (fN f) (nB a1 a0) := (clsF_cod hf _).symm
 have cB : FP.clsC (fN f) (FP.cod (fN f) (nB b1 b0)) = clsF (fN f) (nB b1 b0) := (clsF_cod hf _).symm
 have rI : ¬ pkO2 (fN f) (likeC (clsF (fN f) (nB a1 a0)) (clsF (fN f) (nB b1 b0))) (nB a1 a0) (nB b1 b0) = true → clsF (fN f) (nB a1 a0) = 3 → R = (FP.mk (fN f) (FP.sgn (fN f) (nB a1 a0) != FP.sgn (fN f) (nB b1 b0)) (FP.inf (fN f)), 0) := fun h h1 => by
  rw [rS h]; unfold divS; rw [cA, if_pos h1]
 have rZ : ¬ pkO2 (fN f) (likeC (clsF (fN f) (nB a1 a0)) (clsF (fN f) (nB b1 b0))) (nB a1 a0) (nB b1 b0) = true → ¬ clsF (fN f) (nB a1 a0) = 3 → (clsF (fN f) (nB b1 b0) = 3 ∨ clsF (fN f) (nB a1 a0) = 0) → R = (FP.mk (fN f) (FP.sgn (fN f) (nB a1 a0) != FP.sgn (fN f) (nB b1 b0)) 0, 0) := fun h h1 h2 => by
  rw [rS h]; unfold divS; rw [cA, cB, if_neg h1, if_pos h2]
 have rD : ¬ pkO2 (fN f) (likeC (clsF (fN f) (nB a1 a0)) (clsF (fN f) (nB b1 b0))) (nB a1 a0) (nB b1 b0) = true → ¬ clsF (fN f) (nB a1 a0) = 3 → ¬ (clsF (fN f) (nB b1 b0) = 3 ∨ clsF (fN f) (nB a1 a0) = 0) → clsF (fN f) (nB b1 b0) = 0 → R = (FP.mk (fN f) (FP.sgn (fN f) (nB a1 a0) != FP.sgn (fN f) (nB b1 b0)) (FP.inf (fN f)), 2) := fun h h1 h2 h3 => by
  rw [rS h]; unfold divS; rw [cA, cB, if_neg h1, if_neg h2, if_pos h3]
 have pkF8 : u8 ((pkF2 (fN f) (likeC (clsF (fN f) (nB a1 a0)) (clsF (fN f) (nB b1 b0))) (nB a1 a0) (nB b1 b0) : Nat) : Int) = ((pkF2 (fN f) (likeC (clsF (fN f) (nB a1 a0)) (clsF (fN f) (nB b1 b0))) (nB a1 a0) (nB b1 b0) : Nat) : Int) := by
  have := pkF2_le (fN f) (likeC (clsF (fN f) (nB a1 a0)) (clsF (fN f) (nB b1 b0))) (nB a1 a0) (nB b1 b0)
  exact u8_id (by omega) (by omega)
 generalize hQ : FP.divC (fN f) (u8 m).toNat (iNz t) (FP.sgn (fN f) (nB a1 a0) != FP.sgn (fN f) (nB b1 b0)) (FP.cod (fN f) (nB a1 a0)) (FP.cod (fN f) (nB b1 b0)) = Q
 have rQ : ¬ pkO2 (fN f) (likeC (clsF (fN f) (nB a1 a0)) (clsF (fN f) (nB b1 b0))) (nB a1 a0) (nB b1 b0) = true → ¬ clsF (fN f) (nB a1 a0) = 3 → ¬ (clsF (fN f) (nB b1 b0) = 3 ∨ clsF (fN f) (nB a1 a0) = 0) → ¬ clsF (fN f) (nB b1 b0) = 0 → R = (FP.mk (fN f) (FP.sgn (fN f) (nB a1 a0) != FP.sgn (fN f) (nB b1 b0)) Q.1, Q.2) := fun h h1 h2 h3 => by
  rw [rS h]; unfold divS; rw [cA, cB, if_neg h1, if_neg h2, if_neg h3, hQ]
 have Q8 : u8 (Q.2 : Int) = (Q.2 : Int) := by
  have := FP.roundC_flag_set (FP.fP (fN f)) (FP.fE (fN f)) (u8 m).toNat (iNz t) (FP.sgn (fN f) (nB a1 a0) != FP.sgn (fN f) (nB b1 b0)) (FP.val (fN f) (FP.cod (fN f) (nB a1 a0)) * 2 ^ FP.fU (fN f)) (FP.val (fN f) (FP.cod (fN f) (nB b1 b0)))
  rw [← hQ]; unfold FP.divC
  exact u8_id (by omega) (by omega)
 obtain ⟨S, hS⟩ : ∃ S, S = unS (fN f) (nB a1 a0) * W128 := ⟨_, rfl⟩
 obtain ⟨D, hD⟩ : ∃ D, D = unS (fN f) (nB b1 b0) := ⟨_, rfl⟩
 have hS256 : S < W256 := by rw [hS, W256_sq]; exact Nat.mul_lt_mul_of_pos_right (un_lt _ _) W128_pos
 have hD128 : D < W128 := by rw [hD]; exact un_lt _ _
 have joE : F_wide_Join [wd (unS (fN f) (nB a1 a0)) 1, wd (unS (fN f) (nB a1 a0)) 0, 0, 0] = [wd S 0, wd S 1, wd S 2, wd S 3] := by
  have z : nB 0 0 = 0 := by unfold nB; rw [show u64 0 = 0 from by decide]; rfl
  rw [s_wide_Join, nB_small (un_lt _ _), z, Nat.add_zero, ← hS, oW_eq]
 obtain ⟨q, hq⟩ : ∃ q, q = S / D * 2 ^ 100 := ⟨_, rfl⟩
 have fin : ¬ pkO2 (fN f) (likeC (clsF (fN f) (nB a1 a0)) (clsF (fN f) (nB b1 b0))) (nB a1 a0) (nB b1 b0) = true → ¬ clsF (fN f) (nB a1 a0) = 3 → ¬ clsF (fN f) (nB a1 a0) = 0 → ¬ clsF (fN f) (nB b1 b0) = 3 → ¬ clsF (fN f) (nB b1 b0) = 0 →
   (clsF (fN f) (nB a1 a0) = 1 ∨ clsF (fN f) (nB a1 a0) = 2) ∧ (clsF (fN f) (nB b1 b0) = 1 ∨ clsF (fN f) (nB b1 b0) = 2) := fun h h1 h2 h3 h4 => by
  obtain ⟨k1, k2, k3⟩ := not_ok h; omega
 have quE : ∀ g : (clsF (fN f) (nB a1 a0) = 1 ∨ clsF (fN f) (nB a1 a0) = 2) ∧ (clsF (fN f) (nB b1 b0) = 1 ∨ clsF (fN f) (nB b1 b0) = 2), fQuot [wd S 0, wd S 1, wd S 2, wd S 3, wd (unS (fN f) (nB b1 b0)) 1, wd (unS (fN f) (nB b1 b0)) 0] = [wd (S / D) 0, wd (S / D) 1, wd (S / D) 2, wd (S / D) 3, wd (S % D) 1, wd (S % D) 0, 1] := fun g => by
  have hd := (unS_big hf g.2).1
  rw [fQuot_eq, nW_small hS256, nB_small (un_lt _ _), ← hD, qOut_p S (by omega), oW_eq, oB_eq]; rfl
 have hq256 : ∀ g : (clsF (fN f) (nB a1 a0) = 1 ∨ clsF (fN f) (nB a1 a0) = 2) ∧ (clsF (fN f) (nB b1 b0) = 1 ∨ clsF (fN f) (nB b1 b0) = 2), q + 1 < W256 := fun g => by
  have hd := (unS_big hf g.2).1
  rw [hq]; exact quo_lt (by rw [← W256_pow]; exact hS256) (by rw [hD]; exact hd)
 have leE : ∀ g : (clsF (fN f) (nB a1 a0) = 1 ∨ clsF (fN f) (nB a1 a0) = 2) ∧ (clsF (fN f) (nB b1 b0) = 1 ∨ clsF (fN f) (nB b1 b0) = 2), F_shift_WideLeft [wd (S / D) 0, wd (S / D) 1, wd (S / D) 2, wd (S / D) 3, 100] = [wd q 0, wd q 1, wd q 2, wd q 3] := fun g => by
  have h1 := hq256 g
  have hlt : S / D < W256 := Nat.lt_of_le_of_lt (Nat.div_le_self _ _) hS256
  have h100 : (i64 100).toNat = 100 := by decide
  rw [s_shift_WideLeft, nW_small hlt, h100, ← hq, Nat.mod_eq_of_lt (by omega), oW_eq]
 have zeE : ∀ g : (clsF (fN f) (nB a1 a0) = 1 ∨ clsF (fN f) (nB a1 a0) = 2) ∧ (clsF (fN f) (nB b1 b0) = 1 ∨ clsF (fN f) (nB b1 b0) = 2), F_word_Zero [wd (S % D) 1, wd (S % D) 0] = [b2i (decide (S % D = 0))] := fun g => by
  have hd := (unS_big hf g.2).1
  have hlt : S % D < W128 := Nat.lt_trans (Nat.mod_lt _ (by omega)) hD128
  rw [s_word_Zero, nB_small hlt]
 have ev : q % 2 = 0 := by
  rw [hq, show (2 : Nat) ^ 100 = 2 * 2 ^ 99 by rw [← Nat.pow_succ'], show S / D * (2 * 2 ^ 99) = 2 * (S / D * 2 ^ 99) by ac_rfl, Nat.mul_mod_right]
 have hp := FP.two_pow_pos 100
 have rnE1 : ∀ g : (clsF (fN f) (nB a1 a0) = 1 ∨ clsF (fN f) (nB a1 a0) = 2) ∧ (clsF (fN f) (nB b1 b0) = 1 ∨ clsF (fN f) (nB b1 b0) = 2), ¬ S % D = 0 → F_pack_Round [u8 f, u8 m, b2i (iNz t), b2i (!(FP.sgn (fN f) (nB a1 a0) == FP.sgn (fN f) (nB b1 b0))), i64 (i64 (i64 (unE (fN f) (nB a1 a0)) - i64 (unE (fN f) (nB b1 b0))) + 27), iOp .or .u64 (wd q 0) 1, wd q 1, wd q 2, wd q 3] = [wd (FP.mk (fN f) (FP.sgn (fN f) (nB a1 a0) != FP.sgn (fN f) (nB b1 b0)) Q.1) 1, wd (FP.mk (fN f) (FP.sgn (fN f) (nB a1 a0) != FP.sgn (fN f) (nB b1 b0)) Q.1) 0, (Q.2 : Int)] := fun g hz => by
  obtain ⟨w0, w1, w2, w3⟩ := wd_or1 ev
  rw [w0, w1, w2, w3, s_pack_Round _ _ _ _ _ _ _ _ _ hf3 hm3, fN_u, u8_u8, iNz_b2i, iNz_b2i, nW_small (hq256 g), xb, div_fin hf g.1 g.2 (n := q + 1) (by
   rw [hq, ← hS, ← hD, Nat.mul_comm, Nat.mul_add_div hp, Nat.div_eq_of_lt (Nat.one_lt_pow (by decide) (by decide)), Nat.add_zero]) (by
   rw [hq, ← hS, ← hD, Nat.mul_comm, Nat.mul_add_mod, Nat.mod_eq_of_lt (Nat.one_lt_pow (by decide) (by decide))]
   exact ⟨fun h => (by cases h), fun h => absurd h hz⟩), hQ, oB_eq]; rfl
 have rnE0 : ∀ g : (clsF (fN f) (nB a1 a0) = 1 ∨ clsF (fN f) (nB a1 a0) = 2) ∧ (clsF (fN f) (nB b1 b0) = 1 ∨ clsF (fN f) (nB b1 b0) = 2), ¬ ¬ S % D = 0 → F_pack_Round [u8 f, u8 m, b2i (iNz t), b2i (!(FP.sgn (fN f) (nB a1 a0) == FP.sgn (fN f) (nB b1 b0))), i64 (i64 (i64 (unE (fN f) (nB a1 a0)) - i64 (unE (fN f) (nB b1 b0))) + 27), wd q 0, wd q 1, wd q 2, wd q 3] = [wd (FP.mk (fN f) (FP.sgn (fN f) (nB a1 a0) != FP.sgn (fN f) (nB b1 b0)) Q.1) 1, wd (FP.mk (fN f) (FP.sgn (fN f) (nB a1 a0) != FP.sgn (fN f) (nB b1 b0)) Q.1) 0, (Q.2 : Int)] := fun g hz => by
  have hz := Decidable.not_not.1 hz
  have hl := hq256 g
  rw [s_pack_Round _ _ _ _ _ _ _ _ _ hf3 hm3, fN_u, u8_u8, iNz_b2i, iNz_b2i, nW_small (n := q) (by omega), xb, div_fin hf g.1 g.2 (n := q) (by
   rw [hq, ← hS, ← hD, Nat.mul_div_cancel _ hp]) (by
   rw [hq, ← hS, ← hD, Nat.mul_mod_left]
   exact ⟨fun _ => hz, fun _ => rfl⟩), hQ, oB_eq]; rfl
 rw [F_div_Div, t_div_Div]
 refine tF (by simp only [sxs]; exact known) ?_
 refine tF (by simp only [sxs]; exact knownm) ?_
 refine (treeF_call (r := [b2i (FP.sgn (fN f) (nB a1 a0)), ((clsF (fN f) (nB a1 a0) : Nat) : Int), unE (fN f) (nB a1 a0), wd (unS (fN f) (nB a1 a0)) 1, wd (unS (fN f) (nB a1 a0)) 0]) (by simp only [sxs, ph_D1_fields_Unpack]; exact unA) (by rfl)).trans ?_
 refine (treeF_call (r := [b2i (FP.sgn (fN f) (nB b1 b0)), ((clsF (fN f) (nB b1 b0) : Nat) : Int), unE (fN f) (nB b1 b0), wd (unS (fN f) (nB b1 b0)) 1, wd (unS (fN f) (nB b1 b0)) 0]) (by simp only [sxs, ph_D1_fields_Unpack]; exact unB) (by rfl)).trans ?_
 refine tI (clsF (fN f) (nB a1 a0) = clsF (fN f) (nB b1 b0)) (by simp only [sxs, u8A, u8B]; exact beq_nn _ _) (fun h1 => ?_) (fun h1 => ?_)
 ·refine tI (clsF (fN f) (nB a1 a0) = 3) (by simp only [sxs, u8A]; exact beq_nk _ 3) (fun h2 => ?_) (fun h2 => ?_)
  ·refine (treeF_call (r := [wd (pkB2 (fN f) (likeC (clsF (fN f) (nB a1 a0)) (clsF (fN f) (nB b1 b0))) (nB a1 a0) (nB b1 b0)) 1, wd (pkB2 (fN f) (likeC (clsF (fN f) (nB a1 a0)) (clsF (fN f) (nB b1 b0))) (nB a1 a0) (nB b1 b0)) 0, ((pkF2 (fN f) (likeC (clsF (fN f) (nB a1 a0)) (clsF (fN f) (nB b1 b0))) (nB a1 a0) (nB b1 b0) : Nat) : Int), b2i (pkO2 (fN f) (likeC (clsF (fN f) (nB a1 a0)) (clsF (fN f) (nB b1 b0))) (nB a1 a0) (nB b1 b0))]) (by simp only [sxs, ph_D1_nan_Pick_2, u8A]; exact pk _ (likeC_of (by simp only [iNz_b2i, beq_nk0, decide_eq_true_iff, show iNz 1 = true from rfl, show iNz 0 = false from rfl, Bool.false_eq_true, true_iff, false_iff]; omega))) (by rfl)).trans ?_
   refine tI (pkO2 (fN f) (likeC (clsF (fN f) (nB a1 a0)) (clsF (fN f) (nB b1 b0))) (nB a1 a0) (nB b1 b0) = true) (by simp only [sxs]; exact (Bool.decide_coe _).symm) (fun h3 => ?_) (fun h3 => ?_)
   ·rw [treeF_leaf rfl]
    simp only [sxs]
    rw [rP h3]
    simp only [pkF8]
   ·refine tI (clsF (fN f) (nB b1 b0) = 3) (by simp only [sxs, u8B]; exact beq_nk _ 3) (fun h4 => ?_) (fun h4 => ?_)
    ·refine (treeF_call (r := [wd (FP.mk (fN f) (FP.sgn (fN f) (nB a1 a0) != FP.sgn (fN f) (nB b1 b0)) (FP.inf (fN f))) 1, wd (FP.mk (fN f) (FP.sgn (fN f) (nB a1 a0) != FP.sgn (fN f) (nB b1 b0)) (FP.inf (fN f))) 0]) (by simp only [sxs, ph_D1_format_Inf]; exact infE) (by rfl)).trans ?_
     rw [treeF_leaf rfl]
     simp only [sxs]
     first | (exact absurd (like_ok (by omega)) h3) | (rw [rI h3 (by omega)]; rfl) | (rw [rZ h3 (by omega) (by omega)]; rfl) | (rw [rD h3 (by omega) (by omega) (by omega)]; rfl)
    ·refine (treeF_call (r := [wd (FP.mk (fN f) (FP.sgn (fN f) (nB a1 a0) != FP.sgn (fN f) (nB b1 b0)) (FP.inf (fN f))) 1, wd (FP.mk (fN f) (FP.sgn (fN f) (nB a1 a0) != FP.sgn (fN f) (nB b1 b0)) (FP.inf (fN f))) 0]) (by simp only [sxs, ph_D1_format_Inf]; exact infE) (by rfl)).trans ?_
     rw [treeF_leaf rfl]
     simp only [sxs]
     first | (exact absurd (like_ok (by omega)) h3) | (rw [rI h3 (by omega)]; rfl) | (rw [rZ h3 (by omega) (by omega)]; rfl) | (rw [rD h3 (by omega) (by omega) (by omega)]; rfl)
  ·refine (treeF_call (r := [wd (pkB2 (fN f) (likeC (clsF (fN f) (nB a1 a0)) (clsF (fN f) (nB b1 b0))) (nB a1 a0) (nB b1 b0)) 1, wd (pkB2 (fN f) (likeC (clsF (fN f) (nB a1 a0)) (clsF (fN f) (nB b1 b0))) (nB a1 a0) (nB b1 b0)) 0, ((pkF2 (fN f) (likeC (clsF (fN f) (nB a1 a0)) (clsF (fN f) (nB b1 b0))) (nB a1 a0) (nB b1 b0) : Nat) : Int), b2i (pkO2 (fN f) (likeC (clsF (fN f) (nB a1 a0)) (clsF (fN f) (nB b1 b0))) (nB a1 a0) (nB b1 b0))]) (by simp only [sxs, ph_D1_nan_Pick_2, u8A]; exact pk _ (likeC_of (by simp only [iNz_b2i, beq_nk0, decide_eq_true_iff, show iNz 1 = true from rfl, show iNz 0 = false from rfl, Bool.false_eq_true, true_iff, false_iff]; omega))) (by rfl)).trans ?_
   refine tI (pkO2 (fN f) (likeC (clsF (fN f) (nB a1 a0)) (clsF (fN f) (nB b1 b0))) (nB a1 a0) (nB b1 b0) = true) (by simp only [sxs]; exact (Bool.decide_coe _).symm) (fun h5 => ?_) (fun h5 => ?_)
   ·rw [treeF_leaf rfl]
    simp only [sxs]
    rw [rP h5]
    simp only [pkF8]
   ·refine tI (clsF (fN f) (nB b1 b0) = 3) (by simp only [sxs, u8B]; exact beq_nk _ 3) (fun h6 => ?_) (fun h6 => ?_)
    ·refine (treeF_call (r := [wd (FP.mk (fN f) (FP.sgn (fN f) (nB a1 a0) != FP.sgn (fN f) (nB b1 b0)) (0)) 1, wd (FP.mk (fN f) (FP.sgn (fN f) (nB a1 a0) != FP.sgn (fN f) (nB b1 b0)) (0)) 0]) (by simp only [sxs, ph_D1_format_Nought]; exact norE) (by rfl)).trans ?_
     rw [treeF_leaf rfl]
     simp only [sxs]
     first | (exact absurd (like_ok (by omega)) h5) | (rw [rI h5 (by omega)]; rfl) | (rw [rZ h5 (by omega) (by omega)]; rfl) | (rw [rD h5 (by omega) (by omega) (by omega)]; rfl)
    ·refine tI (clsF (fN f) (nB a1 a0) = 0) (by simp only [sxs, u8A]; exact beq_nk _ 0) (fun h7 => ?_) (fun h7 => ?_)
     ·refine (treeF_call (r := [wd (FP.mk (fN f) (FP.sgn (fN f) (nB a1 a0) != FP.sgn (fN f) (nB b1 b0)) (0)) 1, wd (FP.mk (fN f) (FP.sgn (fN f) (nB a1 a0) != FP.sgn (fN f) (nB b1 b0)) (0)) 0]) (by simp only [sxs, ph_D1_format_Nought]; exact norE) (by rfl)).trans ?_
      rw [treeF_leaf rfl]
      simp only [sxs]
      first | (exact absurd (like_ok (by omega)) h5) | (rw [rI h5 (by omega)]; rfl) | (rw [rZ h5 (by omega) (by omega)]; rfl) | (rw [rD h5 (by omega) (by omega) (by omega)]; rfl)
     ·refine tI (clsF (fN f) (nB b1 b0) = 0) (by simp only [sxs, u8B]; exact beq_nk _ 0) (fun h8 => ?_) (fun h8 => ?_)
      ·refine (treeF_call (r := [wd (FP.mk (fN f) (FP.sgn (fN f) (nB a1 a0) != FP.sgn (fN f) (nB b1 b0)) (FP.inf (fN f))) 1, wd (FP.mk (fN f) (FP.sgn (fN f) (nB a1 a0) != FP.sgn (fN f) (nB b1 b0)) (FP.inf (fN f))) 0]) (by simp only [sxs, ph_D1_format_Inf]; exact infE) (by rfl)).trans ?_
       rw [treeF_leaf rfl]
       simp only [sxs]
       first | (exact absurd (like_ok (by omega)) h5) | (rw [rI h5 (by omega)]; rfl) | (rw [rZ h5 (by omega) (by omega)]; rfl) | (rw [rD h5 (by omega) (by omega) (by omega)]; rfl)
      ·refine (treeF_call (r := [wd S 0, wd S 1, wd S 2, wd S 3]) (by simp only [sxs, ph_D1_wide_Join]; exact joE) (by rfl)).trans ?_
       refine (treeF_call (r := [wd (S / D) 0, wd (S / D) 1, wd (S / D) 2, wd (S / D) 3, wd (S % D) 1, wd (S % D) 0, 1]) (by simp only [sxs, ph_D1_quot_Div]; exact quE (fin h5 (by omega) (by omega) (by omega) (by omega))) (by rfl)).trans ?_
       refine (treeF_call (r := [wd q 0, wd q 1, wd q 2, wd q 3]) (by simp only [sxs, ph_D1_shift_WideLeft]; exact leE (fin h5 (by omega) (by omega) (by omega) (by omega))) (by rfl)).trans ?_
       refine (treeF_call (r := [b2i (decide (S % D = 0))]) (by simp only [sxs, ph_D1_word_Zero]; exact zeE (fin h5 (by omega) (by omega) (by omega) (by omega))) (by rfl)).trans ?_
       refine tI (¬ S % D = 0) (by simp only [sxs]; exact (decide_not).symm) (fun h9 => ?_) (fun h9 => ?_)
       ·refine (treeF_call (r := [wd (FP.mk (fN f) (FP.sgn (fN f) (nB a1 a0) != FP.sgn (fN f) (nB b1 b0)) Q.1) 1, wd (FP.mk (fN f) (FP.sgn (fN f) (nB a1 a0) != FP.sgn (fN f) (nB b1 b0)) Q.1) 0, (Q.2 : Int)]) (by simp only [sxs, ph_D1_pack_Round]; exact rnE1 (fin h5 (by omega) (by omega) (by omega) (by omega)) h9) (by rfl)).trans ?_
        rw [treeF_leaf rfl]
        simp only [sxs]
        rw [rQ h5 (by omega) (by omega) (by omega)]
        simp only [Q8]
       ·refine (treeF_call (r := [wd (FP.mk (fN f) (FP.sgn (fN f) (nB a1 a0) != FP.sgn (fN f) (nB b1 b0)) Q.1) 1, wd (FP.mk (fN f) (FP.sgn (fN f) (nB a1 a0) != FP.sgn (fN f) (nB b1 b0)) Q.1) 0, (Q.2 : Int)]) (by simp only [sxs, ph_D1_pack_Round]; exact rnE0 (fin h5 (by omega) (by omega) (by omega) (by omega)) h9) (by rfl)).trans ?_
        replace h9 := Decidable.not_not.1 h9
        rw [treeF_leaf rfl]
        simp only [sxs]
        rw [rQ h5 (by omega) (by omega) (by omega)]
        simp only [Q8]
 ·refine (treeF_call (r := [wd (pkB2 (fN f) (likeC (clsF (fN f) (nB a1 a0)) (clsF (fN f) (nB b1 b0))) (nB a1 a0) (nB b1 b0)) 1, wd (pkB2 (fN f) (likeC (clsF (fN f) (nB a1 a0)) (clsF (fN f) (nB b1 b0))) (nB a1 a0) (nB b1 b0)) 0, ((pkF2 (fN f) (likeC (clsF (fN f) (nB a1 a0)) (clsF (fN f) (nB b1 b0))) (nB a1 a0) (nB b1 b0) : Nat) : Int), b2i (pkO2 (fN f) (likeC (clsF (fN f) (nB a1 a0)) (clsF (fN f) (nB b1 b0))) (nB a1 a0) (nB b1 b0))]) (by simp only [sxs, ph_D1_nan_Pick_2, u8A]; exact pk _ (likeC_of (by simp only [iNz_b2i, beq_nk0, decide_eq_true_iff, show iNz 1 = true from rfl, show iNz 0 = false from rfl, Bool.false_eq_true, true_iff, false_iff]; omega))) (by rfl)).trans ?_
  refine tI (pkO2 (fN f) (likeC (clsF (fN f) (nB a1 a0)) (clsF (fN f) (nB b1 b0))) (nB a1 a0) (nB b1 b0) = true) (by simp only [sxs]; exact (Bool.decide_coe _).symm) (fun h10 => ?_) (fun h10 => ?_)
  ·rw [treeF_leaf rfl]
   simp only [sxs]
   rw [rP h10]
   simp only [pkF8]
  ·refine tI (clsF (fN f) (nB b1 b0) = 3) (by simp only [sxs, u8B]; exact beq_nk _ 3) (fun h11 => ?_) (fun h11 => ?_)
   ·refine tI (clsF (fN f) (nB a1 a0) = 3) (by simp only [sxs, u8A]; exact beq_nk _ 3) (fun h12 => ?_) (fun h12 => ?_)
    ·refine (treeF_call (r := [wd (FP.mk (fN f) (FP.sgn (fN f) (nB a1 a0) != FP.sgn (fN f) (nB b1 b0)) (FP.inf (fN f))) 1, wd (FP.mk (fN f) (FP.sgn (fN f) (nB a1 a0) != FP.sgn (fN f) (nB b1 b0)) (FP.inf (fN f))) 0]) (by simp only [sxs, ph_D1_format_Inf]; exact infE) (by rfl)).trans ?_
     rw [treeF_leaf rfl]
     simp only [sxs]
     first | (exact absurd (like_ok (by omega)) h10) | (rw [rI h10 (by omega)]; rfl) | (rw [rZ h10 (by omega) (by omega)]; rfl) | (rw [rD h10 (by omega) (by omega) (by omega)]; rfl)
    ·refine (treeF_call (r := [wd (FP.mk (fN f) (FP.sgn (fN f) (nB a1 a0) != FP.sgn (fN f) (nB b1 b0)) (0)) 1, wd (FP.mk (fN f) (FP.sgn (fN f) (nB a1 a0) != FP.sgn (fN f) (nB b1 b0)) (0)) 0]) (by simp only [sxs, ph_D1_format_Nought]; exact norE) (by rfl)).trans ?_
     rw [treeF_leaf rfl]
     simp only [sxs]
     first | (exact absurd (like_ok (by omega)) h10) | (rw [rI h10 (by omega)]; rfl) | (rw [rZ h10 (by omega) (by omega)]; rfl) | (rw [rD h10 (by omega) (by omega) (by omega)]; rfl)
   ·refine tI (clsF (fN f) (nB a1 a0) = 3) (by simp only [sxs, u8A]; exact beq_nk _ 3) (fun h13 => ?_) (fun h13 => ?_)
    ·refine (treeF_call (r := [wd (FP.mk (fN f) (FP.sgn (fN f) (nB a1 a0) != FP.sgn (fN f) (nB b1 b0)) (FP.inf (fN f))) 1, wd (FP.mk (fN f) (FP.sgn (fN f) (nB a1 a0) != FP.sgn (fN f) (nB b1 b0)) (FP.inf (fN f))) 0]) (by simp only [sxs, ph_D1_format_Inf]; exact infE) (by rfl)).trans ?_
     rw [treeF_leaf rfl]
     simp only [sxs]
     first | (exact absurd (like_ok (by omega)) h10) | (rw [rI h10 (by omega)]; rfl) | (rw [rZ h10 (by omega) (by omega)]; rfl) | (rw [rD h10 (by omega) (by omega) (by omega)]; rfl)
    ·refine tI (clsF (fN f) (nB a1 a0) = 0) (by simp only [sxs, u8A]; exact beq_nk _ 0) (fun h14 => ?_) (fun h14 => ?_)
     ·refine (treeF_call (r := [wd (FP.mk (fN f) (FP.sgn (fN f) (nB a1 a0) != FP.sgn (fN f) (nB b1 b0)) (0)) 1, wd (FP.mk (fN f) (FP.sgn (fN f) (nB a1 a0) != FP.sgn (fN f) (nB b1 b0)) (0)) 0]) (by simp only [sxs, ph_D1_format_Nought]; exact norE) (by rfl)).trans ?_
      rw [treeF_leaf rfl]
      simp only [sxs]
      first | (exact absurd (like_ok (by omega)) h10) | (rw [rI h10 (by omega)]; rfl) | (rw [rZ h10 (by omega) (by omega)]; rfl) | (rw [rD h10 (by omega) (by omega) (by omega)]; rfl)
     ·refine tI (clsF (fN f) (nB b1 b0) = 0) (by simp only [sxs, u8B]; exact beq_nk _ 0) (fun h15 => ?_) (fun h15 => ?_)
      ·refine (treeF_call (r := [wd (FP.mk (fN f) (FP.sgn (fN f) (nB a1 a0) != FP.sgn (fN f) (nB b1 b0)) (FP.inf (fN f))) 1, wd (FP.mk (fN f) (FP.sgn (fN f) (nB a1 a0) != FP.sgn (fN f) (nB b1 b0)) (FP.inf (fN f))) 0]) (by simp only [sxs, ph_D1_format_Inf]; exact infE) (by rfl)).trans ?_
       rw [treeF_leaf rfl]
       simp only [sxs]
       first | (exact absurd (like_ok (by omega)) h10) | (rw [rI h10 (by omega)]; rfl) | (rw [rZ h10 (by omega) (by omega)]; rfl) | (rw [rD h10 (by omega) (by omega) (by omega)]; rfl)
      ·refine (treeF_call (r := [wd S 0, wd S 1, wd S 2, wd S 3]) (by simp only [sxs, ph_D1_wide_Join]; exact joE) (by rfl)).trans ?_
       refine (treeF_call (r := [wd (S / D) 0, wd (S / D) 1, wd (S / D) 2, wd (S / D) 3, wd (S % D) 1, wd (S % D) 0, 1]) (by simp only [sxs, ph_D1_quot_Div]; exact quE (fin h10 (by omega) (by omega) (by omega) (by omega))) (by rfl)).trans ?_
       refine (treeF_call (r := [wd q 0, wd q 1, wd q 2, wd q 3]) (by simp only [sxs, ph_D1_shift_WideLeft]; exact leE (fin h10 (by omega) (by omega) (by omega) (by omega))) (by rfl)).trans ?_
       refine (treeF_call (r := [b2i (decide (S % D = 0))]) (by simp only [sxs, ph_D1_word_Zero]; exact zeE (fin h10 (by omega) (by omega) (by omega) (by omega))) (by rfl)).trans ?_
       refine tI (¬ S % D = 0) (by simp only [sxs]; exact (decide_not).symm) (fun h16 => ?_) (fun h16 => ?_)
       ·refine (treeF_call (r := [wd (FP.mk (fN f) (FP.sgn (fN f) (nB a1 a0) != FP.sgn (fN f) (nB b1 b0)) Q.1) 1, wd (FP.mk (fN f) (FP.sgn (fN f) (nB a1 a0) != FP.sgn (fN f) (nB b1 b0)) Q.1) 0, (Q.2 : Int)]) (by simp only [sxs, ph_D1_pack_Round]; exact rnE1 (fin h10 (by omega) (by omega) (by omega) (by omega)) h16) (by rfl)).trans ?_
        rw [treeF_leaf rfl]
        simp only [sxs]
        rw [rQ h10 (by omega) (by omega) (by omega)]
        simp only [Q8]
       ·refine (treeF_call (r := [wd (FP.mk (fN f) (FP.sgn (fN f) (nB a1 a0) != FP.sgn (fN f) (nB b1 b0)) Q.1) 1, wd (FP.mk (fN f) (FP.sgn (fN f) (nB a1 a0) != FP.sgn (fN f) (nB b1 b0)) Q.1) 0, (Q.2 : Int)]) (by simp only [sxs, ph_D1_pack_Round]; exact rnE0 (fin h10 (by omega) (by omega) (by omega) (by omega)) h16) (by rfl)).trans ?_
        replace h16 := Decidable.not_not.1 h16
        rw [treeF_leaf rfl]
        simp only [sxs]
        rw [rQ h10 (by omega) (by omega) (by omega)]
        simp only [Q8]
end Go.Proofs.YtngiodcdelfdmaaGreatDoor
