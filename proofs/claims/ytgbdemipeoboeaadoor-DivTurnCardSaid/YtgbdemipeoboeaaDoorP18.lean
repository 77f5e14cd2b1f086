import Derived.Test.YtgbdemipeoboeaaDoorP17
import Derived.Test.YtgbdemipeoboeaaDoorD1
/- What div.Div answers. -/
namespace Go.Proofs.YtgbdemipeoboeaaDoor
set_option linter.unusedVariables false
set_option linter.unusedSimpArgs false
set_option maxRecDepth 100000
open Go.RowKit
theorem beq_nn (x y : Nat) : ((x : Int) == (y : Int)) = decide (x = y) := by rw [Bool.eq_iff_iff, beq_iff_eq, decide_eq_true_iff]; omega
theorem beq_nk (x k : Nat) : ((x : Int) == (k : Int)) = decide (x = k) := beq_nn x k
theorem beq_nk0 (x : Nat) : ((x : Int) == 0) = decide (x = 0) := beq_nn x 0
theorem bne_nk (x k : Nat) : (!((x : Int) == (k : Int))) = decide (¬ x = k) := by rw [beq_nn]; exact (decide_not).symm
theorem likeC_eq (x y : Nat) : likeC x y = true ↔ x = y ∧ (x = 3 ∨ x = 0) := by unfold likeC; simp only [Bool.and_eq_true, Bool.or_eq_true, decide_eq_true_iff]
theorem likeC_of {j : Bool} {x y : Nat} (h : j = true ↔ x = y ∧ (x = 3 ∨ x = 0)) : j = likeC x y := by rw [Bool.eq_iff_iff, likeC_eq]; exact h
/-- what nan.Pick tells of two operands, in parts -/
def pkB2 (f : Nat) (j : Bool) (a b : Nat) : Nat := if 4 ≤ clsF f a then quN f a else if 4 ≤ clsF f b then quN f b else if j = true then dfl f else 0
def pkF2 (f : Nat) (j : Bool) (a b : Nat) : Nat := if 4 ≤ clsF f a ∨ 4 ≤ clsF f b then (if j = true ∨ clsF f a = 5 ∨ clsF f b = 5 then 1 else 0) else if j = true then 1 else 0
def pkO2 (f : Nat) (j : Bool) (a b : Nat) : Bool := decide (4 ≤ clsF f a) || (decide (4 ≤ clsF f b) || j)
theorem wd_0 (i : Nat) : wd 0 i = 0 := by unfold wd; rw [Nat.zero_div, Nat.zero_mod]; rfl
theorem pkF2_le (f : Nat) (j : Bool) (a b : Nat) : pkF2 f j a b ≤ 1 := by unfold pkF2; split <;> split <;> decide
theorem s_nan_Pick_2' (f i a1 a0 b1 b0 : Int) (hf : fN f < 4) : F_nan_Pick_2 [f, i, a1, a0, b1, b0] = [wd (pkB2 (fN f) (iNz i) (nB a1 a0) (nB b1 b0)) 1, wd (pkB2 (fN f) (iNz i) (nB a1 a0) (nB b1 b0)) 0, ((pkF2 (fN f) (iNz i) (nB a1 a0) (nB b1 b0) : Nat) : Int), b2i (pkO2 (fN f) (iNz i) (nB a1 a0) (nB b1 b0))] := by
  rw [s_nan_Pick_2 _ _ _ _ _ _ hf]
  unfold pkB2 pkF2 pkO2
  by_cases h1 : 4 ≤ clsF (fN f) (nB a1 a0)
  · simp only [h1, if_true, decide_true, Bool.true_or, true_or]
    split <;> rfl
  · by_cases h2 : 4 ≤ clsF (fN f) (nB b1 b0)
    · simp only [h1, h2, if_true, if_false, decide_true, decide_false, Bool.true_or, Bool.false_or, or_true]
      split <;> rfl
    · cases hi : iNz i with
      | true => simp only [h1, h2, if_true, if_false, decide_false, Bool.false_or, or_self]; rfl
      | false => simp only [h1, h2, if_false, decide_false, Bool.false_or, or_self, Bool.false_eq_true, wd_0]; rfl
theorem i64_cast {n : Nat} (h : n < 9223372036854775808) : i64 (n : Int) = (n : Int) := i64_id (by omega) (by omega)
theorem or1_even {n : Nat} (h : n % 2 = 0) : n ||| 1 = n + 1 := by
  apply Nat.eq_of_testBit_eq
  intro i
  rw [Nat.testBit_or]
  cases i with
  | zero => simp [Nat.testBit_zero]; omega
  | succ i =>
    rw [Nat.testBit_succ, Nat.testBit_succ, Nat.testBit_succ, show (n + 1) / 2 = n / 2 by omega]
    simp
/-- the lowest bit set -/
theorem wd_or1 {n : Nat} (h : n % 2 = 0) : iOp .or .u64 (wd n 0) 1 = wd (n + 1) 0 ∧ wd n 1 = wd (n + 1) 1 ∧ wd n 2 = wd (n + 1) 2 ∧ wd n 3 = wd (n + 1) 3 := by
  have h1 : (1 : Int) = wd 1 0 := by unfold wd; rw [Nat.pow_zero, Nat.div_one]; rfl
  have hz : ∀ i, 1 ≤ i → wd (n ||| 1) i = wd n i := fun i hi => by
    rw [← wd_or]
    have : wd 1 i = 0 := by
      unfold wd
      rw [Nat.div_eq_of_lt]
      · rfl
      · exact Nat.one_lt_pow (by omega) (by decide)
    rw [this, show (0 : Int) = ((0 : Nat) : Int) from rfl, wd_cast, lor_cast _ _ (Nat.mod_lt _ W64_pos) W64_pos, Nat.or_zero]
  rw [or1_even h] at hz
  refine ⟨?_, (hz 1 (by omega)).symm, (hz 2 (by omega)).symm, (hz 3 (by omega)).symm⟩
  conv => { lhs; rw [h1] }
  rw [wd_or, or1_even h]
theorem unS_big {f a : Nat} (hf : f < 4) (h : clsF f a = 1 ∨ clsF f a = 2) : 2 ^ 127 ≤ unS f a ∧ unS f a = FP.unSig f (FP.cod f a) ∧ unE f a = FP.unExp f (FP.cod f a) ∧ 0 < FP.cod f a ∧ FP.cod f a < FP.inf f := by
  obtain ⟨h1, h2, h3⟩ := cls_fin hf (show clsF f a < 3 by omega)
  have h0 : 0 < FP.cod f a := Nat.pos_of_ne_zero (h3.1 h)
  unfold unS unE
  rw [if_pos h, if_pos h]
  exact ⟨(FP.un_sig hf h0 h1).1, rfl, rfl, h0, h1⟩
theorem quo_lt {S D : Nat} (hS : S < 2 ^ 256) (hD : 2 ^ 127 ≤ D) : S / D * 2 ^ 100 + 1 < W256 := by
  have h1 : S / D < 2 ^ 129 := by
    rw [Nat.div_lt_iff_lt_mul (by have := FP.two_pow_pos 127; omega)]
    calc S < 2 ^ 129 * 2 ^ 127 := by rw [← Nat.pow_add]; exact hS
      _ ≤ 2 ^ 129 * D := Nat.mul_le_mul_left _ hD
  have h2 : S / D * 2 ^ 100 ≤ 2 ^ 129 * 2 ^ 100 := Nat.mul_le_mul_right _ (Nat.le_of_lt h1)
  rw [← Nat.pow_add] at h2
  have h3 : (2 : Nat) ^ (129 + 100) + 1 < 2 ^ 256 := by decide
  rw [W256_pow]; omega
theorem div_fin {f m a b n : Nat} {after neg : Bool} (hf : f < 4) (ha : clsF f a = 1 ∨ clsF f a = 2) (hb : clsF f b = 1 ∨ clsF f b = 2) (hn : n / 2 ^ 100 = unS f a * W128 / unS f b) (hz : n % 2 ^ 100 = 0 ↔ unS f a * W128 % unS f b = 0) :
    FP.roundE (FP.fP f) (FP.fE f) m after neg (clipE (i64 (i64 (i64 (i64 (unE f a) - i64 (unE f b)) + 27)))) n = FP.divC f m after neg (FP.cod f a) (FP.cod f b) := by
  obtain ⟨_, a2, a3, a4, a5⟩ := unS_big hf ha
  obtain ⟨_, b2, b3, b4, b5⟩ := unS_big hf hb
  have ra := unE_rng (f := f) (b := a)
  have rb := unE_rng (f := f) (b := b)
  rw [i64_id (n := unE f a) (by omega) (by omega), i64_id (n := unE f b) (by omega) (by omega), i64_id (n := unE f a - unE f b) (by omega) (by omega), i64_id (n := unE f a - unE f b + 27) (by omega) (by omega), i64_id (by omega) (by omega), clip_id (by omega) (by omega)]
  rw [a2, b2, W128_pow] at hn hz
  rw [a3, b3]
  exact FP.round_div hf a4 a5 b4 b5 hn hz
theorem oR_eq' (p : Nat × Nat) : oR p = [wd p.1 1, wd p.1 0, (p.2 : Int)] := by obtain ⟨a, b⟩ := p; exact oR_eq a b
theorem s_div_Div (f m t a1 a0 b1 b0 : Int) (hf : fN f < 4) (hm : u8 m ≤ 4) : F_div_Div [f, m, t, a1, a0, b1, b0] = oR (divR (fN f) (u8 m).toNat (iNz t) (nB a1 a0) (nB b1 b0)) := by
  have hf3 : fN (u8 f) < 4 := by rw [fN_u]; exact hf
  have hm3 : u8 (u8 m) ≤ 4 := by rw [u8_u8]; exact hm
  have known := known_f hf
  have knownm := known_m hm
  have sg : ∀ x, sgnF (fN f) x = FP.sgn (fN f) x := fun x => by unfold sgnF; rw [decide_eq_true hf, Bool.true_and]
  have unA : F_fields_Unpack [u8 f, u64 a1, u64 a0] = [b2i (FP.sgn (fN f) (nB a1 a0)), ((clsF (fN f) (nB a1 a0) : Nat) : Int), unE (fN f) (nB a1 a0), wd (unS (fN f) (nB a1 a0)) 1, wd (unS (fN f) (nB a1 a0)) 0] := by
    rw [s_fields_Unpack, fN_u, nB_u, sg, oB_eq]; rfl
  have unB : F_fields_Unpack [u8 f, u64 b1, u64 b0] = [b2i (FP.sgn (fN f) (nB b1 b0)), ((clsF (fN f) (nB b1 b0) : Nat) : Int), unE (fN f) (nB b1 b0), wd (unS (fN f) (nB b1 b0)) 1, wd (unS (fN f) (nB b1 b0)) 0] := by
    rw [s_fields_Unpack, fN_u, nB_u, sg, oB_eq]; rfl
  have u8A := clsF_u8 (fN f) (nB a1 a0)
  have u8B := clsF_u8 (fN f) (nB b1 b0)
  have pk : ∀ j, iNz j = likeC (clsF (fN f) (nB a1 a0)) (clsF (fN f) (nB b1 b0)) → F_nan_Pick_2 [u8 f, j, u64 a1, u64 a0, u64 b1, u64 b0] = [wd (pkB2 (fN f) (likeC (clsF (fN f) (nB a1 a0)) (clsF (fN f) (nB b1 b0))) (nB a1 a0) (nB b1 b0)) 1, wd (pkB2 (fN f) (likeC (clsF (fN f) (nB a1 a0)) (clsF (fN f) (nB b1 b0))) (nB a1 a0) (nB b1 b0)) 0, ((pkF2 (fN f) (likeC (clsF (fN f) (nB a1 a0)) (clsF (fN f) (nB b1 b0))) (nB a1 a0) (nB b1 b0) : Nat) : Int), b2i (pkO2 (fN f) (likeC (clsF (fN f) (nB a1 a0)) (clsF (fN f) (nB b1 b0))) (nB a1 a0) (nB b1 b0))] := fun j hj => by
    rw [s_nan_Pick_2' _ _ _ _ _ _ hf3, fN_u, nB_u, nB_u, hj]
  have xb : (!(FP.sgn (fN f) (nB a1 a0) == FP.sgn (fN f) (nB b1 b0))) = (FP.sgn (fN f) (nB a1 a0) != FP.sgn (fN f) (nB b1 b0)) := rfl
  have infE : F_format_Inf [u8 f, b2i (!(FP.sgn (fN f) (nB a1 a0) == FP.sgn (fN f) (nB b1 b0)))] = [wd (FP.mk (fN f) (FP.sgn (fN f) (nB a1 a0) != FP.sgn (fN f) (nB b1 b0)) (FP.inf (fN f))) 1, wd (FP.mk (fN f) (FP.sgn (fN f) (nB a1 a0) != FP.sgn (fN f) (nB b1 b0)) (FP.inf (fN f))) 0] := by
    rw [s_format_Inf, fN_u, if_pos hf, iNz_b2i, oB_eq, xb]
  have norE : F_format_Nought [u8 f, b2i (!(FP.sgn (fN f) (nB a1 a0) == FP.sgn (fN f) (nB b1 b0)))] = [wd (FP.mk (fN f) (FP.sgn (fN f) (nB a1 a0) != FP.sgn (fN f) (nB b1 b0)) 0) 1, wd (FP.mk (fN f) (FP.sgn (fN f) (nB a1 a0) != FP.sgn (fN f) (nB b1 b0)) 0) 0] := by
    rw [s_format_Nought, fN_u, if_pos hf, iNz_b2i, oB_eq, xb]
  -- what is answered
  have like_ok : (clsF (fN f) (nB a1 a0) = clsF (fN f) (nB b1 b0) ∧ (clsF (fN f) (nB a1 a0) = 3 ∨ clsF (fN f) (nB a1 a0) = 0)) → pkO2 (fN f) (likeC (clsF (fN f) (nB a1 a0)) (clsF (fN f) (nB b1 b0))) (nB a1 a0) (nB b1 b0) = true := fun h => by
    unfold pkO2
    rw [(likeC_eq _ _).2 h, Bool.or_true, Bool.or_true]
  rw [oR_eq']
  generalize hR : divR (fN f) (u8 m).toNat (iNz t) (nB a1 a0) (nB b1 b0) = R
  have not_ok : ¬ pkO2 (fN f) (likeC (clsF (fN f) (nB a1 a0)) (clsF (fN f) (nB b1 b0))) (nB a1 a0) (nB b1 b0) = true → ¬ 4 ≤ clsF (fN f) (nB a1 a0) ∧ ¬ 4 ≤ clsF (fN f) (nB b1 b0) ∧ ¬ likeC (clsF (fN f) (nB a1 a0)) (clsF (fN f) (nB b1 b0)) = true := fun h => by
    unfold pkO2 at h
    simp only [Bool.or_eq_true, decide_eq_true_iff, not_or] at h
    exact h
  have rP : pkO2 (fN f) (likeC (clsF (fN f) (nB a1 a0)) (clsF (fN f) (nB b1 b0))) (nB a1 a0) (nB b1 b0) = true → R = (pkB2 (fN f) (likeC (clsF (fN f) (nB a1 a0)) (clsF (fN f) (nB b1 b0))) (nB a1 a0) (nB b1 b0), pkF2 (fN f) (likeC (clsF (fN f) (nB a1 a0)) (clsF (fN f) (nB b1 b0))) (nB a1 a0) (nB b1 b0)) := fun h => by
    rw [← hR]
    unfold divR pkB2 pkF2 nanFlag
    have lk : likeC (clsF (fN f) (nB a1 a0)) (clsF (fN f) (nB b1 b0)) = true → ¬ 4 ≤ clsF (fN f) (nB a1 a0) ∧ ¬ 4 ≤ clsF (fN f) (nB b1 b0) := fun h => by
      unfold likeC at h
      simp only [Bool.and_eq_true, Bool.or_eq_true, decide_eq_true_iff] at h
      omega
    by_cases h1 : 4 ≤ clsF (fN f) (nB a1 a0)
    · have h3 : ¬ likeC (clsF (fN f) (nB a1 a0)) (clsF (fN f) (nB b1 b0)) = true := fun h => (lk h).1 h1
      simp only [h1, h3, if_true, true_or, false_or, Bool.false_eq_true]
    · by_cases h2 : 4 ≤ clsF (fN f) (nB b1 b0)
      · have h3 : ¬ likeC (clsF (fN f) (nB a1 a0)) (clsF (fN f) (nB b1 b0)) = true := fun h => (lk h).2 h2
        simp only [h1, h2, h3, if_true, if_false, or_true, false_or, Bool.false_eq_true]
      · have h3 : likeC (clsF (fN f) (nB a1 a0)) (clsF (fN f) (nB b1 b0)) = true := by
          unfold pkO2 at h
          simpa only [Bool.or_eq_true, decide_eq_true_iff, h1, h2, false_or] using h
        simp only [h1, h2, h3, if_true, if_false, or_self]
  have rS : ¬ pkO2 (fN f) (likeC (clsF (fN f) (nB a1 a0)) (clsF (fN f) (nB b1 b0))) (nB a1 a0) (nB b1 b0) = true → R = (FP.mk (fN f) (FP.sgn (fN f) (nB a1 a0) != FP.sgn (fN f) (nB b1 b0)) (divS (fN f) (u8 m).toNat (iNz t) (FP.sgn (fN f) (nB a1 a0) != FP.sgn (fN f) (nB b1 b0)) (FP.cod (fN f) (nB a1 a0)) (FP.cod (fN f) (nB b1 b0))).1, (divS (fN f) (u8 m).toNat (iNz t) (FP.sgn (fN f) (nB a1 a0) != FP.sgn (fN f) (nB b1 b0)) (FP.cod (fN f) (nB a1 a0)) (FP.cod (fN f) (nB b1 b0))).2) := fun h => by
    obtain ⟨h1, h2, h3⟩ := not_ok h
    rw [← hR]; unfold divR; rw [if_neg h1, if_neg h2, if_neg h3]
  have cA : FP.clsC (fN f) (FP.cod (fN f) (nB a1 a0)) = clsF (fN f) (nB a1 a0) := (clsF_cod hf _).symm
  have cB : FP.clsC (fN f) (FP.cod (fN f) (nB b1 b0)) = clsF (fN f) (nB b1 b0) := (clsF_cod hf _).symm
  have rI : ¬ pkO2 (fN f) (likeC (clsF (fN f) (nB a1 a0)) (clsF (fN f) (nB b1 b0))) (nB a1 a0) (nB b1 b0) = true → clsF (fN f) (nB a1 a0) = 3 → R = (FP.mk (fN f) (FP.sgn (fN f) (nB a1 a0) != FP.sgn (fN f) (nB b1 b0)) (FP.inf (fN f)), 0) := fun h h1 => by
    rw [rS h]; unfold divS; rw [cA, if_pos h1]
  have rZ : ¬ pkO2 (fN f) (likeC (clsF (fN f) (nB a1 a0)) (clsF (fN f) (nB b1 b0))) (nB a1 a0) (nB b1 b0) = true → ¬ clsF (fN f) (nB a1 a0) = 3 → (clsF (fN f) (nB b1 b0) = 3 ∨ clsF (fN f) (nB a1 a0) = 0) → R = (FP.mk (fN f) (FP.sgn (fN f) (nB a1 a0) != FP.sgn (fN f) (nB b1 b0)) 0, 0) := fun h h1 h2 => by
    rw [rS h]; unfold divS; rw [cA, cB, if_neg h1, if_pos h2]
  have rD : ¬ pkO2 (fN f) (likeC (clsF (fN f) (nB a1 a0)) (clsF (fN f) (nB b1 b0))) (nB a1 a0) (nB b1 b0) = true → ¬ clsF (fN f) (nB a1 a0) = 3 → ¬ (clsF (fN f) (nB b1 b0) = 3 ∨ clsF (fN f) (nB a1 a0) = 0) → clsF (fN f) (nB b1 b0) = 0 → R = (FP.mk (fN f) (FP.sgn (fN f) (nB a1 a0) != FP.sgn (fN f) (nB b1 b0)) (FP.inf (fN f)), 2) := fun h h1 h2 h3 => by
    rw [rS h]; unfold divS; rw [cA, cB, if_neg h1, if_neg h2, if_pos h3]
  have pkF8 : u8 ((pkF2 (fN f) (likeC (clsF (fN f) (nB a1 a0)) (clsF (fN f) (nB b1 b0))) (nB a1 a0) (nB b1 b0) : Nat) : Int) = ((pkF2 (fN f) (likeC (clsF (fN f) (nB a1 a0)) (clsF (fN f) (nB b1 b0))) (nB a1 a0) (nB b1 b0) : Nat) : Int) := by
    have := pkF2_le (fN f) (likeC (clsF (fN f) (nB a1 a0)) (clsF (fN f) (nB b1 b0))) (nB a1 a0) (nB b1 b0)
    exact u8_id (by omega) (by omega)
  -- the quotient
  generalize hQ : FP.divC (fN f) (u8 m).toNat (iNz t) (FP.sgn (fN f) (nB a1 a0) != FP.sgn (fN f) (nB b1 b0)) (FP.cod (fN f) (nB a1 a0)) (FP.cod (fN f) (nB b1 b0)) = Q
  have rQ : ¬ pkO2 (fN f) (likeC (clsF (fN f) (nB a1 a0)) (clsF (fN f) (nB b1 b0))) (nB a1 a0) (nB b1 b0) = true → ¬ clsF (fN f) (nB a1 a0) = 3 → ¬ (clsF (fN f) (nB b1 b0) = 3 ∨ clsF (fN f) (nB a1 a0) = 0) → ¬ clsF (fN f) (nB b1 b0) = 0 → R = (FP.mk (fN f) (FP.sgn (fN f) (nB a1 a0) != FP.sgn (fN f) (nB b1 b0)) Q.1, Q.2) := fun h h1 h2 h3 => by
    rw [rS h]; unfold divS; rw [cA, cB, if_neg h1, if_neg h2, if_neg h3, hQ]
  have Q8 : u8 (Q.2 : Int) = (Q.2 : Int) := by
    have := FP.roundC_flag_set (FP.fP (fN f)) (FP.fE (fN f)) (u8 m).toNat (iNz t) (FP.sgn (fN f) (nB a1 a0) != FP.sgn (fN f) (nB b1 b0)) (FP.val (fN f) (FP.cod (fN f) (nB a1 a0)) * 2 ^ FP.fU (fN f)) (FP.val (fN f) (FP.cod (fN f) (nB b1 b0)))
    rw [← hQ]; unfold FP.divC
    exact u8_id (by omega) (by omega)
  obtain ⟨S, hS⟩ : ∃ S, S = unS (fN f) (nB a1 a0) * W128 := ⟨_, rfl⟩
  obtain ⟨D, hD⟩ : ∃ D, D = unS (fN f) (nB b1 b0) := ⟨_, rfl⟩
  have hS256 : S < W256 := by rw [hS, W256_sq]; exact Nat.mul_lt_mul_of_pos_right (un_lt _ _) W128_pos
  have hD128 : D < W128 := by rw [hD]; exact un_lt _ _
  have joE : F_wide_Join [wd (unS (fN f) (nB a1 a0)) 1, wd (unS (fN f) (nB a1 a0)) 0, 0, 0] = [wd S 0, wd S 1, wd S 2, wd S 3] := by
    have z : nB 0 0 = 0 := by unfold nB; rw [show u64 0 = 0 from by decide]; rfl
    rw [s_wide_Join, nB_small (un_lt _ _), z, Nat.add_zero, ← hS, oW_eq]
  obtain ⟨q, hq⟩ : ∃ q, q = S / D * 2 ^ 100 := ⟨_, rfl⟩
  have fin : ¬ pkO2 (fN f) (likeC (clsF (fN f) (nB a1 a0)) (clsF (fN f) (nB b1 b0))) (nB a1 a0) (nB b1 b0) = true → ¬ clsF (fN f) (nB a1 a0) = 3 → ¬ clsF (fN f) (nB a1 a0) = 0 → ¬ clsF (fN f) (nB b1 b0) = 3 → ¬ clsF (fN f) (nB b1 b0) = 0 →
      (clsF (fN f) (nB a1 a0) = 1 ∨ clsF (fN f) (nB a1 a0) = 2) ∧ (clsF (fN f) (nB b1 b0) = 1 ∨ clsF (fN f) (nB b1 b0) = 2) := fun h h1 h2 h3 h4 => by
    obtain ⟨k1, k2, k3⟩ := not_ok h; omega
  have quE : ∀ g : (clsF (fN f) (nB a1 a0) = 1 ∨ clsF (fN f) (nB a1 a0) = 2) ∧ (clsF (fN f) (nB b1 b0) = 1 ∨ clsF (fN f) (nB b1 b0) = 2), fQuot [wd S 0, wd S 1, wd S 2, wd S 3, wd (unS (fN f) (nB b1 b0)) 1, wd (unS (fN f) (nB b1 b0)) 0] = [wd (S / D) 0, wd (S / D) 1, wd (S / D) 2, wd (S / D) 3, wd (S % D) 1, wd (S % D) 0, 1] := fun g => by
    have hd := (unS_big hf g.2).1
    rw [fQuot_eq, nW_small hS256, nB_small (un_lt _ _), ← hD, qOut_p S (by omega), oW_eq, oB_eq]; rfl
  have hq256 : ∀ g : (clsF (fN f) (nB a1 a0) = 1 ∨ clsF (fN f) (nB a1 a0) = 2) ∧ (clsF (fN f) (nB b1 b0) = 1 ∨ clsF (fN f) (nB b1 b0) = 2), q + 1 < W256 := fun g => by
    have hd := (unS_big hf g.2).1
    rw [hq]; exact quo_lt (by rw [← W256_pow]; exact hS256) (by rw [hD]; exact hd)
  have leE : ∀ g : (clsF (fN f) (nB a1 a0) = 1 ∨ clsF (fN f) (nB a1 a0) = 2) ∧ (clsF (fN f) (nB b1 b0) = 1 ∨ clsF (fN f) (nB b1 b0) = 2), F_shift_WideLeft [wd (S / D) 0, wd (S / D) 1, wd (S / D) 2, wd (S / D) 3, 100] = [wd q 0, wd q 1, wd q 2, wd q 3] := fun g => by
    have h1 := hq256 g
    have hlt : S / D < W256 := Nat.lt_of_le_of_lt (Nat.div_le_self _ _) hS256
    have h100 : (i64 100).toNat = 100 := by decide
    rw [s_shift_WideLeft, nW_small hlt, h100, ← hq, Nat.mod_eq_of_lt (by omega), oW_eq]
  have zeE : ∀ g : (clsF (fN f) (nB a1 a0) = 1 ∨ clsF (fN f) (nB a1 a0) = 2) ∧ (clsF (fN f) (nB b1 b0) = 1 ∨ clsF (fN f) (nB b1 b0) = 2), F_word_Zero [wd (S % D) 1, wd (S % D) 0] = [b2i (decide (S % D = 0))] := fun g => by
    have hd := (unS_big hf g.2).1
    have hlt : S % D < W128 := Nat.lt_trans (Nat.mod_lt _ (by omega)) hD128
    rw [s_word_Zero, nB_small hlt]
  have ev : q % 2 = 0 := by
    rw [hq, show (2 : Nat) ^ 100 = 2 * 2 ^ 99 by rw [← Nat.pow_succ'], show S / D * (2 * 2 ^ 99) = 2 * (S / D * 2 ^ 99) by ac_rfl, Nat.mul_mod_right]
  have hp := FP.two_pow_pos 100
  have rnE1 : ∀ g : (clsF (fN f) (nB a1 a0) = 1 ∨ clsF (fN f) (nB a1 a0) = 2) ∧ (clsF (fN f) (nB b1 b0) = 1 ∨ clsF (fN f) (nB b1 b0) = 2), ¬ S % D = 0 → F_pack_Round [u8 f, u8 m, b2i (iNz t), b2i (!(FP.sgn (fN f) (nB a1 a0) == FP.sgn (fN f) (nB b1 b0))), i64 (i64 (i64 (unE (fN f) (nB a1 a0)) - i64 (unE (fN f) (nB b1 b0))) + 27), iOp .or .u64 (wd q 0) 1, wd q 1, wd q 2, wd q 3] = [wd (FP.mk (fN f) (FP.sgn (fN f) (nB a1 a0) != FP.sgn (fN f) (nB b1 b0)) Q.1) 1, wd (FP.mk (fN f) (FP.sgn (fN f) (nB a1 a0) != FP.sgn (fN f) (nB b1 b0)) Q.1) 0, (Q.2 : Int)] := fun g hz => by
    obtain ⟨w0, w1, w2, w3⟩ := wd_or1 ev
    rw [w0, w1, w2, w3, s_pack_Round _ _ _ _ _ _ _ _ _ hf3 hm3, fN_u, u8_u8, iNz_b2i, iNz_b2i, nW_small (hq256 g), xb, div_fin hf g.1 g.2 (n := q + 1) (by
      rw [hq, ← hS, ← hD, Nat.mul_comm, Nat.mul_add_div hp, Nat.div_eq_of_lt (Nat.one_lt_pow (by decide) (by decide)), Nat.add_zero]) (by
      rw [hq, ← hS, ← hD, Nat.mul_comm, Nat.mul_add_mod, Nat.mod_eq_of_lt (Nat.one_lt_pow (by decide) (by decide))]
      exact ⟨fun h => (by cases h), fun h => absurd h hz⟩), hQ, oB_eq]; rfl
  have rnE0 : ∀ g : (clsF (fN f) (nB a1 a0) = 1 ∨ clsF (fN f) (nB a1 a0) = 2) ∧ (clsF (fN f) (nB b1 b0) = 1 ∨ clsF (fN f) (nB b1 b0) = 2), ¬ ¬ S % D = 0 → F_pack_Round [u8 f, u8 m, b2i (iNz t), b2i (!(FP.sgn (fN f) (nB a1 a0) == FP.sgn (fN f) (nB b1 b0))), i64 (i64 (i64 (unE (fN f) (nB a1 a0)) - i64 (unE (fN f) (nB b1 b0))) + 27), wd q 0, wd q 1, wd q 2, wd q 3] = [wd (FP.mk (fN f) (FP.sgn (fN f) (nB a1 a0) != FP.sgn (fN f) (nB b1 b0)) Q.1) 1, wd (FP.mk (fN f) (FP.sgn (fN f) (nB a1 a0) != FP.sgn (fN f) (nB b1 b0)) Q.1) 0, (Q.2 : Int)] := fun g hz => by
    have hz := Decidable.not_not.1 hz
    have hl := hq256 g
    rw [s_pack_Round _ _ _ _ _ _ _ _ _ hf3 hm3, fN_u, u8_u8, iNz_b2i, iNz_b2i, nW_small (n := q) (by omega), xb, div_fin hf g.1 g.2 (n := q) (by
      rw [hq, ← hS, ← hD, Nat.mul_div_cancel _ hp]) (by
      rw [hq, ← hS, ← hD, Nat.mul_mod_left]
      exact ⟨fun _ => hz, fun _ => rfl⟩), hQ, oB_eq]; rfl
  rw [F_div_Div, t_div_Div]
  refine tF (by simp only [l_an, l_ca, l_na, l_mc, l_mn, getI_0, getI_s, oB_eq, oW_eq, ev_bin, ev_conv, ev_ite, ev_lit, ev_var_u, ev_var_i, ev_var_8, ev_var_b, ev_var_t, ev_not, ev_and, ev_beq, ev_max, ev_min, op_eql, op_neq, op_lss, op_leq, op_gtr, op_geq, op_add, op_sub, iNz_b2i, w64_u, w64_i, w8_u, u64_wd, u64_u64, i64_i64, u8_u8]; exact known) ?_
  refine tF (by simp only [l_an, l_ca, l_na, l_mc, l_mn, getI_0, getI_s, oB_eq, oW_eq, ev_bin, ev_conv, ev_ite, ev_lit, ev_var_u, ev_var_i, ev_var_8, ev_var_b, ev_var_t, ev_not, ev_and, ev_beq, ev_max, ev_min, op_eql, op_neq, op_lss, op_leq, op_gtr, op_geq, op_add, op_sub, iNz_b2i, w64_u, w64_i, w8_u, u64_wd, u64_u64, i64_i64, u8_u8]; exact knownm) ?_
  refine (treeF_call (r := [b2i (FP.sgn (fN f) (nB a1 a0)), ((clsF (fN f) (nB a1 a0) : Nat) : Int), unE (fN f) (nB a1 a0), wd (unS (fN f) (nB a1 a0)) 1, wd (unS (fN f) (nB a1 a0)) 0]) (by simp only [l_an, l_ca, l_na, l_mc, l_mn, getI_0, getI_s, oB_eq, oW_eq, ev_bin, ev_conv, ev_ite, ev_lit, ev_var_u, ev_var_i, ev_var_8, ev_var_b, ev_var_t, ev_not, ev_and, ev_beq, ev_max, ev_min, op_eql, op_neq, op_lss, op_leq, op_gtr, op_geq, op_add, op_sub, iNz_b2i, w64_u, w64_i, w8_u, u64_wd, u64_u64, i64_i64, u8_u8, ph_D1_fields_Unpack]; exact unA) (by rfl)).trans ?_
  refine (treeF_call (r := [b2i (FP.sgn (fN f) (nB b1 b0)), ((clsF (fN f) (nB b1 b0) : Nat) : Int), unE (fN f) (nB b1 b0), wd (unS (fN f) (nB b1 b0)) 1, wd (unS (fN f) (nB b1 b0)) 0]) (by simp only [l_an, l_ca, l_na, l_mc, l_mn, getI_0, getI_s, oB_eq, oW_eq, ev_bin, ev_conv, ev_ite, ev_lit, ev_var_u, ev_var_i, ev_var_8, ev_var_b, ev_var_t, ev_not, ev_and, ev_beq, ev_max, ev_min, op_eql, op_neq, op_lss, op_leq, op_gtr, op_geq, op_add, op_sub, iNz_b2i, w64_u, w64_i, w8_u, u64_wd, u64_u64, i64_i64, u8_u8, ph_D1_fields_Unpack]; exact unB) (by rfl)).trans ?_
  refine tI (clsF (fN f) (nB a1 a0) = clsF (fN f) (nB b1 b0)) (by simp only [l_an, l_ca, l_na, l_mc, l_mn, getI_0, getI_s, oB_eq, oW_eq, ev_bin, ev_conv, ev_ite, ev_lit, ev_var_u, ev_var_i, ev_var_8, ev_var_b, ev_var_t, ev_not, ev_and, ev_beq, ev_max, ev_min, op_eql, op_neq, op_lss, op_leq, op_gtr, op_geq, op_add, op_sub, iNz_b2i, w64_u, w64_i, w8_u, u64_wd, u64_u64, i64_i64, u8_u8, u8A, u8B]; exact beq_nn _ _) (fun h1 => ?_) (fun h1 => ?_)
  · refine tI (clsF (fN f) (nB a1 a0) = 3) (by simp only [l_an, l_ca, l_na, l_mc, l_mn, getI_0, getI_s, oB_eq, oW_eq, ev_bin, ev_conv, ev_ite, ev_lit, ev_var_u, ev_var_i, ev_var_8, ev_var_b, ev_var_t, ev_not, ev_and, ev_beq, ev_max, ev_min, op_eql, op_neq, op_lss, op_leq, op_gtr, op_geq, op_add, op_sub, iNz_b2i, w64_u, w64_i, w8_u, u64_wd, u64_u64, i64_i64, u8_u8, u8A]; exact beq_nk _ 3) (fun h2 => ?_) (fun h2 => ?_)
    · refine (treeF_call (r := [wd (pkB2 (fN f) (likeC (clsF (fN f) (nB a1 a0)) (clsF (fN f) (nB b1 b0))) (nB a1 a0) (nB b1 b0)) 1, wd (pkB2 (fN f) (likeC (clsF (fN f) (nB a1 a0)) (clsF (fN f) (nB b1 b0))) (nB a1 a0) (nB b1 b0)) 0, ((pkF2 (fN f) (likeC (clsF (fN f) (nB a1 a0)) (clsF (fN f) (nB b1 b0))) (nB a1 a0) (nB b1 b0) : Nat) : Int), b2i (pkO2 (fN f) (likeC (clsF (fN f) (nB a1 a0)) (clsF (fN f) (nB b1 b0))) (nB a1 a0) (nB b1 b0))]) (by simp only [l_an, l_ca, l_na, l_mc, l_mn, getI_0, getI_s, oB_eq, oW_eq, ev_bin, ev_conv, ev_ite, ev_lit, ev_var_u, ev_var_i, ev_var_8, ev_var_b, ev_var_t, ev_not, ev_and, ev_beq, ev_max, ev_min, op_eql, op_neq, op_lss, op_leq, op_gtr, op_geq, op_add, op_sub, iNz_b2i, w64_u, w64_i, w8_u, u64_wd, u64_u64, i64_i64, u8_u8, ph_D1_nan_Pick_2, u8A]; exact pk _ (likeC_of (by simp only [iNz_b2i, beq_nk0, decide_eq_true_iff, show iNz 1 = true from rfl, show iNz 0 = false from rfl, Bool.false_eq_true, true_iff, false_iff]; omega))) (by rfl)).trans ?_
      refine tI (pkO2 (fN f) (likeC (clsF (fN f) (nB a1 a0)) (clsF (fN f) (nB b1 b0))) (nB a1 a0) (nB b1 b0) = true) (by simp only [l_an, l_ca, l_na, l_mc, l_mn, getI_0, getI_s, oB_eq, oW_eq, ev_bin, ev_conv, ev_ite, ev_lit, ev_var_u, ev_var_i, ev_var_8, ev_var_b, ev_var_t, ev_not, ev_and, ev_beq, ev_max, ev_min, op_eql, op_neq, op_lss, op_leq, op_gtr, op_geq, op_add, op_sub, iNz_b2i, w64_u, w64_i, w8_u, u64_wd, u64_u64, i64_i64, u8_u8]; exact (Bool.decide_coe _).symm) (fun h3 => ?_) (fun h3 => ?_)
      · rw [treeF_leaf rfl]
        simp only [l_an, l_ca, l_na, l_mc, l_mn, getI_0, getI_s, oB_eq, oW_eq, ev_bin, ev_conv, ev_ite, ev_lit, ev_var_u, ev_var_i, ev_var_8, ev_var_b, ev_var_t, ev_not, ev_and, ev_beq, ev_max, ev_min, op_eql, op_neq, op_lss, op_leq, op_gtr, op_geq, op_add, op_sub, iNz_b2i, w64_u, w64_i, w8_u, u64_wd, u64_u64, i64_i64, u8_u8]
        rw [rP h3]
        simp only [pkF8]
      · refine tI (clsF (fN f) (nB b1 b0) = 3) (by simp only [l_an, l_ca, l_na, l_mc, l_mn, getI_0, getI_s, oB_eq, oW_eq, ev_bin, ev_conv, ev_ite, ev_lit, ev_var_u, ev_var_i, ev_var_8, ev_var_b, ev_var_t, ev_not, ev_and, ev_beq, ev_max, ev_min, op_eql, op_neq, op_lss, op_leq, op_gtr, op_geq, op_add, op_sub, iNz_b2i, w64_u, w64_i, w8_u, u64_wd, u64_u64, i64_i64, u8_u8, u8B]; exact beq_nk _ 3) (fun h4 => ?_) (fun h4 => ?_)
        · refine (treeF_call (r := [wd (FP.mk (fN f) (FP.sgn (fN f) (nB a1 a0) != FP.sgn (fN f) (nB b1 b0)) (FP.inf (fN f))) 1, wd (FP.mk (fN f) (FP.sgn (fN f) (nB a1 a0) != FP.sgn (fN f) (nB b1 b0)) (FP.inf (fN f))) 0]) (by simp only [l_an, l_ca, l_na, l_mc, l_mn, getI_0, getI_s, oB_eq, oW_eq, ev_bin, ev_conv, ev_ite, ev_lit, ev_var_u, ev_var_i, ev_var_8, ev_var_b, ev_var_t, ev_not, ev_and, ev_beq, ev_max, ev_min, op_eql, op_neq, op_lss, op_leq, op_gtr, op_geq, op_add, op_sub, iNz_b2i, w64_u, w64_i, w8_u, u64_wd, u64_u64, i64_i64, u8_u8, ph_D1_format_Inf]; exact infE) (by rfl)).trans ?_
          rw [treeF_leaf rfl]
          simp only [l_an, l_ca, l_na, l_mc, l_mn, getI_0, getI_s, oB_eq, oW_eq, ev_bin, ev_conv, ev_ite, ev_lit, ev_var_u, ev_var_i, ev_var_8, ev_var_b, ev_var_t, ev_not, ev_and, ev_beq, ev_max, ev_min, op_eql, op_neq, op_lss, op_leq, op_gtr, op_geq, op_add, op_sub, iNz_b2i, w64_u, w64_i, w8_u, u64_wd, u64_u64, i64_i64, u8_u8]
          first | (exact absurd (like_ok (by omega)) h3) | (rw [rI h3 (by omega)]; rfl) | (rw [rZ h3 (by omega) (by omega)]; rfl) | (rw [rD h3 (by omega) (by omega) (by omega)]; rfl)
        · refine (treeF_call (r := [wd (FP.mk (fN f) (FP.sgn (fN f) (nB a1 a0) != FP.sgn (fN f) (nB b1 b0)) (FP.inf (fN f))) 1, wd (FP.mk (fN f) (FP.sgn (fN f) (nB a1 a0) != FP.sgn (fN f) (nB b1 b0)) (FP.inf (fN f))) 0]) (by simp only [l_an, l_ca, l_na, l_mc, l_mn, getI_0, getI_s, oB_eq, oW_eq, ev_bin, ev_conv, ev_ite, ev_lit, ev_var_u, ev_var_i, ev_var_8, ev_var_b, ev_var_t, ev_not, ev_and, ev_beq, ev_max, ev_min, op_eql, op_neq, op_lss, op_leq, op_gtr, op_geq, op_add, op_sub, iNz_b2i, w64_u, w64_i, w8_u, u64_wd, u64_u64, i64_i64, u8_u8, ph_D1_format_Inf]; exact infE) (by rfl)).trans ?_
          rw [treeF_leaf rfl]
          simp only [l_an, l_ca, l_na, l_mc, l_mn, getI_0, getI_s, oB_eq, oW_eq, ev_bin, ev_conv, ev_ite, ev_lit, ev_var_u, ev_var_i, ev_var_8, ev_var_b, ev_var_t, ev_not, ev_and, ev_beq, ev_max, ev_min, op_eql, op_neq, op_lss, op_leq, op_gtr, op_geq, op_add, op_sub, iNz_b2i, w64_u, w64_i, w8_u, u64_wd, u64_u64, i64_i64, u8_u8]
          first | (exact absurd (like_ok (by omega)) h3) | (rw [rI h3 (by omega)]; rfl) | (rw [rZ h3 (by omega) (by omega)]; rfl) | (rw [rD h3 (by omega) (by omega) (by omega)]; rfl)
    · refine (treeF_call (r := [wd (pkB2 (fN f) (likeC (clsF (fN f) (nB a1 a0)) (clsF (fN f) (nB b1 b0))) (nB a1 a0) (nB b1 b0)) 1, wd (pkB2 (fN f) (likeC (clsF (fN f) (nB a1 a0)) (clsF (fN f) (nB b1 b0))) (nB a1 a0) (nB b1 b0)) 0, ((pkF2 (fN f) (likeC (clsF (fN f) (nB a1 a0)) (clsF (fN f) (nB b1 b0))) (nB a1 a0) (nB b1 b0) : Nat) : Int), b2i (pkO2 (fN f) (likeC (clsF (fN f) (nB a1 a0)) (clsF (fN f) (nB b1 b0))) (nB a1 a0) (nB b1 b0))]) (by simp only [l_an, l_ca, l_na, l_mc, l_mn, getI_0, getI_s, oB_eq, oW_eq, ev_bin, ev_conv, ev_ite, ev_lit, ev_var_u, ev_var_i, ev_var_8, ev_var_b, ev_var_t, ev_not, ev_and, ev_beq, ev_max, ev_min, op_eql, op_neq, op_lss, op_leq, op_gtr, op_geq, op_add, op_sub, iNz_b2i, w64_u, w64_i, w8_u, u64_wd, u64_u64, i64_i64, u8_u8, ph_D1_nan_Pick_2, u8A]; exact pk _ (likeC_of (by simp only [iNz_b2i, beq_nk0, decide_eq_true_iff, show iNz 1 = true from rfl, show iNz 0 = false from rfl, Bool.false_eq_true, true_iff, false_iff]; omega))) (by rfl)).trans ?_
      refine tI (pkO2 (fN f) (likeC (clsF (fN f) (nB a1 a0)) (clsF (fN f) (nB b1 b0))) (nB a1 a0) (nB b1 b0) = true) (by simp only [l_an, l_ca, l_na, l_mc, l_mn, getI_0, getI_s, oB_eq, oW_eq, ev_bin, ev_conv, ev_ite, ev_lit, ev_var_u, ev_var_i, ev_var_8, ev_var_b, ev_var_t, ev_not, ev_and, ev_beq, ev_max, ev_min, op_eql, op_neq, op_lss, op_leq, op_gtr, op_geq, op_add, op_sub, iNz_b2i, w64_u, w64_i, w8_u, u64_wd, u64_u64, i64_i64, u8_u8]; exact (Bool.decide_coe _).symm) (fun h5 => ?_) (fun h5 => ?_)
      · rw [treeF_leaf rfl]
        simp only [l_an, l_ca, l_na, l_mc, l_mn, getI_0, getI_s, oB_eq, oW_eq, ev_bin, ev_conv, ev_ite, ev_lit, ev_var_u, ev_var_i, ev_var_8, ev_var_b, ev_var_t, ev_not, ev_and, ev_beq, ev_max, ev_min, op_eql, op_neq, op_lss, op_leq, op_gtr, op_geq, op_add, op_sub, iNz_b2i, w64_u, w64_i, w8_u, u64_wd, u64_u64, i64_i64, u8_u8]
        rw [rP h5]
        simp only [pkF8]
      · refine tI (clsF (fN f) (nB b1 b0) = 3) (by simp only [l_an, l_ca, l_na, l_mc, l_mn, getI_0, getI_s, oB_eq, oW_eq, ev_bin, ev_conv, ev_ite, ev_lit, ev_var_u, ev_var_i, ev_var_8, ev_var_b, ev_var_t, ev_not, ev_and, ev_beq, ev_max, ev_min, op_eql, op_neq, op_lss, op_leq, op_gtr, op_geq, op_add, op_sub, iNz_b2i, w64_u, w64_i, w8_u, u64_wd, u64_u64, i64_i64, u8_u8, u8B]; exact beq_nk _ 3) (fun h6 => ?_) (fun h6 => ?_)
        · refine (treeF_call (r := [wd (FP.mk (fN f) (FP.sgn (fN f) (nB a1 a0) != FP.sgn (fN f) (nB b1 b0)) (0)) 1, wd (FP.mk (fN f) (FP.sgn (fN f) (nB a1 a0) != FP.sgn (fN f) (nB b1 b0)) (0)) 0]) (by simp only [l_an, l_ca, l_na, l_mc, l_mn, getI_0, getI_s, oB_eq, oW_eq, ev_bin, ev_conv, ev_ite, ev_lit, ev_var_u, ev_var_i, ev_var_8, ev_var_b, ev_var_t, ev_not, ev_and, ev_beq, ev_max, ev_min, op_eql, op_neq, op_lss, op_leq, op_gtr, op_geq, op_add, op_sub, iNz_b2i, w64_u, w64_i, w8_u, u64_wd, u64_u64, i64_i64, u8_u8, ph_D1_format_Nought]; exact norE) (by rfl)).trans ?_
          rw [treeF_leaf rfl]
          simp only [l_an, l_ca, l_na, l_mc, l_mn, getI_0, getI_s, oB_eq, oW_eq, ev_bin, ev_conv, ev_ite, ev_lit, ev_var_u, ev_var_i, ev_var_8, ev_var_b, ev_var_t, ev_not, ev_and, ev_beq, ev_max, ev_min, op_eql, op_neq, op_lss, op_leq, op_gtr, op_geq, op_add, op_sub, iNz_b2i, w64_u, w64_i, w8_u, u64_wd, u64_u64, i64_i64, u8_u8]
          first | (exact absurd (like_ok (by omega)) h5) | (rw [rI h5 (by omega)]; rfl) | (rw [rZ h5 (by omega) (by omega)]; rfl) | (rw [rD h5 (by omega) (by omega) (by omega)]; rfl)
        · refine tI (clsF (fN f) (nB a1 a0) = 0) (by simp only [l_an, l_ca, l_na, l_mc, l_mn, getI_0, getI_s, oB_eq, oW_eq, ev_bin, ev_conv, ev_ite, ev_lit, ev_var_u, ev_var_i, ev_var_8, ev_var_b, ev_var_t, ev_not, ev_and, ev_beq, ev_max, ev_min, op_eql, op_neq, op_lss, op_leq, op_gtr, op_geq, op_add, op_sub, iNz_b2i, w64_u, w64_i, w8_u, u64_wd, u64_u64, i64_i64, u8_u8, u8A]; exact beq_nk _ 0) (fun h7 => ?_) (fun h7 => ?_)
          · refine (treeF_call (r := [wd (FP.mk (fN f) (FP.sgn (fN f) (nB a1 a0) != FP.sgn (fN f) (nB b1 b0)) (0)) 1, wd (FP.mk (fN f) (FP.sgn (fN f) (nB a1 a0) != FP.sgn (fN f) (nB b1 b0)) (0)) 0]) (by simp only [l_an, l_ca, l_na, l_mc, l_mn, getI_0, getI_s, oB_eq, oW_eq, ev_bin, ev_conv, ev_ite, ev_lit, ev_var_u, ev_var_i, ev_var_8, ev_var_b, ev_var_t, ev_not, ev_and, ev_beq, ev_max, ev_min, op_eql, op_neq, op_lss, op_leq, op_gtr, op_geq, op_add, op_sub, iNz_b2i, w64_u, w64_i, w8_u, u64_wd, u64_u64, i64_i64, u8_u8, ph_D1_format_Nought]; exact norE) (by rfl)).trans ?_
            rw [treeF_leaf rfl]
            simp only [l_an, l_ca, l_na, l_mc, l_mn, getI_0, getI_s, oB_eq, oW_eq, ev_bin, ev_conv, ev_ite, ev_lit, ev_var_u, ev_var_i, ev_var_8, ev_var_b, ev_var_t, ev_not, ev_and, ev_beq, ev_max, ev_min, op_eql, op_neq, op_lss, op_leq, op_gtr, op_geq, op_add, op_sub, iNz_b2i, w64_u, w64_i, w8_u, u64_wd, u64_u64, i64_i64, u8_u8]
            first | (exact absurd (like_ok (by omega)) h5) | (rw [rI h5 (by omega)]; rfl) | (rw [rZ h5 (by omega) (by omega)]; rfl) | (rw [rD h5 (by omega) (by omega) (by omega)]; rfl)
          · refine tI (clsF (fN f) (nB b1 b0) = 0) (by simp only [l_an, l_ca, l_na, l_mc, l_mn, getI_0, getI_s, oB_eq, oW_eq, ev_bin, ev_conv, ev_ite, ev_lit, ev_var_u, ev_var_i, ev_var_8, ev_var_b, ev_var_t, ev_not, ev_and, ev_beq, ev_max, ev_min, op_eql, op_neq, op_lss, op_leq, op_gtr, op_geq, op_add, op_sub, iNz_b2i, w64_u, w64_i, w8_u, u64_wd, u64_u64, i64_i64, u8_u8, u8B]; exact beq_nk _ 0) (fun h8 => ?_) (fun h8 => ?_)
            · refine (treeF_call (r := [wd (FP.mk (fN f) (FP.sgn (fN f) (nB a1 a0) != FP.sgn (fN f) (nB b1 b0)) (FP.inf (fN f))) 1, wd (FP.mk (fN f) (FP.sgn (fN f) (nB a1 a0) != FP.sgn (fN f) (nB b1 b0)) (FP.inf (fN f))) 0]) (by simp only [l_an, l_ca, l_na, l_mc, l_mn, getI_0, getI_s, oB_eq, oW_eq, ev_bin, ev_conv, ev_ite, ev_lit, ev_var_u, ev_var_i, ev_var_8, ev_var_b, ev_var_t, ev_not, ev_and, ev_beq, ev_max, ev_min, op_eql, op_neq, op_lss, op_leq, op_gtr, op_geq, op_add, op_sub, iNz_b2i, w64_u, w64_i, w8_u, u64_wd, u64_u64, i64_i64, u8_u8, ph_D1_format_Inf]; exact infE) (by rfl)).trans ?_
              rw [treeF_leaf rfl]
              simp only [l_an, l_ca, l_na, l_mc, l_mn, getI_0, getI_s, oB_eq, oW_eq, ev_bin, ev_conv, ev_ite, ev_lit, ev_var_u, ev_var_i, ev_var_8, ev_var_b, ev_var_t, ev_not, ev_and, ev_beq, ev_max, ev_min, op_eql, op_neq, op_lss, op_leq, op_gtr, op_geq, op_add, op_sub, iNz_b2i, w64_u, w64_i, w8_u, u64_wd, u64_u64, i64_i64, u8_u8]
              first | (exact absurd (like_ok (by omega)) h5) | (rw [rI h5 (by omega)]; rfl) | (rw [rZ h5 (by omega) (by omega)]; rfl) | (rw [rD h5 (by omega) (by omega) (by omega)]; rfl)
            · refine (treeF_call (r := [wd S 0, wd S 1, wd S 2, wd S 3]) (by simp only [l_an, l_ca, l_na, l_mc, l_mn, getI_0, getI_s, oB_eq, oW_eq, ev_bin, ev_conv, ev_ite, ev_lit, ev_var_u, ev_var_i, ev_var_8, ev_var_b, ev_var_t, ev_not, ev_and, ev_beq, ev_max, ev_min, op_eql, op_neq, op_lss, op_leq, op_gtr, op_geq, op_add, op_sub, iNz_b2i, w64_u, w64_i, w8_u, u64_wd, u64_u64, i64_i64, u8_u8, ph_D1_wide_Join]; exact joE) (by rfl)).trans ?_
              refine (treeF_call (r := [wd (S / D) 0, wd (S / D) 1, wd (S / D) 2, wd (S / D) 3, wd (S % D) 1, wd (S % D) 0, 1]) (by simp only [l_an, l_ca, l_na, l_mc, l_mn, getI_0, getI_s, oB_eq, oW_eq, ev_bin, ev_conv, ev_ite, ev_lit, ev_var_u, ev_var_i, ev_var_8, ev_var_b, ev_var_t, ev_not, ev_and, ev_beq, ev_max, ev_min, op_eql, op_neq, op_lss, op_leq, op_gtr, op_geq, op_add, op_sub, iNz_b2i, w64_u, w64_i, w8_u, u64_wd, u64_u64, i64_i64, u8_u8, ph_D1_quot_Div]; exact quE (fin h5 (by omega) (by omega) (by omega) (by omega))) (by rfl)).trans ?_
              refine (treeF_call (r := [wd q 0, wd q 1, wd q 2, wd q 3]) (by simp only [l_an, l_ca, l_na, l_mc, l_mn, getI_0, getI_s, oB_eq, oW_eq, ev_bin, ev_conv, ev_ite, ev_lit, ev_var_u, ev_var_i, ev_var_8, ev_var_b, ev_var_t, ev_not, ev_and, ev_beq, ev_max, ev_min, op_eql, op_neq, op_lss, op_leq, op_gtr, op_geq, op_add, op_sub, iNz_b2i, w64_u, w64_i, w8_u, u64_wd, u64_u64, i64_i64, u8_u8, ph_D1_shift_WideLeft]; exact leE (fin h5 (by omega) (by omega) (by omega) (by omega))) (by rfl)).trans ?_
              refine (treeF_call (r := [b2i (decide (S % D = 0))]) (by simp only [l_an, l_ca, l_na, l_mc, l_mn, getI_0, getI_s, oB_eq, oW_eq, ev_bin, ev_conv, ev_ite, ev_lit, ev_var_u, ev_var_i, ev_var_8, ev_var_b, ev_var_t, ev_not, ev_and, ev_beq, ev_max, ev_min, op_eql, op_neq, op_lss, op_leq, op_gtr, op_geq, op_add, op_sub, iNz_b2i, w64_u, w64_i, w8_u, u64_wd, u64_u64, i64_i64, u8_u8, ph_D1_word_Zero]; exact zeE (fin h5 (by omega) (by omega) (by omega) (by omega))) (by rfl)).trans ?_
              refine tI (¬ S % D = 0) (by simp only [l_an, l_ca, l_na, l_mc, l_mn, getI_0, getI_s, oB_eq, oW_eq, ev_bin, ev_conv, ev_ite, ev_lit, ev_var_u, ev_var_i, ev_var_8, ev_var_b, ev_var_t, ev_not, ev_and, ev_beq, ev_max, ev_min, op_eql, op_neq, op_lss, op_leq, op_gtr, op_geq, op_add, op_sub, iNz_b2i, w64_u, w64_i, w8_u, u64_wd, u64_u64, i64_i64, u8_u8]; exact (decide_not).symm) (fun h9 => ?_) (fun h9 => ?_)
              · refine (treeF_call (r := [wd (FP.mk (fN f) (FP.sgn (fN f) (nB a1 a0) != FP.sgn (fN f) (nB b1 b0)) Q.1) 1, wd (FP.mk (fN f) (FP.sgn (fN f) (nB a1 a0) != FP.sgn (fN f) (nB b1 b0)) Q.1) 0, (Q.2 : Int)]) (by simp only [l_an, l_ca, l_na, l_mc, l_mn, getI_0, getI_s, oB_eq, oW_eq, ev_bin, ev_conv, ev_ite, ev_lit, ev_var_u, ev_var_i, ev_var_8, ev_var_b, ev_var_t, ev_not, ev_and, ev_beq, ev_max, ev_min, op_eql, op_neq, op_lss, op_leq, op_gtr, op_geq, op_add, op_sub, iNz_b2i, w64_u, w64_i, w8_u, u64_wd, u64_u64, i64_i64, u8_u8, ph_D1_pack_Round]; exact rnE1 (fin h5 (by omega) (by omega) (by omega) (by omega)) h9) (by rfl)).trans ?_
                rw [treeF_leaf rfl]
                simp only [l_an, l_ca, l_na, l_mc, l_mn, getI_0, getI_s, oB_eq, oW_eq, ev_bin, ev_conv, ev_ite, ev_lit, ev_var_u, ev_var_i, ev_var_8, ev_var_b, ev_var_t, ev_not, ev_and, ev_beq, ev_max, ev_min, op_eql, op_neq, op_lss, op_leq, op_gtr, op_geq, op_add, op_sub, iNz_b2i, w64_u, w64_i, w8_u, u64_wd, u64_u64, i64_i64, u8_u8]
                rw [rQ h5 (by omega) (by omega) (by omega)]
                simp only [Q8]
              · refine (treeF_call (r := [wd (FP.mk (fN f) (FP.sgn (fN f) (nB a1 a0) != FP.sgn (fN f) (nB b1 b0)) Q.1) 1, wd (FP.mk (fN f) (FP.sgn (fN f) (nB a1 a0) != FP.sgn (fN f) (nB b1 b0)) Q.1) 0, (Q.2 : Int)]) (by simp only [l_an, l_ca, l_na, l_mc, l_mn, getI_0, getI_s, oB_eq, oW_eq, ev_bin, ev_conv, ev_ite, ev_lit, ev_var_u, ev_var_i, ev_var_8, ev_var_b, ev_var_t, ev_not, ev_and, ev_beq, ev_max, ev_min, op_eql, op_neq, op_lss, op_leq, op_gtr, op_geq, op_add, op_sub, iNz_b2i, w64_u, w64_i, w8_u, u64_wd, u64_u64, i64_i64, u8_u8, ph_D1_pack_Round]; exact rnE0 (fin h5 (by omega) (by omega) (by omega) (by omega)) h9) (by rfl)).trans ?_
                replace h9 := Decidable.not_not.1 h9
                rw [treeF_leaf rfl]
                simp only [l_an, l_ca, l_na, l_mc, l_mn, getI_0, getI_s, oB_eq, oW_eq, ev_bin, ev_conv, ev_ite, ev_lit, ev_var_u, ev_var_i, ev_var_8, ev_var_b, ev_var_t, ev_not, ev_and, ev_beq, ev_max, ev_min, op_eql, op_neq, op_lss, op_leq, op_gtr, op_geq, op_add, op_sub, iNz_b2i, w64_u, w64_i, w8_u, u64_wd, u64_u64, i64_i64, u8_u8]
                rw [rQ h5 (by omega) (by omega) (by omega)]
                simp only [Q8]
  · refine (treeF_call (r := [wd (pkB2 (fN f) (likeC (clsF (fN f) (nB a1 a0)) (clsF (fN f) (nB b1 b0))) (nB a1 a0) (nB b1 b0)) 1, wd (pkB2 (fN f) (likeC (clsF (fN f) (nB a1 a0)) (clsF (fN f) (nB b1 b0))) (nB a1 a0) (nB b1 b0)) 0, ((pkF2 (fN f) (likeC (clsF (fN f) (nB a1 a0)) (clsF (fN f) (nB b1 b0))) (nB a1 a0) (nB b1 b0) : Nat) : Int), b2i (pkO2 (fN f) (likeC (clsF (fN f) (nB a1 a0)) (clsF (fN f) (nB b1 b0))) (nB a1 a0) (nB b1 b0))]) (by simp only [l_an, l_ca, l_na, l_mc, l_mn, getI_0, getI_s, oB_eq, oW_eq, ev_bin, ev_conv, ev_ite, ev_lit, ev_var_u, ev_var_i, ev_var_8, ev_var_b, ev_var_t, ev_not, ev_and, ev_beq, ev_max, ev_min, op_eql, op_neq, op_lss, op_leq, op_gtr, op_geq, op_add, op_sub, iNz_b2i, w64_u, w64_i, w8_u, u64_wd, u64_u64, i64_i64, u8_u8, ph_D1_nan_Pick_2, u8A]; exact pk _ (likeC_of (by simp only [iNz_b2i, beq_nk0, decide_eq_true_iff, show iNz 1 = true from rfl, show iNz 0 = false from rfl, Bool.false_eq_true, true_iff, false_iff]; omega))) (by rfl)).trans ?_
    refine tI (pkO2 (fN f) (likeC (clsF (fN f) (nB a1 a0)) (clsF (fN f) (nB b1 b0))) (nB a1 a0) (nB b1 b0) = true) (by simp only [l_an, l_ca, l_na, l_mc, l_mn, getI_0, getI_s, oB_eq, oW_eq, ev_bin, ev_conv, ev_ite, ev_lit, ev_var_u, ev_var_i, ev_var_8, ev_var_b, ev_var_t, ev_not, ev_and, ev_beq, ev_max, ev_min, op_eql, op_neq, op_lss, op_leq, op_gtr, op_geq, op_add, op_sub, iNz_b2i, w64_u, w64_i, w8_u, u64_wd, u64_u64, i64_i64, u8_u8]; exact (Bool.decide_coe _).symm) (fun h10 => ?_) (fun h10 => ?_)
    · rw [treeF_leaf rfl]
      simp only [l_an, l_ca, l_na, l_mc, l_mn, getI_0, getI_s, oB_eq, oW_eq, ev_bin, ev_conv, ev_ite, ev_lit, ev_var_u, ev_var_i, ev_var_8, ev_var_b, ev_var_t, ev_not, ev_and, ev_beq, ev_max, ev_min, op_eql, op_neq, op_lss, op_leq, op_gtr, op_geq, op_add, op_sub, iNz_b2i, w64_u, w64_i, w8_u, u64_wd, u64_u64, i64_i64, u8_u8]
      rw [rP h10]
      simp only [pkF8]
    · refine tI (clsF (fN f) (nB b1 b0) = 3) (by simp only [l_an, l_ca, l_na, l_mc, l_mn, getI_0, getI_s, oB_eq, oW_eq, ev_bin, ev_conv, ev_ite, ev_lit, ev_var_u, ev_var_i, ev_var_8, ev_var_b, ev_var_t, ev_not, ev_and, ev_beq, ev_max, ev_min, op_eql, op_neq, op_lss, op_leq, op_gtr, op_geq, op_add, op_sub, iNz_b2i, w64_u, w64_i, w8_u, u64_wd, u64_u64, i64_i64, u8_u8, u8B]; exact beq_nk _ 3) (fun h11 => ?_) (fun h11 => ?_)
      · refine tI (clsF (fN f) (nB a1 a0) = 3) (by simp only [l_an, l_ca, l_na, l_mc, l_mn, getI_0, getI_s, oB_eq, oW_eq, ev_bin, ev_conv, ev_ite, ev_lit, ev_var_u, ev_var_i, ev_var_8, ev_var_b, ev_var_t, ev_not, ev_and, ev_beq, ev_max, ev_min, op_eql, op_neq, op_lss, op_leq, op_gtr, op_geq, op_add, op_sub, iNz_b2i, w64_u, w64_i, w8_u, u64_wd, u64_u64, i64_i64, u8_u8, u8A]; exact beq_nk _ 3) (fun h12 => ?_) (fun h12 => ?_)
        · refine (treeF_call (r := [wd (FP.mk (fN f) (FP.sgn (fN f) (nB a1 a0) != FP.sgn (fN f) (nB b1 b0)) (FP.inf (fN f))) 1, wd (FP.mk (fN f) (FP.sgn (fN f) (nB a1 a0) != FP.sgn (fN f) (nB b1 b0)) (FP.inf (fN f))) 0]) (by simp only [l_an, l_ca, l_na, l_mc, l_mn, getI_0, getI_s, oB_eq, oW_eq, ev_bin, ev_conv, ev_ite, ev_lit, ev_var_u, ev_var_i, ev_var_8, ev_var_b, ev_var_t, ev_not, ev_and, ev_beq, ev_max, ev_min, op_eql, op_neq, op_lss, op_leq, op_gtr, op_geq, op_add, op_sub, iNz_b2i, w64_u, w64_i, w8_u, u64_wd, u64_u64, i64_i64, u8_u8, ph_D1_format_Inf]; exact infE) (by rfl)).trans ?_
          rw [treeF_leaf rfl]
          simp only [l_an, l_ca, l_na, l_mc, l_mn, getI_0, getI_s, oB_eq, oW_eq, ev_bin, ev_conv, ev_ite, ev_lit, ev_var_u, ev_var_i, ev_var_8, ev_var_b, ev_var_t, ev_not, ev_and, ev_beq, ev_max, ev_min, op_eql, op_neq, op_lss, op_leq, op_gtr, op_geq, op_add, op_sub, iNz_b2i, w64_u, w64_i, w8_u, u64_wd, u64_u64, i64_i64, u8_u8]
          first | (exact absurd (like_ok (by omega)) h10) | (rw [rI h10 (by omega)]; rfl) | (rw [rZ h10 (by omega) (by omega)]; rfl) | (rw [rD h10 (by omega) (by omega) (by omega)]; rfl)
        · refine (treeF_call (r := [wd (FP.mk (fN f) (FP.sgn (fN f) (nB a1 a0) != FP.sgn (fN f) (nB b1 b0)) (0)) 1, wd (FP.mk (fN f) (FP.sgn (fN f) (nB a1 a0) != FP.sgn (fN f) (nB b1 b0)) (0)) 0]) (by simp only [l_an, l_ca, l_na, l_mc, l_mn, getI_0, getI_s, oB_eq, oW_eq, ev_bin, ev_conv, ev_ite, ev_lit, ev_var_u, ev_var_i, ev_var_8, ev_var_b, ev_var_t, ev_not, ev_and, ev_beq, ev_max, ev_min, op_eql, op_neq, op_lss, op_leq, op_gtr, op_geq, op_add, op_sub, iNz_b2i, w64_u, w64_i, w8_u, u64_wd, u64_u64, i64_i64, u8_u8, ph_D1_format_Nought]; exact norE) (by rfl)).trans ?_
          rw [treeF_leaf rfl]
          simp only [l_an, l_ca, l_na, l_mc, l_mn, getI_0, getI_s, oB_eq, oW_eq, ev_bin, ev_conv, ev_ite, ev_lit, ev_var_u, ev_var_i, ev_var_8, ev_var_b, ev_var_t, ev_not, ev_and, ev_beq, ev_max, ev_min, op_eql, op_neq, op_lss, op_leq, op_gtr, op_geq, op_add, op_sub, iNz_b2i, w64_u, w64_i, w8_u, u64_wd, u64_u64, i64_i64, u8_u8]
          first | (exact absurd (like_ok (by omega)) h10) | (rw [rI h10 (by omega)]; rfl) | (rw [rZ h10 (by omega) (by omega)]; rfl) | (rw [rD h10 (by omega) (by omega) (by omega)]; rfl)
      · refine tI (clsF (fN f) (nB a1 a0) = 3) (by simp only [l_an, l_ca, l_na, l_mc, l_mn, getI_0, getI_s, oB_eq, oW_eq, ev_bin, ev_conv, ev_ite, ev_lit, ev_var_u, ev_var_i, ev_var_8, ev_var_b, ev_var_t, ev_not, ev_and, ev_beq, ev_max, ev_min, op_eql, op_neq, op_lss, op_leq, op_gtr, op_geq, op_add, op_sub, iNz_b2i, w64_u, w64_i, w8_u, u64_wd, u64_u64, i64_i64, u8_u8, u8A]; exact beq_nk _ 3) (fun h13 => ?_) (fun h13 => ?_)
        · refine (treeF_call (r := [wd (FP.mk (fN f) (FP.sgn (fN f) (nB a1 a0) != FP.sgn (fN f) (nB b1 b0)) (FP.inf (fN f))) 1, wd (FP.mk (fN f) (FP.sgn (fN f) (nB a1 a0) != FP.sgn (fN f) (nB b1 b0)) (FP.inf (fN f))) 0]) (by simp only [l_an, l_ca, l_na, l_mc, l_mn, getI_0, getI_s, oB_eq, oW_eq, ev_bin, ev_conv, ev_ite, ev_lit, ev_var_u, ev_var_i, ev_var_8, ev_var_b, ev_var_t, ev_not, ev_and, ev_beq, ev_max, ev_min, op_eql, op_neq, op_lss, op_leq, op_gtr, op_geq, op_add, op_sub, iNz_b2i, w64_u, w64_i, w8_u, u64_wd, u64_u64, i64_i64, u8_u8, ph_D1_format_Inf]; exact infE) (by rfl)).trans ?_
          rw [treeF_leaf rfl]
          simp only [l_an, l_ca, l_na, l_mc, l_mn, getI_0, getI_s, oB_eq, oW_eq, ev_bin, ev_conv, ev_ite, ev_lit, ev_var_u, ev_var_i, ev_var_8, ev_var_b, ev_var_t, ev_not, ev_and, ev_beq, ev_max, ev_min, op_eql, op_neq, op_lss, op_leq, op_gtr, op_geq, op_add, op_sub, iNz_b2i, w64_u, w64_i, w8_u, u64_wd, u64_u64, i64_i64, u8_u8]
          first | (exact absurd (like_ok (by omega)) h10) | (rw [rI h10 (by omega)]; rfl) | (rw [rZ h10 (by omega) (by omega)]; rfl) | (rw [rD h10 (by omega) (by omega) (by omega)]; rfl)
        · refine tI (clsF (fN f) (nB a1 a0) = 0) (by simp only [l_an, l_ca, l_na, l_mc, l_mn, getI_0, getI_s, oB_eq, oW_eq, ev_bin, ev_conv, ev_ite, ev_lit, ev_var_u, ev_var_i, ev_var_8, ev_var_b, ev_var_t, ev_not, ev_and, ev_beq, ev_max, ev_min, op_eql, op_neq, op_lss, op_leq, op_gtr, op_geq, op_add, op_sub, iNz_b2i, w64_u, w64_i, w8_u, u64_wd, u64_u64, i64_i64, u8_u8, u8A]; exact beq_nk _ 0) (fun h14 => ?_) (fun h14 => ?_)
          · refine (treeF_call (r := [wd (FP.mk (fN f) (FP.sgn (fN f) (nB a1 a0) != FP.sgn (fN f) (nB b1 b0)) (0)) 1, wd (FP.mk (fN f) (FP.sgn (fN f) (nB a1 a0) != FP.sgn (fN f) (nB b1 b0)) (0)) 0]) (by simp only [l_an, l_ca, l_na, l_mc, l_mn, getI_0, getI_s, oB_eq, oW_eq, ev_bin, ev_conv, ev_ite, ev_lit, ev_var_u, ev_var_i, ev_var_8, ev_var_b, ev_var_t, ev_not, ev_and, ev_beq, ev_max, ev_min, op_eql, op_neq, op_lss, op_leq, op_gtr, op_geq, op_add, op_sub, iNz_b2i, w64_u, w64_i, w8_u, u64_wd, u64_u64, i64_i64, u8_u8, ph_D1_format_Nought]; exact norE) (by rfl)).trans ?_
            rw [treeF_leaf rfl]
            simp only [l_an, l_ca, l_na, l_mc, l_mn, getI_0, getI_s, oB_eq, oW_eq, ev_bin, ev_conv, ev_ite, ev_lit, ev_var_u, ev_var_i, ev_var_8, ev_var_b, ev_var_t, ev_not, ev_and, ev_beq, ev_max, ev_min, op_eql, op_neq, op_lss, op_leq, op_gtr, op_geq, op_add, op_sub, iNz_b2i, w64_u, w64_i, w8_u, u64_wd, u64_u64, i64_i64, u8_u8]
            first | (exact absurd (like_ok (by omega)) h10) | (rw [rI h10 (by omega)]; rfl) | (rw [rZ h10 (by omega) (by omega)]; rfl) | (rw [rD h10 (by omega) (by omega) (by omega)]; rfl)
          · refine tI (clsF (fN f) (nB b1 b0) = 0) (by simp only [l_an, l_ca, l_na, l_mc, l_mn, getI_0, getI_s, oB_eq, oW_eq, ev_bin, ev_conv, ev_ite, ev_lit, ev_var_u, ev_var_i, ev_var_8, ev_var_b, ev_var_t, ev_not, ev_and, ev_beq, ev_max, ev_min, op_eql, op_neq, op_lss, op_leq, op_gtr, op_geq, op_add, op_sub, iNz_b2i, w64_u, w64_i, w8_u, u64_wd, u64_u64, i64_i64, u8_u8, u8B]; exact beq_nk _ 0) (fun h15 => ?_) (fun h15 => ?_)
            · refine (treeF_call (r := [wd (FP.mk (fN f) (FP.sgn (fN f) (nB a1 a0) != FP.sgn (fN f) (nB b1 b0)) (FP.inf (fN f))) 1, wd (FP.mk (fN f) (FP.sgn (fN f) (nB a1 a0) != FP.sgn (fN f) (nB b1 b0)) (FP.inf (fN f))) 0]) (by simp only [l_an, l_ca, l_na, l_mc, l_mn, getI_0, getI_s, oB_eq, oW_eq, ev_bin, ev_conv, ev_ite, ev_lit, ev_var_u, ev_var_i, ev_var_8, ev_var_b, ev_var_t, ev_not, ev_and, ev_beq, ev_max, ev_min, op_eql, op_neq, op_lss, op_leq, op_gtr, op_geq, op_add, op_sub, iNz_b2i, w64_u, w64_i, w8_u, u64_wd, u64_u64, i64_i64, u8_u8, ph_D1_format_Inf]; exact infE) (by rfl)).trans ?_
              rw [treeF_leaf rfl]
              simp only [l_an, l_ca, l_na, l_mc, l_mn, getI_0, getI_s, oB_eq, oW_eq, ev_bin, ev_conv, ev_ite, ev_lit, ev_var_u, ev_var_i, ev_var_8, ev_var_b, ev_var_t, ev_not, ev_and, ev_beq, ev_max, ev_min, op_eql, op_neq, op_lss, op_leq, op_gtr, op_geq, op_add, op_sub, iNz_b2i, w64_u, w64_i, w8_u, u64_wd, u64_u64, i64_i64, u8_u8]
              first | (exact absurd (like_ok (by omega)) h10) | (rw [rI h10 (by omega)]; rfl) | (rw [rZ h10 (by omega) (by omega)]; rfl) | (rw [rD h10 (by omega) (by omega) (by omega)]; rfl)
            · refine (treeF_call (r := [wd S 0, wd S 1, wd S 2, wd S 3]) (by simp only [l_an, l_ca, l_na, l_mc, l_mn, getI_0, getI_s, oB_eq, oW_eq, ev_bin, ev_conv, ev_ite, ev_lit, ev_var_u, ev_var_i, ev_var_8, ev_var_b, ev_var_t, ev_not, ev_and, ev_beq, ev_max, ev_min, op_eql, op_neq, op_lss, op_leq, op_gtr, op_geq, op_add, op_sub, iNz_b2i, w64_u, w64_i, w8_u, u64_wd, u64_u64, i64_i64, u8_u8, ph_D1_wide_Join]; exact joE) (by rfl)).trans ?_
              refine (treeF_call (r := [wd (S / D) 0, wd (S / D) 1, wd (S / D) 2, wd (S / D) 3, wd (S % D) 1, wd (S % D) 0, 1]) (by simp only [l_an, l_ca, l_na, l_mc, l_mn, getI_0, getI_s, oB_eq, oW_eq, ev_bin, ev_conv, ev_ite, ev_lit, ev_var_u, ev_var_i, ev_var_8, ev_var_b, ev_var_t, ev_not, ev_and, ev_beq, ev_max, ev_min, op_eql, op_neq, op_lss, op_leq, op_gtr, op_geq, op_add, op_sub, iNz_b2i, w64_u, w64_i, w8_u, u64_wd, u64_u64, i64_i64, u8_u8, ph_D1_quot_Div]; exact quE (fin h10 (by omega) (by omega) (by omega) (by omega))) (by rfl)).trans ?_
              refine (treeF_call (r := [wd q 0, wd q 1, wd q 2, wd q 3]) (by simp only [l_an, l_ca, l_na, l_mc, l_mn, getI_0, getI_s, oB_eq, oW_eq, ev_bin, ev_conv, ev_ite, ev_lit, ev_var_u, ev_var_i, ev_var_8, ev_var_b, ev_var_t, ev_not, ev_and, ev_beq, ev_max, ev_min, op_eql, op_neq, op_lss, op_leq, op_gtr, op_geq, op_add, op_sub, iNz_b2i, w64_u, w64_i, w8_u, u64_wd, u64_u64, i64_i64, u8_u8, ph_D1_shift_WideLeft]; exact leE (fin h10 (by omega) (by omega) (by omega) (by omega))) (by rfl)).trans ?_
              refine (treeF_call (r := [b2i (decide (S % D = 0))]) (by simp only [l_an, l_ca, l_na, l_mc, l_mn, getI_0, getI_s, oB_eq, oW_eq, ev_bin, ev_conv, ev_ite, ev_lit, ev_var_u, ev_var_i, ev_var_8, ev_var_b, ev_var_t, ev_not, ev_and, ev_beq, ev_max, ev_min, op_eql, op_neq, op_lss, op_leq, op_gtr, op_geq, op_add, op_sub, iNz_b2i, w64_u, w64_i, w8_u, u64_wd, u64_u64, i64_i64, u8_u8, ph_D1_word_Zero]; exact zeE (fin h10 (by omega) (by omega) (by omega) (by omega))) (by rfl)).trans ?_
              refine tI (¬ S % D = 0) (by simp only [l_an, l_ca, l_na, l_mc, l_mn, getI_0, getI_s, oB_eq, oW_eq, ev_bin, ev_conv, ev_ite, ev_lit, ev_var_u, ev_var_i, ev_var_8, ev_var_b, ev_var_t, ev_not, ev_and, ev_beq, ev_max, ev_min, op_eql, op_neq, op_lss, op_leq, op_gtr, op_geq, op_add, op_sub, iNz_b2i, w64_u, w64_i, w8_u, u64_wd, u64_u64, i64_i64, u8_u8]; exact (decide_not).symm) (fun h16 => ?_) (fun h16 => ?_)
              · refine (treeF_call (r := [wd (FP.mk (fN f) (FP.sgn (fN f) (nB a1 a0) != FP.sgn (fN f) (nB b1 b0)) Q.1) 1, wd (FP.mk (fN f) (FP.sgn (fN f) (nB a1 a0) != FP.sgn (fN f) (nB b1 b0)) Q.1) 0, (Q.2 : Int)]) (by simp only [l_an, l_ca, l_na, l_mc, l_mn, getI_0, getI_s, oB_eq, oW_eq, ev_bin, ev_conv, ev_ite, ev_lit, ev_var_u, ev_var_i, ev_var_8, ev_var_b, ev_var_t, ev_not, ev_and, ev_beq, ev_max, ev_min, op_eql, op_neq, op_lss, op_leq, op_gtr, op_geq, op_add, op_sub, iNz_b2i, w64_u, w64_i, w8_u, u64_wd, u64_u64, i64_i64, u8_u8, ph_D1_pack_Round]; exact rnE1 (fin h10 (by omega) (by omega) (by omega) (by omega)) h16) (by rfl)).trans ?_
                rw [treeF_leaf rfl]
                simp only [l_an, l_ca, l_na, l_mc, l_mn, getI_0, getI_s, oB_eq, oW_eq, ev_bin, ev_conv, ev_ite, ev_lit, ev_var_u, ev_var_i, ev_var_8, ev_var_b, ev_var_t, ev_not, ev_and, ev_beq, ev_max, ev_min, op_eql, op_neq, op_lss, op_leq, op_gtr, op_geq, op_add, op_sub, iNz_b2i, w64_u, w64_i, w8_u, u64_wd, u64_u64, i64_i64, u8_u8]
                rw [rQ h10 (by omega) (by omega) (by omega)]
                simp only [Q8]
              · refine (treeF_call (r := [wd (FP.mk (fN f) (FP.sgn (fN f) (nB a1 a0) != FP.sgn (fN f) (nB b1 b0)) Q.1) 1, wd (FP.mk (fN f) (FP.sgn (fN f) (nB a1 a0) != FP.sgn (fN f) (nB b1 b0)) Q.1) 0, (Q.2 : Int)]) (by simp only [l_an, l_ca, l_na, l_mc, l_mn, getI_0, getI_s, oB_eq, oW_eq, ev_bin, ev_conv, ev_ite, ev_lit, ev_var_u, ev_var_i, ev_var_8, ev_var_b, ev_var_t, ev_not, ev_and, ev_beq, ev_max, ev_min, op_eql, op_neq, op_lss, op_leq, op_gtr, op_geq, op_add, op_sub, iNz_b2i, w64_u, w64_i, w8_u, u64_wd, u64_u64, i64_i64, u8_u8, ph_D1_pack_Round]; exact rnE0 (fin h10 (by omega) (by omega) (by omega) (by omega)) h16) (by rfl)).trans ?_
                replace h16 := Decidable.not_not.1 h16
                rw [treeF_leaf rfl]
                simp only [l_an, l_ca, l_na, l_mc, l_mn, getI_0, getI_s, oB_eq, oW_eq, ev_bin, ev_conv, ev_ite, ev_lit, ev_var_u, ev_var_i, ev_var_8, ev_var_b, ev_var_t, ev_not, ev_and, ev_beq, ev_max, ev_min, op_eql, op_neq, op_lss, op_leq, op_gtr, op_geq, op_add, op_sub, iNz_b2i, w64_u, w64_i, w8_u, u64_wd, u64_u64, i64_i64, u8_u8]
                rw [rQ h10 (by omega) (by omega) (by omega)]
                simp only [Q8]
end Go.Proofs.YtgbdemipeoboeaaDoor
