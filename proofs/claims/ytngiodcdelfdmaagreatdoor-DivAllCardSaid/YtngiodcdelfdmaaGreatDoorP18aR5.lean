import Derived.Test.YtngiodcdelfdmaaGreatDoorP17R5
import Derived.Test.YtngiodcdelfdmaaGreatDoorZQR5
namespace Go.Proofs.YtngiodcdelfdmaaGreatDoor
set_option linter.unusedVariables false
set_option linter.unusedSimpArgs false
set_option maxRecDepth 100000
open Go.RowKit
theorem beq_nn (x y : Nat) : ((x : Int) == (y : Int)) = decide (x = y) := by rw [Bool.eq_iff_iff, beq_iff_eq, decide_eq_true_iff]; omega
theorem beq_nk (x k : Nat) : ((x : Int) == (k : Int)) = decide (x = k) := beq_nn x k
theorem beq_nk0 (x : Nat) : ((x : Int) == 0) = decide (x = 0) := beq_nn x 0
theorem likeC_eq (x y : Nat) : likeC x y = true ↔ x = y ∧ (x = 3 ∨ x = 0) := by unfold likeC; simp only [Bool.and_eq_true, Bool.or_eq_true, decide_eq_true_iff]
theorem likeC_of {j : Bool} {x y : Nat} (h : j = true ↔ x = y ∧ (x = 3 ∨ x = 0)) : j = likeC x y := by rw [Bool.eq_iff_iff, likeC_eq]; exact h
def pkB2 (f : Nat) (j : Bool) (a b : Nat) : Nat := if 4 ≤ clsF f a then quN f a else if 4 ≤ clsF f b then quN f b else if j = true then dfl f else 0
def pkF2 (f : Nat) (j : Bool) (a b : Nat) : Nat := if 4 ≤ clsF f a ∨ 4 ≤ clsF f b then (if j = true ∨ clsF f a = 5 ∨ clsF f b = 5 then 1 else 0) else if j = true then 1 else 0
def pkO2 (f : Nat) (j : Bool) (a b : Nat) : Bool := decide (4 ≤ clsF f a) || (decide (4 ≤ clsF f b) || j)
theorem wd_0 (i : Nat) : wd 0 i = 0 := by unfold wd; rw [Nat.zero_div, Nat.zero_mod]; rfl
theorem pkF2_le (f : Nat) (j : Bool) (a b : Nat) : pkF2 f j a b ≤ 1 := by unfold pkF2; split <;> split <;> decide
theorem s_nan_Pick_2' (f i a1 a0 b1 b0 : Int) (hf : fN f < 4) : F_nan_Pick_2 [f, i, a1, a0, b1, b0] = [wd (pkB2 (fN f) (iNz i) (nB a1 a0) (nB b1 b0)) 1, wd (pkB2 (fN f) (iNz i) (nB a1 a0) (nB b1 b0)) 0, ((pkF2 (fN f) (iNz i) (nB a1 a0) (nB b1 b0) : Nat) : Int), b2i (pkO2 (fN f) (iNz i) (nB a1 a0) (nB b1 b0))] := by
 rw [s_nan_Pick_2 _ _ _ _ _ _ hf]
 unfold pkB2 pkF2 pkO2
 by_cases h1 : 4 ≤ clsF (fN f) (nB a1 a0)
 ·simp only [h1, if_true, decide_true, Bool.true_or, true_or]
  split <;> rfl
 ·by_cases h2 : 4 ≤ clsF (fN f) (nB b1 b0)
  ·simp only [h1, h2, if_true, if_false, decide_true, decide_false, Bool.true_or, Bool.false_or, or_true]
   split <;> rfl
  ·cases hi : iNz i with
   | true => simp only [h1, h2, if_true, if_false, decide_false, Bool.false_or, or_self]; rfl
   | false => simp only [h1, h2, if_false, decide_false, Bool.false_or, or_self, Bool.false_eq_true, wd_0]; rfl
theorem or1_even {n : Nat} (h : n % 2 = 0) : n ||| 1 = n + 1 := by
 apply Nat.eq_of_testBit_eq
 intro i
 rw [Nat.testBit_or]
 cases i with
 | zero => simp [Nat.testBit_zero]; omega
 | succ i =>
  rw [Nat.testBit_succ, Nat.testBit_succ, Nat.testBit_succ, show (n + 1) / 2 = n / 2 by omega]
  simp
theorem wd_or1 {n : Nat} (h : n % 2 = 0) : iOp .or .u64 (wd n 0) 1 = wd (n + 1) 0 ∧ wd n 1 = wd (n + 1) 1 ∧ wd n 2 = wd (n + 1) 2 ∧ wd n 3 = wd (n + 1) 3 := by
 have h1 : (1 : Int) = wd 1 0 := by unfold wd; rw [Nat.pow_zero, Nat.div_one]; rfl
 have hz : ∀ i, 1 ≤ i → wd (n ||| 1) i = wd n i := fun i hi => by
  rw [← wd_or]
  have : wd 1 i = 0 := by
   unfold wd
   rw [Nat.div_eq_of_lt]
   ·rfl
   ·exact Nat.one_lt_pow (by omega) (by decide)
  rw [this, show (0 : Int) = ((0 : Nat) : Int) from rfl, wd_cast, lor_cast _ _ (Nat.mod_lt _ W64_pos) W64_pos, Nat.or_zero]
 rw [or1_even h] at hz
 refine ⟨?_, (hz 1 (by omega)).symm, (hz 2 (by omega)).symm, (hz 3 (by omega)).symm⟩
 conv => { lhs; rw [h1] }
 rw [wd_or, or1_even h]
theorem unS_big {f a : Nat} (hf : f < 4) (h : clsF f a = 1 ∨ clsF f a = 2) : 2 ^ 127 ≤ unS f a ∧ unS f a = FP.unSig f (FP.cod f a) ∧ unE f a = FP.unExp f (FP.cod f a) ∧ 0 < FP.cod f a ∧ FP.cod f a < FP.inf f := by
 obtain ⟨h1, h2, h3⟩ := cls_fin hf (show clsF f a < 3 by omega)
 have h0 : 0 < FP.cod f a := Nat.pos_of_ne_zero (h3.1 h)
 unfold unS unE
 rw [if_pos h, if_pos h]
 exact ⟨(FP.un_sig hf h0 h1).1, rfl, rfl, h0, h1⟩
theorem quo_lt {S D : Nat} (hS : S < 2 ^ 256) (hD : 2 ^ 127 ≤ D) : S / D * 2 ^ 100 + 1 < W256 := by
 have h1 : S / D < 2 ^ 129 := by
  rw [Nat.div_lt_iff_lt_mul (by have := FP.two_pow_pos 127; omega)]
  calc S < 2 ^ 129 * 2 ^ 127 := by rw [← Nat.pow_add]; exact hS
   _ ≤ 2 ^ 129 * D := Nat.mul_le_mul_left _ hD
 have h2 : S / D * 2 ^ 100 ≤ 2 ^ 129 * 2 ^ 100 := Nat.mul_le_mul_right _ (Nat.le_of_lt h1)
 rw [← Nat.pow_add] at h2
 have h3 : (2 : Nat) ^ (129 + 100) + 1 < 2 ^ 256 := by decide
 rw [W256_pow]; omega
theorem div_fin {f m a b n : Nat} {after neg : Bool} (hf : f < 4) (ha : clsF f a = 1 ∨ clsF f a = 2) (hb : clsF f b = 1 ∨ clsF f b = 2) (hn : n / 2 ^ 100 = unS f a * W128 / unS f b) (hz : n % 2 ^ 100 = 0 ↔ unS f a * W128 % unS f b = 0) :
  FP.roundE (FP.fP f) (FP.fE f) m after neg (clipE (i64 (i64 (i64 (i64 (unE f a) - i64 (unE f b)) + 27)))) n = FP.divC f m after neg (FP.cod f a) (FP.cod f b) := by
 obtain ⟨_, a2, a3, a4, a5⟩ := unS_big hf ha
 obtain ⟨_, b2, b3, b4, b5⟩ := unS_big hf hb
 have ra := unE_rng (f := f) (b := a)
 have rb := unE_rng (f := f) (b := b)
 rw [i64_id (n := unE f a) (by omega) (by omega), i64_id (n := unE f b) (by omega) (by omega), i64_id (n := unE f a - unE f b) (by omega) (by omega), i64_id (n := unE f a - unE f b + 27) (by omega) (by omega), i64_id (by omega) (by omega), clip_id (by omega) (by omega)]
 rw [a2, b2, W128_pow] at hn hz
 rw [a3, b3]
 exact FP.round_div hf a4 a5 b4 b5 hn hz
theorem oR_eq' (p : Nat × Nat) : oR p = [wd p.1 1, wd p.1 0, (p.2 : Int)] := by obtain ⟨a, b⟩ := p; exact oR_eq a b
end Go.Proofs.YtngiodcdelfdmaaGreatDoor
