import Derived.Test.YtngiodcdelfdmaaGreatDoorP27R4
import Derived.Test.YtngiodcdelfdmaaGreatDoorZQR4
namespace Go.Proofs.YtngiodcdelfdmaaGreatDoor
set_option linter.unusedVariables false
set_option linter.unusedSimpArgs false
set_option maxRecDepth 100000
open Go.RowKit
def pkB3 (f : Nat) (j : Bool) (a b c : Nat) : Nat := if 4 ≤ clsF f a then quN f a else if 4 ≤ clsF f b then quN f b else if 4 ≤ clsF f c then quN f c else if j = true then dfl f else 0
def pkF3 (f : Nat) (j : Bool) (a b c : Nat) : Nat := if 4 ≤ clsF f a ∨ 4 ≤ clsF f b ∨ 4 ≤ clsF f c then (if j = true ∨ clsF f a = 5 ∨ clsF f b = 5 ∨ clsF f c = 5 then 1 else 0) else if j = true then 1 else 0
def pkO3 (f : Nat) (j : Bool) (a b c : Nat) : Bool := decide (4 ≤ clsF f a) || (decide (4 ≤ clsF f b) || (decide (4 ≤ clsF f c) || j))
theorem pkF3_le (f : Nat) (j : Bool) (a b c : Nat) : pkF3 f j a b c ≤ 1 := by unfold pkF3; split <;> split <;> decide
theorem s_nan_Pick_3' (f i a1 a0 b1 b0 c1 c0 : Int) (hf : fN f < 4) : F_nan_Pick_3 [f, i, a1, a0, b1, b0, c1, c0] = [wd (pkB3 (fN f) (iNz i) (nB a1 a0) (nB b1 b0) (nB c1 c0)) 1, wd (pkB3 (fN f) (iNz i) (nB a1 a0) (nB b1 b0) (nB c1 c0)) 0, ((pkF3 (fN f) (iNz i) (nB a1 a0) (nB b1 b0) (nB c1 c0) : Nat) : Int), b2i (pkO3 (fN f) (iNz i) (nB a1 a0) (nB b1 b0) (nB c1 c0))] := by
 rw [s_nan_Pick_3 _ _ _ _ _ _ _ _ hf]
 unfold pkB3 pkF3 pkO3
 by_cases h1 : 4 ≤ clsF (fN f) (nB a1 a0)
 ·simp only [h1, if_true, decide_true, Bool.true_or, true_or]
  split <;> rfl
 ·by_cases h2 : 4 ≤ clsF (fN f) (nB b1 b0)
  ·simp only [h1, h2, if_true, if_false, decide_true, decide_false, Bool.true_or, Bool.false_or, or_true, true_or]
   split <;> rfl
  ·by_cases h3 : 4 ≤ clsF (fN f) (nB c1 c0)
   ·simp only [h1, h2, h3, if_true, if_false, decide_true, decide_false, Bool.true_or, Bool.false_or, or_true, true_or]
    split <;> rfl
   ·cases hi : iNz i with
    | true => simp only [h1, h2, h3, if_true, if_false, decide_false, Bool.false_or, or_self]; rfl
    | false => simp only [h1, h2, h3, if_false, decide_false, Bool.false_or, or_self, Bool.false_eq_true, wd_0]; rfl
def fmaJ (f a b c : Nat) : Bool := badC (clsF f a) (clsF f b) || (fmaI f a b c && !pkO3 f false a b c)
theorem fmaI_bad {f a b c : Nat} (h : badC (clsF f a) (clsF f b) = true) : fmaI f a b c = true := by unfold fmaI; rw [h, Bool.true_or]
theorem pkO3_nan {f a b c : Nat} {q : Bool} : pkO3 f q a b c = true ↔ 4 ≤ clsF f a ∨ 4 ≤ clsF f b ∨ 4 ≤ clsF f c ∨ q = true := by
 unfold pkO3; simp only [Bool.or_eq_true, decide_eq_true_iff]
theorem fmaJ_nan {f a b c : Nat} (h : 4 ≤ clsF f a ∨ 4 ≤ clsF f b ∨ 4 ≤ clsF f c) : fmaJ f a b c = badC (clsF f a) (clsF f b) := by
 unfold fmaJ
 have hp : pkO3 f false a b c = true := pkO3_nan.2 (by rcases h with h | h | h <;> simp [h])
 rw [hp]; simp
theorem fmaJ_num {f a b c : Nat} (h : ¬ (4 ≤ clsF f a ∨ 4 ≤ clsF f b ∨ 4 ≤ clsF f c)) : fmaJ f a b c = fmaI f a b c := by
 unfold fmaJ
 have hp : pkO3 f false a b c = false := by
  rw [← Bool.not_eq_true, pkO3_nan]
  simp only [Bool.false_eq_true, or_false]; exact h
 rw [hp]
 cases hb : badC (clsF f a) (clsF f b) with
 | true => rw [fmaI_bad hb]; rfl
 | false => simp
theorem fmaR_pick {f a b c m : Nat} {after : Bool} (h : pkO3 f (fmaJ f a b c) a b c = true) : fmaR f m after a b c = (pkB3 f (fmaJ f a b c) a b c, pkF3 f (fmaJ f a b c) a b c) := by
 by_cases hn : 4 ≤ clsF f a ∨ 4 ≤ clsF f b ∨ 4 ≤ clsF f c
 ·rw [fmaJ_nan hn]
  unfold fmaR pkB3 pkF3 fmaFlag
  rw [if_pos hn]
  by_cases h1 : 4 ≤ clsF f a
  ·rw [if_pos h1, if_pos h1]
  ·rw [if_neg h1, if_neg h1]
   by_cases h2 : 4 ≤ clsF f b
   ·rw [if_pos h2, if_pos h2]
   ·rw [if_neg h2, if_neg h2]
    have h3 : 4 ≤ clsF f c := by rcases hn with h | h | h <;> first | exact absurd h h1 | exact absurd h h2 | exact h
    rw [if_pos h3, if_pos h3]
 ·rw [fmaJ_num hn] at h ⊢
  have hI : fmaI f a b c = true := by
   rw [pkO3_nan] at h
   rcases h with h | h | h | h
   ·exact absurd (.inl h) hn
   ·exact absurd (.inr (.inl h)) hn
   ·exact absurd (.inr (.inr h)) hn
   ·exact h
  rw [not_or, not_or] at hn
  unfold fmaR pkB3 pkF3
  rw [if_neg hn.1, if_neg hn.2.1, if_neg hn.2.2, if_pos hI, if_neg hn.1, if_neg hn.2.1, if_neg hn.2.2, if_pos hI, if_neg (by rw [not_or, not_or]; exact hn), if_pos hI]
theorem fmaR_num {f a b c m : Nat} {after : Bool} (h : ¬ pkO3 f (fmaJ f a b c) a b c = true) : fmaR f m after a b c = (FP.mk f (fmaSg f m a b c) (fmaSc f m after a b c).1, (fmaSc f m after a b c).2) ∧ (¬ 4 ≤ clsF f a ∧ ¬ 4 ≤ clsF f b ∧ ¬ 4 ≤ clsF f c) ∧ fmaI f a b c = false := by
 rw [pkO3_nan, not_or, not_or, not_or] at h
 obtain ⟨h1, h2, h3, h4⟩ := h
 have hn : ¬ (4 ≤ clsF f a ∨ 4 ≤ clsF f b ∨ 4 ≤ clsF f c) := by rw [not_or, not_or]; exact ⟨h1, h2, h3⟩
 rw [fmaJ_num hn] at h4
 refine ⟨?_, ⟨h1, h2, h3⟩, Bool.not_eq_true _ ▸ h4⟩
 rw [fmaR_S m after h1 h2 h3, if_neg h4]
theorem tp_un {f a b : Nat} (hf : f < 4) (ha : clsF f a < 3) (hb : clsF f b < 3) :
  FP.tpE f (FP.cod f a) (FP.cod f b) = (if (clsF f a = 1 ∨ clsF f a = 2) ∧ (clsF f b = 1 ∨ clsF f b = 2) then unE f a + unE f b + 1 else 0) ∧
  FP.tpS f (FP.cod f a) (FP.cod f b) = (if (clsF f a = 1 ∨ clsF f a = 2) ∧ (clsF f b = 1 ∨ clsF f b = 2) then unS f a * unS f b else 0) := by
 obtain ⟨a1, a2, a3⟩ := cls_fin hf ha
 obtain ⟨b1, b2, b3⟩ := cls_fin hf hb
 unfold FP.tpE FP.tpS unE unS
 by_cases h0 : clsF f a = 0 ∨ clsF f b = 0
 ·have hz : FP.cod f a = 0 ∨ FP.cod f b = 0 := by
   rcases h0 with h | h
   ·exact .inl (a2.1 h)
   ·exact .inr (b2.1 h)
  have hz2 : ¬ ((clsF f a = 1 ∨ clsF f a = 2) ∧ (clsF f b = 1 ∨ clsF f b = 2)) := by omega
  rw [if_pos hz, if_pos hz, if_neg hz2, if_neg hz2]; exact ⟨rfl, rfl⟩
 ·have hz : ¬ (FP.cod f a = 0 ∨ FP.cod f b = 0) := by
   intro h
   rcases h with h | h
   ·exact h0 (.inl (a2.2 h))
   ·exact h0 (.inr (b2.2 h))
  have pa : clsF f a = 1 ∨ clsF f a = 2 := by omega
  have pb : clsF f b = 1 ∨ clsF f b = 2 := by omega
  simp only [hz, pa, pb, and_self, if_true, if_false]
theorem prod_lt {x y : Nat} (hx : x < W128) (hy : y < W128) : x * y < W256 := by rw [W256_sq]; exact Nat.mul_lt_mul'' hx hy
end Go.Proofs.YtngiodcdelfdmaaGreatDoor
