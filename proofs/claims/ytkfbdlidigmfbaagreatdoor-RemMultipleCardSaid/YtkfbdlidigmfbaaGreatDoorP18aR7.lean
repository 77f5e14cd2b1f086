import Derived.Test.YtkfbdlidigmfbaaGreatDoorP17R7
import Derived.Test.YtkfbdlidigmfbaaGreatDoorZQR7
namespace Go.Proofs.YtkfbdlidigmfbaaGreatDoor
set_option linter.unusedVariables false
set_option linter.unusedSimpArgs false
set_option maxRecDepth 100000
open Go.RowKit
theorem beq_nn (x y : Nat) : ((x : Int) == (y : Int)) = decide (x = y) := by rw [Bool.eq_iff_iff, beq_iff_eq, decide_eq_true_iff]; omega
theorem beq_nk (x k : Nat) : ((x : Int) == (k : Int)) = decide (x = k) := beq_nn x k
theorem beq_nk0 (x : Nat) : ((x : Int) == 0) = decide (x = 0) := beq_nn x 0
def pkB2 (f : Nat) (j : Bool) (a b : Nat) : Nat := if 4 ≤ clsF f a then quN f a else if 4 ≤ clsF f b then quN f b else if j = true then dfl f else 0
def pkF2 (f : Nat) (j : Bool) (a b : Nat) : Nat := if 4 ≤ clsF f a ∨ 4 ≤ clsF f b then (if j = true ∨ clsF f a = 5 ∨ clsF f b = 5 then 1 else 0) else if j = true then 1 else 0
def pkO2 (f : Nat) (j : Bool) (a b : Nat) : Bool := decide (4 ≤ clsF f a) || (decide (4 ≤ clsF f b) || j)
theorem wd_0 (i : Nat) : wd 0 i = 0 := by unfold wd; rw [Nat.zero_div, Nat.zero_mod]; rfl
theorem pkF2_le (f : Nat) (j : Bool) (a b : Nat) : pkF2 f j a b ≤ 1 := by unfold pkF2; split <;> split <;> decide
theorem s_nan_Pick_2' (f i a1 a0 b1 b0 : Int) (hf : fN f < 4) : F_nan_Pick_2 [f, i, a1, a0, b1, b0] = [wd (pkB2 (fN f) (iNz i) (nB a1 a0) (nB b1 b0)) 1, wd (pkB2 (fN f) (iNz i) (nB a1 a0) (nB b1 b0)) 0, ((pkF2 (fN f) (iNz i) (nB a1 a0) (nB b1 b0) : Nat) : Int), b2i (pkO2 (fN f) (iNz i) (nB a1 a0) (nB b1 b0))] := by
 rw [s_nan_Pick_2 _ _ _ _ _ _ hf]
 unfold pkB2 pkF2 pkO2
 by_cases h1 : 4 ≤ clsF (fN f) (nB a1 a0)
 ·simp only [h1, if_true, decide_true, Bool.true_or, true_or]
  split <;> rfl
 ·by_cases h2 : 4 ≤ clsF (fN f) (nB b1 b0)
  ·simp only [h1, h2, if_true, if_false, decide_true, decide_false, Bool.true_or, Bool.false_or, or_true]
   split <;> rfl
  ·cases hi : iNz i with
   | true => simp only [h1, h2, if_true, if_false, decide_false, Bool.false_or, or_self]; rfl
   | false => simp only [h1, h2, if_false, decide_false, Bool.false_or, or_self, Bool.false_eq_true, wd_0]; rfl
theorem unS_big {f a : Nat} (hf : f < 4) (h : clsF f a = 1 ∨ clsF f a = 2) : 2 ^ 127 ≤ unS f a ∧ unS f a = FP.unSig f (FP.cod f a) ∧ unE f a = FP.unExp f (FP.cod f a) ∧ 0 < FP.cod f a ∧ FP.cod f a < FP.inf f := by
 obtain ⟨h1, h2, h3⟩ := cls_fin hf (show clsF f a < 3 by omega)
 have h0 : 0 < FP.cod f a := Nat.pos_of_ne_zero (h3.1 h)
 unfold unS unE
 rw [if_pos h, if_pos h]
 exact ⟨(FP.un_sig hf h0 h1).1, rfl, rfl, h0, h1⟩
theorem oR_eq' (p : Nat × Nat) : oR p = [wd p.1 1, wd p.1 0, (p.2 : Int)] := by obtain ⟨a, b⟩ := p; exact oR_eq a b
end Go.Proofs.YtkfbdlidigmfbaaGreatDoor
