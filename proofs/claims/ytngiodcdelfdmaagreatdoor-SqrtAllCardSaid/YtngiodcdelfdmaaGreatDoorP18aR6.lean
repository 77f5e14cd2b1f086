import Derived.Test.YtngiodcdelfdmaaGreatDoorP17R6
import Derived.Test.YtngiodcdelfdmaaGreatDoorZQR6
namespace Go.Proofs.YtngiodcdelfdmaaGreatDoor
set_option linter.unusedVariables false
set_option linter.unusedSimpArgs false
set_option maxRecDepth 100000
open Go.RowKit
theorem beq_nn (x y : Nat) : ((x : Int) == (y : Int)) = decide (x = y) := by rw [Bool.eq_iff_iff, beq_iff_eq, decide_eq_true_iff]; omega
theorem beq_nk (x k : Nat) : ((x : Int) == (k : Int)) = decide (x = k) := beq_nn x k
theorem bne_nk (x k : Nat) : (!((x : Int) == (k : Int))) = decide (¬ x = k) := by rw [beq_nn]; exact (decide_not).symm
theorem wd_0 (i : Nat) : wd 0 i = 0 := by unfold wd; rw [Nat.zero_div, Nat.zero_mod]; rfl
theorem or1_even {n : Nat} (h : n % 2 = 0) : n ||| 1 = n + 1 := by
 apply Nat.eq_of_testBit_eq
 intro i
 rw [Nat.testBit_or]
 cases i with
 | zero => simp [Nat.testBit_zero]; omega
 | succ i =>
  rw [Nat.testBit_succ, Nat.testBit_succ, Nat.testBit_succ, show (n + 1) / 2 = n / 2 by omega]
  simp
theorem wd_or1 {n : Nat} (h : n % 2 = 0) : iOp .or .u64 (wd n 0) 1 = wd (n + 1) 0 ∧ wd n 1 = wd (n + 1) 1 ∧ wd n 2 = wd (n + 1) 2 ∧ wd n 3 = wd (n + 1) 3 := by
 have h1 : (1 : Int) = wd 1 0 := by unfold wd; rw [Nat.pow_zero, Nat.div_one]; rfl
 have hz : ∀ i, 1 ≤ i → wd (n ||| 1) i = wd n i := fun i hi => by
  rw [← wd_or]
  have : wd 1 i = 0 := by
   unfold wd
   rw [Nat.div_eq_of_lt]
   ·rfl
   ·exact Nat.one_lt_pow (by omega) (by decide)
  rw [this, show (0 : Int) = ((0 : Nat) : Int) from rfl, wd_cast, lor_cast _ _ (Nat.mod_lt _ W64_pos) W64_pos, Nat.or_zero]
 rw [or1_even h] at hz
 refine ⟨?_, (hz 1 (by omega)).symm, (hz 2 (by omega)).symm, (hz 3 (by omega)).symm⟩
 conv => { lhs; rw [h1] }
 rw [wd_or, or1_even h]
theorem unS_big {f a : Nat} (hf : f < 4) (h : clsF f a = 1 ∨ clsF f a = 2) : 2 ^ 127 ≤ unS f a ∧ unS f a = FP.unSig f (FP.cod f a) ∧ unE f a = FP.unExp f (FP.cod f a) ∧ 0 < FP.cod f a ∧ FP.cod f a < FP.inf f := by
 obtain ⟨h1, h2, h3⟩ := cls_fin hf (show clsF f a < 3 by omega)
 have h0 : 0 < FP.cod f a := Nat.pos_of_ne_zero (h3.1 h)
 unfold unS unE
 rw [if_pos h, if_pos h]
 exact ⟨(FP.un_sig hf h0 h1).1, rfl, rfl, h0, h1⟩
theorem oR_eq' (p : Nat × Nat) : oR p = [wd p.1 1, wd p.1 0, (p.2 : Int)] := by obtain ⟨a, b⟩ := p; exact oR_eq a b
end Go.Proofs.YtngiodcdelfdmaaGreatDoor
