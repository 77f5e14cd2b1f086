import Derived.Test.YtafnnnhmplgkcaaGreatDoorP15Sf
/- Sums and fused products by codes. -/
namespace Go.Proofs.YtafnnnhmplgkcaaGreatDoor
set_option linter.unusedVariables false
set_option linter.unusedSimpArgs false
set_option maxRecDepth 100000
open Go.RowKit
/-- a sum: bits, flags -/
def addI (f a b : Nat) : Bool := decide (clsF f a = 3) && (decide (clsF f b = 3) && (FP.sgn f a != FP.sgn f b))
def addR (f m : Nat) (after : Bool) (a b : Nat) : Nat × Nat :=
  if 4 ≤ clsF f a then (quN f a, nanFlag f a b) else if 4 ≤ clsF f b then (quN f b, nanFlag f a b)
  else if addI f a b = true then (dfl f, 1)
  else if clsF f a = 3 then (FP.mk f (FP.sgn f a) (FP.inf f), 0)
  else if clsF f b = 3 then (FP.mk f (FP.sgn f b) (FP.inf f), 0)
  else (FP.mk f (FP.addN f m (FP.sgn f a) (FP.sgn f b) (FP.cod f a) (FP.cod f b)) (FP.addC f m after (FP.sgn f a) (FP.sgn f b) (FP.cod f a) (FP.cod f b)).1, (FP.addC f m after (FP.sgn f a) (FP.sgn f b) (FP.cod f a) (FP.cod f b)).2)
theorem addI_cls {f a b : Nat} (h : addI f a b = true) : clsF f a = 3 ∧ clsF f b = 3 := by
  unfold addI at h
  simp only [Bool.and_eq_true, decide_eq_true_iff] at h
  exact ⟨h.1, h.2.1⟩
theorem clsC_zero_iff {f k : Nat} : FP.clsC f k = 0 ↔ k = 0 := by
  unfold FP.clsC
  by_cases h : k = 0
  · rw [if_pos h]; simp [h]
  · rw [if_neg h]
    constructor
    · intro h2
      exfalso
      revert h2
      split
      · simp
      · split
        · simp
        · split
          · simp
          · split <;> simp
    · intro h2; exact absurd h2 h
end Go.Proofs.YtafnnnhmplgkcaaGreatDoor
