import Derived.Test.YtngiodcdelfdmaaGreatDoorP17R2
import Derived.Test.YtngiodcdelfdmaaGreatDoorZGR2
import Derived.Test.YtngiodcdelfdmaaGreatDoorFQR2
/- Small laws for the walks along trees: nan.Pick in parts, classes, sums of words. -/
namespace Go.Proofs.YtngiodcdelfdmaaGreatDoor
set_option linter.unusedVariables false
set_option linter.unusedSimpArgs false
set_option maxRecDepth 100000
open Go.RowKit
/-- what nan.Pick tells of two operands, in parts -/
def pkB2 (f : Nat) (j : Bool) (a b : Nat) : Nat := if 4 ≤ clsF f a then quN f a else if 4 ≤ clsF f b then quN f b else if j = true then dfl f else 0
def pkF2 (f : Nat) (j : Bool) (a b : Nat) : Nat := if 4 ≤ clsF f a ∨ 4 ≤ clsF f b then (if j = true ∨ clsF f a = 5 ∨ clsF f b = 5 then 1 else 0) else if j = true then 1 else 0
def pkO2 (f : Nat) (j : Bool) (a b : Nat) : Bool := decide (4 ≤ clsF f a) || (decide (4 ≤ clsF f b) || j)
theorem wd_0 (i : Nat) : wd 0 i = 0 := by unfold wd; rw [Nat.zero_div, Nat.zero_mod]; rfl
theorem pkF2_le (f : Nat) (j : Bool) (a b : Nat) : pkF2 f j a b ≤ 1 := by unfold pkF2; split <;> split <;> decide
end Go.Proofs.YtngiodcdelfdmaaGreatDoor
