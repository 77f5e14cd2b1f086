import Derived.Test.YtngiodcdelfdmaaGreatDoorP17R4
import Derived.Test.YtngiodcdelfdmaaGreatDoorZQR4
namespace Go.Proofs.YtngiodcdelfdmaaGreatDoor
set_option linter.unusedVariables false
set_option linter.unusedSimpArgs false
set_option maxRecDepth 100000
open Go.RowKit
theorem beq_nn (x y : Nat) : ((x : Int) == (y : Int)) = decide (x = y) := by rw [Bool.eq_iff_iff, beq_iff_eq, decide_eq_true_iff]; omega
theorem beq_nk (x k : Nat) : ((x : Int) == (k : Int)) = decide (x = k) := beq_nn x k
theorem wd_0 (i : Nat) : wd 0 i = 0 := by unfold wd; rw [Nat.zero_div, Nat.zero_mod]; rfl
theorem oR_eq' (p : Nat × Nat) : oR p = [wd p.1 1, wd p.1 0, (p.2 : Int)] := by obtain ⟨a, b⟩ := p; exact oR_eq a b
end Go.Proofs.YtngiodcdelfdmaaGreatDoor
