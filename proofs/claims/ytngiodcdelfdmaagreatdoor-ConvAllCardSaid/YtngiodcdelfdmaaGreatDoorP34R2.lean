import Derived.Test.YtngiodcdelfdmaaGreatDoorH1R2
import Derived.Test.YtngiodcdelfdmaaGreatDoorZER2
import Derived.Test.YtngiodcdelfdmaaGreatDoorSxTR2
import Derived.Test.YtngiodcdelfdmaaGreatDoorP18aR2
import Derived.Test.YtngiodcdelfdmaaGreatDoorZGR2
import Derived.Test.YtngiodcdelfdmaaGreatDoorFQR2
/- nan.Pick of three; what a fused product answers where it picks. -/
namespace Go.Proofs.YtngiodcdelfdmaaGreatDoor
set_option linter.unusedVariables false
set_option linter.unusedSimpArgs false
set_option maxRecDepth 100000
open Go.RowKit
theorem badC_le {x y : Nat} (h : badC x y = true) : x ≤ 3 ∧ y ≤ 3 := by
  unfold badC at h
  simp only [Bool.and_eq_true, Bool.or_eq_true, decide_eq_true_iff] at h
  omega
end Go.Proofs.YtngiodcdelfdmaaGreatDoor
