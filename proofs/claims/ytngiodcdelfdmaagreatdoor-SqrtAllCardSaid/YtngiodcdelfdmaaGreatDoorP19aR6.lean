import Derived.Test.YtngiodcdelfdmaaGreatDoorP18aR6
namespace Go.Proofs.YtngiodcdelfdmaaGreatDoor
set_option linter.unusedVariables false
set_option linter.unusedSimpArgs false
set_option maxRecDepth 100000
open Go.RowKit
theorem nF {c : X} {l : List Int} (h : iNz (c.ev l) = false) : iNz ((X.not c).ev l) = true := by rw [ev_not, iNz_b2i, h]; rfl
section
variable {F M T a1 a0 b1 b0 : Int} {φ μ A B : Nat} {τ : Bool}
end
end Go.Proofs.YtngiodcdelfdmaaGreatDoor
