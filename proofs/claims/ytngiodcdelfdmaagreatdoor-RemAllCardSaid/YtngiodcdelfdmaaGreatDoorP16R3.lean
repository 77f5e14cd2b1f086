import Derived.Test.YtngiodcdelfdmaaGreatDoorZGR3
import Derived.Test.YtngiodcdelfdmaaGreatDoorFQR3
namespace Go.Proofs.YtngiodcdelfdmaaGreatDoor
set_option linter.unusedVariables false
set_option linter.unusedSimpArgs false
set_option maxRecDepth 100000
open Go.RowKit
theorem bne_false' (a : Bool) : (a != false) = a := by cases a <;> rfl
end Go.Proofs.YtngiodcdelfdmaaGreatDoor
