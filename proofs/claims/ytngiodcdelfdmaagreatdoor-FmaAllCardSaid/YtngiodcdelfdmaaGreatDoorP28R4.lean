import Derived.Test.YtngiodcdelfdmaaGreatDoorZQR4
import Derived.Test.YtngiodcdelfdmaaGreatDoorP20wR4
import Derived.Test.YtngiodcdelfdmaaGreatDoorSxHR4
import Derived.Test.YtngiodcdelfdmaaGreatDoorZBR4
import Derived.Test.YtngiodcdelfdmaaGreatDoorZAR4
import Derived.Test.YtngiodcdelfdmaaGreatDoorZGR4
import Derived.Test.YtngiodcdelfdmaaGreatDoorZNR4
import Derived.Test.YtngiodcdelfdmaaGreatDoorZRR4
import Derived.Test.YtngiodcdelfdmaaGreatDoorH1R4
import Derived.Test.YtngiodcdelfdmaaGreatDoorK1R4
import Derived.Test.YtngiodcdelfdmaaGreatDoorSxTR4
namespace Go.Proofs.YtngiodcdelfdmaaGreatDoor
set_option linter.unusedVariables false
set_option linter.unusedSimpArgs false
set_option maxRecDepth 100000
open Go.RowKit
theorem fl24 {k : Nat} (h : k = 0 ∨ k = 16 ∨ k = 20 ∨ k = 24) : u8 (k : Int) = (k : Int) := u8_id (by omega) (by omega)
end Go.Proofs.YtngiodcdelfdmaaGreatDoor
