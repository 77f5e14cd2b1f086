import Derived.Test.YtafnnnhmplgkcaaGreatDoorW7bSf
import Derived.Test.YtafnnnhmplgkcaaGreatDoorZGSf
/- quot.next by numbers. -/
namespace Go.Proofs.YtafnnnhmplgkcaaGreatDoor
set_option linter.unusedVariables false
set_option linter.unusedSimpArgs false
set_option maxRecDepth 100000
open Go.RowKit
end Go.Proofs.YtafnnnhmplgkcaaGreatDoor
