import Derived.Test.YtafnnnhmplgkcaaGreatDoorZGSf
import Derived.Test.YtafnnnhmplgkcaaGreatDoorFQSf
/- Quotients by codes. -/
namespace Go.Proofs.YtafnnnhmplgkcaaGreatDoor
set_option linter.unusedVariables false
set_option linter.unusedSimpArgs false
set_option maxRecDepth 100000
open Go.RowKit
end Go.Proofs.YtafnnnhmplgkcaaGreatDoor
