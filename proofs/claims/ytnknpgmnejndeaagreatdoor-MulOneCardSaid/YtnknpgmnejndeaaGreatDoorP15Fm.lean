import Derived.Test.YtnknpgmnejndeaaGreatDoorZGFm
import Derived.Test.YtnknpgmnejndeaaGreatDoorFQFm
/- Quotients by codes. -/
namespace Go.Proofs.YtnknpgmnejndeaaGreatDoor
set_option linter.unusedVariables false
set_option linter.unusedSimpArgs false
set_option maxRecDepth 100000
open Go.RowKit
end Go.Proofs.YtnknpgmnejndeaaGreatDoor
