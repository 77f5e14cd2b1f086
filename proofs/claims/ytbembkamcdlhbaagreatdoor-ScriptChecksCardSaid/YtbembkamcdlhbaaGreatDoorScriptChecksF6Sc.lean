import Derived.Test.YtbembkamcdlhbaaGreatDoorCards
import Derived.JoinedOf
set_option linter.unusedSimpArgs false
set_option linter.unusedVariables false
set_option maxRecDepth 100000
namespace Go.Proofs.YtbembkamcdlhbaaGreatDoor
theorem anB:false=Rows.scriptChecksRow.goesBy Tryz.pinned.checked.prog:=by kernel_rfl
end Go.Proofs.YtbembkamcdlhbaaGreatDoor
