import Derived.Test.YtbembkamcdlhbaaGreatDoorRows
import Derived.JoinedOf
set_option linter.unusedSimpArgs false
set_option linter.unusedVariables false
set_option maxRecDepth 100000
namespace Go.Proofs.YtbembkamcdlhbaaGreatDoor
theorem ant:(Rows.scriptChecksRow.inPlace==Tryz.pinned.checked.prog.inPlace 10)=true:=by kernel_rfl
end Go.Proofs.YtbembkamcdlhbaaGreatDoor
