import Derived.Test.YtbembkamcdlhbaaGreatDoorRows
import Derived.JoinedOf
set_option linter.unusedSimpArgs false
set_option linter.unusedVariables false
set_option maxRecDepth 100000
namespace Go.Proofs.YtbembkamcdlhbaaGreatDoor
theorem am0:(Rows.scriptKnownRow.named==Tryz.pinned.checked.prog.varsNamed 11)=true:=by kernel_rfl
end Go.Proofs.YtbembkamcdlhbaaGreatDoor
