import Derived.Test.YtippohicjhilnaaGreatDoorRows
import Derived.JoinedOf
set_option linter.unusedSimpArgs false
set_option linter.unusedVariables false
set_option maxRecDepth 100000
namespace Go.Proofs.YtippohicjhilnaaGreatDoor
theorem aCe:(Rows.topNearestRow.inPlace==Tryz.pinned.checked.prog.inPlace 3)=true:=by kernel_rfl
end Go.Proofs.YtippohicjhilnaaGreatDoor
