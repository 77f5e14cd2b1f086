import Derived.Test.YtippohicjhilnaaGreatDoorCards
import Derived.JoinedOf
set_option linter.unusedSimpArgs false
set_option linter.unusedVariables false
set_option maxRecDepth 100000
namespace Go.Proofs.YtippohicjhilnaaGreatDoor
theorem aCl:false=Rows.topNearestRow.goesBy Tryz.pinned.checked.prog:=by kernel_rfl
end Go.Proofs.YtippohicjhilnaaGreatDoor
