import Derived.Test.YtippohicjhilnaaGreatDoorCards
import Derived.JoinedOf
set_option linter.unusedSimpArgs false
set_option linter.unusedVariables false
set_option maxRecDepth 100000
namespace Go.Proofs.YtippohicjhilnaaGreatDoor
theorem aCk:true=Tryz.pinned.checked.prog.looks []:=by kernel_rfl
end Go.Proofs.YtippohicjhilnaaGreatDoor
