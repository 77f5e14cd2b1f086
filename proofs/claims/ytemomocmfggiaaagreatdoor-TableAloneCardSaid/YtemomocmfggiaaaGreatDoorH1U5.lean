import Derived.Test.YtemomocmfggiaaaGreatDoorZEU5
namespace Go.Proofs.YtemomocmfggiaaaGreatDoor
set_option linter.unusedVariables false
set_option maxRecDepth 100000
open Go.RowKit
def E11 : List Ent := E10
theorem E11_ok : ∀ e ∈ E11, EntOK Tryz.prog gG e := E10_ok
end Go.Proofs.YtemomocmfggiaaaGreatDoor
