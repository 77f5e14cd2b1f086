import Derived.Test.YtemomocmfggiaaaGreatDoorZEU6
set_option linter.unusedSimpArgs false
set_option linter.unusedVariables false
set_option maxRecDepth 100000
namespace Go.Proofs.YtemomocmfggiaaaGreatDoor
open Go.RowKit
def DD:List wO:=E10
theorem RO:∀ e∈DD,wh Tryz.prog gG e:=aoo
end Go.Proofs.YtemomocmfggiaaaGreatDoor
