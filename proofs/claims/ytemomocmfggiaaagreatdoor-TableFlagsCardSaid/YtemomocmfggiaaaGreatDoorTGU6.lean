import Derived.Test.YtemomocmfggiaaaGreatDoorTM3U6
set_option linter.unusedSimpArgs false
set_option linter.unusedVariables false
set_option maxRecDepth 100000
namespace Go.Proofs.YtemomocmfggiaaaGreatDoor
theorem ahw:LZ [] = [1]:=by kernel_rfl
end Go.Proofs.YtemomocmfggiaaaGreatDoor
