import Derived.Test.YtemomocmfggiaaaGreatDoorTM3U5
namespace Go.Proofs.YtemomocmfggiaaaGreatDoor
set_option maxRecDepth 100000
theorem s_goes : F_law29_goes [] = [1] := by kernel_rfl
end Go.Proofs.YtemomocmfggiaaaGreatDoor
