import Derived.Test.YtemomocmfggiaaaGreatDoorZ1U6
set_option linter.unusedSimpArgs false
set_option linter.unusedVariables false
set_option maxRecDepth 100000
namespace Go.Proofs.YtemomocmfggiaaaGreatDoor
open Go.RowKit
theorem BD {k:Nat} (h:k≤255):u8 (k:Int)=(k:Int):=BP (by omega) (by omega)
section
variable {F M T a1 a0 b1 b0:Int} {φ μ A B:Nat} {τ:Bool}
end
end Go.Proofs.YtemomocmfggiaaaGreatDoor
