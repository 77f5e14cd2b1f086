import Derived.Test.YtemomocmfggiaaaGreatDoorW11U6
import Derived.Test.YtemomocmfggiaaaGreatDoorH1U6
import Derived.Test.YtemomocmfggiaaaGreatDoorK1U6
import Derived.Test.YtemomocmfggiaaaGreatDoorSxTU6
set_option linter.unusedSimpArgs false
set_option linter.unusedVariables false
namespace Go.Proofs.YtemomocmfggiaaaGreatDoor
def BX:List wO:=⟨228,IY,LV⟩::DD
theorem aty:∀ e∈BX,wh Tryz.prog gG e:=List.forall_mem_cons.2 ⟨atx,RO⟩
end Go.Proofs.YtemomocmfggiaaaGreatDoor
