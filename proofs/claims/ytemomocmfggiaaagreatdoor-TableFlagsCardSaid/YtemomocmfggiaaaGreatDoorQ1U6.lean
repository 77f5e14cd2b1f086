import Derived.Test.YtemomocmfggiaaaGreatDoorZMU6
import Derived.Test.YtemomocmfggiaaaGreatDoorK1U6
set_option linter.unusedSimpArgs false
set_option linter.unusedVariables false
namespace Go.Proofs.YtemomocmfggiaaaGreatDoor
def Em:List wO:=⟨149,IG,Lv⟩::DD
theorem atg:∀ e∈Em,wh Tryz.prog gG e:=List.forall_mem_cons.2 ⟨apO,RO⟩
end Go.Proofs.YtemomocmfggiaaaGreatDoor
