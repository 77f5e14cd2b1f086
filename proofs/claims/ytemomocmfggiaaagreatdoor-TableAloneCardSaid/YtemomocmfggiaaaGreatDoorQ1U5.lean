import Derived.Test.YtemomocmfggiaaaGreatDoorZMU5
import Derived.Test.YtemomocmfggiaaaGreatDoorK1U5
namespace Go.Proofs.YtemomocmfggiaaaGreatDoor
def E12 : List Ent := ⟨149, ctDiv, fQuot⟩ :: E11
theorem E12_ok : ∀ e ∈ E12, EntOK Tryz.prog gG e := List.forall_mem_cons.2 ⟨ent_Div, E11_ok⟩
end Go.Proofs.YtemomocmfggiaaaGreatDoor
