import Derived.Test.YtemomocmfggiaaaGreatDoorW11U5
import Derived.Test.YtemomocmfggiaaaGreatDoorH1U5
import Derived.Test.YtemomocmfggiaaaGreatDoorK1U5
import Derived.Test.YtemomocmfggiaaaGreatDoorSxTU5
namespace Go.Proofs.YtemomocmfggiaaaGreatDoor
def E20 : List Ent := ⟨228, ctMod, fMod⟩ :: E11
theorem E20_ok : ∀ e ∈ E20, EntOK Tryz.prog gG e := List.forall_mem_cons.2 ⟨ent_Mod, E11_ok⟩
end Go.Proofs.YtemomocmfggiaaaGreatDoor
