import Derived.Test.YtkfbdlidigmfbaaGreatDoorW11R7
import Derived.Test.YtkfbdlidigmfbaaGreatDoorH1R7
import Derived.Test.YtkfbdlidigmfbaaGreatDoorK1R7
import Derived.Test.YtkfbdlidigmfbaaGreatDoorSxTR7
namespace Go.Proofs.YtkfbdlidigmfbaaGreatDoor
def E20 : List Ent := ⟨100, ctMod, fMod⟩ :: E11
theorem E20_ok : ∀ e ∈ E20, EntOK Tryz.prog gG e := List.forall_mem_cons.2 ⟨ent_Mod, E11_ok⟩
end Go.Proofs.YtkfbdlidigmfbaaGreatDoor
