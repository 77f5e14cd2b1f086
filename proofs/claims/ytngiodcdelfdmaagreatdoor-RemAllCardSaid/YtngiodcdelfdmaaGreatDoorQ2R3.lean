import Derived.Test.YtngiodcdelfdmaaGreatDoorW11R3
import Derived.Test.YtngiodcdelfdmaaGreatDoorH1R3
import Derived.Test.YtngiodcdelfdmaaGreatDoorK1R3
import Derived.Test.YtngiodcdelfdmaaGreatDoorSxTR3
namespace Go.Proofs.YtngiodcdelfdmaaGreatDoor
def E20 : List Ent := ⟨168, ctMod, fMod⟩ :: E11
theorem E20_ok : ∀ e ∈ E20, EntOK Tryz.prog gG e := List.forall_mem_cons.2 ⟨ent_Mod, E11_ok⟩
end Go.Proofs.YtngiodcdelfdmaaGreatDoor
