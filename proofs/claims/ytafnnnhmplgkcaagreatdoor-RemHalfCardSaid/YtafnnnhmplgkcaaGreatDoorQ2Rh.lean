import Derived.Test.YtafnnnhmplgkcaaGreatDoorW11Rh
import Derived.Test.YtafnnnhmplgkcaaGreatDoorH1Rh
import Derived.Test.YtafnnnhmplgkcaaGreatDoorK1Rh
import Derived.Test.YtafnnnhmplgkcaaGreatDoorSxTRh
/- The table with quot.Mod's contract. -/
namespace Go.Proofs.YtafnnnhmplgkcaaGreatDoor
def E20 : List Ent := ⟨82, ctMod, fMod⟩ :: E11
theorem E20_ok : ∀ e ∈ E20, EntOK Tryz.prog gG e := List.forall_mem_cons.2 ⟨ent_Mod, E11_ok⟩
end Go.Proofs.YtafnnnhmplgkcaaGreatDoor
