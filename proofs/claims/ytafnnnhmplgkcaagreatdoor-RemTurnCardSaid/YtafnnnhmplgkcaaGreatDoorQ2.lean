import Derived.Test.YtafnnnhmplgkcaaGreatDoorW11
import Derived.Test.YtafnnnhmplgkcaaGreatDoorH1
import Derived.Test.YtafnnnhmplgkcaaGreatDoorK1
import Derived.Test.YtafnnnhmplgkcaaGreatDoorSxT
/- The table with quot.Mod's contract. -/
namespace Go.Proofs.YtafnnnhmplgkcaaGreatDoor
def E20 : List Ent := ⟨82, ctMod, fMod⟩ :: E11
theorem E20_ok : ∀ e ∈ E20, EntOK Tryz.prog gG e := List.forall_mem_cons.2 ⟨ent_Mod, E11_ok⟩
end Go.Proofs.YtafnnnhmplgkcaaGreatDoor
