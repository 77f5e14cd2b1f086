import Derived.Test.YtafnnnhmplgkcaaGreatDoorV1Sf
import Derived.Test.YtafnnnhmplgkcaaGreatDoorA3Sf
/- Roots and sums in one table. -/
namespace Go.Proofs.YtafnnnhmplgkcaaGreatDoor
def E53 : List Ent := ⟨24, c_addsub_Add, F_addsub_Add⟩ :: E52
theorem E53_ok : ∀ e ∈ E53, EntOK Tryz.prog gG e := List.forall_mem_cons.2 ⟨e_addsub_Add, E52_ok⟩
end Go.Proofs.YtafnnnhmplgkcaaGreatDoor
