import Derived.Test.YtafnnnhmplgkcaaGreatDoorR1Rh
import Derived.Test.YtafnnnhmplgkcaaGreatDoorA3Rh
/- Remainders and sums in one table. -/
namespace Go.Proofs.YtafnnnhmplgkcaaGreatDoor
def E40 : List Ent := ⟨24, c_addsub_Add, F_addsub_Add⟩ :: E21
theorem E40_ok : ∀ e ∈ E40, EntOK Tryz.prog gG e := List.forall_mem_cons.2 ⟨e_addsub_Add, E21_ok⟩
end Go.Proofs.YtafnnnhmplgkcaaGreatDoor
