import Derived.Test.YtgbdemipeoboeaaDoorW11
import Derived.Test.YtgbdemipeoboeaaDoorH1
import Derived.Test.YtgbdemipeoboeaaDoorK1
import Derived.Test.YtgbdemipeoboeaaDoorSxT
/- The table with quot.Mod's contract. -/
namespace Go.Proofs.YtgbdemipeoboeaaDoor
def E20 : List Ent := ⟨99, ctMod, fMod⟩ :: E11
theorem E20_ok : ∀ e ∈ E20, EntOK Tryd.prog gG e := List.forall_mem_cons.2 ⟨ent_Mod, E11_ok⟩
end Go.Proofs.YtgbdemipeoboeaaDoor
