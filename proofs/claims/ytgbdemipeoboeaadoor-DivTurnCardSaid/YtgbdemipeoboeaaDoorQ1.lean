import Derived.Test.YtgbdemipeoboeaaDoorW9
import Derived.Test.YtgbdemipeoboeaaDoorK1
/- The table with quot.Div's contract. -/
namespace Go.Proofs.YtgbdemipeoboeaaDoor
def E12 : List Ent := ⟨40, ctDiv, fQuot⟩ :: E11
theorem E12_ok : ∀ e ∈ E12, EntOK Tryd.prog gG e := List.forall_mem_cons.2 ⟨ent_Div, E11_ok⟩
end Go.Proofs.YtgbdemipeoboeaaDoor
