import Derived.Test.YtngiodcdelfdmaaGreatDoorZMR5
import Derived.Test.YtngiodcdelfdmaaGreatDoorK1R5
namespace Go.Proofs.YtngiodcdelfdmaaGreatDoor
def E12 : List Ent := ⟨75, ctDiv, fQuot⟩ :: E11
theorem E12_ok : ∀ e ∈ E12, EntOK Tryz.prog gG e := List.forall_mem_cons.2 ⟨ent_Div, E11_ok⟩
end Go.Proofs.YtngiodcdelfdmaaGreatDoor
