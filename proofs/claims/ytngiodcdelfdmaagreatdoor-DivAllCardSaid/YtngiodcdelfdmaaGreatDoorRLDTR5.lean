import Derived.Test.YtngiodcdelfdmaaGreatDoorRL10R5
import Derived.Test.YtngiodcdelfdmaaGreatDoorD1R5
namespace Go.Proofs.YtngiodcdelfdmaaGreatDoor
set_option linter.unusedVariables false
open Go.RowKit
def LDx : List Ent := E13 ++ C20
theorem LDx_ok : ∀ e ∈ LDx, EntC Tryz.prog gG e := fun e he => (List.mem_append.1 he).elim (fun h => (E13_ok e h).c) (C20_ok e)
end Go.Proofs.YtngiodcdelfdmaaGreatDoor
