import Derived.Test.YtngiodcdelfdmaaGreatDoorRL10R3
import Derived.Test.YtngiodcdelfdmaaGreatDoorR1R3
namespace Go.Proofs.YtngiodcdelfdmaaGreatDoor
set_option linter.unusedVariables false
open Go.RowKit
def LRx : List Ent := E21 ++ C20
theorem LRx_ok : ∀ e ∈ LRx, EntC Tryz.prog gG e := fun e he => (List.mem_append.1 he).elim (fun h => (E21_ok e h).c) (C20_ok e)
end Go.Proofs.YtngiodcdelfdmaaGreatDoor
