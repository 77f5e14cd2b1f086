import Derived.Test.YtngiodcdelfdmaaGreatDoorRL10R6
import Derived.Test.YtngiodcdelfdmaaGreatDoorV1R6
namespace Go.Proofs.YtngiodcdelfdmaaGreatDoor
set_option linter.unusedVariables false
open Go.RowKit
def LSx : List Ent := E52 ++ C20
theorem LSx_ok : ∀ e ∈ LSx, EntC Tryz.prog gG e := fun e he => (List.mem_append.1 he).elim (fun h => (E52_ok e h).c) (C20_ok e)
end Go.Proofs.YtngiodcdelfdmaaGreatDoor
