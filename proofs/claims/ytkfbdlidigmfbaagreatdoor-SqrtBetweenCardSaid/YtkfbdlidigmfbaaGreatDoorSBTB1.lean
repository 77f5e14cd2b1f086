import Derived.Test.YtkfbdlidigmfbaaGreatDoorWDB1
import Derived.Test.YtkfbdlidigmfbaaGreatDoorV1B1
namespace Go.Proofs.YtkfbdlidigmfbaaGreatDoor
set_option linter.unusedVariables false
open Go.RowKit
def LSB : List Ent := LWD2 ++ E52
theorem LSB_ok : ∀ e ∈ LSB, EntC Tryz.prog gG e := fun e he => (List.mem_append.1 he).elim (fun h => LWD2_ok e h) (fun h => (E52_ok e h).c)
end Go.Proofs.YtkfbdlidigmfbaaGreatDoor
