import Derived.Test.YtngiodcdelfdmaaGreatDoorZIR4
import Derived.Test.YtngiodcdelfdmaaGreatDoorZNR4
namespace Go.Proofs.YtngiodcdelfdmaaGreatDoor
set_option linter.unusedVariables false
open Go.RowKit
def LF : List Ent := E33 ++ C19
theorem LF_ok : ∀ e ∈ LF, EntC Tryz.prog gG e := fun e he => (List.mem_append.1 he).elim (fun h => (E33_ok e h).c) (C19_ok e)
end Go.Proofs.YtngiodcdelfdmaaGreatDoor
