import Derived.Test.YtngiodcdelfdmaaGreatDoorZIR2
import Derived.Test.YtngiodcdelfdmaaGreatDoorH1R2
/- Tables: the program's functions and the document's. -/
namespace Go.Proofs.YtngiodcdelfdmaaGreatDoor
set_option linter.unusedVariables false
open Go.RowKit
def LA : List Ent := E11 ++ C19
theorem LA_ok : ∀ e ∈ LA, EntC Tryz.prog gG e := fun e he => (List.mem_append.1 he).elim (fun h => (E11_ok e h).c) (C19_ok e)
end Go.Proofs.YtngiodcdelfdmaaGreatDoor
