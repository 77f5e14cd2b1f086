import Derived.Test.YtbembkamcdlhbaaGreatDoorZESc
set_option linter.unusedSimpArgs false
set_option linter.unusedVariables false
set_option maxRecDepth 100000
namespace Go.Proofs.YtbembkamcdlhbaaGreatDoor
open Go.RowKit
def zP:List si:=X9
theorem LV:∀ e∈zP,rF Tryz.prog gG e:=agS
end Go.Proofs.YtbembkamcdlhbaaGreatDoor
