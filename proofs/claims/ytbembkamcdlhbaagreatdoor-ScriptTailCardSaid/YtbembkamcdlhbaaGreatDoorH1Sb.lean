import Derived.Test.YtbembkamcdlhbaaGreatDoorZESb
set_option linter.unusedSimpArgs false
set_option linter.unusedVariables false
set_option maxRecDepth 100000
namespace Go.Proofs.YtbembkamcdlhbaaGreatDoor
open Go.RowKit
def zJ:List sH:=XT
theorem Lx:∀ e∈zJ,rQ Tryz.prog gG e:=agx
end Go.Proofs.YtbembkamcdlhbaaGreatDoor
