import Derived.Test.YtbembkamcdlhbaaGreatDoorZESb
set_option linter.unusedSimpArgs false
set_option linter.unusedVariables false
set_option maxRecDepth 100000
namespace Go.Proofs.YtbembkamcdlhbaaGreatDoor
open Go.RowKit
def zF:List sj:=XF
theorem Le:∀ e∈zF,rG Tryz.prog gG e:=age
end Go.Proofs.YtbembkamcdlhbaaGreatDoor
