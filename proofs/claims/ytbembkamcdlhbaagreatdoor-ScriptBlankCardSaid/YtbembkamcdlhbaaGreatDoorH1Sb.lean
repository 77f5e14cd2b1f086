import Derived.Test.YtbembkamcdlhbaaGreatDoorZESb
set_option linter.unusedSimpArgs false
set_option linter.unusedVariables false
set_option maxRecDepth 100000
namespace Go.Proofs.YtbembkamcdlhbaaGreatDoor
open Go.RowKit
def zz:List rZ:=XB
theorem Ld:∀ e∈zz,rD Tryz.prog gG e:=af3
end Go.Proofs.YtbembkamcdlhbaaGreatDoor
