import Derived.Test.YtbembkamcdlhbaaGreatDoorSL2Sb
set_option linter.unusedSimpArgs false
set_option linter.unusedVariables false
set_option maxRecDepth 100000
namespace Go.Proofs.YtbembkamcdlhbaaGreatDoor.Sp
open Go.RowKit Go.Shelf FlagM
attribute [local go_sem] Oper.semAt_some
theorem amU (b:ByteArray):b.toList=b.data.toList:=ByteArray.toList_eq b
end Go.Proofs.YtbembkamcdlhbaaGreatDoor.Sp
