import Derived.Test.YtngiodcdelfdmaaGreatDoorZCR5
namespace Go.Proofs.YtngiodcdelfdmaaGreatDoor
set_option linter.unusedVariables false
set_option linter.unusedSimpArgs false
open Go.RowKit
abbrev KeyF := Code → Option Nat
abbrev HookF := Nat → St → Tr' (Exit × St)
def here (key : KeyF) (c : Code) : List (Nat × Code) := match key c with | some k => [(k, c)] | none => []
section
variable {C : SCx} {E : EqT} {s : Sig} {key : KeyF} {H : HookF}
end
end Go.Proofs.YtngiodcdelfdmaaGreatDoor
