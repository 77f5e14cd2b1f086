import Derived.Test.YtkfbdlidigmfbaaGreatDoorA4B1
namespace Go.Proofs.YtkfbdlidigmfbaaGreatDoor
set_option linter.unusedVariables false
open Go.RowKit
def LWD : List Ent := E34
theorem LWD_ok : ∀ e ∈ LWD, EntC Tryz.prog gG e := fun e he => (E34_ok e he).c
def NZ : List Ent := []
theorem NZ_ok : ∀ e ∈ NZ, EntNC Tryz.prog gG e := fun e he => by cases he
def ZZ : List EntS := []
theorem ZZ_ok : ∀ e ∈ ZZ, EntSC Tryz.prog gG e := fun e he => by cases he
end Go.Proofs.YtkfbdlidigmfbaaGreatDoor
