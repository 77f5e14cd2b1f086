import Derived.Test.YtngiodcdelfdmaaGreatDoorZNR9
import Derived.Test.YtngiodcdelfdmaaGreatDoorD1R9
import Derived.Test.YtngiodcdelfdmaaGreatDoorV1R9
namespace Go.Proofs.YtngiodcdelfdmaaGreatDoor
set_option linter.unusedVariables false
open Go.RowKit
def LDB : List Ent := E33 ++ E13
theorem LDB_ok : ∀ e ∈ LDB, EntC Tryz.prog gG e := fun e he => (List.mem_append.1 he).elim (fun h => (E33_ok e h).c) (fun h => (E13_ok e h).c)
def LCD : List Ent := E33 ++ E52
theorem LCD_ok : ∀ e ∈ LCD, EntC Tryz.prog gG e := fun e he => (List.mem_append.1 he).elim (fun h => (E33_ok e h).c) (fun h => (E52_ok e h).c)
def NZ : List Ent := []
theorem NZ_ok : ∀ e ∈ NZ, EntNC Tryz.prog gG e := fun e he => by cases he
def ZZ : List EntS := []
theorem ZZ_ok : ∀ e ∈ ZZ, EntSC Tryz.prog gG e := fun e he => by cases he
end Go.Proofs.YtngiodcdelfdmaaGreatDoor
