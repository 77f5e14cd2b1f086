import Derived.Test.YtemomocmfggiaaaGreatDoorMKU5
import Derived.Test.YtemomocmfggiaaaGreatDoorA4U5
import Derived.Test.YtemomocmfggiaaaGreatDoorD1U5
import Derived.Test.YtemomocmfggiaaaGreatDoorR1U5
import Derived.Test.YtemomocmfggiaaaGreatDoorS1aU5
namespace Go.Proofs.YtemomocmfggiaaaGreatDoor
set_option linter.unusedVariables false
open Go.RowKit
def TA : List Ent := ⟨86, c_div_Div, F_div_Div⟩ :: ⟨92, c_rem_Rem, F_rem_Rem⟩ :: ⟨88, c_sqrt_Sqrt, F_sqrt_Sqrt⟩ :: E34
theorem TA_ok : ∀ e ∈ TA, EntC Tryz.prog gG e := List.forall_mem_cons.2 ⟨e_div_Div.c, List.forall_mem_cons.2 ⟨e_rem_Rem.c, List.forall_mem_cons.2 ⟨e_sqrt_Sqrt.c, fun e he => (E34_ok e he).c⟩⟩⟩
def NZ : List Ent := []
theorem NZ_ok : ∀ e ∈ NZ, EntNC Tryz.prog gG e := fun e he => by cases he
def ZZ : List EntS := S1
theorem ZZ_ok : ∀ e ∈ ZZ, EntSC Tryz.prog gG e := fun e he => (S1_ok e he).c
end Go.Proofs.YtemomocmfggiaaaGreatDoor
