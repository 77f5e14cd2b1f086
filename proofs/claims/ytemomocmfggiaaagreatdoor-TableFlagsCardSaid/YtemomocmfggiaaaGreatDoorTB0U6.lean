import Derived.Test.YtemomocmfggiaaaGreatDoorMKU6
import Derived.Test.YtemomocmfggiaaaGreatDoorA4U6
import Derived.Test.YtemomocmfggiaaaGreatDoorD1U6
import Derived.Test.YtemomocmfggiaaaGreatDoorR1U6
import Derived.Test.YtemomocmfggiaaaGreatDoorS1aU6
set_option linter.unusedSimpArgs false
set_option linter.unusedVariables false
namespace Go.Proofs.YtemomocmfggiaaaGreatDoor
open Go.RowKit
def TA:List wO:=⟨86,Ps,Pt⟩::⟨92,IZ,Pw⟩::⟨88,Px,Py⟩::E34
theorem ahl:∀ e∈TA,AQ Tryz.prog gG e:=List.forall_mem_cons.2 ⟨atj.c,List.forall_mem_cons.2 ⟨atG.c,List.forall_mem_cons.2 ⟨atP.c,fun e he=>(atc e he).c⟩⟩⟩
def NZ:List wO:=[]
theorem Vu:∀ e∈NZ,Yc Tryz.prog gG e:=fun e he=>by cases he
def ZZ:List yQ:=S1
theorem Vv:∀ e∈ZZ,Yf Tryz.prog gG e:=fun e he=>(IW e he).c
end Go.Proofs.YtemomocmfggiaaaGreatDoor
