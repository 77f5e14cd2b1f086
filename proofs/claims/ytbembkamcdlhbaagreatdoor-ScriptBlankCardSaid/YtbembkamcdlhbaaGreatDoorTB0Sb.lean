import Derived.Test.YtbembkamcdlhbaaGreatDoorMKSb
import Derived.Test.YtbembkamcdlhbaaGreatDoorA4Sb
import Derived.Test.YtbembkamcdlhbaaGreatDoorWCSb
import Derived.Test.YtbembkamcdlhbaaGreatDoorWDSb
import Derived.Test.YtbembkamcdlhbaaGreatDoorS1aSb
set_option linter.unusedSimpArgs false
set_option linter.unusedVariables false
namespace Go.Proofs.YtbembkamcdlhbaaGreatDoor
open Go.RowKit
def TA:List rZ:=⟨164,Jg,aay⟩::⟨170,Co,aaF⟩::⟨166,Jk,aaZ⟩::E34
theorem aa1:∀ e∈TA,xX Tryz.prog gG e:=List.forall_mem_cons.2 ⟨aaz.c,List.forall_mem_cons.2 ⟨aaG.c,List.forall_mem_cons.2 ⟨aa0.c,fun e he=>(aaW e he).c⟩⟩⟩
def NZ:List rZ:=[]
theorem aa2:∀ e∈NZ,QA Tryz.prog gG e:=fun e he=>by cases he
def ZZ:List uk:=S1
theorem aa3:∀ e∈ZZ,QD Tryz.prog gG e:=fun e he=>(Bn e he).c
end Go.Proofs.YtbembkamcdlhbaaGreatDoor
