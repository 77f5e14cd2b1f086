import Derived.Test.YtbembkamcdlhbaaGreatDoorMKSc
import Derived.Test.YtbembkamcdlhbaaGreatDoorA4Sc
import Derived.Test.YtbembkamcdlhbaaGreatDoorWCSc
import Derived.Test.YtbembkamcdlhbaaGreatDoorWDSc
import Derived.Test.YtbembkamcdlhbaaGreatDoorS1aSc
set_option linter.unusedSimpArgs false
set_option linter.unusedVariables false
namespace Go.Proofs.YtbembkamcdlhbaaGreatDoor
open Go.RowKit
def TA:List si:=⟨164,JF,aa7⟩::⟨170,CV,abf⟩::⟨166,JQ,abO⟩::E34
theorem abQ:∀ e∈TA,yz Tryz.prog gG e:=List.forall_mem_cons.2 ⟨aa8.c,List.forall_mem_cons.2 ⟨abg.c,List.forall_mem_cons.2 ⟨abP.c,fun e he=>(abL e he).c⟩⟩⟩
def NZ:List si:=[]
theorem abR:∀ e∈NZ,Rb Tryz.prog gG e:=fun e he=>by cases he
def ZZ:List ut:=S1
theorem abS:∀ e∈ZZ,Rf Tryz.prog gG e:=fun e he=>(BM e he).c
end Go.Proofs.YtbembkamcdlhbaaGreatDoor
