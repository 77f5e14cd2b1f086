import Derived.Test.YtbembkamcdlhbaaGreatDoorMKSb
import Derived.Test.YtbembkamcdlhbaaGreatDoorA4Sb
import Derived.Test.YtbembkamcdlhbaaGreatDoorWCSb
import Derived.Test.YtbembkamcdlhbaaGreatDoorWDSb
import Derived.Test.YtbembkamcdlhbaaGreatDoorS1aSb
set_option linter.unusedSimpArgs false
set_option linter.unusedVariables false
namespace Go.Proofs.YtbembkamcdlhbaaGreatDoor
open Go.RowKit
def TA:List sH:=⟨164,Jt,aaY⟩::⟨170,CB,aa5⟩::⟨166,Jy,abr⟩::E34
theorem abu:∀ e∈TA,yn Tryz.prog gG e:=List.forall_mem_cons.2 ⟨aaZ.c,List.forall_mem_cons.2 ⟨aa6.c,List.forall_mem_cons.2 ⟨abt.c,fun e he=>(abo e he).c⟩⟩⟩
def NZ:List sH:=[]
theorem abv:∀ e∈NZ,QR Tryz.prog gG e:=fun e he=>by cases he
def ZZ:List uA:=S1
theorem abw:∀ e∈ZZ,QU Tryz.prog gG e:=fun e he=>(BA e he).c
end Go.Proofs.YtbembkamcdlhbaaGreatDoor
