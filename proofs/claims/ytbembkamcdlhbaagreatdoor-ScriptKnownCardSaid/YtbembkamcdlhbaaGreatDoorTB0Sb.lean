import Derived.Test.YtbembkamcdlhbaaGreatDoorMKSb
import Derived.Test.YtbembkamcdlhbaaGreatDoorA4Sb
import Derived.Test.YtbembkamcdlhbaaGreatDoorWCSb
import Derived.Test.YtbembkamcdlhbaaGreatDoorWDSb
import Derived.Test.YtbembkamcdlhbaaGreatDoorS1aSb
set_option linter.unusedSimpArgs false
set_option linter.unusedVariables false
namespace Go.Proofs.YtbembkamcdlhbaaGreatDoor
open Go.RowKit
def TA:List sj:=⟨164,Jm,aaF⟩::⟨170,Cy,aaM⟩::⟨166,Jq,aa6⟩::E34
theorem aa8:∀ e∈TA,yg Tryz.prog gG e:=List.forall_mem_cons.2 ⟨aaG.c,List.forall_mem_cons.2 ⟨aaN.c,List.forall_mem_cons.2 ⟨aa7.c,fun e he=>(aa3 e he).c⟩⟩⟩
def NZ:List sj:=[]
theorem aa9:∀ e∈NZ,QD Tryz.prog gG e:=fun e he=>by cases he
def ZZ:List uu:=S1
theorem aba:∀ e∈ZZ,QG Tryz.prog gG e:=fun e he=>(Bw e he).c
end Go.Proofs.YtbembkamcdlhbaaGreatDoor
