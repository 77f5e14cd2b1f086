import Derived.Test.YtbembkamcdlhbaaGreatDoorZMSc
import Derived.Test.YtbembkamcdlhbaaGreatDoorK1Sc
set_option linter.unusedSimpArgs false
set_option linter.unusedVariables false
set_option maxRecDepth 100000
namespace Go.Proofs.YtbembkamcdlhbaaGreatDoor
def Ot:List si:=⟨224,CE,NN⟩::zP
theorem alz:∀ e∈Ot,rF Tryz.prog gG e:=List.forall_mem_cons.2 ⟨ah3,LV⟩
open Go.RowKit
theorem alA:vF (sj Ot M0 S1) eE:=Az alz Cv BM (by kernel_rfl)
def JF:Ct:=⟨[.sc kB,.agg [kB,.bool],.agg [kU,kU],.agg [kU,kU]],[.agg [kU,kU,kB]]⟩
def aa6:rf SV :=
 (.ite dG iQ (.ite iR iQ (.call 125 iU 7 5 (.call 125 jI 12 5 (.ite (.bin .eql .u8 jJ iG) (.ite jS (.call 2000126 [dE,ai,ay,aC,dU,aA] 17 4 (.ite ja lC (.ite jT mU mU))) (.call 2000126 [dE,mV,ay,aC,dU,aA] 17 4 (.ite ja lC (.ite jT mW ni)))) (.call 2000126 lG 17 4 (.ite ja lC (.ite jT (.ite jS mU mW) (.ite jS mU ni)))))))))
theorem alB:rX (sj Ot M0 S1) 3000 164 (rM JF.a (rJ 0 (rq JF.a))) (rq JF.a).length=aa6:=by kernel_rfl
def aa7:List Int→List Int:=rG (ug Ot M0 S1) JF aa6
theorem aa8:rF Tryz.prog gG ⟨164,JF,aa7⟩:=Bu alA 3000 alB (by kernel_rfl)
end Go.Proofs.YtbembkamcdlhbaaGreatDoor
