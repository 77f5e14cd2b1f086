import Derived.Test.YtbembkamcdlhbaaGreatDoorZMSb
import Derived.Test.YtbembkamcdlhbaaGreatDoorK1Sb
set_option linter.unusedSimpArgs false
set_option linter.unusedVariables false
set_option maxRecDepth 100000
namespace Go.Proofs.YtbembkamcdlhbaaGreatDoor
def NN:List rZ:=⟨224,Cc,Nh⟩::zz
theorem akP:∀ e∈NN,rD Tryz.prog gG e:=List.forall_mem_cons.2 ⟨ahg,Ld⟩
open Go.RowKit
theorem akQ:uY (r9 NN M0 S1) eE:=Af akP BV Bn (by kernel_rfl)
def Jg:Ct:=⟨[.sc kB,.agg [kB,.bool],.agg [kU,kU],.agg [kU,kU]],[.agg [kU,kU,kB]]⟩
def aax:qZ SV :=
 (.ite dG iQ (.ite iR iQ (.call 125 iU 7 5 (.call 125 jI 12 5 (.ite (.bin .eql .u8 jJ iG) (.ite jS (.call 2000126 [dE,ai,ay,aC,dU,aA] 17 4 (.ite ja lC (.ite jT mU mU))) (.call 2000126 [dE,mV,ay,aC,dU,aA] 17 4 (.ite ja lC (.ite jT mW ni)))) (.call 2000126 lG 17 4 (.ite ja lC (.ite jT (.ite jS mU mW) (.ite jS mU ni)))))))))
theorem akR:rU (r9 NN M0 S1) 3000 164 (rH Jg.a (rG 0 (q9 Jg.a))) (q9 Jg.a).length=aax:=by kernel_rfl
def aay:List Int→List Int:=rE (tV NN M0 S1) Jg aax
theorem aaz:rD Tryz.prog gG ⟨164,Jg,aay⟩:=AZ akQ 3000 akR (by kernel_rfl)
end Go.Proofs.YtbembkamcdlhbaaGreatDoor
