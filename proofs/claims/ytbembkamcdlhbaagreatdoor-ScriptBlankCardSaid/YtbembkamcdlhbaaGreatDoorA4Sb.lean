import Derived.Test.YtbembkamcdlhbaaGreatDoorZNSb
set_option linter.unusedSimpArgs false
set_option linter.unusedVariables false
set_option maxRecDepth 100000
namespace Go.Proofs.YtbembkamcdlhbaaGreatDoor
open Go.RowKit
theorem alk:uY (r9 Ky M0 S1) eE:=Af YI BV Bn (by kernel_rfl)
def Jj:Ct:=⟨[.sc kB,.agg [kB,.bool],.agg [kU,kU],.agg [kU,kU]],[.agg [kU,kU,kB]]⟩
def aaT:qZ SV :=
 (.call 31 jI 7 1 (.ite (.not fM) (.call 76 jI 8 2 (.call 77 [dE,dJ,dI,ay,aC,dZ,ed] 10 3 mR)) (.call 77 [dE,dJ,dI,ay,aC,dU,aA] 8 3 (.leaf (.agg [fA,fO,(.int .u8 (.var kB 10))])))))
theorem alm:rU (r9 Ky M0 S1) 3000 36 (rH Jj.a (rG 0 (q9 Jj.a))) (q9 Jj.a).length=aaT:=by kernel_rfl
def aaU:List Int→List Int:=rE (tV Ky M0 S1) Jj aaT
theorem aln:rD Tryz.prog gG ⟨36,Jj,aaU⟩:=AZ alk 3000 alm (by kernel_rfl)
def E34:List rZ:=⟨36,Jj,aaU⟩::Ky
theorem aaW:∀ e∈E34,rD Tryz.prog gG e:=List.forall_mem_cons.2 ⟨aln,YI⟩
end Go.Proofs.YtbembkamcdlhbaaGreatDoor
