import Derived.Test.YtbembkamcdlhbaaGreatDoorZNSc
set_option linter.unusedSimpArgs false
set_option linter.unusedVariables false
set_option maxRecDepth 100000
namespace Go.Proofs.YtbembkamcdlhbaaGreatDoor
open Go.RowKit
theorem amZ:vF (sj Ld M0 S1) eE:=Az Zn Cv BM (by kernel_rfl)
def JP:Ct:=⟨[.sc kB,.agg [kB,.bool],.agg [kU,kU],.agg [kU,kU]],[.agg [kU,kU,kB]]⟩
def abI:rf SV :=
 (.call 31 jI 7 1 (.ite (.not fM) (.call 76 jI 8 2 (.call 77 [dE,dJ,dI,ay,aC,dZ,ed] 10 3 mR)) (.call 77 [dE,dJ,dI,ay,aC,dU,aA] 8 3 (.leaf (.agg [fA,fO,(.int .u8 (.var kB 10))])))))
theorem am0:rX (sj Ld M0 S1) 3000 36 (rM JP.a (rJ 0 (rq JP.a))) (rq JP.a).length=abI:=by kernel_rfl
def abJ:List Int→List Int:=rG (ug Ld M0 S1) JP abI
theorem am1:rF Tryz.prog gG ⟨36,JP,abJ⟩:=Bu amZ 3000 am0 (by kernel_rfl)
def E34:List si:=⟨36,JP,abJ⟩::Ld
theorem abL:∀ e∈E34,rF Tryz.prog gG e:=List.forall_mem_cons.2 ⟨am1,Zn⟩
end Go.Proofs.YtbembkamcdlhbaaGreatDoor
