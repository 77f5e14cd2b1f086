import Derived.Test.YtbembkamcdlhbaaGreatDoorZ2Sc
set_option linter.unusedSimpArgs false
set_option linter.unusedVariables false
set_option maxRecDepth 100000
namespace Go.Proofs.YtbembkamcdlhbaaGreatDoor
open Go.RowKit
theorem am6:vF (sj Li M0 S1) eE:=Az aiS Cv BM (by kernel_rfl)
def JQ:Ct:=⟨[.sc kB,.agg [kB,.bool],.agg [kU,kU]],[.agg [kU,kU,kB]]⟩
def abN:rf SV :=
 (.ite dG iQ (.ite iR iQ (.call 125 iU 5 5 (.ite gZ (.ite (.bin .neq .u8 dK ae) (.call 1000126 [dE,(.bin .leq .u8 dK bK),ay,aC] 10 4 (.ite kF mR oJ)) (.call 1000126 oK 10 4 (.ite kF mR oL))) (.call 1000126 oK 10 4 (.ite kF mR (.ite dL oL oJ)))))))
theorem am7:LZ (sj Li M0 S1) Jv (Ob (sj Li M0 S1) 3000) 3000 166 (rM JQ.a (rJ 0 (rq JQ.a))) (rq JQ.a).length=abN:=by kernel_rfl
def abO:List Int→List Int:=rG (ug Li M0 S1) JQ abN
theorem abP:rF Tryz.prog gG ⟨166,JQ,abO⟩:=ai5 am6 3000 3000 am7 (by kernel_rfl)
end Go.Proofs.YtbembkamcdlhbaaGreatDoor
