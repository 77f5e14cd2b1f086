import Derived.Test.YtbembkamcdlhbaaGreatDoorZ2Sb
set_option linter.unusedSimpArgs false
set_option linter.unusedVariables false
set_option maxRecDepth 100000
namespace Go.Proofs.YtbembkamcdlhbaaGreatDoor
open Go.RowKit
theorem al9:vC (su KL M0 S1) eE:=Ak aig Cf Bw (by kernel_rfl)
def Jq:Ct:=⟨[.sc kB,.agg [kB,.bool],.agg [kU,kU]],[.agg [kU,kU,kB]]⟩
def aa5:rf SV :=
 (.ite dG iT (.ite iU iT (.call 125 iW 5 5 (.ite ic (.ite (.bin .neq .u8 dK ae) (.call 1000126 [dE,(.bin .leq .u8 dK bK),ay,aC] 10 4 (.ite kH mW oM)) (.call 1000126 oN 10 4 (.ite kH mW oO))) (.call 1000126 oN 10 4 (.ite kH mW (.ite dL oO oM)))))))
theorem ama:Li (su KL M0 S1) IZ (NA (su KL M0 S1) 3000) 3000 166 (rO Jq.a (rM 0 (ru Jq.a))) (ru Jq.a).length=aa5:=by kernel_rfl
def aa6:List Int→List Int:=rH (uf KL M0 S1) Jq aa5
theorem aa7:rG Tryz.prog gG ⟨166,Jq,aa6⟩:=ait al9 3000 3000 ama (by kernel_rfl)
end Go.Proofs.YtbembkamcdlhbaaGreatDoor
