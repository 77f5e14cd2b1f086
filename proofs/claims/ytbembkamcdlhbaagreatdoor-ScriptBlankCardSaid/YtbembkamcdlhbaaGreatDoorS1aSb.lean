import Derived.Test.YtbembkamcdlhbaaGreatDoorZ2Sb
set_option linter.unusedSimpArgs false
set_option linter.unusedVariables false
set_option maxRecDepth 100000
namespace Go.Proofs.YtbembkamcdlhbaaGreatDoor
open Go.RowKit
theorem als:uY (r9 KE M0 S1) eE:=Af ah5 BV Bn (by kernel_rfl)
def Jk:Ct:=⟨[.sc kB,.agg [kB,.bool],.agg [kU,kU]],[.agg [kU,kU,kB]]⟩
def aaY:qZ SV :=
 (.ite dG iQ (.ite iR iQ (.call 125 iU 5 5 (.ite gZ (.ite (.bin .neq .u8 dK ae) (.call 1000126 [dE,(.bin .leq .u8 dK bK),ay,aC] 10 4 (.ite kF mR oJ)) (.call 1000126 oK 10 4 (.ite kF mR oL))) (.call 1000126 oK 10 4 (.ite kF mR (.ite dL oL oJ)))))))
theorem alu:Lh (r9 KE M0 S1) IR (Ny (r9 KE M0 S1) 3000) 3000 166 (rH Jk.a (rG 0 (q9 Jk.a))) (q9 Jk.a).length=aaY:=by kernel_rfl
def aaZ:List Int→List Int:=rE (tV KE M0 S1) Jk aaY
theorem aa0:rD Tryz.prog gG ⟨166,Jk,aaZ⟩:=aii als 3000 3000 alu (by kernel_rfl)
end Go.Proofs.YtbembkamcdlhbaaGreatDoor
