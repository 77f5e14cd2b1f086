import Derived.Test.YtbembkamcdlhbaaGreatDoorZ2Sb
set_option linter.unusedSimpArgs false
set_option linter.unusedVariables false
set_option maxRecDepth 100000
namespace Go.Proofs.YtbembkamcdlhbaaGreatDoor
open Go.RowKit
theorem alW:vG (sI KS M0 S1) eE:=Ap aix Ch BA (by kernel_rfl)
def Jy:Ct:=⟨[.sc kB,.agg [kB,.bool],.agg [kU,kU]],[.agg [kU,kU,kB]]⟩
def abq:ru SV :=
 (.ite dG iR (.ite iT iR (.call 125 iV 5 5 (.ite ib (.ite (.bin .neq .u8 dK ae) (.call 1000126 [dE,(.bin .leq .u8 dK bK),ay,aC] 10 4 (.ite kG mX oN)) (.call 1000126 oO 10 4 (.ite kG mX oP))) (.call 1000126 oO 10 4 (.ite kG mX (.ite dL oP oN)))))))
theorem alX:LD (sI KS M0 S1) Jg (NQ (sI KS M0 S1) 3000) 3000 166 (rV Jy.a (rU 0 (rE Jy.a))) (rE Jy.a).length=abq:=by kernel_rfl
def abr:List Int→List Int:=rR (uk KS M0 S1) Jy abq
theorem abt:rQ Tryz.prog gG ⟨166,Jy,abr⟩:=aiK alW 3000 3000 alX (by kernel_rfl)
end Go.Proofs.YtbembkamcdlhbaaGreatDoor
