import Derived.Test.YtbembkamcdlhbaaGreatDoorZMSb
import Derived.Test.YtbembkamcdlhbaaGreatDoorK1Sb
set_option linter.unusedSimpArgs false
set_option linter.unusedVariables false
set_option maxRecDepth 100000
namespace Go.Proofs.YtbembkamcdlhbaaGreatDoor
def Od:List sH:=⟨224,Cn,NB⟩::zJ
theorem alh:∀ e∈Od,rQ Tryz.prog gG e:=List.forall_mem_cons.2 ⟨ahI,Lx⟩
open Go.RowKit
theorem ali:vG (sI Od M0 S1) eE:=Ap alh Ch BA (by kernel_rfl)
def Jt:Ct:=⟨[.sc kB,.agg [kB,.bool],.agg [kU,kU],.agg [kU,kU]],[.agg [kU,kU,kB]]⟩
def aaX:ru SV :=
 (.ite dG iR (.ite iT iR (.call 125 iV 7 5 (.call 125 jJ 12 5 (.ite (.bin .eql .u8 jK iH) (.ite jT (.call 2000126 [dE,ai,ay,aC,dU,aA] 17 4 (.ite jb lI (.ite jU mY mY))) (.call 2000126 [dE,mZ,ay,aC,dU,aA] 17 4 (.ite jb lI (.ite jU ng nA)))) (.call 2000126 lL 17 4 (.ite jb lI (.ite jU (.ite jT mY ng) (.ite jT mY nA)))))))))
theorem alj:sw (sI Od M0 S1) 3000 164 (rV Jt.a (rU 0 (rE Jt.a))) (rE Jt.a).length=aaX:=by kernel_rfl
def aaY:List Int→List Int:=rR (uk Od M0 S1) Jt aaX
theorem aaZ:rQ Tryz.prog gG ⟨164,Jt,aaY⟩:=Bi ali 3000 alj (by kernel_rfl)
end Go.Proofs.YtbembkamcdlhbaaGreatDoor
