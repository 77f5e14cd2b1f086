import Derived.Test.YtbembkamcdlhbaaGreatDoorZNSb
set_option linter.unusedSimpArgs false
set_option linter.unusedVariables false
set_option maxRecDepth 100000
namespace Go.Proofs.YtbembkamcdlhbaaGreatDoor
open Go.RowKit
theorem alP:vG (sI KN M0 S1) eE:=Ap YZ Ch BA (by kernel_rfl)
def Jw:Ct:=⟨[.sc kB,.agg [kB,.bool],.agg [kU,kU],.agg [kU,kU]],[.agg [kU,kU,kB]]⟩
def abl:ru SV :=
 (.call 31 jJ 7 1 (.ite (.not fO) (.call 76 jJ 8 2 (.call 77 [dE,dJ,dI,ay,aC,dZ,ek] 10 3 mX)) (.call 77 [dE,dJ,dI,ay,aC,dU,aA] 8 3 (.leaf (.agg [fB,fQ,(.int .u8 (.var kB 10))])))))
theorem alQ:sw (sI KN M0 S1) 3000 36 (rV Jw.a (rU 0 (rE Jw.a))) (rE Jw.a).length=abl:=by kernel_rfl
def abm:List Int→List Int:=rR (uk KN M0 S1) Jw abl
theorem alR:rQ Tryz.prog gG ⟨36,Jw,abm⟩:=Bi alP 3000 alQ (by kernel_rfl)
def E34:List sH:=⟨36,Jw,abm⟩::KN
theorem abo:∀ e∈E34,rQ Tryz.prog gG e:=List.forall_mem_cons.2 ⟨alR,YZ⟩
end Go.Proofs.YtbembkamcdlhbaaGreatDoor
