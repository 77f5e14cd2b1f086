import Derived.Test.YtbembkamcdlhbaaGreatDoorZNSb
set_option linter.unusedSimpArgs false
set_option linter.unusedVariables false
set_option maxRecDepth 100000
namespace Go.Proofs.YtbembkamcdlhbaaGreatDoor
open Go.RowKit
theorem al2:vC (su KF M0 S1) eE:=Ak YM Cf Bw (by kernel_rfl)
def Jp:Ct:=⟨[.sc kB,.agg [kB,.bool],.agg [kU,kU],.agg [kU,kU]],[.agg [kU,kU,kB]]⟩
def aa0:rf SV :=
 (.call 31 jK 7 1 (.ite (.not fQ) (.call 76 jK 8 2 (.call 77 [dE,dJ,dI,ay,aC,dZ,ed] 10 3 mW)) (.call 77 [dE,dJ,dI,ay,aC,dU,aA] 8 3 (.leaf (.agg [fC,fT,(.int .u8 (.var kB 10))])))))
theorem al3:rY (su KF M0 S1) 3000 36 (rO Jp.a (rM 0 (ru Jp.a))) (ru Jp.a).length=aa0:=by kernel_rfl
def aa1:List Int→List Int:=rH (uf KF M0 S1) Jp aa0
theorem al4:rG Tryz.prog gG ⟨36,Jp,aa1⟩:=Bg al2 3000 al3 (by kernel_rfl)
def E34:List sj:=⟨36,Jp,aa1⟩::KF
theorem aa3:∀ e∈E34,rG Tryz.prog gG e:=List.forall_mem_cons.2 ⟨al4,YM⟩
end Go.Proofs.YtbembkamcdlhbaaGreatDoor
