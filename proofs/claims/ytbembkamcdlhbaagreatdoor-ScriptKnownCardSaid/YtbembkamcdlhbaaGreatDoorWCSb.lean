import Derived.Test.YtbembkamcdlhbaaGreatDoorZMSb
import Derived.Test.YtbembkamcdlhbaaGreatDoorK1Sb
set_option linter.unusedSimpArgs false
set_option linter.unusedVariables false
set_option maxRecDepth 100000
namespace Go.Proofs.YtbembkamcdlhbaaGreatDoor
def NR:List sj:=⟨224,Ck,Nj⟩::zF
theorem alx:∀ e∈NR,rG Tryz.prog gG e:=List.forall_mem_cons.2 ⟨ahr,Le⟩
open Go.RowKit
theorem aly:vC (su NR M0 S1) eE:=Ak alx Cf Bw (by kernel_rfl)
def Jm:Ct:=⟨[.sc kB,.agg [kB,.bool],.agg [kU,kU],.agg [kU,kU]],[.agg [kU,kU,kB]]⟩
def aaE:rf SV :=
 (.ite dG iT (.ite iU iT (.call 125 iW 7 5 (.call 125 jK 12 5 (.ite (.bin .eql .u8 jL iI) (.ite jU (.call 2000126 [dE,ai,ay,aC,dU,aA] 17 4 (.ite jc lH (.ite jV mX mX))) (.call 2000126 [dE,mY,ay,aC,dU,aA] 17 4 (.ite jc lH (.ite jV mZ ny)))) (.call 2000126 lJ 17 4 (.ite jc lH (.ite jV (.ite jU mX mZ) (.ite jU mX ny)))))))))
theorem alz:rY (su NR M0 S1) 3000 164 (rO Jm.a (rM 0 (ru Jm.a))) (ru Jm.a).length=aaE:=by kernel_rfl
def aaF:List Int→List Int:=rH (uf NR M0 S1) Jm aaE
theorem aaG:rG Tryz.prog gG ⟨164,Jm,aaF⟩:=Bg aly 3000 alz (by kernel_rfl)
end Go.Proofs.YtbembkamcdlhbaaGreatDoor
