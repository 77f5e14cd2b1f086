import Derived.Test.YtbembkamcdlhbaaGreatDoorZESc
set_option linter.unusedSimpArgs false
set_option linter.unusedVariables false
set_option maxRecDepth 100000
namespace Go.Proofs.YtbembkamcdlhbaaGreatDoor
open Go.RowKit
theorem TP:vF (sj E7 M0 S0) eE:=Az ND Cv Wo (by kernel_rfl)
def LW:wm:=⟨1000126,[.sc kB,.sc .bool],1,27,[kU,kU],[.agg [kU,kU,kB],.sc .bool]⟩
def abC:rf SV :=
 (.call 31 jZ 4 1 (.ite iX (.ite dG jY (.call 194 dQ 5 2 (.call 195 jZ 7 2 (.ite dH kw (.call 196 jZ 9 1 (.ite gQ kw (.leaf (.tup [(.agg [fw,fA,gU]),fQ])))))))) (.ite dG jY (.ite (.not dH) jY (.call 194 dQ 5 2 (.leaf (.tup [(.agg [dV,aB,iM]),fQ])))))))
theorem amT:HV (sj E7 M0 S0) 3000 126 LW=abC:=by kernel_rfl
def abD:List Int→List Int:=rG (ug E7 M0 S0) ⟨LW.a,LW.r⟩ abC
theorem amU:Bv Tryz.prog gG ⟨126,LW,abD⟩:=Re TP 3000 amT (by kernel_rfl)
def LX:wm:=⟨2000126,[.sc kB,.sc .bool],2,27,[kU,kU,kU,kU],[.agg [kU,kU,kB],.sc .bool]⟩
def abE:rf SV :=
 (.call 31 jZ 6 1 (.ite iD (.ite dG jY (.call 194 dQ 7 2 (.call 195 jZ 9 2 (.ite dH ky (.call 196 jZ 11 1 (.ite kz ky (.call 196 kg 12 1 (.ite jK ky (.leaf (.tup [(.agg [fO,ig,gU]),fQ])))))))))) (.call 31 kg 7 1 (.ite fM (.ite dG jY (.call 194 dQ 8 2 (.call 195 kg 10 2 (.ite dH kC (.call 196 jZ 12 1 (.ite jK kC (.call 196 kg 13 1 (.ite kF kC (.leaf (.tup [(.agg [ig,fC,gU]),fQ])))))))))) (.ite dG jY (.ite (.not dH) jY (.call 194 dQ 8 2 (.leaf (.tup [(.agg [fA,fO,iM]),fQ])))))))))
theorem amV:HV (sj E7 M0 S0) 3000 126 LX=abE:=by kernel_rfl
def abF:List Int→List Int:=rG (ug E7 M0 S0) ⟨LX.a,LX.r⟩ abE
theorem amW:Bv Tryz.prog gG ⟨126,LX,abF⟩:=Re TP 3000 amV (by kernel_rfl)
def LY:wm:=⟨3000126,[.sc kB,.sc .bool],3,27,[kU,kU,kU,kU,kU,kU],[.agg [kU,kU,kB],.sc .bool]⟩
def abG:rf SV :=
 (.call 31 jZ 8 1 (.ite kG (.ite dG jY (.call 194 dQ 9 2 (.call 195 jZ 11 2 (.ite dH kH (.call 196 jZ 13 1 (.ite kF kH (.call 196 kg 14 1 (.ite iH kH (.call 196 kJ 15 1 (.ite kK kH (.leaf (.tup [(.agg [fC,fF,gU]),fQ])))))))))))) (.call 31 kg 9 1 (.ite gQ (.ite dG jY (.call 194 dQ 10 2 (.call 195 kg 12 2 (.ite dH kL (.call 196 jZ 14 1 (.ite iH kL (.call 196 kg 15 1 (.ite kK kL (.call 196 kJ 16 1 (.ite kM kL (.leaf (.tup [(.agg [fF,ik,gU]),fQ])))))))))))) (.call 31 kJ 10 1 (.ite fV (.ite dG jY (.call 194 dQ 11 2 (.call 195 kJ 13 2 (.ite dH kN (.call 196 jZ 15 1 (.ite kK kN (.call 196 kg 16 1 (.ite kM kN (.call 196 kJ 17 1 (.ite jM kN (.leaf (.tup [(.agg [ik,gL,gU]),fQ])))))))))))) (.ite dG jY (.ite (.not dH) jY (.call 194 dQ 11 2 kH)))))))))
theorem amX:HV (sj E7 M0 S0) 3000 126 LY=abG:=by kernel_rfl
def abH:List Int→List Int:=rG (ug E7 M0 S0) ⟨LY.a,LY.r⟩ abG
theorem amY:Bv Tryz.prog gG ⟨126,LY,abH⟩:=Re TP 3000 amX (by kernel_rfl)
def S1:List ut:=⟨126,LW,abD⟩::⟨126,LX,abF⟩::⟨126,LY,abH⟩::S0
theorem BM:∀ e∈S1,Bv Tryz.prog gG e:=List.forall_mem_cons.2 ⟨amU,List.forall_mem_cons.2 ⟨amW,List.forall_mem_cons.2 ⟨amY,Wo⟩⟩⟩
end Go.Proofs.YtbembkamcdlhbaaGreatDoor
