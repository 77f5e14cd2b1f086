import Derived.Test.YtbembkamcdlhbaaGreatDoorZESb
set_option linter.unusedSimpArgs false
set_option linter.unusedVariables false
set_option maxRecDepth 100000
namespace Go.Proofs.YtbembkamcdlhbaaGreatDoor
open Go.RowKit
theorem Ta:uY (r9 E7 M0 S0) eE:=Af M4 BV VJ (by kernel_rfl)
def Le:vJ:=⟨1000126,[.sc kB,.sc .bool],1,27,[kU,kU],[.agg [kU,kU,kB],.sc .bool]⟩
def aaN:qZ SV :=
 (.call 31 jZ 4 1 (.ite iX (.ite dG jY (.call 194 dQ 5 2 (.call 195 jZ 7 2 (.ite dH kw (.call 196 jZ 9 1 (.ite gQ kw (.leaf (.tup [(.agg [fw,fA,gU]),fQ])))))))) (.ite dG jY (.ite (.not dH) jY (.call 194 dQ 5 2 (.leaf (.tup [(.agg [dV,aB,iM]),fQ])))))))
theorem ale:GH (r9 E7 M0 S0) 3000 126 Le=aaN:=by kernel_rfl
def aaO:List Int→List Int:=rE (tV E7 M0 S0) ⟨Le.a,Le.r⟩ aaN
theorem alf:Ba Tryz.prog gG ⟨126,Le,aaO⟩:=QC Ta 3000 ale (by kernel_rfl)
def Lf:vJ:=⟨2000126,[.sc kB,.sc .bool],2,27,[kU,kU,kU,kU],[.agg [kU,kU,kB],.sc .bool]⟩
def aaP:qZ SV :=
 (.call 31 jZ 6 1 (.ite iD (.ite dG jY (.call 194 dQ 7 2 (.call 195 jZ 9 2 (.ite dH ky (.call 196 jZ 11 1 (.ite kz ky (.call 196 kg 12 1 (.ite jK ky (.leaf (.tup [(.agg [fO,ig,gU]),fQ])))))))))) (.call 31 kg 7 1 (.ite fM (.ite dG jY (.call 194 dQ 8 2 (.call 195 kg 10 2 (.ite dH kC (.call 196 jZ 12 1 (.ite jK kC (.call 196 kg 13 1 (.ite kF kC (.leaf (.tup [(.agg [ig,fC,gU]),fQ])))))))))) (.ite dG jY (.ite (.not dH) jY (.call 194 dQ 8 2 (.leaf (.tup [(.agg [fA,fO,iM]),fQ])))))))))
theorem alg:GH (r9 E7 M0 S0) 3000 126 Lf=aaP:=by kernel_rfl
def aaQ:List Int→List Int:=rE (tV E7 M0 S0) ⟨Lf.a,Lf.r⟩ aaP
theorem alh:Ba Tryz.prog gG ⟨126,Lf,aaQ⟩:=QC Ta 3000 alg (by kernel_rfl)
def Lg:vJ:=⟨3000126,[.sc kB,.sc .bool],3,27,[kU,kU,kU,kU,kU,kU],[.agg [kU,kU,kB],.sc .bool]⟩
def aaR:qZ SV :=
 (.call 31 jZ 8 1 (.ite kG (.ite dG jY (.call 194 dQ 9 2 (.call 195 jZ 11 2 (.ite dH kH (.call 196 jZ 13 1 (.ite kF kH (.call 196 kg 14 1 (.ite iH kH (.call 196 kJ 15 1 (.ite kK kH (.leaf (.tup [(.agg [fC,fF,gU]),fQ])))))))))))) (.call 31 kg 9 1 (.ite gQ (.ite dG jY (.call 194 dQ 10 2 (.call 195 kg 12 2 (.ite dH kL (.call 196 jZ 14 1 (.ite iH kL (.call 196 kg 15 1 (.ite kK kL (.call 196 kJ 16 1 (.ite kM kL (.leaf (.tup [(.agg [fF,ik,gU]),fQ])))))))))))) (.call 31 kJ 10 1 (.ite fV (.ite dG jY (.call 194 dQ 11 2 (.call 195 kJ 13 2 (.ite dH kN (.call 196 jZ 15 1 (.ite kK kN (.call 196 kg 16 1 (.ite kM kN (.call 196 kJ 17 1 (.ite jM kN (.leaf (.tup [(.agg [ik,gL,gU]),fQ])))))))))))) (.ite dG jY (.ite (.not dH) jY (.call 194 dQ 11 2 kH)))))))))
theorem ali:GH (r9 E7 M0 S0) 3000 126 Lg=aaR:=by kernel_rfl
def aaS:List Int→List Int:=rE (tV E7 M0 S0) ⟨Lg.a,Lg.r⟩ aaR
theorem alj:Ba Tryz.prog gG ⟨126,Lg,aaS⟩:=QC Ta 3000 ali (by kernel_rfl)
def S1:List uk:=⟨126,Le,aaO⟩::⟨126,Lf,aaQ⟩::⟨126,Lg,aaS⟩::S0
theorem Bn:∀ e∈S1,Ba Tryz.prog gG e:=List.forall_mem_cons.2 ⟨alf,List.forall_mem_cons.2 ⟨alh,List.forall_mem_cons.2 ⟨alj,VJ⟩⟩⟩
end Go.Proofs.YtbembkamcdlhbaaGreatDoor
