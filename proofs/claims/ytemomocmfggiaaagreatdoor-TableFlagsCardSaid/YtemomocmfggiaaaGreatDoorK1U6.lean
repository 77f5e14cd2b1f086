import Derived.Test.YtemomocmfggiaaaGreatDoorZEU6
set_option linter.unusedSimpArgs false
set_option linter.unusedVariables false
set_option maxRecDepth 100000
namespace Go.Proofs.YtemomocmfggiaaaGreatDoor
open Go.RowKit
theorem aaT:Aw (wP E7 M0 S0) eE:=Im Ub Io adC (by kernel_rfl)
def RP:Ae:=⟨1000140,[.sc kB,.sc .bool],1,24,[kU,kU],[.agg [kU,kU,kB],.sc .bool]⟩
def aaU:vo SV :=
 (.call 14 kG 4 1 (.ite je (.ite dF kD (.call 196 dP 5 2 (.call 197 kG 7 2 (.ite dG kR (.call 15 kG 9 1 (.ite gW kR (.leaf (.tup [(.agg [fF,fG,gY]),gm])))))))) (.ite dF kD (.ite (.not dG) kD (.call 196 dP 5 2 (.leaf (.tup [(.agg [dV,aB,iU]),gm])))))))
theorem as3:Nk (wP E7 M0 S0) 3000 140 RP=aaU:=by kernel_rfl
def FW:List Int→List Int:=vU (vP E7 M0 S0) ⟨RP.a,RP.r⟩ aaU
theorem as4:Ij Tryz.prog gG ⟨140,RP,FW⟩:=Ye aaT 3000 as3 (by kernel_rfl)
def RQ:Ae:=⟨2000140,[.sc kB,.sc .bool],2,24,[kU,kU,kU,kU],[.agg [kU,kU,kB],.sc .bool]⟩
def aaV:vo SV :=
 (.call 14 kG 6 1 (.ite iJ (.ite dF kD (.call 196 dP 7 2 (.call 197 kG 9 2 (.ite dG kS (.call 15 kG 11 1 (.ite kT kS (.call 15 kM 12 1 (.ite jT kS (.leaf (.tup [(.agg [fZ,iw,gY]),gm])))))))))) (.call 14 kM 7 1 (.ite fV (.ite dF kD (.call 196 dP 8 2 (.call 197 kM 10 2 (.ite dG kV (.call 15 kG 12 1 (.ite jT kV (.call 15 kM 13 1 (.ite kW kV (.leaf (.tup [(.agg [iw,fI,gY]),gm])))))))))) (.ite dF kD (.ite (.not dG) kD (.call 196 dP 8 2 (.leaf (.tup [(.agg [fG,fZ,iU]),gm])))))))))
theorem as5:Nk (wP E7 M0 S0) 3000 140 RQ=aaV:=by kernel_rfl
def DF:List Int→List Int:=vU (vP E7 M0 S0) ⟨RQ.a,RQ.r⟩ aaV
theorem as6:Ij Tryz.prog gG ⟨140,RQ,DF⟩:=Ye aaT 3000 as5 (by kernel_rfl)
def RS:Ae:=⟨3000140,[.sc kB,.sc .bool],3,24,[kU,kU,kU,kU,kU,kU],[.agg [kU,kU,kB],.sc .bool]⟩
def aaW:vo SV :=
 (.call 14 kG 8 1 (.ite kX (.ite dF kD (.call 196 dP 9 2 (.call 197 kG 11 2 (.ite dG kY (.call 15 kG 13 1 (.ite kW kY (.call 15 kM 14 1 (.ite iN kY (.call 15 kZ 15 1 (.ite lg kY (.leaf (.tup [(.agg [fI,fJ,gY]),gm])))))))))))) (.call 14 kM 9 1 (.ite gW (.ite dF kD (.call 196 dP 10 2 (.call 197 kM 12 2 (.ite dG lh (.call 15 kG 14 1 (.ite iN lh (.call 15 kM 15 1 (.ite lg lh (.call 15 kZ 16 1 (.ite ll lh (.leaf (.tup [(.agg [fJ,iy,gY]),gm])))))))))))) (.call 14 kZ 10 1 (.ite gq (.ite dF kD (.call 196 dP 11 2 (.call 197 kZ 13 2 (.ite dG lq (.call 15 kG 15 1 (.ite lg lq (.call 15 kM 16 1 (.ite ll lq (.call 15 kZ 17 1 (.ite jW lq (.leaf (.tup [(.agg [iy,gQ,gY]),gm])))))))))))) (.ite dF kD (.ite (.not dG) kD (.call 196 dP 11 2 kY)))))))))
theorem as7:Nk (wP E7 M0 S0) 3000 140 RS=aaW:=by kernel_rfl
def Kc:List Int→List Int:=vU (vP E7 M0 S0) ⟨RS.a,RS.r⟩ aaW
theorem as8:Ij Tryz.prog gG ⟨140,RS,Kc⟩:=Ye aaT 3000 as7 (by kernel_rfl)
def S1:List yQ:=⟨140,RP,FW⟩::⟨140,RQ,DF⟩::⟨140,RS,Kc⟩::S0
theorem IW:∀ e∈S1,Ij Tryz.prog gG e:=List.forall_mem_cons.2 ⟨as4,List.forall_mem_cons.2 ⟨as6,List.forall_mem_cons.2 ⟨as8,adC⟩⟩⟩
theorem Pn:vP E7 M0 S0 14=yR:=wy (e:=⟨14,_,yR⟩) rfl rfl rfl
theorem IX:vP E7 M0 S0 196=EK:=wy (e:=⟨196,_,EK⟩) rfl rfl rfl
theorem Po:vP E7 M0 S0 197=Fz:=wy (e:=⟨197,_,Fz⟩) rfl rfl rfl
theorem DI:vP E7 M0 S0 15=zH:=wy (e:=⟨15,_,zH⟩) rfl rfl rfl
end Go.Proofs.YtemomocmfggiaaaGreatDoor
