import Derived.Test.YtemomocmfggiaaaGreatDoorZNU6
set_option linter.unusedSimpArgs false
set_option linter.unusedVariables false
set_option maxRecDepth 100000
namespace Go.Proofs.YtemomocmfggiaaaGreatDoor
open Go.RowKit
theorem as9:Aw (wP JY M0 S1) eE:=Im afl Io IW (by kernel_rfl)
def Pp:Ct:=⟨[.sc kB,.agg [kB,.bool],.agg [kU,kU],.agg [kU,kU]],[.agg [kU,kU,kB]]⟩
def aaX:vo SV :=
 (.call 14 jR 7 1 (.ite (.not fV) (.call 143 jR 8 2 (.call 80 [dD,dI,dH,ay,aC,dZ,ed] 10 3 nD)) (.call 80 [dD,dI,dH,ay,aC,dU,aA] 8 3 (.leaf (.agg [fG,fZ,(.int .u8 (.var kB 10))])))))
theorem ata:wM (wP JY M0 S1) 3000 82 (ww Pp.a (wm 0 (vD Pp.a))) (vD Pp.a).length=aaX:=by kernel_rfl
def Pq:List Int→List Int:=vU (vP JY M0 S1) Pp aaX
theorem atb:wh Tryz.prog gG ⟨82,Pp,Pq⟩:=Gh as9 3000 ata (by kernel_rfl)
def E34:List wO:=⟨82,Pp,Pq⟩::JY
theorem atc:∀ e∈E34,wh Tryz.prog gG e:=List.forall_mem_cons.2 ⟨atb,afl⟩
theorem atd:vP JY M0 S1 14=yR:=wy (e:=⟨14,_,yR⟩) rfl rfl rfl
theorem ate:vP JY M0 S1 143=Lf:=wy (e:=⟨143,_,Lf⟩) rfl rfl rfl
theorem agY:vP JY M0 S1 80=JW:=wy (e:=⟨80,_,JW⟩) rfl rfl rfl
end Go.Proofs.YtemomocmfggiaaaGreatDoor
