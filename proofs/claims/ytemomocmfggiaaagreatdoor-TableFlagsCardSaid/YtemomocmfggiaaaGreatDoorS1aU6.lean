import Derived.Test.YtemomocmfggiaaaGreatDoorZ2U6
set_option linter.unusedSimpArgs false
set_option linter.unusedVariables false
set_option maxRecDepth 100000
namespace Go.Proofs.YtemomocmfggiaaaGreatDoor
open Go.RowKit
theorem atN:Aw (wP Dc M0 S1) eE:=Im arR Io IW (by kernel_rfl)
def Px:Ct:=⟨[.sc kB,.agg [kB,.bool],.agg [kU,kU]],[.agg [kU,kU,kB]]⟩
def aa4:vo SV :=
 (.ite dF iY (.ite iZ iY (.call 139 jb 5 5 (.ite ik (.ite (.bin .neq .u8 dJ ae) (.call 1000140 [dD,(.bin .leq .u8 dJ bM),ay,aC] 10 4 (.ite kW nD pz)) (.call 1000140 pE 10 4 (.ite kW nD pF))) (.call 1000140 pE 10 4 (.ite kW nD (.ite dK pF pz)))))))
theorem atO:RY (wP Dc M0 S1) Pi (U9 (wP Dc M0 S1) 3000) 3000 88 (ww Px.a (wm 0 (vD Px.a))) (vD Px.a).length=aa4:=by kernel_rfl
def Py:List Int→List Int:=vU (vP Dc M0 S1) Px aa4
theorem atP:wh Tryz.prog gG ⟨88,Px,Py⟩:=ar4 atN 3000 3000 atO (by kernel_rfl)
theorem atQ:vP Dc M0 S1 139=yA:=wy (e:=⟨139,_,yA⟩) rfl rfl rfl
theorem aa5:vP Dc M0 S1 1000140=FW:=JA (e:=⟨140,_,FW⟩) rfl
theorem atS:vP Dc M0 S1 141=AR:=wy (e:=⟨141,_,AR⟩) rfl rfl rfl
theorem atT:vP Dc M0 S1 150=yT:=wy (e:=⟨150,_,yT⟩) rfl rfl rfl
theorem atU:vP Dc M0 S1 153=Ci:=wy (e:=⟨153,_,Ci⟩) rfl rfl rfl
theorem ahh:vP Dc M0 S1 154=LJ:=wy (e:=⟨154,_,LJ⟩) rfl rfl rfl
theorem ahi:vP Dc M0 S1 155=Fv:=wy (e:=⟨155,_,Fv⟩) rfl rfl rfl
theorem ahj:vP Dc M0 S1 151=EH:=wy (e:=⟨151,_,EH⟩) rfl rfl rfl
theorem Vt:vP Dc M0 S1 147=yu:=wy (e:=⟨147,_,yu⟩) rfl rfl rfl
theorem ahk:vP Dc M0 S1 152=EJ:=wy (e:=⟨152,_,EJ⟩) rfl rfl rfl
end Go.Proofs.YtemomocmfggiaaaGreatDoor
