import Derived.Test.YtemomocmfggiaaaGreatDoorQ1U6
set_option linter.unusedSimpArgs false
set_option linter.unusedVariables false
set_option maxRecDepth 100000
namespace Go.Proofs.YtemomocmfggiaaaGreatDoor
open Go.RowKit
theorem ath:Aw (wP Em M0 S1) eE:=Im atg Io IW (by kernel_rfl)
def Ps:Ct:=⟨[.sc kB,.agg [kB,.bool],.agg [kU,kU],.agg [kU,kU]],[.agg [kU,kU,kB]]⟩
def aaY:vo SV :=
 (.ite dF iY (.ite iZ iY (.call 139 jb 7 5 (.call 139 jR 12 5 (.ite (.bin .eql .u8 jS iM) (.ite ku (.call 2000140 [dD,ai,ay,aC,dU,aA] 17 4 (.ite jh lU (.ite kv nE nE))) (.call 2000140 [dD,nG,ay,aC,dU,aA] 17 4 (.ite jh lU (.ite kv nH nM)))) (.call 2000140 lW 17 4 (.ite jh lU (.ite kv (.ite ku nE nH) (.ite ku nE nM)))))))))
theorem ati:wM (wP Em M0 S1) 3000 86 (ww Ps.a (wm 0 (vD Ps.a))) (vD Ps.a).length=aaY:=by kernel_rfl
def Pt:List Int→List Int:=vU (vP Em M0 S1) Ps aaY
theorem atj:wh Tryz.prog gG ⟨86,Ps,Pt⟩:=Gh ath 3000 ati (by kernel_rfl)
theorem ag0:vP Em M0 S1 139=yA:=wy (e:=⟨139,_,yA⟩) rfl rfl rfl
theorem aaZ:vP Em M0 S1 2000140=DF:=JA (e:=⟨140,_,DF⟩) rfl
theorem Pv:vP Em M0 S1 141=AR:=wy (e:=⟨141,_,AR⟩) rfl rfl rfl
theorem Vo:vP Em M0 S1 152=EJ:=wy (e:=⟨152,_,EJ⟩) rfl rfl rfl
theorem ag1:vP Em M0 S1 150=yT:=wy (e:=⟨150,_,yT⟩) rfl rfl rfl
theorem ag2:vP Em M0 S1 149=Lv:=wy (e:=⟨149,_,Lv⟩) rfl rfl rfl
theorem ag3:vP Em M0 S1 151=EH:=wy (e:=⟨151,_,EH⟩) rfl rfl rfl
theorem ag4:vP Em M0 S1 50=Ip:=wy (e:=⟨50,_,Ip⟩) rfl rfl rfl
theorem Vp:vP Em M0 S1 147=yu:=wy (e:=⟨147,_,yu⟩) rfl rfl rfl
end Go.Proofs.YtemomocmfggiaaaGreatDoor
