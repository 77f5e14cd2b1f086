import Derived.Test.YtemomocmfggiaaaGreatDoorTM1U6
set_option linter.unusedSimpArgs false
set_option linter.unusedVariables false
set_option maxRecDepth 100000
namespace Go.Proofs.YtemomocmfggiaaaGreatDoor
open Go.RowKit
theorem ahp:zU (wP TB NZ ZZ) eE:=QR ahm Vu Vv (by kernel_rfl)
def PT:Ct:=⟨[.agg [kB,kB,kB,kB,kB,kU,kU,kU,kU,kU,kU]],[.sc kI]⟩
def ahq:vo SV :=
 (.ite pK qR (.ite pM qR (.ite pR qR (.ite (.bin .eql .u8 dD cu) qR (.ite qU qX (.ite (.bin .eql .u8 dD aR) (.ite kC lH (.ite qJ lH (.ite qL lH (.ite qM lH (.call 16 qN 11 1 (.ite kT (.call 16 qO 12 1 (.ite jT (.call 16 qY 13 1 (.ite (.not kW) lH (.leaf dC))) lH)) lH)))))) (.ite qZ qR (.ite rf qX (.ite rq qX (.ite ry rH (.ite rJ rH (.ite rM (.ite kC lH (.ite qJ lH (.ite qL lH (.ite rG lH (.ite rR (.call 47 [kK,aA] 11 1 qW) lH))))) (.ite rT qR (.ite rU qR lH))))))))))))))
theorem aug:De (wP TB NZ ZZ) mE 3000 25 (ww PT.a (wm 0 (vD PT.a))) (vD PT.a).length=ahq:=by kernel_rfl
def ahr:List Int→List Int:=vU (vP TB NZ ZZ) PT ahq
theorem auh:AQ Tryz.prog gG ⟨25,PT,ahr⟩:=FV ahp GZ 3000 (by kernel_rfl) aug (by kernel_rfl)
def Kk:Ct:=⟨[.agg [kB,kB,kB,kB,kB,kU,kU,kU,kU,kU,kU]],[.agg [kI,kU,kU,kB]]⟩
def Vz:vo SV :=
 (.ite pK (.ite kC rX (.ite qJ rX (.ite qL rX (.ite qM rX (.call 16 qN 11 1 (.ite kT (.call 16 qO 12 1 (.ite jT (.ite qQ rX (.call 80 r9 13 3 sj)) rX)) rX)))))) (.ite pM (.ite kC rX (.ite qJ rX (.ite qL rX (.ite qM rX (.call 16 qN 11 1 (.ite kT (.call 16 qO 12 1 (.ite jT (.ite qQ rX (.call 82 r9 13 3 sj)) rX)) rX)))))) (.ite pR (.ite kC rX (.ite qJ rX (.ite qL rX (.ite qM rX (.call 16 qN 11 1 (.ite kT (.call 16 qO 12 1 (.ite jT (.ite qQ rX (.call 84 r9 13 3 sj)) rX)) rX)))))) (.ite (.bin .eql .u8 dD cu) (.ite kC rX (.ite qJ rX (.ite qL rX (.ite qM rX (.call 16 qN 11 1 (.ite kT (.call 16 qO 12 1 (.ite jT (.ite qQ rX (.call 86 r9 13 3 sj)) rX)) rX)))))) (.ite qU (.ite kC rX (.ite qJ rX (.ite qL rX (.ite qM rX (.call 16 qN 11 1 (.ite kT (.ite qV (.ite qQ rX (.call 88 [dI,jc,rY,dU,aA] 12 3 sw)) rX) rX)))))) (.ite (.bin .eql .u8 dD aR) (.ite kC rX (.ite qJ rX (.ite qL rX (.ite qM rX (.call 16 qN 11 1 (.ite kT (.call 16 qO 12 1 (.ite jT (.call 16 qY 13 1 (.ite (.not kW) rX (.call 90 [dI,jc,rY,dU,aA,dX,dZ,ed,eD] 14 3 (.leaf (.agg [dC,gQ,gT,(.int .u8 (.var kB 16))]))))) rX)) rX)))))) (.ite qZ (.ite kC rX (.ite qJ rX (.ite qL rX (.ite qM rX (.call 16 qN 11 1 (.ite kT (.call 16 qO 12 1 (.ite jT (.ite qQ rX (.call 92 sD 13 3 sj)) rX)) rX)))))) (.ite rf (.ite kC rX (.ite qJ rX (.ite qL rX (.ite qM rX (.call 16 qN 11 1 (.ite kT (.ite qV (.ite qQ rX (.call 94 [dI,jc,ae,dU,aA] 12 3 sw)) rX) rX)))))) (.ite rq (.ite kC rX (.ite qJ rX (.ite qL rX (.ite qM rX (.call 16 qN 11 1 (.ite kT (.ite qV (.ite qQ rX (.call 94 [dI,jc,ai,dU,aA] 12 3 sw)) rX) rX)))))) (.ite ry (.ite kC rX (.ite qJ rX (.ite qL rX (.ite rG rX (.call 16 qN 11 1 (.ite kT (.ite qV (.ite qQ rX (.call 98 [dI,kK,jc,rY,dU,aA] 12 3 sw)) rX) rX)))))) (.ite rJ (.ite kC rX (.ite qJ rX (.ite qL rX (.ite rG rX (.call 16 qN 11 1 (.ite kT (.ite qV (.ite qQ rX (.call 101 [dI,kK,jc,dU,aA] 12 2 (.leaf (.agg [dC,aL,fJ,(.int .u8 iM)])))) rX) rX)))))) (.ite rM (.ite kC rX (.ite qJ rX (.ite qL rX (.ite rG rX (.ite rR (.call 47 [kK,aA] 11 1 (.ite kT (.ite qV (.ite qQ rX (.call 103 [kK,dI,jc,rY,aA] 12 3 sw)) rX) rX)) rX))))) (.ite rT (.ite kC rX (.ite qJ rX (.ite qL rX (.ite qM rX (.call 16 qN 11 1 (.ite kT (.call 16 qO 12 1 (.ite jT (.ite qQ rX (.call 106 sD 13 2 sF)) rX)) rX)))))) (.ite rU (.ite kC rX (.ite qJ rX (.ite qL rX (.ite qM rX (.call 16 qN 11 1 (.ite kT (.call 16 qO 12 1 (.ite jT (.ite qQ rX (.call 108 sD 13 2 sF)) rX)) rX)))))) rX))))))))))))))
theorem aui:De (wP TB NZ ZZ) mE 3000 10 (ww Kk.a (wm 0 (vD Kk.a))) (vD Kk.a).length=Vz:=by kernel_rfl
def ym:List Int→List Int:=vU (vP TB NZ ZZ) Kk Vz
theorem ahs:AQ Tryz.prog gG ⟨10,Kk,ym⟩:=FV ahp GZ 3000 (by kernel_rfl) aui (by kernel_rfl)
def TC:List wO:=⟨25,PT,ahr⟩::⟨10,Kk,ym⟩::TB
theorem auj:∀ e∈TC,AQ Tryz.prog gG e:=List.forall_mem_cons.2 ⟨auh,List.forall_mem_cons.2 ⟨ahs,ahm⟩⟩
theorem xN:vP TB NZ ZZ 16=Ki:=wy (e:=⟨16,_,Ki⟩) rfl rfl rfl
theorem aht:vP TB NZ ZZ 47=PG:=wy (e:=⟨47,_,PG⟩) rfl rfl rfl
theorem auk:vP TB NZ ZZ 80=JW:=wy (e:=⟨80,_,JW⟩) rfl rfl rfl
theorem aul:vP TB NZ ZZ 82=Pq:=wy (e:=⟨82,_,Pq⟩) rfl rfl rfl
theorem aum:vP TB NZ ZZ 84=OB:=wy (e:=⟨84,_,OB⟩) rfl rfl rfl
theorem aun:vP TB NZ ZZ 86=Pt:=wy (e:=⟨86,_,Pt⟩) rfl rfl rfl
theorem auo:vP TB NZ ZZ 88=Py:=wy (e:=⟨88,_,Py⟩) rfl rfl rfl
theorem aup:vP TB NZ ZZ 90=O4:=wy (e:=⟨90,_,O4⟩) rfl rfl rfl
theorem auq:vP TB NZ ZZ 92=Pw:=wy (e:=⟨92,_,Pw⟩) rfl rfl rfl
theorem ahu:vP TB NZ ZZ 94=PL:=wy (e:=⟨94,_,PL⟩) rfl rfl rfl
theorem aur:vP TB NZ ZZ 98=OG:=wy (e:=⟨98,_,OG⟩) rfl rfl rfl
theorem aus:vP TB NZ ZZ 101=PI:=wy (e:=⟨101,_,PI⟩) rfl rfl rfl
theorem aut:vP TB NZ ZZ 103=PD:=wy (e:=⟨103,_,PD⟩) rfl rfl rfl
theorem auu:vP TB NZ ZZ 106=PN:=wy (e:=⟨106,_,PN⟩) rfl rfl rfl
theorem auv:vP TB NZ ZZ 108=PP:=wy (e:=⟨108,_,PP⟩) rfl rfl rfl
end Go.Proofs.YtemomocmfggiaaaGreatDoor
