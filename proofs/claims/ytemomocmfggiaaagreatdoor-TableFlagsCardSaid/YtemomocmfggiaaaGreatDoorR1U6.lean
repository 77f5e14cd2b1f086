import Derived.Test.YtemomocmfggiaaaGreatDoorQ2U6
set_option linter.unusedSimpArgs false
set_option linter.unusedVariables false
set_option maxRecDepth 100000
namespace Go.Proofs.YtemomocmfggiaaaGreatDoor
open Go.RowKit
theorem atz:Aw (wP BX M0 S1) eE:=Im aty Io IW (by kernel_rfl)
def IZ:Ct:=⟨[.sc kB,.agg [kU,kU],.agg [kU,kU]],[.agg [kU,kU,kB]]⟩
noncomputable def DJ:vo SV:=wM (wP BX M0 S1) 3000 92 (ww IZ.a (wm 0 (vD IZ.a))) (vD IZ.a).length
def ag8:vo SV :=
 iY
theorem atA:DJ.th=ag8:=by kernel_rfl
def ag9:vo SV :=
 (.call 2000140 [dD,ae,ag,az,ay,aC] 16 4 (.ite jO (.leaf (.agg [iO,(.int .u64 eQ),(.int .u8 (.var kB 18))])) (.ite dK nO (.ite kP nO (.ite nQ nO (.ite nR (.call 155 [dZ,ed] 20 4 (.call 159 nS 24 1 (.ite (.bin .gtr .i64 (.var kI 24) ae) (.call 155 [eG,eY] 25 4 (.call 155 [eG,eY] 29 4 (.call 160 [jC,jE,jF,l8,jG,jI,ma,mf] 33 5 (.call 161 [mg,mM,mr,mh,gN,eZ,fo,fu] 38 5 (.call 166 [(.var kU 38),mQ,ni,nk] 43 1 (.call 147 [dD,cu,ae,(.not (.beq ik (.not (.var .bool 43)))),nT,(.var kU 38),mQ,ni,nk] 44 3 (.ite (.bin .neq .u8 (.var kB 46) ae) iY (.leaf (.agg [nu,ny,gY]))))))))) (.call 147 [dD,cu,ae,nU,nT,gN,eZ,fo,fu] 25 3 (.ite (.bin .neq .u8 (.var kB 27) ae) iY (.leaf (.agg [(.int .u64 jC),kz,gY]))))))) (.call 227 nS 20 3 (.ite (.not kJ) (.ite nX (.call 228 [gN,eZ,nV,eG,eY] 23 4 oh) (.call 227 [eG,eY,gN,eZ] 23 3 (.call 159 [gN,eZ,fu,fC] 26 1 (.ite ol oq (.ite ou oq (.call 155 [gN,eZ] 27 4 ow)))))) (.ite nX (.call 228 [dZ,ed,nV,eG,eY] 23 4 oh) (.call 227 [eG,eY,dZ,ed] 23 3 (.call 159 [dZ,ed,fu,fC] 26 1 (.ite ol oq (.ite ou oz oz)))))))))))))
theorem atB:DJ.el.nx.nx.nx.th=ag9:=by kernel_rfl
def aha:vo SV :=
 (.call 2000140 [dD,ae,ag,az,ay,aC] 17 4 oP)
theorem atC:DJ.el.nx.nx.nx.el.nx.th=aha:=by kernel_rfl
def ahb:vo SV :=
 (.call 2000140 [dD,ai,ag,az,ay,aC] 17 4 (.ite jh lU oO))
theorem atD:DJ.el.nx.nx.nx.el.nx.el.th=ahb:=by kernel_rfl
def ahc:vo SV :=
 (.call 2000140 [dD,(.bin .eql .u8 (.var kB 11) ae),ag,az,ay,aC] 17 4 oP)
theorem atE:DJ.el.nx.nx.nx.el.nx.el.el=ahc:=by kernel_rfl
def Vr:vo SV :=
 (.ite dF ag8 (.call 139 iH 5 5 (.call 139 jb 10 5 (.call 14 iH 15 1 (.ite lg ag9 (.call 14 jb 16 1 (.ite ll aha (.ite dO ahb ahc))))))))
theorem atF:wM (wP BX M0 S1) 3000 92 (ww IZ.a (wm 0 (vD IZ.a))) (vD IZ.a).length=Vr:=(show DJ=Vr from(xJ (T:=DJ) (c:=(.not (.bin .lss .i64 (.var kB 0) (.lit 4)))) (by kernel_rfl) atA (AA (T:=DJ.el) (q:=(139,[(.var kB 0),(.var kU 1),(.var kU 2)],5,5)) (by kernel_rfl) (AA (T:=DJ.el.nx) (q:=(139,[(.var kB 0),(.var kU 3),(.var kU 4)],10,5)) (by kernel_rfl) (AA (T:=DJ.el.nx.nx) (q:=(14,[(.var kB 0),(.var kU 1),(.var kU 2)],15,1)) (by kernel_rfl) (xJ (T:=DJ.el.nx.nx.nx) (c:=(.var .bool 15)) (by kernel_rfl) atB (AA (T:=DJ.el.nx.nx.nx.el) (q:=(14,[(.var kB 0),(.var kU 3),(.var kU 4)],16,1)) (by kernel_rfl) (xJ (T:=DJ.el.nx.nx.nx.el.nx) (c:=(.var .bool 16)) (by kernel_rfl) atC (xJ (T:=DJ.el.nx.nx.nx.el.nx.el) (c:=(.bin .eql .u8 (.var kB 6) (.lit 3))) (by kernel_rfl) atD atE)))))))))
def Pw:List Int→List Int:=vU (vP BX M0 S1) IZ Vr
theorem atG:wh Tryz.prog gG ⟨92,IZ,Pw⟩:=Gh atz 3000 atF (by kernel_rfl)
theorem ahd:vP BX M0 S1 139=yA:=wy (e:=⟨139,_,yA⟩) rfl rfl rfl
theorem ahe:vP BX M0 S1 14=yR:=wy (e:=⟨14,_,yR⟩) rfl rfl rfl
theorem Vs:vP BX M0 S1 2000140=DF:=JA (e:=⟨140,_,DF⟩) rfl
theorem aa2:vP BX M0 S1 35=Dt:=wy (e:=⟨35,_,Dt⟩) rfl rfl rfl
theorem BZ:vP BX M0 S1 155=Fv:=wy (e:=⟨155,_,Fv⟩) rfl rfl rfl
theorem RV:vP BX M0 S1 159=EI:=wy (e:=⟨159,_,EI⟩) rfl rfl rfl
theorem atH:vP BX M0 S1 160=EF:=wy (e:=⟨160,_,EF⟩) rfl rfl rfl
theorem atI:vP BX M0 S1 161=Gn:=wy (e:=⟨161,_,Gn⟩) rfl rfl rfl
theorem Kg:vP BX M0 S1 166=CU:=wy (e:=⟨166,_,CU⟩) rfl rfl rfl
theorem Cs:vP BX M0 S1 147=yu:=wy (e:=⟨147,_,yu⟩) rfl rfl rfl
theorem RX:vP BX M0 S1 227=Gq:=wy (e:=⟨227,_,Gq⟩) rfl rfl rfl
theorem ahf:vP BX M0 S1 228=LV:=wy (e:=⟨228,_,LV⟩) rfl rfl rfl
end Go.Proofs.YtemomocmfggiaaaGreatDoor
