import Derived.Test.YtippohicjhilnaaGreatDoorWETn
import Derived.Test.YtippohicjhilnaaGreatDoorZETn
set_option linter.unusedSimpArgs false
set_option linter.unusedVariables false
set_option maxRecDepth 100000
open Go.Proofs.Tryz
namespace Go.Proofs.YtippohicjhilnaaGreatDoor
open Go.RowKit
theorem akA:Br (wR EF M0 S1) eE:=GZ UQ JG IU (by kernel_rfl)
def NP:Ct:=⟨[.agg [kU,kU,kU,kU],.agg [kU,kU,kU,kU]],[.sc kI]⟩
def adZ:vU SV :=
 (.call 177 gm 8 2 (.call 177 eG 10 2 (.call 156 [eH,eO,eQ,eT] 12 1 (.ite (.bin .neq .i64 lg ae) (.leaf (.int .i64 lg)) (.call 241 gm 13 2 (.call 241 eG 15 2 (.call 156 [eU,fA,fw,eZ] 17 1 (.leaf (.int .i64 (.var kI 17))))))))))
theorem axF:xe (wR EF M0 S1) 3000 224 (wN NP.a (wM 0 (vV NP.a))) (vV NP.a).length=adZ:=by kernel_rfl
def NQ:List Int->List Int:=wE (wH EF M0 S1) NP adZ
theorem akB:wK prog gG ⟨224,NP,NQ⟩:=Ip akA 3000 axF (by kernel_rfl)
def RU:Ct:=⟨[.agg [kI,kU,kU,kU,kU],.agg [kI,kU,kU,kU,kU]],[.sc kI]⟩
def ad1:vU SV :=
 (.call 132 lY 10 1 (.ite gI (.call 132 l7 11 1 (.ite (.not lH) (.leaf (.int .i64 l8)) (.call 132 l7 12 1 (.ite kG (.call 132 lY 13 1 (.ite (.not lJ) (.leaf (.int .i64 ma)) mf)) mf)))) (.call 132 l7 11 1 (.ite lH (.call 132 lY 12 1 (.ite (.not kG) (.leaf (.int .i64 ma)) mf)) mf))))
theorem axG:xe (wR EF M0 S1) 3000 236 (wN RU.a (wM 0 (vV RU.a))) (vV RU.a).length=ad1:=by kernel_rfl
def L9:List Int->List Int:=wE (wH EF M0 S1) RU ad1
theorem axH:wK prog gG ⟨236,RU,L9⟩:=Ip akA 3000 axG (by kernel_rfl)
def Fw:List wY:=⟨224,NP,NQ⟩::⟨236,RU,L9⟩::EF
theorem akC:∀ e∈Fw,wK prog gG e:=List.forall_mem_cons.2 ⟨akB,List.forall_mem_cons.2 ⟨axH,UQ⟩⟩
theorem akD:wH EF M0 S1 177=IL:=xZ (e:=⟨177,_,IL⟩) rfl rfl rfl
theorem akE:wH EF M0 S1 156=NH:=xZ (e:=⟨156,_,NH⟩) rfl rfl rfl
theorem akF:wH EF M0 S1 241=IM:=xZ (e:=⟨241,_,IM⟩) rfl rfl rfl
theorem RV:wH EF M0 S1 132=Fp:=xZ (e:=⟨132,_,Fp⟩) rfl rfl rfl
theorem akG:Br (wR Fw M0 S1) eE:=GZ akC JG IU (by kernel_rfl)
def RX:Ct:=⟨[.agg [kI,kU,kU,kU,kU],.agg [kI,kU,kU,kU,kU]],[.sc kI]⟩
def ad2:vU SV :=
 (.call 150 mh 10 4 (.call 239 mh 14 1 (.call 150 mi 15 4 (.call 239 mi 19 1 (.call 224 [eQ,eT,eX,eU,fw,eZ,fe,fq] 20 1 (.ite (.bin .eql .i64 (.var kI 20) ae) (.ite je (.leaf (.int .i64 ai)) (.ite kw (.leaf (.int .i64 dQ)) mo)) mo))))))
theorem axI:xe (wR Fw M0 S1) 3000 180 (wN RX.a (wM 0 (vV RX.a))) (vV RX.a).length=ad2:=by kernel_rfl
def RY:List Int->List Int:=wE (wH Fw M0 S1) RX ad2
theorem axJ:wK prog gG ⟨180,RX,RY⟩:=Ip akG 3000 axI (by kernel_rfl)
def RZ:Ct:=⟨[.agg [kI,kU,kU,kU,kU],.agg [kI,kU,kU,kU,kU]],[.agg [kI,kU,kU,kU,kU]]⟩
def ad3:vU SV :=
 (.call 236 mq 10 1 (.call 188 [ag,az,ay,aC,(.bin .sub .i64 mr ma)] 11 4 (.call 188 [aA,eF,eH,eO,(.bin .sub .i64 mr l8)] 15 4 (.call 157 [eT,eX,eU,fA,fw,eZ,fe,fq] 19 5 (.leaf (.agg [(.int .i64 mr),gZ,ig,fC,fG]))))))
theorem axK:xe (wR Fw M0 S1) 3000 128 (wN RZ.a (wM 0 (vV RZ.a))) (vV RZ.a).length=ad3:=by kernel_rfl
def R4:List Int->List Int:=wE (wH Fw M0 S1) RZ ad3
theorem axL:wK prog gG ⟨128,RZ,R4⟩:=Ip akG 3000 axK (by kernel_rfl)
def J6:List wY:=⟨180,RX,RY⟩::⟨128,RZ,R4⟩::Fw
theorem akH:∀ e∈J6,wK prog gG e:=List.forall_mem_cons.2 ⟨axJ,List.forall_mem_cons.2 ⟨axL,akC⟩⟩
theorem akI:wH Fw M0 S1 150=Fq:=xZ (e:=⟨150,_,Fq⟩) rfl rfl rfl
theorem akJ:wH Fw M0 S1 239=JV:=xZ (e:=⟨239,_,JV⟩) rfl rfl rfl
theorem axM:wH Fw M0 S1 224=NQ:=xZ (e:=⟨224,_,NQ⟩) rfl rfl rfl
theorem axN:wH Fw M0 S1 236=L9:=xZ (e:=⟨236,_,L9⟩) rfl rfl rfl
theorem akK:wH Fw M0 S1 188=Fs:=xZ (e:=⟨188,_,Fs⟩) rfl rfl rfl
theorem axO:wH Fw M0 S1 157=Iy:=xZ (e:=⟨157,_,Iy⟩) rfl rfl rfl
theorem axP:Br (wR J6 M0 S1) eE:=GZ akH JG IU (by kernel_rfl)
def R5:Ct:=⟨[.agg [kI,kU,kU,kU,kU],.agg [kI,kU,kU,kU,kU]],[.agg [kI,kU,kU,kU,kU],.sc .bool]⟩
def ad4:vU SV :=
 (.call 180 mq 10 1 (.ite mD (.call 236 [gP,aA,eF,eH,eO,l9,ag,az,ay,aC] 11 1 (.call 188 mH 12 4 (.call 188 mI 16 4 mJ))) (.call 236 mq 11 1 (.call 188 mI 12 4 (.call 188 mH 16 4 mJ)))))
theorem axQ:xe (wR J6 M0 S1) 3000 130 (wN R5.a (wM 0 (vV R5.a))) (vV R5.a).length=ad4:=by kernel_rfl
def R6:List Int->List Int:=wE (wH J6 M0 S1) R5 ad4
theorem axR:wK prog gG ⟨130,R5,R6⟩:=Ip axP 3000 axQ (by kernel_rfl)
def CG:List wY:=⟨130,R5,R6⟩::J6
theorem akL:∀ e∈CG,wK prog gG e:=List.forall_mem_cons.2 ⟨axR,akH⟩
theorem axS:wH J6 M0 S1 180=RY:=xZ (e:=⟨180,_,RY⟩) rfl rfl rfl
theorem akM:wH J6 M0 S1 236=L9:=xZ (e:=⟨236,_,L9⟩) rfl rfl rfl
theorem Yd:wH J6 M0 S1 188=Fs:=xZ (e:=⟨188,_,Fs⟩) rfl rfl rfl
theorem akN:wH J6 M0 S1 158=M8:=xZ (e:=⟨158,_,M8⟩) rfl rfl rfl
theorem akO:Br (wR CG M0 S1) eE:=GZ akL JG IU (by kernel_rfl)
def R9:Ct:=⟨[.sc kB,.agg [kB,.bool],.agg [kU,kU],.agg [kU,kU]],[.agg [kU,kU,kB]]⟩
def ad5:vU SV :=
 (.ite dH jw (.ite jA jw (.call 76 jC 7 5 (.call 76 kC 12 5 (.ite kQ (.ite kR (.call 2000077 [dF,kS,ay,aC,dZ,aA] 17 4 mM) (.call 2000077 mO 17 4 mM)) (.call 2000077 mO 17 4 (.ite jI mK (.ite kR (.call 78 [dF,kG] 21 2 kM) (.ite kS (.call 147 mP 21 4 (.call 147 mQ 25 4 (.call 130 mU 29 6 (.call 132 [j4,mV,mW,mY] 35 1 (.ite (.var .bool 35) (.call 134 [dF,dM,dL,dR,(.var kI 29),j4,mV,mW,mY] 36 3 nk) (.call 134 [dF,dM,dL,(.not (.beq gz nu)),(.var kI 29),j4,mV,mW,mY] 36 3 nk)))))) (.call 147 mP 21 4 (.call 147 mQ 25 4 (.call 128 mU 29 5 (.call 132 [j4,mV,mW,mY] 34 1 (.ite nu nC nC))))))))))))))
theorem axT:xe (wR CG M0 S1) 3000 46 (wN R9.a (wM 0 (vV R9.a))) (vV R9.a).length=ad5:=by kernel_rfl
def NR:List Int->List Int:=wE (wH CG M0 S1) R9 ad5
theorem axU:wK prog gG ⟨46,R9,NR⟩:=Ip akO 3000 axT (by kernel_rfl)
def Sa:Ct:=⟨[.sc kB,.agg [kB,.bool],.agg [kU,kU],.agg [kU,kU],.agg [kU,kU]],[.agg [kU,kU,kB]]⟩
def ad6:vU SV :=
 (.ite dH jw (.ite jA jw (.call 76 [dF,eF,eH] 9 5 (.call 76 jC 14 5 (.call 76 kC 19 5 (.call 144 nD 24 5 (.ite (.bin .eql .u8 (.var kB 15) bP) (.call 142 nD 29 1 nU) (.call 142 nD 29 1 (.ite (.bin .eql .u8 (.var kB 20) bP) nU (.ite (.var .bool 29) (.call 3000077 nT 30 4 oz) (.call 3000077 nH 30 4 oz)))))))))))
theorem axV:xe (wR CG M0 S1) 3000 98 (wN Sa.a (wM 0 (vV Sa.a))) (vV Sa.a).length=ad6:=by kernel_rfl
def Sb:List Int->List Int:=wE (wH CG M0 S1) Sa ad6
theorem axW:wK prog gG ⟨98,Sa,Sb⟩:=Ip akO 3000 axV (by kernel_rfl)
def UX:List wY:=⟨46,R9,NR⟩::⟨98,Sa,Sb⟩::CG
theorem akP:∀ e∈UX,wK prog gG e:=List.forall_mem_cons.2 ⟨axU,List.forall_mem_cons.2 ⟨axW,akL⟩⟩
theorem UY:wH CG M0 S1 76=Fu:=xZ (e:=⟨76,_,Fu⟩) rfl rfl rfl
theorem ad7:wH CG M0 S1 2000077=LX:=WN (e:=⟨77,_,LX⟩) rfl
theorem Fx:wH CG M0 S1 78=Gm:=xZ (e:=⟨78,_,Gm⟩) rfl rfl rfl
theorem Ma:wH CG M0 S1 147=Gh:=xZ (e:=⟨147,_,Gh⟩) rfl rfl rfl
theorem ad8:wH CG M0 S1 130=R6:=xZ (e:=⟨130,_,R6⟩) rfl rfl rfl
theorem Sd:wH CG M0 S1 132=Fp:=xZ (e:=⟨132,_,Fp⟩) rfl rfl rfl
theorem Gn:wH CG M0 S1 134=Dq:=xZ (e:=⟨134,_,Dq⟩) rfl rfl rfl
theorem ad9:wH CG M0 S1 128=R4:=xZ (e:=⟨128,_,R4⟩) rfl rfl rfl
theorem axX:wH CG M0 S1 144=JX:=xZ (e:=⟨144,_,JX⟩) rfl rfl rfl
theorem akQ:wH CG M0 S1 142=JS:=xZ (e:=⟨142,_,JS⟩) rfl rfl rfl
theorem Gp:wH CG M0 S1 3000077=LY:=WN (e:=⟨77,_,LY⟩) rfl
theorem axY:Br (wR UX M0 S1) eE:=GZ akP JG IU (by kernel_rfl)
def Sg:Ct:=⟨[.sc kB,.agg [kB,.bool],.agg [kU,kU],.agg [kU,kU]],[.agg [kU,kU,kB]]⟩
def akR:vU SV :=
 (.call 14 kC 7 1 (.ite (.not gz) (.call 45 kC 8 2 (.call 46 [dF,dM,dL,ay,aC,eH,eO] 10 3 oC)) (.call 46 [dF,dM,dL,ay,aC,dZ,aA] 8 3 (.leaf (.agg [fO,gD,(.int .u8 (.var kB 10))])))))
theorem axZ:xe (wR UX M0 S1) 3000 19 (wN Sg.a (wM 0 (vV Sg.a))) (vV Sg.a).length=akR:=by kernel_rfl
def akS:List Int->List Int:=wE (wH UX M0 S1) Sg akR
theorem ax0:wK prog gG ⟨19,Sg,akS⟩:=Ip axY 3000 axZ (by kernel_rfl)
def E34:List wY:=⟨19,Sg,akS⟩::UX
theorem akU:∀ e∈E34,wK prog gG e:=List.forall_mem_cons.2 ⟨ax0,akP⟩
end Go.Proofs.YtippohicjhilnaaGreatDoor
