import Derived.Test.YtbembkamcdlhbaaGreatDoorWESb
import Derived.Test.YtbembkamcdlhbaaGreatDoorH1Sb
import Derived.Test.YtbembkamcdlhbaaGreatDoorK1Sb
set_option linter.unusedSimpArgs false
set_option linter.unusedVariables false
set_option maxRecDepth 100000
namespace Go.Proofs.YtbembkamcdlhbaaGreatDoor
open Go.RowKit
theorem Yl:uY (r9 zz M0 S1) eE:=Af Ld BV Bn (by kernel_rfl)
def EO:Ct:=⟨[.agg [kU,kU,kU,kU],.agg [kU,kU,kU,kU]],[.sc kI]⟩
def Rw:qZ SV :=
 (.call 255 fH 8 2 (.call 255 dY 10 2 (.call 234 [dZ,ed,ek,eu] 12 1 (.ite (.bin .neq .i64 j4 ae) (.leaf (.int .i64 j4)) (.call 321 fH 13 2 (.call 321 dY 15 2 (.call 234 [eB,eQ,eP,eF] 17 1 (.leaf (.int .i64 (.var kI 17))))))))))
theorem ahh:rU (r9 zz M0 S1) 3000 304 (rH EO.a (rG 0 (q9 EO.a))) (q9 EO.a).length=Rw:=by kernel_rfl
def Ni:List Int→List Int:=rE (tV zz M0 S1) EO Rw
theorem Ym:rD Tryz.prog gG ⟨304,EO,Ni⟩:=AZ Yl 3000 ahh (by kernel_rfl)
def II:Ct:=⟨[.agg [kI,kU,kU,kU,kU],.agg [kI,kU,kU,kU,kU]],[.sc kI]⟩
def Yn:qZ SV :=
 (.call 202 kP 10 1 (.ite fV (.call 202 kQ 11 1 (.ite (.not kz) (.leaf (.int .i64 kR)) (.call 202 kQ 12 1 (.ite jK (.call 202 kP 13 1 (.ite (.not kF) (.leaf (.int .i64 kS)) kT)) kT)))) (.call 202 kQ 11 1 (.ite kz (.call 202 kP 12 1 (.ite (.not jK) (.leaf (.int .i64 kS)) kT)) kT))))
theorem ahi:rU (r9 zz M0 S1) 3000 316 (rH II.a (rG 0 (q9 II.a))) (q9 II.a).length=Yn:=by kernel_rfl
def Yo:List Int→List Int:=rE (tV zz M0 S1) II Yn
theorem ahj:rD Tryz.prog gG ⟨316,II,Yo⟩:=AZ Yl 3000 ahi (by kernel_rfl)
def EP:List rZ:=⟨304,EO,Ni⟩::⟨316,II,Yo⟩::zz
theorem Yp:∀ e∈EP,rD Tryz.prog gG e:=List.forall_mem_cons.2 ⟨Ym,List.forall_mem_cons.2 ⟨ahj,Ld⟩⟩
theorem Yq:tV zz M0 S1 255=Dj:=Kl (e:=⟨255,_,Dj⟩) rfl rfl rfl
theorem Yr:tV zz M0 S1 234=EH:=Kl (e:=⟨234,_,EH⟩) rfl rfl rfl
theorem Yt:tV zz M0 S1 321=Dk:=Kl (e:=⟨321,_,Dk⟩) rfl rfl rfl
open Go.RowKit
theorem Yu:uY (r9 EP M0 S1) eE:=Af Yp BV Bn (by kernel_rfl)
def IJ:Ct:=⟨[.agg [kI,kU,kU,kU,kU],.agg [kI,kU,kU,kU,kU]],[.sc kI]⟩
def Yv:qZ SV :=
 (.call 228 kV 10 4 (.call 319 kV 14 1 (.call 228 kX 15 4 (.call 319 kX 19 1 (.call 304 [ek,eu,eD,eB,eP,eF,eG,eH] 20 1 (.ite (.bin .eql .i64 (.var kI 20) ae) (.ite iH kY (.ite jF (.leaf (.int .i64 dM)) kZ)) kZ))))))
theorem ahk:rU (r9 EP M0 S1) 3000 258 (rH IJ.a (rG 0 (q9 IJ.a))) (q9 IJ.a).length=Yv:=by kernel_rfl
def Yw:List Int→List Int:=rE (tV EP M0 S1) IJ Yv
theorem ahl:rD Tryz.prog gG ⟨258,IJ,Yw⟩:=AZ Yu 3000 ahk (by kernel_rfl)
def IK:Ct:=⟨[.agg [kI,kU,kU,kU,kU],.agg [kI,kU,kU,kU,kU]],[.agg [kI,kU,kU,kU,kU]]⟩
def Yx:qZ SV :=
 (.call 316 lc 10 1 (.call 266 [ag,az,ay,aC,(.bin .sub .i64 lg kS)] 11 4 (.call 266 [aA,dX,dZ,ed,(.bin .sub .i64 lg kR)] 15 4 (.call 235 [eu,eD,eB,eQ,eP,eF,eG,eH] 19 5 (.leaf (.agg [(.int .i64 lg),gI,gK,eU,eY]))))))
theorem ahm:rU (r9 EP M0 S1) 3000 198 (rH IK.a (rG 0 (q9 IK.a))) (q9 IK.a).length=Yx:=by kernel_rfl
def Yy:List Int→List Int:=rE (tV EP M0 S1) IK Yx
theorem ahn:rD Tryz.prog gG ⟨198,IK,Yy⟩:=AZ Yu 3000 ahm (by kernel_rfl)
def Kw:List rZ:=⟨258,IJ,Yw⟩::⟨198,IK,Yy⟩::EP
theorem Yz:∀ e∈Kw,rD Tryz.prog gG e:=List.forall_mem_cons.2 ⟨ahl,List.forall_mem_cons.2 ⟨ahn,Yp⟩⟩
open Go.RowKit
theorem aho:uY (r9 Kw M0 S1) eE:=Af Yz BV Bn (by kernel_rfl)
def IL:Ct:=⟨[.agg [kI,kU,kU,kU,kU],.agg [kI,kU,kU,kU,kU]],[.agg [kI,kU,kU,kU,kU],.sc .bool]⟩
def YA:qZ SV :=
 (.call 258 lc 10 1 (.ite lh (.call 316 [gy,aA,dX,dZ,ed,(.var kI 0),ag,az,ay,aC] 11 1 (.call 266 lu 12 4 (.call 266 lv 16 4 lw))) (.call 316 lc 11 1 (.call 266 lv 12 4 (.call 266 lu 16 4 lw)))))
theorem ahp:rU (r9 Kw M0 S1) 3000 200 (rH IL.a (rG 0 (q9 IL.a))) (q9 IL.a).length=YA:=by kernel_rfl
def YB:List Int→List Int:=rE (tV Kw M0 S1) IL YA
theorem ahq:rD Tryz.prog gG ⟨200,IL,YB⟩:=AZ aho 3000 ahp (by kernel_rfl)
def EQ:List rZ:=⟨200,IL,YB⟩::Kw
theorem YC:∀ e∈EQ,rD Tryz.prog gG e:=List.forall_mem_cons.2 ⟨ahq,Yz⟩
open Go.RowKit
theorem YD:uY (r9 EQ M0 S1) eE:=Af YC BV Bn (by kernel_rfl)
def IM:Ct:=⟨[.sc kB,.agg [kB,.bool],.agg [kU,kU],.agg [kU,kU]],[.agg [kU,kU,kB]]⟩
def YE:qZ SV :=
 (.ite dG iQ (.ite iR iQ (.call 125 iU 7 5 (.call 125 jI 12 5 (.ite jS (.ite jT (.call 2000126 [dE,jU,ay,aC,dU,aA] 17 4 lF) (.call 2000126 lG 17 4 lF)) (.call 2000126 lG 17 4 (.ite ja lC (.ite jT (.call 127 [dE,jK] 21 2 jP) (.ite jU (.call 225 lH 21 4 (.call 225 lI 25 4 (.call 200 lL 29 6 (.call 202 [jy,lN,lQ,lS] 35 1 (.ite (.var .bool 35) (.call 204 [dE,dJ,dI,dO,(.var kI 29),jy,lN,lQ,lS] 36 3 lX) (.call 204 [dE,dJ,dI,(.not (.beq fM (.var .bool 34))),(.var kI 29),jy,lN,lQ,lS] 36 3 lX)))))) (.call 225 lH 21 4 (.call 225 lI 25 4 (.call 198 lL 29 5 (.call 202 [jy,lN,lQ,lS] 34 1 (.ite (.var .bool 34) l5 l5))))))))))))))
theorem ahr:rU (r9 EQ M0 S1) 3000 77 (rH IM.a (rG 0 (q9 IM.a))) (q9 IM.a).length=YE:=by kernel_rfl
def YF:List Int→List Int:=rE (tV EQ M0 S1) IM YE
theorem ahs:rD Tryz.prog gG ⟨77,IM,YF⟩:=AZ YD 3000 ahr (by kernel_rfl)
def IP:Ct:=⟨[.sc kB,.agg [kB,.bool],.agg [kU,kU],.agg [kU,kU],.agg [kU,kU]],[.agg [kU,kU,kB]]⟩
def YG:qZ SV :=
 (.ite dG iQ (.ite iR iQ (.call 125 [dE,dX,dZ] 9 5 (.call 125 iU 14 5 (.call 125 jI 19 5 (.call 222 l6 24 5 (.ite (.bin .eql .u8 (.var kB 15) bK) (.call 220 l6 29 1 mG) (.call 220 l6 29 1 (.ite (.bin .eql .u8 (.var kB 20) bK) mG (.ite (.var .bool 29) (.call 3000126 mF 30 4 mQ) (.call 3000126 l9 30 4 mQ)))))))))))
theorem aht:rU (r9 EQ M0 S1) 3000 168 (rH IP.a (rG 0 (q9 IP.a))) (q9 IP.a).length=YG:=by kernel_rfl
def YH:List Int→List Int:=rE (tV EQ M0 S1) IP YG
theorem ahu:rD Tryz.prog gG ⟨168,IP,YH⟩:=AZ YD 3000 aht (by kernel_rfl)
def Ky:List rZ:=⟨77,IM,YF⟩::⟨168,IP,YH⟩::EQ
theorem YI:∀ e∈Ky,rD Tryz.prog gG e:=List.forall_mem_cons.2 ⟨ahs,List.forall_mem_cons.2 ⟨ahu,YC⟩⟩
end Go.Proofs.YtbembkamcdlhbaaGreatDoor
