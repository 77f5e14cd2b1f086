import Derived.Test.YtbembkamcdlhbaaGreatDoorWESb
import Derived.Test.YtbembkamcdlhbaaGreatDoorH1Sb
import Derived.Test.YtbembkamcdlhbaaGreatDoorK1Sb
set_option linter.unusedSimpArgs false
set_option linter.unusedVariables false
set_option maxRecDepth 100000
namespace Go.Proofs.YtbembkamcdlhbaaGreatDoor
open Go.RowKit
theorem YD:vG (sI zJ M0 S1) eE:=Ap Lx Ch BA (by kernel_rfl)
def Fa:Ct:=⟨[.agg [kU,kU,kU,kU],.agg [kU,kU,kU,kU]],[.sc kI]⟩
def RU:ru SV :=
 (.call 255 fI 8 2 (.call 255 dY 10 2 (.call 234 [dZ,ek,eu,eB] 12 1 (.ite (.bin .neq .i64 j5 ae) (.leaf (.int .i64 j5)) (.call 321 fI 13 2 (.call 321 dY 15 2 (.call 234 [eD,eT,eQ,eG] 17 1 (.leaf (.int .i64 (.var kI 17))))))))))
theorem ahJ:sw (sI zJ M0 S1) 3000 304 (rV Fa.a (rU 0 (rE Fa.a))) (rE Fa.a).length=RU:=by kernel_rfl
def NC:List Int→List Int:=rR (uk zJ M0 S1) Fa RU
theorem YE:rQ Tryz.prog gG ⟨304,Fa,NC⟩:=Bi YD 3000 ahJ (by kernel_rfl)
def IZ:Ct:=⟨[.agg [kI,kU,kU,kU,kU],.agg [kI,kU,kU,kU,kU]],[.sc kI]⟩
def YF:ru SV :=
 (.call 202 kQ 10 1 (.ite fZ (.call 202 kR 11 1 (.ite (.not kC) (.leaf (.int .i64 kS)) (.call 202 kR 12 1 (.ite jL (.call 202 kQ 13 1 (.ite (.not kG) (.leaf (.int .i64 kT)) kV)) kV)))) (.call 202 kR 11 1 (.ite kC (.call 202 kQ 12 1 (.ite (.not jL) (.leaf (.int .i64 kT)) kV)) kV))))
theorem ahK:sw (sI zJ M0 S1) 3000 316 (rV IZ.a (rU 0 (rE IZ.a))) (rE IZ.a).length=YF:=by kernel_rfl
def YG:List Int→List Int:=rR (uk zJ M0 S1) IZ YF
theorem ahL:rQ Tryz.prog gG ⟨316,IZ,YG⟩:=Bi YD 3000 ahK (by kernel_rfl)
def Fb:List sH:=⟨304,Fa,NC⟩::⟨316,IZ,YG⟩::zJ
theorem YH:∀ e∈Fb,rQ Tryz.prog gG e:=List.forall_mem_cons.2 ⟨YE,List.forall_mem_cons.2 ⟨ahL,Lx⟩⟩
theorem YI:uk zJ M0 S1 255=Du:=KC (e:=⟨255,_,Du⟩) rfl rfl rfl
theorem YJ:uk zJ M0 S1 234=ES:=KC (e:=⟨234,_,ES⟩) rfl rfl rfl
theorem YK:uk zJ M0 S1 321=Dv:=KC (e:=⟨321,_,Dv⟩) rfl rfl rfl
open Go.RowKit
theorem YL:vG (sI Fb M0 S1) eE:=Ap YH Ch BA (by kernel_rfl)
def Ja:Ct:=⟨[.agg [kI,kU,kU,kU,kU],.agg [kI,kU,kU,kU,kU]],[.sc kI]⟩
def YM:ru SV :=
 (.call 228 kX 10 4 (.call 319 kX 14 1 (.call 228 kY 15 4 (.call 319 kY 19 1 (.call 304 [eu,eB,eF,eD,eQ,eG,eH,eO] 20 1 (.ite (.bin .eql .i64 (.var kI 20) ae) (.ite iI kZ (.ite jG (.leaf (.int .i64 dM)) lg)) lg))))))
theorem ahM:sw (sI Fb M0 S1) 3000 258 (rV Ja.a (rU 0 (rE Ja.a))) (rE Ja.a).length=YM:=by kernel_rfl
def YN:List Int→List Int:=rR (uk Fb M0 S1) Ja YM
theorem ahN:rQ Tryz.prog gG ⟨258,Ja,YN⟩:=Bi YL 3000 ahM (by kernel_rfl)
def Jb:Ct:=⟨[.agg [kI,kU,kU,kU,kU],.agg [kI,kU,kU,kU,kU]],[.agg [kI,kU,kU,kU,kU]]⟩
def YO:ru SV :=
 (.call 316 lh 10 1 (.call 266 [ag,az,ay,aC,(.bin .sub .i64 ll kT)] 11 4 (.call 266 [aA,dX,dZ,ek,(.bin .sub .i64 ll kS)] 15 4 (.call 235 [eB,eF,eD,eT,eQ,eG,eH,eO] 19 5 (.leaf (.agg [(.int .i64 ll),gJ,gL,eX,eZ]))))))
theorem ahO:sw (sI Fb M0 S1) 3000 198 (rV Jb.a (rU 0 (rE Jb.a))) (rE Jb.a).length=YO:=by kernel_rfl
def YP:List Int→List Int:=rR (uk Fb M0 S1) Jb YO
theorem ahP:rQ Tryz.prog gG ⟨198,Jb,YP⟩:=Bi YL 3000 ahO (by kernel_rfl)
def KM:List sH:=⟨258,Ja,YN⟩::⟨198,Jb,YP⟩::Fb
theorem YQ:∀ e∈KM,rQ Tryz.prog gG e:=List.forall_mem_cons.2 ⟨ahN,List.forall_mem_cons.2 ⟨ahP,YH⟩⟩
open Go.RowKit
theorem ahQ:vG (sI KM M0 S1) eE:=Ap YQ Ch BA (by kernel_rfl)
def Jc:Ct:=⟨[.agg [kI,kU,kU,kU,kU],.agg [kI,kU,kU,kU,kU]],[.agg [kI,kU,kU,kU,kU],.sc .bool]⟩
def YR:ru SV :=
 (.call 258 lh 10 1 (.ite lq (.call 316 [gz,aA,dX,dZ,ek,(.var kI 0),ag,az,ay,aC] 11 1 (.call 266 lw 12 4 (.call 266 lG 16 4 lH))) (.call 316 lh 11 1 (.call 266 lG 12 4 (.call 266 lw 16 4 lH)))))
theorem ahR:sw (sI KM M0 S1) 3000 200 (rV Jc.a (rU 0 (rE Jc.a))) (rE Jc.a).length=YR:=by kernel_rfl
def YS:List Int→List Int:=rR (uk KM M0 S1) Jc YR
theorem ahS:rQ Tryz.prog gG ⟨200,Jc,YS⟩:=Bi ahQ 3000 ahR (by kernel_rfl)
def Fe:List sH:=⟨200,Jc,YS⟩::KM
theorem YT:∀ e∈Fe,rQ Tryz.prog gG e:=List.forall_mem_cons.2 ⟨ahS,YQ⟩
open Go.RowKit
theorem YU:vG (sI Fe M0 S1) eE:=Ap YT Ch BA (by kernel_rfl)
def Jd:Ct:=⟨[.sc kB,.agg [kB,.bool],.agg [kU,kU],.agg [kU,kU]],[.agg [kU,kU,kB]]⟩
def YV:ru SV :=
 (.ite dG iR (.ite iT iR (.call 125 iV 7 5 (.call 125 jJ 12 5 (.ite jT (.ite jU (.call 2000126 [dE,jV,ay,aC,dU,aA] 17 4 lJ) (.call 2000126 lL 17 4 lJ)) (.call 2000126 lL 17 4 (.ite jb lI (.ite jU (.call 127 [dE,jL] 21 2 jQ) (.ite jV (.call 225 lN 21 4 (.call 225 lQ 25 4 (.call 200 lU 29 6 (.call 202 [jA,lV,lW,lX] 35 1 (.ite (.var .bool 35) (.call 204 [dE,dJ,dI,dO,(.var kI 29),jA,lV,lW,lX] 36 3 l6) (.call 204 [dE,dJ,dI,(.not (.beq fO (.var .bool 34))),(.var kI 29),jA,lV,lW,lX] 36 3 l6)))))) (.call 225 lN 21 4 (.call 225 lQ 25 4 (.call 198 lU 29 5 (.call 202 [jA,lV,lW,lX] 34 1 (.ite (.var .bool 34) l9 l9))))))))))))))
theorem ahT:sw (sI Fe M0 S1) 3000 77 (rV Jd.a (rU 0 (rE Jd.a))) (rE Jd.a).length=YV:=by kernel_rfl
def YW:List Int→List Int:=rR (uk Fe M0 S1) Jd YV
theorem ahU:rQ Tryz.prog gG ⟨77,Jd,YW⟩:=Bi YU 3000 ahT (by kernel_rfl)
def Je:Ct:=⟨[.sc kB,.agg [kB,.bool],.agg [kU,kU],.agg [kU,kU],.agg [kU,kU]],[.agg [kU,kU,kB]]⟩
def YX:ru SV :=
 (.ite dG iR (.ite iT iR (.call 125 [dE,dX,dZ] 9 5 (.call 125 iV 14 5 (.call 125 jJ 19 5 (.call 222 ma 24 5 (.ite (.bin .eql .u8 (.var kB 15) bK) (.call 220 ma 29 1 mK) (.call 220 ma 29 1 (.ite (.bin .eql .u8 (.var kB 20) bK) mK (.ite (.var .bool 29) (.call 3000126 mJ 30 4 mW) (.call 3000126 mh 30 4 mW)))))))))))
theorem ahV:sw (sI Fe M0 S1) 3000 168 (rV Je.a (rU 0 (rE Je.a))) (rE Je.a).length=YX:=by kernel_rfl
def YY:List Int→List Int:=rR (uk Fe M0 S1) Je YX
theorem ahW:rQ Tryz.prog gG ⟨168,Je,YY⟩:=Bi YU 3000 ahV (by kernel_rfl)
def KN:List sH:=⟨77,Jd,YW⟩::⟨168,Je,YY⟩::Fe
theorem YZ:∀ e∈KN,rQ Tryz.prog gG e:=List.forall_mem_cons.2 ⟨ahU,List.forall_mem_cons.2 ⟨ahW,YT⟩⟩
end Go.Proofs.YtbembkamcdlhbaaGreatDoor
