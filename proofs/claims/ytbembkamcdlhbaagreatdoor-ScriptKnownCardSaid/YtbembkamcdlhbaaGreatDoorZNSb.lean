import Derived.Test.YtbembkamcdlhbaaGreatDoorWESb
import Derived.Test.YtbembkamcdlhbaaGreatDoorH1Sb
import Derived.Test.YtbembkamcdlhbaaGreatDoorK1Sb
set_option linter.unusedSimpArgs false
set_option linter.unusedVariables false
set_option maxRecDepth 100000
namespace Go.Proofs.YtbembkamcdlhbaaGreatDoor
open Go.RowKit
theorem Yp:vC (su zF M0 S1) eE:=Ak Le Cf Bw (by kernel_rfl)
def EW:Ct:=⟨[.agg [kU,kU,kU,kU],.agg [kU,kU,kU,kU]],[.sc kI]⟩
def Rz:rf SV :=
 (.call 255 fJ 8 2 (.call 255 dY 10 2 (.call 234 [dZ,ed,ek,eu] 12 1 (.ite (.bin .neq .i64 j6 ae) (.leaf (.int .i64 j6)) (.call 321 fJ 13 2 (.call 321 dY 15 2 (.call 234 [eB,eU,eQ,eF] 17 1 (.leaf (.int .i64 (.var kI 17))))))))))
theorem ahs:rY (su zF M0 S1) 3000 304 (rO EW.a (rM 0 (ru EW.a))) (ru EW.a).length=Rz:=by kernel_rfl
def Nk:List Int→List Int:=rH (uf zF M0 S1) EW Rz
theorem Yq:rG Tryz.prog gG ⟨304,EW,Nk⟩:=Bg Yp 3000 ahs (by kernel_rfl)
def IQ:Ct:=⟨[.agg [kI,kU,kU,kU,kU],.agg [kI,kU,kU,kU,kU]],[.sc kI]⟩
def Yr:rf SV :=
 (.call 202 kR 10 1 (.ite gm (.call 202 kS 11 1 (.ite (.not kF) (.leaf (.int .i64 kT)) (.call 202 kS 12 1 (.ite jM (.call 202 kR 13 1 (.ite (.not kH) (.leaf (.int .i64 kV)) kX)) kX)))) (.call 202 kS 11 1 (.ite kF (.call 202 kR 12 1 (.ite (.not jM) (.leaf (.int .i64 kV)) kX)) kX))))
theorem aht:rY (su zF M0 S1) 3000 316 (rO IQ.a (rM 0 (ru IQ.a))) (ru IQ.a).length=Yr:=by kernel_rfl
def Yt:List Int→List Int:=rH (uf zF M0 S1) IQ Yr
theorem ahu:rG Tryz.prog gG ⟨316,IQ,Yt⟩:=Bg Yp 3000 aht (by kernel_rfl)
def EX:List sj:=⟨304,EW,Nk⟩::⟨316,IQ,Yt⟩::zF
theorem Yu:∀ e∈EX,rG Tryz.prog gG e:=List.forall_mem_cons.2 ⟨Yq,List.forall_mem_cons.2 ⟨ahu,Le⟩⟩
theorem Yv:uf zF M0 S1 255=Dr:=Kt (e:=⟨255,_,Dr⟩) rfl rfl rfl
theorem Yw:uf zF M0 S1 234=EO:=Kt (e:=⟨234,_,EO⟩) rfl rfl rfl
theorem Yx:uf zF M0 S1 321=Dt:=Kt (e:=⟨321,_,Dt⟩) rfl rfl rfl
open Go.RowKit
theorem Yy:vC (su EX M0 S1) eE:=Ak Yu Cf Bw (by kernel_rfl)
def IR:Ct:=⟨[.agg [kI,kU,kU,kU,kU],.agg [kI,kU,kU,kU,kU]],[.sc kI]⟩
def Yz:rf SV :=
 (.call 228 kY 10 4 (.call 319 kY 14 1 (.call 228 kZ 15 4 (.call 319 kZ 19 1 (.call 304 [ek,eu,eD,eB,eQ,eF,eG,eH] 20 1 (.ite (.bin .eql .i64 (.var kI 20) ae) (.ite iJ lg (.ite jH (.leaf (.int .i64 dM)) lh)) lh))))))
theorem ahv:rY (su EX M0 S1) 3000 258 (rO IR.a (rM 0 (ru IR.a))) (ru IR.a).length=Yz:=by kernel_rfl
def YA:List Int→List Int:=rH (uf EX M0 S1) IR Yz
theorem ahw:rG Tryz.prog gG ⟨258,IR,YA⟩:=Bg Yy 3000 ahv (by kernel_rfl)
def IU:Ct:=⟨[.agg [kI,kU,kU,kU,kU],.agg [kI,kU,kU,kU,kU]],[.agg [kI,kU,kU,kU,kU]]⟩
def YB:rf SV :=
 (.call 316 ll 10 1 (.call 266 [ag,az,ay,aC,(.bin .sub .i64 lq kV)] 11 4 (.call 266 [aA,dX,dZ,ed,(.bin .sub .i64 lq kT)] 15 4 (.call 235 [eu,eD,eB,eU,eQ,eF,eG,eH] 19 5 (.leaf (.agg [(.int .i64 lq),gK,gM,eY,fe]))))))
theorem ahx:rY (su EX M0 S1) 3000 198 (rO IU.a (rM 0 (ru IU.a))) (ru IU.a).length=YB:=by kernel_rfl
def YC:List Int→List Int:=rH (uf EX M0 S1) IU YB
theorem ahy:rG Tryz.prog gG ⟨198,IU,YC⟩:=Bg Yy 3000 ahx (by kernel_rfl)
def KE:List sj:=⟨258,IR,YA⟩::⟨198,IU,YC⟩::EX
theorem YD:∀ e∈KE,rG Tryz.prog gG e:=List.forall_mem_cons.2 ⟨ahw,List.forall_mem_cons.2 ⟨ahy,Yu⟩⟩
open Go.RowKit
theorem ahz:vC (su KE M0 S1) eE:=Ak YD Cf Bw (by kernel_rfl)
def IV:Ct:=⟨[.agg [kI,kU,kU,kU,kU],.agg [kI,kU,kU,kU,kU]],[.agg [kI,kU,kU,kU,kU],.sc .bool]⟩
def YE:rf SV :=
 (.call 258 ll 10 1 (.ite lu (.call 316 [gD,aA,dX,dZ,ed,(.var kI 0),ag,az,ay,aC] 11 1 (.call 266 lC 12 4 (.call 266 lF 16 4 lG))) (.call 316 ll 11 1 (.call 266 lF 12 4 (.call 266 lC 16 4 lG)))))
theorem ahA:rY (su KE M0 S1) 3000 200 (rO IV.a (rM 0 (ru IV.a))) (ru IV.a).length=YE:=by kernel_rfl
def YF:List Int→List Int:=rH (uf KE M0 S1) IV YE
theorem ahB:rG Tryz.prog gG ⟨200,IV,YF⟩:=Bg ahz 3000 ahA (by kernel_rfl)
def EY:List sj:=⟨200,IV,YF⟩::KE
theorem YG:∀ e∈EY,rG Tryz.prog gG e:=List.forall_mem_cons.2 ⟨ahB,YD⟩
open Go.RowKit
theorem YH:vC (su EY M0 S1) eE:=Ak YG Cf Bw (by kernel_rfl)
def IW:Ct:=⟨[.sc kB,.agg [kB,.bool],.agg [kU,kU],.agg [kU,kU]],[.agg [kU,kU,kB]]⟩
def YI:rf SV :=
 (.ite dG iT (.ite iU iT (.call 125 iW 7 5 (.call 125 jK 12 5 (.ite jU (.ite jV (.call 2000126 [dE,jW,ay,aC,dU,aA] 17 4 lI) (.call 2000126 lJ 17 4 lI)) (.call 2000126 lJ 17 4 (.ite jc lH (.ite jV (.call 127 [dE,jM] 21 2 jR) (.ite jW (.call 225 lL 21 4 (.call 225 lN 25 4 (.call 200 lS 29 6 (.call 202 [jB,lU,lV,lW] 35 1 (.ite (.var .bool 35) (.call 204 [dE,dJ,dI,dO,(.var kI 29),jB,lU,lV,lW] 36 3 l5) (.call 204 [dE,dJ,dI,(.not (.beq fQ (.var .bool 34))),(.var kI 29),jB,lU,lV,lW] 36 3 l5)))))) (.call 225 lL 21 4 (.call 225 lN 25 4 (.call 198 lS 29 5 (.call 202 [jB,lU,lV,lW] 34 1 (.ite (.var .bool 34) l8 l8))))))))))))))
theorem ahC:rY (su EY M0 S1) 3000 77 (rO IW.a (rM 0 (ru IW.a))) (ru IW.a).length=YI:=by kernel_rfl
def YJ:List Int→List Int:=rH (uf EY M0 S1) IW YI
theorem ahD:rG Tryz.prog gG ⟨77,IW,YJ⟩:=Bg YH 3000 ahC (by kernel_rfl)
def IX:Ct:=⟨[.sc kB,.agg [kB,.bool],.agg [kU,kU],.agg [kU,kU],.agg [kU,kU]],[.agg [kU,kU,kB]]⟩
def YK:rf SV :=
 (.ite dG iT (.ite iU iT (.call 125 [dE,dX,dZ] 9 5 (.call 125 iW 14 5 (.call 125 jK 19 5 (.call 222 l9 24 5 (.ite (.bin .eql .u8 (.var kB 15) bK) (.call 220 l9 29 1 mJ) (.call 220 l9 29 1 (.ite (.bin .eql .u8 (.var kB 20) bK) mJ (.ite (.var .bool 29) (.call 3000126 mI 30 4 mV) (.call 3000126 mg 30 4 mV)))))))))))
theorem ahE:rY (su EY M0 S1) 3000 168 (rO IX.a (rM 0 (ru IX.a))) (ru IX.a).length=YK:=by kernel_rfl
def YL:List Int→List Int:=rH (uf EY M0 S1) IX YK
theorem ahF:rG Tryz.prog gG ⟨168,IX,YL⟩:=Bg YH 3000 ahE (by kernel_rfl)
def KF:List sj:=⟨77,IW,YJ⟩::⟨168,IX,YL⟩::EY
theorem YM:∀ e∈KF,rG Tryz.prog gG e:=List.forall_mem_cons.2 ⟨ahD,List.forall_mem_cons.2 ⟨ahF,YG⟩⟩
end Go.Proofs.YtbembkamcdlhbaaGreatDoor
