import Derived.Test.YtbembkamcdlhbaaGreatDoorWESc
import Derived.Test.YtbembkamcdlhbaaGreatDoorH1Sc
import Derived.Test.YtbembkamcdlhbaaGreatDoorK1Sc
set_option linter.unusedSimpArgs false
set_option linter.unusedVariables false
set_option maxRecDepth 100000
namespace Go.Proofs.YtbembkamcdlhbaaGreatDoor
open Go.RowKit
theorem YR:vF (sj zP M0 S1) eE:=Az LV Cv BM (by kernel_rfl)
def Fy:Ct:=⟨[.agg [kU,kU,kU,kU],.agg [kU,kU,kU,kU]],[.sc kI]⟩
def Sd:rf SV :=
 (.call 255 fH 8 2 (.call 255 dY 10 2 (.call 234 [dZ,ed,ek,eu] 12 1 (.ite (.bin .neq .i64 j4 ae) (.leaf (.int .i64 j4)) (.call 321 fH 13 2 (.call 321 dY 15 2 (.call 234 [eB,eQ,eP,eF] 17 1 (.leaf (.int .i64 (.var kI 17))))))))))
theorem ah4:rX (sj zP M0 S1) 3000 304 (rM Fy.a (rJ 0 (rq Fy.a))) (rq Fy.a).length=Sd:=by kernel_rfl
def NP:List Int→List Int:=rG (ug zP M0 S1) Fy Sd
theorem YS:rF Tryz.prog gG ⟨304,Fy,NP⟩:=Bu YR 3000 ah4 (by kernel_rfl)
def Jo:Ct:=⟨[.agg [kI,kU,kU,kU,kU],.agg [kI,kU,kU,kU,kU]],[.sc kI]⟩
def YT:rf SV :=
 (.call 202 kP 10 1 (.ite fV (.call 202 kQ 11 1 (.ite (.not kz) (.leaf (.int .i64 kR)) (.call 202 kQ 12 1 (.ite jK (.call 202 kP 13 1 (.ite (.not kF) (.leaf (.int .i64 kS)) kT)) kT)))) (.call 202 kQ 11 1 (.ite kz (.call 202 kP 12 1 (.ite (.not jK) (.leaf (.int .i64 kS)) kT)) kT))))
theorem ah5:rX (sj zP M0 S1) 3000 316 (rM Jo.a (rJ 0 (rq Jo.a))) (rq Jo.a).length=YT:=by kernel_rfl
def YU:List Int→List Int:=rG (ug zP M0 S1) Jo YT
theorem ah6:rF Tryz.prog gG ⟨316,Jo,YU⟩:=Bu YR 3000 ah5 (by kernel_rfl)
def Fz:List si:=⟨304,Fy,NP⟩::⟨316,Jo,YU⟩::zP
theorem YV:∀ e∈Fz,rF Tryz.prog gG e:=List.forall_mem_cons.2 ⟨YS,List.forall_mem_cons.2 ⟨ah6,LV⟩⟩
theorem YW:ug zP M0 S1 255=DN:=KU (e:=⟨255,_,DN⟩) rfl rfl rfl
theorem YX:ug zP M0 S1 234=Fp:=KU (e:=⟨234,_,Fp⟩) rfl rfl rfl
theorem YY:ug zP M0 S1 321=DR:=KU (e:=⟨321,_,DR⟩) rfl rfl rfl
open Go.RowKit
theorem YZ:vF (sj Fz M0 S1) eE:=Az YV Cv BM (by kernel_rfl)
def Jp:Ct:=⟨[.agg [kI,kU,kU,kU,kU],.agg [kI,kU,kU,kU,kU]],[.sc kI]⟩
def Za:rf SV :=
 (.call 228 kV 10 4 (.call 319 kV 14 1 (.call 228 kX 15 4 (.call 319 kX 19 1 (.call 304 [ek,eu,eD,eB,eP,eF,eG,eH] 20 1 (.ite (.bin .eql .i64 (.var kI 20) ae) (.ite iH kY (.ite jF (.leaf (.int .i64 dM)) kZ)) kZ))))))
theorem ah7:rX (sj Fz M0 S1) 3000 258 (rM Jp.a (rJ 0 (rq Jp.a))) (rq Jp.a).length=Za:=by kernel_rfl
def Zb:List Int→List Int:=rG (ug Fz M0 S1) Jp Za
theorem ah8:rF Tryz.prog gG ⟨258,Jp,Zb⟩:=Bu YZ 3000 ah7 (by kernel_rfl)
def Jq:Ct:=⟨[.agg [kI,kU,kU,kU,kU],.agg [kI,kU,kU,kU,kU]],[.agg [kI,kU,kU,kU,kU]]⟩
def Zc:rf SV :=
 (.call 316 lc 10 1 (.call 266 [ag,az,ay,aC,(.bin .sub .i64 lg kS)] 11 4 (.call 266 [aA,dX,dZ,ed,(.bin .sub .i64 lg kR)] 15 4 (.call 235 [eu,eD,eB,eQ,eP,eF,eG,eH] 19 5 (.leaf (.agg [(.int .i64 lg),gI,gK,eU,eY]))))))
theorem ah9:rX (sj Fz M0 S1) 3000 198 (rM Jq.a (rJ 0 (rq Jq.a))) (rq Jq.a).length=Zc:=by kernel_rfl
def Zd:List Int→List Int:=rG (ug Fz M0 S1) Jq Zc
theorem aia:rF Tryz.prog gG ⟨198,Jq,Zd⟩:=Bu YZ 3000 ah9 (by kernel_rfl)
def Lc:List si:=⟨258,Jp,Zb⟩::⟨198,Jq,Zd⟩::Fz
theorem Ze:∀ e∈Lc,rF Tryz.prog gG e:=List.forall_mem_cons.2 ⟨ah8,List.forall_mem_cons.2 ⟨aia,YV⟩⟩
open Go.RowKit
theorem aib:vF (sj Lc M0 S1) eE:=Az Ze Cv BM (by kernel_rfl)
def Jr:Ct:=⟨[.agg [kI,kU,kU,kU,kU],.agg [kI,kU,kU,kU,kU]],[.agg [kI,kU,kU,kU,kU],.sc .bool]⟩
def Zf:rf SV :=
 (.call 258 lc 10 1 (.ite lh (.call 316 [gy,aA,dX,dZ,ed,(.var kI 0),ag,az,ay,aC] 11 1 (.call 266 lu 12 4 (.call 266 lv 16 4 lw))) (.call 316 lc 11 1 (.call 266 lv 12 4 (.call 266 lu 16 4 lw)))))
theorem aic:rX (sj Lc M0 S1) 3000 200 (rM Jr.a (rJ 0 (rq Jr.a))) (rq Jr.a).length=Zf:=by kernel_rfl
def Zg:List Int→List Int:=rG (ug Lc M0 S1) Jr Zf
theorem aid:rF Tryz.prog gG ⟨200,Jr,Zg⟩:=Bu aib 3000 aic (by kernel_rfl)
def FB:List si:=⟨200,Jr,Zg⟩::Lc
theorem Zh:∀ e∈FB,rF Tryz.prog gG e:=List.forall_mem_cons.2 ⟨aid,Ze⟩
open Go.RowKit
theorem Zi:vF (sj FB M0 S1) eE:=Az Zh Cv BM (by kernel_rfl)
def Js:Ct:=⟨[.sc kB,.agg [kB,.bool],.agg [kU,kU],.agg [kU,kU]],[.agg [kU,kU,kB]]⟩
def Zj:rf SV :=
 (.ite dG iQ (.ite iR iQ (.call 125 iU 7 5 (.call 125 jI 12 5 (.ite jS (.ite jT (.call 2000126 [dE,jU,ay,aC,dU,aA] 17 4 lF) (.call 2000126 lG 17 4 lF)) (.call 2000126 lG 17 4 (.ite ja lC (.ite jT (.call 127 [dE,jK] 21 2 jP) (.ite jU (.call 225 lH 21 4 (.call 225 lI 25 4 (.call 200 lL 29 6 (.call 202 [jy,lN,lQ,lS] 35 1 (.ite (.var .bool 35) (.call 204 [dE,dJ,dI,dO,(.var kI 29),jy,lN,lQ,lS] 36 3 lX) (.call 204 [dE,dJ,dI,(.not (.beq fM (.var .bool 34))),(.var kI 29),jy,lN,lQ,lS] 36 3 lX)))))) (.call 225 lH 21 4 (.call 225 lI 25 4 (.call 198 lL 29 5 (.call 202 [jy,lN,lQ,lS] 34 1 (.ite (.var .bool 34) l5 l5))))))))))))))
theorem aie:rX (sj FB M0 S1) 3000 77 (rM Js.a (rJ 0 (rq Js.a))) (rq Js.a).length=Zj:=by kernel_rfl
def Zk:List Int→List Int:=rG (ug FB M0 S1) Js Zj
theorem aif:rF Tryz.prog gG ⟨77,Js,Zk⟩:=Bu Zi 3000 aie (by kernel_rfl)
def Jt:Ct:=⟨[.sc kB,.agg [kB,.bool],.agg [kU,kU],.agg [kU,kU],.agg [kU,kU]],[.agg [kU,kU,kB]]⟩
def Zl:rf SV :=
 (.ite dG iQ (.ite iR iQ (.call 125 [dE,dX,dZ] 9 5 (.call 125 iU 14 5 (.call 125 jI 19 5 (.call 222 l6 24 5 (.ite (.bin .eql .u8 (.var kB 15) bK) (.call 220 l6 29 1 mG) (.call 220 l6 29 1 (.ite (.bin .eql .u8 (.var kB 20) bK) mG (.ite (.var .bool 29) (.call 3000126 mF 30 4 mQ) (.call 3000126 l9 30 4 mQ)))))))))))
theorem aig:rX (sj FB M0 S1) 3000 168 (rM Jt.a (rJ 0 (rq Jt.a))) (rq Jt.a).length=Zl:=by kernel_rfl
def Zm:List Int→List Int:=rG (ug FB M0 S1) Jt Zl
theorem aih:rF Tryz.prog gG ⟨168,Jt,Zm⟩:=Bu Zi 3000 aig (by kernel_rfl)
def Ld:List si:=⟨77,Js,Zk⟩::⟨168,Jt,Zm⟩::FB
theorem Zn:∀ e∈Ld,rF Tryz.prog gG e:=List.forall_mem_cons.2 ⟨aif,List.forall_mem_cons.2 ⟨aih,Zh⟩⟩
end Go.Proofs.YtbembkamcdlhbaaGreatDoor
