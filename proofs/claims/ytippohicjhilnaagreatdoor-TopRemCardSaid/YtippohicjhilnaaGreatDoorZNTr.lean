import Derived.Test.YtippohicjhilnaaGreatDoorWETr
import Derived.Test.YtippohicjhilnaaGreatDoorZETr
set_option linter.unusedSimpArgs false
set_option linter.unusedVariables false
set_option maxRecDepth 100000
open Go.Proofs.Tryz
namespace Go.Proofs.YtippohicjhilnaaGreatDoor
open Go.RowKit
theorem ait:zx (uI CS M0 S1) eE:=EX Sd Hy Gu (by kernel_rfl)
def LD:Ct:=⟨[.agg [kU,kU,kU,kU],.agg [kU,kU,kU,kU]],[.sc kI]⟩
def abP:tL SV :=
 (.call 177 gp 8 2 (.call 177 eO 10 2 (.call 156 [eQ,eT,eU,eX] 12 1 (.ite (.bin .neq .i64 kV ag) (.leaf (.int .i64 kV)) (.call 241 gp 13 2 (.call 241 eO 15 2 (.call 156 [eY,fB,fA,fe] 17 1 (.leaf (.int .i64 (.var kI 17))))))))))
theorem avt:uN (uI CS M0 S1) 3000 224 (uF LD.a (uC 0 (tO LD.a))) (tO LD.a).length=abP:=by kernel_rfl
def LF:List Int->List Int:=uq (uy CS M0 S1) LD abP
theorem aiu:uz prog gG ⟨224,LD,LF⟩:=F7 ait 3000 avt (by kernel_rfl)
def PS:Ct:=⟨[.agg [kI,kU,kU,kU,kU],.agg [kI,kU,kU,kU,kU]],[.sc kI]⟩
def abQ:tL SV :=
 (.call 132 lQ 10 1 (.ite gJ (.call 132 lS 11 1 (.ite (.not lu) (.leaf (.int .i64 lU)) (.call 132 lS 12 1 (.ite ky (.call 132 lQ 13 1 (.ite (.not lw) (.leaf (.int .i64 lW)) lX)) lX)))) (.call 132 lS 11 1 (.ite lu (.call 132 lQ 12 1 (.ite (.not ky) (.leaf (.int .i64 lW)) lX)) lX))))
theorem avu:uN (uI CS M0 S1) 3000 236 (uF PS.a (uC 0 (tO PS.a))) (tO PS.a).length=abQ:=by kernel_rfl
def JW:List Int->List Int:=uq (uy CS M0 S1) PS abQ
theorem avv:uz prog gG ⟨236,PS,JW⟩:=F7 ait 3000 avu (by kernel_rfl)
def DF:List uL:=⟨224,LD,LF⟩::⟨236,PS,JW⟩::CS
theorem aiv:∀ e∈DF,uz prog gG e:=List.forall_mem_cons.2 ⟨aiu,List.forall_mem_cons.2 ⟨avv,Sd⟩⟩
theorem aiw:uy CS M0 S1 177=Gp:=vo (e:=⟨177,_,Gp⟩) rfl rfl rfl
theorem aix:uy CS M0 S1 156=H8:=vo (e:=⟨156,_,H8⟩) rfl rfl rfl
theorem aiy:uy CS M0 S1 241=Gq:=vo (e:=⟨241,_,Gq⟩) rfl rfl rfl
theorem PT:uy CS M0 S1 132=Ci:=vo (e:=⟨132,_,Ci⟩) rfl rfl rfl
theorem aiz:zx (uI DF M0 S1) eE:=EX aiv Hy Gu (by kernel_rfl)
def PU:Ct:=⟨[.agg [kI,kU,kU,kU,kU],.agg [kI,kU,kU,kU,kU]],[.sc kI]⟩
def abR:tL SV :=
 (.call 150 lY 10 4 (.call 239 lY 14 1 (.call 150 lZ 15 4 (.call 239 lZ 19 1 (.call 224 [eU,eX,eZ,eY,fA,fe,fq,fu] 20 1 (.ite (.bin .eql .i64 (.var kI 20) ag) (.ite jb (.leaf (.int .i64 ak)) (.ite j6 (.leaf (.int .i64 dU)) l7)) l7))))))
theorem avw:uN (uI DF M0 S1) 3000 180 (uF PU.a (uC 0 (tO PU.a))) (tO PU.a).length=abR:=by kernel_rfl
def PV:List Int->List Int:=uq (uy DF M0 S1) PU abR
theorem avx:uz prog gG ⟨180,PU,PV⟩:=F7 aiz 3000 avw (by kernel_rfl)
def PW:Ct:=⟨[.agg [kI,kU,kU,kU,kU],.agg [kI,kU,kU,kU,kU]],[.agg [kI,kU,kU,kU,kU]]⟩
def abS:tL SV :=
 (.call 236 l8 10 1 (.call 188 [ai,aB,aA,aF,(.bin .sub .i64 l9 lW)] 11 4 (.call 188 [aC,eH,eQ,eT,(.bin .sub .i64 l9 lU)] 15 4 (.call 157 [eX,eZ,eY,fB,fA,fe,fq,fu] 19 5 (.leaf (.agg [(.int .i64 l9),ib,ik,fF,fH]))))))
theorem avy:uN (uI DF M0 S1) 3000 128 (uF PW.a (uC 0 (tO PW.a))) (tO PW.a).length=abS:=by kernel_rfl
def PX:List Int->List Int:=uq (uy DF M0 S1) PW abS
theorem avz:uz prog gG ⟨128,PW,PX⟩:=F7 aiz 3000 avy (by kernel_rfl)
def Ib:List uL:=⟨180,PU,PV⟩::⟨128,PW,PX⟩::DF
theorem aiA:∀ e∈Ib,uz prog gG e:=List.forall_mem_cons.2 ⟨avx,List.forall_mem_cons.2 ⟨avz,aiv⟩⟩
theorem aiB:uy DF M0 S1 150=Dx:=vo (e:=⟨150,_,Dx⟩) rfl rfl rfl
theorem aiC:uy DF M0 S1 239=H7:=vo (e:=⟨239,_,H7⟩) rfl rfl rfl
theorem avA:uy DF M0 S1 224=LF:=vo (e:=⟨224,_,LF⟩) rfl rfl rfl
theorem avB:uy DF M0 S1 236=JW:=vo (e:=⟨236,_,JW⟩) rfl rfl rfl
theorem aiD:uy DF M0 S1 188=Dz:=vo (e:=⟨188,_,Dz⟩) rfl rfl rfl
theorem avC:uy DF M0 S1 157=En:=vo (e:=⟨157,_,En⟩) rfl rfl rfl
theorem avD:zx (uI Ib M0 S1) eE:=EX aiA Hy Gu (by kernel_rfl)
def PY:Ct:=⟨[.agg [kI,kU,kU,kU,kU],.agg [kI,kU,kU,kU,kU]],[.agg [kI,kU,kU,kU,kU],.sc .bool]⟩
def abT:tL SV :=
 (.call 180 l8 10 1 (.ite ma (.call 236 [gQ,aC,eH,eQ,eT,lV,ai,aB,aA,aF] 11 1 (.call 188 mi 12 4 (.call 188 mo 16 4 mq))) (.call 236 l8 11 1 (.call 188 mo 12 4 (.call 188 mi 16 4 mq)))))
theorem avE:uN (uI Ib M0 S1) 3000 130 (uF PY.a (uC 0 (tO PY.a))) (tO PY.a).length=abT:=by kernel_rfl
def PZ:List Int->List Int:=uq (uy Ib M0 S1) PY abT
theorem avF:uz prog gG ⟨130,PY,PZ⟩:=F7 avD 3000 avE (by kernel_rfl)
def Cj:List uL:=⟨130,PY,PZ⟩::Ib
theorem aiE:∀ e∈Cj,uz prog gG e:=List.forall_mem_cons.2 ⟨avF,aiA⟩
theorem avG:uy Ib M0 S1 180=PV:=vo (e:=⟨180,_,PV⟩) rfl rfl rfl
theorem aiF:uy Ib M0 S1 236=JW:=vo (e:=⟨236,_,JW⟩) rfl rfl rfl
theorem VV:uy Ib M0 S1 188=Dz:=vo (e:=⟨188,_,Dz⟩) rfl rfl rfl
theorem aiG:uy Ib M0 S1 158=Gc:=vo (e:=⟨158,_,Gc⟩) rfl rfl rfl
theorem aiH:zx (uI Cj M0 S1) eE:=EX aiE Hy Gu (by kernel_rfl)
def P5:Ct:=⟨[.sc kB,.agg [kB,.bool],.agg [kU,kU],.agg [kU,kU]],[.agg [kU,kU,kB]]⟩
def abU:tL SV :=
 (.ite dK jq (.ite jr jq (.call 76 jw 7 5 (.call 76 kv 12 5 (.ite kL (.ite kM (.call 2000077 [dI,kN,aA,aF,eD,aC] 17 4 mD) (.call 2000077 mF 17 4 mD)) (.call 2000077 mF 17 4 (.ite jF mr (.ite kM (.call 78 [dI,ky] 21 2 kH) (.ite kN (.call 147 mG 21 4 (.call 147 mH 25 4 (.call 130 mJ 29 6 (.call 132 [jW,mK,mM,mO] 35 1 (.ite mP (.call 134 [dI,dQ,dP,dW,(.var kI 29),jW,mK,mM,mO] 36 3 mV) (.call 134 [dI,dQ,dP,(.not (.beq gD mW)),(.var kI 29),jW,mK,mM,mO] 36 3 mV)))))) (.call 147 mG 21 4 (.call 147 mH 25 4 (.call 128 mJ 29 5 (.call 132 [jW,mK,mM,mO] 34 1 (.ite mW ng ng))))))))))))))
theorem avH:uN (uI Cj M0 S1) 3000 46 (uF P5.a (uC 0 (tO P5.a))) (tO P5.a).length=abU:=by kernel_rfl
def LG:List Int->List Int:=uq (uy Cj M0 S1) P5 abU
theorem avI:uz prog gG ⟨46,P5,LG⟩:=F7 aiH 3000 avH (by kernel_rfl)
def P6:Ct:=⟨[.sc kB,.agg [kB,.bool],.agg [kU,kU],.agg [kU,kU],.agg [kU,kU]],[.agg [kU,kU,kB]]⟩
def aiI:tL SV :=
 (.ite dK jq (.ite jr jq (.call 76 [dI,eH,eQ] 9 5 (.call 76 jw 14 5 (.call 76 kv 19 5 (.call 144 ni 24 5 (.ite (.bin .eql .u8 (.var kB 15) bV) (.call 142 ni 29 1 nM) (.call 142 ni 29 1 (.ite (.bin .eql .u8 (.var kB 20) bV) nM (.ite (.var .bool 29) (.call 3000077 nL 30 4 nV) (.call 3000077 ny 30 4 nV)))))))))))
theorem avJ:uN (uI Cj M0 S1) 3000 98 (uF P6.a (uC 0 (tO P6.a))) (tO P6.a).length=aiI:=by kernel_rfl
def aiJ:List Int->List Int:=uq (uy Cj M0 S1) P6 aiI
theorem avK:uz prog gG ⟨98,P6,aiJ⟩:=F7 aiH 3000 avJ (by kernel_rfl)
def JX:List uL:=⟨46,P5,LG⟩::⟨98,P6,aiJ⟩::Cj
theorem aiK:∀ e∈JX,uz prog gG e:=List.forall_mem_cons.2 ⟨avI,List.forall_mem_cons.2 ⟨avK,aiE⟩⟩
theorem aiL:uy Cj M0 S1 76=Ex:=vo (e:=⟨76,_,Ex⟩) rfl rfl rfl
theorem abV:uy Cj M0 S1 2000077=FB:=UH (e:=⟨77,_,FB⟩) rfl
theorem abW:uy Cj M0 S1 78=H9:=vo (e:=⟨78,_,H9⟩) rfl rfl rfl
theorem VW:uy Cj M0 S1 147=Fx:=vo (e:=⟨147,_,Fx⟩) rfl rfl rfl
theorem avL:uy Cj M0 S1 130=PZ:=vo (e:=⟨130,_,PZ⟩) rfl rfl rfl
theorem aiM:uy Cj M0 S1 132=Ci:=vo (e:=⟨132,_,Ci⟩) rfl rfl rfl
theorem VX:uy Cj M0 S1 134=DD:=vo (e:=⟨134,_,DD⟩) rfl rfl rfl
theorem avM:uy Cj M0 S1 128=PX:=vo (e:=⟨128,_,PX⟩) rfl rfl rfl
theorem avN:zx (uI JX M0 S1) eE:=EX aiK Hy Gu (by kernel_rfl)
def P7:Ct:=⟨[.sc kB,.agg [kB,.bool],.agg [kU,kU],.agg [kU,kU]],[.agg [kU,kU,kB]]⟩
def abX:tL SV :=
 (.call 14 kv 7 1 (.ite (.not gD) (.call 45 kv 8 2 (.call 46 [dI,dQ,dP,aA,aF,eQ,eT] 10 3 nX)) (.call 46 [dI,dQ,dP,aA,aF,eD,aC] 8 3 (.leaf (.agg [fQ,gF,(.int .u8 (.var kB 10))])))))
theorem avO:uN (uI JX M0 S1) 3000 19 (uF P7.a (uC 0 (tO P7.a))) (tO P7.a).length=abX:=by kernel_rfl
def P8:List Int->List Int:=uq (uy JX M0 S1) P7 abX
theorem avP:uz prog gG ⟨19,P7,P8⟩:=F7 avN 3000 avO (by kernel_rfl)
def E34:List uL:=⟨19,P7,P8⟩::JX
theorem aiO:∀ e∈E34,uz prog gG e:=List.forall_mem_cons.2 ⟨avP,aiK⟩
theorem avQ:uy JX M0 S1 14=BC:=vo (e:=⟨14,_,BC⟩) rfl rfl rfl
theorem avR:uy JX M0 S1 45=LA:=vo (e:=⟨45,_,LA⟩) rfl rfl rfl
theorem avS:uy JX M0 S1 46=LG:=vo (e:=⟨46,_,LG⟩) rfl rfl rfl
end Go.Proofs.YtippohicjhilnaaGreatDoor
