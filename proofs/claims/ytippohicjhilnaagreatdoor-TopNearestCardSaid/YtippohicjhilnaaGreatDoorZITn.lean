import Derived.Test.YtippohicjhilnaaGreatDoorZHTn
set_option linter.unusedSimpArgs false
set_option linter.unusedVariables false
set_option maxRecDepth 100000
open Go.Proofs.Tryz
namespace Go.Proofs.YtippohicjhilnaaGreatDoor
open Go.RowKit
theorem acr:yS (wR C0 N0 Z0) eE:=GY acp aiE Qc (by kernel_rfl)
def Xw:Ct:=⟨[.sc .nat,.sc kI],[.sc .nat]⟩
def acs:vU SV :=
 (.call 65 [oD,dX] 2 1 (.call 29 [(.var .nat 2),dX] 3 1 (.call 32 [oD,(.var .nat 3)] 4 1 (.leaf (.agg [(.int .u64 oF)])))))
theorem asn:Eu (wR C0 N0 Z0) 3000 63 Xw (vV Xw.a).length=acs:=by kernel_rfl
def Lx:List Int->List Int:=zo (wH C0 N0 Z0) acs
theorem aso:yM prog gG ⟨63,Xw,Lx⟩:=GX acr 3000 (by kernel_rfl) (by kernel_rfl) asn (by kernel_rfl)
def Xx:Ct:=⟨[.sc .nat],[.agg [kU,kU]]⟩
def acu:vU SV :=
 (.call 60 [oD,ae] 1 1 (.call 60 [oD,ai] 2 1 (.call 60 [oD,aY] 3 1 (.call 60 [oD,bP] 4 1 (.leaf (.agg [(.int .u64 (.bin .add .u64 (.var (.int .u32) 3) (.bin .shl .u64 (.var (.int .u32) 4) (.lit 32)))),(.int .u64 (.bin .add .u64 (.var (.int .u32) 1) (.bin .shl .u64 (.var (.int .u32) 2) (.lit 32))))]))))))
theorem asq:Eu (wR C0 N0 Z0) 3000 64 Xx (vV Xx.a).length=acu:=by kernel_rfl
def Qd:List Int->List Int:=zo (wH C0 N0 Z0) acu
theorem asr:yM prog gG ⟨64,Xx,Qd⟩:=GX acr 3000 (by kernel_rfl) (by kernel_rfl) asq (by kernel_rfl)
def Xy:Ct:=⟨[.sc kI],[.sc .nat]⟩
def acv:vU SV :=
 (.call 67 [ai] 1 1 (.call 29 [oG,l9] 2 1 (.leaf (.agg [(.int .u64 (.var .nat 2))]))))
theorem ass:Eu (wR C0 N0 Z0) 3000 36 Xy (vV Xy.a).length=acv:=by kernel_rfl
def Qe:List Int->List Int:=zo (wH C0 N0 Z0) acv
theorem ast:yM prog gG ⟨36,Xy,Qe⟩:=GX acr 3000 (by kernel_rfl) (by kernel_rfl) ass (by kernel_rfl)
def N1:List wY:=⟨63,Xw,Lx⟩::⟨64,Xx,Qd⟩::⟨36,Xy,Qe⟩::N0
theorem aiF:∀ e∈N1,yM prog gG e:=List.forall_mem_cons.2 ⟨aso,List.forall_mem_cons.2 ⟨asr,List.forall_mem_cons.2 ⟨ast,aiE⟩⟩⟩
theorem asu:wH C0 N0 Z0 65=Lu:=yO (e:=⟨65,_,Lu⟩) rfl rfl
theorem aiG:wH C0 N0 Z0 29=IG:=yO (e:=⟨29,_,IG⟩) rfl rfl
theorem asv:wH C0 N0 Z0 32=Lt:=yO (e:=⟨32,_,Lt⟩) rfl rfl
theorem Xz:wH C0 N0 Z0 60=Qb:=yO (e:=⟨60,_,Qb⟩) rfl rfl
theorem asw:wH C0 N0 Z0 67=P7:=yO (e:=⟨67,_,P7⟩) rfl rfl
theorem acw:yS (wR C0 N1 Z0) eE:=GY acp aiF Qc (by kernel_rfl)
def Qf:Ct:=⟨[.sc kB],[.sc kI]⟩
def acx:vU SV :=
 (.ite oH (.leaf (.int .i64 (.lit 16))) (.ite oI (.leaf (.int .i64 (.lit 32))) (.ite oJ (.leaf (.int .i64 (.lit 64))) (.ite oK (.leaf (.int .i64 aM)) (.leaf dE)))))
theorem asx:xe (wR C0 N1 Z0) 3000 61 (wN Qf.a (wM 0 (vV Qf.a))) (vV Qf.a).length=acx:=by kernel_rfl
def LA:List Int->List Int:=wE (wH C0 N1 Z0) Qf acx
theorem asy:yT prog gG ⟨61,Qf,LA⟩:=Py acw 3000 (by kernel_rfl) asx (by kernel_rfl)
def Qg:Ct:=⟨[.sc kB],[.sc kI]⟩
def acy:vU SV :=
 (.ite oH (.leaf (.int .i64 (.lit 11))) (.ite oI (.leaf (.int .i64 (.lit 24))) (.ite oJ (.leaf (.int .i64 (.lit 53))) (.ite oK (.leaf (.int .i64 (.lit 113))) (.leaf dE)))))
theorem asz:xe (wR C0 N1 Z0) 3000 34 (wN Qg.a (wM 0 (vV Qg.a))) (vV Qg.a).length=acy:=by kernel_rfl
def LB:List Int->List Int:=wE (wH C0 N1 Z0) Qg acy
theorem asA:yT prog gG ⟨34,Qg,LB⟩:=Py acw 3000 (by kernel_rfl) asz (by kernel_rfl)
def Qh:Ct:=⟨[.sc kB],[.sc kI]⟩
def acz:vU SV :=
 (.ite oH (.leaf (.int .i64 (.lit 15))) (.ite oI (.leaf (.int .i64 (.lit 127))) (.ite oJ (.leaf dI) (.ite oK (.leaf dJ) (.leaf dE)))))
theorem asB:xe (wR C0 N1 Z0) 3000 35 (wN Qh.a (wM 0 (vV Qh.a))) (vV Qh.a).length=acz:=by kernel_rfl
def Qi:List Int->List Int:=wE (wH C0 N1 Z0) Qh acz
theorem asC:yT prog gG ⟨35,Qh,Qi⟩:=Py acw 3000 (by kernel_rfl) asB (by kernel_rfl)
def C1:List wY:=⟨61,Qf,LA⟩::⟨34,Qg,LB⟩::⟨35,Qh,Qi⟩::C0
theorem XA:∀ e∈C1,yT prog gG e:=List.forall_mem_cons.2 ⟨asy,List.forall_mem_cons.2 ⟨asA,List.forall_mem_cons.2 ⟨asC,acp⟩⟩⟩
def N2:List wY:=N1
theorem aiH:∀ e∈N2,yM prog gG e:=aiF
theorem asD:yS (wR C1 N2 Z0) eE:=GY XA aiH Qc (by kernel_rfl)
def XB:Ct:=⟨[.sc kB,.agg [kU,kU]],[.sc .nat]⟩
def acA:vU SV :=
 (.call 87 [ag,az] 3 1 (.call 61 dU 4 1 (.call 63 [(.var .nat 3),bu] 5 1 (.leaf (.agg [(.int .u64 oL)])))))
theorem asE:Eu (wR C1 N2 Z0) 3000 62 XB (vV XB.a).length=acA:=by kernel_rfl
def Qj:List Int->List Int:=zo (wH C1 N2 Z0) acA
theorem asF:yM prog gG ⟨62,XB,Qj⟩:=GX asD 3000 (by kernel_rfl) (by kernel_rfl) asE (by kernel_rfl)
def N3:List wY:=⟨62,XB,Qj⟩::N2
theorem aiI:∀ e∈N3,yM prog gG e:=List.forall_mem_cons.2 ⟨asF,aiH⟩
theorem asG:wH C1 N2 Z0 87=P8:=yO (e:=⟨87,_,P8⟩) rfl rfl
theorem asH:wH C1 N2 Z0 61=LA:=xZ (e:=⟨61,_,LA⟩) rfl rfl rfl
theorem asI:wH C1 N2 Z0 63=Lx:=yO (e:=⟨63,_,Lx⟩) rfl rfl
theorem asJ:yS (wR C1 N3 Z0) eE:=GY XA aiI Qc (by kernel_rfl)
def XC:Ct:=⟨[.sc kB,.agg [kU,kU]],[.sc .bool,.sc kI,.sc .nat]⟩
def acB:vU SV :=
 (.call 61 dU 3 1 (.ite iW (.leaf (.agg [aL,aL,aL])) (.call 62 iX 4 1 (.call 61 dU 5 1 (.call 63 [oF,gY] 6 1 (.call 34 dU 7 1 (.call 65 [oM,(.bin .sub .i64 iM ai)] 8 1 (.call 64 [oN] 9 2 (.call 61 dU 11 1 (.call 66 [oF,(.bin .sub .i64 mF ai)] 12 1 (.call 34 dU 13 1 (.call 63 [oM,(.bin .sub .i64 (.var kI 13) ai)] 14 1 (.leaf (.agg [(.int .u64 kG),(.int .u64 (.conv .i64 eQ)),(.int .u64 (.var .nat 14))]))))))))))))))
theorem asK:Eu (wR C1 N3 Z0) 3000 33 XC (vV XC.a).length=acB:=by kernel_rfl
def Qk:List Int->List Int:=zo (wH C1 N3 Z0) acB
theorem asL:yM prog gG ⟨33,XC,Qk⟩:=GX asJ 3000 (by kernel_rfl) (by kernel_rfl) asK (by kernel_rfl)
def N4:List wY:=⟨33,XC,Qk⟩::N3
theorem aiJ:∀ e∈N4,yM prog gG e:=List.forall_mem_cons.2 ⟨asL,aiI⟩
theorem acC:wH C1 N3 Z0 61=LA:=xZ (e:=⟨61,_,LA⟩) rfl rfl rfl
theorem asM:wH C1 N3 Z0 62=Qj:=yO (e:=⟨62,_,Qj⟩) rfl rfl
theorem aiK:wH C1 N3 Z0 63=Lx:=yO (e:=⟨63,_,Lx⟩) rfl rfl
theorem aiL:wH C1 N3 Z0 34=LB:=xZ (e:=⟨34,_,LB⟩) rfl rfl rfl
theorem asN:wH C1 N3 Z0 65=Lu:=yO (e:=⟨65,_,Lu⟩) rfl rfl
theorem asO:wH C1 N3 Z0 64=Qd:=yO (e:=⟨64,_,Qd⟩) rfl rfl
theorem asP:wH C1 N3 Z0 66=Qa:=yO (e:=⟨66,_,Qa⟩) rfl rfl
theorem aiM:yS (wR C1 N4 Z0) eE:=GY XA aiJ Qc (by kernel_rfl)
def Ql:Ct:=⟨[.sc kB,.agg [kU,kU]],[.sc kB,.sc .bool]⟩
def acD:vU SV :=
 (.ite (.bin .gtr .u8 dF bP) (.leaf (.tup [iF,au])) (.call 33 iX 3 3 (.ite gp (.ite oO (.leaf (.tup [iF,ji])) (.leaf (.tup [jk,ji]))) (.call 35 dU 6 1 (.ite (.bin .neq .i64 bu (.bin .add .i64 (.bin .mul .i64 aY fK) ai)) (.leaf (.tup [jm,ji])) (.ite oO (.leaf (.tup [jo,ji])) (.call 34 dU 7 1 (.call 36 [(.bin .sub .i64 iM aY)] 8 1 (.call 31 [oL,oN] 9 1 (.ite (.bin .geq .i64 jq ae) jr jv))))))))))
theorem asQ:xe (wR C1 N4 Z0) 3000 39 (wN Ql.a (wM 0 (vV Ql.a))) (vV Ql.a).length=acD:=by kernel_rfl
def Qm:List Int->List Int:=wE (wH C1 N4 Z0) Ql acD
theorem asR:yT prog gG ⟨39,Ql,Qm⟩:=Py aiM 3000 (by kernel_rfl) asQ (by kernel_rfl)
def XD:Ct:=⟨[.sc kB,.agg [kU,kU]],[.agg [.bool,.nat,kI]]⟩
def acE:vU SV :=
 (.call 33 iX 3 3 (.call 34 dU 6 1 (.ite gp (.call 35 dU 7 1 (.leaf (.agg [oP,(.int .u64 oL),(.int .u64 (.bin .sub .i64 (.bin .sub .i64 ai iM) gV))]))) (.call 36 [gV] 7 1 (.call 30 [oL,oQ] 8 1 (.call 35 dU 9 1 (.leaf (.agg [oP,(.int .u64 oN),(.int .u64 (.bin .sub .i64 (.bin .sub .i64 bu jq) gV))]))))))))
theorem asS:Eu (wR C1 N4 Z0) 3000 10 XD (vV XD.a).length=acE:=by kernel_rfl
def Hm:List Int->List Int:=zo (wH C1 N4 Z0) acE
theorem asT:yM prog gG ⟨10,XD,Hm⟩:=GX aiM 3000 (by kernel_rfl) (by kernel_rfl) asS (by kernel_rfl)
def C5:List wY:=⟨39,Ql,Qm⟩::C1
theorem aiN:∀ e∈C5,yT prog gG e:=List.forall_mem_cons.2 ⟨asR,XA⟩
def N5:List wY:=⟨10,XD,Hm⟩::N4
theorem aiO:∀ e∈N5,yM prog gG e:=List.forall_mem_cons.2 ⟨asT,aiJ⟩
theorem aiP:wH C1 N4 Z0 33=Qk:=yO (e:=⟨33,_,Qk⟩) rfl rfl
theorem acF:wH C1 N4 Z0 35=Qi:=xZ (e:=⟨35,_,Qi⟩) rfl rfl rfl
theorem aiQ:wH C1 N4 Z0 34=LB:=xZ (e:=⟨34,_,LB⟩) rfl rfl rfl
theorem aiR:wH C1 N4 Z0 36=Qe:=yO (e:=⟨36,_,Qe⟩) rfl rfl
theorem asU:wH C1 N4 Z0 31=IE:=yO (e:=⟨31,_,IE⟩) rfl rfl
theorem asV:wH C1 N4 Z0 30=Ls:=yO (e:=⟨30,_,Ls⟩) rfl rfl
theorem aiS:yS (wR C5 N5 Z0) eE:=GY aiN aiO Qc (by kernel_rfl)
def XE:Ct:=⟨[.agg [.bool,.nat,kI],.agg [.bool,.nat,kI]],[.agg [.bool,.nat,kI]]⟩
def acG:vU SV :=
 (.call 29 oU 6 1 (.call 29 oV 7 1 (.ite (.beq oZ jh) (.call 30 [oM,oQ] 8 1 (.leaf (.agg [(.int .u64 oZ),(.int .u64 oN),o9]))) (.call 31 [oM,oQ] 8 1 (.ite pg (.call 32 [oQ,oM] 9 1 (.leaf (.agg [oP,pq,o9]))) (.call 32 [oM,oQ] 9 1 (.leaf (.agg [(.int .u64 oZ),pq,o9]))))))))
theorem asW:Eu (wR C5 N5 Z0) 3000 9 XE (vV XE.a).length=acG:=by kernel_rfl
def LC:List Int->List Int:=zo (wH C5 N5 Z0) acG
theorem asX:yM prog gG ⟨9,XE,LC⟩:=GX aiS 3000 (by kernel_rfl) (by kernel_rfl) asW (by kernel_rfl)
def XF:Ct:=⟨[.agg [.bool,.nat,kI],.agg [.bool,.nat,kI]],[.agg [.bool,.nat,kI]]⟩
def acH:vU SV :=
 (.call 37 [oG,oF] 6 1 (.leaf (.agg [(.int .u64 (.not (.beq oZ jh))),(.int .u64 oM),(.int .u64 (.bin .add .i64 aj gP))])))
theorem asY:Eu (wR C5 N5 Z0) 3000 11 XF (vV XF.a).length=acH:=by kernel_rfl
def Qn:List Int->List Int:=zo (wH C5 N5 Z0) acH
theorem asZ:yM prog gG ⟨11,XF,Qn⟩:=GX aiS 3000 (by kernel_rfl) (by kernel_rfl) asY (by kernel_rfl)
def C6:List wY:=C5
theorem as0:∀ e∈C6,yT prog gG e:=aiN
def N6:List wY:=⟨9,XE,LC⟩::⟨11,XF,Qn⟩::N5
theorem aiT:∀ e∈N6,yM prog gG e:=List.forall_mem_cons.2 ⟨asX,List.forall_mem_cons.2 ⟨asZ,aiO⟩⟩
theorem aiU:wH C5 N5 Z0 29=IG:=yO (e:=⟨29,_,IG⟩) rfl rfl
theorem as1:wH C5 N5 Z0 30=Ls:=yO (e:=⟨30,_,Ls⟩) rfl rfl
theorem as2:wH C5 N5 Z0 31=IE:=yO (e:=⟨31,_,IE⟩) rfl rfl
theorem aiV:wH C5 N5 Z0 32=Lt:=yO (e:=⟨32,_,Lt⟩) rfl rfl
theorem as3:wH C5 N5 Z0 37=P9:=yO (e:=⟨37,_,P9⟩) rfl rfl
end Go.Proofs.YtippohicjhilnaaGreatDoor
