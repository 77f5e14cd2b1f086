import Derived.Test.YtippohicjhilnaaGreatDoorZHTr
set_option linter.unusedSimpArgs false
set_option linter.unusedVariables false
set_option maxRecDepth 100000
open Go.Proofs.Tryz
namespace Go.Proofs.YtippohicjhilnaaGreatDoor
open Go.RowKit
theorem aar:wW (uI C0 N0 Z0) eE:=EW aaq agv N7 (by kernel_rfl)
def Vm:Ct:=⟨[.sc .nat,.sc kI],[.sc .nat]⟩
def aas:tL SV :=
 (.call 65 [nY,ed] 2 1 (.call 29 [(.var .nat 2),ed] 3 1 (.call 32 [nY,(.var .nat 3)] 4 1 (.leaf (.agg [(.int .u64 nZ)])))))
theorem aqo:CE (uI C0 N0 Z0) 3000 63 Vm (tO Vm.a).length=aas:=by kernel_rfl
def JC:List Int->List Int:=xx (uy C0 N0 Z0) aas
theorem aqp:wS prog gG ⟨63,Vm,JC⟩:=EU aar 3000 (by kernel_rfl) (by kernel_rfl) aqo (by kernel_rfl)
def Vn:Ct:=⟨[.sc .nat],[.agg [kU,kU]]⟩
def aat:tL SV :=
 (.call 60 [nY,ag] 1 1 (.call 60 [nY,ak] 2 1 (.call 60 [nY,bg] 3 1 (.call 60 [nY,bV] 4 1 (.leaf (.agg [(.int .u64 (.bin .add .u64 (.var (.int .u32) 3) (.bin .shl .u64 (.var (.int .u32) 4) (.lit 32)))),(.int .u64 (.bin .add .u64 (.var (.int .u32) 1) (.bin .shl .u64 (.var (.int .u32) 2) (.lit 32))))]))))))
theorem aqr:CE (uI C0 N0 Z0) 3000 64 Vn (tO Vn.a).length=aat:=by kernel_rfl
def N8:List Int->List Int:=xx (uy C0 N0 Z0) aat
theorem aqs:wS prog gG ⟨64,Vn,N8⟩:=EU aar 3000 (by kernel_rfl) (by kernel_rfl) aqr (by kernel_rfl)
def Vo:Ct:=⟨[.sc kI],[.sc .nat]⟩
def aau:tL SV :=
 (.call 67 [ak] 1 1 (.call 29 [og,lV] 2 1 (.leaf (.agg [(.int .u64 (.var .nat 2))]))))
theorem aqt:CE (uI C0 N0 Z0) 3000 36 Vo (tO Vo.a).length=aau:=by kernel_rfl
def N9:List Int->List Int:=xx (uy C0 N0 Z0) aau
theorem aqu:wS prog gG ⟨36,Vo,N9⟩:=EU aar 3000 (by kernel_rfl) (by kernel_rfl) aqt (by kernel_rfl)
def N1:List uL:=⟨63,Vm,JC⟩::⟨64,Vn,N8⟩::⟨36,Vo,N9⟩::N0
theorem agw:∀ e∈N1,wS prog gG e:=List.forall_mem_cons.2 ⟨aqp,List.forall_mem_cons.2 ⟨aqs,List.forall_mem_cons.2 ⟨aqu,agv⟩⟩⟩
theorem aqv:uy C0 N0 Z0 65=JA:=zy (e:=⟨65,_,JA⟩) rfl rfl
theorem agx:uy C0 N0 Z0 29=Jz:=zy (e:=⟨29,_,Jz⟩) rfl rfl
theorem aqw:uy C0 N0 Z0 32=NV:=zy (e:=⟨32,_,NV⟩) rfl rfl
theorem Vp:uy C0 N0 Z0 60=NY:=zy (e:=⟨60,_,NY⟩) rfl rfl
theorem aqx:uy C0 N0 Z0 67=NR:=zy (e:=⟨67,_,NR⟩) rfl rfl
theorem aav:wW (uI C0 N1 Z0) eE:=EW aaq agw N7 (by kernel_rfl)
def Oa:Ct:=⟨[.sc kB],[.sc kI]⟩
def aaw:tL SV :=
 (.ite oh (.leaf (.int .i64 (.lit 16))) (.ite ol (.leaf (.int .i64 (.lit 32))) (.ite om (.leaf (.int .i64 (.lit 64))) (.ite oo (.leaf (.int .i64 aP)) (.leaf dH)))))
theorem aqy:uN (uI C0 N1 Z0) 3000 61 (uF Oa.a (uC 0 (tO Oa.a))) (tO Oa.a).length=aaw:=by kernel_rfl
def JD:List Int->List Int:=uq (uy C0 N1 Z0) Oa aaw
theorem aqz:wX prog gG ⟨61,Oa,JD⟩:=Ns aav 3000 (by kernel_rfl) aqy (by kernel_rfl)
def Ob:Ct:=⟨[.sc kB],[.sc kI]⟩
def aax:tL SV :=
 (.ite oh (.leaf (.int .i64 (.lit 11))) (.ite ol (.leaf (.int .i64 (.lit 24))) (.ite om (.leaf (.int .i64 (.lit 53))) (.ite oo (.leaf (.int .i64 (.lit 113))) (.leaf dH)))))
theorem aqA:uN (uI C0 N1 Z0) 3000 34 (uF Ob.a (uC 0 (tO Ob.a))) (tO Ob.a).length=aax:=by kernel_rfl
def JE:List Int->List Int:=uq (uy C0 N1 Z0) Ob aax
theorem aqB:wX prog gG ⟨34,Ob,JE⟩:=Ns aav 3000 (by kernel_rfl) aqA (by kernel_rfl)
def Oc:Ct:=⟨[.sc kB],[.sc kI]⟩
def aay:tL SV :=
 (.ite oh (.leaf (.int .i64 (.lit 15))) (.ite ol (.leaf (.int .i64 (.lit 127))) (.ite om (.leaf dL) (.ite oo (.leaf dM) (.leaf dH)))))
theorem aqC:uN (uI C0 N1 Z0) 3000 35 (uF Oc.a (uC 0 (tO Oc.a))) (tO Oc.a).length=aay:=by kernel_rfl
def Od:List Int->List Int:=uq (uy C0 N1 Z0) Oc aay
theorem aqD:wX prog gG ⟨35,Oc,Od⟩:=Ns aav 3000 (by kernel_rfl) aqC (by kernel_rfl)
def C1:List uL:=⟨61,Oa,JD⟩::⟨34,Ob,JE⟩::⟨35,Oc,Od⟩::C0
theorem Vq:∀ e∈C1,wX prog gG e:=List.forall_mem_cons.2 ⟨aqz,List.forall_mem_cons.2 ⟨aqB,List.forall_mem_cons.2 ⟨aqD,aaq⟩⟩⟩
def N2:List uL:=N1
theorem agy:∀ e∈N2,wS prog gG e:=agw
theorem aqE:wW (uI C1 N2 Z0) eE:=EW Vq agy N7 (by kernel_rfl)
def Vr:Ct:=⟨[.sc kB,.agg [kU,kU]],[.sc .nat]⟩
def aaz:tL SV :=
 (.call 87 [ai,aB] 3 1 (.call 61 dY 4 1 (.call 63 [(.var .nat 3),bE] 5 1 (.leaf (.agg [(.int .u64 oq)])))))
theorem aqF:CE (uI C1 N2 Z0) 3000 62 Vr (tO Vr.a).length=aaz:=by kernel_rfl
def Oe:List Int->List Int:=xx (uy C1 N2 Z0) aaz
theorem aqG:wS prog gG ⟨62,Vr,Oe⟩:=EU aqE 3000 (by kernel_rfl) (by kernel_rfl) aqF (by kernel_rfl)
def N3:List uL:=⟨62,Vr,Oe⟩::N2
theorem agz:∀ e∈N3,wS prog gG e:=List.forall_mem_cons.2 ⟨aqG,agy⟩
theorem aqH:uy C1 N2 Z0 87=NS:=zy (e:=⟨87,_,NS⟩) rfl rfl
theorem aqI:uy C1 N2 Z0 61=JD:=vo (e:=⟨61,_,JD⟩) rfl rfl rfl
theorem aqJ:uy C1 N2 Z0 63=JC:=zy (e:=⟨63,_,JC⟩) rfl rfl
theorem aqK:wW (uI C1 N3 Z0) eE:=EW Vq agz N7 (by kernel_rfl)
def Vs:Ct:=⟨[.sc kB,.agg [kU,kU]],[.sc .bool,.sc kI,.sc .nat]⟩
def aaA:tL SV :=
 (.call 61 dY 3 1 (.ite iU (.leaf (.agg [aO,aO,aO])) (.call 62 iV 4 1 (.call 61 dY 5 1 (.call 63 [nZ,gZ] 6 1 (.call 34 dY 7 1 (.call 65 [ou,(.bin .sub .i64 iL ak)] 8 1 (.call 64 [ow] 9 2 (.call 61 dY 11 1 (.call 66 [nZ,(.bin .sub .i64 mf ak)] 12 1 (.call 34 dY 13 1 (.call 63 [ou,(.bin .sub .i64 (.var kI 13) ak)] 14 1 (.leaf (.agg [(.int .u64 ky),(.int .u64 (.conv .i64 eU)),(.int .u64 (.var .nat 14))]))))))))))))))
theorem aqL:CE (uI C1 N3 Z0) 3000 33 Vs (tO Vs.a).length=aaA:=by kernel_rfl
def Og:List Int->List Int:=xx (uy C1 N3 Z0) aaA
theorem aqM:wS prog gG ⟨33,Vs,Og⟩:=EU aqK 3000 (by kernel_rfl) (by kernel_rfl) aqL (by kernel_rfl)
def N4:List uL:=⟨33,Vs,Og⟩::N3
theorem agA:∀ e∈N4,wS prog gG e:=List.forall_mem_cons.2 ⟨aqM,agz⟩
theorem aaB:uy C1 N3 Z0 61=JD:=vo (e:=⟨61,_,JD⟩) rfl rfl rfl
theorem aqN:uy C1 N3 Z0 62=Oe:=zy (e:=⟨62,_,Oe⟩) rfl rfl
theorem agB:uy C1 N3 Z0 63=JC:=zy (e:=⟨63,_,JC⟩) rfl rfl
theorem agC:uy C1 N3 Z0 34=JE:=vo (e:=⟨34,_,JE⟩) rfl rfl rfl
theorem aqO:uy C1 N3 Z0 65=JA:=zy (e:=⟨65,_,JA⟩) rfl rfl
theorem aqP:uy C1 N3 Z0 64=N8:=zy (e:=⟨64,_,N8⟩) rfl rfl
theorem aqQ:uy C1 N3 Z0 66=NW:=zy (e:=⟨66,_,NW⟩) rfl rfl
theorem agD:wW (uI C1 N4 Z0) eE:=EW Vq agA N7 (by kernel_rfl)
def Oh:Ct:=⟨[.sc kB,.agg [kU,kU]],[.sc kB,.sc .bool]⟩
def agE:tL SV :=
 (.ite (.bin .gtr .u8 dI bV) (.leaf (.tup [iE,ax])) (.call 33 iV 3 3 (.ite gq (.ite oz (.leaf (.tup [iE,jf])) (.leaf (.tup [jg,jf]))) (.call 35 dY 6 1 (.ite (.bin .neq .i64 bE (.bin .add .i64 (.bin .mul .i64 bg fM) ak)) (.leaf (.tup [ji,jf])) (.ite oz (.leaf (.tup [jk,jf])) (.call 34 dY 7 1 (.call 36 [(.bin .sub .i64 iL bg)] 8 1 (.call 31 [oq,ow] 9 1 (.ite (.bin .geq .i64 jl ag) jm jo))))))))))
theorem aqR:uN (uI C1 N4 Z0) 3000 39 (uF Oh.a (uC 0 (tO Oh.a))) (tO Oh.a).length=agE:=by kernel_rfl
def agF:List Int->List Int:=uq (uy C1 N4 Z0) Oh agE
theorem aqS:wX prog gG ⟨39,Oh,agF⟩:=Ns agD 3000 (by kernel_rfl) aqR (by kernel_rfl)
def Vt:Ct:=⟨[.sc kB,.agg [kU,kU]],[.agg [.bool,.nat,kI]]⟩
def aaC:tL SV :=
 (.call 33 iV 3 3 (.call 34 dY 6 1 (.ite gq (.call 35 dY 7 1 (.leaf (.agg [oC,(.int .u64 oq),(.int .u64 (.bin .sub .i64 (.bin .sub .i64 ak iL) gY))]))) (.call 36 [gY] 7 1 (.call 30 [oq,oD] 8 1 (.call 35 dY 9 1 (.leaf (.agg [oC,(.int .u64 ow),(.int .u64 (.bin .sub .i64 (.bin .sub .i64 bE jl) gY))]))))))))
theorem aqT:CE (uI C1 N4 Z0) 3000 10 Vt (tO Vt.a).length=aaC:=by kernel_rfl
def Oi:List Int->List Int:=xx (uy C1 N4 Z0) aaC
theorem aqU:wS prog gG ⟨10,Vt,Oi⟩:=EU agD 3000 (by kernel_rfl) (by kernel_rfl) aqT (by kernel_rfl)
def C5:List uL:=⟨39,Oh,agF⟩::C1
theorem agG:∀ e∈C5,wX prog gG e:=List.forall_mem_cons.2 ⟨aqS,Vq⟩
def N5:List uL:=⟨10,Vt,Oi⟩::N4
theorem agH:∀ e∈N5,wS prog gG e:=List.forall_mem_cons.2 ⟨aqU,agA⟩
theorem aqV:uy C1 N4 Z0 33=Og:=zy (e:=⟨33,_,Og⟩) rfl rfl
theorem agI:uy C1 N4 Z0 35=Od:=vo (e:=⟨35,_,Od⟩) rfl rfl rfl
theorem aqW:uy C1 N4 Z0 34=JE:=vo (e:=⟨34,_,JE⟩) rfl rfl rfl
theorem aqX:uy C1 N4 Z0 36=N9:=zy (e:=⟨36,_,N9⟩) rfl rfl
theorem aqY:uy C1 N4 Z0 30=NU:=zy (e:=⟨30,_,NU⟩) rfl rfl
theorem agJ:wW (uI C5 N5 Z0) eE:=EW agG agH N7 (by kernel_rfl)
def Vu:Ct:=⟨[.agg [.bool,.nat,kI],.agg [.bool,.nat,kI]],[.agg [.bool,.nat,kI]]⟩
def agK:tL SV :=
 (.call 29 oF 6 1 (.call 29 oG 7 1 (.ite (.beq oH je) (.call 30 [ou,oD] 8 1 (.leaf (.agg [(.int .u64 oH),(.int .u64 ow),oI]))) (.call 31 [ou,oD] 8 1 (.ite oJ (.call 32 [oD,ou] 9 1 (.leaf (.agg [oC,oK,oI]))) (.call 32 [ou,oD] 9 1 (.leaf (.agg [(.int .u64 oH),oK,oI]))))))))
theorem aqZ:CE (uI C5 N5 Z0) 3000 9 Vu (tO Vu.a).length=agK:=by kernel_rfl
def agL:List Int->List Int:=xx (uy C5 N5 Z0) agK
theorem aq0:wS prog gG ⟨9,Vu,agL⟩:=EU agJ 3000 (by kernel_rfl) (by kernel_rfl) aqZ (by kernel_rfl)
def Vv:Ct:=⟨[.agg [.bool,.nat,kI],.agg [.bool,.nat,kI]],[.agg [.bool,.nat,kI]]⟩
def agM:tL SV :=
 (.call 37 [og,nZ] 6 1 (.leaf (.agg [(.int .u64 (.not (.beq oH je))),(.int .u64 ou),(.int .u64 (.bin .add .i64 au gQ))])))
theorem aq1:CE (uI C5 N5 Z0) 3000 11 Vv (tO Vv.a).length=agM:=by kernel_rfl
def agN:List Int->List Int:=xx (uy C5 N5 Z0) agM
theorem aq2:wS prog gG ⟨11,Vv,agN⟩:=EU agJ 3000 (by kernel_rfl) (by kernel_rfl) aq1 (by kernel_rfl)
def C6:List uL:=C5
theorem aq3:∀ e∈C6,wX prog gG e:=agG
def N6:List uL:=⟨9,Vu,agL⟩::⟨11,Vv,agN⟩::N5
theorem agO:∀ e∈N6,wS prog gG e:=List.forall_mem_cons.2 ⟨aq0,List.forall_mem_cons.2 ⟨aq2,agH⟩⟩
end Go.Proofs.YtippohicjhilnaaGreatDoor
