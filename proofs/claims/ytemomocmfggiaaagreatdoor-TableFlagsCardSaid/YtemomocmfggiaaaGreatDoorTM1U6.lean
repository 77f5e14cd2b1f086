import Derived.Test.YtemomocmfggiaaaGreatDoorTB0U6
set_option linter.unusedSimpArgs false
set_option linter.unusedVariables false
set_option maxRecDepth 100000
namespace Go.Proofs.YtemomocmfggiaaaGreatDoor
open Go.RowKit
theorem LW:zU (wP TA NZ ZZ) eE:=QR ahl Vu Vv (by kernel_rfl)
def Pz:Ct:=⟨[.sc kB,.sc kB,.agg [kB,.bool],.sc kU],[.agg [kU,kU,kB]]⟩
def aa6:vo SV :=
 (.ite dF iY (.ite kC iY (.ite kL iY (.ite (.bin .eql .u8 dD ae) (.ite pI (.call 147 [dI,kK,iR,pI,ib,(.bin .sub .u64 ae pG),ae,ae,ae] 5 3 pJ) (.call 147 [dI,kK,iR,pI,ib,pG,ae,ae,ae] 5 3 pJ)) (.ite pK (.call 147 [dI,kK,iR,ae,ib,(.conv .u64 (.conv .u32 aC)),ae,ae,ae] 5 3 pJ) (.ite pM (.ite pO (.call 147 [dI,kK,iR,pO,ib,(.bin .sub .u64 ae aC),ae,ae,ae] 5 3 pJ) (.call 147 [dI,kK,iR,pO,ib,aC,ae,ae,ae] 5 3 pJ)) (.call 147 [dI,kK,iR,ae,ib,aC,ae,ae,ae] 5 3 pJ)))))))
theorem atV:De (wP TA NZ ZZ) mE 3000 103 (ww Pz.a (wm 0 (vD Pz.a))) (vD Pz.a).length=aa6:=by kernel_rfl
def PD:List Int→List Int:=vU (vP TA NZ ZZ) Pz aa6
theorem atW:AQ Tryz.prog gG ⟨103,Pz,PD⟩:=FV LW GZ 3000 (by kernel_rfl) atV (by kernel_rfl)
def PE:Ct:=⟨[.sc kB,.sc kU],[.sc .bool]⟩
def aa7:vo SV :=
 (.ite (.bin .eql .u8 dD ae) (.leaf (.bool (.bin .eql .u64 (.conv .u64 (.conv .i64 (.conv .i32 ag))) ag))) (.ite pK (.leaf (.bool (.bin .eql .u64 (.conv .u64 (.conv .u32 ag)) ag))) (.ite pM pQ (.ite pR pQ av))))
theorem atX:De (wP TA NZ ZZ) mE 3000 47 (ww PE.a (wm 0 (vD PE.a))) (vD PE.a).length=aa7:=by kernel_rfl
def PG:List Int→List Int:=vU (vP TA NZ ZZ) PE aa7
theorem atY:AQ Tryz.prog gG ⟨47,PE,PG⟩:=FV LW GZ 3000 (by kernel_rfl) atX (by kernel_rfl)
def PH:Ct:=⟨[.sc kB,.sc kB,.sc kB,.agg [kU,kU]],[.agg [kU,kB]]⟩
def aa8:vo SV :=
 (.ite dF pU (.ite kC pU (.ite kL pU (.call 139 jb 5 5 (.ite (.bin .geq .u8 dJ cu) (.leaf (.agg [aL,iU])) (.ite ik (.call 150 oU 10 4 (.ite dO p9 (.ite qa p9 (.ite qf (.call 214 qg 14 4 (.call 210 qh 18 3 (.call 159 [eT,eU,ae,p8] 21 1 (.ite qi p9 (.ite jh (.leaf (.agg [qj,jN])) (.leaf (.agg [qj,gY]))))))) (.call 210 qm 14 3 (.call 159 [eY,eX,ae,p8] 17 1 (.ite qo p9 (.ite ll (.leaf (.agg [qp,jN])) (.leaf (.agg [qp,gY])))))))))) (.call 150 oU 10 4 (.ite dO qx (.ite qa qx (.ite qf (.call 214 qg 14 4 (.call 210 qh 18 3 (.call 159 [eT,eU,ae,qw] 21 1 (.ite qi qx (.ite jh (.leaf (.agg [gM,jN])) (.leaf (.agg [gM,gY]))))))) (.call 210 qm 14 3 (.call 159 [eY,eX,ae,qw] 17 1 (.ite qo qx (.ite ll (.leaf (.agg [gT,jN])) (.leaf (.agg [gT,gY]))))))))))))))))
theorem atZ:De (wP TA NZ ZZ) mE 3000 101 (ww PH.a (wm 0 (vD PH.a))) (vD PH.a).length=aa8:=by kernel_rfl
def PI:List Int→List Int:=vU (vP TA NZ ZZ) PH aa8
theorem at0:AQ Tryz.prog gG ⟨101,PH,PI⟩:=FV LW GZ 3000 (by kernel_rfl) atZ (by kernel_rfl)
def PK:Ct:=⟨[.sc kB,.sc kB,.sc .bool,.agg [kU,kU]],[.agg [kU,kU,kB]]⟩
def aa9:vo SV :=
 (.ite dF iY (.ite iZ iY (.call 1000140 pE 5 4 (.ite kX pJ (.call 139 jb 9 5 (.ite (.bin .eql .u8 (.var kB 10) ae) (.call 35 jb 14 2 oQ) (.ite mH (.call 35 jb 14 2 oQ) (.call 53 dP 14 1 (.ite (.bin .geq .i64 lM (.bin .sub .i64 jm ai)) (.call 35 jb 15 2 kQ) (.call 150 mZ 15 4 (.ite (.bin .lss .i64 lM ae) (.call 214 [eX,eO,eQ,eT,(.bin .sub .i64 (.bin .sub .i64 ae lM) ai)] 19 4 (.call 210 [eU,gN,eZ,fo,ae,dI,gW] 23 3 (.call 155 [fu,fC] 26 4 (.call 147 [dD,cu,ae,gW,ib,jE,jF,l8,jG] 30 3 (.ite (.bin .neq .u8 (.var kB 32) ae) (.ite j6 qy iY) (.ite j6 (.ite dH (.leaf (.agg [jJ,mR,jN])) qz) qz)))))) (.call 210 [eX,eO,eQ,eT,(.bin .add .i64 lM ai),dI,gW] 19 3 (.call 155 [eU,gN] 22 4 (.call 147 [dD,cu,ae,gW,ib,fo,fu,fC,jC] 26 3 (.ite oD (.ite jr qy iY) (.ite jr (.ite dH (.leaf (.agg [kz,(.int .u64 jF),jN])) oF) oF))))))))))))))))
theorem at1:De (wP TA NZ ZZ) mE 3000 94 (ww PK.a (wm 0 (vD PK.a))) (vD PK.a).length=aa9:=by kernel_rfl
def PL:List Int→List Int:=vU (vP TA NZ ZZ) PK aa9
theorem at5:AQ Tryz.prog gG ⟨94,PK,PL⟩:=FV LW GZ 3000 (by kernel_rfl) at1 (by kernel_rfl)
def PM:Ct:=⟨[.sc kB,.agg [kU,kU],.agg [kU,kU]],[.sc kB,.sc kB]⟩
def aba:vo SV :=
 (.ite dF qA (.call 14 iH 5 1 (.ite ik (.call 15 iH 6 1 (.ite iJ qB (.call 15 jb 7 1 qC))) (.call 14 jb 6 1 (.ite iJ (.call 15 iH 7 1 (.ite fV qB (.call 15 jb 8 1 qD))) qI)))))
theorem at6:De (wP TA NZ ZZ) mE 3000 106 (ww PM.a (wm 0 (vD PM.a))) (vD PM.a).length=aba:=by kernel_rfl
def PN:List Int→List Int:=vU (vP TA NZ ZZ) PM aba
theorem at7:AQ Tryz.prog gG ⟨106,PM,PN⟩:=FV LW GZ 3000 (by kernel_rfl) at6 (by kernel_rfl)
def PO:Ct:=⟨[.sc kB,.agg [kU,kU],.agg [kU,kU]],[.sc kB,.sc kB]⟩
def abb:vo SV :=
 (.ite dF qA (.call 14 iH 5 1 (.ite ik (.call 14 iH 6 1 (.ite iJ qB (.call 14 jb 7 1 qC))) (.call 14 jb 6 1 (.ite iJ (.call 14 iH 7 1 (.ite fV qB (.call 14 jb 8 1 qD))) qI)))))
theorem aua:De (wP TA NZ ZZ) mE 3000 108 (ww PO.a (wm 0 (vD PO.a))) (vD PO.a).length=abb:=by kernel_rfl
def PP:List Int→List Int:=vU (vP TA NZ ZZ) PO abb
theorem aub:AQ Tryz.prog gG ⟨108,PO,PP⟩:=FV LW GZ 3000 (by kernel_rfl) aua (by kernel_rfl)
def PQ:Ct:=⟨[.sc kB,.agg [kU,kU]],[.sc .bool]⟩
def abd:vo SV :=
 (.ite dE (.call 35 iH 3 2 (.leaf (.bool (.and (.bin .eql .u64 ay ag) (.and (.bin .eql .u64 aC az) ai))))) av)
theorem auc:De (wP TA NZ ZZ) mE 3000 16 (ww PQ.a (wm 0 (vD PQ.a))) (vD PQ.a).length=abd:=by kernel_rfl
def Ki:List Int→List Int:=vU (vP TA NZ ZZ) PQ abd
theorem aud:AQ Tryz.prog gG ⟨16,PQ,Ki⟩:=FV LW GZ 3000 (by kernel_rfl) auc (by kernel_rfl)
def TB:List wO:=⟨103,Pz,PD⟩::⟨47,PE,PG⟩::⟨101,PH,PI⟩::⟨94,PK,PL⟩::⟨106,PM,PN⟩::⟨108,PO,PP⟩::⟨16,PQ,Ki⟩::TA
theorem ahm:∀ e∈TB,AQ Tryz.prog gG e:=List.forall_mem_cons.2 ⟨atW,List.forall_mem_cons.2 ⟨atY,List.forall_mem_cons.2 ⟨at0,List.forall_mem_cons.2 ⟨at5,List.forall_mem_cons.2 ⟨at7,List.forall_mem_cons.2 ⟨aub,List.forall_mem_cons.2 ⟨aud,ahl⟩⟩⟩⟩⟩⟩⟩
theorem Kj:vP TA NZ ZZ 147=yu:=wy (e:=⟨147,_,yu⟩) rfl rfl rfl
theorem PR:vP TA NZ ZZ 139=yA:=wy (e:=⟨139,_,yA⟩) rfl rfl rfl
theorem LX:vP TA NZ ZZ 150=yT:=wy (e:=⟨150,_,yT⟩) rfl rfl rfl
theorem abe:vP TA NZ ZZ 214=BO:=wy (e:=⟨214,_,BO⟩) rfl rfl rfl
theorem PS:vP TA NZ ZZ 210=Du:=wy (e:=⟨210,_,Du⟩) rfl rfl rfl
theorem Vw:vP TA NZ ZZ 159=EI:=wy (e:=⟨159,_,EI⟩) rfl rfl rfl
theorem aue:vP TA NZ ZZ 1000140=FW:=JA (e:=⟨140,_,FW⟩) rfl
theorem Vx:vP TA NZ ZZ 35=Dt:=wy (e:=⟨35,_,Dt⟩) rfl rfl rfl
theorem auf:vP TA NZ ZZ 53=Cj:=wy (e:=⟨53,_,Cj⟩) rfl rfl rfl
theorem ahn:vP TA NZ ZZ 155=Fv:=wy (e:=⟨155,_,Fv⟩) rfl rfl rfl
theorem LY:vP TA NZ ZZ 14=yR:=wy (e:=⟨14,_,yR⟩) rfl rfl rfl
theorem Vy:vP TA NZ ZZ 15=zH:=wy (e:=⟨15,_,zH⟩) rfl rfl rfl
theorem aho:vP TA NZ ZZ 244=GJ:=wy (e:=⟨244,_,GJ⟩) rfl rfl rfl
end Go.Proofs.YtemomocmfggiaaaGreatDoor
