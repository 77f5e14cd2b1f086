import Derived.Test.YtemomocmfggiaaaGreatDoorH1U6
import Derived.Test.YtemomocmfggiaaaGreatDoorK1U6
import Derived.Test.YtemomocmfggiaaaGreatDoorSxTU6
set_option linter.unusedSimpArgs false
set_option linter.unusedVariables false
set_option maxRecDepth 100000
namespace Go.Proofs.YtemomocmfggiaaaGreatDoor
open Go.RowKit
theorem ae6:Aw (wP DD M0 S1) eE:=Im RO Io IW (by kernel_rfl)
def Lx:Ct:=⟨[.agg [kU,kU,kU,kU],.agg [kU,kU,kU,kU]],[.sc kI]⟩
def Z8:vo SV :=
 (.call 241 fM 8 2 (.call 241 dY 10 2 (.call 159 [dZ,ed,eD,eF] 12 1 (.ite (.bin .neq .i64 kH ae) (.leaf (.int .i64 kH)) (.call 249 fM 13 2 (.call 249 dY 15 2 (.call 159 [eG,eY,eX,eO] 17 1 (.leaf (.int .i64 (.var kI 17))))))))))
theorem apP:wM (wP DD M0 S1) 3000 221 (ww Lx.a (wm 0 (vD Lx.a))) (vD Lx.a).length=Z8:=by kernel_rfl
def LA:List Int→List Int:=vU (vP DD M0 S1) Lx Z8
theorem ae7:wh Tryz.prog gG ⟨221,Lx,LA⟩:=Gh ae6 3000 apP (by kernel_rfl)
def OU:Ct:=⟨[.agg [kI,kU,kU,kU,kU],.agg [kI,kU,kU,kU,kU]],[.sc kI]⟩
def Z9:vo SV :=
 (.call 166 lu 10 1 (.ite gq (.call 166 lv 11 1 (.ite (.not kT) (.leaf (.int .i64 lw)) (.call 166 lv 12 1 (.ite jT (.call 166 lu 13 1 (.ite (.not kW) (.leaf (.int .i64 lC)) lD)) lD)))) (.call 166 lv 11 1 (.ite kT (.call 166 lu 12 1 (.ite (.not jT) (.leaf (.int .i64 lC)) lD)) lD))))
theorem apQ:wM (wP DD M0 S1) 3000 265 (ww OU.a (wm 0 (vD OU.a))) (vD OU.a).length=Z9:=by kernel_rfl
def JV:List Int→List Int:=vU (vP DD M0 S1) OU Z9
theorem apR:wh Tryz.prog gG ⟨265,OU,JV⟩:=Gh ae6 3000 apQ (by kernel_rfl)
def Eh:List wO:=⟨221,Lx,LA⟩::⟨265,OU,JV⟩::DD
theorem ae8:∀ e∈Eh,wh Tryz.prog gG e:=List.forall_mem_cons.2 ⟨ae7,List.forall_mem_cons.2 ⟨apR,RO⟩⟩
theorem ae9:vP DD M0 S1 241=Gr:=wy (e:=⟨241,_,Gr⟩) rfl rfl rfl
theorem afa:vP DD M0 S1 159=EI:=wy (e:=⟨159,_,EI⟩) rfl rfl rfl
theorem afb:vP DD M0 S1 249=Gs:=wy (e:=⟨249,_,Gs⟩) rfl rfl rfl
theorem OV:vP DD M0 S1 166=CU:=wy (e:=⟨166,_,CU⟩) rfl rfl rfl
open Go.RowKit
theorem afc:Aw (wP Eh M0 S1) eE:=Im ae8 Io IW (by kernel_rfl)
def OW:Ct:=⟨[.agg [kI,kU,kU,kU,kU],.agg [kI,kU,kU,kU,kU]],[.sc kI]⟩
def aaa:vo SV :=
 (.call 153 lF 10 4 (.call 256 lF 14 1 (.call 153 lG 15 4 (.call 256 lG 19 1 (.call 221 [eD,eF,eH,eG,eX,eO,eQ,eT] 20 1 (.ite (.bin .eql .i64 (.var kI 20) ae) (.ite iN lH (.ite jO (.leaf (.int .i64 dL)) lI)) lI))))))
theorem apS:wM (wP Eh M0 S1) 3000 244 (ww OW.a (wm 0 (vD OW.a))) (vD OW.a).length=aaa:=by kernel_rfl
def GJ:List Int→List Int:=vU (vP Eh M0 S1) OW aaa
theorem apT:wh Tryz.prog gG ⟨244,OW,GJ⟩:=Gh afc 3000 apS (by kernel_rfl)
def OX:Ct:=⟨[.agg [kI,kU,kU,kU,kU],.agg [kI,kU,kU,kU,kU]],[.agg [kI,kU,kU,kU,kU]]⟩
def aab:vo SV :=
 (.call 265 lJ 10 1 (.call 214 [ag,az,ay,aC,(.bin .sub .i64 lK lC)] 11 4 (.call 214 [aA,dX,dZ,ed,(.bin .sub .i64 lK lw)] 15 4 (.call 160 [eF,eH,eG,eY,eX,eO,eQ,eT] 19 5 (.leaf (.agg [(.int .i64 lK),gM,gP,fe,fq]))))))
theorem apU:wM (wP Eh M0 S1) 3000 200 (ww OX.a (wm 0 (vD OX.a))) (vD OX.a).length=aab:=by kernel_rfl
def OY:List Int→List Int:=vU (vP Eh M0 S1) OX aab
theorem apV:wh Tryz.prog gG ⟨200,OX,OY⟩:=Gh afc 3000 apU (by kernel_rfl)
def II:List wO:=⟨244,OW,GJ⟩::⟨200,OX,OY⟩::Eh
theorem afd:∀ e∈II,wh Tryz.prog gG e:=List.forall_mem_cons.2 ⟨apT,List.forall_mem_cons.2 ⟨apV,ae8⟩⟩
theorem afe:vP Eh M0 S1 153=Ci:=wy (e:=⟨153,_,Ci⟩) rfl rfl rfl
theorem aff:vP Eh M0 S1 256=Iu:=wy (e:=⟨256,_,Iu⟩) rfl rfl rfl
theorem apW:vP Eh M0 S1 221=LA:=wy (e:=⟨221,_,LA⟩) rfl rfl rfl
theorem apX:vP Eh M0 S1 265=JV:=wy (e:=⟨265,_,JV⟩) rfl rfl rfl
theorem afg:vP Eh M0 S1 214=BO:=wy (e:=⟨214,_,BO⟩) rfl rfl rfl
theorem apY:vP Eh M0 S1 160=EF:=wy (e:=⟨160,_,EF⟩) rfl rfl rfl
open Go.RowKit
theorem apZ:Aw (wP II M0 S1) eE:=Im afd Io IW (by kernel_rfl)
def OZ:Ct:=⟨[.agg [kI,kU,kU,kU,kU],.agg [kI,kU,kU,kU,kU]],[.agg [kI,kU,kU,kU,kU],.sc .bool]⟩
def aac:vo SV :=
 (.call 244 lJ 10 1 (.ite lL (.call 265 [gF,aA,dX,dZ,ed,(.var kI 0),ag,az,ay,aC] 11 1 (.call 214 lQ 12 4 (.call 214 lS 16 4 lT))) (.call 265 lJ 11 1 (.call 214 lS 12 4 (.call 214 lQ 16 4 lT)))))
theorem ap0:wM (wP II M0 S1) 3000 202 (ww OZ.a (wm 0 (vD OZ.a))) (vD OZ.a).length=aac:=by kernel_rfl
def O0:List Int→List Int:=vU (vP II M0 S1) OZ aac
theorem ap1:wh Tryz.prog gG ⟨202,OZ,O0⟩:=Gh apZ 3000 ap0 (by kernel_rfl)
def BA:List wO:=⟨202,OZ,O0⟩::II
theorem afh:∀ e∈BA,wh Tryz.prog gG e:=List.forall_mem_cons.2 ⟨ap1,afd⟩
theorem ap2:vP II M0 S1 244=GJ:=wy (e:=⟨244,_,GJ⟩) rfl rfl rfl
theorem afi:vP II M0 S1 265=JV:=wy (e:=⟨265,_,JV⟩) rfl rfl rfl
theorem UE:vP II M0 S1 214=BO:=wy (e:=⟨214,_,BO⟩) rfl rfl rfl
theorem afj:vP II M0 S1 161=Gn:=wy (e:=⟨161,_,Gn⟩) rfl rfl rfl
open Go.RowKit
theorem afk:Aw (wP BA M0 S1) eE:=Im afh Io IW (by kernel_rfl)
def O1:Ct:=⟨[.sc kB,.agg [kB,.bool],.agg [kU,kU],.agg [kU,kU]],[.agg [kU,kU,kB]]⟩
def aad:vo SV :=
 (.ite dF iY (.ite iZ iY (.call 139 jb 7 5 (.call 139 jR 12 5 (.ite ku (.ite kv (.call 2000140 [dD,kw,ay,aC,dU,aA] 17 4 lV) (.call 2000140 lW 17 4 lV)) (.call 2000140 lW 17 4 (.ite jh lU (.ite kv (.call 141 [dD,jT] 21 2 j4) (.ite kw (.call 150 lZ 21 4 (.call 150 l7 25 4 (.call 202 l9 29 6 (.call 166 [jI,ma,mf,mg] 35 1 (.ite (.var .bool 35) (.call 147 [dD,dI,dH,dM,(.var kI 29),jI,ma,mf,mg] 36 3 mq) (.call 147 [dD,dI,dH,(.not (.beq fV (.var .bool 34))),(.var kI 29),jI,ma,mf,mg] 36 3 mq)))))) (.call 150 lZ 21 4 (.call 150 l7 25 4 (.call 200 l9 29 5 (.call 166 [jI,ma,mf,mg] 34 1 (.ite (.var .bool 34) mF mF))))))))))))))
theorem ap3:wM (wP BA M0 S1) 3000 80 (ww O1.a (wm 0 (vD O1.a))) (vD O1.a).length=aad:=by kernel_rfl
def JW:List Int→List Int:=vU (vP BA M0 S1) O1 aad
theorem ap4:wh Tryz.prog gG ⟨80,O1,JW⟩:=Gh afk 3000 ap3 (by kernel_rfl)
def O3:Ct:=⟨[.sc kB,.agg [kB,.bool],.agg [kU,kU],.agg [kU,kU],.agg [kU,kU]],[.agg [kU,kU,kB]]⟩
def aae:vo SV :=
 (.ite dF iY (.ite iZ iY (.call 139 [dD,dX,dZ] 9 5 (.call 139 jb 14 5 (.call 139 jR 19 5 (.call 146 mG 24 5 (.ite (.bin .eql .u8 (.var kB 15) bM) (.call 144 mG 29 1 mY) (.call 144 mG 29 1 (.ite (.bin .eql .u8 (.var kB 20) bM) mY (.ite (.var .bool 29) (.call 3000140 mX 30 4 nC) (.call 3000140 mJ 30 4 nC)))))))))))
theorem ap5:wM (wP BA M0 S1) 3000 90 (ww O3.a (wm 0 (vD O3.a))) (vD O3.a).length=aae:=by kernel_rfl
def O4:List Int→List Int:=vU (vP BA M0 S1) O3 aae
theorem ap6:wh Tryz.prog gG ⟨90,O3,O4⟩:=Gh afk 3000 ap5 (by kernel_rfl)
def JY:List wO:=⟨80,O1,JW⟩::⟨90,O3,O4⟩::BA
theorem afl:∀ e∈JY,wh Tryz.prog gG e:=List.forall_mem_cons.2 ⟨ap4,List.forall_mem_cons.2 ⟨ap6,afh⟩⟩
theorem Rv:vP BA M0 S1 139=yA:=wy (e:=⟨139,_,yA⟩) rfl rfl rfl
theorem aaf:vP BA M0 S1 2000140=DF:=JA (e:=⟨140,_,DF⟩) rfl
theorem Ei:vP BA M0 S1 141=AR:=wy (e:=⟨141,_,AR⟩) rfl rfl rfl
theorem JZ:vP BA M0 S1 150=yT:=wy (e:=⟨150,_,yT⟩) rfl rfl rfl
theorem aag:vP BA M0 S1 202=O0:=wy (e:=⟨202,_,O0⟩) rfl rfl rfl
theorem O5:vP BA M0 S1 166=CU:=wy (e:=⟨166,_,CU⟩) rfl rfl rfl
theorem EP:vP BA M0 S1 147=yu:=wy (e:=⟨147,_,yu⟩) rfl rfl rfl
theorem aah:vP BA M0 S1 200=OY:=wy (e:=⟨200,_,OY⟩) rfl rfl rfl
theorem ap7:vP BA M0 S1 146=Iy:=wy (e:=⟨146,_,Iy⟩) rfl rfl rfl
theorem afm:vP BA M0 S1 144=Iq:=wy (e:=⟨144,_,Iq⟩) rfl rfl rfl
theorem EQ:vP BA M0 S1 3000140=Kc:=JA (e:=⟨140,_,Kc⟩) rfl
end Go.Proofs.YtemomocmfggiaaaGreatDoor
