import Derived.Test.YtbembkamcdlhbaaGreatDoorWBSb
import Derived.Test.YtbembkamcdlhbaaGreatDoorWESb
import Derived.Test.YtbembkamcdlhbaaGreatDoorH1Sb
import Derived.Test.YtbembkamcdlhbaaGreatDoorK1Sb
set_option linter.unusedSimpArgs false
set_option linter.unusedVariables false
set_option maxRecDepth 100000
namespace Go.Proofs.YtbembkamcdlhbaaGreatDoor
def La:List sj:=⟨310,Cw,NQ⟩::zF
theorem alA:∀ e∈La,rG Tryz.prog gG e:=List.forall_mem_cons.2 ⟨alv,Le⟩
open Go.RowKit
theorem alB:vC (su La M0 S1) eE:=Ak alA Cf Bw (by kernel_rfl)
def Cy:Ct:=⟨[.sc kB,.agg [kU,kU],.agg [kU,kU]],[.agg [kU,kU,kB]]⟩
noncomputable def zi:rf SV:=rY (su La M0 S1) 3000 170 (rO Cy.a (rM 0 (ru Cy.a))) (ru Cy.a).length
def aaH:rf SV :=
 iT
theorem alC:zi.th=aaH:=by kernel_rfl
def aaI:rf SV :=
 (.call 2000126 [dE,ae,ag,az,ay,aC] 16 4 (.ite jH (.leaf (.agg [iK,(.int .u64 eG),(.int .u8 (.var kB 18))])) (.ite dL nA (.ite kw nA (.ite nD nA (.ite nE (.call 230 [dZ,ed] 20 4 (.call 234 nG 24 1 (.ite (.bin .gtr .i64 (.var kI 24) ae) (.call 230 [eB,eU] 25 4 (.call 230 [eB,eU] 29 4 (.call 235 [jq,jv,jw,lQ,jy,jB,lU,lV] 33 5 (.call 236 [lW,mi,l6,lX,gL,eX,eZ,fq] 38 5 (.call 202 [(.var kU 38),mr,mO,mP] 43 1 (.call 204 [dE,cz,ae,(.not (.beq ic (.not (.var .bool 43)))),nH,(.var kU 38),mr,mO,mP] 44 3 (.ite (.bin .neq .u8 (.var kB 46) ae) iT (.leaf (.agg [mQ,mR,gW]))))))))) (.call 204 [dE,cz,ae,nI,nH,gL,eX,eZ,fq] 25 3 (.ite (.bin .neq .u8 (.var kB 27) ae) iT (.leaf (.agg [(.int .u64 jq),jY,gW]))))))) (.call 309 nG 20 3 (.ite (.not (.var .bool 22)) (.ite nK (.call 310 [gL,eX,nJ,eB,eU] 23 4 nP) (.call 309 [eB,eU,gL,eX] 23 3 (.call 234 [gL,eX,fq,fw] 26 1 (.ite nQ nT (.ite nU nT (.call 230 [gL,eX] 27 4 nV)))))) (.ite nK (.call 310 [dZ,ed,nJ,eB,eU] 23 4 nP) (.call 309 [eB,eU,dZ,ed] 23 3 (.call 234 [dZ,ed,fq,fw] 26 1 (.ite nQ nT (.ite nU nX nX)))))))))))))
theorem alD:zi.el.nx.nx.nx.th=aaI:=by kernel_rfl
def aaJ:rf SV :=
 (.call 2000126 [dE,ae,ag,az,ay,aC] 17 4 oD)
theorem alE:zi.el.nx.nx.nx.el.nx.th=aaJ:=by kernel_rfl
def aaK:rf SV :=
 (.call 2000126 [dE,ai,ag,az,ay,aC] 17 4 (.ite jc lH oC))
theorem alF:zi.el.nx.nx.nx.el.nx.el.th=aaK:=by kernel_rfl
def aaL:rf SV :=
 (.call 2000126 [dE,(.bin .eql .u8 (.var kB 11) ae),ag,az,ay,aC] 17 4 oD)
theorem alG:zi.el.nx.nx.nx.el.nx.el.el=aaL:=by kernel_rfl
def SX:rf SV :=
 (.ite dG aaH (.call 125 iD 5 5 (.call 125 iW 10 5 (.call 31 iD 15 1 (.ite kM aaI (.call 31 iW 16 1 (.ite kP aaJ (.ite dP aaK aaL))))))))
theorem alH:rY (su La M0 S1) 3000 170 (rO Cy.a (rM 0 (ru Cy.a))) (ru Cy.a).length=SX:=(show zi=SX from(NV (T:=zi) (c:=(.not (.bin .lss .i64 (.var kB 0) (.lit 4)))) (by kernel_rfl) alC (NW (T:=zi.el) (q:=(125,[(.var kB 0),(.var kU 1),(.var kU 2)],5,5)) (by kernel_rfl) (NW (T:=zi.el.nx) (q:=(125,[(.var kB 0),(.var kU 3),(.var kU 4)],10,5)) (by kernel_rfl) (NW (T:=zi.el.nx.nx) (q:=(31,[(.var kB 0),(.var kU 1),(.var kU 2)],15,1)) (by kernel_rfl) (NV (T:=zi.el.nx.nx.nx) (c:=(.var .bool 15)) (by kernel_rfl) alD (NW (T:=zi.el.nx.nx.nx.el) (q:=(31,[(.var kB 0),(.var kU 3),(.var kU 4)],16,1)) (by kernel_rfl) (NV (T:=zi.el.nx.nx.nx.el.nx) (c:=(.var .bool 16)) (by kernel_rfl) alE (NV (T:=zi.el.nx.nx.nx.el.nx.el) (c:=(.bin .eql .u8 (.var kB 6) (.lit 3))) (by kernel_rfl) alF alG)))))))))
def aaM:List Int→List Int:=rH (uf La M0 S1) Cy SX
theorem aaN:rG Tryz.prog gG ⟨170,Cy,aaM⟩:=Bg alB 3000 alH (by kernel_rfl)
end Go.Proofs.YtbembkamcdlhbaaGreatDoor
