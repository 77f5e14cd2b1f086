import Derived.Test.YtbembkamcdlhbaaGreatDoorWBSb
import Derived.Test.YtbembkamcdlhbaaGreatDoorWESb
import Derived.Test.YtbembkamcdlhbaaGreatDoorH1Sb
import Derived.Test.YtbembkamcdlhbaaGreatDoorK1Sb
set_option linter.unusedSimpArgs false
set_option linter.unusedVariables false
set_option maxRecDepth 100000
namespace Go.Proofs.YtbembkamcdlhbaaGreatDoor
def K9:List rZ:=⟨310,Cn,NM⟩::zz
theorem akS:∀ e∈K9,rD Tryz.prog gG e:=List.forall_mem_cons.2 ⟨akO,Ld⟩
open Go.RowKit
theorem akT:uY (r9 K9 M0 S1) eE:=Af akS BV Bn (by kernel_rfl)
def Co:Ct:=⟨[.sc kB,.agg [kU,kU],.agg [kU,kU]],[.agg [kU,kU,kB]]⟩
noncomputable def zb:qZ SV:=rU (r9 K9 M0 S1) 3000 170 (rH Co.a (rG 0 (q9 Co.a))) (q9 Co.a).length
def aaA:qZ SV :=
 iQ
theorem akU:zb.th=aaA:=by kernel_rfl
def aaB:qZ SV :=
 (.call 2000126 [dE,ae,ag,az,ay,aC] 16 4 (.ite jF (.leaf (.agg [iI,(.int .u64 eG),(.int .u8 (.var kB 18))])) (.ite dL nk (.ite ku nk (.ite ny nk (.ite nA (.call 230 [dZ,ed] 20 4 (.call 234 nC 24 1 (.ite (.bin .gtr .i64 (.var kI 24) ae) (.call 230 [eB,eQ] 25 4 (.call 230 [eB,eQ] 29 4 (.call 235 [jm,jq,jr,lJ,jv,jy,lN,lQ] 33 5 (.call 236 [lS,mf,lY,lU,gJ,eT,eX,eZ] 38 5 (.call 202 [(.var kU 38),mi,mJ,mK] 43 1 (.call 204 [dE,cz,ae,(.not (.beq gZ (.not (.var .bool 43)))),nD,(.var kU 38),mi,mJ,mK] 44 3 (.ite (.bin .neq .u8 (.var kB 46) ae) iQ (.leaf (.agg [mM,mO,gU]))))))))) (.call 204 [dE,cz,ae,nE,nD,gJ,eT,eX,eZ] 25 3 (.ite (.bin .neq .u8 (.var kB 27) ae) iQ (.leaf (.agg [(.int .u64 jm),jW,gU]))))))) (.call 309 nC 20 3 (.ite (.not (.var .bool 22)) (.ite nH (.call 310 [gJ,eT,nG,eB,eQ] 23 4 nL) (.call 309 [eB,eQ,gJ,eT] 23 3 (.call 234 [gJ,eT,eZ,fq] 26 1 (.ite nM nQ (.ite nR nQ (.call 230 [gJ,eT] 27 4 nS)))))) (.ite nH (.call 310 [dZ,ed,nG,eB,eQ] 23 4 nL) (.call 309 [eB,eQ,dZ,ed] 23 3 (.call 234 [dZ,ed,eZ,fq] 26 1 (.ite nM nQ (.ite nR nT nT)))))))))))))
theorem akV:zb.el.nx.nx.nx.th=aaB:=by kernel_rfl
def aaC:qZ SV :=
 (.call 2000126 [dE,ae,ag,az,ay,aC] 17 4 ow)
theorem akW:zb.el.nx.nx.nx.el.nx.th=aaC:=by kernel_rfl
def aaD:qZ SV :=
 (.call 2000126 [dE,ai,ag,az,ay,aC] 17 4 (.ite ja lC ou))
theorem akX:zb.el.nx.nx.nx.el.nx.el.th=aaD:=by kernel_rfl
def aaE:qZ SV :=
 (.call 2000126 [dE,(.bin .eql .u8 (.var kB 11) ae),ag,az,ay,aC] 17 4 ow)
theorem akY:zb.el.nx.nx.nx.el.nx.el.el=aaE:=by kernel_rfl
def SN:qZ SV :=
 (.ite dG aaA (.call 125 iB 5 5 (.call 125 iU 10 5 (.call 31 iB 15 1 (.ite kK aaB (.call 31 iU 16 1 (.ite kM aaC (.ite dP aaD aaE))))))))
theorem akZ:rU (r9 K9 M0 S1) 3000 170 (rH Co.a (rG 0 (q9 Co.a))) (q9 Co.a).length=SN:=(show zb=SN from(NS (T:=zb) (c:=(.not (.bin .lss .i64 (.var kB 0) (.lit 4)))) (by kernel_rfl) akU (NT (T:=zb.el) (q:=(125,[(.var kB 0),(.var kU 1),(.var kU 2)],5,5)) (by kernel_rfl) (NT (T:=zb.el.nx) (q:=(125,[(.var kB 0),(.var kU 3),(.var kU 4)],10,5)) (by kernel_rfl) (NT (T:=zb.el.nx.nx) (q:=(31,[(.var kB 0),(.var kU 1),(.var kU 2)],15,1)) (by kernel_rfl) (NS (T:=zb.el.nx.nx.nx) (c:=(.var .bool 15)) (by kernel_rfl) akV (NT (T:=zb.el.nx.nx.nx.el) (q:=(31,[(.var kB 0),(.var kU 3),(.var kU 4)],16,1)) (by kernel_rfl) (NS (T:=zb.el.nx.nx.nx.el.nx) (c:=(.var .bool 16)) (by kernel_rfl) akW (NS (T:=zb.el.nx.nx.nx.el.nx.el) (c:=(.bin .eql .u8 (.var kB 6) (.lit 3))) (by kernel_rfl) akX akY)))))))))
def aaF:List Int→List Int:=rE (tV K9 M0 S1) Co SN
theorem aaG:rD Tryz.prog gG ⟨170,Co,aaF⟩:=AZ akT 3000 akZ (by kernel_rfl)
end Go.Proofs.YtbembkamcdlhbaaGreatDoor
