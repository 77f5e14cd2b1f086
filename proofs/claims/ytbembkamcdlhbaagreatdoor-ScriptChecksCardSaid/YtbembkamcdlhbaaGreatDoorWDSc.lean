import Derived.Test.YtbembkamcdlhbaaGreatDoorWBSc
import Derived.Test.YtbembkamcdlhbaaGreatDoorWESc
import Derived.Test.YtbembkamcdlhbaaGreatDoorH1Sc
import Derived.Test.YtbembkamcdlhbaaGreatDoorK1Sc
set_option linter.unusedSimpArgs false
set_option linter.unusedVariables false
set_option maxRecDepth 100000
namespace Go.Proofs.YtbembkamcdlhbaaGreatDoor
def LK:List si:=⟨310,CU,Oq⟩::zP
theorem alC:∀ e∈LK,rF Tryz.prog gG e:=List.forall_mem_cons.2 ⟨aly,LV⟩
open Go.RowKit
theorem alD:vF (sj LK M0 S1) eE:=Az alC Cv BM (by kernel_rfl)
def CV:Ct:=⟨[.sc kB,.agg [kU,kU],.agg [kU,kU]],[.agg [kU,kU,kB]]⟩
noncomputable def zy:rf SV:=rX (sj LK M0 S1) 3000 170 (rM CV.a (rJ 0 (rq CV.a))) (rq CV.a).length
def aa9:rf SV :=
 iQ
theorem alE:zy.th=aa9:=by kernel_rfl
def aba:rf SV :=
 (.call 2000126 [dE,ae,ag,az,ay,aC] 16 4 (.ite jF (.leaf (.agg [iI,(.int .u64 eG),(.int .u8 (.var kB 18))])) (.ite dL nk (.ite ku nk (.ite ny nk (.ite nA (.call 230 [dZ,ed] 20 4 (.call 234 nC 24 1 (.ite (.bin .gtr .i64 (.var kI 24) ae) (.call 230 [eB,eQ] 25 4 (.call 230 [eB,eQ] 29 4 (.call 235 [jm,jq,jr,lJ,jv,jy,lN,lQ] 33 5 (.call 236 [lS,mf,lY,lU,gJ,eT,eX,eZ] 38 5 (.call 202 [(.var kU 38),mi,mJ,mK] 43 1 (.call 204 [dE,cz,ae,(.not (.beq gZ (.not (.var .bool 43)))),nD,(.var kU 38),mi,mJ,mK] 44 3 (.ite (.bin .neq .u8 (.var kB 46) ae) iQ (.leaf (.agg [mM,mO,gU]))))))))) (.call 204 [dE,cz,ae,nE,nD,gJ,eT,eX,eZ] 25 3 (.ite (.bin .neq .u8 (.var kB 27) ae) iQ (.leaf (.agg [(.int .u64 jm),jW,gU]))))))) (.call 309 nC 20 3 (.ite (.not (.var .bool 22)) (.ite nH (.call 310 [gJ,eT,nG,eB,eQ] 23 4 nL) (.call 309 [eB,eQ,gJ,eT] 23 3 (.call 234 [gJ,eT,eZ,fq] 26 1 (.ite nM nQ (.ite nR nQ (.call 230 [gJ,eT] 27 4 nS)))))) (.ite nH (.call 310 [dZ,ed,nG,eB,eQ] 23 4 nL) (.call 309 [eB,eQ,dZ,ed] 23 3 (.call 234 [dZ,ed,eZ,fq] 26 1 (.ite nM nQ (.ite nR nT nT)))))))))))))
theorem alF:zy.el.nx.nx.nx.th=aba:=by kernel_rfl
def abb:rf SV :=
 (.call 2000126 [dE,ae,ag,az,ay,aC] 17 4 ow)
theorem alG:zy.el.nx.nx.nx.el.nx.th=abb:=by kernel_rfl
def abd:rf SV :=
 (.call 2000126 [dE,ai,ag,az,ay,aC] 17 4 (.ite ja lC ou))
theorem alH:zy.el.nx.nx.nx.el.nx.el.th=abd:=by kernel_rfl
def abe:rf SV :=
 (.call 2000126 [dE,(.bin .eql .u8 (.var kB 11) ae),ag,az,ay,aC] 17 4 ow)
theorem alI:zy.el.nx.nx.nx.el.nx.el.el=abe:=by kernel_rfl
def TE:rf SV :=
 (.ite dG aa9 (.call 125 iB 5 5 (.call 125 iU 10 5 (.call 31 iB 15 1 (.ite kK aba (.call 31 iU 16 1 (.ite kM abb (.ite dP abd abe))))))))
theorem alJ:rX (sj LK M0 S1) 3000 170 (rM CV.a (rJ 0 (rq CV.a))) (rq CV.a).length=TE:=(show zy=TE from(Ox (T:=zy) (c:=(.not (.bin .lss .i64 (.var kB 0) (.lit 4)))) (by kernel_rfl) alE (Oy (T:=zy.el) (q:=(125,[(.var kB 0),(.var kU 1),(.var kU 2)],5,5)) (by kernel_rfl) (Oy (T:=zy.el.nx) (q:=(125,[(.var kB 0),(.var kU 3),(.var kU 4)],10,5)) (by kernel_rfl) (Oy (T:=zy.el.nx.nx) (q:=(31,[(.var kB 0),(.var kU 1),(.var kU 2)],15,1)) (by kernel_rfl) (Ox (T:=zy.el.nx.nx.nx) (c:=(.var .bool 15)) (by kernel_rfl) alF (Oy (T:=zy.el.nx.nx.nx.el) (q:=(31,[(.var kB 0),(.var kU 3),(.var kU 4)],16,1)) (by kernel_rfl) (Ox (T:=zy.el.nx.nx.nx.el.nx) (c:=(.var .bool 16)) (by kernel_rfl) alG (Ox (T:=zy.el.nx.nx.nx.el.nx.el) (c:=(.bin .eql .u8 (.var kB 6) (.lit 3))) (by kernel_rfl) alH alI)))))))))
def abf:List Int→List Int:=rG (ug LK M0 S1) CV TE
theorem abg:rF Tryz.prog gG ⟨170,CV,abf⟩:=Bu alD 3000 alJ (by kernel_rfl)
end Go.Proofs.YtbembkamcdlhbaaGreatDoor
