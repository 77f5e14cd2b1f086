import Derived.Test.YtbembkamcdlhbaaGreatDoorWBSb
import Derived.Test.YtbembkamcdlhbaaGreatDoorWESb
import Derived.Test.YtbembkamcdlhbaaGreatDoorH1Sb
import Derived.Test.YtbembkamcdlhbaaGreatDoorK1Sb
set_option linter.unusedSimpArgs false
set_option linter.unusedVariables false
set_option maxRecDepth 100000
namespace Go.Proofs.YtbembkamcdlhbaaGreatDoor
def Ls:List sH:=⟨310,Cz,Oc⟩::zJ
theorem alk:∀ e∈Ls,rQ Tryz.prog gG e:=List.forall_mem_cons.2 ⟨alg,Lx⟩
open Go.RowKit
theorem alm:vG (sI Ls M0 S1) eE:=Ap alk Ch BA (by kernel_rfl)
def CB:Ct:=⟨[.sc kB,.agg [kU,kU],.agg [kU,kU]],[.agg [kU,kU,kB]]⟩
noncomputable def zn:ru SV:=sw (sI Ls M0 S1) 3000 170 (rV CB.a (rU 0 (rE CB.a))) (rE CB.a).length
def aa0:ru SV :=
 iR
theorem aln:zn.th=aa0:=by kernel_rfl
def aa1:ru SV :=
 (.call 2000126 [dE,ae,ag,az,ay,aC] 16 4 (.ite jG (.leaf (.agg [iJ,(.int .u64 eH),(.int .u8 (.var kB 18))])) (.ite dL nC (.ite kv nC (.ite nE nC (.ite nG (.call 230 [dZ,ek] 20 4 (.call 234 nH 24 1 (.ite (.bin .gtr .i64 (.var kI 24) ae) (.call 230 [eD,eT] 25 4 (.call 230 [eD,eT] 29 4 (.call 235 [jo,jr,jv,lS,jw,jA,lV,lW] 33 5 (.call 236 [lX,mo,l7,lY,gK,eU,eY,fe] 38 5 (.call 202 [(.var kU 38),mD,mP,mQ] 43 1 (.call 204 [dE,cz,ae,(.not (.beq ib (.not (.var .bool 43)))),nI,(.var kU 38),mD,mP,mQ] 44 3 (.ite (.bin .neq .u8 (.var kB 46) ae) iR (.leaf (.agg [mR,mU,gV]))))))))) (.call 204 [dE,cz,ae,nJ,nI,gK,eU,eY,fe] 25 3 (.ite (.bin .neq .u8 (.var kB 27) ae) iR (.leaf (.agg [(.int .u64 jo),jX,gV]))))))) (.call 309 nH 20 3 (.ite (.not (.var .bool 22)) (.ite nL (.call 310 [gK,eU,nK,eD,eT] 23 4 nQ) (.call 309 [eD,eT,gK,eU] 23 3 (.call 234 [gK,eU,fe,fu] 26 1 (.ite nR nU (.ite nV nU (.call 230 [gK,eU] 27 4 nX)))))) (.ite nL (.call 310 [dZ,ek,nK,eD,eT] 23 4 nQ) (.call 309 [eD,eT,dZ,ek] 23 3 (.call 234 [dZ,ek,fe,fu] 26 1 (.ite nR nU (.ite nV nY nY)))))))))))))
theorem alo:zn.el.nx.nx.nx.th=aa1:=by kernel_rfl
def aa2:ru SV :=
 (.call 2000126 [dE,ae,ag,az,ay,aC] 17 4 oF)
theorem alp:zn.el.nx.nx.nx.el.nx.th=aa2:=by kernel_rfl
def aa3:ru SV :=
 (.call 2000126 [dE,ai,ag,az,ay,aC] 17 4 (.ite jb lI oD))
theorem alq:zn.el.nx.nx.nx.el.nx.el.th=aa3:=by kernel_rfl
def aa4:ru SV :=
 (.call 2000126 [dE,(.bin .eql .u8 (.var kB 11) ae),ag,az,ay,aC] 17 4 oF)
theorem alr:zn.el.nx.nx.nx.el.nx.el.el=aa4:=by kernel_rfl
def Tp:ru SV :=
 (.ite dG aa0 (.call 125 iC 5 5 (.call 125 iV 10 5 (.call 31 iC 15 1 (.ite kL aa1 (.call 31 iV 16 1 (.ite kN aa2 (.ite dP aa3 aa4))))))))
theorem als:sw (sI Ls M0 S1) 3000 170 (rV CB.a (rU 0 (rE CB.a))) (rE CB.a).length=Tp:=(show zn=Tp from(Oi (T:=zn) (c:=(.not (.bin .lss .i64 (.var kB 0) (.lit 4)))) (by kernel_rfl) aln (Oj (T:=zn.el) (q:=(125,[(.var kB 0),(.var kU 1),(.var kU 2)],5,5)) (by kernel_rfl) (Oj (T:=zn.el.nx) (q:=(125,[(.var kB 0),(.var kU 3),(.var kU 4)],10,5)) (by kernel_rfl) (Oj (T:=zn.el.nx.nx) (q:=(31,[(.var kB 0),(.var kU 1),(.var kU 2)],15,1)) (by kernel_rfl) (Oi (T:=zn.el.nx.nx.nx) (c:=(.var .bool 15)) (by kernel_rfl) alo (Oj (T:=zn.el.nx.nx.nx.el) (q:=(31,[(.var kB 0),(.var kU 3),(.var kU 4)],16,1)) (by kernel_rfl) (Oi (T:=zn.el.nx.nx.nx.el.nx) (c:=(.var .bool 16)) (by kernel_rfl) alp (Oi (T:=zn.el.nx.nx.nx.el.nx.el) (c:=(.bin .eql .u8 (.var kB 6) (.lit 3))) (by kernel_rfl) alq alr)))))))))
def aa5:List Int→List Int:=rR (uk Ls M0 S1) CB Tp
theorem aa6:rQ Tryz.prog gG ⟨170,CB,aa5⟩:=Bi alm 3000 als (by kernel_rfl)
end Go.Proofs.YtbembkamcdlhbaaGreatDoor
