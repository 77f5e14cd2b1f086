import Derived.Test.YtbembkamcdlhbaaGreatDoorZESb
set_option linter.unusedSimpArgs false
set_option linter.unusedVariables false
set_option maxRecDepth 100000
namespace Go.Proofs.YtbembkamcdlhbaaGreatDoor
open Go.RowKit
theorem Te:vC (su E7 M0 S0) eE:=Ak M6 Cf VO (by kernel_rfl)
def Lf:vP:=⟨1000126,[.sc kB,.sc .bool],1,27,[kU,kU],[.agg [kU,kU,kB],.sc .bool]⟩
def aaU:rf SV :=
 (.call 31 j5 4 1 (.ite iZ (.ite dG j4 (.call 194 dQ 5 2 (.call 195 j5 7 2 (.ite dH kz (.call 196 j5 9 1 (.ite gU kz (.leaf (.tup [(.agg [fB,fC,gW]),fV])))))))) (.ite dG j4 (.ite (.not dH) j4 (.call 194 dQ 5 2 (.leaf (.tup [(.agg [dV,aB,iO]),fV])))))))
theorem alW:GN (su E7 M0 S0) 3000 126 Lf=aaU:=by kernel_rfl
def aaV:List Int→List Int:=rH (uf E7 M0 S0) ⟨Lf.a,Lf.r⟩ aaU
theorem alX:Bh Tryz.prog gG ⟨126,Lf,aaV⟩:=QF Te 3000 alW (by kernel_rfl)
def Lg:vP:=⟨2000126,[.sc kB,.sc .bool],2,27,[kU,kU,kU,kU],[.agg [kU,kU,kB],.sc .bool]⟩
def aaW:rf SV :=
 (.call 31 j5 6 1 (.ite iF (.ite dG j4 (.call 194 dQ 7 2 (.call 195 j5 9 2 (.ite dH kC (.call 196 j5 11 1 (.ite kF kC (.call 196 kv 12 1 (.ite jM kC (.leaf (.tup [(.agg [fT,il,gW]),fV])))))))))) (.call 31 kv 7 1 (.ite fQ (.ite dG j4 (.call 194 dQ 8 2 (.call 195 kv 10 2 (.ite dH kG (.call 196 j5 12 1 (.ite jM kG (.call 196 kv 13 1 (.ite kH kG (.leaf (.tup [(.agg [il,fG,gW]),fV])))))))))) (.ite dG j4 (.ite (.not dH) j4 (.call 194 dQ 8 2 (.leaf (.tup [(.agg [fC,fT,iO]),fV])))))))))
theorem alY:GN (su E7 M0 S0) 3000 126 Lg=aaW:=by kernel_rfl
def aaX:List Int→List Int:=rH (uf E7 M0 S0) ⟨Lg.a,Lg.r⟩ aaW
theorem alZ:Bh Tryz.prog gG ⟨126,Lg,aaX⟩:=QF Te 3000 alY (by kernel_rfl)
def Lh:vP:=⟨3000126,[.sc kB,.sc .bool],3,27,[kU,kU,kU,kU,kU,kU],[.agg [kU,kU,kB],.sc .bool]⟩
def aaY:rf SV :=
 (.call 31 j5 8 1 (.ite kJ (.ite dG j4 (.call 194 dQ 9 2 (.call 195 j5 11 2 (.ite dH kK (.call 196 j5 13 1 (.ite kH kK (.call 196 kv 14 1 (.ite iJ kK (.call 196 kL 15 1 (.ite kM kK (.leaf (.tup [(.agg [fG,fH,gW]),fV])))))))))))) (.call 31 kv 9 1 (.ite gU (.ite dG j4 (.call 194 dQ 10 2 (.call 195 kv 12 2 (.ite dH kN (.call 196 j5 14 1 (.ite iJ kN (.call 196 kv 15 1 (.ite kM kN (.call 196 kL 16 1 (.ite kP kN (.leaf (.tup [(.agg [fH,iq,gW]),fV])))))))))))) (.call 31 kL 10 1 (.ite gm (.ite dG j4 (.call 194 dQ 11 2 (.call 195 kL 13 2 (.ite dH kQ (.call 196 j5 15 1 (.ite kM kQ (.call 196 kv 16 1 (.ite kP kQ (.call 196 kL 17 1 (.ite jO kQ (.leaf (.tup [(.agg [iq,gN,gW]),fV])))))))))))) (.ite dG j4 (.ite (.not dH) j4 (.call 194 dQ 11 2 kK)))))))))
theorem al0:GN (su E7 M0 S0) 3000 126 Lh=aaY:=by kernel_rfl
def aaZ:List Int→List Int:=rH (uf E7 M0 S0) ⟨Lh.a,Lh.r⟩ aaY
theorem al1:Bh Tryz.prog gG ⟨126,Lh,aaZ⟩:=QF Te 3000 al0 (by kernel_rfl)
def S1:List uu:=⟨126,Lf,aaV⟩::⟨126,Lg,aaX⟩::⟨126,Lh,aaZ⟩::S0
theorem Bw:∀ e∈S1,Bh Tryz.prog gG e:=List.forall_mem_cons.2 ⟨alX,List.forall_mem_cons.2 ⟨alZ,List.forall_mem_cons.2 ⟨al1,VO⟩⟩⟩
end Go.Proofs.YtbembkamcdlhbaaGreatDoor
