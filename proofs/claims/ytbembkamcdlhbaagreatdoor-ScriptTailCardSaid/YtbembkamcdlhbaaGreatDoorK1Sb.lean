import Derived.Test.YtbembkamcdlhbaaGreatDoorZESb
set_option linter.unusedSimpArgs false
set_option linter.unusedVariables false
set_option maxRecDepth 100000
namespace Go.Proofs.YtbembkamcdlhbaaGreatDoor
open Go.RowKit
theorem Tx:vG (sI E7 M0 S0) eE:=Ap Nq Ch V5 (by kernel_rfl)
def LA:vT:=⟨1000126,[.sc kB,.sc .bool],1,27,[kU,kU],[.agg [kU,kU,kB],.sc .bool]⟩
def abe:ru SV :=
 (.call 31 j4 4 1 (.ite iY (.ite dG jZ (.call 194 dQ 5 2 (.call 195 j4 7 2 (.ite dH ky (.call 196 j4 9 1 (.ite gT ky (.leaf (.tup [(.agg [fA,fB,gV]),fT])))))))) (.ite dG jZ (.ite (.not dH) jZ (.call 194 dQ 5 2 (.leaf (.tup [(.agg [dV,aB,iN]),fT])))))))
theorem alJ:GZ (sI E7 M0 S0) 3000 126 LA=abe:=by kernel_rfl
def abf:List Int→List Int:=rR (uk E7 M0 S0) ⟨LA.a,LA.r⟩ abe
theorem alK:Bj Tryz.prog gG ⟨126,LA,abf⟩:=QT Tx 3000 alJ (by kernel_rfl)
def LB:vT:=⟨2000126,[.sc kB,.sc .bool],2,27,[kU,kU,kU,kU],[.agg [kU,kU,kB],.sc .bool]⟩
def abg:ru SV :=
 (.call 31 j4 6 1 (.ite iE (.ite dG jZ (.call 194 dQ 7 2 (.call 195 j4 9 2 (.ite dH kz (.call 196 j4 11 1 (.ite kC kz (.call 196 ku 12 1 (.ite jL kz (.leaf (.tup [(.agg [fQ,ik,gV]),fT])))))))))) (.call 31 ku 7 1 (.ite fO (.ite dG jZ (.call 194 dQ 8 2 (.call 195 ku 10 2 (.ite dH kF (.call 196 j4 12 1 (.ite jL kF (.call 196 ku 13 1 (.ite kG kF (.leaf (.tup [(.agg [ik,fF,gV]),fT])))))))))) (.ite dG jZ (.ite (.not dH) jZ (.call 194 dQ 8 2 (.leaf (.tup [(.agg [fB,fQ,iN]),fT])))))))))
theorem alL:GZ (sI E7 M0 S0) 3000 126 LB=abg:=by kernel_rfl
def abh:List Int→List Int:=rR (uk E7 M0 S0) ⟨LB.a,LB.r⟩ abg
theorem alM:Bj Tryz.prog gG ⟨126,LB,abh⟩:=QT Tx 3000 alL (by kernel_rfl)
def LC:vT:=⟨3000126,[.sc kB,.sc .bool],3,27,[kU,kU,kU,kU,kU,kU],[.agg [kU,kU,kB],.sc .bool]⟩
def abj:ru SV :=
 (.call 31 j4 8 1 (.ite kH (.ite dG jZ (.call 194 dQ 9 2 (.call 195 j4 11 2 (.ite dH kJ (.call 196 j4 13 1 (.ite kG kJ (.call 196 ku 14 1 (.ite iI kJ (.call 196 kK 15 1 (.ite kL kJ (.leaf (.tup [(.agg [fF,fG,gV]),fT])))))))))))) (.call 31 ku 9 1 (.ite gT (.ite dG jZ (.call 194 dQ 10 2 (.call 195 ku 12 2 (.ite dH kM (.call 196 j4 14 1 (.ite iI kM (.call 196 ku 15 1 (.ite kL kM (.call 196 kK 16 1 (.ite kN kM (.leaf (.tup [(.agg [fG,il,gV]),fT])))))))))))) (.call 31 kK 10 1 (.ite fZ (.ite dG jZ (.call 194 dQ 11 2 (.call 195 kK 13 2 (.ite dH kP (.call 196 j4 15 1 (.ite kL kP (.call 196 ku 16 1 (.ite kN kP (.call 196 kK 17 1 (.ite jN kP (.leaf (.tup [(.agg [il,gM,gV]),fT])))))))))))) (.ite dG jZ (.ite (.not dH) jZ (.call 194 dQ 11 2 kJ)))))))))
theorem alN:GZ (sI E7 M0 S0) 3000 126 LC=abj:=by kernel_rfl
def abk:List Int→List Int:=rR (uk E7 M0 S0) ⟨LC.a,LC.r⟩ abj
theorem alO:Bj Tryz.prog gG ⟨126,LC,abk⟩:=QT Tx 3000 alN (by kernel_rfl)
def S1:List uA:=⟨126,LA,abf⟩::⟨126,LB,abh⟩::⟨126,LC,abk⟩::S0
theorem BA:∀ e∈S1,Bj Tryz.prog gG e:=List.forall_mem_cons.2 ⟨alK,List.forall_mem_cons.2 ⟨alM,List.forall_mem_cons.2 ⟨alO,V5⟩⟩⟩
end Go.Proofs.YtbembkamcdlhbaaGreatDoor
