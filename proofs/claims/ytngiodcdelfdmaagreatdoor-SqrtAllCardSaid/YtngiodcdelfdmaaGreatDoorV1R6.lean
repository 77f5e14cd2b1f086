import Derived.Test.YtngiodcdelfdmaaGreatDoorS1aR6
namespace Go.Proofs.YtngiodcdelfdmaaGreatDoor
set_option linter.unusedVariables false
set_option maxRecDepth 100000
open Go.RowKit
theorem ok_V1 : SOKT (ctxA E51 M0 S1) eE := ctxA_ok E51_ok M0_ok S1_ok (by kernel_rfl)
def c_law22_goes : Ct := ⟨[], [.sc .bool]⟩
def t_law22_goes : Tr' SV :=
 (.leaf (.bool (.lit 1)))
theorem x_law22_goes : execF (ctxA E51 M0 S1) 3000 30 (uns c_law22_goes.a (varsAt 0 (kindsOf c_law22_goes.a))) (kindsOf c_law22_goes.a).length = t_law22_goes := by kernel_rfl
def F_law22_goes : List Int → List Int := treeF (phiA E51 M0 S1) c_law22_goes t_law22_goes
theorem e_law22_goes : EntOK Tryz.prog gG ⟨30, c_law22_goes, F_law22_goes⟩ := ent_any ok_V1 3000 x_law22_goes (by kernel_rfl)
def E52 : List Ent := ⟨30, c_law22_goes, F_law22_goes⟩ :: E51
theorem E52_ok : ∀ e ∈ E52, EntOK Tryz.prog gG e := List.forall_mem_cons.2 ⟨e_law22_goes, E51_ok⟩
end Go.Proofs.YtngiodcdelfdmaaGreatDoor
