import Derived.Test.YtgbdemipeoboeaaDoorD1
/- Contracts of this seat's functions: their trees, made by a program (sxgen), and that the executor answers just these. -/
namespace Go.Proofs.YtgbdemipeoboeaaDoor
set_option linter.unusedVariables false
set_option maxRecDepth 100000
open Go.RowKit
theorem ok_D2 : SOK (ctxA E13 M0 S1) eE := ctxA_ok E13_ok M0_ok S1_ok (by kernel_rfl)
def c_law21_goes : Ct := ⟨[], [.sc .bool]⟩
def t_law21_goes : Tr' SV :=
 (.leaf (.bool (.lit 1)))
theorem x_law21_goes : execF (ctxA E13 M0 S1) 3000 15 (uns c_law21_goes.a (varsAt 0 (kindsOf c_law21_goes.a))) (kindsOf c_law21_goes.a).length = t_law21_goes := by kernel_rfl
def F_law21_goes : List Int → List Int := treeF (phiA E13 M0 S1) c_law21_goes t_law21_goes
theorem e_law21_goes : EntOK Tryd.prog gG ⟨15, c_law21_goes, F_law21_goes⟩ := ent_any ok_D2 3000 x_law21_goes (by kernel_rfl)
def E14 : List Ent := ⟨15, c_law21_goes, F_law21_goes⟩ :: E13
theorem E14_ok : ∀ e ∈ E14, EntOK Tryd.prog gG e := List.forall_mem_cons.2 ⟨e_law21_goes, E13_ok⟩
end Go.Proofs.YtgbdemipeoboeaaDoor
