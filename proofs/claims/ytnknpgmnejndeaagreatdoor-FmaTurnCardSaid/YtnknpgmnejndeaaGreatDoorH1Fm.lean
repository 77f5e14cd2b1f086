import Derived.Test.YtnknpgmnejndeaaGreatDoorZEFm
/- Contracts of this seat's functions: their trees, made by a program (sxgen), and that the executor answers just these. -/
namespace Go.Proofs.YtnknpgmnejndeaaGreatDoor
set_option linter.unusedVariables false
set_option maxRecDepth 100000
open Go.RowKit
def c_law19_goes : Ct := ⟨[], [.sc .bool]⟩
def t_law19_goes : Tr' SV :=
 (.leaf (.bool (.lit 1)))
theorem x_law19_goes : execF (ctx E10) 3000 19 (uns c_law19_goes.a (varsAt 0 (kindsOf c_law19_goes.a))) (kindsOf c_law19_goes.a).length = t_law19_goes := by kernel_rfl
def F_law19_goes : List Int → List Int := treeF (phiE E10) c_law19_goes t_law19_goes
theorem e_law19_goes : EntOK Tryz.prog gG ⟨19, c_law19_goes, F_law19_goes⟩ := ent_of (ctx_ok E10_ok) 3000 x_law19_goes (by kernel_rfl)
def c_law20_goes : Ct := ⟨[], [.sc .bool]⟩
def t_law20_goes : Tr' SV :=
 (.leaf (.bool (.lit 1)))
theorem x_law20_goes : execF (ctx E10) 3000 12 (uns c_law20_goes.a (varsAt 0 (kindsOf c_law20_goes.a))) (kindsOf c_law20_goes.a).length = t_law20_goes := by kernel_rfl
def F_law20_goes : List Int → List Int := treeF (phiE E10) c_law20_goes t_law20_goes
theorem e_law20_goes : EntOK Tryz.prog gG ⟨12, c_law20_goes, F_law20_goes⟩ := ent_of (ctx_ok E10_ok) 3000 x_law20_goes (by kernel_rfl)
def E11 : List Ent := ⟨19, c_law19_goes, F_law19_goes⟩ :: ⟨12, c_law20_goes, F_law20_goes⟩ :: E10
theorem E11_ok : ∀ e ∈ E11, EntOK Tryz.prog gG e := List.forall_mem_cons.2 ⟨e_law19_goes, List.forall_mem_cons.2 ⟨e_law20_goes, E10_ok⟩⟩
end Go.Proofs.YtnknpgmnejndeaaGreatDoor
