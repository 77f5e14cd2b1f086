/- Contracts of this seat's functions: their trees, made by a program (sxgen), and that the executor answers just these. -/
import Derived.Test.YtikjbocagnolmaaDoorG9
namespace Go.Proofs.YtikjbocagnolmaaDoor
set_option linter.unusedVariables false
set_option maxRecDepth 100000
open Go.RowKit
def c_law25_goes : Ct := ⟨[], [.sc .bool]⟩
def t_law25_goes : Tr' SV :=
 (.leaf (.bool (.lit 1)))
theorem x_law25_goes : execF (ctx E9) 3000 19 (uns c_law25_goes.a (varsAt 0 (kindsOf c_law25_goes.a))) (kindsOf c_law25_goes.a).length = t_law25_goes := by kernel_rfl
def F_law25_goes : List Int → List Int := treeF (phiE E9) c_law25_goes t_law25_goes
theorem e_law25_goes : EntOK Tryd.prog gG ⟨19, c_law25_goes, F_law25_goes⟩ := ent_of (ctx_ok E9_ok) 3000 x_law25_goes (by kernel_rfl)
def c_law19_goes : Ct := ⟨[], [.sc .bool]⟩
def t_law19_goes : Tr' SV :=
 (.leaf (.bool (.lit 1)))
theorem x_law19_goes : execF (ctx E9) 3000 28 (uns c_law19_goes.a (varsAt 0 (kindsOf c_law19_goes.a))) (kindsOf c_law19_goes.a).length = t_law19_goes := by kernel_rfl
def F_law19_goes : List Int → List Int := treeF (phiE E9) c_law19_goes t_law19_goes
theorem e_law19_goes : EntOK Tryd.prog gG ⟨28, c_law19_goes, F_law19_goes⟩ := ent_of (ctx_ok E9_ok) 3000 x_law19_goes (by kernel_rfl)
def E10 : List Ent := ⟨19, c_law25_goes, F_law25_goes⟩ :: ⟨28, c_law19_goes, F_law19_goes⟩ :: E9
theorem E10_ok : ∀ e ∈ E10, EntOK Tryd.prog gG e := List.forall_mem_cons.2 ⟨e_law25_goes, List.forall_mem_cons.2 ⟨e_law19_goes, E9_ok⟩⟩
end Go.Proofs.YtikjbocagnolmaaDoor
