/- Contracts of this seat's functions: their trees, made by a program (sxgen), and that the executor answers just these. -/
import Derived.Test.YtikjbocagnolmaaDoorH1
namespace Go.Proofs.YtikjbocagnolmaaDoor
set_option linter.unusedVariables false
set_option maxRecDepth 100000
open Go.RowKit
def c_law25_ConvKnown : Ct := ⟨[], [.sc .bool]⟩
def t_law25_ConvKnown : Tr' SV :=
 (.leaf (.bool (.lit 1)))
theorem x_law25_ConvKnown : execF (ctx E11) 3000 5 (uns c_law25_ConvKnown.a (varsAt 0 (kindsOf c_law25_ConvKnown.a))) (kindsOf c_law25_ConvKnown.a).length = t_law25_ConvKnown := by kernel_rfl
def F_law25_ConvKnown : List Int → List Int := treeF (phiE E11) c_law25_ConvKnown t_law25_ConvKnown
theorem e_law25_ConvKnown : EntOK Tryd.prog gG ⟨5, c_law25_ConvKnown, F_law25_ConvKnown⟩ := ent_of (ctx_ok E11_ok) 3000 x_law25_ConvKnown (by kernel_rfl)
def c_law19_MulKnown : Ct := ⟨[], [.sc .bool]⟩
def t_law19_MulKnown : Tr' SV :=
 (.leaf (.bool (.lit 1)))
theorem x_law19_MulKnown : execF (ctx E11) 3000 9 (uns c_law19_MulKnown.a (varsAt 0 (kindsOf c_law19_MulKnown.a))) (kindsOf c_law19_MulKnown.a).length = t_law19_MulKnown := by kernel_rfl
def F_law19_MulKnown : List Int → List Int := treeF (phiE E11) c_law19_MulKnown t_law19_MulKnown
theorem e_law19_MulKnown : EntOK Tryd.prog gG ⟨9, c_law19_MulKnown, F_law19_MulKnown⟩ := ent_of (ctx_ok E11_ok) 3000 x_law19_MulKnown (by kernel_rfl)
def E12 : List Ent := ⟨5, c_law25_ConvKnown, F_law25_ConvKnown⟩ :: ⟨9, c_law19_MulKnown, F_law19_MulKnown⟩ :: E11
theorem E12_ok : ∀ e ∈ E12, EntOK Tryd.prog gG e := List.forall_mem_cons.2 ⟨e_law25_ConvKnown, List.forall_mem_cons.2 ⟨e_law19_MulKnown, E11_ok⟩⟩
end Go.Proofs.YtikjbocagnolmaaDoor
