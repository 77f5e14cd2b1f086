import Derived.Test.YtemomocmfggiaaaGreatDoorTM3U1
namespace Go.Proofs.YtemomocmfggiaaaGreatDoor
set_option linter.unusedVariables false
set_option maxRecDepth 100000
open Go.RowKit
theorem ok_TM4 : SOK (ctxA TE NZ ZZ) eE := ctxC_ok TE_ok NZ_ok ZZ_ok (by kernel_rfl)
def c_law29_TableKnown : Ct := ⟨[], [.sc .bool]⟩
def t_law29_TableKnown : Tr' SV :=
 (.leaf (.bool (.lit 1)))
theorem x_law29_TableKnown : execMF (ctxA TE NZ ZZ) mE 3000 8 (uns c_law29_TableKnown.a (varsAt 0 (kindsOf c_law29_TableKnown.a))) (kindsOf c_law29_TableKnown.a).length = t_law29_TableKnown := by kernel_rfl
def F_law29_TableKnown : List Int → List Int := treeF (phiA TE NZ ZZ) c_law29_TableKnown t_law29_TableKnown
theorem e_law29_TableKnown : EntC Tryz.prog gG ⟨8, c_law29_TableKnown, F_law29_TableKnown⟩ := entM_of ok_TM4 mE_ok 3000 (by kernel_rfl) x_law29_TableKnown (by kernel_rfl)
end Go.Proofs.YtemomocmfggiaaaGreatDoor
