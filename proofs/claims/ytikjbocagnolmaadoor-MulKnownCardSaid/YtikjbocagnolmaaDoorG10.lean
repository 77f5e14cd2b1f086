/- Contracts of this seat's functions: their trees, made by a program (sxgen), and that the executor answers just these. -/
import Derived.Test.YtikjbocagnolmaaDoorG9
namespace Go.Proofs.YtikjbocagnolmaaDoor
set_option linter.unusedVariables false
set_option maxRecDepth 100000
open Go.RowKit
def c_conv_Fits : Ct := ⟨[.sc kB, .sc kB, .agg [kU, kU]], [.sc .bool]⟩
def t_conv_Fits : Tr' SV :=
 (.call 44 [(.var kB 0), (.var kU 2), (.var kU 3)] 4 5
 (.ite (.ite (.not (.bin .lss .i64 (.var kB 0) (.lit 4))) (.lit 0) (.ite (.not (.bin .lss .i64 (.var kB 1) (.lit 4))) (.lit 0) (.lit 1)))
 (.ite (.bin .leq .u8 (.var kB 5) (.lit 3))
 (.call 17 [(.var kB 0), (.var kB 1), (.lit 4), (.lit 0), (.var kU 2), (.var kU 3)] 9 3
 (.leaf (.bool (.bin .eql .u8 (.var kB 11) (.lit 0)))))
 (.leaf (.bool (.lit 0))))
 (.leaf (.bool (.lit 0)))))
theorem x_conv_Fits : execF (ctx E9) 3000 18 (uns c_conv_Fits.a (varsAt 0 (kindsOf c_conv_Fits.a))) (kindsOf c_conv_Fits.a).length = t_conv_Fits := by kernel_rfl
def F_conv_Fits : List Int → List Int := treeF (phiE E9) c_conv_Fits t_conv_Fits
theorem e_conv_Fits : EntOK Tryd.prog gG ⟨18, c_conv_Fits, F_conv_Fits⟩ := ent_of (ctx_ok E9_ok) 3000 x_conv_Fits (by kernel_rfl)
def E10 : List Ent := ⟨18, c_conv_Fits, F_conv_Fits⟩ :: E9
theorem E10_ok : ∀ e ∈ E10, EntOK Tryd.prog gG e := List.forall_mem_cons.2 ⟨e_conv_Fits, E9_ok⟩
theorem ph_E9_fields_Unpack : phiE E9 44 = F_fields_Unpack := phiE_hit (e := ⟨44, _, F_fields_Unpack⟩) rfl
theorem ph_E9_conv_Conv : phiE E9 17 = F_conv_Conv := phiE_hit (e := ⟨17, _, F_conv_Conv⟩) rfl
end Go.Proofs.YtikjbocagnolmaaDoor
