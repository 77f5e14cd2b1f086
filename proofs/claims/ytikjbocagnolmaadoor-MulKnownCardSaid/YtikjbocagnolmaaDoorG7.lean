/- Contracts of this seat's functions: their trees, made by a program (sxgen), and that the executor answers just these. -/
import Derived.Test.YtikjbocagnolmaaDoorG6
namespace Go.Proofs.YtikjbocagnolmaaDoor
set_option linter.unusedVariables false
set_option maxRecDepth 100000
open Go.RowKit
def c_nan_Quiet : Ct := ⟨[.sc kB, .agg [kU, kU]], [.agg [kU, kU]]⟩
def t_nan_Quiet : Tr' SV :=
 (.call 21 [(.var kB 0), (.var kU 1), (.var kU 2)] 3 2
 (.call 20 [(.var kB 0), (.var kU 3), (.var kU 4)] 5 1
 (.ite (.var .bool 5)
 (.call 54 [(.var kB 0)] 6 1
 (.call 64 [(.lit 0), (.lit 1), (.bin .sub .i64 (.var kI 6) (.lit 2))] 7 2
 (.leaf (.agg [(.int .u64 (.bin .or .u64 (.var kU 3) (.var kU 7))), (.int .u64 (.bin .or .u64 (.var kU 4) (.var kU 8)))]))))
 (.leaf (.agg [(.int .u64 (.var kU 3)), (.int .u64 (.var kU 4))])))))
theorem x_nan_Quiet : execF (ctx E6) 3000 82 (uns c_nan_Quiet.a (varsAt 0 (kindsOf c_nan_Quiet.a))) (kindsOf c_nan_Quiet.a).length = t_nan_Quiet := by kernel_rfl
def F_nan_Quiet : List Int → List Int := treeF (phiE E6) c_nan_Quiet t_nan_Quiet
theorem e_nan_Quiet : EntOK Tryd.prog gG ⟨82, c_nan_Quiet, F_nan_Quiet⟩ := ent_of (ctx_ok E6_ok) 3000 x_nan_Quiet (by kernel_rfl)
def E7 : List Ent := ⟨82, c_nan_Quiet, F_nan_Quiet⟩ :: E6
theorem E7_ok : ∀ e ∈ E7, EntOK Tryd.prog gG e := List.forall_mem_cons.2 ⟨e_nan_Quiet, E6_ok⟩
theorem ph_E6_format_Cut : phiE E6 21 = F_format_Cut := phiE_hit (e := ⟨21, _, F_format_Cut⟩) rfl
theorem ph_E6_class_NaN : phiE E6 20 = F_class_NaN := phiE_hit (e := ⟨20, _, F_class_NaN⟩) rfl
theorem ph_E6_format_Prec : phiE E6 54 = F_format_Prec := phiE_hit (e := ⟨54, _, F_format_Prec⟩) rfl
theorem ph_E6_shift_Left : phiE E6 64 = F_shift_Left := phiE_hit (e := ⟨64, _, F_shift_Left⟩) rfl
end Go.Proofs.YtikjbocagnolmaaDoor
