import Derived.Test.YtngiodcdelfdmaaGreatDoorRLSTR6
namespace Go.Proofs.YtngiodcdelfdmaaGreatDoor
set_option linter.unusedVariables false
set_option maxRecDepth 100000
open Go.RowKit
theorem ok_RLS : SOK (ctxA LSx N10 Z8) eE := ctxC_ok LSx_ok N10_ok Z8_ok (by kernel_rfl)
def c_law22_SqrtAll : Ct := ⟨[.sc kB, .agg [kB, .bool], .agg [kU, kU]], [.sc .bool]⟩
def t_law22_SqrtAll : Tr' SV :=
 (.call 28 [(.var kB 0), (.var kB 1), (.var .bool 2), (.var kU 3), (.var kU 4)] 5 3
 (.call 29 [(.var kB 0), (.var kB 1), (.var .bool 2), (.var kU 3), (.var kU 4)] 8 3
 (.ite (.and (.bin .eql .u64 (.var kU 5) (.var kU 8)) (.and (.bin .eql .u64 (.var kU 6) (.var kU 9)) (.and (.bin .eql .u8 (.var kB 7) (.var kB 10)) (.lit 1))))
 (.leaf (.bool (.lit 1)))
 (.leaf (.bool (.lit 0))))))
theorem x_law22_SqrtAll : execF (ctxA LSx N10 Z8) 3000 7 (uns c_law22_SqrtAll.a (varsAt 0 (kindsOf c_law22_SqrtAll.a))) (kindsOf c_law22_SqrtAll.a).length = t_law22_SqrtAll := by kernel_rfl
def F_law22_SqrtAll : List Int → List Int := treeF (phiA LSx N10 Z8) c_law22_SqrtAll t_law22_SqrtAll
theorem e_law22_SqrtAll : EntC Tryz.prog gG ⟨7, c_law22_SqrtAll, F_law22_SqrtAll⟩ := entC_of ok_RLS 3000 (by kernel_rfl) x_law22_SqrtAll (by kernel_rfl)
theorem ph_RLS_sqrt_Sqrt : phiA LSx N10 Z8 28 = F_sqrt_Sqrt := phiA_L (e := ⟨28, _, F_sqrt_Sqrt⟩) rfl rfl rfl
theorem ph_RLS_ref22_Sqrt : phiA LSx N10 Z8 29 = F_ref22_Sqrt := phiA_L (e := ⟨29, _, F_ref22_Sqrt⟩) rfl rfl rfl
end Go.Proofs.YtngiodcdelfdmaaGreatDoor
