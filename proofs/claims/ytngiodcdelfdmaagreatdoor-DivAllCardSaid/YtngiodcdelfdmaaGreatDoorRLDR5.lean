import Derived.Test.YtngiodcdelfdmaaGreatDoorRLDTR5
namespace Go.Proofs.YtngiodcdelfdmaaGreatDoor
set_option linter.unusedVariables false
set_option maxRecDepth 100000
open Go.RowKit
theorem ok_RLD : SOK (ctxA LDx N10 Z8) eE := ctxC_ok LDx_ok N10_ok Z8_ok (by kernel_rfl)
def c_law21_DivAll : Ct := ⟨[.sc kB, .agg [kB, .bool], .agg [kU, kU], .agg [kU, kU]], [.sc .bool]⟩
def t_law21_DivAll : Tr' SV :=
 (.call 25 [(.var kB 0), (.var kB 1), (.var .bool 2), (.var kU 3), (.var kU 4), (.var kU 5), (.var kU 6)] 7 3
 (.call 26 [(.var kB 0), (.var kB 1), (.var .bool 2), (.var kU 3), (.var kU 4), (.var kU 5), (.var kU 6)] 10 3
 (.ite (.and (.bin .eql .u64 (.var kU 7) (.var kU 10)) (.and (.bin .eql .u64 (.var kU 8) (.var kU 11)) (.and (.bin .eql .u8 (.var kB 9) (.var kB 12)) (.lit 1))))
 (.leaf (.bool (.lit 1)))
 (.leaf (.bool (.lit 0))))))
theorem x_law21_DivAll : execF (ctxA LDx N10 Z8) 3000 6 (uns c_law21_DivAll.a (varsAt 0 (kindsOf c_law21_DivAll.a))) (kindsOf c_law21_DivAll.a).length = t_law21_DivAll := by kernel_rfl
def F_law21_DivAll : List Int → List Int := treeF (phiA LDx N10 Z8) c_law21_DivAll t_law21_DivAll
theorem e_law21_DivAll : EntC Tryz.prog gG ⟨6, c_law21_DivAll, F_law21_DivAll⟩ := entC_of ok_RLD 3000 (by kernel_rfl) x_law21_DivAll (by kernel_rfl)
theorem ph_RLD_div_Div : phiA LDx N10 Z8 25 = F_div_Div := phiA_L (e := ⟨25, _, F_div_Div⟩) rfl rfl rfl
theorem ph_RLD_ref21_Div : phiA LDx N10 Z8 26 = F_ref21_Div := phiA_L (e := ⟨26, _, F_ref21_Div⟩) rfl rfl rfl
end Go.Proofs.YtngiodcdelfdmaaGreatDoor
