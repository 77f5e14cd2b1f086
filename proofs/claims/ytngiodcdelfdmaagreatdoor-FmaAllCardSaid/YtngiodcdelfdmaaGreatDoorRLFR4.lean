import Derived.Test.YtngiodcdelfdmaaGreatDoorRLBR4
namespace Go.Proofs.YtngiodcdelfdmaaGreatDoor
set_option linter.unusedVariables false
set_option maxRecDepth 100000
open Go.RowKit
theorem ok_RLF : SOK (ctxA LF N9 Z8) eE := ctxC_ok LF_ok N9_ok Z8_ok (by kernel_rfl)
def c_law20_FmaAll : Ct := ⟨[.sc kB, .agg [kB, .bool], .agg [kU, kU], .agg [kU, kU], .agg [kU, kU]], [.sc .bool]⟩
def t_law20_FmaAll : Tr' SV :=
 (.call 40 [(.var kB 0), (.var kB 1), (.var .bool 2), (.var kU 3), (.var kU 4), (.var kU 5), (.var kU 6), (.var kU 7), (.var kU 8)] 9 3
 (.call 41 [(.var kB 0), (.var kB 1), (.var .bool 2), (.var kU 3), (.var kU 4), (.var kU 5), (.var kU 6), (.var kU 7), (.var kU 8)] 12 3
 (.ite (.and (.bin .eql .u64 (.var kU 9) (.var kU 12)) (.and (.bin .eql .u64 (.var kU 10) (.var kU 13)) (.and (.bin .eql .u8 (.var kB 11) (.var kB 14)) (.lit 1))))
 (.leaf (.bool (.lit 1)))
 (.leaf (.bool (.lit 0))))))
theorem x_law20_FmaAll : execF (ctxA LF N9 Z8) 3000 10 (uns c_law20_FmaAll.a (varsAt 0 (kindsOf c_law20_FmaAll.a))) (kindsOf c_law20_FmaAll.a).length = t_law20_FmaAll := by kernel_rfl
def F_law20_FmaAll : List Int → List Int := treeF (phiA LF N9 Z8) c_law20_FmaAll t_law20_FmaAll
theorem e_law20_FmaAll : EntC Tryz.prog gG ⟨10, c_law20_FmaAll, F_law20_FmaAll⟩ := entC_of ok_RLF 3000 (by kernel_rfl) x_law20_FmaAll (by kernel_rfl)
theorem ph_RLF_fma_Fma : phiA LF N9 Z8 40 = F_fma_Fma := phiA_L (e := ⟨40, _, F_fma_Fma⟩) rfl rfl rfl
theorem ph_RLF_ref20_Fma : phiA LF N9 Z8 41 = F_ref20_Fma := phiA_L (e := ⟨41, _, F_ref20_Fma⟩) rfl rfl rfl
end Go.Proofs.YtngiodcdelfdmaaGreatDoor
