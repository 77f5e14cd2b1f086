import Derived.Test.YtngiodcdelfdmaaGreatDoorRLRTR3
namespace Go.Proofs.YtngiodcdelfdmaaGreatDoor
set_option linter.unusedVariables false
set_option maxRecDepth 100000
open Go.RowKit
theorem ok_RLR : SOK (ctxA LRx N10 Z8) eE := ctxC_ok LRx_ok N10_ok Z8_ok (by kernel_rfl)
def c_law23_RemAll : Ct := ⟨[.sc kB, .agg [kU, kU], .agg [kU, kU]], [.sc .bool]⟩
def t_law23_RemAll : Tr' SV :=
 (.ite (.bin .lss .u8 (.var kB 0) (.lit 4))
 (.call 31 [(.var kB 0), (.var kU 1), (.var kU 2), (.var kU 3), (.var kU 4)] 5 1
 (.ite (.var .bool 5)
 (.leaf (.bool (.lit 1)))
 (.call 33 [(.var kB 0), (.var kU 1), (.var kU 2), (.var kU 3), (.var kU 4)] 6 3
 (.call 34 [(.var kB 0), (.var kU 1), (.var kU 2), (.var kU 3), (.var kU 4)] 9 3
 (.ite (.and (.bin .eql .u64 (.var kU 6) (.var kU 9)) (.and (.bin .eql .u64 (.var kU 7) (.var kU 10)) (.and (.bin .eql .u8 (.var kB 8) (.var kB 11)) (.lit 1))))
 (.leaf (.bool (.lit 1)))
 (.leaf (.bool (.lit 0))))))))
 (.call 33 [(.var kB 0), (.var kU 1), (.var kU 2), (.var kU 3), (.var kU 4)] 5 3
 (.call 34 [(.var kB 0), (.var kU 1), (.var kU 2), (.var kU 3), (.var kU 4)] 8 3
 (.ite (.and (.bin .eql .u64 (.var kU 5) (.var kU 8)) (.and (.bin .eql .u64 (.var kU 6) (.var kU 9)) (.and (.bin .eql .u8 (.var kB 7) (.var kB 10)) (.lit 1))))
 (.leaf (.bool (.lit 1)))
 (.leaf (.bool (.lit 0)))))))
theorem x_law23_RemAll : execF (ctxA LRx N10 Z8) 3000 8 (uns c_law23_RemAll.a (varsAt 0 (kindsOf c_law23_RemAll.a))) (kindsOf c_law23_RemAll.a).length = t_law23_RemAll := by kernel_rfl
def F_law23_RemAll : List Int → List Int := treeF (phiA LRx N10 Z8) c_law23_RemAll t_law23_RemAll
theorem e_law23_RemAll : EntC Tryz.prog gG ⟨8, c_law23_RemAll, F_law23_RemAll⟩ := entC_of ok_RLR 3000 (by kernel_rfl) x_law23_RemAll (by kernel_rfl)
theorem ph_RLR_ref23_Far : phiA LRx N10 Z8 31 = F_ref23_Far := phiA_L (e := ⟨31, _, F_ref23_Far⟩) rfl rfl rfl
theorem ph_RLR_rem_Rem : phiA LRx N10 Z8 33 = F_rem_Rem := phiA_L (e := ⟨33, _, F_rem_Rem⟩) rfl rfl rfl
theorem ph_RLR_ref23_Rem : phiA LRx N10 Z8 34 = F_ref23_Rem := phiA_L (e := ⟨34, _, F_ref23_Rem⟩) rfl rfl rfl
end Go.Proofs.YtngiodcdelfdmaaGreatDoor
