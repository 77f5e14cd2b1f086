import Derived.Test.YtngiodcdelfdmaaGreatDoorRLAR2
/- Contracts of this seat's functions: their trees, made by a program (sxgen), and that the executor answers just these. -/
namespace Go.Proofs.YtngiodcdelfdmaaGreatDoor
set_option linter.unusedVariables false
set_option maxRecDepth 100000
open Go.RowKit
theorem ok_RLM : SOK (ctxA LA N9 Z8) eE := ctxC_ok LA_ok N9_ok Z8_ok (by kernel_rfl)
def c_law19_MulAll : Ct := ⟨[.sc kB, .agg [kB, .bool], .agg [kU, kU], .agg [kU, kU]], [.sc .bool]⟩
def t_law19_MulAll : Tr' SV :=
 (.call 18 [(.var kB 0), (.var kB 1), (.var .bool 2), (.var kU 3), (.var kU 4), (.var kU 5), (.var kU 6)] 7 3
 (.call 19 [(.var kB 0), (.var kB 1), (.var .bool 2), (.var kU 3), (.var kU 4), (.var kU 5), (.var kU 6)] 10 3
 (.ite (.and (.bin .eql .u64 (.var kU 7) (.var kU 10)) (.and (.bin .eql .u64 (.var kU 8) (.var kU 11)) (.and (.bin .eql .u8 (.var kB 9) (.var kB 12)) (.lit 1))))
 (.leaf (.bool (.lit 1)))
 (.leaf (.bool (.lit 0))))))
theorem x_law19_MulAll : execF (ctxA LA N9 Z8) 3000 4 (uns c_law19_MulAll.a (varsAt 0 (kindsOf c_law19_MulAll.a))) (kindsOf c_law19_MulAll.a).length = t_law19_MulAll := by kernel_rfl
def F_law19_MulAll : List Int → List Int := treeF (phiA LA N9 Z8) c_law19_MulAll t_law19_MulAll
theorem e_law19_MulAll : EntC Tryz.prog gG ⟨4, c_law19_MulAll, F_law19_MulAll⟩ := entC_of ok_RLM 3000 (by kernel_rfl) x_law19_MulAll (by kernel_rfl)
def c_law19_MulTerms : Ct := ⟨[.agg [.bool, kB, kI, kU, kU], .agg [.bool, kB, kI, kU, kU]], [.sc .bool]⟩
def t_law19_MulTerms : Tr' SV :=
 (.call 21 [(.var .bool 0), (.var kB 1), (.var kI 2), (.var kU 3), (.var kU 4), (.var .bool 5), (.var kB 6), (.var kI 7), (.var kU 8), (.var kU 9)] 10 5
 (.call 22 [(.var .bool 0), (.var kB 1), (.var kI 2), (.var kU 3), (.var kU 4), (.var .bool 5), (.var kB 6), (.var kI 7), (.var kU 8), (.var kU 9)] 15 5
 (.ite (.bin .eql .i64 (.var kI 10) (.var kI 15))
 (.ite (.and (.bin .eql .u64 (.var kU 11) (.var kU 16)) (.and (.bin .eql .u64 (.var kU 12) (.var kU 17)) (.and (.bin .eql .u64 (.var kU 13) (.var kU 18)) (.and (.bin .eql .u64 (.var kU 14) (.var kU 19)) (.lit 1)))))
 (.call 23 [(.var .bool 0), (.var kB 1), (.var kI 2), (.var kU 3), (.var kU 4), (.var .bool 5), (.var kB 6), (.var kI 7), (.var kU 8), (.var kU 9)] 20 1
 (.call 24 [(.var kB 1), (.var kB 6)] 21 1
 (.ite (.beq (.var .bool 20) (.var .bool 21))
 (.leaf (.bool (.lit 1)))
 (.leaf (.bool (.lit 0))))))
 (.leaf (.bool (.lit 0))))
 (.leaf (.bool (.lit 0))))))
theorem x_law19_MulTerms : execF (ctxA LA N9 Z8) 3000 5 (uns c_law19_MulTerms.a (varsAt 0 (kindsOf c_law19_MulTerms.a))) (kindsOf c_law19_MulTerms.a).length = t_law19_MulTerms := by kernel_rfl
def F_law19_MulTerms : List Int → List Int := treeF (phiA LA N9 Z8) c_law19_MulTerms t_law19_MulTerms
theorem e_law19_MulTerms : EntC Tryz.prog gG ⟨5, c_law19_MulTerms, F_law19_MulTerms⟩ := entC_of ok_RLM 3000 (by kernel_rfl) x_law19_MulTerms (by kernel_rfl)
def c_law25_ConvAll : Ct := ⟨[.sc kB, .sc kB, .agg [kB, .bool], .agg [kU, kU]], [.sc .bool]⟩
def t_law25_ConvAll : Tr' SV :=
 (.call 13 [(.var kB 0), (.var kU 4), (.var kU 5)] 6 2
 (.ite (.bin .lss .u8 (.var kB 0) (.lit 4))
 (.ite (.bin .lss .u8 (.var kB 1) (.lit 4))
 (.ite (.bin .leq .u8 (.var kB 6) (.lit 3))
 (.call 14 [(.var kB 0), (.var kB 1), (.lit 4), (.lit 0), (.var kU 4), (.var kU 5)] 8 3
 (.call 15 [(.var kB 0), (.var kB 1), (.var kB 2), (.var .bool 3), (.var kU 4), (.var kU 5)] 11 3
 (.call 14 [(.var kB 0), (.var kB 1), (.var kB 2), (.var .bool 3), (.var kU 4), (.var kU 5)] 14 3
 (.ite (.and (.bin .eql .u64 (.var kU 11) (.var kU 14)) (.and (.bin .eql .u64 (.var kU 12) (.var kU 15)) (.and (.bin .eql .u8 (.var kB 13) (.var kB 16)) (.lit 1))))
 (.call 16 [(.var kB 0), (.var kB 1), (.var kU 4), (.var kU 5)] 17 1
 (.ite (.beq (.var .bool 17) (.bin .eql .u8 (.var kB 10) (.lit 0)))
 (.leaf (.bool (.lit 1)))
 (.leaf (.bool (.lit 0)))))
 (.leaf (.bool (.lit 0)))))))
 (.call 15 [(.var kB 0), (.var kB 1), (.var kB 2), (.var .bool 3), (.var kU 4), (.var kU 5)] 8 3
 (.call 14 [(.var kB 0), (.var kB 1), (.var kB 2), (.var .bool 3), (.var kU 4), (.var kU 5)] 11 3
 (.ite (.and (.bin .eql .u64 (.var kU 8) (.var kU 11)) (.and (.bin .eql .u64 (.var kU 9) (.var kU 12)) (.and (.bin .eql .u8 (.var kB 10) (.var kB 13)) (.lit 1))))
 (.call 16 [(.var kB 0), (.var kB 1), (.var kU 4), (.var kU 5)] 14 1
 (.ite (.beq (.var .bool 14) (.lit 0))
 (.leaf (.bool (.lit 1)))
 (.leaf (.bool (.lit 0)))))
 (.leaf (.bool (.lit 0)))))))
 (.call 15 [(.var kB 0), (.var kB 1), (.var kB 2), (.var .bool 3), (.var kU 4), (.var kU 5)] 8 3
 (.call 14 [(.var kB 0), (.var kB 1), (.var kB 2), (.var .bool 3), (.var kU 4), (.var kU 5)] 11 3
 (.ite (.and (.bin .eql .u64 (.var kU 8) (.var kU 11)) (.and (.bin .eql .u64 (.var kU 9) (.var kU 12)) (.and (.bin .eql .u8 (.var kB 10) (.var kB 13)) (.lit 1))))
 (.call 16 [(.var kB 0), (.var kB 1), (.var kU 4), (.var kU 5)] 14 1
 (.ite (.beq (.var .bool 14) (.lit 0))
 (.leaf (.bool (.lit 1)))
 (.leaf (.bool (.lit 0)))))
 (.leaf (.bool (.lit 0)))))))
 (.call 15 [(.var kB 0), (.var kB 1), (.var kB 2), (.var .bool 3), (.var kU 4), (.var kU 5)] 8 3
 (.call 14 [(.var kB 0), (.var kB 1), (.var kB 2), (.var .bool 3), (.var kU 4), (.var kU 5)] 11 3
 (.ite (.and (.bin .eql .u64 (.var kU 8) (.var kU 11)) (.and (.bin .eql .u64 (.var kU 9) (.var kU 12)) (.and (.bin .eql .u8 (.var kB 10) (.var kB 13)) (.lit 1))))
 (.call 16 [(.var kB 0), (.var kB 1), (.var kU 4), (.var kU 5)] 14 1
 (.ite (.beq (.var .bool 14) (.lit 0))
 (.leaf (.bool (.lit 1)))
 (.leaf (.bool (.lit 0)))))
 (.leaf (.bool (.lit 0))))))))
theorem x_law25_ConvAll : execF (ctxA LA N9 Z8) 3000 3 (uns c_law25_ConvAll.a (varsAt 0 (kindsOf c_law25_ConvAll.a))) (kindsOf c_law25_ConvAll.a).length = t_law25_ConvAll := by kernel_rfl
def F_law25_ConvAll : List Int → List Int := treeF (phiA LA N9 Z8) c_law25_ConvAll t_law25_ConvAll
theorem e_law25_ConvAll : EntC Tryz.prog gG ⟨3, c_law25_ConvAll, F_law25_ConvAll⟩ := entC_of ok_RLM 3000 (by kernel_rfl) x_law25_ConvAll (by kernel_rfl)
theorem ph_RLM_mul_Mul : phiA LA N9 Z8 18 = F_mul_Mul := phiA_L (e := ⟨18, _, F_mul_Mul⟩) rfl rfl rfl
theorem ph_RLM_ref19_Mul : phiA LA N9 Z8 19 = F_ref19_Mul := phiA_L (e := ⟨19, _, F_ref19_Mul⟩) rfl rfl rfl
theorem ph_RLM_mul_Term : phiA LA N9 Z8 21 = F_mul_Term := phiA_L (e := ⟨21, _, F_mul_Term⟩) rfl rfl rfl
theorem ph_RLM_ref19_Term : phiA LA N9 Z8 22 = F_ref19_Term := phiA_L (e := ⟨22, _, F_ref19_Term⟩) rfl rfl rfl
theorem ph_RLM_mul_Bad : phiA LA N9 Z8 23 = F_mul_Bad := phiA_L (e := ⟨23, _, F_mul_Bad⟩) rfl rfl rfl
theorem ph_RLM_ref19_Bad : phiA LA N9 Z8 24 = F_ref19_Bad := phiA_L (e := ⟨24, _, F_ref19_Bad⟩) rfl rfl rfl
theorem ph_RLM_ref08_Of : phiA LA N9 Z8 13 = F_ref08_Of := phiA_L (e := ⟨13, _, F_ref08_Of⟩) rfl rfl rfl
theorem ph_RLM_ref25_Conv : phiA LA N9 Z8 14 = F_ref25_Conv := phiA_L (e := ⟨14, _, F_ref25_Conv⟩) rfl rfl rfl
theorem ph_RLM_conv_Conv : phiA LA N9 Z8 15 = F_conv_Conv := phiA_L (e := ⟨15, _, F_conv_Conv⟩) rfl rfl rfl
theorem ph_RLM_conv_Fits : phiA LA N9 Z8 16 = F_conv_Fits := phiA_L (e := ⟨16, _, F_conv_Fits⟩) rfl rfl rfl
end Go.Proofs.YtngiodcdelfdmaaGreatDoor
