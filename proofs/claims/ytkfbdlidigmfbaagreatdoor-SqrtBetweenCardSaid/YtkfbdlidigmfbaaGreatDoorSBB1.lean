import Derived.Test.YtkfbdlidigmfbaaGreatDoorSB1B1
namespace Go.Proofs.YtkfbdlidigmfbaaGreatDoor
set_option linter.unusedVariables false
set_option maxRecDepth 100000
open Go.RowKit
theorem ok_SB : SOK (ctxA LSB2 NZ ZZ) eE := ctxC_ok LSB2_ok NZ_ok ZZ_ok (by kernel_rfl)
def c_law22_SqrtBetween : Ct := ⟨[.sc kB, .agg [kB, .bool], .agg [kU, kU]], [.sc .bool]⟩
def t_law22_SqrtBetween : Tr' SV :=
 (.call 5 [(.var kB 0), (.var kU 3), (.var kU 4)] 5 2
 (.call 6 [(.var kB 0), (.var kU 5), (.var kU 6)] 7 2
 (.ite (.bin .gtr .u8 (.var kB 0) (.lit 2))
 (.leaf (.bool (.lit 1)))
 (.ite (.bin .neq .u8 (.var kB 7) (.lit 1))
 (.ite (.bin .neq .u8 (.var kB 7) (.lit 2))
 (.leaf (.bool (.lit 1)))
 (.call 8 [(.var kB 0), (.bin .rem .u8 (.var kB 1) (.lit 5)), (.var .bool 2), (.var kU 5), (.var kU 6)] 9 3
 (.ite (.bin .neq .u8 (.bin .andNot .u8 (.var kB 11) (.lit 16)) (.lit 0))
 (.leaf (.bool (.lit 0)))
 (.call 8 [(.var kB 0), (.lit 4), (.lit 0), (.var kU 5), (.var kU 6)] 12 3
 (.call 9 [(.var kU 12), (.var kU 13), (.lit 0), (.lit 1)] 15 3
 (.call 10 [(.var kB 0), (.var kU 12), (.var kU 13)] 18 2
 (.call 10 [(.var kB 0), (.var kU 15), (.var kU 16)] 20 2
 (.call 11 [(.var kB 0), (.var kU 5), (.var kU 6)] 22 2
 (.call 12 [(.var kU 18), (.var kU 19), (.var kU 22), (.var kU 23)] 24 1
 (.ite (.bin .leq .i64 (.var kI 24) (.lit 0))
 (.call 12 [(.var kU 20), (.var kU 21), (.var kU 22), (.var kU 23)] 25 1
 (.ite (.bin .gtr .i64 (.var kI 25) (.lit 0))
 (.ite (.beq (.bin .eql .i64 (.var kI 24) (.lit 0)) (.bin .eql .u8 (.var kB 14) (.lit 0)))
 (.leaf (.bool (.lit 1)))
 (.leaf (.bool (.lit 0))))
 (.leaf (.bool (.lit 0)))))
 (.leaf (.bool (.lit 0)))))))))))))
 (.call 8 [(.var kB 0), (.bin .rem .u8 (.var kB 1) (.lit 5)), (.var .bool 2), (.var kU 5), (.var kU 6)] 9 3
 (.ite (.bin .neq .u8 (.bin .andNot .u8 (.var kB 11) (.lit 16)) (.lit 0))
 (.leaf (.bool (.lit 0)))
 (.call 8 [(.var kB 0), (.lit 4), (.lit 0), (.var kU 5), (.var kU 6)] 12 3
 (.call 9 [(.var kU 12), (.var kU 13), (.lit 0), (.lit 1)] 15 3
 (.call 10 [(.var kB 0), (.var kU 12), (.var kU 13)] 18 2
 (.call 10 [(.var kB 0), (.var kU 15), (.var kU 16)] 20 2
 (.call 11 [(.var kB 0), (.var kU 5), (.var kU 6)] 22 2
 (.call 12 [(.var kU 18), (.var kU 19), (.var kU 22), (.var kU 23)] 24 1
 (.ite (.bin .leq .i64 (.var kI 24) (.lit 0))
 (.call 12 [(.var kU 20), (.var kU 21), (.var kU 22), (.var kU 23)] 25 1
 (.ite (.bin .gtr .i64 (.var kI 25) (.lit 0))
 (.ite (.beq (.bin .eql .i64 (.var kI 24) (.lit 0)) (.bin .eql .u8 (.var kB 14) (.lit 0)))
 (.leaf (.bool (.lit 1)))
 (.leaf (.bool (.lit 0))))
 (.leaf (.bool (.lit 0)))))
 (.leaf (.bool (.lit 0))))))))))))))))
theorem x_law22_SqrtBetween : execF (ctxA LSB2 NZ ZZ) 3000 3 (uns c_law22_SqrtBetween.a (varsAt 0 (kindsOf c_law22_SqrtBetween.a))) (kindsOf c_law22_SqrtBetween.a).length = t_law22_SqrtBetween := by kernel_rfl
def F_law22_SqrtBetween : List Int → List Int := treeF (phiA LSB2 NZ ZZ) c_law22_SqrtBetween t_law22_SqrtBetween
theorem e_law22_SqrtBetween : EntC Tryz.prog gG ⟨3, c_law22_SqrtBetween, F_law22_SqrtBetween⟩ := entC_of ok_SB 3000 (by kernel_rfl) x_law22_SqrtBetween (by kernel_rfl)
theorem ph_SB_law22_size : phiA LSB2 NZ ZZ 5 = F_law22_size := phiA_L (e := ⟨5, _, F_law22_size⟩) rfl rfl rfl
theorem ph_SB_class_Of : phiA LSB2 NZ ZZ 6 = F_class_Of := phiA_L (e := ⟨6, _, F_class_Of⟩) rfl rfl rfl
theorem ph_SB_sqrt_Sqrt : phiA LSB2 NZ ZZ 8 = F_sqrt_Sqrt := phiA_L (e := ⟨8, _, F_sqrt_Sqrt⟩) rfl rfl rfl
theorem ph_SB_word_Add : phiA LSB2 NZ ZZ 9 = F_word_Add := phiA_L (e := ⟨9, _, F_word_Add⟩) rfl rfl rfl
theorem ph_SB_law22_square : phiA LSB2 NZ ZZ 10 = F_law22_square := phiA_L (e := ⟨10, _, F_law22_square⟩) rfl rfl rfl
theorem ph_SB_law22_widened : phiA LSB2 NZ ZZ 11 = F_law22_widened := phiA_L (e := ⟨11, _, F_law22_widened⟩) rfl rfl rfl
theorem ph_SB_word_Cmp : phiA LSB2 NZ ZZ 12 = F_word_Cmp := phiA_L (e := ⟨12, _, F_word_Cmp⟩) rfl rfl rfl
end Go.Proofs.YtkfbdlidigmfbaaGreatDoor
