import Derived.Test.YtngiodcdelfdmaaGreatDoorDBTR8
namespace Go.Proofs.YtngiodcdelfdmaaGreatDoor
set_option linter.unusedVariables false
set_option maxRecDepth 100000
open Go.RowKit
theorem ok_DP : SOK (ctxA LDB NZ ZZ) eE := ctxC_ok LDB_ok NZ_ok ZZ_ok (by kernel_rfl)
def c_law21_DivPowers : Ct := ⟨[.sc kB, .agg [kB, .bool], .agg [kU, kU], .sc (.int .i16)], [.sc .bool]⟩
def t_law21_DivPowers : Tr' SV :=
 (.ite (.not (.bin .lss .i64 (.var kB 0) (.lit 4)))
 (.leaf (.bool (.lit 1)))
 (.ite (.not (.bin .leq .u8 (.var kB 1) (.lit 4)))
 (.leaf (.bool (.lit 1)))
 (.call 37 [(.var kB 0), (.var kU 3), (.var kU 4)] 6 1
 (.ite (.var .bool 6)
 (.leaf (.bool (.lit 1)))
 (.call 38 [(.var kB 0)] 7 1
 (.ite (.bin .eql .i64 (.var kI 7) (.lit 0))
 (.stuck "by 0")
 (.call 39 [(.var kB 0), (.lit 0), (.bin .add .i64 (.var kI 7) (.bin .rem .i64 (.var (.int .i16) 5) (.var kI 7))), (.lit 0), (.lit 0)] 8 2
 (.call 39 [(.var kB 0), (.lit 0), (.bin .sub .i64 (.var kI 7) (.bin .rem .i64 (.var (.int .i16) 5) (.var kI 7))), (.lit 0), (.lit 0)] 10 2
 (.call 25 [(.var kB 0), (.var kB 1), (.var .bool 2), (.var kU 3), (.var kU 4), (.var kU 8), (.var kU 9)] 12 3
 (.call 18 [(.var kB 0), (.var kB 1), (.var .bool 2), (.var kU 3), (.var kU 4), (.var kU 10), (.var kU 11)] 15 3
 (.ite (.and (.bin .eql .u64 (.var kU 12) (.var kU 15)) (.and (.bin .eql .u64 (.var kU 13) (.var kU 16)) (.and (.bin .eql .u8 (.var kB 14) (.var kB 17)) (.lit 1))))
 (.leaf (.bool (.lit 1)))
 (.leaf (.bool (.lit 0))))))))))))))
theorem x_law21_DivPowers : execF (ctxA LDB NZ ZZ) 3000 9 (uns c_law21_DivPowers.a (varsAt 0 (kindsOf c_law21_DivPowers.a))) (kindsOf c_law21_DivPowers.a).length = t_law21_DivPowers := by kernel_rfl
def F_law21_DivPowers : List Int → List Int := treeF (phiA LDB NZ ZZ) c_law21_DivPowers t_law21_DivPowers
theorem e_law21_DivPowers : EntC Tryz.prog gG ⟨9, c_law21_DivPowers, F_law21_DivPowers⟩ := entC_of ok_DP 3000 (by kernel_rfl) x_law21_DivPowers (by kernel_rfl)
theorem ph_DP_class_NaN : phiA LDB NZ ZZ 37 = F_class_NaN := phiA_L (e := ⟨37, _, F_class_NaN⟩) rfl rfl rfl
theorem ph_DP_format_Emax : phiA LDB NZ ZZ 38 = F_format_Emax := phiA_L (e := ⟨38, _, F_format_Emax⟩) rfl rfl rfl
theorem ph_DP_format_Make : phiA LDB NZ ZZ 39 = F_format_Make := phiA_L (e := ⟨39, _, F_format_Make⟩) rfl rfl rfl
theorem ph_DP_div_Div : phiA LDB NZ ZZ 25 = F_div_Div := phiA_L (e := ⟨25, _, F_div_Div⟩) rfl rfl rfl
theorem ph_DP_mul_Mul : phiA LDB NZ ZZ 18 = F_mul_Mul := phiA_L (e := ⟨18, _, F_mul_Mul⟩) rfl rfl rfl
end Go.Proofs.YtngiodcdelfdmaaGreatDoor
