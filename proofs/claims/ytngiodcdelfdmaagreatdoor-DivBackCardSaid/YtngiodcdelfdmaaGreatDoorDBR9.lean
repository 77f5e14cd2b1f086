import Derived.Test.YtngiodcdelfdmaaGreatDoorDBTR9
namespace Go.Proofs.YtngiodcdelfdmaaGreatDoor
set_option linter.unusedVariables false
set_option maxRecDepth 100000
open Go.RowKit
theorem ok_DB : SOK (ctxA LDB NZ ZZ) eE := ctxC_ok LDB_ok NZ_ok ZZ_ok (by kernel_rfl)
def c_law21_DivBack : Ct := ⟨[.sc kB, .agg [kU, kU], .agg [kU, kU]], [.sc .bool]⟩
def t_law21_DivBack : Tr' SV :=
 (.call 43 [(.var kB 0), (.var kU 1), (.var kU 2)] 5 1
 (.ite (.not (.var .bool 5))
 (.leaf (.bool (.lit 1)))
 (.call 43 [(.var kB 0), (.var kU 3), (.var kU 4)] 6 1
 (.ite (.not (.var .bool 6))
 (.leaf (.bool (.lit 1)))
 (.call 25 [(.var kB 0), (.lit 4), (.lit 0), (.var kU 1), (.var kU 2), (.var kU 3), (.var kU 4)] 7 3
 (.call 44 [(.var kB 0), (.var kU 7), (.var kU 8)] 10 2
 (.ite (.bin .eql .u8 (.var kB 9) (.lit 0))
 (.call 18 [(.var kB 0), (.lit 4), (.lit 0), (.var kU 7), (.var kU 8), (.var kU 3), (.var kU 4)] 12 3
 (.call 45 [(.var kB 0), (.var kU 1), (.var kU 2)] 15 2
 (.ite (.and (.bin .eql .u64 (.var kU 12) (.var kU 15)) (.and (.bin .eql .u64 (.var kU 13) (.var kU 16)) (.lit 1)))
 (.leaf (.bool (.lit 1)))
 (.leaf (.bool (.lit 0))))))
 (.ite (.bin .neq .u8 (.var kB 10) (.lit 2))
 (.leaf (.bool (.lit 1)))
 (.ite (.bin .neq .u8 (.var kB 9) (.lit 16))
 (.leaf (.bool (.lit 1)))
 (.call 46 [(.var kB 0), (.var kU 7), (.var kU 8)] 12 2
 (.call 40 [(.var kB 0), (.lit 1), (.lit 0), (.var kU 12), (.var kU 13), (.var kU 3), (.var kU 4), (.var kU 1), (.var kU 2)] 14 3
 (.call 44 [(.var kB 0), (.var kU 1), (.var kU 2)] 17 2
 (.call 44 [(.var kB 0), (.var kU 14), (.var kU 15)] 19 2
 (.ite (.bin .neq .u8 (.var kB 19) (.lit 0))
 (.ite (.not (.beq (.var .bool 20) (.var .bool 18)))
 (.leaf (.bool (.lit 0)))
 (.ite (.bin .eql .u64 (.bin .add .u64 (.var kU 8) (.lit 1)) (.lit 0))
 (.call 47 [(.var kB 0), (.bin .add .u64 (.var kU 7) (.lit 1)), (.bin .add .u64 (.var kU 8) (.lit 1))] 21 1
 (.ite (.not (.var .bool 21))
 (.leaf (.bool (.lit 1)))
 (.call 46 [(.var kB 0), (.bin .add .u64 (.var kU 7) (.lit 1)), (.bin .add .u64 (.var kU 8) (.lit 1))] 22 2
 (.call 40 [(.var kB 0), (.lit 1), (.lit 0), (.var kU 22), (.var kU 23), (.var kU 3), (.var kU 4), (.var kU 1), (.var kU 2)] 24 3
 (.call 44 [(.var kB 0), (.var kU 24), (.var kU 25)] 27 2
 (.ite (.bin .eql .u8 (.var kB 27) (.lit 0))
 (.leaf (.bool (.lit 1)))
 (.ite (.not (.beq (.var .bool 28) (.var .bool 18)))
 (.leaf (.bool (.lit 1)))
 (.leaf (.bool (.lit 0))))))))))
 (.call 47 [(.var kB 0), (.var kU 7), (.bin .add .u64 (.var kU 8) (.lit 1))] 21 1
 (.ite (.not (.var .bool 21))
 (.leaf (.bool (.lit 1)))
 (.call 46 [(.var kB 0), (.var kU 7), (.bin .add .u64 (.var kU 8) (.lit 1))] 22 2
 (.call 40 [(.var kB 0), (.lit 1), (.lit 0), (.var kU 22), (.var kU 23), (.var kU 3), (.var kU 4), (.var kU 1), (.var kU 2)] 24 3
 (.call 44 [(.var kB 0), (.var kU 24), (.var kU 25)] 27 2
 (.ite (.bin .eql .u8 (.var kB 27) (.lit 0))
 (.leaf (.bool (.lit 1)))
 (.ite (.not (.beq (.var .bool 28) (.var .bool 18)))
 (.leaf (.bool (.lit 1)))
 (.leaf (.bool (.lit 0))))))))))))
 (.ite (.bin .eql .u64 (.bin .add .u64 (.var kU 8) (.lit 1)) (.lit 0))
 (.call 47 [(.var kB 0), (.bin .add .u64 (.var kU 7) (.lit 1)), (.bin .add .u64 (.var kU 8) (.lit 1))] 21 1
 (.ite (.not (.var .bool 21))
 (.leaf (.bool (.lit 1)))
 (.call 46 [(.var kB 0), (.bin .add .u64 (.var kU 7) (.lit 1)), (.bin .add .u64 (.var kU 8) (.lit 1))] 22 2
 (.call 40 [(.var kB 0), (.lit 1), (.lit 0), (.var kU 22), (.var kU 23), (.var kU 3), (.var kU 4), (.var kU 1), (.var kU 2)] 24 3
 (.call 44 [(.var kB 0), (.var kU 24), (.var kU 25)] 27 2
 (.ite (.bin .eql .u8 (.var kB 27) (.lit 0))
 (.leaf (.bool (.lit 1)))
 (.ite (.not (.beq (.var .bool 28) (.var .bool 18)))
 (.leaf (.bool (.lit 1)))
 (.leaf (.bool (.lit 0))))))))))
 (.call 47 [(.var kB 0), (.var kU 7), (.bin .add .u64 (.var kU 8) (.lit 1))] 21 1
 (.ite (.not (.var .bool 21))
 (.leaf (.bool (.lit 1)))
 (.call 46 [(.var kB 0), (.var kU 7), (.bin .add .u64 (.var kU 8) (.lit 1))] 22 2
 (.call 40 [(.var kB 0), (.lit 1), (.lit 0), (.var kU 22), (.var kU 23), (.var kU 3), (.var kU 4), (.var kU 1), (.var kU 2)] 24 3
 (.call 44 [(.var kB 0), (.var kU 24), (.var kU 25)] 27 2
 (.ite (.bin .eql .u8 (.var kB 27) (.lit 0))
 (.leaf (.bool (.lit 1)))
 (.ite (.not (.beq (.var .bool 28) (.var .bool 18)))
 (.leaf (.bool (.lit 1)))
 (.leaf (.bool (.lit 0)))))))))))))))))))))))))
theorem x_law21_DivBack : execF (ctxA LDB NZ ZZ) 3000 11 (uns c_law21_DivBack.a (varsAt 0 (kindsOf c_law21_DivBack.a))) (kindsOf c_law21_DivBack.a).length = t_law21_DivBack := by kernel_rfl
def F_law21_DivBack : List Int → List Int := treeF (phiA LDB NZ ZZ) c_law21_DivBack t_law21_DivBack
theorem e_law21_DivBack : EntC Tryz.prog gG ⟨11, c_law21_DivBack, F_law21_DivBack⟩ := entC_of ok_DB 3000 (by kernel_rfl) x_law21_DivBack (by kernel_rfl)
theorem ph_DB_law21_plain : phiA LDB NZ ZZ 43 = F_law21_plain := phiA_L (e := ⟨43, _, F_law21_plain⟩) rfl rfl rfl
theorem ph_DB_div_Div : phiA LDB NZ ZZ 25 = F_div_Div := phiA_L (e := ⟨25, _, F_div_Div⟩) rfl rfl rfl
theorem ph_DB_class_Of : phiA LDB NZ ZZ 44 = F_class_Of := phiA_L (e := ⟨44, _, F_class_Of⟩) rfl rfl rfl
theorem ph_DB_mul_Mul : phiA LDB NZ ZZ 18 = F_mul_Mul := phiA_L (e := ⟨18, _, F_mul_Mul⟩) rfl rfl rfl
theorem ph_DB_format_Cut : phiA LDB NZ ZZ 45 = F_format_Cut := phiA_L (e := ⟨45, _, F_format_Cut⟩) rfl rfl rfl
theorem ph_DB_addsub_Turn : phiA LDB NZ ZZ 46 = F_addsub_Turn := phiA_L (e := ⟨46, _, F_addsub_Turn⟩) rfl rfl rfl
theorem ph_DB_fma_Fma : phiA LDB NZ ZZ 40 = F_fma_Fma := phiA_L (e := ⟨40, _, F_fma_Fma⟩) rfl rfl rfl
theorem ph_DB_class_Finite : phiA LDB NZ ZZ 47 = F_class_Finite := phiA_L (e := ⟨47, _, F_class_Finite⟩) rfl rfl rfl
end Go.Proofs.YtngiodcdelfdmaaGreatDoor
