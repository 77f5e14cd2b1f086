import Derived.Test.YtafnnnhmplgkcaaGreatDoorQ5Sf
/- Contracts of this seat's functions: their trees, made by a program (sxgen), and that the executor answers just these. -/
namespace Go.Proofs.YtafnnnhmplgkcaaGreatDoor
set_option linter.unusedVariables false
set_option maxRecDepth 100000
open Go.RowKit
theorem ok_V5 : SOK (ctxA E53 M0 S1) eE := ctxA_ok E53_ok M0_ok S1_ok (by kernel_rfl)
def c_law22_SqrtFour : Ct := ⟨[.sc kB, .agg [kB, .bool], .agg [kU, kU]], [.sc .bool]⟩
def t_law22_SqrtFour : Tr' SV :=
 (.call 16 [(.var kB 0), (.var kU 3), (.var kU 4)] 5 2
 (.call 21 [(.var kB 0), (.var kU 5), (.var kU 6)] 7 4
 (.ite (.not (.bin .lss .i64 (.var kB 0) (.lit 4)))
 (.leaf (.bool (.lit 1)))
 (.ite (.bin .lss .i64 (.var kI 8) (.lit 1))
 (.leaf (.bool (.lit 1)))
 (.call 22 [(.var kB 0)] 11 1
 (.ite (.bin .gtr .i64 (.bin .add .i64 (.var kI 8) (.lit 2)) (.bin .mul .i64 (.lit 2) (.var kI 11)))
 (.leaf (.bool (.lit 1)))
 (.call 20 [(.var kB 0), (.bin .rem .u8 (.var kB 1) (.lit 5)), (.var .bool 2), (.var kU 5), (.var kU 6)] 12 3
 (.call 23 [(.var kB 0), (.lit 0), (.bin .add .i64 (.var kI 8) (.lit 2)), (.var kU 9), (.var kU 10)] 15 2
 (.call 20 [(.var kB 0), (.bin .rem .u8 (.var kB 1) (.lit 5)), (.var .bool 2), (.var kU 15), (.var kU 16)] 17 3
 (.call 24 [(.var kB 0), (.bin .rem .u8 (.var kB 1) (.lit 5)), (.var .bool 2), (.var kU 12), (.var kU 13), (.var kU 12), (.var kU 13)] 20 3
 (.ite (.and (.bin .eql .u64 (.var kU 17) (.var kU 20)) (.and (.bin .eql .u64 (.var kU 18) (.var kU 21)) (.lit 1)))
 (.ite (.bin .eql .u8 (.var kB 19) (.var kB 14))
 (.leaf (.bool (.lit 1)))
 (.leaf (.bool (.lit 0))))
 (.leaf (.bool (.lit 0))))))))))))))
theorem x_law22_SqrtFour : execF (ctxA E53 M0 S1) 3000 5 (uns c_law22_SqrtFour.a (varsAt 0 (kindsOf c_law22_SqrtFour.a))) (kindsOf c_law22_SqrtFour.a).length = t_law22_SqrtFour := by kernel_rfl
def F_law22_SqrtFour : List Int → List Int := treeF (phiA E53 M0 S1) c_law22_SqrtFour t_law22_SqrtFour
theorem e_law22_SqrtFour : EntOK Tryz.prog gG ⟨5, c_law22_SqrtFour, F_law22_SqrtFour⟩ := ent_any ok_V5 3000 x_law22_SqrtFour (by kernel_rfl)
theorem ph_V5_law22_size : phiA E53 M0 S1 16 = F_law22_size := phiA_L (e := ⟨16, _, F_law22_size⟩) rfl rfl rfl
theorem ph_V5_format_Split : phiA E53 M0 S1 21 = F_format_Split := phiA_L (e := ⟨21, _, F_format_Split⟩) rfl rfl rfl
theorem ph_V5_format_Emax : phiA E53 M0 S1 22 = F_format_Emax := phiA_L (e := ⟨22, _, F_format_Emax⟩) rfl rfl rfl
theorem ph_V5_sqrt_Sqrt : phiA E53 M0 S1 20 = F_sqrt_Sqrt := phiA_L (e := ⟨20, _, F_sqrt_Sqrt⟩) rfl rfl rfl
theorem ph_V5_format_Make : phiA E53 M0 S1 23 = F_format_Make := phiA_L (e := ⟨23, _, F_format_Make⟩) rfl rfl rfl
theorem ph_V5_addsub_Add : phiA E53 M0 S1 24 = F_addsub_Add := phiA_L (e := ⟨24, _, F_addsub_Add⟩) rfl rfl rfl
end Go.Proofs.YtafnnnhmplgkcaaGreatDoor
