import Derived.Test.YtkfbdlidigmfbaaGreatDoorSBTB1
namespace Go.Proofs.YtkfbdlidigmfbaaGreatDoor
set_option linter.unusedVariables false
set_option maxRecDepth 100000
open Go.RowKit
theorem ok_SB1 : SOK (ctxA LSB NZ ZZ) eE := ctxC_ok LSB_ok NZ_ok ZZ_ok (by kernel_rfl)
def c_law22_square : Ct := ⟨[.sc kB, .agg [kU, kU]], [.agg [kU, kU]]⟩
def t_law22_square : Tr' SV :=
 (.call 11 [(.var kB 0), (.var kU 1), (.var kU 2)] 3 2
 (.call 19 [(.bin .add .u8 (.var kB 0) (.lit 1)), (.lit 0), (.lit 0), (.var kU 3), (.var kU 4), (.var kU 3), (.var kU 4)] 5 3
 (.leaf (.agg [(.int .u64 (.var kU 5)), (.int .u64 (.var kU 6))]))))
theorem x_law22_square : execF (ctxA LSB NZ ZZ) 3000 10 (uns c_law22_square.a (varsAt 0 (kindsOf c_law22_square.a))) (kindsOf c_law22_square.a).length = t_law22_square := by kernel_rfl
def F_law22_square : List Int → List Int := treeF (phiA LSB NZ ZZ) c_law22_square t_law22_square
theorem e_law22_square : EntC Tryz.prog gG ⟨10, c_law22_square, F_law22_square⟩ := entC_of ok_SB1 3000 (by kernel_rfl) x_law22_square (by kernel_rfl)
def LSB2 : List Ent := ⟨10, c_law22_square, F_law22_square⟩ :: LSB
theorem LSB2_ok : ∀ e ∈ LSB2, EntC Tryz.prog gG e := List.forall_mem_cons.2 ⟨e_law22_square, LSB_ok⟩
theorem ph_SB1_law22_widened : phiA LSB NZ ZZ 11 = F_law22_widened := phiA_L (e := ⟨11, _, F_law22_widened⟩) rfl rfl rfl
theorem ph_SB1_mul_Mul : phiA LSB NZ ZZ 19 = F_mul_Mul := phiA_L (e := ⟨19, _, F_mul_Mul⟩) rfl rfl rfl
end Go.Proofs.YtkfbdlidigmfbaaGreatDoor
