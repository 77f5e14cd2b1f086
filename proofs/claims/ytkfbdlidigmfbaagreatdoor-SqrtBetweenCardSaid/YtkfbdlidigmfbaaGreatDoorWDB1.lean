import Derived.Test.YtkfbdlidigmfbaaGreatDoorWDTB1
namespace Go.Proofs.YtkfbdlidigmfbaaGreatDoor
set_option linter.unusedVariables false
set_option maxRecDepth 100000
open Go.RowKit
theorem ok_WD : SOK (ctxA LWD NZ ZZ) eE := ctxC_ok LWD_ok NZ_ok ZZ_ok (by kernel_rfl)
def c_law22_widened : Ct := ⟨[.sc kB, .agg [kU, kU]], [.agg [kU, kU]]⟩
def tailW (n h : Nat) : Tr' SV :=
 (.ite (.bin .gtr .i64 (.var kI 4) (.lit 0))
 (.call 17 [(.var kB 0)] n 1
 (.call 17 [(.bin .add .u8 (.var kB 0) (.lit 1))] (n + 1) 1
 (.call 16 [(.bin .add .u8 (.var kB 0) (.lit 1)), (.lit 0), (.bin .add .i64 (.bin .sub .i64 (.var kI 4) (.var kI n)) (.var kI (n + 1))), (.var kU h), (.var kU (h + 1))] (n + 2) 2
 (.leaf (.agg [(.int .u64 (.var kU (n + 2))), (.int .u64 (.var kU (n + 3)))])))))
 (.call 17 [(.bin .add .u8 (.var kB 0) (.lit 1))] n 1
 (.call 16 [(.bin .add .u8 (.var kB 0) (.lit 1)), (.lit 0), (.var kI n), (.var kU h), (.var kU (h + 1))] (n + 1) 2
 (.call 37 [(.bin .add .u8 (.var kB 0) (.lit 1)), (.lit 0), (.lit 0), (.var kU (n + 1)), (.var kU (n + 2)), (.var kU 8), (.var kU 9)] (n + 3) 3
 (.call 17 [(.var kB 0)] (n + 6) 1
 (.call 17 [(.bin .add .u8 (.var kB 0) (.lit 1))] (n + 7) 1
 (.call 16 [(.bin .add .u8 (.var kB 0) (.lit 1)), (.lit 0), (.bin .add .i64 (.bin .sub .i64 (.lit 1) (.var kI (n + 6))) (.var kI (n + 7))), (.lit 0), (.lit 0)] (n + 8) 2
 (.call 19 [(.bin .add .u8 (.var kB 0) (.lit 1)), (.lit 0), (.lit 0), (.var kU (n + 3)), (.var kU (n + 4)), (.var kU (n + 8)), (.var kU (n + 9))] (n + 10) 3
 (.leaf (.agg [(.int .u64 (.var kU (n + 10))), (.int .u64 (.var kU (n + 11)))]))))))))))
def loopW : Nat → Nat → Nat → Nat → Tr' SV
 | 0, i, n, h => .call 24 [(.bin .add .u8 (.var kB 0) (.lit 1))] n 1 (.call 24 [(.var kB 0)] (n + 1) 1 (.ite (.bin .lss .i64 (.lit (Int.ofNat i)) (.bin .sub .i64 (.var kI n) (.var kI (n + 1)))) (.stuck "no fuel") (.stuck "no fuel")))
 | k + 1, i, n, h => .call 24 [(.bin .add .u8 (.var kB 0) (.lit 1))] n 1 (.call 24 [(.var kB 0)] (n + 1) 1 (.ite (.bin .lss .i64 (.lit (Int.ofNat i)) (.bin .sub .i64 (.var kI n) (.var kI (n + 1))))
  (.call 9 [(.var kU h), (.var kU (h + 1)), (.var kU h), (.var kU (h + 1))] (n + 2) 3 (loopW k (i + 1) (n + 5) (n + 2))) (tailW (n + 2) h)))
def t_law22_widened : Tr' SV :=
 (.call 21 [(.var kB 0), (.var kU 1), (.var kU 2)] 3 4
 (.call 17 [(.bin .add .u8 (.var kB 0) (.lit 1))] 7 1
 (.call 16 [(.bin .add .u8 (.var kB 0) (.lit 1)), (.lit 0), (.var kI 7), (.lit 0), (.lit 0)] 8 2
 (loopW 61 0 10 5))))
theorem x_law22_widened : execF (ctxA LWD NZ ZZ) 72 11 (uns c_law22_widened.a (varsAt 0 (kindsOf c_law22_widened.a))) (kindsOf c_law22_widened.a).length = t_law22_widened := by kernel_rfl
def F_law22_widened : List Int → List Int := treeF (phiA LWD NZ ZZ) c_law22_widened t_law22_widened
theorem e_law22_widened : EntC Tryz.prog gG ⟨11, c_law22_widened, F_law22_widened⟩ := entC_of ok_WD 72 (by kernel_rfl) x_law22_widened (by kernel_rfl)
def LWD2 : List Ent := ⟨11, c_law22_widened, F_law22_widened⟩ :: LWD
theorem LWD2_ok : ∀ e ∈ LWD2, EntC Tryz.prog gG e := List.forall_mem_cons.2 ⟨e_law22_widened, LWD_ok⟩
theorem ph_WD_format_Split : phiA LWD NZ ZZ 21 = F_format_Split := phiA_L (e := ⟨21, _, F_format_Split⟩) rfl rfl rfl
theorem ph_WD_format_Emax : phiA LWD NZ ZZ 17 = F_format_Emax := phiA_L (e := ⟨17, _, F_format_Emax⟩) rfl rfl rfl
theorem ph_WD_format_Make : phiA LWD NZ ZZ 16 = F_format_Make := phiA_L (e := ⟨16, _, F_format_Make⟩) rfl rfl rfl
theorem ph_WD_format_Prec : phiA LWD NZ ZZ 24 = F_format_Prec := phiA_L (e := ⟨24, _, F_format_Prec⟩) rfl rfl rfl
theorem ph_WD_word_Add : phiA LWD NZ ZZ 9 = F_word_Add := phiA_L (e := ⟨9, _, F_word_Add⟩) rfl rfl rfl
theorem ph_WD_addsub_Sub : phiA LWD NZ ZZ 37 = F_addsub_Sub := phiA_L (e := ⟨37, _, F_addsub_Sub⟩) rfl rfl rfl
theorem ph_WD_mul_Mul : phiA LWD NZ ZZ 19 = F_mul_Mul := phiA_L (e := ⟨19, _, F_mul_Mul⟩) rfl rfl rfl
end Go.Proofs.YtkfbdlidigmfbaaGreatDoor
