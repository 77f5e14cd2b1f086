/- Contracts of this seat's functions: their trees, made by a program (sxgen), and that the executor answers just these. -/
import Derived.Test.YtikjbocagnolmaaDoorG1
namespace Go.Proofs.YtikjbocagnolmaaDoor
set_option linter.unusedVariables false
set_option maxRecDepth 100000
open Go.RowKit
def c_format_Cut : Ct := ⟨[.sc kB, .agg [kU, kU]], [.agg [kU, kU]]⟩
def t_format_Cut : Tr' SV :=
 (.call 50 [(.var kB 0)] 3 1
 (.call 64 [(.var kU 1), (.var kU 2), (.bin .sub .i64 (.lit 128) (.var kI 3))] 4 2
 (.call 81 [(.var kU 4), (.var kU 5), (.bin .sub .i64 (.lit 128) (.var kI 3))] 6 2
 (.leaf (.agg [(.int .u64 (.var kU 6)), (.int .u64 (.var kU 7))])))))
theorem x_format_Cut : execF (ctx E1) 3000 21 (uns c_format_Cut.a (varsAt 0 (kindsOf c_format_Cut.a))) (kindsOf c_format_Cut.a).length = t_format_Cut := by kernel_rfl
def F_format_Cut : List Int → List Int := treeF (phiE E1) c_format_Cut t_format_Cut
theorem e_format_Cut : EntOK Tryd.prog gG ⟨21, c_format_Cut, F_format_Cut⟩ := ent_of (ctx_ok E1_ok) 3000 x_format_Cut (by kernel_rfl)
def c_format_Make : Ct := ⟨[.sc kB, .sc .bool, .sc kI, .agg [kU, kU]], [.agg [kU, kU]]⟩
def t_format_Make : Tr' SV :=
 (.ite (.bin .eql .i64 (.ite (.not (.bin .lss .i64 (.var kB 0) (.lit 4))) (.lit 0) (.ite (.bin .eql .i64 (.var kB 0) (.lit 0)) (.lit 16) (.ite (.bin .eql .i64 (.var kB 0) (.lit 1)) (.lit 32) (.ite (.bin .eql .i64 (.var kB 0) (.lit 2)) (.lit 64) (.lit 128))))) (.lit 0))
 (.leaf (.agg [(.int .u64 (.lit 0)), (.int .u64 (.lit 0))]))
 (.ite (.bin .lss .i64 (.var kI 2) (.lit 0))
 (.call 64 [(.lit 0), (.lit 0), (.bin .sub .i64 (.lit 128) (.bin .sub .i64 (.ite (.not (.bin .lss .i64 (.var kB 0) (.lit 4))) (.lit 0) (.ite (.bin .eql .i64 (.var kB 0) (.lit 0)) (.lit 16) (.ite (.bin .eql .i64 (.var kB 0) (.lit 1)) (.lit 32) (.ite (.bin .eql .i64 (.var kB 0) (.lit 2)) (.lit 64) (.lit 128))))) (.ite (.not (.bin .lss .i64 (.var kB 0) (.lit 4))) (.lit 0) (.ite (.bin .eql .i64 (.var kB 0) (.lit 0)) (.lit 11) (.ite (.bin .eql .i64 (.var kB 0) (.lit 1)) (.lit 24) (.ite (.bin .eql .i64 (.var kB 0) (.lit 2)) (.lit 53) (.lit 113)))))))] 5 2
 (.call 81 [(.var kU 5), (.var kU 6), (.bin .sub .i64 (.lit 128) (.bin .sub .i64 (.ite (.not (.bin .lss .i64 (.var kB 0) (.lit 4))) (.lit 0) (.ite (.bin .eql .i64 (.var kB 0) (.lit 0)) (.lit 16) (.ite (.bin .eql .i64 (.var kB 0) (.lit 1)) (.lit 32) (.ite (.bin .eql .i64 (.var kB 0) (.lit 2)) (.lit 64) (.lit 128))))) (.ite (.not (.bin .lss .i64 (.var kB 0) (.lit 4))) (.lit 0) (.ite (.bin .eql .i64 (.var kB 0) (.lit 0)) (.lit 11) (.ite (.bin .eql .i64 (.var kB 0) (.lit 1)) (.lit 24) (.ite (.bin .eql .i64 (.var kB 0) (.lit 2)) (.lit 53) (.lit 113)))))))] 7 2
 (.call 64 [(.var kU 7), (.var kU 8), (.bin .sub .i64 (.ite (.not (.bin .lss .i64 (.var kB 0) (.lit 4))) (.lit 0) (.ite (.bin .eql .i64 (.var kB 0) (.lit 0)) (.lit 11) (.ite (.bin .eql .i64 (.var kB 0) (.lit 1)) (.lit 24) (.ite (.bin .eql .i64 (.var kB 0) (.lit 2)) (.lit 53) (.lit 113))))) (.lit 1))] 9 2
 (.call 64 [(.var kU 3), (.var kU 4), (.bin .sub .i64 (.lit 128) (.bin .sub .i64 (.ite (.not (.bin .lss .i64 (.var kB 0) (.lit 4))) (.lit 0) (.ite (.bin .eql .i64 (.var kB 0) (.lit 0)) (.lit 11) (.ite (.bin .eql .i64 (.var kB 0) (.lit 1)) (.lit 24) (.ite (.bin .eql .i64 (.var kB 0) (.lit 2)) (.lit 53) (.lit 113))))) (.lit 1)))] 11 2
 (.call 81 [(.var kU 11), (.var kU 12), (.bin .sub .i64 (.lit 128) (.bin .sub .i64 (.ite (.not (.bin .lss .i64 (.var kB 0) (.lit 4))) (.lit 0) (.ite (.bin .eql .i64 (.var kB 0) (.lit 0)) (.lit 11) (.ite (.bin .eql .i64 (.var kB 0) (.lit 1)) (.lit 24) (.ite (.bin .eql .i64 (.var kB 0) (.lit 2)) (.lit 53) (.lit 113))))) (.lit 1)))] 13 2
 (.call 65 [(.var kU 9), (.var kU 10), (.var kU 13), (.var kU 14)] 15 3
 (.ite (.var .bool 1)
 (.call 64 [(.lit 0), (.lit 1), (.bin .sub .i64 (.ite (.not (.bin .lss .i64 (.var kB 0) (.lit 4))) (.lit 0) (.ite (.bin .eql .i64 (.var kB 0) (.lit 0)) (.lit 16) (.ite (.bin .eql .i64 (.var kB 0) (.lit 1)) (.lit 32) (.ite (.bin .eql .i64 (.var kB 0) (.lit 2)) (.lit 64) (.lit 128))))) (.lit 1))] 18 2
 (.call 65 [(.var kU 15), (.var kU 16), (.var kU 18), (.var kU 19)] 20 3
 (.leaf (.agg [(.int .u64 (.var kU 20)), (.int .u64 (.var kU 21))]))))
 (.leaf (.agg [(.int .u64 (.var kU 15)), (.int .u64 (.var kU 16))])))))))))
 (.ite (.bin .gtr .i64 (.var kI 2) (.lit 1048576))
 (.call 64 [(.lit 0), (.lit 0), (.bin .sub .i64 (.lit 128) (.bin .sub .i64 (.ite (.not (.bin .lss .i64 (.var kB 0) (.lit 4))) (.lit 0) (.ite (.bin .eql .i64 (.var kB 0) (.lit 0)) (.lit 16) (.ite (.bin .eql .i64 (.var kB 0) (.lit 1)) (.lit 32) (.ite (.bin .eql .i64 (.var kB 0) (.lit 2)) (.lit 64) (.lit 128))))) (.ite (.not (.bin .lss .i64 (.var kB 0) (.lit 4))) (.lit 0) (.ite (.bin .eql .i64 (.var kB 0) (.lit 0)) (.lit 11) (.ite (.bin .eql .i64 (.var kB 0) (.lit 1)) (.lit 24) (.ite (.bin .eql .i64 (.var kB 0) (.lit 2)) (.lit 53) (.lit 113)))))))] 5 2
 (.call 81 [(.var kU 5), (.var kU 6), (.bin .sub .i64 (.lit 128) (.bin .sub .i64 (.ite (.not (.bin .lss .i64 (.var kB 0) (.lit 4))) (.lit 0) (.ite (.bin .eql .i64 (.var kB 0) (.lit 0)) (.lit 16) (.ite (.bin .eql .i64 (.var kB 0) (.lit 1)) (.lit 32) (.ite (.bin .eql .i64 (.var kB 0) (.lit 2)) (.lit 64) (.lit 128))))) (.ite (.not (.bin .lss .i64 (.var kB 0) (.lit 4))) (.lit 0) (.ite (.bin .eql .i64 (.var kB 0) (.lit 0)) (.lit 11) (.ite (.bin .eql .i64 (.var kB 0) (.lit 1)) (.lit 24) (.ite (.bin .eql .i64 (.var kB 0) (.lit 2)) (.lit 53) (.lit 113)))))))] 7 2
 (.call 64 [(.var kU 7), (.var kU 8), (.bin .sub .i64 (.ite (.not (.bin .lss .i64 (.var kB 0) (.lit 4))) (.lit 0) (.ite (.bin .eql .i64 (.var kB 0) (.lit 0)) (.lit 11) (.ite (.bin .eql .i64 (.var kB 0) (.lit 1)) (.lit 24) (.ite (.bin .eql .i64 (.var kB 0) (.lit 2)) (.lit 53) (.lit 113))))) (.lit 1))] 9 2
 (.call 64 [(.var kU 3), (.var kU 4), (.bin .sub .i64 (.lit 128) (.bin .sub .i64 (.ite (.not (.bin .lss .i64 (.var kB 0) (.lit 4))) (.lit 0) (.ite (.bin .eql .i64 (.var kB 0) (.lit 0)) (.lit 11) (.ite (.bin .eql .i64 (.var kB 0) (.lit 1)) (.lit 24) (.ite (.bin .eql .i64 (.var kB 0) (.lit 2)) (.lit 53) (.lit 113))))) (.lit 1)))] 11 2
 (.call 81 [(.var kU 11), (.var kU 12), (.bin .sub .i64 (.lit 128) (.bin .sub .i64 (.ite (.not (.bin .lss .i64 (.var kB 0) (.lit 4))) (.lit 0) (.ite (.bin .eql .i64 (.var kB 0) (.lit 0)) (.lit 11) (.ite (.bin .eql .i64 (.var kB 0) (.lit 1)) (.lit 24) (.ite (.bin .eql .i64 (.var kB 0) (.lit 2)) (.lit 53) (.lit 113))))) (.lit 1)))] 13 2
 (.call 65 [(.var kU 9), (.var kU 10), (.var kU 13), (.var kU 14)] 15 3
 (.ite (.var .bool 1)
 (.call 64 [(.lit 0), (.lit 1), (.bin .sub .i64 (.ite (.not (.bin .lss .i64 (.var kB 0) (.lit 4))) (.lit 0) (.ite (.bin .eql .i64 (.var kB 0) (.lit 0)) (.lit 16) (.ite (.bin .eql .i64 (.var kB 0) (.lit 1)) (.lit 32) (.ite (.bin .eql .i64 (.var kB 0) (.lit 2)) (.lit 64) (.lit 128))))) (.lit 1))] 18 2
 (.call 65 [(.var kU 15), (.var kU 16), (.var kU 18), (.var kU 19)] 20 3
 (.leaf (.agg [(.int .u64 (.var kU 20)), (.int .u64 (.var kU 21))]))))
 (.leaf (.agg [(.int .u64 (.var kU 15)), (.int .u64 (.var kU 16))])))))))))
 (.call 64 [(.lit 0), (.conv .u64 (.var kI 2)), (.bin .sub .i64 (.lit 128) (.bin .sub .i64 (.ite (.not (.bin .lss .i64 (.var kB 0) (.lit 4))) (.lit 0) (.ite (.bin .eql .i64 (.var kB 0) (.lit 0)) (.lit 16) (.ite (.bin .eql .i64 (.var kB 0) (.lit 1)) (.lit 32) (.ite (.bin .eql .i64 (.var kB 0) (.lit 2)) (.lit 64) (.lit 128))))) (.ite (.not (.bin .lss .i64 (.var kB 0) (.lit 4))) (.lit 0) (.ite (.bin .eql .i64 (.var kB 0) (.lit 0)) (.lit 11) (.ite (.bin .eql .i64 (.var kB 0) (.lit 1)) (.lit 24) (.ite (.bin .eql .i64 (.var kB 0) (.lit 2)) (.lit 53) (.lit 113)))))))] 5 2
 (.call 81 [(.var kU 5), (.var kU 6), (.bin .sub .i64 (.lit 128) (.bin .sub .i64 (.ite (.not (.bin .lss .i64 (.var kB 0) (.lit 4))) (.lit 0) (.ite (.bin .eql .i64 (.var kB 0) (.lit 0)) (.lit 16) (.ite (.bin .eql .i64 (.var kB 0) (.lit 1)) (.lit 32) (.ite (.bin .eql .i64 (.var kB 0) (.lit 2)) (.lit 64) (.lit 128))))) (.ite (.not (.bin .lss .i64 (.var kB 0) (.lit 4))) (.lit 0) (.ite (.bin .eql .i64 (.var kB 0) (.lit 0)) (.lit 11) (.ite (.bin .eql .i64 (.var kB 0) (.lit 1)) (.lit 24) (.ite (.bin .eql .i64 (.var kB 0) (.lit 2)) (.lit 53) (.lit 113)))))))] 7 2
 (.call 64 [(.var kU 7), (.var kU 8), (.bin .sub .i64 (.ite (.not (.bin .lss .i64 (.var kB 0) (.lit 4))) (.lit 0) (.ite (.bin .eql .i64 (.var kB 0) (.lit 0)) (.lit 11) (.ite (.bin .eql .i64 (.var kB 0) (.lit 1)) (.lit 24) (.ite (.bin .eql .i64 (.var kB 0) (.lit 2)) (.lit 53) (.lit 113))))) (.lit 1))] 9 2
 (.call 64 [(.var kU 3), (.var kU 4), (.bin .sub .i64 (.lit 128) (.bin .sub .i64 (.ite (.not (.bin .lss .i64 (.var kB 0) (.lit 4))) (.lit 0) (.ite (.bin .eql .i64 (.var kB 0) (.lit 0)) (.lit 11) (.ite (.bin .eql .i64 (.var kB 0) (.lit 1)) (.lit 24) (.ite (.bin .eql .i64 (.var kB 0) (.lit 2)) (.lit 53) (.lit 113))))) (.lit 1)))] 11 2
 (.call 81 [(.var kU 11), (.var kU 12), (.bin .sub .i64 (.lit 128) (.bin .sub .i64 (.ite (.not (.bin .lss .i64 (.var kB 0) (.lit 4))) (.lit 0) (.ite (.bin .eql .i64 (.var kB 0) (.lit 0)) (.lit 11) (.ite (.bin .eql .i64 (.var kB 0) (.lit 1)) (.lit 24) (.ite (.bin .eql .i64 (.var kB 0) (.lit 2)) (.lit 53) (.lit 113))))) (.lit 1)))] 13 2
 (.call 65 [(.var kU 9), (.var kU 10), (.var kU 13), (.var kU 14)] 15 3
 (.ite (.var .bool 1)
 (.call 64 [(.lit 0), (.lit 1), (.bin .sub .i64 (.ite (.not (.bin .lss .i64 (.var kB 0) (.lit 4))) (.lit 0) (.ite (.bin .eql .i64 (.var kB 0) (.lit 0)) (.lit 16) (.ite (.bin .eql .i64 (.var kB 0) (.lit 1)) (.lit 32) (.ite (.bin .eql .i64 (.var kB 0) (.lit 2)) (.lit 64) (.lit 128))))) (.lit 1))] 18 2
 (.call 65 [(.var kU 15), (.var kU 16), (.var kU 18), (.var kU 19)] 20 3
 (.leaf (.agg [(.int .u64 (.var kU 20)), (.int .u64 (.var kU 21))]))))
 (.leaf (.agg [(.int .u64 (.var kU 15)), (.int .u64 (.var kU 16))]))))))))))))
theorem x_format_Make : execF (ctx E1) 3000 38 (uns c_format_Make.a (varsAt 0 (kindsOf c_format_Make.a))) (kindsOf c_format_Make.a).length = t_format_Make := by kernel_rfl
def F_format_Make : List Int → List Int := treeF (phiE E1) c_format_Make t_format_Make
theorem e_format_Make : EntOK Tryd.prog gG ⟨38, c_format_Make, F_format_Make⟩ := ent_of (ctx_ok E1_ok) 3000 x_format_Make (by kernel_rfl)
def c_wide_Mul : Ct := ⟨[.agg [kU, kU], .agg [kU, kU]], [.agg [kU, kU, kU, kU]]⟩
def t_wide_Mul : Tr' SV :=
 (.call 90 [(.var kU 0), (.var kU 2)] 4 2
 (.call 90 [(.var kU 1), (.var kU 3)] 6 2
 (.call 48 [(.var kU 4), (.var kU 5), (.var kU 6), (.var kU 7)] 8 4
 (.call 90 [(.var kU 0), (.var kU 3)] 12 2
 (.call 90 [(.var kU 1), (.var kU 2)] 14 2
 (.call 91 [(.var kU 8), (.var kU 9), (.var kU 10), (.var kU 11), (.lit 0), (.var kU 13), (.var kU 12), (.lit 0)] 16 5
 (.call 91 [(.var kU 16), (.var kU 17), (.var kU 18), (.var kU 19), (.lit 0), (.var kU 15), (.var kU 14), (.lit 0)] 21 5
 (.leaf (.agg [(.int .u64 (.var kU 21)), (.int .u64 (.var kU 22)), (.int .u64 (.var kU 23)), (.int .u64 (.var kU 24))])))))))))
theorem x_wide_Mul : execF (ctx E1) 3000 59 (uns c_wide_Mul.a (varsAt 0 (kindsOf c_wide_Mul.a))) (kindsOf c_wide_Mul.a).length = t_wide_Mul := by kernel_rfl
def F_wide_Mul : List Int → List Int := treeF (phiE E1) c_wide_Mul t_wide_Mul
theorem e_wide_Mul : EntOK Tryd.prog gG ⟨59, c_wide_Mul, F_wide_Mul⟩ := ent_of (ctx_ok E1_ok) 3000 x_wide_Mul (by kernel_rfl)
def c_count_Raise : Ct := ⟨[.agg [kU, kU]], [.agg [kU, kU], .sc kI]⟩
def t_count_Raise : Tr' SV :=
 (.call 48 [(.var kU 0), (.var kU 1), (.lit 0), (.lit 0)] 2 4
 (.call 105 [(.var kU 2), (.var kU 3), (.var kU 4), (.var kU 5)] 6 1
 (.ite (.bin .eql .i64 (.var kI 6) (.lit 0))
 (.call 106 [(.var kU 2), (.var kU 3), (.var kU 4), (.var kU 5)] 7 2
 (.leaf (.tup [(.agg [(.int .u64 (.var kU 7)), (.int .u64 (.var kU 8))]), (.int .i64 (.lit 0))])))
 (.call 62 [(.var kU 2), (.var kU 3), (.var kU 4), (.var kU 5), (.bin .sub .i64 (.lit 256) (.var kI 6))] 7 4
 (.call 106 [(.var kU 7), (.var kU 8), (.var kU 9), (.var kU 10)] 11 2
 (.leaf (.tup [(.agg [(.int .u64 (.var kU 11)), (.int .u64 (.var kU 12))]), (.int .i64 (.bin .sub .i64 (.lit 256) (.var kI 6)))])))))))
theorem x_count_Raise : execF (ctx E1) 3000 69 (uns c_count_Raise.a (varsAt 0 (kindsOf c_count_Raise.a))) (kindsOf c_count_Raise.a).length = t_count_Raise := by kernel_rfl
def F_count_Raise : List Int → List Int := treeF (phiE E1) c_count_Raise t_count_Raise
theorem e_count_Raise : EntOK Tryd.prog gG ⟨69, c_count_Raise, F_count_Raise⟩ := ent_of (ctx_ok E1_ok) 3000 x_count_Raise (by kernel_rfl)
def c_over_Beyond : Ct := ⟨[.sc kB, .sc kI], [.sc .bool]⟩
def t_over_Beyond : Tr' SV :=
 (.ite (.bin .lss .i64 (.var kB 0) (.lit 4))
 (.call 39 [(.var kB 0)] 2 1
 (.leaf (.bool (.bin .gtr .i64 (.var kI 1) (.var kI 2)))))
 (.leaf (.bool (.lit 0))))
theorem x_over_Beyond : execF (ctx E1) 3000 76 (uns c_over_Beyond.a (varsAt 0 (kindsOf c_over_Beyond.a))) (kindsOf c_over_Beyond.a).length = t_over_Beyond := by kernel_rfl
def F_over_Beyond : List Int → List Int := treeF (phiE E1) c_over_Beyond t_over_Beyond
theorem e_over_Beyond : EntOK Tryd.prog gG ⟨76, c_over_Beyond, F_over_Beyond⟩ := ent_of (ctx_ok E1_ok) 3000 x_over_Beyond (by kernel_rfl)
def c_shift_Lost : Ct := ⟨[.agg [kU, kU, kU, kU], .sc kI], [.sc .bool]⟩
def t_shift_Lost : Tr' SV :=
 (.call 109 [(.var kU 0), (.var kU 1), (.var kU 2), (.var kU 3), (.var kI 4)] 5 4
 (.call 62 [(.var kU 5), (.var kU 6), (.var kU 7), (.var kU 8), (.var kI 4)] 9 4
 (.leaf (.bool (.not (.and (.bin .eql .u64 (.var kU 9) (.var kU 0)) (.and (.bin .eql .u64 (.var kU 10) (.var kU 1)) (.and (.bin .eql .u64 (.var kU 11) (.var kU 2)) (.and (.bin .eql .u64 (.var kU 12) (.var kU 3)) (.lit 1))))))))))
theorem x_shift_Lost : execF (ctx E1) 3000 101 (uns c_shift_Lost.a (varsAt 0 (kindsOf c_shift_Lost.a))) (kindsOf c_shift_Lost.a).length = t_shift_Lost := by kernel_rfl
def F_shift_Lost : List Int → List Int := treeF (phiE E1) c_shift_Lost t_shift_Lost
theorem e_shift_Lost : EntOK Tryd.prog gG ⟨101, c_shift_Lost, F_shift_Lost⟩ := ent_of (ctx_ok E1_ok) 3000 x_shift_Lost (by kernel_rfl)
def c_count_WideRaise : Ct := ⟨[.agg [kU, kU, kU, kU]], [.agg [kU, kU, kU, kU], .sc kI]⟩
def t_count_WideRaise : Tr' SV :=
 (.call 105 [(.var kU 0), (.var kU 1), (.var kU 2), (.var kU 3)] 4 1
 (.ite (.bin .eql .i64 (.var kI 4) (.lit 0))
 (.leaf (.tup [(.agg [(.int .u64 (.var kU 0)), (.int .u64 (.var kU 1)), (.int .u64 (.var kU 2)), (.int .u64 (.var kU 3))]), (.int .i64 (.lit 0))]))
 (.call 62 [(.var kU 0), (.var kU 1), (.var kU 2), (.var kU 3), (.bin .sub .i64 (.lit 256) (.var kI 4))] 5 4
 (.leaf (.tup [(.agg [(.int .u64 (.var kU 5)), (.int .u64 (.var kU 6)), (.int .u64 (.var kU 7)), (.int .u64 (.var kU 8))]), (.int .i64 (.bin .sub .i64 (.lit 256) (.var kI 4)))])))))
theorem x_count_WideRaise : execF (ctx E1) 3000 107 (uns c_count_WideRaise.a (varsAt 0 (kindsOf c_count_WideRaise.a))) (kindsOf c_count_WideRaise.a).length = t_count_WideRaise := by kernel_rfl
def F_count_WideRaise : List Int → List Int := treeF (phiE E1) c_count_WideRaise t_count_WideRaise
theorem e_count_WideRaise : EntOK Tryd.prog gG ⟨107, c_count_WideRaise, F_count_WideRaise⟩ := ent_of (ctx_ok E1_ok) 3000 x_count_WideRaise (by kernel_rfl)
def c_quot_next : Ct := ⟨[.agg [kU, kU], .sc kU, .agg [kU, kU]], [.agg [kU, kU], .sc .bool]⟩
def t_quot_next : Tr' SV :=
 (.call 65 [(.var kU 0), (.var kU 1), (.var kU 0), (.var kU 1)] 5 3
 (.call 120 [(.var kU 5), (.bin .or .u64 (.var kU 6) (.var kU 2)), (.var kU 3), (.var kU 4)] 8 3
 (.ite (.var .bool 7)
 (.leaf (.tup [(.agg [(.int .u64 (.var kU 8)), (.int .u64 (.var kU 9))]), (.bool (.lit 1))]))
 (.ite (.not (.var .bool 10))
 (.leaf (.tup [(.agg [(.int .u64 (.var kU 8)), (.int .u64 (.var kU 9))]), (.bool (.lit 1))]))
 (.leaf (.tup [(.agg [(.int .u64 (.var kU 5)), (.int .u64 (.bin .or .u64 (.var kU 6) (.var kU 2)))]), (.bool (.lit 0))]))))))
theorem x_quot_next : execF (ctx E1) 3000 93 (uns c_quot_next.a (varsAt 0 (kindsOf c_quot_next.a))) (kindsOf c_quot_next.a).length = t_quot_next := by kernel_rfl
def F_quot_next : List Int → List Int := treeF (phiE E1) c_quot_next t_quot_next
theorem e_quot_next : EntOK Tryd.prog gG ⟨93, c_quot_next, F_quot_next⟩ := ent_of (ctx_ok E1_ok) 3000 x_quot_next (by kernel_rfl)
def E2 : List Ent := ⟨21, c_format_Cut, F_format_Cut⟩ :: ⟨38, c_format_Make, F_format_Make⟩ :: ⟨59, c_wide_Mul, F_wide_Mul⟩ :: ⟨69, c_count_Raise, F_count_Raise⟩ :: ⟨76, c_over_Beyond, F_over_Beyond⟩ :: ⟨101, c_shift_Lost, F_shift_Lost⟩ :: ⟨107, c_count_WideRaise, F_count_WideRaise⟩ :: ⟨93, c_quot_next, F_quot_next⟩ :: E1
theorem E2_ok : ∀ e ∈ E2, EntOK Tryd.prog gG e := List.forall_mem_cons.2 ⟨e_format_Cut, List.forall_mem_cons.2 ⟨e_format_Make, List.forall_mem_cons.2 ⟨e_wide_Mul, List.forall_mem_cons.2 ⟨e_count_Raise, List.forall_mem_cons.2 ⟨e_over_Beyond, List.forall_mem_cons.2 ⟨e_shift_Lost, List.forall_mem_cons.2 ⟨e_count_WideRaise, List.forall_mem_cons.2 ⟨e_quot_next, E1_ok⟩⟩⟩⟩⟩⟩⟩⟩
end Go.Proofs.YtikjbocagnolmaaDoor
