/- Contracts of this seat's functions: their trees, made by a program (sxgen), and that the executor answers just these. -/
import Derived.Test.YtikjbocagnolmaaDoorG2
namespace Go.Proofs.YtikjbocagnolmaaDoor
set_option linter.unusedVariables false
set_option maxRecDepth 100000
open Go.RowKit
def c_format_Cut : Ct := ⟨[.sc kB, .agg [kU, kU]], [.agg [kU, kU]]⟩
def t_format_Cut : Tr' SV :=
 (.call 50 [(.var kB 0)] 3 1
 (.call 49 [(.var kU 1), (.var kU 2), (.var kI 3)] 4 2
 (.leaf (.agg [(.int .u64 (.var kU 4)), (.int .u64 (.var kU 5))]))))
theorem x_format_Cut : execF (ctx E2) 3000 21 (uns c_format_Cut.a (varsAt 0 (kindsOf c_format_Cut.a))) (kindsOf c_format_Cut.a).length = t_format_Cut := by kernel_rfl
def F_format_Cut : List Int → List Int := treeF (phiE E2) c_format_Cut t_format_Cut
theorem e_format_Cut : EntOK Tryd.prog gG ⟨21, c_format_Cut, F_format_Cut⟩ := ent_of (ctx_ok E2_ok) 3000 x_format_Cut (by kernel_rfl)
def c_format_Make : Ct := ⟨[.sc kB, .sc .bool, .sc kI, .agg [kU, kU]], [.agg [kU, kU]]⟩
def t_format_Make : Tr' SV :=
 (.call 63 [(.var kB 0)] 5 3
 (.ite (.bin .eql .i64 (.var kI 5) (.lit 0))
 (.leaf (.agg [(.int .u64 (.lit 0)), (.int .u64 (.lit 0))]))
 (.ite (.bin .lss .i64 (.var kI 2) (.lit 0))
 (.call 49 [(.lit 0), (.lit 0), (.bin .sub .i64 (.var kI 5) (.var kI 6))] 8 2
 (.call 64 [(.var kU 8), (.var kU 9), (.bin .sub .i64 (.var kI 6) (.lit 1))] 10 2
 (.call 49 [(.var kU 3), (.var kU 4), (.bin .sub .i64 (.var kI 6) (.lit 1))] 12 2
 (.call 65 [(.var kU 10), (.var kU 11), (.var kU 12), (.var kU 13)] 14 3
 (.ite (.var .bool 1)
 (.call 64 [(.lit 0), (.lit 1), (.bin .sub .i64 (.var kI 5) (.lit 1))] 17 2
 (.call 65 [(.var kU 14), (.var kU 15), (.var kU 17), (.var kU 18)] 19 3
 (.leaf (.agg [(.int .u64 (.var kU 19)), (.int .u64 (.var kU 20))]))))
 (.leaf (.agg [(.int .u64 (.var kU 14)), (.int .u64 (.var kU 15))])))))))
 (.ite (.bin .gtr .i64 (.var kI 2) (.lit 1048576))
 (.call 49 [(.lit 0), (.lit 0), (.bin .sub .i64 (.var kI 5) (.var kI 6))] 8 2
 (.call 64 [(.var kU 8), (.var kU 9), (.bin .sub .i64 (.var kI 6) (.lit 1))] 10 2
 (.call 49 [(.var kU 3), (.var kU 4), (.bin .sub .i64 (.var kI 6) (.lit 1))] 12 2
 (.call 65 [(.var kU 10), (.var kU 11), (.var kU 12), (.var kU 13)] 14 3
 (.ite (.var .bool 1)
 (.call 64 [(.lit 0), (.lit 1), (.bin .sub .i64 (.var kI 5) (.lit 1))] 17 2
 (.call 65 [(.var kU 14), (.var kU 15), (.var kU 17), (.var kU 18)] 19 3
 (.leaf (.agg [(.int .u64 (.var kU 19)), (.int .u64 (.var kU 20))]))))
 (.leaf (.agg [(.int .u64 (.var kU 14)), (.int .u64 (.var kU 15))])))))))
 (.call 49 [(.lit 0), (.conv .u64 (.var kI 2)), (.bin .sub .i64 (.var kI 5) (.var kI 6))] 8 2
 (.call 64 [(.var kU 8), (.var kU 9), (.bin .sub .i64 (.var kI 6) (.lit 1))] 10 2
 (.call 49 [(.var kU 3), (.var kU 4), (.bin .sub .i64 (.var kI 6) (.lit 1))] 12 2
 (.call 65 [(.var kU 10), (.var kU 11), (.var kU 12), (.var kU 13)] 14 3
 (.ite (.var .bool 1)
 (.call 64 [(.lit 0), (.lit 1), (.bin .sub .i64 (.var kI 5) (.lit 1))] 17 2
 (.call 65 [(.var kU 14), (.var kU 15), (.var kU 17), (.var kU 18)] 19 3
 (.leaf (.agg [(.int .u64 (.var kU 19)), (.int .u64 (.var kU 20))]))))
 (.leaf (.agg [(.int .u64 (.var kU 14)), (.int .u64 (.var kU 15))])))))))))))
theorem x_format_Make : execF (ctx E2) 3000 38 (uns c_format_Make.a (varsAt 0 (kindsOf c_format_Make.a))) (kindsOf c_format_Make.a).length = t_format_Make := by kernel_rfl
def F_format_Make : List Int → List Int := treeF (phiE E2) c_format_Make t_format_Make
theorem e_format_Make : EntOK Tryd.prog gG ⟨38, c_format_Make, F_format_Make⟩ := ent_of (ctx_ok E2_ok) 3000 x_format_Make (by kernel_rfl)
def c_over_Beyond : Ct := ⟨[.sc kB, .sc kI], [.sc .bool]⟩
def t_over_Beyond : Tr' SV :=
 (.ite (.bin .lss .i64 (.var kB 0) (.lit 4))
 (.call 39 [(.var kB 0)] 2 1
 (.leaf (.bool (.bin .gtr .i64 (.var kI 1) (.var kI 2)))))
 (.leaf (.bool (.lit 0))))
theorem x_over_Beyond : execF (ctx E2) 3000 76 (uns c_over_Beyond.a (varsAt 0 (kindsOf c_over_Beyond.a))) (kindsOf c_over_Beyond.a).length = t_over_Beyond := by kernel_rfl
def F_over_Beyond : List Int → List Int := treeF (phiE E2) c_over_Beyond t_over_Beyond
theorem e_over_Beyond : EntOK Tryd.prog gG ⟨76, c_over_Beyond, F_over_Beyond⟩ := ent_of (ctx_ok E2_ok) 3000 x_over_Beyond (by kernel_rfl)
def c_shift_WideJam : Ct := ⟨[.agg [kU, kU, kU, kU], .sc kI], [.agg [kU, kU, kU, kU]]⟩
def t_shift_WideJam : Tr' SV :=
 (.call 109 [(.var kU 0), (.var kU 1), (.var kU 2), (.var kU 3), (.var kI 4)] 5 4
 (.call 101 [(.var kU 0), (.var kU 1), (.var kU 2), (.var kU 3), (.var kI 4)] 9 1
 (.ite (.var .bool 9)
 (.leaf (.agg [(.int .u64 (.bin .or .u64 (.var kU 5) (.lit 1))), (.int .u64 (.var kU 6)), (.int .u64 (.var kU 7)), (.int .u64 (.var kU 8))]))
 (.leaf (.agg [(.int .u64 (.var kU 5)), (.int .u64 (.var kU 6)), (.int .u64 (.var kU 7)), (.int .u64 (.var kU 8))])))))
theorem x_shift_WideJam : execF (ctx E2) 3000 78 (uns c_shift_WideJam.a (varsAt 0 (kindsOf c_shift_WideJam.a))) (kindsOf c_shift_WideJam.a).length = t_shift_WideJam := by kernel_rfl
def F_shift_WideJam : List Int → List Int := treeF (phiE E2) c_shift_WideJam t_shift_WideJam
theorem e_shift_WideJam : EntOK Tryd.prog gG ⟨78, c_shift_WideJam, F_shift_WideJam⟩ := ent_of (ctx_ok E2_ok) 3000 x_shift_WideJam (by kernel_rfl)
def c_round_Rest : Ct := ⟨[.agg [kU, kU, kU, kU], .sc kI], [.sc kB]⟩
def t_round_Rest : Tr' SV :=
 (.ite (.bin .lss .i64 (.var kI 4) (.lit 0))
 (.leaf (.int .u8 (.lit 0)))
 (.ite (.bin .gtr .i64 (.var kI 4) (.lit 127))
 (.leaf (.int .u8 (.lit 0)))
 (.call 101 [(.var kU 0), (.var kU 1), (.var kU 2), (.var kU 3), (.bin .sub .i64 (.lit 255) (.var kI 4))] 5 1
 (.leaf (.int .u8 (.ite (.ite (.bin .eql .i64 (.bin .shr .i64 (.bin .sub .i64 (.lit 255) (.var kI 4)) (.lit 6)) (.lit 2)) (.bin .eql .u64 (.bin .and .u64 (.bin .shr .u64 (.var kU 2) (.bin .and .i64 (.bin .sub .i64 (.lit 255) (.var kI 4)) (.lit 63))) (.lit 1)) (.lit 1)) (.bin .eql .u64 (.bin .and .u64 (.bin .shr .u64 (.var kU 3) (.bin .and .i64 (.bin .sub .i64 (.lit 255) (.var kI 4)) (.lit 63))) (.lit 1)) (.lit 1))) (.ite (.var .bool 5) (.lit 3) (.lit 2)) (.ite (.var .bool 5) (.lit 1) (.lit 0))))))))
theorem x_round_Rest : execF (ctx E2) 3000 110 (uns c_round_Rest.a (varsAt 0 (kindsOf c_round_Rest.a))) (kindsOf c_round_Rest.a).length = t_round_Rest := by kernel_rfl
def F_round_Rest : List Int → List Int := treeF (phiE E2) c_round_Rest t_round_Rest
theorem e_round_Rest : EntOK Tryd.prog gG ⟨110, c_round_Rest, F_round_Rest⟩ := ent_of (ctx_ok E2_ok) 3000 x_round_Rest (by kernel_rfl)
def c_mul_Term : Ct := ⟨[.agg [.bool, kB, kI, kU, kU], .agg [.bool, kB, kI, kU, kU]], [.sc kI, .agg [kU, kU, kU, kU]]⟩
def t_mul_Term : Tr' SV :=
 (.ite (.bin .neq .u8 (.var kB 1) (.lit 1))
 (.ite (.bin .neq .u8 (.var kB 1) (.lit 2))
 (.leaf (.tup [(.int .i64 (.lit 0)), (.agg [(.int .u64 (.lit 0)), (.int .u64 (.lit 0)), (.int .u64 (.lit 0)), (.int .u64 (.lit 0))])]))
 (.ite (.bin .neq .u8 (.var kB 6) (.lit 1))
 (.ite (.bin .neq .u8 (.var kB 6) (.lit 2))
 (.leaf (.tup [(.int .i64 (.lit 0)), (.agg [(.int .u64 (.lit 0)), (.int .u64 (.lit 0)), (.int .u64 (.lit 0)), (.int .u64 (.lit 0))])]))
 (.call 59 [(.var kU 3), (.var kU 4), (.var kU 8), (.var kU 9)] 10 4
 (.leaf (.tup [(.int .i64 (.bin .add .i64 (.bin .add .i64 (.var kI 2) (.var kI 7)) (.lit 1))), (.agg [(.int .u64 (.var kU 10)), (.int .u64 (.var kU 11)), (.int .u64 (.var kU 12)), (.int .u64 (.var kU 13))])]))))
 (.call 59 [(.var kU 3), (.var kU 4), (.var kU 8), (.var kU 9)] 10 4
 (.leaf (.tup [(.int .i64 (.bin .add .i64 (.bin .add .i64 (.var kI 2) (.var kI 7)) (.lit 1))), (.agg [(.int .u64 (.var kU 10)), (.int .u64 (.var kU 11)), (.int .u64 (.var kU 12)), (.int .u64 (.var kU 13))])])))))
 (.ite (.bin .neq .u8 (.var kB 6) (.lit 1))
 (.ite (.bin .neq .u8 (.var kB 6) (.lit 2))
 (.leaf (.tup [(.int .i64 (.lit 0)), (.agg [(.int .u64 (.lit 0)), (.int .u64 (.lit 0)), (.int .u64 (.lit 0)), (.int .u64 (.lit 0))])]))
 (.call 59 [(.var kU 3), (.var kU 4), (.var kU 8), (.var kU 9)] 10 4
 (.leaf (.tup [(.int .i64 (.bin .add .i64 (.bin .add .i64 (.var kI 2) (.var kI 7)) (.lit 1))), (.agg [(.int .u64 (.var kU 10)), (.int .u64 (.var kU 11)), (.int .u64 (.var kU 12)), (.int .u64 (.var kU 13))])]))))
 (.call 59 [(.var kU 3), (.var kU 4), (.var kU 8), (.var kU 9)] 10 4
 (.leaf (.tup [(.int .i64 (.bin .add .i64 (.bin .add .i64 (.var kI 2) (.var kI 7)) (.lit 1))), (.agg [(.int .u64 (.var kU 10)), (.int .u64 (.var kU 11)), (.int .u64 (.var kU 12)), (.int .u64 (.var kU 13))])])))))
theorem x_mul_Term : execF (ctx E2) 3000 33 (uns c_mul_Term.a (varsAt 0 (kindsOf c_mul_Term.a))) (kindsOf c_mul_Term.a).length = t_mul_Term := by kernel_rfl
def F_mul_Term : List Int → List Int := treeF (phiE E2) c_mul_Term t_mul_Term
theorem e_mul_Term : EntOK Tryd.prog gG ⟨33, c_mul_Term, F_mul_Term⟩ := ent_of (ctx_ok E2_ok) 3000 x_mul_Term (by kernel_rfl)
def E3 : List Ent := ⟨21, c_format_Cut, F_format_Cut⟩ :: ⟨38, c_format_Make, F_format_Make⟩ :: ⟨76, c_over_Beyond, F_over_Beyond⟩ :: ⟨78, c_shift_WideJam, F_shift_WideJam⟩ :: ⟨110, c_round_Rest, F_round_Rest⟩ :: ⟨33, c_mul_Term, F_mul_Term⟩ :: E2
theorem E3_ok : ∀ e ∈ E3, EntOK Tryd.prog gG e := List.forall_mem_cons.2 ⟨e_format_Cut, List.forall_mem_cons.2 ⟨e_format_Make, List.forall_mem_cons.2 ⟨e_over_Beyond, List.forall_mem_cons.2 ⟨e_shift_WideJam, List.forall_mem_cons.2 ⟨e_round_Rest, List.forall_mem_cons.2 ⟨e_mul_Term, E2_ok⟩⟩⟩⟩⟩⟩
theorem ph_E2_format_Width : phiE E2 50 = F_format_Width := phiE_hit (e := ⟨50, _, F_format_Width⟩) rfl
theorem ph_E2_format_low : phiE E2 49 = F_format_low := phiE_hit (e := ⟨49, _, F_format_low⟩) rfl
theorem ph_E2_format_of : phiE E2 63 = F_format_of := phiE_hit (e := ⟨63, _, F_format_of⟩) rfl
theorem ph_E2_shift_Left : phiE E2 64 = F_shift_Left := phiE_hit (e := ⟨64, _, F_shift_Left⟩) rfl
theorem ph_E2_word_Add : phiE E2 65 = F_word_Add := phiE_hit (e := ⟨65, _, F_word_Add⟩) rfl
theorem ph_E2_format_Emax : phiE E2 39 = F_format_Emax := phiE_hit (e := ⟨39, _, F_format_Emax⟩) rfl
theorem ph_E2_shift_WideRight : phiE E2 109 = F_shift_WideRight := phiE_hit (e := ⟨109, _, F_shift_WideRight⟩) rfl
theorem ph_E2_shift_Lost : phiE E2 101 = F_shift_Lost := phiE_hit (e := ⟨101, _, F_shift_Lost⟩) rfl
theorem ph_E2_wide_Mul : phiE E2 59 = F_wide_Mul := phiE_hit (e := ⟨59, _, F_wide_Mul⟩) rfl
end Go.Proofs.YtikjbocagnolmaaDoor
