/- Contracts of this seat's functions: their trees, made by a program (sxgen), and that the executor answers just these. -/
import Derived.Test.YtikjbocagnolmaaDoorG3
namespace Go.Proofs.YtikjbocagnolmaaDoor
set_option linter.unusedVariables false
set_option maxRecDepth 100000
open Go.RowKit
def c_format_Nought : Ct := ⟨[.sc kB, .sc .bool], [.agg [kU, kU]]⟩
def t_format_Nought : Tr' SV :=
 (.call 38 [(.var kB 0), (.var .bool 1), (.lit 0), (.lit 0), (.lit 0)] 2 2
 (.leaf (.agg [(.int .u64 (.var kU 2)), (.int .u64 (.var kU 3))])))
theorem x_format_Nought : execF (ctx E3) 3000 31 (uns c_format_Nought.a (varsAt 0 (kindsOf c_format_Nought.a))) (kindsOf c_format_Nought.a).length = t_format_Nought := by kernel_rfl
def F_format_Nought : List Int → List Int := treeF (phiE E3) c_format_Nought t_format_Nought
theorem e_format_Nought : EntOK Tryd.prog gG ⟨31, c_format_Nought, F_format_Nought⟩ := ent_of (ctx_ok E3_ok) 3000 x_format_Nought (by kernel_rfl)
def c_format_Inf : Ct := ⟨[.sc kB, .sc .bool], [.agg [kU, kU]]⟩
def t_format_Inf : Tr' SV :=
 (.call 39 [(.var kB 0)] 2 1
 (.call 38 [(.var kB 0), (.var .bool 1), (.bin .add .i64 (.bin .mul .i64 (.lit 2) (.var kI 2)) (.lit 1)), (.lit 0), (.lit 0)] 3 2
 (.leaf (.agg [(.int .u64 (.var kU 3)), (.int .u64 (.var kU 4))]))))
theorem x_format_Inf : execF (ctx E3) 3000 32 (uns c_format_Inf.a (varsAt 0 (kindsOf c_format_Inf.a))) (kindsOf c_format_Inf.a).length = t_format_Inf := by kernel_rfl
def F_format_Inf : List Int → List Int := treeF (phiE E3) c_format_Inf t_format_Inf
theorem e_format_Inf : EntOK Tryd.prog gG ⟨32, c_format_Inf, F_format_Inf⟩ := ent_of (ctx_ok E3_ok) 3000 x_format_Inf (by kernel_rfl)
def c_format_Max : Ct := ⟨[.sc kB, .sc .bool], [.agg [kU, kU]]⟩
def t_format_Max : Tr' SV :=
 (.call 39 [(.var kB 0)] 2 1
 (.call 38 [(.var kB 0), (.var .bool 1), (.bin .mul .i64 (.lit 2) (.var kI 2)), (.lit 18446744073709551615), (.lit 18446744073709551615)] 3 2
 (.leaf (.agg [(.int .u64 (.var kU 3)), (.int .u64 (.var kU 4))]))))
theorem x_format_Max : execF (ctx E3) 3000 113 (uns c_format_Max.a (varsAt 0 (kindsOf c_format_Max.a))) (kindsOf c_format_Max.a).length = t_format_Max := by kernel_rfl
def F_format_Max : List Int → List Int := treeF (phiE E3) c_format_Max t_format_Max
theorem e_format_Max : EntOK Tryd.prog gG ⟨113, c_format_Max, F_format_Max⟩ := ent_of (ctx_ok E3_ok) 3000 x_format_Max (by kernel_rfl)
def c_format_Split : Ct := ⟨[.sc kB, .agg [kU, kU]], [.sc .bool, .sc kI, .agg [kU, kU]]⟩
def t_format_Split : Tr' SV :=
 (.call 63 [(.var kB 0)] 3 3
 (.ite (.bin .eql .i64 (.var kI 3) (.lit 0))
 (.leaf (.tup [(.bool (.lit 0)), (.int .i64 (.lit 0)), (.agg [(.int .u64 (.lit 0)), (.int .u64 (.lit 0))])]))
 (.call 21 [(.var kB 0), (.var kU 1), (.var kU 2)] 6 2
 (.call 81 [(.var kU 6), (.var kU 7), (.bin .sub .i64 (.var kI 4) (.lit 1))] 8 2
 (.call 53 [(.var kU 1), (.var kU 2), (.bin .sub .i64 (.var kI 3) (.lit 1))] 10 1
 (.call 49 [(.var kU 8), (.var kU 9), (.bin .sub .i64 (.var kI 3) (.var kI 4))] 11 2
 (.call 49 [(.var kU 1), (.var kU 2), (.bin .sub .i64 (.var kI 4) (.lit 1))] 13 2
 (.leaf (.tup [(.bool (.var .bool 10)), (.int .i64 (.conv .i64 (.var kU 12))), (.agg [(.int .u64 (.var kU 13)), (.int .u64 (.var kU 14))])])))))))))
theorem x_format_Split : execF (ctx E3) 3000 51 (uns c_format_Split.a (varsAt 0 (kindsOf c_format_Split.a))) (kindsOf c_format_Split.a).length = t_format_Split := by kernel_rfl
def F_format_Split : List Int → List Int := treeF (phiE E3) c_format_Split t_format_Split
theorem e_format_Split : EntOK Tryd.prog gG ⟨51, c_format_Split, F_format_Split⟩ := ent_of (ctx_ok E3_ok) 3000 x_format_Split (by kernel_rfl)
def c_pack_put : Ct := ⟨[.sc kB, .sc .bool, .sc kI, .agg [kU, kU]], [.agg [kU, kU]]⟩
def t_pack_put : Tr' SV :=
 (.ite (.bin .eql .i64 (.var kI 2) (.lit 0))
 (.call 54 [(.var kB 0)] 5 1
 (.call 53 [(.var kU 3), (.var kU 4), (.bin .sub .i64 (.var kI 5) (.lit 1))] 6 1
 (.ite (.var .bool 6)
 (.call 38 [(.var kB 0), (.var .bool 1), (.lit 1), (.var kU 3), (.var kU 4)] 7 2
 (.leaf (.agg [(.int .u64 (.var kU 7)), (.int .u64 (.var kU 8))])))
 (.call 38 [(.var kB 0), (.var .bool 1), (.var kI 2), (.var kU 3), (.var kU 4)] 7 2
 (.leaf (.agg [(.int .u64 (.var kU 7)), (.int .u64 (.var kU 8))]))))))
 (.call 38 [(.var kB 0), (.var .bool 1), (.var kI 2), (.var kU 3), (.var kU 4)] 5 2
 (.leaf (.agg [(.int .u64 (.var kU 5)), (.int .u64 (.var kU 6))]))))
theorem x_pack_put : execF (ctx E3) 3000 79 (uns c_pack_put.a (varsAt 0 (kindsOf c_pack_put.a))) (kindsOf c_pack_put.a).length = t_pack_put := by kernel_rfl
def F_pack_put : List Int → List Int := treeF (phiE E3) c_pack_put t_pack_put
theorem e_pack_put : EntOK Tryd.prog gG ⟨79, c_pack_put, F_pack_put⟩ := ent_of (ctx_ok E3_ok) 3000 x_pack_put (by kernel_rfl)
def c_nan_Default : Ct := ⟨[.sc kB], [.agg [kU, kU]]⟩
def t_nan_Default : Tr' SV :=
 (.call 39 [(.var kB 0)] 1 1
 (.call 54 [(.var kB 0)] 2 1
 (.call 64 [(.lit 0), (.lit 1), (.bin .sub .i64 (.var kI 2) (.lit 2))] 3 2
 (.call 38 [(.var kB 0), (.lit 0), (.bin .add .i64 (.bin .mul .i64 (.lit 2) (.var kI 1)) (.lit 1)), (.var kU 3), (.var kU 4)] 5 2
 (.leaf (.agg [(.int .u64 (.var kU 5)), (.int .u64 (.var kU 6))]))))))
theorem x_nan_Default : execF (ctx E3) 3000 87 (uns c_nan_Default.a (varsAt 0 (kindsOf c_nan_Default.a))) (kindsOf c_nan_Default.a).length = t_nan_Default := by kernel_rfl
def F_nan_Default : List Int → List Int := treeF (phiE E3) c_nan_Default t_nan_Default
theorem e_nan_Default : EntOK Tryd.prog gG ⟨87, c_nan_Default, F_nan_Default⟩ := ent_of (ctx_ok E3_ok) 3000 x_nan_Default (by kernel_rfl)
def c_round_Cut : Ct := ⟨[.agg [kU, kU, kU, kU], .sc kI, .sc kB, .sc .bool], [.agg [kU, kU], .sc .bool]⟩
def t_round_Cut : Tr' SV :=
 (.ite (.bin .lss .i64 (.var kI 4) (.lit 0))
 (.leaf (.tup [(.agg [(.int .u64 (.lit 0)), (.int .u64 (.lit 0))]), (.bool (.lit 0))]))
 (.ite (.bin .gtr .i64 (.var kI 4) (.lit 127))
 (.leaf (.tup [(.agg [(.int .u64 (.lit 0)), (.int .u64 (.lit 0))]), (.bool (.lit 0))]))
 (.ite (.not (.bin .leq .u8 (.var kB 5) (.lit 4)))
 (.leaf (.tup [(.agg [(.int .u64 (.lit 0)), (.int .u64 (.lit 0))]), (.bool (.lit 0))]))
 (.call 109 [(.var kU 0), (.var kU 1), (.var kU 2), (.var kU 3), (.bin .sub .i64 (.lit 256) (.var kI 4))] 7 4
 (.call 108 [(.var kU 7), (.var kU 8), (.var kU 9), (.var kU 10)] 11 2
 (.call 110 [(.var kU 0), (.var kU 1), (.var kU 2), (.var kU 3), (.var kI 4)] 13 1
 (.call 111 [(.var kB 5), (.var .bool 6), (.bin .eql .u64 (.bin .and .u64 (.var kU 12) (.lit 1)) (.lit 1)), (.var kB 13)] 14 1
 (.ite (.var .bool 14)
 (.call 65 [(.var kU 11), (.var kU 12), (.lit 0), (.lit 1)] 15 3
 (.leaf (.tup [(.agg [(.int .u64 (.var kU 15)), (.int .u64 (.var kU 16))]), (.bool (.bin .neq .u8 (.var kB 13) (.lit 0)))])))
 (.leaf (.tup [(.agg [(.int .u64 (.var kU 11)), (.int .u64 (.var kU 12))]), (.bool (.bin .neq .u8 (.var kB 13) (.lit 0)))]))))))))))
theorem x_round_Cut : execF (ctx E3) 3000 74 (uns c_round_Cut.a (varsAt 0 (kindsOf c_round_Cut.a))) (kindsOf c_round_Cut.a).length = t_round_Cut := by kernel_rfl
def F_round_Cut : List Int → List Int := treeF (phiE E3) c_round_Cut t_round_Cut
theorem e_round_Cut : EntOK Tryd.prog gG ⟨74, c_round_Cut, F_round_Cut⟩ := ent_of (ctx_ok E3_ok) 3000 x_round_Cut (by kernel_rfl)
def E4 : List Ent := ⟨31, c_format_Nought, F_format_Nought⟩ :: ⟨32, c_format_Inf, F_format_Inf⟩ :: ⟨113, c_format_Max, F_format_Max⟩ :: ⟨51, c_format_Split, F_format_Split⟩ :: ⟨79, c_pack_put, F_pack_put⟩ :: ⟨87, c_nan_Default, F_nan_Default⟩ :: ⟨74, c_round_Cut, F_round_Cut⟩ :: E3
theorem E4_ok : ∀ e ∈ E4, EntOK Tryd.prog gG e := List.forall_mem_cons.2 ⟨e_format_Nought, List.forall_mem_cons.2 ⟨e_format_Inf, List.forall_mem_cons.2 ⟨e_format_Max, List.forall_mem_cons.2 ⟨e_format_Split, List.forall_mem_cons.2 ⟨e_pack_put, List.forall_mem_cons.2 ⟨e_nan_Default, List.forall_mem_cons.2 ⟨e_round_Cut, E3_ok⟩⟩⟩⟩⟩⟩⟩
theorem ph_E3_format_Make : phiE E3 38 = F_format_Make := phiE_hit (e := ⟨38, _, F_format_Make⟩) rfl
theorem ph_E3_format_Emax : phiE E3 39 = F_format_Emax := phiE_hit (e := ⟨39, _, F_format_Emax⟩) rfl
theorem ph_E3_format_of : phiE E3 63 = F_format_of := phiE_hit (e := ⟨63, _, F_format_of⟩) rfl
theorem ph_E3_format_Cut : phiE E3 21 = F_format_Cut := phiE_hit (e := ⟨21, _, F_format_Cut⟩) rfl
theorem ph_E3_shift_Right : phiE E3 81 = F_shift_Right := phiE_hit (e := ⟨81, _, F_shift_Right⟩) rfl
theorem ph_E3_word_Bit : phiE E3 53 = F_word_Bit := phiE_hit (e := ⟨53, _, F_word_Bit⟩) rfl
theorem ph_E3_format_low : phiE E3 49 = F_format_low := phiE_hit (e := ⟨49, _, F_format_low⟩) rfl
theorem ph_E3_format_Prec : phiE E3 54 = F_format_Prec := phiE_hit (e := ⟨54, _, F_format_Prec⟩) rfl
theorem ph_E3_shift_Left : phiE E3 64 = F_shift_Left := phiE_hit (e := ⟨64, _, F_shift_Left⟩) rfl
theorem ph_E3_shift_WideRight : phiE E3 109 = F_shift_WideRight := phiE_hit (e := ⟨109, _, F_shift_WideRight⟩) rfl
theorem ph_E3_wide_Low : phiE E3 108 = F_wide_Low := phiE_hit (e := ⟨108, _, F_wide_Low⟩) rfl
theorem ph_E3_round_Rest : phiE E3 110 = F_round_Rest := phiE_hit (e := ⟨110, _, F_round_Rest⟩) rfl
theorem ph_E3_mode_Next : phiE E3 111 = fNext := phiE_hit (e := ⟨111, _, fNext⟩) rfl
theorem ph_E3_word_Add : phiE E3 65 = F_word_Add := phiE_hit (e := ⟨65, _, F_word_Add⟩) rfl
end Go.Proofs.YtikjbocagnolmaaDoor
