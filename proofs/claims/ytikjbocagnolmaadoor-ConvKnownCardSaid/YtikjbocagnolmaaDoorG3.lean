/- Contracts of this seat's functions: their trees, made by a program (sxgen), and that the executor answers just these. -/
import Derived.Test.YtikjbocagnolmaaDoorG2
namespace Go.Proofs.YtikjbocagnolmaaDoor
set_option linter.unusedVariables false
set_option maxRecDepth 100000
open Go.RowKit
def c_format_Nought : Ct := ⟨[.sc kB, .sc .bool], [.agg [kU, kU]]⟩
def t_format_Nought : Tr' SV :=
 (.call 38 [(.var kB 0), (.var .bool 1), (.lit 0), (.lit 0), (.lit 0)] 2 2
 (.leaf (.agg [(.int .u64 (.var kU 2)), (.int .u64 (.var kU 3))])))
theorem x_format_Nought : execF (ctx E2) 3000 31 (uns c_format_Nought.a (varsAt 0 (kindsOf c_format_Nought.a))) (kindsOf c_format_Nought.a).length = t_format_Nought := by kernel_rfl
def F_format_Nought : List Int → List Int := treeF (phiE E2) c_format_Nought t_format_Nought
theorem e_format_Nought : EntOK Tryd.prog gG ⟨31, c_format_Nought, F_format_Nought⟩ := ent_of (ctx_ok E2_ok) 3000 x_format_Nought (by kernel_rfl)
def c_format_Inf : Ct := ⟨[.sc kB, .sc .bool], [.agg [kU, kU]]⟩
def t_format_Inf : Tr' SV :=
 (.call 39 [(.var kB 0)] 2 1
 (.call 38 [(.var kB 0), (.var .bool 1), (.bin .add .i64 (.bin .mul .i64 (.lit 2) (.var kI 2)) (.lit 1)), (.lit 0), (.lit 0)] 3 2
 (.leaf (.agg [(.int .u64 (.var kU 3)), (.int .u64 (.var kU 4))]))))
theorem x_format_Inf : execF (ctx E2) 3000 32 (uns c_format_Inf.a (varsAt 0 (kindsOf c_format_Inf.a))) (kindsOf c_format_Inf.a).length = t_format_Inf := by kernel_rfl
def F_format_Inf : List Int → List Int := treeF (phiE E2) c_format_Inf t_format_Inf
theorem e_format_Inf : EntOK Tryd.prog gG ⟨32, c_format_Inf, F_format_Inf⟩ := ent_of (ctx_ok E2_ok) 3000 x_format_Inf (by kernel_rfl)
def c_format_Split : Ct := ⟨[.sc kB, .agg [kU, kU]], [.sc .bool, .sc kI, .agg [kU, kU]]⟩
def t_format_Split : Tr' SV :=
 (.ite (.bin .eql .i64 (.ite (.not (.bin .lss .i64 (.var kB 0) (.lit 4))) (.lit 0) (.ite (.bin .eql .i64 (.var kB 0) (.lit 0)) (.lit 16) (.ite (.bin .eql .i64 (.var kB 0) (.lit 1)) (.lit 32) (.ite (.bin .eql .i64 (.var kB 0) (.lit 2)) (.lit 64) (.lit 128))))) (.lit 0))
 (.leaf (.tup [(.bool (.lit 0)), (.int .i64 (.lit 0)), (.agg [(.int .u64 (.lit 0)), (.int .u64 (.lit 0))])]))
 (.call 21 [(.var kB 0), (.var kU 1), (.var kU 2)] 3 2
 (.call 81 [(.var kU 3), (.var kU 4), (.bin .sub .i64 (.ite (.not (.bin .lss .i64 (.var kB 0) (.lit 4))) (.lit 0) (.ite (.bin .eql .i64 (.var kB 0) (.lit 0)) (.lit 11) (.ite (.bin .eql .i64 (.var kB 0) (.lit 1)) (.lit 24) (.ite (.bin .eql .i64 (.var kB 0) (.lit 2)) (.lit 53) (.lit 113))))) (.lit 1))] 5 2
 (.call 53 [(.var kU 1), (.var kU 2), (.bin .sub .i64 (.ite (.not (.bin .lss .i64 (.var kB 0) (.lit 4))) (.lit 0) (.ite (.bin .eql .i64 (.var kB 0) (.lit 0)) (.lit 16) (.ite (.bin .eql .i64 (.var kB 0) (.lit 1)) (.lit 32) (.ite (.bin .eql .i64 (.var kB 0) (.lit 2)) (.lit 64) (.lit 128))))) (.lit 1))] 7 1
 (.call 64 [(.var kU 5), (.var kU 6), (.bin .sub .i64 (.lit 128) (.bin .sub .i64 (.ite (.not (.bin .lss .i64 (.var kB 0) (.lit 4))) (.lit 0) (.ite (.bin .eql .i64 (.var kB 0) (.lit 0)) (.lit 16) (.ite (.bin .eql .i64 (.var kB 0) (.lit 1)) (.lit 32) (.ite (.bin .eql .i64 (.var kB 0) (.lit 2)) (.lit 64) (.lit 128))))) (.ite (.not (.bin .lss .i64 (.var kB 0) (.lit 4))) (.lit 0) (.ite (.bin .eql .i64 (.var kB 0) (.lit 0)) (.lit 11) (.ite (.bin .eql .i64 (.var kB 0) (.lit 1)) (.lit 24) (.ite (.bin .eql .i64 (.var kB 0) (.lit 2)) (.lit 53) (.lit 113)))))))] 8 2
 (.call 81 [(.var kU 8), (.var kU 9), (.bin .sub .i64 (.lit 128) (.bin .sub .i64 (.ite (.not (.bin .lss .i64 (.var kB 0) (.lit 4))) (.lit 0) (.ite (.bin .eql .i64 (.var kB 0) (.lit 0)) (.lit 16) (.ite (.bin .eql .i64 (.var kB 0) (.lit 1)) (.lit 32) (.ite (.bin .eql .i64 (.var kB 0) (.lit 2)) (.lit 64) (.lit 128))))) (.ite (.not (.bin .lss .i64 (.var kB 0) (.lit 4))) (.lit 0) (.ite (.bin .eql .i64 (.var kB 0) (.lit 0)) (.lit 11) (.ite (.bin .eql .i64 (.var kB 0) (.lit 1)) (.lit 24) (.ite (.bin .eql .i64 (.var kB 0) (.lit 2)) (.lit 53) (.lit 113)))))))] 10 2
 (.call 64 [(.var kU 1), (.var kU 2), (.bin .sub .i64 (.lit 128) (.bin .sub .i64 (.ite (.not (.bin .lss .i64 (.var kB 0) (.lit 4))) (.lit 0) (.ite (.bin .eql .i64 (.var kB 0) (.lit 0)) (.lit 11) (.ite (.bin .eql .i64 (.var kB 0) (.lit 1)) (.lit 24) (.ite (.bin .eql .i64 (.var kB 0) (.lit 2)) (.lit 53) (.lit 113))))) (.lit 1)))] 12 2
 (.call 81 [(.var kU 12), (.var kU 13), (.bin .sub .i64 (.lit 128) (.bin .sub .i64 (.ite (.not (.bin .lss .i64 (.var kB 0) (.lit 4))) (.lit 0) (.ite (.bin .eql .i64 (.var kB 0) (.lit 0)) (.lit 11) (.ite (.bin .eql .i64 (.var kB 0) (.lit 1)) (.lit 24) (.ite (.bin .eql .i64 (.var kB 0) (.lit 2)) (.lit 53) (.lit 113))))) (.lit 1)))] 14 2
 (.leaf (.tup [(.bool (.var .bool 7)), (.int .i64 (.conv .i64 (.var kU 11))), (.agg [(.int .u64 (.var kU 14)), (.int .u64 (.var kU 15))])]))))))))))
theorem x_format_Split : execF (ctx E2) 3000 51 (uns c_format_Split.a (varsAt 0 (kindsOf c_format_Split.a))) (kindsOf c_format_Split.a).length = t_format_Split := by kernel_rfl
def F_format_Split : List Int → List Int := treeF (phiE E2) c_format_Split t_format_Split
theorem e_format_Split : EntOK Tryd.prog gG ⟨51, c_format_Split, F_format_Split⟩ := ent_of (ctx_ok E2_ok) 3000 x_format_Split (by kernel_rfl)
def c_shift_WideJam : Ct := ⟨[.agg [kU, kU, kU, kU], .sc kI], [.agg [kU, kU, kU, kU]]⟩
def t_shift_WideJam : Tr' SV :=
 (.call 109 [(.var kU 0), (.var kU 1), (.var kU 2), (.var kU 3), (.var kI 4)] 5 4
 (.call 101 [(.var kU 0), (.var kU 1), (.var kU 2), (.var kU 3), (.var kI 4)] 9 1
 (.ite (.var .bool 9)
 (.leaf (.agg [(.int .u64 (.bin .or .u64 (.var kU 5) (.lit 1))), (.int .u64 (.var kU 6)), (.int .u64 (.var kU 7)), (.int .u64 (.var kU 8))]))
 (.leaf (.agg [(.int .u64 (.var kU 5)), (.int .u64 (.var kU 6)), (.int .u64 (.var kU 7)), (.int .u64 (.var kU 8))])))))
theorem x_shift_WideJam : execF (ctx E2) 3000 78 (uns c_shift_WideJam.a (varsAt 0 (kindsOf c_shift_WideJam.a))) (kindsOf c_shift_WideJam.a).length = t_shift_WideJam := by kernel_rfl
def F_shift_WideJam : List Int → List Int := treeF (phiE E2) c_shift_WideJam t_shift_WideJam
theorem e_shift_WideJam : EntOK Tryd.prog gG ⟨78, c_shift_WideJam, F_shift_WideJam⟩ := ent_of (ctx_ok E2_ok) 3000 x_shift_WideJam (by kernel_rfl)
def c_pack_put : Ct := ⟨[.sc kB, .sc .bool, .sc kI, .agg [kU, kU]], [.agg [kU, kU]]⟩
def t_pack_put : Tr' SV :=
 (.ite (.bin .eql .i64 (.var kI 2) (.lit 0))
 (.call 54 [(.var kB 0)] 5 1
 (.call 53 [(.var kU 3), (.var kU 4), (.bin .sub .i64 (.var kI 5) (.lit 1))] 6 1
 (.ite (.var .bool 6)
 (.call 38 [(.var kB 0), (.var .bool 1), (.lit 1), (.var kU 3), (.var kU 4)] 7 2
 (.leaf (.agg [(.int .u64 (.var kU 7)), (.int .u64 (.var kU 8))])))
 (.call 38 [(.var kB 0), (.var .bool 1), (.var kI 2), (.var kU 3), (.var kU 4)] 7 2
 (.leaf (.agg [(.int .u64 (.var kU 7)), (.int .u64 (.var kU 8))]))))))
 (.call 38 [(.var kB 0), (.var .bool 1), (.var kI 2), (.var kU 3), (.var kU 4)] 5 2
 (.leaf (.agg [(.int .u64 (.var kU 5)), (.int .u64 (.var kU 6))]))))
theorem x_pack_put : execF (ctx E2) 3000 79 (uns c_pack_put.a (varsAt 0 (kindsOf c_pack_put.a))) (kindsOf c_pack_put.a).length = t_pack_put := by kernel_rfl
def F_pack_put : List Int → List Int := treeF (phiE E2) c_pack_put t_pack_put
theorem e_pack_put : EntOK Tryd.prog gG ⟨79, c_pack_put, F_pack_put⟩ := ent_of (ctx_ok E2_ok) 3000 x_pack_put (by kernel_rfl)
def c_nan_Default : Ct := ⟨[.sc kB], [.agg [kU, kU]]⟩
def t_nan_Default : Tr' SV :=
 (.call 39 [(.var kB 0)] 1 1
 (.call 54 [(.var kB 0)] 2 1
 (.call 64 [(.lit 0), (.lit 1), (.bin .sub .i64 (.var kI 2) (.lit 2))] 3 2
 (.call 38 [(.var kB 0), (.lit 0), (.bin .add .i64 (.bin .mul .i64 (.lit 2) (.var kI 1)) (.lit 1)), (.var kU 3), (.var kU 4)] 5 2
 (.leaf (.agg [(.int .u64 (.var kU 5)), (.int .u64 (.var kU 6))]))))))
theorem x_nan_Default : execF (ctx E2) 3000 87 (uns c_nan_Default.a (varsAt 0 (kindsOf c_nan_Default.a))) (kindsOf c_nan_Default.a).length = t_nan_Default := by kernel_rfl
def F_nan_Default : List Int → List Int := treeF (phiE E2) c_nan_Default t_nan_Default
theorem e_nan_Default : EntOK Tryd.prog gG ⟨87, c_nan_Default, F_nan_Default⟩ := ent_of (ctx_ok E2_ok) 3000 x_nan_Default (by kernel_rfl)
def c_round_Rest : Ct := ⟨[.agg [kU, kU, kU, kU], .sc kI], [.sc kB]⟩
def t_round_Rest : Tr' SV :=
 (.ite (.bin .lss .i64 (.var kI 4) (.lit 0))
 (.leaf (.int .u8 (.lit 0)))
 (.ite (.bin .gtr .i64 (.var kI 4) (.lit 127))
 (.leaf (.int .u8 (.lit 0)))
 (.call 101 [(.var kU 0), (.var kU 1), (.var kU 2), (.var kU 3), (.bin .sub .i64 (.lit 255) (.var kI 4))] 5 1
 (.leaf (.int .u8 (.ite (.ite (.bin .eql .i64 (.bin .shr .i64 (.bin .sub .i64 (.lit 255) (.var kI 4)) (.lit 6)) (.lit 2)) (.bin .eql .u64 (.bin .and .u64 (.bin .shr .u64 (.var kU 2) (.bin .and .i64 (.bin .sub .i64 (.lit 255) (.var kI 4)) (.lit 63))) (.lit 1)) (.lit 1)) (.bin .eql .u64 (.bin .and .u64 (.bin .shr .u64 (.var kU 3) (.bin .and .i64 (.bin .sub .i64 (.lit 255) (.var kI 4)) (.lit 63))) (.lit 1)) (.lit 1))) (.ite (.var .bool 5) (.lit 3) (.lit 2)) (.ite (.var .bool 5) (.lit 1) (.lit 0))))))))
theorem x_round_Rest : execF (ctx E2) 3000 110 (uns c_round_Rest.a (varsAt 0 (kindsOf c_round_Rest.a))) (kindsOf c_round_Rest.a).length = t_round_Rest := by kernel_rfl
def F_round_Rest : List Int → List Int := treeF (phiE E2) c_round_Rest t_round_Rest
theorem e_round_Rest : EntOK Tryd.prog gG ⟨110, c_round_Rest, F_round_Rest⟩ := ent_of (ctx_ok E2_ok) 3000 x_round_Rest (by kernel_rfl)
def c_format_Max : Ct := ⟨[.sc kB, .sc .bool], [.agg [kU, kU]]⟩
def t_format_Max : Tr' SV :=
 (.call 39 [(.var kB 0)] 2 1
 (.call 38 [(.var kB 0), (.var .bool 1), (.bin .mul .i64 (.lit 2) (.var kI 2)), (.lit 18446744073709551615), (.lit 18446744073709551615)] 3 2
 (.leaf (.agg [(.int .u64 (.var kU 3)), (.int .u64 (.var kU 4))]))))
theorem x_format_Max : execF (ctx E2) 3000 113 (uns c_format_Max.a (varsAt 0 (kindsOf c_format_Max.a))) (kindsOf c_format_Max.a).length = t_format_Max := by kernel_rfl
def F_format_Max : List Int → List Int := treeF (phiE E2) c_format_Max t_format_Max
theorem e_format_Max : EntOK Tryd.prog gG ⟨113, c_format_Max, F_format_Max⟩ := ent_of (ctx_ok E2_ok) 3000 x_format_Max (by kernel_rfl)
def E3 : List Ent := ⟨31, c_format_Nought, F_format_Nought⟩ :: ⟨32, c_format_Inf, F_format_Inf⟩ :: ⟨51, c_format_Split, F_format_Split⟩ :: ⟨78, c_shift_WideJam, F_shift_WideJam⟩ :: ⟨79, c_pack_put, F_pack_put⟩ :: ⟨87, c_nan_Default, F_nan_Default⟩ :: ⟨110, c_round_Rest, F_round_Rest⟩ :: ⟨113, c_format_Max, F_format_Max⟩ :: E2
theorem E3_ok : ∀ e ∈ E3, EntOK Tryd.prog gG e := List.forall_mem_cons.2 ⟨e_format_Nought, List.forall_mem_cons.2 ⟨e_format_Inf, List.forall_mem_cons.2 ⟨e_format_Split, List.forall_mem_cons.2 ⟨e_shift_WideJam, List.forall_mem_cons.2 ⟨e_pack_put, List.forall_mem_cons.2 ⟨e_nan_Default, List.forall_mem_cons.2 ⟨e_round_Rest, List.forall_mem_cons.2 ⟨e_format_Max, E2_ok⟩⟩⟩⟩⟩⟩⟩⟩
end Go.Proofs.YtikjbocagnolmaaDoor
