/- Contracts of this seat's functions: their trees, made by a program (sxgen), and that the executor answers just these. -/
import Derived.Test.YtikjbocagnolmaaDoorG4
namespace Go.Proofs.YtikjbocagnolmaaDoor
set_option linter.unusedVariables false
set_option maxRecDepth 100000
open Go.RowKit
def c_class_Of : Ct := ⟨[.sc kB, .agg [kU, kU]], [.sc kB, .sc .bool]⟩
def t_class_Of : Tr' SV :=
 (.ite (.not (.bin .lss .i64 (.var kB 0) (.lit 4)))
 (.leaf (.tup [(.int .u8 (.lit 0)), (.bool (.lit 0))]))
 (.call 51 [(.var kB 0), (.var kU 1), (.var kU 2)] 3 4
 (.call 52 [(.var kU 5), (.var kU 6)] 7 1
 (.call 39 [(.var kB 0)] 8 1
 (.ite (.bin .eql .i64 (.var kI 4) (.lit 0))
 (.ite (.var .bool 7)
 (.leaf (.tup [(.int .u8 (.lit 0)), (.bool (.var .bool 3))]))
 (.leaf (.tup [(.int .u8 (.lit 1)), (.bool (.var .bool 3))])))
 (.ite (.bin .lss .i64 (.var kI 4) (.bin .add .i64 (.bin .mul .i64 (.lit 2) (.var kI 8)) (.lit 1)))
 (.leaf (.tup [(.int .u8 (.lit 2)), (.bool (.var .bool 3))]))
 (.ite (.var .bool 7)
 (.leaf (.tup [(.int .u8 (.lit 3)), (.bool (.var .bool 3))]))
 (.call 54 [(.var kB 0)] 9 1
 (.call 53 [(.var kU 5), (.var kU 6), (.bin .sub .i64 (.var kI 9) (.lit 2))] 10 1
 (.ite (.var .bool 10)
 (.leaf (.tup [(.int .u8 (.lit 4)), (.bool (.var .bool 3))]))
 (.leaf (.tup [(.int .u8 (.lit 5)), (.bool (.var .bool 3))]))))))))))))
theorem x_class_Of : execF (ctx E4) 3000 26 (uns c_class_Of.a (varsAt 0 (kindsOf c_class_Of.a))) (kindsOf c_class_Of.a).length = t_class_Of := by kernel_rfl
def F_class_Of : List Int → List Int := treeF (phiE E4) c_class_Of t_class_Of
theorem e_class_Of : EntOK Tryd.prog gG ⟨26, c_class_Of, F_class_Of⟩ := ent_of (ctx_ok E4_ok) 3000 x_class_Of (by kernel_rfl)
def c_fields_Pack : Ct := ⟨[.sc kB, .agg [.bool, kB, kI, kU, kU]], [.agg [kU, kU], .sc .bool]⟩
def t_fields_Pack : Tr' SV :=
 (.call 54 [(.var kB 0)] 6 1
 (.call 39 [(.var kB 0)] 7 1
 (.ite (.not (.bin .lss .i64 (.var kB 0) (.lit 4)))
 (.leaf (.tup [(.agg [(.int .u64 (.lit 0)), (.int .u64 (.lit 0))]), (.bool (.lit 0))]))
 (.ite (.bin .gtr .u8 (.var kB 2) (.lit 3))
 (.leaf (.tup [(.agg [(.int .u64 (.lit 0)), (.int .u64 (.lit 0))]), (.bool (.lit 0))]))
 (.ite (.bin .eql .u8 (.var kB 2) (.lit 0))
 (.call 31 [(.var kB 0), (.var .bool 1)] 8 2
 (.leaf (.tup [(.agg [(.int .u64 (.var kU 8)), (.int .u64 (.var kU 9))]), (.bool (.lit 1))])))
 (.ite (.bin .eql .u8 (.var kB 2) (.lit 3))
 (.call 32 [(.var kB 0), (.var .bool 1)] 8 2
 (.leaf (.tup [(.agg [(.int .u64 (.var kU 8)), (.int .u64 (.var kU 9))]), (.bool (.lit 1))])))
 (.call 53 [(.var kU 4), (.var kU 5), (.lit 127)] 8 1
 (.ite (.not (.var .bool 8))
 (.leaf (.tup [(.agg [(.int .u64 (.lit 0)), (.int .u64 (.lit 0))]), (.bool (.lit 0))]))
 (.ite (.bin .gtr .i64 (.var kI 3) (.var kI 7))
 (.leaf (.tup [(.agg [(.int .u64 (.lit 0)), (.int .u64 (.lit 0))]), (.bool (.lit 0))]))
 (.ite (.bin .lss .i64 (.var kI 3) (.bin .add .i64 (.bin .sub .i64 (.bin .sub .i64 (.lit 1) (.var kI 7)) (.var kI 6)) (.lit 1)))
 (.leaf (.tup [(.agg [(.int .u64 (.lit 0)), (.int .u64 (.lit 0))]), (.bool (.lit 0))]))
 (.ite (.bin .lss .i64 (.bin .add .i64 (.var kI 3) (.var kI 7)) (.lit 1))
 (.call 102 [(.var kU 4), (.var kU 5)] 9 4
 (.call 101 [(.var kU 9), (.var kU 10), (.var kU 11), (.var kU 12), (.bin .sub .i64 (.bin .add .i64 (.bin .sub .i64 (.lit 128) (.var kI 6)) (.lit 1)) (.bin .add .i64 (.var kI 3) (.var kI 7)))] 13 1
 (.ite (.var .bool 13)
 (.leaf (.tup [(.agg [(.int .u64 (.lit 0)), (.int .u64 (.lit 0))]), (.bool (.lit 0))]))
 (.call 81 [(.var kU 4), (.var kU 5), (.bin .sub .i64 (.bin .add .i64 (.bin .sub .i64 (.lit 128) (.var kI 6)) (.lit 1)) (.bin .add .i64 (.var kI 3) (.var kI 7)))] 14 2
 (.call 38 [(.var kB 0), (.var .bool 1), (.lit 0), (.var kU 14), (.var kU 15)] 16 2
 (.leaf (.tup [(.agg [(.int .u64 (.var kU 16)), (.int .u64 (.var kU 17))]), (.bool (.lit 1))])))))))
 (.call 102 [(.var kU 4), (.var kU 5)] 9 4
 (.call 101 [(.var kU 9), (.var kU 10), (.var kU 11), (.var kU 12), (.bin .sub .i64 (.lit 128) (.var kI 6))] 13 1
 (.ite (.var .bool 13)
 (.leaf (.tup [(.agg [(.int .u64 (.lit 0)), (.int .u64 (.lit 0))]), (.bool (.lit 0))]))
 (.call 81 [(.var kU 4), (.var kU 5), (.bin .sub .i64 (.lit 128) (.var kI 6))] 14 2
 (.call 38 [(.var kB 0), (.var .bool 1), (.bin .add .i64 (.var kI 3) (.var kI 7)), (.var kU 14), (.var kU 15)] 16 2
 (.leaf (.tup [(.agg [(.int .u64 (.var kU 16)), (.int .u64 (.var kU 17))]), (.bool (.lit 1))]))))))))))))))))))
theorem x_fields_Pack : execF (ctx E4) 3000 66 (uns c_fields_Pack.a (varsAt 0 (kindsOf c_fields_Pack.a))) (kindsOf c_fields_Pack.a).length = t_fields_Pack := by kernel_rfl
def F_fields_Pack : List Int → List Int := treeF (phiE E4) c_fields_Pack t_fields_Pack
theorem e_fields_Pack : EntOK Tryd.prog gG ⟨66, c_fields_Pack, F_fields_Pack⟩ := ent_of (ctx_ok E4_ok) 3000 x_fields_Pack (by kernel_rfl)
def c_over_Over : Ct := ⟨[.sc kB, .sc kB, .sc .bool], [.agg [kU, kU, kB]]⟩
def t_over_Over : Tr' SV :=
 (.ite (.not (.bin .lss .i64 (.var kB 0) (.lit 4)))
 (.leaf (.agg [(.int .u64 (.lit 0)), (.int .u64 (.lit 0)), (.int .u8 (.lit 0))]))
 (.ite (.not (.bin .leq .u8 (.var kB 1) (.lit 4)))
 (.leaf (.agg [(.int .u64 (.lit 0)), (.int .u64 (.lit 0)), (.int .u8 (.lit 0))]))
 (.call 115 [(.var kB 1), (.var .bool 2)] 3 1
 (.ite (.var .bool 3)
 (.call 32 [(.var kB 0), (.var .bool 2)] 4 2
 (.leaf (.agg [(.int .u64 (.var kU 4)), (.int .u64 (.var kU 5)), (.int .u8 (.lit 20))])))
 (.call 113 [(.var kB 0), (.var .bool 2)] 4 2
 (.leaf (.agg [(.int .u64 (.var kU 4)), (.int .u64 (.var kU 5)), (.int .u8 (.lit 20))])))))))
theorem x_over_Over : execF (ctx E4) 3000 77 (uns c_over_Over.a (varsAt 0 (kindsOf c_over_Over.a))) (kindsOf c_over_Over.a).length = t_over_Over := by kernel_rfl
def F_over_Over : List Int → List Int := treeF (phiE E4) c_over_Over t_over_Over
theorem e_over_Over : EntOK Tryd.prog gG ⟨77, c_over_Over, F_over_Over⟩ := ent_of (ctx_ok E4_ok) 3000 x_over_Over (by kernel_rfl)
def c_payload_quieted : Ct := ⟨[.sc kB, .agg [kU, kU]], [.agg [kU, kU]]⟩
def t_payload_quieted : Tr' SV :=
 (.call 87 [(.var kB 0)] 3 2
 (.call 51 [(.var kB 0), (.var kU 3), (.var kU 4)] 5 4
 (.leaf (.agg [(.int .u64 (.bin .or .u64 (.var kU 1) (.var kU 7))), (.int .u64 (.bin .or .u64 (.var kU 2) (.var kU 8)))]))))
theorem x_payload_quieted : execF (ctx E4) 3000 83 (uns c_payload_quieted.a (varsAt 0 (kindsOf c_payload_quieted.a))) (kindsOf c_payload_quieted.a).length = t_payload_quieted := by kernel_rfl
def F_payload_quieted : List Int → List Int := treeF (phiE E4) c_payload_quieted t_payload_quieted
theorem e_payload_quieted : EntOK Tryd.prog gG ⟨83, c_payload_quieted, F_payload_quieted⟩ := ent_of (ctx_ok E4_ok) 3000 x_payload_quieted (by kernel_rfl)
def c_addsub_Turn : Ct := ⟨[.sc kB, .agg [kU, kU]], [.agg [kU, kU]]⟩
def t_addsub_Turn : Tr' SV :=
 (.call 51 [(.var kB 0), (.var kU 1), (.var kU 2)] 3 4
 (.call 38 [(.var kB 0), (.not (.var .bool 3)), (.var kI 4), (.var kU 5), (.var kU 6)] 7 2
 (.leaf (.agg [(.int .u64 (.var kU 7)), (.int .u64 (.var kU 8))]))))
theorem x_addsub_Turn : execF (ctx E4) 3000 25 (uns c_addsub_Turn.a (varsAt 0 (kindsOf c_addsub_Turn.a))) (kindsOf c_addsub_Turn.a).length = t_addsub_Turn := by kernel_rfl
def F_addsub_Turn : List Int → List Int := treeF (phiE E4) c_addsub_Turn t_addsub_Turn
theorem e_addsub_Turn : EntOK Tryd.prog gG ⟨25, c_addsub_Turn, F_addsub_Turn⟩ := ent_of (ctx_ok E4_ok) 3000 x_addsub_Turn (by kernel_rfl)
def E5 : List Ent := ⟨26, c_class_Of, F_class_Of⟩ :: ⟨66, c_fields_Pack, F_fields_Pack⟩ :: ⟨77, c_over_Over, F_over_Over⟩ :: ⟨83, c_payload_quieted, F_payload_quieted⟩ :: ⟨25, c_addsub_Turn, F_addsub_Turn⟩ :: E4
theorem E5_ok : ∀ e ∈ E5, EntOK Tryd.prog gG e := List.forall_mem_cons.2 ⟨e_class_Of, List.forall_mem_cons.2 ⟨e_fields_Pack, List.forall_mem_cons.2 ⟨e_over_Over, List.forall_mem_cons.2 ⟨e_payload_quieted, List.forall_mem_cons.2 ⟨e_addsub_Turn, E4_ok⟩⟩⟩⟩⟩
theorem ph_E4_format_Split : phiE E4 51 = F_format_Split := phiE_hit (e := ⟨51, _, F_format_Split⟩) rfl
theorem ph_E4_word_Zero : phiE E4 52 = F_word_Zero := phiE_hit (e := ⟨52, _, F_word_Zero⟩) rfl
theorem ph_E4_format_Emax : phiE E4 39 = F_format_Emax := phiE_hit (e := ⟨39, _, F_format_Emax⟩) rfl
theorem ph_E4_format_Prec : phiE E4 54 = F_format_Prec := phiE_hit (e := ⟨54, _, F_format_Prec⟩) rfl
theorem ph_E4_word_Bit : phiE E4 53 = F_word_Bit := phiE_hit (e := ⟨53, _, F_word_Bit⟩) rfl
theorem ph_E4_format_Nought : phiE E4 31 = F_format_Nought := phiE_hit (e := ⟨31, _, F_format_Nought⟩) rfl
theorem ph_E4_format_Inf : phiE E4 32 = F_format_Inf := phiE_hit (e := ⟨32, _, F_format_Inf⟩) rfl
theorem ph_E4_wide_Of : phiE E4 102 = F_wide_Of := phiE_hit (e := ⟨102, _, F_wide_Of⟩) rfl
theorem ph_E4_shift_Lost : phiE E4 101 = F_shift_Lost := phiE_hit (e := ⟨101, _, F_shift_Lost⟩) rfl
theorem ph_E4_shift_Right : phiE E4 81 = F_shift_Right := phiE_hit (e := ⟨81, _, F_shift_Right⟩) rfl
theorem ph_E4_format_Make : phiE E4 38 = F_format_Make := phiE_hit (e := ⟨38, _, F_format_Make⟩) rfl
theorem ph_E4_mode_Infinite : phiE E4 115 = F_mode_Infinite := phiE_hit (e := ⟨115, _, F_mode_Infinite⟩) rfl
theorem ph_E4_format_Max : phiE E4 113 = F_format_Max := phiE_hit (e := ⟨113, _, F_format_Max⟩) rfl
theorem ph_E4_nan_Default : phiE E4 87 = F_nan_Default := phiE_hit (e := ⟨87, _, F_nan_Default⟩) rfl
end Go.Proofs.YtikjbocagnolmaaDoor
