/- Contracts of this seat's functions: their trees, made by a program (sxgen), and that the executor answers just these. -/
import Derived.Test.YtikjbocagnolmaaDoorG5
namespace Go.Proofs.YtikjbocagnolmaaDoor
set_option linter.unusedVariables false
set_option maxRecDepth 100000
open Go.RowKit
def c_class_NaN : Ct := ⟨[.sc kB, .agg [kU, kU]], [.sc .bool]⟩
def t_class_NaN : Tr' SV :=
 (.call 26 [(.var kB 0), (.var kU 1), (.var kU 2)] 3 2
 (.leaf (.bool (.bin .geq .u8 (.var kB 3) (.lit 4)))))
theorem x_class_NaN : execF (ctx E5) 3000 20 (uns c_class_NaN.a (varsAt 0 (kindsOf c_class_NaN.a))) (kindsOf c_class_NaN.a).length = t_class_NaN := by kernel_rfl
def F_class_NaN : List Int → List Int := treeF (phiE E5) c_class_NaN t_class_NaN
theorem e_class_NaN : EntOK Tryd.prog gG ⟨20, c_class_NaN, F_class_NaN⟩ := ent_of (ctx_ok E5_ok) 3000 x_class_NaN (by kernel_rfl)
def c_class_Finite : Ct := ⟨[.sc kB, .agg [kU, kU]], [.sc .bool]⟩
def t_class_Finite : Tr' SV :=
 (.call 26 [(.var kB 0), (.var kU 1), (.var kU 2)] 3 2
 (.ite (.bin .lss .i64 (.var kB 0) (.lit 4))
 (.leaf (.bool (.bin .lss .u8 (.var kB 3) (.lit 3))))
 (.leaf (.bool (.lit 0)))))
theorem x_class_Finite : execF (ctx E5) 3000 42 (uns c_class_Finite.a (varsAt 0 (kindsOf c_class_Finite.a))) (kindsOf c_class_Finite.a).length = t_class_Finite := by kernel_rfl
def F_class_Finite : List Int → List Int := treeF (phiE E5) c_class_Finite t_class_Finite
theorem e_class_Finite : EntOK Tryd.prog gG ⟨42, c_class_Finite, F_class_Finite⟩ := ent_of (ctx_ok E5_ok) 3000 x_class_Finite (by kernel_rfl)
def c_fields_Unpack : Ct := ⟨[.sc kB, .agg [kU, kU]], [.agg [.bool, kB, kI, kU, kU]]⟩
def t_fields_Unpack : Tr' SV :=
 (.call 26 [(.var kB 0), (.var kU 1), (.var kU 2)] 3 2
 (.call 54 [(.var kB 0)] 5 1
 (.call 39 [(.var kB 0)] 6 1
 (.call 51 [(.var kB 0), (.var kU 1), (.var kU 2)] 7 4
 (.ite (.bin .eql .u8 (.var kB 3) (.lit 2))
 (.call 64 [(.var kU 9), (.var kU 10), (.bin .sub .i64 (.lit 128) (.var kI 5))] 11 2
 (.call 65 [(.var kU 11), (.var kU 12), (.lit 9223372036854775808), (.lit 0)] 13 3
 (.leaf (.agg [(.bool (.var .bool 4)), (.int .u8 (.var kB 3)), (.int .i64 (.bin .sub .i64 (.var kI 8) (.var kI 6))), (.int .u64 (.var kU 13)), (.int .u64 (.var kU 14))]))))
 (.ite (.bin .eql .u8 (.var kB 3) (.lit 1))
 (.call 69 [(.var kU 9), (.var kU 10)] 11 3
 (.leaf (.agg [(.bool (.var .bool 4)), (.int .u8 (.var kB 3)), (.int .i64 (.bin .sub .i64 (.bin .sub .i64 (.bin .add .i64 (.bin .sub .i64 (.lit 1) (.var kI 6)) (.lit 128)) (.var kI 5)) (.var kI 13))), (.int .u64 (.var kU 11)), (.int .u64 (.var kU 12))])))
 (.leaf (.agg [(.bool (.var .bool 4)), (.int .u8 (.var kB 3)), (.int .i64 (.lit 0)), (.int .u64 (.lit 0)), (.int .u64 (.lit 0))]))))))))
theorem x_fields_Unpack : execF (ctx E5) 3000 44 (uns c_fields_Unpack.a (varsAt 0 (kindsOf c_fields_Unpack.a))) (kindsOf c_fields_Unpack.a).length = t_fields_Unpack := by kernel_rfl
def F_fields_Unpack : List Int → List Int := treeF (phiE E5) c_fields_Unpack t_fields_Unpack
theorem e_fields_Unpack : EntOK Tryd.prog gG ⟨44, c_fields_Unpack, F_fields_Unpack⟩ := ent_of (ctx_ok E5_ok) 3000 x_fields_Unpack (by kernel_rfl)
def c_pack_Round : Ct := ⟨[.sc kB, .agg [kB, .bool], .sc .bool, .sc kI, .agg [kU, kU, kU, kU]], [.agg [kU, kU, kB]]⟩
def t_pack_Round : Tr' SV :=
 (.ite (.not (.bin .lss .i64 (.var kB 0) (.lit 4)))
 (.leaf (.agg [(.int .u64 (.lit 0)), (.int .u64 (.lit 0)), (.int .u8 (.lit 0))]))
 (.ite (.not (.bin .leq .u8 (.var kB 1) (.lit 4)))
 (.leaf (.agg [(.int .u64 (.lit 0)), (.int .u64 (.lit 0)), (.int .u8 (.lit 0))]))
 (.call 71 [(.var kU 5), (.var kU 6), (.var kU 7), (.var kU 8)] 9 1
 (.ite (.var .bool 9)
 (.call 31 [(.var kB 0), (.var .bool 3)] 10 2
 (.leaf (.agg [(.int .u64 (.var kU 10)), (.int .u64 (.var kU 11)), (.int .u8 (.lit 0))])))
 (.call 107 [(.var kU 5), (.var kU 6), (.var kU 7), (.var kU 8)] 10 5
 (.call 54 [(.var kB 0)] 15 1
 (.call 39 [(.var kB 0)] 16 1
 (.call 74 [(.var kU 10), (.var kU 11), (.var kU 12), (.var kU 13), (.var kI 15), (.var kB 1), (.var .bool 3)] 17 3
 (.call 53 [(.var kU 17), (.var kU 18), (.var kI 15)] 20 1
 (.ite (.var .bool 20)
 (.call 76 [(.var kB 0), (.bin .add .i64 (.bin .sub .i64 (.max (.lit (-1099511627776)) (.min (.var kI 4) (.lit 1099511627776))) (.var kI 14)) (.lit 1))] 21 1
 (.ite (.var .bool 21)
 (.call 77 [(.var kB 0), (.var kB 1), (.var .bool 3)] 22 3
 (.leaf (.agg [(.int .u64 (.var kU 22)), (.int .u64 (.var kU 23)), (.int .u8 (.var kB 24))])))
 (.ite (.bin .lss .i64 (.bin .sub .i64 (.max (.lit (-1099511627776)) (.min (.var kI 4) (.lit 1099511627776))) (.var kI 14)) (.bin .sub .i64 (.lit 1) (.var kI 16)))
 (.ite (.not (.var .bool 2))
 (.call 78 [(.var kU 10), (.var kU 11), (.var kU 12), (.var kU 13), (.bin .sub .i64 (.bin .sub .i64 (.lit 1) (.var kI 16)) (.bin .sub .i64 (.max (.lit (-1099511627776)) (.min (.var kI 4) (.lit 1099511627776))) (.var kI 14)))] 22 4
 (.call 74 [(.var kU 22), (.var kU 23), (.var kU 24), (.var kU 25), (.var kI 15), (.var kB 1), (.var .bool 3)] 26 3
 (.call 79 [(.var kB 0), (.var .bool 3), (.lit 0), (.var kU 26), (.var kU 27)] 29 2
 (.ite (.var .bool 28)
 (.leaf (.agg [(.int .u64 (.var kU 29)), (.int .u64 (.var kU 30)), (.int .u8 (.lit 24))]))
 (.leaf (.agg [(.int .u64 (.var kU 29)), (.int .u64 (.var kU 30)), (.int .u8 (.lit 0))]))))))
 (.call 78 [(.var kU 10), (.var kU 11), (.var kU 12), (.var kU 13), (.bin .sub .i64 (.bin .sub .i64 (.lit 1) (.var kI 16)) (.bin .sub .i64 (.max (.lit (-1099511627776)) (.min (.var kI 4) (.lit 1099511627776))) (.var kI 14)))] 22 4
 (.call 74 [(.var kU 22), (.var kU 23), (.var kU 24), (.var kU 25), (.var kI 15), (.var kB 1), (.var .bool 3)] 26 3
 (.call 79 [(.var kB 0), (.var .bool 3), (.lit 0), (.var kU 26), (.var kU 27)] 29 2
 (.ite (.var .bool 28)
 (.ite (.bin .lss .i64 (.bin .add .i64 (.bin .sub .i64 (.max (.lit (-1099511627776)) (.min (.var kI 4) (.lit 1099511627776))) (.var kI 14)) (.lit 1)) (.bin .sub .i64 (.lit 1) (.var kI 16)))
 (.leaf (.agg [(.int .u64 (.var kU 29)), (.int .u64 (.var kU 30)), (.int .u8 (.lit 24))]))
 (.leaf (.agg [(.int .u64 (.var kU 29)), (.int .u64 (.var kU 30)), (.int .u8 (.lit 16))])))
 (.leaf (.agg [(.int .u64 (.var kU 29)), (.int .u64 (.var kU 30)), (.int .u8 (.lit 0))])))))))
 (.call 79 [(.var kB 0), (.var .bool 3), (.bin .add .i64 (.bin .sub .i64 (.bin .add .i64 (.bin .sub .i64 (.max (.lit (-1099511627776)) (.min (.var kI 4) (.lit 1099511627776))) (.var kI 14)) (.lit 1)) (.bin .sub .i64 (.lit 1) (.var kI 16))) (.lit 1)), (.var kU 17), (.var kU 18)] 22 2
 (.ite (.var .bool 19)
 (.leaf (.agg [(.int .u64 (.var kU 22)), (.int .u64 (.var kU 23)), (.int .u8 (.lit 16))]))
 (.leaf (.agg [(.int .u64 (.var kU 22)), (.int .u64 (.var kU 23)), (.int .u8 (.lit 0))])))))))
 (.call 76 [(.var kB 0), (.bin .sub .i64 (.max (.lit (-1099511627776)) (.min (.var kI 4) (.lit 1099511627776))) (.var kI 14))] 21 1
 (.ite (.var .bool 21)
 (.call 77 [(.var kB 0), (.var kB 1), (.var .bool 3)] 22 3
 (.leaf (.agg [(.int .u64 (.var kU 22)), (.int .u64 (.var kU 23)), (.int .u8 (.var kB 24))])))
 (.ite (.bin .lss .i64 (.bin .sub .i64 (.max (.lit (-1099511627776)) (.min (.var kI 4) (.lit 1099511627776))) (.var kI 14)) (.bin .sub .i64 (.lit 1) (.var kI 16)))
 (.ite (.not (.var .bool 2))
 (.call 78 [(.var kU 10), (.var kU 11), (.var kU 12), (.var kU 13), (.bin .sub .i64 (.bin .sub .i64 (.lit 1) (.var kI 16)) (.bin .sub .i64 (.max (.lit (-1099511627776)) (.min (.var kI 4) (.lit 1099511627776))) (.var kI 14)))] 22 4
 (.call 74 [(.var kU 22), (.var kU 23), (.var kU 24), (.var kU 25), (.var kI 15), (.var kB 1), (.var .bool 3)] 26 3
 (.call 79 [(.var kB 0), (.var .bool 3), (.lit 0), (.var kU 26), (.var kU 27)] 29 2
 (.ite (.var .bool 28)
 (.leaf (.agg [(.int .u64 (.var kU 29)), (.int .u64 (.var kU 30)), (.int .u8 (.lit 24))]))
 (.leaf (.agg [(.int .u64 (.var kU 29)), (.int .u64 (.var kU 30)), (.int .u8 (.lit 0))]))))))
 (.call 78 [(.var kU 10), (.var kU 11), (.var kU 12), (.var kU 13), (.bin .sub .i64 (.bin .sub .i64 (.lit 1) (.var kI 16)) (.bin .sub .i64 (.max (.lit (-1099511627776)) (.min (.var kI 4) (.lit 1099511627776))) (.var kI 14)))] 22 4
 (.call 74 [(.var kU 22), (.var kU 23), (.var kU 24), (.var kU 25), (.var kI 15), (.var kB 1), (.var .bool 3)] 26 3
 (.call 79 [(.var kB 0), (.var .bool 3), (.lit 0), (.var kU 26), (.var kU 27)] 29 2
 (.ite (.var .bool 28)
 (.leaf (.agg [(.int .u64 (.var kU 29)), (.int .u64 (.var kU 30)), (.int .u8 (.lit 24))]))
 (.leaf (.agg [(.int .u64 (.var kU 29)), (.int .u64 (.var kU 30)), (.int .u8 (.lit 0))])))))))
 (.call 79 [(.var kB 0), (.var .bool 3), (.bin .add .i64 (.bin .sub .i64 (.bin .sub .i64 (.max (.lit (-1099511627776)) (.min (.var kI 4) (.lit 1099511627776))) (.var kI 14)) (.bin .sub .i64 (.lit 1) (.var kI 16))) (.lit 1)), (.var kU 17), (.var kU 18)] 22 2
 (.ite (.var .bool 19)
 (.leaf (.agg [(.int .u64 (.var kU 22)), (.int .u64 (.var kU 23)), (.int .u8 (.lit 16))]))
 (.leaf (.agg [(.int .u64 (.var kU 22)), (.int .u64 (.var kU 23)), (.int .u8 (.lit 0))])))))))))))))))))
theorem x_pack_Round : execF (ctx E5) 3000 45 (uns c_pack_Round.a (varsAt 0 (kindsOf c_pack_Round.a))) (kindsOf c_pack_Round.a).length = t_pack_Round := by kernel_rfl
def F_pack_Round : List Int → List Int := treeF (phiE E5) c_pack_Round t_pack_Round
theorem e_pack_Round : EntOK Tryd.prog gG ⟨45, c_pack_Round, F_pack_Round⟩ := ent_of (ctx_ok E5_ok) 3000 x_pack_Round (by kernel_rfl)
def c_class_Signaling : Ct := ⟨[.sc kB, .agg [kU, kU]], [.sc .bool]⟩
def t_class_Signaling : Tr' SV :=
 (.call 26 [(.var kB 0), (.var kU 1), (.var kU 2)] 3 2
 (.leaf (.bool (.bin .eql .u8 (.var kB 3) (.lit 5)))))
theorem x_class_Signaling : execF (ctx E5) 3000 84 (uns c_class_Signaling.a (varsAt 0 (kindsOf c_class_Signaling.a))) (kindsOf c_class_Signaling.a).length = t_class_Signaling := by kernel_rfl
def F_class_Signaling : List Int → List Int := treeF (phiE E5) c_class_Signaling t_class_Signaling
theorem e_class_Signaling : EntOK Tryd.prog gG ⟨84, c_class_Signaling, F_class_Signaling⟩ := ent_of (ctx_ok E5_ok) 3000 x_class_Signaling (by kernel_rfl)
def E6 : List Ent := ⟨20, c_class_NaN, F_class_NaN⟩ :: ⟨42, c_class_Finite, F_class_Finite⟩ :: ⟨44, c_fields_Unpack, F_fields_Unpack⟩ :: ⟨45, c_pack_Round, F_pack_Round⟩ :: ⟨84, c_class_Signaling, F_class_Signaling⟩ :: E5
theorem E6_ok : ∀ e ∈ E6, EntOK Tryd.prog gG e := List.forall_mem_cons.2 ⟨e_class_NaN, List.forall_mem_cons.2 ⟨e_class_Finite, List.forall_mem_cons.2 ⟨e_fields_Unpack, List.forall_mem_cons.2 ⟨e_pack_Round, List.forall_mem_cons.2 ⟨e_class_Signaling, E5_ok⟩⟩⟩⟩⟩
theorem ph_E5_class_Of : phiE E5 26 = F_class_Of := phiE_hit (e := ⟨26, _, F_class_Of⟩) rfl
theorem ph_E5_format_Prec : phiE E5 54 = F_format_Prec := phiE_hit (e := ⟨54, _, F_format_Prec⟩) rfl
theorem ph_E5_format_Emax : phiE E5 39 = F_format_Emax := phiE_hit (e := ⟨39, _, F_format_Emax⟩) rfl
theorem ph_E5_format_Split : phiE E5 51 = F_format_Split := phiE_hit (e := ⟨51, _, F_format_Split⟩) rfl
theorem ph_E5_shift_Left : phiE E5 64 = F_shift_Left := phiE_hit (e := ⟨64, _, F_shift_Left⟩) rfl
theorem ph_E5_word_Add : phiE E5 65 = F_word_Add := phiE_hit (e := ⟨65, _, F_word_Add⟩) rfl
theorem ph_E5_count_Raise : phiE E5 69 = F_count_Raise := phiE_hit (e := ⟨69, _, F_count_Raise⟩) rfl
theorem ph_E5_wide_Zero : phiE E5 71 = F_wide_Zero := phiE_hit (e := ⟨71, _, F_wide_Zero⟩) rfl
theorem ph_E5_format_Nought : phiE E5 31 = F_format_Nought := phiE_hit (e := ⟨31, _, F_format_Nought⟩) rfl
theorem ph_E5_count_WideRaise : phiE E5 107 = F_count_WideRaise := phiE_hit (e := ⟨107, _, F_count_WideRaise⟩) rfl
theorem ph_E5_round_Cut : phiE E5 74 = F_round_Cut := phiE_hit (e := ⟨74, _, F_round_Cut⟩) rfl
theorem ph_E5_word_Bit : phiE E5 53 = F_word_Bit := phiE_hit (e := ⟨53, _, F_word_Bit⟩) rfl
theorem ph_E5_over_Beyond : phiE E5 76 = F_over_Beyond := phiE_hit (e := ⟨76, _, F_over_Beyond⟩) rfl
theorem ph_E5_over_Over : phiE E5 77 = F_over_Over := phiE_hit (e := ⟨77, _, F_over_Over⟩) rfl
theorem ph_E5_shift_WideJam : phiE E5 78 = F_shift_WideJam := phiE_hit (e := ⟨78, _, F_shift_WideJam⟩) rfl
theorem ph_E5_pack_put : phiE E5 79 = F_pack_put := phiE_hit (e := ⟨79, _, F_pack_put⟩) rfl
end Go.Proofs.YtikjbocagnolmaaDoor
