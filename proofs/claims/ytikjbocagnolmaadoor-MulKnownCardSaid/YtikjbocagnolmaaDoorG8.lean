/- Contracts of this seat's functions: their trees, made by a program (sxgen), and that the executor answers just these. -/
import Derived.Test.YtikjbocagnolmaaDoorG7
namespace Go.Proofs.YtikjbocagnolmaaDoor
set_option linter.unusedVariables false
set_option maxRecDepth 100000
open Go.RowKit
def c_mul_Mul : Ct := ⟨[.sc kB, .agg [kB, .bool], .agg [kU, kU], .agg [kU, kU]], [.agg [kU, kU, kB]]⟩
def t_mul_Mul : Tr' SV :=
 (.ite (.not (.bin .lss .i64 (.var kB 0) (.lit 4)))
 (.leaf (.agg [(.int .u64 (.lit 0)), (.int .u64 (.lit 0)), (.int .u8 (.lit 0))]))
 (.ite (.not (.bin .leq .u8 (.var kB 1) (.lit 4)))
 (.leaf (.agg [(.int .u64 (.lit 0)), (.int .u64 (.lit 0)), (.int .u8 (.lit 0))]))
 (.call 44 [(.var kB 0), (.var kU 3), (.var kU 4)] 7 5
 (.call 44 [(.var kB 0), (.var kU 5), (.var kU 6)] 12 5
 (.call 35 [(.var .bool 7), (.var kB 8), (.var kI 9), (.var kU 10), (.var kU 11), (.var .bool 12), (.var kB 13), (.var kI 14), (.var kU 15), (.var kU 16)] 17 1
 (.call 20 [(.var kB 0), (.var kU 3), (.var kU 4)] 18 1
 (.ite (.var .bool 18)
 (.call 87 [(.var kB 0)] 19 2
 (.call 82 [(.var kB 0), (.var kU 3), (.var kU 4)] 21 2
 (.ite (.var .bool 17)
 (.leaf (.agg [(.int .u64 (.var kU 21)), (.int .u64 (.var kU 22)), (.int .u8 (.lit 1))]))
 (.call 84 [(.var kB 0), (.var kU 3), (.var kU 4)] 23 1
 (.ite (.var .bool 23)
 (.leaf (.agg [(.int .u64 (.var kU 21)), (.int .u64 (.var kU 22)), (.int .u8 (.lit 1))]))
 (.call 84 [(.var kB 0), (.var kU 5), (.var kU 6)] 24 1
 (.ite (.var .bool 24)
 (.leaf (.agg [(.int .u64 (.var kU 21)), (.int .u64 (.var kU 22)), (.int .u8 (.lit 1))]))
 (.leaf (.agg [(.int .u64 (.var kU 21)), (.int .u64 (.var kU 22)), (.int .u8 (.lit 0))])))))))))
 (.call 20 [(.var kB 0), (.var kU 5), (.var kU 6)] 19 1
 (.ite (.var .bool 19)
 (.call 87 [(.var kB 0)] 20 2
 (.call 82 [(.var kB 0), (.var kU 5), (.var kU 6)] 22 2
 (.ite (.var .bool 17)
 (.leaf (.agg [(.int .u64 (.var kU 22)), (.int .u64 (.var kU 23)), (.int .u8 (.lit 1))]))
 (.call 84 [(.var kB 0), (.var kU 3), (.var kU 4)] 24 1
 (.ite (.var .bool 24)
 (.leaf (.agg [(.int .u64 (.var kU 22)), (.int .u64 (.var kU 23)), (.int .u8 (.lit 1))]))
 (.call 84 [(.var kB 0), (.var kU 5), (.var kU 6)] 25 1
 (.ite (.var .bool 25)
 (.leaf (.agg [(.int .u64 (.var kU 22)), (.int .u64 (.var kU 23)), (.int .u8 (.lit 1))]))
 (.leaf (.agg [(.int .u64 (.var kU 22)), (.int .u64 (.var kU 23)), (.int .u8 (.lit 0))])))))))))
 (.ite (.not (.var .bool 17))
 (.ite (.bin .geq .i64 (.ite (.bin .eql .u8 (.var kB 8) (.lit 3)) (.lit 0) (.ite (.bin .eql .u8 (.var kB 13) (.lit 3)) (.lit 1) (.lit (-1)))) (.lit 0))
 (.call 32 [(.var kB 0), (.not (.beq (.var .bool 7) (.var .bool 12)))] 20 2
 (.leaf (.agg [(.int .u64 (.var kU 20)), (.int .u64 (.var kU 21)), (.int .u8 (.lit 0))])))
 (.call 33 [(.var .bool 7), (.var kB 8), (.var kI 9), (.var kU 10), (.var kU 11), (.var .bool 12), (.var kB 13), (.var kI 14), (.var kU 15), (.var kU 16)] 20 5
 (.call 45 [(.var kB 0), (.var kB 1), (.var .bool 2), (.not (.beq (.var .bool 7) (.var .bool 12))), (.var kI 20), (.var kU 21), (.var kU 22), (.var kU 23), (.var kU 24)] 25 3
 (.leaf (.agg [(.int .u64 (.var kU 25)), (.int .u64 (.var kU 26)), (.int .u8 (.var kB 27))])))))
 (.call 87 [(.var kB 0)] 20 2
 (.leaf (.agg [(.int .u64 (.var kU 20)), (.int .u64 (.var kU 21)), (.int .u8 (.lit 1))])))))))))))))
theorem x_mul_Mul : execF (ctx E7) 3000 30 (uns c_mul_Mul.a (varsAt 0 (kindsOf c_mul_Mul.a))) (kindsOf c_mul_Mul.a).length = t_mul_Mul := by kernel_rfl
def F_mul_Mul : List Int → List Int := treeF (phiE E7) c_mul_Mul t_mul_Mul
theorem e_mul_Mul : EntOK Tryd.prog gG ⟨30, c_mul_Mul, F_mul_Mul⟩ := ent_of (ctx_ok E7_ok) 3000 x_mul_Mul (by kernel_rfl)
def c_payload_Move : Ct := ⟨[.sc kB, .sc kB, .agg [kU, kU]], [.agg [kU, kU, kB], .sc .bool]⟩
def t_payload_Move : Tr' SV :=
 (.ite (.not (.bin .lss .i64 (.var kB 1) (.lit 4)))
 (.leaf (.tup [(.agg [(.int .u64 (.lit 0)), (.int .u64 (.lit 0)), (.int .u8 (.lit 0))]), (.bool (.lit 0))]))
 (.call 20 [(.var kB 0), (.var kU 2), (.var kU 3)] 4 1
 (.ite (.not (.var .bool 4))
 (.leaf (.tup [(.agg [(.int .u64 (.lit 0)), (.int .u64 (.lit 0)), (.int .u8 (.lit 0))]), (.bool (.lit 0))]))
 (.call 51 [(.var kB 0), (.var kU 2), (.var kU 3)] 5 4
 (.call 54 [(.var kB 0)] 9 1
 (.call 64 [(.var kU 7), (.var kU 8), (.bin .sub .i64 (.lit 129) (.var kI 9))] 10 2
 (.call 54 [(.var kB 1)] 12 1
 (.call 81 [(.var kU 10), (.var kU 11), (.bin .sub .i64 (.lit 129) (.var kI 12))] 13 2
 (.call 39 [(.var kB 1)] 15 1
 (.call 83 [(.var kB 1), (.var kU 13), (.var kU 14)] 16 2
 (.call 38 [(.var kB 1), (.var .bool 5), (.bin .add .i64 (.bin .mul .i64 (.lit 2) (.var kI 15)) (.lit 1)), (.var kU 16), (.var kU 17)] 18 2
 (.call 82 [(.var kB 1), (.var kU 18), (.var kU 19)] 20 2
 (.call 84 [(.var kB 0), (.var kU 2), (.var kU 3)] 22 1
 (.ite (.var .bool 22)
 (.leaf (.tup [(.agg [(.int .u64 (.var kU 20)), (.int .u64 (.var kU 21)), (.int .u8 (.lit 1))]), (.bool (.lit 1))]))
 (.leaf (.tup [(.agg [(.int .u64 (.var kU 20)), (.int .u64 (.var kU 21)), (.int .u8 (.lit 0))]), (.bool (.lit 1))]))))))))))))))))
theorem x_payload_Move : execF (ctx E7) 3000 47 (uns c_payload_Move.a (varsAt 0 (kindsOf c_payload_Move.a))) (kindsOf c_payload_Move.a).length = t_payload_Move := by kernel_rfl
def F_payload_Move : List Int → List Int := treeF (phiE E7) c_payload_Move t_payload_Move
theorem e_payload_Move : EntOK Tryd.prog gG ⟨47, c_payload_Move, F_payload_Move⟩ := ent_of (ctx_ok E7_ok) 3000 x_payload_Move (by kernel_rfl)
def E8 : List Ent := ⟨30, c_mul_Mul, F_mul_Mul⟩ :: ⟨47, c_payload_Move, F_payload_Move⟩ :: E7
theorem E8_ok : ∀ e ∈ E8, EntOK Tryd.prog gG e := List.forall_mem_cons.2 ⟨e_mul_Mul, List.forall_mem_cons.2 ⟨e_payload_Move, E7_ok⟩⟩
theorem ph_E7_fields_Unpack : phiE E7 44 = F_fields_Unpack := phiE_hit (e := ⟨44, _, F_fields_Unpack⟩) rfl
theorem ph_E7_mul_Bad : phiE E7 35 = F_mul_Bad := phiE_hit (e := ⟨35, _, F_mul_Bad⟩) rfl
theorem ph_E7_class_NaN : phiE E7 20 = F_class_NaN := phiE_hit (e := ⟨20, _, F_class_NaN⟩) rfl
theorem ph_E7_nan_Default : phiE E7 87 = F_nan_Default := phiE_hit (e := ⟨87, _, F_nan_Default⟩) rfl
theorem ph_E7_nan_Quiet : phiE E7 82 = F_nan_Quiet := phiE_hit (e := ⟨82, _, F_nan_Quiet⟩) rfl
theorem ph_E7_class_Signaling : phiE E7 84 = F_class_Signaling := phiE_hit (e := ⟨84, _, F_class_Signaling⟩) rfl
theorem ph_E7_format_Inf : phiE E7 32 = F_format_Inf := phiE_hit (e := ⟨32, _, F_format_Inf⟩) rfl
theorem ph_E7_mul_Term : phiE E7 33 = F_mul_Term := phiE_hit (e := ⟨33, _, F_mul_Term⟩) rfl
theorem ph_E7_pack_Round : phiE E7 45 = F_pack_Round := phiE_hit (e := ⟨45, _, F_pack_Round⟩) rfl
theorem ph_E7_format_Split : phiE E7 51 = F_format_Split := phiE_hit (e := ⟨51, _, F_format_Split⟩) rfl
theorem ph_E7_format_Prec : phiE E7 54 = F_format_Prec := phiE_hit (e := ⟨54, _, F_format_Prec⟩) rfl
theorem ph_E7_shift_Left : phiE E7 64 = F_shift_Left := phiE_hit (e := ⟨64, _, F_shift_Left⟩) rfl
theorem ph_E7_shift_Right : phiE E7 81 = F_shift_Right := phiE_hit (e := ⟨81, _, F_shift_Right⟩) rfl
theorem ph_E7_format_Emax : phiE E7 39 = F_format_Emax := phiE_hit (e := ⟨39, _, F_format_Emax⟩) rfl
theorem ph_E7_payload_quieted : phiE E7 83 = F_payload_quieted := phiE_hit (e := ⟨83, _, F_payload_quieted⟩) rfl
theorem ph_E7_format_Make : phiE E7 38 = F_format_Make := phiE_hit (e := ⟨38, _, F_format_Make⟩) rfl
end Go.Proofs.YtikjbocagnolmaaDoor
