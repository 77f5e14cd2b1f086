import Derived.Test.YtemomocmfggiaaaGreatDoorZDU5
namespace Go.Proofs.YtemomocmfggiaaaGreatDoor
set_option linter.unusedVariables false
set_option maxRecDepth 100000
open Go.RowKit
def c_word_Zero : Ct := ⟨[.agg [kU, kU]], [.sc .bool]⟩
def t_word_Zero : Tr' SV :=
 (.leaf (.bool (.and (.bin .eql .u64 (.var kU 0) (.lit 0)) (.and (.bin .eql .u64 (.var kU 1) (.lit 0)) (.lit 1)))))
theorem x_word_Zero : execF (ctx E0) 3000 50 (uns c_word_Zero.a (varsAt 0 (kindsOf c_word_Zero.a))) (kindsOf c_word_Zero.a).length = t_word_Zero := by kernel_rfl
def F_word_Zero : List Int → List Int := treeF (phiE E0) c_word_Zero t_word_Zero
theorem e_word_Zero : EntOK Tryz.prog gG ⟨50, c_word_Zero, F_word_Zero⟩ := ent_of (ctx_ok E0_ok) 3000 x_word_Zero (by kernel_rfl)
def c_word_Bit : Ct := ⟨[.agg [kU, kU], .sc kI], [.sc .bool]⟩
def t_word_Bit : Tr' SV :=
 (.ite (.bin .lss .i64 (.var kI 2) (.lit 0))
 (.leaf (.bool (.lit 0)))
 (.ite (.bin .gtr .i64 (.var kI 2) (.lit 127))
 (.leaf (.bool (.lit 0)))
 (.ite (.bin .gtr .i64 (.var kI 2) (.lit 63))
 (.leaf (.bool (.bin .eql .u64 (.bin .and .u64 (.bin .shr .u64 (.var kU 0) (.bin .sub .i64 (.var kI 2) (.lit 64))) (.lit 1)) (.lit 1))))
 (.leaf (.bool (.bin .eql .u64 (.bin .and .u64 (.bin .shr .u64 (.var kU 1) (.var kI 2)) (.lit 1)) (.lit 1)))))))
theorem x_word_Bit : execF (ctx E0) 3000 52 (uns c_word_Bit.a (varsAt 0 (kindsOf c_word_Bit.a))) (kindsOf c_word_Bit.a).length = t_word_Bit := by kernel_rfl
def F_word_Bit : List Int → List Int := treeF (phiE E0) c_word_Bit t_word_Bit
theorem e_word_Bit : EntOK Tryz.prog gG ⟨52, c_word_Bit, F_word_Bit⟩ := ent_of (ctx_ok E0_ok) 3000 x_word_Bit (by kernel_rfl)
def c_word_Add : Ct := ⟨[.agg [kU, kU], .agg [kU, kU]], [.agg [kU, kU], .sc .bool]⟩
def t_word_Add : Tr' SV :=
 (.call 225 [(.var kU 1), (.var kU 3), (.lit 0)] 4 2
 (.call 225 [(.var kU 0), (.var kU 2), (.var .bit 5)] 6 2
 (.leaf (.tup [(.agg [(.int .u64 (.var kU 6)), (.int .u64 (.var kU 4))]), (.bool (.bin .neq .u64 (.var .bit 7) (.lit 0)))]))))
theorem x_word_Add : execF (ctx E0) 3000 192 (uns c_word_Add.a (varsAt 0 (kindsOf c_word_Add.a))) (kindsOf c_word_Add.a).length = t_word_Add := by kernel_rfl
def F_word_Add : List Int → List Int := treeF (phiE E0) c_word_Add t_word_Add
theorem e_word_Add : EntOK Tryz.prog gG ⟨192, c_word_Add, F_word_Add⟩ := ent_of (ctx_ok E0_ok) 3000 x_word_Add (by kernel_rfl)
def c_word_Sub : Ct := ⟨[.agg [kU, kU], .agg [kU, kU]], [.agg [kU, kU], .sc .bool]⟩
def t_word_Sub : Tr' SV :=
 (.call 226 [(.var kU 1), (.var kU 3), (.lit 0)] 4 2
 (.call 226 [(.var kU 0), (.var kU 2), (.var .bit 5)] 6 2
 (.leaf (.tup [(.agg [(.int .u64 (.var kU 6)), (.int .u64 (.var kU 4))]), (.bool (.bin .neq .u64 (.var .bit 7) (.lit 0)))]))))
theorem x_word_Sub : execF (ctx E0) 3000 227 (uns c_word_Sub.a (varsAt 0 (kindsOf c_word_Sub.a))) (kindsOf c_word_Sub.a).length = t_word_Sub := by kernel_rfl
def F_word_Sub : List Int → List Int := treeF (phiE E0) c_word_Sub t_word_Sub
theorem e_word_Sub : EntOK Tryz.prog gG ⟨227, c_word_Sub, F_word_Sub⟩ := ent_of (ctx_ok E0_ok) 3000 x_word_Sub (by kernel_rfl)
def c_word_Mul : Ct := ⟨[.sc kU, .sc kU], [.agg [kU, kU]]⟩
def t_word_Mul : Tr' SV :=
 (.call 268 [(.var kU 0), (.var kU 1)] 2 2
 (.leaf (.agg [(.int .u64 (.var kU 2)), (.int .u64 (.var kU 3))])))
theorem x_word_Mul : execF (ctx E0) 3000 247 (uns c_word_Mul.a (varsAt 0 (kindsOf c_word_Mul.a))) (kindsOf c_word_Mul.a).length = t_word_Mul := by kernel_rfl
def F_word_Mul : List Int → List Int := treeF (phiE E0) c_word_Mul t_word_Mul
theorem e_word_Mul : EntOK Tryz.prog gG ⟨247, c_word_Mul, F_word_Mul⟩ := ent_of (ctx_ok E0_ok) 3000 x_word_Mul (by kernel_rfl)
def c_wide_Join : Ct := ⟨[.agg [kU, kU], .agg [kU, kU]], [.agg [kU, kU, kU, kU]]⟩
def t_wide_Join : Tr' SV :=
 (.leaf (.agg [(.int .u64 (.var kU 3)), (.int .u64 (.var kU 2)), (.int .u64 (.var kU 1)), (.int .u64 (.var kU 0))]))
theorem x_wide_Join : execF (ctx E0) 3000 150 (uns c_wide_Join.a (varsAt 0 (kindsOf c_wide_Join.a))) (kindsOf c_wide_Join.a).length = t_wide_Join := by kernel_rfl
def F_wide_Join : List Int → List Int := treeF (phiE E0) c_wide_Join t_wide_Join
theorem e_wide_Join : EntOK Tryz.prog gG ⟨150, c_wide_Join, F_wide_Join⟩ := ent_of (ctx_ok E0_ok) 3000 x_wide_Join (by kernel_rfl)
def c_wide_Of : Ct := ⟨[.agg [kU, kU]], [.agg [kU, kU, kU, kU]]⟩
def t_wide_Of : Tr' SV :=
 (.leaf (.agg [(.int .u64 (.var kU 1)), (.int .u64 (.var kU 0)), (.int .u64 (.lit 0)), (.int .u64 (.lit 0))]))
theorem x_wide_Of : execF (ctx E0) 3000 155 (uns c_wide_Of.a (varsAt 0 (kindsOf c_wide_Of.a))) (kindsOf c_wide_Of.a).length = t_wide_Of := by kernel_rfl
def F_wide_Of : List Int → List Int := treeF (phiE E0) c_wide_Of t_wide_Of
theorem e_wide_Of : EntOK Tryz.prog gG ⟨155, c_wide_Of, F_wide_Of⟩ := ent_of (ctx_ok E0_ok) 3000 x_wide_Of (by kernel_rfl)
def c_wide_High : Ct := ⟨[.agg [kU, kU, kU, kU]], [.agg [kU, kU]]⟩
def t_wide_High : Tr' SV :=
 (.leaf (.agg [(.int .u64 (.var kU 3)), (.int .u64 (.var kU 2))]))
theorem x_wide_High : execF (ctx E0) 3000 241 (uns c_wide_High.a (varsAt 0 (kindsOf c_wide_High.a))) (kindsOf c_wide_High.a).length = t_wide_High := by kernel_rfl
def F_wide_High : List Int → List Int := treeF (phiE E0) c_wide_High t_wide_High
theorem e_wide_High : EntOK Tryz.prog gG ⟨241, c_wide_High, F_wide_High⟩ := ent_of (ctx_ok E0_ok) 3000 x_wide_High (by kernel_rfl)
def c_wide_Low : Ct := ⟨[.agg [kU, kU, kU, kU]], [.agg [kU, kU]]⟩
def t_wide_Low : Tr' SV :=
 (.leaf (.agg [(.int .u64 (.var kU 1)), (.int .u64 (.var kU 0))]))
theorem x_wide_Low : execF (ctx E0) 3000 249 (uns c_wide_Low.a (varsAt 0 (kindsOf c_wide_Low.a))) (kindsOf c_wide_Low.a).length = t_wide_Low := by kernel_rfl
def F_wide_Low : List Int → List Int := treeF (phiE E0) c_wide_Low t_wide_Low
theorem e_wide_Low : EntOK Tryz.prog gG ⟨249, c_wide_Low, F_wide_Low⟩ := ent_of (ctx_ok E0_ok) 3000 x_wide_Low (by kernel_rfl)
def c_wide_Zero : Ct := ⟨[.agg [kU, kU, kU, kU]], [.sc .bool]⟩
def t_wide_Zero : Tr' SV :=
 (.leaf (.bool (.and (.bin .eql .u64 (.var kU 0) (.lit 0)) (.and (.bin .eql .u64 (.var kU 1) (.lit 0)) (.and (.bin .eql .u64 (.var kU 2) (.lit 0)) (.and (.bin .eql .u64 (.var kU 3) (.lit 0)) (.lit 1)))))))
theorem x_wide_Zero : execF (ctx E0) 3000 166 (uns c_wide_Zero.a (varsAt 0 (kindsOf c_wide_Zero.a))) (kindsOf c_wide_Zero.a).length = t_wide_Zero := by kernel_rfl
def F_wide_Zero : List Int → List Int := treeF (phiE E0) c_wide_Zero t_wide_Zero
theorem e_wide_Zero : EntOK Tryz.prog gG ⟨166, c_wide_Zero, F_wide_Zero⟩ := ent_of (ctx_ok E0_ok) 3000 x_wide_Zero (by kernel_rfl)
def c_shift_Left : Ct := ⟨[.agg [kU, kU], .sc kI], [.agg [kU, kU]]⟩
def t_shift_Left : Tr' SV :=
 (.leaf (.agg [(.int .u64 (.bin .or .u64 (.bin .shl .u64 (.ite (.bin .lss .i64 (.bin .sub .i64 (.lit 1) (.bin .shr .i64 (.max (.lit (-128)) (.min (.max (.var kI 2) (.lit 0)) (.lit 128))) (.lit 6))) (.lit 0)) (.lit 0) (.ite (.bin .eql .i64 (.bin .sub .i64 (.lit 1) (.bin .shr .i64 (.max (.lit (-128)) (.min (.max (.var kI 2) (.lit 0)) (.lit 128))) (.lit 6))) (.lit 0)) (.var kU 1) (.var kU 0))) (.conv .u64 (.bin .and .i64 (.max (.lit (-128)) (.min (.max (.var kI 2) (.lit 0)) (.lit 128))) (.lit 63)))) (.bin .shr .u64 (.bin .shr .u64 (.ite (.bin .lss .i64 (.bin .sub .i64 (.bin .sub .i64 (.lit 1) (.bin .shr .i64 (.max (.lit (-128)) (.min (.max (.var kI 2) (.lit 0)) (.lit 128))) (.lit 6))) (.lit 1)) (.lit 0)) (.lit 0) (.var kU 1)) (.lit 1)) (.bin .sub .u64 (.lit 63) (.conv .u64 (.bin .and .i64 (.max (.lit (-128)) (.min (.max (.var kI 2) (.lit 0)) (.lit 128))) (.lit 63))))))), (.int .u64 (.bin .or .u64 (.bin .shl .u64 (.ite (.bin .lss .i64 (.bin .sub .i64 (.lit 0) (.bin .shr .i64 (.max (.lit (-128)) (.min (.max (.var kI 2) (.lit 0)) (.lit 128))) (.lit 6))) (.lit 0)) (.lit 0) (.var kU 1)) (.conv .u64 (.bin .and .i64 (.max (.lit (-128)) (.min (.max (.var kI 2) (.lit 0)) (.lit 128))) (.lit 63)))) (.bin .shr .u64 (.lit 0) (.bin .sub .u64 (.lit 63) (.conv .u64 (.bin .and .i64 (.max (.lit (-128)) (.min (.max (.var kI 2) (.lit 0)) (.lit 128))) (.lit 63)))))))]))
theorem x_shift_Left : execF (ctx E0) 3000 111 (uns c_shift_Left.a (varsAt 0 (kindsOf c_shift_Left.a))) (kindsOf c_shift_Left.a).length = t_shift_Left := by kernel_rfl
def F_shift_Left : List Int → List Int := treeF (phiE E0) c_shift_Left t_shift_Left
theorem e_shift_Left : EntOK Tryz.prog gG ⟨111, c_shift_Left, F_shift_Left⟩ := ent_of (ctx_ok E0_ok) 3000 x_shift_Left (by kernel_rfl)
def c_shift_Right : Ct := ⟨[.agg [kU, kU], .sc kI], [.agg [kU, kU]]⟩
def t_shift_Right : Tr' SV :=
 (.leaf (.agg [(.int .u64 (.bin .or .u64 (.bin .shl .u64 (.ite (.bin .geq .i64 (.bin .sub .i64 (.lit 1) (.bin .shr .i64 (.max (.lit (-128)) (.min (.bin .sub .i64 (.lit 0) (.min (.max (.var kI 2) (.lit 0)) (.lit 128))) (.lit 128))) (.lit 6))) (.lit 2)) (.lit 0) (.var kU 0)) (.conv .u64 (.bin .and .i64 (.max (.lit (-128)) (.min (.bin .sub .i64 (.lit 0) (.min (.max (.var kI 2) (.lit 0)) (.lit 128))) (.lit 128))) (.lit 63)))) (.bin .shr .u64 (.bin .shr .u64 (.ite (.bin .geq .i64 (.bin .sub .i64 (.bin .sub .i64 (.lit 1) (.bin .shr .i64 (.max (.lit (-128)) (.min (.bin .sub .i64 (.lit 0) (.min (.max (.var kI 2) (.lit 0)) (.lit 128))) (.lit 128))) (.lit 6))) (.lit 1)) (.lit 2)) (.lit 0) (.ite (.bin .eql .i64 (.bin .sub .i64 (.bin .sub .i64 (.lit 1) (.bin .shr .i64 (.max (.lit (-128)) (.min (.bin .sub .i64 (.lit 0) (.min (.max (.var kI 2) (.lit 0)) (.lit 128))) (.lit 128))) (.lit 6))) (.lit 1)) (.lit 0)) (.var kU 1) (.var kU 0))) (.lit 1)) (.bin .sub .u64 (.lit 63) (.conv .u64 (.bin .and .i64 (.max (.lit (-128)) (.min (.bin .sub .i64 (.lit 0) (.min (.max (.var kI 2) (.lit 0)) (.lit 128))) (.lit 128))) (.lit 63))))))), (.int .u64 (.bin .or .u64 (.bin .shl .u64 (.ite (.bin .geq .i64 (.bin .sub .i64 (.lit 0) (.bin .shr .i64 (.max (.lit (-128)) (.min (.bin .sub .i64 (.lit 0) (.min (.max (.var kI 2) (.lit 0)) (.lit 128))) (.lit 128))) (.lit 6))) (.lit 2)) (.lit 0) (.ite (.bin .eql .i64 (.bin .sub .i64 (.lit 0) (.bin .shr .i64 (.max (.lit (-128)) (.min (.bin .sub .i64 (.lit 0) (.min (.max (.var kI 2) (.lit 0)) (.lit 128))) (.lit 128))) (.lit 6))) (.lit 0)) (.var kU 1) (.var kU 0))) (.conv .u64 (.bin .and .i64 (.max (.lit (-128)) (.min (.bin .sub .i64 (.lit 0) (.min (.max (.var kI 2) (.lit 0)) (.lit 128))) (.lit 128))) (.lit 63)))) (.bin .shr .u64 (.bin .shr .u64 (.ite (.bin .lss .i64 (.bin .sub .i64 (.bin .sub .i64 (.lit 0) (.bin .shr .i64 (.max (.lit (-128)) (.min (.bin .sub .i64 (.lit 0) (.min (.max (.var kI 2) (.lit 0)) (.lit 128))) (.lit 128))) (.lit 6))) (.lit 1)) (.lit 0)) (.lit 0) (.ite (.bin .eql .i64 (.bin .sub .i64 (.bin .sub .i64 (.lit 0) (.bin .shr .i64 (.max (.lit (-128)) (.min (.bin .sub .i64 (.lit 0) (.min (.max (.var kI 2) (.lit 0)) (.lit 128))) (.lit 128))) (.lit 6))) (.lit 1)) (.lit 0)) (.var kU 1) (.var kU 0))) (.lit 1)) (.bin .sub .u64 (.lit 63) (.conv .u64 (.bin .and .i64 (.max (.lit (-128)) (.min (.bin .sub .i64 (.lit 0) (.min (.max (.var kI 2) (.lit 0)) (.lit 128))) (.lit 128))) (.lit 63)))))))]))
theorem x_shift_Right : execF (ctx E0) 3000 110 (uns c_shift_Right.a (varsAt 0 (kindsOf c_shift_Right.a))) (kindsOf c_shift_Right.a).length = t_shift_Right := by kernel_rfl
def F_shift_Right : List Int → List Int := treeF (phiE E0) c_shift_Right t_shift_Right
theorem e_shift_Right : EntOK Tryz.prog gG ⟨110, c_shift_Right, F_shift_Right⟩ := ent_of (ctx_ok E0_ok) 3000 x_shift_Right (by kernel_rfl)
def c_shift_WideLeft : Ct := ⟨[.agg [kU, kU, kU, kU], .sc kI], [.agg [kU, kU, kU, kU]]⟩
def t_shift_WideLeft : Tr' SV :=
 (.leaf (.agg [(.int .u64 (.bin .or .u64 (.bin .shl .u64 (.ite (.bin .lss .i64 (.bin .sub .i64 (.lit 0) (.bin .shr .i64 (.max (.lit (-256)) (.min (.max (.var kI 4) (.lit 0)) (.lit 256))) (.lit 6))) (.lit 0)) (.lit 0) (.var kU 0)) (.conv .u64 (.bin .and .i64 (.max (.lit (-256)) (.min (.max (.var kI 4) (.lit 0)) (.lit 256))) (.lit 63)))) (.bin .shr .u64 (.lit 0) (.bin .sub .u64 (.lit 63) (.conv .u64 (.bin .and .i64 (.max (.lit (-256)) (.min (.max (.var kI 4) (.lit 0)) (.lit 256))) (.lit 63))))))), (.int .u64 (.bin .or .u64 (.bin .shl .u64 (.ite (.bin .lss .i64 (.bin .sub .i64 (.lit 1) (.bin .shr .i64 (.max (.lit (-256)) (.min (.max (.var kI 4) (.lit 0)) (.lit 256))) (.lit 6))) (.lit 0)) (.lit 0) (.ite (.bin .eql .i64 (.bin .sub .i64 (.lit 1) (.bin .shr .i64 (.max (.lit (-256)) (.min (.max (.var kI 4) (.lit 0)) (.lit 256))) (.lit 6))) (.lit 0)) (.var kU 0) (.var kU 1))) (.conv .u64 (.bin .and .i64 (.max (.lit (-256)) (.min (.max (.var kI 4) (.lit 0)) (.lit 256))) (.lit 63)))) (.bin .shr .u64 (.bin .shr .u64 (.ite (.bin .lss .i64 (.bin .sub .i64 (.bin .sub .i64 (.lit 1) (.bin .shr .i64 (.max (.lit (-256)) (.min (.max (.var kI 4) (.lit 0)) (.lit 256))) (.lit 6))) (.lit 1)) (.lit 0)) (.lit 0) (.var kU 0)) (.lit 1)) (.bin .sub .u64 (.lit 63) (.conv .u64 (.bin .and .i64 (.max (.lit (-256)) (.min (.max (.var kI 4) (.lit 0)) (.lit 256))) (.lit 63))))))), (.int .u64 (.bin .or .u64 (.bin .shl .u64 (.ite (.bin .lss .i64 (.bin .sub .i64 (.lit 2) (.bin .shr .i64 (.max (.lit (-256)) (.min (.max (.var kI 4) (.lit 0)) (.lit 256))) (.lit 6))) (.lit 0)) (.lit 0) (.ite (.bin .eql .i64 (.bin .sub .i64 (.lit 2) (.bin .shr .i64 (.max (.lit (-256)) (.min (.max (.var kI 4) (.lit 0)) (.lit 256))) (.lit 6))) (.lit 0)) (.var kU 0) (.ite (.bin .eql .i64 (.bin .sub .i64 (.lit 2) (.bin .shr .i64 (.max (.lit (-256)) (.min (.max (.var kI 4) (.lit 0)) (.lit 256))) (.lit 6))) (.lit 1)) (.var kU 1) (.var kU 2)))) (.conv .u64 (.bin .and .i64 (.max (.lit (-256)) (.min (.max (.var kI 4) (.lit 0)) (.lit 256))) (.lit 63)))) (.bin .shr .u64 (.bin .shr .u64 (.ite (.bin .lss .i64 (.bin .sub .i64 (.bin .sub .i64 (.lit 2) (.bin .shr .i64 (.max (.lit (-256)) (.min (.max (.var kI 4) (.lit 0)) (.lit 256))) (.lit 6))) (.lit 1)) (.lit 0)) (.lit 0) (.ite (.bin .eql .i64 (.bin .sub .i64 (.bin .sub .i64 (.lit 2) (.bin .shr .i64 (.max (.lit (-256)) (.min (.max (.var kI 4) (.lit 0)) (.lit 256))) (.lit 6))) (.lit 1)) (.lit 0)) (.var kU 0) (.var kU 1))) (.lit 1)) (.bin .sub .u64 (.lit 63) (.conv .u64 (.bin .and .i64 (.max (.lit (-256)) (.min (.max (.var kI 4) (.lit 0)) (.lit 256))) (.lit 63))))))), (.int .u64 (.bin .or .u64 (.bin .shl .u64 (.ite (.bin .lss .i64 (.bin .sub .i64 (.lit 3) (.bin .shr .i64 (.max (.lit (-256)) (.min (.max (.var kI 4) (.lit 0)) (.lit 256))) (.lit 6))) (.lit 0)) (.lit 0) (.ite (.bin .eql .i64 (.bin .sub .i64 (.lit 3) (.bin .shr .i64 (.max (.lit (-256)) (.min (.max (.var kI 4) (.lit 0)) (.lit 256))) (.lit 6))) (.lit 0)) (.var kU 0) (.ite (.bin .eql .i64 (.bin .sub .i64 (.lit 3) (.bin .shr .i64 (.max (.lit (-256)) (.min (.max (.var kI 4) (.lit 0)) (.lit 256))) (.lit 6))) (.lit 1)) (.var kU 1) (.ite (.bin .eql .i64 (.bin .sub .i64 (.lit 3) (.bin .shr .i64 (.max (.lit (-256)) (.min (.max (.var kI 4) (.lit 0)) (.lit 256))) (.lit 6))) (.lit 2)) (.var kU 2) (.var kU 3))))) (.conv .u64 (.bin .and .i64 (.max (.lit (-256)) (.min (.max (.var kI 4) (.lit 0)) (.lit 256))) (.lit 63)))) (.bin .shr .u64 (.bin .shr .u64 (.ite (.bin .lss .i64 (.bin .sub .i64 (.bin .sub .i64 (.lit 3) (.bin .shr .i64 (.max (.lit (-256)) (.min (.max (.var kI 4) (.lit 0)) (.lit 256))) (.lit 6))) (.lit 1)) (.lit 0)) (.lit 0) (.ite (.bin .eql .i64 (.bin .sub .i64 (.bin .sub .i64 (.lit 3) (.bin .shr .i64 (.max (.lit (-256)) (.min (.max (.var kI 4) (.lit 0)) (.lit 256))) (.lit 6))) (.lit 1)) (.lit 0)) (.var kU 0) (.ite (.bin .eql .i64 (.bin .sub .i64 (.bin .sub .i64 (.lit 3) (.bin .shr .i64 (.max (.lit (-256)) (.min (.max (.var kI 4) (.lit 0)) (.lit 256))) (.lit 6))) (.lit 1)) (.lit 1)) (.var kU 1) (.var kU 2)))) (.lit 1)) (.bin .sub .u64 (.lit 63) (.conv .u64 (.bin .and .i64 (.max (.lit (-256)) (.min (.max (.var kI 4) (.lit 0)) (.lit 256))) (.lit 63)))))))]))
theorem x_shift_WideLeft : execF (ctx E0) 3000 151 (uns c_shift_WideLeft.a (varsAt 0 (kindsOf c_shift_WideLeft.a))) (kindsOf c_shift_WideLeft.a).length = t_shift_WideLeft := by kernel_rfl
def F_shift_WideLeft : List Int → List Int := treeF (phiE E0) c_shift_WideLeft t_shift_WideLeft
theorem e_shift_WideLeft : EntOK Tryz.prog gG ⟨151, c_shift_WideLeft, F_shift_WideLeft⟩ := ent_of (ctx_ok E0_ok) 3000 x_shift_WideLeft (by kernel_rfl)
def c_shift_WideRight : Ct := ⟨[.agg [kU, kU, kU, kU], .sc kI], [.agg [kU, kU, kU, kU]]⟩
def t_shift_WideRight : Tr' SV :=
 (.leaf (.agg [(.int .u64 (.bin .or .u64 (.bin .shl .u64 (.ite (.bin .geq .i64 (.bin .sub .i64 (.lit 0) (.bin .shr .i64 (.max (.lit (-256)) (.min (.bin .sub .i64 (.lit 0) (.min (.max (.var kI 4) (.lit 0)) (.lit 256))) (.lit 256))) (.lit 6))) (.lit 4)) (.lit 0) (.ite (.bin .eql .i64 (.bin .sub .i64 (.lit 0) (.bin .shr .i64 (.max (.lit (-256)) (.min (.bin .sub .i64 (.lit 0) (.min (.max (.var kI 4) (.lit 0)) (.lit 256))) (.lit 256))) (.lit 6))) (.lit 0)) (.var kU 0) (.ite (.bin .eql .i64 (.bin .sub .i64 (.lit 0) (.bin .shr .i64 (.max (.lit (-256)) (.min (.bin .sub .i64 (.lit 0) (.min (.max (.var kI 4) (.lit 0)) (.lit 256))) (.lit 256))) (.lit 6))) (.lit 1)) (.var kU 1) (.ite (.bin .eql .i64 (.bin .sub .i64 (.lit 0) (.bin .shr .i64 (.max (.lit (-256)) (.min (.bin .sub .i64 (.lit 0) (.min (.max (.var kI 4) (.lit 0)) (.lit 256))) (.lit 256))) (.lit 6))) (.lit 2)) (.var kU 2) (.var kU 3))))) (.conv .u64 (.bin .and .i64 (.max (.lit (-256)) (.min (.bin .sub .i64 (.lit 0) (.min (.max (.var kI 4) (.lit 0)) (.lit 256))) (.lit 256))) (.lit 63)))) (.bin .shr .u64 (.bin .shr .u64 (.ite (.bin .lss .i64 (.bin .sub .i64 (.bin .sub .i64 (.lit 0) (.bin .shr .i64 (.max (.lit (-256)) (.min (.bin .sub .i64 (.lit 0) (.min (.max (.var kI 4) (.lit 0)) (.lit 256))) (.lit 256))) (.lit 6))) (.lit 1)) (.lit 0)) (.lit 0) (.ite (.bin .eql .i64 (.bin .sub .i64 (.bin .sub .i64 (.lit 0) (.bin .shr .i64 (.max (.lit (-256)) (.min (.bin .sub .i64 (.lit 0) (.min (.max (.var kI 4) (.lit 0)) (.lit 256))) (.lit 256))) (.lit 6))) (.lit 1)) (.lit 0)) (.var kU 0) (.ite (.bin .eql .i64 (.bin .sub .i64 (.bin .sub .i64 (.lit 0) (.bin .shr .i64 (.max (.lit (-256)) (.min (.bin .sub .i64 (.lit 0) (.min (.max (.var kI 4) (.lit 0)) (.lit 256))) (.lit 256))) (.lit 6))) (.lit 1)) (.lit 1)) (.var kU 1) (.ite (.bin .eql .i64 (.bin .sub .i64 (.bin .sub .i64 (.lit 0) (.bin .shr .i64 (.max (.lit (-256)) (.min (.bin .sub .i64 (.lit 0) (.min (.max (.var kI 4) (.lit 0)) (.lit 256))) (.lit 256))) (.lit 6))) (.lit 1)) (.lit 2)) (.var kU 2) (.var kU 3))))) (.lit 1)) (.bin .sub .u64 (.lit 63) (.conv .u64 (.bin .and .i64 (.max (.lit (-256)) (.min (.bin .sub .i64 (.lit 0) (.min (.max (.var kI 4) (.lit 0)) (.lit 256))) (.lit 256))) (.lit 63))))))), (.int .u64 (.bin .or .u64 (.bin .shl .u64 (.ite (.bin .geq .i64 (.bin .sub .i64 (.lit 1) (.bin .shr .i64 (.max (.lit (-256)) (.min (.bin .sub .i64 (.lit 0) (.min (.max (.var kI 4) (.lit 0)) (.lit 256))) (.lit 256))) (.lit 6))) (.lit 4)) (.lit 0) (.ite (.bin .eql .i64 (.bin .sub .i64 (.lit 1) (.bin .shr .i64 (.max (.lit (-256)) (.min (.bin .sub .i64 (.lit 0) (.min (.max (.var kI 4) (.lit 0)) (.lit 256))) (.lit 256))) (.lit 6))) (.lit 1)) (.var kU 1) (.ite (.bin .eql .i64 (.bin .sub .i64 (.lit 1) (.bin .shr .i64 (.max (.lit (-256)) (.min (.bin .sub .i64 (.lit 0) (.min (.max (.var kI 4) (.lit 0)) (.lit 256))) (.lit 256))) (.lit 6))) (.lit 2)) (.var kU 2) (.var kU 3)))) (.conv .u64 (.bin .and .i64 (.max (.lit (-256)) (.min (.bin .sub .i64 (.lit 0) (.min (.max (.var kI 4) (.lit 0)) (.lit 256))) (.lit 256))) (.lit 63)))) (.bin .shr .u64 (.bin .shr .u64 (.ite (.bin .geq .i64 (.bin .sub .i64 (.bin .sub .i64 (.lit 1) (.bin .shr .i64 (.max (.lit (-256)) (.min (.bin .sub .i64 (.lit 0) (.min (.max (.var kI 4) (.lit 0)) (.lit 256))) (.lit 256))) (.lit 6))) (.lit 1)) (.lit 4)) (.lit 0) (.ite (.bin .eql .i64 (.bin .sub .i64 (.bin .sub .i64 (.lit 1) (.bin .shr .i64 (.max (.lit (-256)) (.min (.bin .sub .i64 (.lit 0) (.min (.max (.var kI 4) (.lit 0)) (.lit 256))) (.lit 256))) (.lit 6))) (.lit 1)) (.lit 0)) (.var kU 0) (.ite (.bin .eql .i64 (.bin .sub .i64 (.bin .sub .i64 (.lit 1) (.bin .shr .i64 (.max (.lit (-256)) (.min (.bin .sub .i64 (.lit 0) (.min (.max (.var kI 4) (.lit 0)) (.lit 256))) (.lit 256))) (.lit 6))) (.lit 1)) (.lit 1)) (.var kU 1) (.ite (.bin .eql .i64 (.bin .sub .i64 (.bin .sub .i64 (.lit 1) (.bin .shr .i64 (.max (.lit (-256)) (.min (.bin .sub .i64 (.lit 0) (.min (.max (.var kI 4) (.lit 0)) (.lit 256))) (.lit 256))) (.lit 6))) (.lit 1)) (.lit 2)) (.var kU 2) (.var kU 3))))) (.lit 1)) (.bin .sub .u64 (.lit 63) (.conv .u64 (.bin .and .i64 (.max (.lit (-256)) (.min (.bin .sub .i64 (.lit 0) (.min (.max (.var kI 4) (.lit 0)) (.lit 256))) (.lit 256))) (.lit 63))))))), (.int .u64 (.bin .or .u64 (.bin .shl .u64 (.ite (.bin .geq .i64 (.bin .sub .i64 (.lit 2) (.bin .shr .i64 (.max (.lit (-256)) (.min (.bin .sub .i64 (.lit 0) (.min (.max (.var kI 4) (.lit 0)) (.lit 256))) (.lit 256))) (.lit 6))) (.lit 4)) (.lit 0) (.ite (.bin .eql .i64 (.bin .sub .i64 (.lit 2) (.bin .shr .i64 (.max (.lit (-256)) (.min (.bin .sub .i64 (.lit 0) (.min (.max (.var kI 4) (.lit 0)) (.lit 256))) (.lit 256))) (.lit 6))) (.lit 2)) (.var kU 2) (.var kU 3))) (.conv .u64 (.bin .and .i64 (.max (.lit (-256)) (.min (.bin .sub .i64 (.lit 0) (.min (.max (.var kI 4) (.lit 0)) (.lit 256))) (.lit 256))) (.lit 63)))) (.bin .shr .u64 (.bin .shr .u64 (.ite (.bin .geq .i64 (.bin .sub .i64 (.bin .sub .i64 (.lit 2) (.bin .shr .i64 (.max (.lit (-256)) (.min (.bin .sub .i64 (.lit 0) (.min (.max (.var kI 4) (.lit 0)) (.lit 256))) (.lit 256))) (.lit 6))) (.lit 1)) (.lit 4)) (.lit 0) (.ite (.bin .eql .i64 (.bin .sub .i64 (.bin .sub .i64 (.lit 2) (.bin .shr .i64 (.max (.lit (-256)) (.min (.bin .sub .i64 (.lit 0) (.min (.max (.var kI 4) (.lit 0)) (.lit 256))) (.lit 256))) (.lit 6))) (.lit 1)) (.lit 1)) (.var kU 1) (.ite (.bin .eql .i64 (.bin .sub .i64 (.bin .sub .i64 (.lit 2) (.bin .shr .i64 (.max (.lit (-256)) (.min (.bin .sub .i64 (.lit 0) (.min (.max (.var kI 4) (.lit 0)) (.lit 256))) (.lit 256))) (.lit 6))) (.lit 1)) (.lit 2)) (.var kU 2) (.var kU 3)))) (.lit 1)) (.bin .sub .u64 (.lit 63) (.conv .u64 (.bin .and .i64 (.max (.lit (-256)) (.min (.bin .sub .i64 (.lit 0) (.min (.max (.var kI 4) (.lit 0)) (.lit 256))) (.lit 256))) (.lit 63))))))), (.int .u64 (.bin .or .u64 (.bin .shl .u64 (.ite (.bin .geq .i64 (.bin .sub .i64 (.lit 3) (.bin .shr .i64 (.max (.lit (-256)) (.min (.bin .sub .i64 (.lit 0) (.min (.max (.var kI 4) (.lit 0)) (.lit 256))) (.lit 256))) (.lit 6))) (.lit 4)) (.lit 0) (.var kU 3)) (.conv .u64 (.bin .and .i64 (.max (.lit (-256)) (.min (.bin .sub .i64 (.lit 0) (.min (.max (.var kI 4) (.lit 0)) (.lit 256))) (.lit 256))) (.lit 63)))) (.bin .shr .u64 (.bin .shr .u64 (.ite (.bin .geq .i64 (.bin .sub .i64 (.bin .sub .i64 (.lit 3) (.bin .shr .i64 (.max (.lit (-256)) (.min (.bin .sub .i64 (.lit 0) (.min (.max (.var kI 4) (.lit 0)) (.lit 256))) (.lit 256))) (.lit 6))) (.lit 1)) (.lit 4)) (.lit 0) (.ite (.bin .eql .i64 (.bin .sub .i64 (.bin .sub .i64 (.lit 3) (.bin .shr .i64 (.max (.lit (-256)) (.min (.bin .sub .i64 (.lit 0) (.min (.max (.var kI 4) (.lit 0)) (.lit 256))) (.lit 256))) (.lit 6))) (.lit 1)) (.lit 2)) (.var kU 2) (.var kU 3))) (.lit 1)) (.bin .sub .u64 (.lit 63) (.conv .u64 (.bin .and .i64 (.max (.lit (-256)) (.min (.bin .sub .i64 (.lit 0) (.min (.max (.var kI 4) (.lit 0)) (.lit 256))) (.lit 256))) (.lit 63)))))))]))
theorem x_shift_WideRight : execF (ctx E0) 3000 153 (uns c_shift_WideRight.a (varsAt 0 (kindsOf c_shift_WideRight.a))) (kindsOf c_shift_WideRight.a).length = t_shift_WideRight := by kernel_rfl
def F_shift_WideRight : List Int → List Int := treeF (phiE E0) c_shift_WideRight t_shift_WideRight
theorem e_shift_WideRight : EntOK Tryz.prog gG ⟨153, c_shift_WideRight, F_shift_WideRight⟩ := ent_of (ctx_ok E0_ok) 3000 x_shift_WideRight (by kernel_rfl)
def c_count_WideLen : Ct := ⟨[.agg [kU, kU, kU, kU]], [.sc kI]⟩
def t_count_WideLen : Tr' SV :=
 (.ite (.bin .neq .u64 (.var kU 3) (.lit 0))
 (.call 273 [(.var kU 3)] 4 1
 (.leaf (.int .i64 (.bin .add .i64 (.lit 192) (.var kI 4)))))
 (.ite (.bin .neq .u64 (.var kU 2) (.lit 0))
 (.call 273 [(.var kU 2)] 4 1
 (.leaf (.int .i64 (.bin .add .i64 (.lit 128) (.var kI 4)))))
 (.ite (.bin .neq .u64 (.var kU 1) (.lit 0))
 (.call 273 [(.var kU 1)] 4 1
 (.leaf (.int .i64 (.bin .add .i64 (.lit 64) (.var kI 4)))))
 (.ite (.bin .neq .u64 (.var kU 0) (.lit 0))
 (.call 273 [(.var kU 0)] 4 1
 (.leaf (.int .i64 (.bin .add .i64 (.lit 0) (.var kI 4)))))
 (.leaf (.int .i64 (.lit 0)))))))
theorem x_count_WideLen : execF (ctx E0) 3000 240 (uns c_count_WideLen.a (varsAt 0 (kindsOf c_count_WideLen.a))) (kindsOf c_count_WideLen.a).length = t_count_WideLen := by kernel_rfl
def F_count_WideLen : List Int → List Int := treeF (phiE E0) c_count_WideLen t_count_WideLen
theorem e_count_WideLen : EntOK Tryz.prog gG ⟨240, c_count_WideLen, F_count_WideLen⟩ := ent_of (ctx_ok E0_ok) 3000 x_count_WideLen (by kernel_rfl)
def c_format_of : Ct := ⟨[.sc kB], [.agg [kI, kI, kI]]⟩
def t_format_of : Tr' SV :=
 (.ite (.not (.bin .lss .i64 (.var kB 0) (.lit 4)))
 (.leaf (.agg [(.int .i64 (.lit 0)), (.int .i64 (.lit 0)), (.int .i64 (.lit 0))]))
 (.ite (.bin .eql .i64 (.var kB 0) (.lit 0))
 (.leaf (.agg [(.int .i64 (.lit 16)), (.int .i64 (.lit 11)), (.int .i64 (.lit 15))]))
 (.ite (.bin .eql .i64 (.var kB 0) (.lit 1))
 (.leaf (.agg [(.int .i64 (.lit 32)), (.int .i64 (.lit 24)), (.int .i64 (.lit 127))]))
 (.ite (.bin .eql .i64 (.var kB 0) (.lit 2))
 (.leaf (.agg [(.int .i64 (.lit 64)), (.int .i64 (.lit 53)), (.int .i64 (.lit 1023))]))
 (.leaf (.agg [(.int .i64 (.lit 128)), (.int .i64 (.lit 113)), (.int .i64 (.lit 16383))]))))))
theorem x_format_of : execF (ctx E0) 3000 43 (uns c_format_of.a (varsAt 0 (kindsOf c_format_of.a))) (kindsOf c_format_of.a).length = t_format_of := by kernel_rfl
def F_format_of : List Int → List Int := treeF (phiE E0) c_format_of t_format_of
theorem e_format_of : EntOK Tryz.prog gG ⟨43, c_format_of, F_format_of⟩ := ent_of (ctx_ok E0_ok) 3000 x_format_of (by kernel_rfl)
def c_mode_Infinite : Ct := ⟨[.sc kB, .sc .bool], [.sc .bool]⟩
def t_mode_Infinite : Tr' SV :=
 (.call 251 [(.var kB 0), (.var .bool 1), (.lit 1), (.lit 3)] 2 1
 (.leaf (.bool (.var .bool 2))))
theorem x_mode_Infinite : execF (ctx E0) 3000 255 (uns c_mode_Infinite.a (varsAt 0 (kindsOf c_mode_Infinite.a))) (kindsOf c_mode_Infinite.a).length = t_mode_Infinite := by kernel_rfl
def F_mode_Infinite : List Int → List Int := treeF (phiE E0) c_mode_Infinite t_mode_Infinite
theorem e_mode_Infinite : EntOK Tryz.prog gG ⟨255, c_mode_Infinite, F_mode_Infinite⟩ := ent_of (ctx_ok E0_ok) 3000 x_mode_Infinite (by kernel_rfl)
def c_mul_Bad : Ct := ⟨[.agg [.bool, kB, kI, kU, kU], .agg [.bool, kB, kI, kU, kU]], [.sc .bool]⟩
def t_mul_Bad : Tr' SV :=
 (.ite (.bin .geq .i64 (.ite (.bin .eql .u8 (.var kB 1) (.lit 0)) (.lit 0) (.ite (.bin .eql .u8 (.var kB 6) (.lit 0)) (.lit 1) (.lit (-1)))) (.lit 0))
 (.leaf (.bool (.bin .geq .i64 (.ite (.bin .eql .u8 (.var kB 1) (.lit 3)) (.lit 0) (.ite (.bin .eql .u8 (.var kB 6) (.lit 3)) (.lit 1) (.lit (-1)))) (.lit 0))))
 (.leaf (.bool (.lit 0))))
theorem x_mul_Bad : execF (ctx E0) 3000 144 (uns c_mul_Bad.a (varsAt 0 (kindsOf c_mul_Bad.a))) (kindsOf c_mul_Bad.a).length = t_mul_Bad := by kernel_rfl
def F_mul_Bad : List Int → List Int := treeF (phiE E0) c_mul_Bad t_mul_Bad
theorem e_mul_Bad : EntOK Tryz.prog gG ⟨144, c_mul_Bad, F_mul_Bad⟩ := ent_of (ctx_ok E0_ok) 3000 x_mul_Bad (by kernel_rfl)
def E1 : List Ent := ⟨50, c_word_Zero, F_word_Zero⟩ :: ⟨52, c_word_Bit, F_word_Bit⟩ :: ⟨192, c_word_Add, F_word_Add⟩ :: ⟨227, c_word_Sub, F_word_Sub⟩ :: ⟨247, c_word_Mul, F_word_Mul⟩ :: ⟨150, c_wide_Join, F_wide_Join⟩ :: ⟨155, c_wide_Of, F_wide_Of⟩ :: ⟨241, c_wide_High, F_wide_High⟩ :: ⟨249, c_wide_Low, F_wide_Low⟩ :: ⟨166, c_wide_Zero, F_wide_Zero⟩ :: ⟨111, c_shift_Left, F_shift_Left⟩ :: ⟨110, c_shift_Right, F_shift_Right⟩ :: ⟨151, c_shift_WideLeft, F_shift_WideLeft⟩ :: ⟨153, c_shift_WideRight, F_shift_WideRight⟩ :: ⟨240, c_count_WideLen, F_count_WideLen⟩ :: ⟨43, c_format_of, F_format_of⟩ :: ⟨255, c_mode_Infinite, F_mode_Infinite⟩ :: ⟨144, c_mul_Bad, F_mul_Bad⟩ :: E0
theorem E1_ok : ∀ e ∈ E1, EntOK Tryz.prog gG e := List.forall_mem_cons.2 ⟨e_word_Zero, List.forall_mem_cons.2 ⟨e_word_Bit, List.forall_mem_cons.2 ⟨e_word_Add, List.forall_mem_cons.2 ⟨e_word_Sub, List.forall_mem_cons.2 ⟨e_word_Mul, List.forall_mem_cons.2 ⟨e_wide_Join, List.forall_mem_cons.2 ⟨e_wide_Of, List.forall_mem_cons.2 ⟨e_wide_High, List.forall_mem_cons.2 ⟨e_wide_Low, List.forall_mem_cons.2 ⟨e_wide_Zero, List.forall_mem_cons.2 ⟨e_shift_Left, List.forall_mem_cons.2 ⟨e_shift_Right, List.forall_mem_cons.2 ⟨e_shift_WideLeft, List.forall_mem_cons.2 ⟨e_shift_WideRight, List.forall_mem_cons.2 ⟨e_count_WideLen, List.forall_mem_cons.2 ⟨e_format_of, List.forall_mem_cons.2 ⟨e_mode_Infinite, List.forall_mem_cons.2 ⟨e_mul_Bad, E0_ok⟩⟩⟩⟩⟩⟩⟩⟩⟩⟩⟩⟩⟩⟩⟩⟩⟩⟩
theorem ph_E0_math_bits_Add64 : phiE E0 225 = fAdd64 := phiE_hit (e := ⟨225, _, fAdd64⟩) rfl
theorem ph_E0_math_bits_Sub64 : phiE E0 226 = fSub64 := phiE_hit (e := ⟨226, _, fSub64⟩) rfl
theorem ph_E0_math_bits_Mul64 : phiE E0 268 = fMul64 := phiE_hit (e := ⟨268, _, fMul64⟩) rfl
end Go.Proofs.YtemomocmfggiaaaGreatDoor
namespace Go.Proofs.YtemomocmfggiaaaGreatDoor
set_option linter.unusedVariables false
set_option maxRecDepth 100000
open Go.RowKit
def c_format_Emax : Ct := ⟨[.sc kB], [.sc kI]⟩
def t_format_Emax : Tr' SV :=
 (.call 43 [(.var kB 0)] 1 3
 (.leaf (.int .i64 (.var kI 3))))
theorem x_format_Emax : execF (ctx E1) 3000 51 (uns c_format_Emax.a (varsAt 0 (kindsOf c_format_Emax.a))) (kindsOf c_format_Emax.a).length = t_format_Emax := by kernel_rfl
def F_format_Emax : List Int → List Int := treeF (phiE E1) c_format_Emax t_format_Emax
theorem e_format_Emax : EntOK Tryz.prog gG ⟨51, c_format_Emax, F_format_Emax⟩ := ent_of (ctx_ok E1_ok) 3000 x_format_Emax (by kernel_rfl)
def c_format_Prec : Ct := ⟨[.sc kB], [.sc kI]⟩
def t_format_Prec : Tr' SV :=
 (.call 43 [(.var kB 0)] 1 3
 (.leaf (.int .i64 (.var kI 2))))
theorem x_format_Prec : execF (ctx E1) 3000 53 (uns c_format_Prec.a (varsAt 0 (kindsOf c_format_Prec.a))) (kindsOf c_format_Prec.a).length = t_format_Prec := by kernel_rfl
def F_format_Prec : List Int → List Int := treeF (phiE E1) c_format_Prec t_format_Prec
theorem e_format_Prec : EntOK Tryz.prog gG ⟨53, c_format_Prec, F_format_Prec⟩ := ent_of (ctx_ok E1_ok) 3000 x_format_Prec (by kernel_rfl)
def c_format_Width : Ct := ⟨[.sc kB], [.sc kI]⟩
def t_format_Width : Tr' SV :=
 (.call 43 [(.var kB 0)] 1 3
 (.leaf (.int .i64 (.var kI 1))))
theorem x_format_Width : execF (ctx E1) 3000 26 (uns c_format_Width.a (varsAt 0 (kindsOf c_format_Width.a))) (kindsOf c_format_Width.a).length = t_format_Width := by kernel_rfl
def F_format_Width : List Int → List Int := treeF (phiE E1) c_format_Width t_format_Width
theorem e_format_Width : EntOK Tryz.prog gG ⟨26, c_format_Width, F_format_Width⟩ := ent_of (ctx_ok E1_ok) 3000 x_format_Width (by kernel_rfl)
def c_format_low : Ct := ⟨[.agg [kU, kU], .sc kI], [.agg [kU, kU]]⟩
def t_format_low : Tr' SV :=
 (.call 111 [(.var kU 0), (.var kU 1), (.bin .sub .i64 (.lit 128) (.var kI 2))] 3 2
 (.call 110 [(.var kU 3), (.var kU 4), (.bin .sub .i64 (.lit 128) (.var kI 2))] 5 2
 (.leaf (.agg [(.int .u64 (.var kU 5)), (.int .u64 (.var kU 6))]))))
theorem x_format_low : execF (ctx E1) 3000 54 (uns c_format_low.a (varsAt 0 (kindsOf c_format_low.a))) (kindsOf c_format_low.a).length = t_format_low := by kernel_rfl
def F_format_low : List Int → List Int := treeF (phiE E1) c_format_low t_format_low
theorem e_format_low : EntOK Tryz.prog gG ⟨54, c_format_low, F_format_low⟩ := ent_of (ctx_ok E1_ok) 3000 x_format_low (by kernel_rfl)
def c_wide_Mul : Ct := ⟨[.agg [kU, kU], .agg [kU, kU]], [.agg [kU, kU, kU, kU]]⟩
def t_wide_Mul : Tr' SV :=
 (.call 247 [(.var kU 0), (.var kU 2)] 4 2
 (.call 247 [(.var kU 1), (.var kU 3)] 6 2
 (.call 150 [(.var kU 4), (.var kU 5), (.var kU 6), (.var kU 7)] 8 4
 (.call 247 [(.var kU 0), (.var kU 3)] 12 2
 (.call 247 [(.var kU 1), (.var kU 2)] 14 2
 (.call 160 [(.var kU 8), (.var kU 9), (.var kU 10), (.var kU 11), (.lit 0), (.var kU 13), (.var kU 12), (.lit 0)] 16 5
 (.call 160 [(.var kU 16), (.var kU 17), (.var kU 18), (.var kU 19), (.lit 0), (.var kU 15), (.var kU 14), (.lit 0)] 21 5
 (.leaf (.agg [(.int .u64 (.var kU 21)), (.int .u64 (.var kU 22)), (.int .u64 (.var kU 23)), (.int .u64 (.var kU 24))])))))))))
theorem x_wide_Mul : execF (ctx E1) 3000 207 (uns c_wide_Mul.a (varsAt 0 (kindsOf c_wide_Mul.a))) (kindsOf c_wide_Mul.a).length = t_wide_Mul := by kernel_rfl
def F_wide_Mul : List Int → List Int := treeF (phiE E1) c_wide_Mul t_wide_Mul
theorem e_wide_Mul : EntOK Tryz.prog gG ⟨207, c_wide_Mul, F_wide_Mul⟩ := ent_of (ctx_ok E1_ok) 3000 x_wide_Mul (by kernel_rfl)
def c_count_Raise : Ct := ⟨[.agg [kU, kU]], [.agg [kU, kU], .sc kI]⟩
def t_count_Raise : Tr' SV :=
 (.call 150 [(.var kU 0), (.var kU 1), (.lit 0), (.lit 0)] 2 4
 (.call 240 [(.var kU 2), (.var kU 3), (.var kU 4), (.var kU 5)] 6 1
 (.ite (.bin .eql .i64 (.var kI 6) (.lit 0))
 (.call 241 [(.var kU 2), (.var kU 3), (.var kU 4), (.var kU 5)] 7 2
 (.leaf (.tup [(.agg [(.int .u64 (.var kU 7)), (.int .u64 (.var kU 8))]), (.int .i64 (.lit 0))])))
 (.call 151 [(.var kU 2), (.var kU 3), (.var kU 4), (.var kU 5), (.bin .sub .i64 (.lit 256) (.var kI 6))] 7 4
 (.call 241 [(.var kU 7), (.var kU 8), (.var kU 9), (.var kU 10)] 11 2
 (.leaf (.tup [(.agg [(.int .u64 (.var kU 11)), (.int .u64 (.var kU 12))]), (.int .i64 (.bin .sub .i64 (.lit 256) (.var kI 6)))])))))))
theorem x_count_Raise : execF (ctx E1) 3000 193 (uns c_count_Raise.a (varsAt 0 (kindsOf c_count_Raise.a))) (kindsOf c_count_Raise.a).length = t_count_Raise := by kernel_rfl
def F_count_Raise : List Int → List Int := treeF (phiE E1) c_count_Raise t_count_Raise
theorem e_count_Raise : EntOK Tryz.prog gG ⟨193, c_count_Raise, F_count_Raise⟩ := ent_of (ctx_ok E1_ok) 3000 x_count_Raise (by kernel_rfl)
def c_shift_Lost : Ct := ⟨[.agg [kU, kU, kU, kU], .sc kI], [.sc .bool]⟩
def t_shift_Lost : Tr' SV :=
 (.call 153 [(.var kU 0), (.var kU 1), (.var kU 2), (.var kU 3), (.var kI 4)] 5 4
 (.call 151 [(.var kU 5), (.var kU 6), (.var kU 7), (.var kU 8), (.var kI 4)] 9 4
 (.leaf (.bool (.not (.and (.bin .eql .u64 (.var kU 9) (.var kU 0)) (.and (.bin .eql .u64 (.var kU 10) (.var kU 1)) (.and (.bin .eql .u64 (.var kU 11) (.var kU 2)) (.and (.bin .eql .u64 (.var kU 12) (.var kU 3)) (.lit 1))))))))))
theorem x_shift_Lost : execF (ctx E1) 3000 256 (uns c_shift_Lost.a (varsAt 0 (kindsOf c_shift_Lost.a))) (kindsOf c_shift_Lost.a).length = t_shift_Lost := by kernel_rfl
def F_shift_Lost : List Int → List Int := treeF (phiE E1) c_shift_Lost t_shift_Lost
theorem e_shift_Lost : EntOK Tryz.prog gG ⟨256, c_shift_Lost, F_shift_Lost⟩ := ent_of (ctx_ok E1_ok) 3000 x_shift_Lost (by kernel_rfl)
def c_count_WideRaise : Ct := ⟨[.agg [kU, kU, kU, kU]], [.agg [kU, kU, kU, kU], .sc kI]⟩
def t_count_WideRaise : Tr' SV :=
 (.call 240 [(.var kU 0), (.var kU 1), (.var kU 2), (.var kU 3)] 4 1
 (.ite (.bin .eql .i64 (.var kI 4) (.lit 0))
 (.leaf (.tup [(.agg [(.int .u64 (.var kU 0)), (.int .u64 (.var kU 1)), (.int .u64 (.var kU 2)), (.int .u64 (.var kU 3))]), (.int .i64 (.lit 0))]))
 (.call 151 [(.var kU 0), (.var kU 1), (.var kU 2), (.var kU 3), (.bin .sub .i64 (.lit 256) (.var kI 4))] 5 4
 (.leaf (.tup [(.agg [(.int .u64 (.var kU 5)), (.int .u64 (.var kU 6)), (.int .u64 (.var kU 7)), (.int .u64 (.var kU 8))]), (.int .i64 (.bin .sub .i64 (.lit 256) (.var kI 4)))])))))
theorem x_count_WideRaise : execF (ctx E1) 3000 248 (uns c_count_WideRaise.a (varsAt 0 (kindsOf c_count_WideRaise.a))) (kindsOf c_count_WideRaise.a).length = t_count_WideRaise := by kernel_rfl
def F_count_WideRaise : List Int → List Int := treeF (phiE E1) c_count_WideRaise t_count_WideRaise
theorem e_count_WideRaise : EntOK Tryz.prog gG ⟨248, c_count_WideRaise, F_count_WideRaise⟩ := ent_of (ctx_ok E1_ok) 3000 x_count_WideRaise (by kernel_rfl)
def c_quot_next : Ct := ⟨[.agg [kU, kU], .sc kU, .agg [kU, kU]], [.agg [kU, kU], .sc .bool]⟩
def t_quot_next : Tr' SV :=
 (.call 192 [(.var kU 0), (.var kU 1), (.var kU 0), (.var kU 1)] 5 3
 (.call 227 [(.var kU 5), (.bin .or .u64 (.var kU 6) (.var kU 2)), (.var kU 3), (.var kU 4)] 8 3
 (.ite (.var .bool 7)
 (.leaf (.tup [(.agg [(.int .u64 (.var kU 8)), (.int .u64 (.var kU 9))]), (.bool (.lit 1))]))
 (.ite (.not (.var .bool 10))
 (.leaf (.tup [(.agg [(.int .u64 (.var kU 8)), (.int .u64 (.var kU 9))]), (.bool (.lit 1))]))
 (.leaf (.tup [(.agg [(.int .u64 (.var kU 5)), (.int .u64 (.bin .or .u64 (.var kU 6) (.var kU 2)))]), (.bool (.lit 0))]))))))
theorem x_quot_next : execF (ctx E1) 3000 217 (uns c_quot_next.a (varsAt 0 (kindsOf c_quot_next.a))) (kindsOf c_quot_next.a).length = t_quot_next := by kernel_rfl
def F_quot_next : List Int → List Int := treeF (phiE E1) c_quot_next t_quot_next
theorem e_quot_next : EntOK Tryz.prog gG ⟨217, c_quot_next, F_quot_next⟩ := ent_of (ctx_ok E1_ok) 3000 x_quot_next (by kernel_rfl)
def c_word_Cmp : Ct := ⟨[.agg [kU, kU], .agg [kU, kU]], [.sc kI]⟩
def t_word_Cmp : Tr' SV :=
 (.leaf (.int .i64 (.ite (.bin .neq .i64 (.ite (.bin .neq .u64 (.var kU 0) (.var kU 0)) (.ite (.bin .neq .u64 (.var kU 2) (.var kU 2)) (.lit 0) (.lit (-1))) (.ite (.bin .neq .u64 (.var kU 2) (.var kU 2)) (.lit 1) (.ite (.bin .lss .u64 (.var kU 0) (.var kU 2)) (.lit (-1)) (.ite (.bin .gtr .u64 (.var kU 0) (.var kU 2)) (.lit 1) (.lit 0))))) (.lit 0)) (.ite (.bin .neq .u64 (.var kU 0) (.var kU 0)) (.ite (.bin .neq .u64 (.var kU 2) (.var kU 2)) (.lit 0) (.lit (-1))) (.ite (.bin .neq .u64 (.var kU 2) (.var kU 2)) (.lit 1) (.ite (.bin .lss .u64 (.var kU 0) (.var kU 2)) (.lit (-1)) (.ite (.bin .gtr .u64 (.var kU 0) (.var kU 2)) (.lit 1) (.lit 0))))) (.ite (.bin .neq .i64 (.ite (.bin .neq .u64 (.var kU 1) (.var kU 1)) (.ite (.bin .neq .u64 (.var kU 3) (.var kU 3)) (.lit 0) (.lit (-1))) (.ite (.bin .neq .u64 (.var kU 3) (.var kU 3)) (.lit 1) (.ite (.bin .lss .u64 (.var kU 1) (.var kU 3)) (.lit (-1)) (.ite (.bin .gtr .u64 (.var kU 1) (.var kU 3)) (.lit 1) (.lit 0))))) (.lit 0)) (.ite (.bin .neq .u64 (.var kU 1) (.var kU 1)) (.ite (.bin .neq .u64 (.var kU 3) (.var kU 3)) (.lit 0) (.lit (-1))) (.ite (.bin .neq .u64 (.var kU 3) (.var kU 3)) (.lit 1) (.ite (.bin .lss .u64 (.var kU 1) (.var kU 3)) (.lit (-1)) (.ite (.bin .gtr .u64 (.var kU 1) (.var kU 3)) (.lit 1) (.lit 0))))) (.lit 0)))))
theorem x_word_Cmp : execF (ctx E1) 3000 159 (uns c_word_Cmp.a (varsAt 0 (kindsOf c_word_Cmp.a))) (kindsOf c_word_Cmp.a).length = t_word_Cmp := by kernel_rfl
def F_word_Cmp : List Int → List Int := treeF (phiE E1) c_word_Cmp t_word_Cmp
theorem e_word_Cmp : EntOK Tryz.prog gG ⟨159, c_word_Cmp, F_word_Cmp⟩ := ent_of (ctx_ok E1_ok) 3000 x_word_Cmp (by kernel_rfl)
def E2 : List Ent := ⟨51, c_format_Emax, F_format_Emax⟩ :: ⟨53, c_format_Prec, F_format_Prec⟩ :: ⟨26, c_format_Width, F_format_Width⟩ :: ⟨54, c_format_low, F_format_low⟩ :: ⟨207, c_wide_Mul, F_wide_Mul⟩ :: ⟨193, c_count_Raise, F_count_Raise⟩ :: ⟨256, c_shift_Lost, F_shift_Lost⟩ :: ⟨248, c_count_WideRaise, F_count_WideRaise⟩ :: ⟨217, c_quot_next, F_quot_next⟩ :: ⟨159, c_word_Cmp, F_word_Cmp⟩ :: E1
theorem E2_ok : ∀ e ∈ E2, EntOK Tryz.prog gG e := List.forall_mem_cons.2 ⟨e_format_Emax, List.forall_mem_cons.2 ⟨e_format_Prec, List.forall_mem_cons.2 ⟨e_format_Width, List.forall_mem_cons.2 ⟨e_format_low, List.forall_mem_cons.2 ⟨e_wide_Mul, List.forall_mem_cons.2 ⟨e_count_Raise, List.forall_mem_cons.2 ⟨e_shift_Lost, List.forall_mem_cons.2 ⟨e_count_WideRaise, List.forall_mem_cons.2 ⟨e_quot_next, List.forall_mem_cons.2 ⟨e_word_Cmp, E1_ok⟩⟩⟩⟩⟩⟩⟩⟩⟩⟩
theorem ph_E1_word_Mul : phiE E1 247 = F_word_Mul := phiE_hit (e := ⟨247, _, F_word_Mul⟩) rfl
theorem ph_E1_wide_Join : phiE E1 150 = F_wide_Join := phiE_hit (e := ⟨150, _, F_wide_Join⟩) rfl
theorem ph_E1_wide_Add : phiE E1 160 = fWideAdd := phiE_hit (e := ⟨160, _, fWideAdd⟩) rfl
theorem ph_E1_word_Add : phiE E1 192 = F_word_Add := phiE_hit (e := ⟨192, _, F_word_Add⟩) rfl
theorem ph_E1_word_Sub : phiE E1 227 = F_word_Sub := phiE_hit (e := ⟨227, _, F_word_Sub⟩) rfl
end Go.Proofs.YtemomocmfggiaaaGreatDoor
namespace Go.Proofs.YtemomocmfggiaaaGreatDoor
set_option linter.unusedVariables false
set_option maxRecDepth 100000
open Go.RowKit
def c_format_Cut : Ct := ⟨[.sc kB, .agg [kU, kU]], [.agg [kU, kU]]⟩
def t_format_Cut : Tr' SV :=
 (.call 26 [(.var kB 0)] 3 1
 (.call 54 [(.var kU 1), (.var kU 2), (.var kI 3)] 4 2
 (.leaf (.agg [(.int .u64 (.var kU 4)), (.int .u64 (.var kU 5))]))))
theorem x_format_Cut : execF (ctx E2) 3000 35 (uns c_format_Cut.a (varsAt 0 (kindsOf c_format_Cut.a))) (kindsOf c_format_Cut.a).length = t_format_Cut := by kernel_rfl
def F_format_Cut : List Int → List Int := treeF (phiE E2) c_format_Cut t_format_Cut
theorem e_format_Cut : EntOK Tryz.prog gG ⟨35, c_format_Cut, F_format_Cut⟩ := ent_of (ctx_ok E2_ok) 3000 x_format_Cut (by kernel_rfl)
def c_format_Make : Ct := ⟨[.sc kB, .sc .bool, .sc kI, .agg [kU, kU]], [.agg [kU, kU]]⟩
def t_format_Make : Tr' SV :=
 (.call 43 [(.var kB 0)] 5 3
 (.ite (.bin .eql .i64 (.var kI 5) (.lit 0))
 (.leaf (.agg [(.int .u64 (.lit 0)), (.int .u64 (.lit 0))]))
 (.ite (.bin .lss .i64 (.var kI 2) (.lit 0))
 (.call 54 [(.lit 0), (.lit 0), (.bin .sub .i64 (.var kI 5) (.var kI 6))] 8 2
 (.call 111 [(.var kU 8), (.var kU 9), (.bin .sub .i64 (.var kI 6) (.lit 1))] 10 2
 (.call 54 [(.var kU 3), (.var kU 4), (.bin .sub .i64 (.var kI 6) (.lit 1))] 12 2
 (.call 192 [(.var kU 10), (.var kU 11), (.var kU 12), (.var kU 13)] 14 3
 (.ite (.var .bool 1)
 (.call 111 [(.lit 0), (.lit 1), (.bin .sub .i64 (.var kI 5) (.lit 1))] 17 2
 (.call 192 [(.var kU 14), (.var kU 15), (.var kU 17), (.var kU 18)] 19 3
 (.leaf (.agg [(.int .u64 (.var kU 19)), (.int .u64 (.var kU 20))]))))
 (.leaf (.agg [(.int .u64 (.var kU 14)), (.int .u64 (.var kU 15))])))))))
 (.ite (.bin .gtr .i64 (.var kI 2) (.lit 1048576))
 (.call 54 [(.lit 0), (.lit 0), (.bin .sub .i64 (.var kI 5) (.var kI 6))] 8 2
 (.call 111 [(.var kU 8), (.var kU 9), (.bin .sub .i64 (.var kI 6) (.lit 1))] 10 2
 (.call 54 [(.var kU 3), (.var kU 4), (.bin .sub .i64 (.var kI 6) (.lit 1))] 12 2
 (.call 192 [(.var kU 10), (.var kU 11), (.var kU 12), (.var kU 13)] 14 3
 (.ite (.var .bool 1)
 (.call 111 [(.lit 0), (.lit 1), (.bin .sub .i64 (.var kI 5) (.lit 1))] 17 2
 (.call 192 [(.var kU 14), (.var kU 15), (.var kU 17), (.var kU 18)] 19 3
 (.leaf (.agg [(.int .u64 (.var kU 19)), (.int .u64 (.var kU 20))]))))
 (.leaf (.agg [(.int .u64 (.var kU 14)), (.int .u64 (.var kU 15))])))))))
 (.call 54 [(.lit 0), (.conv .u64 (.var kI 2)), (.bin .sub .i64 (.var kI 5) (.var kI 6))] 8 2
 (.call 111 [(.var kU 8), (.var kU 9), (.bin .sub .i64 (.var kI 6) (.lit 1))] 10 2
 (.call 54 [(.var kU 3), (.var kU 4), (.bin .sub .i64 (.var kI 6) (.lit 1))] 12 2
 (.call 192 [(.var kU 10), (.var kU 11), (.var kU 12), (.var kU 13)] 14 3
 (.ite (.var .bool 1)
 (.call 111 [(.lit 0), (.lit 1), (.bin .sub .i64 (.var kI 5) (.lit 1))] 17 2
 (.call 192 [(.var kU 14), (.var kU 15), (.var kU 17), (.var kU 18)] 19 3
 (.leaf (.agg [(.int .u64 (.var kU 19)), (.int .u64 (.var kU 20))]))))
 (.leaf (.agg [(.int .u64 (.var kU 14)), (.int .u64 (.var kU 15))])))))))))))
theorem x_format_Make : execF (ctx E2) 3000 198 (uns c_format_Make.a (varsAt 0 (kindsOf c_format_Make.a))) (kindsOf c_format_Make.a).length = t_format_Make := by kernel_rfl
def F_format_Make : List Int → List Int := treeF (phiE E2) c_format_Make t_format_Make
theorem e_format_Make : EntOK Tryz.prog gG ⟨198, c_format_Make, F_format_Make⟩ := ent_of (ctx_ok E2_ok) 3000 x_format_Make (by kernel_rfl)
def c_over_Beyond : Ct := ⟨[.sc kB, .sc kI], [.sc .bool]⟩
def t_over_Beyond : Tr' SV :=
 (.ite (.bin .lss .i64 (.var kB 0) (.lit 4))
 (.call 51 [(.var kB 0)] 2 1
 (.leaf (.bool (.bin .gtr .i64 (.var kI 1) (.var kI 2)))))
 (.leaf (.bool (.lit 0))))
theorem x_over_Beyond : execF (ctx E2) 3000 212 (uns c_over_Beyond.a (varsAt 0 (kindsOf c_over_Beyond.a))) (kindsOf c_over_Beyond.a).length = t_over_Beyond := by kernel_rfl
def F_over_Beyond : List Int → List Int := treeF (phiE E2) c_over_Beyond t_over_Beyond
theorem e_over_Beyond : EntOK Tryz.prog gG ⟨212, c_over_Beyond, F_over_Beyond⟩ := ent_of (ctx_ok E2_ok) 3000 x_over_Beyond (by kernel_rfl)
def c_shift_WideJam : Ct := ⟨[.agg [kU, kU, kU, kU], .sc kI], [.agg [kU, kU, kU, kU]]⟩
def t_shift_WideJam : Tr' SV :=
 (.call 153 [(.var kU 0), (.var kU 1), (.var kU 2), (.var kU 3), (.var kI 4)] 5 4
 (.call 256 [(.var kU 0), (.var kU 1), (.var kU 2), (.var kU 3), (.var kI 4)] 9 1
 (.ite (.var .bool 9)
 (.leaf (.agg [(.int .u64 (.bin .or .u64 (.var kU 5) (.lit 1))), (.int .u64 (.var kU 6)), (.int .u64 (.var kU 7)), (.int .u64 (.var kU 8))]))
 (.leaf (.agg [(.int .u64 (.var kU 5)), (.int .u64 (.var kU 6)), (.int .u64 (.var kU 7)), (.int .u64 (.var kU 8))])))))
theorem x_shift_WideJam : execF (ctx E2) 3000 214 (uns c_shift_WideJam.a (varsAt 0 (kindsOf c_shift_WideJam.a))) (kindsOf c_shift_WideJam.a).length = t_shift_WideJam := by kernel_rfl
def F_shift_WideJam : List Int → List Int := treeF (phiE E2) c_shift_WideJam t_shift_WideJam
theorem e_shift_WideJam : EntOK Tryz.prog gG ⟨214, c_shift_WideJam, F_shift_WideJam⟩ := ent_of (ctx_ok E2_ok) 3000 x_shift_WideJam (by kernel_rfl)
def c_round_Rest : Ct := ⟨[.agg [kU, kU, kU, kU], .sc kI], [.sc kB]⟩
def t_round_Rest : Tr' SV :=
 (.ite (.bin .lss .i64 (.var kI 4) (.lit 0))
 (.leaf (.int .u8 (.lit 0)))
 (.ite (.bin .gtr .i64 (.var kI 4) (.lit 127))
 (.leaf (.int .u8 (.lit 0)))
 (.call 256 [(.var kU 0), (.var kU 1), (.var kU 2), (.var kU 3), (.bin .sub .i64 (.lit 255) (.var kI 4))] 5 1
 (.leaf (.int .u8 (.ite (.ite (.bin .eql .i64 (.bin .shr .i64 (.bin .sub .i64 (.lit 255) (.var kI 4)) (.lit 6)) (.lit 2)) (.bin .eql .u64 (.bin .and .u64 (.bin .shr .u64 (.var kU 2) (.bin .and .i64 (.bin .sub .i64 (.lit 255) (.var kI 4)) (.lit 63))) (.lit 1)) (.lit 1)) (.bin .eql .u64 (.bin .and .u64 (.bin .shr .u64 (.var kU 3) (.bin .and .i64 (.bin .sub .i64 (.lit 255) (.var kI 4)) (.lit 63))) (.lit 1)) (.lit 1))) (.ite (.var .bool 5) (.lit 3) (.lit 2)) (.ite (.var .bool 5) (.lit 1) (.lit 0))))))))
theorem x_round_Rest : execF (ctx E2) 3000 250 (uns c_round_Rest.a (varsAt 0 (kindsOf c_round_Rest.a))) (kindsOf c_round_Rest.a).length = t_round_Rest := by kernel_rfl
def F_round_Rest : List Int → List Int := treeF (phiE E2) c_round_Rest t_round_Rest
theorem e_round_Rest : EntOK Tryz.prog gG ⟨250, c_round_Rest, F_round_Rest⟩ := ent_of (ctx_ok E2_ok) 3000 x_round_Rest (by kernel_rfl)
def c_mul_Term : Ct := ⟨[.agg [.bool, kB, kI, kU, kU], .agg [.bool, kB, kI, kU, kU]], [.sc kI, .agg [kU, kU, kU, kU]]⟩
def t_mul_Term : Tr' SV :=
 (.ite (.bin .neq .u8 (.var kB 1) (.lit 1))
 (.ite (.bin .neq .u8 (.var kB 1) (.lit 2))
 (.leaf (.tup [(.int .i64 (.lit 0)), (.agg [(.int .u64 (.lit 0)), (.int .u64 (.lit 0)), (.int .u64 (.lit 0)), (.int .u64 (.lit 0))])]))
 (.ite (.bin .neq .u8 (.var kB 6) (.lit 1))
 (.ite (.bin .neq .u8 (.var kB 6) (.lit 2))
 (.leaf (.tup [(.int .i64 (.lit 0)), (.agg [(.int .u64 (.lit 0)), (.int .u64 (.lit 0)), (.int .u64 (.lit 0)), (.int .u64 (.lit 0))])]))
 (.call 207 [(.var kU 3), (.var kU 4), (.var kU 8), (.var kU 9)] 10 4
 (.leaf (.tup [(.int .i64 (.bin .add .i64 (.bin .add .i64 (.var kI 2) (.var kI 7)) (.lit 1))), (.agg [(.int .u64 (.var kU 10)), (.int .u64 (.var kU 11)), (.int .u64 (.var kU 12)), (.int .u64 (.var kU 13))])]))))
 (.call 207 [(.var kU 3), (.var kU 4), (.var kU 8), (.var kU 9)] 10 4
 (.leaf (.tup [(.int .i64 (.bin .add .i64 (.bin .add .i64 (.var kI 2) (.var kI 7)) (.lit 1))), (.agg [(.int .u64 (.var kU 10)), (.int .u64 (.var kU 11)), (.int .u64 (.var kU 12)), (.int .u64 (.var kU 13))])])))))
 (.ite (.bin .neq .u8 (.var kB 6) (.lit 1))
 (.ite (.bin .neq .u8 (.var kB 6) (.lit 2))
 (.leaf (.tup [(.int .i64 (.lit 0)), (.agg [(.int .u64 (.lit 0)), (.int .u64 (.lit 0)), (.int .u64 (.lit 0)), (.int .u64 (.lit 0))])]))
 (.call 207 [(.var kU 3), (.var kU 4), (.var kU 8), (.var kU 9)] 10 4
 (.leaf (.tup [(.int .i64 (.bin .add .i64 (.bin .add .i64 (.var kI 2) (.var kI 7)) (.lit 1))), (.agg [(.int .u64 (.var kU 10)), (.int .u64 (.var kU 11)), (.int .u64 (.var kU 12)), (.int .u64 (.var kU 13))])]))))
 (.call 207 [(.var kU 3), (.var kU 4), (.var kU 8), (.var kU 9)] 10 4
 (.leaf (.tup [(.int .i64 (.bin .add .i64 (.bin .add .i64 (.var kI 2) (.var kI 7)) (.lit 1))), (.agg [(.int .u64 (.var kU 10)), (.int .u64 (.var kU 11)), (.int .u64 (.var kU 12)), (.int .u64 (.var kU 13))])])))))
theorem x_mul_Term : execF (ctx E2) 3000 146 (uns c_mul_Term.a (varsAt 0 (kindsOf c_mul_Term.a))) (kindsOf c_mul_Term.a).length = t_mul_Term := by kernel_rfl
def F_mul_Term : List Int → List Int := treeF (phiE E2) c_mul_Term t_mul_Term
theorem e_mul_Term : EntOK Tryz.prog gG ⟨146, c_mul_Term, F_mul_Term⟩ := ent_of (ctx_ok E2_ok) 3000 x_mul_Term (by kernel_rfl)
def E3 : List Ent := ⟨35, c_format_Cut, F_format_Cut⟩ :: ⟨198, c_format_Make, F_format_Make⟩ :: ⟨212, c_over_Beyond, F_over_Beyond⟩ :: ⟨214, c_shift_WideJam, F_shift_WideJam⟩ :: ⟨250, c_round_Rest, F_round_Rest⟩ :: ⟨146, c_mul_Term, F_mul_Term⟩ :: E2
theorem E3_ok : ∀ e ∈ E3, EntOK Tryz.prog gG e := List.forall_mem_cons.2 ⟨e_format_Cut, List.forall_mem_cons.2 ⟨e_format_Make, List.forall_mem_cons.2 ⟨e_over_Beyond, List.forall_mem_cons.2 ⟨e_shift_WideJam, List.forall_mem_cons.2 ⟨e_round_Rest, List.forall_mem_cons.2 ⟨e_mul_Term, E2_ok⟩⟩⟩⟩⟩⟩
end Go.Proofs.YtemomocmfggiaaaGreatDoor
namespace Go.Proofs.YtemomocmfggiaaaGreatDoor
set_option linter.unusedVariables false
set_option maxRecDepth 100000
open Go.RowKit
def c_format_Nought : Ct := ⟨[.sc kB, .sc .bool], [.agg [kU, kU]]⟩
def t_format_Nought : Tr' SV :=
 (.call 198 [(.var kB 0), (.var .bool 1), (.lit 0), (.lit 0), (.lit 0)] 2 2
 (.leaf (.agg [(.int .u64 (.var kU 2)), (.int .u64 (.var kU 3))])))
theorem x_format_Nought : execF (ctx E3) 3000 152 (uns c_format_Nought.a (varsAt 0 (kindsOf c_format_Nought.a))) (kindsOf c_format_Nought.a).length = t_format_Nought := by kernel_rfl
def F_format_Nought : List Int → List Int := treeF (phiE E3) c_format_Nought t_format_Nought
theorem e_format_Nought : EntOK Tryz.prog gG ⟨152, c_format_Nought, F_format_Nought⟩ := ent_of (ctx_ok E3_ok) 3000 x_format_Nought (by kernel_rfl)
def c_format_Inf : Ct := ⟨[.sc kB, .sc .bool], [.agg [kU, kU]]⟩
def t_format_Inf : Tr' SV :=
 (.call 51 [(.var kB 0)] 2 1
 (.call 198 [(.var kB 0), (.var .bool 1), (.bin .add .i64 (.bin .mul .i64 (.lit 2) (.var kI 2)) (.lit 1)), (.lit 0), (.lit 0)] 3 2
 (.leaf (.agg [(.int .u64 (.var kU 3)), (.int .u64 (.var kU 4))]))))
theorem x_format_Inf : execF (ctx E3) 3000 141 (uns c_format_Inf.a (varsAt 0 (kindsOf c_format_Inf.a))) (kindsOf c_format_Inf.a).length = t_format_Inf := by kernel_rfl
def F_format_Inf : List Int → List Int := treeF (phiE E3) c_format_Inf t_format_Inf
theorem e_format_Inf : EntOK Tryz.prog gG ⟨141, c_format_Inf, F_format_Inf⟩ := ent_of (ctx_ok E3_ok) 3000 x_format_Inf (by kernel_rfl)
def c_format_Max : Ct := ⟨[.sc kB, .sc .bool], [.agg [kU, kU]]⟩
def t_format_Max : Tr' SV :=
 (.call 51 [(.var kB 0)] 2 1
 (.call 198 [(.var kB 0), (.var .bool 1), (.bin .mul .i64 (.lit 2) (.var kI 2)), (.lit 18446744073709551615), (.lit 18446744073709551615)] 3 2
 (.leaf (.agg [(.int .u64 (.var kU 3)), (.int .u64 (.var kU 4))]))))
theorem x_format_Max : execF (ctx E3) 3000 253 (uns c_format_Max.a (varsAt 0 (kindsOf c_format_Max.a))) (kindsOf c_format_Max.a).length = t_format_Max := by kernel_rfl
def F_format_Max : List Int → List Int := treeF (phiE E3) c_format_Max t_format_Max
theorem e_format_Max : EntOK Tryz.prog gG ⟨253, c_format_Max, F_format_Max⟩ := ent_of (ctx_ok E3_ok) 3000 x_format_Max (by kernel_rfl)
def c_format_Split : Ct := ⟨[.sc kB, .agg [kU, kU]], [.sc .bool, .sc kI, .agg [kU, kU]]⟩
def t_format_Split : Tr' SV :=
 (.call 43 [(.var kB 0)] 3 3
 (.ite (.bin .eql .i64 (.var kI 3) (.lit 0))
 (.leaf (.tup [(.bool (.lit 0)), (.int .i64 (.lit 0)), (.agg [(.int .u64 (.lit 0)), (.int .u64 (.lit 0))])]))
 (.call 35 [(.var kB 0), (.var kU 1), (.var kU 2)] 6 2
 (.call 110 [(.var kU 6), (.var kU 7), (.bin .sub .i64 (.var kI 4) (.lit 1))] 8 2
 (.call 52 [(.var kU 1), (.var kU 2), (.bin .sub .i64 (.var kI 3) (.lit 1))] 10 1
 (.call 54 [(.var kU 8), (.var kU 9), (.bin .sub .i64 (.var kI 3) (.var kI 4))] 11 2
 (.call 54 [(.var kU 1), (.var kU 2), (.bin .sub .i64 (.var kI 4) (.lit 1))] 13 2
 (.leaf (.tup [(.bool (.var .bool 10)), (.int .i64 (.conv .i64 (.var kU 12))), (.agg [(.int .u64 (.var kU 13)), (.int .u64 (.var kU 14))])])))))))))
theorem x_format_Split : execF (ctx E3) 3000 49 (uns c_format_Split.a (varsAt 0 (kindsOf c_format_Split.a))) (kindsOf c_format_Split.a).length = t_format_Split := by kernel_rfl
def F_format_Split : List Int → List Int := treeF (phiE E3) c_format_Split t_format_Split
theorem e_format_Split : EntOK Tryz.prog gG ⟨49, c_format_Split, F_format_Split⟩ := ent_of (ctx_ok E3_ok) 3000 x_format_Split (by kernel_rfl)
def c_pack_put : Ct := ⟨[.sc kB, .sc .bool, .sc kI, .agg [kU, kU]], [.agg [kU, kU]]⟩
def t_pack_put : Tr' SV :=
 (.ite (.bin .eql .i64 (.var kI 2) (.lit 0))
 (.call 53 [(.var kB 0)] 5 1
 (.call 52 [(.var kU 3), (.var kU 4), (.bin .sub .i64 (.var kI 5) (.lit 1))] 6 1
 (.ite (.var .bool 6)
 (.call 198 [(.var kB 0), (.var .bool 1), (.lit 1), (.var kU 3), (.var kU 4)] 7 2
 (.leaf (.agg [(.int .u64 (.var kU 7)), (.int .u64 (.var kU 8))])))
 (.call 198 [(.var kB 0), (.var .bool 1), (.var kI 2), (.var kU 3), (.var kU 4)] 7 2
 (.leaf (.agg [(.int .u64 (.var kU 7)), (.int .u64 (.var kU 8))]))))))
 (.call 198 [(.var kB 0), (.var .bool 1), (.var kI 2), (.var kU 3), (.var kU 4)] 5 2
 (.leaf (.agg [(.int .u64 (.var kU 5)), (.int .u64 (.var kU 6))]))))
theorem x_pack_put : execF (ctx E3) 3000 215 (uns c_pack_put.a (varsAt 0 (kindsOf c_pack_put.a))) (kindsOf c_pack_put.a).length = t_pack_put := by kernel_rfl
def F_pack_put : List Int → List Int := treeF (phiE E3) c_pack_put t_pack_put
theorem e_pack_put : EntOK Tryz.prog gG ⟨215, c_pack_put, F_pack_put⟩ := ent_of (ctx_ok E3_ok) 3000 x_pack_put (by kernel_rfl)
def c_nan_Default : Ct := ⟨[.sc kB], [.agg [kU, kU]]⟩
def t_nan_Default : Tr' SV :=
 (.call 51 [(.var kB 0)] 1 1
 (.call 53 [(.var kB 0)] 2 1
 (.call 111 [(.lit 0), (.lit 1), (.bin .sub .i64 (.var kI 2) (.lit 2))] 3 2
 (.call 198 [(.var kB 0), (.lit 0), (.bin .add .i64 (.bin .mul .i64 (.lit 2) (.var kI 1)) (.lit 1)), (.var kU 3), (.var kU 4)] 5 2
 (.leaf (.agg [(.int .u64 (.var kU 5)), (.int .u64 (.var kU 6))]))))))
theorem x_nan_Default : execF (ctx E3) 3000 196 (uns c_nan_Default.a (varsAt 0 (kindsOf c_nan_Default.a))) (kindsOf c_nan_Default.a).length = t_nan_Default := by kernel_rfl
def F_nan_Default : List Int → List Int := treeF (phiE E3) c_nan_Default t_nan_Default
theorem e_nan_Default : EntOK Tryz.prog gG ⟨196, c_nan_Default, F_nan_Default⟩ := ent_of (ctx_ok E3_ok) 3000 x_nan_Default (by kernel_rfl)
def c_round_Cut : Ct := ⟨[.agg [kU, kU, kU, kU], .sc kI, .sc kB, .sc .bool], [.agg [kU, kU], .sc .bool]⟩
def t_round_Cut : Tr' SV :=
 (.ite (.bin .lss .i64 (.var kI 4) (.lit 0))
 (.leaf (.tup [(.agg [(.int .u64 (.lit 0)), (.int .u64 (.lit 0))]), (.bool (.lit 0))]))
 (.ite (.bin .gtr .i64 (.var kI 4) (.lit 127))
 (.leaf (.tup [(.agg [(.int .u64 (.lit 0)), (.int .u64 (.lit 0))]), (.bool (.lit 0))]))
 (.ite (.not (.bin .leq .u8 (.var kB 5) (.lit 4)))
 (.leaf (.tup [(.agg [(.int .u64 (.lit 0)), (.int .u64 (.lit 0))]), (.bool (.lit 0))]))
 (.call 153 [(.var kU 0), (.var kU 1), (.var kU 2), (.var kU 3), (.bin .sub .i64 (.lit 256) (.var kI 4))] 7 4
 (.call 249 [(.var kU 7), (.var kU 8), (.var kU 9), (.var kU 10)] 11 2
 (.call 250 [(.var kU 0), (.var kU 1), (.var kU 2), (.var kU 3), (.var kI 4)] 13 1
 (.call 251 [(.var kB 5), (.var .bool 6), (.bin .eql .u64 (.bin .and .u64 (.var kU 12) (.lit 1)) (.lit 1)), (.var kB 13)] 14 1
 (.ite (.var .bool 14)
 (.call 192 [(.var kU 11), (.var kU 12), (.lit 0), (.lit 1)] 15 3
 (.leaf (.tup [(.agg [(.int .u64 (.var kU 15)), (.int .u64 (.var kU 16))]), (.bool (.bin .neq .u8 (.var kB 13) (.lit 0)))])))
 (.leaf (.tup [(.agg [(.int .u64 (.var kU 11)), (.int .u64 (.var kU 12))]), (.bool (.bin .neq .u8 (.var kB 13) (.lit 0)))]))))))))))
theorem x_round_Cut : execF (ctx E3) 3000 210 (uns c_round_Cut.a (varsAt 0 (kindsOf c_round_Cut.a))) (kindsOf c_round_Cut.a).length = t_round_Cut := by kernel_rfl
def F_round_Cut : List Int → List Int := treeF (phiE E3) c_round_Cut t_round_Cut
theorem e_round_Cut : EntOK Tryz.prog gG ⟨210, c_round_Cut, F_round_Cut⟩ := ent_of (ctx_ok E3_ok) 3000 x_round_Cut (by kernel_rfl)
def E4 : List Ent := ⟨152, c_format_Nought, F_format_Nought⟩ :: ⟨141, c_format_Inf, F_format_Inf⟩ :: ⟨253, c_format_Max, F_format_Max⟩ :: ⟨49, c_format_Split, F_format_Split⟩ :: ⟨215, c_pack_put, F_pack_put⟩ :: ⟨196, c_nan_Default, F_nan_Default⟩ :: ⟨210, c_round_Cut, F_round_Cut⟩ :: E3
theorem E4_ok : ∀ e ∈ E4, EntOK Tryz.prog gG e := List.forall_mem_cons.2 ⟨e_format_Nought, List.forall_mem_cons.2 ⟨e_format_Inf, List.forall_mem_cons.2 ⟨e_format_Max, List.forall_mem_cons.2 ⟨e_format_Split, List.forall_mem_cons.2 ⟨e_pack_put, List.forall_mem_cons.2 ⟨e_nan_Default, List.forall_mem_cons.2 ⟨e_round_Cut, E3_ok⟩⟩⟩⟩⟩⟩⟩
end Go.Proofs.YtemomocmfggiaaaGreatDoor
namespace Go.Proofs.YtemomocmfggiaaaGreatDoor
set_option linter.unusedVariables false
set_option maxRecDepth 100000
open Go.RowKit
def c_class_Of : Ct := ⟨[.sc kB, .agg [kU, kU]], [.sc kB, .sc .bool]⟩
def t_class_Of : Tr' SV :=
 (.ite (.not (.bin .lss .i64 (.var kB 0) (.lit 4)))
 (.leaf (.tup [(.int .u8 (.lit 0)), (.bool (.lit 0))]))
 (.call 49 [(.var kB 0), (.var kU 1), (.var kU 2)] 3 4
 (.call 50 [(.var kU 5), (.var kU 6)] 7 1
 (.call 51 [(.var kB 0)] 8 1
 (.ite (.bin .eql .i64 (.var kI 4) (.lit 0))
 (.ite (.var .bool 7)
 (.leaf (.tup [(.int .u8 (.lit 0)), (.bool (.var .bool 3))]))
 (.leaf (.tup [(.int .u8 (.lit 1)), (.bool (.var .bool 3))])))
 (.ite (.bin .lss .i64 (.var kI 4) (.bin .add .i64 (.bin .mul .i64 (.lit 2) (.var kI 8)) (.lit 1)))
 (.leaf (.tup [(.int .u8 (.lit 2)), (.bool (.var .bool 3))]))
 (.ite (.var .bool 7)
 (.leaf (.tup [(.int .u8 (.lit 3)), (.bool (.var .bool 3))]))
 (.call 53 [(.var kB 0)] 9 1
 (.call 52 [(.var kU 5), (.var kU 6), (.bin .sub .i64 (.var kI 9) (.lit 2))] 10 1
 (.ite (.var .bool 10)
 (.leaf (.tup [(.int .u8 (.lit 4)), (.bool (.var .bool 3))]))
 (.leaf (.tup [(.int .u8 (.lit 5)), (.bool (.var .bool 3))]))))))))))))
theorem x_class_Of : execF (ctx E4) 3000 33 (uns c_class_Of.a (varsAt 0 (kindsOf c_class_Of.a))) (kindsOf c_class_Of.a).length = t_class_Of := by kernel_rfl
def F_class_Of : List Int → List Int := treeF (phiE E4) c_class_Of t_class_Of
theorem e_class_Of : EntOK Tryz.prog gG ⟨33, c_class_Of, F_class_Of⟩ := ent_of (ctx_ok E4_ok) 3000 x_class_Of (by kernel_rfl)
def c_over_Over : Ct := ⟨[.sc kB, .sc kB, .sc .bool], [.agg [kU, kU, kB]]⟩
def t_over_Over : Tr' SV :=
 (.ite (.not (.bin .lss .i64 (.var kB 0) (.lit 4)))
 (.leaf (.agg [(.int .u64 (.lit 0)), (.int .u64 (.lit 0)), (.int .u8 (.lit 0))]))
 (.ite (.not (.bin .leq .u8 (.var kB 1) (.lit 4)))
 (.leaf (.agg [(.int .u64 (.lit 0)), (.int .u64 (.lit 0)), (.int .u8 (.lit 0))]))
 (.call 255 [(.var kB 1), (.var .bool 2)] 3 1
 (.ite (.var .bool 3)
 (.call 141 [(.var kB 0), (.var .bool 2)] 4 2
 (.leaf (.agg [(.int .u64 (.var kU 4)), (.int .u64 (.var kU 5)), (.int .u8 (.lit 20))])))
 (.call 253 [(.var kB 0), (.var .bool 2)] 4 2
 (.leaf (.agg [(.int .u64 (.var kU 4)), (.int .u64 (.var kU 5)), (.int .u8 (.lit 20))])))))))
theorem x_over_Over : execF (ctx E4) 3000 213 (uns c_over_Over.a (varsAt 0 (kindsOf c_over_Over.a))) (kindsOf c_over_Over.a).length = t_over_Over := by kernel_rfl
def F_over_Over : List Int → List Int := treeF (phiE E4) c_over_Over t_over_Over
theorem e_over_Over : EntOK Tryz.prog gG ⟨213, c_over_Over, F_over_Over⟩ := ent_of (ctx_ok E4_ok) 3000 x_over_Over (by kernel_rfl)
def c_payload_quieted : Ct := ⟨[.sc kB, .agg [kU, kU]], [.agg [kU, kU]]⟩
def t_payload_quieted : Tr' SV :=
 (.call 196 [(.var kB 0)] 3 2
 (.call 49 [(.var kB 0), (.var kU 3), (.var kU 4)] 5 4
 (.leaf (.agg [(.int .u64 (.bin .or .u64 (.var kU 1) (.var kU 7))), (.int .u64 (.bin .or .u64 (.var kU 2) (.var kU 8)))]))))
theorem x_payload_quieted : execF (ctx E4) 3000 231 (uns c_payload_quieted.a (varsAt 0 (kindsOf c_payload_quieted.a))) (kindsOf c_payload_quieted.a).length = t_payload_quieted := by kernel_rfl
def F_payload_quieted : List Int → List Int := treeF (phiE E4) c_payload_quieted t_payload_quieted
theorem e_payload_quieted : EntOK Tryz.prog gG ⟨231, c_payload_quieted, F_payload_quieted⟩ := ent_of (ctx_ok E4_ok) 3000 x_payload_quieted (by kernel_rfl)
def c_addsub_Turn : Ct := ⟨[.sc kB, .agg [kU, kU]], [.agg [kU, kU]]⟩
def t_addsub_Turn : Tr' SV :=
 (.call 49 [(.var kB 0), (.var kU 1), (.var kU 2)] 3 4
 (.call 198 [(.var kB 0), (.not (.var .bool 3)), (.var kI 4), (.var kU 5), (.var kU 6)] 7 2
 (.leaf (.agg [(.int .u64 (.var kU 7)), (.int .u64 (.var kU 8))]))))
theorem x_addsub_Turn : execF (ctx E4) 3000 143 (uns c_addsub_Turn.a (varsAt 0 (kindsOf c_addsub_Turn.a))) (kindsOf c_addsub_Turn.a).length = t_addsub_Turn := by kernel_rfl
def F_addsub_Turn : List Int → List Int := treeF (phiE E4) c_addsub_Turn t_addsub_Turn
theorem e_addsub_Turn : EntOK Tryz.prog gG ⟨143, c_addsub_Turn, F_addsub_Turn⟩ := ent_of (ctx_ok E4_ok) 3000 x_addsub_Turn (by kernel_rfl)
def E5 : List Ent := ⟨33, c_class_Of, F_class_Of⟩ :: ⟨213, c_over_Over, F_over_Over⟩ :: ⟨231, c_payload_quieted, F_payload_quieted⟩ :: ⟨143, c_addsub_Turn, F_addsub_Turn⟩ :: E4
theorem E5_ok : ∀ e ∈ E5, EntOK Tryz.prog gG e := List.forall_mem_cons.2 ⟨e_class_Of, List.forall_mem_cons.2 ⟨e_over_Over, List.forall_mem_cons.2 ⟨e_payload_quieted, List.forall_mem_cons.2 ⟨e_addsub_Turn, E4_ok⟩⟩⟩⟩
end Go.Proofs.YtemomocmfggiaaaGreatDoor
namespace Go.Proofs.YtemomocmfggiaaaGreatDoor
set_option linter.unusedVariables false
set_option maxRecDepth 100000
open Go.RowKit
def c_class_NaN : Ct := ⟨[.sc kB, .agg [kU, kU]], [.sc .bool]⟩
def t_class_NaN : Tr' SV :=
 (.call 33 [(.var kB 0), (.var kU 1), (.var kU 2)] 3 2
 (.leaf (.bool (.bin .geq .u8 (.var kB 3) (.lit 4)))))
theorem x_class_NaN : execF (ctx E5) 3000 14 (uns c_class_NaN.a (varsAt 0 (kindsOf c_class_NaN.a))) (kindsOf c_class_NaN.a).length = t_class_NaN := by kernel_rfl
def F_class_NaN : List Int → List Int := treeF (phiE E5) c_class_NaN t_class_NaN
theorem e_class_NaN : EntOK Tryz.prog gG ⟨14, c_class_NaN, F_class_NaN⟩ := ent_of (ctx_ok E5_ok) 3000 x_class_NaN (by kernel_rfl)
def c_fields_Unpack : Ct := ⟨[.sc kB, .agg [kU, kU]], [.agg [.bool, kB, kI, kU, kU]]⟩
def t_fields_Unpack : Tr' SV :=
 (.call 33 [(.var kB 0), (.var kU 1), (.var kU 2)] 3 2
 (.call 53 [(.var kB 0)] 5 1
 (.call 51 [(.var kB 0)] 6 1
 (.call 49 [(.var kB 0), (.var kU 1), (.var kU 2)] 7 4
 (.ite (.bin .eql .u8 (.var kB 3) (.lit 2))
 (.call 111 [(.var kU 9), (.var kU 10), (.bin .sub .i64 (.lit 128) (.var kI 5))] 11 2
 (.call 192 [(.var kU 11), (.var kU 12), (.lit 9223372036854775808), (.lit 0)] 13 3
 (.leaf (.agg [(.bool (.var .bool 4)), (.int .u8 (.var kB 3)), (.int .i64 (.bin .sub .i64 (.var kI 8) (.var kI 6))), (.int .u64 (.var kU 13)), (.int .u64 (.var kU 14))]))))
 (.ite (.bin .eql .u8 (.var kB 3) (.lit 1))
 (.call 193 [(.var kU 9), (.var kU 10)] 11 3
 (.leaf (.agg [(.bool (.var .bool 4)), (.int .u8 (.var kB 3)), (.int .i64 (.bin .sub .i64 (.bin .sub .i64 (.bin .add .i64 (.bin .sub .i64 (.lit 1) (.var kI 6)) (.lit 128)) (.var kI 5)) (.var kI 13))), (.int .u64 (.var kU 11)), (.int .u64 (.var kU 12))])))
 (.leaf (.agg [(.bool (.var .bool 4)), (.int .u8 (.var kB 3)), (.int .i64 (.lit 0)), (.int .u64 (.lit 0)), (.int .u64 (.lit 0))]))))))))
theorem x_fields_Unpack : execF (ctx E5) 3000 139 (uns c_fields_Unpack.a (varsAt 0 (kindsOf c_fields_Unpack.a))) (kindsOf c_fields_Unpack.a).length = t_fields_Unpack := by kernel_rfl
def F_fields_Unpack : List Int → List Int := treeF (phiE E5) c_fields_Unpack t_fields_Unpack
theorem e_fields_Unpack : EntOK Tryz.prog gG ⟨139, c_fields_Unpack, F_fields_Unpack⟩ := ent_of (ctx_ok E5_ok) 3000 x_fields_Unpack (by kernel_rfl)
def c_pack_Round : Ct := ⟨[.sc kB, .agg [kB, .bool], .sc .bool, .sc kI, .agg [kU, kU, kU, kU]], [.agg [kU, kU, kB]]⟩
def t_pack_Round : Tr' SV :=
 (.ite (.not (.bin .lss .i64 (.var kB 0) (.lit 4)))
 (.leaf (.agg [(.int .u64 (.lit 0)), (.int .u64 (.lit 0)), (.int .u8 (.lit 0))]))
 (.ite (.not (.bin .leq .u8 (.var kB 1) (.lit 4)))
 (.leaf (.agg [(.int .u64 (.lit 0)), (.int .u64 (.lit 0)), (.int .u8 (.lit 0))]))
 (.call 166 [(.var kU 5), (.var kU 6), (.var kU 7), (.var kU 8)] 9 1
 (.ite (.var .bool 9)
 (.call 152 [(.var kB 0), (.var .bool 3)] 10 2
 (.leaf (.agg [(.int .u64 (.var kU 10)), (.int .u64 (.var kU 11)), (.int .u8 (.lit 0))])))
 (.call 248 [(.var kU 5), (.var kU 6), (.var kU 7), (.var kU 8)] 10 5
 (.call 53 [(.var kB 0)] 15 1
 (.call 51 [(.var kB 0)] 16 1
 (.call 210 [(.var kU 10), (.var kU 11), (.var kU 12), (.var kU 13), (.var kI 15), (.var kB 1), (.var .bool 3)] 17 3
 (.call 52 [(.var kU 17), (.var kU 18), (.var kI 15)] 20 1
 (.ite (.var .bool 20)
 (.call 212 [(.var kB 0), (.bin .add .i64 (.bin .sub .i64 (.max (.lit (-1099511627776)) (.min (.var kI 4) (.lit 1099511627776))) (.var kI 14)) (.lit 1))] 21 1
 (.ite (.var .bool 21)
 (.call 213 [(.var kB 0), (.var kB 1), (.var .bool 3)] 22 3
 (.leaf (.agg [(.int .u64 (.var kU 22)), (.int .u64 (.var kU 23)), (.int .u8 (.var kB 24))])))
 (.ite (.bin .lss .i64 (.bin .sub .i64 (.max (.lit (-1099511627776)) (.min (.var kI 4) (.lit 1099511627776))) (.var kI 14)) (.bin .sub .i64 (.lit 1) (.var kI 16)))
 (.ite (.not (.var .bool 2))
 (.call 214 [(.var kU 10), (.var kU 11), (.var kU 12), (.var kU 13), (.bin .sub .i64 (.bin .sub .i64 (.lit 1) (.var kI 16)) (.bin .sub .i64 (.max (.lit (-1099511627776)) (.min (.var kI 4) (.lit 1099511627776))) (.var kI 14)))] 22 4
 (.call 210 [(.var kU 22), (.var kU 23), (.var kU 24), (.var kU 25), (.var kI 15), (.var kB 1), (.var .bool 3)] 26 3
 (.call 215 [(.var kB 0), (.var .bool 3), (.lit 0), (.var kU 26), (.var kU 27)] 29 2
 (.ite (.var .bool 28)
 (.leaf (.agg [(.int .u64 (.var kU 29)), (.int .u64 (.var kU 30)), (.int .u8 (.lit 24))]))
 (.leaf (.agg [(.int .u64 (.var kU 29)), (.int .u64 (.var kU 30)), (.int .u8 (.lit 0))]))))))
 (.call 214 [(.var kU 10), (.var kU 11), (.var kU 12), (.var kU 13), (.bin .sub .i64 (.bin .sub .i64 (.lit 1) (.var kI 16)) (.bin .sub .i64 (.max (.lit (-1099511627776)) (.min (.var kI 4) (.lit 1099511627776))) (.var kI 14)))] 22 4
 (.call 210 [(.var kU 22), (.var kU 23), (.var kU 24), (.var kU 25), (.var kI 15), (.var kB 1), (.var .bool 3)] 26 3
 (.call 215 [(.var kB 0), (.var .bool 3), (.lit 0), (.var kU 26), (.var kU 27)] 29 2
 (.ite (.var .bool 28)
 (.ite (.bin .lss .i64 (.bin .add .i64 (.bin .sub .i64 (.max (.lit (-1099511627776)) (.min (.var kI 4) (.lit 1099511627776))) (.var kI 14)) (.lit 1)) (.bin .sub .i64 (.lit 1) (.var kI 16)))
 (.leaf (.agg [(.int .u64 (.var kU 29)), (.int .u64 (.var kU 30)), (.int .u8 (.lit 24))]))
 (.leaf (.agg [(.int .u64 (.var kU 29)), (.int .u64 (.var kU 30)), (.int .u8 (.lit 16))])))
 (.leaf (.agg [(.int .u64 (.var kU 29)), (.int .u64 (.var kU 30)), (.int .u8 (.lit 0))])))))))
 (.call 215 [(.var kB 0), (.var .bool 3), (.bin .add .i64 (.bin .sub .i64 (.bin .add .i64 (.bin .sub .i64 (.max (.lit (-1099511627776)) (.min (.var kI 4) (.lit 1099511627776))) (.var kI 14)) (.lit 1)) (.bin .sub .i64 (.lit 1) (.var kI 16))) (.lit 1)), (.var kU 17), (.var kU 18)] 22 2
 (.ite (.var .bool 19)
 (.leaf (.agg [(.int .u64 (.var kU 22)), (.int .u64 (.var kU 23)), (.int .u8 (.lit 16))]))
 (.leaf (.agg [(.int .u64 (.var kU 22)), (.int .u64 (.var kU 23)), (.int .u8 (.lit 0))])))))))
 (.call 212 [(.var kB 0), (.bin .sub .i64 (.max (.lit (-1099511627776)) (.min (.var kI 4) (.lit 1099511627776))) (.var kI 14))] 21 1
 (.ite (.var .bool 21)
 (.call 213 [(.var kB 0), (.var kB 1), (.var .bool 3)] 22 3
 (.leaf (.agg [(.int .u64 (.var kU 22)), (.int .u64 (.var kU 23)), (.int .u8 (.var kB 24))])))
 (.ite (.bin .lss .i64 (.bin .sub .i64 (.max (.lit (-1099511627776)) (.min (.var kI 4) (.lit 1099511627776))) (.var kI 14)) (.bin .sub .i64 (.lit 1) (.var kI 16)))
 (.ite (.not (.var .bool 2))
 (.call 214 [(.var kU 10), (.var kU 11), (.var kU 12), (.var kU 13), (.bin .sub .i64 (.bin .sub .i64 (.lit 1) (.var kI 16)) (.bin .sub .i64 (.max (.lit (-1099511627776)) (.min (.var kI 4) (.lit 1099511627776))) (.var kI 14)))] 22 4
 (.call 210 [(.var kU 22), (.var kU 23), (.var kU 24), (.var kU 25), (.var kI 15), (.var kB 1), (.var .bool 3)] 26 3
 (.call 215 [(.var kB 0), (.var .bool 3), (.lit 0), (.var kU 26), (.var kU 27)] 29 2
 (.ite (.var .bool 28)
 (.leaf (.agg [(.int .u64 (.var kU 29)), (.int .u64 (.var kU 30)), (.int .u8 (.lit 24))]))
 (.leaf (.agg [(.int .u64 (.var kU 29)), (.int .u64 (.var kU 30)), (.int .u8 (.lit 0))]))))))
 (.call 214 [(.var kU 10), (.var kU 11), (.var kU 12), (.var kU 13), (.bin .sub .i64 (.bin .sub .i64 (.lit 1) (.var kI 16)) (.bin .sub .i64 (.max (.lit (-1099511627776)) (.min (.var kI 4) (.lit 1099511627776))) (.var kI 14)))] 22 4
 (.call 210 [(.var kU 22), (.var kU 23), (.var kU 24), (.var kU 25), (.var kI 15), (.var kB 1), (.var .bool 3)] 26 3
 (.call 215 [(.var kB 0), (.var .bool 3), (.lit 0), (.var kU 26), (.var kU 27)] 29 2
 (.ite (.var .bool 28)
 (.leaf (.agg [(.int .u64 (.var kU 29)), (.int .u64 (.var kU 30)), (.int .u8 (.lit 24))]))
 (.leaf (.agg [(.int .u64 (.var kU 29)), (.int .u64 (.var kU 30)), (.int .u8 (.lit 0))])))))))
 (.call 215 [(.var kB 0), (.var .bool 3), (.bin .add .i64 (.bin .sub .i64 (.bin .sub .i64 (.max (.lit (-1099511627776)) (.min (.var kI 4) (.lit 1099511627776))) (.var kI 14)) (.bin .sub .i64 (.lit 1) (.var kI 16))) (.lit 1)), (.var kU 17), (.var kU 18)] 22 2
 (.ite (.var .bool 19)
 (.leaf (.agg [(.int .u64 (.var kU 22)), (.int .u64 (.var kU 23)), (.int .u8 (.lit 16))]))
 (.leaf (.agg [(.int .u64 (.var kU 22)), (.int .u64 (.var kU 23)), (.int .u8 (.lit 0))])))))))))))))))))
theorem x_pack_Round : execF (ctx E5) 3000 147 (uns c_pack_Round.a (varsAt 0 (kindsOf c_pack_Round.a))) (kindsOf c_pack_Round.a).length = t_pack_Round := by kernel_rfl
def F_pack_Round : List Int → List Int := treeF (phiE E5) c_pack_Round t_pack_Round
theorem e_pack_Round : EntOK Tryz.prog gG ⟨147, c_pack_Round, F_pack_Round⟩ := ent_of (ctx_ok E5_ok) 3000 x_pack_Round (by kernel_rfl)
def c_class_Signaling : Ct := ⟨[.sc kB, .agg [kU, kU]], [.sc .bool]⟩
def t_class_Signaling : Tr' SV :=
 (.call 33 [(.var kB 0), (.var kU 1), (.var kU 2)] 3 2
 (.leaf (.bool (.bin .eql .u8 (.var kB 3) (.lit 5)))))
theorem x_class_Signaling : execF (ctx E5) 3000 15 (uns c_class_Signaling.a (varsAt 0 (kindsOf c_class_Signaling.a))) (kindsOf c_class_Signaling.a).length = t_class_Signaling := by kernel_rfl
def F_class_Signaling : List Int → List Int := treeF (phiE E5) c_class_Signaling t_class_Signaling
theorem e_class_Signaling : EntOK Tryz.prog gG ⟨15, c_class_Signaling, F_class_Signaling⟩ := ent_of (ctx_ok E5_ok) 3000 x_class_Signaling (by kernel_rfl)
def E6 : List Ent := ⟨14, c_class_NaN, F_class_NaN⟩ :: ⟨139, c_fields_Unpack, F_fields_Unpack⟩ :: ⟨147, c_pack_Round, F_pack_Round⟩ :: ⟨15, c_class_Signaling, F_class_Signaling⟩ :: E5
theorem E6_ok : ∀ e ∈ E6, EntOK Tryz.prog gG e := List.forall_mem_cons.2 ⟨e_class_NaN, List.forall_mem_cons.2 ⟨e_fields_Unpack, List.forall_mem_cons.2 ⟨e_pack_Round, List.forall_mem_cons.2 ⟨e_class_Signaling, E5_ok⟩⟩⟩⟩
end Go.Proofs.YtemomocmfggiaaaGreatDoor
namespace Go.Proofs.YtemomocmfggiaaaGreatDoor
set_option linter.unusedVariables false
set_option maxRecDepth 100000
open Go.RowKit
def c_nan_Quiet : Ct := ⟨[.sc kB, .agg [kU, kU]], [.agg [kU, kU]]⟩
def t_nan_Quiet : Tr' SV :=
 (.call 35 [(.var kB 0), (.var kU 1), (.var kU 2)] 3 2
 (.call 14 [(.var kB 0), (.var kU 3), (.var kU 4)] 5 1
 (.ite (.var .bool 5)
 (.call 53 [(.var kB 0)] 6 1
 (.call 111 [(.lit 0), (.lit 1), (.bin .sub .i64 (.var kI 6) (.lit 2))] 7 2
 (.leaf (.agg [(.int .u64 (.bin .or .u64 (.var kU 3) (.var kU 7))), (.int .u64 (.bin .or .u64 (.var kU 4) (.var kU 8)))]))))
 (.leaf (.agg [(.int .u64 (.var kU 3)), (.int .u64 (.var kU 4))])))))
theorem x_nan_Quiet : execF (ctx E6) 3000 197 (uns c_nan_Quiet.a (varsAt 0 (kindsOf c_nan_Quiet.a))) (kindsOf c_nan_Quiet.a).length = t_nan_Quiet := by kernel_rfl
def F_nan_Quiet : List Int → List Int := treeF (phiE E6) c_nan_Quiet t_nan_Quiet
theorem e_nan_Quiet : EntOK Tryz.prog gG ⟨197, c_nan_Quiet, F_nan_Quiet⟩ := ent_of (ctx_ok E6_ok) 3000 x_nan_Quiet (by kernel_rfl)
def E7 : List Ent := ⟨197, c_nan_Quiet, F_nan_Quiet⟩ :: E6
theorem E7_ok : ∀ e ∈ E7, EntOK Tryz.prog gG e := List.forall_mem_cons.2 ⟨e_nan_Quiet, E6_ok⟩
end Go.Proofs.YtemomocmfggiaaaGreatDoor
namespace Go.Proofs.YtemomocmfggiaaaGreatDoor
set_option linter.unusedVariables false
set_option maxRecDepth 100000
open Go.RowKit
def c_mul_Mul : Ct := ⟨[.sc kB, .agg [kB, .bool], .agg [kU, kU], .agg [kU, kU]], [.agg [kU, kU, kB]]⟩
def t_mul_Mul : Tr' SV :=
 (.ite (.not (.bin .lss .i64 (.var kB 0) (.lit 4)))
 (.leaf (.agg [(.int .u64 (.lit 0)), (.int .u64 (.lit 0)), (.int .u8 (.lit 0))]))
 (.ite (.not (.bin .leq .u8 (.var kB 1) (.lit 4)))
 (.leaf (.agg [(.int .u64 (.lit 0)), (.int .u64 (.lit 0)), (.int .u8 (.lit 0))]))
 (.call 139 [(.var kB 0), (.var kU 3), (.var kU 4)] 7 5
 (.call 139 [(.var kB 0), (.var kU 5), (.var kU 6)] 12 5
 (.call 144 [(.var .bool 7), (.var kB 8), (.var kI 9), (.var kU 10), (.var kU 11), (.var .bool 12), (.var kB 13), (.var kI 14), (.var kU 15), (.var kU 16)] 17 1
 (.call 14 [(.var kB 0), (.var kU 3), (.var kU 4)] 18 1
 (.ite (.var .bool 18)
 (.call 196 [(.var kB 0)] 19 2
 (.call 197 [(.var kB 0), (.var kU 3), (.var kU 4)] 21 2
 (.ite (.var .bool 17)
 (.leaf (.agg [(.int .u64 (.var kU 21)), (.int .u64 (.var kU 22)), (.int .u8 (.lit 1))]))
 (.call 15 [(.var kB 0), (.var kU 3), (.var kU 4)] 23 1
 (.ite (.var .bool 23)
 (.leaf (.agg [(.int .u64 (.var kU 21)), (.int .u64 (.var kU 22)), (.int .u8 (.lit 1))]))
 (.call 15 [(.var kB 0), (.var kU 5), (.var kU 6)] 24 1
 (.ite (.var .bool 24)
 (.leaf (.agg [(.int .u64 (.var kU 21)), (.int .u64 (.var kU 22)), (.int .u8 (.lit 1))]))
 (.leaf (.agg [(.int .u64 (.var kU 21)), (.int .u64 (.var kU 22)), (.int .u8 (.lit 0))])))))))))
 (.call 14 [(.var kB 0), (.var kU 5), (.var kU 6)] 19 1
 (.ite (.var .bool 19)
 (.call 196 [(.var kB 0)] 20 2
 (.call 197 [(.var kB 0), (.var kU 5), (.var kU 6)] 22 2
 (.ite (.var .bool 17)
 (.leaf (.agg [(.int .u64 (.var kU 22)), (.int .u64 (.var kU 23)), (.int .u8 (.lit 1))]))
 (.call 15 [(.var kB 0), (.var kU 3), (.var kU 4)] 24 1
 (.ite (.var .bool 24)
 (.leaf (.agg [(.int .u64 (.var kU 22)), (.int .u64 (.var kU 23)), (.int .u8 (.lit 1))]))
 (.call 15 [(.var kB 0), (.var kU 5), (.var kU 6)] 25 1
 (.ite (.var .bool 25)
 (.leaf (.agg [(.int .u64 (.var kU 22)), (.int .u64 (.var kU 23)), (.int .u8 (.lit 1))]))
 (.leaf (.agg [(.int .u64 (.var kU 22)), (.int .u64 (.var kU 23)), (.int .u8 (.lit 0))])))))))))
 (.ite (.not (.var .bool 17))
 (.ite (.bin .geq .i64 (.ite (.bin .eql .u8 (.var kB 8) (.lit 3)) (.lit 0) (.ite (.bin .eql .u8 (.var kB 13) (.lit 3)) (.lit 1) (.lit (-1)))) (.lit 0))
 (.call 141 [(.var kB 0), (.not (.beq (.var .bool 7) (.var .bool 12)))] 20 2
 (.leaf (.agg [(.int .u64 (.var kU 20)), (.int .u64 (.var kU 21)), (.int .u8 (.lit 0))])))
 (.call 146 [(.var .bool 7), (.var kB 8), (.var kI 9), (.var kU 10), (.var kU 11), (.var .bool 12), (.var kB 13), (.var kI 14), (.var kU 15), (.var kU 16)] 20 5
 (.call 147 [(.var kB 0), (.var kB 1), (.var .bool 2), (.not (.beq (.var .bool 7) (.var .bool 12))), (.var kI 20), (.var kU 21), (.var kU 22), (.var kU 23), (.var kU 24)] 25 3
 (.leaf (.agg [(.int .u64 (.var kU 25)), (.int .u64 (.var kU 26)), (.int .u8 (.var kB 27))])))))
 (.call 196 [(.var kB 0)] 20 2
 (.leaf (.agg [(.int .u64 (.var kU 20)), (.int .u64 (.var kU 21)), (.int .u8 (.lit 1))])))))))))))))
theorem x_mul_Mul : execF (ctx E7) 3000 84 (uns c_mul_Mul.a (varsAt 0 (kindsOf c_mul_Mul.a))) (kindsOf c_mul_Mul.a).length = t_mul_Mul := by kernel_rfl
def F_mul_Mul : List Int → List Int := treeF (phiE E7) c_mul_Mul t_mul_Mul
theorem e_mul_Mul : EntOK Tryz.prog gG ⟨84, c_mul_Mul, F_mul_Mul⟩ := ent_of (ctx_ok E7_ok) 3000 x_mul_Mul (by kernel_rfl)
def c_payload_Move : Ct := ⟨[.sc kB, .sc kB, .agg [kU, kU]], [.agg [kU, kU, kB], .sc .bool]⟩
def t_payload_Move : Tr' SV :=
 (.ite (.not (.bin .lss .i64 (.var kB 1) (.lit 4)))
 (.leaf (.tup [(.agg [(.int .u64 (.lit 0)), (.int .u64 (.lit 0)), (.int .u8 (.lit 0))]), (.bool (.lit 0))]))
 (.call 14 [(.var kB 0), (.var kU 2), (.var kU 3)] 4 1
 (.ite (.not (.var .bool 4))
 (.leaf (.tup [(.agg [(.int .u64 (.lit 0)), (.int .u64 (.lit 0)), (.int .u8 (.lit 0))]), (.bool (.lit 0))]))
 (.call 49 [(.var kB 0), (.var kU 2), (.var kU 3)] 5 4
 (.call 53 [(.var kB 0)] 9 1
 (.call 111 [(.var kU 7), (.var kU 8), (.bin .sub .i64 (.lit 129) (.var kI 9))] 10 2
 (.call 53 [(.var kB 1)] 12 1
 (.call 110 [(.var kU 10), (.var kU 11), (.bin .sub .i64 (.lit 129) (.var kI 12))] 13 2
 (.call 51 [(.var kB 1)] 15 1
 (.call 231 [(.var kB 1), (.var kU 13), (.var kU 14)] 16 2
 (.call 198 [(.var kB 1), (.var .bool 5), (.bin .add .i64 (.bin .mul .i64 (.lit 2) (.var kI 15)) (.lit 1)), (.var kU 16), (.var kU 17)] 18 2
 (.call 197 [(.var kB 1), (.var kU 18), (.var kU 19)] 20 2
 (.call 15 [(.var kB 0), (.var kU 2), (.var kU 3)] 22 1
 (.ite (.var .bool 22)
 (.leaf (.tup [(.agg [(.int .u64 (.var kU 20)), (.int .u64 (.var kU 21)), (.int .u8 (.lit 1))]), (.bool (.lit 1))]))
 (.leaf (.tup [(.agg [(.int .u64 (.var kU 20)), (.int .u64 (.var kU 21)), (.int .u8 (.lit 0))]), (.bool (.lit 1))]))))))))))))))))
theorem x_payload_Move : execF (ctx E7) 3000 169 (uns c_payload_Move.a (varsAt 0 (kindsOf c_payload_Move.a))) (kindsOf c_payload_Move.a).length = t_payload_Move := by kernel_rfl
def F_payload_Move : List Int → List Int := treeF (phiE E7) c_payload_Move t_payload_Move
theorem e_payload_Move : EntOK Tryz.prog gG ⟨169, c_payload_Move, F_payload_Move⟩ := ent_of (ctx_ok E7_ok) 3000 x_payload_Move (by kernel_rfl)
def E8 : List Ent := ⟨84, c_mul_Mul, F_mul_Mul⟩ :: ⟨169, c_payload_Move, F_payload_Move⟩ :: E7
theorem E8_ok : ∀ e ∈ E8, EntOK Tryz.prog gG e := List.forall_mem_cons.2 ⟨e_mul_Mul, List.forall_mem_cons.2 ⟨e_payload_Move, E7_ok⟩⟩
end Go.Proofs.YtemomocmfggiaaaGreatDoor
namespace Go.Proofs.YtemomocmfggiaaaGreatDoor
set_option linter.unusedVariables false
set_option maxRecDepth 100000
open Go.RowKit
def c_conv_Conv : Ct := ⟨[.sc kB, .sc kB, .agg [kB, .bool], .agg [kU, kU]], [.agg [kU, kU, kB]]⟩
def t_conv_Conv : Tr' SV :=
 (.ite (.not (.ite (.not (.bin .lss .i64 (.var kB 0) (.lit 4))) (.lit 0) (.ite (.not (.bin .lss .i64 (.var kB 1) (.lit 4))) (.lit 0) (.lit 1))))
 (.leaf (.agg [(.int .u64 (.lit 0)), (.int .u64 (.lit 0)), (.int .u8 (.lit 0))]))
 (.ite (.not (.bin .leq .u8 (.var kB 2) (.lit 4)))
 (.leaf (.agg [(.int .u64 (.lit 0)), (.int .u64 (.lit 0)), (.int .u8 (.lit 0))]))
 (.call 169 [(.var kB 0), (.var kB 1), (.var kU 4), (.var kU 5)] 6 4
 (.ite (.var .bool 9)
 (.leaf (.agg [(.int .u64 (.var kU 6)), (.int .u64 (.var kU 7)), (.int .u8 (.var kB 8))]))
 (.call 139 [(.var kB 0), (.var kU 4), (.var kU 5)] 10 5
 (.ite (.bin .eql .u8 (.var kB 11) (.lit 3))
 (.call 141 [(.var kB 1), (.var .bool 10)] 15 2
 (.leaf (.agg [(.int .u64 (.var kU 15)), (.int .u64 (.var kU 16)), (.int .u8 (.lit 0))])))
 (.call 150 [(.var kU 13), (.var kU 14), (.lit 0), (.lit 0)] 15 4
 (.call 147 [(.var kB 1), (.var kB 2), (.var .bool 3), (.var .bool 10), (.var kI 12), (.var kU 15), (.var kU 16), (.var kU 17), (.var kU 18)] 19 3
 (.leaf (.agg [(.int .u64 (.var kU 19)), (.int .u64 (.var kU 20)), (.int .u8 (.var kB 21))]))))))))))
theorem x_conv_Conv : execF (ctx E8) 3000 98 (uns c_conv_Conv.a (varsAt 0 (kindsOf c_conv_Conv.a))) (kindsOf c_conv_Conv.a).length = t_conv_Conv := by kernel_rfl
def F_conv_Conv : List Int → List Int := treeF (phiE E8) c_conv_Conv t_conv_Conv
theorem e_conv_Conv : EntOK Tryz.prog gG ⟨98, c_conv_Conv, F_conv_Conv⟩ := ent_of (ctx_ok E8_ok) 3000 x_conv_Conv (by kernel_rfl)
def E9 : List Ent := ⟨98, c_conv_Conv, F_conv_Conv⟩ :: E8
theorem E9_ok : ∀ e ∈ E9, EntOK Tryz.prog gG e := List.forall_mem_cons.2 ⟨e_conv_Conv, E8_ok⟩
end Go.Proofs.YtemomocmfggiaaaGreatDoor
namespace Go.Proofs.YtemomocmfggiaaaGreatDoor
set_option linter.unusedVariables false
set_option maxRecDepth 100000
open Go.RowKit
def E10 : List Ent := E9
theorem E10_ok : ∀ e ∈ E10, EntOK Tryz.prog gG e := E9_ok
end Go.Proofs.YtemomocmfggiaaaGreatDoor
