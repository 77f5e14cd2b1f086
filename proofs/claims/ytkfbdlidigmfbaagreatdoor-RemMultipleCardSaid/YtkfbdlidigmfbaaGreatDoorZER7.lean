import Derived.Test.YtkfbdlidigmfbaaGreatDoorZDR7
namespace Go.Proofs.YtkfbdlidigmfbaaGreatDoor
set_option linter.unusedVariables false
set_option maxRecDepth 100000
open Go.RowKit
def c_word_Zero : Ct := ⟨[.agg [kU, kU]], [.sc .bool]⟩
def t_word_Zero : Tr' SV :=
 (.leaf (.bool (.and (.bin .eql .u64 (.var kU 0) (.lit 0)) (.and (.bin .eql .u64 (.var kU 1) (.lit 0)) (.lit 1)))))
theorem x_word_Zero : execF (ctx E0) 3000 22 (uns c_word_Zero.a (varsAt 0 (kindsOf c_word_Zero.a))) (kindsOf c_word_Zero.a).length = t_word_Zero := by kernel_rfl
def F_word_Zero : List Int → List Int := treeF (phiE E0) c_word_Zero t_word_Zero
theorem e_word_Zero : EntOK Tryz.prog gG ⟨22, c_word_Zero, F_word_Zero⟩ := ent_of (ctx_ok E0_ok) 3000 x_word_Zero (by kernel_rfl)
def c_word_Bit : Ct := ⟨[.agg [kU, kU], .sc kI], [.sc .bool]⟩
def t_word_Bit : Tr' SV :=
 (.ite (.bin .lss .i64 (.var kI 2) (.lit 0))
 (.leaf (.bool (.lit 0)))
 (.ite (.bin .gtr .i64 (.var kI 2) (.lit 127))
 (.leaf (.bool (.lit 0)))
 (.ite (.bin .gtr .i64 (.var kI 2) (.lit 63))
 (.leaf (.bool (.bin .eql .u64 (.bin .and .u64 (.bin .shr .u64 (.var kU 0) (.bin .sub .i64 (.var kI 2) (.lit 64))) (.lit 1)) (.lit 1))))
 (.leaf (.bool (.bin .eql .u64 (.bin .and .u64 (.bin .shr .u64 (.var kU 1) (.var kI 2)) (.lit 1)) (.lit 1)))))))
theorem x_word_Bit : execF (ctx E0) 3000 23 (uns c_word_Bit.a (varsAt 0 (kindsOf c_word_Bit.a))) (kindsOf c_word_Bit.a).length = t_word_Bit := by kernel_rfl
def F_word_Bit : List Int → List Int := treeF (phiE E0) c_word_Bit t_word_Bit
theorem e_word_Bit : EntOK Tryz.prog gG ⟨23, c_word_Bit, F_word_Bit⟩ := ent_of (ctx_ok E0_ok) 3000 x_word_Bit (by kernel_rfl)
def c_word_Add : Ct := ⟨[.agg [kU, kU], .agg [kU, kU]], [.agg [kU, kU], .sc .bool]⟩
def t_word_Add : Tr' SV :=
 (.call 36 [(.var kU 1), (.var kU 3), (.lit 0)] 4 2
 (.call 36 [(.var kU 0), (.var kU 2), (.var .bit 5)] 6 2
 (.leaf (.tup [(.agg [(.int .u64 (.var kU 6)), (.int .u64 (.var kU 4))]), (.bool (.bin .neq .u64 (.var .bit 7) (.lit 0)))]))))
theorem x_word_Add : execF (ctx E0) 3000 9 (uns c_word_Add.a (varsAt 0 (kindsOf c_word_Add.a))) (kindsOf c_word_Add.a).length = t_word_Add := by kernel_rfl
def F_word_Add : List Int → List Int := treeF (phiE E0) c_word_Add t_word_Add
theorem e_word_Add : EntOK Tryz.prog gG ⟨9, c_word_Add, F_word_Add⟩ := ent_of (ctx_ok E0_ok) 3000 x_word_Add (by kernel_rfl)
def c_word_Sub : Ct := ⟨[.agg [kU, kU], .agg [kU, kU]], [.agg [kU, kU], .sc .bool]⟩
def t_word_Sub : Tr' SV :=
 (.call 98 [(.var kU 1), (.var kU 3), (.lit 0)] 4 2
 (.call 98 [(.var kU 0), (.var kU 2), (.var .bit 5)] 6 2
 (.leaf (.tup [(.agg [(.int .u64 (.var kU 6)), (.int .u64 (.var kU 4))]), (.bool (.bin .neq .u64 (.var .bit 7) (.lit 0)))]))))
theorem x_word_Sub : execF (ctx E0) 3000 99 (uns c_word_Sub.a (varsAt 0 (kindsOf c_word_Sub.a))) (kindsOf c_word_Sub.a).length = t_word_Sub := by kernel_rfl
def F_word_Sub : List Int → List Int := treeF (phiE E0) c_word_Sub t_word_Sub
theorem e_word_Sub : EntOK Tryz.prog gG ⟨99, c_word_Sub, F_word_Sub⟩ := ent_of (ctx_ok E0_ok) 3000 x_word_Sub (by kernel_rfl)
def c_word_Mul : Ct := ⟨[.sc kU, .sc kU], [.agg [kU, kU]]⟩
def t_word_Mul : Tr' SV :=
 (.call 127 [(.var kU 0), (.var kU 1)] 2 2
 (.leaf (.agg [(.int .u64 (.var kU 2)), (.int .u64 (.var kU 3))])))
theorem x_word_Mul : execF (ctx E0) 3000 108 (uns c_word_Mul.a (varsAt 0 (kindsOf c_word_Mul.a))) (kindsOf c_word_Mul.a).length = t_word_Mul := by kernel_rfl
def F_word_Mul : List Int → List Int := treeF (phiE E0) c_word_Mul t_word_Mul
theorem e_word_Mul : EntOK Tryz.prog gG ⟨108, c_word_Mul, F_word_Mul⟩ := ent_of (ctx_ok E0_ok) 3000 x_word_Mul (by kernel_rfl)
def c_wide_Join : Ct := ⟨[.agg [kU, kU], .agg [kU, kU]], [.agg [kU, kU, kU, kU]]⟩
def t_wide_Join : Tr' SV :=
 (.leaf (.agg [(.int .u64 (.var kU 3)), (.int .u64 (.var kU 2)), (.int .u64 (.var kU 1)), (.int .u64 (.var kU 0))]))
theorem x_wide_Join : execF (ctx E0) 3000 30 (uns c_wide_Join.a (varsAt 0 (kindsOf c_wide_Join.a))) (kindsOf c_wide_Join.a).length = t_wide_Join := by kernel_rfl
def F_wide_Join : List Int → List Int := treeF (phiE E0) c_wide_Join t_wide_Join
theorem e_wide_Join : EntOK Tryz.prog gG ⟨30, c_wide_Join, F_wide_Join⟩ := ent_of (ctx_ok E0_ok) 3000 x_wide_Join (by kernel_rfl)
def c_wide_Of : Ct := ⟨[.agg [kU, kU]], [.agg [kU, kU, kU, kU]]⟩
def t_wide_Of : Tr' SV :=
 (.leaf (.agg [(.int .u64 (.var kU 1)), (.int .u64 (.var kU 0)), (.int .u64 (.lit 0)), (.int .u64 (.lit 0))]))
theorem x_wide_Of : execF (ctx E0) 3000 34 (uns c_wide_Of.a (varsAt 0 (kindsOf c_wide_Of.a))) (kindsOf c_wide_Of.a).length = t_wide_Of := by kernel_rfl
def F_wide_Of : List Int → List Int := treeF (phiE E0) c_wide_Of t_wide_Of
theorem e_wide_Of : EntOK Tryz.prog gG ⟨34, c_wide_Of, F_wide_Of⟩ := ent_of (ctx_ok E0_ok) 3000 x_wide_Of (by kernel_rfl)
def c_wide_High : Ct := ⟨[.agg [kU, kU, kU, kU]], [.agg [kU, kU]]⟩
def t_wide_High : Tr' SV :=
 (.leaf (.agg [(.int .u64 (.var kU 3)), (.int .u64 (.var kU 2))]))
theorem x_wide_High : execF (ctx E0) 3000 104 (uns c_wide_High.a (varsAt 0 (kindsOf c_wide_High.a))) (kindsOf c_wide_High.a).length = t_wide_High := by kernel_rfl
def F_wide_High : List Int → List Int := treeF (phiE E0) c_wide_High t_wide_High
theorem e_wide_High : EntOK Tryz.prog gG ⟨104, c_wide_High, F_wide_High⟩ := ent_of (ctx_ok E0_ok) 3000 x_wide_High (by kernel_rfl)
def c_wide_Low : Ct := ⟨[.agg [kU, kU, kU, kU]], [.agg [kU, kU]]⟩
def t_wide_Low : Tr' SV :=
 (.leaf (.agg [(.int .u64 (.var kU 1)), (.int .u64 (.var kU 0))]))
theorem x_wide_Low : execF (ctx E0) 3000 107 (uns c_wide_Low.a (varsAt 0 (kindsOf c_wide_Low.a))) (kindsOf c_wide_Low.a).length = t_wide_Low := by kernel_rfl
def F_wide_Low : List Int → List Int := treeF (phiE E0) c_wide_Low t_wide_Low
theorem e_wide_Low : EntOK Tryz.prog gG ⟨107, c_wide_Low, F_wide_Low⟩ := ent_of (ctx_ok E0_ok) 3000 x_wide_Low (by kernel_rfl)
def c_wide_Zero : Ct := ⟨[.agg [kU, kU, kU, kU]], [.sc .bool]⟩
def t_wide_Zero : Tr' SV :=
 (.leaf (.bool (.and (.bin .eql .u64 (.var kU 0) (.lit 0)) (.and (.bin .eql .u64 (.var kU 1) (.lit 0)) (.and (.bin .eql .u64 (.var kU 2) (.lit 0)) (.and (.bin .eql .u64 (.var kU 3) (.lit 0)) (.lit 1)))))))
theorem x_wide_Zero : execF (ctx E0) 3000 57 (uns c_wide_Zero.a (varsAt 0 (kindsOf c_wide_Zero.a))) (kindsOf c_wide_Zero.a).length = t_wide_Zero := by kernel_rfl
def F_wide_Zero : List Int → List Int := treeF (phiE E0) c_wide_Zero t_wide_Zero
theorem e_wide_Zero : EntOK Tryz.prog gG ⟨57, c_wide_Zero, F_wide_Zero⟩ := ent_of (ctx_ok E0_ok) 3000 x_wide_Zero (by kernel_rfl)
def c_shift_Left : Ct := ⟨[.agg [kU, kU], .sc kI], [.agg [kU, kU]]⟩
def t_shift_Left : Tr' SV :=
 (.leaf (.agg [(.int .u64 (.bin .or .u64 (.bin .shl .u64 (.ite (.bin .lss .i64 (.bin .sub .i64 (.lit 1) (.bin .shr .i64 (.max (.lit (-128)) (.min (.max (.var kI 2) (.lit 0)) (.lit 128))) (.lit 6))) (.lit 0)) (.lit 0) (.ite (.bin .eql .i64 (.bin .sub .i64 (.lit 1) (.bin .shr .i64 (.max (.lit (-128)) (.min (.max (.var kI 2) (.lit 0)) (.lit 128))) (.lit 6))) (.lit 0)) (.var kU 1) (.var kU 0))) (.conv .u64 (.bin .and .i64 (.max (.lit (-128)) (.min (.max (.var kI 2) (.lit 0)) (.lit 128))) (.lit 63)))) (.bin .shr .u64 (.bin .shr .u64 (.ite (.bin .lss .i64 (.bin .sub .i64 (.bin .sub .i64 (.lit 1) (.bin .shr .i64 (.max (.lit (-128)) (.min (.max (.var kI 2) (.lit 0)) (.lit 128))) (.lit 6))) (.lit 1)) (.lit 0)) (.lit 0) (.var kU 1)) (.lit 1)) (.bin .sub .u64 (.lit 63) (.conv .u64 (.bin .and .i64 (.max (.lit (-128)) (.min (.max (.var kI 2) (.lit 0)) (.lit 128))) (.lit 63))))))), (.int .u64 (.bin .or .u64 (.bin .shl .u64 (.ite (.bin .lss .i64 (.bin .sub .i64 (.lit 0) (.bin .shr .i64 (.max (.lit (-128)) (.min (.max (.var kI 2) (.lit 0)) (.lit 128))) (.lit 6))) (.lit 0)) (.lit 0) (.var kU 1)) (.conv .u64 (.bin .and .i64 (.max (.lit (-128)) (.min (.max (.var kI 2) (.lit 0)) (.lit 128))) (.lit 63)))) (.bin .shr .u64 (.lit 0) (.bin .sub .u64 (.lit 63) (.conv .u64 (.bin .and .i64 (.max (.lit (-128)) (.min (.max (.var kI 2) (.lit 0)) (.lit 128))) (.lit 63)))))))]))
theorem x_shift_Left : execF (ctx E0) 3000 42 (uns c_shift_Left.a (varsAt 0 (kindsOf c_shift_Left.a))) (kindsOf c_shift_Left.a).length = t_shift_Left := by kernel_rfl
def F_shift_Left : List Int → List Int := treeF (phiE E0) c_shift_Left t_shift_Left
theorem e_shift_Left : EntOK Tryz.prog gG ⟨42, c_shift_Left, F_shift_Left⟩ := ent_of (ctx_ok E0_ok) 3000 x_shift_Left (by kernel_rfl)
def c_shift_Right : Ct := ⟨[.agg [kU, kU], .sc kI], [.agg [kU, kU]]⟩
def t_shift_Right : Tr' SV :=
 (.leaf (.agg [(.int .u64 (.bin .or .u64 (.bin .shl .u64 (.ite (.bin .geq .i64 (.bin .sub .i64 (.lit 1) (.bin .shr .i64 (.max (.lit (-128)) (.min (.bin .sub .i64 (.lit 0) (.min (.max (.var kI 2) (.lit 0)) (.lit 128))) (.lit 128))) (.lit 6))) (.lit 2)) (.lit 0) (.var kU 0)) (.conv .u64 (.bin .and .i64 (.max (.lit (-128)) (.min (.bin .sub .i64 (.lit 0) (.min (.max (.var kI 2) (.lit 0)) (.lit 128))) (.lit 128))) (.lit 63)))) (.bin .shr .u64 (.bin .shr .u64 (.ite (.bin .geq .i64 (.bin .sub .i64 (.bin .sub .i64 (.lit 1) (.bin .shr .i64 (.max (.lit (-128)) (.min (.bin .sub .i64 (.lit 0) (.min (.max (.var kI 2) (.lit 0)) (.lit 128))) (.lit 128))) (.lit 6))) (.lit 1)) (.lit 2)) (.lit 0) (.ite (.bin .eql .i64 (.bin .sub .i64 (.bin .sub .i64 (.lit 1) (.bin .shr .i64 (.max (.lit (-128)) (.min (.bin .sub .i64 (.lit 0) (.min (.max (.var kI 2) (.lit 0)) (.lit 128))) (.lit 128))) (.lit 6))) (.lit 1)) (.lit 0)) (.var kU 1) (.var kU 0))) (.lit 1)) (.bin .sub .u64 (.lit 63) (.conv .u64 (.bin .and .i64 (.max (.lit (-128)) (.min (.bin .sub .i64 (.lit 0) (.min (.max (.var kI 2) (.lit 0)) (.lit 128))) (.lit 128))) (.lit 63))))))), (.int .u64 (.bin .or .u64 (.bin .shl .u64 (.ite (.bin .geq .i64 (.bin .sub .i64 (.lit 0) (.bin .shr .i64 (.max (.lit (-128)) (.min (.bin .sub .i64 (.lit 0) (.min (.max (.var kI 2) (.lit 0)) (.lit 128))) (.lit 128))) (.lit 6))) (.lit 2)) (.lit 0) (.ite (.bin .eql .i64 (.bin .sub .i64 (.lit 0) (.bin .shr .i64 (.max (.lit (-128)) (.min (.bin .sub .i64 (.lit 0) (.min (.max (.var kI 2) (.lit 0)) (.lit 128))) (.lit 128))) (.lit 6))) (.lit 0)) (.var kU 1) (.var kU 0))) (.conv .u64 (.bin .and .i64 (.max (.lit (-128)) (.min (.bin .sub .i64 (.lit 0) (.min (.max (.var kI 2) (.lit 0)) (.lit 128))) (.lit 128))) (.lit 63)))) (.bin .shr .u64 (.bin .shr .u64 (.ite (.bin .lss .i64 (.bin .sub .i64 (.bin .sub .i64 (.lit 0) (.bin .shr .i64 (.max (.lit (-128)) (.min (.bin .sub .i64 (.lit 0) (.min (.max (.var kI 2) (.lit 0)) (.lit 128))) (.lit 128))) (.lit 6))) (.lit 1)) (.lit 0)) (.lit 0) (.ite (.bin .eql .i64 (.bin .sub .i64 (.bin .sub .i64 (.lit 0) (.bin .shr .i64 (.max (.lit (-128)) (.min (.bin .sub .i64 (.lit 0) (.min (.max (.var kI 2) (.lit 0)) (.lit 128))) (.lit 128))) (.lit 6))) (.lit 1)) (.lit 0)) (.var kU 1) (.var kU 0))) (.lit 1)) (.bin .sub .u64 (.lit 63) (.conv .u64 (.bin .and .i64 (.max (.lit (-128)) (.min (.bin .sub .i64 (.lit 0) (.min (.max (.var kI 2) (.lit 0)) (.lit 128))) (.lit 128))) (.lit 63)))))))]))
theorem x_shift_Right : execF (ctx E0) 3000 58 (uns c_shift_Right.a (varsAt 0 (kindsOf c_shift_Right.a))) (kindsOf c_shift_Right.a).length = t_shift_Right := by kernel_rfl
def F_shift_Right : List Int → List Int := treeF (phiE E0) c_shift_Right t_shift_Right
theorem e_shift_Right : EntOK Tryz.prog gG ⟨58, c_shift_Right, F_shift_Right⟩ := ent_of (ctx_ok E0_ok) 3000 x_shift_Right (by kernel_rfl)
def c_shift_WideLeft : Ct := ⟨[.agg [kU, kU, kU, kU], .sc kI], [.agg [kU, kU, kU, kU]]⟩
def t_shift_WideLeft : Tr' SV :=
 (.leaf (.agg [(.int .u64 (.bin .or .u64 (.bin .shl .u64 (.ite (.bin .lss .i64 (.bin .sub .i64 (.lit 0) (.bin .shr .i64 (.max (.lit (-256)) (.min (.max (.var kI 4) (.lit 0)) (.lit 256))) (.lit 6))) (.lit 0)) (.lit 0) (.var kU 0)) (.conv .u64 (.bin .and .i64 (.max (.lit (-256)) (.min (.max (.var kI 4) (.lit 0)) (.lit 256))) (.lit 63)))) (.bin .shr .u64 (.lit 0) (.bin .sub .u64 (.lit 63) (.conv .u64 (.bin .and .i64 (.max (.lit (-256)) (.min (.max (.var kI 4) (.lit 0)) (.lit 256))) (.lit 63))))))), (.int .u64 (.bin .or .u64 (.bin .shl .u64 (.ite (.bin .lss .i64 (.bin .sub .i64 (.lit 1) (.bin .shr .i64 (.max (.lit (-256)) (.min (.max (.var kI 4) (.lit 0)) (.lit 256))) (.lit 6))) (.lit 0)) (.lit 0) (.ite (.bin .eql .i64 (.bin .sub .i64 (.lit 1) (.bin .shr .i64 (.max (.lit (-256)) (.min (.max (.var kI 4) (.lit 0)) (.lit 256))) (.lit 6))) (.lit 0)) (.var kU 0) (.var kU 1))) (.conv .u64 (.bin .and .i64 (.max (.lit (-256)) (.min (.max (.var kI 4) (.lit 0)) (.lit 256))) (.lit 63)))) (.bin .shr .u64 (.bin .shr .u64 (.ite (.bin .lss .i64 (.bin .sub .i64 (.bin .sub .i64 (.lit 1) (.bin .shr .i64 (.max (.lit (-256)) (.min (.max (.var kI 4) (.lit 0)) (.lit 256))) (.lit 6))) (.lit 1)) (.lit 0)) (.lit 0) (.var kU 0)) (.lit 1)) (.bin .sub .u64 (.lit 63) (.conv .u64 (.bin .and .i64 (.max (.lit (-256)) (.min (.max (.var kI 4) (.lit 0)) (.lit 256))) (.lit 63))))))), (.int .u64 (.bin .or .u64 (.bin .shl .u64 (.ite (.bin .lss .i64 (.bin .sub .i64 (.lit 2) (.bin .shr .i64 (.max (.lit (-256)) (.min (.max (.var kI 4) (.lit 0)) (.lit 256))) (.lit 6))) (.lit 0)) (.lit 0) (.ite (.bin .eql .i64 (.bin .sub .i64 (.lit 2) (.bin .shr .i64 (.max (.lit (-256)) (.min (.max (.var kI 4) (.lit 0)) (.lit 256))) (.lit 6))) (.lit 0)) (.var kU 0) (.ite (.bin .eql .i64 (.bin .sub .i64 (.lit 2) (.bin .shr .i64 (.max (.lit (-256)) (.min (.max (.var kI 4) (.lit 0)) (.lit 256))) (.lit 6))) (.lit 1)) (.var kU 1) (.var kU 2)))) (.conv .u64 (.bin .and .i64 (.max (.lit (-256)) (.min (.max (.var kI 4) (.lit 0)) (.lit 256))) (.lit 63)))) (.bin .shr .u64 (.bin .shr .u64 (.ite (.bin .lss .i64 (.bin .sub .i64 (.bin .sub .i64 (.lit 2) (.bin .shr .i64 (.max (.lit (-256)) (.min (.max (.var kI 4) (.lit 0)) (.lit 256))) (.lit 6))) (.lit 1)) (.lit 0)) (.lit 0) (.ite (.bin .eql .i64 (.bin .sub .i64 (.bin .sub .i64 (.lit 2) (.bin .shr .i64 (.max (.lit (-256)) (.min (.max (.var kI 4) (.lit 0)) (.lit 256))) (.lit 6))) (.lit 1)) (.lit 0)) (.var kU 0) (.var kU 1))) (.lit 1)) (.bin .sub .u64 (.lit 63) (.conv .u64 (.bin .and .i64 (.max (.lit (-256)) (.min (.max (.var kI 4) (.lit 0)) (.lit 256))) (.lit 63))))))), (.int .u64 (.bin .or .u64 (.bin .shl .u64 (.ite (.bin .lss .i64 (.bin .sub .i64 (.lit 3) (.bin .shr .i64 (.max (.lit (-256)) (.min (.max (.var kI 4) (.lit 0)) (.lit 256))) (.lit 6))) (.lit 0)) (.lit 0) (.ite (.bin .eql .i64 (.bin .sub .i64 (.lit 3) (.bin .shr .i64 (.max (.lit (-256)) (.min (.max (.var kI 4) (.lit 0)) (.lit 256))) (.lit 6))) (.lit 0)) (.var kU 0) (.ite (.bin .eql .i64 (.bin .sub .i64 (.lit 3) (.bin .shr .i64 (.max (.lit (-256)) (.min (.max (.var kI 4) (.lit 0)) (.lit 256))) (.lit 6))) (.lit 1)) (.var kU 1) (.ite (.bin .eql .i64 (.bin .sub .i64 (.lit 3) (.bin .shr .i64 (.max (.lit (-256)) (.min (.max (.var kI 4) (.lit 0)) (.lit 256))) (.lit 6))) (.lit 2)) (.var kU 2) (.var kU 3))))) (.conv .u64 (.bin .and .i64 (.max (.lit (-256)) (.min (.max (.var kI 4) (.lit 0)) (.lit 256))) (.lit 63)))) (.bin .shr .u64 (.bin .shr .u64 (.ite (.bin .lss .i64 (.bin .sub .i64 (.bin .sub .i64 (.lit 3) (.bin .shr .i64 (.max (.lit (-256)) (.min (.max (.var kI 4) (.lit 0)) (.lit 256))) (.lit 6))) (.lit 1)) (.lit 0)) (.lit 0) (.ite (.bin .eql .i64 (.bin .sub .i64 (.bin .sub .i64 (.lit 3) (.bin .shr .i64 (.max (.lit (-256)) (.min (.max (.var kI 4) (.lit 0)) (.lit 256))) (.lit 6))) (.lit 1)) (.lit 0)) (.var kU 0) (.ite (.bin .eql .i64 (.bin .sub .i64 (.bin .sub .i64 (.lit 3) (.bin .shr .i64 (.max (.lit (-256)) (.min (.max (.var kI 4) (.lit 0)) (.lit 256))) (.lit 6))) (.lit 1)) (.lit 1)) (.var kU 1) (.var kU 2)))) (.lit 1)) (.bin .sub .u64 (.lit 63) (.conv .u64 (.bin .and .i64 (.max (.lit (-256)) (.min (.max (.var kI 4) (.lit 0)) (.lit 256))) (.lit 63)))))))]))
theorem x_shift_WideLeft : execF (ctx E0) 3000 33 (uns c_shift_WideLeft.a (varsAt 0 (kindsOf c_shift_WideLeft.a))) (kindsOf c_shift_WideLeft.a).length = t_shift_WideLeft := by kernel_rfl
def F_shift_WideLeft : List Int → List Int := treeF (phiE E0) c_shift_WideLeft t_shift_WideLeft
theorem e_shift_WideLeft : EntOK Tryz.prog gG ⟨33, c_shift_WideLeft, F_shift_WideLeft⟩ := ent_of (ctx_ok E0_ok) 3000 x_shift_WideLeft (by kernel_rfl)
def c_shift_WideRight : Ct := ⟨[.agg [kU, kU, kU, kU], .sc kI], [.agg [kU, kU, kU, kU]]⟩
def t_shift_WideRight : Tr' SV :=
 (.leaf (.agg [(.int .u64 (.bin .or .u64 (.bin .shl .u64 (.ite (.bin .geq .i64 (.bin .sub .i64 (.lit 0) (.bin .shr .i64 (.max (.lit (-256)) (.min (.bin .sub .i64 (.lit 0) (.min (.max (.var kI 4) (.lit 0)) (.lit 256))) (.lit 256))) (.lit 6))) (.lit 4)) (.lit 0) (.ite (.bin .eql .i64 (.bin .sub .i64 (.lit 0) (.bin .shr .i64 (.max (.lit (-256)) (.min (.bin .sub .i64 (.lit 0) (.min (.max (.var kI 4) (.lit 0)) (.lit 256))) (.lit 256))) (.lit 6))) (.lit 0)) (.var kU 0) (.ite (.bin .eql .i64 (.bin .sub .i64 (.lit 0) (.bin .shr .i64 (.max (.lit (-256)) (.min (.bin .sub .i64 (.lit 0) (.min (.max (.var kI 4) (.lit 0)) (.lit 256))) (.lit 256))) (.lit 6))) (.lit 1)) (.var kU 1) (.ite (.bin .eql .i64 (.bin .sub .i64 (.lit 0) (.bin .shr .i64 (.max (.lit (-256)) (.min (.bin .sub .i64 (.lit 0) (.min (.max (.var kI 4) (.lit 0)) (.lit 256))) (.lit 256))) (.lit 6))) (.lit 2)) (.var kU 2) (.var kU 3))))) (.conv .u64 (.bin .and .i64 (.max (.lit (-256)) (.min (.bin .sub .i64 (.lit 0) (.min (.max (.var kI 4) (.lit 0)) (.lit 256))) (.lit 256))) (.lit 63)))) (.bin .shr .u64 (.bin .shr .u64 (.ite (.bin .lss .i64 (.bin .sub .i64 (.bin .sub .i64 (.lit 0) (.bin .shr .i64 (.max (.lit (-256)) (.min (.bin .sub .i64 (.lit 0) (.min (.max (.var kI 4) (.lit 0)) (.lit 256))) (.lit 256))) (.lit 6))) (.lit 1)) (.lit 0)) (.lit 0) (.ite (.bin .eql .i64 (.bin .sub .i64 (.bin .sub .i64 (.lit 0) (.bin .shr .i64 (.max (.lit (-256)) (.min (.bin .sub .i64 (.lit 0) (.min (.max (.var kI 4) (.lit 0)) (.lit 256))) (.lit 256))) (.lit 6))) (.lit 1)) (.lit 0)) (.var kU 0) (.ite (.bin .eql .i64 (.bin .sub .i64 (.bin .sub .i64 (.lit 0) (.bin .shr .i64 (.max (.lit (-256)) (.min (.bin .sub .i64 (.lit 0) (.min (.max (.var kI 4) (.lit 0)) (.lit 256))) (.lit 256))) (.lit 6))) (.lit 1)) (.lit 1)) (.var kU 1) (.ite (.bin .eql .i64 (.bin .sub .i64 (.bin .sub .i64 (.lit 0) (.bin .shr .i64 (.max (.lit (-256)) (.min (.bin .sub .i64 (.lit 0) (.min (.max (.var kI 4) (.lit 0)) (.lit 256))) (.lit 256))) (.lit 6))) (.lit 1)) (.lit 2)) (.var kU 2) (.var kU 3))))) (.lit 1)) (.bin .sub .u64 (.lit 63) (.conv .u64 (.bin .and .i64 (.max (.lit (-256)) (.min (.bin .sub .i64 (.lit 0) (.min (.max (.var kI 4) (.lit 0)) (.lit 256))) (.lit 256))) (.lit 63))))))), (.int .u64 (.bin .or .u64 (.bin .shl .u64 (.ite (.bin .geq .i64 (.bin .sub .i64 (.lit 1) (.bin .shr .i64 (.max (.lit (-256)) (.min (.bin .sub .i64 (.lit 0) (.min (.max (.var kI 4) (.lit 0)) (.lit 256))) (.lit 256))) (.lit 6))) (.lit 4)) (.lit 0) (.ite (.bin .eql .i64 (.bin .sub .i64 (.lit 1) (.bin .shr .i64 (.max (.lit (-256)) (.min (.bin .sub .i64 (.lit 0) (.min (.max (.var kI 4) (.lit 0)) (.lit 256))) (.lit 256))) (.lit 6))) (.lit 1)) (.var kU 1) (.ite (.bin .eql .i64 (.bin .sub .i64 (.lit 1) (.bin .shr .i64 (.max (.lit (-256)) (.min (.bin .sub .i64 (.lit 0) (.min (.max (.var kI 4) (.lit 0)) (.lit 256))) (.lit 256))) (.lit 6))) (.lit 2)) (.var kU 2) (.var kU 3)))) (.conv .u64 (.bin .and .i64 (.max (.lit (-256)) (.min (.bin .sub .i64 (.lit 0) (.min (.max (.var kI 4) (.lit 0)) (.lit 256))) (.lit 256))) (.lit 63)))) (.bin .shr .u64 (.bin .shr .u64 (.ite (.bin .geq .i64 (.bin .sub .i64 (.bin .sub .i64 (.lit 1) (.bin .shr .i64 (.max (.lit (-256)) (.min (.bin .sub .i64 (.lit 0) (.min (.max (.var kI 4) (.lit 0)) (.lit 256))) (.lit 256))) (.lit 6))) (.lit 1)) (.lit 4)) (.lit 0) (.ite (.bin .eql .i64 (.bin .sub .i64 (.bin .sub .i64 (.lit 1) (.bin .shr .i64 (.max (.lit (-256)) (.min (.bin .sub .i64 (.lit 0) (.min (.max (.var kI 4) (.lit 0)) (.lit 256))) (.lit 256))) (.lit 6))) (.lit 1)) (.lit 0)) (.var kU 0) (.ite (.bin .eql .i64 (.bin .sub .i64 (.bin .sub .i64 (.lit 1) (.bin .shr .i64 (.max (.lit (-256)) (.min (.bin .sub .i64 (.lit 0) (.min (.max (.var kI 4) (.lit 0)) (.lit 256))) (.lit 256))) (.lit 6))) (.lit 1)) (.lit 1)) (.var kU 1) (.ite (.bin .eql .i64 (.bin .sub .i64 (.bin .sub .i64 (.lit 1) (.bin .shr .i64 (.max (.lit (-256)) (.min (.bin .sub .i64 (.lit 0) (.min (.max (.var kI 4) (.lit 0)) (.lit 256))) (.lit 256))) (.lit 6))) (.lit 1)) (.lit 2)) (.var kU 2) (.var kU 3))))) (.lit 1)) (.bin .sub .u64 (.lit 63) (.conv .u64 (.bin .and .i64 (.max (.lit (-256)) (.min (.bin .sub .i64 (.lit 0) (.min (.max (.var kI 4) (.lit 0)) (.lit 256))) (.lit 256))) (.lit 63))))))), (.int .u64 (.bin .or .u64 (.bin .shl .u64 (.ite (.bin .geq .i64 (.bin .sub .i64 (.lit 2) (.bin .shr .i64 (.max (.lit (-256)) (.min (.bin .sub .i64 (.lit 0) (.min (.max (.var kI 4) (.lit 0)) (.lit 256))) (.lit 256))) (.lit 6))) (.lit 4)) (.lit 0) (.ite (.bin .eql .i64 (.bin .sub .i64 (.lit 2) (.bin .shr .i64 (.max (.lit (-256)) (.min (.bin .sub .i64 (.lit 0) (.min (.max (.var kI 4) (.lit 0)) (.lit 256))) (.lit 256))) (.lit 6))) (.lit 2)) (.var kU 2) (.var kU 3))) (.conv .u64 (.bin .and .i64 (.max (.lit (-256)) (.min (.bin .sub .i64 (.lit 0) (.min (.max (.var kI 4) (.lit 0)) (.lit 256))) (.lit 256))) (.lit 63)))) (.bin .shr .u64 (.bin .shr .u64 (.ite (.bin .geq .i64 (.bin .sub .i64 (.bin .sub .i64 (.lit 2) (.bin .shr .i64 (.max (.lit (-256)) (.min (.bin .sub .i64 (.lit 0) (.min (.max (.var kI 4) (.lit 0)) (.lit 256))) (.lit 256))) (.lit 6))) (.lit 1)) (.lit 4)) (.lit 0) (.ite (.bin .eql .i64 (.bin .sub .i64 (.bin .sub .i64 (.lit 2) (.bin .shr .i64 (.max (.lit (-256)) (.min (.bin .sub .i64 (.lit 0) (.min (.max (.var kI 4) (.lit 0)) (.lit 256))) (.lit 256))) (.lit 6))) (.lit 1)) (.lit 1)) (.var kU 1) (.ite (.bin .eql .i64 (.bin .sub .i64 (.bin .sub .i64 (.lit 2) (.bin .shr .i64 (.max (.lit (-256)) (.min (.bin .sub .i64 (.lit 0) (.min (.max (.var kI 4) (.lit 0)) (.lit 256))) (.lit 256))) (.lit 6))) (.lit 1)) (.lit 2)) (.var kU 2) (.var kU 3)))) (.lit 1)) (.bin .sub .u64 (.lit 63) (.conv .u64 (.bin .and .i64 (.max (.lit (-256)) (.min (.bin .sub .i64 (.lit 0) (.min (.max (.var kI 4) (.lit 0)) (.lit 256))) (.lit 256))) (.lit 63))))))), (.int .u64 (.bin .or .u64 (.bin .shl .u64 (.ite (.bin .geq .i64 (.bin .sub .i64 (.lit 3) (.bin .shr .i64 (.max (.lit (-256)) (.min (.bin .sub .i64 (.lit 0) (.min (.max (.var kI 4) (.lit 0)) (.lit 256))) (.lit 256))) (.lit 6))) (.lit 4)) (.lit 0) (.var kU 3)) (.conv .u64 (.bin .and .i64 (.max (.lit (-256)) (.min (.bin .sub .i64 (.lit 0) (.min (.max (.var kI 4) (.lit 0)) (.lit 256))) (.lit 256))) (.lit 63)))) (.bin .shr .u64 (.bin .shr .u64 (.ite (.bin .geq .i64 (.bin .sub .i64 (.bin .sub .i64 (.lit 3) (.bin .shr .i64 (.max (.lit (-256)) (.min (.bin .sub .i64 (.lit 0) (.min (.max (.var kI 4) (.lit 0)) (.lit 256))) (.lit 256))) (.lit 6))) (.lit 1)) (.lit 4)) (.lit 0) (.ite (.bin .eql .i64 (.bin .sub .i64 (.bin .sub .i64 (.lit 3) (.bin .shr .i64 (.max (.lit (-256)) (.min (.bin .sub .i64 (.lit 0) (.min (.max (.var kI 4) (.lit 0)) (.lit 256))) (.lit 256))) (.lit 6))) (.lit 1)) (.lit 2)) (.var kU 2) (.var kU 3))) (.lit 1)) (.bin .sub .u64 (.lit 63) (.conv .u64 (.bin .and .i64 (.max (.lit (-256)) (.min (.bin .sub .i64 (.lit 0) (.min (.max (.var kI 4) (.lit 0)) (.lit 256))) (.lit 256))) (.lit 63)))))))]))
theorem x_shift_WideRight : execF (ctx E0) 3000 31 (uns c_shift_WideRight.a (varsAt 0 (kindsOf c_shift_WideRight.a))) (kindsOf c_shift_WideRight.a).length = t_shift_WideRight := by kernel_rfl
def F_shift_WideRight : List Int → List Int := treeF (phiE E0) c_shift_WideRight t_shift_WideRight
theorem e_shift_WideRight : EntOK Tryz.prog gG ⟨31, c_shift_WideRight, F_shift_WideRight⟩ := ent_of (ctx_ok E0_ok) 3000 x_shift_WideRight (by kernel_rfl)
def c_count_WideLen : Ct := ⟨[.agg [kU, kU, kU, kU]], [.sc kI]⟩
def t_count_WideLen : Tr' SV :=
 (.ite (.bin .neq .u64 (.var kU 3) (.lit 0))
 (.call 135 [(.var kU 3)] 4 1
 (.leaf (.int .i64 (.bin .add .i64 (.lit 192) (.var kI 4)))))
 (.ite (.bin .neq .u64 (.var kU 2) (.lit 0))
 (.call 135 [(.var kU 2)] 4 1
 (.leaf (.int .i64 (.bin .add .i64 (.lit 128) (.var kI 4)))))
 (.ite (.bin .neq .u64 (.var kU 1) (.lit 0))
 (.call 135 [(.var kU 1)] 4 1
 (.leaf (.int .i64 (.bin .add .i64 (.lit 64) (.var kI 4)))))
 (.ite (.bin .neq .u64 (.var kU 0) (.lit 0))
 (.call 135 [(.var kU 0)] 4 1
 (.leaf (.int .i64 (.bin .add .i64 (.lit 0) (.var kI 4)))))
 (.leaf (.int .i64 (.lit 0)))))))
theorem x_count_WideLen : execF (ctx E0) 3000 103 (uns c_count_WideLen.a (varsAt 0 (kindsOf c_count_WideLen.a))) (kindsOf c_count_WideLen.a).length = t_count_WideLen := by kernel_rfl
def F_count_WideLen : List Int → List Int := treeF (phiE E0) c_count_WideLen t_count_WideLen
theorem e_count_WideLen : EntOK Tryz.prog gG ⟨103, c_count_WideLen, F_count_WideLen⟩ := ent_of (ctx_ok E0_ok) 3000 x_count_WideLen (by kernel_rfl)
def c_format_of : Ct := ⟨[.sc kB], [.agg [kI, kI, kI]]⟩
def t_format_of : Tr' SV :=
 (.ite (.not (.bin .lss .i64 (.var kB 0) (.lit 4)))
 (.leaf (.agg [(.int .i64 (.lit 0)), (.int .i64 (.lit 0)), (.int .i64 (.lit 0))]))
 (.ite (.bin .eql .i64 (.var kB 0) (.lit 0))
 (.leaf (.agg [(.int .i64 (.lit 16)), (.int .i64 (.lit 11)), (.int .i64 (.lit 15))]))
 (.ite (.bin .eql .i64 (.var kB 0) (.lit 1))
 (.leaf (.agg [(.int .i64 (.lit 32)), (.int .i64 (.lit 24)), (.int .i64 (.lit 127))]))
 (.ite (.bin .eql .i64 (.var kB 0) (.lit 2))
 (.leaf (.agg [(.int .i64 (.lit 64)), (.int .i64 (.lit 53)), (.int .i64 (.lit 1023))]))
 (.leaf (.agg [(.int .i64 (.lit 128)), (.int .i64 (.lit 113)), (.int .i64 (.lit 16383))]))))))
theorem x_format_of : execF (ctx E0) 3000 41 (uns c_format_of.a (varsAt 0 (kindsOf c_format_of.a))) (kindsOf c_format_of.a).length = t_format_of := by kernel_rfl
def F_format_of : List Int → List Int := treeF (phiE E0) c_format_of t_format_of
theorem e_format_of : EntOK Tryz.prog gG ⟨41, c_format_of, F_format_of⟩ := ent_of (ctx_ok E0_ok) 3000 x_format_of (by kernel_rfl)
def c_mode_Infinite : Ct := ⟨[.sc kB, .sc .bool], [.sc .bool]⟩
def t_mode_Infinite : Tr' SV :=
 (.call 111 [(.var kB 0), (.var .bool 1), (.lit 1), (.lit 3)] 2 1
 (.leaf (.bool (.var .bool 2))))
theorem x_mode_Infinite : execF (ctx E0) 3000 115 (uns c_mode_Infinite.a (varsAt 0 (kindsOf c_mode_Infinite.a))) (kindsOf c_mode_Infinite.a).length = t_mode_Infinite := by kernel_rfl
def F_mode_Infinite : List Int → List Int := treeF (phiE E0) c_mode_Infinite t_mode_Infinite
theorem e_mode_Infinite : EntOK Tryz.prog gG ⟨115, c_mode_Infinite, F_mode_Infinite⟩ := ent_of (ctx_ok E0_ok) 3000 x_mode_Infinite (by kernel_rfl)
def c_mul_Bad : Ct := ⟨[.agg [.bool, kB, kI, kU, kU], .agg [.bool, kB, kI, kU, kU]], [.sc .bool]⟩
def t_mul_Bad : Tr' SV :=
 (.ite (.bin .geq .i64 (.ite (.bin .eql .u8 (.var kB 1) (.lit 0)) (.lit 0) (.ite (.bin .eql .u8 (.var kB 6) (.lit 0)) (.lit 1) (.lit (-1)))) (.lit 0))
 (.leaf (.bool (.bin .geq .i64 (.ite (.bin .eql .u8 (.var kB 1) (.lit 3)) (.lit 0) (.ite (.bin .eql .u8 (.var kB 6) (.lit 3)) (.lit 1) (.lit (-1)))) (.lit 0))))
 (.leaf (.bool (.lit 0))))
theorem x_mul_Bad : execF (ctx E0) 3000 45 (uns c_mul_Bad.a (varsAt 0 (kindsOf c_mul_Bad.a))) (kindsOf c_mul_Bad.a).length = t_mul_Bad := by kernel_rfl
def F_mul_Bad : List Int → List Int := treeF (phiE E0) c_mul_Bad t_mul_Bad
theorem e_mul_Bad : EntOK Tryz.prog gG ⟨45, c_mul_Bad, F_mul_Bad⟩ := ent_of (ctx_ok E0_ok) 3000 x_mul_Bad (by kernel_rfl)
def E1 : List Ent := ⟨22, c_word_Zero, F_word_Zero⟩ :: ⟨23, c_word_Bit, F_word_Bit⟩ :: ⟨9, c_word_Add, F_word_Add⟩ :: ⟨99, c_word_Sub, F_word_Sub⟩ :: ⟨108, c_word_Mul, F_word_Mul⟩ :: ⟨30, c_wide_Join, F_wide_Join⟩ :: ⟨34, c_wide_Of, F_wide_Of⟩ :: ⟨104, c_wide_High, F_wide_High⟩ :: ⟨107, c_wide_Low, F_wide_Low⟩ :: ⟨57, c_wide_Zero, F_wide_Zero⟩ :: ⟨42, c_shift_Left, F_shift_Left⟩ :: ⟨58, c_shift_Right, F_shift_Right⟩ :: ⟨33, c_shift_WideLeft, F_shift_WideLeft⟩ :: ⟨31, c_shift_WideRight, F_shift_WideRight⟩ :: ⟨103, c_count_WideLen, F_count_WideLen⟩ :: ⟨41, c_format_of, F_format_of⟩ :: ⟨115, c_mode_Infinite, F_mode_Infinite⟩ :: ⟨45, c_mul_Bad, F_mul_Bad⟩ :: E0
theorem E1_ok : ∀ e ∈ E1, EntOK Tryz.prog gG e := List.forall_mem_cons.2 ⟨e_word_Zero, List.forall_mem_cons.2 ⟨e_word_Bit, List.forall_mem_cons.2 ⟨e_word_Add, List.forall_mem_cons.2 ⟨e_word_Sub, List.forall_mem_cons.2 ⟨e_word_Mul, List.forall_mem_cons.2 ⟨e_wide_Join, List.forall_mem_cons.2 ⟨e_wide_Of, List.forall_mem_cons.2 ⟨e_wide_High, List.forall_mem_cons.2 ⟨e_wide_Low, List.forall_mem_cons.2 ⟨e_wide_Zero, List.forall_mem_cons.2 ⟨e_shift_Left, List.forall_mem_cons.2 ⟨e_shift_Right, List.forall_mem_cons.2 ⟨e_shift_WideLeft, List.forall_mem_cons.2 ⟨e_shift_WideRight, List.forall_mem_cons.2 ⟨e_count_WideLen, List.forall_mem_cons.2 ⟨e_format_of, List.forall_mem_cons.2 ⟨e_mode_Infinite, List.forall_mem_cons.2 ⟨e_mul_Bad, E0_ok⟩⟩⟩⟩⟩⟩⟩⟩⟩⟩⟩⟩⟩⟩⟩⟩⟩⟩
theorem ph_E0_math_bits_Add64 : phiE E0 36 = fAdd64 := phiE_hit (e := ⟨36, _, fAdd64⟩) rfl
theorem ph_E0_math_bits_Sub64 : phiE E0 98 = fSub64 := phiE_hit (e := ⟨98, _, fSub64⟩) rfl
theorem ph_E0_math_bits_Mul64 : phiE E0 127 = fMul64 := phiE_hit (e := ⟨127, _, fMul64⟩) rfl
theorem ph_E0_math_bits_Len64 : phiE E0 135 = fLen64 := phiE_hit (e := ⟨135, _, fLen64⟩) rfl
theorem ph_E0_mode_Next : phiE E0 111 = fNext := phiE_hit (e := ⟨111, _, fNext⟩) rfl
end Go.Proofs.YtkfbdlidigmfbaaGreatDoor
namespace Go.Proofs.YtkfbdlidigmfbaaGreatDoor
set_option linter.unusedVariables false
set_option maxRecDepth 100000
open Go.RowKit
def c_format_Emax : Ct := ⟨[.sc kB], [.sc kI]⟩
def t_format_Emax : Tr' SV :=
 (.call 41 [(.var kB 0)] 1 3
 (.leaf (.int .i64 (.var kI 3))))
theorem x_format_Emax : execF (ctx E1) 3000 17 (uns c_format_Emax.a (varsAt 0 (kindsOf c_format_Emax.a))) (kindsOf c_format_Emax.a).length = t_format_Emax := by kernel_rfl
def F_format_Emax : List Int → List Int := treeF (phiE E1) c_format_Emax t_format_Emax
theorem e_format_Emax : EntOK Tryz.prog gG ⟨17, c_format_Emax, F_format_Emax⟩ := ent_of (ctx_ok E1_ok) 3000 x_format_Emax (by kernel_rfl)
def c_format_Prec : Ct := ⟨[.sc kB], [.sc kI]⟩
def t_format_Prec : Tr' SV :=
 (.call 41 [(.var kB 0)] 1 3
 (.leaf (.int .i64 (.var kI 2))))
theorem x_format_Prec : execF (ctx E1) 3000 24 (uns c_format_Prec.a (varsAt 0 (kindsOf c_format_Prec.a))) (kindsOf c_format_Prec.a).length = t_format_Prec := by kernel_rfl
def F_format_Prec : List Int → List Int := treeF (phiE E1) c_format_Prec t_format_Prec
theorem e_format_Prec : EntOK Tryz.prog gG ⟨24, c_format_Prec, F_format_Prec⟩ := ent_of (ctx_ok E1_ok) 3000 x_format_Prec (by kernel_rfl)
def c_format_Width : Ct := ⟨[.sc kB], [.sc kI]⟩
def t_format_Width : Tr' SV :=
 (.call 41 [(.var kB 0)] 1 3
 (.leaf (.int .i64 (.var kI 1))))
theorem x_format_Width : execF (ctx E1) 3000 96 (uns c_format_Width.a (varsAt 0 (kindsOf c_format_Width.a))) (kindsOf c_format_Width.a).length = t_format_Width := by kernel_rfl
def F_format_Width : List Int → List Int := treeF (phiE E1) c_format_Width t_format_Width
theorem e_format_Width : EntOK Tryz.prog gG ⟨96, c_format_Width, F_format_Width⟩ := ent_of (ctx_ok E1_ok) 3000 x_format_Width (by kernel_rfl)
def c_format_low : Ct := ⟨[.agg [kU, kU], .sc kI], [.agg [kU, kU]]⟩
def t_format_low : Tr' SV :=
 (.call 42 [(.var kU 0), (.var kU 1), (.bin .sub .i64 (.lit 128) (.var kI 2))] 3 2
 (.call 58 [(.var kU 3), (.var kU 4), (.bin .sub .i64 (.lit 128) (.var kI 2))] 5 2
 (.leaf (.agg [(.int .u64 (.var kU 5)), (.int .u64 (.var kU 6))]))))
theorem x_format_low : execF (ctx E1) 3000 43 (uns c_format_low.a (varsAt 0 (kindsOf c_format_low.a))) (kindsOf c_format_low.a).length = t_format_low := by kernel_rfl
def F_format_low : List Int → List Int := treeF (phiE E1) c_format_low t_format_low
theorem e_format_low : EntOK Tryz.prog gG ⟨43, c_format_low, F_format_low⟩ := ent_of (ctx_ok E1_ok) 3000 x_format_low (by kernel_rfl)
def c_wide_Mul : Ct := ⟨[.agg [kU, kU], .agg [kU, kU]], [.agg [kU, kU, kU, kU]]⟩
def t_wide_Mul : Tr' SV :=
 (.call 108 [(.var kU 0), (.var kU 2)] 4 2
 (.call 108 [(.var kU 1), (.var kU 3)] 6 2
 (.call 30 [(.var kU 4), (.var kU 5), (.var kU 6), (.var kU 7)] 8 4
 (.call 108 [(.var kU 0), (.var kU 3)] 12 2
 (.call 108 [(.var kU 1), (.var kU 2)] 14 2
 (.call 51 [(.var kU 8), (.var kU 9), (.var kU 10), (.var kU 11), (.lit 0), (.var kU 13), (.var kU 12), (.lit 0)] 16 5
 (.call 51 [(.var kU 16), (.var kU 17), (.var kU 18), (.var kU 19), (.lit 0), (.var kU 15), (.var kU 14), (.lit 0)] 21 5
 (.leaf (.agg [(.int .u64 (.var kU 21)), (.int .u64 (.var kU 22)), (.int .u64 (.var kU 23)), (.int .u64 (.var kU 24))])))))))))
theorem x_wide_Mul : execF (ctx E1) 3000 72 (uns c_wide_Mul.a (varsAt 0 (kindsOf c_wide_Mul.a))) (kindsOf c_wide_Mul.a).length = t_wide_Mul := by kernel_rfl
def F_wide_Mul : List Int → List Int := treeF (phiE E1) c_wide_Mul t_wide_Mul
theorem e_wide_Mul : EntOK Tryz.prog gG ⟨72, c_wide_Mul, F_wide_Mul⟩ := ent_of (ctx_ok E1_ok) 3000 x_wide_Mul (by kernel_rfl)
def c_count_Raise : Ct := ⟨[.agg [kU, kU]], [.agg [kU, kU], .sc kI]⟩
def t_count_Raise : Tr' SV :=
 (.call 30 [(.var kU 0), (.var kU 1), (.lit 0), (.lit 0)] 2 4
 (.call 103 [(.var kU 2), (.var kU 3), (.var kU 4), (.var kU 5)] 6 1
 (.ite (.bin .eql .i64 (.var kI 6) (.lit 0))
 (.call 104 [(.var kU 2), (.var kU 3), (.var kU 4), (.var kU 5)] 7 2
 (.leaf (.tup [(.agg [(.int .u64 (.var kU 7)), (.int .u64 (.var kU 8))]), (.int .i64 (.lit 0))])))
 (.call 33 [(.var kU 2), (.var kU 3), (.var kU 4), (.var kU 5), (.bin .sub .i64 (.lit 256) (.var kI 6))] 7 4
 (.call 104 [(.var kU 7), (.var kU 8), (.var kU 9), (.var kU 10)] 11 2
 (.leaf (.tup [(.agg [(.int .u64 (.var kU 11)), (.int .u64 (.var kU 12))]), (.int .i64 (.bin .sub .i64 (.lit 256) (.var kI 6)))])))))))
theorem x_count_Raise : execF (ctx E1) 3000 61 (uns c_count_Raise.a (varsAt 0 (kindsOf c_count_Raise.a))) (kindsOf c_count_Raise.a).length = t_count_Raise := by kernel_rfl
def F_count_Raise : List Int → List Int := treeF (phiE E1) c_count_Raise t_count_Raise
theorem e_count_Raise : EntOK Tryz.prog gG ⟨61, c_count_Raise, F_count_Raise⟩ := ent_of (ctx_ok E1_ok) 3000 x_count_Raise (by kernel_rfl)
def c_shift_Lost : Ct := ⟨[.agg [kU, kU, kU, kU], .sc kI], [.sc .bool]⟩
def t_shift_Lost : Tr' SV :=
 (.call 31 [(.var kU 0), (.var kU 1), (.var kU 2), (.var kU 3), (.var kI 4)] 5 4
 (.call 33 [(.var kU 5), (.var kU 6), (.var kU 7), (.var kU 8), (.var kI 4)] 9 4
 (.leaf (.bool (.not (.and (.bin .eql .u64 (.var kU 9) (.var kU 0)) (.and (.bin .eql .u64 (.var kU 10) (.var kU 1)) (.and (.bin .eql .u64 (.var kU 11) (.var kU 2)) (.and (.bin .eql .u64 (.var kU 12) (.var kU 3)) (.lit 1))))))))))
theorem x_shift_Lost : execF (ctx E1) 3000 116 (uns c_shift_Lost.a (varsAt 0 (kindsOf c_shift_Lost.a))) (kindsOf c_shift_Lost.a).length = t_shift_Lost := by kernel_rfl
def F_shift_Lost : List Int → List Int := treeF (phiE E1) c_shift_Lost t_shift_Lost
theorem e_shift_Lost : EntOK Tryz.prog gG ⟨116, c_shift_Lost, F_shift_Lost⟩ := ent_of (ctx_ok E1_ok) 3000 x_shift_Lost (by kernel_rfl)
def c_count_WideRaise : Ct := ⟨[.agg [kU, kU, kU, kU]], [.agg [kU, kU, kU, kU], .sc kI]⟩
def t_count_WideRaise : Tr' SV :=
 (.call 103 [(.var kU 0), (.var kU 1), (.var kU 2), (.var kU 3)] 4 1
 (.ite (.bin .eql .i64 (.var kI 4) (.lit 0))
 (.leaf (.tup [(.agg [(.int .u64 (.var kU 0)), (.int .u64 (.var kU 1)), (.int .u64 (.var kU 2)), (.int .u64 (.var kU 3))]), (.int .i64 (.lit 0))]))
 (.call 33 [(.var kU 0), (.var kU 1), (.var kU 2), (.var kU 3), (.bin .sub .i64 (.lit 256) (.var kI 4))] 5 4
 (.leaf (.tup [(.agg [(.int .u64 (.var kU 5)), (.int .u64 (.var kU 6)), (.int .u64 (.var kU 7)), (.int .u64 (.var kU 8))]), (.int .i64 (.bin .sub .i64 (.lit 256) (.var kI 4)))])))))
theorem x_count_WideRaise : execF (ctx E1) 3000 109 (uns c_count_WideRaise.a (varsAt 0 (kindsOf c_count_WideRaise.a))) (kindsOf c_count_WideRaise.a).length = t_count_WideRaise := by kernel_rfl
def F_count_WideRaise : List Int → List Int := treeF (phiE E1) c_count_WideRaise t_count_WideRaise
theorem e_count_WideRaise : EntOK Tryz.prog gG ⟨109, c_count_WideRaise, F_count_WideRaise⟩ := ent_of (ctx_ok E1_ok) 3000 x_count_WideRaise (by kernel_rfl)
def c_quot_next : Ct := ⟨[.agg [kU, kU], .sc kU, .agg [kU, kU]], [.agg [kU, kU], .sc .bool]⟩
def t_quot_next : Tr' SV :=
 (.call 9 [(.var kU 0), (.var kU 1), (.var kU 0), (.var kU 1)] 5 3
 (.call 99 [(.var kU 5), (.bin .or .u64 (.var kU 6) (.var kU 2)), (.var kU 3), (.var kU 4)] 8 3
 (.ite (.var .bool 7)
 (.leaf (.tup [(.agg [(.int .u64 (.var kU 8)), (.int .u64 (.var kU 9))]), (.bool (.lit 1))]))
 (.ite (.not (.var .bool 10))
 (.leaf (.tup [(.agg [(.int .u64 (.var kU 8)), (.int .u64 (.var kU 9))]), (.bool (.lit 1))]))
 (.leaf (.tup [(.agg [(.int .u64 (.var kU 5)), (.int .u64 (.bin .or .u64 (.var kU 6) (.var kU 2)))]), (.bool (.lit 0))]))))))
theorem x_quot_next : execF (ctx E1) 3000 125 (uns c_quot_next.a (varsAt 0 (kindsOf c_quot_next.a))) (kindsOf c_quot_next.a).length = t_quot_next := by kernel_rfl
def F_quot_next : List Int → List Int := treeF (phiE E1) c_quot_next t_quot_next
theorem e_quot_next : EntOK Tryz.prog gG ⟨125, c_quot_next, F_quot_next⟩ := ent_of (ctx_ok E1_ok) 3000 x_quot_next (by kernel_rfl)
def c_word_Cmp : Ct := ⟨[.agg [kU, kU], .agg [kU, kU]], [.sc kI]⟩
def t_word_Cmp : Tr' SV :=
 (.leaf (.int .i64 (.ite (.bin .neq .i64 (.ite (.bin .neq .u64 (.var kU 0) (.var kU 0)) (.ite (.bin .neq .u64 (.var kU 2) (.var kU 2)) (.lit 0) (.lit (-1))) (.ite (.bin .neq .u64 (.var kU 2) (.var kU 2)) (.lit 1) (.ite (.bin .lss .u64 (.var kU 0) (.var kU 2)) (.lit (-1)) (.ite (.bin .gtr .u64 (.var kU 0) (.var kU 2)) (.lit 1) (.lit 0))))) (.lit 0)) (.ite (.bin .neq .u64 (.var kU 0) (.var kU 0)) (.ite (.bin .neq .u64 (.var kU 2) (.var kU 2)) (.lit 0) (.lit (-1))) (.ite (.bin .neq .u64 (.var kU 2) (.var kU 2)) (.lit 1) (.ite (.bin .lss .u64 (.var kU 0) (.var kU 2)) (.lit (-1)) (.ite (.bin .gtr .u64 (.var kU 0) (.var kU 2)) (.lit 1) (.lit 0))))) (.ite (.bin .neq .i64 (.ite (.bin .neq .u64 (.var kU 1) (.var kU 1)) (.ite (.bin .neq .u64 (.var kU 3) (.var kU 3)) (.lit 0) (.lit (-1))) (.ite (.bin .neq .u64 (.var kU 3) (.var kU 3)) (.lit 1) (.ite (.bin .lss .u64 (.var kU 1) (.var kU 3)) (.lit (-1)) (.ite (.bin .gtr .u64 (.var kU 1) (.var kU 3)) (.lit 1) (.lit 0))))) (.lit 0)) (.ite (.bin .neq .u64 (.var kU 1) (.var kU 1)) (.ite (.bin .neq .u64 (.var kU 3) (.var kU 3)) (.lit 0) (.lit (-1))) (.ite (.bin .neq .u64 (.var kU 3) (.var kU 3)) (.lit 1) (.ite (.bin .lss .u64 (.var kU 1) (.var kU 3)) (.lit (-1)) (.ite (.bin .gtr .u64 (.var kU 1) (.var kU 3)) (.lit 1) (.lit 0))))) (.lit 0)))))
theorem x_word_Cmp : execF (ctx E1) 3000 12 (uns c_word_Cmp.a (varsAt 0 (kindsOf c_word_Cmp.a))) (kindsOf c_word_Cmp.a).length = t_word_Cmp := by kernel_rfl
def F_word_Cmp : List Int → List Int := treeF (phiE E1) c_word_Cmp t_word_Cmp
theorem e_word_Cmp : EntOK Tryz.prog gG ⟨12, c_word_Cmp, F_word_Cmp⟩ := ent_of (ctx_ok E1_ok) 3000 x_word_Cmp (by kernel_rfl)
def E2 : List Ent := ⟨17, c_format_Emax, F_format_Emax⟩ :: ⟨24, c_format_Prec, F_format_Prec⟩ :: ⟨96, c_format_Width, F_format_Width⟩ :: ⟨43, c_format_low, F_format_low⟩ :: ⟨72, c_wide_Mul, F_wide_Mul⟩ :: ⟨61, c_count_Raise, F_count_Raise⟩ :: ⟨116, c_shift_Lost, F_shift_Lost⟩ :: ⟨109, c_count_WideRaise, F_count_WideRaise⟩ :: ⟨125, c_quot_next, F_quot_next⟩ :: ⟨12, c_word_Cmp, F_word_Cmp⟩ :: E1
theorem E2_ok : ∀ e ∈ E2, EntOK Tryz.prog gG e := List.forall_mem_cons.2 ⟨e_format_Emax, List.forall_mem_cons.2 ⟨e_format_Prec, List.forall_mem_cons.2 ⟨e_format_Width, List.forall_mem_cons.2 ⟨e_format_low, List.forall_mem_cons.2 ⟨e_wide_Mul, List.forall_mem_cons.2 ⟨e_count_Raise, List.forall_mem_cons.2 ⟨e_shift_Lost, List.forall_mem_cons.2 ⟨e_count_WideRaise, List.forall_mem_cons.2 ⟨e_quot_next, List.forall_mem_cons.2 ⟨e_word_Cmp, E1_ok⟩⟩⟩⟩⟩⟩⟩⟩⟩⟩
theorem ph_E1_format_of : phiE E1 41 = F_format_of := phiE_hit (e := ⟨41, _, F_format_of⟩) rfl
theorem ph_E1_shift_Left : phiE E1 42 = F_shift_Left := phiE_hit (e := ⟨42, _, F_shift_Left⟩) rfl
theorem ph_E1_shift_Right : phiE E1 58 = F_shift_Right := phiE_hit (e := ⟨58, _, F_shift_Right⟩) rfl
theorem ph_E1_word_Mul : phiE E1 108 = F_word_Mul := phiE_hit (e := ⟨108, _, F_word_Mul⟩) rfl
theorem ph_E1_wide_Join : phiE E1 30 = F_wide_Join := phiE_hit (e := ⟨30, _, F_wide_Join⟩) rfl
theorem ph_E1_wide_Add : phiE E1 51 = fWideAdd := phiE_hit (e := ⟨51, _, fWideAdd⟩) rfl
theorem ph_E1_count_WideLen : phiE E1 103 = F_count_WideLen := phiE_hit (e := ⟨103, _, F_count_WideLen⟩) rfl
theorem ph_E1_wide_High : phiE E1 104 = F_wide_High := phiE_hit (e := ⟨104, _, F_wide_High⟩) rfl
theorem ph_E1_shift_WideLeft : phiE E1 33 = F_shift_WideLeft := phiE_hit (e := ⟨33, _, F_shift_WideLeft⟩) rfl
theorem ph_E1_shift_WideRight : phiE E1 31 = F_shift_WideRight := phiE_hit (e := ⟨31, _, F_shift_WideRight⟩) rfl
theorem ph_E1_word_Add : phiE E1 9 = F_word_Add := phiE_hit (e := ⟨9, _, F_word_Add⟩) rfl
theorem ph_E1_word_Sub : phiE E1 99 = F_word_Sub := phiE_hit (e := ⟨99, _, F_word_Sub⟩) rfl
end Go.Proofs.YtkfbdlidigmfbaaGreatDoor
namespace Go.Proofs.YtkfbdlidigmfbaaGreatDoor
set_option linter.unusedVariables false
set_option maxRecDepth 100000
open Go.RowKit
def c_format_Cut : Ct := ⟨[.sc kB, .agg [kU, kU]], [.agg [kU, kU]]⟩
def t_format_Cut : Tr' SV :=
 (.call 96 [(.var kB 0)] 3 1
 (.call 43 [(.var kU 1), (.var kU 2), (.var kI 3)] 4 2
 (.leaf (.agg [(.int .u64 (.var kU 4)), (.int .u64 (.var kU 5))]))))
theorem x_format_Cut : execF (ctx E2) 3000 50 (uns c_format_Cut.a (varsAt 0 (kindsOf c_format_Cut.a))) (kindsOf c_format_Cut.a).length = t_format_Cut := by kernel_rfl
def F_format_Cut : List Int → List Int := treeF (phiE E2) c_format_Cut t_format_Cut
theorem e_format_Cut : EntOK Tryz.prog gG ⟨50, c_format_Cut, F_format_Cut⟩ := ent_of (ctx_ok E2_ok) 3000 x_format_Cut (by kernel_rfl)
def c_format_Make : Ct := ⟨[.sc kB, .sc .bool, .sc kI, .agg [kU, kU]], [.agg [kU, kU]]⟩
def t_format_Make : Tr' SV :=
 (.call 41 [(.var kB 0)] 5 3
 (.ite (.bin .eql .i64 (.var kI 5) (.lit 0))
 (.leaf (.agg [(.int .u64 (.lit 0)), (.int .u64 (.lit 0))]))
 (.ite (.bin .lss .i64 (.var kI 2) (.lit 0))
 (.call 43 [(.lit 0), (.lit 0), (.bin .sub .i64 (.var kI 5) (.var kI 6))] 8 2
 (.call 42 [(.var kU 8), (.var kU 9), (.bin .sub .i64 (.var kI 6) (.lit 1))] 10 2
 (.call 43 [(.var kU 3), (.var kU 4), (.bin .sub .i64 (.var kI 6) (.lit 1))] 12 2
 (.call 9 [(.var kU 10), (.var kU 11), (.var kU 12), (.var kU 13)] 14 3
 (.ite (.var .bool 1)
 (.call 42 [(.lit 0), (.lit 1), (.bin .sub .i64 (.var kI 5) (.lit 1))] 17 2
 (.call 9 [(.var kU 14), (.var kU 15), (.var kU 17), (.var kU 18)] 19 3
 (.leaf (.agg [(.int .u64 (.var kU 19)), (.int .u64 (.var kU 20))]))))
 (.leaf (.agg [(.int .u64 (.var kU 14)), (.int .u64 (.var kU 15))])))))))
 (.ite (.bin .gtr .i64 (.var kI 2) (.lit 1048576))
 (.call 43 [(.lit 0), (.lit 0), (.bin .sub .i64 (.var kI 5) (.var kI 6))] 8 2
 (.call 42 [(.var kU 8), (.var kU 9), (.bin .sub .i64 (.var kI 6) (.lit 1))] 10 2
 (.call 43 [(.var kU 3), (.var kU 4), (.bin .sub .i64 (.var kI 6) (.lit 1))] 12 2
 (.call 9 [(.var kU 10), (.var kU 11), (.var kU 12), (.var kU 13)] 14 3
 (.ite (.var .bool 1)
 (.call 42 [(.lit 0), (.lit 1), (.bin .sub .i64 (.var kI 5) (.lit 1))] 17 2
 (.call 9 [(.var kU 14), (.var kU 15), (.var kU 17), (.var kU 18)] 19 3
 (.leaf (.agg [(.int .u64 (.var kU 19)), (.int .u64 (.var kU 20))]))))
 (.leaf (.agg [(.int .u64 (.var kU 14)), (.int .u64 (.var kU 15))])))))))
 (.call 43 [(.lit 0), (.conv .u64 (.var kI 2)), (.bin .sub .i64 (.var kI 5) (.var kI 6))] 8 2
 (.call 42 [(.var kU 8), (.var kU 9), (.bin .sub .i64 (.var kI 6) (.lit 1))] 10 2
 (.call 43 [(.var kU 3), (.var kU 4), (.bin .sub .i64 (.var kI 6) (.lit 1))] 12 2
 (.call 9 [(.var kU 10), (.var kU 11), (.var kU 12), (.var kU 13)] 14 3
 (.ite (.var .bool 1)
 (.call 42 [(.lit 0), (.lit 1), (.bin .sub .i64 (.var kI 5) (.lit 1))] 17 2
 (.call 9 [(.var kU 14), (.var kU 15), (.var kU 17), (.var kU 18)] 19 3
 (.leaf (.agg [(.int .u64 (.var kU 19)), (.int .u64 (.var kU 20))]))))
 (.leaf (.agg [(.int .u64 (.var kU 14)), (.int .u64 (.var kU 15))])))))))))))
theorem x_format_Make : execF (ctx E2) 3000 16 (uns c_format_Make.a (varsAt 0 (kindsOf c_format_Make.a))) (kindsOf c_format_Make.a).length = t_format_Make := by kernel_rfl
def F_format_Make : List Int → List Int := treeF (phiE E2) c_format_Make t_format_Make
theorem e_format_Make : EntOK Tryz.prog gG ⟨16, c_format_Make, F_format_Make⟩ := ent_of (ctx_ok E2_ok) 3000 x_format_Make (by kernel_rfl)
def c_over_Beyond : Ct := ⟨[.sc kB, .sc kI], [.sc .bool]⟩
def t_over_Beyond : Tr' SV :=
 (.ite (.bin .lss .i64 (.var kB 0) (.lit 4))
 (.call 17 [(.var kB 0)] 2 1
 (.leaf (.bool (.bin .gtr .i64 (.var kI 1) (.var kI 2)))))
 (.leaf (.bool (.lit 0))))
theorem x_over_Beyond : execF (ctx E2) 3000 77 (uns c_over_Beyond.a (varsAt 0 (kindsOf c_over_Beyond.a))) (kindsOf c_over_Beyond.a).length = t_over_Beyond := by kernel_rfl
def F_over_Beyond : List Int → List Int := treeF (phiE E2) c_over_Beyond t_over_Beyond
theorem e_over_Beyond : EntOK Tryz.prog gG ⟨77, c_over_Beyond, F_over_Beyond⟩ := ent_of (ctx_ok E2_ok) 3000 x_over_Beyond (by kernel_rfl)
def c_shift_WideJam : Ct := ⟨[.agg [kU, kU, kU, kU], .sc kI], [.agg [kU, kU, kU, kU]]⟩
def t_shift_WideJam : Tr' SV :=
 (.call 31 [(.var kU 0), (.var kU 1), (.var kU 2), (.var kU 3), (.var kI 4)] 5 4
 (.call 116 [(.var kU 0), (.var kU 1), (.var kU 2), (.var kU 3), (.var kI 4)] 9 1
 (.ite (.var .bool 9)
 (.leaf (.agg [(.int .u64 (.bin .or .u64 (.var kU 5) (.lit 1))), (.int .u64 (.var kU 6)), (.int .u64 (.var kU 7)), (.int .u64 (.var kU 8))]))
 (.leaf (.agg [(.int .u64 (.var kU 5)), (.int .u64 (.var kU 6)), (.int .u64 (.var kU 7)), (.int .u64 (.var kU 8))])))))
theorem x_shift_WideJam : execF (ctx E2) 3000 79 (uns c_shift_WideJam.a (varsAt 0 (kindsOf c_shift_WideJam.a))) (kindsOf c_shift_WideJam.a).length = t_shift_WideJam := by kernel_rfl
def F_shift_WideJam : List Int → List Int := treeF (phiE E2) c_shift_WideJam t_shift_WideJam
theorem e_shift_WideJam : EntOK Tryz.prog gG ⟨79, c_shift_WideJam, F_shift_WideJam⟩ := ent_of (ctx_ok E2_ok) 3000 x_shift_WideJam (by kernel_rfl)
def c_round_Rest : Ct := ⟨[.agg [kU, kU, kU, kU], .sc kI], [.sc kB]⟩
def t_round_Rest : Tr' SV :=
 (.ite (.bin .lss .i64 (.var kI 4) (.lit 0))
 (.leaf (.int .u8 (.lit 0)))
 (.ite (.bin .gtr .i64 (.var kI 4) (.lit 127))
 (.leaf (.int .u8 (.lit 0)))
 (.call 116 [(.var kU 0), (.var kU 1), (.var kU 2), (.var kU 3), (.bin .sub .i64 (.lit 255) (.var kI 4))] 5 1
 (.leaf (.int .u8 (.ite (.ite (.bin .eql .i64 (.bin .shr .i64 (.bin .sub .i64 (.lit 255) (.var kI 4)) (.lit 6)) (.lit 2)) (.bin .eql .u64 (.bin .and .u64 (.bin .shr .u64 (.var kU 2) (.bin .and .i64 (.bin .sub .i64 (.lit 255) (.var kI 4)) (.lit 63))) (.lit 1)) (.lit 1)) (.bin .eql .u64 (.bin .and .u64 (.bin .shr .u64 (.var kU 3) (.bin .and .i64 (.bin .sub .i64 (.lit 255) (.var kI 4)) (.lit 63))) (.lit 1)) (.lit 1))) (.ite (.var .bool 5) (.lit 3) (.lit 2)) (.ite (.var .bool 5) (.lit 1) (.lit 0))))))))
theorem x_round_Rest : execF (ctx E2) 3000 110 (uns c_round_Rest.a (varsAt 0 (kindsOf c_round_Rest.a))) (kindsOf c_round_Rest.a).length = t_round_Rest := by kernel_rfl
def F_round_Rest : List Int → List Int := treeF (phiE E2) c_round_Rest t_round_Rest
theorem e_round_Rest : EntOK Tryz.prog gG ⟨110, c_round_Rest, F_round_Rest⟩ := ent_of (ctx_ok E2_ok) 3000 x_round_Rest (by kernel_rfl)
def c_mul_Term : Ct := ⟨[.agg [.bool, kB, kI, kU, kU], .agg [.bool, kB, kI, kU, kU]], [.sc kI, .agg [kU, kU, kU, kU]]⟩
def t_mul_Term : Tr' SV :=
 (.ite (.bin .neq .u8 (.var kB 1) (.lit 1))
 (.ite (.bin .neq .u8 (.var kB 1) (.lit 2))
 (.leaf (.tup [(.int .i64 (.lit 0)), (.agg [(.int .u64 (.lit 0)), (.int .u64 (.lit 0)), (.int .u64 (.lit 0)), (.int .u64 (.lit 0))])]))
 (.ite (.bin .neq .u8 (.var kB 6) (.lit 1))
 (.ite (.bin .neq .u8 (.var kB 6) (.lit 2))
 (.leaf (.tup [(.int .i64 (.lit 0)), (.agg [(.int .u64 (.lit 0)), (.int .u64 (.lit 0)), (.int .u64 (.lit 0)), (.int .u64 (.lit 0))])]))
 (.call 72 [(.var kU 3), (.var kU 4), (.var kU 8), (.var kU 9)] 10 4
 (.leaf (.tup [(.int .i64 (.bin .add .i64 (.bin .add .i64 (.var kI 2) (.var kI 7)) (.lit 1))), (.agg [(.int .u64 (.var kU 10)), (.int .u64 (.var kU 11)), (.int .u64 (.var kU 12)), (.int .u64 (.var kU 13))])]))))
 (.call 72 [(.var kU 3), (.var kU 4), (.var kU 8), (.var kU 9)] 10 4
 (.leaf (.tup [(.int .i64 (.bin .add .i64 (.bin .add .i64 (.var kI 2) (.var kI 7)) (.lit 1))), (.agg [(.int .u64 (.var kU 10)), (.int .u64 (.var kU 11)), (.int .u64 (.var kU 12)), (.int .u64 (.var kU 13))])])))))
 (.ite (.bin .neq .u8 (.var kB 6) (.lit 1))
 (.ite (.bin .neq .u8 (.var kB 6) (.lit 2))
 (.leaf (.tup [(.int .i64 (.lit 0)), (.agg [(.int .u64 (.lit 0)), (.int .u64 (.lit 0)), (.int .u64 (.lit 0)), (.int .u64 (.lit 0))])]))
 (.call 72 [(.var kU 3), (.var kU 4), (.var kU 8), (.var kU 9)] 10 4
 (.leaf (.tup [(.int .i64 (.bin .add .i64 (.bin .add .i64 (.var kI 2) (.var kI 7)) (.lit 1))), (.agg [(.int .u64 (.var kU 10)), (.int .u64 (.var kU 11)), (.int .u64 (.var kU 12)), (.int .u64 (.var kU 13))])]))))
 (.call 72 [(.var kU 3), (.var kU 4), (.var kU 8), (.var kU 9)] 10 4
 (.leaf (.tup [(.int .i64 (.bin .add .i64 (.bin .add .i64 (.var kI 2) (.var kI 7)) (.lit 1))), (.agg [(.int .u64 (.var kU 10)), (.int .u64 (.var kU 11)), (.int .u64 (.var kU 12)), (.int .u64 (.var kU 13))])])))))
theorem x_mul_Term : execF (ctx E2) 3000 47 (uns c_mul_Term.a (varsAt 0 (kindsOf c_mul_Term.a))) (kindsOf c_mul_Term.a).length = t_mul_Term := by kernel_rfl
def F_mul_Term : List Int → List Int := treeF (phiE E2) c_mul_Term t_mul_Term
theorem e_mul_Term : EntOK Tryz.prog gG ⟨47, c_mul_Term, F_mul_Term⟩ := ent_of (ctx_ok E2_ok) 3000 x_mul_Term (by kernel_rfl)
def E3 : List Ent := ⟨50, c_format_Cut, F_format_Cut⟩ :: ⟨16, c_format_Make, F_format_Make⟩ :: ⟨77, c_over_Beyond, F_over_Beyond⟩ :: ⟨79, c_shift_WideJam, F_shift_WideJam⟩ :: ⟨110, c_round_Rest, F_round_Rest⟩ :: ⟨47, c_mul_Term, F_mul_Term⟩ :: E2
theorem E3_ok : ∀ e ∈ E3, EntOK Tryz.prog gG e := List.forall_mem_cons.2 ⟨e_format_Cut, List.forall_mem_cons.2 ⟨e_format_Make, List.forall_mem_cons.2 ⟨e_over_Beyond, List.forall_mem_cons.2 ⟨e_shift_WideJam, List.forall_mem_cons.2 ⟨e_round_Rest, List.forall_mem_cons.2 ⟨e_mul_Term, E2_ok⟩⟩⟩⟩⟩⟩
theorem ph_E2_format_Width : phiE E2 96 = F_format_Width := phiE_hit (e := ⟨96, _, F_format_Width⟩) rfl
theorem ph_E2_format_low : phiE E2 43 = F_format_low := phiE_hit (e := ⟨43, _, F_format_low⟩) rfl
theorem ph_E2_format_of : phiE E2 41 = F_format_of := phiE_hit (e := ⟨41, _, F_format_of⟩) rfl
theorem ph_E2_shift_Left : phiE E2 42 = F_shift_Left := phiE_hit (e := ⟨42, _, F_shift_Left⟩) rfl
theorem ph_E2_word_Add : phiE E2 9 = F_word_Add := phiE_hit (e := ⟨9, _, F_word_Add⟩) rfl
theorem ph_E2_format_Emax : phiE E2 17 = F_format_Emax := phiE_hit (e := ⟨17, _, F_format_Emax⟩) rfl
theorem ph_E2_shift_WideRight : phiE E2 31 = F_shift_WideRight := phiE_hit (e := ⟨31, _, F_shift_WideRight⟩) rfl
theorem ph_E2_shift_Lost : phiE E2 116 = F_shift_Lost := phiE_hit (e := ⟨116, _, F_shift_Lost⟩) rfl
theorem ph_E2_wide_Mul : phiE E2 72 = F_wide_Mul := phiE_hit (e := ⟨72, _, F_wide_Mul⟩) rfl
end Go.Proofs.YtkfbdlidigmfbaaGreatDoor
namespace Go.Proofs.YtkfbdlidigmfbaaGreatDoor
set_option linter.unusedVariables false
set_option maxRecDepth 100000
open Go.RowKit
def c_format_Nought : Ct := ⟨[.sc kB, .sc .bool], [.agg [kU, kU]]⟩
def t_format_Nought : Tr' SV :=
 (.call 16 [(.var kB 0), (.var .bool 1), (.lit 0), (.lit 0), (.lit 0)] 2 2
 (.leaf (.agg [(.int .u64 (.var kU 2)), (.int .u64 (.var kU 3))])))
theorem x_format_Nought : execF (ctx E3) 3000 15 (uns c_format_Nought.a (varsAt 0 (kindsOf c_format_Nought.a))) (kindsOf c_format_Nought.a).length = t_format_Nought := by kernel_rfl
def F_format_Nought : List Int → List Int := treeF (phiE E3) c_format_Nought t_format_Nought
theorem e_format_Nought : EntOK Tryz.prog gG ⟨15, c_format_Nought, F_format_Nought⟩ := ent_of (ctx_ok E3_ok) 3000 x_format_Nought (by kernel_rfl)
def c_format_Inf : Ct := ⟨[.sc kB, .sc .bool], [.agg [kU, kU]]⟩
def t_format_Inf : Tr' SV :=
 (.call 17 [(.var kB 0)] 2 1
 (.call 16 [(.var kB 0), (.var .bool 1), (.bin .add .i64 (.bin .mul .i64 (.lit 2) (.var kI 2)) (.lit 1)), (.lit 0), (.lit 0)] 3 2
 (.leaf (.agg [(.int .u64 (.var kU 3)), (.int .u64 (.var kU 4))]))))
theorem x_format_Inf : execF (ctx E3) 3000 29 (uns c_format_Inf.a (varsAt 0 (kindsOf c_format_Inf.a))) (kindsOf c_format_Inf.a).length = t_format_Inf := by kernel_rfl
def F_format_Inf : List Int → List Int := treeF (phiE E3) c_format_Inf t_format_Inf
theorem e_format_Inf : EntOK Tryz.prog gG ⟨29, c_format_Inf, F_format_Inf⟩ := ent_of (ctx_ok E3_ok) 3000 x_format_Inf (by kernel_rfl)
def c_format_Max : Ct := ⟨[.sc kB, .sc .bool], [.agg [kU, kU]]⟩
def t_format_Max : Tr' SV :=
 (.call 17 [(.var kB 0)] 2 1
 (.call 16 [(.var kB 0), (.var .bool 1), (.bin .mul .i64 (.lit 2) (.var kI 2)), (.lit 18446744073709551615), (.lit 18446744073709551615)] 3 2
 (.leaf (.agg [(.int .u64 (.var kU 3)), (.int .u64 (.var kU 4))]))))
theorem x_format_Max : execF (ctx E3) 3000 113 (uns c_format_Max.a (varsAt 0 (kindsOf c_format_Max.a))) (kindsOf c_format_Max.a).length = t_format_Max := by kernel_rfl
def F_format_Max : List Int → List Int := treeF (phiE E3) c_format_Max t_format_Max
theorem e_format_Max : EntOK Tryz.prog gG ⟨113, c_format_Max, F_format_Max⟩ := ent_of (ctx_ok E3_ok) 3000 x_format_Max (by kernel_rfl)
def c_format_Split : Ct := ⟨[.sc kB, .agg [kU, kU]], [.sc .bool, .sc kI, .agg [kU, kU]]⟩
def t_format_Split : Tr' SV :=
 (.call 41 [(.var kB 0)] 3 3
 (.ite (.bin .eql .i64 (.var kI 3) (.lit 0))
 (.leaf (.tup [(.bool (.lit 0)), (.int .i64 (.lit 0)), (.agg [(.int .u64 (.lit 0)), (.int .u64 (.lit 0))])]))
 (.call 50 [(.var kB 0), (.var kU 1), (.var kU 2)] 6 2
 (.call 58 [(.var kU 6), (.var kU 7), (.bin .sub .i64 (.var kI 4) (.lit 1))] 8 2
 (.call 23 [(.var kU 1), (.var kU 2), (.bin .sub .i64 (.var kI 3) (.lit 1))] 10 1
 (.call 43 [(.var kU 8), (.var kU 9), (.bin .sub .i64 (.var kI 3) (.var kI 4))] 11 2
 (.call 43 [(.var kU 1), (.var kU 2), (.bin .sub .i64 (.var kI 4) (.lit 1))] 13 2
 (.leaf (.tup [(.bool (.var .bool 10)), (.int .i64 (.conv .i64 (.var kU 12))), (.agg [(.int .u64 (.var kU 13)), (.int .u64 (.var kU 14))])])))))))))
theorem x_format_Split : execF (ctx E3) 3000 21 (uns c_format_Split.a (varsAt 0 (kindsOf c_format_Split.a))) (kindsOf c_format_Split.a).length = t_format_Split := by kernel_rfl
def F_format_Split : List Int → List Int := treeF (phiE E3) c_format_Split t_format_Split
theorem e_format_Split : EntOK Tryz.prog gG ⟨21, c_format_Split, F_format_Split⟩ := ent_of (ctx_ok E3_ok) 3000 x_format_Split (by kernel_rfl)
def c_pack_put : Ct := ⟨[.sc kB, .sc .bool, .sc kI, .agg [kU, kU]], [.agg [kU, kU]]⟩
def t_pack_put : Tr' SV :=
 (.ite (.bin .eql .i64 (.var kI 2) (.lit 0))
 (.call 24 [(.var kB 0)] 5 1
 (.call 23 [(.var kU 3), (.var kU 4), (.bin .sub .i64 (.var kI 5) (.lit 1))] 6 1
 (.ite (.var .bool 6)
 (.call 16 [(.var kB 0), (.var .bool 1), (.lit 1), (.var kU 3), (.var kU 4)] 7 2
 (.leaf (.agg [(.int .u64 (.var kU 7)), (.int .u64 (.var kU 8))])))
 (.call 16 [(.var kB 0), (.var .bool 1), (.var kI 2), (.var kU 3), (.var kU 4)] 7 2
 (.leaf (.agg [(.int .u64 (.var kU 7)), (.int .u64 (.var kU 8))]))))))
 (.call 16 [(.var kB 0), (.var .bool 1), (.var kI 2), (.var kU 3), (.var kU 4)] 5 2
 (.leaf (.agg [(.int .u64 (.var kU 5)), (.int .u64 (.var kU 6))]))))
theorem x_pack_put : execF (ctx E3) 3000 80 (uns c_pack_put.a (varsAt 0 (kindsOf c_pack_put.a))) (kindsOf c_pack_put.a).length = t_pack_put := by kernel_rfl
def F_pack_put : List Int → List Int := treeF (phiE E3) c_pack_put t_pack_put
theorem e_pack_put : EntOK Tryz.prog gG ⟨80, c_pack_put, F_pack_put⟩ := ent_of (ctx_ok E3_ok) 3000 x_pack_put (by kernel_rfl)
def c_nan_Default : Ct := ⟨[.sc kB], [.agg [kU, kU]]⟩
def t_nan_Default : Tr' SV :=
 (.call 17 [(.var kB 0)] 1 1
 (.call 24 [(.var kB 0)] 2 1
 (.call 42 [(.lit 0), (.lit 1), (.bin .sub .i64 (.var kI 2) (.lit 2))] 3 2
 (.call 16 [(.var kB 0), (.lit 0), (.bin .add .i64 (.bin .mul .i64 (.lit 2) (.var kI 1)) (.lit 1)), (.var kU 3), (.var kU 4)] 5 2
 (.leaf (.agg [(.int .u64 (.var kU 5)), (.int .u64 (.var kU 6))]))))))
theorem x_nan_Default : execF (ctx E3) 3000 65 (uns c_nan_Default.a (varsAt 0 (kindsOf c_nan_Default.a))) (kindsOf c_nan_Default.a).length = t_nan_Default := by kernel_rfl
def F_nan_Default : List Int → List Int := treeF (phiE E3) c_nan_Default t_nan_Default
theorem e_nan_Default : EntOK Tryz.prog gG ⟨65, c_nan_Default, F_nan_Default⟩ := ent_of (ctx_ok E3_ok) 3000 x_nan_Default (by kernel_rfl)
def c_round_Cut : Ct := ⟨[.agg [kU, kU, kU, kU], .sc kI, .sc kB, .sc .bool], [.agg [kU, kU], .sc .bool]⟩
def t_round_Cut : Tr' SV :=
 (.ite (.bin .lss .i64 (.var kI 4) (.lit 0))
 (.leaf (.tup [(.agg [(.int .u64 (.lit 0)), (.int .u64 (.lit 0))]), (.bool (.lit 0))]))
 (.ite (.bin .gtr .i64 (.var kI 4) (.lit 127))
 (.leaf (.tup [(.agg [(.int .u64 (.lit 0)), (.int .u64 (.lit 0))]), (.bool (.lit 0))]))
 (.ite (.not (.bin .leq .u8 (.var kB 5) (.lit 4)))
 (.leaf (.tup [(.agg [(.int .u64 (.lit 0)), (.int .u64 (.lit 0))]), (.bool (.lit 0))]))
 (.call 31 [(.var kU 0), (.var kU 1), (.var kU 2), (.var kU 3), (.bin .sub .i64 (.lit 256) (.var kI 4))] 7 4
 (.call 107 [(.var kU 7), (.var kU 8), (.var kU 9), (.var kU 10)] 11 2
 (.call 110 [(.var kU 0), (.var kU 1), (.var kU 2), (.var kU 3), (.var kI 4)] 13 1
 (.call 111 [(.var kB 5), (.var .bool 6), (.bin .eql .u64 (.bin .and .u64 (.var kU 12) (.lit 1)) (.lit 1)), (.var kB 13)] 14 1
 (.ite (.var .bool 14)
 (.call 9 [(.var kU 11), (.var kU 12), (.lit 0), (.lit 1)] 15 3
 (.leaf (.tup [(.agg [(.int .u64 (.var kU 15)), (.int .u64 (.var kU 16))]), (.bool (.bin .neq .u8 (.var kB 13) (.lit 0)))])))
 (.leaf (.tup [(.agg [(.int .u64 (.var kU 11)), (.int .u64 (.var kU 12))]), (.bool (.bin .neq .u8 (.var kB 13) (.lit 0)))]))))))))))
theorem x_round_Cut : execF (ctx E3) 3000 75 (uns c_round_Cut.a (varsAt 0 (kindsOf c_round_Cut.a))) (kindsOf c_round_Cut.a).length = t_round_Cut := by kernel_rfl
def F_round_Cut : List Int → List Int := treeF (phiE E3) c_round_Cut t_round_Cut
theorem e_round_Cut : EntOK Tryz.prog gG ⟨75, c_round_Cut, F_round_Cut⟩ := ent_of (ctx_ok E3_ok) 3000 x_round_Cut (by kernel_rfl)
def E4 : List Ent := ⟨15, c_format_Nought, F_format_Nought⟩ :: ⟨29, c_format_Inf, F_format_Inf⟩ :: ⟨113, c_format_Max, F_format_Max⟩ :: ⟨21, c_format_Split, F_format_Split⟩ :: ⟨80, c_pack_put, F_pack_put⟩ :: ⟨65, c_nan_Default, F_nan_Default⟩ :: ⟨75, c_round_Cut, F_round_Cut⟩ :: E3
theorem E4_ok : ∀ e ∈ E4, EntOK Tryz.prog gG e := List.forall_mem_cons.2 ⟨e_format_Nought, List.forall_mem_cons.2 ⟨e_format_Inf, List.forall_mem_cons.2 ⟨e_format_Max, List.forall_mem_cons.2 ⟨e_format_Split, List.forall_mem_cons.2 ⟨e_pack_put, List.forall_mem_cons.2 ⟨e_nan_Default, List.forall_mem_cons.2 ⟨e_round_Cut, E3_ok⟩⟩⟩⟩⟩⟩⟩
theorem ph_E3_format_Make : phiE E3 16 = F_format_Make := phiE_hit (e := ⟨16, _, F_format_Make⟩) rfl
theorem ph_E3_format_Emax : phiE E3 17 = F_format_Emax := phiE_hit (e := ⟨17, _, F_format_Emax⟩) rfl
theorem ph_E3_format_of : phiE E3 41 = F_format_of := phiE_hit (e := ⟨41, _, F_format_of⟩) rfl
theorem ph_E3_format_Cut : phiE E3 50 = F_format_Cut := phiE_hit (e := ⟨50, _, F_format_Cut⟩) rfl
theorem ph_E3_shift_Right : phiE E3 58 = F_shift_Right := phiE_hit (e := ⟨58, _, F_shift_Right⟩) rfl
theorem ph_E3_word_Bit : phiE E3 23 = F_word_Bit := phiE_hit (e := ⟨23, _, F_word_Bit⟩) rfl
theorem ph_E3_format_low : phiE E3 43 = F_format_low := phiE_hit (e := ⟨43, _, F_format_low⟩) rfl
theorem ph_E3_format_Prec : phiE E3 24 = F_format_Prec := phiE_hit (e := ⟨24, _, F_format_Prec⟩) rfl
theorem ph_E3_shift_Left : phiE E3 42 = F_shift_Left := phiE_hit (e := ⟨42, _, F_shift_Left⟩) rfl
theorem ph_E3_shift_WideRight : phiE E3 31 = F_shift_WideRight := phiE_hit (e := ⟨31, _, F_shift_WideRight⟩) rfl
theorem ph_E3_wide_Low : phiE E3 107 = F_wide_Low := phiE_hit (e := ⟨107, _, F_wide_Low⟩) rfl
theorem ph_E3_round_Rest : phiE E3 110 = F_round_Rest := phiE_hit (e := ⟨110, _, F_round_Rest⟩) rfl
theorem ph_E3_mode_Next : phiE E3 111 = fNext := phiE_hit (e := ⟨111, _, fNext⟩) rfl
theorem ph_E3_word_Add : phiE E3 9 = F_word_Add := phiE_hit (e := ⟨9, _, F_word_Add⟩) rfl
end Go.Proofs.YtkfbdlidigmfbaaGreatDoor
namespace Go.Proofs.YtkfbdlidigmfbaaGreatDoor
set_option linter.unusedVariables false
set_option maxRecDepth 100000
open Go.RowKit
def c_class_Of : Ct := ⟨[.sc kB, .agg [kU, kU]], [.sc kB, .sc .bool]⟩
def t_class_Of : Tr' SV :=
 (.ite (.not (.bin .lss .i64 (.var kB 0) (.lit 4)))
 (.leaf (.tup [(.int .u8 (.lit 0)), (.bool (.lit 0))]))
 (.call 21 [(.var kB 0), (.var kU 1), (.var kU 2)] 3 4
 (.call 22 [(.var kU 5), (.var kU 6)] 7 1
 (.call 17 [(.var kB 0)] 8 1
 (.ite (.bin .eql .i64 (.var kI 4) (.lit 0))
 (.ite (.var .bool 7)
 (.leaf (.tup [(.int .u8 (.lit 0)), (.bool (.var .bool 3))]))
 (.leaf (.tup [(.int .u8 (.lit 1)), (.bool (.var .bool 3))])))
 (.ite (.bin .lss .i64 (.var kI 4) (.bin .add .i64 (.bin .mul .i64 (.lit 2) (.var kI 8)) (.lit 1)))
 (.leaf (.tup [(.int .u8 (.lit 2)), (.bool (.var .bool 3))]))
 (.ite (.var .bool 7)
 (.leaf (.tup [(.int .u8 (.lit 3)), (.bool (.var .bool 3))]))
 (.call 24 [(.var kB 0)] 9 1
 (.call 23 [(.var kU 5), (.var kU 6), (.bin .sub .i64 (.var kI 9) (.lit 2))] 10 1
 (.ite (.var .bool 10)
 (.leaf (.tup [(.int .u8 (.lit 4)), (.bool (.var .bool 3))]))
 (.leaf (.tup [(.int .u8 (.lit 5)), (.bool (.var .bool 3))]))))))))))))
theorem x_class_Of : execF (ctx E4) 3000 6 (uns c_class_Of.a (varsAt 0 (kindsOf c_class_Of.a))) (kindsOf c_class_Of.a).length = t_class_Of := by kernel_rfl
def F_class_Of : List Int → List Int := treeF (phiE E4) c_class_Of t_class_Of
theorem e_class_Of : EntOK Tryz.prog gG ⟨6, c_class_Of, F_class_Of⟩ := ent_of (ctx_ok E4_ok) 3000 x_class_Of (by kernel_rfl)
def c_over_Over : Ct := ⟨[.sc kB, .sc kB, .sc .bool], [.agg [kU, kU, kB]]⟩
def t_over_Over : Tr' SV :=
 (.ite (.not (.bin .lss .i64 (.var kB 0) (.lit 4)))
 (.leaf (.agg [(.int .u64 (.lit 0)), (.int .u64 (.lit 0)), (.int .u8 (.lit 0))]))
 (.ite (.not (.bin .leq .u8 (.var kB 1) (.lit 4)))
 (.leaf (.agg [(.int .u64 (.lit 0)), (.int .u64 (.lit 0)), (.int .u8 (.lit 0))]))
 (.call 115 [(.var kB 1), (.var .bool 2)] 3 1
 (.ite (.var .bool 3)
 (.call 29 [(.var kB 0), (.var .bool 2)] 4 2
 (.leaf (.agg [(.int .u64 (.var kU 4)), (.int .u64 (.var kU 5)), (.int .u8 (.lit 20))])))
 (.call 113 [(.var kB 0), (.var .bool 2)] 4 2
 (.leaf (.agg [(.int .u64 (.var kU 4)), (.int .u64 (.var kU 5)), (.int .u8 (.lit 20))])))))))
theorem x_over_Over : execF (ctx E4) 3000 78 (uns c_over_Over.a (varsAt 0 (kindsOf c_over_Over.a))) (kindsOf c_over_Over.a).length = t_over_Over := by kernel_rfl
def F_over_Over : List Int → List Int := treeF (phiE E4) c_over_Over t_over_Over
theorem e_over_Over : EntOK Tryz.prog gG ⟨78, c_over_Over, F_over_Over⟩ := ent_of (ctx_ok E4_ok) 3000 x_over_Over (by kernel_rfl)
def c_addsub_Turn : Ct := ⟨[.sc kB, .agg [kU, kU]], [.agg [kU, kU]]⟩
def t_addsub_Turn : Tr' SV :=
 (.call 21 [(.var kB 0), (.var kU 1), (.var kU 2)] 3 4
 (.call 16 [(.var kB 0), (.not (.var .bool 3)), (.var kI 4), (.var kU 5), (.var kU 6)] 7 2
 (.leaf (.agg [(.int .u64 (.var kU 7)), (.int .u64 (.var kU 8))]))))
theorem x_addsub_Turn : execF (ctx E4) 3000 81 (uns c_addsub_Turn.a (varsAt 0 (kindsOf c_addsub_Turn.a))) (kindsOf c_addsub_Turn.a).length = t_addsub_Turn := by kernel_rfl
def F_addsub_Turn : List Int → List Int := treeF (phiE E4) c_addsub_Turn t_addsub_Turn
theorem e_addsub_Turn : EntOK Tryz.prog gG ⟨81, c_addsub_Turn, F_addsub_Turn⟩ := ent_of (ctx_ok E4_ok) 3000 x_addsub_Turn (by kernel_rfl)
def E5 : List Ent := ⟨6, c_class_Of, F_class_Of⟩ :: ⟨78, c_over_Over, F_over_Over⟩ :: ⟨81, c_addsub_Turn, F_addsub_Turn⟩ :: E4
theorem E5_ok : ∀ e ∈ E5, EntOK Tryz.prog gG e := List.forall_mem_cons.2 ⟨e_class_Of, List.forall_mem_cons.2 ⟨e_over_Over, List.forall_mem_cons.2 ⟨e_addsub_Turn, E4_ok⟩⟩⟩
theorem ph_E4_format_Split : phiE E4 21 = F_format_Split := phiE_hit (e := ⟨21, _, F_format_Split⟩) rfl
theorem ph_E4_word_Zero : phiE E4 22 = F_word_Zero := phiE_hit (e := ⟨22, _, F_word_Zero⟩) rfl
theorem ph_E4_format_Emax : phiE E4 17 = F_format_Emax := phiE_hit (e := ⟨17, _, F_format_Emax⟩) rfl
theorem ph_E4_format_Prec : phiE E4 24 = F_format_Prec := phiE_hit (e := ⟨24, _, F_format_Prec⟩) rfl
theorem ph_E4_word_Bit : phiE E4 23 = F_word_Bit := phiE_hit (e := ⟨23, _, F_word_Bit⟩) rfl
theorem ph_E4_mode_Infinite : phiE E4 115 = F_mode_Infinite := phiE_hit (e := ⟨115, _, F_mode_Infinite⟩) rfl
theorem ph_E4_format_Inf : phiE E4 29 = F_format_Inf := phiE_hit (e := ⟨29, _, F_format_Inf⟩) rfl
theorem ph_E4_format_Max : phiE E4 113 = F_format_Max := phiE_hit (e := ⟨113, _, F_format_Max⟩) rfl
end Go.Proofs.YtkfbdlidigmfbaaGreatDoor
namespace Go.Proofs.YtkfbdlidigmfbaaGreatDoor
set_option linter.unusedVariables false
set_option maxRecDepth 100000
open Go.RowKit
def c_class_NaN : Ct := ⟨[.sc kB, .agg [kU, kU]], [.sc .bool]⟩
def t_class_NaN : Tr' SV :=
 (.call 6 [(.var kB 0), (.var kU 1), (.var kU 2)] 3 2
 (.leaf (.bool (.bin .geq .u8 (.var kB 3) (.lit 4)))))
theorem x_class_NaN : execF (ctx E5) 3000 49 (uns c_class_NaN.a (varsAt 0 (kindsOf c_class_NaN.a))) (kindsOf c_class_NaN.a).length = t_class_NaN := by kernel_rfl
def F_class_NaN : List Int → List Int := treeF (phiE E5) c_class_NaN t_class_NaN
theorem e_class_NaN : EntOK Tryz.prog gG ⟨49, c_class_NaN, F_class_NaN⟩ := ent_of (ctx_ok E5_ok) 3000 x_class_NaN (by kernel_rfl)
def c_fields_Unpack : Ct := ⟨[.sc kB, .agg [kU, kU]], [.agg [.bool, kB, kI, kU, kU]]⟩
def t_fields_Unpack : Tr' SV :=
 (.call 6 [(.var kB 0), (.var kU 1), (.var kU 2)] 3 2
 (.call 24 [(.var kB 0)] 5 1
 (.call 17 [(.var kB 0)] 6 1
 (.call 21 [(.var kB 0), (.var kU 1), (.var kU 2)] 7 4
 (.ite (.bin .eql .u8 (.var kB 3) (.lit 2))
 (.call 42 [(.var kU 9), (.var kU 10), (.bin .sub .i64 (.lit 128) (.var kI 5))] 11 2
 (.call 9 [(.var kU 11), (.var kU 12), (.lit 9223372036854775808), (.lit 0)] 13 3
 (.leaf (.agg [(.bool (.var .bool 4)), (.int .u8 (.var kB 3)), (.int .i64 (.bin .sub .i64 (.var kI 8) (.var kI 6))), (.int .u64 (.var kU 13)), (.int .u64 (.var kU 14))]))))
 (.ite (.bin .eql .u8 (.var kB 3) (.lit 1))
 (.call 61 [(.var kU 9), (.var kU 10)] 11 3
 (.leaf (.agg [(.bool (.var .bool 4)), (.int .u8 (.var kB 3)), (.int .i64 (.bin .sub .i64 (.bin .sub .i64 (.bin .add .i64 (.bin .sub .i64 (.lit 1) (.var kI 6)) (.lit 128)) (.var kI 5)) (.var kI 13))), (.int .u64 (.var kU 11)), (.int .u64 (.var kU 12))])))
 (.leaf (.agg [(.bool (.var .bool 4)), (.int .u8 (.var kB 3)), (.int .i64 (.lit 0)), (.int .u64 (.lit 0)), (.int .u64 (.lit 0))]))))))))
theorem x_fields_Unpack : execF (ctx E5) 3000 27 (uns c_fields_Unpack.a (varsAt 0 (kindsOf c_fields_Unpack.a))) (kindsOf c_fields_Unpack.a).length = t_fields_Unpack := by kernel_rfl
def F_fields_Unpack : List Int → List Int := treeF (phiE E5) c_fields_Unpack t_fields_Unpack
theorem e_fields_Unpack : EntOK Tryz.prog gG ⟨27, c_fields_Unpack, F_fields_Unpack⟩ := ent_of (ctx_ok E5_ok) 3000 x_fields_Unpack (by kernel_rfl)
def c_pack_Round : Ct := ⟨[.sc kB, .agg [kB, .bool], .sc .bool, .sc kI, .agg [kU, kU, kU, kU]], [.agg [kU, kU, kB]]⟩
def t_pack_Round : Tr' SV :=
 (.ite (.not (.bin .lss .i64 (.var kB 0) (.lit 4)))
 (.leaf (.agg [(.int .u64 (.lit 0)), (.int .u64 (.lit 0)), (.int .u8 (.lit 0))]))
 (.ite (.not (.bin .leq .u8 (.var kB 1) (.lit 4)))
 (.leaf (.agg [(.int .u64 (.lit 0)), (.int .u64 (.lit 0)), (.int .u8 (.lit 0))]))
 (.call 57 [(.var kU 5), (.var kU 6), (.var kU 7), (.var kU 8)] 9 1
 (.ite (.var .bool 9)
 (.call 15 [(.var kB 0), (.var .bool 3)] 10 2
 (.leaf (.agg [(.int .u64 (.var kU 10)), (.int .u64 (.var kU 11)), (.int .u8 (.lit 0))])))
 (.call 109 [(.var kU 5), (.var kU 6), (.var kU 7), (.var kU 8)] 10 5
 (.call 24 [(.var kB 0)] 15 1
 (.call 17 [(.var kB 0)] 16 1
 (.call 75 [(.var kU 10), (.var kU 11), (.var kU 12), (.var kU 13), (.var kI 15), (.var kB 1), (.var .bool 3)] 17 3
 (.call 23 [(.var kU 17), (.var kU 18), (.var kI 15)] 20 1
 (.ite (.var .bool 20)
 (.call 77 [(.var kB 0), (.bin .add .i64 (.bin .sub .i64 (.max (.lit (-1099511627776)) (.min (.var kI 4) (.lit 1099511627776))) (.var kI 14)) (.lit 1))] 21 1
 (.ite (.var .bool 21)
 (.call 78 [(.var kB 0), (.var kB 1), (.var .bool 3)] 22 3
 (.leaf (.agg [(.int .u64 (.var kU 22)), (.int .u64 (.var kU 23)), (.int .u8 (.var kB 24))])))
 (.ite (.bin .lss .i64 (.bin .sub .i64 (.max (.lit (-1099511627776)) (.min (.var kI 4) (.lit 1099511627776))) (.var kI 14)) (.bin .sub .i64 (.lit 1) (.var kI 16)))
 (.ite (.not (.var .bool 2))
 (.call 79 [(.var kU 10), (.var kU 11), (.var kU 12), (.var kU 13), (.bin .sub .i64 (.bin .sub .i64 (.lit 1) (.var kI 16)) (.bin .sub .i64 (.max (.lit (-1099511627776)) (.min (.var kI 4) (.lit 1099511627776))) (.var kI 14)))] 22 4
 (.call 75 [(.var kU 22), (.var kU 23), (.var kU 24), (.var kU 25), (.var kI 15), (.var kB 1), (.var .bool 3)] 26 3
 (.call 80 [(.var kB 0), (.var .bool 3), (.lit 0), (.var kU 26), (.var kU 27)] 29 2
 (.ite (.var .bool 28)
 (.leaf (.agg [(.int .u64 (.var kU 29)), (.int .u64 (.var kU 30)), (.int .u8 (.lit 24))]))
 (.leaf (.agg [(.int .u64 (.var kU 29)), (.int .u64 (.var kU 30)), (.int .u8 (.lit 0))]))))))
 (.call 79 [(.var kU 10), (.var kU 11), (.var kU 12), (.var kU 13), (.bin .sub .i64 (.bin .sub .i64 (.lit 1) (.var kI 16)) (.bin .sub .i64 (.max (.lit (-1099511627776)) (.min (.var kI 4) (.lit 1099511627776))) (.var kI 14)))] 22 4
 (.call 75 [(.var kU 22), (.var kU 23), (.var kU 24), (.var kU 25), (.var kI 15), (.var kB 1), (.var .bool 3)] 26 3
 (.call 80 [(.var kB 0), (.var .bool 3), (.lit 0), (.var kU 26), (.var kU 27)] 29 2
 (.ite (.var .bool 28)
 (.ite (.bin .lss .i64 (.bin .add .i64 (.bin .sub .i64 (.max (.lit (-1099511627776)) (.min (.var kI 4) (.lit 1099511627776))) (.var kI 14)) (.lit 1)) (.bin .sub .i64 (.lit 1) (.var kI 16)))
 (.leaf (.agg [(.int .u64 (.var kU 29)), (.int .u64 (.var kU 30)), (.int .u8 (.lit 24))]))
 (.leaf (.agg [(.int .u64 (.var kU 29)), (.int .u64 (.var kU 30)), (.int .u8 (.lit 16))])))
 (.leaf (.agg [(.int .u64 (.var kU 29)), (.int .u64 (.var kU 30)), (.int .u8 (.lit 0))])))))))
 (.call 80 [(.var kB 0), (.var .bool 3), (.bin .add .i64 (.bin .sub .i64 (.bin .add .i64 (.bin .sub .i64 (.max (.lit (-1099511627776)) (.min (.var kI 4) (.lit 1099511627776))) (.var kI 14)) (.lit 1)) (.bin .sub .i64 (.lit 1) (.var kI 16))) (.lit 1)), (.var kU 17), (.var kU 18)] 22 2
 (.ite (.var .bool 19)
 (.leaf (.agg [(.int .u64 (.var kU 22)), (.int .u64 (.var kU 23)), (.int .u8 (.lit 16))]))
 (.leaf (.agg [(.int .u64 (.var kU 22)), (.int .u64 (.var kU 23)), (.int .u8 (.lit 0))])))))))
 (.call 77 [(.var kB 0), (.bin .sub .i64 (.max (.lit (-1099511627776)) (.min (.var kI 4) (.lit 1099511627776))) (.var kI 14))] 21 1
 (.ite (.var .bool 21)
 (.call 78 [(.var kB 0), (.var kB 1), (.var .bool 3)] 22 3
 (.leaf (.agg [(.int .u64 (.var kU 22)), (.int .u64 (.var kU 23)), (.int .u8 (.var kB 24))])))
 (.ite (.bin .lss .i64 (.bin .sub .i64 (.max (.lit (-1099511627776)) (.min (.var kI 4) (.lit 1099511627776))) (.var kI 14)) (.bin .sub .i64 (.lit 1) (.var kI 16)))
 (.ite (.not (.var .bool 2))
 (.call 79 [(.var kU 10), (.var kU 11), (.var kU 12), (.var kU 13), (.bin .sub .i64 (.bin .sub .i64 (.lit 1) (.var kI 16)) (.bin .sub .i64 (.max (.lit (-1099511627776)) (.min (.var kI 4) (.lit 1099511627776))) (.var kI 14)))] 22 4
 (.call 75 [(.var kU 22), (.var kU 23), (.var kU 24), (.var kU 25), (.var kI 15), (.var kB 1), (.var .bool 3)] 26 3
 (.call 80 [(.var kB 0), (.var .bool 3), (.lit 0), (.var kU 26), (.var kU 27)] 29 2
 (.ite (.var .bool 28)
 (.leaf (.agg [(.int .u64 (.var kU 29)), (.int .u64 (.var kU 30)), (.int .u8 (.lit 24))]))
 (.leaf (.agg [(.int .u64 (.var kU 29)), (.int .u64 (.var kU 30)), (.int .u8 (.lit 0))]))))))
 (.call 79 [(.var kU 10), (.var kU 11), (.var kU 12), (.var kU 13), (.bin .sub .i64 (.bin .sub .i64 (.lit 1) (.var kI 16)) (.bin .sub .i64 (.max (.lit (-1099511627776)) (.min (.var kI 4) (.lit 1099511627776))) (.var kI 14)))] 22 4
 (.call 75 [(.var kU 22), (.var kU 23), (.var kU 24), (.var kU 25), (.var kI 15), (.var kB 1), (.var .bool 3)] 26 3
 (.call 80 [(.var kB 0), (.var .bool 3), (.lit 0), (.var kU 26), (.var kU 27)] 29 2
 (.ite (.var .bool 28)
 (.leaf (.agg [(.int .u64 (.var kU 29)), (.int .u64 (.var kU 30)), (.int .u8 (.lit 24))]))
 (.leaf (.agg [(.int .u64 (.var kU 29)), (.int .u64 (.var kU 30)), (.int .u8 (.lit 0))])))))))
 (.call 80 [(.var kB 0), (.var .bool 3), (.bin .add .i64 (.bin .sub .i64 (.bin .sub .i64 (.max (.lit (-1099511627776)) (.min (.var kI 4) (.lit 1099511627776))) (.var kI 14)) (.bin .sub .i64 (.lit 1) (.var kI 16))) (.lit 1)), (.var kU 17), (.var kU 18)] 22 2
 (.ite (.var .bool 19)
 (.leaf (.agg [(.int .u64 (.var kU 22)), (.int .u64 (.var kU 23)), (.int .u8 (.lit 16))]))
 (.leaf (.agg [(.int .u64 (.var kU 22)), (.int .u64 (.var kU 23)), (.int .u8 (.lit 0))])))))))))))))))))
theorem x_pack_Round : execF (ctx E5) 3000 35 (uns c_pack_Round.a (varsAt 0 (kindsOf c_pack_Round.a))) (kindsOf c_pack_Round.a).length = t_pack_Round := by kernel_rfl
def F_pack_Round : List Int → List Int := treeF (phiE E5) c_pack_Round t_pack_Round
theorem e_pack_Round : EntOK Tryz.prog gG ⟨35, c_pack_Round, F_pack_Round⟩ := ent_of (ctx_ok E5_ok) 3000 x_pack_Round (by kernel_rfl)
def c_class_Signaling : Ct := ⟨[.sc kB, .agg [kU, kU]], [.sc .bool]⟩
def t_class_Signaling : Tr' SV :=
 (.call 6 [(.var kB 0), (.var kU 1), (.var kU 2)] 3 2
 (.leaf (.bool (.bin .eql .u8 (.var kB 3) (.lit 5)))))
theorem x_class_Signaling : execF (ctx E5) 3000 67 (uns c_class_Signaling.a (varsAt 0 (kindsOf c_class_Signaling.a))) (kindsOf c_class_Signaling.a).length = t_class_Signaling := by kernel_rfl
def F_class_Signaling : List Int → List Int := treeF (phiE E5) c_class_Signaling t_class_Signaling
theorem e_class_Signaling : EntOK Tryz.prog gG ⟨67, c_class_Signaling, F_class_Signaling⟩ := ent_of (ctx_ok E5_ok) 3000 x_class_Signaling (by kernel_rfl)
def E6 : List Ent := ⟨49, c_class_NaN, F_class_NaN⟩ :: ⟨27, c_fields_Unpack, F_fields_Unpack⟩ :: ⟨35, c_pack_Round, F_pack_Round⟩ :: ⟨67, c_class_Signaling, F_class_Signaling⟩ :: E5
theorem E6_ok : ∀ e ∈ E6, EntOK Tryz.prog gG e := List.forall_mem_cons.2 ⟨e_class_NaN, List.forall_mem_cons.2 ⟨e_fields_Unpack, List.forall_mem_cons.2 ⟨e_pack_Round, List.forall_mem_cons.2 ⟨e_class_Signaling, E5_ok⟩⟩⟩⟩
theorem ph_E5_class_Of : phiE E5 6 = F_class_Of := phiE_hit (e := ⟨6, _, F_class_Of⟩) rfl
theorem ph_E5_format_Prec : phiE E5 24 = F_format_Prec := phiE_hit (e := ⟨24, _, F_format_Prec⟩) rfl
theorem ph_E5_format_Emax : phiE E5 17 = F_format_Emax := phiE_hit (e := ⟨17, _, F_format_Emax⟩) rfl
theorem ph_E5_format_Split : phiE E5 21 = F_format_Split := phiE_hit (e := ⟨21, _, F_format_Split⟩) rfl
theorem ph_E5_shift_Left : phiE E5 42 = F_shift_Left := phiE_hit (e := ⟨42, _, F_shift_Left⟩) rfl
theorem ph_E5_word_Add : phiE E5 9 = F_word_Add := phiE_hit (e := ⟨9, _, F_word_Add⟩) rfl
theorem ph_E5_count_Raise : phiE E5 61 = F_count_Raise := phiE_hit (e := ⟨61, _, F_count_Raise⟩) rfl
theorem ph_E5_wide_Zero : phiE E5 57 = F_wide_Zero := phiE_hit (e := ⟨57, _, F_wide_Zero⟩) rfl
theorem ph_E5_format_Nought : phiE E5 15 = F_format_Nought := phiE_hit (e := ⟨15, _, F_format_Nought⟩) rfl
theorem ph_E5_count_WideRaise : phiE E5 109 = F_count_WideRaise := phiE_hit (e := ⟨109, _, F_count_WideRaise⟩) rfl
theorem ph_E5_round_Cut : phiE E5 75 = F_round_Cut := phiE_hit (e := ⟨75, _, F_round_Cut⟩) rfl
theorem ph_E5_word_Bit : phiE E5 23 = F_word_Bit := phiE_hit (e := ⟨23, _, F_word_Bit⟩) rfl
theorem ph_E5_over_Beyond : phiE E5 77 = F_over_Beyond := phiE_hit (e := ⟨77, _, F_over_Beyond⟩) rfl
theorem ph_E5_over_Over : phiE E5 78 = F_over_Over := phiE_hit (e := ⟨78, _, F_over_Over⟩) rfl
theorem ph_E5_shift_WideJam : phiE E5 79 = F_shift_WideJam := phiE_hit (e := ⟨79, _, F_shift_WideJam⟩) rfl
theorem ph_E5_pack_put : phiE E5 80 = F_pack_put := phiE_hit (e := ⟨80, _, F_pack_put⟩) rfl
end Go.Proofs.YtkfbdlidigmfbaaGreatDoor
namespace Go.Proofs.YtkfbdlidigmfbaaGreatDoor
set_option linter.unusedVariables false
set_option maxRecDepth 100000
open Go.RowKit
def c_nan_Quiet : Ct := ⟨[.sc kB, .agg [kU, kU]], [.agg [kU, kU]]⟩
def t_nan_Quiet : Tr' SV :=
 (.call 50 [(.var kB 0), (.var kU 1), (.var kU 2)] 3 2
 (.call 49 [(.var kB 0), (.var kU 3), (.var kU 4)] 5 1
 (.ite (.var .bool 5)
 (.call 24 [(.var kB 0)] 6 1
 (.call 42 [(.lit 0), (.lit 1), (.bin .sub .i64 (.var kI 6) (.lit 2))] 7 2
 (.leaf (.agg [(.int .u64 (.bin .or .u64 (.var kU 3) (.var kU 7))), (.int .u64 (.bin .or .u64 (.var kU 4) (.var kU 8)))]))))
 (.leaf (.agg [(.int .u64 (.var kU 3)), (.int .u64 (.var kU 4))])))))
theorem x_nan_Quiet : execF (ctx E6) 3000 66 (uns c_nan_Quiet.a (varsAt 0 (kindsOf c_nan_Quiet.a))) (kindsOf c_nan_Quiet.a).length = t_nan_Quiet := by kernel_rfl
def F_nan_Quiet : List Int → List Int := treeF (phiE E6) c_nan_Quiet t_nan_Quiet
theorem e_nan_Quiet : EntOK Tryz.prog gG ⟨66, c_nan_Quiet, F_nan_Quiet⟩ := ent_of (ctx_ok E6_ok) 3000 x_nan_Quiet (by kernel_rfl)
def E7 : List Ent := ⟨66, c_nan_Quiet, F_nan_Quiet⟩ :: E6
theorem E7_ok : ∀ e ∈ E7, EntOK Tryz.prog gG e := List.forall_mem_cons.2 ⟨e_nan_Quiet, E6_ok⟩
theorem ph_E6_format_Cut : phiE E6 50 = F_format_Cut := phiE_hit (e := ⟨50, _, F_format_Cut⟩) rfl
theorem ph_E6_class_NaN : phiE E6 49 = F_class_NaN := phiE_hit (e := ⟨49, _, F_class_NaN⟩) rfl
theorem ph_E6_format_Prec : phiE E6 24 = F_format_Prec := phiE_hit (e := ⟨24, _, F_format_Prec⟩) rfl
theorem ph_E6_shift_Left : phiE E6 42 = F_shift_Left := phiE_hit (e := ⟨42, _, F_shift_Left⟩) rfl
end Go.Proofs.YtkfbdlidigmfbaaGreatDoor
namespace Go.Proofs.YtkfbdlidigmfbaaGreatDoor
set_option linter.unusedVariables false
set_option maxRecDepth 100000
open Go.RowKit
def c_mul_Mul : Ct := ⟨[.sc kB, .agg [kB, .bool], .agg [kU, kU], .agg [kU, kU]], [.agg [kU, kU, kB]]⟩
def t_mul_Mul : Tr' SV :=
 (.ite (.not (.bin .lss .i64 (.var kB 0) (.lit 4)))
 (.leaf (.agg [(.int .u64 (.lit 0)), (.int .u64 (.lit 0)), (.int .u8 (.lit 0))]))
 (.ite (.not (.bin .leq .u8 (.var kB 1) (.lit 4)))
 (.leaf (.agg [(.int .u64 (.lit 0)), (.int .u64 (.lit 0)), (.int .u8 (.lit 0))]))
 (.call 27 [(.var kB 0), (.var kU 3), (.var kU 4)] 7 5
 (.call 27 [(.var kB 0), (.var kU 5), (.var kU 6)] 12 5
 (.call 45 [(.var .bool 7), (.var kB 8), (.var kI 9), (.var kU 10), (.var kU 11), (.var .bool 12), (.var kB 13), (.var kI 14), (.var kU 15), (.var kU 16)] 17 1
 (.call 49 [(.var kB 0), (.var kU 3), (.var kU 4)] 18 1
 (.ite (.var .bool 18)
 (.call 65 [(.var kB 0)] 19 2
 (.call 66 [(.var kB 0), (.var kU 3), (.var kU 4)] 21 2
 (.ite (.var .bool 17)
 (.leaf (.agg [(.int .u64 (.var kU 21)), (.int .u64 (.var kU 22)), (.int .u8 (.lit 1))]))
 (.call 67 [(.var kB 0), (.var kU 3), (.var kU 4)] 23 1
 (.ite (.var .bool 23)
 (.leaf (.agg [(.int .u64 (.var kU 21)), (.int .u64 (.var kU 22)), (.int .u8 (.lit 1))]))
 (.call 67 [(.var kB 0), (.var kU 5), (.var kU 6)] 24 1
 (.ite (.var .bool 24)
 (.leaf (.agg [(.int .u64 (.var kU 21)), (.int .u64 (.var kU 22)), (.int .u8 (.lit 1))]))
 (.leaf (.agg [(.int .u64 (.var kU 21)), (.int .u64 (.var kU 22)), (.int .u8 (.lit 0))])))))))))
 (.call 49 [(.var kB 0), (.var kU 5), (.var kU 6)] 19 1
 (.ite (.var .bool 19)
 (.call 65 [(.var kB 0)] 20 2
 (.call 66 [(.var kB 0), (.var kU 5), (.var kU 6)] 22 2
 (.ite (.var .bool 17)
 (.leaf (.agg [(.int .u64 (.var kU 22)), (.int .u64 (.var kU 23)), (.int .u8 (.lit 1))]))
 (.call 67 [(.var kB 0), (.var kU 3), (.var kU 4)] 24 1
 (.ite (.var .bool 24)
 (.leaf (.agg [(.int .u64 (.var kU 22)), (.int .u64 (.var kU 23)), (.int .u8 (.lit 1))]))
 (.call 67 [(.var kB 0), (.var kU 5), (.var kU 6)] 25 1
 (.ite (.var .bool 25)
 (.leaf (.agg [(.int .u64 (.var kU 22)), (.int .u64 (.var kU 23)), (.int .u8 (.lit 1))]))
 (.leaf (.agg [(.int .u64 (.var kU 22)), (.int .u64 (.var kU 23)), (.int .u8 (.lit 0))])))))))))
 (.ite (.not (.var .bool 17))
 (.ite (.bin .geq .i64 (.ite (.bin .eql .u8 (.var kB 8) (.lit 3)) (.lit 0) (.ite (.bin .eql .u8 (.var kB 13) (.lit 3)) (.lit 1) (.lit (-1)))) (.lit 0))
 (.call 29 [(.var kB 0), (.not (.beq (.var .bool 7) (.var .bool 12)))] 20 2
 (.leaf (.agg [(.int .u64 (.var kU 20)), (.int .u64 (.var kU 21)), (.int .u8 (.lit 0))])))
 (.call 47 [(.var .bool 7), (.var kB 8), (.var kI 9), (.var kU 10), (.var kU 11), (.var .bool 12), (.var kB 13), (.var kI 14), (.var kU 15), (.var kU 16)] 20 5
 (.call 35 [(.var kB 0), (.var kB 1), (.var .bool 2), (.not (.beq (.var .bool 7) (.var .bool 12))), (.var kI 20), (.var kU 21), (.var kU 22), (.var kU 23), (.var kU 24)] 25 3
 (.leaf (.agg [(.int .u64 (.var kU 25)), (.int .u64 (.var kU 26)), (.int .u8 (.var kB 27))])))))
 (.call 65 [(.var kB 0)] 20 2
 (.leaf (.agg [(.int .u64 (.var kU 20)), (.int .u64 (.var kU 21)), (.int .u8 (.lit 1))])))))))))))))
theorem x_mul_Mul : execF (ctx E7) 3000 19 (uns c_mul_Mul.a (varsAt 0 (kindsOf c_mul_Mul.a))) (kindsOf c_mul_Mul.a).length = t_mul_Mul := by kernel_rfl
def F_mul_Mul : List Int → List Int := treeF (phiE E7) c_mul_Mul t_mul_Mul
theorem e_mul_Mul : EntOK Tryz.prog gG ⟨19, c_mul_Mul, F_mul_Mul⟩ := ent_of (ctx_ok E7_ok) 3000 x_mul_Mul (by kernel_rfl)
def E8 : List Ent := ⟨19, c_mul_Mul, F_mul_Mul⟩ :: E7
theorem E8_ok : ∀ e ∈ E8, EntOK Tryz.prog gG e := List.forall_mem_cons.2 ⟨e_mul_Mul, E7_ok⟩
theorem ph_E7_fields_Unpack : phiE E7 27 = F_fields_Unpack := phiE_hit (e := ⟨27, _, F_fields_Unpack⟩) rfl
theorem ph_E7_mul_Bad : phiE E7 45 = F_mul_Bad := phiE_hit (e := ⟨45, _, F_mul_Bad⟩) rfl
theorem ph_E7_class_NaN : phiE E7 49 = F_class_NaN := phiE_hit (e := ⟨49, _, F_class_NaN⟩) rfl
theorem ph_E7_nan_Default : phiE E7 65 = F_nan_Default := phiE_hit (e := ⟨65, _, F_nan_Default⟩) rfl
theorem ph_E7_nan_Quiet : phiE E7 66 = F_nan_Quiet := phiE_hit (e := ⟨66, _, F_nan_Quiet⟩) rfl
theorem ph_E7_class_Signaling : phiE E7 67 = F_class_Signaling := phiE_hit (e := ⟨67, _, F_class_Signaling⟩) rfl
theorem ph_E7_format_Inf : phiE E7 29 = F_format_Inf := phiE_hit (e := ⟨29, _, F_format_Inf⟩) rfl
theorem ph_E7_mul_Term : phiE E7 47 = F_mul_Term := phiE_hit (e := ⟨47, _, F_mul_Term⟩) rfl
theorem ph_E7_pack_Round : phiE E7 35 = F_pack_Round := phiE_hit (e := ⟨35, _, F_pack_Round⟩) rfl
end Go.Proofs.YtkfbdlidigmfbaaGreatDoor
namespace Go.Proofs.YtkfbdlidigmfbaaGreatDoor
set_option linter.unusedVariables false
set_option maxRecDepth 100000
open Go.RowKit
def E9 : List Ent := E8
theorem E9_ok : ∀ e ∈ E9, EntOK Tryz.prog gG e := E8_ok
end Go.Proofs.YtkfbdlidigmfbaaGreatDoor
namespace Go.Proofs.YtkfbdlidigmfbaaGreatDoor
set_option linter.unusedVariables false
set_option maxRecDepth 100000
open Go.RowKit
def E10 : List Ent := E9
theorem E10_ok : ∀ e ∈ E10, EntOK Tryz.prog gG e := E9_ok
end Go.Proofs.YtkfbdlidigmfbaaGreatDoor
