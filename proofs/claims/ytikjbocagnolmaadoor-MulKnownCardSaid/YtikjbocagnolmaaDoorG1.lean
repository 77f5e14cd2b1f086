/- Contracts of this seat's functions: their trees, made by a program (sxgen), and that the executor answers just these. -/
import Derived.Test.YtikjbocagnolmaaDoorSxC
namespace Go.Proofs.YtikjbocagnolmaaDoor
set_option linter.unusedVariables false
set_option maxRecDepth 100000
open Go.RowKit
def c_word_Zero : Ct := ⟨[.agg [kU, kU]], [.sc .bool]⟩
def t_word_Zero : Tr' SV :=
 (.leaf (.bool (.and (.bin .eql .u64 (.var kU 0) (.lit 0)) (.and (.bin .eql .u64 (.var kU 1) (.lit 0)) (.lit 1)))))
theorem x_word_Zero : execF (ctx E0) 3000 52 (uns c_word_Zero.a (varsAt 0 (kindsOf c_word_Zero.a))) (kindsOf c_word_Zero.a).length = t_word_Zero := by kernel_rfl
def F_word_Zero : List Int → List Int := treeF (phiE E0) c_word_Zero t_word_Zero
theorem e_word_Zero : EntOK Tryd.prog gG ⟨52, c_word_Zero, F_word_Zero⟩ := ent_of (ctx_ok E0_ok) 3000 x_word_Zero (by kernel_rfl)
def c_word_Bit : Ct := ⟨[.agg [kU, kU], .sc kI], [.sc .bool]⟩
def t_word_Bit : Tr' SV :=
 (.ite (.bin .lss .i64 (.var kI 2) (.lit 0))
 (.leaf (.bool (.lit 0)))
 (.ite (.bin .gtr .i64 (.var kI 2) (.lit 127))
 (.leaf (.bool (.lit 0)))
 (.ite (.bin .gtr .i64 (.var kI 2) (.lit 63))
 (.leaf (.bool (.bin .eql .u64 (.bin .and .u64 (.bin .shr .u64 (.var kU 0) (.bin .sub .i64 (.var kI 2) (.lit 64))) (.lit 1)) (.lit 1))))
 (.leaf (.bool (.bin .eql .u64 (.bin .and .u64 (.bin .shr .u64 (.var kU 1) (.var kI 2)) (.lit 1)) (.lit 1)))))))
theorem x_word_Bit : execF (ctx E0) 3000 53 (uns c_word_Bit.a (varsAt 0 (kindsOf c_word_Bit.a))) (kindsOf c_word_Bit.a).length = t_word_Bit := by kernel_rfl
def F_word_Bit : List Int → List Int := treeF (phiE E0) c_word_Bit t_word_Bit
theorem e_word_Bit : EntOK Tryd.prog gG ⟨53, c_word_Bit, F_word_Bit⟩ := ent_of (ctx_ok E0_ok) 3000 x_word_Bit (by kernel_rfl)
def c_word_Add : Ct := ⟨[.agg [kU, kU], .agg [kU, kU]], [.agg [kU, kU], .sc .bool]⟩
def t_word_Add : Tr' SV :=
 (.call 99 [(.var kU 1), (.var kU 3), (.lit 0)] 4 2
 (.call 99 [(.var kU 0), (.var kU 2), (.var .bit 5)] 6 2
 (.leaf (.tup [(.agg [(.int .u64 (.var kU 6)), (.int .u64 (.var kU 4))]), (.bool (.bin .neq .u64 (.var .bit 7) (.lit 0)))]))))
theorem x_word_Add : execF (ctx E0) 3000 65 (uns c_word_Add.a (varsAt 0 (kindsOf c_word_Add.a))) (kindsOf c_word_Add.a).length = t_word_Add := by kernel_rfl
def F_word_Add : List Int → List Int := treeF (phiE E0) c_word_Add t_word_Add
theorem e_word_Add : EntOK Tryd.prog gG ⟨65, c_word_Add, F_word_Add⟩ := ent_of (ctx_ok E0_ok) 3000 x_word_Add (by kernel_rfl)
def c_word_Sub : Ct := ⟨[.agg [kU, kU], .agg [kU, kU]], [.agg [kU, kU], .sc .bool]⟩
def t_word_Sub : Tr' SV :=
 (.call 128 [(.var kU 1), (.var kU 3), (.lit 0)] 4 2
 (.call 128 [(.var kU 0), (.var kU 2), (.var .bit 5)] 6 2
 (.leaf (.tup [(.agg [(.int .u64 (.var kU 6)), (.int .u64 (.var kU 4))]), (.bool (.bin .neq .u64 (.var .bit 7) (.lit 0)))]))))
theorem x_word_Sub : execF (ctx E0) 3000 120 (uns c_word_Sub.a (varsAt 0 (kindsOf c_word_Sub.a))) (kindsOf c_word_Sub.a).length = t_word_Sub := by kernel_rfl
def F_word_Sub : List Int → List Int := treeF (phiE E0) c_word_Sub t_word_Sub
theorem e_word_Sub : EntOK Tryd.prog gG ⟨120, c_word_Sub, F_word_Sub⟩ := ent_of (ctx_ok E0_ok) 3000 x_word_Sub (by kernel_rfl)
def c_word_Mul : Ct := ⟨[.sc kU, .sc kU], [.agg [kU, kU]]⟩
def t_word_Mul : Tr' SV :=
 (.call 117 [(.var kU 0), (.var kU 1)] 2 2
 (.leaf (.agg [(.int .u64 (.var kU 2)), (.int .u64 (.var kU 3))])))
theorem x_word_Mul : execF (ctx E0) 3000 90 (uns c_word_Mul.a (varsAt 0 (kindsOf c_word_Mul.a))) (kindsOf c_word_Mul.a).length = t_word_Mul := by kernel_rfl
def F_word_Mul : List Int → List Int := treeF (phiE E0) c_word_Mul t_word_Mul
theorem e_word_Mul : EntOK Tryd.prog gG ⟨90, c_word_Mul, F_word_Mul⟩ := ent_of (ctx_ok E0_ok) 3000 x_word_Mul (by kernel_rfl)
def c_wide_Join : Ct := ⟨[.agg [kU, kU], .agg [kU, kU]], [.agg [kU, kU, kU, kU]]⟩
def t_wide_Join : Tr' SV :=
 (.leaf (.agg [(.int .u64 (.var kU 3)), (.int .u64 (.var kU 2)), (.int .u64 (.var kU 1)), (.int .u64 (.var kU 0))]))
theorem x_wide_Join : execF (ctx E0) 3000 48 (uns c_wide_Join.a (varsAt 0 (kindsOf c_wide_Join.a))) (kindsOf c_wide_Join.a).length = t_wide_Join := by kernel_rfl
def F_wide_Join : List Int → List Int := treeF (phiE E0) c_wide_Join t_wide_Join
theorem e_wide_Join : EntOK Tryd.prog gG ⟨48, c_wide_Join, F_wide_Join⟩ := ent_of (ctx_ok E0_ok) 3000 x_wide_Join (by kernel_rfl)
def c_wide_Of : Ct := ⟨[.agg [kU, kU]], [.agg [kU, kU, kU, kU]]⟩
def t_wide_Of : Tr' SV :=
 (.leaf (.agg [(.int .u64 (.var kU 1)), (.int .u64 (.var kU 0)), (.int .u64 (.lit 0)), (.int .u64 (.lit 0))]))
theorem x_wide_Of : execF (ctx E0) 3000 102 (uns c_wide_Of.a (varsAt 0 (kindsOf c_wide_Of.a))) (kindsOf c_wide_Of.a).length = t_wide_Of := by kernel_rfl
def F_wide_Of : List Int → List Int := treeF (phiE E0) c_wide_Of t_wide_Of
theorem e_wide_Of : EntOK Tryd.prog gG ⟨102, c_wide_Of, F_wide_Of⟩ := ent_of (ctx_ok E0_ok) 3000 x_wide_Of (by kernel_rfl)
def c_wide_High : Ct := ⟨[.agg [kU, kU, kU, kU]], [.agg [kU, kU]]⟩
def t_wide_High : Tr' SV :=
 (.leaf (.agg [(.int .u64 (.var kU 3)), (.int .u64 (.var kU 2))]))
theorem x_wide_High : execF (ctx E0) 3000 106 (uns c_wide_High.a (varsAt 0 (kindsOf c_wide_High.a))) (kindsOf c_wide_High.a).length = t_wide_High := by kernel_rfl
def F_wide_High : List Int → List Int := treeF (phiE E0) c_wide_High t_wide_High
theorem e_wide_High : EntOK Tryd.prog gG ⟨106, c_wide_High, F_wide_High⟩ := ent_of (ctx_ok E0_ok) 3000 x_wide_High (by kernel_rfl)
def c_wide_Low : Ct := ⟨[.agg [kU, kU, kU, kU]], [.agg [kU, kU]]⟩
def t_wide_Low : Tr' SV :=
 (.leaf (.agg [(.int .u64 (.var kU 1)), (.int .u64 (.var kU 0))]))
theorem x_wide_Low : execF (ctx E0) 3000 108 (uns c_wide_Low.a (varsAt 0 (kindsOf c_wide_Low.a))) (kindsOf c_wide_Low.a).length = t_wide_Low := by kernel_rfl
def F_wide_Low : List Int → List Int := treeF (phiE E0) c_wide_Low t_wide_Low
theorem e_wide_Low : EntOK Tryd.prog gG ⟨108, c_wide_Low, F_wide_Low⟩ := ent_of (ctx_ok E0_ok) 3000 x_wide_Low (by kernel_rfl)
def c_wide_Zero : Ct := ⟨[.agg [kU, kU, kU, kU]], [.sc .bool]⟩
def t_wide_Zero : Tr' SV :=
 (.leaf (.bool (.and (.bin .eql .u64 (.var kU 0) (.lit 0)) (.and (.bin .eql .u64 (.var kU 1) (.lit 0)) (.and (.bin .eql .u64 (.var kU 2) (.lit 0)) (.and (.bin .eql .u64 (.var kU 3) (.lit 0)) (.lit 1)))))))
theorem x_wide_Zero : execF (ctx E0) 3000 71 (uns c_wide_Zero.a (varsAt 0 (kindsOf c_wide_Zero.a))) (kindsOf c_wide_Zero.a).length = t_wide_Zero := by kernel_rfl
def F_wide_Zero : List Int → List Int := treeF (phiE E0) c_wide_Zero t_wide_Zero
theorem e_wide_Zero : EntOK Tryd.prog gG ⟨71, c_wide_Zero, F_wide_Zero⟩ := ent_of (ctx_ok E0_ok) 3000 x_wide_Zero (by kernel_rfl)
def c_shift_Left : Ct := ⟨[.agg [kU, kU], .sc kI], [.agg [kU, kU]]⟩
def t_shift_Left : Tr' SV :=
 (.leaf (.agg [(.int .u64 (.bin .or .u64 (.bin .shl .u64 (.ite (.bin .lss .i64 (.bin .sub .i64 (.lit 1) (.bin .shr .i64 (.max (.lit (-128)) (.min (.max (.var kI 2) (.lit 0)) (.lit 128))) (.lit 6))) (.lit 0)) (.lit 0) (.ite (.bin .eql .i64 (.bin .sub .i64 (.lit 1) (.bin .shr .i64 (.max (.lit (-128)) (.min (.max (.var kI 2) (.lit 0)) (.lit 128))) (.lit 6))) (.lit 0)) (.var kU 1) (.var kU 0))) (.conv .u64 (.bin .and .i64 (.max (.lit (-128)) (.min (.max (.var kI 2) (.lit 0)) (.lit 128))) (.lit 63)))) (.bin .shr .u64 (.bin .shr .u64 (.ite (.bin .lss .i64 (.bin .sub .i64 (.bin .sub .i64 (.lit 1) (.bin .shr .i64 (.max (.lit (-128)) (.min (.max (.var kI 2) (.lit 0)) (.lit 128))) (.lit 6))) (.lit 1)) (.lit 0)) (.lit 0) (.var kU 1)) (.lit 1)) (.bin .sub .u64 (.lit 63) (.conv .u64 (.bin .and .i64 (.max (.lit (-128)) (.min (.max (.var kI 2) (.lit 0)) (.lit 128))) (.lit 63))))))), (.int .u64 (.bin .or .u64 (.bin .shl .u64 (.ite (.bin .lss .i64 (.bin .sub .i64 (.lit 0) (.bin .shr .i64 (.max (.lit (-128)) (.min (.max (.var kI 2) (.lit 0)) (.lit 128))) (.lit 6))) (.lit 0)) (.lit 0) (.var kU 1)) (.conv .u64 (.bin .and .i64 (.max (.lit (-128)) (.min (.max (.var kI 2) (.lit 0)) (.lit 128))) (.lit 63)))) (.bin .shr .u64 (.lit 0) (.bin .sub .u64 (.lit 63) (.conv .u64 (.bin .and .i64 (.max (.lit (-128)) (.min (.max (.var kI 2) (.lit 0)) (.lit 128))) (.lit 63)))))))]))
theorem x_shift_Left : execF (ctx E0) 3000 64 (uns c_shift_Left.a (varsAt 0 (kindsOf c_shift_Left.a))) (kindsOf c_shift_Left.a).length = t_shift_Left := by kernel_rfl
def F_shift_Left : List Int → List Int := treeF (phiE E0) c_shift_Left t_shift_Left
theorem e_shift_Left : EntOK Tryd.prog gG ⟨64, c_shift_Left, F_shift_Left⟩ := ent_of (ctx_ok E0_ok) 3000 x_shift_Left (by kernel_rfl)
def c_shift_Right : Ct := ⟨[.agg [kU, kU], .sc kI], [.agg [kU, kU]]⟩
def t_shift_Right : Tr' SV :=
 (.leaf (.agg [(.int .u64 (.bin .or .u64 (.bin .shl .u64 (.ite (.bin .geq .i64 (.bin .sub .i64 (.lit 1) (.bin .shr .i64 (.max (.lit (-128)) (.min (.bin .sub .i64 (.lit 0) (.min (.max (.var kI 2) (.lit 0)) (.lit 128))) (.lit 128))) (.lit 6))) (.lit 2)) (.lit 0) (.var kU 0)) (.conv .u64 (.bin .and .i64 (.max (.lit (-128)) (.min (.bin .sub .i64 (.lit 0) (.min (.max (.var kI 2) (.lit 0)) (.lit 128))) (.lit 128))) (.lit 63)))) (.bin .shr .u64 (.bin .shr .u64 (.ite (.bin .geq .i64 (.bin .sub .i64 (.bin .sub .i64 (.lit 1) (.bin .shr .i64 (.max (.lit (-128)) (.min (.bin .sub .i64 (.lit 0) (.min (.max (.var kI 2) (.lit 0)) (.lit 128))) (.lit 128))) (.lit 6))) (.lit 1)) (.lit 2)) (.lit 0) (.ite (.bin .eql .i64 (.bin .sub .i64 (.bin .sub .i64 (.lit 1) (.bin .shr .i64 (.max (.lit (-128)) (.min (.bin .sub .i64 (.lit 0) (.min (.max (.var kI 2) (.lit 0)) (.lit 128))) (.lit 128))) (.lit 6))) (.lit 1)) (.lit 0)) (.var kU 1) (.var kU 0))) (.lit 1)) (.bin .sub .u64 (.lit 63) (.conv .u64 (.bin .and .i64 (.max (.lit (-128)) (.min (.bin .sub .i64 (.lit 0) (.min (.max (.var kI 2) (.lit 0)) (.lit 128))) (.lit 128))) (.lit 63))))))), (.int .u64 (.bin .or .u64 (.bin .shl .u64 (.ite (.bin .geq .i64 (.bin .sub .i64 (.lit 0) (.bin .shr .i64 (.max (.lit (-128)) (.min (.bin .sub .i64 (.lit 0) (.min (.max (.var kI 2) (.lit 0)) (.lit 128))) (.lit 128))) (.lit 6))) (.lit 2)) (.lit 0) (.ite (.bin .eql .i64 (.bin .sub .i64 (.lit 0) (.bin .shr .i64 (.max (.lit (-128)) (.min (.bin .sub .i64 (.lit 0) (.min (.max (.var kI 2) (.lit 0)) (.lit 128))) (.lit 128))) (.lit 6))) (.lit 0)) (.var kU 1) (.var kU 0))) (.conv .u64 (.bin .and .i64 (.max (.lit (-128)) (.min (.bin .sub .i64 (.lit 0) (.min (.max (.var kI 2) (.lit 0)) (.lit 128))) (.lit 128))) (.lit 63)))) (.bin .shr .u64 (.bin .shr .u64 (.ite (.bin .lss .i64 (.bin .sub .i64 (.bin .sub .i64 (.lit 0) (.bin .shr .i64 (.max (.lit (-128)) (.min (.bin .sub .i64 (.lit 0) (.min (.max (.var kI 2) (.lit 0)) (.lit 128))) (.lit 128))) (.lit 6))) (.lit 1)) (.lit 0)) (.lit 0) (.ite (.bin .eql .i64 (.bin .sub .i64 (.bin .sub .i64 (.lit 0) (.bin .shr .i64 (.max (.lit (-128)) (.min (.bin .sub .i64 (.lit 0) (.min (.max (.var kI 2) (.lit 0)) (.lit 128))) (.lit 128))) (.lit 6))) (.lit 1)) (.lit 0)) (.var kU 1) (.var kU 0))) (.lit 1)) (.bin .sub .u64 (.lit 63) (.conv .u64 (.bin .and .i64 (.max (.lit (-128)) (.min (.bin .sub .i64 (.lit 0) (.min (.max (.var kI 2) (.lit 0)) (.lit 128))) (.lit 128))) (.lit 63)))))))]))
theorem x_shift_Right : execF (ctx E0) 3000 81 (uns c_shift_Right.a (varsAt 0 (kindsOf c_shift_Right.a))) (kindsOf c_shift_Right.a).length = t_shift_Right := by kernel_rfl
def F_shift_Right : List Int → List Int := treeF (phiE E0) c_shift_Right t_shift_Right
theorem e_shift_Right : EntOK Tryd.prog gG ⟨81, c_shift_Right, F_shift_Right⟩ := ent_of (ctx_ok E0_ok) 3000 x_shift_Right (by kernel_rfl)
def c_shift_WideLeft : Ct := ⟨[.agg [kU, kU, kU, kU], .sc kI], [.agg [kU, kU, kU, kU]]⟩
def t_shift_WideLeft : Tr' SV :=
 (.leaf (.agg [(.int .u64 (.bin .or .u64 (.bin .shl .u64 (.ite (.bin .lss .i64 (.bin .sub .i64 (.lit 0) (.bin .shr .i64 (.max (.lit (-256)) (.min (.max (.var kI 4) (.lit 0)) (.lit 256))) (.lit 6))) (.lit 0)) (.lit 0) (.var kU 0)) (.conv .u64 (.bin .and .i64 (.max (.lit (-256)) (.min (.max (.var kI 4) (.lit 0)) (.lit 256))) (.lit 63)))) (.bin .shr .u64 (.lit 0) (.bin .sub .u64 (.lit 63) (.conv .u64 (.bin .and .i64 (.max (.lit (-256)) (.min (.max (.var kI 4) (.lit 0)) (.lit 256))) (.lit 63))))))), (.int .u64 (.bin .or .u64 (.bin .shl .u64 (.ite (.bin .lss .i64 (.bin .sub .i64 (.lit 1) (.bin .shr .i64 (.max (.lit (-256)) (.min (.max (.var kI 4) (.lit 0)) (.lit 256))) (.lit 6))) (.lit 0)) (.lit 0) (.ite (.bin .eql .i64 (.bin .sub .i64 (.lit 1) (.bin .shr .i64 (.max (.lit (-256)) (.min (.max (.var kI 4) (.lit 0)) (.lit 256))) (.lit 6))) (.lit 0)) (.var kU 0) (.var kU 1))) (.conv .u64 (.bin .and .i64 (.max (.lit (-256)) (.min (.max (.var kI 4) (.lit 0)) (.lit 256))) (.lit 63)))) (.bin .shr .u64 (.bin .shr .u64 (.ite (.bin .lss .i64 (.bin .sub .i64 (.bin .sub .i64 (.lit 1) (.bin .shr .i64 (.max (.lit (-256)) (.min (.max (.var kI 4) (.lit 0)) (.lit 256))) (.lit 6))) (.lit 1)) (.lit 0)) (.lit 0) (.var kU 0)) (.lit 1)) (.bin .sub .u64 (.lit 63) (.conv .u64 (.bin .and .i64 (.max (.lit (-256)) (.min (.max (.var kI 4) (.lit 0)) (.lit 256))) (.lit 63))))))), (.int .u64 (.bin .or .u64 (.bin .shl .u64 (.ite (.bin .lss .i64 (.bin .sub .i64 (.lit 2) (.bin .shr .i64 (.max (.lit (-256)) (.min (.max (.var kI 4) (.lit 0)) (.lit 256))) (.lit 6))) (.lit 0)) (.lit 0) (.ite (.bin .eql .i64 (.bin .sub .i64 (.lit 2) (.bin .shr .i64 (.max (.lit (-256)) (.min (.max (.var kI 4) (.lit 0)) (.lit 256))) (.lit 6))) (.lit 0)) (.var kU 0) (.ite (.bin .eql .i64 (.bin .sub .i64 (.lit 2) (.bin .shr .i64 (.max (.lit (-256)) (.min (.max (.var kI 4) (.lit 0)) (.lit 256))) (.lit 6))) (.lit 1)) (.var kU 1) (.var kU 2)))) (.conv .u64 (.bin .and .i64 (.max (.lit (-256)) (.min (.max (.var kI 4) (.lit 0)) (.lit 256))) (.lit 63)))) (.bin .shr .u64 (.bin .shr .u64 (.ite (.bin .lss .i64 (.bin .sub .i64 (.bin .sub .i64 (.lit 2) (.bin .shr .i64 (.max (.lit (-256)) (.min (.max (.var kI 4) (.lit 0)) (.lit 256))) (.lit 6))) (.lit 1)) (.lit 0)) (.lit 0) (.ite (.bin .eql .i64 (.bin .sub .i64 (.bin .sub .i64 (.lit 2) (.bin .shr .i64 (.max (.lit (-256)) (.min (.max (.var kI 4) (.lit 0)) (.lit 256))) (.lit 6))) (.lit 1)) (.lit 0)) (.var kU 0) (.var kU 1))) (.lit 1)) (.bin .sub .u64 (.lit 63) (.conv .u64 (.bin .and .i64 (.max (.lit (-256)) (.min (.max (.var kI 4) (.lit 0)) (.lit 256))) (.lit 63))))))), (.int .u64 (.bin .or .u64 (.bin .shl .u64 (.ite (.bin .lss .i64 (.bin .sub .i64 (.lit 3) (.bin .shr .i64 (.max (.lit (-256)) (.min (.max (.var kI 4) (.lit 0)) (.lit 256))) (.lit 6))) (.lit 0)) (.lit 0) (.ite (.bin .eql .i64 (.bin .sub .i64 (.lit 3) (.bin .shr .i64 (.max (.lit (-256)) (.min (.max (.var kI 4) (.lit 0)) (.lit 256))) (.lit 6))) (.lit 0)) (.var kU 0) (.ite (.bin .eql .i64 (.bin .sub .i64 (.lit 3) (.bin .shr .i64 (.max (.lit (-256)) (.min (.max (.var kI 4) (.lit 0)) (.lit 256))) (.lit 6))) (.lit 1)) (.var kU 1) (.ite (.bin .eql .i64 (.bin .sub .i64 (.lit 3) (.bin .shr .i64 (.max (.lit (-256)) (.min (.max (.var kI 4) (.lit 0)) (.lit 256))) (.lit 6))) (.lit 2)) (.var kU 2) (.var kU 3))))) (.conv .u64 (.bin .and .i64 (.max (.lit (-256)) (.min (.max (.var kI 4) (.lit 0)) (.lit 256))) (.lit 63)))) (.bin .shr .u64 (.bin .shr .u64 (.ite (.bin .lss .i64 (.bin .sub .i64 (.bin .sub .i64 (.lit 3) (.bin .shr .i64 (.max (.lit (-256)) (.min (.max (.var kI 4) (.lit 0)) (.lit 256))) (.lit 6))) (.lit 1)) (.lit 0)) (.lit 0) (.ite (.bin .eql .i64 (.bin .sub .i64 (.bin .sub .i64 (.lit 3) (.bin .shr .i64 (.max (.lit (-256)) (.min (.max (.var kI 4) (.lit 0)) (.lit 256))) (.lit 6))) (.lit 1)) (.lit 0)) (.var kU 0) (.ite (.bin .eql .i64 (.bin .sub .i64 (.bin .sub .i64 (.lit 3) (.bin .shr .i64 (.max (.lit (-256)) (.min (.max (.var kI 4) (.lit 0)) (.lit 256))) (.lit 6))) (.lit 1)) (.lit 1)) (.var kU 1) (.var kU 2)))) (.lit 1)) (.bin .sub .u64 (.lit 63) (.conv .u64 (.bin .and .i64 (.max (.lit (-256)) (.min (.max (.var kI 4) (.lit 0)) (.lit 256))) (.lit 63)))))))]))
theorem x_shift_WideLeft : execF (ctx E0) 3000 62 (uns c_shift_WideLeft.a (varsAt 0 (kindsOf c_shift_WideLeft.a))) (kindsOf c_shift_WideLeft.a).length = t_shift_WideLeft := by kernel_rfl
def F_shift_WideLeft : List Int → List Int := treeF (phiE E0) c_shift_WideLeft t_shift_WideLeft
theorem e_shift_WideLeft : EntOK Tryd.prog gG ⟨62, c_shift_WideLeft, F_shift_WideLeft⟩ := ent_of (ctx_ok E0_ok) 3000 x_shift_WideLeft (by kernel_rfl)
def c_shift_WideRight : Ct := ⟨[.agg [kU, kU, kU, kU], .sc kI], [.agg [kU, kU, kU, kU]]⟩
def t_shift_WideRight : Tr' SV :=
 (.leaf (.agg [(.int .u64 (.bin .or .u64 (.bin .shl .u64 (.ite (.bin .geq .i64 (.bin .sub .i64 (.lit 0) (.bin .shr .i64 (.max (.lit (-256)) (.min (.bin .sub .i64 (.lit 0) (.min (.max (.var kI 4) (.lit 0)) (.lit 256))) (.lit 256))) (.lit 6))) (.lit 4)) (.lit 0) (.ite (.bin .eql .i64 (.bin .sub .i64 (.lit 0) (.bin .shr .i64 (.max (.lit (-256)) (.min (.bin .sub .i64 (.lit 0) (.min (.max (.var kI 4) (.lit 0)) (.lit 256))) (.lit 256))) (.lit 6))) (.lit 0)) (.var kU 0) (.ite (.bin .eql .i64 (.bin .sub .i64 (.lit 0) (.bin .shr .i64 (.max (.lit (-256)) (.min (.bin .sub .i64 (.lit 0) (.min (.max (.var kI 4) (.lit 0)) (.lit 256))) (.lit 256))) (.lit 6))) (.lit 1)) (.var kU 1) (.ite (.bin .eql .i64 (.bin .sub .i64 (.lit 0) (.bin .shr .i64 (.max (.lit (-256)) (.min (.bin .sub .i64 (.lit 0) (.min (.max (.var kI 4) (.lit 0)) (.lit 256))) (.lit 256))) (.lit 6))) (.lit 2)) (.var kU 2) (.var kU 3))))) (.conv .u64 (.bin .and .i64 (.max (.lit (-256)) (.min (.bin .sub .i64 (.lit 0) (.min (.max (.var kI 4) (.lit 0)) (.lit 256))) (.lit 256))) (.lit 63)))) (.bin .shr .u64 (.bin .shr .u64 (.ite (.bin .lss .i64 (.bin .sub .i64 (.bin .sub .i64 (.lit 0) (.bin .shr .i64 (.max (.lit (-256)) (.min (.bin .sub .i64 (.lit 0) (.min (.max (.var kI 4) (.lit 0)) (.lit 256))) (.lit 256))) (.lit 6))) (.lit 1)) (.lit 0)) (.lit 0) (.ite (.bin .eql .i64 (.bin .sub .i64 (.bin .sub .i64 (.lit 0) (.bin .shr .i64 (.max (.lit (-256)) (.min (.bin .sub .i64 (.lit 0) (.min (.max (.var kI 4) (.lit 0)) (.lit 256))) (.lit 256))) (.lit 6))) (.lit 1)) (.lit 0)) (.var kU 0) (.ite (.bin .eql .i64 (.bin .sub .i64 (.bin .sub .i64 (.lit 0) (.bin .shr .i64 (.max (.lit (-256)) (.min (.bin .sub .i64 (.lit 0) (.min (.max (.var kI 4) (.lit 0)) (.lit 256))) (.lit 256))) (.lit 6))) (.lit 1)) (.lit 1)) (.var kU 1) (.ite (.bin .eql .i64 (.bin .sub .i64 (.bin .sub .i64 (.lit 0) (.bin .shr .i64 (.max (.lit (-256)) (.min (.bin .sub .i64 (.lit 0) (.min (.max (.var kI 4) (.lit 0)) (.lit 256))) (.lit 256))) (.lit 6))) (.lit 1)) (.lit 2)) (.var kU 2) (.var kU 3))))) (.lit 1)) (.bin .sub .u64 (.lit 63) (.conv .u64 (.bin .and .i64 (.max (.lit (-256)) (.min (.bin .sub .i64 (.lit 0) (.min (.max (.var kI 4) (.lit 0)) (.lit 256))) (.lit 256))) (.lit 63))))))), (.int .u64 (.bin .or .u64 (.bin .shl .u64 (.ite (.bin .geq .i64 (.bin .sub .i64 (.lit 1) (.bin .shr .i64 (.max (.lit (-256)) (.min (.bin .sub .i64 (.lit 0) (.min (.max (.var kI 4) (.lit 0)) (.lit 256))) (.lit 256))) (.lit 6))) (.lit 4)) (.lit 0) (.ite (.bin .eql .i64 (.bin .sub .i64 (.lit 1) (.bin .shr .i64 (.max (.lit (-256)) (.min (.bin .sub .i64 (.lit 0) (.min (.max (.var kI 4) (.lit 0)) (.lit 256))) (.lit 256))) (.lit 6))) (.lit 1)) (.var kU 1) (.ite (.bin .eql .i64 (.bin .sub .i64 (.lit 1) (.bin .shr .i64 (.max (.lit (-256)) (.min (.bin .sub .i64 (.lit 0) (.min (.max (.var kI 4) (.lit 0)) (.lit 256))) (.lit 256))) (.lit 6))) (.lit 2)) (.var kU 2) (.var kU 3)))) (.conv .u64 (.bin .and .i64 (.max (.lit (-256)) (.min (.bin .sub .i64 (.lit 0) (.min (.max (.var kI 4) (.lit 0)) (.lit 256))) (.lit 256))) (.lit 63)))) (.bin .shr .u64 (.bin .shr .u64 (.ite (.bin .geq .i64 (.bin .sub .i64 (.bin .sub .i64 (.lit 1) (.bin .shr .i64 (.max (.lit (-256)) (.min (.bin .sub .i64 (.lit 0) (.min (.max (.var kI 4) (.lit 0)) (.lit 256))) (.lit 256))) (.lit 6))) (.lit 1)) (.lit 4)) (.lit 0) (.ite (.bin .eql .i64 (.bin .sub .i64 (.bin .sub .i64 (.lit 1) (.bin .shr .i64 (.max (.lit (-256)) (.min (.bin .sub .i64 (.lit 0) (.min (.max (.var kI 4) (.lit 0)) (.lit 256))) (.lit 256))) (.lit 6))) (.lit 1)) (.lit 0)) (.var kU 0) (.ite (.bin .eql .i64 (.bin .sub .i64 (.bin .sub .i64 (.lit 1) (.bin .shr .i64 (.max (.lit (-256)) (.min (.bin .sub .i64 (.lit 0) (.min (.max (.var kI 4) (.lit 0)) (.lit 256))) (.lit 256))) (.lit 6))) (.lit 1)) (.lit 1)) (.var kU 1) (.ite (.bin .eql .i64 (.bin .sub .i64 (.bin .sub .i64 (.lit 1) (.bin .shr .i64 (.max (.lit (-256)) (.min (.bin .sub .i64 (.lit 0) (.min (.max (.var kI 4) (.lit 0)) (.lit 256))) (.lit 256))) (.lit 6))) (.lit 1)) (.lit 2)) (.var kU 2) (.var kU 3))))) (.lit 1)) (.bin .sub .u64 (.lit 63) (.conv .u64 (.bin .and .i64 (.max (.lit (-256)) (.min (.bin .sub .i64 (.lit 0) (.min (.max (.var kI 4) (.lit 0)) (.lit 256))) (.lit 256))) (.lit 63))))))), (.int .u64 (.bin .or .u64 (.bin .shl .u64 (.ite (.bin .geq .i64 (.bin .sub .i64 (.lit 2) (.bin .shr .i64 (.max (.lit (-256)) (.min (.bin .sub .i64 (.lit 0) (.min (.max (.var kI 4) (.lit 0)) (.lit 256))) (.lit 256))) (.lit 6))) (.lit 4)) (.lit 0) (.ite (.bin .eql .i64 (.bin .sub .i64 (.lit 2) (.bin .shr .i64 (.max (.lit (-256)) (.min (.bin .sub .i64 (.lit 0) (.min (.max (.var kI 4) (.lit 0)) (.lit 256))) (.lit 256))) (.lit 6))) (.lit 2)) (.var kU 2) (.var kU 3))) (.conv .u64 (.bin .and .i64 (.max (.lit (-256)) (.min (.bin .sub .i64 (.lit 0) (.min (.max (.var kI 4) (.lit 0)) (.lit 256))) (.lit 256))) (.lit 63)))) (.bin .shr .u64 (.bin .shr .u64 (.ite (.bin .geq .i64 (.bin .sub .i64 (.bin .sub .i64 (.lit 2) (.bin .shr .i64 (.max (.lit (-256)) (.min (.bin .sub .i64 (.lit 0) (.min (.max (.var kI 4) (.lit 0)) (.lit 256))) (.lit 256))) (.lit 6))) (.lit 1)) (.lit 4)) (.lit 0) (.ite (.bin .eql .i64 (.bin .sub .i64 (.bin .sub .i64 (.lit 2) (.bin .shr .i64 (.max (.lit (-256)) (.min (.bin .sub .i64 (.lit 0) (.min (.max (.var kI 4) (.lit 0)) (.lit 256))) (.lit 256))) (.lit 6))) (.lit 1)) (.lit 1)) (.var kU 1) (.ite (.bin .eql .i64 (.bin .sub .i64 (.bin .sub .i64 (.lit 2) (.bin .shr .i64 (.max (.lit (-256)) (.min (.bin .sub .i64 (.lit 0) (.min (.max (.var kI 4) (.lit 0)) (.lit 256))) (.lit 256))) (.lit 6))) (.lit 1)) (.lit 2)) (.var kU 2) (.var kU 3)))) (.lit 1)) (.bin .sub .u64 (.lit 63) (.conv .u64 (.bin .and .i64 (.max (.lit (-256)) (.min (.bin .sub .i64 (.lit 0) (.min (.max (.var kI 4) (.lit 0)) (.lit 256))) (.lit 256))) (.lit 63))))))), (.int .u64 (.bin .or .u64 (.bin .shl .u64 (.ite (.bin .geq .i64 (.bin .sub .i64 (.lit 3) (.bin .shr .i64 (.max (.lit (-256)) (.min (.bin .sub .i64 (.lit 0) (.min (.max (.var kI 4) (.lit 0)) (.lit 256))) (.lit 256))) (.lit 6))) (.lit 4)) (.lit 0) (.var kU 3)) (.conv .u64 (.bin .and .i64 (.max (.lit (-256)) (.min (.bin .sub .i64 (.lit 0) (.min (.max (.var kI 4) (.lit 0)) (.lit 256))) (.lit 256))) (.lit 63)))) (.bin .shr .u64 (.bin .shr .u64 (.ite (.bin .geq .i64 (.bin .sub .i64 (.bin .sub .i64 (.lit 3) (.bin .shr .i64 (.max (.lit (-256)) (.min (.bin .sub .i64 (.lit 0) (.min (.max (.var kI 4) (.lit 0)) (.lit 256))) (.lit 256))) (.lit 6))) (.lit 1)) (.lit 4)) (.lit 0) (.ite (.bin .eql .i64 (.bin .sub .i64 (.bin .sub .i64 (.lit 3) (.bin .shr .i64 (.max (.lit (-256)) (.min (.bin .sub .i64 (.lit 0) (.min (.max (.var kI 4) (.lit 0)) (.lit 256))) (.lit 256))) (.lit 6))) (.lit 1)) (.lit 2)) (.var kU 2) (.var kU 3))) (.lit 1)) (.bin .sub .u64 (.lit 63) (.conv .u64 (.bin .and .i64 (.max (.lit (-256)) (.min (.bin .sub .i64 (.lit 0) (.min (.max (.var kI 4) (.lit 0)) (.lit 256))) (.lit 256))) (.lit 63)))))))]))
theorem x_shift_WideRight : execF (ctx E0) 3000 109 (uns c_shift_WideRight.a (varsAt 0 (kindsOf c_shift_WideRight.a))) (kindsOf c_shift_WideRight.a).length = t_shift_WideRight := by kernel_rfl
def F_shift_WideRight : List Int → List Int := treeF (phiE E0) c_shift_WideRight t_shift_WideRight
theorem e_shift_WideRight : EntOK Tryd.prog gG ⟨109, c_shift_WideRight, F_shift_WideRight⟩ := ent_of (ctx_ok E0_ok) 3000 x_shift_WideRight (by kernel_rfl)
def c_count_WideLen : Ct := ⟨[.agg [kU, kU, kU, kU]], [.sc kI]⟩
def t_count_WideLen : Tr' SV :=
 (.ite (.bin .neq .u64 (.var kU 3) (.lit 0))
 (.call 129 [(.var kU 3)] 4 1
 (.leaf (.int .i64 (.bin .add .i64 (.lit 192) (.var kI 4)))))
 (.ite (.bin .neq .u64 (.var kU 2) (.lit 0))
 (.call 129 [(.var kU 2)] 4 1
 (.leaf (.int .i64 (.bin .add .i64 (.lit 128) (.var kI 4)))))
 (.ite (.bin .neq .u64 (.var kU 1) (.lit 0))
 (.call 129 [(.var kU 1)] 4 1
 (.leaf (.int .i64 (.bin .add .i64 (.lit 64) (.var kI 4)))))
 (.ite (.bin .neq .u64 (.var kU 0) (.lit 0))
 (.call 129 [(.var kU 0)] 4 1
 (.leaf (.int .i64 (.bin .add .i64 (.lit 0) (.var kI 4)))))
 (.leaf (.int .i64 (.lit 0)))))))
theorem x_count_WideLen : execF (ctx E0) 3000 105 (uns c_count_WideLen.a (varsAt 0 (kindsOf c_count_WideLen.a))) (kindsOf c_count_WideLen.a).length = t_count_WideLen := by kernel_rfl
def F_count_WideLen : List Int → List Int := treeF (phiE E0) c_count_WideLen t_count_WideLen
theorem e_count_WideLen : EntOK Tryd.prog gG ⟨105, c_count_WideLen, F_count_WideLen⟩ := ent_of (ctx_ok E0_ok) 3000 x_count_WideLen (by kernel_rfl)
def c_format_of : Ct := ⟨[.sc kB], [.agg [kI, kI, kI]]⟩
def t_format_of : Tr' SV :=
 (.ite (.not (.bin .lss .i64 (.var kB 0) (.lit 4)))
 (.leaf (.agg [(.int .i64 (.lit 0)), (.int .i64 (.lit 0)), (.int .i64 (.lit 0))]))
 (.ite (.bin .eql .i64 (.var kB 0) (.lit 0))
 (.leaf (.agg [(.int .i64 (.lit 16)), (.int .i64 (.lit 11)), (.int .i64 (.lit 15))]))
 (.ite (.bin .eql .i64 (.var kB 0) (.lit 1))
 (.leaf (.agg [(.int .i64 (.lit 32)), (.int .i64 (.lit 24)), (.int .i64 (.lit 127))]))
 (.ite (.bin .eql .i64 (.var kB 0) (.lit 2))
 (.leaf (.agg [(.int .i64 (.lit 64)), (.int .i64 (.lit 53)), (.int .i64 (.lit 1023))]))
 (.leaf (.agg [(.int .i64 (.lit 128)), (.int .i64 (.lit 113)), (.int .i64 (.lit 16383))]))))))
theorem x_format_of : execF (ctx E0) 3000 63 (uns c_format_of.a (varsAt 0 (kindsOf c_format_of.a))) (kindsOf c_format_of.a).length = t_format_of := by kernel_rfl
def F_format_of : List Int → List Int := treeF (phiE E0) c_format_of t_format_of
theorem e_format_of : EntOK Tryd.prog gG ⟨63, c_format_of, F_format_of⟩ := ent_of (ctx_ok E0_ok) 3000 x_format_of (by kernel_rfl)
def c_mode_Infinite : Ct := ⟨[.sc kB, .sc .bool], [.sc .bool]⟩
def t_mode_Infinite : Tr' SV :=
 (.call 111 [(.var kB 0), (.var .bool 1), (.lit 1), (.lit 3)] 2 1
 (.leaf (.bool (.var .bool 2))))
theorem x_mode_Infinite : execF (ctx E0) 3000 115 (uns c_mode_Infinite.a (varsAt 0 (kindsOf c_mode_Infinite.a))) (kindsOf c_mode_Infinite.a).length = t_mode_Infinite := by kernel_rfl
def F_mode_Infinite : List Int → List Int := treeF (phiE E0) c_mode_Infinite t_mode_Infinite
theorem e_mode_Infinite : EntOK Tryd.prog gG ⟨115, c_mode_Infinite, F_mode_Infinite⟩ := ent_of (ctx_ok E0_ok) 3000 x_mode_Infinite (by kernel_rfl)
def c_mul_Bad : Ct := ⟨[.agg [.bool, kB, kI, kU, kU], .agg [.bool, kB, kI, kU, kU]], [.sc .bool]⟩
def t_mul_Bad : Tr' SV :=
 (.ite (.bin .geq .i64 (.ite (.bin .eql .u8 (.var kB 1) (.lit 0)) (.lit 0) (.ite (.bin .eql .u8 (.var kB 6) (.lit 0)) (.lit 1) (.lit (-1)))) (.lit 0))
 (.leaf (.bool (.bin .geq .i64 (.ite (.bin .eql .u8 (.var kB 1) (.lit 3)) (.lit 0) (.ite (.bin .eql .u8 (.var kB 6) (.lit 3)) (.lit 1) (.lit (-1)))) (.lit 0))))
 (.leaf (.bool (.lit 0))))
theorem x_mul_Bad : execF (ctx E0) 3000 35 (uns c_mul_Bad.a (varsAt 0 (kindsOf c_mul_Bad.a))) (kindsOf c_mul_Bad.a).length = t_mul_Bad := by kernel_rfl
def F_mul_Bad : List Int → List Int := treeF (phiE E0) c_mul_Bad t_mul_Bad
theorem e_mul_Bad : EntOK Tryd.prog gG ⟨35, c_mul_Bad, F_mul_Bad⟩ := ent_of (ctx_ok E0_ok) 3000 x_mul_Bad (by kernel_rfl)
def E1 : List Ent := ⟨52, c_word_Zero, F_word_Zero⟩ :: ⟨53, c_word_Bit, F_word_Bit⟩ :: ⟨65, c_word_Add, F_word_Add⟩ :: ⟨120, c_word_Sub, F_word_Sub⟩ :: ⟨90, c_word_Mul, F_word_Mul⟩ :: ⟨48, c_wide_Join, F_wide_Join⟩ :: ⟨102, c_wide_Of, F_wide_Of⟩ :: ⟨106, c_wide_High, F_wide_High⟩ :: ⟨108, c_wide_Low, F_wide_Low⟩ :: ⟨71, c_wide_Zero, F_wide_Zero⟩ :: ⟨64, c_shift_Left, F_shift_Left⟩ :: ⟨81, c_shift_Right, F_shift_Right⟩ :: ⟨62, c_shift_WideLeft, F_shift_WideLeft⟩ :: ⟨109, c_shift_WideRight, F_shift_WideRight⟩ :: ⟨105, c_count_WideLen, F_count_WideLen⟩ :: ⟨63, c_format_of, F_format_of⟩ :: ⟨115, c_mode_Infinite, F_mode_Infinite⟩ :: ⟨35, c_mul_Bad, F_mul_Bad⟩ :: E0
theorem E1_ok : ∀ e ∈ E1, EntOK Tryd.prog gG e := List.forall_mem_cons.2 ⟨e_word_Zero, List.forall_mem_cons.2 ⟨e_word_Bit, List.forall_mem_cons.2 ⟨e_word_Add, List.forall_mem_cons.2 ⟨e_word_Sub, List.forall_mem_cons.2 ⟨e_word_Mul, List.forall_mem_cons.2 ⟨e_wide_Join, List.forall_mem_cons.2 ⟨e_wide_Of, List.forall_mem_cons.2 ⟨e_wide_High, List.forall_mem_cons.2 ⟨e_wide_Low, List.forall_mem_cons.2 ⟨e_wide_Zero, List.forall_mem_cons.2 ⟨e_shift_Left, List.forall_mem_cons.2 ⟨e_shift_Right, List.forall_mem_cons.2 ⟨e_shift_WideLeft, List.forall_mem_cons.2 ⟨e_shift_WideRight, List.forall_mem_cons.2 ⟨e_count_WideLen, List.forall_mem_cons.2 ⟨e_format_of, List.forall_mem_cons.2 ⟨e_mode_Infinite, List.forall_mem_cons.2 ⟨e_mul_Bad, E0_ok⟩⟩⟩⟩⟩⟩⟩⟩⟩⟩⟩⟩⟩⟩⟩⟩⟩⟩
theorem ph_E0_math_bits_Add64 : phiE E0 99 = fAdd64 := phiE_hit (e := ⟨99, _, fAdd64⟩) rfl
theorem ph_E0_math_bits_Sub64 : phiE E0 128 = fSub64 := phiE_hit (e := ⟨128, _, fSub64⟩) rfl
theorem ph_E0_math_bits_Mul64 : phiE E0 117 = fMul64 := phiE_hit (e := ⟨117, _, fMul64⟩) rfl
theorem ph_E0_math_bits_Len64 : phiE E0 129 = fLen64 := phiE_hit (e := ⟨129, _, fLen64⟩) rfl
theorem ph_E0_mode_Next : phiE E0 111 = fNext := phiE_hit (e := ⟨111, _, fNext⟩) rfl
end Go.Proofs.YtikjbocagnolmaaDoor
