import Derived.Test.YtikjbocagnolmaaDoorH1
/- Contracts of this seat's functions: their trees, made by a program (sxgen), and that the executor answers just these. -/
namespace Go.Proofs.YtikjbocagnolmaaDoor
set_option linter.unusedVariables false
set_option maxRecDepth 100000
open Go.RowKit
def c_law25_ConvBack : Ct := ⟨[.sc kB, .sc kB, .agg [kB, .bool], .agg [kB, .bool], .agg [kU, kU]], [.sc .bool]⟩
def t_law25_ConvBack : Tr' SV :=
 (.ite (.not (.bin .lss .i64 (.var kB 0) (.lit 4)))
 (.call 17 [(.var kB 0), (.var kB 1), (.bin .rem .u8 (.var kB 2) (.lit 5)), (.var .bool 3), (.var kU 6), (.var kU 7)] 8 3
 (.ite (.and (.bin .eql .u64 (.var kU 8) (.lit 0)) (.and (.bin .eql .u64 (.var kU 9) (.lit 0)) (.and (.bin .eql .u8 (.var kB 10) (.lit 0)) (.lit 1))))
 (.call 18 [(.var kB 0), (.var kB 1), (.var kU 6), (.var kU 7)] 11 1
 (.ite (.not (.var .bool 11))
 (.leaf (.bool (.lit 1)))
 (.leaf (.bool (.lit 0)))))
 (.leaf (.bool (.lit 0)))))
 (.ite (.not (.bin .lss .i64 (.var kB 1) (.lit 4)))
 (.call 17 [(.var kB 0), (.var kB 1), (.bin .rem .u8 (.var kB 2) (.lit 5)), (.var .bool 3), (.var kU 6), (.var kU 7)] 8 3
 (.ite (.and (.bin .eql .u64 (.var kU 8) (.lit 0)) (.and (.bin .eql .u64 (.var kU 9) (.lit 0)) (.and (.bin .eql .u8 (.var kB 10) (.lit 0)) (.lit 1))))
 (.call 18 [(.var kB 0), (.var kB 1), (.var kU 6), (.var kU 7)] 11 1
 (.ite (.not (.var .bool 11))
 (.leaf (.bool (.lit 1)))
 (.leaf (.bool (.lit 0)))))
 (.leaf (.bool (.lit 0)))))
 (.call 17 [(.var kB 0), (.var kB 1), (.bin .rem .u8 (.var kB 2) (.lit 5)), (.var .bool 3), (.var kU 6), (.var kU 7)] 8 3
 (.call 20 [(.var kB 0), (.var kU 6), (.var kU 7)] 11 1
 (.ite (.var .bool 11)
 (.call 20 [(.var kB 1), (.var kU 8), (.var kU 9)] 12 1
 (.ite (.var .bool 12)
 (.call 18 [(.var kB 0), (.var kB 1), (.var kU 6), (.var kU 7)] 13 1
 (.ite (.not (.var .bool 13))
 (.leaf (.bool (.lit 1)))
 (.leaf (.bool (.lit 0)))))
 (.leaf (.bool (.lit 0)))))
 (.ite (.bin .geq .u8 (.var kB 1) (.var kB 0))
 (.ite (.bin .neq .u8 (.var kB 10) (.lit 0))
 (.leaf (.bool (.lit 0)))
 (.call 18 [(.var kB 0), (.var kB 1), (.var kU 6), (.var kU 7)] 12 1
 (.ite (.not (.var .bool 12))
 (.leaf (.bool (.lit 0)))
 (.call 18 [(.var kB 0), (.var kB 1), (.var kU 6), (.var kU 7)] 13 1
 (.ite (.var .bool 13)
 (.call 17 [(.var kB 1), (.var kB 0), (.bin .rem .u8 (.var kB 4) (.lit 5)), (.var .bool 5), (.var kU 8), (.var kU 9)] 14 3
 (.call 21 [(.var kB 0), (.var kU 6), (.var kU 7)] 17 2
 (.ite (.and (.bin .eql .u64 (.var kU 14) (.var kU 17)) (.and (.bin .eql .u64 (.var kU 15) (.var kU 18)) (.and (.bin .eql .u8 (.var kB 16) (.lit 0)) (.lit 1))))
 (.leaf (.bool (.lit 1)))
 (.leaf (.bool (.lit 0))))))
 (.ite (.bin .neq .u8 (.bin .and .u8 (.var kB 10) (.lit 16)) (.lit 0))
 (.ite (.bin .lss .u8 (.var kB 1) (.var kB 0))
 (.leaf (.bool (.lit 1)))
 (.leaf (.bool (.lit 0))))
 (.leaf (.bool (.lit 0)))))))))
 (.call 18 [(.var kB 0), (.var kB 1), (.var kU 6), (.var kU 7)] 12 1
 (.ite (.var .bool 12)
 (.ite (.bin .eql .u8 (.var kB 10) (.lit 0))
 (.call 17 [(.var kB 1), (.var kB 0), (.bin .rem .u8 (.var kB 4) (.lit 5)), (.var .bool 5), (.var kU 8), (.var kU 9)] 13 3
 (.call 21 [(.var kB 0), (.var kU 6), (.var kU 7)] 16 2
 (.ite (.and (.bin .eql .u64 (.var kU 13) (.var kU 16)) (.and (.bin .eql .u64 (.var kU 14) (.var kU 17)) (.and (.bin .eql .u8 (.var kB 15) (.lit 0)) (.lit 1))))
 (.leaf (.bool (.lit 1)))
 (.leaf (.bool (.lit 0))))))
 (.leaf (.bool (.lit 0))))
 (.ite (.bin .neq .u8 (.bin .and .u8 (.var kB 10) (.lit 16)) (.lit 0))
 (.ite (.bin .lss .u8 (.var kB 1) (.var kB 0))
 (.leaf (.bool (.lit 1)))
 (.leaf (.bool (.lit 0))))
 (.leaf (.bool (.lit 0))))))))))))
theorem x_law25_ConvBack : execF (ctx E11) 3000 3 (uns c_law25_ConvBack.a (varsAt 0 (kindsOf c_law25_ConvBack.a))) (kindsOf c_law25_ConvBack.a).length = t_law25_ConvBack := by kernel_rfl
def F_law25_ConvBack : List Int → List Int := treeF (phiE E11) c_law25_ConvBack t_law25_ConvBack
theorem e_law25_ConvBack : EntOK Tryd.prog gG ⟨3, c_law25_ConvBack, F_law25_ConvBack⟩ := ent_of (ctx_ok E11_ok) 3000 x_law25_ConvBack (by kernel_rfl)
def c_law19_MulOrder : Ct := ⟨[.sc kB, .agg [kB, .bool], .agg [kU, kU], .agg [kU, kU], .agg [kU, kU]], [.sc .bool]⟩
def t_law19_MulOrder : Tr' SV :=
 (.call 26 [(.var kB 0), (.var kU 7), (.var kU 8)] 9 2
 (.ite (.not (.bin .lss .i64 (.var kB 0) (.lit 4)))
 (.leaf (.bool (.lit 1)))
 (.call 20 [(.var kB 0), (.var kU 3), (.var kU 4)] 11 1
 (.ite (.var .bool 11)
 (.leaf (.bool (.lit 1)))
 (.call 20 [(.var kB 0), (.var kU 5), (.var kU 6)] 12 1
 (.ite (.var .bool 12)
 (.leaf (.bool (.lit 1)))
 (.ite (.bin .neq .u8 (.var kB 9) (.lit 1))
 (.ite (.bin .neq .u8 (.var kB 9) (.lit 2))
 (.leaf (.bool (.lit 1)))
 (.call 29 [(.var kB 0), (.var kU 3), (.var kU 4)] 13 2
 (.call 29 [(.var kB 0), (.var kU 5), (.var kU 6)] 15 2
 (.call 29 [(.var kB 0), (.var kU 7), (.var kU 8)] 17 2
 (.ite (.bin .gtr .u64 (.var kU 13) (.var kU 15))
 (.call 30 [(.var kB 0), (.bin .rem .u8 (.var kB 1) (.lit 5)), (.var .bool 2), (.var kU 15), (.var kU 16), (.var kU 17), (.var kU 18)] 19 3
 (.call 30 [(.var kB 0), (.bin .rem .u8 (.var kB 1) (.lit 5)), (.var .bool 2), (.var kU 13), (.var kU 14), (.var kU 17), (.var kU 18)] 22 3
 (.ite (.bin .lss .u64 (.var kU 19) (.var kU 22))
 (.leaf (.bool (.lit 1)))
 (.ite (.bin .eql .u64 (.var kU 19) (.var kU 22))
 (.ite (.bin .leq .u64 (.var kU 20) (.var kU 23))
 (.leaf (.bool (.lit 1)))
 (.leaf (.bool (.lit 0))))
 (.leaf (.bool (.lit 0)))))))
 (.ite (.bin .eql .u64 (.var kU 13) (.var kU 15))
 (.ite (.bin .gtr .u64 (.var kU 14) (.var kU 16))
 (.call 30 [(.var kB 0), (.bin .rem .u8 (.var kB 1) (.lit 5)), (.var .bool 2), (.var kU 15), (.var kU 16), (.var kU 17), (.var kU 18)] 19 3
 (.call 30 [(.var kB 0), (.bin .rem .u8 (.var kB 1) (.lit 5)), (.var .bool 2), (.var kU 13), (.var kU 14), (.var kU 17), (.var kU 18)] 22 3
 (.ite (.bin .lss .u64 (.var kU 19) (.var kU 22))
 (.leaf (.bool (.lit 1)))
 (.ite (.bin .eql .u64 (.var kU 19) (.var kU 22))
 (.ite (.bin .leq .u64 (.var kU 20) (.var kU 23))
 (.leaf (.bool (.lit 1)))
 (.leaf (.bool (.lit 0))))
 (.leaf (.bool (.lit 0)))))))
 (.call 30 [(.var kB 0), (.bin .rem .u8 (.var kB 1) (.lit 5)), (.var .bool 2), (.var kU 13), (.var kU 14), (.var kU 17), (.var kU 18)] 19 3
 (.call 30 [(.var kB 0), (.bin .rem .u8 (.var kB 1) (.lit 5)), (.var .bool 2), (.var kU 15), (.var kU 16), (.var kU 17), (.var kU 18)] 22 3
 (.ite (.bin .lss .u64 (.var kU 19) (.var kU 22))
 (.leaf (.bool (.lit 1)))
 (.ite (.bin .eql .u64 (.var kU 19) (.var kU 22))
 (.ite (.bin .leq .u64 (.var kU 20) (.var kU 23))
 (.leaf (.bool (.lit 1)))
 (.leaf (.bool (.lit 0))))
 (.leaf (.bool (.lit 0))))))))
 (.call 30 [(.var kB 0), (.bin .rem .u8 (.var kB 1) (.lit 5)), (.var .bool 2), (.var kU 13), (.var kU 14), (.var kU 17), (.var kU 18)] 19 3
 (.call 30 [(.var kB 0), (.bin .rem .u8 (.var kB 1) (.lit 5)), (.var .bool 2), (.var kU 15), (.var kU 16), (.var kU 17), (.var kU 18)] 22 3
 (.ite (.bin .lss .u64 (.var kU 19) (.var kU 22))
 (.leaf (.bool (.lit 1)))
 (.ite (.bin .eql .u64 (.var kU 19) (.var kU 22))
 (.ite (.bin .leq .u64 (.var kU 20) (.var kU 23))
 (.leaf (.bool (.lit 1)))
 (.leaf (.bool (.lit 0))))
 (.leaf (.bool (.lit 0)))))))))))))
 (.call 29 [(.var kB 0), (.var kU 3), (.var kU 4)] 13 2
 (.call 29 [(.var kB 0), (.var kU 5), (.var kU 6)] 15 2
 (.call 29 [(.var kB 0), (.var kU 7), (.var kU 8)] 17 2
 (.ite (.bin .gtr .u64 (.var kU 13) (.var kU 15))
 (.call 30 [(.var kB 0), (.bin .rem .u8 (.var kB 1) (.lit 5)), (.var .bool 2), (.var kU 15), (.var kU 16), (.var kU 17), (.var kU 18)] 19 3
 (.call 30 [(.var kB 0), (.bin .rem .u8 (.var kB 1) (.lit 5)), (.var .bool 2), (.var kU 13), (.var kU 14), (.var kU 17), (.var kU 18)] 22 3
 (.ite (.bin .lss .u64 (.var kU 19) (.var kU 22))
 (.leaf (.bool (.lit 1)))
 (.ite (.bin .eql .u64 (.var kU 19) (.var kU 22))
 (.ite (.bin .leq .u64 (.var kU 20) (.var kU 23))
 (.leaf (.bool (.lit 1)))
 (.leaf (.bool (.lit 0))))
 (.leaf (.bool (.lit 0)))))))
 (.ite (.bin .eql .u64 (.var kU 13) (.var kU 15))
 (.ite (.bin .gtr .u64 (.var kU 14) (.var kU 16))
 (.call 30 [(.var kB 0), (.bin .rem .u8 (.var kB 1) (.lit 5)), (.var .bool 2), (.var kU 15), (.var kU 16), (.var kU 17), (.var kU 18)] 19 3
 (.call 30 [(.var kB 0), (.bin .rem .u8 (.var kB 1) (.lit 5)), (.var .bool 2), (.var kU 13), (.var kU 14), (.var kU 17), (.var kU 18)] 22 3
 (.ite (.bin .lss .u64 (.var kU 19) (.var kU 22))
 (.leaf (.bool (.lit 1)))
 (.ite (.bin .eql .u64 (.var kU 19) (.var kU 22))
 (.ite (.bin .leq .u64 (.var kU 20) (.var kU 23))
 (.leaf (.bool (.lit 1)))
 (.leaf (.bool (.lit 0))))
 (.leaf (.bool (.lit 0)))))))
 (.call 30 [(.var kB 0), (.bin .rem .u8 (.var kB 1) (.lit 5)), (.var .bool 2), (.var kU 13), (.var kU 14), (.var kU 17), (.var kU 18)] 19 3
 (.call 30 [(.var kB 0), (.bin .rem .u8 (.var kB 1) (.lit 5)), (.var .bool 2), (.var kU 15), (.var kU 16), (.var kU 17), (.var kU 18)] 22 3
 (.ite (.bin .lss .u64 (.var kU 19) (.var kU 22))
 (.leaf (.bool (.lit 1)))
 (.ite (.bin .eql .u64 (.var kU 19) (.var kU 22))
 (.ite (.bin .leq .u64 (.var kU 20) (.var kU 23))
 (.leaf (.bool (.lit 1)))
 (.leaf (.bool (.lit 0))))
 (.leaf (.bool (.lit 0))))))))
 (.call 30 [(.var kB 0), (.bin .rem .u8 (.var kB 1) (.lit 5)), (.var .bool 2), (.var kU 13), (.var kU 14), (.var kU 17), (.var kU 18)] 19 3
 (.call 30 [(.var kB 0), (.bin .rem .u8 (.var kB 1) (.lit 5)), (.var .bool 2), (.var kU 15), (.var kU 16), (.var kU 17), (.var kU 18)] 22 3
 (.ite (.bin .lss .u64 (.var kU 19) (.var kU 22))
 (.leaf (.bool (.lit 1)))
 (.ite (.bin .eql .u64 (.var kU 19) (.var kU 22))
 (.ite (.bin .leq .u64 (.var kU 20) (.var kU 23))
 (.leaf (.bool (.lit 1)))
 (.leaf (.bool (.lit 0))))
 (.leaf (.bool (.lit 0)))))))))))))))))))
theorem x_law19_MulOrder : execF (ctx E11) 3000 7 (uns c_law19_MulOrder.a (varsAt 0 (kindsOf c_law19_MulOrder.a))) (kindsOf c_law19_MulOrder.a).length = t_law19_MulOrder := by kernel_rfl
def F_law19_MulOrder : List Int → List Int := treeF (phiE E11) c_law19_MulOrder t_law19_MulOrder
theorem e_law19_MulOrder : EntOK Tryd.prog gG ⟨7, c_law19_MulOrder, F_law19_MulOrder⟩ := ent_of (ctx_ok E11_ok) 3000 x_law19_MulOrder (by kernel_rfl)
def c_law19_MulWide : Ct := ⟨[.sc kB, .agg [kB, .bool], .agg [kU, kU], .agg [kU, kU]], [.sc .bool]⟩
def t_law19_MulWide : Tr' SV :=
 (.ite (.bin .gtr .u8 (.var kB 0) (.lit 2))
 (.leaf (.bool (.lit 1)))
 (.call 42 [(.var kB 0), (.var kU 3), (.var kU 4)] 7 1
 (.ite (.not (.var .bool 7))
 (.leaf (.bool (.lit 1)))
 (.call 42 [(.var kB 0), (.var kU 5), (.var kU 6)] 8 1
 (.ite (.not (.var .bool 8))
 (.leaf (.bool (.lit 1)))
 (.call 43 [(.var kB 0), (.var kU 3), (.var kU 4)] 9 2
 (.call 43 [(.var kB 0), (.var kU 5), (.var kU 6)] 11 2
 (.call 30 [(.bin .add .u8 (.var kB 0) (.lit 1)), (.bin .rem .u8 (.var kB 1) (.lit 5)), (.var .bool 2), (.var kU 9), (.var kU 10), (.var kU 11), (.var kU 12)] 13 3
 (.ite (.bin .neq .u8 (.var kB 15) (.lit 0))
 (.leaf (.bool (.lit 0)))
 (.call 44 [(.bin .add .u8 (.var kB 0) (.lit 1)), (.var kU 13), (.var kU 14)] 16 5
 (.call 30 [(.var kB 0), (.bin .rem .u8 (.var kB 1) (.lit 5)), (.var .bool 2), (.var kU 3), (.var kU 4), (.var kU 5), (.var kU 6)] 21 3
 (.call 45 [(.var kB 0), (.bin .rem .u8 (.var kB 1) (.lit 5)), (.var .bool 2), (.var .bool 16), (.var kI 18), (.lit 0), (.lit 0), (.var kU 20), (.var kU 19)] 24 3
 (.ite (.and (.bin .eql .u64 (.var kU 21) (.var kU 24)) (.and (.bin .eql .u64 (.var kU 22) (.var kU 25)) (.and (.bin .eql .u8 (.var kB 23) (.var kB 26)) (.lit 1))))
 (.leaf (.bool (.lit 1)))
 (.leaf (.bool (.lit 0))))))))))))))))
theorem x_law19_MulWide : execF (ctx E11) 3000 15 (uns c_law19_MulWide.a (varsAt 0 (kindsOf c_law19_MulWide.a))) (kindsOf c_law19_MulWide.a).length = t_law19_MulWide := by kernel_rfl
def F_law19_MulWide : List Int → List Int := treeF (phiE E11) c_law19_MulWide t_law19_MulWide
theorem e_law19_MulWide : EntOK Tryd.prog gG ⟨15, c_law19_MulWide, F_law19_MulWide⟩ := ent_of (ctx_ok E11_ok) 3000 x_law19_MulWide (by kernel_rfl)
def E14 : List Ent := ⟨3, c_law25_ConvBack, F_law25_ConvBack⟩ :: ⟨7, c_law19_MulOrder, F_law19_MulOrder⟩ :: ⟨15, c_law19_MulWide, F_law19_MulWide⟩ :: E11
theorem E14_ok : ∀ e ∈ E14, EntOK Tryd.prog gG e := List.forall_mem_cons.2 ⟨e_law25_ConvBack, List.forall_mem_cons.2 ⟨e_law19_MulOrder, List.forall_mem_cons.2 ⟨e_law19_MulWide, E11_ok⟩⟩⟩
theorem ph_E11_conv_Conv : phiE E11 17 = F_conv_Conv := phiE_hit (e := ⟨17, _, F_conv_Conv⟩) rfl
theorem ph_E11_conv_Fits : phiE E11 18 = F_conv_Fits := phiE_hit (e := ⟨18, _, F_conv_Fits⟩) rfl
theorem ph_E11_class_NaN : phiE E11 20 = F_class_NaN := phiE_hit (e := ⟨20, _, F_class_NaN⟩) rfl
theorem ph_E11_format_Cut : phiE E11 21 = F_format_Cut := phiE_hit (e := ⟨21, _, F_format_Cut⟩) rfl
theorem ph_E11_class_Of : phiE E11 26 = F_class_Of := phiE_hit (e := ⟨26, _, F_class_Of⟩) rfl
theorem ph_E11_law19_size : phiE E11 29 = F_law19_size := phiE_hit (e := ⟨29, _, F_law19_size⟩) rfl
theorem ph_E11_mul_Mul : phiE E11 30 = F_mul_Mul := phiE_hit (e := ⟨30, _, F_mul_Mul⟩) rfl
theorem ph_E11_class_Finite : phiE E11 42 = F_class_Finite := phiE_hit (e := ⟨42, _, F_class_Finite⟩) rfl
theorem ph_E11_law19_widened : phiE E11 43 = F_law19_widened := phiE_hit (e := ⟨43, _, F_law19_widened⟩) rfl
theorem ph_E11_fields_Unpack : phiE E11 44 = F_fields_Unpack := phiE_hit (e := ⟨44, _, F_fields_Unpack⟩) rfl
theorem ph_E11_pack_Round : phiE E11 45 = F_pack_Round := phiE_hit (e := ⟨45, _, F_pack_Round⟩) rfl
end Go.Proofs.YtikjbocagnolmaaDoor
