import Derived.Test.YtikjbocagnolmaaDoorH1
/- Contracts of this seat's functions: their trees, made by a program (sxgen), and that the executor answers just these. -/
namespace Go.Proofs.YtikjbocagnolmaaDoor
set_option linter.unusedVariables false
set_option maxRecDepth 100000
open Go.RowKit
def c_law25_ConvTurn : Ct := ⟨[.sc kB, .sc kB, .agg [kB, .bool], .agg [kU, kU]], [.sc .bool]⟩
def t_law25_ConvTurn : Tr' SV :=
 (.ite (.not (.bin .lss .i64 (.var kB 0) (.lit 4)))
 (.leaf (.bool (.lit 1)))
 (.ite (.not (.bin .lss .i64 (.var kB 1) (.lit 4)))
 (.leaf (.bool (.lit 1)))
 (.ite (.not (.bin .leq .u8 (.var kB 2) (.lit 4)))
 (.leaf (.bool (.lit 1)))
 (.call 17 [(.var kB 0), (.var kB 1), (.var kB 2), (.var .bool 3), (.var kU 4), (.var kU 5)] 6 3
 (.call 25 [(.var kB 0), (.var kU 4), (.var kU 5)] 9 2
 (.call 17 [(.var kB 0), (.var kB 1), (.ite (.bin .eql .u8 (.var kB 2) (.lit 2)) (.lit 3) (.ite (.bin .eql .u8 (.var kB 2) (.lit 3)) (.lit 2) (.var kB 2))), (.var .bool 3), (.var kU 9), (.var kU 10)] 11 3
 (.call 25 [(.var kB 1), (.var kU 6), (.var kU 7)] 14 2
 (.ite (.and (.bin .eql .u64 (.var kU 11) (.var kU 14)) (.and (.bin .eql .u64 (.var kU 12) (.var kU 15)) (.and (.bin .eql .u8 (.var kB 13) (.var kB 8)) (.lit 1))))
 (.leaf (.bool (.lit 1)))
 (.leaf (.bool (.lit 0)))))))))))
theorem x_law25_ConvTurn : execF (ctx E11) 3000 6 (uns c_law25_ConvTurn.a (varsAt 0 (kindsOf c_law25_ConvTurn.a))) (kindsOf c_law25_ConvTurn.a).length = t_law25_ConvTurn := by kernel_rfl
def F_law25_ConvTurn : List Int → List Int := treeF (phiE E11) c_law25_ConvTurn t_law25_ConvTurn
theorem e_law25_ConvTurn : EntOK Tryd.prog gG ⟨6, c_law25_ConvTurn, F_law25_ConvTurn⟩ := ent_of (ctx_ok E11_ok) 3000 x_law25_ConvTurn (by kernel_rfl)
def c_law19_MulSpecial : Ct := ⟨[.sc kB, .agg [kB, .bool], .agg [kU, kU], .sc .bool], [.sc .bool]⟩
def t_law19_MulSpecial : Tr' SV :=
 (.ite (.not (.bin .lss .i64 (.var kB 0) (.lit 4)))
 (.leaf (.bool (.lit 1)))
 (.ite (.not (.bin .leq .u8 (.var kB 1) (.lit 4)))
 (.leaf (.bool (.lit 1)))
 (.call 20 [(.var kB 0), (.var kU 3), (.var kU 4)] 6 1
 (.ite (.var .bool 6)
 (.leaf (.bool (.lit 1)))
 (.call 26 [(.var kB 0), (.var kU 3), (.var kU 4)] 7 2
 (.call 31 [(.var kB 0), (.var .bool 5)] 9 2
 (.call 30 [(.var kB 0), (.var kB 1), (.var .bool 2), (.var kU 3), (.var kU 4), (.var kU 9), (.var kU 10)] 11 3
 (.call 32 [(.var kB 0), (.var .bool 5)] 14 2
 (.call 30 [(.var kB 0), (.var kB 1), (.var .bool 2), (.var kU 3), (.var kU 4), (.var kU 14), (.var kU 15)] 16 3
 (.ite (.bin .eql .u8 (.var kB 7) (.lit 3))
 (.call 20 [(.var kB 0), (.var kU 11), (.var kU 12)] 19 1
 (.ite (.var .bool 19)
 (.ite (.bin .eql .u8 (.var kB 13) (.lit 1))
 (.call 32 [(.var kB 0), (.not (.beq (.var .bool 5) (.var .bool 8)))] 20 2
 (.ite (.and (.bin .eql .u64 (.var kU 16) (.var kU 20)) (.and (.bin .eql .u64 (.var kU 17) (.var kU 21)) (.and (.bin .eql .u8 (.var kB 18) (.lit 0)) (.lit 1))))
 (.leaf (.bool (.lit 1)))
 (.leaf (.bool (.lit 0)))))
 (.leaf (.bool (.lit 0))))
 (.leaf (.bool (.lit 0)))))
 (.call 31 [(.var kB 0), (.not (.beq (.var .bool 5) (.var .bool 8)))] 19 2
 (.ite (.not (.and (.bin .eql .u64 (.var kU 11) (.var kU 19)) (.and (.bin .eql .u64 (.var kU 12) (.var kU 20)) (.and (.bin .eql .u8 (.var kB 13) (.lit 0)) (.lit 1)))))
 (.leaf (.bool (.lit 0)))
 (.ite (.bin .eql .u8 (.var kB 7) (.lit 0))
 (.call 20 [(.var kB 0), (.var kU 16), (.var kU 17)] 21 1
 (.ite (.var .bool 21)
 (.ite (.bin .eql .u8 (.var kB 18) (.lit 1))
 (.leaf (.bool (.lit 1)))
 (.leaf (.bool (.lit 0))))
 (.leaf (.bool (.lit 0)))))
 (.call 32 [(.var kB 0), (.not (.beq (.var .bool 5) (.var .bool 8)))] 21 2
 (.ite (.and (.bin .eql .u64 (.var kU 16) (.var kU 21)) (.and (.bin .eql .u64 (.var kU 17) (.var kU 22)) (.and (.bin .eql .u8 (.var kB 18) (.lit 0)) (.lit 1))))
 (.leaf (.bool (.lit 1)))
 (.leaf (.bool (.lit 0))))))))))))))))))
theorem x_law19_MulSpecial : execF (ctx E11) 3000 8 (uns c_law19_MulSpecial.a (varsAt 0 (kindsOf c_law19_MulSpecial.a))) (kindsOf c_law19_MulSpecial.a).length = t_law19_MulSpecial := by kernel_rfl
def F_law19_MulSpecial : List Int → List Int := treeF (phiE E11) c_law19_MulSpecial t_law19_MulSpecial
theorem e_law19_MulSpecial : EntOK Tryd.prog gG ⟨8, c_law19_MulSpecial, F_law19_MulSpecial⟩ := ent_of (ctx_ok E11_ok) 3000 x_law19_MulSpecial (by kernel_rfl)
def c_law19_MulTurn : Ct := ⟨[.sc kB, .agg [kB, .bool], .agg [kU, kU], .agg [kU, kU]], [.sc .bool]⟩
def t_law19_MulTurn : Tr' SV :=
 (.ite (.not (.bin .lss .i64 (.var kB 0) (.lit 4)))
 (.leaf (.bool (.lit 1)))
 (.ite (.not (.bin .leq .u8 (.var kB 1) (.lit 4)))
 (.leaf (.bool (.lit 1)))
 (.call 20 [(.var kB 0), (.var kU 3), (.var kU 4)] 7 1
 (.ite (.var .bool 7)
 (.leaf (.bool (.lit 1)))
 (.call 20 [(.var kB 0), (.var kU 5), (.var kU 6)] 8 1
 (.ite (.var .bool 8)
 (.leaf (.bool (.lit 1)))
 (.call 30 [(.var kB 0), (.var kB 1), (.var .bool 2), (.var kU 3), (.var kU 4), (.var kU 5), (.var kU 6)] 9 3
 (.call 25 [(.var kB 0), (.var kU 3), (.var kU 4)] 12 2
 (.call 30 [(.var kB 0), (.ite (.bin .eql .u8 (.var kB 1) (.lit 2)) (.lit 3) (.ite (.bin .eql .u8 (.var kB 1) (.lit 3)) (.lit 2) (.var kB 1))), (.var .bool 2), (.var kU 12), (.var kU 13), (.var kU 5), (.var kU 6)] 14 3
 (.call 30 [(.var kB 0), (.var kB 1), (.var .bool 2), (.var kU 5), (.var kU 6), (.var kU 3), (.var kU 4)] 17 3
 (.ite (.not (.and (.bin .eql .u64 (.var kU 9) (.var kU 17)) (.and (.bin .eql .u64 (.var kU 10) (.var kU 18)) (.and (.bin .eql .u8 (.var kB 11) (.var kB 19)) (.lit 1)))))
 (.leaf (.bool (.lit 0)))
 (.ite (.bin .neq .u8 (.var kB 11) (.var kB 16))
 (.leaf (.bool (.lit 0)))
 (.call 25 [(.var kB 0), (.var kU 3), (.var kU 4)] 20 2
 (.call 25 [(.var kB 0), (.var kU 5), (.var kU 6)] 22 2
 (.call 30 [(.var kB 0), (.var kB 1), (.var .bool 2), (.var kU 20), (.var kU 21), (.var kU 22), (.var kU 23)] 24 3
 (.ite (.not (.and (.bin .eql .u64 (.var kU 9) (.var kU 24)) (.and (.bin .eql .u64 (.var kU 10) (.var kU 25)) (.and (.bin .eql .u8 (.var kB 11) (.var kB 26)) (.lit 1)))))
 (.leaf (.bool (.lit 0)))
 (.call 20 [(.var kB 0), (.var kU 9), (.var kU 10)] 27 1
 (.ite (.var .bool 27)
 (.ite (.and (.bin .eql .u64 (.var kU 14) (.var kU 9)) (.and (.bin .eql .u64 (.var kU 15) (.var kU 10)) (.and (.bin .eql .u8 (.var kB 16) (.var kB 11)) (.lit 1))))
 (.leaf (.bool (.lit 1)))
 (.leaf (.bool (.lit 0))))
 (.call 25 [(.var kB 0), (.var kU 9), (.var kU 10)] 28 2
 (.ite (.and (.bin .eql .u64 (.var kU 14) (.var kU 28)) (.and (.bin .eql .u64 (.var kU 15) (.var kU 29)) (.lit 1)))
 (.leaf (.bool (.lit 1)))
 (.leaf (.bool (.lit 0)))))))))))))))))))))))
theorem x_law19_MulTurn : execF (ctx E11) 3000 13 (uns c_law19_MulTurn.a (varsAt 0 (kindsOf c_law19_MulTurn.a))) (kindsOf c_law19_MulTurn.a).length = t_law19_MulTurn := by kernel_rfl
def F_law19_MulTurn : List Int → List Int := treeF (phiE E11) c_law19_MulTurn t_law19_MulTurn
theorem e_law19_MulTurn : EntOK Tryd.prog gG ⟨13, c_law19_MulTurn, F_law19_MulTurn⟩ := ent_of (ctx_ok E11_ok) 3000 x_law19_MulTurn (by kernel_rfl)
def E13 : List Ent := ⟨6, c_law25_ConvTurn, F_law25_ConvTurn⟩ :: ⟨8, c_law19_MulSpecial, F_law19_MulSpecial⟩ :: ⟨13, c_law19_MulTurn, F_law19_MulTurn⟩ :: E11
theorem E13_ok : ∀ e ∈ E13, EntOK Tryd.prog gG e := List.forall_mem_cons.2 ⟨e_law25_ConvTurn, List.forall_mem_cons.2 ⟨e_law19_MulSpecial, List.forall_mem_cons.2 ⟨e_law19_MulTurn, E11_ok⟩⟩⟩
theorem ph_E11_conv_Conv : phiE E11 17 = F_conv_Conv := phiE_hit (e := ⟨17, _, F_conv_Conv⟩) rfl
theorem ph_E11_addsub_Turn : phiE E11 25 = F_addsub_Turn := phiE_hit (e := ⟨25, _, F_addsub_Turn⟩) rfl
theorem ph_E11_class_NaN : phiE E11 20 = F_class_NaN := phiE_hit (e := ⟨20, _, F_class_NaN⟩) rfl
theorem ph_E11_class_Of : phiE E11 26 = F_class_Of := phiE_hit (e := ⟨26, _, F_class_Of⟩) rfl
theorem ph_E11_format_Nought : phiE E11 31 = F_format_Nought := phiE_hit (e := ⟨31, _, F_format_Nought⟩) rfl
theorem ph_E11_mul_Mul : phiE E11 30 = F_mul_Mul := phiE_hit (e := ⟨30, _, F_mul_Mul⟩) rfl
theorem ph_E11_format_Inf : phiE E11 32 = F_format_Inf := phiE_hit (e := ⟨32, _, F_format_Inf⟩) rfl
end Go.Proofs.YtikjbocagnolmaaDoor
