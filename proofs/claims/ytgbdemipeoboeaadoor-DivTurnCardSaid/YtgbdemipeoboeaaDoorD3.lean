import Derived.Test.YtgbdemipeoboeaaDoorD2
/- Contracts of this seat's functions: their trees, made by a program (sxgen), and that the executor answers just these. -/
namespace Go.Proofs.YtgbdemipeoboeaaDoor
set_option linter.unusedVariables false
set_option maxRecDepth 100000
open Go.RowKit
theorem ok_D3 : SOK (ctxA E14 M0 S1) eE := ctxA_ok E14_ok M0_ok S1_ok (by kernel_rfl)
def c_law21_DivOne : Ct := ⟨[.sc kB, .agg [kB, .bool], .agg [kU, kU]], [.sc .bool]⟩
def t_law21_DivOne : Tr' SV :=
 (.ite (.not (.bin .lss .i64 (.var kB 0) (.lit 4)))
 (.call 14 [(.var kB 0), (.var kB 1), (.var .bool 2), (.var kU 3), (.var kU 4), (.var kU 3), (.var kU 4)] 5 3
 (.ite (.and (.bin .eql .u64 (.var kU 5) (.lit 0)) (.and (.bin .eql .u64 (.var kU 6) (.lit 0)) (.and (.bin .eql .u8 (.var kB 7) (.lit 0)) (.lit 1))))
 (.leaf (.bool (.lit 1)))
 (.leaf (.bool (.lit 0)))))
 (.ite (.not (.bin .leq .u8 (.var kB 1) (.lit 4)))
 (.call 14 [(.var kB 0), (.var kB 1), (.var .bool 2), (.var kU 3), (.var kU 4), (.var kU 3), (.var kU 4)] 5 3
 (.ite (.and (.bin .eql .u64 (.var kU 5) (.lit 0)) (.and (.bin .eql .u64 (.var kU 6) (.lit 0)) (.and (.bin .eql .u8 (.var kB 7) (.lit 0)) (.lit 1))))
 (.leaf (.bool (.lit 1)))
 (.leaf (.bool (.lit 0)))))
 (.call 17 [(.var kB 0)] 5 1
 (.call 16 [(.var kB 0), (.lit 0), (.var kI 5), (.lit 0), (.lit 0)] 6 2
 (.call 18 [(.var kB 0), (.var kU 3), (.var kU 4)] 8 1
 (.ite (.not (.var .bool 8))
 (.call 14 [(.var kB 0), (.var kB 1), (.var .bool 2), (.var kU 3), (.var kU 4), (.var kU 6), (.var kU 7)] 9 3
 (.call 19 [(.var kB 0), (.var kU 3), (.var kU 4)] 12 2
 (.ite (.not (.and (.bin .eql .u64 (.var kU 9) (.var kU 12)) (.and (.bin .eql .u64 (.var kU 10) (.var kU 13)) (.and (.bin .eql .u8 (.var kB 11) (.lit 0)) (.lit 1)))))
 (.leaf (.bool (.lit 0)))
 (.call 20 [(.var kB 0), (.var kU 3), (.var kU 4)] 14 1
 (.ite (.not (.var .bool 14))
 (.leaf (.bool (.lit 1)))
 (.call 14 [(.var kB 0), (.var kB 1), (.var .bool 2), (.var kU 3), (.var kU 4), (.var kU 3), (.var kU 4)] 15 3
 (.ite (.and (.bin .eql .u64 (.var kU 15) (.var kU 6)) (.and (.bin .eql .u64 (.var kU 16) (.var kU 7)) (.and (.bin .eql .u8 (.var kB 17) (.lit 0)) (.lit 1))))
 (.leaf (.bool (.lit 1)))
 (.leaf (.bool (.lit 0))))))))))
 (.call 20 [(.var kB 0), (.var kU 3), (.var kU 4)] 9 1
 (.ite (.not (.var .bool 9))
 (.leaf (.bool (.lit 1)))
 (.call 14 [(.var kB 0), (.var kB 1), (.var .bool 2), (.var kU 3), (.var kU 4), (.var kU 3), (.var kU 4)] 10 3
 (.ite (.and (.bin .eql .u64 (.var kU 10) (.var kU 6)) (.and (.bin .eql .u64 (.var kU 11) (.var kU 7)) (.and (.bin .eql .u8 (.var kB 12) (.lit 0)) (.lit 1))))
 (.leaf (.bool (.lit 1)))
 (.leaf (.bool (.lit 0)))))))))))))
theorem x_law21_DivOne : execF (ctxA E14 M0 S1) 3000 3 (uns c_law21_DivOne.a (varsAt 0 (kindsOf c_law21_DivOne.a))) (kindsOf c_law21_DivOne.a).length = t_law21_DivOne := by kernel_rfl
def F_law21_DivOne : List Int → List Int := treeF (phiA E14 M0 S1) c_law21_DivOne t_law21_DivOne
theorem e_law21_DivOne : EntOK Tryd.prog gG ⟨3, c_law21_DivOne, F_law21_DivOne⟩ := ent_any ok_D3 3000 x_law21_DivOne (by kernel_rfl)
def c_law21_DivSpecial : Ct := ⟨[.sc kB, .agg [kB, .bool], .agg [kU, kU], .sc .bool], [.sc .bool]⟩
def t_law21_DivSpecial : Tr' SV :=
 (.call 20 [(.var kB 0), (.var kU 3), (.var kU 4)] 6 1
 (.ite (.not (.var .bool 6))
 (.leaf (.bool (.lit 1)))
 (.ite (.not (.bin .leq .u8 (.var kB 1) (.lit 4)))
 (.leaf (.bool (.lit 1)))
 (.call 21 [(.var kB 0), (.var kU 3), (.var kU 4)] 7 2
 (.call 22 [(.var kB 0), (.var .bool 5)] 9 2
 (.call 23 [(.var kB 0), (.var .bool 5)] 11 2
 (.call 22 [(.var kB 0), (.not (.beq (.var .bool 5) (.var .bool 8)))] 13 2
 (.call 23 [(.var kB 0), (.not (.beq (.var .bool 5) (.var .bool 8)))] 15 2
 (.call 14 [(.var kB 0), (.var kB 1), (.var .bool 2), (.var kU 3), (.var kU 4), (.var kU 9), (.var kU 10)] 17 3
 (.ite (.and (.bin .eql .u64 (.var kU 17) (.var kU 15)) (.and (.bin .eql .u64 (.var kU 18) (.var kU 16)) (.and (.bin .eql .u8 (.var kB 19) (.lit 2)) (.lit 1))))
 (.call 14 [(.var kB 0), (.var kB 1), (.var .bool 2), (.var kU 9), (.var kU 10), (.var kU 3), (.var kU 4)] 20 3
 (.ite (.and (.bin .eql .u64 (.var kU 20) (.var kU 13)) (.and (.bin .eql .u64 (.var kU 21) (.var kU 14)) (.and (.bin .eql .u8 (.var kB 22) (.lit 0)) (.lit 1))))
 (.call 14 [(.var kB 0), (.var kB 1), (.var .bool 2), (.var kU 3), (.var kU 4), (.var kU 11), (.var kU 12)] 23 3
 (.ite (.and (.bin .eql .u64 (.var kU 23) (.var kU 13)) (.and (.bin .eql .u64 (.var kU 24) (.var kU 14)) (.and (.bin .eql .u8 (.var kB 25) (.lit 0)) (.lit 1))))
 (.call 14 [(.var kB 0), (.var kB 1), (.var .bool 2), (.var kU 11), (.var kU 12), (.var kU 3), (.var kU 4)] 26 3
 (.ite (.and (.bin .eql .u64 (.var kU 26) (.var kU 15)) (.and (.bin .eql .u64 (.var kU 27) (.var kU 16)) (.and (.bin .eql .u8 (.var kB 28) (.lit 0)) (.lit 1))))
 (.call 14 [(.var kB 0), (.var kB 1), (.var .bool 2), (.var kU 9), (.var kU 10), (.var kU 9), (.var kU 10)] 29 3
 (.ite (.bin .eql .u8 (.var kB 31) (.lit 1))
 (.call 14 [(.var kB 0), (.var kB 1), (.var .bool 2), (.var kU 11), (.var kU 12), (.var kU 11), (.var kU 12)] 32 3
 (.ite (.bin .eql .u8 (.var kB 34) (.lit 1))
 (.call 14 [(.var kB 0), (.var kB 1), (.var .bool 2), (.var kU 11), (.var kU 12), (.var kU 9), (.var kU 10)] 35 3
 (.call 23 [(.var kB 0), (.lit 0)] 38 2
 (.ite (.and (.bin .eql .u64 (.var kU 35) (.var kU 38)) (.and (.bin .eql .u64 (.var kU 36) (.var kU 39)) (.and (.bin .eql .u8 (.var kB 37) (.lit 0)) (.lit 1))))
 (.call 14 [(.var kB 0), (.var kB 1), (.var .bool 2), (.var kU 9), (.var kU 10), (.var kU 11), (.var kU 12)] 40 3
 (.call 22 [(.var kB 0), (.lit 0)] 43 2
 (.ite (.and (.bin .eql .u64 (.var kU 40) (.var kU 43)) (.and (.bin .eql .u64 (.var kU 41) (.var kU 44)) (.and (.bin .eql .u8 (.var kB 42) (.lit 0)) (.lit 1))))
 (.leaf (.bool (.lit 1)))
 (.leaf (.bool (.lit 0))))))
 (.leaf (.bool (.lit 0))))))
 (.leaf (.bool (.lit 0)))))
 (.leaf (.bool (.lit 0)))))
 (.leaf (.bool (.lit 0)))))
 (.leaf (.bool (.lit 0)))))
 (.leaf (.bool (.lit 0)))))
 (.leaf (.bool (.lit 0)))))))))))))
theorem x_law21_DivSpecial : execF (ctxA E14 M0 S1) 3000 4 (uns c_law21_DivSpecial.a (varsAt 0 (kindsOf c_law21_DivSpecial.a))) (kindsOf c_law21_DivSpecial.a).length = t_law21_DivSpecial := by kernel_rfl
def F_law21_DivSpecial : List Int → List Int := treeF (phiA E14 M0 S1) c_law21_DivSpecial t_law21_DivSpecial
theorem e_law21_DivSpecial : EntOK Tryd.prog gG ⟨4, c_law21_DivSpecial, F_law21_DivSpecial⟩ := ent_any ok_D3 3000 x_law21_DivSpecial (by kernel_rfl)
def c_law21_DivKnown : Ct := ⟨[], [.sc .bool]⟩
def t_law21_DivKnown : Tr' SV :=
 (.leaf (.bool (.lit 1)))
theorem x_law21_DivKnown : execF (ctxA E14 M0 S1) 3000 5 (uns c_law21_DivKnown.a (varsAt 0 (kindsOf c_law21_DivKnown.a))) (kindsOf c_law21_DivKnown.a).length = t_law21_DivKnown := by kernel_rfl
def F_law21_DivKnown : List Int → List Int := treeF (phiA E14 M0 S1) c_law21_DivKnown t_law21_DivKnown
theorem e_law21_DivKnown : EntOK Tryd.prog gG ⟨5, c_law21_DivKnown, F_law21_DivKnown⟩ := ent_any ok_D3 3000 x_law21_DivKnown (by kernel_rfl)
def c_law21_DivTurn : Ct := ⟨[.sc kB, .agg [kB, .bool], .agg [kU, kU], .agg [kU, kU]], [.sc .bool]⟩
def t_law21_DivTurn : Tr' SV :=
 (.ite (.not (.bin .lss .i64 (.var kB 0) (.lit 4)))
 (.leaf (.bool (.lit 1)))
 (.ite (.not (.bin .leq .u8 (.var kB 1) (.lit 4)))
 (.leaf (.bool (.lit 1)))
 (.call 18 [(.var kB 0), (.var kU 3), (.var kU 4)] 7 1
 (.ite (.var .bool 7)
 (.leaf (.bool (.lit 1)))
 (.call 18 [(.var kB 0), (.var kU 5), (.var kU 6)] 8 1
 (.ite (.var .bool 8)
 (.leaf (.bool (.lit 1)))
 (.call 14 [(.var kB 0), (.var kB 1), (.var .bool 2), (.var kU 3), (.var kU 4), (.var kU 5), (.var kU 6)] 9 3
 (.call 27 [(.var kB 0), (.var kU 3), (.var kU 4)] 12 2
 (.call 14 [(.var kB 0), (.ite (.bin .eql .u8 (.var kB 1) (.lit 2)) (.lit 3) (.ite (.bin .eql .u8 (.var kB 1) (.lit 3)) (.lit 2) (.var kB 1))), (.var .bool 2), (.var kU 12), (.var kU 13), (.var kU 5), (.var kU 6)] 14 3
 (.call 27 [(.var kB 0), (.var kU 5), (.var kU 6)] 17 2
 (.call 14 [(.var kB 0), (.ite (.bin .eql .u8 (.var kB 1) (.lit 2)) (.lit 3) (.ite (.bin .eql .u8 (.var kB 1) (.lit 3)) (.lit 2) (.var kB 1))), (.var .bool 2), (.var kU 3), (.var kU 4), (.var kU 17), (.var kU 18)] 19 3
 (.ite (.not (.and (.bin .eql .u64 (.var kU 14) (.var kU 19)) (.and (.bin .eql .u64 (.var kU 15) (.var kU 20)) (.and (.bin .eql .u8 (.var kB 16) (.var kB 21)) (.lit 1)))))
 (.leaf (.bool (.lit 0)))
 (.ite (.bin .neq .u8 (.var kB 11) (.var kB 16))
 (.leaf (.bool (.lit 0)))
 (.call 27 [(.var kB 0), (.var kU 3), (.var kU 4)] 22 2
 (.call 27 [(.var kB 0), (.var kU 5), (.var kU 6)] 24 2
 (.call 14 [(.var kB 0), (.var kB 1), (.var .bool 2), (.var kU 22), (.var kU 23), (.var kU 24), (.var kU 25)] 26 3
 (.ite (.not (.and (.bin .eql .u64 (.var kU 9) (.var kU 26)) (.and (.bin .eql .u64 (.var kU 10) (.var kU 27)) (.and (.bin .eql .u8 (.var kB 11) (.var kB 28)) (.lit 1)))))
 (.leaf (.bool (.lit 0)))
 (.call 18 [(.var kB 0), (.var kU 9), (.var kU 10)] 29 1
 (.ite (.var .bool 29)
 (.ite (.and (.bin .eql .u64 (.var kU 9) (.var kU 14)) (.and (.bin .eql .u64 (.var kU 10) (.var kU 15)) (.and (.bin .eql .u8 (.var kB 11) (.var kB 16)) (.lit 1))))
 (.leaf (.bool (.lit 1)))
 (.leaf (.bool (.lit 0))))
 (.call 27 [(.var kB 0), (.var kU 9), (.var kU 10)] 30 2
 (.ite (.and (.bin .eql .u64 (.var kU 14) (.var kU 30)) (.and (.bin .eql .u64 (.var kU 15) (.var kU 31)) (.lit 1)))
 (.leaf (.bool (.lit 1)))
 (.leaf (.bool (.lit 0))))))))))))))))))))))))
theorem x_law21_DivTurn : execF (ctxA E14 M0 S1) 3000 6 (uns c_law21_DivTurn.a (varsAt 0 (kindsOf c_law21_DivTurn.a))) (kindsOf c_law21_DivTurn.a).length = t_law21_DivTurn := by kernel_rfl
def F_law21_DivTurn : List Int → List Int := treeF (phiA E14 M0 S1) c_law21_DivTurn t_law21_DivTurn
theorem e_law21_DivTurn : EntOK Tryd.prog gG ⟨6, c_law21_DivTurn, F_law21_DivTurn⟩ := ent_any ok_D3 3000 x_law21_DivTurn (by kernel_rfl)
def E15 : List Ent := ⟨3, c_law21_DivOne, F_law21_DivOne⟩ :: ⟨4, c_law21_DivSpecial, F_law21_DivSpecial⟩ :: ⟨5, c_law21_DivKnown, F_law21_DivKnown⟩ :: ⟨6, c_law21_DivTurn, F_law21_DivTurn⟩ :: E14
theorem E15_ok : ∀ e ∈ E15, EntOK Tryd.prog gG e := List.forall_mem_cons.2 ⟨e_law21_DivOne, List.forall_mem_cons.2 ⟨e_law21_DivSpecial, List.forall_mem_cons.2 ⟨e_law21_DivKnown, List.forall_mem_cons.2 ⟨e_law21_DivTurn, E14_ok⟩⟩⟩⟩
theorem ph_D3_div_Div : phiA E14 M0 S1 14 = F_div_Div := phiA_L (e := ⟨14, _, F_div_Div⟩) rfl rfl rfl
theorem ph_D3_format_Emax : phiA E14 M0 S1 17 = F_format_Emax := phiA_L (e := ⟨17, _, F_format_Emax⟩) rfl rfl rfl
theorem ph_D3_format_Make : phiA E14 M0 S1 16 = F_format_Make := phiA_L (e := ⟨16, _, F_format_Make⟩) rfl rfl rfl
theorem ph_D3_class_NaN : phiA E14 M0 S1 18 = F_class_NaN := phiA_L (e := ⟨18, _, F_class_NaN⟩) rfl rfl rfl
theorem ph_D3_format_Cut : phiA E14 M0 S1 19 = F_format_Cut := phiA_L (e := ⟨19, _, F_format_Cut⟩) rfl rfl rfl
theorem ph_D3_law21_plain : phiA E14 M0 S1 20 = F_law21_plain := phiA_L (e := ⟨20, _, F_law21_plain⟩) rfl rfl rfl
theorem ph_D3_class_Of : phiA E14 M0 S1 21 = F_class_Of := phiA_L (e := ⟨21, _, F_class_Of⟩) rfl rfl rfl
theorem ph_D3_format_Nought : phiA E14 M0 S1 22 = F_format_Nought := phiA_L (e := ⟨22, _, F_format_Nought⟩) rfl rfl rfl
theorem ph_D3_format_Inf : phiA E14 M0 S1 23 = F_format_Inf := phiA_L (e := ⟨23, _, F_format_Inf⟩) rfl rfl rfl
theorem ph_D3_addsub_Turn : phiA E14 M0 S1 27 = F_addsub_Turn := phiA_L (e := ⟨27, _, F_addsub_Turn⟩) rfl rfl rfl
end Go.Proofs.YtgbdemipeoboeaaDoor
