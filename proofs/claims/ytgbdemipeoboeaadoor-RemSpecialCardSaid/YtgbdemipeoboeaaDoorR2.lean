import Derived.Test.YtgbdemipeoboeaaDoorR1
/- Contracts of this seat's functions: their trees, made by a program (sxgen), and that the executor answers just these. -/
namespace Go.Proofs.YtgbdemipeoboeaaDoor
set_option linter.unusedVariables false
set_option maxRecDepth 100000
open Go.RowKit
theorem ok_R2 : SOK (ctxA E21 M0 S1) eE := ctxA_ok E21_ok M0_ok S1_ok (by kernel_rfl)
def c_law23_RemSpecial : Ct := ⟨[.sc kB, .agg [kU, kU], .sc .bool], [.sc .bool]⟩
def t_law23_RemSpecial : Tr' SV :=
 (.ite (.not (.bin .lss .i64 (.var kB 0) (.lit 4)))
 (.call 34 [(.var kB 0), (.var kU 1), (.var kU 2), (.var kU 1), (.var kU 2)] 4 3
 (.ite (.and (.bin .eql .u64 (.var kU 4) (.lit 0)) (.and (.bin .eql .u64 (.var kU 5) (.lit 0)) (.and (.bin .eql .u8 (.var kB 6) (.lit 0)) (.lit 1))))
 (.leaf (.bool (.lit 1)))
 (.leaf (.bool (.lit 0)))))
 (.call 21 [(.var kB 0), (.var kU 1), (.var kU 2)] 4 2
 (.call 22 [(.var kB 0), (.var .bool 3)] 6 2
 (.call 34 [(.var kB 0), (.var kU 1), (.var kU 2), (.var kU 6), (.var kU 7)] 8 3
 (.call 23 [(.var kB 0), (.var .bool 3)] 11 2
 (.call 34 [(.var kB 0), (.var kU 11), (.var kU 12), (.var kU 1), (.var kU 2)] 13 3
 (.call 23 [(.var kB 0), (.var .bool 3)] 16 2
 (.call 34 [(.var kB 0), (.var kU 1), (.var kU 2), (.var kU 16), (.var kU 17)] 18 3
 (.call 22 [(.var kB 0), (.var .bool 3)] 21 2
 (.call 34 [(.var kB 0), (.var kU 21), (.var kU 22), (.var kU 1), (.var kU 2)] 23 3
 (.ite (.bin .geq .u8 (.var kB 4) (.lit 4))
 (.call 18 [(.var kB 0), (.var kU 18), (.var kU 19)] 26 1
 (.ite (.var .bool 26)
 (.ite (.and (.bin .eql .u64 (.var kU 18) (.var kU 23)) (.and (.bin .eql .u64 (.var kU 19) (.var kU 24)) (.and (.bin .eql .u8 (.var kB 20) (.var kB 25)) (.lit 1))))
 (.ite (.and (.bin .eql .u64 (.var kU 18) (.var kU 8)) (.and (.bin .eql .u64 (.var kU 19) (.var kU 9)) (.and (.bin .eql .u8 (.var kB 20) (.var kB 10)) (.lit 1))))
 (.ite (.and (.bin .eql .u64 (.var kU 18) (.var kU 13)) (.and (.bin .eql .u64 (.var kU 19) (.var kU 14)) (.and (.bin .eql .u8 (.var kB 20) (.var kB 15)) (.lit 1))))
 (.ite (.beq (.bin .eql .u8 (.var kB 20) (.lit 1)) (.bin .eql .u8 (.var kB 4) (.lit 5)))
 (.leaf (.bool (.lit 1)))
 (.leaf (.bool (.lit 0))))
 (.leaf (.bool (.lit 0))))
 (.leaf (.bool (.lit 0))))
 (.leaf (.bool (.lit 0))))
 (.leaf (.bool (.lit 0)))))
 (.call 18 [(.var kB 0), (.var kU 8), (.var kU 9)] 26 1
 (.ite (.not (.var .bool 26))
 (.leaf (.bool (.lit 0)))
 (.call 18 [(.var kB 0), (.var kU 13), (.var kU 14)] 27 1
 (.ite (.not (.var .bool 27))
 (.leaf (.bool (.lit 0)))
 (.ite (.bin .neq .u8 (.var kB 10) (.lit 1))
 (.leaf (.bool (.lit 0)))
 (.ite (.bin .neq .u8 (.var kB 15) (.lit 1))
 (.leaf (.bool (.lit 0)))
 (.ite (.bin .eql .u8 (.var kB 4) (.lit 3))
 (.call 18 [(.var kB 0), (.var kU 18), (.var kU 19)] 28 1
 (.ite (.var .bool 28)
 (.call 22 [(.var kB 0), (.var .bool 3)] 29 2
 (.ite (.and (.bin .eql .u64 (.var kU 23) (.var kU 29)) (.and (.bin .eql .u64 (.var kU 24) (.var kU 30)) (.and (.bin .eql .u8 (.var kB 25) (.lit 0)) (.lit 1))))
 (.leaf (.bool (.lit 1)))
 (.leaf (.bool (.lit 0)))))
 (.leaf (.bool (.lit 0)))))
 (.call 19 [(.var kB 0), (.var kU 1), (.var kU 2)] 28 2
 (.ite (.and (.bin .eql .u64 (.var kU 18) (.var kU 28)) (.and (.bin .eql .u64 (.var kU 19) (.var kU 29)) (.and (.bin .eql .u8 (.var kB 20) (.lit 0)) (.lit 1))))
 (.ite (.bin .eql .u8 (.var kB 4) (.lit 0))
 (.ite (.bin .eql .u8 (.var kB 25) (.lit 1))
 (.leaf (.bool (.lit 1)))
 (.leaf (.bool (.lit 0))))
 (.call 22 [(.var kB 0), (.var .bool 3)] 30 2
 (.ite (.and (.bin .eql .u64 (.var kU 23) (.var kU 30)) (.and (.bin .eql .u64 (.var kU 24) (.var kU 31)) (.and (.bin .eql .u8 (.var kB 25) (.lit 0)) (.lit 1))))
 (.leaf (.bool (.lit 1)))
 (.leaf (.bool (.lit 0))))))
 (.leaf (.bool (.lit 0)))))))))))))))))))))))
theorem x_law23_RemSpecial : execF (ctxA E21 M0 S1) 3000 10 (uns c_law23_RemSpecial.a (varsAt 0 (kindsOf c_law23_RemSpecial.a))) (kindsOf c_law23_RemSpecial.a).length = t_law23_RemSpecial := by kernel_rfl
def F_law23_RemSpecial : List Int → List Int := treeF (phiA E21 M0 S1) c_law23_RemSpecial t_law23_RemSpecial
theorem e_law23_RemSpecial : EntOK Tryd.prog gG ⟨10, c_law23_RemSpecial, F_law23_RemSpecial⟩ := ent_any ok_R2 3000 x_law23_RemSpecial (by kernel_rfl)
def c_law23_RemKnown : Ct := ⟨[], [.sc .bool]⟩
def t_law23_RemKnown : Tr' SV :=
 (.leaf (.bool (.lit 1)))
theorem x_law23_RemKnown : execF (ctxA E21 M0 S1) 3000 11 (uns c_law23_RemKnown.a (varsAt 0 (kindsOf c_law23_RemKnown.a))) (kindsOf c_law23_RemKnown.a).length = t_law23_RemKnown := by kernel_rfl
def F_law23_RemKnown : List Int → List Int := treeF (phiA E21 M0 S1) c_law23_RemKnown t_law23_RemKnown
theorem e_law23_RemKnown : EntOK Tryd.prog gG ⟨11, c_law23_RemKnown, F_law23_RemKnown⟩ := ent_any ok_R2 3000 x_law23_RemKnown (by kernel_rfl)
def E22 : List Ent := ⟨10, c_law23_RemSpecial, F_law23_RemSpecial⟩ :: ⟨11, c_law23_RemKnown, F_law23_RemKnown⟩ :: E21
theorem E22_ok : ∀ e ∈ E22, EntOK Tryd.prog gG e := List.forall_mem_cons.2 ⟨e_law23_RemSpecial, List.forall_mem_cons.2 ⟨e_law23_RemKnown, E21_ok⟩⟩
theorem ph_R2_rem_Rem : phiA E21 M0 S1 34 = F_rem_Rem := phiA_L (e := ⟨34, _, F_rem_Rem⟩) rfl rfl rfl
theorem ph_R2_class_Of : phiA E21 M0 S1 21 = F_class_Of := phiA_L (e := ⟨21, _, F_class_Of⟩) rfl rfl rfl
theorem ph_R2_format_Nought : phiA E21 M0 S1 22 = F_format_Nought := phiA_L (e := ⟨22, _, F_format_Nought⟩) rfl rfl rfl
theorem ph_R2_format_Inf : phiA E21 M0 S1 23 = F_format_Inf := phiA_L (e := ⟨23, _, F_format_Inf⟩) rfl rfl rfl
theorem ph_R2_class_NaN : phiA E21 M0 S1 18 = F_class_NaN := phiA_L (e := ⟨18, _, F_class_NaN⟩) rfl rfl rfl
theorem ph_R2_format_Cut : phiA E21 M0 S1 19 = F_format_Cut := phiA_L (e := ⟨19, _, F_format_Cut⟩) rfl rfl rfl
end Go.Proofs.YtgbdemipeoboeaaDoor
