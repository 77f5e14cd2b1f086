import Derived.Test.YtafnnnhmplgkcaaDoorV1
/- Contracts of this seat's functions: their trees, made by a program (sxgen), and that the executor answers just these. -/
namespace Go.Proofs.YtafnnnhmplgkcaaDoor
set_option linter.unusedVariables false
set_option maxRecDepth 100000
open Go.RowKit
theorem ok_V2 : SOK (ctxA E52 M0 S1) eE := ctxA_ok E52_ok M0_ok S1_ok (by kernel_rfl)
def c_law22_SqrtOrder : Ct := ⟨[.sc kB, .agg [kB, .bool], .agg [kU, kU], .agg [kU, kU]], [.sc .bool]⟩
def t_law22_SqrtOrder : Tr' SV :=
 (.call 6 [(.var kB 0), (.var kU 3), (.var kU 4)] 7 2
 (.call 6 [(.var kB 0), (.var kU 5), (.var kU 6)] 9 2
 (.call 8 [(.var kB 0), (.var kU 7), (.var kU 8)] 11 1
 (.ite (.var .bool 11)
 (.leaf (.bool (.lit 1)))
 (.call 8 [(.var kB 0), (.var kU 9), (.var kU 10)] 12 1
 (.ite (.var .bool 12)
 (.leaf (.bool (.lit 1)))
 (.call 10 [(.var kU 7), (.var kU 8), (.var kU 9), (.var kU 10)] 13 1
 (.ite (.bin .gtr .i64 (.var kI 13) (.lit 0))
 (.call 11 [(.var kB 0), (.bin .rem .u8 (.var kB 1) (.lit 5)), (.var .bool 2), (.var kU 9), (.var kU 10)] 14 3
 (.call 11 [(.var kB 0), (.bin .rem .u8 (.var kB 1) (.lit 5)), (.var .bool 2), (.var kU 7), (.var kU 8)] 17 3
 (.call 10 [(.var kU 14), (.var kU 15), (.var kU 17), (.var kU 18)] 20 1
 (.ite (.bin .leq .i64 (.var kI 20) (.lit 0))
 (.leaf (.bool (.lit 1)))
 (.leaf (.bool (.lit 0)))))))
 (.call 11 [(.var kB 0), (.bin .rem .u8 (.var kB 1) (.lit 5)), (.var .bool 2), (.var kU 7), (.var kU 8)] 14 3
 (.call 11 [(.var kB 0), (.bin .rem .u8 (.var kB 1) (.lit 5)), (.var .bool 2), (.var kU 9), (.var kU 10)] 17 3
 (.call 10 [(.var kU 14), (.var kU 15), (.var kU 17), (.var kU 18)] 20 1
 (.ite (.bin .leq .i64 (.var kI 20) (.lit 0))
 (.leaf (.bool (.lit 1)))
 (.leaf (.bool (.lit 0)))))))))))))))
theorem x_law22_SqrtOrder : execF (ctxA E52 M0 S1) 3000 3 (uns c_law22_SqrtOrder.a (varsAt 0 (kindsOf c_law22_SqrtOrder.a))) (kindsOf c_law22_SqrtOrder.a).length = t_law22_SqrtOrder := by kernel_rfl
def F_law22_SqrtOrder : List Int → List Int := treeF (phiA E52 M0 S1) c_law22_SqrtOrder t_law22_SqrtOrder
theorem e_law22_SqrtOrder : EntOK Tryd.prog gG ⟨3, c_law22_SqrtOrder, F_law22_SqrtOrder⟩ := ent_any ok_V2 3000 x_law22_SqrtOrder (by kernel_rfl)
def c_law22_SqrtNegative : Ct := ⟨[.sc kB, .agg [kB, .bool], .agg [kU, kU]], [.sc .bool]⟩
def t_law22_SqrtNegative : Tr' SV :=
 (.call 11 [(.var kB 0), (.var kB 1), (.var .bool 2), (.var kU 3), (.var kU 4)] 5 3
 (.ite (.not (.bin .lss .i64 (.var kB 0) (.lit 4)))
 (.ite (.and (.bin .eql .u64 (.var kU 5) (.lit 0)) (.and (.bin .eql .u64 (.var kU 6) (.lit 0)) (.and (.bin .eql .u8 (.var kB 7) (.lit 0)) (.lit 1))))
 (.leaf (.bool (.lit 1)))
 (.leaf (.bool (.lit 0))))
 (.ite (.not (.bin .leq .u8 (.var kB 1) (.lit 4)))
 (.ite (.and (.bin .eql .u64 (.var kU 5) (.lit 0)) (.and (.bin .eql .u64 (.var kU 6) (.lit 0)) (.and (.bin .eql .u8 (.var kB 7) (.lit 0)) (.lit 1))))
 (.leaf (.bool (.lit 1)))
 (.leaf (.bool (.lit 0))))
 (.call 14 [(.var kB 0), (.var kU 3), (.var kU 4)] 8 2
 (.ite (.bin .geq .u8 (.var kB 8) (.lit 4))
 (.call 8 [(.var kB 0), (.var kU 5), (.var kU 6)] 10 1
 (.ite (.var .bool 10)
 (.call 15 [(.var kB 0), (.var kU 5), (.var kU 6)] 11 1
 (.ite (.not (.var .bool 11))
 (.ite (.beq (.bin .eql .u8 (.var kB 7) (.lit 1)) (.bin .eql .u8 (.var kB 8) (.lit 5)))
 (.leaf (.bool (.lit 1)))
 (.leaf (.bool (.lit 0))))
 (.leaf (.bool (.lit 0)))))
 (.leaf (.bool (.lit 0)))))
 (.ite (.bin .eql .u8 (.var kB 8) (.lit 0))
 (.call 16 [(.var kB 0), (.var kU 3), (.var kU 4)] 10 2
 (.ite (.and (.bin .eql .u64 (.var kU 5) (.var kU 10)) (.and (.bin .eql .u64 (.var kU 6) (.var kU 11)) (.and (.bin .eql .u8 (.var kB 7) (.lit 0)) (.lit 1))))
 (.leaf (.bool (.lit 1)))
 (.leaf (.bool (.lit 0)))))
 (.ite (.var .bool 9)
 (.call 8 [(.var kB 0), (.var kU 5), (.var kU 6)] 10 1
 (.ite (.var .bool 10)
 (.ite (.bin .eql .u8 (.var kB 7) (.lit 1))
 (.leaf (.bool (.lit 1)))
 (.leaf (.bool (.lit 0))))
 (.leaf (.bool (.lit 0)))))
 (.call 8 [(.var kB 0), (.var kU 5), (.var kU 6)] 10 1
 (.ite (.not (.var .bool 10))
 (.ite (.bin .eql .u8 (.bin .and .u8 (.var kB 7) (.lit 1)) (.lit 0))
 (.leaf (.bool (.lit 1)))
 (.leaf (.bool (.lit 0))))
 (.leaf (.bool (.lit 0))))))))))))
theorem x_law22_SqrtNegative : execF (ctxA E52 M0 S1) 3000 4 (uns c_law22_SqrtNegative.a (varsAt 0 (kindsOf c_law22_SqrtNegative.a))) (kindsOf c_law22_SqrtNegative.a).length = t_law22_SqrtNegative := by kernel_rfl
def F_law22_SqrtNegative : List Int → List Int := treeF (phiA E52 M0 S1) c_law22_SqrtNegative t_law22_SqrtNegative
theorem e_law22_SqrtNegative : EntOK Tryd.prog gG ⟨4, c_law22_SqrtNegative, F_law22_SqrtNegative⟩ := ent_any ok_V2 3000 x_law22_SqrtNegative (by kernel_rfl)
def c_law22_SqrtKnown : Ct := ⟨[], [.sc .bool]⟩
def t_law22_SqrtKnown : Tr' SV :=
 (.leaf (.bool (.lit 1)))
theorem x_law22_SqrtKnown : execF (ctxA E52 M0 S1) 3000 5 (uns c_law22_SqrtKnown.a (varsAt 0 (kindsOf c_law22_SqrtKnown.a))) (kindsOf c_law22_SqrtKnown.a).length = t_law22_SqrtKnown := by kernel_rfl
def F_law22_SqrtKnown : List Int → List Int := treeF (phiA E52 M0 S1) c_law22_SqrtKnown t_law22_SqrtKnown
theorem e_law22_SqrtKnown : EntOK Tryd.prog gG ⟨5, c_law22_SqrtKnown, F_law22_SqrtKnown⟩ := ent_any ok_V2 3000 x_law22_SqrtKnown (by kernel_rfl)
def E54 : List Ent := ⟨3, c_law22_SqrtOrder, F_law22_SqrtOrder⟩ :: ⟨4, c_law22_SqrtNegative, F_law22_SqrtNegative⟩ :: ⟨5, c_law22_SqrtKnown, F_law22_SqrtKnown⟩ :: E52
theorem E54_ok : ∀ e ∈ E54, EntOK Tryd.prog gG e := List.forall_mem_cons.2 ⟨e_law22_SqrtOrder, List.forall_mem_cons.2 ⟨e_law22_SqrtNegative, List.forall_mem_cons.2 ⟨e_law22_SqrtKnown, E52_ok⟩⟩⟩
theorem ph_V2_law22_size : phiA E52 M0 S1 6 = F_law22_size := phiA_L (e := ⟨6, _, F_law22_size⟩) rfl rfl rfl
theorem ph_V2_class_NaN : phiA E52 M0 S1 8 = F_class_NaN := phiA_L (e := ⟨8, _, F_class_NaN⟩) rfl rfl rfl
theorem ph_V2_word_Cmp : phiA E52 M0 S1 10 = F_word_Cmp := phiA_L (e := ⟨10, _, F_word_Cmp⟩) rfl rfl rfl
theorem ph_V2_sqrt_Sqrt : phiA E52 M0 S1 11 = F_sqrt_Sqrt := phiA_L (e := ⟨11, _, F_sqrt_Sqrt⟩) rfl rfl rfl
theorem ph_V2_class_Of : phiA E52 M0 S1 14 = F_class_Of := phiA_L (e := ⟨14, _, F_class_Of⟩) rfl rfl rfl
theorem ph_V2_class_Signaling : phiA E52 M0 S1 15 = F_class_Signaling := phiA_L (e := ⟨15, _, F_class_Signaling⟩) rfl rfl rfl
theorem ph_V2_format_Cut : phiA E52 M0 S1 16 = F_format_Cut := phiA_L (e := ⟨16, _, F_format_Cut⟩) rfl rfl rfl
end Go.Proofs.YtafnnnhmplgkcaaDoor
