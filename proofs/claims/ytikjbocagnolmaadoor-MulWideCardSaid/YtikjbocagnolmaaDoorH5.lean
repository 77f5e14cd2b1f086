import Derived.Test.YtikjbocagnolmaaDoorH1
/- Contracts of this seat's functions: their trees, made by a program (sxgen), and that the executor answers just these. -/
namespace Go.Proofs.YtikjbocagnolmaaDoor
set_option linter.unusedVariables false
set_option maxRecDepth 100000
open Go.RowKit
def c_law25_ConvOn : Ct := ⟨[.sc kB, .sc kB, .sc kB, .agg [kB, .bool], .agg [kB, .bool], .agg [kU, kU]], [.sc .bool]⟩
def t_law25_ConvOn : Tr' SV :=
 (.ite (.not (.bin .lss .i64 (.var kB 0) (.lit 4)))
 (.leaf (.bool (.lit 1)))
 (.ite (.not (.bin .lss .i64 (.var kB 1) (.lit 4)))
 (.leaf (.bool (.lit 1)))
 (.ite (.not (.bin .lss .i64 (.var kB 2) (.lit 4)))
 (.leaf (.bool (.lit 1)))
 (.call 20 [(.var kB 0), (.var kU 7), (.var kU 8)] 9 1
 (.ite (.var .bool 9)
 (.leaf (.bool (.lit 1)))
 (.call 17 [(.var kB 0), (.var kB 1), (.bin .rem .u8 (.var kB 3) (.lit 5)), (.var .bool 4), (.var kU 7), (.var kU 8)] 10 3
 (.ite (.bin .geq .u8 (.var kB 2) (.var kB 1))
 (.call 17 [(.var kB 1), (.var kB 2), (.bin .rem .u8 (.var kB 5) (.lit 5)), (.var .bool 6), (.var kU 10), (.var kU 11)] 13 3
 (.ite (.bin .neq .u8 (.var kB 15) (.lit 0))
 (.leaf (.bool (.lit 0)))
 (.call 17 [(.var kB 2), (.var kB 1), (.bin .rem .u8 (.var kB 5) (.lit 5)), (.var .bool 6), (.var kU 13), (.var kU 14)] 16 3
 (.ite (.not (.and (.bin .eql .u64 (.var kU 16) (.var kU 10)) (.and (.bin .eql .u64 (.var kU 17) (.var kU 11)) (.and (.bin .eql .u8 (.var kB 18) (.lit 0)) (.lit 1)))))
 (.leaf (.bool (.lit 0)))
 (.ite (.bin .geq .u8 (.var kB 2) (.var kB 0))
 (.call 17 [(.var kB 0), (.var kB 2), (.bin .rem .u8 (.var kB 5) (.lit 5)), (.var .bool 6), (.var kU 7), (.var kU 8)] 19 3
 (.call 17 [(.var kB 2), (.var kB 1), (.bin .rem .u8 (.var kB 3) (.lit 5)), (.var .bool 4), (.var kU 19), (.var kU 20)] 22 3
 (.ite (.not (.and (.bin .eql .u64 (.var kU 22) (.var kU 10)) (.and (.bin .eql .u64 (.var kU 23) (.var kU 11)) (.and (.bin .eql .u8 (.var kB 24) (.var kB 12)) (.lit 1)))))
 (.leaf (.bool (.lit 0)))
 (.leaf (.bool (.lit 1))))))
 (.leaf (.bool (.lit 1))))))))
 (.ite (.bin .geq .u8 (.var kB 2) (.var kB 0))
 (.call 17 [(.var kB 0), (.var kB 2), (.bin .rem .u8 (.var kB 5) (.lit 5)), (.var .bool 6), (.var kU 7), (.var kU 8)] 13 3
 (.call 17 [(.var kB 2), (.var kB 1), (.bin .rem .u8 (.var kB 3) (.lit 5)), (.var .bool 4), (.var kU 13), (.var kU 14)] 16 3
 (.ite (.not (.and (.bin .eql .u64 (.var kU 16) (.var kU 10)) (.and (.bin .eql .u64 (.var kU 17) (.var kU 11)) (.and (.bin .eql .u8 (.var kB 18) (.var kB 12)) (.lit 1)))))
 (.leaf (.bool (.lit 0)))
 (.leaf (.bool (.lit 1))))))
 (.leaf (.bool (.lit 1)))))))))))
theorem x_law25_ConvOn : execF (ctx E11) 3000 4 (uns c_law25_ConvOn.a (varsAt 0 (kindsOf c_law25_ConvOn.a))) (kindsOf c_law25_ConvOn.a).length = t_law25_ConvOn := by kernel_rfl
def F_law25_ConvOn : List Int → List Int := treeF (phiE E11) c_law25_ConvOn t_law25_ConvOn
theorem e_law25_ConvOn : EntOK Tryd.prog gG ⟨4, c_law25_ConvOn, F_law25_ConvOn⟩ := ent_of (ctx_ok E11_ok) 3000 x_law25_ConvOn (by kernel_rfl)
def E15 : List Ent := ⟨4, c_law25_ConvOn, F_law25_ConvOn⟩ :: E11
theorem E15_ok : ∀ e ∈ E15, EntOK Tryd.prog gG e := List.forall_mem_cons.2 ⟨e_law25_ConvOn, E11_ok⟩
theorem ph_E11_class_NaN : phiE E11 20 = F_class_NaN := phiE_hit (e := ⟨20, _, F_class_NaN⟩) rfl
theorem ph_E11_conv_Conv : phiE E11 17 = F_conv_Conv := phiE_hit (e := ⟨17, _, F_conv_Conv⟩) rfl
end Go.Proofs.YtikjbocagnolmaaDoor
