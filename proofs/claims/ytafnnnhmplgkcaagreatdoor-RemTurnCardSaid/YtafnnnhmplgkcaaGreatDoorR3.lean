import Derived.Test.YtafnnnhmplgkcaaGreatDoorR1
/- Contracts of this seat's functions: their trees, made by a program (sxgen), and that the executor answers just these. -/
namespace Go.Proofs.YtafnnnhmplgkcaaGreatDoor
set_option linter.unusedVariables false
set_option maxRecDepth 100000
open Go.RowKit
theorem ok_R3 : SOK (ctxA E21 M0 S1) eE := ctxA_ok E21_ok M0_ok S1_ok (by kernel_rfl)
def c_law23_RemTurn : Ct := ⟨[.sc kB, .agg [kU, kU], .agg [kU, kU]], [.sc .bool]⟩
def t_law23_RemTurn : Tr' SV :=
 (.ite (.not (.bin .lss .i64 (.var kB 0) (.lit 4)))
 (.leaf (.bool (.lit 1)))
 (.call 12 [(.var kB 0), (.var kU 1), (.var kU 2)] 5 1
 (.ite (.var .bool 5)
 (.leaf (.bool (.lit 1)))
 (.call 12 [(.var kB 0), (.var kU 3), (.var kU 4)] 6 1
 (.ite (.var .bool 6)
 (.leaf (.bool (.lit 1)))
 (.call 14 [(.var kB 0), (.var kU 1), (.var kU 2), (.var kU 3), (.var kU 4)] 7 3
 (.call 15 [(.var kB 0), (.var kU 3), (.var kU 4)] 10 2
 (.call 14 [(.var kB 0), (.var kU 1), (.var kU 2), (.var kU 10), (.var kU 11)] 12 3
 (.call 15 [(.var kB 0), (.var kU 1), (.var kU 2)] 15 2
 (.call 14 [(.var kB 0), (.var kU 15), (.var kU 16), (.var kU 3), (.var kU 4)] 17 3
 (.call 12 [(.var kB 0), (.var kU 7), (.var kU 8)] 20 1
 (.ite (.var .bool 20)
 (.ite (.and (.bin .eql .u64 (.var kU 7) (.var kU 12)) (.and (.bin .eql .u64 (.var kU 8) (.var kU 13)) (.and (.bin .eql .u8 (.var kB 9) (.var kB 14)) (.lit 1))))
 (.ite (.and (.bin .eql .u64 (.var kU 7) (.var kU 17)) (.and (.bin .eql .u64 (.var kU 8) (.var kU 18)) (.and (.bin .eql .u8 (.var kB 9) (.var kB 19)) (.lit 1))))
 (.leaf (.bool (.lit 1)))
 (.leaf (.bool (.lit 0))))
 (.leaf (.bool (.lit 0))))
 (.ite (.and (.bin .eql .u64 (.var kU 7) (.var kU 12)) (.and (.bin .eql .u64 (.var kU 8) (.var kU 13)) (.and (.bin .eql .u8 (.var kB 9) (.var kB 14)) (.lit 1))))
 (.call 15 [(.var kB 0), (.var kU 7), (.var kU 8)] 21 2
 (.ite (.and (.bin .eql .u64 (.var kU 17) (.var kU 21)) (.and (.bin .eql .u64 (.var kU 18) (.var kU 22)) (.and (.bin .eql .u8 (.var kB 19) (.lit 0)) (.lit 1))))
 (.leaf (.bool (.lit 1)))
 (.leaf (.bool (.lit 0)))))
 (.leaf (.bool (.lit 0))))))))))))))))
theorem x_law23_RemTurn : execF (ctxA E21 M0 S1) 3000 3 (uns c_law23_RemTurn.a (varsAt 0 (kindsOf c_law23_RemTurn.a))) (kindsOf c_law23_RemTurn.a).length = t_law23_RemTurn := by kernel_rfl
def F_law23_RemTurn : List Int → List Int := treeF (phiA E21 M0 S1) c_law23_RemTurn t_law23_RemTurn
theorem e_law23_RemTurn : EntOK Tryz.prog gG ⟨3, c_law23_RemTurn, F_law23_RemTurn⟩ := ent_any ok_R3 3000 x_law23_RemTurn (by kernel_rfl)
def E23 : List Ent := ⟨3, c_law23_RemTurn, F_law23_RemTurn⟩ :: E21
theorem E23_ok : ∀ e ∈ E23, EntOK Tryz.prog gG e := List.forall_mem_cons.2 ⟨e_law23_RemTurn, E21_ok⟩
theorem ph_R3_class_NaN : phiA E21 M0 S1 12 = F_class_NaN := phiA_L (e := ⟨12, _, F_class_NaN⟩) rfl rfl rfl
theorem ph_R3_rem_Rem : phiA E21 M0 S1 14 = F_rem_Rem := phiA_L (e := ⟨14, _, F_rem_Rem⟩) rfl rfl rfl
theorem ph_R3_addsub_Turn : phiA E21 M0 S1 15 = F_addsub_Turn := phiA_L (e := ⟨15, _, F_addsub_Turn⟩) rfl rfl rfl
end Go.Proofs.YtafnnnhmplgkcaaGreatDoor
