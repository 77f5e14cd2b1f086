import Derived.Test.YtafnnnhmplgkcaaGreatDoorV1
/- Contracts of this seat's functions: their trees, made by a program (sxgen), and that the executor answers just these. -/
namespace Go.Proofs.YtafnnnhmplgkcaaGreatDoor
set_option linter.unusedVariables false
set_option maxRecDepth 100000
open Go.RowKit
theorem ok_V2 : SOK (ctxA E52 M0 S1) eE := ctxA_ok E52_ok M0_ok S1_ok (by kernel_rfl)
def c_law22_SqrtSquare : Ct := ⟨[.sc kB, .agg [kB, .bool], .agg [kU, kU]], [.sc .bool]⟩
def t_law22_SqrtSquare : Tr' SV :=
 (.call 16 [(.var kB 0), (.var kU 3), (.var kU 4)] 5 2
 (.call 17 [(.var kB 0), (.bin .rem .u8 (.var kB 1) (.lit 5)), (.var .bool 2), (.var kU 5), (.var kU 6), (.var kU 5), (.var kU 6)] 7 3
 (.ite (.not (.bin .lss .i64 (.var kB 0) (.lit 4)))
 (.leaf (.bool (.lit 1)))
 (.call 18 [(.var kB 0), (.var kU 5), (.var kU 6)] 10 1
 (.ite (.not (.var .bool 10))
 (.leaf (.bool (.lit 1)))
 (.ite (.bin .neq .u8 (.var kB 9) (.lit 0))
 (.leaf (.bool (.lit 1)))
 (.call 20 [(.var kB 0), (.bin .rem .u8 (.var kB 1) (.lit 5)), (.var .bool 2), (.var kU 7), (.var kU 8)] 11 3
 (.ite (.and (.bin .eql .u64 (.var kU 11) (.var kU 5)) (.and (.bin .eql .u64 (.var kU 12) (.var kU 6)) (.and (.bin .eql .u8 (.var kB 13) (.lit 0)) (.lit 1))))
 (.leaf (.bool (.lit 1)))
 (.leaf (.bool (.lit 0)))))))))))
theorem x_law22_SqrtSquare : execF (ctxA E52 M0 S1) 3000 4 (uns c_law22_SqrtSquare.a (varsAt 0 (kindsOf c_law22_SqrtSquare.a))) (kindsOf c_law22_SqrtSquare.a).length = t_law22_SqrtSquare := by kernel_rfl
def F_law22_SqrtSquare : List Int → List Int := treeF (phiA E52 M0 S1) c_law22_SqrtSquare t_law22_SqrtSquare
theorem e_law22_SqrtSquare : EntOK Tryz.prog gG ⟨4, c_law22_SqrtSquare, F_law22_SqrtSquare⟩ := ent_any ok_V2 3000 x_law22_SqrtSquare (by kernel_rfl)
def E54 : List Ent := ⟨4, c_law22_SqrtSquare, F_law22_SqrtSquare⟩ :: E52
theorem E54_ok : ∀ e ∈ E54, EntOK Tryz.prog gG e := List.forall_mem_cons.2 ⟨e_law22_SqrtSquare, E52_ok⟩
theorem ph_V2_law22_size : phiA E52 M0 S1 16 = F_law22_size := phiA_L (e := ⟨16, _, F_law22_size⟩) rfl rfl rfl
theorem ph_V2_mul_Mul : phiA E52 M0 S1 17 = F_mul_Mul := phiA_L (e := ⟨17, _, F_mul_Mul⟩) rfl rfl rfl
theorem ph_V2_class_Finite : phiA E52 M0 S1 18 = F_class_Finite := phiA_L (e := ⟨18, _, F_class_Finite⟩) rfl rfl rfl
theorem ph_V2_sqrt_Sqrt : phiA E52 M0 S1 20 = F_sqrt_Sqrt := phiA_L (e := ⟨20, _, F_sqrt_Sqrt⟩) rfl rfl rfl
end Go.Proofs.YtafnnnhmplgkcaaGreatDoor
