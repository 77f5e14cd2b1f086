import Derived.Test.YtgbdemipeoboeaaDoorZE
/- Contracts of this seat's functions: their trees, made by a program (sxgen), and that the executor answers just these. -/
namespace Go.Proofs.YtgbdemipeoboeaaDoor
set_option linter.unusedVariables false
set_option maxRecDepth 100000
open Go.RowKit
def c_law21_plain : Ct := ⟨[.sc kB, .agg [kU, kU]], [.sc .bool]⟩
def t_law21_plain : Tr' SV :=
 (.call 21 [(.var kB 0), (.var kU 1), (.var kU 2)] 3 2
 (.ite (.bin .lss .i64 (.var kB 0) (.lit 4))
 (.ite (.bin .eql .u8 (.var kB 3) (.lit 1))
 (.leaf (.bool (.lit 1)))
 (.leaf (.bool (.bin .eql .u8 (.var kB 3) (.lit 2)))))
 (.leaf (.bool (.lit 0)))))
theorem x_law21_plain : execF (ctx E10) 3000 20 (uns c_law21_plain.a (varsAt 0 (kindsOf c_law21_plain.a))) (kindsOf c_law21_plain.a).length = t_law21_plain := by kernel_rfl
def F_law21_plain : List Int → List Int := treeF (phiE E10) c_law21_plain t_law21_plain
theorem e_law21_plain : EntOK Tryd.prog gG ⟨20, c_law21_plain, F_law21_plain⟩ := ent_of (ctx_ok E10_ok) 3000 x_law21_plain (by kernel_rfl)
def c_law22_size : Ct := ⟨[.sc kB, .agg [kU, kU]], [.agg [kU, kU]]⟩
def t_law22_size : Tr' SV :=
 (.call 50 [(.var kB 0), (.var kU 1), (.var kU 2)] 3 4
 (.call 16 [(.var kB 0), (.lit 0), (.var kI 4), (.var kU 5), (.var kU 6)] 7 2
 (.leaf (.agg [(.int .u64 (.var kU 7)), (.int .u64 (.var kU 8))]))))
theorem x_law22_size : execF (ctx E10) 3000 28 (uns c_law22_size.a (varsAt 0 (kindsOf c_law22_size.a))) (kindsOf c_law22_size.a).length = t_law22_size := by kernel_rfl
def F_law22_size : List Int → List Int := treeF (phiE E10) c_law22_size t_law22_size
theorem e_law22_size : EntOK Tryd.prog gG ⟨28, c_law22_size, F_law22_size⟩ := ent_of (ctx_ok E10_ok) 3000 x_law22_size (by kernel_rfl)
def c_law23_goes : Ct := ⟨[], [.sc .bool]⟩
def t_law23_goes : Tr' SV :=
 (.leaf (.bool (.lit 1)))
theorem x_law23_goes : execF (ctx E10) 3000 35 (uns c_law23_goes.a (varsAt 0 (kindsOf c_law23_goes.a))) (kindsOf c_law23_goes.a).length = t_law23_goes := by kernel_rfl
def F_law23_goes : List Int → List Int := treeF (phiE E10) c_law23_goes t_law23_goes
theorem e_law23_goes : EntOK Tryd.prog gG ⟨35, c_law23_goes, F_law23_goes⟩ := ent_of (ctx_ok E10_ok) 3000 x_law23_goes (by kernel_rfl)
def E11 : List Ent := ⟨20, c_law21_plain, F_law21_plain⟩ :: ⟨28, c_law22_size, F_law22_size⟩ :: ⟨35, c_law23_goes, F_law23_goes⟩ :: E10
theorem E11_ok : ∀ e ∈ E11, EntOK Tryd.prog gG e := List.forall_mem_cons.2 ⟨e_law21_plain, List.forall_mem_cons.2 ⟨e_law22_size, List.forall_mem_cons.2 ⟨e_law23_goes, E10_ok⟩⟩⟩
theorem ph_E10_class_Of : phiE E10 21 = F_class_Of := phiE_hit (e := ⟨21, _, F_class_Of⟩) rfl
theorem ph_E10_format_Split : phiE E10 50 = F_format_Split := phiE_hit (e := ⟨50, _, F_format_Split⟩) rfl
theorem ph_E10_format_Make : phiE E10 16 = F_format_Make := phiE_hit (e := ⟨16, _, F_format_Make⟩) rfl
end Go.Proofs.YtgbdemipeoboeaaDoor
