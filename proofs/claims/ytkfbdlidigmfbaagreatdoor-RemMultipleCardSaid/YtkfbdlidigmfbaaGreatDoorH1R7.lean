import Derived.Test.YtkfbdlidigmfbaaGreatDoorZER7
namespace Go.Proofs.YtkfbdlidigmfbaaGreatDoor
set_option linter.unusedVariables false
set_option maxRecDepth 100000
open Go.RowKit
def c_law22_size : Ct := ⟨[.sc kB, .agg [kU, kU]], [.agg [kU, kU]]⟩
def t_law22_size : Tr' SV :=
 (.call 21 [(.var kB 0), (.var kU 1), (.var kU 2)] 3 4
 (.call 16 [(.var kB 0), (.lit 0), (.var kI 4), (.var kU 5), (.var kU 6)] 7 2
 (.leaf (.agg [(.int .u64 (.var kU 7)), (.int .u64 (.var kU 8))]))))
theorem x_law22_size : execF (ctx E10) 3000 5 (uns c_law22_size.a (varsAt 0 (kindsOf c_law22_size.a))) (kindsOf c_law22_size.a).length = t_law22_size := by kernel_rfl
def F_law22_size : List Int → List Int := treeF (phiE E10) c_law22_size t_law22_size
theorem e_law22_size : EntOK Tryz.prog gG ⟨5, c_law22_size, F_law22_size⟩ := ent_of (ctx_ok E10_ok) 3000 x_law22_size (by kernel_rfl)
def c_law23_goes : Ct := ⟨[], [.sc .bool]⟩
def t_law23_goes : Tr' SV :=
 (.leaf (.bool (.lit 1)))
theorem x_law23_goes : execF (ctx E10) 3000 14 (uns c_law23_goes.a (varsAt 0 (kindsOf c_law23_goes.a))) (kindsOf c_law23_goes.a).length = t_law23_goes := by kernel_rfl
def F_law23_goes : List Int → List Int := treeF (phiE E10) c_law23_goes t_law23_goes
theorem e_law23_goes : EntOK Tryz.prog gG ⟨14, c_law23_goes, F_law23_goes⟩ := ent_of (ctx_ok E10_ok) 3000 x_law23_goes (by kernel_rfl)
def E11 : List Ent := ⟨5, c_law22_size, F_law22_size⟩ :: ⟨14, c_law23_goes, F_law23_goes⟩ :: E10
theorem E11_ok : ∀ e ∈ E11, EntOK Tryz.prog gG e := List.forall_mem_cons.2 ⟨e_law22_size, List.forall_mem_cons.2 ⟨e_law23_goes, E10_ok⟩⟩
end Go.Proofs.YtkfbdlidigmfbaaGreatDoor
