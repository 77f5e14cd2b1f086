import Derived.Test.YtngiodcdelfdmaaGreatDoorZER6
namespace Go.Proofs.YtngiodcdelfdmaaGreatDoor
set_option linter.unusedVariables false
set_option maxRecDepth 100000
open Go.RowKit
def c_law25_goes : Ct := ⟨[], [.sc .bool]⟩
def t_law25_goes : Tr' SV :=
 (.leaf (.bool (.lit 1)))
theorem x_law25_goes : execF (ctx E10) 3000 17 (uns c_law25_goes.a (varsAt 0 (kindsOf c_law25_goes.a))) (kindsOf c_law25_goes.a).length = t_law25_goes := by kernel_rfl
def F_law25_goes : List Int → List Int := treeF (phiE E10) c_law25_goes t_law25_goes
theorem e_law25_goes : EntOK Tryz.prog gG ⟨17, c_law25_goes, F_law25_goes⟩ := ent_of (ctx_ok E10_ok) 3000 x_law25_goes (by kernel_rfl)
def c_law19_goes : Ct := ⟨[], [.sc .bool]⟩
def t_law19_goes : Tr' SV :=
 (.leaf (.bool (.lit 1)))
theorem x_law19_goes : execF (ctx E10) 3000 20 (uns c_law19_goes.a (varsAt 0 (kindsOf c_law19_goes.a))) (kindsOf c_law19_goes.a).length = t_law19_goes := by kernel_rfl
def F_law19_goes : List Int → List Int := treeF (phiE E10) c_law19_goes t_law19_goes
theorem e_law19_goes : EntOK Tryz.prog gG ⟨20, c_law19_goes, F_law19_goes⟩ := ent_of (ctx_ok E10_ok) 3000 x_law19_goes (by kernel_rfl)
def c_law20_goes : Ct := ⟨[], [.sc .bool]⟩
def t_law20_goes : Tr' SV :=
 (.leaf (.bool (.lit 1)))
theorem x_law20_goes : execF (ctx E10) 3000 42 (uns c_law20_goes.a (varsAt 0 (kindsOf c_law20_goes.a))) (kindsOf c_law20_goes.a).length = t_law20_goes := by kernel_rfl
def F_law20_goes : List Int → List Int := treeF (phiE E10) c_law20_goes t_law20_goes
theorem e_law20_goes : EntOK Tryz.prog gG ⟨42, c_law20_goes, F_law20_goes⟩ := ent_of (ctx_ok E10_ok) 3000 x_law20_goes (by kernel_rfl)
def c_law21_plain : Ct := ⟨[.sc kB, .agg [kU, kU]], [.sc .bool]⟩
def t_law21_plain : Tr' SV :=
 (.call 44 [(.var kB 0), (.var kU 1), (.var kU 2)] 3 2
 (.ite (.bin .lss .i64 (.var kB 0) (.lit 4))
 (.ite (.bin .eql .u8 (.var kB 3) (.lit 1))
 (.leaf (.bool (.lit 1)))
 (.leaf (.bool (.bin .eql .u8 (.var kB 3) (.lit 2)))))
 (.leaf (.bool (.lit 0)))))
theorem x_law21_plain : execF (ctx E10) 3000 43 (uns c_law21_plain.a (varsAt 0 (kindsOf c_law21_plain.a))) (kindsOf c_law21_plain.a).length = t_law21_plain := by kernel_rfl
def F_law21_plain : List Int → List Int := treeF (phiE E10) c_law21_plain t_law21_plain
theorem e_law21_plain : EntOK Tryz.prog gG ⟨43, c_law21_plain, F_law21_plain⟩ := ent_of (ctx_ok E10_ok) 3000 x_law21_plain (by kernel_rfl)
def c_law23_goes : Ct := ⟨[], [.sc .bool]⟩
def t_law23_goes : Tr' SV :=
 (.leaf (.bool (.lit 1)))
theorem x_law23_goes : execF (ctx E10) 3000 32 (uns c_law23_goes.a (varsAt 0 (kindsOf c_law23_goes.a))) (kindsOf c_law23_goes.a).length = t_law23_goes := by kernel_rfl
def F_law23_goes : List Int → List Int := treeF (phiE E10) c_law23_goes t_law23_goes
theorem e_law23_goes : EntOK Tryz.prog gG ⟨32, c_law23_goes, F_law23_goes⟩ := ent_of (ctx_ok E10_ok) 3000 x_law23_goes (by kernel_rfl)
def E11 : List Ent := ⟨17, c_law25_goes, F_law25_goes⟩ :: ⟨20, c_law19_goes, F_law19_goes⟩ :: ⟨42, c_law20_goes, F_law20_goes⟩ :: ⟨43, c_law21_plain, F_law21_plain⟩ :: ⟨32, c_law23_goes, F_law23_goes⟩ :: E10
theorem E11_ok : ∀ e ∈ E11, EntOK Tryz.prog gG e := List.forall_mem_cons.2 ⟨e_law25_goes, List.forall_mem_cons.2 ⟨e_law19_goes, List.forall_mem_cons.2 ⟨e_law20_goes, List.forall_mem_cons.2 ⟨e_law21_plain, List.forall_mem_cons.2 ⟨e_law23_goes, E10_ok⟩⟩⟩⟩⟩
end Go.Proofs.YtngiodcdelfdmaaGreatDoor
