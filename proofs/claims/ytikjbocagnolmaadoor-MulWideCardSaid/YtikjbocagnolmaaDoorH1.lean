import Derived.Test.YtikjbocagnolmaaDoorZE
/- Contracts of this seat's functions: their trees, made by a program (sxgen), and that the executor answers just these. -/
namespace Go.Proofs.YtikjbocagnolmaaDoor
set_option linter.unusedVariables false
set_option maxRecDepth 100000
open Go.RowKit
def c_law25_goes : Ct := ⟨[], [.sc .bool]⟩
def t_law25_goes : Tr' SV :=
 (.leaf (.bool (.lit 1)))
theorem x_law25_goes : execF (ctx E10) 3000 19 (uns c_law25_goes.a (varsAt 0 (kindsOf c_law25_goes.a))) (kindsOf c_law25_goes.a).length = t_law25_goes := by kernel_rfl
def F_law25_goes : List Int → List Int := treeF (phiE E10) c_law25_goes t_law25_goes
theorem e_law25_goes : EntOK Tryd.prog gG ⟨19, c_law25_goes, F_law25_goes⟩ := ent_of (ctx_ok E10_ok) 3000 x_law25_goes (by kernel_rfl)
def c_law19_goes : Ct := ⟨[], [.sc .bool]⟩
def t_law19_goes : Tr' SV :=
 (.leaf (.bool (.lit 1)))
theorem x_law19_goes : execF (ctx E10) 3000 28 (uns c_law19_goes.a (varsAt 0 (kindsOf c_law19_goes.a))) (kindsOf c_law19_goes.a).length = t_law19_goes := by kernel_rfl
def F_law19_goes : List Int → List Int := treeF (phiE E10) c_law19_goes t_law19_goes
theorem e_law19_goes : EntOK Tryd.prog gG ⟨28, c_law19_goes, F_law19_goes⟩ := ent_of (ctx_ok E10_ok) 3000 x_law19_goes (by kernel_rfl)
def c_law19_size : Ct := ⟨[.sc kB, .agg [kU, kU]], [.agg [kU, kU]]⟩
def t_law19_size : Tr' SV :=
 (.call 51 [(.var kB 0), (.var kU 1), (.var kU 2)] 3 4
 (.call 38 [(.var kB 0), (.lit 0), (.var kI 4), (.var kU 5), (.var kU 6)] 7 2
 (.leaf (.agg [(.int .u64 (.var kU 7)), (.int .u64 (.var kU 8))]))))
theorem x_law19_size : execF (ctx E10) 3000 29 (uns c_law19_size.a (varsAt 0 (kindsOf c_law19_size.a))) (kindsOf c_law19_size.a).length = t_law19_size := by kernel_rfl
def F_law19_size : List Int → List Int := treeF (phiE E10) c_law19_size t_law19_size
theorem e_law19_size : EntOK Tryd.prog gG ⟨29, c_law19_size, F_law19_size⟩ := ent_of (ctx_ok E10_ok) 3000 x_law19_size (by kernel_rfl)
def c_law19_widened : Ct := ⟨[.sc kB, .agg [kU, kU]], [.agg [kU, kU]]⟩
def t_law19_widened : Tr' SV :=
 (.call 44 [(.var kB 0), (.var kU 1), (.var kU 2)] 3 5
 (.call 66 [(.bin .add .u8 (.var kB 0) (.lit 1)), (.var .bool 3), (.var kB 4), (.var kI 5), (.var kU 6), (.var kU 7)] 8 3
 (.leaf (.agg [(.int .u64 (.var kU 8)), (.int .u64 (.var kU 9))]))))
theorem x_law19_widened : execF (ctx E10) 3000 43 (uns c_law19_widened.a (varsAt 0 (kindsOf c_law19_widened.a))) (kindsOf c_law19_widened.a).length = t_law19_widened := by kernel_rfl
def F_law19_widened : List Int → List Int := treeF (phiE E10) c_law19_widened t_law19_widened
theorem e_law19_widened : EntOK Tryd.prog gG ⟨43, c_law19_widened, F_law19_widened⟩ := ent_of (ctx_ok E10_ok) 3000 x_law19_widened (by kernel_rfl)
def E11 : List Ent := ⟨19, c_law25_goes, F_law25_goes⟩ :: ⟨28, c_law19_goes, F_law19_goes⟩ :: ⟨29, c_law19_size, F_law19_size⟩ :: ⟨43, c_law19_widened, F_law19_widened⟩ :: E10
theorem E11_ok : ∀ e ∈ E11, EntOK Tryd.prog gG e := List.forall_mem_cons.2 ⟨e_law25_goes, List.forall_mem_cons.2 ⟨e_law19_goes, List.forall_mem_cons.2 ⟨e_law19_size, List.forall_mem_cons.2 ⟨e_law19_widened, E10_ok⟩⟩⟩⟩
theorem ph_E10_format_Split : phiE E10 51 = F_format_Split := phiE_hit (e := ⟨51, _, F_format_Split⟩) rfl
theorem ph_E10_format_Make : phiE E10 38 = F_format_Make := phiE_hit (e := ⟨38, _, F_format_Make⟩) rfl
theorem ph_E10_fields_Unpack : phiE E10 44 = F_fields_Unpack := phiE_hit (e := ⟨44, _, F_fields_Unpack⟩) rfl
theorem ph_E10_fields_Pack : phiE E10 66 = F_fields_Pack := phiE_hit (e := ⟨66, _, F_fields_Pack⟩) rfl
end Go.Proofs.YtikjbocagnolmaaDoor
