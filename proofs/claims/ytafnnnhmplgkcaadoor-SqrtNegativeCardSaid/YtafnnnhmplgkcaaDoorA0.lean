import Derived.Test.YtafnnnhmplgkcaaDoorQ3
/- Contracts of this seat's functions: their trees, made by a program (sxgen), and that the executor answers just these. -/
namespace Go.Proofs.YtafnnnhmplgkcaaDoor
set_option linter.unusedVariables false
set_option maxRecDepth 100000
open Go.RowKit
theorem ok_A0 : SOK (ctxA E11 M0 S1) eE := ctxA_ok E11_ok M0_ok S1_ok (by kernel_rfl)
def c_wide_Cmp : Ct := ⟨[.agg [kU, kU, kU, kU], .agg [kU, kU, kU, kU]], [.sc kI]⟩
def t_wide_Cmp : Tr' SV :=
 (.call 74 [(.var kU 0), (.var kU 1), (.var kU 2), (.var kU 3)] 8 2
 (.call 74 [(.var kU 4), (.var kU 5), (.var kU 6), (.var kU 7)] 10 2
 (.call 10 [(.var kU 8), (.var kU 9), (.var kU 10), (.var kU 11)] 12 1
 (.ite (.bin .neq .i64 (.var kI 12) (.lit 0))
 (.leaf (.int .i64 (.var kI 12)))
 (.call 77 [(.var kU 0), (.var kU 1), (.var kU 2), (.var kU 3)] 13 2
 (.call 77 [(.var kU 4), (.var kU 5), (.var kU 6), (.var kU 7)] 15 2
 (.call 10 [(.var kU 13), (.var kU 14), (.var kU 15), (.var kU 16)] 17 1
 (.leaf (.int .i64 (.var kI 17))))))))))
theorem x_wide_Cmp : execF (ctxA E11 M0 S1) 3000 56 (uns c_wide_Cmp.a (varsAt 0 (kindsOf c_wide_Cmp.a))) (kindsOf c_wide_Cmp.a).length = t_wide_Cmp := by kernel_rfl
def F_wide_Cmp : List Int → List Int := treeF (phiA E11 M0 S1) c_wide_Cmp t_wide_Cmp
theorem e_wide_Cmp : EntOK Tryd.prog gG ⟨56, c_wide_Cmp, F_wide_Cmp⟩ := ent_any ok_A0 3000 x_wide_Cmp (by kernel_rfl)
def E30 : List Ent := ⟨56, c_wide_Cmp, F_wide_Cmp⟩ :: E11
theorem E30_ok : ∀ e ∈ E30, EntOK Tryd.prog gG e := List.forall_mem_cons.2 ⟨e_wide_Cmp, E11_ok⟩
theorem ph_A0_wide_High : phiA E11 M0 S1 74 = F_wide_High := phiA_L (e := ⟨74, _, F_wide_High⟩) rfl rfl rfl
theorem ph_A0_word_Cmp : phiA E11 M0 S1 10 = F_word_Cmp := phiA_L (e := ⟨10, _, F_word_Cmp⟩) rfl rfl rfl
theorem ph_A0_wide_Low : phiA E11 M0 S1 77 = F_wide_Low := phiA_L (e := ⟨77, _, F_wide_Low⟩) rfl rfl rfl
end Go.Proofs.YtafnnnhmplgkcaaDoor
