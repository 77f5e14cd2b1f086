import Derived.Test.YtngiodcdelfdmaaGreatDoorH1R6
import Derived.Test.YtngiodcdelfdmaaGreatDoorK1R6
import Derived.Test.YtngiodcdelfdmaaGreatDoorSxTR6
namespace Go.Proofs.YtngiodcdelfdmaaGreatDoor
set_option linter.unusedVariables false
set_option maxRecDepth 100000
open Go.RowKit
theorem ok_A0 : SOKT (ctxA E11 M0 S1) eE := ctxA_ok E11_ok M0_ok S1_ok (by kernel_rfl)
def c_wide_Cmp : Ct := ⟨[.agg [kU, kU, kU, kU], .agg [kU, kU, kU, kU]], [.sc kI]⟩
def t_wide_Cmp : Tr' SV :=
 (.call 186 [(.var kU 0), (.var kU 1), (.var kU 2), (.var kU 3)] 8 2
 (.call 186 [(.var kU 4), (.var kU 5), (.var kU 6), (.var kU 7)] 10 2
 (.call 90 [(.var kU 8), (.var kU 9), (.var kU 10), (.var kU 11)] 12 1
 (.ite (.bin .neq .i64 (.var kI 12) (.lit 0))
 (.leaf (.int .i64 (.var kI 12)))
 (.call 188 [(.var kU 0), (.var kU 1), (.var kU 2), (.var kU 3)] 13 2
 (.call 188 [(.var kU 4), (.var kU 5), (.var kU 6), (.var kU 7)] 15 2
 (.call 90 [(.var kU 13), (.var kU 14), (.var kU 15), (.var kU 16)] 17 1
 (.leaf (.int .i64 (.var kI 17))))))))))
theorem x_wide_Cmp : execF (ctxA E11 M0 S1) 3000 159 (uns c_wide_Cmp.a (varsAt 0 (kindsOf c_wide_Cmp.a))) (kindsOf c_wide_Cmp.a).length = t_wide_Cmp := by kernel_rfl
def F_wide_Cmp : List Int → List Int := treeF (phiA E11 M0 S1) c_wide_Cmp t_wide_Cmp
theorem e_wide_Cmp : EntOK Tryz.prog gG ⟨159, c_wide_Cmp, F_wide_Cmp⟩ := ent_any ok_A0 3000 x_wide_Cmp (by kernel_rfl)
theorem ph_A0_wide_High : phiA E11 M0 S1 186 = F_wide_High := phiA_L (e := ⟨186, _, F_wide_High⟩) rfl rfl rfl
theorem ph_A0_word_Cmp : phiA E11 M0 S1 90 = F_word_Cmp := phiA_L (e := ⟨90, _, F_word_Cmp⟩) rfl rfl rfl
theorem ph_A0_wide_Low : phiA E11 M0 S1 188 = F_wide_Low := phiA_L (e := ⟨188, _, F_wide_Low⟩) rfl rfl rfl
end Go.Proofs.YtngiodcdelfdmaaGreatDoor
namespace Go.Proofs.YtngiodcdelfdmaaGreatDoor
set_option linter.unusedVariables false
set_option maxRecDepth 100000
open Go.RowKit
end Go.Proofs.YtngiodcdelfdmaaGreatDoor
namespace Go.Proofs.YtngiodcdelfdmaaGreatDoor
set_option linter.unusedVariables false
set_option maxRecDepth 100000
open Go.RowKit
end Go.Proofs.YtngiodcdelfdmaaGreatDoor
namespace Go.Proofs.YtngiodcdelfdmaaGreatDoor
set_option linter.unusedVariables false
set_option maxRecDepth 100000
open Go.RowKit
end Go.Proofs.YtngiodcdelfdmaaGreatDoor
