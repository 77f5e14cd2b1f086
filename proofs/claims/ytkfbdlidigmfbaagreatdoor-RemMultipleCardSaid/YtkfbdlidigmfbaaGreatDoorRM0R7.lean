import Derived.Test.YtkfbdlidigmfbaaGreatDoorQ2R7
namespace Go.Proofs.YtkfbdlidigmfbaaGreatDoor
set_option linter.unusedVariables false
set_option maxRecDepth 100000
open Go.RowKit
theorem ok_RM0 : SOKT (ctxA E20 M0 S1) eE := ctxA_ok E20_ok M0_ok S1_ok (by kernel_rfl)
def c_format_Known : Ct := ⟨[.sc kB], [.sc .bool]⟩
def t_format_Known : Tr' SV :=
 (.leaf (.bool (.bin .lss .i64 (.var kB 0) (.lit 4))))
theorem x_format_Known : execF (ctxA E20 M0 S1) 3000 13 (uns c_format_Known.a (varsAt 0 (kindsOf c_format_Known.a))) (kindsOf c_format_Known.a).length = t_format_Known := by kernel_rfl
def F_format_Known : List Int → List Int := treeF (phiA E20 M0 S1) c_format_Known t_format_Known
theorem e_format_Known : EntOK Tryz.prog gG ⟨13, c_format_Known, F_format_Known⟩ := ent_any ok_RM0 3000 x_format_Known (by kernel_rfl)
end Go.Proofs.YtkfbdlidigmfbaaGreatDoor
