import Derived.Test.YtngiodcdelfdmaaGreatDoorA1R8
namespace Go.Proofs.YtngiodcdelfdmaaGreatDoor
set_option linter.unusedVariables false
set_option maxRecDepth 100000
open Go.RowKit
theorem ok_A2 : SOKT (ctxA E31 M0 S1) eE := ctxA_ok E31_ok M0_ok S1_ok (by kernel_rfl)
def c_mag_Diff : Ct := ⟨[.agg [kI, kU, kU, kU, kU], .agg [kI, kU, kU, kU, kU]], [.agg [kI, kU, kU, kU, kU], .sc .bool]⟩
def t_mag_Diff : Tr' SV :=
 (.call 207 [(.var kI 0), (.var kU 1), (.var kU 2), (.var kU 3), (.var kU 4), (.var kI 5), (.var kU 6), (.var kU 7), (.var kU 8), (.var kU 9)] 10 1
 (.ite (.bin .lss .i64 (.var kI 10) (.lit 0))
 (.call 214 [(.var kI 5), (.var kU 6), (.var kU 7), (.var kU 8), (.var kU 9), (.var kI 0), (.var kU 1), (.var kU 2), (.var kU 3), (.var kU 4)] 11 1
 (.call 142 [(.var kU 6), (.var kU 7), (.var kU 8), (.var kU 9), (.bin .sub .i64 (.bin .add .i64 (.var kI 11) (.lit 0)) (.max (.lit (-1099511627776)) (.min (.var kI 5) (.lit 1099511627776))))] 12 4
 (.call 142 [(.var kU 1), (.var kU 2), (.var kU 3), (.var kU 4), (.bin .sub .i64 (.bin .add .i64 (.var kI 11) (.lit 0)) (.max (.lit (-1099511627776)) (.min (.var kI 0) (.lit 1099511627776))))] 16 4
 (.call 92 [(.var kU 12), (.var kU 13), (.var kU 14), (.var kU 15), (.var kU 16), (.var kU 17), (.var kU 18), (.var kU 19)] 20 5
 (.leaf (.tup [(.agg [(.int .i64 (.bin .add .i64 (.var kI 11) (.lit 0))), (.int .u64 (.var kU 20)), (.int .u64 (.var kU 21)), (.int .u64 (.var kU 22)), (.int .u64 (.var kU 23))]), (.bool (.bin .lss .i64 (.var kI 10) (.lit 0)))]))))))
 (.call 214 [(.var kI 0), (.var kU 1), (.var kU 2), (.var kU 3), (.var kU 4), (.var kI 5), (.var kU 6), (.var kU 7), (.var kU 8), (.var kU 9)] 11 1
 (.call 142 [(.var kU 1), (.var kU 2), (.var kU 3), (.var kU 4), (.bin .sub .i64 (.bin .add .i64 (.var kI 11) (.lit 0)) (.max (.lit (-1099511627776)) (.min (.var kI 0) (.lit 1099511627776))))] 12 4
 (.call 142 [(.var kU 6), (.var kU 7), (.var kU 8), (.var kU 9), (.bin .sub .i64 (.bin .add .i64 (.var kI 11) (.lit 0)) (.max (.lit (-1099511627776)) (.min (.var kI 5) (.lit 1099511627776))))] 16 4
 (.call 92 [(.var kU 12), (.var kU 13), (.var kU 14), (.var kU 15), (.var kU 16), (.var kU 17), (.var kU 18), (.var kU 19)] 20 5
 (.leaf (.tup [(.agg [(.int .i64 (.bin .add .i64 (.var kI 11) (.lit 0))), (.int .u64 (.var kU 20)), (.int .u64 (.var kU 21)), (.int .u64 (.var kU 22)), (.int .u64 (.var kU 23))]), (.bool (.bin .lss .i64 (.var kI 10) (.lit 0)))]))))))))
theorem x_mag_Diff : execF (ctxA E31 M0 S1) 3000 174 (uns c_mag_Diff.a (varsAt 0 (kindsOf c_mag_Diff.a))) (kindsOf c_mag_Diff.a).length = t_mag_Diff := by kernel_rfl
def F_mag_Diff : List Int → List Int := treeF (phiA E31 M0 S1) c_mag_Diff t_mag_Diff
theorem e_mag_Diff : EntOK Tryz.prog gG ⟨174, c_mag_Diff, F_mag_Diff⟩ := ent_any ok_A2 3000 x_mag_Diff (by kernel_rfl)
def E32 : List Ent := ⟨174, c_mag_Diff, F_mag_Diff⟩ :: E31
theorem E32_ok : ∀ e ∈ E32, EntOK Tryz.prog gG e := List.forall_mem_cons.2 ⟨e_mag_Diff, E31_ok⟩
theorem ph_A2_mag_Cmp : phiA E31 M0 S1 207 = F_mag_Cmp := phiA_L (e := ⟨207, _, F_mag_Cmp⟩) rfl rfl rfl
theorem ph_A2_mag_level : phiA E31 M0 S1 214 = F_mag_level := phiA_L (e := ⟨214, _, F_mag_level⟩) rfl rfl rfl
theorem ph_A2_shift_WideJam : phiA E31 M0 S1 142 = F_shift_WideJam := phiA_L (e := ⟨142, _, F_shift_WideJam⟩) rfl rfl rfl
theorem ph_A2_wide_Sub : phiA E31 M0 S1 92 = fWideSub := phiA_L (e := ⟨92, _, fWideSub⟩) rfl rfl rfl
end Go.Proofs.YtngiodcdelfdmaaGreatDoor
