import Derived.Test.YtngiodcdelfdmaaGreatDoorA0R8
namespace Go.Proofs.YtngiodcdelfdmaaGreatDoor
set_option linter.unusedVariables false
set_option maxRecDepth 100000
open Go.RowKit
theorem ok_A1 : SOKT (ctxA E30 M0 S1) eE := ctxA_ok E30_ok M0_ok S1_ok (by kernel_rfl)
def c_mag_Cmp : Ct := ⟨[.agg [kI, kU, kU, kU, kU], .agg [kI, kU, kU, kU, kU]], [.sc kI]⟩
def t_mag_Cmp : Tr' SV :=
 (.call 83 [(.var kU 1), (.var kU 2), (.var kU 3), (.var kU 4), (.bin .sub .i64 (.max (.max (.lit (-1099511627776)) (.min (.var kI 0) (.lit 1099511627776))) (.max (.lit (-1099511627776)) (.min (.var kI 5) (.lit 1099511627776)))) (.max (.lit (-1099511627776)) (.min (.var kI 0) (.lit 1099511627776))))] 10 4
 (.call 195 [(.var kU 1), (.var kU 2), (.var kU 3), (.var kU 4), (.bin .sub .i64 (.max (.max (.lit (-1099511627776)) (.min (.var kI 0) (.lit 1099511627776))) (.max (.lit (-1099511627776)) (.min (.var kI 5) (.lit 1099511627776)))) (.max (.lit (-1099511627776)) (.min (.var kI 0) (.lit 1099511627776))))] 14 1
 (.call 83 [(.var kU 6), (.var kU 7), (.var kU 8), (.var kU 9), (.bin .sub .i64 (.max (.max (.lit (-1099511627776)) (.min (.var kI 0) (.lit 1099511627776))) (.max (.lit (-1099511627776)) (.min (.var kI 5) (.lit 1099511627776)))) (.max (.lit (-1099511627776)) (.min (.var kI 5) (.lit 1099511627776))))] 15 4
 (.call 195 [(.var kU 6), (.var kU 7), (.var kU 8), (.var kU 9), (.bin .sub .i64 (.max (.max (.lit (-1099511627776)) (.min (.var kI 0) (.lit 1099511627776))) (.max (.lit (-1099511627776)) (.min (.var kI 5) (.lit 1099511627776)))) (.max (.lit (-1099511627776)) (.min (.var kI 5) (.lit 1099511627776))))] 19 1
 (.call 159 [(.var kU 10), (.var kU 11), (.var kU 12), (.var kU 13), (.var kU 15), (.var kU 16), (.var kU 17), (.var kU 18)] 20 1
 (.ite (.bin .eql .i64 (.var kI 20) (.lit 0))
 (.ite (.var .bool 14)
 (.leaf (.int .i64 (.lit 1)))
 (.ite (.var .bool 19)
 (.leaf (.int .i64 (.lit (-1))))
 (.leaf (.int .i64 (.var kI 20)))))
 (.leaf (.int .i64 (.var kI 20)))))))))
theorem x_mag_Cmp : execF (ctxA E30 M0 S1) 3000 207 (uns c_mag_Cmp.a (varsAt 0 (kindsOf c_mag_Cmp.a))) (kindsOf c_mag_Cmp.a).length = t_mag_Cmp := by kernel_rfl
def F_mag_Cmp : List Int → List Int := treeF (phiA E30 M0 S1) c_mag_Cmp t_mag_Cmp
theorem e_mag_Cmp : EntOK Tryz.prog gG ⟨207, c_mag_Cmp, F_mag_Cmp⟩ := ent_any ok_A1 3000 x_mag_Cmp (by kernel_rfl)
def c_mag_Sum : Ct := ⟨[.agg [kI, kU, kU, kU, kU], .agg [kI, kU, kU, kU, kU]], [.agg [kI, kU, kU, kU, kU]]⟩
def t_mag_Sum : Tr' SV :=
 (.call 214 [(.var kI 0), (.var kU 1), (.var kU 2), (.var kU 3), (.var kU 4), (.var kI 5), (.var kU 6), (.var kU 7), (.var kU 8), (.var kU 9)] 10 1
 (.call 142 [(.var kU 1), (.var kU 2), (.var kU 3), (.var kU 4), (.bin .sub .i64 (.bin .add .i64 (.var kI 10) (.lit 1)) (.max (.lit (-1099511627776)) (.min (.var kI 0) (.lit 1099511627776))))] 11 4
 (.call 142 [(.var kU 6), (.var kU 7), (.var kU 8), (.var kU 9), (.bin .sub .i64 (.bin .add .i64 (.var kI 10) (.lit 1)) (.max (.lit (-1099511627776)) (.min (.var kI 5) (.lit 1099511627776))))] 15 4
 (.call 91 [(.var kU 11), (.var kU 12), (.var kU 13), (.var kU 14), (.var kU 15), (.var kU 16), (.var kU 17), (.var kU 18)] 19 5
 (.leaf (.agg [(.int .i64 (.bin .add .i64 (.var kI 10) (.lit 1))), (.int .u64 (.var kU 19)), (.int .u64 (.var kU 20)), (.int .u64 (.var kU 21)), (.int .u64 (.var kU 22))]))))))
theorem x_mag_Sum : execF (ctxA E30 M0 S1) 3000 172 (uns c_mag_Sum.a (varsAt 0 (kindsOf c_mag_Sum.a))) (kindsOf c_mag_Sum.a).length = t_mag_Sum := by kernel_rfl
def F_mag_Sum : List Int → List Int := treeF (phiA E30 M0 S1) c_mag_Sum t_mag_Sum
theorem e_mag_Sum : EntOK Tryz.prog gG ⟨172, c_mag_Sum, F_mag_Sum⟩ := ent_any ok_A1 3000 x_mag_Sum (by kernel_rfl)
def E31 : List Ent := ⟨207, c_mag_Cmp, F_mag_Cmp⟩ :: ⟨172, c_mag_Sum, F_mag_Sum⟩ :: E30
theorem E31_ok : ∀ e ∈ E31, EntOK Tryz.prog gG e := List.forall_mem_cons.2 ⟨e_mag_Cmp, List.forall_mem_cons.2 ⟨e_mag_Sum, E30_ok⟩⟩
theorem ph_A1_shift_WideRight : phiA E30 M0 S1 83 = F_shift_WideRight := phiA_L (e := ⟨83, _, F_shift_WideRight⟩) rfl rfl rfl
theorem ph_A1_shift_Lost : phiA E30 M0 S1 195 = F_shift_Lost := phiA_L (e := ⟨195, _, F_shift_Lost⟩) rfl rfl rfl
theorem ph_A1_wide_Cmp : phiA E30 M0 S1 159 = F_wide_Cmp := phiA_L (e := ⟨159, _, F_wide_Cmp⟩) rfl rfl rfl
theorem ph_A1_mag_level : phiA E30 M0 S1 214 = F_mag_level := phiA_L (e := ⟨214, _, F_mag_level⟩) rfl rfl rfl
theorem ph_A1_shift_WideJam : phiA E30 M0 S1 142 = F_shift_WideJam := phiA_L (e := ⟨142, _, F_shift_WideJam⟩) rfl rfl rfl
theorem ph_A1_wide_Add : phiA E30 M0 S1 91 = fWideAdd := phiA_L (e := ⟨91, _, fWideAdd⟩) rfl rfl rfl
end Go.Proofs.YtngiodcdelfdmaaGreatDoor
