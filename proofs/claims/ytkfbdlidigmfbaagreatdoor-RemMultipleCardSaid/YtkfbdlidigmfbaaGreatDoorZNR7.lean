import Derived.Test.YtkfbdlidigmfbaaGreatDoorH1R7
import Derived.Test.YtkfbdlidigmfbaaGreatDoorK1R7
import Derived.Test.YtkfbdlidigmfbaaGreatDoorSxTR7
namespace Go.Proofs.YtkfbdlidigmfbaaGreatDoor
set_option linter.unusedVariables false
set_option maxRecDepth 100000
open Go.RowKit
theorem ok_A0 : SOKT (ctxA E11 M0 S1) eE := ctxA_ok E11_ok M0_ok S1_ok (by kernel_rfl)
def c_wide_Cmp : Ct := ⟨[.agg [kU, kU, kU, kU], .agg [kU, kU, kU, kU]], [.sc kI]⟩
def t_wide_Cmp : Tr' SV :=
 (.call 104 [(.var kU 0), (.var kU 1), (.var kU 2), (.var kU 3)] 8 2
 (.call 104 [(.var kU 4), (.var kU 5), (.var kU 6), (.var kU 7)] 10 2
 (.call 12 [(.var kU 8), (.var kU 9), (.var kU 10), (.var kU 11)] 12 1
 (.ite (.bin .neq .i64 (.var kI 12) (.lit 0))
 (.leaf (.int .i64 (.var kI 12)))
 (.call 107 [(.var kU 0), (.var kU 1), (.var kU 2), (.var kU 3)] 13 2
 (.call 107 [(.var kU 4), (.var kU 5), (.var kU 6), (.var kU 7)] 15 2
 (.call 12 [(.var kU 13), (.var kU 14), (.var kU 15), (.var kU 16)] 17 1
 (.leaf (.int .i64 (.var kI 17))))))))))
theorem x_wide_Cmp : execF (ctxA E11 M0 S1) 3000 71 (uns c_wide_Cmp.a (varsAt 0 (kindsOf c_wide_Cmp.a))) (kindsOf c_wide_Cmp.a).length = t_wide_Cmp := by kernel_rfl
def F_wide_Cmp : List Int → List Int := treeF (phiA E11 M0 S1) c_wide_Cmp t_wide_Cmp
theorem e_wide_Cmp : EntOK Tryz.prog gG ⟨71, c_wide_Cmp, F_wide_Cmp⟩ := ent_any ok_A0 3000 x_wide_Cmp (by kernel_rfl)
def c_mag_level : Ct := ⟨[.agg [kI, kU, kU, kU, kU], .agg [kI, kU, kU, kU, kU]], [.sc kI]⟩
def t_mag_level : Tr' SV :=
 (.call 57 [(.var kU 1), (.var kU 2), (.var kU 3), (.var kU 4)] 10 1
 (.ite (.var .bool 10)
 (.call 57 [(.var kU 6), (.var kU 7), (.var kU 8), (.var kU 9)] 11 1
 (.ite (.not (.var .bool 11))
 (.leaf (.int .i64 (.max (.lit (-1099511627776)) (.min (.var kI 5) (.lit 1099511627776)))))
 (.call 57 [(.var kU 6), (.var kU 7), (.var kU 8), (.var kU 9)] 12 1
 (.ite (.var .bool 12)
 (.call 57 [(.var kU 1), (.var kU 2), (.var kU 3), (.var kU 4)] 13 1
 (.ite (.not (.var .bool 13))
 (.leaf (.int .i64 (.max (.lit (-1099511627776)) (.min (.var kI 0) (.lit 1099511627776)))))
 (.leaf (.int .i64 (.max (.max (.lit (-1099511627776)) (.min (.var kI 0) (.lit 1099511627776))) (.max (.lit (-1099511627776)) (.min (.var kI 5) (.lit 1099511627776))))))))
 (.leaf (.int .i64 (.max (.max (.lit (-1099511627776)) (.min (.var kI 0) (.lit 1099511627776))) (.max (.lit (-1099511627776)) (.min (.var kI 5) (.lit 1099511627776))))))))))
 (.call 57 [(.var kU 6), (.var kU 7), (.var kU 8), (.var kU 9)] 11 1
 (.ite (.var .bool 11)
 (.call 57 [(.var kU 1), (.var kU 2), (.var kU 3), (.var kU 4)] 12 1
 (.ite (.not (.var .bool 12))
 (.leaf (.int .i64 (.max (.lit (-1099511627776)) (.min (.var kI 0) (.lit 1099511627776)))))
 (.leaf (.int .i64 (.max (.max (.lit (-1099511627776)) (.min (.var kI 0) (.lit 1099511627776))) (.max (.lit (-1099511627776)) (.min (.var kI 5) (.lit 1099511627776))))))))
 (.leaf (.int .i64 (.max (.max (.lit (-1099511627776)) (.min (.var kI 0) (.lit 1099511627776))) (.max (.lit (-1099511627776)) (.min (.var kI 5) (.lit 1099511627776))))))))))
theorem x_mag_level : execF (ctxA E11 M0 S1) 3000 131 (uns c_mag_level.a (varsAt 0 (kindsOf c_mag_level.a))) (kindsOf c_mag_level.a).length = t_mag_level := by kernel_rfl
def F_mag_level : List Int → List Int := treeF (phiA E11 M0 S1) c_mag_level t_mag_level
theorem e_mag_level : EntOK Tryz.prog gG ⟨131, c_mag_level, F_mag_level⟩ := ent_any ok_A0 3000 x_mag_level (by kernel_rfl)
def E30 : List Ent := ⟨71, c_wide_Cmp, F_wide_Cmp⟩ :: ⟨131, c_mag_level, F_mag_level⟩ :: E11
theorem E30_ok : ∀ e ∈ E30, EntOK Tryz.prog gG e := List.forall_mem_cons.2 ⟨e_wide_Cmp, List.forall_mem_cons.2 ⟨e_mag_level, E11_ok⟩⟩
theorem ph_A0_wide_High : phiA E11 M0 S1 104 = F_wide_High := phiA_L (e := ⟨104, _, F_wide_High⟩) rfl rfl rfl
theorem ph_A0_word_Cmp : phiA E11 M0 S1 12 = F_word_Cmp := phiA_L (e := ⟨12, _, F_word_Cmp⟩) rfl rfl rfl
theorem ph_A0_wide_Low : phiA E11 M0 S1 107 = F_wide_Low := phiA_L (e := ⟨107, _, F_wide_Low⟩) rfl rfl rfl
theorem ph_A0_wide_Zero : phiA E11 M0 S1 57 = F_wide_Zero := phiA_L (e := ⟨57, _, F_wide_Zero⟩) rfl rfl rfl
end Go.Proofs.YtkfbdlidigmfbaaGreatDoor
namespace Go.Proofs.YtkfbdlidigmfbaaGreatDoor
set_option linter.unusedVariables false
set_option maxRecDepth 100000
open Go.RowKit
theorem ok_A1 : SOKT (ctxA E30 M0 S1) eE := ctxA_ok E30_ok M0_ok S1_ok (by kernel_rfl)
def c_mag_Cmp : Ct := ⟨[.agg [kI, kU, kU, kU, kU], .agg [kI, kU, kU, kU, kU]], [.sc kI]⟩
def t_mag_Cmp : Tr' SV :=
 (.call 31 [(.var kU 1), (.var kU 2), (.var kU 3), (.var kU 4), (.bin .sub .i64 (.max (.max (.lit (-1099511627776)) (.min (.var kI 0) (.lit 1099511627776))) (.max (.lit (-1099511627776)) (.min (.var kI 5) (.lit 1099511627776)))) (.max (.lit (-1099511627776)) (.min (.var kI 0) (.lit 1099511627776))))] 10 4
 (.call 116 [(.var kU 1), (.var kU 2), (.var kU 3), (.var kU 4), (.bin .sub .i64 (.max (.max (.lit (-1099511627776)) (.min (.var kI 0) (.lit 1099511627776))) (.max (.lit (-1099511627776)) (.min (.var kI 5) (.lit 1099511627776)))) (.max (.lit (-1099511627776)) (.min (.var kI 0) (.lit 1099511627776))))] 14 1
 (.call 31 [(.var kU 6), (.var kU 7), (.var kU 8), (.var kU 9), (.bin .sub .i64 (.max (.max (.lit (-1099511627776)) (.min (.var kI 0) (.lit 1099511627776))) (.max (.lit (-1099511627776)) (.min (.var kI 5) (.lit 1099511627776)))) (.max (.lit (-1099511627776)) (.min (.var kI 5) (.lit 1099511627776))))] 15 4
 (.call 116 [(.var kU 6), (.var kU 7), (.var kU 8), (.var kU 9), (.bin .sub .i64 (.max (.max (.lit (-1099511627776)) (.min (.var kI 0) (.lit 1099511627776))) (.max (.lit (-1099511627776)) (.min (.var kI 5) (.lit 1099511627776)))) (.max (.lit (-1099511627776)) (.min (.var kI 5) (.lit 1099511627776))))] 19 1
 (.call 71 [(.var kU 10), (.var kU 11), (.var kU 12), (.var kU 13), (.var kU 15), (.var kU 16), (.var kU 17), (.var kU 18)] 20 1
 (.ite (.bin .eql .i64 (.var kI 20) (.lit 0))
 (.ite (.var .bool 14)
 (.leaf (.int .i64 (.lit 1)))
 (.ite (.var .bool 19)
 (.leaf (.int .i64 (.lit (-1))))
 (.leaf (.int .i64 (.var kI 20)))))
 (.leaf (.int .i64 (.var kI 20)))))))))
theorem x_mag_Cmp : execF (ctxA E30 M0 S1) 3000 120 (uns c_mag_Cmp.a (varsAt 0 (kindsOf c_mag_Cmp.a))) (kindsOf c_mag_Cmp.a).length = t_mag_Cmp := by kernel_rfl
def F_mag_Cmp : List Int → List Int := treeF (phiA E30 M0 S1) c_mag_Cmp t_mag_Cmp
theorem e_mag_Cmp : EntOK Tryz.prog gG ⟨120, c_mag_Cmp, F_mag_Cmp⟩ := ent_any ok_A1 3000 x_mag_Cmp (by kernel_rfl)
def c_mag_Sum : Ct := ⟨[.agg [kI, kU, kU, kU, kU], .agg [kI, kU, kU, kU, kU]], [.agg [kI, kU, kU, kU, kU]]⟩
def t_mag_Sum : Tr' SV :=
 (.call 131 [(.var kI 0), (.var kU 1), (.var kU 2), (.var kU 3), (.var kU 4), (.var kI 5), (.var kU 6), (.var kU 7), (.var kU 8), (.var kU 9)] 10 1
 (.call 79 [(.var kU 1), (.var kU 2), (.var kU 3), (.var kU 4), (.bin .sub .i64 (.bin .add .i64 (.var kI 10) (.lit 1)) (.max (.lit (-1099511627776)) (.min (.var kI 0) (.lit 1099511627776))))] 11 4
 (.call 79 [(.var kU 6), (.var kU 7), (.var kU 8), (.var kU 9), (.bin .sub .i64 (.bin .add .i64 (.var kI 10) (.lit 1)) (.max (.lit (-1099511627776)) (.min (.var kI 5) (.lit 1099511627776))))] 15 4
 (.call 51 [(.var kU 11), (.var kU 12), (.var kU 13), (.var kU 14), (.var kU 15), (.var kU 16), (.var kU 17), (.var kU 18)] 19 5
 (.leaf (.agg [(.int .i64 (.bin .add .i64 (.var kI 10) (.lit 1))), (.int .u64 (.var kU 19)), (.int .u64 (.var kU 20)), (.int .u64 (.var kU 21)), (.int .u64 (.var kU 22))]))))))
theorem x_mag_Sum : execF (ctxA E30 M0 S1) 3000 87 (uns c_mag_Sum.a (varsAt 0 (kindsOf c_mag_Sum.a))) (kindsOf c_mag_Sum.a).length = t_mag_Sum := by kernel_rfl
def F_mag_Sum : List Int → List Int := treeF (phiA E30 M0 S1) c_mag_Sum t_mag_Sum
theorem e_mag_Sum : EntOK Tryz.prog gG ⟨87, c_mag_Sum, F_mag_Sum⟩ := ent_any ok_A1 3000 x_mag_Sum (by kernel_rfl)
def E31 : List Ent := ⟨120, c_mag_Cmp, F_mag_Cmp⟩ :: ⟨87, c_mag_Sum, F_mag_Sum⟩ :: E30
theorem E31_ok : ∀ e ∈ E31, EntOK Tryz.prog gG e := List.forall_mem_cons.2 ⟨e_mag_Cmp, List.forall_mem_cons.2 ⟨e_mag_Sum, E30_ok⟩⟩
theorem ph_A1_shift_WideRight : phiA E30 M0 S1 31 = F_shift_WideRight := phiA_L (e := ⟨31, _, F_shift_WideRight⟩) rfl rfl rfl
theorem ph_A1_shift_Lost : phiA E30 M0 S1 116 = F_shift_Lost := phiA_L (e := ⟨116, _, F_shift_Lost⟩) rfl rfl rfl
theorem ph_A1_wide_Cmp : phiA E30 M0 S1 71 = F_wide_Cmp := phiA_L (e := ⟨71, _, F_wide_Cmp⟩) rfl rfl rfl
theorem ph_A1_mag_level : phiA E30 M0 S1 131 = F_mag_level := phiA_L (e := ⟨131, _, F_mag_level⟩) rfl rfl rfl
theorem ph_A1_shift_WideJam : phiA E30 M0 S1 79 = F_shift_WideJam := phiA_L (e := ⟨79, _, F_shift_WideJam⟩) rfl rfl rfl
theorem ph_A1_wide_Add : phiA E30 M0 S1 51 = fWideAdd := phiA_L (e := ⟨51, _, fWideAdd⟩) rfl rfl rfl
end Go.Proofs.YtkfbdlidigmfbaaGreatDoor
namespace Go.Proofs.YtkfbdlidigmfbaaGreatDoor
set_option linter.unusedVariables false
set_option maxRecDepth 100000
open Go.RowKit
theorem ok_A2 : SOKT (ctxA E31 M0 S1) eE := ctxA_ok E31_ok M0_ok S1_ok (by kernel_rfl)
def c_mag_Diff : Ct := ⟨[.agg [kI, kU, kU, kU, kU], .agg [kI, kU, kU, kU, kU]], [.agg [kI, kU, kU, kU, kU], .sc .bool]⟩
def t_mag_Diff : Tr' SV :=
 (.call 120 [(.var kI 0), (.var kU 1), (.var kU 2), (.var kU 3), (.var kU 4), (.var kI 5), (.var kU 6), (.var kU 7), (.var kU 8), (.var kU 9)] 10 1
 (.ite (.bin .lss .i64 (.var kI 10) (.lit 0))
 (.call 131 [(.var kI 5), (.var kU 6), (.var kU 7), (.var kU 8), (.var kU 9), (.var kI 0), (.var kU 1), (.var kU 2), (.var kU 3), (.var kU 4)] 11 1
 (.call 79 [(.var kU 6), (.var kU 7), (.var kU 8), (.var kU 9), (.bin .sub .i64 (.bin .add .i64 (.var kI 11) (.lit 0)) (.max (.lit (-1099511627776)) (.min (.var kI 5) (.lit 1099511627776))))] 12 4
 (.call 79 [(.var kU 1), (.var kU 2), (.var kU 3), (.var kU 4), (.bin .sub .i64 (.bin .add .i64 (.var kI 11) (.lit 0)) (.max (.lit (-1099511627776)) (.min (.var kI 0) (.lit 1099511627776))))] 16 4
 (.call 52 [(.var kU 12), (.var kU 13), (.var kU 14), (.var kU 15), (.var kU 16), (.var kU 17), (.var kU 18), (.var kU 19)] 20 5
 (.leaf (.tup [(.agg [(.int .i64 (.bin .add .i64 (.var kI 11) (.lit 0))), (.int .u64 (.var kU 20)), (.int .u64 (.var kU 21)), (.int .u64 (.var kU 22)), (.int .u64 (.var kU 23))]), (.bool (.bin .lss .i64 (.var kI 10) (.lit 0)))]))))))
 (.call 131 [(.var kI 0), (.var kU 1), (.var kU 2), (.var kU 3), (.var kU 4), (.var kI 5), (.var kU 6), (.var kU 7), (.var kU 8), (.var kU 9)] 11 1
 (.call 79 [(.var kU 1), (.var kU 2), (.var kU 3), (.var kU 4), (.bin .sub .i64 (.bin .add .i64 (.var kI 11) (.lit 0)) (.max (.lit (-1099511627776)) (.min (.var kI 0) (.lit 1099511627776))))] 12 4
 (.call 79 [(.var kU 6), (.var kU 7), (.var kU 8), (.var kU 9), (.bin .sub .i64 (.bin .add .i64 (.var kI 11) (.lit 0)) (.max (.lit (-1099511627776)) (.min (.var kI 5) (.lit 1099511627776))))] 16 4
 (.call 52 [(.var kU 12), (.var kU 13), (.var kU 14), (.var kU 15), (.var kU 16), (.var kU 17), (.var kU 18), (.var kU 19)] 20 5
 (.leaf (.tup [(.agg [(.int .i64 (.bin .add .i64 (.var kI 11) (.lit 0))), (.int .u64 (.var kU 20)), (.int .u64 (.var kU 21)), (.int .u64 (.var kU 22)), (.int .u64 (.var kU 23))]), (.bool (.bin .lss .i64 (.var kI 10) (.lit 0)))]))))))))
theorem x_mag_Diff : execF (ctxA E31 M0 S1) 3000 89 (uns c_mag_Diff.a (varsAt 0 (kindsOf c_mag_Diff.a))) (kindsOf c_mag_Diff.a).length = t_mag_Diff := by kernel_rfl
def F_mag_Diff : List Int → List Int := treeF (phiA E31 M0 S1) c_mag_Diff t_mag_Diff
theorem e_mag_Diff : EntOK Tryz.prog gG ⟨89, c_mag_Diff, F_mag_Diff⟩ := ent_any ok_A2 3000 x_mag_Diff (by kernel_rfl)
def E32 : List Ent := ⟨89, c_mag_Diff, F_mag_Diff⟩ :: E31
theorem E32_ok : ∀ e ∈ E32, EntOK Tryz.prog gG e := List.forall_mem_cons.2 ⟨e_mag_Diff, E31_ok⟩
theorem ph_A2_mag_Cmp : phiA E31 M0 S1 120 = F_mag_Cmp := phiA_L (e := ⟨120, _, F_mag_Cmp⟩) rfl rfl rfl
theorem ph_A2_mag_level : phiA E31 M0 S1 131 = F_mag_level := phiA_L (e := ⟨131, _, F_mag_level⟩) rfl rfl rfl
theorem ph_A2_shift_WideJam : phiA E31 M0 S1 79 = F_shift_WideJam := phiA_L (e := ⟨79, _, F_shift_WideJam⟩) rfl rfl rfl
theorem ph_A2_wide_Sub : phiA E31 M0 S1 52 = fWideSub := phiA_L (e := ⟨52, _, fWideSub⟩) rfl rfl rfl
end Go.Proofs.YtkfbdlidigmfbaaGreatDoor
namespace Go.Proofs.YtkfbdlidigmfbaaGreatDoor
set_option linter.unusedVariables false
set_option maxRecDepth 100000
open Go.RowKit
theorem ok_A3 : SOKT (ctxA E32 M0 S1) eE := ctxA_ok E32_ok M0_ok S1_ok (by kernel_rfl)
def c_addsub_Add : Ct := ⟨[.sc kB, .agg [kB, .bool], .agg [kU, kU], .agg [kU, kU]], [.agg [kU, kU, kB]]⟩
def t_addsub_Add : Tr' SV :=
 (.ite (.not (.bin .lss .i64 (.var kB 0) (.lit 4)))
 (.leaf (.agg [(.int .u64 (.lit 0)), (.int .u64 (.lit 0)), (.int .u8 (.lit 0))]))
 (.ite (.not (.bin .leq .u8 (.var kB 1) (.lit 4)))
 (.leaf (.agg [(.int .u64 (.lit 0)), (.int .u64 (.lit 0)), (.int .u8 (.lit 0))]))
 (.call 27 [(.var kB 0), (.var kU 3), (.var kU 4)] 7 5
 (.call 27 [(.var kB 0), (.var kU 5), (.var kU 6)] 12 5
 (.ite (.bin .eql .u8 (.var kB 8) (.lit 3))
 (.ite (.bin .eql .u8 (.var kB 13) (.lit 3))
 (.call 2000028 [(.var kB 0), (.not (.beq (.var .bool 7) (.var .bool 12))), (.var kU 3), (.var kU 4), (.var kU 5), (.var kU 6)] 17 4
 (.ite (.var .bool 20)
 (.leaf (.agg [(.int .u64 (.var kU 17)), (.int .u64 (.var kU 18)), (.int .u8 (.var kB 19))]))
 (.call 29 [(.var kB 0), (.var .bool 7)] 21 2
 (.leaf (.agg [(.int .u64 (.var kU 21)), (.int .u64 (.var kU 22)), (.int .u8 (.lit 0))])))))
 (.call 2000028 [(.var kB 0), (.lit 0), (.var kU 3), (.var kU 4), (.var kU 5), (.var kU 6)] 17 4
 (.ite (.var .bool 20)
 (.leaf (.agg [(.int .u64 (.var kU 17)), (.int .u64 (.var kU 18)), (.int .u8 (.var kB 19))]))
 (.call 29 [(.var kB 0), (.var .bool 7)] 21 2
 (.leaf (.agg [(.int .u64 (.var kU 21)), (.int .u64 (.var kU 22)), (.int .u8 (.lit 0))]))))))
 (.call 2000028 [(.var kB 0), (.lit 0), (.var kU 3), (.var kU 4), (.var kU 5), (.var kU 6)] 17 4
 (.ite (.var .bool 20)
 (.leaf (.agg [(.int .u64 (.var kU 17)), (.int .u64 (.var kU 18)), (.int .u8 (.var kB 19))]))
 (.ite (.bin .eql .u8 (.var kB 13) (.lit 3))
 (.call 29 [(.var kB 0), (.var .bool 12)] 21 2
 (.leaf (.agg [(.int .u64 (.var kU 21)), (.int .u64 (.var kU 22)), (.int .u8 (.lit 0))])))
 (.ite (.not (.beq (.var .bool 7) (.var .bool 12)))
 (.call 30 [(.var kU 10), (.var kU 11), (.lit 0), (.lit 0)] 21 4
 (.call 30 [(.var kU 15), (.var kU 16), (.lit 0), (.lit 0)] 25 4
 (.call 89 [(.var kI 9), (.var kU 21), (.var kU 22), (.var kU 23), (.var kU 24), (.var kI 14), (.var kU 25), (.var kU 26), (.var kU 27), (.var kU 28)] 29 6
 (.call 57 [(.var kU 30), (.var kU 31), (.var kU 32), (.var kU 33)] 35 1
 (.ite (.var .bool 35)
 (.call 35 [(.var kB 0), (.var kB 1), (.var .bool 2), (.bin .eql .u8 (.var kB 1) (.lit 3)), (.var kI 29), (.var kU 30), (.var kU 31), (.var kU 32), (.var kU 33)] 36 3
 (.leaf (.agg [(.int .u64 (.var kU 36)), (.int .u64 (.var kU 37)), (.int .u8 (.var kB 38))])))
 (.call 35 [(.var kB 0), (.var kB 1), (.var .bool 2), (.not (.beq (.var .bool 7) (.var .bool 34))), (.var kI 29), (.var kU 30), (.var kU 31), (.var kU 32), (.var kU 33)] 36 3
 (.leaf (.agg [(.int .u64 (.var kU 36)), (.int .u64 (.var kU 37)), (.int .u8 (.var kB 38))]))))))))
 (.call 30 [(.var kU 10), (.var kU 11), (.lit 0), (.lit 0)] 21 4
 (.call 30 [(.var kU 15), (.var kU 16), (.lit 0), (.lit 0)] 25 4
 (.call 87 [(.var kI 9), (.var kU 21), (.var kU 22), (.var kU 23), (.var kU 24), (.var kI 14), (.var kU 25), (.var kU 26), (.var kU 27), (.var kU 28)] 29 5
 (.call 57 [(.var kU 30), (.var kU 31), (.var kU 32), (.var kU 33)] 34 1
 (.ite (.var .bool 34)
 (.call 35 [(.var kB 0), (.var kB 1), (.var .bool 2), (.var .bool 7), (.var kI 29), (.var kU 30), (.var kU 31), (.var kU 32), (.var kU 33)] 35 3
 (.leaf (.agg [(.int .u64 (.var kU 35)), (.int .u64 (.var kU 36)), (.int .u8 (.var kB 37))])))
 (.call 35 [(.var kB 0), (.var kB 1), (.var .bool 2), (.var .bool 7), (.var kI 29), (.var kU 30), (.var kU 31), (.var kU 32), (.var kU 33)] 35 3
 (.leaf (.agg [(.int .u64 (.var kU 35)), (.int .u64 (.var kU 36)), (.int .u8 (.var kB 37))])))))))))))))))))
theorem x_addsub_Add : execF (ctxA E32 M0 S1) 3000 18 (uns c_addsub_Add.a (varsAt 0 (kindsOf c_addsub_Add.a))) (kindsOf c_addsub_Add.a).length = t_addsub_Add := by kernel_rfl
def F_addsub_Add : List Int → List Int := treeF (phiA E32 M0 S1) c_addsub_Add t_addsub_Add
theorem e_addsub_Add : EntOK Tryz.prog gG ⟨18, c_addsub_Add, F_addsub_Add⟩ := ent_any ok_A3 3000 x_addsub_Add (by kernel_rfl)
theorem ph_A3_fields_Unpack : phiA E32 M0 S1 27 = F_fields_Unpack := phiA_L (e := ⟨27, _, F_fields_Unpack⟩) rfl rfl rfl
theorem ph_A3_nan_Pick_2 : phiA E32 M0 S1 2000028 = F_nan_Pick_2 := phiA_S (e := ⟨28, _, F_nan_Pick_2⟩) rfl
theorem ph_A3_format_Inf : phiA E32 M0 S1 29 = F_format_Inf := phiA_L (e := ⟨29, _, F_format_Inf⟩) rfl rfl rfl
theorem ph_A3_wide_Join : phiA E32 M0 S1 30 = F_wide_Join := phiA_L (e := ⟨30, _, F_wide_Join⟩) rfl rfl rfl
theorem ph_A3_mag_Diff : phiA E32 M0 S1 89 = F_mag_Diff := phiA_L (e := ⟨89, _, F_mag_Diff⟩) rfl rfl rfl
theorem ph_A3_wide_Zero : phiA E32 M0 S1 57 = F_wide_Zero := phiA_L (e := ⟨57, _, F_wide_Zero⟩) rfl rfl rfl
theorem ph_A3_pack_Round : phiA E32 M0 S1 35 = F_pack_Round := phiA_L (e := ⟨35, _, F_pack_Round⟩) rfl rfl rfl
theorem ph_A3_mag_Sum : phiA E32 M0 S1 87 = F_mag_Sum := phiA_L (e := ⟨87, _, F_mag_Sum⟩) rfl rfl rfl
end Go.Proofs.YtkfbdlidigmfbaaGreatDoor
