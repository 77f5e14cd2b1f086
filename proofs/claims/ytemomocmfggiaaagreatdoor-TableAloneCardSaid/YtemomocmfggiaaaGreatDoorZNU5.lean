import Derived.Test.YtemomocmfggiaaaGreatDoorH1U5
import Derived.Test.YtemomocmfggiaaaGreatDoorK1U5
import Derived.Test.YtemomocmfggiaaaGreatDoorSxTU5
namespace Go.Proofs.YtemomocmfggiaaaGreatDoor
set_option linter.unusedVariables false
set_option maxRecDepth 100000
open Go.RowKit
theorem ok_A0 : SOKT (ctxA E11 M0 S1) eE := ctxA_ok E11_ok M0_ok S1_ok (by kernel_rfl)
def c_wide_Cmp : Ct := ⟨[.agg [kU, kU, kU, kU], .agg [kU, kU, kU, kU]], [.sc kI]⟩
def t_wide_Cmp : Tr' SV :=
 (.call 241 [(.var kU 0), (.var kU 1), (.var kU 2), (.var kU 3)] 8 2
 (.call 241 [(.var kU 4), (.var kU 5), (.var kU 6), (.var kU 7)] 10 2
 (.call 159 [(.var kU 8), (.var kU 9), (.var kU 10), (.var kU 11)] 12 1
 (.ite (.bin .neq .i64 (.var kI 12) (.lit 0))
 (.leaf (.int .i64 (.var kI 12)))
 (.call 249 [(.var kU 0), (.var kU 1), (.var kU 2), (.var kU 3)] 13 2
 (.call 249 [(.var kU 4), (.var kU 5), (.var kU 6), (.var kU 7)] 15 2
 (.call 159 [(.var kU 13), (.var kU 14), (.var kU 15), (.var kU 16)] 17 1
 (.leaf (.int .i64 (.var kI 17))))))))))
theorem x_wide_Cmp : execF (ctxA E11 M0 S1) 3000 221 (uns c_wide_Cmp.a (varsAt 0 (kindsOf c_wide_Cmp.a))) (kindsOf c_wide_Cmp.a).length = t_wide_Cmp := by kernel_rfl
def F_wide_Cmp : List Int → List Int := treeF (phiA E11 M0 S1) c_wide_Cmp t_wide_Cmp
theorem e_wide_Cmp : EntOK Tryz.prog gG ⟨221, c_wide_Cmp, F_wide_Cmp⟩ := ent_any ok_A0 3000 x_wide_Cmp (by kernel_rfl)
def c_mag_level : Ct := ⟨[.agg [kI, kU, kU, kU, kU], .agg [kI, kU, kU, kU, kU]], [.sc kI]⟩
def t_mag_level : Tr' SV :=
 (.call 166 [(.var kU 1), (.var kU 2), (.var kU 3), (.var kU 4)] 10 1
 (.ite (.var .bool 10)
 (.call 166 [(.var kU 6), (.var kU 7), (.var kU 8), (.var kU 9)] 11 1
 (.ite (.not (.var .bool 11))
 (.leaf (.int .i64 (.max (.lit (-1099511627776)) (.min (.var kI 5) (.lit 1099511627776)))))
 (.call 166 [(.var kU 6), (.var kU 7), (.var kU 8), (.var kU 9)] 12 1
 (.ite (.var .bool 12)
 (.call 166 [(.var kU 1), (.var kU 2), (.var kU 3), (.var kU 4)] 13 1
 (.ite (.not (.var .bool 13))
 (.leaf (.int .i64 (.max (.lit (-1099511627776)) (.min (.var kI 0) (.lit 1099511627776)))))
 (.leaf (.int .i64 (.max (.max (.lit (-1099511627776)) (.min (.var kI 0) (.lit 1099511627776))) (.max (.lit (-1099511627776)) (.min (.var kI 5) (.lit 1099511627776))))))))
 (.leaf (.int .i64 (.max (.max (.lit (-1099511627776)) (.min (.var kI 0) (.lit 1099511627776))) (.max (.lit (-1099511627776)) (.min (.var kI 5) (.lit 1099511627776))))))))))
 (.call 166 [(.var kU 6), (.var kU 7), (.var kU 8), (.var kU 9)] 11 1
 (.ite (.var .bool 11)
 (.call 166 [(.var kU 1), (.var kU 2), (.var kU 3), (.var kU 4)] 12 1
 (.ite (.not (.var .bool 12))
 (.leaf (.int .i64 (.max (.lit (-1099511627776)) (.min (.var kI 0) (.lit 1099511627776)))))
 (.leaf (.int .i64 (.max (.max (.lit (-1099511627776)) (.min (.var kI 0) (.lit 1099511627776))) (.max (.lit (-1099511627776)) (.min (.var kI 5) (.lit 1099511627776))))))))
 (.leaf (.int .i64 (.max (.max (.lit (-1099511627776)) (.min (.var kI 0) (.lit 1099511627776))) (.max (.lit (-1099511627776)) (.min (.var kI 5) (.lit 1099511627776))))))))))
theorem x_mag_level : execF (ctxA E11 M0 S1) 3000 265 (uns c_mag_level.a (varsAt 0 (kindsOf c_mag_level.a))) (kindsOf c_mag_level.a).length = t_mag_level := by kernel_rfl
def F_mag_level : List Int → List Int := treeF (phiA E11 M0 S1) c_mag_level t_mag_level
theorem e_mag_level : EntOK Tryz.prog gG ⟨265, c_mag_level, F_mag_level⟩ := ent_any ok_A0 3000 x_mag_level (by kernel_rfl)
def E30 : List Ent := ⟨221, c_wide_Cmp, F_wide_Cmp⟩ :: ⟨265, c_mag_level, F_mag_level⟩ :: E11
theorem E30_ok : ∀ e ∈ E30, EntOK Tryz.prog gG e := List.forall_mem_cons.2 ⟨e_wide_Cmp, List.forall_mem_cons.2 ⟨e_mag_level, E11_ok⟩⟩
theorem ph_A0_wide_High : phiA E11 M0 S1 241 = F_wide_High := phiA_L (e := ⟨241, _, F_wide_High⟩) rfl rfl rfl
theorem ph_A0_word_Cmp : phiA E11 M0 S1 159 = F_word_Cmp := phiA_L (e := ⟨159, _, F_word_Cmp⟩) rfl rfl rfl
theorem ph_A0_wide_Low : phiA E11 M0 S1 249 = F_wide_Low := phiA_L (e := ⟨249, _, F_wide_Low⟩) rfl rfl rfl
end Go.Proofs.YtemomocmfggiaaaGreatDoor
namespace Go.Proofs.YtemomocmfggiaaaGreatDoor
set_option linter.unusedVariables false
set_option maxRecDepth 100000
open Go.RowKit
theorem ok_A1 : SOKT (ctxA E30 M0 S1) eE := ctxA_ok E30_ok M0_ok S1_ok (by kernel_rfl)
def c_mag_Cmp : Ct := ⟨[.agg [kI, kU, kU, kU, kU], .agg [kI, kU, kU, kU, kU]], [.sc kI]⟩
def t_mag_Cmp : Tr' SV :=
 (.call 153 [(.var kU 1), (.var kU 2), (.var kU 3), (.var kU 4), (.bin .sub .i64 (.max (.max (.lit (-1099511627776)) (.min (.var kI 0) (.lit 1099511627776))) (.max (.lit (-1099511627776)) (.min (.var kI 5) (.lit 1099511627776)))) (.max (.lit (-1099511627776)) (.min (.var kI 0) (.lit 1099511627776))))] 10 4
 (.call 256 [(.var kU 1), (.var kU 2), (.var kU 3), (.var kU 4), (.bin .sub .i64 (.max (.max (.lit (-1099511627776)) (.min (.var kI 0) (.lit 1099511627776))) (.max (.lit (-1099511627776)) (.min (.var kI 5) (.lit 1099511627776)))) (.max (.lit (-1099511627776)) (.min (.var kI 0) (.lit 1099511627776))))] 14 1
 (.call 153 [(.var kU 6), (.var kU 7), (.var kU 8), (.var kU 9), (.bin .sub .i64 (.max (.max (.lit (-1099511627776)) (.min (.var kI 0) (.lit 1099511627776))) (.max (.lit (-1099511627776)) (.min (.var kI 5) (.lit 1099511627776)))) (.max (.lit (-1099511627776)) (.min (.var kI 5) (.lit 1099511627776))))] 15 4
 (.call 256 [(.var kU 6), (.var kU 7), (.var kU 8), (.var kU 9), (.bin .sub .i64 (.max (.max (.lit (-1099511627776)) (.min (.var kI 0) (.lit 1099511627776))) (.max (.lit (-1099511627776)) (.min (.var kI 5) (.lit 1099511627776)))) (.max (.lit (-1099511627776)) (.min (.var kI 5) (.lit 1099511627776))))] 19 1
 (.call 221 [(.var kU 10), (.var kU 11), (.var kU 12), (.var kU 13), (.var kU 15), (.var kU 16), (.var kU 17), (.var kU 18)] 20 1
 (.ite (.bin .eql .i64 (.var kI 20) (.lit 0))
 (.ite (.var .bool 14)
 (.leaf (.int .i64 (.lit 1)))
 (.ite (.var .bool 19)
 (.leaf (.int .i64 (.lit (-1))))
 (.leaf (.int .i64 (.var kI 20)))))
 (.leaf (.int .i64 (.var kI 20)))))))))
theorem x_mag_Cmp : execF (ctxA E30 M0 S1) 3000 244 (uns c_mag_Cmp.a (varsAt 0 (kindsOf c_mag_Cmp.a))) (kindsOf c_mag_Cmp.a).length = t_mag_Cmp := by kernel_rfl
def F_mag_Cmp : List Int → List Int := treeF (phiA E30 M0 S1) c_mag_Cmp t_mag_Cmp
theorem e_mag_Cmp : EntOK Tryz.prog gG ⟨244, c_mag_Cmp, F_mag_Cmp⟩ := ent_any ok_A1 3000 x_mag_Cmp (by kernel_rfl)
def c_mag_Sum : Ct := ⟨[.agg [kI, kU, kU, kU, kU], .agg [kI, kU, kU, kU, kU]], [.agg [kI, kU, kU, kU, kU]]⟩
def t_mag_Sum : Tr' SV :=
 (.call 265 [(.var kI 0), (.var kU 1), (.var kU 2), (.var kU 3), (.var kU 4), (.var kI 5), (.var kU 6), (.var kU 7), (.var kU 8), (.var kU 9)] 10 1
 (.call 214 [(.var kU 1), (.var kU 2), (.var kU 3), (.var kU 4), (.bin .sub .i64 (.bin .add .i64 (.var kI 10) (.lit 1)) (.max (.lit (-1099511627776)) (.min (.var kI 0) (.lit 1099511627776))))] 11 4
 (.call 214 [(.var kU 6), (.var kU 7), (.var kU 8), (.var kU 9), (.bin .sub .i64 (.bin .add .i64 (.var kI 10) (.lit 1)) (.max (.lit (-1099511627776)) (.min (.var kI 5) (.lit 1099511627776))))] 15 4
 (.call 160 [(.var kU 11), (.var kU 12), (.var kU 13), (.var kU 14), (.var kU 15), (.var kU 16), (.var kU 17), (.var kU 18)] 19 5
 (.leaf (.agg [(.int .i64 (.bin .add .i64 (.var kI 10) (.lit 1))), (.int .u64 (.var kU 19)), (.int .u64 (.var kU 20)), (.int .u64 (.var kU 21)), (.int .u64 (.var kU 22))]))))))
theorem x_mag_Sum : execF (ctxA E30 M0 S1) 3000 200 (uns c_mag_Sum.a (varsAt 0 (kindsOf c_mag_Sum.a))) (kindsOf c_mag_Sum.a).length = t_mag_Sum := by kernel_rfl
def F_mag_Sum : List Int → List Int := treeF (phiA E30 M0 S1) c_mag_Sum t_mag_Sum
theorem e_mag_Sum : EntOK Tryz.prog gG ⟨200, c_mag_Sum, F_mag_Sum⟩ := ent_any ok_A1 3000 x_mag_Sum (by kernel_rfl)
def E31 : List Ent := ⟨244, c_mag_Cmp, F_mag_Cmp⟩ :: ⟨200, c_mag_Sum, F_mag_Sum⟩ :: E30
theorem E31_ok : ∀ e ∈ E31, EntOK Tryz.prog gG e := List.forall_mem_cons.2 ⟨e_mag_Cmp, List.forall_mem_cons.2 ⟨e_mag_Sum, E30_ok⟩⟩
end Go.Proofs.YtemomocmfggiaaaGreatDoor
namespace Go.Proofs.YtemomocmfggiaaaGreatDoor
set_option linter.unusedVariables false
set_option maxRecDepth 100000
open Go.RowKit
theorem ok_A2 : SOKT (ctxA E31 M0 S1) eE := ctxA_ok E31_ok M0_ok S1_ok (by kernel_rfl)
def c_mag_Diff : Ct := ⟨[.agg [kI, kU, kU, kU, kU], .agg [kI, kU, kU, kU, kU]], [.agg [kI, kU, kU, kU, kU], .sc .bool]⟩
def t_mag_Diff : Tr' SV :=
 (.call 244 [(.var kI 0), (.var kU 1), (.var kU 2), (.var kU 3), (.var kU 4), (.var kI 5), (.var kU 6), (.var kU 7), (.var kU 8), (.var kU 9)] 10 1
 (.ite (.bin .lss .i64 (.var kI 10) (.lit 0))
 (.call 265 [(.var kI 5), (.var kU 6), (.var kU 7), (.var kU 8), (.var kU 9), (.var kI 0), (.var kU 1), (.var kU 2), (.var kU 3), (.var kU 4)] 11 1
 (.call 214 [(.var kU 6), (.var kU 7), (.var kU 8), (.var kU 9), (.bin .sub .i64 (.bin .add .i64 (.var kI 11) (.lit 0)) (.max (.lit (-1099511627776)) (.min (.var kI 5) (.lit 1099511627776))))] 12 4
 (.call 214 [(.var kU 1), (.var kU 2), (.var kU 3), (.var kU 4), (.bin .sub .i64 (.bin .add .i64 (.var kI 11) (.lit 0)) (.max (.lit (-1099511627776)) (.min (.var kI 0) (.lit 1099511627776))))] 16 4
 (.call 161 [(.var kU 12), (.var kU 13), (.var kU 14), (.var kU 15), (.var kU 16), (.var kU 17), (.var kU 18), (.var kU 19)] 20 5
 (.leaf (.tup [(.agg [(.int .i64 (.bin .add .i64 (.var kI 11) (.lit 0))), (.int .u64 (.var kU 20)), (.int .u64 (.var kU 21)), (.int .u64 (.var kU 22)), (.int .u64 (.var kU 23))]), (.bool (.bin .lss .i64 (.var kI 10) (.lit 0)))]))))))
 (.call 265 [(.var kI 0), (.var kU 1), (.var kU 2), (.var kU 3), (.var kU 4), (.var kI 5), (.var kU 6), (.var kU 7), (.var kU 8), (.var kU 9)] 11 1
 (.call 214 [(.var kU 1), (.var kU 2), (.var kU 3), (.var kU 4), (.bin .sub .i64 (.bin .add .i64 (.var kI 11) (.lit 0)) (.max (.lit (-1099511627776)) (.min (.var kI 0) (.lit 1099511627776))))] 12 4
 (.call 214 [(.var kU 6), (.var kU 7), (.var kU 8), (.var kU 9), (.bin .sub .i64 (.bin .add .i64 (.var kI 11) (.lit 0)) (.max (.lit (-1099511627776)) (.min (.var kI 5) (.lit 1099511627776))))] 16 4
 (.call 161 [(.var kU 12), (.var kU 13), (.var kU 14), (.var kU 15), (.var kU 16), (.var kU 17), (.var kU 18), (.var kU 19)] 20 5
 (.leaf (.tup [(.agg [(.int .i64 (.bin .add .i64 (.var kI 11) (.lit 0))), (.int .u64 (.var kU 20)), (.int .u64 (.var kU 21)), (.int .u64 (.var kU 22)), (.int .u64 (.var kU 23))]), (.bool (.bin .lss .i64 (.var kI 10) (.lit 0)))]))))))))
theorem x_mag_Diff : execF (ctxA E31 M0 S1) 3000 202 (uns c_mag_Diff.a (varsAt 0 (kindsOf c_mag_Diff.a))) (kindsOf c_mag_Diff.a).length = t_mag_Diff := by kernel_rfl
def F_mag_Diff : List Int → List Int := treeF (phiA E31 M0 S1) c_mag_Diff t_mag_Diff
theorem e_mag_Diff : EntOK Tryz.prog gG ⟨202, c_mag_Diff, F_mag_Diff⟩ := ent_any ok_A2 3000 x_mag_Diff (by kernel_rfl)
def E32 : List Ent := ⟨202, c_mag_Diff, F_mag_Diff⟩ :: E31
theorem E32_ok : ∀ e ∈ E32, EntOK Tryz.prog gG e := List.forall_mem_cons.2 ⟨e_mag_Diff, E31_ok⟩
end Go.Proofs.YtemomocmfggiaaaGreatDoor
namespace Go.Proofs.YtemomocmfggiaaaGreatDoor
set_option linter.unusedVariables false
set_option maxRecDepth 100000
open Go.RowKit
theorem ok_A3 : SOKT (ctxA E32 M0 S1) eE := ctxA_ok E32_ok M0_ok S1_ok (by kernel_rfl)
def c_addsub_Add : Ct := ⟨[.sc kB, .agg [kB, .bool], .agg [kU, kU], .agg [kU, kU]], [.agg [kU, kU, kB]]⟩
def t_addsub_Add : Tr' SV :=
 (.ite (.not (.bin .lss .i64 (.var kB 0) (.lit 4)))
 (.leaf (.agg [(.int .u64 (.lit 0)), (.int .u64 (.lit 0)), (.int .u8 (.lit 0))]))
 (.ite (.not (.bin .leq .u8 (.var kB 1) (.lit 4)))
 (.leaf (.agg [(.int .u64 (.lit 0)), (.int .u64 (.lit 0)), (.int .u8 (.lit 0))]))
 (.call 139 [(.var kB 0), (.var kU 3), (.var kU 4)] 7 5
 (.call 139 [(.var kB 0), (.var kU 5), (.var kU 6)] 12 5
 (.ite (.bin .eql .u8 (.var kB 8) (.lit 3))
 (.ite (.bin .eql .u8 (.var kB 13) (.lit 3))
 (.call 2000140 [(.var kB 0), (.not (.beq (.var .bool 7) (.var .bool 12))), (.var kU 3), (.var kU 4), (.var kU 5), (.var kU 6)] 17 4
 (.ite (.var .bool 20)
 (.leaf (.agg [(.int .u64 (.var kU 17)), (.int .u64 (.var kU 18)), (.int .u8 (.var kB 19))]))
 (.call 141 [(.var kB 0), (.var .bool 7)] 21 2
 (.leaf (.agg [(.int .u64 (.var kU 21)), (.int .u64 (.var kU 22)), (.int .u8 (.lit 0))])))))
 (.call 2000140 [(.var kB 0), (.lit 0), (.var kU 3), (.var kU 4), (.var kU 5), (.var kU 6)] 17 4
 (.ite (.var .bool 20)
 (.leaf (.agg [(.int .u64 (.var kU 17)), (.int .u64 (.var kU 18)), (.int .u8 (.var kB 19))]))
 (.call 141 [(.var kB 0), (.var .bool 7)] 21 2
 (.leaf (.agg [(.int .u64 (.var kU 21)), (.int .u64 (.var kU 22)), (.int .u8 (.lit 0))]))))))
 (.call 2000140 [(.var kB 0), (.lit 0), (.var kU 3), (.var kU 4), (.var kU 5), (.var kU 6)] 17 4
 (.ite (.var .bool 20)
 (.leaf (.agg [(.int .u64 (.var kU 17)), (.int .u64 (.var kU 18)), (.int .u8 (.var kB 19))]))
 (.ite (.bin .eql .u8 (.var kB 13) (.lit 3))
 (.call 141 [(.var kB 0), (.var .bool 12)] 21 2
 (.leaf (.agg [(.int .u64 (.var kU 21)), (.int .u64 (.var kU 22)), (.int .u8 (.lit 0))])))
 (.ite (.not (.beq (.var .bool 7) (.var .bool 12)))
 (.call 150 [(.var kU 10), (.var kU 11), (.lit 0), (.lit 0)] 21 4
 (.call 150 [(.var kU 15), (.var kU 16), (.lit 0), (.lit 0)] 25 4
 (.call 202 [(.var kI 9), (.var kU 21), (.var kU 22), (.var kU 23), (.var kU 24), (.var kI 14), (.var kU 25), (.var kU 26), (.var kU 27), (.var kU 28)] 29 6
 (.call 166 [(.var kU 30), (.var kU 31), (.var kU 32), (.var kU 33)] 35 1
 (.ite (.var .bool 35)
 (.call 147 [(.var kB 0), (.var kB 1), (.var .bool 2), (.bin .eql .u8 (.var kB 1) (.lit 3)), (.var kI 29), (.var kU 30), (.var kU 31), (.var kU 32), (.var kU 33)] 36 3
 (.leaf (.agg [(.int .u64 (.var kU 36)), (.int .u64 (.var kU 37)), (.int .u8 (.var kB 38))])))
 (.call 147 [(.var kB 0), (.var kB 1), (.var .bool 2), (.not (.beq (.var .bool 7) (.var .bool 34))), (.var kI 29), (.var kU 30), (.var kU 31), (.var kU 32), (.var kU 33)] 36 3
 (.leaf (.agg [(.int .u64 (.var kU 36)), (.int .u64 (.var kU 37)), (.int .u8 (.var kB 38))]))))))))
 (.call 150 [(.var kU 10), (.var kU 11), (.lit 0), (.lit 0)] 21 4
 (.call 150 [(.var kU 15), (.var kU 16), (.lit 0), (.lit 0)] 25 4
 (.call 200 [(.var kI 9), (.var kU 21), (.var kU 22), (.var kU 23), (.var kU 24), (.var kI 14), (.var kU 25), (.var kU 26), (.var kU 27), (.var kU 28)] 29 5
 (.call 166 [(.var kU 30), (.var kU 31), (.var kU 32), (.var kU 33)] 34 1
 (.ite (.var .bool 34)
 (.call 147 [(.var kB 0), (.var kB 1), (.var .bool 2), (.var .bool 7), (.var kI 29), (.var kU 30), (.var kU 31), (.var kU 32), (.var kU 33)] 35 3
 (.leaf (.agg [(.int .u64 (.var kU 35)), (.int .u64 (.var kU 36)), (.int .u8 (.var kB 37))])))
 (.call 147 [(.var kB 0), (.var kB 1), (.var .bool 2), (.var .bool 7), (.var kI 29), (.var kU 30), (.var kU 31), (.var kU 32), (.var kU 33)] 35 3
 (.leaf (.agg [(.int .u64 (.var kU 35)), (.int .u64 (.var kU 36)), (.int .u8 (.var kB 37))])))))))))))))))))
theorem x_addsub_Add : execF (ctxA E32 M0 S1) 3000 80 (uns c_addsub_Add.a (varsAt 0 (kindsOf c_addsub_Add.a))) (kindsOf c_addsub_Add.a).length = t_addsub_Add := by kernel_rfl
def F_addsub_Add : List Int → List Int := treeF (phiA E32 M0 S1) c_addsub_Add t_addsub_Add
theorem e_addsub_Add : EntOK Tryz.prog gG ⟨80, c_addsub_Add, F_addsub_Add⟩ := ent_any ok_A3 3000 x_addsub_Add (by kernel_rfl)
def c_fma_Fma : Ct := ⟨[.sc kB, .agg [kB, .bool], .agg [kU, kU], .agg [kU, kU], .agg [kU, kU]], [.agg [kU, kU, kB]]⟩
def t_fma_Fma : Tr' SV :=
 (.ite (.not (.bin .lss .i64 (.var kB 0) (.lit 4)))
 (.leaf (.agg [(.int .u64 (.lit 0)), (.int .u64 (.lit 0)), (.int .u8 (.lit 0))]))
 (.ite (.not (.bin .leq .u8 (.var kB 1) (.lit 4)))
 (.leaf (.agg [(.int .u64 (.lit 0)), (.int .u64 (.lit 0)), (.int .u8 (.lit 0))]))
 (.call 139 [(.var kB 0), (.var kU 7), (.var kU 8)] 9 5
 (.call 139 [(.var kB 0), (.var kU 3), (.var kU 4)] 14 5
 (.call 139 [(.var kB 0), (.var kU 5), (.var kU 6)] 19 5
 (.call 146 [(.var .bool 14), (.var kB 15), (.var kI 16), (.var kU 17), (.var kU 18), (.var .bool 19), (.var kB 20), (.var kI 21), (.var kU 22), (.var kU 23)] 24 5
 (.ite (.bin .eql .u8 (.var kB 15) (.lit 3))
 (.call 144 [(.var .bool 14), (.var kB 15), (.var kI 16), (.var kU 17), (.var kU 18), (.var .bool 19), (.var kB 20), (.var kI 21), (.var kU 22), (.var kU 23)] 29 1
 (.ite (.not (.var .bool 29))
 (.ite (.bin .eql .u8 (.var kB 10) (.lit 3))
 (.ite (.not (.beq (.not (.beq (.var .bool 14) (.var .bool 19))) (.var .bool 9)))
 (.call 3000140 [(.var kB 0), (.lit 0), (.var kU 3), (.var kU 4), (.var kU 5), (.var kU 6), (.var kU 7), (.var kU 8)] 30 4
 (.call 3000140 [(.var kB 0), (.not (.var .bool 33)), (.var kU 3), (.var kU 4), (.var kU 5), (.var kU 6), (.var kU 7), (.var kU 8)] 34 4
 (.ite (.var .bool 37)
 (.leaf (.agg [(.int .u64 (.var kU 34)), (.int .u64 (.var kU 35)), (.int .u8 (.var kB 36))]))
 (.call 141 [(.var kB 0), (.not (.beq (.var .bool 14) (.var .bool 19)))] 38 2
 (.leaf (.agg [(.int .u64 (.var kU 38)), (.int .u64 (.var kU 39)), (.int .u8 (.lit 0))]))))))
 (.call 3000140 [(.var kB 0), (.lit 0), (.var kU 3), (.var kU 4), (.var kU 5), (.var kU 6), (.var kU 7), (.var kU 8)] 30 4
 (.ite (.var .bool 33)
 (.leaf (.agg [(.int .u64 (.var kU 30)), (.int .u64 (.var kU 31)), (.int .u8 (.var kB 32))]))
 (.call 141 [(.var kB 0), (.not (.beq (.var .bool 14) (.var .bool 19)))] 34 2
 (.leaf (.agg [(.int .u64 (.var kU 34)), (.int .u64 (.var kU 35)), (.int .u8 (.lit 0))]))))))
 (.call 3000140 [(.var kB 0), (.lit 0), (.var kU 3), (.var kU 4), (.var kU 5), (.var kU 6), (.var kU 7), (.var kU 8)] 30 4
 (.ite (.var .bool 33)
 (.leaf (.agg [(.int .u64 (.var kU 30)), (.int .u64 (.var kU 31)), (.int .u8 (.var kB 32))]))
 (.call 141 [(.var kB 0), (.not (.beq (.var .bool 14) (.var .bool 19)))] 34 2
 (.leaf (.agg [(.int .u64 (.var kU 34)), (.int .u64 (.var kU 35)), (.int .u8 (.lit 0))]))))))
 (.call 3000140 [(.var kB 0), (.lit 1), (.var kU 3), (.var kU 4), (.var kU 5), (.var kU 6), (.var kU 7), (.var kU 8)] 30 4
 (.ite (.var .bool 33)
 (.leaf (.agg [(.int .u64 (.var kU 30)), (.int .u64 (.var kU 31)), (.int .u8 (.var kB 32))]))
 (.call 141 [(.var kB 0), (.not (.beq (.var .bool 14) (.var .bool 19)))] 34 2
 (.leaf (.agg [(.int .u64 (.var kU 34)), (.int .u64 (.var kU 35)), (.int .u8 (.lit 0))])))))))
 (.call 144 [(.var .bool 14), (.var kB 15), (.var kI 16), (.var kU 17), (.var kU 18), (.var .bool 19), (.var kB 20), (.var kI 21), (.var kU 22), (.var kU 23)] 29 1
 (.ite (.bin .eql .u8 (.var kB 20) (.lit 3))
 (.ite (.not (.var .bool 29))
 (.ite (.bin .eql .u8 (.var kB 10) (.lit 3))
 (.ite (.not (.beq (.not (.beq (.var .bool 14) (.var .bool 19))) (.var .bool 9)))
 (.call 3000140 [(.var kB 0), (.lit 0), (.var kU 3), (.var kU 4), (.var kU 5), (.var kU 6), (.var kU 7), (.var kU 8)] 30 4
 (.call 3000140 [(.var kB 0), (.not (.var .bool 33)), (.var kU 3), (.var kU 4), (.var kU 5), (.var kU 6), (.var kU 7), (.var kU 8)] 34 4
 (.ite (.var .bool 37)
 (.leaf (.agg [(.int .u64 (.var kU 34)), (.int .u64 (.var kU 35)), (.int .u8 (.var kB 36))]))
 (.call 141 [(.var kB 0), (.not (.beq (.var .bool 14) (.var .bool 19)))] 38 2
 (.leaf (.agg [(.int .u64 (.var kU 38)), (.int .u64 (.var kU 39)), (.int .u8 (.lit 0))]))))))
 (.call 3000140 [(.var kB 0), (.lit 0), (.var kU 3), (.var kU 4), (.var kU 5), (.var kU 6), (.var kU 7), (.var kU 8)] 30 4
 (.ite (.var .bool 33)
 (.leaf (.agg [(.int .u64 (.var kU 30)), (.int .u64 (.var kU 31)), (.int .u8 (.var kB 32))]))
 (.call 141 [(.var kB 0), (.not (.beq (.var .bool 14) (.var .bool 19)))] 34 2
 (.leaf (.agg [(.int .u64 (.var kU 34)), (.int .u64 (.var kU 35)), (.int .u8 (.lit 0))]))))))
 (.call 3000140 [(.var kB 0), (.lit 0), (.var kU 3), (.var kU 4), (.var kU 5), (.var kU 6), (.var kU 7), (.var kU 8)] 30 4
 (.ite (.var .bool 33)
 (.leaf (.agg [(.int .u64 (.var kU 30)), (.int .u64 (.var kU 31)), (.int .u8 (.var kB 32))]))
 (.call 141 [(.var kB 0), (.not (.beq (.var .bool 14) (.var .bool 19)))] 34 2
 (.leaf (.agg [(.int .u64 (.var kU 34)), (.int .u64 (.var kU 35)), (.int .u8 (.lit 0))]))))))
 (.call 3000140 [(.var kB 0), (.lit 1), (.var kU 3), (.var kU 4), (.var kU 5), (.var kU 6), (.var kU 7), (.var kU 8)] 30 4
 (.ite (.var .bool 33)
 (.leaf (.agg [(.int .u64 (.var kU 30)), (.int .u64 (.var kU 31)), (.int .u8 (.var kB 32))]))
 (.call 141 [(.var kB 0), (.not (.beq (.var .bool 14) (.var .bool 19)))] 34 2
 (.leaf (.agg [(.int .u64 (.var kU 34)), (.int .u64 (.var kU 35)), (.int .u8 (.lit 0))]))))))
 (.ite (.var .bool 29)
 (.call 3000140 [(.var kB 0), (.lit 1), (.var kU 3), (.var kU 4), (.var kU 5), (.var kU 6), (.var kU 7), (.var kU 8)] 30 4
 (.ite (.var .bool 33)
 (.leaf (.agg [(.int .u64 (.var kU 30)), (.int .u64 (.var kU 31)), (.int .u8 (.var kB 32))]))
 (.ite (.bin .eql .u8 (.var kB 10) (.lit 3))
 (.call 141 [(.var kB 0), (.var .bool 9)] 34 2
 (.leaf (.agg [(.int .u64 (.var kU 34)), (.int .u64 (.var kU 35)), (.int .u8 (.lit 0))])))
 (.call 150 [(.var kU 12), (.var kU 13), (.lit 0), (.lit 0)] 34 4
 (.call 200 [(.var kI 24), (.var kU 25), (.var kU 26), (.var kU 27), (.var kU 28), (.var kI 11), (.var kU 34), (.var kU 35), (.var kU 36), (.var kU 37)] 38 5
 (.ite (.not (.beq (.not (.beq (.var .bool 14) (.var .bool 19))) (.var .bool 9)))
 (.call 150 [(.var kU 12), (.var kU 13), (.lit 0), (.lit 0)] 43 4
 (.call 202 [(.var kI 24), (.var kU 25), (.var kU 26), (.var kU 27), (.var kU 28), (.var kI 11), (.var kU 43), (.var kU 44), (.var kU 45), (.var kU 46)] 47 6
 (.call 166 [(.var kU 48), (.var kU 49), (.var kU 50), (.var kU 51)] 53 1
 (.ite (.var .bool 53)
 (.call 147 [(.var kB 0), (.var kB 1), (.var .bool 2), (.bin .eql .u8 (.var kB 1) (.lit 3)), (.var kI 47), (.var kU 48), (.var kU 49), (.var kU 50), (.var kU 51)] 54 3
 (.leaf (.agg [(.int .u64 (.var kU 54)), (.int .u64 (.var kU 55)), (.int .u8 (.var kB 56))])))
 (.call 147 [(.var kB 0), (.var kB 1), (.var .bool 2), (.not (.beq (.not (.beq (.var .bool 14) (.var .bool 19))) (.var .bool 52))), (.var kI 47), (.var kU 48), (.var kU 49), (.var kU 50), (.var kU 51)] 54 3
 (.leaf (.agg [(.int .u64 (.var kU 54)), (.int .u64 (.var kU 55)), (.int .u8 (.var kB 56))])))))))
 (.call 166 [(.var kU 39), (.var kU 40), (.var kU 41), (.var kU 42)] 43 1
 (.ite (.var .bool 43)
 (.call 147 [(.var kB 0), (.var kB 1), (.var .bool 2), (.not (.beq (.var .bool 14) (.var .bool 19))), (.var kI 38), (.var kU 39), (.var kU 40), (.var kU 41), (.var kU 42)] 44 3
 (.leaf (.agg [(.int .u64 (.var kU 44)), (.int .u64 (.var kU 45)), (.int .u8 (.var kB 46))])))
 (.call 147 [(.var kB 0), (.var kB 1), (.var .bool 2), (.not (.beq (.var .bool 14) (.var .bool 19))), (.var kI 38), (.var kU 39), (.var kU 40), (.var kU 41), (.var kU 42)] 44 3
 (.leaf (.agg [(.int .u64 (.var kU 44)), (.int .u64 (.var kU 45)), (.int .u8 (.var kB 46))])))))))))))
 (.call 3000140 [(.var kB 0), (.lit 0), (.var kU 3), (.var kU 4), (.var kU 5), (.var kU 6), (.var kU 7), (.var kU 8)] 30 4
 (.ite (.var .bool 33)
 (.leaf (.agg [(.int .u64 (.var kU 30)), (.int .u64 (.var kU 31)), (.int .u8 (.var kB 32))]))
 (.ite (.bin .eql .u8 (.var kB 10) (.lit 3))
 (.call 141 [(.var kB 0), (.var .bool 9)] 34 2
 (.leaf (.agg [(.int .u64 (.var kU 34)), (.int .u64 (.var kU 35)), (.int .u8 (.lit 0))])))
 (.call 150 [(.var kU 12), (.var kU 13), (.lit 0), (.lit 0)] 34 4
 (.call 200 [(.var kI 24), (.var kU 25), (.var kU 26), (.var kU 27), (.var kU 28), (.var kI 11), (.var kU 34), (.var kU 35), (.var kU 36), (.var kU 37)] 38 5
 (.ite (.not (.beq (.not (.beq (.var .bool 14) (.var .bool 19))) (.var .bool 9)))
 (.call 150 [(.var kU 12), (.var kU 13), (.lit 0), (.lit 0)] 43 4
 (.call 202 [(.var kI 24), (.var kU 25), (.var kU 26), (.var kU 27), (.var kU 28), (.var kI 11), (.var kU 43), (.var kU 44), (.var kU 45), (.var kU 46)] 47 6
 (.call 166 [(.var kU 48), (.var kU 49), (.var kU 50), (.var kU 51)] 53 1
 (.ite (.var .bool 53)
 (.call 147 [(.var kB 0), (.var kB 1), (.var .bool 2), (.bin .eql .u8 (.var kB 1) (.lit 3)), (.var kI 47), (.var kU 48), (.var kU 49), (.var kU 50), (.var kU 51)] 54 3
 (.leaf (.agg [(.int .u64 (.var kU 54)), (.int .u64 (.var kU 55)), (.int .u8 (.var kB 56))])))
 (.call 147 [(.var kB 0), (.var kB 1), (.var .bool 2), (.not (.beq (.not (.beq (.var .bool 14) (.var .bool 19))) (.var .bool 52))), (.var kI 47), (.var kU 48), (.var kU 49), (.var kU 50), (.var kU 51)] 54 3
 (.leaf (.agg [(.int .u64 (.var kU 54)), (.int .u64 (.var kU 55)), (.int .u8 (.var kB 56))])))))))
 (.call 166 [(.var kU 39), (.var kU 40), (.var kU 41), (.var kU 42)] 43 1
 (.ite (.var .bool 43)
 (.call 147 [(.var kB 0), (.var kB 1), (.var .bool 2), (.not (.beq (.var .bool 14) (.var .bool 19))), (.var kI 38), (.var kU 39), (.var kU 40), (.var kU 41), (.var kU 42)] 44 3
 (.leaf (.agg [(.int .u64 (.var kU 44)), (.int .u64 (.var kU 45)), (.int .u8 (.var kB 46))])))
 (.call 147 [(.var kB 0), (.var kB 1), (.var .bool 2), (.not (.beq (.var .bool 14) (.var .bool 19))), (.var kI 38), (.var kU 39), (.var kU 40), (.var kU 41), (.var kU 42)] 44 3
 (.leaf (.agg [(.int .u64 (.var kU 44)), (.int .u64 (.var kU 45)), (.int .u8 (.var kB 46))])))))))))))))))))))))
theorem x_fma_Fma : execF (ctxA E32 M0 S1) 3000 90 (uns c_fma_Fma.a (varsAt 0 (kindsOf c_fma_Fma.a))) (kindsOf c_fma_Fma.a).length = t_fma_Fma := by kernel_rfl
def F_fma_Fma : List Int → List Int := treeF (phiA E32 M0 S1) c_fma_Fma t_fma_Fma
theorem e_fma_Fma : EntOK Tryz.prog gG ⟨90, c_fma_Fma, F_fma_Fma⟩ := ent_any ok_A3 3000 x_fma_Fma (by kernel_rfl)
def E33 : List Ent := ⟨80, c_addsub_Add, F_addsub_Add⟩ :: ⟨90, c_fma_Fma, F_fma_Fma⟩ :: E32
theorem E33_ok : ∀ e ∈ E33, EntOK Tryz.prog gG e := List.forall_mem_cons.2 ⟨e_addsub_Add, List.forall_mem_cons.2 ⟨e_fma_Fma, E32_ok⟩⟩
end Go.Proofs.YtemomocmfggiaaaGreatDoor
