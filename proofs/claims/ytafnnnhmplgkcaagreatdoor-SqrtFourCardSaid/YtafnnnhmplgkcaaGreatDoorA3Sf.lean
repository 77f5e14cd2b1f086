import Derived.Test.YtafnnnhmplgkcaaGreatDoorA2Sf
/- Contracts of this seat's functions: their trees, made by a program (sxgen), and that the executor answers just these. -/
namespace Go.Proofs.YtafnnnhmplgkcaaGreatDoor
set_option linter.unusedVariables false
set_option maxRecDepth 100000
open Go.RowKit
theorem ok_A3 : SOK (ctxA E32 M0 S1) eE := ctxA_ok E32_ok M0_ok S1_ok (by kernel_rfl)
def c_addsub_Add : Ct := ⟨[.sc kB, .agg [kB, .bool], .agg [kU, kU], .agg [kU, kU]], [.agg [kU, kU, kB]]⟩
def t_addsub_Add : Tr' SV :=
 (.ite (.not (.bin .lss .i64 (.var kB 0) (.lit 4)))
 (.leaf (.agg [(.int .u64 (.lit 0)), (.int .u64 (.lit 0)), (.int .u8 (.lit 0))]))
 (.ite (.not (.bin .leq .u8 (.var kB 1) (.lit 4)))
 (.leaf (.agg [(.int .u64 (.lit 0)), (.int .u64 (.lit 0)), (.int .u8 (.lit 0))]))
 (.call 36 [(.var kB 0), (.var kU 3), (.var kU 4)] 7 5
 (.call 36 [(.var kB 0), (.var kU 5), (.var kU 6)] 12 5
 (.ite (.bin .eql .u8 (.var kB 8) (.lit 3))
 (.ite (.bin .eql .u8 (.var kB 13) (.lit 3))
 (.call 2000037 [(.var kB 0), (.not (.beq (.var .bool 7) (.var .bool 12))), (.var kU 3), (.var kU 4), (.var kU 5), (.var kU 6)] 17 4
 (.ite (.var .bool 20)
 (.leaf (.agg [(.int .u64 (.var kU 17)), (.int .u64 (.var kU 18)), (.int .u8 (.var kB 19))]))
 (.call 49 [(.var kB 0), (.var .bool 7)] 21 2
 (.leaf (.agg [(.int .u64 (.var kU 21)), (.int .u64 (.var kU 22)), (.int .u8 (.lit 0))])))))
 (.call 2000037 [(.var kB 0), (.lit 0), (.var kU 3), (.var kU 4), (.var kU 5), (.var kU 6)] 17 4
 (.ite (.var .bool 20)
 (.leaf (.agg [(.int .u64 (.var kU 17)), (.int .u64 (.var kU 18)), (.int .u8 (.var kB 19))]))
 (.call 49 [(.var kB 0), (.var .bool 7)] 21 2
 (.leaf (.agg [(.int .u64 (.var kU 21)), (.int .u64 (.var kU 22)), (.int .u8 (.lit 0))]))))))
 (.call 2000037 [(.var kB 0), (.lit 0), (.var kU 3), (.var kU 4), (.var kU 5), (.var kU 6)] 17 4
 (.ite (.var .bool 20)
 (.leaf (.agg [(.int .u64 (.var kU 17)), (.int .u64 (.var kU 18)), (.int .u8 (.var kB 19))]))
 (.ite (.bin .eql .u8 (.var kB 13) (.lit 3))
 (.call 49 [(.var kB 0), (.var .bool 12)] 21 2
 (.leaf (.agg [(.int .u64 (.var kU 21)), (.int .u64 (.var kU 22)), (.int .u8 (.lit 0))])))
 (.ite (.not (.beq (.var .bool 7) (.var .bool 12)))
 (.call 53 [(.var kU 10), (.var kU 11), (.lit 0), (.lit 0)] 21 4
 (.call 53 [(.var kU 15), (.var kU 16), (.lit 0), (.lit 0)] 25 4
 (.call 104 [(.var kI 9), (.var kU 21), (.var kU 22), (.var kU 23), (.var kU 24), (.var kI 14), (.var kU 25), (.var kU 26), (.var kU 27), (.var kU 28)] 29 6
 (.call 45 [(.var kU 30), (.var kU 31), (.var kU 32), (.var kU 33)] 35 1
 (.ite (.var .bool 35)
 (.call 51 [(.var kB 0), (.var kB 1), (.var .bool 2), (.bin .eql .u8 (.var kB 1) (.lit 3)), (.var kI 29), (.var kU 30), (.var kU 31), (.var kU 32), (.var kU 33)] 36 3
 (.leaf (.agg [(.int .u64 (.var kU 36)), (.int .u64 (.var kU 37)), (.int .u8 (.var kB 38))])))
 (.call 51 [(.var kB 0), (.var kB 1), (.var .bool 2), (.not (.beq (.var .bool 7) (.var .bool 34))), (.var kI 29), (.var kU 30), (.var kU 31), (.var kU 32), (.var kU 33)] 36 3
 (.leaf (.agg [(.int .u64 (.var kU 36)), (.int .u64 (.var kU 37)), (.int .u8 (.var kB 38))]))))))))
 (.call 53 [(.var kU 10), (.var kU 11), (.lit 0), (.lit 0)] 21 4
 (.call 53 [(.var kU 15), (.var kU 16), (.lit 0), (.lit 0)] 25 4
 (.call 102 [(.var kI 9), (.var kU 21), (.var kU 22), (.var kU 23), (.var kU 24), (.var kI 14), (.var kU 25), (.var kU 26), (.var kU 27), (.var kU 28)] 29 5
 (.call 45 [(.var kU 30), (.var kU 31), (.var kU 32), (.var kU 33)] 34 1
 (.ite (.var .bool 34)
 (.call 51 [(.var kB 0), (.var kB 1), (.var .bool 2), (.var .bool 7), (.var kI 29), (.var kU 30), (.var kU 31), (.var kU 32), (.var kU 33)] 35 3
 (.leaf (.agg [(.int .u64 (.var kU 35)), (.int .u64 (.var kU 36)), (.int .u8 (.var kB 37))])))
 (.call 51 [(.var kB 0), (.var kB 1), (.var .bool 2), (.var .bool 7), (.var kI 29), (.var kU 30), (.var kU 31), (.var kU 32), (.var kU 33)] 35 3
 (.leaf (.agg [(.int .u64 (.var kU 35)), (.int .u64 (.var kU 36)), (.int .u8 (.var kB 37))])))))))))))))))))
theorem x_addsub_Add : execF (ctxA E32 M0 S1) 3000 24 (uns c_addsub_Add.a (varsAt 0 (kindsOf c_addsub_Add.a))) (kindsOf c_addsub_Add.a).length = t_addsub_Add := by kernel_rfl
def F_addsub_Add : List Int → List Int := treeF (phiA E32 M0 S1) c_addsub_Add t_addsub_Add
theorem e_addsub_Add : EntOK Tryz.prog gG ⟨24, c_addsub_Add, F_addsub_Add⟩ := ent_any ok_A3 3000 x_addsub_Add (by kernel_rfl)
theorem ph_A3_fields_Unpack : phiA E32 M0 S1 36 = F_fields_Unpack := phiA_L (e := ⟨36, _, F_fields_Unpack⟩) rfl rfl rfl
theorem ph_A3_nan_Pick_2 : phiA E32 M0 S1 2000037 = F_nan_Pick_2 := phiA_S (e := ⟨37, _, F_nan_Pick_2⟩) rfl
theorem ph_A3_format_Inf : phiA E32 M0 S1 49 = F_format_Inf := phiA_L (e := ⟨49, _, F_format_Inf⟩) rfl rfl rfl
theorem ph_A3_wide_Join : phiA E32 M0 S1 53 = F_wide_Join := phiA_L (e := ⟨53, _, F_wide_Join⟩) rfl rfl rfl
theorem ph_A3_mag_Diff : phiA E32 M0 S1 104 = F_mag_Diff := phiA_L (e := ⟨104, _, F_mag_Diff⟩) rfl rfl rfl
theorem ph_A3_wide_Zero : phiA E32 M0 S1 45 = F_wide_Zero := phiA_L (e := ⟨45, _, F_wide_Zero⟩) rfl rfl rfl
theorem ph_A3_pack_Round : phiA E32 M0 S1 51 = F_pack_Round := phiA_L (e := ⟨51, _, F_pack_Round⟩) rfl rfl rfl
theorem ph_A3_mag_Sum : phiA E32 M0 S1 102 = F_mag_Sum := phiA_L (e := ⟨102, _, F_mag_Sum⟩) rfl rfl rfl
end Go.Proofs.YtafnnnhmplgkcaaGreatDoor
