import Derived.Test.YtngiodcdelfdmaaGreatDoorA2R8
namespace Go.Proofs.YtngiodcdelfdmaaGreatDoor
set_option linter.unusedVariables false
set_option maxRecDepth 100000
open Go.RowKit
theorem ok_A3 : SOKT (ctxA E32 M0 S1) eE := ctxA_ok E32_ok M0_ok S1_ok (by kernel_rfl)
def c_addsub_Add : Ct := ⟨[.sc kB, .agg [kB, .bool], .agg [kU, kU], .agg [kU, kU]], [.agg [kU, kU, kB]]⟩
def t_addsub_Add : Tr' SV :=
 (.ite (.not (.bin .lss .i64 (.var kB 0) (.lit 4)))
 (.leaf (.agg [(.int .u64 (.lit 0)), (.int .u64 (.lit 0)), (.int .u8 (.lit 0))]))
 (.ite (.not (.bin .leq .u8 (.var kB 1) (.lit 4)))
 (.leaf (.agg [(.int .u64 (.lit 0)), (.int .u64 (.lit 0)), (.int .u8 (.lit 0))]))
 (.call 60 [(.var kB 0), (.var kU 3), (.var kU 4)] 7 5
 (.call 60 [(.var kB 0), (.var kU 5), (.var kU 6)] 12 5
 (.ite (.bin .eql .u8 (.var kB 8) (.lit 3))
 (.ite (.bin .eql .u8 (.var kB 13) (.lit 3))
 (.call 2000065 [(.var kB 0), (.not (.beq (.var .bool 7) (.var .bool 12))), (.var kU 3), (.var kU 4), (.var kU 5), (.var kU 6)] 17 4
 (.ite (.var .bool 20)
 (.leaf (.agg [(.int .u64 (.var kU 17)), (.int .u64 (.var kU 18)), (.int .u8 (.var kB 19))]))
 (.call 61 [(.var kB 0), (.var .bool 7)] 21 2
 (.leaf (.agg [(.int .u64 (.var kU 21)), (.int .u64 (.var kU 22)), (.int .u8 (.lit 0))])))))
 (.call 2000065 [(.var kB 0), (.lit 0), (.var kU 3), (.var kU 4), (.var kU 5), (.var kU 6)] 17 4
 (.ite (.var .bool 20)
 (.leaf (.agg [(.int .u64 (.var kU 17)), (.int .u64 (.var kU 18)), (.int .u8 (.var kB 19))]))
 (.call 61 [(.var kB 0), (.var .bool 7)] 21 2
 (.leaf (.agg [(.int .u64 (.var kU 21)), (.int .u64 (.var kU 22)), (.int .u8 (.lit 0))]))))))
 (.call 2000065 [(.var kB 0), (.lit 0), (.var kU 3), (.var kU 4), (.var kU 5), (.var kU 6)] 17 4
 (.ite (.var .bool 20)
 (.leaf (.agg [(.int .u64 (.var kU 17)), (.int .u64 (.var kU 18)), (.int .u8 (.var kB 19))]))
 (.ite (.bin .eql .u8 (.var kB 13) (.lit 3))
 (.call 61 [(.var kB 0), (.var .bool 12)] 21 2
 (.leaf (.agg [(.int .u64 (.var kU 21)), (.int .u64 (.var kU 22)), (.int .u8 (.lit 0))])))
 (.ite (.not (.beq (.var .bool 7) (.var .bool 12)))
 (.call 63 [(.var kU 10), (.var kU 11), (.lit 0), (.lit 0)] 21 4
 (.call 63 [(.var kU 15), (.var kU 16), (.lit 0), (.lit 0)] 25 4
 (.call 174 [(.var kI 9), (.var kU 21), (.var kU 22), (.var kU 23), (.var kU 24), (.var kI 14), (.var kU 25), (.var kU 26), (.var kU 27), (.var kU 28)] 29 6
 (.call 97 [(.var kU 30), (.var kU 31), (.var kU 32), (.var kU 33)] 35 1
 (.ite (.var .bool 35)
 (.call 62 [(.var kB 0), (.var kB 1), (.var .bool 2), (.bin .eql .u8 (.var kB 1) (.lit 3)), (.var kI 29), (.var kU 30), (.var kU 31), (.var kU 32), (.var kU 33)] 36 3
 (.leaf (.agg [(.int .u64 (.var kU 36)), (.int .u64 (.var kU 37)), (.int .u8 (.var kB 38))])))
 (.call 62 [(.var kB 0), (.var kB 1), (.var .bool 2), (.not (.beq (.var .bool 7) (.var .bool 34))), (.var kI 29), (.var kU 30), (.var kU 31), (.var kU 32), (.var kU 33)] 36 3
 (.leaf (.agg [(.int .u64 (.var kU 36)), (.int .u64 (.var kU 37)), (.int .u8 (.var kB 38))]))))))))
 (.call 63 [(.var kU 10), (.var kU 11), (.lit 0), (.lit 0)] 21 4
 (.call 63 [(.var kU 15), (.var kU 16), (.lit 0), (.lit 0)] 25 4
 (.call 172 [(.var kI 9), (.var kU 21), (.var kU 22), (.var kU 23), (.var kU 24), (.var kI 14), (.var kU 25), (.var kU 26), (.var kU 27), (.var kU 28)] 29 5
 (.call 97 [(.var kU 30), (.var kU 31), (.var kU 32), (.var kU 33)] 34 1
 (.ite (.var .bool 34)
 (.call 62 [(.var kB 0), (.var kB 1), (.var .bool 2), (.var .bool 7), (.var kI 29), (.var kU 30), (.var kU 31), (.var kU 32), (.var kU 33)] 35 3
 (.leaf (.agg [(.int .u64 (.var kU 35)), (.int .u64 (.var kU 36)), (.int .u8 (.var kB 37))])))
 (.call 62 [(.var kB 0), (.var kB 1), (.var .bool 2), (.var .bool 7), (.var kI 29), (.var kU 30), (.var kU 31), (.var kU 32), (.var kU 33)] 35 3
 (.leaf (.agg [(.int .u64 (.var kU 35)), (.int .u64 (.var kU 36)), (.int .u8 (.var kB 37))])))))))))))))))))
theorem x_addsub_Add : execF (ctxA E32 M0 S1) 3000 48 (uns c_addsub_Add.a (varsAt 0 (kindsOf c_addsub_Add.a))) (kindsOf c_addsub_Add.a).length = t_addsub_Add := by kernel_rfl
def F_addsub_Add : List Int → List Int := treeF (phiA E32 M0 S1) c_addsub_Add t_addsub_Add
theorem e_addsub_Add : EntOK Tryz.prog gG ⟨48, c_addsub_Add, F_addsub_Add⟩ := ent_any ok_A3 3000 x_addsub_Add (by kernel_rfl)
def c_fma_Fma : Ct := ⟨[.sc kB, .agg [kB, .bool], .agg [kU, kU], .agg [kU, kU], .agg [kU, kU]], [.agg [kU, kU, kB]]⟩
def t_fma_Fma : Tr' SV :=
 (.ite (.not (.bin .lss .i64 (.var kB 0) (.lit 4)))
 (.leaf (.agg [(.int .u64 (.lit 0)), (.int .u64 (.lit 0)), (.int .u8 (.lit 0))]))
 (.ite (.not (.bin .leq .u8 (.var kB 1) (.lit 4)))
 (.leaf (.agg [(.int .u64 (.lit 0)), (.int .u64 (.lit 0)), (.int .u8 (.lit 0))]))
 (.call 60 [(.var kB 0), (.var kU 7), (.var kU 8)] 9 5
 (.call 60 [(.var kB 0), (.var kU 3), (.var kU 4)] 14 5
 (.call 60 [(.var kB 0), (.var kU 5), (.var kU 6)] 19 5
 (.call 21 [(.var .bool 14), (.var kB 15), (.var kI 16), (.var kU 17), (.var kU 18), (.var .bool 19), (.var kB 20), (.var kI 21), (.var kU 22), (.var kU 23)] 24 5
 (.ite (.bin .eql .u8 (.var kB 15) (.lit 3))
 (.call 23 [(.var .bool 14), (.var kB 15), (.var kI 16), (.var kU 17), (.var kU 18), (.var .bool 19), (.var kB 20), (.var kI 21), (.var kU 22), (.var kU 23)] 29 1
 (.ite (.not (.var .bool 29))
 (.ite (.bin .eql .u8 (.var kB 10) (.lit 3))
 (.ite (.not (.beq (.not (.beq (.var .bool 14) (.var .bool 19))) (.var .bool 9)))
 (.call 3000065 [(.var kB 0), (.lit 0), (.var kU 3), (.var kU 4), (.var kU 5), (.var kU 6), (.var kU 7), (.var kU 8)] 30 4
 (.call 3000065 [(.var kB 0), (.not (.var .bool 33)), (.var kU 3), (.var kU 4), (.var kU 5), (.var kU 6), (.var kU 7), (.var kU 8)] 34 4
 (.ite (.var .bool 37)
 (.leaf (.agg [(.int .u64 (.var kU 34)), (.int .u64 (.var kU 35)), (.int .u8 (.var kB 36))]))
 (.call 61 [(.var kB 0), (.not (.beq (.var .bool 14) (.var .bool 19)))] 38 2
 (.leaf (.agg [(.int .u64 (.var kU 38)), (.int .u64 (.var kU 39)), (.int .u8 (.lit 0))]))))))
 (.call 3000065 [(.var kB 0), (.lit 0), (.var kU 3), (.var kU 4), (.var kU 5), (.var kU 6), (.var kU 7), (.var kU 8)] 30 4
 (.ite (.var .bool 33)
 (.leaf (.agg [(.int .u64 (.var kU 30)), (.int .u64 (.var kU 31)), (.int .u8 (.var kB 32))]))
 (.call 61 [(.var kB 0), (.not (.beq (.var .bool 14) (.var .bool 19)))] 34 2
 (.leaf (.agg [(.int .u64 (.var kU 34)), (.int .u64 (.var kU 35)), (.int .u8 (.lit 0))]))))))
 (.call 3000065 [(.var kB 0), (.lit 0), (.var kU 3), (.var kU 4), (.var kU 5), (.var kU 6), (.var kU 7), (.var kU 8)] 30 4
 (.ite (.var .bool 33)
 (.leaf (.agg [(.int .u64 (.var kU 30)), (.int .u64 (.var kU 31)), (.int .u8 (.var kB 32))]))
 (.call 61 [(.var kB 0), (.not (.beq (.var .bool 14) (.var .bool 19)))] 34 2
 (.leaf (.agg [(.int .u64 (.var kU 34)), (.int .u64 (.var kU 35)), (.int .u8 (.lit 0))]))))))
 (.call 3000065 [(.var kB 0), (.lit 1), (.var kU 3), (.var kU 4), (.var kU 5), (.var kU 6), (.var kU 7), (.var kU 8)] 30 4
 (.ite (.var .bool 33)
 (.leaf (.agg [(.int .u64 (.var kU 30)), (.int .u64 (.var kU 31)), (.int .u8 (.var kB 32))]))
 (.call 61 [(.var kB 0), (.not (.beq (.var .bool 14) (.var .bool 19)))] 34 2
 (.leaf (.agg [(.int .u64 (.var kU 34)), (.int .u64 (.var kU 35)), (.int .u8 (.lit 0))])))))))
 (.call 23 [(.var .bool 14), (.var kB 15), (.var kI 16), (.var kU 17), (.var kU 18), (.var .bool 19), (.var kB 20), (.var kI 21), (.var kU 22), (.var kU 23)] 29 1
 (.ite (.bin .eql .u8 (.var kB 20) (.lit 3))
 (.ite (.not (.var .bool 29))
 (.ite (.bin .eql .u8 (.var kB 10) (.lit 3))
 (.ite (.not (.beq (.not (.beq (.var .bool 14) (.var .bool 19))) (.var .bool 9)))
 (.call 3000065 [(.var kB 0), (.lit 0), (.var kU 3), (.var kU 4), (.var kU 5), (.var kU 6), (.var kU 7), (.var kU 8)] 30 4
 (.call 3000065 [(.var kB 0), (.not (.var .bool 33)), (.var kU 3), (.var kU 4), (.var kU 5), (.var kU 6), (.var kU 7), (.var kU 8)] 34 4
 (.ite (.var .bool 37)
 (.leaf (.agg [(.int .u64 (.var kU 34)), (.int .u64 (.var kU 35)), (.int .u8 (.var kB 36))]))
 (.call 61 [(.var kB 0), (.not (.beq (.var .bool 14) (.var .bool 19)))] 38 2
 (.leaf (.agg [(.int .u64 (.var kU 38)), (.int .u64 (.var kU 39)), (.int .u8 (.lit 0))]))))))
 (.call 3000065 [(.var kB 0), (.lit 0), (.var kU 3), (.var kU 4), (.var kU 5), (.var kU 6), (.var kU 7), (.var kU 8)] 30 4
 (.ite (.var .bool 33)
 (.leaf (.agg [(.int .u64 (.var kU 30)), (.int .u64 (.var kU 31)), (.int .u8 (.var kB 32))]))
 (.call 61 [(.var kB 0), (.not (.beq (.var .bool 14) (.var .bool 19)))] 34 2
 (.leaf (.agg [(.int .u64 (.var kU 34)), (.int .u64 (.var kU 35)), (.int .u8 (.lit 0))]))))))
 (.call 3000065 [(.var kB 0), (.lit 0), (.var kU 3), (.var kU 4), (.var kU 5), (.var kU 6), (.var kU 7), (.var kU 8)] 30 4
 (.ite (.var .bool 33)
 (.leaf (.agg [(.int .u64 (.var kU 30)), (.int .u64 (.var kU 31)), (.int .u8 (.var kB 32))]))
 (.call 61 [(.var kB 0), (.not (.beq (.var .bool 14) (.var .bool 19)))] 34 2
 (.leaf (.agg [(.int .u64 (.var kU 34)), (.int .u64 (.var kU 35)), (.int .u8 (.lit 0))]))))))
 (.call 3000065 [(.var kB 0), (.lit 1), (.var kU 3), (.var kU 4), (.var kU 5), (.var kU 6), (.var kU 7), (.var kU 8)] 30 4
 (.ite (.var .bool 33)
 (.leaf (.agg [(.int .u64 (.var kU 30)), (.int .u64 (.var kU 31)), (.int .u8 (.var kB 32))]))
 (.call 61 [(.var kB 0), (.not (.beq (.var .bool 14) (.var .bool 19)))] 34 2
 (.leaf (.agg [(.int .u64 (.var kU 34)), (.int .u64 (.var kU 35)), (.int .u8 (.lit 0))]))))))
 (.ite (.var .bool 29)
 (.call 3000065 [(.var kB 0), (.lit 1), (.var kU 3), (.var kU 4), (.var kU 5), (.var kU 6), (.var kU 7), (.var kU 8)] 30 4
 (.ite (.var .bool 33)
 (.leaf (.agg [(.int .u64 (.var kU 30)), (.int .u64 (.var kU 31)), (.int .u8 (.var kB 32))]))
 (.ite (.bin .eql .u8 (.var kB 10) (.lit 3))
 (.call 61 [(.var kB 0), (.var .bool 9)] 34 2
 (.leaf (.agg [(.int .u64 (.var kU 34)), (.int .u64 (.var kU 35)), (.int .u8 (.lit 0))])))
 (.call 63 [(.var kU 12), (.var kU 13), (.lit 0), (.lit 0)] 34 4
 (.call 172 [(.var kI 24), (.var kU 25), (.var kU 26), (.var kU 27), (.var kU 28), (.var kI 11), (.var kU 34), (.var kU 35), (.var kU 36), (.var kU 37)] 38 5
 (.ite (.not (.beq (.not (.beq (.var .bool 14) (.var .bool 19))) (.var .bool 9)))
 (.call 63 [(.var kU 12), (.var kU 13), (.lit 0), (.lit 0)] 43 4
 (.call 174 [(.var kI 24), (.var kU 25), (.var kU 26), (.var kU 27), (.var kU 28), (.var kI 11), (.var kU 43), (.var kU 44), (.var kU 45), (.var kU 46)] 47 6
 (.call 97 [(.var kU 48), (.var kU 49), (.var kU 50), (.var kU 51)] 53 1
 (.ite (.var .bool 53)
 (.call 62 [(.var kB 0), (.var kB 1), (.var .bool 2), (.bin .eql .u8 (.var kB 1) (.lit 3)), (.var kI 47), (.var kU 48), (.var kU 49), (.var kU 50), (.var kU 51)] 54 3
 (.leaf (.agg [(.int .u64 (.var kU 54)), (.int .u64 (.var kU 55)), (.int .u8 (.var kB 56))])))
 (.call 62 [(.var kB 0), (.var kB 1), (.var .bool 2), (.not (.beq (.not (.beq (.var .bool 14) (.var .bool 19))) (.var .bool 52))), (.var kI 47), (.var kU 48), (.var kU 49), (.var kU 50), (.var kU 51)] 54 3
 (.leaf (.agg [(.int .u64 (.var kU 54)), (.int .u64 (.var kU 55)), (.int .u8 (.var kB 56))])))))))
 (.call 97 [(.var kU 39), (.var kU 40), (.var kU 41), (.var kU 42)] 43 1
 (.ite (.var .bool 43)
 (.call 62 [(.var kB 0), (.var kB 1), (.var .bool 2), (.not (.beq (.var .bool 14) (.var .bool 19))), (.var kI 38), (.var kU 39), (.var kU 40), (.var kU 41), (.var kU 42)] 44 3
 (.leaf (.agg [(.int .u64 (.var kU 44)), (.int .u64 (.var kU 45)), (.int .u8 (.var kB 46))])))
 (.call 62 [(.var kB 0), (.var kB 1), (.var .bool 2), (.not (.beq (.var .bool 14) (.var .bool 19))), (.var kI 38), (.var kU 39), (.var kU 40), (.var kU 41), (.var kU 42)] 44 3
 (.leaf (.agg [(.int .u64 (.var kU 44)), (.int .u64 (.var kU 45)), (.int .u8 (.var kB 46))])))))))))))
 (.call 3000065 [(.var kB 0), (.lit 0), (.var kU 3), (.var kU 4), (.var kU 5), (.var kU 6), (.var kU 7), (.var kU 8)] 30 4
 (.ite (.var .bool 33)
 (.leaf (.agg [(.int .u64 (.var kU 30)), (.int .u64 (.var kU 31)), (.int .u8 (.var kB 32))]))
 (.ite (.bin .eql .u8 (.var kB 10) (.lit 3))
 (.call 61 [(.var kB 0), (.var .bool 9)] 34 2
 (.leaf (.agg [(.int .u64 (.var kU 34)), (.int .u64 (.var kU 35)), (.int .u8 (.lit 0))])))
 (.call 63 [(.var kU 12), (.var kU 13), (.lit 0), (.lit 0)] 34 4
 (.call 172 [(.var kI 24), (.var kU 25), (.var kU 26), (.var kU 27), (.var kU 28), (.var kI 11), (.var kU 34), (.var kU 35), (.var kU 36), (.var kU 37)] 38 5
 (.ite (.not (.beq (.not (.beq (.var .bool 14) (.var .bool 19))) (.var .bool 9)))
 (.call 63 [(.var kU 12), (.var kU 13), (.lit 0), (.lit 0)] 43 4
 (.call 174 [(.var kI 24), (.var kU 25), (.var kU 26), (.var kU 27), (.var kU 28), (.var kI 11), (.var kU 43), (.var kU 44), (.var kU 45), (.var kU 46)] 47 6
 (.call 97 [(.var kU 48), (.var kU 49), (.var kU 50), (.var kU 51)] 53 1
 (.ite (.var .bool 53)
 (.call 62 [(.var kB 0), (.var kB 1), (.var .bool 2), (.bin .eql .u8 (.var kB 1) (.lit 3)), (.var kI 47), (.var kU 48), (.var kU 49), (.var kU 50), (.var kU 51)] 54 3
 (.leaf (.agg [(.int .u64 (.var kU 54)), (.int .u64 (.var kU 55)), (.int .u8 (.var kB 56))])))
 (.call 62 [(.var kB 0), (.var kB 1), (.var .bool 2), (.not (.beq (.not (.beq (.var .bool 14) (.var .bool 19))) (.var .bool 52))), (.var kI 47), (.var kU 48), (.var kU 49), (.var kU 50), (.var kU 51)] 54 3
 (.leaf (.agg [(.int .u64 (.var kU 54)), (.int .u64 (.var kU 55)), (.int .u8 (.var kB 56))])))))))
 (.call 97 [(.var kU 39), (.var kU 40), (.var kU 41), (.var kU 42)] 43 1
 (.ite (.var .bool 43)
 (.call 62 [(.var kB 0), (.var kB 1), (.var .bool 2), (.not (.beq (.var .bool 14) (.var .bool 19))), (.var kI 38), (.var kU 39), (.var kU 40), (.var kU 41), (.var kU 42)] 44 3
 (.leaf (.agg [(.int .u64 (.var kU 44)), (.int .u64 (.var kU 45)), (.int .u8 (.var kB 46))])))
 (.call 62 [(.var kB 0), (.var kB 1), (.var .bool 2), (.not (.beq (.var .bool 14) (.var .bool 19))), (.var kI 38), (.var kU 39), (.var kU 40), (.var kU 41), (.var kU 42)] 44 3
 (.leaf (.agg [(.int .u64 (.var kU 44)), (.int .u64 (.var kU 45)), (.int .u8 (.var kB 46))])))))))))))))))))))))
theorem x_fma_Fma : execF (ctxA E32 M0 S1) 3000 40 (uns c_fma_Fma.a (varsAt 0 (kindsOf c_fma_Fma.a))) (kindsOf c_fma_Fma.a).length = t_fma_Fma := by kernel_rfl
def F_fma_Fma : List Int → List Int := treeF (phiA E32 M0 S1) c_fma_Fma t_fma_Fma
theorem e_fma_Fma : EntOK Tryz.prog gG ⟨40, c_fma_Fma, F_fma_Fma⟩ := ent_any ok_A3 3000 x_fma_Fma (by kernel_rfl)
def E33 : List Ent := ⟨48, c_addsub_Add, F_addsub_Add⟩ :: ⟨40, c_fma_Fma, F_fma_Fma⟩ :: E32
theorem E33_ok : ∀ e ∈ E33, EntOK Tryz.prog gG e := List.forall_mem_cons.2 ⟨e_addsub_Add, List.forall_mem_cons.2 ⟨e_fma_Fma, E32_ok⟩⟩
theorem ph_A3_fields_Unpack : phiA E32 M0 S1 60 = F_fields_Unpack := phiA_L (e := ⟨60, _, F_fields_Unpack⟩) rfl rfl rfl
theorem ph_A3_nan_Pick_2 : phiA E32 M0 S1 2000065 = F_nan_Pick_2 := phiA_S (e := ⟨65, _, F_nan_Pick_2⟩) rfl
theorem ph_A3_format_Inf : phiA E32 M0 S1 61 = F_format_Inf := phiA_L (e := ⟨61, _, F_format_Inf⟩) rfl rfl rfl
theorem ph_A3_wide_Join : phiA E32 M0 S1 63 = F_wide_Join := phiA_L (e := ⟨63, _, F_wide_Join⟩) rfl rfl rfl
theorem ph_A3_mag_Diff : phiA E32 M0 S1 174 = F_mag_Diff := phiA_L (e := ⟨174, _, F_mag_Diff⟩) rfl rfl rfl
theorem ph_A3_wide_Zero : phiA E32 M0 S1 97 = F_wide_Zero := phiA_L (e := ⟨97, _, F_wide_Zero⟩) rfl rfl rfl
theorem ph_A3_pack_Round : phiA E32 M0 S1 62 = F_pack_Round := phiA_L (e := ⟨62, _, F_pack_Round⟩) rfl rfl rfl
theorem ph_A3_mag_Sum : phiA E32 M0 S1 172 = F_mag_Sum := phiA_L (e := ⟨172, _, F_mag_Sum⟩) rfl rfl rfl
theorem ph_A3_mul_Term : phiA E32 M0 S1 21 = F_mul_Term := phiA_L (e := ⟨21, _, F_mul_Term⟩) rfl rfl rfl
theorem ph_A3_mul_Bad : phiA E32 M0 S1 23 = F_mul_Bad := phiA_L (e := ⟨23, _, F_mul_Bad⟩) rfl rfl rfl
theorem ph_A3_nan_Pick_3 : phiA E32 M0 S1 3000065 = F_nan_Pick_3 := phiA_S (e := ⟨65, _, F_nan_Pick_3⟩) rfl
end Go.Proofs.YtngiodcdelfdmaaGreatDoor
