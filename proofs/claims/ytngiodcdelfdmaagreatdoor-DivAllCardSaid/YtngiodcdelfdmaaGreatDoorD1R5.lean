import Derived.Test.YtngiodcdelfdmaaGreatDoorQ1R5
namespace Go.Proofs.YtngiodcdelfdmaaGreatDoor
set_option linter.unusedVariables false
set_option maxRecDepth 100000
open Go.RowKit
theorem ok_D1 : SOKT (ctxA E12 M0 S1) eE := ctxA_ok E12_ok M0_ok S1_ok (by kernel_rfl)
def c_div_Div : Ct := ⟨[.sc kB, .agg [kB, .bool], .agg [kU, kU], .agg [kU, kU]], [.agg [kU, kU, kB]]⟩
def t_div_Div : Tr' SV :=
 (.ite (.not (.bin .lss .i64 (.var kB 0) (.lit 4)))
 (.leaf (.agg [(.int .u64 (.lit 0)), (.int .u64 (.lit 0)), (.int .u8 (.lit 0))]))
 (.ite (.not (.bin .leq .u8 (.var kB 1) (.lit 4)))
 (.leaf (.agg [(.int .u64 (.lit 0)), (.int .u64 (.lit 0)), (.int .u8 (.lit 0))]))
 (.call 60 [(.var kB 0), (.var kU 3), (.var kU 4)] 7 5
 (.call 60 [(.var kB 0), (.var kU 5), (.var kU 6)] 12 5
 (.ite (.bin .eql .u8 (.var kB 8) (.var kB 13))
 (.ite (.bin .eql .u8 (.var kB 8) (.lit 3))
 (.call 2000065 [(.var kB 0), (.lit 1), (.var kU 3), (.var kU 4), (.var kU 5), (.var kU 6)] 17 4
 (.ite (.var .bool 20)
 (.leaf (.agg [(.int .u64 (.var kU 17)), (.int .u64 (.var kU 18)), (.int .u8 (.var kB 19))]))
 (.ite (.bin .eql .u8 (.var kB 13) (.lit 3))
 (.call 61 [(.var kB 0), (.not (.beq (.var .bool 7) (.var .bool 12)))] 21 2
 (.leaf (.agg [(.int .u64 (.var kU 21)), (.int .u64 (.var kU 22)), (.int .u8 (.lit 0))])))
 (.call 61 [(.var kB 0), (.not (.beq (.var .bool 7) (.var .bool 12)))] 21 2
 (.leaf (.agg [(.int .u64 (.var kU 21)), (.int .u64 (.var kU 22)), (.int .u8 (.lit 0))]))))))
 (.call 2000065 [(.var kB 0), (.bin .eql .u8 (.var kB 8) (.lit 0)), (.var kU 3), (.var kU 4), (.var kU 5), (.var kU 6)] 17 4
 (.ite (.var .bool 20)
 (.leaf (.agg [(.int .u64 (.var kU 17)), (.int .u64 (.var kU 18)), (.int .u8 (.var kB 19))]))
 (.ite (.bin .eql .u8 (.var kB 13) (.lit 3))
 (.call 82 [(.var kB 0), (.not (.beq (.var .bool 7) (.var .bool 12)))] 21 2
 (.leaf (.agg [(.int .u64 (.var kU 21)), (.int .u64 (.var kU 22)), (.int .u8 (.lit 0))])))
 (.ite (.bin .eql .u8 (.var kB 8) (.lit 0))
 (.call 82 [(.var kB 0), (.not (.beq (.var .bool 7) (.var .bool 12)))] 21 2
 (.leaf (.agg [(.int .u64 (.var kU 21)), (.int .u64 (.var kU 22)), (.int .u8 (.lit 0))])))
 (.ite (.bin .eql .u8 (.var kB 13) (.lit 0))
 (.call 61 [(.var kB 0), (.not (.beq (.var .bool 7) (.var .bool 12)))] 21 2
 (.leaf (.agg [(.int .u64 (.var kU 21)), (.int .u64 (.var kU 22)), (.int .u8 (.lit 2))])))
 (.call 63 [(.var kU 10), (.var kU 11), (.lit 0), (.lit 0)] 21 4
 (.call 75 [(.var kU 21), (.var kU 22), (.var kU 23), (.var kU 24), (.var kU 15), (.var kU 16)] 25 7
 (.call 76 [(.var kU 25), (.var kU 26), (.var kU 27), (.var kU 28), (.lit 100)] 32 4
 (.call 77 [(.var kU 29), (.var kU 30)] 36 1
 (.ite (.not (.var .bool 36))
 (.call 62 [(.var kB 0), (.var kB 1), (.var .bool 2), (.not (.beq (.var .bool 7) (.var .bool 12))), (.bin .add .i64 (.bin .sub .i64 (.var kI 9) (.var kI 14)) (.lit 27)), (.bin .or .u64 (.var kU 32) (.lit 1)), (.var kU 33), (.var kU 34), (.var kU 35)] 37 3
 (.leaf (.agg [(.int .u64 (.var kU 37)), (.int .u64 (.var kU 38)), (.int .u8 (.var kB 39))])))
 (.call 62 [(.var kB 0), (.var kB 1), (.var .bool 2), (.not (.beq (.var .bool 7) (.var .bool 12))), (.bin .add .i64 (.bin .sub .i64 (.var kI 9) (.var kI 14)) (.lit 27)), (.var kU 32), (.var kU 33), (.var kU 34), (.var kU 35)] 37 3
 (.leaf (.agg [(.int .u64 (.var kU 37)), (.int .u64 (.var kU 38)), (.int .u8 (.var kB 39))]))))))))))))))
 (.call 2000065 [(.var kB 0), (.lit 0), (.var kU 3), (.var kU 4), (.var kU 5), (.var kU 6)] 17 4
 (.ite (.var .bool 20)
 (.leaf (.agg [(.int .u64 (.var kU 17)), (.int .u64 (.var kU 18)), (.int .u8 (.var kB 19))]))
 (.ite (.bin .eql .u8 (.var kB 13) (.lit 3))
 (.ite (.bin .eql .u8 (.var kB 8) (.lit 3))
 (.call 61 [(.var kB 0), (.not (.beq (.var .bool 7) (.var .bool 12)))] 21 2
 (.leaf (.agg [(.int .u64 (.var kU 21)), (.int .u64 (.var kU 22)), (.int .u8 (.lit 0))])))
 (.call 82 [(.var kB 0), (.not (.beq (.var .bool 7) (.var .bool 12)))] 21 2
 (.leaf (.agg [(.int .u64 (.var kU 21)), (.int .u64 (.var kU 22)), (.int .u8 (.lit 0))]))))
 (.ite (.bin .eql .u8 (.var kB 8) (.lit 3))
 (.call 61 [(.var kB 0), (.not (.beq (.var .bool 7) (.var .bool 12)))] 21 2
 (.leaf (.agg [(.int .u64 (.var kU 21)), (.int .u64 (.var kU 22)), (.int .u8 (.lit 0))])))
 (.ite (.bin .eql .u8 (.var kB 8) (.lit 0))
 (.call 82 [(.var kB 0), (.not (.beq (.var .bool 7) (.var .bool 12)))] 21 2
 (.leaf (.agg [(.int .u64 (.var kU 21)), (.int .u64 (.var kU 22)), (.int .u8 (.lit 0))])))
 (.ite (.bin .eql .u8 (.var kB 13) (.lit 0))
 (.call 61 [(.var kB 0), (.not (.beq (.var .bool 7) (.var .bool 12)))] 21 2
 (.leaf (.agg [(.int .u64 (.var kU 21)), (.int .u64 (.var kU 22)), (.int .u8 (.lit 2))])))
 (.call 63 [(.var kU 10), (.var kU 11), (.lit 0), (.lit 0)] 21 4
 (.call 75 [(.var kU 21), (.var kU 22), (.var kU 23), (.var kU 24), (.var kU 15), (.var kU 16)] 25 7
 (.call 76 [(.var kU 25), (.var kU 26), (.var kU 27), (.var kU 28), (.lit 100)] 32 4
 (.call 77 [(.var kU 29), (.var kU 30)] 36 1
 (.ite (.not (.var .bool 36))
 (.call 62 [(.var kB 0), (.var kB 1), (.var .bool 2), (.not (.beq (.var .bool 7) (.var .bool 12))), (.bin .add .i64 (.bin .sub .i64 (.var kI 9) (.var kI 14)) (.lit 27)), (.bin .or .u64 (.var kU 32) (.lit 1)), (.var kU 33), (.var kU 34), (.var kU 35)] 37 3
 (.leaf (.agg [(.int .u64 (.var kU 37)), (.int .u64 (.var kU 38)), (.int .u8 (.var kB 39))])))
 (.call 62 [(.var kB 0), (.var kB 1), (.var .bool 2), (.not (.beq (.var .bool 7) (.var .bool 12))), (.bin .add .i64 (.bin .sub .i64 (.var kI 9) (.var kI 14)) (.lit 27)), (.var kU 32), (.var kU 33), (.var kU 34), (.var kU 35)] 37 3
 (.leaf (.agg [(.int .u64 (.var kU 37)), (.int .u64 (.var kU 38)), (.int .u8 (.var kB 39))])))))))))))))))))))
theorem x_div_Div : execF (ctxA E12 M0 S1) 3000 25 (uns c_div_Div.a (varsAt 0 (kindsOf c_div_Div.a))) (kindsOf c_div_Div.a).length = t_div_Div := by kernel_rfl
def F_div_Div : List Int → List Int := treeF (phiA E12 M0 S1) c_div_Div t_div_Div
theorem e_div_Div : EntOK Tryz.prog gG ⟨25, c_div_Div, F_div_Div⟩ := ent_any ok_D1 3000 x_div_Div (by kernel_rfl)
def E13 : List Ent := ⟨25, c_div_Div, F_div_Div⟩ :: E12
theorem E13_ok : ∀ e ∈ E13, EntOK Tryz.prog gG e := List.forall_mem_cons.2 ⟨e_div_Div, E12_ok⟩
theorem ph_D1_fields_Unpack : phiA E12 M0 S1 60 = F_fields_Unpack := phiA_L (e := ⟨60, _, F_fields_Unpack⟩) rfl rfl rfl
theorem ph_D1_nan_Pick_2 : phiA E12 M0 S1 2000065 = F_nan_Pick_2 := phiA_S (e := ⟨65, _, F_nan_Pick_2⟩) rfl
theorem ph_D1_format_Inf : phiA E12 M0 S1 61 = F_format_Inf := phiA_L (e := ⟨61, _, F_format_Inf⟩) rfl rfl rfl
theorem ph_D1_format_Nought : phiA E12 M0 S1 82 = F_format_Nought := phiA_L (e := ⟨82, _, F_format_Nought⟩) rfl rfl rfl
theorem ph_D1_wide_Join : phiA E12 M0 S1 63 = F_wide_Join := phiA_L (e := ⟨63, _, F_wide_Join⟩) rfl rfl rfl
theorem ph_D1_quot_Div : phiA E12 M0 S1 75 = fQuot := phiA_L (e := ⟨75, _, fQuot⟩) rfl rfl rfl
theorem ph_D1_shift_WideLeft : phiA E12 M0 S1 76 = F_shift_WideLeft := phiA_L (e := ⟨76, _, F_shift_WideLeft⟩) rfl rfl rfl
theorem ph_D1_word_Zero : phiA E12 M0 S1 77 = F_word_Zero := phiA_L (e := ⟨77, _, F_word_Zero⟩) rfl rfl rfl
theorem ph_D1_pack_Round : phiA E12 M0 S1 62 = F_pack_Round := phiA_L (e := ⟨62, _, F_pack_Round⟩) rfl rfl rfl
end Go.Proofs.YtngiodcdelfdmaaGreatDoor
