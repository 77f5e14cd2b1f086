import Derived.Test.YtemomocmfggiaaaGreatDoorQ1U5
namespace Go.Proofs.YtemomocmfggiaaaGreatDoor
set_option linter.unusedVariables false
set_option maxRecDepth 100000
open Go.RowKit
theorem ok_D1 : SOKT (ctxA E12 M0 S1) eE := ctxA_ok E12_ok M0_ok S1_ok (by kernel_rfl)
def c_div_Div : Ct := ⟨[.sc kB, .agg [kB, .bool], .agg [kU, kU], .agg [kU, kU]], [.agg [kU, kU, kB]]⟩
def t_div_Div : Tr' SV :=
 (.ite (.not (.bin .lss .i64 (.var kB 0) (.lit 4)))
 (.leaf (.agg [(.int .u64 (.lit 0)), (.int .u64 (.lit 0)), (.int .u8 (.lit 0))]))
 (.ite (.not (.bin .leq .u8 (.var kB 1) (.lit 4)))
 (.leaf (.agg [(.int .u64 (.lit 0)), (.int .u64 (.lit 0)), (.int .u8 (.lit 0))]))
 (.call 139 [(.var kB 0), (.var kU 3), (.var kU 4)] 7 5
 (.call 139 [(.var kB 0), (.var kU 5), (.var kU 6)] 12 5
 (.ite (.bin .eql .u8 (.var kB 8) (.var kB 13))
 (.ite (.bin .eql .u8 (.var kB 8) (.lit 3))
 (.call 2000140 [(.var kB 0), (.lit 1), (.var kU 3), (.var kU 4), (.var kU 5), (.var kU 6)] 17 4
 (.ite (.var .bool 20)
 (.leaf (.agg [(.int .u64 (.var kU 17)), (.int .u64 (.var kU 18)), (.int .u8 (.var kB 19))]))
 (.ite (.bin .eql .u8 (.var kB 13) (.lit 3))
 (.call 141 [(.var kB 0), (.not (.beq (.var .bool 7) (.var .bool 12)))] 21 2
 (.leaf (.agg [(.int .u64 (.var kU 21)), (.int .u64 (.var kU 22)), (.int .u8 (.lit 0))])))
 (.call 141 [(.var kB 0), (.not (.beq (.var .bool 7) (.var .bool 12)))] 21 2
 (.leaf (.agg [(.int .u64 (.var kU 21)), (.int .u64 (.var kU 22)), (.int .u8 (.lit 0))]))))))
 (.call 2000140 [(.var kB 0), (.bin .eql .u8 (.var kB 8) (.lit 0)), (.var kU 3), (.var kU 4), (.var kU 5), (.var kU 6)] 17 4
 (.ite (.var .bool 20)
 (.leaf (.agg [(.int .u64 (.var kU 17)), (.int .u64 (.var kU 18)), (.int .u8 (.var kB 19))]))
 (.ite (.bin .eql .u8 (.var kB 13) (.lit 3))
 (.call 152 [(.var kB 0), (.not (.beq (.var .bool 7) (.var .bool 12)))] 21 2
 (.leaf (.agg [(.int .u64 (.var kU 21)), (.int .u64 (.var kU 22)), (.int .u8 (.lit 0))])))
 (.ite (.bin .eql .u8 (.var kB 8) (.lit 0))
 (.call 152 [(.var kB 0), (.not (.beq (.var .bool 7) (.var .bool 12)))] 21 2
 (.leaf (.agg [(.int .u64 (.var kU 21)), (.int .u64 (.var kU 22)), (.int .u8 (.lit 0))])))
 (.ite (.bin .eql .u8 (.var kB 13) (.lit 0))
 (.call 141 [(.var kB 0), (.not (.beq (.var .bool 7) (.var .bool 12)))] 21 2
 (.leaf (.agg [(.int .u64 (.var kU 21)), (.int .u64 (.var kU 22)), (.int .u8 (.lit 2))])))
 (.call 150 [(.var kU 10), (.var kU 11), (.lit 0), (.lit 0)] 21 4
 (.call 149 [(.var kU 21), (.var kU 22), (.var kU 23), (.var kU 24), (.var kU 15), (.var kU 16)] 25 7
 (.call 151 [(.var kU 25), (.var kU 26), (.var kU 27), (.var kU 28), (.lit 100)] 32 4
 (.call 50 [(.var kU 29), (.var kU 30)] 36 1
 (.ite (.not (.var .bool 36))
 (.call 147 [(.var kB 0), (.var kB 1), (.var .bool 2), (.not (.beq (.var .bool 7) (.var .bool 12))), (.bin .add .i64 (.bin .sub .i64 (.var kI 9) (.var kI 14)) (.lit 27)), (.bin .or .u64 (.var kU 32) (.lit 1)), (.var kU 33), (.var kU 34), (.var kU 35)] 37 3
 (.leaf (.agg [(.int .u64 (.var kU 37)), (.int .u64 (.var kU 38)), (.int .u8 (.var kB 39))])))
 (.call 147 [(.var kB 0), (.var kB 1), (.var .bool 2), (.not (.beq (.var .bool 7) (.var .bool 12))), (.bin .add .i64 (.bin .sub .i64 (.var kI 9) (.var kI 14)) (.lit 27)), (.var kU 32), (.var kU 33), (.var kU 34), (.var kU 35)] 37 3
 (.leaf (.agg [(.int .u64 (.var kU 37)), (.int .u64 (.var kU 38)), (.int .u8 (.var kB 39))]))))))))))))))
 (.call 2000140 [(.var kB 0), (.lit 0), (.var kU 3), (.var kU 4), (.var kU 5), (.var kU 6)] 17 4
 (.ite (.var .bool 20)
 (.leaf (.agg [(.int .u64 (.var kU 17)), (.int .u64 (.var kU 18)), (.int .u8 (.var kB 19))]))
 (.ite (.bin .eql .u8 (.var kB 13) (.lit 3))
 (.ite (.bin .eql .u8 (.var kB 8) (.lit 3))
 (.call 141 [(.var kB 0), (.not (.beq (.var .bool 7) (.var .bool 12)))] 21 2
 (.leaf (.agg [(.int .u64 (.var kU 21)), (.int .u64 (.var kU 22)), (.int .u8 (.lit 0))])))
 (.call 152 [(.var kB 0), (.not (.beq (.var .bool 7) (.var .bool 12)))] 21 2
 (.leaf (.agg [(.int .u64 (.var kU 21)), (.int .u64 (.var kU 22)), (.int .u8 (.lit 0))]))))
 (.ite (.bin .eql .u8 (.var kB 8) (.lit 3))
 (.call 141 [(.var kB 0), (.not (.beq (.var .bool 7) (.var .bool 12)))] 21 2
 (.leaf (.agg [(.int .u64 (.var kU 21)), (.int .u64 (.var kU 22)), (.int .u8 (.lit 0))])))
 (.ite (.bin .eql .u8 (.var kB 8) (.lit 0))
 (.call 152 [(.var kB 0), (.not (.beq (.var .bool 7) (.var .bool 12)))] 21 2
 (.leaf (.agg [(.int .u64 (.var kU 21)), (.int .u64 (.var kU 22)), (.int .u8 (.lit 0))])))
 (.ite (.bin .eql .u8 (.var kB 13) (.lit 0))
 (.call 141 [(.var kB 0), (.not (.beq (.var .bool 7) (.var .bool 12)))] 21 2
 (.leaf (.agg [(.int .u64 (.var kU 21)), (.int .u64 (.var kU 22)), (.int .u8 (.lit 2))])))
 (.call 150 [(.var kU 10), (.var kU 11), (.lit 0), (.lit 0)] 21 4
 (.call 149 [(.var kU 21), (.var kU 22), (.var kU 23), (.var kU 24), (.var kU 15), (.var kU 16)] 25 7
 (.call 151 [(.var kU 25), (.var kU 26), (.var kU 27), (.var kU 28), (.lit 100)] 32 4
 (.call 50 [(.var kU 29), (.var kU 30)] 36 1
 (.ite (.not (.var .bool 36))
 (.call 147 [(.var kB 0), (.var kB 1), (.var .bool 2), (.not (.beq (.var .bool 7) (.var .bool 12))), (.bin .add .i64 (.bin .sub .i64 (.var kI 9) (.var kI 14)) (.lit 27)), (.bin .or .u64 (.var kU 32) (.lit 1)), (.var kU 33), (.var kU 34), (.var kU 35)] 37 3
 (.leaf (.agg [(.int .u64 (.var kU 37)), (.int .u64 (.var kU 38)), (.int .u8 (.var kB 39))])))
 (.call 147 [(.var kB 0), (.var kB 1), (.var .bool 2), (.not (.beq (.var .bool 7) (.var .bool 12))), (.bin .add .i64 (.bin .sub .i64 (.var kI 9) (.var kI 14)) (.lit 27)), (.var kU 32), (.var kU 33), (.var kU 34), (.var kU 35)] 37 3
 (.leaf (.agg [(.int .u64 (.var kU 37)), (.int .u64 (.var kU 38)), (.int .u8 (.var kB 39))])))))))))))))))))))
theorem x_div_Div : execF (ctxA E12 M0 S1) 3000 86 (uns c_div_Div.a (varsAt 0 (kindsOf c_div_Div.a))) (kindsOf c_div_Div.a).length = t_div_Div := by kernel_rfl
def F_div_Div : List Int → List Int := treeF (phiA E12 M0 S1) c_div_Div t_div_Div
theorem e_div_Div : EntOK Tryz.prog gG ⟨86, c_div_Div, F_div_Div⟩ := ent_any ok_D1 3000 x_div_Div (by kernel_rfl)
end Go.Proofs.YtemomocmfggiaaaGreatDoor
