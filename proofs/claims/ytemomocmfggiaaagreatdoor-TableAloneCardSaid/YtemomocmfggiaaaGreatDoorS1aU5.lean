import Derived.Test.YtemomocmfggiaaaGreatDoorZ2U5
namespace Go.Proofs.YtemomocmfggiaaaGreatDoor
set_option linter.unusedVariables false
set_option maxRecDepth 100000
open Go.RowKit
theorem ok_S1a : SOKT (ctxA E50 M0 S1) eE := ctxA_ok E50_ok M0_ok S1_ok (by kernel_rfl)
def c_sqrt_Sqrt : Ct := ⟨[.sc kB, .agg [kB, .bool], .agg [kU, kU]], [.agg [kU, kU, kB]]⟩
def t_sqrt_Sqrt : Tr' SV :=
 (.ite (.not (.bin .lss .i64 (.var kB 0) (.lit 4)))
 (.leaf (.agg [(.int .u64 (.lit 0)), (.int .u64 (.lit 0)), (.int .u8 (.lit 0))]))
 (.ite (.not (.bin .leq .u8 (.var kB 1) (.lit 4)))
 (.leaf (.agg [(.int .u64 (.lit 0)), (.int .u64 (.lit 0)), (.int .u8 (.lit 0))]))
 (.call 139 [(.var kB 0), (.var kU 3), (.var kU 4)] 5 5
 (.ite (.var .bool 5)
 (.ite (.bin .neq .u8 (.var kB 6) (.lit 0))
 (.call 1000140 [(.var kB 0), (.bin .leq .u8 (.var kB 6) (.lit 3)), (.var kU 3), (.var kU 4)] 10 4
 (.ite (.var .bool 13)
 (.leaf (.agg [(.int .u64 (.var kU 10)), (.int .u64 (.var kU 11)), (.int .u8 (.var kB 12))]))
 (.ite (.bin .eql .u8 (.var kB 6) (.lit 3))
 (.call 141 [(.var kB 0), (.var .bool 5)] 14 2
 (.leaf (.agg [(.int .u64 (.var kU 14)), (.int .u64 (.var kU 15)), (.int .u8 (.lit 0))])))
 (.call 150 [(.var kU 8), (.var kU 9), (.lit 0), (.lit 0)] 14 4
 (.ite (.bin .neq .i64 (.bin .rem .i64 (.bin .sub .i64 (.var kI 7) (.lit 255)) (.lit 2)) (.lit 0))
 (.call 153 [(.var kU 14), (.var kU 15), (.var kU 16), (.var kU 17), (.lit 1)] 18 4
 (.call 154 [(.var kU 18), (.var kU 19), (.var kU 20), (.var kU 21)] 22 3
 (.call 155 [(.var kU 22), (.var kU 23)] 25 4
 (.call 151 [(.var kU 25), (.var kU 26), (.var kU 27), (.var kU 28), (.lit 100)] 29 4
 (.ite (.not (.var .bool 24))
 (.call 147 [(.var kB 0), (.var kB 1), (.var .bool 2), (.lit 0), (.bin .add .i64 (.bin .quo .i64 (.bin .add .i64 (.bin .sub .i64 (.var kI 7) (.lit 255)) (.lit 1)) (.lit 2)) (.lit 155)), (.bin .or .u64 (.var kU 29) (.lit 1)), (.var kU 30), (.var kU 31), (.var kU 32)] 33 3
 (.leaf (.agg [(.int .u64 (.var kU 33)), (.int .u64 (.var kU 34)), (.int .u8 (.var kB 35))])))
 (.call 147 [(.var kB 0), (.var kB 1), (.var .bool 2), (.lit 0), (.bin .add .i64 (.bin .quo .i64 (.bin .add .i64 (.bin .sub .i64 (.var kI 7) (.lit 255)) (.lit 1)) (.lit 2)) (.lit 155)), (.var kU 29), (.var kU 30), (.var kU 31), (.var kU 32)] 33 3
 (.leaf (.agg [(.int .u64 (.var kU 33)), (.int .u64 (.var kU 34)), (.int .u8 (.var kB 35))]))))))))
 (.call 154 [(.var kU 14), (.var kU 15), (.var kU 16), (.var kU 17)] 18 3
 (.call 155 [(.var kU 18), (.var kU 19)] 21 4
 (.call 151 [(.var kU 21), (.var kU 22), (.var kU 23), (.var kU 24), (.lit 100)] 25 4
 (.ite (.not (.var .bool 20))
 (.call 147 [(.var kB 0), (.var kB 1), (.var .bool 2), (.lit 0), (.bin .add .i64 (.bin .quo .i64 (.bin .sub .i64 (.var kI 7) (.lit 255)) (.lit 2)) (.lit 155)), (.bin .or .u64 (.var kU 25) (.lit 1)), (.var kU 26), (.var kU 27), (.var kU 28)] 29 3
 (.leaf (.agg [(.int .u64 (.var kU 29)), (.int .u64 (.var kU 30)), (.int .u8 (.var kB 31))])))
 (.call 147 [(.var kB 0), (.var kB 1), (.var .bool 2), (.lit 0), (.bin .add .i64 (.bin .quo .i64 (.bin .sub .i64 (.var kI 7) (.lit 255)) (.lit 2)) (.lit 155)), (.var kU 25), (.var kU 26), (.var kU 27), (.var kU 28)] 29 3
 (.leaf (.agg [(.int .u64 (.var kU 29)), (.int .u64 (.var kU 30)), (.int .u8 (.var kB 31))]))))))))))))
 (.call 1000140 [(.var kB 0), (.lit 0), (.var kU 3), (.var kU 4)] 10 4
 (.ite (.var .bool 13)
 (.leaf (.agg [(.int .u64 (.var kU 10)), (.int .u64 (.var kU 11)), (.int .u8 (.var kB 12))]))
 (.call 152 [(.var kB 0), (.var .bool 5)] 14 2
 (.leaf (.agg [(.int .u64 (.var kU 14)), (.int .u64 (.var kU 15)), (.int .u8 (.lit 0))]))))))
 (.call 1000140 [(.var kB 0), (.lit 0), (.var kU 3), (.var kU 4)] 10 4
 (.ite (.var .bool 13)
 (.leaf (.agg [(.int .u64 (.var kU 10)), (.int .u64 (.var kU 11)), (.int .u8 (.var kB 12))]))
 (.ite (.bin .eql .u8 (.var kB 6) (.lit 0))
 (.call 152 [(.var kB 0), (.var .bool 5)] 14 2
 (.leaf (.agg [(.int .u64 (.var kU 14)), (.int .u64 (.var kU 15)), (.int .u8 (.lit 0))])))
 (.ite (.bin .eql .u8 (.var kB 6) (.lit 3))
 (.call 141 [(.var kB 0), (.var .bool 5)] 14 2
 (.leaf (.agg [(.int .u64 (.var kU 14)), (.int .u64 (.var kU 15)), (.int .u8 (.lit 0))])))
 (.call 150 [(.var kU 8), (.var kU 9), (.lit 0), (.lit 0)] 14 4
 (.ite (.bin .neq .i64 (.bin .rem .i64 (.bin .sub .i64 (.var kI 7) (.lit 255)) (.lit 2)) (.lit 0))
 (.call 153 [(.var kU 14), (.var kU 15), (.var kU 16), (.var kU 17), (.lit 1)] 18 4
 (.call 154 [(.var kU 18), (.var kU 19), (.var kU 20), (.var kU 21)] 22 3
 (.call 155 [(.var kU 22), (.var kU 23)] 25 4
 (.call 151 [(.var kU 25), (.var kU 26), (.var kU 27), (.var kU 28), (.lit 100)] 29 4
 (.ite (.not (.var .bool 24))
 (.call 147 [(.var kB 0), (.var kB 1), (.var .bool 2), (.lit 0), (.bin .add .i64 (.bin .quo .i64 (.bin .add .i64 (.bin .sub .i64 (.var kI 7) (.lit 255)) (.lit 1)) (.lit 2)) (.lit 155)), (.bin .or .u64 (.var kU 29) (.lit 1)), (.var kU 30), (.var kU 31), (.var kU 32)] 33 3
 (.leaf (.agg [(.int .u64 (.var kU 33)), (.int .u64 (.var kU 34)), (.int .u8 (.var kB 35))])))
 (.call 147 [(.var kB 0), (.var kB 1), (.var .bool 2), (.lit 0), (.bin .add .i64 (.bin .quo .i64 (.bin .add .i64 (.bin .sub .i64 (.var kI 7) (.lit 255)) (.lit 1)) (.lit 2)) (.lit 155)), (.var kU 29), (.var kU 30), (.var kU 31), (.var kU 32)] 33 3
 (.leaf (.agg [(.int .u64 (.var kU 33)), (.int .u64 (.var kU 34)), (.int .u8 (.var kB 35))]))))))))
 (.call 154 [(.var kU 14), (.var kU 15), (.var kU 16), (.var kU 17)] 18 3
 (.call 155 [(.var kU 18), (.var kU 19)] 21 4
 (.call 151 [(.var kU 21), (.var kU 22), (.var kU 23), (.var kU 24), (.lit 100)] 25 4
 (.ite (.not (.var .bool 20))
 (.call 147 [(.var kB 0), (.var kB 1), (.var .bool 2), (.lit 0), (.bin .add .i64 (.bin .quo .i64 (.bin .sub .i64 (.var kI 7) (.lit 255)) (.lit 2)) (.lit 155)), (.bin .or .u64 (.var kU 25) (.lit 1)), (.var kU 26), (.var kU 27), (.var kU 28)] 29 3
 (.leaf (.agg [(.int .u64 (.var kU 29)), (.int .u64 (.var kU 30)), (.int .u8 (.var kB 31))])))
 (.call 147 [(.var kB 0), (.var kB 1), (.var .bool 2), (.lit 0), (.bin .add .i64 (.bin .quo .i64 (.bin .sub .i64 (.var kI 7) (.lit 255)) (.lit 2)) (.lit 155)), (.var kU 25), (.var kU 26), (.var kU 27), (.var kU 28)] 29 3
 (.leaf (.agg [(.int .u64 (.var kU 29)), (.int .u64 (.var kU 30)), (.int .u8 (.var kB 31))])))))))))))))))))
theorem x_sqrt_Sqrt : execFH (ctxA E50 M0 S1) keyS (hookS (ctxA E50 M0 S1) 3000) 3000 88 (uns c_sqrt_Sqrt.a (varsAt 0 (kindsOf c_sqrt_Sqrt.a))) (kindsOf c_sqrt_Sqrt.a).length = t_sqrt_Sqrt := by kernel_rfl
def F_sqrt_Sqrt : List Int → List Int := treeF (phiA E50 M0 S1) c_sqrt_Sqrt t_sqrt_Sqrt
theorem e_sqrt_Sqrt : EntOK Tryz.prog gG ⟨88, c_sqrt_Sqrt, F_sqrt_Sqrt⟩ := ent_S ok_S1a 3000 3000 x_sqrt_Sqrt (by kernel_rfl)
end Go.Proofs.YtemomocmfggiaaaGreatDoor
