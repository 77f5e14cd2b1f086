import Derived.Test.YtngiodcdelfdmaaGreatDoorRE2R6
namespace Go.Proofs.YtngiodcdelfdmaaGreatDoor
set_option linter.unusedVariables false
set_option maxRecDepth 100000
open Go.RowKit
theorem ok_RL10 : SOK (ctxA C19 N10 Z8) eE := ctxC_ok C19_ok N10_ok Z8_ok (by kernel_rfl)
def c_ref21_Div : Ct := ⟨[.sc kB, .agg [kB, .bool], .agg [kU, kU], .agg [kU, kU]], [.agg [kU, kU, kB]]⟩
def t_ref21_Div : Tr' SV :=
 (.ite (.bin .gtr .u8 (.var kB 0) (.lit 3))
 (.leaf (.agg [(.int .u64 (.lit 0)), (.int .u64 (.lit 0)), (.int .u8 (.lit 0))]))
 (.ite (.bin .gtr .u8 (.var kB 1) (.lit 4))
 (.leaf (.agg [(.int .u64 (.lit 0)), (.int .u64 (.lit 0)), (.int .u8 (.lit 0))]))
 (.call 13 [(.var kB 0), (.var kU 3), (.var kU 4)] 7 2
 (.call 13 [(.var kB 0), (.var kU 5), (.var kU 6)] 9 2
 (.ite (.bin .eql .u8 (.var kB 7) (.lit 0))
 (.ite (.bin .eql .u8 (.var kB 9) (.lit 0))
 (.call 2000067 [(.var kB 0), (.lit 1), (.var kU 3), (.var kU 4), (.var kU 5), (.var kU 6)] 11 4
 (.ite (.var .bool 14)
 (.leaf (.agg [(.int .u64 (.var kU 11)), (.int .u64 (.var kU 12)), (.int .u8 (.var kB 13))]))
 (.call 78 [(.var kB 0), (.not (.beq (.var .bool 8) (.var .bool 10))), (.lit 0), (.lit 0)] 15 2
 (.leaf (.agg [(.int .u64 (.var kU 15)), (.int .u64 (.var kU 16)), (.int .u8 (.lit 0))])))))
 (.call 2000067 [(.var kB 0), (.lit 0), (.var kU 3), (.var kU 4), (.var kU 5), (.var kU 6)] 11 4
 (.ite (.var .bool 14)
 (.leaf (.agg [(.int .u64 (.var kU 11)), (.int .u64 (.var kU 12)), (.int .u8 (.var kB 13))]))
 (.ite (.bin .eql .u8 (.var kB 9) (.lit 3))
 (.call 78 [(.var kB 0), (.not (.beq (.var .bool 8) (.var .bool 10))), (.lit 0), (.lit 0)] 15 2
 (.leaf (.agg [(.int .u64 (.var kU 15)), (.int .u64 (.var kU 16)), (.int .u8 (.lit 0))])))
 (.call 78 [(.var kB 0), (.not (.beq (.var .bool 8) (.var .bool 10))), (.lit 0), (.lit 0)] 15 2
 (.leaf (.agg [(.int .u64 (.var kU 15)), (.int .u64 (.var kU 16)), (.int .u8 (.lit 0))])))))))
 (.ite (.bin .eql .u8 (.var kB 7) (.lit 3))
 (.call 2000067 [(.var kB 0), (.bin .eql .u8 (.var kB 9) (.lit 3)), (.var kU 3), (.var kU 4), (.var kU 5), (.var kU 6)] 11 4
 (.ite (.var .bool 14)
 (.leaf (.agg [(.int .u64 (.var kU 11)), (.int .u64 (.var kU 12)), (.int .u8 (.var kB 13))]))
 (.call 55 [(.var kB 0), (.not (.beq (.var .bool 8) (.var .bool 10)))] 15 2
 (.leaf (.agg [(.int .u64 (.var kU 15)), (.int .u64 (.var kU 16)), (.int .u8 (.lit 0))])))))
 (.call 2000067 [(.var kB 0), (.lit 0), (.var kU 3), (.var kU 4), (.var kU 5), (.var kU 6)] 11 4
 (.ite (.var .bool 14)
 (.leaf (.agg [(.int .u64 (.var kU 11)), (.int .u64 (.var kU 12)), (.int .u8 (.var kB 13))]))
 (.ite (.bin .eql .u8 (.var kB 9) (.lit 3))
 (.call 78 [(.var kB 0), (.not (.beq (.var .bool 8) (.var .bool 10))), (.lit 0), (.lit 0)] 15 2
 (.leaf (.agg [(.int .u64 (.var kU 15)), (.int .u64 (.var kU 16)), (.int .u8 (.lit 0))])))
 (.ite (.bin .eql .u8 (.var kB 9) (.lit 0))
 (.call 55 [(.var kB 0), (.not (.beq (.var .bool 8) (.var .bool 10)))] 15 2
 (.leaf (.agg [(.int .u64 (.var kU 15)), (.int .u64 (.var kU 16)), (.int .u8 (.lit 2))])))
 (.call 56 [(.var kB 0), (.var kU 3), (.var kU 4)] 15 3
 (.call 56 [(.var kB 0), (.var kU 5), (.var kU 6)] 18 3
 (.call 80 [(.var .nat 16), (.lit 400)] 21 1
 (.call 79 [(.var .nat 21), (.var .nat 19)] 22 2
 (.call 57 [(.var kB 0), (.var kB 1), (.var .bool 2), (.not (.beq (.var .bool 8) (.var .bool 10))), (.var .nat 22), (.bin .sub .i64 (.bin .sub .i64 (.var kI 17) (.var kI 20)) (.lit 400)), (.bin .gtr .i64 (.dlen (.var .nat 23)) (.lit 0))] 24 3
 (.leaf (.agg [(.int .u64 (.var kU 24)), (.int .u64 (.var kU 25)), (.int .u8 (.var kB 26))])))))))))))))))))
theorem x_ref21_Div : execF (ctxA C19 N10 Z8) 3000 26 (uns c_ref21_Div.a (varsAt 0 (kindsOf c_ref21_Div.a))) (kindsOf c_ref21_Div.a).length = t_ref21_Div := by kernel_rfl
def F_ref21_Div : List Int → List Int := treeF (phiA C19 N10 Z8) c_ref21_Div t_ref21_Div
theorem e_ref21_Div : EntC Tryz.prog gG ⟨26, c_ref21_Div, F_ref21_Div⟩ := entC_of ok_RL10 3000 (by kernel_rfl) x_ref21_Div (by kernel_rfl)
def c_ref22_Sqrt : Ct := ⟨[.sc kB, .agg [kB, .bool], .agg [kU, kU]], [.agg [kU, kU, kB]]⟩
def t_ref22_Sqrt : Tr' SV :=
 (.ite (.bin .gtr .u8 (.var kB 0) (.lit 3))
 (.leaf (.agg [(.int .u64 (.lit 0)), (.int .u64 (.lit 0)), (.int .u8 (.lit 0))]))
 (.ite (.bin .gtr .u8 (.var kB 1) (.lit 4))
 (.leaf (.agg [(.int .u64 (.lit 0)), (.int .u64 (.lit 0)), (.int .u8 (.lit 0))]))
 (.call 13 [(.var kB 0), (.var kU 3), (.var kU 4)] 5 2
 (.ite (.var .bool 6)
 (.ite (.bin .neq .u8 (.var kB 5) (.lit 0))
 (.call 1000067 [(.var kB 0), (.bin .lss .u8 (.var kB 5) (.lit 4)), (.var kU 3), (.var kU 4)] 7 4
 (.ite (.var .bool 10)
 (.leaf (.agg [(.int .u64 (.var kU 7)), (.int .u64 (.var kU 8)), (.int .u8 (.var kB 9))]))
 (.ite (.bin .eql .u8 (.var kB 5) (.lit 3))
 (.call 55 [(.var kB 0), (.lit 0)] 11 2
 (.leaf (.agg [(.int .u64 (.var kU 11)), (.int .u64 (.var kU 12)), (.int .u8 (.lit 0))])))
 (.call 56 [(.var kB 0), (.var kU 3), (.var kU 4)] 11 3
 (.ite (.bin .neq .i64 (.bin .rem .i64 (.bin .sub .i64 (.var kI 13) (.lit 300)) (.lit 2)) (.lit 0))
 (.call 80 [(.var .nat 12), (.lit 301)] 14 1
 (.call 86 [(.var .nat 14)] 15 1
 (.call 72 [(.var .nat 15), (.var .nat 15)] 16 1
 (.call 51 [(.var .nat 16), (.var .nat 14)] 17 1
 (.call 57 [(.var kB 0), (.var kB 1), (.var .bool 2), (.lit 0), (.var .nat 15), (.bin .quo .i64 (.bin .sub .i64 (.var kI 13) (.lit 301)) (.lit 2)), (.bin .lss .i64 (.var kI 17) (.lit 0))] 18 3
 (.leaf (.agg [(.int .u64 (.var kU 18)), (.int .u64 (.var kU 19)), (.int .u8 (.var kB 20))])))))))
 (.call 80 [(.var .nat 12), (.lit 300)] 14 1
 (.call 86 [(.var .nat 14)] 15 1
 (.call 72 [(.var .nat 15), (.var .nat 15)] 16 1
 (.call 51 [(.var .nat 16), (.var .nat 14)] 17 1
 (.call 57 [(.var kB 0), (.var kB 1), (.var .bool 2), (.lit 0), (.var .nat 15), (.bin .quo .i64 (.bin .sub .i64 (.var kI 13) (.lit 300)) (.lit 2)), (.bin .lss .i64 (.var kI 17) (.lit 0))] 18 3
 (.leaf (.agg [(.int .u64 (.var kU 18)), (.int .u64 (.var kU 19)), (.int .u8 (.var kB 20))]))))))))))))
 (.call 1000067 [(.var kB 0), (.lit 0), (.var kU 3), (.var kU 4)] 7 4
 (.ite (.var .bool 10)
 (.leaf (.agg [(.int .u64 (.var kU 7)), (.int .u64 (.var kU 8)), (.int .u8 (.var kB 9))]))
 (.call 78 [(.var kB 0), (.var .bool 6), (.lit 0), (.lit 0)] 11 2
 (.leaf (.agg [(.int .u64 (.var kU 11)), (.int .u64 (.var kU 12)), (.int .u8 (.lit 0))]))))))
 (.call 1000067 [(.var kB 0), (.lit 0), (.var kU 3), (.var kU 4)] 7 4
 (.ite (.var .bool 10)
 (.leaf (.agg [(.int .u64 (.var kU 7)), (.int .u64 (.var kU 8)), (.int .u8 (.var kB 9))]))
 (.ite (.bin .eql .u8 (.var kB 5) (.lit 0))
 (.call 78 [(.var kB 0), (.var .bool 6), (.lit 0), (.lit 0)] 11 2
 (.leaf (.agg [(.int .u64 (.var kU 11)), (.int .u64 (.var kU 12)), (.int .u8 (.lit 0))])))
 (.ite (.bin .eql .u8 (.var kB 5) (.lit 3))
 (.call 55 [(.var kB 0), (.lit 0)] 11 2
 (.leaf (.agg [(.int .u64 (.var kU 11)), (.int .u64 (.var kU 12)), (.int .u8 (.lit 0))])))
 (.call 56 [(.var kB 0), (.var kU 3), (.var kU 4)] 11 3
 (.ite (.bin .neq .i64 (.bin .rem .i64 (.bin .sub .i64 (.var kI 13) (.lit 300)) (.lit 2)) (.lit 0))
 (.call 80 [(.var .nat 12), (.lit 301)] 14 1
 (.call 86 [(.var .nat 14)] 15 1
 (.call 72 [(.var .nat 15), (.var .nat 15)] 16 1
 (.call 51 [(.var .nat 16), (.var .nat 14)] 17 1
 (.call 57 [(.var kB 0), (.var kB 1), (.var .bool 2), (.lit 0), (.var .nat 15), (.bin .quo .i64 (.bin .sub .i64 (.var kI 13) (.lit 301)) (.lit 2)), (.bin .lss .i64 (.var kI 17) (.lit 0))] 18 3
 (.leaf (.agg [(.int .u64 (.var kU 18)), (.int .u64 (.var kU 19)), (.int .u8 (.var kB 20))])))))))
 (.call 80 [(.var .nat 12), (.lit 300)] 14 1
 (.call 86 [(.var .nat 14)] 15 1
 (.call 72 [(.var .nat 15), (.var .nat 15)] 16 1
 (.call 51 [(.var .nat 16), (.var .nat 14)] 17 1
 (.call 57 [(.var kB 0), (.var kB 1), (.var .bool 2), (.lit 0), (.var .nat 15), (.bin .quo .i64 (.bin .sub .i64 (.var kI 13) (.lit 300)) (.lit 2)), (.bin .lss .i64 (.var kI 17) (.lit 0))] 18 3
 (.leaf (.agg [(.int .u64 (.var kU 18)), (.int .u64 (.var kU 19)), (.int .u8 (.var kB 20))])))))))))))))))))
theorem x_ref22_Sqrt : execF (ctxA C19 N10 Z8) 3000 29 (uns c_ref22_Sqrt.a (varsAt 0 (kindsOf c_ref22_Sqrt.a))) (kindsOf c_ref22_Sqrt.a).length = t_ref22_Sqrt := by kernel_rfl
def F_ref22_Sqrt : List Int → List Int := treeF (phiA C19 N10 Z8) c_ref22_Sqrt t_ref22_Sqrt
theorem e_ref22_Sqrt : EntC Tryz.prog gG ⟨29, c_ref22_Sqrt, F_ref22_Sqrt⟩ := entC_of ok_RL10 3000 (by kernel_rfl) x_ref22_Sqrt (by kernel_rfl)
def c_ref23_Rem : Ct := ⟨[.sc kB, .agg [kU, kU], .agg [kU, kU]], [.agg [kU, kU, kB]]⟩
def t_ref23_Rem : Tr' SV :=
 (.ite (.bin .gtr .u8 (.var kB 0) (.lit 3))
 (.leaf (.agg [(.int .u64 (.lit 0)), (.int .u64 (.lit 0)), (.int .u8 (.lit 0))]))
 (.call 13 [(.var kB 0), (.var kU 1), (.var kU 2)] 5 2
 (.call 13 [(.var kB 0), (.var kU 3), (.var kU 4)] 7 2
 (.ite (.bin .geq .u8 (.var kB 5) (.lit 4))
 (.call 2000067 [(.var kB 0), (.lit 0), (.var kU 1), (.var kU 2), (.var kU 3), (.var kU 4)] 9 4
 (.ite (.var .bool 12)
 (.leaf (.agg [(.int .u64 (.var kU 9)), (.int .u64 (.var kU 10)), (.int .u8 (.var kB 11))]))
 (.ite (.bin .eql .u8 (.var kB 7) (.lit 3))
 (.call 98 [(.var kB 0), (.var kU 1), (.var kU 2)] 13 4
 (.call 57 [(.var kB 0), (.lit 0), (.lit 0), (.var .bool 13), (.var .nat 14), (.var kI 15), (.var .bool 16)] 17 3
 (.leaf (.agg [(.int .u64 (.var kU 17)), (.int .u64 (.var kU 18)), (.int .u8 (.var kB 19))]))))
 (.call 56 [(.var kB 0), (.var kU 1), (.var kU 2)] 13 3
 (.call 56 [(.var kB 0), (.var kU 3), (.var kU 4)] 16 3
 (.call 80 [(.var .nat 14), (.bin .sub .i64 (.var kI 15) (.min (.var kI 15) (.var kI 18)))] 19 1
 (.call 80 [(.var .nat 17), (.bin .sub .i64 (.var kI 18) (.min (.var kI 15) (.var kI 18)))] 20 1
 (.call 79 [(.var .nat 19), (.var .nat 20)] 21 2
 (.call 80 [(.var .nat 22), (.lit 1)] 23 1
 (.call 51 [(.var .nat 23), (.var .nat 20)] 24 1
 (.ite (.bin .gtr .i64 (.var kI 24) (.lit 0))
 (.call 100 [(.var .nat 20), (.var .nat 22)] 25 1
 (.call 57 [(.var kB 0), (.lit 0), (.lit 0), (.not (.var .bool 6)), (.var .nat 25), (.min (.var kI 15) (.var kI 18)), (.lit 0)] 26 3
 (.leaf (.agg [(.int .u64 (.var kU 26)), (.int .u64 (.var kU 27)), (.int .u8 (.var kB 28))]))))
 (.ite (.bin .eql .i64 (.var kI 24) (.lit 0))
 (.call 99 [(.var .nat 21), (.lit 0)] 25 1
 (.ite (.var .bool 25)
 (.call 100 [(.var .nat 20), (.var .nat 22)] 26 1
 (.call 57 [(.var kB 0), (.lit 0), (.lit 0), (.not (.var .bool 6)), (.var .nat 26), (.min (.var kI 15) (.var kI 18)), (.lit 0)] 27 3
 (.leaf (.agg [(.int .u64 (.var kU 27)), (.int .u64 (.var kU 28)), (.int .u8 (.var kB 29))]))))
 (.call 57 [(.var kB 0), (.lit 0), (.lit 0), (.var .bool 6), (.var .nat 22), (.min (.var kI 15) (.var kI 18)), (.lit 0)] 26 3
 (.leaf (.agg [(.int .u64 (.var kU 26)), (.int .u64 (.var kU 27)), (.int .u8 (.var kB 28))])))))
 (.call 57 [(.var kB 0), (.lit 0), (.lit 0), (.var .bool 6), (.var .nat 22), (.min (.var kI 15) (.var kI 18)), (.lit 0)] 25 3
 (.leaf (.agg [(.int .u64 (.var kU 25)), (.int .u64 (.var kU 26)), (.int .u8 (.var kB 27))])))))))))))))))
 (.ite (.not (.bin .geq .u8 (.var kB 7) (.lit 4)))
 (.ite (.bin .eql .u8 (.var kB 5) (.lit 3))
 (.call 2000067 [(.var kB 0), (.lit 1), (.var kU 1), (.var kU 2), (.var kU 3), (.var kU 4)] 9 4
 (.ite (.var .bool 12)
 (.leaf (.agg [(.int .u64 (.var kU 9)), (.int .u64 (.var kU 10)), (.int .u8 (.var kB 11))]))
 (.ite (.bin .eql .u8 (.var kB 7) (.lit 3))
 (.call 98 [(.var kB 0), (.var kU 1), (.var kU 2)] 13 4
 (.call 57 [(.var kB 0), (.lit 0), (.lit 0), (.var .bool 13), (.var .nat 14), (.var kI 15), (.var .bool 16)] 17 3
 (.leaf (.agg [(.int .u64 (.var kU 17)), (.int .u64 (.var kU 18)), (.int .u8 (.var kB 19))]))))
 (.call 56 [(.var kB 0), (.var kU 1), (.var kU 2)] 13 3
 (.call 56 [(.var kB 0), (.var kU 3), (.var kU 4)] 16 3
 (.call 80 [(.var .nat 14), (.bin .sub .i64 (.var kI 15) (.min (.var kI 15) (.var kI 18)))] 19 1
 (.call 80 [(.var .nat 17), (.bin .sub .i64 (.var kI 18) (.min (.var kI 15) (.var kI 18)))] 20 1
 (.call 79 [(.var .nat 19), (.var .nat 20)] 21 2
 (.call 80 [(.var .nat 22), (.lit 1)] 23 1
 (.call 51 [(.var .nat 23), (.var .nat 20)] 24 1
 (.ite (.bin .gtr .i64 (.var kI 24) (.lit 0))
 (.call 100 [(.var .nat 20), (.var .nat 22)] 25 1
 (.call 57 [(.var kB 0), (.lit 0), (.lit 0), (.not (.var .bool 6)), (.var .nat 25), (.min (.var kI 15) (.var kI 18)), (.lit 0)] 26 3
 (.leaf (.agg [(.int .u64 (.var kU 26)), (.int .u64 (.var kU 27)), (.int .u8 (.var kB 28))]))))
 (.ite (.bin .eql .i64 (.var kI 24) (.lit 0))
 (.call 99 [(.var .nat 21), (.lit 0)] 25 1
 (.ite (.var .bool 25)
 (.call 100 [(.var .nat 20), (.var .nat 22)] 26 1
 (.call 57 [(.var kB 0), (.lit 0), (.lit 0), (.not (.var .bool 6)), (.var .nat 26), (.min (.var kI 15) (.var kI 18)), (.lit 0)] 27 3
 (.leaf (.agg [(.int .u64 (.var kU 27)), (.int .u64 (.var kU 28)), (.int .u8 (.var kB 29))]))))
 (.call 57 [(.var kB 0), (.lit 0), (.lit 0), (.var .bool 6), (.var .nat 22), (.min (.var kI 15) (.var kI 18)), (.lit 0)] 26 3
 (.leaf (.agg [(.int .u64 (.var kU 26)), (.int .u64 (.var kU 27)), (.int .u8 (.var kB 28))])))))
 (.call 57 [(.var kB 0), (.lit 0), (.lit 0), (.var .bool 6), (.var .nat 22), (.min (.var kI 15) (.var kI 18)), (.lit 0)] 25 3
 (.leaf (.agg [(.int .u64 (.var kU 25)), (.int .u64 (.var kU 26)), (.int .u8 (.var kB 27))])))))))))))))))
 (.call 2000067 [(.var kB 0), (.bin .eql .u8 (.var kB 7) (.lit 0)), (.var kU 1), (.var kU 2), (.var kU 3), (.var kU 4)] 9 4
 (.ite (.var .bool 12)
 (.leaf (.agg [(.int .u64 (.var kU 9)), (.int .u64 (.var kU 10)), (.int .u8 (.var kB 11))]))
 (.ite (.bin .eql .u8 (.var kB 7) (.lit 3))
 (.call 98 [(.var kB 0), (.var kU 1), (.var kU 2)] 13 4
 (.call 57 [(.var kB 0), (.lit 0), (.lit 0), (.var .bool 13), (.var .nat 14), (.var kI 15), (.var .bool 16)] 17 3
 (.leaf (.agg [(.int .u64 (.var kU 17)), (.int .u64 (.var kU 18)), (.int .u8 (.var kB 19))]))))
 (.call 56 [(.var kB 0), (.var kU 1), (.var kU 2)] 13 3
 (.call 56 [(.var kB 0), (.var kU 3), (.var kU 4)] 16 3
 (.call 80 [(.var .nat 14), (.bin .sub .i64 (.var kI 15) (.min (.var kI 15) (.var kI 18)))] 19 1
 (.call 80 [(.var .nat 17), (.bin .sub .i64 (.var kI 18) (.min (.var kI 15) (.var kI 18)))] 20 1
 (.call 79 [(.var .nat 19), (.var .nat 20)] 21 2
 (.call 80 [(.var .nat 22), (.lit 1)] 23 1
 (.call 51 [(.var .nat 23), (.var .nat 20)] 24 1
 (.ite (.bin .gtr .i64 (.var kI 24) (.lit 0))
 (.call 100 [(.var .nat 20), (.var .nat 22)] 25 1
 (.call 57 [(.var kB 0), (.lit 0), (.lit 0), (.not (.var .bool 6)), (.var .nat 25), (.min (.var kI 15) (.var kI 18)), (.lit 0)] 26 3
 (.leaf (.agg [(.int .u64 (.var kU 26)), (.int .u64 (.var kU 27)), (.int .u8 (.var kB 28))]))))
 (.ite (.bin .eql .i64 (.var kI 24) (.lit 0))
 (.call 99 [(.var .nat 21), (.lit 0)] 25 1
 (.ite (.var .bool 25)
 (.call 100 [(.var .nat 20), (.var .nat 22)] 26 1
 (.call 57 [(.var kB 0), (.lit 0), (.lit 0), (.not (.var .bool 6)), (.var .nat 26), (.min (.var kI 15) (.var kI 18)), (.lit 0)] 27 3
 (.leaf (.agg [(.int .u64 (.var kU 27)), (.int .u64 (.var kU 28)), (.int .u8 (.var kB 29))]))))
 (.call 57 [(.var kB 0), (.lit 0), (.lit 0), (.var .bool 6), (.var .nat 22), (.min (.var kI 15) (.var kI 18)), (.lit 0)] 26 3
 (.leaf (.agg [(.int .u64 (.var kU 26)), (.int .u64 (.var kU 27)), (.int .u8 (.var kB 28))])))))
 (.call 57 [(.var kB 0), (.lit 0), (.lit 0), (.var .bool 6), (.var .nat 22), (.min (.var kI 15) (.var kI 18)), (.lit 0)] 25 3
 (.leaf (.agg [(.int .u64 (.var kU 25)), (.int .u64 (.var kU 26)), (.int .u8 (.var kB 27))]))))))))))))))))
 (.call 2000067 [(.var kB 0), (.lit 0), (.var kU 1), (.var kU 2), (.var kU 3), (.var kU 4)] 9 4
 (.ite (.var .bool 12)
 (.leaf (.agg [(.int .u64 (.var kU 9)), (.int .u64 (.var kU 10)), (.int .u8 (.var kB 11))]))
 (.call 56 [(.var kB 0), (.var kU 1), (.var kU 2)] 13 3
 (.call 56 [(.var kB 0), (.var kU 3), (.var kU 4)] 16 3
 (.call 80 [(.var .nat 14), (.bin .sub .i64 (.var kI 15) (.min (.var kI 15) (.var kI 18)))] 19 1
 (.call 80 [(.var .nat 17), (.bin .sub .i64 (.var kI 18) (.min (.var kI 15) (.var kI 18)))] 20 1
 (.call 79 [(.var .nat 19), (.var .nat 20)] 21 2
 (.call 80 [(.var .nat 22), (.lit 1)] 23 1
 (.call 51 [(.var .nat 23), (.var .nat 20)] 24 1
 (.ite (.bin .gtr .i64 (.var kI 24) (.lit 0))
 (.call 100 [(.var .nat 20), (.var .nat 22)] 25 1
 (.call 57 [(.var kB 0), (.lit 0), (.lit 0), (.not (.var .bool 6)), (.var .nat 25), (.min (.var kI 15) (.var kI 18)), (.lit 0)] 26 3
 (.leaf (.agg [(.int .u64 (.var kU 26)), (.int .u64 (.var kU 27)), (.int .u8 (.var kB 28))]))))
 (.ite (.bin .eql .i64 (.var kI 24) (.lit 0))
 (.call 99 [(.var .nat 21), (.lit 0)] 25 1
 (.ite (.var .bool 25)
 (.call 100 [(.var .nat 20), (.var .nat 22)] 26 1
 (.call 57 [(.var kB 0), (.lit 0), (.lit 0), (.not (.var .bool 6)), (.var .nat 26), (.min (.var kI 15) (.var kI 18)), (.lit 0)] 27 3
 (.leaf (.agg [(.int .u64 (.var kU 27)), (.int .u64 (.var kU 28)), (.int .u8 (.var kB 29))]))))
 (.call 57 [(.var kB 0), (.lit 0), (.lit 0), (.var .bool 6), (.var .nat 22), (.min (.var kI 15) (.var kI 18)), (.lit 0)] 26 3
 (.leaf (.agg [(.int .u64 (.var kU 26)), (.int .u64 (.var kU 27)), (.int .u8 (.var kB 28))])))))
 (.call 57 [(.var kB 0), (.lit 0), (.lit 0), (.var .bool 6), (.var .nat 22), (.min (.var kI 15) (.var kI 18)), (.lit 0)] 25 3
 (.leaf (.agg [(.int .u64 (.var kU 25)), (.int .u64 (.var kU 26)), (.int .u8 (.var kB 27))])))))))))))))))))))
theorem x_ref23_Rem : execF (ctxA C19 N10 Z8) 3000 34 (uns c_ref23_Rem.a (varsAt 0 (kindsOf c_ref23_Rem.a))) (kindsOf c_ref23_Rem.a).length = t_ref23_Rem := by kernel_rfl
def F_ref23_Rem : List Int → List Int := treeF (phiA C19 N10 Z8) c_ref23_Rem t_ref23_Rem
theorem e_ref23_Rem : EntC Tryz.prog gG ⟨34, c_ref23_Rem, F_ref23_Rem⟩ := entC_of ok_RL10 3000 (by kernel_rfl) x_ref23_Rem (by kernel_rfl)
def C20 : List Ent := ⟨26, c_ref21_Div, F_ref21_Div⟩ :: ⟨29, c_ref22_Sqrt, F_ref22_Sqrt⟩ :: ⟨34, c_ref23_Rem, F_ref23_Rem⟩ :: C19
theorem C20_ok : ∀ e ∈ C20, EntC Tryz.prog gG e := List.forall_mem_cons.2 ⟨e_ref21_Div, List.forall_mem_cons.2 ⟨e_ref22_Sqrt, List.forall_mem_cons.2 ⟨e_ref23_Rem, C19_ok⟩⟩⟩
theorem ph_RL10_ref08_Of : phiA C19 N10 Z8 13 = F_ref08_Of := phiA_L (e := ⟨13, _, F_ref08_Of⟩) rfl rfl rfl
theorem ph_RL10_ref07_Make : phiA C19 N10 Z8 78 = F_ref07_Make := phiA_M (e := ⟨78, _, F_ref07_Make⟩) rfl rfl
theorem ph_RL10_ref07_Inf : phiA C19 N10 Z8 55 = F_ref07_Inf := phiA_L (e := ⟨55, _, F_ref07_Inf⟩) rfl rfl rfl
theorem ph_RL10_ref09_Of : phiA C19 N10 Z8 56 = F_ref09_Of := phiA_M (e := ⟨56, _, F_ref09_Of⟩) rfl rfl
theorem ph_RL10_ref01_Shl : phiA C19 N10 Z8 80 = fShl := phiA_M (e := ⟨80, _, fShl⟩) rfl rfl
theorem ph_RL10_ref16_Round : phiA C19 N10 Z8 57 = F_ref16_Round := phiA_M (e := ⟨57, _, F_ref16_Round⟩) rfl rfl
theorem ph_RL10_ref10_Pick_1 : phiA C19 N10 Z8 1000067 = F_ref10_Pick_1 := phiA_S (e := ⟨67, _, F_ref10_Pick_1⟩) rfl
theorem ph_RL10_ref01_Root : phiA C19 N10 Z8 86 = fRootN := phiA_M (e := ⟨86, _, fRootN⟩) rfl rfl
theorem ph_RL10_ref01_Mul : phiA C19 N10 Z8 72 = fMul := phiA_M (e := ⟨72, _, fMul⟩) rfl rfl
theorem ph_RL10_ref01_Cmp : phiA C19 N10 Z8 51 = fCmp := phiA_M (e := ⟨51, _, fCmp⟩) rfl rfl
end Go.Proofs.YtngiodcdelfdmaaGreatDoor
