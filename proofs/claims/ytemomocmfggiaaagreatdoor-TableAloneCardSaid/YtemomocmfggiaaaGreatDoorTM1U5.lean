import Derived.Test.YtemomocmfggiaaaGreatDoorTB0U5
namespace Go.Proofs.YtemomocmfggiaaaGreatDoor
set_option linter.unusedVariables false
set_option maxRecDepth 100000
open Go.RowKit
theorem ok_TM1 : SOK (ctxA TA NZ ZZ) eE := ctxC_ok TA_ok NZ_ok ZZ_ok (by kernel_rfl)
def c_fromint_From : Ct := ⟨[.sc kB, .sc kB, .agg [kB, .bool], .sc kU], [.agg [kU, kU, kB]]⟩
def t_fromint_From : Tr' SV :=
 (.ite (.not (.bin .lss .i64 (.var kB 0) (.lit 4)))
 (.leaf (.agg [(.int .u64 (.lit 0)), (.int .u64 (.lit 0)), (.int .u8 (.lit 0))]))
 (.ite (.not (.bin .lss .i64 (.var kB 1) (.lit 4)))
 (.leaf (.agg [(.int .u64 (.lit 0)), (.int .u64 (.lit 0)), (.int .u8 (.lit 0))]))
 (.ite (.not (.bin .leq .u8 (.var kB 2) (.lit 4)))
 (.leaf (.agg [(.int .u64 (.lit 0)), (.int .u64 (.lit 0)), (.int .u8 (.lit 0))]))
 (.ite (.bin .eql .u8 (.var kB 0) (.lit 0))
 (.ite (.bin .eql .u64 (.bin .shr .u64 (.conv .u64 (.conv .i64 (.conv .i32 (.var kU 4)))) (.lit 63)) (.lit 1))
 (.call 147 [(.var kB 1), (.var kB 2), (.var .bool 3), (.bin .eql .u64 (.bin .shr .u64 (.conv .u64 (.conv .i64 (.conv .i32 (.var kU 4)))) (.lit 63)) (.lit 1)), (.lit 255), (.bin .sub .u64 (.lit 0) (.conv .u64 (.conv .i64 (.conv .i32 (.var kU 4))))), (.lit 0), (.lit 0), (.lit 0)] 5 3
 (.leaf (.agg [(.int .u64 (.var kU 5)), (.int .u64 (.var kU 6)), (.int .u8 (.var kB 7))])))
 (.call 147 [(.var kB 1), (.var kB 2), (.var .bool 3), (.bin .eql .u64 (.bin .shr .u64 (.conv .u64 (.conv .i64 (.conv .i32 (.var kU 4)))) (.lit 63)) (.lit 1)), (.lit 255), (.conv .u64 (.conv .i64 (.conv .i32 (.var kU 4)))), (.lit 0), (.lit 0), (.lit 0)] 5 3
 (.leaf (.agg [(.int .u64 (.var kU 5)), (.int .u64 (.var kU 6)), (.int .u8 (.var kB 7))]))))
 (.ite (.bin .eql .u8 (.var kB 0) (.lit 1))
 (.call 147 [(.var kB 1), (.var kB 2), (.var .bool 3), (.lit 0), (.lit 255), (.conv .u64 (.conv .u32 (.var kU 4))), (.lit 0), (.lit 0), (.lit 0)] 5 3
 (.leaf (.agg [(.int .u64 (.var kU 5)), (.int .u64 (.var kU 6)), (.int .u8 (.var kB 7))])))
 (.ite (.bin .eql .u8 (.var kB 0) (.lit 2))
 (.ite (.bin .eql .u64 (.bin .shr .u64 (.var kU 4) (.lit 63)) (.lit 1))
 (.call 147 [(.var kB 1), (.var kB 2), (.var .bool 3), (.bin .eql .u64 (.bin .shr .u64 (.var kU 4) (.lit 63)) (.lit 1)), (.lit 255), (.bin .sub .u64 (.lit 0) (.var kU 4)), (.lit 0), (.lit 0), (.lit 0)] 5 3
 (.leaf (.agg [(.int .u64 (.var kU 5)), (.int .u64 (.var kU 6)), (.int .u8 (.var kB 7))])))
 (.call 147 [(.var kB 1), (.var kB 2), (.var .bool 3), (.bin .eql .u64 (.bin .shr .u64 (.var kU 4) (.lit 63)) (.lit 1)), (.lit 255), (.var kU 4), (.lit 0), (.lit 0), (.lit 0)] 5 3
 (.leaf (.agg [(.int .u64 (.var kU 5)), (.int .u64 (.var kU 6)), (.int .u8 (.var kB 7))]))))
 (.call 147 [(.var kB 1), (.var kB 2), (.var .bool 3), (.lit 0), (.lit 255), (.var kU 4), (.lit 0), (.lit 0), (.lit 0)] 5 3
 (.leaf (.agg [(.int .u64 (.var kU 5)), (.int .u64 (.var kU 6)), (.int .u8 (.var kB 7))])))))))))
theorem x_fromint_From : execMF (ctxA TA NZ ZZ) mE 3000 103 (uns c_fromint_From.a (varsAt 0 (kindsOf c_fromint_From.a))) (kindsOf c_fromint_From.a).length = t_fromint_From := by kernel_rfl
def F_fromint_From : List Int → List Int := treeF (phiA TA NZ ZZ) c_fromint_From t_fromint_From
theorem e_fromint_From : EntC Tryz.prog gG ⟨103, c_fromint_From, F_fromint_From⟩ := entM_of ok_TM1 mE_ok 3000 (by kernel_rfl) x_fromint_From (by kernel_rfl)
def c_fromint_Has : Ct := ⟨[.sc kB, .sc kU], [.sc .bool]⟩
def t_fromint_Has : Tr' SV :=
 (.ite (.bin .eql .u8 (.var kB 0) (.lit 0))
 (.leaf (.bool (.bin .eql .u64 (.conv .u64 (.conv .i64 (.conv .i32 (.var kU 1)))) (.var kU 1))))
 (.ite (.bin .eql .u8 (.var kB 0) (.lit 1))
 (.leaf (.bool (.bin .eql .u64 (.conv .u64 (.conv .u32 (.var kU 1))) (.var kU 1))))
 (.ite (.bin .eql .u8 (.var kB 0) (.lit 2))
 (.leaf (.bool (.bin .eql .u64 (.var kU 1) (.var kU 1))))
 (.ite (.bin .eql .u8 (.var kB 0) (.lit 3))
 (.leaf (.bool (.bin .eql .u64 (.var kU 1) (.var kU 1))))
 (.leaf (.bool (.lit 0)))))))
theorem x_fromint_Has : execMF (ctxA TA NZ ZZ) mE 3000 47 (uns c_fromint_Has.a (varsAt 0 (kindsOf c_fromint_Has.a))) (kindsOf c_fromint_Has.a).length = t_fromint_Has := by kernel_rfl
def F_fromint_Has : List Int → List Int := treeF (phiA TA NZ ZZ) c_fromint_Has t_fromint_Has
theorem e_fromint_Has : EntC Tryz.prog gG ⟨47, c_fromint_Has, F_fromint_Has⟩ := entM_of ok_TM1 mE_ok 3000 (by kernel_rfl) x_fromint_Has (by kernel_rfl)
def c_toint_Int : Ct := ⟨[.sc kB, .sc kB, .sc kB, .agg [kU, kU]], [.agg [kU, kB]]⟩
def t_toint_Int : Tr' SV :=
 (.ite (.not (.bin .lss .i64 (.var kB 0) (.lit 4)))
 (.leaf (.agg [(.int .u64 (.lit 0)), (.int .u8 (.lit 0))]))
 (.ite (.not (.bin .lss .i64 (.var kB 1) (.lit 4)))
 (.leaf (.agg [(.int .u64 (.lit 0)), (.int .u8 (.lit 0))]))
 (.ite (.not (.bin .leq .u8 (.var kB 2) (.lit 4)))
 (.leaf (.agg [(.int .u64 (.lit 0)), (.int .u8 (.lit 0))]))
 (.call 139 [(.var kB 0), (.var kU 3), (.var kU 4)] 5 5
 (.ite (.bin .geq .u8 (.var kB 6) (.lit 4))
 (.leaf (.agg [(.int .u64 (.lit 0)), (.int .u8 (.lit 1))]))
 (.ite (.var .bool 5)
 (.call 150 [(.var kU 8), (.var kU 9), (.lit 0), (.lit 0)] 10 4
 (.ite (.bin .eql .u8 (.var kB 6) (.lit 3))
 (.leaf (.agg [(.int .u64 (.bin .sub .u64 (.lit 0) (.ite (.bin .eql .i64 (.var kB 1) (.lit 0)) (.lit 2147483648) (.ite (.bin .eql .i64 (.var kB 1) (.lit 1)) (.lit 0) (.ite (.bin .eql .i64 (.var kB 1) (.lit 2)) (.lit 9223372036854775808) (.lit 0)))))), (.int .u8 (.lit 1))]))
 (.ite (.bin .gtr .i64 (.var kI 7) (.lit 64))
 (.leaf (.agg [(.int .u64 (.bin .sub .u64 (.lit 0) (.ite (.bin .eql .i64 (.var kB 1) (.lit 0)) (.lit 2147483648) (.ite (.bin .eql .i64 (.var kB 1) (.lit 1)) (.lit 0) (.ite (.bin .eql .i64 (.var kB 1) (.lit 2)) (.lit 9223372036854775808) (.lit 0)))))), (.int .u8 (.lit 1))]))
 (.ite (.bin .lss .i64 (.var kI 7) (.lit 0))
 (.call 214 [(.var kU 10), (.var kU 11), (.var kU 12), (.var kU 13), (.bin .sub .i64 (.bin .sub .i64 (.lit 0) (.var kI 7)) (.lit 1))] 14 4
 (.call 210 [(.var kU 14), (.var kU 15), (.var kU 16), (.var kU 17), (.lit 0), (.var kB 2), (.var .bool 5)] 18 3
 (.call 159 [(.var kU 18), (.var kU 19), (.lit 0), (.ite (.bin .eql .i64 (.var kB 1) (.lit 0)) (.lit 2147483648) (.ite (.bin .eql .i64 (.var kB 1) (.lit 1)) (.lit 0) (.ite (.bin .eql .i64 (.var kB 1) (.lit 2)) (.lit 9223372036854775808) (.lit 0))))] 21 1
 (.ite (.bin .gtr .i64 (.var kI 21) (.lit 0))
 (.leaf (.agg [(.int .u64 (.bin .sub .u64 (.lit 0) (.ite (.bin .eql .i64 (.var kB 1) (.lit 0)) (.lit 2147483648) (.ite (.bin .eql .i64 (.var kB 1) (.lit 1)) (.lit 0) (.ite (.bin .eql .i64 (.var kB 1) (.lit 2)) (.lit 9223372036854775808) (.lit 0)))))), (.int .u8 (.lit 1))]))
 (.ite (.var .bool 20)
 (.leaf (.agg [(.int .u64 (.bin .sub .u64 (.lit 0) (.var kU 19))), (.int .u8 (.lit 16))]))
 (.leaf (.agg [(.int .u64 (.bin .sub .u64 (.lit 0) (.var kU 19))), (.int .u8 (.lit 0))])))))))
 (.call 210 [(.var kU 10), (.var kU 11), (.var kU 12), (.var kU 13), (.bin .add .i64 (.var kI 7) (.lit 1)), (.var kB 2), (.var .bool 5)] 14 3
 (.call 159 [(.var kU 14), (.var kU 15), (.lit 0), (.ite (.bin .eql .i64 (.var kB 1) (.lit 0)) (.lit 2147483648) (.ite (.bin .eql .i64 (.var kB 1) (.lit 1)) (.lit 0) (.ite (.bin .eql .i64 (.var kB 1) (.lit 2)) (.lit 9223372036854775808) (.lit 0))))] 17 1
 (.ite (.bin .gtr .i64 (.var kI 17) (.lit 0))
 (.leaf (.agg [(.int .u64 (.bin .sub .u64 (.lit 0) (.ite (.bin .eql .i64 (.var kB 1) (.lit 0)) (.lit 2147483648) (.ite (.bin .eql .i64 (.var kB 1) (.lit 1)) (.lit 0) (.ite (.bin .eql .i64 (.var kB 1) (.lit 2)) (.lit 9223372036854775808) (.lit 0)))))), (.int .u8 (.lit 1))]))
 (.ite (.var .bool 16)
 (.leaf (.agg [(.int .u64 (.bin .sub .u64 (.lit 0) (.var kU 15))), (.int .u8 (.lit 16))]))
 (.leaf (.agg [(.int .u64 (.bin .sub .u64 (.lit 0) (.var kU 15))), (.int .u8 (.lit 0))]))))))))))
 (.call 150 [(.var kU 8), (.var kU 9), (.lit 0), (.lit 0)] 10 4
 (.ite (.bin .eql .u8 (.var kB 6) (.lit 3))
 (.leaf (.agg [(.int .u64 (.ite (.bin .eql .i64 (.var kB 1) (.lit 0)) (.lit 2147483647) (.ite (.bin .eql .i64 (.var kB 1) (.lit 1)) (.lit 4294967295) (.ite (.bin .eql .i64 (.var kB 1) (.lit 2)) (.lit 9223372036854775807) (.lit 18446744073709551615))))), (.int .u8 (.lit 1))]))
 (.ite (.bin .gtr .i64 (.var kI 7) (.lit 64))
 (.leaf (.agg [(.int .u64 (.ite (.bin .eql .i64 (.var kB 1) (.lit 0)) (.lit 2147483647) (.ite (.bin .eql .i64 (.var kB 1) (.lit 1)) (.lit 4294967295) (.ite (.bin .eql .i64 (.var kB 1) (.lit 2)) (.lit 9223372036854775807) (.lit 18446744073709551615))))), (.int .u8 (.lit 1))]))
 (.ite (.bin .lss .i64 (.var kI 7) (.lit 0))
 (.call 214 [(.var kU 10), (.var kU 11), (.var kU 12), (.var kU 13), (.bin .sub .i64 (.bin .sub .i64 (.lit 0) (.var kI 7)) (.lit 1))] 14 4
 (.call 210 [(.var kU 14), (.var kU 15), (.var kU 16), (.var kU 17), (.lit 0), (.var kB 2), (.var .bool 5)] 18 3
 (.call 159 [(.var kU 18), (.var kU 19), (.lit 0), (.ite (.bin .eql .i64 (.var kB 1) (.lit 0)) (.lit 2147483647) (.ite (.bin .eql .i64 (.var kB 1) (.lit 1)) (.lit 4294967295) (.ite (.bin .eql .i64 (.var kB 1) (.lit 2)) (.lit 9223372036854775807) (.lit 18446744073709551615))))] 21 1
 (.ite (.bin .gtr .i64 (.var kI 21) (.lit 0))
 (.leaf (.agg [(.int .u64 (.ite (.bin .eql .i64 (.var kB 1) (.lit 0)) (.lit 2147483647) (.ite (.bin .eql .i64 (.var kB 1) (.lit 1)) (.lit 4294967295) (.ite (.bin .eql .i64 (.var kB 1) (.lit 2)) (.lit 9223372036854775807) (.lit 18446744073709551615))))), (.int .u8 (.lit 1))]))
 (.ite (.var .bool 20)
 (.leaf (.agg [(.int .u64 (.var kU 19)), (.int .u8 (.lit 16))]))
 (.leaf (.agg [(.int .u64 (.var kU 19)), (.int .u8 (.lit 0))])))))))
 (.call 210 [(.var kU 10), (.var kU 11), (.var kU 12), (.var kU 13), (.bin .add .i64 (.var kI 7) (.lit 1)), (.var kB 2), (.var .bool 5)] 14 3
 (.call 159 [(.var kU 14), (.var kU 15), (.lit 0), (.ite (.bin .eql .i64 (.var kB 1) (.lit 0)) (.lit 2147483647) (.ite (.bin .eql .i64 (.var kB 1) (.lit 1)) (.lit 4294967295) (.ite (.bin .eql .i64 (.var kB 1) (.lit 2)) (.lit 9223372036854775807) (.lit 18446744073709551615))))] 17 1
 (.ite (.bin .gtr .i64 (.var kI 17) (.lit 0))
 (.leaf (.agg [(.int .u64 (.ite (.bin .eql .i64 (.var kB 1) (.lit 0)) (.lit 2147483647) (.ite (.bin .eql .i64 (.var kB 1) (.lit 1)) (.lit 4294967295) (.ite (.bin .eql .i64 (.var kB 1) (.lit 2)) (.lit 9223372036854775807) (.lit 18446744073709551615))))), (.int .u8 (.lit 1))]))
 (.ite (.var .bool 16)
 (.leaf (.agg [(.int .u64 (.var kU 15)), (.int .u8 (.lit 16))]))
 (.leaf (.agg [(.int .u64 (.var kU 15)), (.int .u8 (.lit 0))]))))))))))))))))
theorem x_toint_Int : execMF (ctxA TA NZ ZZ) mE 3000 101 (uns c_toint_Int.a (varsAt 0 (kindsOf c_toint_Int.a))) (kindsOf c_toint_Int.a).length = t_toint_Int := by kernel_rfl
def F_toint_Int : List Int → List Int := treeF (phiA TA NZ ZZ) c_toint_Int t_toint_Int
theorem e_toint_Int : EntC Tryz.prog gG ⟨101, c_toint_Int, F_toint_Int⟩ := entM_of ok_TM1 mE_ok 3000 (by kernel_rfl) x_toint_Int (by kernel_rfl)
def c_rint_Rint : Ct := ⟨[.sc kB, .sc kB, .sc .bool, .agg [kU, kU]], [.agg [kU, kU, kB]]⟩
def t_rint_Rint : Tr' SV :=
 (.ite (.not (.bin .lss .i64 (.var kB 0) (.lit 4)))
 (.leaf (.agg [(.int .u64 (.lit 0)), (.int .u64 (.lit 0)), (.int .u8 (.lit 0))]))
 (.ite (.not (.bin .leq .u8 (.var kB 1) (.lit 4)))
 (.leaf (.agg [(.int .u64 (.lit 0)), (.int .u64 (.lit 0)), (.int .u8 (.lit 0))]))
 (.call 1000140 [(.var kB 0), (.lit 0), (.var kU 3), (.var kU 4)] 5 4
 (.ite (.var .bool 8)
 (.leaf (.agg [(.int .u64 (.var kU 5)), (.int .u64 (.var kU 6)), (.int .u8 (.var kB 7))]))
 (.call 139 [(.var kB 0), (.var kU 3), (.var kU 4)] 9 5
 (.ite (.bin .eql .u8 (.var kB 10) (.lit 0))
 (.call 35 [(.var kB 0), (.var kU 3), (.var kU 4)] 14 2
 (.leaf (.agg [(.int .u64 (.var kU 14)), (.int .u64 (.var kU 15)), (.int .u8 (.lit 0))])))
 (.ite (.bin .eql .u8 (.var kB 10) (.lit 3))
 (.call 35 [(.var kB 0), (.var kU 3), (.var kU 4)] 14 2
 (.leaf (.agg [(.int .u64 (.var kU 14)), (.int .u64 (.var kU 15)), (.int .u8 (.lit 0))])))
 (.call 53 [(.var kB 0)] 14 1
 (.ite (.bin .geq .i64 (.var kI 11) (.bin .sub .i64 (.var kI 14) (.lit 1)))
 (.call 35 [(.var kB 0), (.var kU 3), (.var kU 4)] 15 2
 (.leaf (.agg [(.int .u64 (.var kU 15)), (.int .u64 (.var kU 16)), (.int .u8 (.lit 0))])))
 (.call 150 [(.var kU 12), (.var kU 13), (.lit 0), (.lit 0)] 15 4
 (.ite (.bin .lss .i64 (.var kI 11) (.lit 0))
 (.call 214 [(.var kU 15), (.var kU 16), (.var kU 17), (.var kU 18), (.bin .sub .i64 (.bin .sub .i64 (.lit 0) (.var kI 11)) (.lit 1))] 19 4
 (.call 210 [(.var kU 19), (.var kU 20), (.var kU 21), (.var kU 22), (.lit 0), (.var kB 1), (.var .bool 9)] 23 3
 (.call 155 [(.var kU 23), (.var kU 24)] 26 4
 (.call 147 [(.var kB 0), (.lit 4), (.lit 0), (.var .bool 9), (.lit 255), (.var kU 26), (.var kU 27), (.var kU 28), (.var kU 29)] 30 3
 (.ite (.bin .neq .u8 (.var kB 32) (.lit 0))
 (.ite (.var .bool 25)
 (.ite (.var .bool 2)
 (.leaf (.agg [(.int .u64 (.lit 0)), (.int .u64 (.lit 0)), (.int .u8 (.lit 16))]))
 (.leaf (.agg [(.int .u64 (.lit 0)), (.int .u64 (.lit 0)), (.int .u8 (.lit 0))])))
 (.leaf (.agg [(.int .u64 (.lit 0)), (.int .u64 (.lit 0)), (.int .u8 (.lit 0))])))
 (.ite (.var .bool 25)
 (.ite (.var .bool 2)
 (.leaf (.agg [(.int .u64 (.var kU 30)), (.int .u64 (.var kU 31)), (.int .u8 (.lit 16))]))
 (.leaf (.agg [(.int .u64 (.var kU 30)), (.int .u64 (.var kU 31)), (.int .u8 (.lit 0))])))
 (.leaf (.agg [(.int .u64 (.var kU 30)), (.int .u64 (.var kU 31)), (.int .u8 (.lit 0))]))))))))
 (.call 210 [(.var kU 15), (.var kU 16), (.var kU 17), (.var kU 18), (.bin .add .i64 (.var kI 11) (.lit 1)), (.var kB 1), (.var .bool 9)] 19 3
 (.call 155 [(.var kU 19), (.var kU 20)] 22 4
 (.call 147 [(.var kB 0), (.lit 4), (.lit 0), (.var .bool 9), (.lit 255), (.var kU 22), (.var kU 23), (.var kU 24), (.var kU 25)] 26 3
 (.ite (.bin .neq .u8 (.var kB 28) (.lit 0))
 (.ite (.var .bool 21)
 (.ite (.var .bool 2)
 (.leaf (.agg [(.int .u64 (.lit 0)), (.int .u64 (.lit 0)), (.int .u8 (.lit 16))]))
 (.leaf (.agg [(.int .u64 (.lit 0)), (.int .u64 (.lit 0)), (.int .u8 (.lit 0))])))
 (.leaf (.agg [(.int .u64 (.lit 0)), (.int .u64 (.lit 0)), (.int .u8 (.lit 0))])))
 (.ite (.var .bool 21)
 (.ite (.var .bool 2)
 (.leaf (.agg [(.int .u64 (.var kU 26)), (.int .u64 (.var kU 27)), (.int .u8 (.lit 16))]))
 (.leaf (.agg [(.int .u64 (.var kU 26)), (.int .u64 (.var kU 27)), (.int .u8 (.lit 0))])))
 (.leaf (.agg [(.int .u64 (.var kU 26)), (.int .u64 (.var kU 27)), (.int .u8 (.lit 0))]))))))))))))))))))
theorem x_rint_Rint : execMF (ctxA TA NZ ZZ) mE 3000 94 (uns c_rint_Rint.a (varsAt 0 (kindsOf c_rint_Rint.a))) (kindsOf c_rint_Rint.a).length = t_rint_Rint := by kernel_rfl
def F_rint_Rint : List Int → List Int := treeF (phiA TA NZ ZZ) c_rint_Rint t_rint_Rint
theorem e_rint_Rint : EntC Tryz.prog gG ⟨94, c_rint_Rint, F_rint_Rint⟩ := entM_of ok_TM1 mE_ok 3000 (by kernel_rfl) x_rint_Rint (by kernel_rfl)
def c_comp_Quiet : Ct := ⟨[.sc kB, .agg [kU, kU], .agg [kU, kU]], [.sc kB, .sc kB]⟩
def t_comp_Quiet : Tr' SV :=
 (.ite (.not (.bin .lss .i64 (.var kB 0) (.lit 4)))
 (.leaf (.tup [(.int .u8 (.lit 0)), (.int .u8 (.lit 0))]))
 (.call 14 [(.var kB 0), (.var kU 1), (.var kU 2)] 5 1
 (.ite (.var .bool 5)
 (.call 15 [(.var kB 0), (.var kU 1), (.var kU 2)] 6 1
 (.ite (.var .bool 6)
 (.leaf (.tup [(.int .u8 (.lit 3)), (.int .u8 (.lit 1))]))
 (.call 15 [(.var kB 0), (.var kU 3), (.var kU 4)] 7 1
 (.ite (.var .bool 7)
 (.leaf (.tup [(.int .u8 (.lit 3)), (.int .u8 (.lit 1))]))
 (.leaf (.tup [(.int .u8 (.lit 3)), (.int .u8 (.lit 0))]))))))
 (.call 14 [(.var kB 0), (.var kU 3), (.var kU 4)] 6 1
 (.ite (.var .bool 6)
 (.call 15 [(.var kB 0), (.var kU 1), (.var kU 2)] 7 1
 (.ite (.var .bool 7)
 (.leaf (.tup [(.int .u8 (.lit 3)), (.int .u8 (.lit 1))]))
 (.call 15 [(.var kB 0), (.var kU 3), (.var kU 4)] 8 1
 (.ite (.var .bool 8)
 (.leaf (.tup [(.int .u8 (.lit 3)), (.int .u8 (.lit 1))]))
 (.leaf (.tup [(.int .u8 (.lit 3)), (.int .u8 (.lit 0))]))))))
 (.call 139 [(.var kB 0), (.var kU 1), (.var kU 2)] 7 5
 (.call 139 [(.var kB 0), (.var kU 3), (.var kU 4)] 12 5
 (.ite (.bin .eql .u8 (.var kB 8) (.lit 3))
 (.ite (.bin .eql .u8 (.var kB 13) (.lit 3))
 (.ite (.not (.beq (.var .bool 7) (.var .bool 12)))
 (.ite (.var .bool 7)
 (.leaf (.tup [(.int .u8 (.lit 0)), (.int .u8 (.lit 0))]))
 (.leaf (.tup [(.int .u8 (.lit 2)), (.int .u8 (.lit 0))])))
 (.ite (.var .bool 7)
 (.leaf (.tup [(.int .u8 (.lit 1)), (.int .u8 (.lit 0))]))
 (.leaf (.tup [(.int .u8 (.lit 1)), (.int .u8 (.lit 0))]))))
 (.ite (.not (.beq (.var .bool 7) (.var .bool 12)))
 (.ite (.var .bool 7)
 (.leaf (.tup [(.int .u8 (.lit 0)), (.int .u8 (.lit 0))]))
 (.leaf (.tup [(.int .u8 (.lit 2)), (.int .u8 (.lit 0))])))
 (.ite (.var .bool 7)
 (.leaf (.tup [(.int .u8 (.lit 0)), (.int .u8 (.lit 0))]))
 (.leaf (.tup [(.int .u8 (.lit 2)), (.int .u8 (.lit 0))])))))
 (.ite (.bin .eql .u8 (.var kB 13) (.lit 3))
 (.ite (.bin .eql .u8 (.var kB 8) (.lit 0))
 (.ite (.not (.beq (.var .bool 7) (.var .bool 12)))
 (.ite (.var .bool 7)
 (.leaf (.tup [(.int .u8 (.lit 0)), (.int .u8 (.lit 0))]))
 (.leaf (.tup [(.int .u8 (.lit 2)), (.int .u8 (.lit 0))])))
 (.ite (.var .bool 7)
 (.leaf (.tup [(.int .u8 (.lit 2)), (.int .u8 (.lit 0))]))
 (.leaf (.tup [(.int .u8 (.lit 0)), (.int .u8 (.lit 0))]))))
 (.ite (.not (.beq (.var .bool 7) (.var .bool 12)))
 (.ite (.var .bool 7)
 (.leaf (.tup [(.int .u8 (.lit 0)), (.int .u8 (.lit 0))]))
 (.leaf (.tup [(.int .u8 (.lit 2)), (.int .u8 (.lit 0))])))
 (.ite (.var .bool 7)
 (.leaf (.tup [(.int .u8 (.lit 2)), (.int .u8 (.lit 0))]))
 (.leaf (.tup [(.int .u8 (.lit 0)), (.int .u8 (.lit 0))])))))
 (.call 150 [(.var kU 10), (.var kU 11), (.lit 0), (.lit 0)] 17 4
 (.call 150 [(.var kU 15), (.var kU 16), (.lit 0), (.lit 0)] 21 4
 (.call 244 [(.var kI 9), (.var kU 17), (.var kU 18), (.var kU 19), (.var kU 20), (.var kI 14), (.var kU 21), (.var kU 22), (.var kU 23), (.var kU 24)] 25 1
 (.ite (.bin .eql .u8 (.var kB 8) (.lit 0))
 (.ite (.bin .eql .u8 (.var kB 13) (.lit 0))
 (.leaf (.tup [(.int .u8 (.lit 1)), (.int .u8 (.lit 0))]))
 (.ite (.not (.beq (.var .bool 7) (.var .bool 12)))
 (.ite (.var .bool 7)
 (.leaf (.tup [(.int .u8 (.lit 0)), (.int .u8 (.lit 0))]))
 (.leaf (.tup [(.int .u8 (.lit 2)), (.int .u8 (.lit 0))])))
 (.ite (.var .bool 7)
 (.leaf (.tup [(.int .u8 (.bin .add .u8 (.lit 1) (.conv .u8 (.bin .sub .i64 (.lit 0) (.var kI 25))))), (.int .u8 (.lit 0))]))
 (.leaf (.tup [(.int .u8 (.bin .add .u8 (.lit 1) (.conv .u8 (.var kI 25)))), (.int .u8 (.lit 0))])))))
 (.ite (.not (.beq (.var .bool 7) (.var .bool 12)))
 (.ite (.var .bool 7)
 (.leaf (.tup [(.int .u8 (.lit 0)), (.int .u8 (.lit 0))]))
 (.leaf (.tup [(.int .u8 (.lit 2)), (.int .u8 (.lit 0))])))
 (.ite (.var .bool 7)
 (.leaf (.tup [(.int .u8 (.bin .add .u8 (.lit 1) (.conv .u8 (.bin .sub .i64 (.lit 0) (.var kI 25))))), (.int .u8 (.lit 0))]))
 (.leaf (.tup [(.int .u8 (.bin .add .u8 (.lit 1) (.conv .u8 (.var kI 25)))), (.int .u8 (.lit 0))])))))))))))))))))
theorem x_comp_Quiet : execMF (ctxA TA NZ ZZ) mE 3000 106 (uns c_comp_Quiet.a (varsAt 0 (kindsOf c_comp_Quiet.a))) (kindsOf c_comp_Quiet.a).length = t_comp_Quiet := by kernel_rfl
def F_comp_Quiet : List Int → List Int := treeF (phiA TA NZ ZZ) c_comp_Quiet t_comp_Quiet
theorem e_comp_Quiet : EntC Tryz.prog gG ⟨106, c_comp_Quiet, F_comp_Quiet⟩ := entM_of ok_TM1 mE_ok 3000 (by kernel_rfl) x_comp_Quiet (by kernel_rfl)
def c_comp_Signaling : Ct := ⟨[.sc kB, .agg [kU, kU], .agg [kU, kU]], [.sc kB, .sc kB]⟩
def t_comp_Signaling : Tr' SV :=
 (.ite (.not (.bin .lss .i64 (.var kB 0) (.lit 4)))
 (.leaf (.tup [(.int .u8 (.lit 0)), (.int .u8 (.lit 0))]))
 (.call 14 [(.var kB 0), (.var kU 1), (.var kU 2)] 5 1
 (.ite (.var .bool 5)
 (.call 14 [(.var kB 0), (.var kU 1), (.var kU 2)] 6 1
 (.ite (.var .bool 6)
 (.leaf (.tup [(.int .u8 (.lit 3)), (.int .u8 (.lit 1))]))
 (.call 14 [(.var kB 0), (.var kU 3), (.var kU 4)] 7 1
 (.ite (.var .bool 7)
 (.leaf (.tup [(.int .u8 (.lit 3)), (.int .u8 (.lit 1))]))
 (.leaf (.tup [(.int .u8 (.lit 3)), (.int .u8 (.lit 0))]))))))
 (.call 14 [(.var kB 0), (.var kU 3), (.var kU 4)] 6 1
 (.ite (.var .bool 6)
 (.call 14 [(.var kB 0), (.var kU 1), (.var kU 2)] 7 1
 (.ite (.var .bool 7)
 (.leaf (.tup [(.int .u8 (.lit 3)), (.int .u8 (.lit 1))]))
 (.call 14 [(.var kB 0), (.var kU 3), (.var kU 4)] 8 1
 (.ite (.var .bool 8)
 (.leaf (.tup [(.int .u8 (.lit 3)), (.int .u8 (.lit 1))]))
 (.leaf (.tup [(.int .u8 (.lit 3)), (.int .u8 (.lit 0))]))))))
 (.call 139 [(.var kB 0), (.var kU 1), (.var kU 2)] 7 5
 (.call 139 [(.var kB 0), (.var kU 3), (.var kU 4)] 12 5
 (.ite (.bin .eql .u8 (.var kB 8) (.lit 3))
 (.ite (.bin .eql .u8 (.var kB 13) (.lit 3))
 (.ite (.not (.beq (.var .bool 7) (.var .bool 12)))
 (.ite (.var .bool 7)
 (.leaf (.tup [(.int .u8 (.lit 0)), (.int .u8 (.lit 0))]))
 (.leaf (.tup [(.int .u8 (.lit 2)), (.int .u8 (.lit 0))])))
 (.ite (.var .bool 7)
 (.leaf (.tup [(.int .u8 (.lit 1)), (.int .u8 (.lit 0))]))
 (.leaf (.tup [(.int .u8 (.lit 1)), (.int .u8 (.lit 0))]))))
 (.ite (.not (.beq (.var .bool 7) (.var .bool 12)))
 (.ite (.var .bool 7)
 (.leaf (.tup [(.int .u8 (.lit 0)), (.int .u8 (.lit 0))]))
 (.leaf (.tup [(.int .u8 (.lit 2)), (.int .u8 (.lit 0))])))
 (.ite (.var .bool 7)
 (.leaf (.tup [(.int .u8 (.lit 0)), (.int .u8 (.lit 0))]))
 (.leaf (.tup [(.int .u8 (.lit 2)), (.int .u8 (.lit 0))])))))
 (.ite (.bin .eql .u8 (.var kB 13) (.lit 3))
 (.ite (.bin .eql .u8 (.var kB 8) (.lit 0))
 (.ite (.not (.beq (.var .bool 7) (.var .bool 12)))
 (.ite (.var .bool 7)
 (.leaf (.tup [(.int .u8 (.lit 0)), (.int .u8 (.lit 0))]))
 (.leaf (.tup [(.int .u8 (.lit 2)), (.int .u8 (.lit 0))])))
 (.ite (.var .bool 7)
 (.leaf (.tup [(.int .u8 (.lit 2)), (.int .u8 (.lit 0))]))
 (.leaf (.tup [(.int .u8 (.lit 0)), (.int .u8 (.lit 0))]))))
 (.ite (.not (.beq (.var .bool 7) (.var .bool 12)))
 (.ite (.var .bool 7)
 (.leaf (.tup [(.int .u8 (.lit 0)), (.int .u8 (.lit 0))]))
 (.leaf (.tup [(.int .u8 (.lit 2)), (.int .u8 (.lit 0))])))
 (.ite (.var .bool 7)
 (.leaf (.tup [(.int .u8 (.lit 2)), (.int .u8 (.lit 0))]))
 (.leaf (.tup [(.int .u8 (.lit 0)), (.int .u8 (.lit 0))])))))
 (.call 150 [(.var kU 10), (.var kU 11), (.lit 0), (.lit 0)] 17 4
 (.call 150 [(.var kU 15), (.var kU 16), (.lit 0), (.lit 0)] 21 4
 (.call 244 [(.var kI 9), (.var kU 17), (.var kU 18), (.var kU 19), (.var kU 20), (.var kI 14), (.var kU 21), (.var kU 22), (.var kU 23), (.var kU 24)] 25 1
 (.ite (.bin .eql .u8 (.var kB 8) (.lit 0))
 (.ite (.bin .eql .u8 (.var kB 13) (.lit 0))
 (.leaf (.tup [(.int .u8 (.lit 1)), (.int .u8 (.lit 0))]))
 (.ite (.not (.beq (.var .bool 7) (.var .bool 12)))
 (.ite (.var .bool 7)
 (.leaf (.tup [(.int .u8 (.lit 0)), (.int .u8 (.lit 0))]))
 (.leaf (.tup [(.int .u8 (.lit 2)), (.int .u8 (.lit 0))])))
 (.ite (.var .bool 7)
 (.leaf (.tup [(.int .u8 (.bin .add .u8 (.lit 1) (.conv .u8 (.bin .sub .i64 (.lit 0) (.var kI 25))))), (.int .u8 (.lit 0))]))
 (.leaf (.tup [(.int .u8 (.bin .add .u8 (.lit 1) (.conv .u8 (.var kI 25)))), (.int .u8 (.lit 0))])))))
 (.ite (.not (.beq (.var .bool 7) (.var .bool 12)))
 (.ite (.var .bool 7)
 (.leaf (.tup [(.int .u8 (.lit 0)), (.int .u8 (.lit 0))]))
 (.leaf (.tup [(.int .u8 (.lit 2)), (.int .u8 (.lit 0))])))
 (.ite (.var .bool 7)
 (.leaf (.tup [(.int .u8 (.bin .add .u8 (.lit 1) (.conv .u8 (.bin .sub .i64 (.lit 0) (.var kI 25))))), (.int .u8 (.lit 0))]))
 (.leaf (.tup [(.int .u8 (.bin .add .u8 (.lit 1) (.conv .u8 (.var kI 25)))), (.int .u8 (.lit 0))])))))))))))))))))
theorem x_comp_Signaling : execMF (ctxA TA NZ ZZ) mE 3000 108 (uns c_comp_Signaling.a (varsAt 0 (kindsOf c_comp_Signaling.a))) (kindsOf c_comp_Signaling.a).length = t_comp_Signaling := by kernel_rfl
def F_comp_Signaling : List Int → List Int := treeF (phiA TA NZ ZZ) c_comp_Signaling t_comp_Signaling
theorem e_comp_Signaling : EntC Tryz.prog gG ⟨108, c_comp_Signaling, F_comp_Signaling⟩ := entM_of ok_TM1 mE_ok 3000 (by kernel_rfl) x_comp_Signaling (by kernel_rfl)
def c_format_Fits : Ct := ⟨[.sc kB, .agg [kU, kU]], [.sc .bool]⟩
def t_format_Fits : Tr' SV :=
 (.ite (.bin .lss .i64 (.var kB 0) (.lit 4))
 (.call 35 [(.var kB 0), (.var kU 1), (.var kU 2)] 3 2
 (.leaf (.bool (.and (.bin .eql .u64 (.var kU 3) (.var kU 1)) (.and (.bin .eql .u64 (.var kU 4) (.var kU 2)) (.lit 1))))))
 (.leaf (.bool (.lit 0))))
theorem x_format_Fits : execMF (ctxA TA NZ ZZ) mE 3000 16 (uns c_format_Fits.a (varsAt 0 (kindsOf c_format_Fits.a))) (kindsOf c_format_Fits.a).length = t_format_Fits := by kernel_rfl
def F_format_Fits : List Int → List Int := treeF (phiA TA NZ ZZ) c_format_Fits t_format_Fits
theorem e_format_Fits : EntC Tryz.prog gG ⟨16, c_format_Fits, F_format_Fits⟩ := entM_of ok_TM1 mE_ok 3000 (by kernel_rfl) x_format_Fits (by kernel_rfl)
def TB : List Ent := ⟨103, c_fromint_From, F_fromint_From⟩ :: ⟨47, c_fromint_Has, F_fromint_Has⟩ :: ⟨101, c_toint_Int, F_toint_Int⟩ :: ⟨94, c_rint_Rint, F_rint_Rint⟩ :: ⟨106, c_comp_Quiet, F_comp_Quiet⟩ :: ⟨108, c_comp_Signaling, F_comp_Signaling⟩ :: ⟨16, c_format_Fits, F_format_Fits⟩ :: TA
theorem TB_ok : ∀ e ∈ TB, EntC Tryz.prog gG e := List.forall_mem_cons.2 ⟨e_fromint_From, List.forall_mem_cons.2 ⟨e_fromint_Has, List.forall_mem_cons.2 ⟨e_toint_Int, List.forall_mem_cons.2 ⟨e_rint_Rint, List.forall_mem_cons.2 ⟨e_comp_Quiet, List.forall_mem_cons.2 ⟨e_comp_Signaling, List.forall_mem_cons.2 ⟨e_format_Fits, TA_ok⟩⟩⟩⟩⟩⟩⟩
end Go.Proofs.YtemomocmfggiaaaGreatDoor
