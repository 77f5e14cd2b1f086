import Derived.Test.YtnknpgmnejndeaaGreatDoorA3Fm
/- Contracts of this seat's functions: their trees, made by a program (sxgen), and that the executor answers just these. -/
namespace Go.Proofs.YtnknpgmnejndeaaGreatDoor
set_option linter.unusedVariables false
set_option maxRecDepth 100000
open Go.RowKit
theorem ok_B2 : SOK (ctxA E33 M0 S1) eE := ctxA_ok E33_ok M0_ok S1_ok (by kernel_rfl)
def c_law20_FmaNan : Ct := ⟨[.sc kB, .agg [kB, .bool], .agg [kU, kU], .sc .bool, .sc .bool], [.sc .bool]⟩
def t_law20_FmaNan : Tr' SV :=
 (.ite (.not (.bin .lss .i64 (.var kB 0) (.lit 4)))
 (.leaf (.bool (.lit 1)))
 (.ite (.not (.bin .leq .u8 (.var kB 1) (.lit 4)))
 (.leaf (.bool (.lit 1)))
 (.call 13 [(.var kB 0), (.var .bool 5)] 7 2
 (.call 14 [(.var kB 0), (.not (.var .bool 5))] 9 2
 (.ite (.var .bool 6)
 (.call 15 [(.var kB 0), (.var kB 1), (.var .bool 2), (.var kU 9), (.var kU 10), (.var kU 7), (.var kU 8), (.var kU 3), (.var kU 4)] 11 3
 (.call 16 [(.var kB 0), (.var kU 11), (.var kU 12)] 14 1
 (.ite (.not (.var .bool 14))
 (.leaf (.bool (.lit 0)))
 (.ite (.bin .neq .u8 (.var kB 13) (.lit 1))
 (.leaf (.bool (.lit 0)))
 (.call 16 [(.var kB 0), (.var kU 3), (.var kU 4)] 15 1
 (.ite (.not (.var .bool 15))
 (.leaf (.bool (.lit 1)))
 (.call 15 [(.var kB 0), (.var kB 1), (.var .bool 2), (.var kU 3), (.var kU 4), (.var kU 9), (.var kU 10), (.var kU 7), (.var kU 8)] 16 3
 (.call 15 [(.var kB 0), (.var kB 1), (.var .bool 2), (.var kU 9), (.var kU 10), (.var kU 9), (.var kU 10), (.var kU 3), (.var kU 4)] 19 3
 (.call 16 [(.var kB 0), (.var kU 16), (.var kU 17)] 22 1
 (.ite (.var .bool 22)
 (.ite (.and (.bin .eql .u64 (.var kU 16) (.var kU 19)) (.and (.bin .eql .u64 (.var kU 17) (.var kU 20)) (.lit 1)))
 (.ite (.and (.bin .eql .u64 (.var kU 16) (.var kU 11)) (.and (.bin .eql .u64 (.var kU 17) (.var kU 12)) (.lit 1)))
 (.call 17 [(.var kB 0), (.var kU 3), (.var kU 4)] 23 1
 (.ite (.beq (.bin .eql .u8 (.var kB 21) (.lit 1)) (.var .bool 23))
 (.leaf (.bool (.lit 1)))
 (.leaf (.bool (.lit 0)))))
 (.leaf (.bool (.lit 0))))
 (.leaf (.bool (.lit 0))))
 (.leaf (.bool (.lit 0)))))))))))))
 (.call 15 [(.var kB 0), (.var kB 1), (.var .bool 2), (.var kU 7), (.var kU 8), (.var kU 9), (.var kU 10), (.var kU 3), (.var kU 4)] 11 3
 (.call 16 [(.var kB 0), (.var kU 11), (.var kU 12)] 14 1
 (.ite (.not (.var .bool 14))
 (.leaf (.bool (.lit 0)))
 (.ite (.bin .neq .u8 (.var kB 13) (.lit 1))
 (.leaf (.bool (.lit 0)))
 (.call 16 [(.var kB 0), (.var kU 3), (.var kU 4)] 15 1
 (.ite (.not (.var .bool 15))
 (.leaf (.bool (.lit 1)))
 (.call 15 [(.var kB 0), (.var kB 1), (.var .bool 2), (.var kU 3), (.var kU 4), (.var kU 7), (.var kU 8), (.var kU 9), (.var kU 10)] 16 3
 (.call 15 [(.var kB 0), (.var kB 1), (.var .bool 2), (.var kU 7), (.var kU 8), (.var kU 7), (.var kU 8), (.var kU 3), (.var kU 4)] 19 3
 (.call 16 [(.var kB 0), (.var kU 16), (.var kU 17)] 22 1
 (.ite (.var .bool 22)
 (.ite (.and (.bin .eql .u64 (.var kU 16) (.var kU 19)) (.and (.bin .eql .u64 (.var kU 17) (.var kU 20)) (.lit 1)))
 (.ite (.and (.bin .eql .u64 (.var kU 16) (.var kU 11)) (.and (.bin .eql .u64 (.var kU 17) (.var kU 12)) (.lit 1)))
 (.call 17 [(.var kB 0), (.var kU 3), (.var kU 4)] 23 1
 (.ite (.beq (.bin .eql .u8 (.var kB 21) (.lit 1)) (.var .bool 23))
 (.leaf (.bool (.lit 1)))
 (.leaf (.bool (.lit 0)))))
 (.leaf (.bool (.lit 0))))
 (.leaf (.bool (.lit 0))))
 (.leaf (.bool (.lit 0))))))))))))))))))
theorem x_law20_FmaNan : execF (ctxA E33 M0 S1) 3000 3 (uns c_law20_FmaNan.a (varsAt 0 (kindsOf c_law20_FmaNan.a))) (kindsOf c_law20_FmaNan.a).length = t_law20_FmaNan := by kernel_rfl
def F_law20_FmaNan : List Int → List Int := treeF (phiA E33 M0 S1) c_law20_FmaNan t_law20_FmaNan
theorem e_law20_FmaNan : EntOK Tryz.prog gG ⟨3, c_law20_FmaNan, F_law20_FmaNan⟩ := ent_any ok_B2 3000 x_law20_FmaNan (by kernel_rfl)
def c_law20_FmaKnown : Ct := ⟨[], [.sc .bool]⟩
def t_law20_FmaKnown : Tr' SV :=
 (.leaf (.bool (.lit 1)))
theorem x_law20_FmaKnown : execF (ctxA E33 M0 S1) 3000 4 (uns c_law20_FmaKnown.a (varsAt 0 (kindsOf c_law20_FmaKnown.a))) (kindsOf c_law20_FmaKnown.a).length = t_law20_FmaKnown := by kernel_rfl
def F_law20_FmaKnown : List Int → List Int := treeF (phiA E33 M0 S1) c_law20_FmaKnown t_law20_FmaKnown
theorem e_law20_FmaKnown : EntOK Tryz.prog gG ⟨4, c_law20_FmaKnown, F_law20_FmaKnown⟩ := ent_any ok_B2 3000 x_law20_FmaKnown (by kernel_rfl)
def c_law20_FmaTurn : Ct := ⟨[.sc kB, .agg [kB, .bool], .agg [kU, kU], .agg [kU, kU], .agg [kU, kU]], [.sc .bool]⟩
def t_law20_FmaTurn : Tr' SV :=
 (.ite (.not (.bin .lss .i64 (.var kB 0) (.lit 4)))
 (.leaf (.bool (.lit 1)))
 (.ite (.not (.bin .leq .u8 (.var kB 1) (.lit 4)))
 (.leaf (.bool (.lit 1)))
 (.call 16 [(.var kB 0), (.var kU 3), (.var kU 4)] 9 1
 (.ite (.var .bool 9)
 (.leaf (.bool (.lit 1)))
 (.call 16 [(.var kB 0), (.var kU 5), (.var kU 6)] 10 1
 (.ite (.var .bool 10)
 (.leaf (.bool (.lit 1)))
 (.call 16 [(.var kB 0), (.var kU 7), (.var kU 8)] 11 1
 (.ite (.var .bool 11)
 (.leaf (.bool (.lit 1)))
 (.call 15 [(.var kB 0), (.var kB 1), (.var .bool 2), (.var kU 3), (.var kU 4), (.var kU 5), (.var kU 6), (.var kU 7), (.var kU 8)] 12 3
 (.call 27 [(.var kB 0), (.var kU 3), (.var kU 4)] 15 2
 (.call 27 [(.var kB 0), (.var kU 7), (.var kU 8)] 17 2
 (.call 15 [(.var kB 0), (.ite (.bin .eql .u8 (.var kB 1) (.lit 2)) (.lit 3) (.ite (.bin .eql .u8 (.var kB 1) (.lit 3)) (.lit 2) (.var kB 1))), (.var .bool 2), (.var kU 15), (.var kU 16), (.var kU 5), (.var kU 6), (.var kU 17), (.var kU 18)] 19 3
 (.call 15 [(.var kB 0), (.var kB 1), (.var .bool 2), (.var kU 5), (.var kU 6), (.var kU 3), (.var kU 4), (.var kU 7), (.var kU 8)] 22 3
 (.ite (.not (.and (.bin .eql .u64 (.var kU 12) (.var kU 22)) (.and (.bin .eql .u64 (.var kU 13) (.var kU 23)) (.and (.bin .eql .u8 (.var kB 14) (.var kB 24)) (.lit 1)))))
 (.leaf (.bool (.lit 0)))
 (.ite (.bin .neq .u8 (.var kB 14) (.var kB 21))
 (.leaf (.bool (.lit 0)))
 (.call 28 [(.var kB 0), (.var kU 12), (.var kU 13)] 25 2
 (.ite (.bin .eql .u8 (.var kB 25) (.lit 0))
 (.call 28 [(.var kB 0), (.var kU 19), (.var kU 20)] 27 2
 (.ite (.bin .eql .u8 (.var kB 27) (.lit 0))
 (.leaf (.bool (.lit 1)))
 (.leaf (.bool (.lit 0)))))
 (.call 16 [(.var kB 0), (.var kU 12), (.var kU 13)] 27 1
 (.ite (.var .bool 27)
 (.ite (.and (.bin .eql .u64 (.var kU 12) (.var kU 19)) (.and (.bin .eql .u64 (.var kU 13) (.var kU 20)) (.and (.bin .eql .u8 (.var kB 14) (.var kB 21)) (.lit 1))))
 (.leaf (.bool (.lit 1)))
 (.leaf (.bool (.lit 0))))
 (.call 27 [(.var kB 0), (.var kU 12), (.var kU 13)] 28 2
 (.ite (.and (.bin .eql .u64 (.var kU 19) (.var kU 28)) (.and (.bin .eql .u64 (.var kU 20) (.var kU 29)) (.lit 1)))
 (.leaf (.bool (.lit 1)))
 (.leaf (.bool (.lit 0))))))))))))))))))))))))
theorem x_law20_FmaTurn : execF (ctxA E33 M0 S1) 3000 6 (uns c_law20_FmaTurn.a (varsAt 0 (kindsOf c_law20_FmaTurn.a))) (kindsOf c_law20_FmaTurn.a).length = t_law20_FmaTurn := by kernel_rfl
def F_law20_FmaTurn : List Int → List Int := treeF (phiA E33 M0 S1) c_law20_FmaTurn t_law20_FmaTurn
theorem e_law20_FmaTurn : EntOK Tryz.prog gG ⟨6, c_law20_FmaTurn, F_law20_FmaTurn⟩ := ent_any ok_B2 3000 x_law20_FmaTurn (by kernel_rfl)
def c_law20_FmaProduct : Ct := ⟨[.sc kB, .agg [kB, .bool], .agg [kU, kU], .agg [kU, kU], .sc .bool], [.sc .bool]⟩
def t_law20_FmaProduct : Tr' SV :=
 (.call 22 [(.var kB 0), (.var kB 1), (.var .bool 2), (.var kU 3), (.var kU 4), (.var kU 5), (.var kU 6)] 8 3
 (.call 13 [(.var kB 0), (.var .bool 7)] 11 2
 (.call 15 [(.var kB 0), (.var kB 1), (.var .bool 2), (.var kU 3), (.var kU 4), (.var kU 5), (.var kU 6), (.var kU 11), (.var kU 12)] 13 3
 (.ite (.not (.bin .lss .i64 (.var kB 0) (.lit 4)))
 (.ite (.and (.bin .eql .u64 (.var kU 8) (.var kU 13)) (.and (.bin .eql .u64 (.var kU 9) (.var kU 14)) (.and (.bin .eql .u8 (.var kB 10) (.var kB 15)) (.lit 1))))
 (.leaf (.bool (.lit 1)))
 (.leaf (.bool (.lit 0))))
 (.ite (.not (.bin .leq .u8 (.var kB 1) (.lit 4)))
 (.ite (.and (.bin .eql .u64 (.var kU 8) (.var kU 13)) (.and (.bin .eql .u64 (.var kU 9) (.var kU 14)) (.and (.bin .eql .u8 (.var kB 10) (.var kB 15)) (.lit 1))))
 (.leaf (.bool (.lit 1)))
 (.leaf (.bool (.lit 0))))
 (.call 28 [(.var kB 0), (.var kU 8), (.var kU 9)] 16 2
 (.ite (.bin .eql .u8 (.var kB 16) (.lit 0))
 (.ite (.bin .eql .u8 (.var kB 10) (.lit 0))
 (.call 28 [(.var kB 0), (.var kU 13), (.var kU 14)] 18 2
 (.ite (.bin .eql .u8 (.var kB 18) (.lit 0))
 (.ite (.bin .eql .u8 (.var kB 15) (.lit 0))
 (.leaf (.bool (.lit 1)))
 (.leaf (.bool (.lit 0))))
 (.leaf (.bool (.lit 0)))))
 (.ite (.and (.bin .eql .u64 (.var kU 8) (.var kU 13)) (.and (.bin .eql .u64 (.var kU 9) (.var kU 14)) (.and (.bin .eql .u8 (.var kB 10) (.var kB 15)) (.lit 1))))
 (.leaf (.bool (.lit 1)))
 (.leaf (.bool (.lit 0)))))
 (.ite (.and (.bin .eql .u64 (.var kU 8) (.var kU 13)) (.and (.bin .eql .u64 (.var kU 9) (.var kU 14)) (.and (.bin .eql .u8 (.var kB 10) (.var kB 15)) (.lit 1))))
 (.leaf (.bool (.lit 1)))
 (.leaf (.bool (.lit 0)))))))))))
theorem x_law20_FmaProduct : execF (ctxA E33 M0 S1) 3000 7 (uns c_law20_FmaProduct.a (varsAt 0 (kindsOf c_law20_FmaProduct.a))) (kindsOf c_law20_FmaProduct.a).length = t_law20_FmaProduct := by kernel_rfl
def F_law20_FmaProduct : List Int → List Int := treeF (phiA E33 M0 S1) c_law20_FmaProduct t_law20_FmaProduct
theorem e_law20_FmaProduct : EntOK Tryz.prog gG ⟨7, c_law20_FmaProduct, F_law20_FmaProduct⟩ := ent_any ok_B2 3000 x_law20_FmaProduct (by kernel_rfl)
def c_law20_FmaRest : Ct := ⟨[.sc kB, .agg [kU, kU], .agg [kU, kU], .sc .bool], [.sc .bool]⟩
def t_law20_FmaRest : Tr' SV :=
 (.ite (.var .bool 5)
 (.ite (.not (.bin .lss .i64 (.var kB 0) (.lit 4)))
 (.leaf (.bool (.lit 1)))
 (.call 29 [(.var kB 0), (.var kU 1), (.var kU 2)] 6 1
 (.ite (.not (.var .bool 6))
 (.leaf (.bool (.lit 1)))
 (.call 29 [(.var kB 0), (.var kU 3), (.var kU 4)] 7 1
 (.ite (.not (.var .bool 7))
 (.leaf (.bool (.lit 1)))
 (.call 30 [(.var kB 0), (.var kU 1), (.var kU 2)] 8 5
 (.call 30 [(.var kB 0), (.var kU 3), (.var kU 4)] 13 5
 (.call 22 [(.var kB 0), (.lit 1), (.lit 0), (.var kU 1), (.var kU 2), (.var kU 3), (.var kU 4)] 18 3
 (.call 29 [(.var kB 0), (.var kU 18), (.var kU 19)] 21 1
 (.ite (.not (.var .bool 21))
 (.leaf (.bool (.lit 1)))
 (.ite (.bin .eql .u8 (.var kB 9) (.lit 0))
 (.leaf (.bool (.lit 1)))
 (.ite (.bin .eql .u8 (.var kB 14) (.lit 0))
 (.leaf (.bool (.lit 1)))
 (.call 31 [(.var kB 0)] 22 1
 (.call 21 [(.var kB 0)] 23 1
 (.ite (.bin .lss .i64 (.bin .add .i64 (.var kI 10) (.var kI 15)) (.bin .sub .i64 (.bin .mul .i64 (.lit 2) (.var kI 22)) (.var kI 23)))
 (.leaf (.bool (.lit 1)))
 (.call 27 [(.var kB 0), (.var kU 18), (.var kU 19)] 24 2
 (.call 15 [(.var kB 0), (.lit 1), (.lit 0), (.var kU 1), (.var kU 2), (.var kU 3), (.var kU 4), (.var kU 24), (.var kU 25)] 26 3
 (.call 28 [(.var kB 0), (.var kU 26), (.var kU 27)] 29 2
 (.ite (.bin .eql .u8 (.var kB 28) (.lit 0))
 (.ite (.beq (.bin .eql .u8 (.var kB 29) (.lit 0)) (.bin .eql .u8 (.var kB 20) (.lit 0)))
 (.leaf (.bool (.lit 1)))
 (.leaf (.bool (.lit 0))))
 (.leaf (.bool (.lit 0))))))))))))))))))))))
 (.ite (.not (.bin .lss .i64 (.var kB 0) (.lit 4)))
 (.leaf (.bool (.lit 1)))
 (.call 29 [(.var kB 0), (.var kU 1), (.var kU 2)] 6 1
 (.ite (.not (.var .bool 6))
 (.leaf (.bool (.lit 1)))
 (.call 29 [(.var kB 0), (.var kU 3), (.var kU 4)] 7 1
 (.ite (.not (.var .bool 7))
 (.leaf (.bool (.lit 1)))
 (.call 30 [(.var kB 0), (.var kU 1), (.var kU 2)] 8 5
 (.call 30 [(.var kB 0), (.var kU 3), (.var kU 4)] 13 5
 (.call 22 [(.var kB 0), (.lit 0), (.lit 0), (.var kU 1), (.var kU 2), (.var kU 3), (.var kU 4)] 18 3
 (.call 29 [(.var kB 0), (.var kU 18), (.var kU 19)] 21 1
 (.ite (.not (.var .bool 21))
 (.leaf (.bool (.lit 1)))
 (.ite (.bin .eql .u8 (.var kB 9) (.lit 0))
 (.leaf (.bool (.lit 1)))
 (.ite (.bin .eql .u8 (.var kB 14) (.lit 0))
 (.leaf (.bool (.lit 1)))
 (.call 31 [(.var kB 0)] 22 1
 (.call 21 [(.var kB 0)] 23 1
 (.ite (.bin .lss .i64 (.bin .add .i64 (.var kI 10) (.var kI 15)) (.bin .sub .i64 (.bin .mul .i64 (.lit 2) (.var kI 22)) (.var kI 23)))
 (.leaf (.bool (.lit 1)))
 (.call 27 [(.var kB 0), (.var kU 18), (.var kU 19)] 24 2
 (.call 15 [(.var kB 0), (.lit 0), (.lit 0), (.var kU 1), (.var kU 2), (.var kU 3), (.var kU 4), (.var kU 24), (.var kU 25)] 26 3
 (.call 28 [(.var kB 0), (.var kU 26), (.var kU 27)] 29 2
 (.ite (.bin .eql .u8 (.var kB 28) (.lit 0))
 (.ite (.beq (.bin .eql .u8 (.var kB 29) (.lit 0)) (.bin .eql .u8 (.var kB 20) (.lit 0)))
 (.leaf (.bool (.lit 1)))
 (.leaf (.bool (.lit 0))))
 (.leaf (.bool (.lit 0)))))))))))))))))))))))
theorem x_law20_FmaRest : execF (ctxA E33 M0 S1) 3000 8 (uns c_law20_FmaRest.a (varsAt 0 (kindsOf c_law20_FmaRest.a))) (kindsOf c_law20_FmaRest.a).length = t_law20_FmaRest := by kernel_rfl
def F_law20_FmaRest : List Int → List Int := treeF (phiA E33 M0 S1) c_law20_FmaRest t_law20_FmaRest
theorem e_law20_FmaRest : EntOK Tryz.prog gG ⟨8, c_law20_FmaRest, F_law20_FmaRest⟩ := ent_any ok_B2 3000 x_law20_FmaRest (by kernel_rfl)
def c_law20_FmaSum : Ct := ⟨[.sc kB, .agg [kB, .bool], .agg [kU, kU], .agg [kU, kU]], [.sc .bool]⟩
def t_law20_FmaSum : Tr' SV :=
 (.ite (.not (.bin .lss .i64 (.var kB 0) (.lit 4)))
 (.call 15 [(.var kB 0), (.var kB 1), (.var .bool 2), (.var kU 3), (.var kU 4), (.var kU 3), (.var kU 4), (.var kU 5), (.var kU 6)] 7 3
 (.ite (.and (.bin .eql .u64 (.var kU 7) (.lit 0)) (.and (.bin .eql .u64 (.var kU 8) (.lit 0)) (.and (.bin .eql .u8 (.var kB 9) (.lit 0)) (.lit 1))))
 (.leaf (.bool (.lit 1)))
 (.leaf (.bool (.lit 0)))))
 (.call 21 [(.var kB 0)] 7 1
 (.call 20 [(.var kB 0), (.lit 0), (.var kI 7), (.lit 0), (.lit 0)] 8 2
 (.call 15 [(.var kB 0), (.var kB 1), (.var .bool 2), (.var kU 3), (.var kU 4), (.var kU 8), (.var kU 9), (.var kU 5), (.var kU 6)] 10 3
 (.call 24 [(.var kB 0), (.var kB 1), (.var .bool 2), (.var kU 3), (.var kU 4), (.var kU 5), (.var kU 6)] 13 3
 (.ite (.and (.bin .eql .u64 (.var kU 10) (.var kU 13)) (.and (.bin .eql .u64 (.var kU 11) (.var kU 14)) (.and (.bin .eql .u8 (.var kB 12) (.var kB 15)) (.lit 1))))
 (.leaf (.bool (.lit 1)))
 (.leaf (.bool (.lit 0)))))))))
theorem x_law20_FmaSum : execF (ctxA E33 M0 S1) 3000 9 (uns c_law20_FmaSum.a (varsAt 0 (kindsOf c_law20_FmaSum.a))) (kindsOf c_law20_FmaSum.a).length = t_law20_FmaSum := by kernel_rfl
def F_law20_FmaSum : List Int → List Int := treeF (phiA E33 M0 S1) c_law20_FmaSum t_law20_FmaSum
theorem e_law20_FmaSum : EntOK Tryz.prog gG ⟨9, c_law20_FmaSum, F_law20_FmaSum⟩ := ent_any ok_B2 3000 x_law20_FmaSum (by kernel_rfl)
def c_law19_MulOne : Ct := ⟨[.sc kB, .agg [kB, .bool], .agg [kU, kU]], [.sc .bool]⟩
def t_law19_MulOne : Tr' SV :=
 (.ite (.not (.bin .lss .i64 (.var kB 0) (.lit 4)))
 (.leaf (.bool (.lit 1)))
 (.ite (.not (.bin .leq .u8 (.var kB 1) (.lit 4)))
 (.leaf (.bool (.lit 1)))
 (.call 16 [(.var kB 0), (.var kU 3), (.var kU 4)] 5 1
 (.ite (.var .bool 5)
 (.leaf (.bool (.lit 1)))
 (.call 21 [(.var kB 0)] 6 1
 (.call 20 [(.var kB 0), (.lit 0), (.var kI 6), (.lit 0), (.lit 0)] 7 2
 (.call 21 [(.var kB 0)] 9 1
 (.call 20 [(.var kB 0), (.lit 0), (.bin .add .i64 (.var kI 9) (.lit 1)), (.lit 0), (.lit 0)] 10 2
 (.call 22 [(.var kB 0), (.var kB 1), (.var .bool 2), (.var kU 3), (.var kU 4), (.var kU 7), (.var kU 8)] 12 3
 (.call 23 [(.var kB 0), (.var kU 3), (.var kU 4)] 15 2
 (.ite (.and (.bin .eql .u64 (.var kU 12) (.var kU 15)) (.and (.bin .eql .u64 (.var kU 13) (.var kU 16)) (.and (.bin .eql .u8 (.var kB 14) (.lit 0)) (.lit 1))))
 (.call 22 [(.var kB 0), (.var kB 1), (.var .bool 2), (.var kU 3), (.var kU 4), (.var kU 10), (.var kU 11)] 17 3
 (.call 24 [(.var kB 0), (.var kB 1), (.var .bool 2), (.var kU 3), (.var kU 4), (.var kU 3), (.var kU 4)] 20 3
 (.ite (.and (.bin .eql .u64 (.var kU 17) (.var kU 20)) (.and (.bin .eql .u64 (.var kU 18) (.var kU 21)) (.and (.bin .eql .u8 (.var kB 19) (.var kB 22)) (.lit 1))))
 (.leaf (.bool (.lit 1)))
 (.leaf (.bool (.lit 0))))))
 (.leaf (.bool (.lit 0))))))))))))))
theorem x_law19_MulOne : execF (ctxA E33 M0 S1) 3000 5 (uns c_law19_MulOne.a (varsAt 0 (kindsOf c_law19_MulOne.a))) (kindsOf c_law19_MulOne.a).length = t_law19_MulOne := by kernel_rfl
def F_law19_MulOne : List Int → List Int := treeF (phiA E33 M0 S1) c_law19_MulOne t_law19_MulOne
theorem e_law19_MulOne : EntOK Tryz.prog gG ⟨5, c_law19_MulOne, F_law19_MulOne⟩ := ent_any ok_B2 3000 x_law19_MulOne (by kernel_rfl)
theorem ph_B2_format_Nought : phiA E33 M0 S1 13 = F_format_Nought := phiA_L (e := ⟨13, _, F_format_Nought⟩) rfl rfl rfl
theorem ph_B2_format_Inf : phiA E33 M0 S1 14 = F_format_Inf := phiA_L (e := ⟨14, _, F_format_Inf⟩) rfl rfl rfl
theorem ph_B2_fma_Fma : phiA E33 M0 S1 15 = F_fma_Fma := phiA_L (e := ⟨15, _, F_fma_Fma⟩) rfl rfl rfl
theorem ph_B2_class_NaN : phiA E33 M0 S1 16 = F_class_NaN := phiA_L (e := ⟨16, _, F_class_NaN⟩) rfl rfl rfl
theorem ph_B2_class_Signaling : phiA E33 M0 S1 17 = F_class_Signaling := phiA_L (e := ⟨17, _, F_class_Signaling⟩) rfl rfl rfl
theorem ph_B2_addsub_Turn : phiA E33 M0 S1 27 = F_addsub_Turn := phiA_L (e := ⟨27, _, F_addsub_Turn⟩) rfl rfl rfl
theorem ph_B2_class_Of : phiA E33 M0 S1 28 = F_class_Of := phiA_L (e := ⟨28, _, F_class_Of⟩) rfl rfl rfl
theorem ph_B2_mul_Mul : phiA E33 M0 S1 22 = F_mul_Mul := phiA_L (e := ⟨22, _, F_mul_Mul⟩) rfl rfl rfl
theorem ph_B2_class_Finite : phiA E33 M0 S1 29 = F_class_Finite := phiA_L (e := ⟨29, _, F_class_Finite⟩) rfl rfl rfl
theorem ph_B2_fields_Unpack : phiA E33 M0 S1 30 = F_fields_Unpack := phiA_L (e := ⟨30, _, F_fields_Unpack⟩) rfl rfl rfl
theorem ph_B2_format_Prec : phiA E33 M0 S1 31 = F_format_Prec := phiA_L (e := ⟨31, _, F_format_Prec⟩) rfl rfl rfl
theorem ph_B2_format_Emax : phiA E33 M0 S1 21 = F_format_Emax := phiA_L (e := ⟨21, _, F_format_Emax⟩) rfl rfl rfl
theorem ph_B2_format_Make : phiA E33 M0 S1 20 = F_format_Make := phiA_L (e := ⟨20, _, F_format_Make⟩) rfl rfl rfl
theorem ph_B2_addsub_Add : phiA E33 M0 S1 24 = F_addsub_Add := phiA_L (e := ⟨24, _, F_addsub_Add⟩) rfl rfl rfl
theorem ph_B2_format_Cut : phiA E33 M0 S1 23 = F_format_Cut := phiA_L (e := ⟨23, _, F_format_Cut⟩) rfl rfl rfl
end Go.Proofs.YtnknpgmnejndeaaGreatDoor
