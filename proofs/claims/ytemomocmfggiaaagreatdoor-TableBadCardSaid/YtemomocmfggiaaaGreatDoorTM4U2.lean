import Derived.Test.YtemomocmfggiaaaGreatDoorTM3U2
namespace Go.Proofs.YtemomocmfggiaaaGreatDoor
set_option linter.unusedVariables false
set_option maxRecDepth 100000
open Go.RowKit
theorem ok_TM4 : SOK (ctxA TE NZ ZZ) eE := ctxC_ok TE_ok NZ_ok ZZ_ok (by kernel_rfl)
def c_law29_TableBad : Ct := ⟨[.agg [kB, kB, kB, kB, kB, kU, kU, kU, kU, kU, kU], .sc kU, .sc kB], [.sc .bool]⟩
def t_law29_TableBad : Tr' SV :=
 (.call 25 [(.var kB 0), (.var kB 1), (.var kB 2), (.var kB 3), (.var kB 4), (.var kU 5), (.var kU 6), (.var kU 7), (.var kU 8), (.var kU 9), (.var kU 10)] 13 1
 (.ite (.bin .neq .i64 (.var kI 13) (.lit 0))
 (.call 10 [(.var kB 0), (.var kB 1), (.var kB 2), (.var kB 3), (.var kB 4), (.var kU 5), (.var kU 6), (.var kU 7), (.var kU 8), (.var kU 9), (.var kU 10)] 14 4
 (.ite (.and (.bin .eql .i64 (.var kI 14) (.lit 1)) (.and (.bin .eql .u64 (.var kU 15) (.lit 0)) (.and (.bin .eql .u64 (.var kU 16) (.lit 0)) (.and (.bin .eql .u8 (.var kB 17) (.lit 0)) (.lit 1)))))
 (.leaf (.bool (.lit 1)))
 (.leaf (.bool (.lit 0)))))
 (.ite (.bin .eql .u8 (.bin .rem .u8 (.var kB 12) (.lit 6)) (.lit 0))
 (.call 26 [(.var kB 1)] 14 1
 (.ite (.bin .gtr .i64 (.var kI 14) (.lit 64))
 (.leaf (.bool (.lit 1)))
 (.ite (.bin .eql .u8 (.var kB 0) (.lit 12))
 (.leaf (.bool (.lit 1)))
 (.ite (.bin .neq .u8 (.var kB 0) (.lit 6))
 (.call 25 [(.var kB 0), (.var kB 1), (.var kB 2), (.var kB 3), (.var kB 4), (.var kU 5), (.var kU 6), (.var kU 7), (.var kU 8), (.lit 0), (.bin .or .u64 (.var kU 11) (.lit 1))] 15 1
 (.ite (.bin .neq .i64 (.var kI 15) (.lit 1))
 (.leaf (.bool (.lit 0)))
 (.call 25 [(.var kB 0), (.var kB 1), (.var kB 2), (.var kB 3), (.var kB 4), (.bin .or .u64 (.var kU 11) (.lit 1)), (.var kU 6), (.var kU 7), (.var kU 8), (.var kU 9), (.var kU 10)] 16 1
 (.ite (.bin .eql .i64 (.var kI 16) (.lit 1))
 (.call 10 [(.var kB 0), (.var kB 1), (.var kB 2), (.var kB 3), (.var kB 4), (.bin .or .u64 (.var kU 11) (.lit 1)), (.var kU 6), (.var kU 7), (.var kU 8), (.var kU 9), (.var kU 10)] 17 4
 (.ite (.and (.bin .eql .i64 (.var kI 17) (.lit 1)) (.and (.bin .eql .u64 (.var kU 18) (.lit 0)) (.and (.bin .eql .u64 (.var kU 19) (.lit 0)) (.and (.bin .eql .u8 (.var kB 20) (.lit 0)) (.lit 1)))))
 (.leaf (.bool (.lit 1)))
 (.leaf (.bool (.lit 0)))))
 (.leaf (.bool (.lit 0)))))))
 (.call 25 [(.var kB 0), (.var kB 1), (.var kB 2), (.var kB 3), (.var kB 4), (.bin .or .u64 (.var kU 11) (.lit 1)), (.var kU 6), (.var kU 7), (.var kU 8), (.var kU 9), (.var kU 10)] 15 1
 (.ite (.bin .eql .i64 (.var kI 15) (.lit 1))
 (.call 10 [(.var kB 0), (.var kB 1), (.var kB 2), (.var kB 3), (.var kB 4), (.bin .or .u64 (.var kU 11) (.lit 1)), (.var kU 6), (.var kU 7), (.var kU 8), (.var kU 9), (.var kU 10)] 16 4
 (.ite (.and (.bin .eql .i64 (.var kI 16) (.lit 1)) (.and (.bin .eql .u64 (.var kU 17) (.lit 0)) (.and (.bin .eql .u64 (.var kU 18) (.lit 0)) (.and (.bin .eql .u8 (.var kB 19) (.lit 0)) (.lit 1)))))
 (.leaf (.bool (.lit 1)))
 (.leaf (.bool (.lit 0)))))
 (.leaf (.bool (.lit 0)))))))))
 (.ite (.bin .eql .u8 (.bin .rem .u8 (.var kB 12) (.lit 6)) (.lit 1))
 (.ite (.bin .neq .u8 (.var kB 0) (.lit 6))
 (.call 25 [(.var kB 0), (.var kB 1), (.var kB 2), (.var kB 3), (.var kB 4), (.var kU 5), (.var kU 6), (.var kU 7), (.var kU 8), (.lit 0), (.bin .or .u64 (.var kU 11) (.lit 1))] 14 1
 (.ite (.bin .neq .i64 (.var kI 14) (.lit 1))
 (.leaf (.bool (.lit 0)))
 (.call 25 [(.var kB 0), (.var kB 1), (.bin .add .u8 (.lit 4) (.conv .u8 (.bin .rem .u64 (.var kU 11) (.lit 200)))), (.var kB 3), (.var kB 4), (.var kU 5), (.var kU 6), (.var kU 7), (.var kU 8), (.var kU 9), (.var kU 10)] 15 1
 (.ite (.bin .eql .i64 (.var kI 15) (.lit 1))
 (.call 10 [(.var kB 0), (.var kB 1), (.bin .add .u8 (.lit 4) (.conv .u8 (.bin .rem .u64 (.var kU 11) (.lit 200)))), (.var kB 3), (.var kB 4), (.var kU 5), (.var kU 6), (.var kU 7), (.var kU 8), (.var kU 9), (.var kU 10)] 16 4
 (.ite (.and (.bin .eql .i64 (.var kI 16) (.lit 1)) (.and (.bin .eql .u64 (.var kU 17) (.lit 0)) (.and (.bin .eql .u64 (.var kU 18) (.lit 0)) (.and (.bin .eql .u8 (.var kB 19) (.lit 0)) (.lit 1)))))
 (.leaf (.bool (.lit 1)))
 (.leaf (.bool (.lit 0)))))
 (.leaf (.bool (.lit 0)))))))
 (.call 25 [(.var kB 0), (.var kB 1), (.bin .add .u8 (.lit 4) (.conv .u8 (.bin .rem .u64 (.var kU 11) (.lit 200)))), (.var kB 3), (.var kB 4), (.var kU 5), (.var kU 6), (.var kU 7), (.var kU 8), (.var kU 9), (.var kU 10)] 14 1
 (.ite (.bin .eql .i64 (.var kI 14) (.lit 1))
 (.call 10 [(.var kB 0), (.var kB 1), (.bin .add .u8 (.lit 4) (.conv .u8 (.bin .rem .u64 (.var kU 11) (.lit 200)))), (.var kB 3), (.var kB 4), (.var kU 5), (.var kU 6), (.var kU 7), (.var kU 8), (.var kU 9), (.var kU 10)] 15 4
 (.ite (.and (.bin .eql .i64 (.var kI 15) (.lit 1)) (.and (.bin .eql .u64 (.var kU 16) (.lit 0)) (.and (.bin .eql .u64 (.var kU 17) (.lit 0)) (.and (.bin .eql .u8 (.var kB 18) (.lit 0)) (.lit 1)))))
 (.leaf (.bool (.lit 1)))
 (.leaf (.bool (.lit 0)))))
 (.leaf (.bool (.lit 0))))))
 (.ite (.bin .eql .u8 (.bin .rem .u8 (.var kB 12) (.lit 6)) (.lit 2))
 (.ite (.bin .neq .u8 (.var kB 0) (.lit 6))
 (.call 25 [(.var kB 0), (.var kB 1), (.var kB 2), (.var kB 3), (.var kB 4), (.var kU 5), (.var kU 6), (.var kU 7), (.var kU 8), (.lit 0), (.bin .or .u64 (.var kU 11) (.lit 1))] 14 1
 (.ite (.bin .neq .i64 (.var kI 14) (.lit 1))
 (.leaf (.bool (.lit 0)))
 (.call 25 [(.var kB 0), (.var kB 1), (.var kB 2), (.bin .add .u8 (.lit 5) (.conv .u8 (.bin .rem .u64 (.var kU 11) (.lit 200)))), (.var kB 4), (.var kU 5), (.var kU 6), (.var kU 7), (.var kU 8), (.var kU 9), (.var kU 10)] 15 1
 (.ite (.bin .eql .i64 (.var kI 15) (.lit 1))
 (.call 10 [(.var kB 0), (.var kB 1), (.var kB 2), (.bin .add .u8 (.lit 5) (.conv .u8 (.bin .rem .u64 (.var kU 11) (.lit 200)))), (.var kB 4), (.var kU 5), (.var kU 6), (.var kU 7), (.var kU 8), (.var kU 9), (.var kU 10)] 16 4
 (.ite (.and (.bin .eql .i64 (.var kI 16) (.lit 1)) (.and (.bin .eql .u64 (.var kU 17) (.lit 0)) (.and (.bin .eql .u64 (.var kU 18) (.lit 0)) (.and (.bin .eql .u8 (.var kB 19) (.lit 0)) (.lit 1)))))
 (.leaf (.bool (.lit 1)))
 (.leaf (.bool (.lit 0)))))
 (.leaf (.bool (.lit 0)))))))
 (.call 25 [(.var kB 0), (.var kB 1), (.var kB 2), (.bin .add .u8 (.lit 5) (.conv .u8 (.bin .rem .u64 (.var kU 11) (.lit 200)))), (.var kB 4), (.var kU 5), (.var kU 6), (.var kU 7), (.var kU 8), (.var kU 9), (.var kU 10)] 14 1
 (.ite (.bin .eql .i64 (.var kI 14) (.lit 1))
 (.call 10 [(.var kB 0), (.var kB 1), (.var kB 2), (.bin .add .u8 (.lit 5) (.conv .u8 (.bin .rem .u64 (.var kU 11) (.lit 200)))), (.var kB 4), (.var kU 5), (.var kU 6), (.var kU 7), (.var kU 8), (.var kU 9), (.var kU 10)] 15 4
 (.ite (.and (.bin .eql .i64 (.var kI 15) (.lit 1)) (.and (.bin .eql .u64 (.var kU 16) (.lit 0)) (.and (.bin .eql .u64 (.var kU 17) (.lit 0)) (.and (.bin .eql .u8 (.var kB 18) (.lit 0)) (.lit 1)))))
 (.leaf (.bool (.lit 1)))
 (.leaf (.bool (.lit 0)))))
 (.leaf (.bool (.lit 0))))))
 (.ite (.bin .eql .u8 (.bin .rem .u8 (.var kB 12) (.lit 6)) (.lit 3))
 (.ite (.bin .neq .u8 (.var kB 0) (.lit 6))
 (.call 25 [(.var kB 0), (.var kB 1), (.var kB 2), (.var kB 3), (.var kB 4), (.var kU 5), (.var kU 6), (.var kU 7), (.var kU 8), (.lit 0), (.bin .or .u64 (.var kU 11) (.lit 1))] 14 1
 (.ite (.bin .neq .i64 (.var kI 14) (.lit 1))
 (.leaf (.bool (.lit 0)))
 (.call 25 [(.var kB 0), (.var kB 1), (.var kB 2), (.var kB 3), (.bin .add .u8 (.lit 2) (.conv .u8 (.bin .rem .u64 (.var kU 11) (.lit 200)))), (.var kU 5), (.var kU 6), (.var kU 7), (.var kU 8), (.var kU 9), (.var kU 10)] 15 1
 (.ite (.bin .eql .i64 (.var kI 15) (.lit 1))
 (.call 10 [(.var kB 0), (.var kB 1), (.var kB 2), (.var kB 3), (.bin .add .u8 (.lit 2) (.conv .u8 (.bin .rem .u64 (.var kU 11) (.lit 200)))), (.var kU 5), (.var kU 6), (.var kU 7), (.var kU 8), (.var kU 9), (.var kU 10)] 16 4
 (.ite (.and (.bin .eql .i64 (.var kI 16) (.lit 1)) (.and (.bin .eql .u64 (.var kU 17) (.lit 0)) (.and (.bin .eql .u64 (.var kU 18) (.lit 0)) (.and (.bin .eql .u8 (.var kB 19) (.lit 0)) (.lit 1)))))
 (.leaf (.bool (.lit 1)))
 (.leaf (.bool (.lit 0)))))
 (.leaf (.bool (.lit 0)))))))
 (.call 25 [(.var kB 0), (.var kB 1), (.var kB 2), (.var kB 3), (.bin .add .u8 (.lit 2) (.conv .u8 (.bin .rem .u64 (.var kU 11) (.lit 200)))), (.var kU 5), (.var kU 6), (.var kU 7), (.var kU 8), (.var kU 9), (.var kU 10)] 14 1
 (.ite (.bin .eql .i64 (.var kI 14) (.lit 1))
 (.call 10 [(.var kB 0), (.var kB 1), (.var kB 2), (.var kB 3), (.bin .add .u8 (.lit 2) (.conv .u8 (.bin .rem .u64 (.var kU 11) (.lit 200)))), (.var kU 5), (.var kU 6), (.var kU 7), (.var kU 8), (.var kU 9), (.var kU 10)] 15 4
 (.ite (.and (.bin .eql .i64 (.var kI 15) (.lit 1)) (.and (.bin .eql .u64 (.var kU 16) (.lit 0)) (.and (.bin .eql .u64 (.var kU 17) (.lit 0)) (.and (.bin .eql .u8 (.var kB 18) (.lit 0)) (.lit 1)))))
 (.leaf (.bool (.lit 1)))
 (.leaf (.bool (.lit 0)))))
 (.leaf (.bool (.lit 0))))))
 (.ite (.bin .eql .u8 (.bin .rem .u8 (.var kB 12) (.lit 6)) (.lit 4))
 (.ite (.bin .neq .u8 (.var kB 0) (.lit 6))
 (.call 25 [(.var kB 0), (.var kB 1), (.var kB 2), (.var kB 3), (.var kB 4), (.var kU 5), (.var kU 6), (.var kU 7), (.var kU 8), (.lit 0), (.bin .or .u64 (.var kU 11) (.lit 1))] 14 1
 (.ite (.bin .neq .i64 (.var kI 14) (.lit 1))
 (.leaf (.bool (.lit 0)))
 (.call 25 [(.bin .add .u8 (.lit 15) (.conv .u8 (.bin .rem .u64 (.var kU 11) (.lit 200)))), (.var kB 1), (.var kB 2), (.var kB 3), (.var kB 4), (.var kU 5), (.var kU 6), (.var kU 7), (.var kU 8), (.var kU 9), (.var kU 10)] 15 1
 (.ite (.bin .eql .i64 (.var kI 15) (.lit 1))
 (.call 10 [(.bin .add .u8 (.lit 15) (.conv .u8 (.bin .rem .u64 (.var kU 11) (.lit 200)))), (.var kB 1), (.var kB 2), (.var kB 3), (.var kB 4), (.var kU 5), (.var kU 6), (.var kU 7), (.var kU 8), (.var kU 9), (.var kU 10)] 16 4
 (.ite (.and (.bin .eql .i64 (.var kI 16) (.lit 1)) (.and (.bin .eql .u64 (.var kU 17) (.lit 0)) (.and (.bin .eql .u64 (.var kU 18) (.lit 0)) (.and (.bin .eql .u8 (.var kB 19) (.lit 0)) (.lit 1)))))
 (.leaf (.bool (.lit 1)))
 (.leaf (.bool (.lit 0)))))
 (.leaf (.bool (.lit 0)))))))
 (.call 25 [(.bin .add .u8 (.lit 15) (.conv .u8 (.bin .rem .u64 (.var kU 11) (.lit 200)))), (.var kB 1), (.var kB 2), (.var kB 3), (.var kB 4), (.var kU 5), (.var kU 6), (.var kU 7), (.var kU 8), (.var kU 9), (.var kU 10)] 14 1
 (.ite (.bin .eql .i64 (.var kI 14) (.lit 1))
 (.call 10 [(.bin .add .u8 (.lit 15) (.conv .u8 (.bin .rem .u64 (.var kU 11) (.lit 200)))), (.var kB 1), (.var kB 2), (.var kB 3), (.var kB 4), (.var kU 5), (.var kU 6), (.var kU 7), (.var kU 8), (.var kU 9), (.var kU 10)] 15 4
 (.ite (.and (.bin .eql .i64 (.var kI 15) (.lit 1)) (.and (.bin .eql .u64 (.var kU 16) (.lit 0)) (.and (.bin .eql .u64 (.var kU 17) (.lit 0)) (.and (.bin .eql .u8 (.var kB 18) (.lit 0)) (.lit 1)))))
 (.leaf (.bool (.lit 1)))
 (.leaf (.bool (.lit 0)))))
 (.leaf (.bool (.lit 0))))))
 (.ite (.bin .eql .u8 (.bin .rem .u8 (.var kB 12) (.lit 6)) (.lit 5))
 (.ite (.bin .neq .u8 (.var kB 0) (.lit 6))
 (.call 25 [(.var kB 0), (.var kB 1), (.var kB 2), (.var kB 3), (.var kB 4), (.var kU 5), (.var kU 6), (.var kU 7), (.var kU 8), (.lit 0), (.bin .or .u64 (.var kU 11) (.lit 1))] 14 1
 (.ite (.bin .neq .i64 (.var kI 14) (.lit 1))
 (.leaf (.bool (.lit 0)))
 (.call 25 [(.var kB 0), (.bin .add .u8 (.lit 4) (.conv .u8 (.bin .rem .u64 (.var kU 11) (.lit 200)))), (.var kB 2), (.var kB 3), (.var kB 4), (.var kU 5), (.var kU 6), (.var kU 7), (.var kU 8), (.var kU 9), (.var kU 10)] 15 1
 (.ite (.bin .eql .i64 (.var kI 15) (.lit 1))
 (.call 10 [(.var kB 0), (.bin .add .u8 (.lit 4) (.conv .u8 (.bin .rem .u64 (.var kU 11) (.lit 200)))), (.var kB 2), (.var kB 3), (.var kB 4), (.var kU 5), (.var kU 6), (.var kU 7), (.var kU 8), (.var kU 9), (.var kU 10)] 16 4
 (.ite (.and (.bin .eql .i64 (.var kI 16) (.lit 1)) (.and (.bin .eql .u64 (.var kU 17) (.lit 0)) (.and (.bin .eql .u64 (.var kU 18) (.lit 0)) (.and (.bin .eql .u8 (.var kB 19) (.lit 0)) (.lit 1)))))
 (.leaf (.bool (.lit 1)))
 (.leaf (.bool (.lit 0)))))
 (.leaf (.bool (.lit 0)))))))
 (.call 25 [(.var kB 0), (.bin .add .u8 (.lit 4) (.conv .u8 (.bin .rem .u64 (.var kU 11) (.lit 200)))), (.var kB 2), (.var kB 3), (.var kB 4), (.var kU 5), (.var kU 6), (.var kU 7), (.var kU 8), (.var kU 9), (.var kU 10)] 14 1
 (.ite (.bin .eql .i64 (.var kI 14) (.lit 1))
 (.call 10 [(.var kB 0), (.bin .add .u8 (.lit 4) (.conv .u8 (.bin .rem .u64 (.var kU 11) (.lit 200)))), (.var kB 2), (.var kB 3), (.var kB 4), (.var kU 5), (.var kU 6), (.var kU 7), (.var kU 8), (.var kU 9), (.var kU 10)] 15 4
 (.ite (.and (.bin .eql .i64 (.var kI 15) (.lit 1)) (.and (.bin .eql .u64 (.var kU 16) (.lit 0)) (.and (.bin .eql .u64 (.var kU 17) (.lit 0)) (.and (.bin .eql .u8 (.var kB 18) (.lit 0)) (.lit 1)))))
 (.leaf (.bool (.lit 1)))
 (.leaf (.bool (.lit 0)))))
 (.leaf (.bool (.lit 0))))))
 (.ite (.bin .neq .u8 (.var kB 0) (.lit 6))
 (.call 25 [(.var kB 0), (.var kB 1), (.var kB 2), (.var kB 3), (.var kB 4), (.var kU 5), (.var kU 6), (.var kU 7), (.var kU 8), (.lit 0), (.bin .or .u64 (.var kU 11) (.lit 1))] 14 1
 (.ite (.bin .neq .i64 (.var kI 14) (.lit 1))
 (.leaf (.bool (.lit 0)))
 (.call 25 [(.var kB 0), (.var kB 1), (.var kB 2), (.var kB 3), (.var kB 4), (.var kU 5), (.var kU 6), (.var kU 7), (.var kU 8), (.var kU 9), (.var kU 10)] 15 1
 (.ite (.bin .eql .i64 (.var kI 15) (.lit 1))
 (.call 10 [(.var kB 0), (.var kB 1), (.var kB 2), (.var kB 3), (.var kB 4), (.var kU 5), (.var kU 6), (.var kU 7), (.var kU 8), (.var kU 9), (.var kU 10)] 16 4
 (.ite (.and (.bin .eql .i64 (.var kI 16) (.lit 1)) (.and (.bin .eql .u64 (.var kU 17) (.lit 0)) (.and (.bin .eql .u64 (.var kU 18) (.lit 0)) (.and (.bin .eql .u8 (.var kB 19) (.lit 0)) (.lit 1)))))
 (.leaf (.bool (.lit 1)))
 (.leaf (.bool (.lit 0)))))
 (.leaf (.bool (.lit 0)))))))
 (.call 25 [(.var kB 0), (.var kB 1), (.var kB 2), (.var kB 3), (.var kB 4), (.var kU 5), (.var kU 6), (.var kU 7), (.var kU 8), (.var kU 9), (.var kU 10)] 14 1
 (.ite (.bin .eql .i64 (.var kI 14) (.lit 1))
 (.call 10 [(.var kB 0), (.var kB 1), (.var kB 2), (.var kB 3), (.var kB 4), (.var kU 5), (.var kU 6), (.var kU 7), (.var kU 8), (.var kU 9), (.var kU 10)] 15 4
 (.ite (.and (.bin .eql .i64 (.var kI 15) (.lit 1)) (.and (.bin .eql .u64 (.var kU 16) (.lit 0)) (.and (.bin .eql .u64 (.var kU 17) (.lit 0)) (.and (.bin .eql .u8 (.var kB 18) (.lit 0)) (.lit 1)))))
 (.leaf (.bool (.lit 1)))
 (.leaf (.bool (.lit 0)))))
 (.leaf (.bool (.lit 0))))))))))))))
theorem x_law29_TableBad : execMF (ctxA TE NZ ZZ) mE 3000 7 (uns c_law29_TableBad.a (varsAt 0 (kindsOf c_law29_TableBad.a))) (kindsOf c_law29_TableBad.a).length = t_law29_TableBad := by kernel_rfl
def F_law29_TableBad : List Int → List Int := treeF (phiA TE NZ ZZ) c_law29_TableBad t_law29_TableBad
theorem e_law29_TableBad : EntC Tryz.prog gG ⟨7, c_law29_TableBad, F_law29_TableBad⟩ := entM_of ok_TM4 mE_ok 3000 (by kernel_rfl) x_law29_TableBad (by kernel_rfl)
theorem ph_TM4_table_Check : phiA TE NZ ZZ 25 = F_table_Check := phiA_L (e := ⟨25, _, F_table_Check⟩) rfl rfl rfl
theorem ph_TM4_table_Run : phiA TE NZ ZZ 10 = F_table_Run := phiA_L (e := ⟨10, _, F_table_Run⟩) rfl rfl rfl
theorem ph_TM4_format_Width : phiA TE NZ ZZ 26 = F_format_Width := phiA_L (e := ⟨26, _, F_format_Width⟩) rfl rfl rfl
end Go.Proofs.YtemomocmfggiaaaGreatDoor
