import Derived.Test.YtemomocmfggiaaaGreatDoorZEU5
namespace Go.Proofs.YtemomocmfggiaaaGreatDoor
set_option linter.unusedVariables false
set_option maxRecDepth 100000
open Go.RowKit
theorem ok_K1 : SOKT (ctxA E7 M0 S0) eE := ctxA_ok E7_ok M0_ok S0_ok (by kernel_rfl)
def c_nan_Pick_1 : SlC := ⟨1000140, [.sc kB, .sc .bool], 1, 24, [kU, kU], [.agg [kU, kU, kB], .sc .bool]⟩
def t_nan_Pick_1 : Tr' SV :=
 (.call 14 [(.var kB 0), (.var kU 2), (.var kU 3)] 4 1
 (.ite (.var .bool 4)
 (.ite (.not (.bin .lss .i64 (.var kB 0) (.lit 4)))
 (.leaf (.tup [(.agg [(.int .u64 (.lit 0)), (.int .u64 (.lit 0)), (.int .u8 (.lit 0))]), (.bool (.lit 0))]))
 (.call 196 [(.var kB 0)] 5 2
 (.call 197 [(.var kB 0), (.var kU 2), (.var kU 3)] 7 2
 (.ite (.var .bool 1)
 (.leaf (.tup [(.agg [(.int .u64 (.var kU 7)), (.int .u64 (.var kU 8)), (.int .u8 (.lit 1))]), (.bool (.lit 1))]))
 (.call 15 [(.var kB 0), (.var kU 2), (.var kU 3)] 9 1
 (.ite (.var .bool 9)
 (.leaf (.tup [(.agg [(.int .u64 (.var kU 7)), (.int .u64 (.var kU 8)), (.int .u8 (.lit 1))]), (.bool (.lit 1))]))
 (.leaf (.tup [(.agg [(.int .u64 (.var kU 7)), (.int .u64 (.var kU 8)), (.int .u8 (.lit 0))]), (.bool (.lit 1))]))))))))
 (.ite (.not (.bin .lss .i64 (.var kB 0) (.lit 4)))
 (.leaf (.tup [(.agg [(.int .u64 (.lit 0)), (.int .u64 (.lit 0)), (.int .u8 (.lit 0))]), (.bool (.lit 0))]))
 (.ite (.not (.var .bool 1))
 (.leaf (.tup [(.agg [(.int .u64 (.lit 0)), (.int .u64 (.lit 0)), (.int .u8 (.lit 0))]), (.bool (.lit 0))]))
 (.call 196 [(.var kB 0)] 5 2
 (.leaf (.tup [(.agg [(.int .u64 (.var kU 5)), (.int .u64 (.var kU 6)), (.int .u8 (.lit 1))]), (.bool (.lit 1))])))))))
theorem x_nan_Pick_1 : execFS (ctxA E7 M0 S0) 3000 140 c_nan_Pick_1 = t_nan_Pick_1 := by kernel_rfl
def F_nan_Pick_1 : List Int → List Int := treeF (phiA E7 M0 S0) ⟨c_nan_Pick_1.a, c_nan_Pick_1.r⟩ t_nan_Pick_1
theorem e_nan_Pick_1 : EntSOK Tryz.prog gG ⟨140, c_nan_Pick_1, F_nan_Pick_1⟩ := entS_of ok_K1 3000 x_nan_Pick_1 (by kernel_rfl)
def c_nan_Pick_2 : SlC := ⟨2000140, [.sc kB, .sc .bool], 2, 24, [kU, kU, kU, kU], [.agg [kU, kU, kB], .sc .bool]⟩
def t_nan_Pick_2 : Tr' SV :=
 (.call 14 [(.var kB 0), (.var kU 2), (.var kU 3)] 6 1
 (.ite (.var .bool 6)
 (.ite (.not (.bin .lss .i64 (.var kB 0) (.lit 4)))
 (.leaf (.tup [(.agg [(.int .u64 (.lit 0)), (.int .u64 (.lit 0)), (.int .u8 (.lit 0))]), (.bool (.lit 0))]))
 (.call 196 [(.var kB 0)] 7 2
 (.call 197 [(.var kB 0), (.var kU 2), (.var kU 3)] 9 2
 (.ite (.var .bool 1)
 (.leaf (.tup [(.agg [(.int .u64 (.var kU 9)), (.int .u64 (.var kU 10)), (.int .u8 (.lit 1))]), (.bool (.lit 1))]))
 (.call 15 [(.var kB 0), (.var kU 2), (.var kU 3)] 11 1
 (.ite (.var .bool 11)
 (.leaf (.tup [(.agg [(.int .u64 (.var kU 9)), (.int .u64 (.var kU 10)), (.int .u8 (.lit 1))]), (.bool (.lit 1))]))
 (.call 15 [(.var kB 0), (.var kU 4), (.var kU 5)] 12 1
 (.ite (.var .bool 12)
 (.leaf (.tup [(.agg [(.int .u64 (.var kU 9)), (.int .u64 (.var kU 10)), (.int .u8 (.lit 1))]), (.bool (.lit 1))]))
 (.leaf (.tup [(.agg [(.int .u64 (.var kU 9)), (.int .u64 (.var kU 10)), (.int .u8 (.lit 0))]), (.bool (.lit 1))]))))))))))
 (.call 14 [(.var kB 0), (.var kU 4), (.var kU 5)] 7 1
 (.ite (.var .bool 7)
 (.ite (.not (.bin .lss .i64 (.var kB 0) (.lit 4)))
 (.leaf (.tup [(.agg [(.int .u64 (.lit 0)), (.int .u64 (.lit 0)), (.int .u8 (.lit 0))]), (.bool (.lit 0))]))
 (.call 196 [(.var kB 0)] 8 2
 (.call 197 [(.var kB 0), (.var kU 4), (.var kU 5)] 10 2
 (.ite (.var .bool 1)
 (.leaf (.tup [(.agg [(.int .u64 (.var kU 10)), (.int .u64 (.var kU 11)), (.int .u8 (.lit 1))]), (.bool (.lit 1))]))
 (.call 15 [(.var kB 0), (.var kU 2), (.var kU 3)] 12 1
 (.ite (.var .bool 12)
 (.leaf (.tup [(.agg [(.int .u64 (.var kU 10)), (.int .u64 (.var kU 11)), (.int .u8 (.lit 1))]), (.bool (.lit 1))]))
 (.call 15 [(.var kB 0), (.var kU 4), (.var kU 5)] 13 1
 (.ite (.var .bool 13)
 (.leaf (.tup [(.agg [(.int .u64 (.var kU 10)), (.int .u64 (.var kU 11)), (.int .u8 (.lit 1))]), (.bool (.lit 1))]))
 (.leaf (.tup [(.agg [(.int .u64 (.var kU 10)), (.int .u64 (.var kU 11)), (.int .u8 (.lit 0))]), (.bool (.lit 1))]))))))))))
 (.ite (.not (.bin .lss .i64 (.var kB 0) (.lit 4)))
 (.leaf (.tup [(.agg [(.int .u64 (.lit 0)), (.int .u64 (.lit 0)), (.int .u8 (.lit 0))]), (.bool (.lit 0))]))
 (.ite (.not (.var .bool 1))
 (.leaf (.tup [(.agg [(.int .u64 (.lit 0)), (.int .u64 (.lit 0)), (.int .u8 (.lit 0))]), (.bool (.lit 0))]))
 (.call 196 [(.var kB 0)] 8 2
 (.leaf (.tup [(.agg [(.int .u64 (.var kU 8)), (.int .u64 (.var kU 9)), (.int .u8 (.lit 1))]), (.bool (.lit 1))])))))))))
theorem x_nan_Pick_2 : execFS (ctxA E7 M0 S0) 3000 140 c_nan_Pick_2 = t_nan_Pick_2 := by kernel_rfl
def F_nan_Pick_2 : List Int → List Int := treeF (phiA E7 M0 S0) ⟨c_nan_Pick_2.a, c_nan_Pick_2.r⟩ t_nan_Pick_2
theorem e_nan_Pick_2 : EntSOK Tryz.prog gG ⟨140, c_nan_Pick_2, F_nan_Pick_2⟩ := entS_of ok_K1 3000 x_nan_Pick_2 (by kernel_rfl)
def c_nan_Pick_3 : SlC := ⟨3000140, [.sc kB, .sc .bool], 3, 24, [kU, kU, kU, kU, kU, kU], [.agg [kU, kU, kB], .sc .bool]⟩
def t_nan_Pick_3 : Tr' SV :=
 (.call 14 [(.var kB 0), (.var kU 2), (.var kU 3)] 8 1
 (.ite (.var .bool 8)
 (.ite (.not (.bin .lss .i64 (.var kB 0) (.lit 4)))
 (.leaf (.tup [(.agg [(.int .u64 (.lit 0)), (.int .u64 (.lit 0)), (.int .u8 (.lit 0))]), (.bool (.lit 0))]))
 (.call 196 [(.var kB 0)] 9 2
 (.call 197 [(.var kB 0), (.var kU 2), (.var kU 3)] 11 2
 (.ite (.var .bool 1)
 (.leaf (.tup [(.agg [(.int .u64 (.var kU 11)), (.int .u64 (.var kU 12)), (.int .u8 (.lit 1))]), (.bool (.lit 1))]))
 (.call 15 [(.var kB 0), (.var kU 2), (.var kU 3)] 13 1
 (.ite (.var .bool 13)
 (.leaf (.tup [(.agg [(.int .u64 (.var kU 11)), (.int .u64 (.var kU 12)), (.int .u8 (.lit 1))]), (.bool (.lit 1))]))
 (.call 15 [(.var kB 0), (.var kU 4), (.var kU 5)] 14 1
 (.ite (.var .bool 14)
 (.leaf (.tup [(.agg [(.int .u64 (.var kU 11)), (.int .u64 (.var kU 12)), (.int .u8 (.lit 1))]), (.bool (.lit 1))]))
 (.call 15 [(.var kB 0), (.var kU 6), (.var kU 7)] 15 1
 (.ite (.var .bool 15)
 (.leaf (.tup [(.agg [(.int .u64 (.var kU 11)), (.int .u64 (.var kU 12)), (.int .u8 (.lit 1))]), (.bool (.lit 1))]))
 (.leaf (.tup [(.agg [(.int .u64 (.var kU 11)), (.int .u64 (.var kU 12)), (.int .u8 (.lit 0))]), (.bool (.lit 1))]))))))))))))
 (.call 14 [(.var kB 0), (.var kU 4), (.var kU 5)] 9 1
 (.ite (.var .bool 9)
 (.ite (.not (.bin .lss .i64 (.var kB 0) (.lit 4)))
 (.leaf (.tup [(.agg [(.int .u64 (.lit 0)), (.int .u64 (.lit 0)), (.int .u8 (.lit 0))]), (.bool (.lit 0))]))
 (.call 196 [(.var kB 0)] 10 2
 (.call 197 [(.var kB 0), (.var kU 4), (.var kU 5)] 12 2
 (.ite (.var .bool 1)
 (.leaf (.tup [(.agg [(.int .u64 (.var kU 12)), (.int .u64 (.var kU 13)), (.int .u8 (.lit 1))]), (.bool (.lit 1))]))
 (.call 15 [(.var kB 0), (.var kU 2), (.var kU 3)] 14 1
 (.ite (.var .bool 14)
 (.leaf (.tup [(.agg [(.int .u64 (.var kU 12)), (.int .u64 (.var kU 13)), (.int .u8 (.lit 1))]), (.bool (.lit 1))]))
 (.call 15 [(.var kB 0), (.var kU 4), (.var kU 5)] 15 1
 (.ite (.var .bool 15)
 (.leaf (.tup [(.agg [(.int .u64 (.var kU 12)), (.int .u64 (.var kU 13)), (.int .u8 (.lit 1))]), (.bool (.lit 1))]))
 (.call 15 [(.var kB 0), (.var kU 6), (.var kU 7)] 16 1
 (.ite (.var .bool 16)
 (.leaf (.tup [(.agg [(.int .u64 (.var kU 12)), (.int .u64 (.var kU 13)), (.int .u8 (.lit 1))]), (.bool (.lit 1))]))
 (.leaf (.tup [(.agg [(.int .u64 (.var kU 12)), (.int .u64 (.var kU 13)), (.int .u8 (.lit 0))]), (.bool (.lit 1))]))))))))))))
 (.call 14 [(.var kB 0), (.var kU 6), (.var kU 7)] 10 1
 (.ite (.var .bool 10)
 (.ite (.not (.bin .lss .i64 (.var kB 0) (.lit 4)))
 (.leaf (.tup [(.agg [(.int .u64 (.lit 0)), (.int .u64 (.lit 0)), (.int .u8 (.lit 0))]), (.bool (.lit 0))]))
 (.call 196 [(.var kB 0)] 11 2
 (.call 197 [(.var kB 0), (.var kU 6), (.var kU 7)] 13 2
 (.ite (.var .bool 1)
 (.leaf (.tup [(.agg [(.int .u64 (.var kU 13)), (.int .u64 (.var kU 14)), (.int .u8 (.lit 1))]), (.bool (.lit 1))]))
 (.call 15 [(.var kB 0), (.var kU 2), (.var kU 3)] 15 1
 (.ite (.var .bool 15)
 (.leaf (.tup [(.agg [(.int .u64 (.var kU 13)), (.int .u64 (.var kU 14)), (.int .u8 (.lit 1))]), (.bool (.lit 1))]))
 (.call 15 [(.var kB 0), (.var kU 4), (.var kU 5)] 16 1
 (.ite (.var .bool 16)
 (.leaf (.tup [(.agg [(.int .u64 (.var kU 13)), (.int .u64 (.var kU 14)), (.int .u8 (.lit 1))]), (.bool (.lit 1))]))
 (.call 15 [(.var kB 0), (.var kU 6), (.var kU 7)] 17 1
 (.ite (.var .bool 17)
 (.leaf (.tup [(.agg [(.int .u64 (.var kU 13)), (.int .u64 (.var kU 14)), (.int .u8 (.lit 1))]), (.bool (.lit 1))]))
 (.leaf (.tup [(.agg [(.int .u64 (.var kU 13)), (.int .u64 (.var kU 14)), (.int .u8 (.lit 0))]), (.bool (.lit 1))]))))))))))))
 (.ite (.not (.bin .lss .i64 (.var kB 0) (.lit 4)))
 (.leaf (.tup [(.agg [(.int .u64 (.lit 0)), (.int .u64 (.lit 0)), (.int .u8 (.lit 0))]), (.bool (.lit 0))]))
 (.ite (.not (.var .bool 1))
 (.leaf (.tup [(.agg [(.int .u64 (.lit 0)), (.int .u64 (.lit 0)), (.int .u8 (.lit 0))]), (.bool (.lit 0))]))
 (.call 196 [(.var kB 0)] 11 2
 (.leaf (.tup [(.agg [(.int .u64 (.var kU 11)), (.int .u64 (.var kU 12)), (.int .u8 (.lit 1))]), (.bool (.lit 1))])))))))))))
theorem x_nan_Pick_3 : execFS (ctxA E7 M0 S0) 3000 140 c_nan_Pick_3 = t_nan_Pick_3 := by kernel_rfl
def F_nan_Pick_3 : List Int → List Int := treeF (phiA E7 M0 S0) ⟨c_nan_Pick_3.a, c_nan_Pick_3.r⟩ t_nan_Pick_3
theorem e_nan_Pick_3 : EntSOK Tryz.prog gG ⟨140, c_nan_Pick_3, F_nan_Pick_3⟩ := entS_of ok_K1 3000 x_nan_Pick_3 (by kernel_rfl)
def S1 : List EntS := ⟨140, c_nan_Pick_1, F_nan_Pick_1⟩ :: ⟨140, c_nan_Pick_2, F_nan_Pick_2⟩ :: ⟨140, c_nan_Pick_3, F_nan_Pick_3⟩ :: S0
theorem S1_ok : ∀ e ∈ S1, EntSOK Tryz.prog gG e := List.forall_mem_cons.2 ⟨e_nan_Pick_1, List.forall_mem_cons.2 ⟨e_nan_Pick_2, List.forall_mem_cons.2 ⟨e_nan_Pick_3, S0_ok⟩⟩⟩
end Go.Proofs.YtemomocmfggiaaaGreatDoor
