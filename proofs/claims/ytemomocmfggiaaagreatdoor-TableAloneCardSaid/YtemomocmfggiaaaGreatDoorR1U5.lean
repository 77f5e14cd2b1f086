import Derived.Test.YtemomocmfggiaaaGreatDoorQ2U5
namespace Go.Proofs.YtemomocmfggiaaaGreatDoor
set_option linter.unusedVariables false
set_option maxRecDepth 100000
open Go.RowKit
theorem ok_R1 : SOKT (ctxA E20 M0 S1) eE := ctxA_ok E20_ok M0_ok S1_ok (by kernel_rfl)
def c_rem_Rem : Ct := ⟨[.sc kB, .agg [kU, kU], .agg [kU, kU]], [.agg [kU, kU, kB]]⟩
noncomputable def X_rem_Rem : Tr' SV := execF (ctxA E20 M0 S1) 3000 92 (uns c_rem_Rem.a (varsAt 0 (kindsOf c_rem_Rem.a))) (kindsOf c_rem_Rem.a).length
def t_rem_Rem_1 : Tr' SV :=
 (.leaf (.agg [(.int .u64 (.lit 0)), (.int .u64 (.lit 0)), (.int .u8 (.lit 0))]))
theorem x_rem_Rem_1 : X_rem_Rem.th = t_rem_Rem_1 := by kernel_rfl
def t_rem_Rem_2 : Tr' SV :=
 (.call 2000140 [(.var kB 0), (.lit 0), (.var kU 1), (.var kU 2), (.var kU 3), (.var kU 4)] 16 4
 (.ite (.var .bool 19)
 (.leaf (.agg [(.int .u64 (.var kU 16)), (.int .u64 (.var kU 17)), (.int .u8 (.var kB 18))]))
 (.ite (.bin .eql .u8 (.var kB 6) (.lit 0))
 (.call 35 [(.var kB 0), (.var kU 1), (.var kU 2)] 20 2
 (.leaf (.agg [(.int .u64 (.var kU 20)), (.int .u64 (.var kU 21)), (.int .u8 (.lit 0))])))
 (.ite (.bin .eql .u8 (.var kB 11) (.lit 3))
 (.call 35 [(.var kB 0), (.var kU 1), (.var kU 2)] 20 2
 (.leaf (.agg [(.int .u64 (.var kU 20)), (.int .u64 (.var kU 21)), (.int .u8 (.lit 0))])))
 (.ite (.bin .lss .i64 (.var kI 7) (.bin .sub .i64 (.var kI 12) (.lit 1)))
 (.call 35 [(.var kB 0), (.var kU 1), (.var kU 2)] 20 2
 (.leaf (.agg [(.int .u64 (.var kU 20)), (.int .u64 (.var kU 21)), (.int .u8 (.lit 0))])))
 (.ite (.bin .eql .i64 (.var kI 7) (.bin .sub .i64 (.var kI 12) (.lit 1)))
 (.call 155 [(.var kU 8), (.var kU 9)] 20 4
 (.call 159 [(.var kU 8), (.var kU 9), (.var kU 13), (.var kU 14)] 24 1
 (.ite (.bin .gtr .i64 (.var kI 24) (.lit 0))
 (.call 155 [(.var kU 13), (.var kU 14)] 25 4
 (.call 155 [(.var kU 13), (.var kU 14)] 29 4
 (.call 160 [(.var kU 25), (.var kU 26), (.var kU 27), (.var kU 28), (.var kU 29), (.var kU 30), (.var kU 31), (.var kU 32)] 33 5
 (.call 161 [(.var kU 33), (.var kU 34), (.var kU 35), (.var kU 36), (.var kU 20), (.var kU 21), (.var kU 22), (.var kU 23)] 38 5
 (.call 166 [(.var kU 38), (.var kU 39), (.var kU 40), (.var kU 41)] 43 1
 (.call 147 [(.var kB 0), (.lit 4), (.lit 0), (.not (.beq (.var .bool 5) (.not (.var .bool 43)))), (.bin .add .i64 (.min (.var kI 7) (.var kI 12)) (.lit 128)), (.var kU 38), (.var kU 39), (.var kU 40), (.var kU 41)] 44 3
 (.ite (.bin .neq .u8 (.var kB 46) (.lit 0))
 (.leaf (.agg [(.int .u64 (.lit 0)), (.int .u64 (.lit 0)), (.int .u8 (.lit 0))]))
 (.leaf (.agg [(.int .u64 (.var kU 44)), (.int .u64 (.var kU 45)), (.int .u8 (.lit 0))])))))))))
 (.call 147 [(.var kB 0), (.lit 4), (.lit 0), (.not (.beq (.var .bool 5) (.lit 0))), (.bin .add .i64 (.min (.var kI 7) (.var kI 12)) (.lit 128)), (.var kU 20), (.var kU 21), (.var kU 22), (.var kU 23)] 25 3
 (.ite (.bin .neq .u8 (.var kB 27) (.lit 0))
 (.leaf (.agg [(.int .u64 (.lit 0)), (.int .u64 (.lit 0)), (.int .u8 (.lit 0))]))
 (.leaf (.agg [(.int .u64 (.var kU 25)), (.int .u64 (.var kU 26)), (.int .u8 (.lit 0))])))))))
 (.call 227 [(.var kU 8), (.var kU 9), (.var kU 13), (.var kU 14)] 20 3
 (.ite (.not (.var .bool 22))
 (.ite (.bin .gtr .i64 (.bin .sub .i64 (.var kI 7) (.var kI 12)) (.lit 0))
 (.call 228 [(.var kU 20), (.var kU 21), (.bin .sub .i64 (.var kI 7) (.var kI 12)), (.var kU 13), (.var kU 14)] 23 4
 (.call 227 [(.var kU 13), (.var kU 14), (.var kU 23), (.var kU 24)] 27 3
 (.call 159 [(.var kU 23), (.var kU 24), (.var kU 27), (.var kU 28)] 30 1
 (.ite (.bin .gtr .i64 (.var kI 30) (.lit 0))
 (.call 155 [(.var kU 27), (.var kU 28)] 31 4
 (.call 166 [(.var kU 31), (.var kU 32), (.var kU 33), (.var kU 34)] 35 1
 (.call 147 [(.var kB 0), (.lit 4), (.lit 0), (.not (.beq (.var .bool 5) (.not (.var .bool 35)))), (.bin .add .i64 (.min (.var kI 7) (.var kI 12)) (.lit 128)), (.var kU 31), (.var kU 32), (.var kU 33), (.var kU 34)] 36 3
 (.ite (.bin .neq .u8 (.var kB 38) (.lit 0))
 (.leaf (.agg [(.int .u64 (.lit 0)), (.int .u64 (.lit 0)), (.int .u8 (.lit 0))]))
 (.leaf (.agg [(.int .u64 (.var kU 36)), (.int .u64 (.var kU 37)), (.int .u8 (.lit 0))]))))))
 (.ite (.bin .eql .i64 (.var kI 30) (.lit 0))
 (.ite (.var .bool 25)
 (.call 155 [(.var kU 27), (.var kU 28)] 31 4
 (.call 166 [(.var kU 31), (.var kU 32), (.var kU 33), (.var kU 34)] 35 1
 (.call 147 [(.var kB 0), (.lit 4), (.lit 0), (.not (.beq (.var .bool 5) (.not (.var .bool 35)))), (.bin .add .i64 (.min (.var kI 7) (.var kI 12)) (.lit 128)), (.var kU 31), (.var kU 32), (.var kU 33), (.var kU 34)] 36 3
 (.ite (.bin .neq .u8 (.var kB 38) (.lit 0))
 (.leaf (.agg [(.int .u64 (.lit 0)), (.int .u64 (.lit 0)), (.int .u8 (.lit 0))]))
 (.leaf (.agg [(.int .u64 (.var kU 36)), (.int .u64 (.var kU 37)), (.int .u8 (.lit 0))]))))))
 (.call 155 [(.var kU 23), (.var kU 24)] 31 4
 (.call 147 [(.var kB 0), (.lit 4), (.lit 0), (.not (.beq (.var .bool 5) (.lit 0))), (.bin .add .i64 (.min (.var kI 7) (.var kI 12)) (.lit 128)), (.var kU 31), (.var kU 32), (.var kU 33), (.var kU 34)] 35 3
 (.ite (.bin .neq .u8 (.var kB 37) (.lit 0))
 (.leaf (.agg [(.int .u64 (.lit 0)), (.int .u64 (.lit 0)), (.int .u8 (.lit 0))]))
 (.leaf (.agg [(.int .u64 (.var kU 35)), (.int .u64 (.var kU 36)), (.int .u8 (.lit 0))]))))))
 (.call 155 [(.var kU 23), (.var kU 24)] 31 4
 (.call 147 [(.var kB 0), (.lit 4), (.lit 0), (.not (.beq (.var .bool 5) (.lit 0))), (.bin .add .i64 (.min (.var kI 7) (.var kI 12)) (.lit 128)), (.var kU 31), (.var kU 32), (.var kU 33), (.var kU 34)] 35 3
 (.ite (.bin .neq .u8 (.var kB 37) (.lit 0))
 (.leaf (.agg [(.int .u64 (.lit 0)), (.int .u64 (.lit 0)), (.int .u8 (.lit 0))]))
 (.leaf (.agg [(.int .u64 (.var kU 35)), (.int .u64 (.var kU 36)), (.int .u8 (.lit 0))]))))))))))
 (.call 227 [(.var kU 13), (.var kU 14), (.var kU 20), (.var kU 21)] 23 3
 (.call 159 [(.var kU 20), (.var kU 21), (.var kU 23), (.var kU 24)] 26 1
 (.ite (.bin .gtr .i64 (.var kI 26) (.lit 0))
 (.call 155 [(.var kU 23), (.var kU 24)] 27 4
 (.call 166 [(.var kU 27), (.var kU 28), (.var kU 29), (.var kU 30)] 31 1
 (.call 147 [(.var kB 0), (.lit 4), (.lit 0), (.not (.beq (.var .bool 5) (.not (.var .bool 31)))), (.bin .add .i64 (.min (.var kI 7) (.var kI 12)) (.lit 128)), (.var kU 27), (.var kU 28), (.var kU 29), (.var kU 30)] 32 3
 (.ite (.bin .neq .u8 (.var kB 34) (.lit 0))
 (.leaf (.agg [(.int .u64 (.lit 0)), (.int .u64 (.lit 0)), (.int .u8 (.lit 0))]))
 (.leaf (.agg [(.int .u64 (.var kU 32)), (.int .u64 (.var kU 33)), (.int .u8 (.lit 0))]))))))
 (.ite (.bin .eql .i64 (.var kI 26) (.lit 0))
 (.call 155 [(.var kU 23), (.var kU 24)] 27 4
 (.call 166 [(.var kU 27), (.var kU 28), (.var kU 29), (.var kU 30)] 31 1
 (.call 147 [(.var kB 0), (.lit 4), (.lit 0), (.not (.beq (.var .bool 5) (.not (.var .bool 31)))), (.bin .add .i64 (.min (.var kI 7) (.var kI 12)) (.lit 128)), (.var kU 27), (.var kU 28), (.var kU 29), (.var kU 30)] 32 3
 (.ite (.bin .neq .u8 (.var kB 34) (.lit 0))
 (.leaf (.agg [(.int .u64 (.lit 0)), (.int .u64 (.lit 0)), (.int .u8 (.lit 0))]))
 (.leaf (.agg [(.int .u64 (.var kU 32)), (.int .u64 (.var kU 33)), (.int .u8 (.lit 0))]))))))
 (.call 155 [(.var kU 20), (.var kU 21)] 27 4
 (.call 147 [(.var kB 0), (.lit 4), (.lit 0), (.not (.beq (.var .bool 5) (.lit 0))), (.bin .add .i64 (.min (.var kI 7) (.var kI 12)) (.lit 128)), (.var kU 27), (.var kU 28), (.var kU 29), (.var kU 30)] 31 3
 (.ite (.bin .neq .u8 (.var kB 33) (.lit 0))
 (.leaf (.agg [(.int .u64 (.lit 0)), (.int .u64 (.lit 0)), (.int .u8 (.lit 0))]))
 (.leaf (.agg [(.int .u64 (.var kU 31)), (.int .u64 (.var kU 32)), (.int .u8 (.lit 0))]))))))))))
 (.ite (.bin .gtr .i64 (.bin .sub .i64 (.var kI 7) (.var kI 12)) (.lit 0))
 (.call 228 [(.var kU 8), (.var kU 9), (.bin .sub .i64 (.var kI 7) (.var kI 12)), (.var kU 13), (.var kU 14)] 23 4
 (.call 227 [(.var kU 13), (.var kU 14), (.var kU 23), (.var kU 24)] 27 3
 (.call 159 [(.var kU 23), (.var kU 24), (.var kU 27), (.var kU 28)] 30 1
 (.ite (.bin .gtr .i64 (.var kI 30) (.lit 0))
 (.call 155 [(.var kU 27), (.var kU 28)] 31 4
 (.call 166 [(.var kU 31), (.var kU 32), (.var kU 33), (.var kU 34)] 35 1
 (.call 147 [(.var kB 0), (.lit 4), (.lit 0), (.not (.beq (.var .bool 5) (.not (.var .bool 35)))), (.bin .add .i64 (.min (.var kI 7) (.var kI 12)) (.lit 128)), (.var kU 31), (.var kU 32), (.var kU 33), (.var kU 34)] 36 3
 (.ite (.bin .neq .u8 (.var kB 38) (.lit 0))
 (.leaf (.agg [(.int .u64 (.lit 0)), (.int .u64 (.lit 0)), (.int .u8 (.lit 0))]))
 (.leaf (.agg [(.int .u64 (.var kU 36)), (.int .u64 (.var kU 37)), (.int .u8 (.lit 0))]))))))
 (.ite (.bin .eql .i64 (.var kI 30) (.lit 0))
 (.ite (.var .bool 25)
 (.call 155 [(.var kU 27), (.var kU 28)] 31 4
 (.call 166 [(.var kU 31), (.var kU 32), (.var kU 33), (.var kU 34)] 35 1
 (.call 147 [(.var kB 0), (.lit 4), (.lit 0), (.not (.beq (.var .bool 5) (.not (.var .bool 35)))), (.bin .add .i64 (.min (.var kI 7) (.var kI 12)) (.lit 128)), (.var kU 31), (.var kU 32), (.var kU 33), (.var kU 34)] 36 3
 (.ite (.bin .neq .u8 (.var kB 38) (.lit 0))
 (.leaf (.agg [(.int .u64 (.lit 0)), (.int .u64 (.lit 0)), (.int .u8 (.lit 0))]))
 (.leaf (.agg [(.int .u64 (.var kU 36)), (.int .u64 (.var kU 37)), (.int .u8 (.lit 0))]))))))
 (.call 155 [(.var kU 23), (.var kU 24)] 31 4
 (.call 147 [(.var kB 0), (.lit 4), (.lit 0), (.not (.beq (.var .bool 5) (.lit 0))), (.bin .add .i64 (.min (.var kI 7) (.var kI 12)) (.lit 128)), (.var kU 31), (.var kU 32), (.var kU 33), (.var kU 34)] 35 3
 (.ite (.bin .neq .u8 (.var kB 37) (.lit 0))
 (.leaf (.agg [(.int .u64 (.lit 0)), (.int .u64 (.lit 0)), (.int .u8 (.lit 0))]))
 (.leaf (.agg [(.int .u64 (.var kU 35)), (.int .u64 (.var kU 36)), (.int .u8 (.lit 0))]))))))
 (.call 155 [(.var kU 23), (.var kU 24)] 31 4
 (.call 147 [(.var kB 0), (.lit 4), (.lit 0), (.not (.beq (.var .bool 5) (.lit 0))), (.bin .add .i64 (.min (.var kI 7) (.var kI 12)) (.lit 128)), (.var kU 31), (.var kU 32), (.var kU 33), (.var kU 34)] 35 3
 (.ite (.bin .neq .u8 (.var kB 37) (.lit 0))
 (.leaf (.agg [(.int .u64 (.lit 0)), (.int .u64 (.lit 0)), (.int .u8 (.lit 0))]))
 (.leaf (.agg [(.int .u64 (.var kU 35)), (.int .u64 (.var kU 36)), (.int .u8 (.lit 0))]))))))))))
 (.call 227 [(.var kU 13), (.var kU 14), (.var kU 8), (.var kU 9)] 23 3
 (.call 159 [(.var kU 8), (.var kU 9), (.var kU 23), (.var kU 24)] 26 1
 (.ite (.bin .gtr .i64 (.var kI 26) (.lit 0))
 (.call 155 [(.var kU 23), (.var kU 24)] 27 4
 (.call 166 [(.var kU 27), (.var kU 28), (.var kU 29), (.var kU 30)] 31 1
 (.call 147 [(.var kB 0), (.lit 4), (.lit 0), (.not (.beq (.var .bool 5) (.not (.var .bool 31)))), (.bin .add .i64 (.min (.var kI 7) (.var kI 12)) (.lit 128)), (.var kU 27), (.var kU 28), (.var kU 29), (.var kU 30)] 32 3
 (.ite (.bin .neq .u8 (.var kB 34) (.lit 0))
 (.leaf (.agg [(.int .u64 (.lit 0)), (.int .u64 (.lit 0)), (.int .u8 (.lit 0))]))
 (.leaf (.agg [(.int .u64 (.var kU 32)), (.int .u64 (.var kU 33)), (.int .u8 (.lit 0))]))))))
 (.ite (.bin .eql .i64 (.var kI 26) (.lit 0))
 (.call 155 [(.var kU 8), (.var kU 9)] 27 4
 (.call 147 [(.var kB 0), (.lit 4), (.lit 0), (.not (.beq (.var .bool 5) (.lit 0))), (.bin .add .i64 (.min (.var kI 7) (.var kI 12)) (.lit 128)), (.var kU 27), (.var kU 28), (.var kU 29), (.var kU 30)] 31 3
 (.ite (.bin .neq .u8 (.var kB 33) (.lit 0))
 (.leaf (.agg [(.int .u64 (.lit 0)), (.int .u64 (.lit 0)), (.int .u8 (.lit 0))]))
 (.leaf (.agg [(.int .u64 (.var kU 31)), (.int .u64 (.var kU 32)), (.int .u8 (.lit 0))])))))
 (.call 155 [(.var kU 8), (.var kU 9)] 27 4
 (.call 147 [(.var kB 0), (.lit 4), (.lit 0), (.not (.beq (.var .bool 5) (.lit 0))), (.bin .add .i64 (.min (.var kI 7) (.var kI 12)) (.lit 128)), (.var kU 27), (.var kU 28), (.var kU 29), (.var kU 30)] 31 3
 (.ite (.bin .neq .u8 (.var kB 33) (.lit 0))
 (.leaf (.agg [(.int .u64 (.lit 0)), (.int .u64 (.lit 0)), (.int .u8 (.lit 0))]))
 (.leaf (.agg [(.int .u64 (.var kU 31)), (.int .u64 (.var kU 32)), (.int .u8 (.lit 0))]))))))))))))))))))
theorem x_rem_Rem_2 : X_rem_Rem.el.nx.nx.nx.th = t_rem_Rem_2 := by kernel_rfl
def t_rem_Rem_3 : Tr' SV :=
 (.call 2000140 [(.var kB 0), (.lit 0), (.var kU 1), (.var kU 2), (.var kU 3), (.var kU 4)] 17 4
 (.ite (.var .bool 20)
 (.leaf (.agg [(.int .u64 (.var kU 17)), (.int .u64 (.var kU 18)), (.int .u8 (.var kB 19))]))
 (.ite (.bin .eql .u8 (.var kB 6) (.lit 0))
 (.call 35 [(.var kB 0), (.var kU 1), (.var kU 2)] 21 2
 (.leaf (.agg [(.int .u64 (.var kU 21)), (.int .u64 (.var kU 22)), (.int .u8 (.lit 0))])))
 (.ite (.bin .eql .u8 (.var kB 11) (.lit 3))
 (.call 35 [(.var kB 0), (.var kU 1), (.var kU 2)] 21 2
 (.leaf (.agg [(.int .u64 (.var kU 21)), (.int .u64 (.var kU 22)), (.int .u8 (.lit 0))])))
 (.ite (.bin .lss .i64 (.var kI 7) (.bin .sub .i64 (.var kI 12) (.lit 1)))
 (.call 35 [(.var kB 0), (.var kU 1), (.var kU 2)] 21 2
 (.leaf (.agg [(.int .u64 (.var kU 21)), (.int .u64 (.var kU 22)), (.int .u8 (.lit 0))])))
 (.ite (.bin .eql .i64 (.var kI 7) (.bin .sub .i64 (.var kI 12) (.lit 1)))
 (.call 155 [(.var kU 8), (.var kU 9)] 21 4
 (.call 159 [(.var kU 8), (.var kU 9), (.var kU 13), (.var kU 14)] 25 1
 (.ite (.bin .gtr .i64 (.var kI 25) (.lit 0))
 (.call 155 [(.var kU 13), (.var kU 14)] 26 4
 (.call 155 [(.var kU 13), (.var kU 14)] 30 4
 (.call 160 [(.var kU 26), (.var kU 27), (.var kU 28), (.var kU 29), (.var kU 30), (.var kU 31), (.var kU 32), (.var kU 33)] 34 5
 (.call 161 [(.var kU 34), (.var kU 35), (.var kU 36), (.var kU 37), (.var kU 21), (.var kU 22), (.var kU 23), (.var kU 24)] 39 5
 (.call 166 [(.var kU 39), (.var kU 40), (.var kU 41), (.var kU 42)] 44 1
 (.call 147 [(.var kB 0), (.lit 4), (.lit 0), (.not (.beq (.var .bool 5) (.not (.var .bool 44)))), (.bin .add .i64 (.min (.var kI 7) (.var kI 12)) (.lit 128)), (.var kU 39), (.var kU 40), (.var kU 41), (.var kU 42)] 45 3
 (.ite (.bin .neq .u8 (.var kB 47) (.lit 0))
 (.leaf (.agg [(.int .u64 (.lit 0)), (.int .u64 (.lit 0)), (.int .u8 (.lit 0))]))
 (.leaf (.agg [(.int .u64 (.var kU 45)), (.int .u64 (.var kU 46)), (.int .u8 (.lit 0))])))))))))
 (.call 147 [(.var kB 0), (.lit 4), (.lit 0), (.not (.beq (.var .bool 5) (.lit 0))), (.bin .add .i64 (.min (.var kI 7) (.var kI 12)) (.lit 128)), (.var kU 21), (.var kU 22), (.var kU 23), (.var kU 24)] 26 3
 (.ite (.bin .neq .u8 (.var kB 28) (.lit 0))
 (.leaf (.agg [(.int .u64 (.lit 0)), (.int .u64 (.lit 0)), (.int .u8 (.lit 0))]))
 (.leaf (.agg [(.int .u64 (.var kU 26)), (.int .u64 (.var kU 27)), (.int .u8 (.lit 0))])))))))
 (.call 227 [(.var kU 8), (.var kU 9), (.var kU 13), (.var kU 14)] 21 3
 (.ite (.not (.var .bool 23))
 (.ite (.bin .gtr .i64 (.bin .sub .i64 (.var kI 7) (.var kI 12)) (.lit 0))
 (.call 228 [(.var kU 21), (.var kU 22), (.bin .sub .i64 (.var kI 7) (.var kI 12)), (.var kU 13), (.var kU 14)] 24 4
 (.call 227 [(.var kU 13), (.var kU 14), (.var kU 24), (.var kU 25)] 28 3
 (.call 159 [(.var kU 24), (.var kU 25), (.var kU 28), (.var kU 29)] 31 1
 (.ite (.bin .gtr .i64 (.var kI 31) (.lit 0))
 (.call 155 [(.var kU 28), (.var kU 29)] 32 4
 (.call 166 [(.var kU 32), (.var kU 33), (.var kU 34), (.var kU 35)] 36 1
 (.call 147 [(.var kB 0), (.lit 4), (.lit 0), (.not (.beq (.var .bool 5) (.not (.var .bool 36)))), (.bin .add .i64 (.min (.var kI 7) (.var kI 12)) (.lit 128)), (.var kU 32), (.var kU 33), (.var kU 34), (.var kU 35)] 37 3
 (.ite (.bin .neq .u8 (.var kB 39) (.lit 0))
 (.leaf (.agg [(.int .u64 (.lit 0)), (.int .u64 (.lit 0)), (.int .u8 (.lit 0))]))
 (.leaf (.agg [(.int .u64 (.var kU 37)), (.int .u64 (.var kU 38)), (.int .u8 (.lit 0))]))))))
 (.ite (.bin .eql .i64 (.var kI 31) (.lit 0))
 (.ite (.var .bool 26)
 (.call 155 [(.var kU 28), (.var kU 29)] 32 4
 (.call 166 [(.var kU 32), (.var kU 33), (.var kU 34), (.var kU 35)] 36 1
 (.call 147 [(.var kB 0), (.lit 4), (.lit 0), (.not (.beq (.var .bool 5) (.not (.var .bool 36)))), (.bin .add .i64 (.min (.var kI 7) (.var kI 12)) (.lit 128)), (.var kU 32), (.var kU 33), (.var kU 34), (.var kU 35)] 37 3
 (.ite (.bin .neq .u8 (.var kB 39) (.lit 0))
 (.leaf (.agg [(.int .u64 (.lit 0)), (.int .u64 (.lit 0)), (.int .u8 (.lit 0))]))
 (.leaf (.agg [(.int .u64 (.var kU 37)), (.int .u64 (.var kU 38)), (.int .u8 (.lit 0))]))))))
 (.call 155 [(.var kU 24), (.var kU 25)] 32 4
 (.call 147 [(.var kB 0), (.lit 4), (.lit 0), (.not (.beq (.var .bool 5) (.lit 0))), (.bin .add .i64 (.min (.var kI 7) (.var kI 12)) (.lit 128)), (.var kU 32), (.var kU 33), (.var kU 34), (.var kU 35)] 36 3
 (.ite (.bin .neq .u8 (.var kB 38) (.lit 0))
 (.leaf (.agg [(.int .u64 (.lit 0)), (.int .u64 (.lit 0)), (.int .u8 (.lit 0))]))
 (.leaf (.agg [(.int .u64 (.var kU 36)), (.int .u64 (.var kU 37)), (.int .u8 (.lit 0))]))))))
 (.call 155 [(.var kU 24), (.var kU 25)] 32 4
 (.call 147 [(.var kB 0), (.lit 4), (.lit 0), (.not (.beq (.var .bool 5) (.lit 0))), (.bin .add .i64 (.min (.var kI 7) (.var kI 12)) (.lit 128)), (.var kU 32), (.var kU 33), (.var kU 34), (.var kU 35)] 36 3
 (.ite (.bin .neq .u8 (.var kB 38) (.lit 0))
 (.leaf (.agg [(.int .u64 (.lit 0)), (.int .u64 (.lit 0)), (.int .u8 (.lit 0))]))
 (.leaf (.agg [(.int .u64 (.var kU 36)), (.int .u64 (.var kU 37)), (.int .u8 (.lit 0))]))))))))))
 (.call 227 [(.var kU 13), (.var kU 14), (.var kU 21), (.var kU 22)] 24 3
 (.call 159 [(.var kU 21), (.var kU 22), (.var kU 24), (.var kU 25)] 27 1
 (.ite (.bin .gtr .i64 (.var kI 27) (.lit 0))
 (.call 155 [(.var kU 24), (.var kU 25)] 28 4
 (.call 166 [(.var kU 28), (.var kU 29), (.var kU 30), (.var kU 31)] 32 1
 (.call 147 [(.var kB 0), (.lit 4), (.lit 0), (.not (.beq (.var .bool 5) (.not (.var .bool 32)))), (.bin .add .i64 (.min (.var kI 7) (.var kI 12)) (.lit 128)), (.var kU 28), (.var kU 29), (.var kU 30), (.var kU 31)] 33 3
 (.ite (.bin .neq .u8 (.var kB 35) (.lit 0))
 (.leaf (.agg [(.int .u64 (.lit 0)), (.int .u64 (.lit 0)), (.int .u8 (.lit 0))]))
 (.leaf (.agg [(.int .u64 (.var kU 33)), (.int .u64 (.var kU 34)), (.int .u8 (.lit 0))]))))))
 (.ite (.bin .eql .i64 (.var kI 27) (.lit 0))
 (.call 155 [(.var kU 24), (.var kU 25)] 28 4
 (.call 166 [(.var kU 28), (.var kU 29), (.var kU 30), (.var kU 31)] 32 1
 (.call 147 [(.var kB 0), (.lit 4), (.lit 0), (.not (.beq (.var .bool 5) (.not (.var .bool 32)))), (.bin .add .i64 (.min (.var kI 7) (.var kI 12)) (.lit 128)), (.var kU 28), (.var kU 29), (.var kU 30), (.var kU 31)] 33 3
 (.ite (.bin .neq .u8 (.var kB 35) (.lit 0))
 (.leaf (.agg [(.int .u64 (.lit 0)), (.int .u64 (.lit 0)), (.int .u8 (.lit 0))]))
 (.leaf (.agg [(.int .u64 (.var kU 33)), (.int .u64 (.var kU 34)), (.int .u8 (.lit 0))]))))))
 (.call 155 [(.var kU 21), (.var kU 22)] 28 4
 (.call 147 [(.var kB 0), (.lit 4), (.lit 0), (.not (.beq (.var .bool 5) (.lit 0))), (.bin .add .i64 (.min (.var kI 7) (.var kI 12)) (.lit 128)), (.var kU 28), (.var kU 29), (.var kU 30), (.var kU 31)] 32 3
 (.ite (.bin .neq .u8 (.var kB 34) (.lit 0))
 (.leaf (.agg [(.int .u64 (.lit 0)), (.int .u64 (.lit 0)), (.int .u8 (.lit 0))]))
 (.leaf (.agg [(.int .u64 (.var kU 32)), (.int .u64 (.var kU 33)), (.int .u8 (.lit 0))]))))))))))
 (.ite (.bin .gtr .i64 (.bin .sub .i64 (.var kI 7) (.var kI 12)) (.lit 0))
 (.call 228 [(.var kU 8), (.var kU 9), (.bin .sub .i64 (.var kI 7) (.var kI 12)), (.var kU 13), (.var kU 14)] 24 4
 (.call 227 [(.var kU 13), (.var kU 14), (.var kU 24), (.var kU 25)] 28 3
 (.call 159 [(.var kU 24), (.var kU 25), (.var kU 28), (.var kU 29)] 31 1
 (.ite (.bin .gtr .i64 (.var kI 31) (.lit 0))
 (.call 155 [(.var kU 28), (.var kU 29)] 32 4
 (.call 166 [(.var kU 32), (.var kU 33), (.var kU 34), (.var kU 35)] 36 1
 (.call 147 [(.var kB 0), (.lit 4), (.lit 0), (.not (.beq (.var .bool 5) (.not (.var .bool 36)))), (.bin .add .i64 (.min (.var kI 7) (.var kI 12)) (.lit 128)), (.var kU 32), (.var kU 33), (.var kU 34), (.var kU 35)] 37 3
 (.ite (.bin .neq .u8 (.var kB 39) (.lit 0))
 (.leaf (.agg [(.int .u64 (.lit 0)), (.int .u64 (.lit 0)), (.int .u8 (.lit 0))]))
 (.leaf (.agg [(.int .u64 (.var kU 37)), (.int .u64 (.var kU 38)), (.int .u8 (.lit 0))]))))))
 (.ite (.bin .eql .i64 (.var kI 31) (.lit 0))
 (.ite (.var .bool 26)
 (.call 155 [(.var kU 28), (.var kU 29)] 32 4
 (.call 166 [(.var kU 32), (.var kU 33), (.var kU 34), (.var kU 35)] 36 1
 (.call 147 [(.var kB 0), (.lit 4), (.lit 0), (.not (.beq (.var .bool 5) (.not (.var .bool 36)))), (.bin .add .i64 (.min (.var kI 7) (.var kI 12)) (.lit 128)), (.var kU 32), (.var kU 33), (.var kU 34), (.var kU 35)] 37 3
 (.ite (.bin .neq .u8 (.var kB 39) (.lit 0))
 (.leaf (.agg [(.int .u64 (.lit 0)), (.int .u64 (.lit 0)), (.int .u8 (.lit 0))]))
 (.leaf (.agg [(.int .u64 (.var kU 37)), (.int .u64 (.var kU 38)), (.int .u8 (.lit 0))]))))))
 (.call 155 [(.var kU 24), (.var kU 25)] 32 4
 (.call 147 [(.var kB 0), (.lit 4), (.lit 0), (.not (.beq (.var .bool 5) (.lit 0))), (.bin .add .i64 (.min (.var kI 7) (.var kI 12)) (.lit 128)), (.var kU 32), (.var kU 33), (.var kU 34), (.var kU 35)] 36 3
 (.ite (.bin .neq .u8 (.var kB 38) (.lit 0))
 (.leaf (.agg [(.int .u64 (.lit 0)), (.int .u64 (.lit 0)), (.int .u8 (.lit 0))]))
 (.leaf (.agg [(.int .u64 (.var kU 36)), (.int .u64 (.var kU 37)), (.int .u8 (.lit 0))]))))))
 (.call 155 [(.var kU 24), (.var kU 25)] 32 4
 (.call 147 [(.var kB 0), (.lit 4), (.lit 0), (.not (.beq (.var .bool 5) (.lit 0))), (.bin .add .i64 (.min (.var kI 7) (.var kI 12)) (.lit 128)), (.var kU 32), (.var kU 33), (.var kU 34), (.var kU 35)] 36 3
 (.ite (.bin .neq .u8 (.var kB 38) (.lit 0))
 (.leaf (.agg [(.int .u64 (.lit 0)), (.int .u64 (.lit 0)), (.int .u8 (.lit 0))]))
 (.leaf (.agg [(.int .u64 (.var kU 36)), (.int .u64 (.var kU 37)), (.int .u8 (.lit 0))]))))))))))
 (.call 227 [(.var kU 13), (.var kU 14), (.var kU 8), (.var kU 9)] 24 3
 (.call 159 [(.var kU 8), (.var kU 9), (.var kU 24), (.var kU 25)] 27 1
 (.ite (.bin .gtr .i64 (.var kI 27) (.lit 0))
 (.call 155 [(.var kU 24), (.var kU 25)] 28 4
 (.call 166 [(.var kU 28), (.var kU 29), (.var kU 30), (.var kU 31)] 32 1
 (.call 147 [(.var kB 0), (.lit 4), (.lit 0), (.not (.beq (.var .bool 5) (.not (.var .bool 32)))), (.bin .add .i64 (.min (.var kI 7) (.var kI 12)) (.lit 128)), (.var kU 28), (.var kU 29), (.var kU 30), (.var kU 31)] 33 3
 (.ite (.bin .neq .u8 (.var kB 35) (.lit 0))
 (.leaf (.agg [(.int .u64 (.lit 0)), (.int .u64 (.lit 0)), (.int .u8 (.lit 0))]))
 (.leaf (.agg [(.int .u64 (.var kU 33)), (.int .u64 (.var kU 34)), (.int .u8 (.lit 0))]))))))
 (.ite (.bin .eql .i64 (.var kI 27) (.lit 0))
 (.call 155 [(.var kU 8), (.var kU 9)] 28 4
 (.call 147 [(.var kB 0), (.lit 4), (.lit 0), (.not (.beq (.var .bool 5) (.lit 0))), (.bin .add .i64 (.min (.var kI 7) (.var kI 12)) (.lit 128)), (.var kU 28), (.var kU 29), (.var kU 30), (.var kU 31)] 32 3
 (.ite (.bin .neq .u8 (.var kB 34) (.lit 0))
 (.leaf (.agg [(.int .u64 (.lit 0)), (.int .u64 (.lit 0)), (.int .u8 (.lit 0))]))
 (.leaf (.agg [(.int .u64 (.var kU 32)), (.int .u64 (.var kU 33)), (.int .u8 (.lit 0))])))))
 (.call 155 [(.var kU 8), (.var kU 9)] 28 4
 (.call 147 [(.var kB 0), (.lit 4), (.lit 0), (.not (.beq (.var .bool 5) (.lit 0))), (.bin .add .i64 (.min (.var kI 7) (.var kI 12)) (.lit 128)), (.var kU 28), (.var kU 29), (.var kU 30), (.var kU 31)] 32 3
 (.ite (.bin .neq .u8 (.var kB 34) (.lit 0))
 (.leaf (.agg [(.int .u64 (.lit 0)), (.int .u64 (.lit 0)), (.int .u8 (.lit 0))]))
 (.leaf (.agg [(.int .u64 (.var kU 32)), (.int .u64 (.var kU 33)), (.int .u8 (.lit 0))]))))))))))))))))))
theorem x_rem_Rem_3 : X_rem_Rem.el.nx.nx.nx.el.nx.th = t_rem_Rem_3 := by kernel_rfl
def t_rem_Rem_4 : Tr' SV :=
 (.call 2000140 [(.var kB 0), (.lit 1), (.var kU 1), (.var kU 2), (.var kU 3), (.var kU 4)] 17 4
 (.ite (.var .bool 20)
 (.leaf (.agg [(.int .u64 (.var kU 17)), (.int .u64 (.var kU 18)), (.int .u8 (.var kB 19))]))
 (.ite (.bin .eql .u8 (.var kB 11) (.lit 3))
 (.call 35 [(.var kB 0), (.var kU 1), (.var kU 2)] 21 2
 (.leaf (.agg [(.int .u64 (.var kU 21)), (.int .u64 (.var kU 22)), (.int .u8 (.lit 0))])))
 (.ite (.bin .lss .i64 (.var kI 7) (.bin .sub .i64 (.var kI 12) (.lit 1)))
 (.call 35 [(.var kB 0), (.var kU 1), (.var kU 2)] 21 2
 (.leaf (.agg [(.int .u64 (.var kU 21)), (.int .u64 (.var kU 22)), (.int .u8 (.lit 0))])))
 (.ite (.bin .eql .i64 (.var kI 7) (.bin .sub .i64 (.var kI 12) (.lit 1)))
 (.call 155 [(.var kU 8), (.var kU 9)] 21 4
 (.call 159 [(.var kU 8), (.var kU 9), (.var kU 13), (.var kU 14)] 25 1
 (.ite (.bin .gtr .i64 (.var kI 25) (.lit 0))
 (.call 155 [(.var kU 13), (.var kU 14)] 26 4
 (.call 155 [(.var kU 13), (.var kU 14)] 30 4
 (.call 160 [(.var kU 26), (.var kU 27), (.var kU 28), (.var kU 29), (.var kU 30), (.var kU 31), (.var kU 32), (.var kU 33)] 34 5
 (.call 161 [(.var kU 34), (.var kU 35), (.var kU 36), (.var kU 37), (.var kU 21), (.var kU 22), (.var kU 23), (.var kU 24)] 39 5
 (.call 166 [(.var kU 39), (.var kU 40), (.var kU 41), (.var kU 42)] 44 1
 (.call 147 [(.var kB 0), (.lit 4), (.lit 0), (.not (.beq (.var .bool 5) (.not (.var .bool 44)))), (.bin .add .i64 (.min (.var kI 7) (.var kI 12)) (.lit 128)), (.var kU 39), (.var kU 40), (.var kU 41), (.var kU 42)] 45 3
 (.ite (.bin .neq .u8 (.var kB 47) (.lit 0))
 (.leaf (.agg [(.int .u64 (.lit 0)), (.int .u64 (.lit 0)), (.int .u8 (.lit 0))]))
 (.leaf (.agg [(.int .u64 (.var kU 45)), (.int .u64 (.var kU 46)), (.int .u8 (.lit 0))])))))))))
 (.call 147 [(.var kB 0), (.lit 4), (.lit 0), (.not (.beq (.var .bool 5) (.lit 0))), (.bin .add .i64 (.min (.var kI 7) (.var kI 12)) (.lit 128)), (.var kU 21), (.var kU 22), (.var kU 23), (.var kU 24)] 26 3
 (.ite (.bin .neq .u8 (.var kB 28) (.lit 0))
 (.leaf (.agg [(.int .u64 (.lit 0)), (.int .u64 (.lit 0)), (.int .u8 (.lit 0))]))
 (.leaf (.agg [(.int .u64 (.var kU 26)), (.int .u64 (.var kU 27)), (.int .u8 (.lit 0))])))))))
 (.call 227 [(.var kU 8), (.var kU 9), (.var kU 13), (.var kU 14)] 21 3
 (.ite (.not (.var .bool 23))
 (.ite (.bin .gtr .i64 (.bin .sub .i64 (.var kI 7) (.var kI 12)) (.lit 0))
 (.call 228 [(.var kU 21), (.var kU 22), (.bin .sub .i64 (.var kI 7) (.var kI 12)), (.var kU 13), (.var kU 14)] 24 4
 (.call 227 [(.var kU 13), (.var kU 14), (.var kU 24), (.var kU 25)] 28 3
 (.call 159 [(.var kU 24), (.var kU 25), (.var kU 28), (.var kU 29)] 31 1
 (.ite (.bin .gtr .i64 (.var kI 31) (.lit 0))
 (.call 155 [(.var kU 28), (.var kU 29)] 32 4
 (.call 166 [(.var kU 32), (.var kU 33), (.var kU 34), (.var kU 35)] 36 1
 (.call 147 [(.var kB 0), (.lit 4), (.lit 0), (.not (.beq (.var .bool 5) (.not (.var .bool 36)))), (.bin .add .i64 (.min (.var kI 7) (.var kI 12)) (.lit 128)), (.var kU 32), (.var kU 33), (.var kU 34), (.var kU 35)] 37 3
 (.ite (.bin .neq .u8 (.var kB 39) (.lit 0))
 (.leaf (.agg [(.int .u64 (.lit 0)), (.int .u64 (.lit 0)), (.int .u8 (.lit 0))]))
 (.leaf (.agg [(.int .u64 (.var kU 37)), (.int .u64 (.var kU 38)), (.int .u8 (.lit 0))]))))))
 (.ite (.bin .eql .i64 (.var kI 31) (.lit 0))
 (.ite (.var .bool 26)
 (.call 155 [(.var kU 28), (.var kU 29)] 32 4
 (.call 166 [(.var kU 32), (.var kU 33), (.var kU 34), (.var kU 35)] 36 1
 (.call 147 [(.var kB 0), (.lit 4), (.lit 0), (.not (.beq (.var .bool 5) (.not (.var .bool 36)))), (.bin .add .i64 (.min (.var kI 7) (.var kI 12)) (.lit 128)), (.var kU 32), (.var kU 33), (.var kU 34), (.var kU 35)] 37 3
 (.ite (.bin .neq .u8 (.var kB 39) (.lit 0))
 (.leaf (.agg [(.int .u64 (.lit 0)), (.int .u64 (.lit 0)), (.int .u8 (.lit 0))]))
 (.leaf (.agg [(.int .u64 (.var kU 37)), (.int .u64 (.var kU 38)), (.int .u8 (.lit 0))]))))))
 (.call 155 [(.var kU 24), (.var kU 25)] 32 4
 (.call 147 [(.var kB 0), (.lit 4), (.lit 0), (.not (.beq (.var .bool 5) (.lit 0))), (.bin .add .i64 (.min (.var kI 7) (.var kI 12)) (.lit 128)), (.var kU 32), (.var kU 33), (.var kU 34), (.var kU 35)] 36 3
 (.ite (.bin .neq .u8 (.var kB 38) (.lit 0))
 (.leaf (.agg [(.int .u64 (.lit 0)), (.int .u64 (.lit 0)), (.int .u8 (.lit 0))]))
 (.leaf (.agg [(.int .u64 (.var kU 36)), (.int .u64 (.var kU 37)), (.int .u8 (.lit 0))]))))))
 (.call 155 [(.var kU 24), (.var kU 25)] 32 4
 (.call 147 [(.var kB 0), (.lit 4), (.lit 0), (.not (.beq (.var .bool 5) (.lit 0))), (.bin .add .i64 (.min (.var kI 7) (.var kI 12)) (.lit 128)), (.var kU 32), (.var kU 33), (.var kU 34), (.var kU 35)] 36 3
 (.ite (.bin .neq .u8 (.var kB 38) (.lit 0))
 (.leaf (.agg [(.int .u64 (.lit 0)), (.int .u64 (.lit 0)), (.int .u8 (.lit 0))]))
 (.leaf (.agg [(.int .u64 (.var kU 36)), (.int .u64 (.var kU 37)), (.int .u8 (.lit 0))]))))))))))
 (.call 227 [(.var kU 13), (.var kU 14), (.var kU 21), (.var kU 22)] 24 3
 (.call 159 [(.var kU 21), (.var kU 22), (.var kU 24), (.var kU 25)] 27 1
 (.ite (.bin .gtr .i64 (.var kI 27) (.lit 0))
 (.call 155 [(.var kU 24), (.var kU 25)] 28 4
 (.call 166 [(.var kU 28), (.var kU 29), (.var kU 30), (.var kU 31)] 32 1
 (.call 147 [(.var kB 0), (.lit 4), (.lit 0), (.not (.beq (.var .bool 5) (.not (.var .bool 32)))), (.bin .add .i64 (.min (.var kI 7) (.var kI 12)) (.lit 128)), (.var kU 28), (.var kU 29), (.var kU 30), (.var kU 31)] 33 3
 (.ite (.bin .neq .u8 (.var kB 35) (.lit 0))
 (.leaf (.agg [(.int .u64 (.lit 0)), (.int .u64 (.lit 0)), (.int .u8 (.lit 0))]))
 (.leaf (.agg [(.int .u64 (.var kU 33)), (.int .u64 (.var kU 34)), (.int .u8 (.lit 0))]))))))
 (.ite (.bin .eql .i64 (.var kI 27) (.lit 0))
 (.call 155 [(.var kU 24), (.var kU 25)] 28 4
 (.call 166 [(.var kU 28), (.var kU 29), (.var kU 30), (.var kU 31)] 32 1
 (.call 147 [(.var kB 0), (.lit 4), (.lit 0), (.not (.beq (.var .bool 5) (.not (.var .bool 32)))), (.bin .add .i64 (.min (.var kI 7) (.var kI 12)) (.lit 128)), (.var kU 28), (.var kU 29), (.var kU 30), (.var kU 31)] 33 3
 (.ite (.bin .neq .u8 (.var kB 35) (.lit 0))
 (.leaf (.agg [(.int .u64 (.lit 0)), (.int .u64 (.lit 0)), (.int .u8 (.lit 0))]))
 (.leaf (.agg [(.int .u64 (.var kU 33)), (.int .u64 (.var kU 34)), (.int .u8 (.lit 0))]))))))
 (.call 155 [(.var kU 21), (.var kU 22)] 28 4
 (.call 147 [(.var kB 0), (.lit 4), (.lit 0), (.not (.beq (.var .bool 5) (.lit 0))), (.bin .add .i64 (.min (.var kI 7) (.var kI 12)) (.lit 128)), (.var kU 28), (.var kU 29), (.var kU 30), (.var kU 31)] 32 3
 (.ite (.bin .neq .u8 (.var kB 34) (.lit 0))
 (.leaf (.agg [(.int .u64 (.lit 0)), (.int .u64 (.lit 0)), (.int .u8 (.lit 0))]))
 (.leaf (.agg [(.int .u64 (.var kU 32)), (.int .u64 (.var kU 33)), (.int .u8 (.lit 0))]))))))))))
 (.ite (.bin .gtr .i64 (.bin .sub .i64 (.var kI 7) (.var kI 12)) (.lit 0))
 (.call 228 [(.var kU 8), (.var kU 9), (.bin .sub .i64 (.var kI 7) (.var kI 12)), (.var kU 13), (.var kU 14)] 24 4
 (.call 227 [(.var kU 13), (.var kU 14), (.var kU 24), (.var kU 25)] 28 3
 (.call 159 [(.var kU 24), (.var kU 25), (.var kU 28), (.var kU 29)] 31 1
 (.ite (.bin .gtr .i64 (.var kI 31) (.lit 0))
 (.call 155 [(.var kU 28), (.var kU 29)] 32 4
 (.call 166 [(.var kU 32), (.var kU 33), (.var kU 34), (.var kU 35)] 36 1
 (.call 147 [(.var kB 0), (.lit 4), (.lit 0), (.not (.beq (.var .bool 5) (.not (.var .bool 36)))), (.bin .add .i64 (.min (.var kI 7) (.var kI 12)) (.lit 128)), (.var kU 32), (.var kU 33), (.var kU 34), (.var kU 35)] 37 3
 (.ite (.bin .neq .u8 (.var kB 39) (.lit 0))
 (.leaf (.agg [(.int .u64 (.lit 0)), (.int .u64 (.lit 0)), (.int .u8 (.lit 0))]))
 (.leaf (.agg [(.int .u64 (.var kU 37)), (.int .u64 (.var kU 38)), (.int .u8 (.lit 0))]))))))
 (.ite (.bin .eql .i64 (.var kI 31) (.lit 0))
 (.ite (.var .bool 26)
 (.call 155 [(.var kU 28), (.var kU 29)] 32 4
 (.call 166 [(.var kU 32), (.var kU 33), (.var kU 34), (.var kU 35)] 36 1
 (.call 147 [(.var kB 0), (.lit 4), (.lit 0), (.not (.beq (.var .bool 5) (.not (.var .bool 36)))), (.bin .add .i64 (.min (.var kI 7) (.var kI 12)) (.lit 128)), (.var kU 32), (.var kU 33), (.var kU 34), (.var kU 35)] 37 3
 (.ite (.bin .neq .u8 (.var kB 39) (.lit 0))
 (.leaf (.agg [(.int .u64 (.lit 0)), (.int .u64 (.lit 0)), (.int .u8 (.lit 0))]))
 (.leaf (.agg [(.int .u64 (.var kU 37)), (.int .u64 (.var kU 38)), (.int .u8 (.lit 0))]))))))
 (.call 155 [(.var kU 24), (.var kU 25)] 32 4
 (.call 147 [(.var kB 0), (.lit 4), (.lit 0), (.not (.beq (.var .bool 5) (.lit 0))), (.bin .add .i64 (.min (.var kI 7) (.var kI 12)) (.lit 128)), (.var kU 32), (.var kU 33), (.var kU 34), (.var kU 35)] 36 3
 (.ite (.bin .neq .u8 (.var kB 38) (.lit 0))
 (.leaf (.agg [(.int .u64 (.lit 0)), (.int .u64 (.lit 0)), (.int .u8 (.lit 0))]))
 (.leaf (.agg [(.int .u64 (.var kU 36)), (.int .u64 (.var kU 37)), (.int .u8 (.lit 0))]))))))
 (.call 155 [(.var kU 24), (.var kU 25)] 32 4
 (.call 147 [(.var kB 0), (.lit 4), (.lit 0), (.not (.beq (.var .bool 5) (.lit 0))), (.bin .add .i64 (.min (.var kI 7) (.var kI 12)) (.lit 128)), (.var kU 32), (.var kU 33), (.var kU 34), (.var kU 35)] 36 3
 (.ite (.bin .neq .u8 (.var kB 38) (.lit 0))
 (.leaf (.agg [(.int .u64 (.lit 0)), (.int .u64 (.lit 0)), (.int .u8 (.lit 0))]))
 (.leaf (.agg [(.int .u64 (.var kU 36)), (.int .u64 (.var kU 37)), (.int .u8 (.lit 0))]))))))))))
 (.call 227 [(.var kU 13), (.var kU 14), (.var kU 8), (.var kU 9)] 24 3
 (.call 159 [(.var kU 8), (.var kU 9), (.var kU 24), (.var kU 25)] 27 1
 (.ite (.bin .gtr .i64 (.var kI 27) (.lit 0))
 (.call 155 [(.var kU 24), (.var kU 25)] 28 4
 (.call 166 [(.var kU 28), (.var kU 29), (.var kU 30), (.var kU 31)] 32 1
 (.call 147 [(.var kB 0), (.lit 4), (.lit 0), (.not (.beq (.var .bool 5) (.not (.var .bool 32)))), (.bin .add .i64 (.min (.var kI 7) (.var kI 12)) (.lit 128)), (.var kU 28), (.var kU 29), (.var kU 30), (.var kU 31)] 33 3
 (.ite (.bin .neq .u8 (.var kB 35) (.lit 0))
 (.leaf (.agg [(.int .u64 (.lit 0)), (.int .u64 (.lit 0)), (.int .u8 (.lit 0))]))
 (.leaf (.agg [(.int .u64 (.var kU 33)), (.int .u64 (.var kU 34)), (.int .u8 (.lit 0))]))))))
 (.ite (.bin .eql .i64 (.var kI 27) (.lit 0))
 (.call 155 [(.var kU 8), (.var kU 9)] 28 4
 (.call 147 [(.var kB 0), (.lit 4), (.lit 0), (.not (.beq (.var .bool 5) (.lit 0))), (.bin .add .i64 (.min (.var kI 7) (.var kI 12)) (.lit 128)), (.var kU 28), (.var kU 29), (.var kU 30), (.var kU 31)] 32 3
 (.ite (.bin .neq .u8 (.var kB 34) (.lit 0))
 (.leaf (.agg [(.int .u64 (.lit 0)), (.int .u64 (.lit 0)), (.int .u8 (.lit 0))]))
 (.leaf (.agg [(.int .u64 (.var kU 32)), (.int .u64 (.var kU 33)), (.int .u8 (.lit 0))])))))
 (.call 155 [(.var kU 8), (.var kU 9)] 28 4
 (.call 147 [(.var kB 0), (.lit 4), (.lit 0), (.not (.beq (.var .bool 5) (.lit 0))), (.bin .add .i64 (.min (.var kI 7) (.var kI 12)) (.lit 128)), (.var kU 28), (.var kU 29), (.var kU 30), (.var kU 31)] 32 3
 (.ite (.bin .neq .u8 (.var kB 34) (.lit 0))
 (.leaf (.agg [(.int .u64 (.lit 0)), (.int .u64 (.lit 0)), (.int .u8 (.lit 0))]))
 (.leaf (.agg [(.int .u64 (.var kU 32)), (.int .u64 (.var kU 33)), (.int .u8 (.lit 0))])))))))))))))))))
theorem x_rem_Rem_4 : X_rem_Rem.el.nx.nx.nx.el.nx.el.th = t_rem_Rem_4 := by kernel_rfl
def t_rem_Rem_5 : Tr' SV :=
 (.call 2000140 [(.var kB 0), (.bin .eql .u8 (.var kB 11) (.lit 0)), (.var kU 1), (.var kU 2), (.var kU 3), (.var kU 4)] 17 4
 (.ite (.var .bool 20)
 (.leaf (.agg [(.int .u64 (.var kU 17)), (.int .u64 (.var kU 18)), (.int .u8 (.var kB 19))]))
 (.ite (.bin .eql .u8 (.var kB 6) (.lit 0))
 (.call 35 [(.var kB 0), (.var kU 1), (.var kU 2)] 21 2
 (.leaf (.agg [(.int .u64 (.var kU 21)), (.int .u64 (.var kU 22)), (.int .u8 (.lit 0))])))
 (.ite (.bin .eql .u8 (.var kB 11) (.lit 3))
 (.call 35 [(.var kB 0), (.var kU 1), (.var kU 2)] 21 2
 (.leaf (.agg [(.int .u64 (.var kU 21)), (.int .u64 (.var kU 22)), (.int .u8 (.lit 0))])))
 (.ite (.bin .lss .i64 (.var kI 7) (.bin .sub .i64 (.var kI 12) (.lit 1)))
 (.call 35 [(.var kB 0), (.var kU 1), (.var kU 2)] 21 2
 (.leaf (.agg [(.int .u64 (.var kU 21)), (.int .u64 (.var kU 22)), (.int .u8 (.lit 0))])))
 (.ite (.bin .eql .i64 (.var kI 7) (.bin .sub .i64 (.var kI 12) (.lit 1)))
 (.call 155 [(.var kU 8), (.var kU 9)] 21 4
 (.call 159 [(.var kU 8), (.var kU 9), (.var kU 13), (.var kU 14)] 25 1
 (.ite (.bin .gtr .i64 (.var kI 25) (.lit 0))
 (.call 155 [(.var kU 13), (.var kU 14)] 26 4
 (.call 155 [(.var kU 13), (.var kU 14)] 30 4
 (.call 160 [(.var kU 26), (.var kU 27), (.var kU 28), (.var kU 29), (.var kU 30), (.var kU 31), (.var kU 32), (.var kU 33)] 34 5
 (.call 161 [(.var kU 34), (.var kU 35), (.var kU 36), (.var kU 37), (.var kU 21), (.var kU 22), (.var kU 23), (.var kU 24)] 39 5
 (.call 166 [(.var kU 39), (.var kU 40), (.var kU 41), (.var kU 42)] 44 1
 (.call 147 [(.var kB 0), (.lit 4), (.lit 0), (.not (.beq (.var .bool 5) (.not (.var .bool 44)))), (.bin .add .i64 (.min (.var kI 7) (.var kI 12)) (.lit 128)), (.var kU 39), (.var kU 40), (.var kU 41), (.var kU 42)] 45 3
 (.ite (.bin .neq .u8 (.var kB 47) (.lit 0))
 (.leaf (.agg [(.int .u64 (.lit 0)), (.int .u64 (.lit 0)), (.int .u8 (.lit 0))]))
 (.leaf (.agg [(.int .u64 (.var kU 45)), (.int .u64 (.var kU 46)), (.int .u8 (.lit 0))])))))))))
 (.call 147 [(.var kB 0), (.lit 4), (.lit 0), (.not (.beq (.var .bool 5) (.lit 0))), (.bin .add .i64 (.min (.var kI 7) (.var kI 12)) (.lit 128)), (.var kU 21), (.var kU 22), (.var kU 23), (.var kU 24)] 26 3
 (.ite (.bin .neq .u8 (.var kB 28) (.lit 0))
 (.leaf (.agg [(.int .u64 (.lit 0)), (.int .u64 (.lit 0)), (.int .u8 (.lit 0))]))
 (.leaf (.agg [(.int .u64 (.var kU 26)), (.int .u64 (.var kU 27)), (.int .u8 (.lit 0))])))))))
 (.call 227 [(.var kU 8), (.var kU 9), (.var kU 13), (.var kU 14)] 21 3
 (.ite (.not (.var .bool 23))
 (.ite (.bin .gtr .i64 (.bin .sub .i64 (.var kI 7) (.var kI 12)) (.lit 0))
 (.call 228 [(.var kU 21), (.var kU 22), (.bin .sub .i64 (.var kI 7) (.var kI 12)), (.var kU 13), (.var kU 14)] 24 4
 (.call 227 [(.var kU 13), (.var kU 14), (.var kU 24), (.var kU 25)] 28 3
 (.call 159 [(.var kU 24), (.var kU 25), (.var kU 28), (.var kU 29)] 31 1
 (.ite (.bin .gtr .i64 (.var kI 31) (.lit 0))
 (.call 155 [(.var kU 28), (.var kU 29)] 32 4
 (.call 166 [(.var kU 32), (.var kU 33), (.var kU 34), (.var kU 35)] 36 1
 (.call 147 [(.var kB 0), (.lit 4), (.lit 0), (.not (.beq (.var .bool 5) (.not (.var .bool 36)))), (.bin .add .i64 (.min (.var kI 7) (.var kI 12)) (.lit 128)), (.var kU 32), (.var kU 33), (.var kU 34), (.var kU 35)] 37 3
 (.ite (.bin .neq .u8 (.var kB 39) (.lit 0))
 (.leaf (.agg [(.int .u64 (.lit 0)), (.int .u64 (.lit 0)), (.int .u8 (.lit 0))]))
 (.leaf (.agg [(.int .u64 (.var kU 37)), (.int .u64 (.var kU 38)), (.int .u8 (.lit 0))]))))))
 (.ite (.bin .eql .i64 (.var kI 31) (.lit 0))
 (.ite (.var .bool 26)
 (.call 155 [(.var kU 28), (.var kU 29)] 32 4
 (.call 166 [(.var kU 32), (.var kU 33), (.var kU 34), (.var kU 35)] 36 1
 (.call 147 [(.var kB 0), (.lit 4), (.lit 0), (.not (.beq (.var .bool 5) (.not (.var .bool 36)))), (.bin .add .i64 (.min (.var kI 7) (.var kI 12)) (.lit 128)), (.var kU 32), (.var kU 33), (.var kU 34), (.var kU 35)] 37 3
 (.ite (.bin .neq .u8 (.var kB 39) (.lit 0))
 (.leaf (.agg [(.int .u64 (.lit 0)), (.int .u64 (.lit 0)), (.int .u8 (.lit 0))]))
 (.leaf (.agg [(.int .u64 (.var kU 37)), (.int .u64 (.var kU 38)), (.int .u8 (.lit 0))]))))))
 (.call 155 [(.var kU 24), (.var kU 25)] 32 4
 (.call 147 [(.var kB 0), (.lit 4), (.lit 0), (.not (.beq (.var .bool 5) (.lit 0))), (.bin .add .i64 (.min (.var kI 7) (.var kI 12)) (.lit 128)), (.var kU 32), (.var kU 33), (.var kU 34), (.var kU 35)] 36 3
 (.ite (.bin .neq .u8 (.var kB 38) (.lit 0))
 (.leaf (.agg [(.int .u64 (.lit 0)), (.int .u64 (.lit 0)), (.int .u8 (.lit 0))]))
 (.leaf (.agg [(.int .u64 (.var kU 36)), (.int .u64 (.var kU 37)), (.int .u8 (.lit 0))]))))))
 (.call 155 [(.var kU 24), (.var kU 25)] 32 4
 (.call 147 [(.var kB 0), (.lit 4), (.lit 0), (.not (.beq (.var .bool 5) (.lit 0))), (.bin .add .i64 (.min (.var kI 7) (.var kI 12)) (.lit 128)), (.var kU 32), (.var kU 33), (.var kU 34), (.var kU 35)] 36 3
 (.ite (.bin .neq .u8 (.var kB 38) (.lit 0))
 (.leaf (.agg [(.int .u64 (.lit 0)), (.int .u64 (.lit 0)), (.int .u8 (.lit 0))]))
 (.leaf (.agg [(.int .u64 (.var kU 36)), (.int .u64 (.var kU 37)), (.int .u8 (.lit 0))]))))))))))
 (.call 227 [(.var kU 13), (.var kU 14), (.var kU 21), (.var kU 22)] 24 3
 (.call 159 [(.var kU 21), (.var kU 22), (.var kU 24), (.var kU 25)] 27 1
 (.ite (.bin .gtr .i64 (.var kI 27) (.lit 0))
 (.call 155 [(.var kU 24), (.var kU 25)] 28 4
 (.call 166 [(.var kU 28), (.var kU 29), (.var kU 30), (.var kU 31)] 32 1
 (.call 147 [(.var kB 0), (.lit 4), (.lit 0), (.not (.beq (.var .bool 5) (.not (.var .bool 32)))), (.bin .add .i64 (.min (.var kI 7) (.var kI 12)) (.lit 128)), (.var kU 28), (.var kU 29), (.var kU 30), (.var kU 31)] 33 3
 (.ite (.bin .neq .u8 (.var kB 35) (.lit 0))
 (.leaf (.agg [(.int .u64 (.lit 0)), (.int .u64 (.lit 0)), (.int .u8 (.lit 0))]))
 (.leaf (.agg [(.int .u64 (.var kU 33)), (.int .u64 (.var kU 34)), (.int .u8 (.lit 0))]))))))
 (.ite (.bin .eql .i64 (.var kI 27) (.lit 0))
 (.call 155 [(.var kU 24), (.var kU 25)] 28 4
 (.call 166 [(.var kU 28), (.var kU 29), (.var kU 30), (.var kU 31)] 32 1
 (.call 147 [(.var kB 0), (.lit 4), (.lit 0), (.not (.beq (.var .bool 5) (.not (.var .bool 32)))), (.bin .add .i64 (.min (.var kI 7) (.var kI 12)) (.lit 128)), (.var kU 28), (.var kU 29), (.var kU 30), (.var kU 31)] 33 3
 (.ite (.bin .neq .u8 (.var kB 35) (.lit 0))
 (.leaf (.agg [(.int .u64 (.lit 0)), (.int .u64 (.lit 0)), (.int .u8 (.lit 0))]))
 (.leaf (.agg [(.int .u64 (.var kU 33)), (.int .u64 (.var kU 34)), (.int .u8 (.lit 0))]))))))
 (.call 155 [(.var kU 21), (.var kU 22)] 28 4
 (.call 147 [(.var kB 0), (.lit 4), (.lit 0), (.not (.beq (.var .bool 5) (.lit 0))), (.bin .add .i64 (.min (.var kI 7) (.var kI 12)) (.lit 128)), (.var kU 28), (.var kU 29), (.var kU 30), (.var kU 31)] 32 3
 (.ite (.bin .neq .u8 (.var kB 34) (.lit 0))
 (.leaf (.agg [(.int .u64 (.lit 0)), (.int .u64 (.lit 0)), (.int .u8 (.lit 0))]))
 (.leaf (.agg [(.int .u64 (.var kU 32)), (.int .u64 (.var kU 33)), (.int .u8 (.lit 0))]))))))))))
 (.ite (.bin .gtr .i64 (.bin .sub .i64 (.var kI 7) (.var kI 12)) (.lit 0))
 (.call 228 [(.var kU 8), (.var kU 9), (.bin .sub .i64 (.var kI 7) (.var kI 12)), (.var kU 13), (.var kU 14)] 24 4
 (.call 227 [(.var kU 13), (.var kU 14), (.var kU 24), (.var kU 25)] 28 3
 (.call 159 [(.var kU 24), (.var kU 25), (.var kU 28), (.var kU 29)] 31 1
 (.ite (.bin .gtr .i64 (.var kI 31) (.lit 0))
 (.call 155 [(.var kU 28), (.var kU 29)] 32 4
 (.call 166 [(.var kU 32), (.var kU 33), (.var kU 34), (.var kU 35)] 36 1
 (.call 147 [(.var kB 0), (.lit 4), (.lit 0), (.not (.beq (.var .bool 5) (.not (.var .bool 36)))), (.bin .add .i64 (.min (.var kI 7) (.var kI 12)) (.lit 128)), (.var kU 32), (.var kU 33), (.var kU 34), (.var kU 35)] 37 3
 (.ite (.bin .neq .u8 (.var kB 39) (.lit 0))
 (.leaf (.agg [(.int .u64 (.lit 0)), (.int .u64 (.lit 0)), (.int .u8 (.lit 0))]))
 (.leaf (.agg [(.int .u64 (.var kU 37)), (.int .u64 (.var kU 38)), (.int .u8 (.lit 0))]))))))
 (.ite (.bin .eql .i64 (.var kI 31) (.lit 0))
 (.ite (.var .bool 26)
 (.call 155 [(.var kU 28), (.var kU 29)] 32 4
 (.call 166 [(.var kU 32), (.var kU 33), (.var kU 34), (.var kU 35)] 36 1
 (.call 147 [(.var kB 0), (.lit 4), (.lit 0), (.not (.beq (.var .bool 5) (.not (.var .bool 36)))), (.bin .add .i64 (.min (.var kI 7) (.var kI 12)) (.lit 128)), (.var kU 32), (.var kU 33), (.var kU 34), (.var kU 35)] 37 3
 (.ite (.bin .neq .u8 (.var kB 39) (.lit 0))
 (.leaf (.agg [(.int .u64 (.lit 0)), (.int .u64 (.lit 0)), (.int .u8 (.lit 0))]))
 (.leaf (.agg [(.int .u64 (.var kU 37)), (.int .u64 (.var kU 38)), (.int .u8 (.lit 0))]))))))
 (.call 155 [(.var kU 24), (.var kU 25)] 32 4
 (.call 147 [(.var kB 0), (.lit 4), (.lit 0), (.not (.beq (.var .bool 5) (.lit 0))), (.bin .add .i64 (.min (.var kI 7) (.var kI 12)) (.lit 128)), (.var kU 32), (.var kU 33), (.var kU 34), (.var kU 35)] 36 3
 (.ite (.bin .neq .u8 (.var kB 38) (.lit 0))
 (.leaf (.agg [(.int .u64 (.lit 0)), (.int .u64 (.lit 0)), (.int .u8 (.lit 0))]))
 (.leaf (.agg [(.int .u64 (.var kU 36)), (.int .u64 (.var kU 37)), (.int .u8 (.lit 0))]))))))
 (.call 155 [(.var kU 24), (.var kU 25)] 32 4
 (.call 147 [(.var kB 0), (.lit 4), (.lit 0), (.not (.beq (.var .bool 5) (.lit 0))), (.bin .add .i64 (.min (.var kI 7) (.var kI 12)) (.lit 128)), (.var kU 32), (.var kU 33), (.var kU 34), (.var kU 35)] 36 3
 (.ite (.bin .neq .u8 (.var kB 38) (.lit 0))
 (.leaf (.agg [(.int .u64 (.lit 0)), (.int .u64 (.lit 0)), (.int .u8 (.lit 0))]))
 (.leaf (.agg [(.int .u64 (.var kU 36)), (.int .u64 (.var kU 37)), (.int .u8 (.lit 0))]))))))))))
 (.call 227 [(.var kU 13), (.var kU 14), (.var kU 8), (.var kU 9)] 24 3
 (.call 159 [(.var kU 8), (.var kU 9), (.var kU 24), (.var kU 25)] 27 1
 (.ite (.bin .gtr .i64 (.var kI 27) (.lit 0))
 (.call 155 [(.var kU 24), (.var kU 25)] 28 4
 (.call 166 [(.var kU 28), (.var kU 29), (.var kU 30), (.var kU 31)] 32 1
 (.call 147 [(.var kB 0), (.lit 4), (.lit 0), (.not (.beq (.var .bool 5) (.not (.var .bool 32)))), (.bin .add .i64 (.min (.var kI 7) (.var kI 12)) (.lit 128)), (.var kU 28), (.var kU 29), (.var kU 30), (.var kU 31)] 33 3
 (.ite (.bin .neq .u8 (.var kB 35) (.lit 0))
 (.leaf (.agg [(.int .u64 (.lit 0)), (.int .u64 (.lit 0)), (.int .u8 (.lit 0))]))
 (.leaf (.agg [(.int .u64 (.var kU 33)), (.int .u64 (.var kU 34)), (.int .u8 (.lit 0))]))))))
 (.ite (.bin .eql .i64 (.var kI 27) (.lit 0))
 (.call 155 [(.var kU 8), (.var kU 9)] 28 4
 (.call 147 [(.var kB 0), (.lit 4), (.lit 0), (.not (.beq (.var .bool 5) (.lit 0))), (.bin .add .i64 (.min (.var kI 7) (.var kI 12)) (.lit 128)), (.var kU 28), (.var kU 29), (.var kU 30), (.var kU 31)] 32 3
 (.ite (.bin .neq .u8 (.var kB 34) (.lit 0))
 (.leaf (.agg [(.int .u64 (.lit 0)), (.int .u64 (.lit 0)), (.int .u8 (.lit 0))]))
 (.leaf (.agg [(.int .u64 (.var kU 32)), (.int .u64 (.var kU 33)), (.int .u8 (.lit 0))])))))
 (.call 155 [(.var kU 8), (.var kU 9)] 28 4
 (.call 147 [(.var kB 0), (.lit 4), (.lit 0), (.not (.beq (.var .bool 5) (.lit 0))), (.bin .add .i64 (.min (.var kI 7) (.var kI 12)) (.lit 128)), (.var kU 28), (.var kU 29), (.var kU 30), (.var kU 31)] 32 3
 (.ite (.bin .neq .u8 (.var kB 34) (.lit 0))
 (.leaf (.agg [(.int .u64 (.lit 0)), (.int .u64 (.lit 0)), (.int .u8 (.lit 0))]))
 (.leaf (.agg [(.int .u64 (.var kU 32)), (.int .u64 (.var kU 33)), (.int .u8 (.lit 0))]))))))))))))))))))
theorem x_rem_Rem_5 : X_rem_Rem.el.nx.nx.nx.el.nx.el.el = t_rem_Rem_5 := by kernel_rfl
def t_rem_Rem : Tr' SV :=
 (.ite (.not (.bin .lss .i64 (.var kB 0) (.lit 4))) t_rem_Rem_1 (.call 139 [(.var kB 0), (.var kU 1), (.var kU 2)] 5 5 (.call 139 [(.var kB 0), (.var kU 3), (.var kU 4)] 10 5 (.call 14 [(.var kB 0), (.var kU 1), (.var kU 2)] 15 1 (.ite (.var .bool 15) t_rem_Rem_2 (.call 14 [(.var kB 0), (.var kU 3), (.var kU 4)] 16 1 (.ite (.var .bool 16) t_rem_Rem_3 (.ite (.bin .eql .u8 (.var kB 6) (.lit 3)) t_rem_Rem_4 t_rem_Rem_5))))))))
theorem x_rem_Rem : execF (ctxA E20 M0 S1) 3000 92 (uns c_rem_Rem.a (varsAt 0 (kindsOf c_rem_Rem.a))) (kindsOf c_rem_Rem.a).length = t_rem_Rem := (show X_rem_Rem = t_rem_Rem from (trT_ite (T := X_rem_Rem) (c := (.not (.bin .lss .i64 (.var kB 0) (.lit 4)))) (by kernel_rfl) x_rem_Rem_1 (trT_call (T := X_rem_Rem.el) (q := (139, [(.var kB 0), (.var kU 1), (.var kU 2)], 5, 5)) (by kernel_rfl) (trT_call (T := X_rem_Rem.el.nx) (q := (139, [(.var kB 0), (.var kU 3), (.var kU 4)], 10, 5)) (by kernel_rfl) (trT_call (T := X_rem_Rem.el.nx.nx) (q := (14, [(.var kB 0), (.var kU 1), (.var kU 2)], 15, 1)) (by kernel_rfl) (trT_ite (T := X_rem_Rem.el.nx.nx.nx) (c := (.var .bool 15)) (by kernel_rfl) x_rem_Rem_2 (trT_call (T := X_rem_Rem.el.nx.nx.nx.el) (q := (14, [(.var kB 0), (.var kU 3), (.var kU 4)], 16, 1)) (by kernel_rfl) (trT_ite (T := X_rem_Rem.el.nx.nx.nx.el.nx) (c := (.var .bool 16)) (by kernel_rfl) x_rem_Rem_3 (trT_ite (T := X_rem_Rem.el.nx.nx.nx.el.nx.el) (c := (.bin .eql .u8 (.var kB 6) (.lit 3))) (by kernel_rfl) x_rem_Rem_4 x_rem_Rem_5)))))))))
def F_rem_Rem : List Int → List Int := treeF (phiA E20 M0 S1) c_rem_Rem t_rem_Rem
theorem e_rem_Rem : EntOK Tryz.prog gG ⟨92, c_rem_Rem, F_rem_Rem⟩ := ent_any ok_R1 3000 x_rem_Rem (by kernel_rfl)
end Go.Proofs.YtemomocmfggiaaaGreatDoor
