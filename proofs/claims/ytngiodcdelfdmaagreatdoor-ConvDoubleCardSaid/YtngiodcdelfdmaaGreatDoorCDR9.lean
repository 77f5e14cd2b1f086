import Derived.Test.YtngiodcdelfdmaaGreatDoorDBTR9
namespace Go.Proofs.YtngiodcdelfdmaaGreatDoor
set_option linter.unusedVariables false
set_option maxRecDepth 100000
open Go.RowKit
theorem ok_CD : SOK (ctxA LCD NZ ZZ) eE := ctxC_ok LCD_ok NZ_ok ZZ_ok (by kernel_rfl)
def c_law25_ConvDouble : Ct := ⟨[.sc kB, .agg [kU, kU], .agg [kU, kU]], [.sc .bool]⟩
noncomputable def X_law25_ConvDouble : Tr' SV := execF (ctxA LCD NZ ZZ) 3000 12 (uns c_law25_ConvDouble.a (varsAt 0 (kindsOf c_law25_ConvDouble.a))) (kindsOf c_law25_ConvDouble.a).length
def t_law25_ConvDouble_1 : Tr' SV :=
 (.leaf (.bool (.lit 1)))
theorem x_law25_ConvDouble_1 : X_law25_ConvDouble.th = t_law25_ConvDouble_1 := by kernel_rfl
def t_law25_ConvDouble_2 : Tr' SV :=
 (.leaf (.bool (.lit 1)))
theorem x_law25_ConvDouble_2 : X_law25_ConvDouble.el.nx.th = t_law25_ConvDouble_2 := by kernel_rfl
def t_law25_ConvDouble_3 : Tr' SV :=
 (.leaf (.bool (.lit 1)))
theorem x_law25_ConvDouble_3 : X_law25_ConvDouble.el.nx.el.nx.th = t_law25_ConvDouble_3 := by kernel_rfl
def t_law25_ConvDouble_4 : Tr' SV :=
 (.call 44 [(.var kB 0), (.var kU 25), (.var kU 26)] 33 2
 (.ite (.bin .eql .u8 (.var kB 33) (.lit 1))
 (.call 44 [(.var kB 0), (.var kU 28), (.var kU 29)] 35 2
 (.ite (.bin .eql .u8 (.var kB 35) (.lit 1))
 (.leaf (.bool (.lit 1)))
 (.ite (.bin .eql .u8 (.var kB 35) (.lit 0))
 (.leaf (.bool (.lit 1)))
 (.call 37 [(.var kB 0), (.var kU 28), (.var kU 29)] 37 1
 (.ite (.var .bool 37)
 (.leaf (.bool (.lit 1)))
 (.call 15 [(.bin .add .u8 (.var kB 0) (.lit 1)), (.var kB 0), (.lit 0), (.lit 0), (.var kU 19), (.var kU 20)] 38 3
 (.ite (.not (.and (.bin .eql .u64 (.var kU 38) (.var kU 28)) (.and (.bin .eql .u64 (.var kU 39) (.var kU 29)) (.lit 1))))
 (.leaf (.bool (.lit 0)))
 (.leaf (.bool (.lit 1))))))))))
 (.ite (.bin .eql .u8 (.var kB 33) (.lit 0))
 (.call 44 [(.var kB 0), (.var kU 28), (.var kU 29)] 35 2
 (.ite (.bin .eql .u8 (.var kB 35) (.lit 1))
 (.leaf (.bool (.lit 1)))
 (.ite (.bin .eql .u8 (.var kB 35) (.lit 0))
 (.leaf (.bool (.lit 1)))
 (.call 37 [(.var kB 0), (.var kU 28), (.var kU 29)] 37 1
 (.ite (.var .bool 37)
 (.leaf (.bool (.lit 1)))
 (.call 15 [(.bin .add .u8 (.var kB 0) (.lit 1)), (.var kB 0), (.lit 0), (.lit 0), (.var kU 19), (.var kU 20)] 38 3
 (.ite (.not (.and (.bin .eql .u64 (.var kU 38) (.var kU 28)) (.and (.bin .eql .u64 (.var kU 39) (.var kU 29)) (.lit 1))))
 (.leaf (.bool (.lit 0)))
 (.leaf (.bool (.lit 1))))))))))
 (.call 37 [(.var kB 0), (.var kU 25), (.var kU 26)] 35 1
 (.ite (.var .bool 35)
 (.call 44 [(.var kB 0), (.var kU 28), (.var kU 29)] 36 2
 (.ite (.bin .eql .u8 (.var kB 36) (.lit 1))
 (.leaf (.bool (.lit 1)))
 (.ite (.bin .eql .u8 (.var kB 36) (.lit 0))
 (.leaf (.bool (.lit 1)))
 (.call 37 [(.var kB 0), (.var kU 28), (.var kU 29)] 38 1
 (.ite (.var .bool 38)
 (.leaf (.bool (.lit 1)))
 (.call 15 [(.bin .add .u8 (.var kB 0) (.lit 1)), (.var kB 0), (.lit 0), (.lit 0), (.var kU 19), (.var kU 20)] 39 3
 (.ite (.not (.and (.bin .eql .u64 (.var kU 39) (.var kU 28)) (.and (.bin .eql .u64 (.var kU 40) (.var kU 29)) (.lit 1))))
 (.leaf (.bool (.lit 0)))
 (.leaf (.bool (.lit 1))))))))))
 (.call 15 [(.bin .add .u8 (.var kB 0) (.lit 1)), (.var kB 0), (.lit 0), (.lit 0), (.var kU 16), (.var kU 17)] 36 3
 (.ite (.not (.and (.bin .eql .u64 (.var kU 36) (.var kU 25)) (.and (.bin .eql .u64 (.var kU 37) (.var kU 26)) (.lit 1))))
 (.leaf (.bool (.lit 0)))
 (.call 44 [(.var kB 0), (.var kU 28), (.var kU 29)] 39 2
 (.ite (.bin .eql .u8 (.var kB 39) (.lit 1))
 (.leaf (.bool (.lit 1)))
 (.ite (.bin .eql .u8 (.var kB 39) (.lit 0))
 (.leaf (.bool (.lit 1)))
 (.call 37 [(.var kB 0), (.var kU 28), (.var kU 29)] 41 1
 (.ite (.var .bool 41)
 (.leaf (.bool (.lit 1)))
 (.call 15 [(.bin .add .u8 (.var kB 0) (.lit 1)), (.var kB 0), (.lit 0), (.lit 0), (.var kU 19), (.var kU 20)] 42 3
 (.ite (.not (.and (.bin .eql .u64 (.var kU 42) (.var kU 28)) (.and (.bin .eql .u64 (.var kU 43) (.var kU 29)) (.lit 1))))
 (.leaf (.bool (.lit 0)))
 (.leaf (.bool (.lit 1)))))))))))))))))
theorem x_law25_ConvDouble_4 : X_law25_ConvDouble.el.nx.el.nx.el.nx.nx.nx.nx.nx.nx.nx.nx.nx.th = t_law25_ConvDouble_4 := by kernel_rfl
def t_law25_ConvDouble_5 : Tr' SV :=
 (.call 44 [(.var kB 0), (.var kU 25), (.var kU 26)] 33 2
 (.ite (.bin .eql .u8 (.var kB 33) (.lit 1))
 (.call 44 [(.var kB 0), (.var kU 28), (.var kU 29)] 35 2
 (.ite (.bin .eql .u8 (.var kB 35) (.lit 1))
 (.leaf (.bool (.lit 1)))
 (.ite (.bin .eql .u8 (.var kB 35) (.lit 0))
 (.leaf (.bool (.lit 1)))
 (.call 37 [(.var kB 0), (.var kU 28), (.var kU 29)] 37 1
 (.ite (.var .bool 37)
 (.leaf (.bool (.lit 1)))
 (.call 15 [(.bin .add .u8 (.var kB 0) (.lit 1)), (.var kB 0), (.lit 0), (.lit 0), (.var kU 19), (.var kU 20)] 38 3
 (.ite (.not (.and (.bin .eql .u64 (.var kU 38) (.var kU 28)) (.and (.bin .eql .u64 (.var kU 39) (.var kU 29)) (.lit 1))))
 (.leaf (.bool (.lit 0)))
 (.leaf (.bool (.lit 1))))))))))
 (.ite (.bin .eql .u8 (.var kB 33) (.lit 0))
 (.call 44 [(.var kB 0), (.var kU 28), (.var kU 29)] 35 2
 (.ite (.bin .eql .u8 (.var kB 35) (.lit 1))
 (.leaf (.bool (.lit 1)))
 (.ite (.bin .eql .u8 (.var kB 35) (.lit 0))
 (.leaf (.bool (.lit 1)))
 (.call 37 [(.var kB 0), (.var kU 28), (.var kU 29)] 37 1
 (.ite (.var .bool 37)
 (.leaf (.bool (.lit 1)))
 (.call 15 [(.bin .add .u8 (.var kB 0) (.lit 1)), (.var kB 0), (.lit 0), (.lit 0), (.var kU 19), (.var kU 20)] 38 3
 (.ite (.not (.and (.bin .eql .u64 (.var kU 38) (.var kU 28)) (.and (.bin .eql .u64 (.var kU 39) (.var kU 29)) (.lit 1))))
 (.leaf (.bool (.lit 0)))
 (.leaf (.bool (.lit 1))))))))))
 (.call 37 [(.var kB 0), (.var kU 25), (.var kU 26)] 35 1
 (.ite (.var .bool 35)
 (.call 44 [(.var kB 0), (.var kU 28), (.var kU 29)] 36 2
 (.ite (.bin .eql .u8 (.var kB 36) (.lit 1))
 (.leaf (.bool (.lit 1)))
 (.ite (.bin .eql .u8 (.var kB 36) (.lit 0))
 (.leaf (.bool (.lit 1)))
 (.call 37 [(.var kB 0), (.var kU 28), (.var kU 29)] 38 1
 (.ite (.var .bool 38)
 (.leaf (.bool (.lit 1)))
 (.call 15 [(.bin .add .u8 (.var kB 0) (.lit 1)), (.var kB 0), (.lit 0), (.lit 0), (.var kU 19), (.var kU 20)] 39 3
 (.ite (.not (.and (.bin .eql .u64 (.var kU 39) (.var kU 28)) (.and (.bin .eql .u64 (.var kU 40) (.var kU 29)) (.lit 1))))
 (.leaf (.bool (.lit 0)))
 (.leaf (.bool (.lit 1))))))))))
 (.call 15 [(.bin .add .u8 (.var kB 0) (.lit 1)), (.var kB 0), (.lit 0), (.lit 0), (.var kU 16), (.var kU 17)] 36 3
 (.ite (.not (.and (.bin .eql .u64 (.var kU 36) (.var kU 25)) (.and (.bin .eql .u64 (.var kU 37) (.var kU 26)) (.lit 1))))
 (.leaf (.bool (.lit 0)))
 (.call 44 [(.var kB 0), (.var kU 28), (.var kU 29)] 39 2
 (.ite (.bin .eql .u8 (.var kB 39) (.lit 1))
 (.leaf (.bool (.lit 1)))
 (.ite (.bin .eql .u8 (.var kB 39) (.lit 0))
 (.leaf (.bool (.lit 1)))
 (.call 37 [(.var kB 0), (.var kU 28), (.var kU 29)] 41 1
 (.ite (.var .bool 41)
 (.leaf (.bool (.lit 1)))
 (.call 15 [(.bin .add .u8 (.var kB 0) (.lit 1)), (.var kB 0), (.lit 0), (.lit 0), (.var kU 19), (.var kU 20)] 42 3
 (.ite (.not (.and (.bin .eql .u64 (.var kU 42) (.var kU 28)) (.and (.bin .eql .u64 (.var kU 43) (.var kU 29)) (.lit 1))))
 (.leaf (.bool (.lit 0)))
 (.leaf (.bool (.lit 1)))))))))))))))))
theorem x_law25_ConvDouble_5 : X_law25_ConvDouble.el.nx.el.nx.el.nx.nx.nx.nx.nx.nx.nx.nx.nx.el.th = t_law25_ConvDouble_5 := by kernel_rfl
def t_law25_ConvDouble_6 : Tr' SV :=
 (.call 37 [(.var kB 0), (.var kU 22), (.var kU 23)] 33 1
 (.ite (.var .bool 33)
 (.call 44 [(.var kB 0), (.var kU 25), (.var kU 26)] 34 2
 (.ite (.bin .eql .u8 (.var kB 34) (.lit 1))
 (.call 44 [(.var kB 0), (.var kU 28), (.var kU 29)] 36 2
 (.ite (.bin .eql .u8 (.var kB 36) (.lit 1))
 (.leaf (.bool (.lit 1)))
 (.ite (.bin .eql .u8 (.var kB 36) (.lit 0))
 (.leaf (.bool (.lit 1)))
 (.call 37 [(.var kB 0), (.var kU 28), (.var kU 29)] 38 1
 (.ite (.var .bool 38)
 (.leaf (.bool (.lit 1)))
 (.call 15 [(.bin .add .u8 (.var kB 0) (.lit 1)), (.var kB 0), (.lit 0), (.lit 0), (.var kU 19), (.var kU 20)] 39 3
 (.ite (.not (.and (.bin .eql .u64 (.var kU 39) (.var kU 28)) (.and (.bin .eql .u64 (.var kU 40) (.var kU 29)) (.lit 1))))
 (.leaf (.bool (.lit 0)))
 (.leaf (.bool (.lit 1))))))))))
 (.ite (.bin .eql .u8 (.var kB 34) (.lit 0))
 (.call 44 [(.var kB 0), (.var kU 28), (.var kU 29)] 36 2
 (.ite (.bin .eql .u8 (.var kB 36) (.lit 1))
 (.leaf (.bool (.lit 1)))
 (.ite (.bin .eql .u8 (.var kB 36) (.lit 0))
 (.leaf (.bool (.lit 1)))
 (.call 37 [(.var kB 0), (.var kU 28), (.var kU 29)] 38 1
 (.ite (.var .bool 38)
 (.leaf (.bool (.lit 1)))
 (.call 15 [(.bin .add .u8 (.var kB 0) (.lit 1)), (.var kB 0), (.lit 0), (.lit 0), (.var kU 19), (.var kU 20)] 39 3
 (.ite (.not (.and (.bin .eql .u64 (.var kU 39) (.var kU 28)) (.and (.bin .eql .u64 (.var kU 40) (.var kU 29)) (.lit 1))))
 (.leaf (.bool (.lit 0)))
 (.leaf (.bool (.lit 1))))))))))
 (.call 37 [(.var kB 0), (.var kU 25), (.var kU 26)] 36 1
 (.ite (.var .bool 36)
 (.call 44 [(.var kB 0), (.var kU 28), (.var kU 29)] 37 2
 (.ite (.bin .eql .u8 (.var kB 37) (.lit 1))
 (.leaf (.bool (.lit 1)))
 (.ite (.bin .eql .u8 (.var kB 37) (.lit 0))
 (.leaf (.bool (.lit 1)))
 (.call 37 [(.var kB 0), (.var kU 28), (.var kU 29)] 39 1
 (.ite (.var .bool 39)
 (.leaf (.bool (.lit 1)))
 (.call 15 [(.bin .add .u8 (.var kB 0) (.lit 1)), (.var kB 0), (.lit 0), (.lit 0), (.var kU 19), (.var kU 20)] 40 3
 (.ite (.not (.and (.bin .eql .u64 (.var kU 40) (.var kU 28)) (.and (.bin .eql .u64 (.var kU 41) (.var kU 29)) (.lit 1))))
 (.leaf (.bool (.lit 0)))
 (.leaf (.bool (.lit 1))))))))))
 (.call 15 [(.bin .add .u8 (.var kB 0) (.lit 1)), (.var kB 0), (.lit 0), (.lit 0), (.var kU 16), (.var kU 17)] 37 3
 (.ite (.not (.and (.bin .eql .u64 (.var kU 37) (.var kU 25)) (.and (.bin .eql .u64 (.var kU 38) (.var kU 26)) (.lit 1))))
 (.leaf (.bool (.lit 0)))
 (.call 44 [(.var kB 0), (.var kU 28), (.var kU 29)] 40 2
 (.ite (.bin .eql .u8 (.var kB 40) (.lit 1))
 (.leaf (.bool (.lit 1)))
 (.ite (.bin .eql .u8 (.var kB 40) (.lit 0))
 (.leaf (.bool (.lit 1)))
 (.call 37 [(.var kB 0), (.var kU 28), (.var kU 29)] 42 1
 (.ite (.var .bool 42)
 (.leaf (.bool (.lit 1)))
 (.call 15 [(.bin .add .u8 (.var kB 0) (.lit 1)), (.var kB 0), (.lit 0), (.lit 0), (.var kU 19), (.var kU 20)] 43 3
 (.ite (.not (.and (.bin .eql .u64 (.var kU 43) (.var kU 28)) (.and (.bin .eql .u64 (.var kU 44) (.var kU 29)) (.lit 1))))
 (.leaf (.bool (.lit 0)))
 (.leaf (.bool (.lit 1)))))))))))))))))
 (.call 15 [(.bin .add .u8 (.var kB 0) (.lit 1)), (.var kB 0), (.lit 0), (.lit 0), (.var kU 13), (.var kU 14)] 34 3
 (.ite (.not (.and (.bin .eql .u64 (.var kU 34) (.var kU 22)) (.and (.bin .eql .u64 (.var kU 35) (.var kU 23)) (.lit 1))))
 (.leaf (.bool (.lit 0)))
 (.call 44 [(.var kB 0), (.var kU 25), (.var kU 26)] 37 2
 (.ite (.bin .eql .u8 (.var kB 37) (.lit 1))
 (.call 44 [(.var kB 0), (.var kU 28), (.var kU 29)] 39 2
 (.ite (.bin .eql .u8 (.var kB 39) (.lit 1))
 (.leaf (.bool (.lit 1)))
 (.ite (.bin .eql .u8 (.var kB 39) (.lit 0))
 (.leaf (.bool (.lit 1)))
 (.call 37 [(.var kB 0), (.var kU 28), (.var kU 29)] 41 1
 (.ite (.var .bool 41)
 (.leaf (.bool (.lit 1)))
 (.call 15 [(.bin .add .u8 (.var kB 0) (.lit 1)), (.var kB 0), (.lit 0), (.lit 0), (.var kU 19), (.var kU 20)] 42 3
 (.ite (.not (.and (.bin .eql .u64 (.var kU 42) (.var kU 28)) (.and (.bin .eql .u64 (.var kU 43) (.var kU 29)) (.lit 1))))
 (.leaf (.bool (.lit 0)))
 (.leaf (.bool (.lit 1))))))))))
 (.ite (.bin .eql .u8 (.var kB 37) (.lit 0))
 (.call 44 [(.var kB 0), (.var kU 28), (.var kU 29)] 39 2
 (.ite (.bin .eql .u8 (.var kB 39) (.lit 1))
 (.leaf (.bool (.lit 1)))
 (.ite (.bin .eql .u8 (.var kB 39) (.lit 0))
 (.leaf (.bool (.lit 1)))
 (.call 37 [(.var kB 0), (.var kU 28), (.var kU 29)] 41 1
 (.ite (.var .bool 41)
 (.leaf (.bool (.lit 1)))
 (.call 15 [(.bin .add .u8 (.var kB 0) (.lit 1)), (.var kB 0), (.lit 0), (.lit 0), (.var kU 19), (.var kU 20)] 42 3
 (.ite (.not (.and (.bin .eql .u64 (.var kU 42) (.var kU 28)) (.and (.bin .eql .u64 (.var kU 43) (.var kU 29)) (.lit 1))))
 (.leaf (.bool (.lit 0)))
 (.leaf (.bool (.lit 1))))))))))
 (.call 37 [(.var kB 0), (.var kU 25), (.var kU 26)] 39 1
 (.ite (.var .bool 39)
 (.call 44 [(.var kB 0), (.var kU 28), (.var kU 29)] 40 2
 (.ite (.bin .eql .u8 (.var kB 40) (.lit 1))
 (.leaf (.bool (.lit 1)))
 (.ite (.bin .eql .u8 (.var kB 40) (.lit 0))
 (.leaf (.bool (.lit 1)))
 (.call 37 [(.var kB 0), (.var kU 28), (.var kU 29)] 42 1
 (.ite (.var .bool 42)
 (.leaf (.bool (.lit 1)))
 (.call 15 [(.bin .add .u8 (.var kB 0) (.lit 1)), (.var kB 0), (.lit 0), (.lit 0), (.var kU 19), (.var kU 20)] 43 3
 (.ite (.not (.and (.bin .eql .u64 (.var kU 43) (.var kU 28)) (.and (.bin .eql .u64 (.var kU 44) (.var kU 29)) (.lit 1))))
 (.leaf (.bool (.lit 0)))
 (.leaf (.bool (.lit 1))))))))))
 (.call 15 [(.bin .add .u8 (.var kB 0) (.lit 1)), (.var kB 0), (.lit 0), (.lit 0), (.var kU 16), (.var kU 17)] 40 3
 (.ite (.not (.and (.bin .eql .u64 (.var kU 40) (.var kU 25)) (.and (.bin .eql .u64 (.var kU 41) (.var kU 26)) (.lit 1))))
 (.leaf (.bool (.lit 0)))
 (.call 44 [(.var kB 0), (.var kU 28), (.var kU 29)] 43 2
 (.ite (.bin .eql .u8 (.var kB 43) (.lit 1))
 (.leaf (.bool (.lit 1)))
 (.ite (.bin .eql .u8 (.var kB 43) (.lit 0))
 (.leaf (.bool (.lit 1)))
 (.call 37 [(.var kB 0), (.var kU 28), (.var kU 29)] 45 1
 (.ite (.var .bool 45)
 (.leaf (.bool (.lit 1)))
 (.call 15 [(.bin .add .u8 (.var kB 0) (.lit 1)), (.var kB 0), (.lit 0), (.lit 0), (.var kU 19), (.var kU 20)] 46 3
 (.ite (.not (.and (.bin .eql .u64 (.var kU 46) (.var kU 28)) (.and (.bin .eql .u64 (.var kU 47) (.var kU 29)) (.lit 1))))
 (.leaf (.bool (.lit 0)))
 (.leaf (.bool (.lit 1)))))))))))))))))))))
theorem x_law25_ConvDouble_6 : X_law25_ConvDouble.el.nx.el.nx.el.nx.nx.nx.nx.nx.nx.nx.nx.nx.el.el = t_law25_ConvDouble_6 := by kernel_rfl
def t_law25_ConvDouble : Tr' SV :=
 (.ite (.bin .gtr .u8 (.var kB 0) (.lit 2)) t_law25_ConvDouble_1 (.call 47 [(.var kB 0), (.var kU 1), (.var kU 2)] 5 1 (.ite (.not (.var .bool 5)) t_law25_ConvDouble_2 (.call 47 [(.var kB 0), (.var kU 3), (.var kU 4)] 6 1 (.ite (.not (.var .bool 6)) t_law25_ConvDouble_3 (.call 15 [(.var kB 0), (.bin .add .u8 (.var kB 0) (.lit 1)), (.lit 0), (.lit 0), (.var kU 1), (.var kU 2)] 7 3 (.call 15 [(.var kB 0), (.bin .add .u8 (.var kB 0) (.lit 1)), (.lit 0), (.lit 0), (.var kU 3), (.var kU 4)] 10 3 (.call 48 [(.bin .add .u8 (.var kB 0) (.lit 1)), (.lit 0), (.lit 0), (.var kU 7), (.var kU 8), (.var kU 10), (.var kU 11)] 13 3 (.call 18 [(.bin .add .u8 (.var kB 0) (.lit 1)), (.lit 0), (.lit 0), (.var kU 7), (.var kU 8), (.var kU 10), (.var kU 11)] 16 3 (.call 28 [(.bin .add .u8 (.var kB 0) (.lit 1)), (.lit 0), (.lit 0), (.var kU 7), (.var kU 8)] 19 3 (.call 48 [(.var kB 0), (.lit 0), (.lit 0), (.var kU 1), (.var kU 2), (.var kU 3), (.var kU 4)] 22 3 (.call 18 [(.var kB 0), (.lit 0), (.lit 0), (.var kU 1), (.var kU 2), (.var kU 3), (.var kU 4)] 25 3 (.call 28 [(.var kB 0), (.lit 0), (.lit 0), (.var kU 1), (.var kU 2)] 28 3 (.call 44 [(.var kB 0), (.var kU 22), (.var kU 23)] 31 2 (.ite (.bin .eql .u8 (.var kB 31) (.lit 1)) t_law25_ConvDouble_4 (.ite (.bin .eql .u8 (.var kB 31) (.lit 0)) t_law25_ConvDouble_5 t_law25_ConvDouble_6))))))))))))))))
theorem x_law25_ConvDouble : execF (ctxA LCD NZ ZZ) 3000 12 (uns c_law25_ConvDouble.a (varsAt 0 (kindsOf c_law25_ConvDouble.a))) (kindsOf c_law25_ConvDouble.a).length = t_law25_ConvDouble := (show X_law25_ConvDouble = t_law25_ConvDouble from (trT_ite (T := X_law25_ConvDouble) (c := (.bin .gtr .u8 (.var kB 0) (.lit 2))) (by kernel_rfl) x_law25_ConvDouble_1 (trT_call (T := X_law25_ConvDouble.el) (q := (47, [(.var kB 0), (.var kU 1), (.var kU 2)], 5, 1)) (by kernel_rfl) (trT_ite (T := X_law25_ConvDouble.el.nx) (c := (.not (.var .bool 5))) (by kernel_rfl) x_law25_ConvDouble_2 (trT_call (T := X_law25_ConvDouble.el.nx.el) (q := (47, [(.var kB 0), (.var kU 3), (.var kU 4)], 6, 1)) (by kernel_rfl) (trT_ite (T := X_law25_ConvDouble.el.nx.el.nx) (c := (.not (.var .bool 6))) (by kernel_rfl) x_law25_ConvDouble_3 (trT_call (T := X_law25_ConvDouble.el.nx.el.nx.el) (q := (15, [(.var kB 0), (.bin .add .u8 (.var kB 0) (.lit 1)), (.lit 0), (.lit 0), (.var kU 1), (.var kU 2)], 7, 3)) (by kernel_rfl) (trT_call (T := X_law25_ConvDouble.el.nx.el.nx.el.nx) (q := (15, [(.var kB 0), (.bin .add .u8 (.var kB 0) (.lit 1)), (.lit 0), (.lit 0), (.var kU 3), (.var kU 4)], 10, 3)) (by kernel_rfl) (trT_call (T := X_law25_ConvDouble.el.nx.el.nx.el.nx.nx) (q := (48, [(.bin .add .u8 (.var kB 0) (.lit 1)), (.lit 0), (.lit 0), (.var kU 7), (.var kU 8), (.var kU 10), (.var kU 11)], 13, 3)) (by kernel_rfl) (trT_call (T := X_law25_ConvDouble.el.nx.el.nx.el.nx.nx.nx) (q := (18, [(.bin .add .u8 (.var kB 0) (.lit 1)), (.lit 0), (.lit 0), (.var kU 7), (.var kU 8), (.var kU 10), (.var kU 11)], 16, 3)) (by kernel_rfl) (trT_call (T := X_law25_ConvDouble.el.nx.el.nx.el.nx.nx.nx.nx) (q := (28, [(.bin .add .u8 (.var kB 0) (.lit 1)), (.lit 0), (.lit 0), (.var kU 7), (.var kU 8)], 19, 3)) (by kernel_rfl) (trT_call (T := X_law25_ConvDouble.el.nx.el.nx.el.nx.nx.nx.nx.nx) (q := (48, [(.var kB 0), (.lit 0), (.lit 0), (.var kU 1), (.var kU 2), (.var kU 3), (.var kU 4)], 22, 3)) (by kernel_rfl) (trT_call (T := X_law25_ConvDouble.el.nx.el.nx.el.nx.nx.nx.nx.nx.nx) (q := (18, [(.var kB 0), (.lit 0), (.lit 0), (.var kU 1), (.var kU 2), (.var kU 3), (.var kU 4)], 25, 3)) (by kernel_rfl) (trT_call (T := X_law25_ConvDouble.el.nx.el.nx.el.nx.nx.nx.nx.nx.nx.nx) (q := (28, [(.var kB 0), (.lit 0), (.lit 0), (.var kU 1), (.var kU 2)], 28, 3)) (by kernel_rfl) (trT_call (T := X_law25_ConvDouble.el.nx.el.nx.el.nx.nx.nx.nx.nx.nx.nx.nx) (q := (44, [(.var kB 0), (.var kU 22), (.var kU 23)], 31, 2)) (by kernel_rfl) (trT_ite (T := X_law25_ConvDouble.el.nx.el.nx.el.nx.nx.nx.nx.nx.nx.nx.nx.nx) (c := (.bin .eql .u8 (.var kB 31) (.lit 1))) (by kernel_rfl) x_law25_ConvDouble_4 (trT_ite (T := X_law25_ConvDouble.el.nx.el.nx.el.nx.nx.nx.nx.nx.nx.nx.nx.nx.el) (c := (.bin .eql .u8 (.var kB 31) (.lit 0))) (by kernel_rfl) x_law25_ConvDouble_5 x_law25_ConvDouble_6)))))))))))))))))
def F_law25_ConvDouble : List Int → List Int := treeF (phiA LCD NZ ZZ) c_law25_ConvDouble t_law25_ConvDouble
theorem e_law25_ConvDouble : EntC Tryz.prog gG ⟨12, c_law25_ConvDouble, F_law25_ConvDouble⟩ := entC_of ok_CD 3000 (by kernel_rfl) x_law25_ConvDouble (by kernel_rfl)
theorem ph_CD_class_Finite : phiA LCD NZ ZZ 47 = F_class_Finite := phiA_L (e := ⟨47, _, F_class_Finite⟩) rfl rfl rfl
theorem ph_CD_conv_Conv : phiA LCD NZ ZZ 15 = F_conv_Conv := phiA_L (e := ⟨15, _, F_conv_Conv⟩) rfl rfl rfl
theorem ph_CD_addsub_Add : phiA LCD NZ ZZ 48 = F_addsub_Add := phiA_L (e := ⟨48, _, F_addsub_Add⟩) rfl rfl rfl
theorem ph_CD_mul_Mul : phiA LCD NZ ZZ 18 = F_mul_Mul := phiA_L (e := ⟨18, _, F_mul_Mul⟩) rfl rfl rfl
theorem ph_CD_sqrt_Sqrt : phiA LCD NZ ZZ 28 = F_sqrt_Sqrt := phiA_L (e := ⟨28, _, F_sqrt_Sqrt⟩) rfl rfl rfl
theorem ph_CD_class_Of : phiA LCD NZ ZZ 44 = F_class_Of := phiA_L (e := ⟨44, _, F_class_Of⟩) rfl rfl rfl
theorem ph_CD_class_NaN : phiA LCD NZ ZZ 37 = F_class_NaN := phiA_L (e := ⟨37, _, F_class_NaN⟩) rfl rfl rfl
end Go.Proofs.YtngiodcdelfdmaaGreatDoor
