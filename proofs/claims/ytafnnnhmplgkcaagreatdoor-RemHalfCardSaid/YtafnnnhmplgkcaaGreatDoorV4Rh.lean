import Derived.Test.YtafnnnhmplgkcaaGreatDoorQ4Rh
/- Contracts of this seat's functions: their trees, made by a program (sxgen), and that the executor answers just these. -/
namespace Go.Proofs.YtafnnnhmplgkcaaGreatDoor
set_option linter.unusedVariables false
set_option maxRecDepth 100000
open Go.RowKit
theorem ok_V4 : SOK (ctxA E40 M0 S1) eE := ctxA_ok E40_ok M0_ok S1_ok (by kernel_rfl)
def c_law23_RemHalf : Ct := ⟨[.sc kB, .agg [kU, kU], .agg [kU, kU]], [.sc .bool]⟩
def t_law23_RemHalf : Tr' SV :=
 (.call 25 [(.var kB 0), (.var kU 3), (.var kU 4)] 5 2
 (.ite (.not (.bin .lss .i64 (.var kB 0) (.lit 4)))
 (.leaf (.bool (.lit 1)))
 (.call 18 [(.var kB 0), (.var kU 1), (.var kU 2)] 7 1
 (.ite (.not (.var .bool 7))
 (.leaf (.bool (.lit 1)))
 (.ite (.bin .neq .u8 (.var kB 5) (.lit 1))
 (.ite (.bin .neq .u8 (.var kB 5) (.lit 2))
 (.leaf (.bool (.lit 1)))
 (.call 14 [(.var kB 0), (.var kU 1), (.var kU 2), (.var kU 3), (.var kU 4)] 8 3
 (.ite (.bin .neq .u8 (.var kB 10) (.lit 0))
 (.leaf (.bool (.lit 0)))
 (.call 18 [(.var kB 0), (.var kU 8), (.var kU 9)] 11 1
 (.ite (.not (.var .bool 11))
 (.leaf (.bool (.lit 0)))
 (.call 26 [(.var kB 0), (.var kU 8), (.var kU 9)] 12 2
 (.call 26 [(.var kB 0), (.var kU 3), (.var kU 4)] 14 2
 (.call 24 [(.var kB 0), (.lit 4), (.lit 0), (.var kU 12), (.var kU 13), (.var kU 12), (.var kU 13)] 16 3
 (.call 27 [(.var kU 16), (.var kU 17), (.var kU 14), (.var kU 15)] 19 1
 (.ite (.bin .gtr .i64 (.var kI 19) (.lit 0))
 (.leaf (.bool (.lit 0)))
 (.call 26 [(.var kB 0), (.var kU 1), (.var kU 2)] 20 2
 (.call 26 [(.var kB 0), (.var kU 1), (.var kU 2)] 22 2
 (.call 24 [(.var kB 0), (.lit 4), (.lit 0), (.var kU 20), (.var kU 21), (.var kU 22), (.var kU 23)] 24 3
 (.ite (.bin .eql .u8 (.var kB 26) (.lit 0))
 (.call 27 [(.var kU 24), (.var kU 25), (.var kU 14), (.var kU 15)] 27 1
 (.ite (.bin .lss .i64 (.var kI 27) (.lit 0))
 (.call 28 [(.var kB 0), (.var kU 1), (.var kU 2)] 28 2
 (.ite (.not (.and (.bin .eql .u64 (.var kU 8) (.var kU 28)) (.and (.bin .eql .u64 (.var kU 9) (.var kU 29)) (.lit 1))))
 (.leaf (.bool (.lit 0)))
 (.call 14 [(.var kB 0), (.var kU 8), (.var kU 9), (.var kU 3), (.var kU 4)] 30 3
 (.ite (.and (.bin .eql .u64 (.var kU 30) (.var kU 8)) (.and (.bin .eql .u64 (.var kU 31) (.var kU 9)) (.and (.bin .eql .u8 (.var kB 32) (.var kB 10)) (.lit 1))))
 (.leaf (.bool (.lit 1)))
 (.ite (.bin .eql .u8 (.var kB 18) (.lit 0))
 (.ite (.and (.bin .eql .u64 (.var kU 16) (.var kU 14)) (.and (.bin .eql .u64 (.var kU 17) (.var kU 15)) (.lit 1)))
 (.leaf (.bool (.lit 1)))
 (.leaf (.bool (.lit 0))))
 (.leaf (.bool (.lit 0))))))))
 (.call 14 [(.var kB 0), (.var kU 8), (.var kU 9), (.var kU 3), (.var kU 4)] 28 3
 (.ite (.and (.bin .eql .u64 (.var kU 28) (.var kU 8)) (.and (.bin .eql .u64 (.var kU 29) (.var kU 9)) (.and (.bin .eql .u8 (.var kB 30) (.var kB 10)) (.lit 1))))
 (.leaf (.bool (.lit 1)))
 (.ite (.bin .eql .u8 (.var kB 18) (.lit 0))
 (.ite (.and (.bin .eql .u64 (.var kU 16) (.var kU 14)) (.and (.bin .eql .u64 (.var kU 17) (.var kU 15)) (.lit 1)))
 (.leaf (.bool (.lit 1)))
 (.leaf (.bool (.lit 0))))
 (.leaf (.bool (.lit 0))))))))
 (.call 14 [(.var kB 0), (.var kU 8), (.var kU 9), (.var kU 3), (.var kU 4)] 27 3
 (.ite (.and (.bin .eql .u64 (.var kU 27) (.var kU 8)) (.and (.bin .eql .u64 (.var kU 28) (.var kU 9)) (.and (.bin .eql .u8 (.var kB 29) (.var kB 10)) (.lit 1))))
 (.leaf (.bool (.lit 1)))
 (.ite (.bin .eql .u8 (.var kB 18) (.lit 0))
 (.ite (.and (.bin .eql .u64 (.var kU 16) (.var kU 14)) (.and (.bin .eql .u64 (.var kU 17) (.var kU 15)) (.lit 1)))
 (.leaf (.bool (.lit 1)))
 (.leaf (.bool (.lit 0))))
 (.leaf (.bool (.lit 0))))))))))))))))))))
 (.call 14 [(.var kB 0), (.var kU 1), (.var kU 2), (.var kU 3), (.var kU 4)] 8 3
 (.ite (.bin .neq .u8 (.var kB 10) (.lit 0))
 (.leaf (.bool (.lit 0)))
 (.call 18 [(.var kB 0), (.var kU 8), (.var kU 9)] 11 1
 (.ite (.not (.var .bool 11))
 (.leaf (.bool (.lit 0)))
 (.call 26 [(.var kB 0), (.var kU 8), (.var kU 9)] 12 2
 (.call 26 [(.var kB 0), (.var kU 3), (.var kU 4)] 14 2
 (.call 24 [(.var kB 0), (.lit 4), (.lit 0), (.var kU 12), (.var kU 13), (.var kU 12), (.var kU 13)] 16 3
 (.call 27 [(.var kU 16), (.var kU 17), (.var kU 14), (.var kU 15)] 19 1
 (.ite (.bin .gtr .i64 (.var kI 19) (.lit 0))
 (.leaf (.bool (.lit 0)))
 (.call 26 [(.var kB 0), (.var kU 1), (.var kU 2)] 20 2
 (.call 26 [(.var kB 0), (.var kU 1), (.var kU 2)] 22 2
 (.call 24 [(.var kB 0), (.lit 4), (.lit 0), (.var kU 20), (.var kU 21), (.var kU 22), (.var kU 23)] 24 3
 (.ite (.bin .eql .u8 (.var kB 26) (.lit 0))
 (.call 27 [(.var kU 24), (.var kU 25), (.var kU 14), (.var kU 15)] 27 1
 (.ite (.bin .lss .i64 (.var kI 27) (.lit 0))
 (.call 28 [(.var kB 0), (.var kU 1), (.var kU 2)] 28 2
 (.ite (.not (.and (.bin .eql .u64 (.var kU 8) (.var kU 28)) (.and (.bin .eql .u64 (.var kU 9) (.var kU 29)) (.lit 1))))
 (.leaf (.bool (.lit 0)))
 (.call 14 [(.var kB 0), (.var kU 8), (.var kU 9), (.var kU 3), (.var kU 4)] 30 3
 (.ite (.and (.bin .eql .u64 (.var kU 30) (.var kU 8)) (.and (.bin .eql .u64 (.var kU 31) (.var kU 9)) (.and (.bin .eql .u8 (.var kB 32) (.var kB 10)) (.lit 1))))
 (.leaf (.bool (.lit 1)))
 (.ite (.bin .eql .u8 (.var kB 18) (.lit 0))
 (.ite (.and (.bin .eql .u64 (.var kU 16) (.var kU 14)) (.and (.bin .eql .u64 (.var kU 17) (.var kU 15)) (.lit 1)))
 (.leaf (.bool (.lit 1)))
 (.leaf (.bool (.lit 0))))
 (.leaf (.bool (.lit 0))))))))
 (.call 14 [(.var kB 0), (.var kU 8), (.var kU 9), (.var kU 3), (.var kU 4)] 28 3
 (.ite (.and (.bin .eql .u64 (.var kU 28) (.var kU 8)) (.and (.bin .eql .u64 (.var kU 29) (.var kU 9)) (.and (.bin .eql .u8 (.var kB 30) (.var kB 10)) (.lit 1))))
 (.leaf (.bool (.lit 1)))
 (.ite (.bin .eql .u8 (.var kB 18) (.lit 0))
 (.ite (.and (.bin .eql .u64 (.var kU 16) (.var kU 14)) (.and (.bin .eql .u64 (.var kU 17) (.var kU 15)) (.lit 1)))
 (.leaf (.bool (.lit 1)))
 (.leaf (.bool (.lit 0))))
 (.leaf (.bool (.lit 0))))))))
 (.call 14 [(.var kB 0), (.var kU 8), (.var kU 9), (.var kU 3), (.var kU 4)] 27 3
 (.ite (.and (.bin .eql .u64 (.var kU 27) (.var kU 8)) (.and (.bin .eql .u64 (.var kU 28) (.var kU 9)) (.and (.bin .eql .u8 (.var kB 29) (.var kB 10)) (.lit 1))))
 (.leaf (.bool (.lit 1)))
 (.ite (.bin .eql .u8 (.var kB 18) (.lit 0))
 (.ite (.and (.bin .eql .u64 (.var kU 16) (.var kU 14)) (.and (.bin .eql .u64 (.var kU 17) (.var kU 15)) (.lit 1)))
 (.leaf (.bool (.lit 1)))
 (.leaf (.bool (.lit 0))))
 (.leaf (.bool (.lit 0))))))))))))))))))))))))
theorem x_law23_RemHalf : execF (ctxA E40 M0 S1) 3000 6 (uns c_law23_RemHalf.a (varsAt 0 (kindsOf c_law23_RemHalf.a))) (kindsOf c_law23_RemHalf.a).length = t_law23_RemHalf := by kernel_rfl
def F_law23_RemHalf : List Int → List Int := treeF (phiA E40 M0 S1) c_law23_RemHalf t_law23_RemHalf
theorem e_law23_RemHalf : EntOK Tryz.prog gG ⟨6, c_law23_RemHalf, F_law23_RemHalf⟩ := ent_any ok_V4 3000 x_law23_RemHalf (by kernel_rfl)
theorem ph_V4_class_Of : phiA E40 M0 S1 25 = F_class_Of := phiA_L (e := ⟨25, _, F_class_Of⟩) rfl rfl rfl
theorem ph_V4_class_Finite : phiA E40 M0 S1 18 = F_class_Finite := phiA_L (e := ⟨18, _, F_class_Finite⟩) rfl rfl rfl
theorem ph_V4_rem_Rem : phiA E40 M0 S1 14 = F_rem_Rem := phiA_L (e := ⟨14, _, F_rem_Rem⟩) rfl rfl rfl
theorem ph_V4_law23_size : phiA E40 M0 S1 26 = F_law23_size := phiA_L (e := ⟨26, _, F_law23_size⟩) rfl rfl rfl
theorem ph_V4_addsub_Add : phiA E40 M0 S1 24 = F_addsub_Add := phiA_L (e := ⟨24, _, F_addsub_Add⟩) rfl rfl rfl
theorem ph_V4_word_Cmp : phiA E40 M0 S1 27 = F_word_Cmp := phiA_L (e := ⟨27, _, F_word_Cmp⟩) rfl rfl rfl
theorem ph_V4_format_Cut : phiA E40 M0 S1 28 = F_format_Cut := phiA_L (e := ⟨28, _, F_format_Cut⟩) rfl rfl rfl
end Go.Proofs.YtafnnnhmplgkcaaGreatDoor
