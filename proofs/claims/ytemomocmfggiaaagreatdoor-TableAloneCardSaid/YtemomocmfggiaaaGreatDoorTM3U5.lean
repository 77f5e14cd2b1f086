import Derived.Test.YtemomocmfggiaaaGreatDoorZTU5
namespace Go.Proofs.YtemomocmfggiaaaGreatDoor
set_option linter.unusedVariables false
set_option maxRecDepth 100000
open Go.RowKit
theorem ok_TM3 : SOK (ctxA TD NZ ZZ) eE := ctxC_ok TD_ok NZ_ok ZZ_ok (by kernel_rfl)
def c_law29_goes : Ct := ⟨[], [.sc .bool]⟩
def t_law29_goes : Tr' SV :=
 (.call 900001 [(.lit 1), (.lit 0), (.lit 0), (.lit 0), (.lit 0), (.lit 0), (.lit 15360), (.lit 0), (.lit 15360), (.lit 0), (.lit 0), (.lit 4), (.lit 0), (.lit 0), (.lit 0), (.lit 0), (.lit 0), (.lit 15360), (.lit 0), (.lit 0), (.lit 0), (.lit 0), (.lit 1), (.lit 0), (.lit 0), (.lit 0), (.lit 0), (.lit 0), (.lit 80896), (.lit 0), (.lit 0), (.lit 0), (.lit 0), (.lit 0), (.lit 0), (.lit 0), (.lit 0), (.lit 0), (.lit 0), (.lit 0), (.lit 0), (.lit 0), (.lit 0), (.lit 0)] 0 17
 (.ite (.and (.bin .eql .i64 (.var kI 1) (.lit 0)) (.and (.bin .eql .u64 (.var kU 2) (.lit 0)) (.and (.bin .eql .u64 (.var kU 3) (.lit 16384)) (.and (.bin .eql .u8 (.var kB 4) (.lit 0)) (.lit 1)))))
 (.ite (.and (.bin .eql .i64 (.var kI 5) (.lit 0)) (.and (.bin .eql .u64 (.var kU 6) (.lit 0)) (.and (.bin .eql .u64 (.var kU 7) (.lit 31744)) (.and (.bin .eql .u8 (.var kB 8) (.lit 2)) (.lit 1)))))
 (.ite (.and (.bin .eql .i64 (.var kI 9) (.lit 1)) (.and (.bin .eql .u64 (.var kU 10) (.lit 0)) (.and (.bin .eql .u64 (.var kU 11) (.lit 0)) (.and (.bin .eql .u8 (.var kB 12) (.lit 0)) (.lit 1)))))
 (.ite (.and (.bin .eql .i64 (.var kI 13) (.lit 1)) (.and (.bin .eql .u64 (.var kU 14) (.lit 0)) (.and (.bin .eql .u64 (.var kU 15) (.lit 0)) (.and (.bin .eql .u8 (.var kB 16) (.lit 0)) (.lit 1)))))
 (.leaf (.bool (.bin .eql .u8 (.var kB 0) (.lit 2))))
 (.leaf (.bool (.lit 0))))
 (.leaf (.bool (.lit 0))))
 (.leaf (.bool (.lit 0))))
 (.leaf (.bool (.lit 0)))))
theorem x_law29_goes : execMF (ctxA TD NZ ZZ) mE4 3000 11 (uns c_law29_goes.a (varsAt 0 (kindsOf c_law29_goes.a))) (kindsOf c_law29_goes.a).length = t_law29_goes := by kernel_rfl
def F_law29_goes : List Int → List Int := treeF (phiA TD NZ ZZ) c_law29_goes t_law29_goes
theorem e_law29_goes : EntC Tryz.prog gG ⟨11, c_law29_goes, F_law29_goes⟩ := entM_of ok_TM3 mE4_ok 3000 (by kernel_rfl) x_law29_goes (by kernel_rfl)
end Go.Proofs.YtemomocmfggiaaaGreatDoor
