import Derived.Test.YtafnnnhmplgkcaaGreatDoorP30Sf
/- Laws of roots, by codes. -/
namespace Go.Proofs.YtafnnnhmplgkcaaGreatDoor
set_option linter.unusedVariables false
set_option linter.unusedSimpArgs false
set_option maxRecDepth 100000
open Go.RowKit
theorem size_facts {f : Nat} (hf : f < 4) (a : Nat) : clsF f (sizeN f a) = clsF f a ∧ FP.cod f (sizeN f a) = FP.cod f a ∧ FP.sgn f (sizeN f a) = false := by
  have la := FP.cod_lt f a
  refine ⟨?_, FP.cod_mk _ la, FP.sgn_mk _ la⟩
  unfold sizeN; rw [clsF_mk hf _ la, ← clsF_cod hf]
theorem cls_zero {f a : Nat} (hf : f < 4) : clsF f a = 0 ↔ FP.cod f a = 0 := by rw [clsF_cod hf]; exact clsC_zero_iff
theorem mk_f {f c : Nat} : FP.mk f false c = c := by unfold FP.mk; simp
end Go.Proofs.YtafnnnhmplgkcaaGreatDoor
