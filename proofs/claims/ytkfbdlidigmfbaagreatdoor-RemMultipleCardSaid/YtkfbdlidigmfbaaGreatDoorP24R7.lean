import Derived.Test.YtkfbdlidigmfbaaGreatDoorP23R7
namespace Go.Proofs.YtkfbdlidigmfbaaGreatDoor
set_option linter.unusedVariables false
set_option linter.unusedSimpArgs false
set_option maxRecDepth 100000
open Go.RowKit
theorem pos_cod {f a : Nat} (hf : f < 4) (h0 : ¬ clsF f a = 0) : 0 < FP.cod f a := by
 apply Nat.pos_of_ne_zero
 intro e
 apply h0
 rw [clsF_cod hf, e]; unfold FP.clsC; rw [if_pos rfl]
end Go.Proofs.YtkfbdlidigmfbaaGreatDoor
