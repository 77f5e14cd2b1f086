import Derived.Test.YtngiodcdelfdmaaGreatDoorP22R3
import Derived.Test.YtngiodcdelfdmaaGreatDoorP19aR3
namespace Go.Proofs.YtngiodcdelfdmaaGreatDoor
set_option linter.unusedVariables false
set_option linter.unusedSimpArgs false
set_option maxRecDepth 100000
open Go.RowKit
theorem s_rem_Rem0 (f a1 a0 b1 b0 : Int) (h : ¬ fN f < 4) : F_rem_Rem [f, a1, a0, b1, b0] = [0, 0, 0] := by
 rw [F_rem_Rem, t_rem_Rem]
 refine tT (by simp only [sxs]; rw [decide_eq_false (fun h2 => h ((u8_lt4 f).1 h2))]; rfl) ?_
 rw [t_rem_Rem_1, treeF_leaf rfl]; rfl
end Go.Proofs.YtngiodcdelfdmaaGreatDoor
