import Derived.Test.YtemomocmfggiaaaGreatDoorP17U2
import Derived.Test.YtemomocmfggiaaaGreatDoorZQU2
import Derived.Test.YtemomocmfggiaaaGreatDoorP20U2
namespace Go.Proofs.YtemomocmfggiaaaGreatDoor
set_option linter.unusedVariables false
set_option linter.unusedSimpArgs false
set_option maxRecDepth 100000
open Go.RowKit
theorem k_wordCmp {p q : Nat} (hp : p < W128) (hq : q < W128) : F_word_Cmp [wd p 1, wd p 0, wd q 1, wd q 0] = [nCmp p q] := by
 rw [s_word_Cmp, nB_small hp, nB_small hq]
theorem nCmp_eq {p q : Nat} : (nCmp p q == 0) = decide (p = q) := by
 rw [Bool.eq_iff_iff, beq_iff_eq, decide_eq_true_iff]; unfold nCmp
 by_cases h1 : p < q
 ·rw [if_pos h1]; omega
 ·rw [if_neg h1]
  by_cases h2 : q < p
  ·rw [if_pos h2]; omega
  ·rw [if_neg h2]; omega
theorem nCmp_i64 (p q : Nat) : i64 (nCmp p q) = nCmp p q := by
 unfold nCmp
 by_cases h1 : p < q
 ·rw [if_pos h1]; rfl
 ·rw [if_neg h1]
  by_cases h2 : q < p
  ·rw [if_pos h2]; rfl
  ·rw [if_neg h2]; rfl
end Go.Proofs.YtemomocmfggiaaaGreatDoor
