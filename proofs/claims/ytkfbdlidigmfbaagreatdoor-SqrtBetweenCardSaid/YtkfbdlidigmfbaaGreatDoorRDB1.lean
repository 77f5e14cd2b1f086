import Derived.Test.YtkfbdlidigmfbaaGreatDoorZQB1
namespace Go.Proofs.YtkfbdlidigmfbaaGreatDoor
namespace FP
set_option linter.unusedVariables false
set_option linter.unusedSimpArgs false
theorem rep {P q k : Nat} (hP : 2 ≤ P) (hq : q < 2 ^ P) : ∃ e, cval P e = q * 2 ^ k := by
 have h := (exactF_iff (p := P) hP (by decide)).1 (exactF_bits (k := k) (D := 1) hP (by decide) hq)
 exact ⟨_, by rw [Nat.mul_one, Nat.mul_one] at h; exact h.symm⟩
end FP
end Go.Proofs.YtkfbdlidigmfbaaGreatDoor
