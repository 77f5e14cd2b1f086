import Derived.Test.YtafnnnhmplgkcaaGreatDoorP22
import Derived.Test.YtafnnnhmplgkcaaGreatDoorP19a
/- Calls of rem.Rem by numbers; its special operands. -/
namespace Go.Proofs.YtafnnnhmplgkcaaGreatDoor
set_option linter.unusedVariables false
set_option linter.unusedSimpArgs false
set_option maxRecDepth 100000
open Go.RowKit
theorem k_rem_Rem {F a1 a0 b1 b0 : Int} {φ A B : Nat} (hF : fN F = φ) (hφ : φ < 4) (hA : nB a1 a0 = A) (hB : nB b1 b0 = B) : F_rem_Rem [F, a1, a0, b1, b0] = [wd (remR φ A B).1 1, wd (remR φ A B).1 0, (((remR φ A B).2 : Nat) : Int)] := by
  rw [s_rem_Rem _ _ _ _ _ (by rw [hF]; exact hφ), hF, hA, hB, oR_eq']
theorem s_rem_Rem0 (f a1 a0 b1 b0 : Int) (h : ¬ fN f < 4) : F_rem_Rem [f, a1, a0, b1, b0] = [0, 0, 0] := by
  rw [F_rem_Rem, t_rem_Rem]
  refine tT (by simp only [sxs]; rw [decide_eq_false (fun h2 => h ((u8_lt4 f).1 h2))]; rfl) ?_
  rw [t_rem_Rem_1, treeF_leaf rfl]; rfl
/-- a NaN, and noughts and infinities -/
theorem remR_nan {f : Nat} (hf : f < 4) {a : Nat} (ha : 4 ≤ clsF f a) (n : Bool) :
    remR f a (FP.mk f n 0) = (quN f a, if clsF f a = 5 then 1 else 0) ∧ remR f (FP.mk f n (FP.inf f)) a = (quN f a, if clsF f a = 5 then 1 else 0) ∧
    remR f a (FP.mk f n (FP.inf f)) = (quN f a, if clsF f a = 5 then 1 else 0) ∧ remR f (FP.mk f n 0) a = (quN f a, if clsF f a = 5 then 1 else 0) := by
  obtain ⟨z1, z2, z3⟩ := cls_nought hf n
  obtain ⟨i1, i2, i3⟩ := cls_inf hf n
  unfold remR nanFlag
  simp only [ha, if_true, z1, i1, show ¬ 4 ≤ 0 by decide, show ¬ 4 ≤ 3 by decide, if_false, show ¬ (0 : Nat) = 5 by decide, show ¬ (3 : Nat) = 5 by decide, or_false, false_or, and_self]
theorem remR_special {f : Nat} (hf : f < 4) {a : Nat} (ha : ¬ 4 ≤ clsF f a) (n : Bool) :
    remR f a (FP.mk f n 0) = (dfl f, 1) ∧ remR f (FP.mk f n (FP.inf f)) a = (dfl f, 1) ∧ (clsF f a = 3 → remR f a (FP.mk f n (FP.inf f)) = (dfl f, 1)) ∧
    (¬ clsF f a = 3 → remR f a (FP.mk f n (FP.inf f)) = (a % 2 ^ FP.fW f, 0)) ∧ (clsF f a = 0 → remR f (FP.mk f n 0) a = (dfl f, 1)) ∧ (¬ clsF f a = 0 → remR f (FP.mk f n 0) a = (FP.mk f n 0, 0)) := by
  obtain ⟨z1, z2, z3⟩ := cls_nought hf n
  obtain ⟨i1, i2, i3⟩ := cls_inf hf n
  have nz : ¬ 4 ≤ clsF f (FP.mk f n 0) := by omega
  have ni : ¬ 4 ≤ clsF f (FP.mk f n (FP.inf f)) := by omega
  refine ⟨?_, ?_, fun h => ?_, fun h => ?_, fun h => ?_, fun h => ?_⟩
  · unfold remR; rw [if_neg ha, if_neg nz, if_pos ((badR_eq _ _).2 (.inr z1))]
  · unfold remR; rw [if_neg ni, if_neg ha, if_pos ((badR_eq _ _).2 (.inl i1))]
  · unfold remR; rw [if_neg ha, if_neg ni, if_pos ((badR_eq _ _).2 (.inl h))]
  · unfold remR; rw [if_neg ha, if_neg ni, if_neg (by rw [badR_eq]; omega), if_pos (.inr i1), FP.mk_cut hf]
  · unfold remR; rw [if_neg nz, if_neg ha, if_pos ((badR_eq _ _).2 (.inr h))]
  · unfold remR; rw [if_neg nz, if_neg ha, if_neg (by rw [badR_eq]; omega), if_pos (.inl z1), z2, z3]
end Go.Proofs.YtafnnnhmplgkcaaGreatDoor
