import Derived.Test.YtkfbdlidigmfbaaGreatDoorP41B1
import Derived.Test.YtkfbdlidigmfbaaGreatDoorP42B1
import Derived.Test.YtkfbdlidigmfbaaGreatDoorP30B1
namespace Go.Proofs.YtkfbdlidigmfbaaGreatDoor
set_option linter.unusedVariables false
set_option linter.unusedSimpArgs false
theorem root_next {f c e : Nat} (hf : f < 4) (c1 : c < FP.inf f) (he : e < FP.inf f) (h : FP.val f e * FP.val f e ≤ FP.val f c * 2 ^ FP.fU f) : e + 1 < FP.inf f := by
 apply Classical.byContradiction; intro hn
 have hp := FP.fP_ge hf
 have hce : c ≤ e := by omega
 have h1 : FP.val f c ≤ FP.val f e := (FP.cval_le hp).2 hce
 have hone := FP.val_one hf
 have hoc : FP.oneC f + 1 < FP.inf f := by
  have hH := FP.two_pow_pos (FP.fP f - 1)
  have hE : 15 ≤ FP.fE f := by rcases FP.f4 hf with rfl | rfl | rfl | rfl <;> decide
  rw [show FP.oneC f = FP.fE f * 2 ^ (FP.fP f - 1) from rfl, show FP.inf f = (2 * FP.fE f + 1) * 2 ^ (FP.fP f - 1) from rfl]
  have := Nat.mul_le_mul_right (2 ^ (FP.fP f - 1)) (show FP.fE f + 2 ≤ 2 * FP.fE f + 1 by omega)
  rw [Nat.add_mul] at this
  omega
 have hge : FP.oneC f < e := by omega
 have h2 : FP.val f (FP.oneC f) < FP.val f e := FP.cval_strict hp hge
 rw [show FP.val f (FP.oneC f) = 2 ^ FP.fU f from hone] at h2
 have h3 := Nat.mul_lt_mul_of_pos_left h2 (show 0 < FP.val f e by omega)
 have h4 := Nat.mul_le_mul_right (2 ^ FP.fU f) h1
 omega
theorem sqrtR_pos {f m c : Nat} {t : Bool} (hf : f < 4) (c0 : 0 < c) (c1 : c < FP.inf f) : sqrtR f m t (FP.mk f false c) = (FP.mk f false (FP.sqrtC f m t c).1, (FP.sqrtC f m t c).2) := by
 obtain ⟨a1, a2, a3⟩ := mk_fin hf false c1
 have h0 : ¬ clsF f (FP.mk f false c) = 0 := by
  rw [clsF_mk hf _ (Nat.lt_trans c1 (inf_lt hf))]
  intro h; exact absurd (clsC_zero_iff.1 h) (by omega)
 unfold sqrtR
 rw [if_neg (by omega), if_neg (by rw [a2]; simp), if_neg h0, if_neg (by omega), a3]
theorem nCmp_le0 {p q : Nat} : decide (nCmp p q ≤ 0) = decide (p ≤ q) := by
 rw [decide_eq_decide]; unfold nCmp; split
 ·omega
 ·split <;> omega
theorem nCmp_gt0 {p q : Nat} : decide (nCmp p q > 0) = decide (q < p) := by
 rw [decide_eq_decide]; unfold nCmp; split
 ·omega
 ·split <;> omega
theorem nCmp_eq0 {p q : Nat} : (nCmp p q == 0) = decide (p = q) := by
 rw [Bool.eq_iff_iff, beq_iff_eq, decide_eq_true_iff]; unfold nCmp; split
 ·omega
 ·split <;> omega
theorem root_law {f c : Nat} (hf : f < 3) (c0 : 0 < c) (c1 : c < FP.inf f) {n : Nat} (hn : FP.val f c * 2 ^ FP.fU (f + 1) = FP.val (f + 1) n * 2 ^ FP.fU f) :
  ∃ e k, sqrtR f 4 false (FP.mk f false c) = (FP.mk f false e, k) ∧ 0 < e ∧ e + 1 < FP.inf f ∧ k ≤ 16 ∧
   (∀ z, FP.val (f + 1) z * 2 ^ (FP.fU f + FP.fU f) = FP.val f e * FP.val f e * 2 ^ FP.fU (f + 1) → z ≤ n ∧ (z = n ↔ k = 0)) ∧
   (∀ z, FP.val (f + 1) z * 2 ^ (FP.fU f + FP.fU f) = FP.val f (e + 1) * FP.val f (e + 1) * 2 ^ FP.fU (f + 1) → n < z) := by
 have hf4 : f < 4 := by omega
 obtain ⟨e, k, h1, h2, h3, h4, h5, h6⟩ := FP.root_between (after := false) hf4 c0 c1
 have hk := (FP.sqrtC_code (m := 4) (after := false) hf4 c0 c1).2.2
 rw [h1] at hk
 simp only at hk
 refine ⟨e, k, by rw [sqrtR_pos hf4 c0 c1, h1], by have := FP.two_pow_pos (FP.fP f - 1); omega, root_next hf4 c1 h2 h4, by omega, fun z hz => ?_, fun z hz => ?_⟩
 ·obtain ⟨s1, s2⟩ := sq_cmp (d := 0) hf hn hz
  exact ⟨s1.2 h4, s2.trans h6⟩
 ·obtain ⟨s1, s2⟩ := sq_cmp (d := 0) hf hn hz
  apply Nat.lt_of_not_le
  intro h
  have := s1.1 h
  omega
end Go.Proofs.YtkfbdlidigmfbaaGreatDoor
