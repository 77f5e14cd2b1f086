import Derived.Test.YtngiodcdelfdmaaGreatDoorP16R8
import Derived.Test.YtngiodcdelfdmaaGreatDoorP29aR8
namespace Go.Proofs.YtngiodcdelfdmaaGreatDoor
set_option linter.unusedVariables false
set_option linter.unusedSimpArgs false
set_option maxRecDepth 100000
open Go.RowKit
theorem pow_bits {f k : Nat} (hf : f < 4) (hk : 1 ≤ k) (hk2 : k ≤ 2 * FP.fE f) : k * 2 ^ (FP.fP f - 1) < 2 ^ (FP.fW f - 1) ∧ clsF f (FP.mk f false (k * 2 ^ (FP.fP f - 1))) = 2 ∧ FP.cod f (FP.mk f false (k * 2 ^ (FP.fP f - 1))) = k * 2 ^ (FP.fP f - 1) ∧ FP.sgn f (FP.mk f false (k * 2 ^ (FP.fP f - 1))) = false ∧ FP.clsC f (k * 2 ^ (FP.fP f - 1)) = 2 := by
 have hI : FP.inf f = (2 * FP.fE f + 1) * 2 ^ (FP.fP f - 1) := rfl
 have hp := FP.two_pow_pos (FP.fP f - 1)
 have h1 : k * 2 ^ (FP.fP f - 1) < FP.inf f := by rw [hI]; exact Nat.mul_lt_mul_of_pos_right (by omega) hp
 have hl := Nat.lt_trans h1 (inf_lt hf)
 have hge : 2 ^ (FP.fP f - 1) ≤ k * 2 ^ (FP.fP f - 1) := Nat.le_mul_of_pos_left _ hk
 have hc : FP.clsC f (k * 2 ^ (FP.fP f - 1)) = 2 := by
  unfold FP.clsC
  rw [if_neg (by omega), if_neg (by omega), if_pos h1]
 exact ⟨hl, by rw [clsF_mk hf _ hl]; exact hc, FP.cod_mk _ hl, FP.sgn_mk _ hl, hc⟩
theorem divR_power {f : Nat} (hf : f < 4) (m : Nat) (t : Bool) {a k j : Nat} (na : ¬ 4 ≤ clsF f a) (hk : 1 ≤ k) (hj : 1 ≤ j) (h : k + j = 2 * FP.fE f) :
  divR f m t a (FP.mk f false (k * 2 ^ (FP.fP f - 1))) = mulR f m t a (FP.mk f false (j * 2 ^ (FP.fP f - 1))) := by
 obtain ⟨x1, x2, x3, x4, x5⟩ := pow_bits hf hk (by omega)
 obtain ⟨y1, y2, y3, y4, y5⟩ := pow_bits hf hj (by omega)
 have n2 : ¬ 4 ≤ 2 := by omega
 have hl : ¬ likeC (clsF f a) 2 = true := by unfold likeC; simp; omega
 have hb : ¬ badC (clsF f a) 2 = true := by unfold badC; simp; omega
 have ca := clsF_cod hf a
 unfold divR mulR divS
 rw [x2, x3, x4, y2, y3, y4, x5, ← ca, bne_false']
 by_cases h3 : clsF f a = 3
 ·have hl3 : ¬ likeC 3 2 = true := by rw [h3] at hl; exact hl
  have hb3 : ¬ badC 3 2 = true := by rw [h3] at hb; exact hb
  simp only [h3, hl3, hb3, n2, show ¬ 4 ≤ 3 by omega, if_true, if_false, true_or]
 ·by_cases h0 : clsF f a = 0
  ·have hl0 : ¬ likeC 0 2 = true := by rw [h0] at hl; exact hl
   have hb0 : ¬ badC 0 2 = true := by rw [h0] at hb; exact hb
   have c0 : FP.cod f a = 0 := by
    apply Nat.eq_zero_of_not_pos; intro hp
    rw [ca] at h0
    exact absurd (clsC_zero_iff.1 h0) (by omega)
   have z : FP.mulC f m t (FP.sgn f a) 0 (j * 2 ^ (FP.fP f - 1)) = (0, 0) := by
    unfold FP.mulC
    rw [show FP.val f 0 = 0 from FP.cval_zero _, Nat.zero_mul, FP.roundC_zero]
   rw [c0, z]
   simp only [h0, hl0, hb0, n2, show ¬ 4 ≤ 0 by omega, show ¬ (0 : Nat) = 3 by omega, show ¬ (2 : Nat) = 3 by omega, if_true, if_false, or_true, or_self]
  ·have h4 : ¬ (clsF f a = 3 ∨ (2 : Nat) = 3) := by omega
   have h5 : ¬ ((2 : Nat) = 3 ∨ clsF f a = 0) := by omega
   rw [if_neg na, if_neg na, if_neg n2, if_neg n2, if_neg hl, if_neg hb, if_neg h3, if_neg h5, if_neg (show ¬ (2 : Nat) = 0 by omega), if_neg h4, FP.div_power hf hk hj h]
theorem pw_exp {E : Nat} (h1 : 1 ≤ E) (h2 : E ≤ 16383) (q : Int) : ∃ k j : Nat, 1 ≤ k ∧ 1 ≤ j ∧ k + j = 2 * E ∧ i64 (i64 (E : Int) + q.tmod (i64 (E : Int))) = (k : Int) ∧ i64 (i64 (E : Int) - q.tmod (i64 (E : Int))) = (j : Int) := by
 rw [i64_nat (by omega)]
 have a1 := Int.tmod_lt_of_pos q (b := (E : Int)) (by omega)
 have a2 := Int.lt_tmod_of_pos q (b := (E : Int)) (by omega)
 generalize q.tmod (E : Int) = r at *
 refine ⟨((E : Int) + r).toNat, ((E : Int) - r).toNat, by omega, by omega, by omega, ?_, ?_⟩
 ·rw [i64_id (by omega) (by omega)]; omega
 ·rw [i64_id (by omega) (by omega)]; omega
theorem k_pow {F : Int} {φ k : Nat} {x : Int} (hF : fN F = φ) (hφ : φ < 4) (hk : 1 ≤ k) (hk2 : k ≤ 2 * FP.fE φ) (hx : x = (k : Int)) : F_format_Make [F, 0, x, 0, 0] = [wd (FP.mk φ false (k * 2 ^ (FP.fP φ - 1))) 1, wd (FP.mk φ false (k * 2 ^ (FP.fP φ - 1))) 0] := by
 obtain ⟨n1, n2, n3, n4, n5, n6, n7, n8, n9⟩ := FP.fmtN hφ
 have hp := FP.two_pow_pos (FP.fP φ - 1)
 have hm := make_code hφ (pow_bits hφ hk hk2).1 false
 have q1 : k * 2 ^ (FP.fP φ - 1) / 2 ^ (FP.fP φ - 1) = k := Nat.mul_div_cancel _ hp
 have q2 : k * 2 ^ (FP.fP φ - 1) % 2 ^ (FP.fP φ - 1) = 0 := Nat.mul_mod_left _ _
 rw [q1, q2] at hm
 rw [hx, s_format_Make, hF, if_pos hφ, i64_nat (by omega), show nB 0 0 = 0 from nB_00, show iNz 0 = false by decide, hm, oB_eq]
end Go.Proofs.YtngiodcdelfdmaaGreatDoor
