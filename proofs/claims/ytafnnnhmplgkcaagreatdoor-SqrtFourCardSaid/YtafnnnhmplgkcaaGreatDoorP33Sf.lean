import Derived.Test.YtafnnnhmplgkcaaGreatDoorP31Sf
import Derived.Test.YtafnnnhmplgkcaaGreatDoorP29Sf
/- Roots of numbers four times as great, by codes. -/
namespace Go.Proofs.YtafnnnhmplgkcaaGreatDoor
set_option linter.unusedVariables false
set_option linter.unusedSimpArgs false
set_option maxRecDepth 100000
open Go.RowKit
theorem val_double {f k : Nat} (hf : f < 4) (h : 2 ^ (FP.fP f - 1) ≤ k) : FP.val f (k + 2 ^ (FP.fP f - 1)) = 2 * FP.val f k := by
  show FP.cval (FP.fP f) (k + 2 ^ (FP.fP f - 1)) = 2 * FP.cval (FP.fP f) k
  have hp := FP.two_pow_pos (FP.fP f - 1)
  generalize FP.fP f = p at *
  have e1 : (k + 2 ^ (p - 1)) / 2 ^ (p - 1) = k / 2 ^ (p - 1) + 1 := Nat.add_div_right _ hp
  have h1 : 1 ≤ k / 2 ^ (p - 1) := (Nat.le_div_iff_mul_le hp).2 (by rw [Nat.one_mul]; exact h)
  obtain ⟨j, hj⟩ : ∃ j, k / 2 ^ (p - 1) = j + 1 := ⟨k / 2 ^ (p - 1) - 1, by omega⟩
  have hle : (j + 1) * 2 ^ (p - 1) ≤ k := by rw [← hj]; exact Nat.div_mul_le_self _ _
  unfold FP.cval FP.cq FP.csh
  rw [e1, hj, show j + 1 + 1 - 1 = j + 1 by omega, show j + 1 - 1 = j by omega, Nat.pow_succ, show k + 2 ^ (p - 1) - (j + 1) * 2 ^ (p - 1) = k - j * 2 ^ (p - 1) by rw [Nat.add_mul, Nat.one_mul] at hle ⊢; omega]
  ac_rfl
theorem addR_code {f : Nat} (hf : f < 4) (m : Nat) (t : Bool) {r : Nat} (hr : r < FP.inf f) : addR f m t r r = FP.roundC (FP.fP f) (FP.fE f) m t false (FP.val f r + FP.val f r) 1 := by
  have lr : r < 2 ^ (FP.fW f - 1) := Nat.lt_trans hr (inf_lt hf)
  have e : r = FP.mk f false r := mk_f.symm
  have k1 : FP.cod f r = r := by rw [e]; exact (FP.cod_mk _ lr).trans e
  have k2 : FP.sgn f r = false := by rw [e]; exact FP.sgn_mk _ lr
  have k3 : clsF f r < 3 := by rw [clsF_cod hf, k1]; exact FP.clsC_fin.2 hr
  unfold addR
  rw [if_neg (by omega), if_neg (by omega), if_neg (fun h => by have := (addI_cls h).1; omega), if_neg (by omega), if_neg (by omega), k1, k2]
  unfold FP.addC FP.addN
  rw [FP.sgN_same, FP.sgV_same, mk_f]
theorem sqrtR_code {f : Nat} (hf : f < 4) (m : Nat) (t : Bool) {c : Nat} (h0 : 0 < c) (hc : c < FP.inf f) : sqrtR f m t c = FP.sqrtC f m t c := by
  have lr : c < 2 ^ (FP.fW f - 1) := Nat.lt_trans hc (inf_lt hf)
  have e : c = FP.mk f false c := mk_f.symm
  have k1 : FP.cod f c = c := by rw [e]; exact (FP.cod_mk _ lr).trans e
  have k2 : FP.sgn f c = false := by rw [e]; exact FP.sgn_mk _ lr
  have k3 : clsF f c < 3 := by rw [clsF_cod hf, k1]; exact FP.clsC_fin.2 hc
  have k4 : ¬ clsF f c = 0 := by rw [cls_zero hf, k1]; omega
  unfold sqrtR
  rw [if_neg (by omega), if_neg (fun h => Bool.false_ne_true (k2.symm.trans h.1)), if_neg k4, if_neg (by omega), k1, mk_f]
theorem four_code {f c : Nat} (hf : f < 4) (h1 : 1 ≤ c / 2 ^ (FP.fP f - 1)) (h2 : c / 2 ^ (FP.fP f - 1) + 2 ≤ 2 * FP.fE f) : 2 ^ (FP.fP f - 1) ≤ c ∧ c + 2 * 2 ^ (FP.fP f - 1) < FP.inf f ∧
    (c + 2 * 2 ^ (FP.fP f - 1)) / 2 ^ (FP.fP f - 1) = c / 2 ^ (FP.fP f - 1) + 2 ∧ (c + 2 * 2 ^ (FP.fP f - 1)) % 2 ^ (FP.fP f - 1) = c % 2 ^ (FP.fP f - 1) := by
  have hp := FP.two_pow_pos (FP.fP f - 1)
  have hI : FP.inf f = (2 * FP.fE f + 1) * 2 ^ (FP.fP f - 1) := rfl
  rw [hI]
  generalize 2 ^ (FP.fP f - 1) = p at *
  have e := Nat.div_add_mod c p
  have hm := Nat.mod_lt c hp
  refine ⟨?_, ?_, Nat.add_mul_div_right c 2 hp, Nat.add_mul_mod_self_right c 2 p⟩
  · have := Nat.mul_le_mul_left p h1; rw [Nat.mul_one] at this; omega
  · have h3 : (c / p + 3) * p ≤ (2 * FP.fE f + 1) * p := Nat.mul_le_mul_right _ (by omega)
    rw [Nat.add_mul, Nat.mul_comm (c / p)] at h3
    omega
/-- the root of a number four times as great -/
theorem sqrtR_four {f : Nat} (hf : f < 4) (m : Nat) (t : Bool) {a c : Nat} (hc : FP.cod f a = c) (h1 : 1 ≤ c / 2 ^ (FP.fP f - 1)) (h2 : c / 2 ^ (FP.fP f - 1) + 2 ≤ 2 * FP.fE f) :
    ∃ r g q, r < W128 ∧ r + 2 ^ (FP.fP f - 1) < W128 ∧ c + 2 * 2 ^ (FP.fP f - 1) < W128 ∧ sqrtR f m t (sizeN f a) = (r, g) ∧ sqrtR f m t (c + 2 * 2 ^ (FP.fP f - 1)) = (r + 2 ^ (FP.fP f - 1), g) ∧ addR f m t r r = (r + 2 ^ (FP.fP f - 1), 0) ∧ q = 0 := by
  obtain ⟨q1, q2, q3, q4⟩ := four_code hf h1 h2
  have hp := FP.two_pow_pos (FP.fP f - 1)
  have hiW : FP.inf f ≤ W128 := by
    have := inf_lt hf
    have h3 : 2 ^ (FP.fW f - 1) ≤ W128 := pow_le128 (by have := FP.fW_le hf; omega)
    omega
  obtain ⟨s1, s2, s3⟩ := FP.sqrtC_code (m := m) (after := t) hf (show 0 < c by omega) (show c < FP.inf f by omega)
  obtain ⟨u1, u2, u3⟩ := FP.sqrtC_code (m := m) (after := t) hf (show 0 < c + 2 * 2 ^ (FP.fP f - 1) by omega) q2
  have h4 := FP.sqrtC_four (m := m) (after := t) hf q1 q2
  have e1 := sqrtR_code hf m t (show 0 < c by omega) (show c < FP.inf f by omega)
  have e2 := sqrtR_code hf m t (show 0 < c + 2 * 2 ^ (FP.fP f - 1) by omega) q2
  rw [h4] at u1 u2 u3 e2
  simp only at u1 u2
  refine ⟨(FP.sqrtC f m t c).1, (FP.sqrtC f m t c).2, 0, by omega, by omega, by omega, ?_, e2, ?_, rfl⟩
  · rw [sizeN_eq, hc]; exact e1
  · rw [addR_code hf m t s1]
    refine FP.roundC_exact (FP.fP_ge hf) (by decide) u1 ?_
    have := val_double hf s2
    rw [Nat.mul_one]
    show FP.val f _ + FP.val f _ = FP.val f _
    rw [this]; omega
theorem k_split {F : Int} {φ A : Nat} (hF : fN F = φ) (hφ : φ < 4) : F_format_Split [F, wd (sizeN φ A) 1, wd (sizeN φ A) 0] = [b2i false, ((FP.cod φ A / 2 ^ (FP.fP φ - 1) : Nat) : Int), wd (FP.cod φ A % 2 ^ (FP.fP φ - 1)) 1, wd (FP.cod φ A % 2 ^ (FP.fP φ - 1)) 0] := by
  obtain ⟨s1, s2, s3⟩ := size_facts hφ A
  rw [s_format_Split, hF, if_pos hφ, nB_small (size_lt hφ A), s2, s3, oB_eq]; rfl
theorem k_split0 {F a1 a0 : Int} (hF : ¬ fN F < 4) : F_format_Split [F, a1, a0] = [0, 0, 0, 0] := by rw [s_format_Split, if_neg hF]
theorem k_make4 {F : Int} {φ c : Nat} (hF : fN F = φ) (hφ : φ < 4) (h1 : 1 ≤ c / 2 ^ (FP.fP φ - 1)) (h2 : c / 2 ^ (FP.fP φ - 1) + 2 ≤ 2 * FP.fE φ) : F_format_Make [F, 0, ((c / 2 ^ (FP.fP φ - 1) + 2 : Nat) : Int), wd (c % 2 ^ (FP.fP φ - 1)) 1, wd (c % 2 ^ (FP.fP φ - 1)) 0] = [wd (c + 2 * 2 ^ (FP.fP φ - 1)) 1, wd (c + 2 * 2 ^ (FP.fP φ - 1)) 0] := by
  obtain ⟨q1, q2, q3, q4⟩ := four_code hφ h1 h2
  have hl : c + 2 * 2 ^ (FP.fP φ - 1) < 2 ^ (FP.fW φ - 1) := Nat.lt_trans q2 (inf_lt hφ)
  obtain ⟨n1, n2, n3, n4, n5, n6, n7, n8, n9⟩ := FP.fmtN hφ
  have hm := make_code hφ hl false
  rw [q3, q4] at hm
  have hfr : c % 2 ^ (FP.fP φ - 1) < W128 := mod_lt128 _ (by omega)
  rw [s_format_Make, hF, if_pos hφ, nB_small hfr, i64_nat (by omega), show iNz 0 = false by decide, hm, mk_f, oB_eq]
end Go.Proofs.YtafnnnhmplgkcaaGreatDoor
