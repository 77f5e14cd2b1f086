import Derived.Test.YtafnnnhmplgkcaaGreatDoorP30
/- Laws of roots, by codes. -/
namespace Go.Proofs.YtafnnnhmplgkcaaGreatDoor
set_option linter.unusedVariables false
set_option linter.unusedSimpArgs false
set_option maxRecDepth 100000
open Go.RowKit
theorem size_facts {f : Nat} (hf : f < 4) (a : Nat) : clsF f (sizeN f a) = clsF f a ∧ FP.cod f (sizeN f a) = FP.cod f a ∧ FP.sgn f (sizeN f a) = false := by
  have la := FP.cod_lt f a
  refine ⟨?_, FP.cod_mk _ la, FP.sgn_mk _ la⟩
  unfold sizeN; rw [clsF_mk hf _ la, ← clsF_cod hf]
theorem cls_zero {f a : Nat} (hf : f < 4) : clsF f a = 0 ↔ FP.cod f a = 0 := by rw [clsF_cod hf]; exact clsC_zero_iff
theorem cls_three {f a : Nat} (hf : f < 4) : clsF f a = 3 ↔ FP.cod f a = FP.inf f := by rw [clsF_cod hf]; exact FP.clsC_inf
theorem mk_f {f c : Nat} : FP.mk f false c = c := by unfold FP.mk; simp
def sqC (f m : Nat) (t : Bool) (c : Nat) : Nat := if c = 0 then 0 else if c = FP.inf f then FP.inf f else (FP.sqrtC f m t c).1
theorem sqrtR_size {f : Nat} (hf : f < 4) (m : Nat) (t : Bool) {a : Nat} (na : ¬ 4 ≤ clsF f a) : (sqrtR f m t (sizeN f a)).1 = sqC f m t (FP.cod f a) := by
  obtain ⟨s1, s2, s3⟩ := size_facts hf a
  unfold sqrtR sqC
  rw [s1, s2, s3, if_neg na, if_neg (fun h => Bool.false_ne_true h.1)]
  by_cases h0 : clsF f a = 0
  · rw [if_pos h0, if_pos ((cls_zero hf).1 h0), mk_f]
  · rw [if_neg h0, if_neg (fun h => h0 ((cls_zero hf).2 h))]
    by_cases h3 : clsF f a = 3
    · rw [if_pos h3, if_pos ((cls_three hf).1 h3), mk_f]
    · rw [if_neg h3, if_neg (fun h => h3 ((cls_three hf).2 h)), mk_f]
theorem sqC_mono {f : Nat} (hf : f < 4) (m : Nat) (t : Bool) {c d : Nat} (h : c ≤ d) (hd : d ≤ FP.inf f) : sqC f m t c ≤ sqC f m t d := by
  have hi := FP.inf_pos f
  unfold sqC
  by_cases c0 : c = 0
  · rw [if_pos c0]; exact Nat.zero_le _
  · rw [if_neg c0, if_neg (show ¬ d = 0 by omega)]
    by_cases dI : d = FP.inf f
    · rw [if_pos dI]
      by_cases cI : c = FP.inf f
      · rw [if_pos cI]; exact Nat.le_refl _
      · rw [if_neg cI]
        exact Nat.le_of_lt (FP.sqrtC_code hf (by omega) (by omega)).1
    · rw [if_neg dI, if_neg (show ¬ c = FP.inf f by omega)]
      exact FP.sqrtC_mono hf (by omega) h (by omega)
theorem cod_le_inf' {f a : Nat} (hf : f < 4) (ha : ¬ 4 ≤ clsF f a) : FP.cod f a ≤ FP.inf f := by
  rw [clsF_cod hf] at ha
  apply Nat.le_of_not_lt; intro h
  exact ha (FP.clsC_nan.2 h)
theorem sqrtR_order {f : Nat} (hf : f < 4) (m : Nat) (t : Bool) {a b : Nat} (na : ¬ 4 ≤ clsF f a) (nb : ¬ 4 ≤ clsF f b) (h : sizeN f a ≤ sizeN f b) : (sqrtR f m t (sizeN f a)).1 ≤ (sqrtR f m t (sizeN f b)).1 := by
  rw [sqrtR_size hf m t na, sqrtR_size hf m t nb]
  rw [sizeN_eq, sizeN_eq] at h
  exact sqC_mono hf m t h (cod_le_inf' hf nb)
theorem sqrtR_n0 {f : Nat} (hf : f < 4) (m : Nat) (t : Bool) {a : Nat} (h : clsF f a = 0) : sqrtR f m t a = (a % 2 ^ FP.fW f, 0) := by
  unfold sqrtR
  rw [if_neg (by omega), if_neg (fun h2 => h2.2 h), if_pos h, ← (cls_zero hf).1 h, FP.mk_cut hf]
theorem sqrtR_n1 {f : Nat} (m : Nat) (t : Bool) {a : Nat} (h : 4 ≤ clsF f a) : sqrtR f m t a = (quN f a, if clsF f a = 5 then 1 else 0) := by
  unfold sqrtR; rw [if_pos h]
theorem sqrtR_n2 {f : Nat} (m : Nat) (t : Bool) {a : Nat} (h : ¬ 4 ≤ clsF f a) (h0 : ¬ clsF f a = 0) (hs : FP.sgn f a = true) : sqrtR f m t a = (dfl f, 1) := by
  unfold sqrtR; rw [if_neg h, if_pos ⟨hs, h0⟩]
theorem sqrtR_n3 {f : Nat} (hf : f < 4) (m : Nat) (t : Bool) {a : Nat} (h : ¬ 4 ≤ clsF f a) (h0 : ¬ clsF f a = 0) (hs : ¬ FP.sgn f a = true) :
    ∃ k g, sqrtR f m t a = (k, g) ∧ k < W128 ∧ ¬ 4 ≤ clsF f k ∧ (g = 0 ∨ g = 16 ∨ g = 20 ∨ g = 24) := by
  have hc : ∀ c, c ≤ FP.inf f → FP.mk f false c < W128 ∧ ¬ 4 ≤ clsF f (FP.mk f false c) := fun c hc => by
    have hl := Nat.lt_of_le_of_lt hc (inf_lt hf)
    refine ⟨mk_W hf _ hl, ?_⟩
    rw [clsF_mk hf _ hl]
    have := clsC_le3 hf hc
    omega
  unfold sqrtR
  rw [if_neg h, if_neg (fun h => hs h.1), if_neg h0]
  by_cases h3 : clsF f a = 3
  · rw [if_pos h3]
    obtain ⟨q1, q2⟩ := hc _ (Nat.le_refl _)
    exact ⟨_, _, rfl, q1, q2, .inl rfl⟩
  · rw [if_neg h3]
    rw [FP.sqrtC_eq]
    obtain ⟨q1, q2⟩ := hc _ (FP.roundC_le (FP.fP f) (FP.fE f) m t false (FP.rtN f (FP.cod f a)) (FP.rtD f (FP.cod f a)))
    exact ⟨_, _, rfl, q1, q2, FP.roundC_flag_set _ _ _ _ _ _ _⟩
/-- the root of an exact square -/
theorem sqrtR_square {f : Nat} (hf : f < 4) (m : Nat) (t : Bool) {a : Nat} (ha : clsF f a < 3) (h : (mulR f m t (sizeN f a) (sizeN f a)).2 = 0) :
    ∃ s, s < W128 ∧ mulR f m t (sizeN f a) (sizeN f a) = (s, 0) ∧ sqrtR f m t s = (sizeN f a, 0) := by
  obtain ⟨s1, s2, s3⟩ := size_facts hf a
  have hp := FP.fP_ge hf
  have na : ¬ 4 ≤ clsF f (sizeN f a) := by rw [s1]; omega
  have hc := (cls_fin hf ha).1
  have e : mulR f m t (sizeN f a) (sizeN f a) = (FP.mk f false (FP.mulC f m t false (FP.cod f a) (FP.cod f a)).1, (FP.mulC f m t false (FP.cod f a) (FP.cod f a)).2) := by
    unfold mulR
    rw [if_neg na, if_neg na, s1, s2, s3, if_neg (by unfold badC; simp; omega), if_neg (by omega)]; rfl
  rw [e] at h ⊢
  obtain ⟨q, k, hq⟩ : ∃ q k, FP.mulC f m t false (FP.cod f a) (FP.cod f a) = (q, k) := ⟨_, _, rfl⟩
  rw [hq] at h ⊢
  obtain rfl : k = 0 := h
  obtain ⟨q1, q2⟩ := FP.roundC_flag0 hp (FP.two_pow_pos _) hq
  have ql : q < 2 ^ (FP.fW f - 1) := Nat.lt_trans q1 (inf_lt hf)
  have kc : FP.cod f (FP.mk f false q) = q := FP.cod_mk _ ql
  have ks : FP.sgn f (FP.mk f false q) = false := FP.sgn_mk _ ql
  refine ⟨_, mk_W hf _ ql, rfl, ?_⟩
  by_cases c0 : FP.cod f a = 0
  · have q0 : q = 0 := by
      apply Nat.eq_zero_of_not_pos; intro hpos
      have h2 := FP.cval_pos hp hpos
      have h3 := Nat.mul_pos h2 (FP.two_pow_pos (FP.fU f))
      rw [c0] at q2
      have h4 : FP.val f 0 = 0 := FP.cval_zero _
      rw [h4, Nat.zero_mul] at q2
      omega
    have z : clsF f (FP.mk f false q) = 0 := by rw [cls_zero hf, kc]; exact q0
    rw [sqrtR_n0 hf m t z]
    have : FP.mk f false q = 0 := by rw [mk_f]; exact q0
    rw [this, sizeN_eq, c0, Nat.zero_mod]
  · have q0 : 0 < q := by
      apply Nat.pos_of_ne_zero; intro hz
      rw [hz, FP.cval_zero, Nat.zero_mul] at q2
      have h2 : 0 < FP.val f (FP.cod f a) := FP.cval_pos hp (Nat.pos_of_ne_zero c0)
      have := Nat.mul_pos h2 h2
      omega
    have kf : clsF f (FP.mk f false q) < 3 := by rw [clsF_cod hf, kc]; exact FP.clsC_fin.2 q1
    have k0 : ¬ clsF f (FP.mk f false q) = 0 := by rw [cls_zero hf, kc]; omega
    unfold sqrtR
    rw [if_neg (by omega), if_neg (fun h => Bool.false_ne_true (ks.symm.trans h.1)), if_neg k0, if_neg (by omega), kc, FP.sqrtC_square hf (Nat.pos_of_ne_zero c0) hc q0 q1 q2]
    rfl
end Go.Proofs.YtafnnnhmplgkcaaGreatDoor
