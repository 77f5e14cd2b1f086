import Derived.Test.YtafnnnhmplgkcaaGreatDoorP24Rh
import Derived.Test.YtafnnnhmplgkcaaGreatDoorP16Rh
/- Remainders and sums. -/
namespace Go.Proofs.YtafnnnhmplgkcaaGreatDoor
set_option linter.unusedVariables false
set_option linter.unusedSimpArgs false
set_option maxRecDepth 100000
open Go.RowKit
theorem val_def (f c : Nat) : FP.val f c = FP.cval (FP.fP f) c := rfl
theorem val_inj {f c d : Nat} (hf : f < 4) (h : FP.val f c = FP.val f d) : c = d := FP.cval_inj (FP.fP_ge hf) h
theorem val_zero (f : Nat) : FP.val f 0 = 0 := FP.cval_zero _
theorem val_pos {f c : Nat} (hf : f < 4) (h : 0 < c) : 0 < FP.val f c := FP.cval_pos (FP.fP_ge hf) h
theorem clsF_fin {f a : Nat} (hf : f < 4) : clsF f a < 3 ↔ FP.cod f a < FP.inf f := by rw [clsF_cod hf]; exact FP.clsC_fin
theorem cls_pos {f a : Nat} (hf : f < 4) (h : clsF f a = 1 ∨ clsF f a = 2) : 0 < FP.cod f a ∧ FP.cod f a < FP.inf f :=
  ⟨pos_cod hf (by omega), (clsF_fin hf).1 (by omega)⟩
theorem mk_self {f c : Nat} : FP.mk f false c = c := by unfold FP.mk; simp
theorem remR_gen {f : Nat} (hf : f < 4) {a b : Nat} (ha : clsF f a < 3) (hb : clsF f b = 1 ∨ clsF f b = 2) :
    remR f a b = (FP.mk f (FP.sgn f a != (FP.remT (FP.val f (FP.cod f a)) (FP.val f (FP.cod f b)) && !decide (FP.remV (FP.val f (FP.cod f a)) (FP.val f (FP.cod f b)) = 0))) (FP.remC f (FP.cod f a) (FP.cod f b)), 0) := by
  obtain ⟨b0, b1⟩ := cls_pos hf hb
  unfold remR
  rw [if_neg (by omega), if_neg (by omega), if_neg (by rw [badR_eq]; omega)]
  by_cases h0 : clsF f a = 0
  · rw [if_pos (.inl h0)]
    have hc : FP.cod f a = 0 := by
      apply Nat.eq_zero_of_not_pos; intro hp
      have h1 := (clsF_fin hf).1 ha
      rw [clsF_cod hf] at h0
      exact absurd (clsC_zero_iff.1 h0) (by omega)
    have hr := FP.rem_small (A := FP.val f 0) (B := FP.val f (FP.cod f b)) (by rw [val_zero]; have := val_pos hf b0; omega)
    obtain ⟨r1, r2, r3⟩ := FP.remC_val (c := 0) hf (FP.inf_pos f) b0 b1
    rw [hr.2] at r2
    rw [hc, hr.1, val_inj hf r2, Bool.false_and, bne_false']
  · rw [if_neg (by omega)]
theorem addR_sizes {f : Nat} (hf : f < 4) (m : Nat) (after : Bool) {a b : Nat} (ha : clsF f a < 3) (hb : clsF f b < 3) :
    addR f m after (sizeN f a) (sizeN f b) = FP.roundC (FP.fP f) (FP.fE f) m after false (FP.val f (FP.cod f a) + FP.val f (FP.cod f b)) 1 := by
  have la := FP.cod_lt f a
  have lb := FP.cod_lt f b
  have ca : clsF f (sizeN f a) < 3 := by unfold sizeN; rw [clsF_mk hf _ la, ← clsF_cod hf]; exact ha
  have cb : clsF f (sizeN f b) < 3 := by unfold sizeN; rw [clsF_mk hf _ lb, ← clsF_cod hf]; exact hb
  unfold addR
  rw [if_neg (by omega), if_neg (by omega), if_neg (fun h => by have := (addI_cls h).1; omega), if_neg (by omega), if_neg (by omega)]
  unfold sizeN FP.addC FP.addN
  rw [FP.sgn_mk _ la, FP.sgn_mk _ lb, FP.cod_mk _ la, FP.cod_mk _ lb, FP.sgN_same, FP.sgV_same, mk_self]
theorem mk_cut' {f a c : Nat} (hf : f < 4) (h : FP.cod f a = c) : FP.mk f (FP.sgn f a) c = a % 2 ^ FP.fW f := by rw [← h]; exact FP.mk_cut hf a
/-- a remainder is no more than half of b -/
theorem remR_half {f : Nat} (hf : f < 4) {a b : Nat} (ha : clsF f a < 3) (hb : clsF f b = 1 ∨ clsF f b = 2) :
    ∃ R, R < W128 ∧ clsF f R < 3 ∧ remR f a b = (R, 0) ∧
      (addR f 4 false (sizeN f R) (sizeN f R)).1 ≤ sizeN f b ∧
      ((addR f 4 false (sizeN f a) (sizeN f a)).2 = 0 → (addR f 4 false (sizeN f a) (sizeN f a)).1 < sizeN f b → R = a % 2 ^ FP.fW f) ∧
      (remR f R b = (R, 0) ∨ (addR f 4 false (sizeN f R) (sizeN f R) = (sizeN f b, 0))) := by
  have hp := FP.fP_ge hf
  obtain ⟨b0, b1⟩ := cls_pos hf hb
  have a1 := (clsF_fin hf).1 ha
  have hg := remR_gen hf ha hb
  obtain ⟨r1, r2, r3⟩ := FP.remC_val hf a1 b0 b1
  have hB := val_pos hf b0
  have hh := FP.remV_half (A := FP.val f (FP.cod f a)) hB
  have hsm := FP.rem_small (A := FP.val f (FP.cod f a)) (B := FP.val f (FP.cod f b))
  obtain ⟨c, hc⟩ : ∃ c, c = FP.remC f (FP.cod f a) (FP.cod f b) := ⟨_, rfl⟩
  rw [← hc] at r1 r2 hg
  have hl : c < 2 ^ (FP.fW f - 1) := Nat.lt_trans r1 (inf_lt hf)
  generalize hs : (FP.sgn f a != (FP.remT (FP.val f (FP.cod f a)) (FP.val f (FP.cod f b)) && !decide (FP.remV (FP.val f (FP.cod f a)) (FP.val f (FP.cod f b)) = 0))) = s at hg
  have k1 : FP.cod f (FP.mk f s c) = c := FP.cod_mk _ hl
  have k2 : FP.sgn f (FP.mk f s c) = s := FP.sgn_mk _ hl
  have kc : clsF f (FP.mk f s c) < 3 := by rw [clsF_fin hf, k1]; exact r1
  have kb : clsF f b < 3 := by omega
  have sb := sizeN_eq f b
  refine ⟨FP.mk f s c, mk_W hf _ hl, kc, hg, ?_, ?_, ?_⟩
  · rw [addR_sizes hf _ _ kc kc, k1, sb]
    have hx : FP.roundC (FP.fP f) (FP.fE f) 4 false false (FP.val f (FP.cod f b)) 1 = (FP.cod f b, 0) := FP.roundC_exact hp (by decide) b1 (by rw [Nat.mul_one])
    have hm := FP.roundC_mono (emax := FP.fE f) (m := 4) (a1 := false) (a2 := false) (neg := false) (N1 := FP.val f c + FP.val f c) (D1 := 1) (N2 := FP.val f (FP.cod f b)) (D2 := 1) hp (by decide) (by decide) (by rw [Nat.mul_one, Nat.mul_one, r2]; omega)
    rw [hx] at hm
    exact hm
  · rw [addR_sizes hf _ _ ha ha, sb]
    intro h0 h1
    obtain ⟨q, k, hq⟩ : ∃ q k, FP.roundC (FP.fP f) (FP.fE f) 4 false false (FP.val f (FP.cod f a) + FP.val f (FP.cod f a)) 1 = (q, k) := ⟨_, _, rfl⟩
    rw [hq] at h0 h1
    obtain rfl : k = 0 := h0
    obtain ⟨q1, q2⟩ := FP.roundC_flag0 hp (by decide) hq
    rw [Nat.mul_one] at q2
    have q3 : FP.cval (FP.fP f) q < FP.val f (FP.cod f b) := FP.cval_strict hp h1
    obtain ⟨t1, t2⟩ := hsm (by omega)
    rw [t2] at r2
    have hcc := val_inj hf r2
    rw [← hs, t1, Bool.false_and, bne_false']
    exact mk_cut' hf hcc.symm
  · rw [addR_sizes hf _ _ kc kc, k1, sb]
    by_cases he : 2 * FP.remV (FP.val f (FP.cod f a)) (FP.val f (FP.cod f b)) = FP.val f (FP.cod f b)
    · right
      exact FP.roundC_exact hp (by decide) b1 (by rw [Nat.mul_one, r2]; rw [val_def f (FP.cod f b)] at he ⊢; omega)
    · left
      rw [remR_gen hf kc hb, k1, k2]
      have t := FP.rem_small (A := FP.val f c) (B := FP.val f (FP.cod f b)) (by omega)
      obtain ⟨u1, u2, u3⟩ := FP.remC_val hf r1 b0 b1
      rw [t.2] at u2
      rw [t.1, val_inj hf u2, Bool.false_and, bne_false']
end Go.Proofs.YtafnnnhmplgkcaaGreatDoor
