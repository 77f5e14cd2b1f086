import Derived.Test.YtkfbdlidigmfbaaGreatDoorP25R7
namespace Go.Proofs.YtkfbdlidigmfbaaGreatDoor
set_option linter.unusedVariables false
set_option linter.unusedSimpArgs false
def pwB (f t : Nat) : Nat := FP.mk f false (FP.oneC f + t * 2 ^ (FP.fP f - 1))
theorem pwB_val {f t : Nat} (hf : f < 4) (ht : t ≤ 12) : FP.oneC f + t * 2 ^ (FP.fP f - 1) < FP.inf f ∧ FP.val f (FP.oneC f + t * 2 ^ (FP.fP f - 1)) = 2 ^ FP.fU f * 2 ^ t := by
 have hH := FP.two_pow_pos (FP.fP f - 1)
 have hE : 15 ≤ FP.fE f := by rcases FP.f4 hf with rfl | rfl | rfl | rfl <;> decide
 have hp := FP.fP_ge hf
 have e : FP.oneC f + t * 2 ^ (FP.fP f - 1) = (FP.fE f + t) * 2 ^ (FP.fP f - 1) := by rw [Nat.add_mul]; rfl
 rw [e]
 constructor
 ·rw [show FP.inf f = (2 * FP.fE f + 1) * 2 ^ (FP.fP f - 1) from rfl]
  exact Nat.mul_lt_mul_of_pos_right (by omega) hH
 ·rw [FP.val_pow hf (by omega), ← Nat.pow_add]
  congr 1
  unfold FP.fU; omega
theorem num_mk {f c : Nat} (hf : f < 4) (s : Bool) (hc : c < FP.inf f) : clsF f (FP.mk f s c) < 3 ∧ FP.sgn f (FP.mk f s c) = s ∧ FP.cod f (FP.mk f s c) = c := by
 have hl := Nat.lt_trans hc (inf_lt hf)
 exact ⟨by rw [clsF_mk hf _ hl]; exact FP.clsC_fin.2 hc, FP.sgn_mk _ hl, FP.cod_mk _ hl⟩
theorem addR_nums {f m a b : Nat} {t : Bool} (ha : clsF f a < 3) (hb : clsF f b < 3) : addR f m t a b = (FP.mk f (FP.addN f m (FP.sgn f a) (FP.sgn f b) (FP.cod f a) (FP.cod f b)) (FP.addC f m t (FP.sgn f a) (FP.sgn f b) (FP.cod f a) (FP.cod f b)).1, (FP.addC f m t (FP.sgn f a) (FP.sgn f b) (FP.cod f a) (FP.cod f b)).2) := by
 have hI : ¬ addI f a b = true := by
  unfold addI; simp only [Bool.and_eq_true, decide_eq_true_iff]; omega
 unfold addR
 rw [if_neg (by omega), if_neg (by omega), if_neg hI, if_neg (by omega), if_neg (by omega)]
theorem mulR_numb {f m a b : Nat} {t : Bool} (ha : clsF f a < 3) (hb : clsF f b < 3) :
  mulR f m t a b = (FP.mk f (FP.sgn f a != FP.sgn f b) (FP.mulC f m t (FP.sgn f a != FP.sgn f b) (FP.cod f a) (FP.cod f b)).1, (FP.mulC f m t (FP.sgn f a != FP.sgn f b) (FP.cod f a) (FP.cod f b)).2) := by
 unfold mulR
 rw [if_neg (by omega), if_neg (by omega), if_neg (by unfold badC; simp; omega), if_neg (by omega)]
theorem pwB_two {f t : Nat} (hf : f < 4) (ht : t ≤ 11) : addR f 0 false (pwB f t) (pwB f t) = (pwB f (t + 1), 0) := by
 obtain ⟨i1, v1⟩ := pwB_val hf (show t ≤ 12 by omega)
 obtain ⟨i2, v2⟩ := pwB_val hf (show t + 1 ≤ 12 by omega)
 obtain ⟨a1, a2, a3⟩ := num_mk hf false i1
 unfold pwB
 rw [addR_nums a1 a1, a2, a3]
 have hc : FP.addC f 0 false false false (FP.oneC f + t * 2 ^ (FP.fP f - 1)) (FP.oneC f + t * 2 ^ (FP.fP f - 1)) = (FP.oneC f + (t + 1) * 2 ^ (FP.fP f - 1), 0) := by
  unfold FP.addC
  rw [FP.sgV_same]
  refine FP.roundC_exact (FP.fP_ge hf) (by decide) i2 ?_
  rw [Nat.mul_one, v1]
  show _ = FP.val f (FP.oneC f + (t + 1) * 2 ^ (FP.fP f - 1))
  rw [v2, Nat.pow_succ, ← Nat.mul_assoc]; omega
 rw [hc]
 unfold FP.addN
 rw [FP.sgN_same]
def Acc (f b D a : Nat) : Prop := (D = 0 ∧ a = FP.mk f false 0) ∨ (0 < D ∧ ∃ e, e < FP.inf f ∧ a = FP.mk f (FP.sgn f b) e ∧ FP.val f e = D * FP.val f (FP.cod f b))
theorem sgV_nought {s : Bool} {v : Nat} (hv : 0 < v) (m : Nat) : FP.sgV false s 0 v = v ∧ FP.sgN m false s 0 v = s := by
 have h : FP.sgV false s 0 v = v := by
  unfold FP.sgV
  cases s
  ·simp
  ·simp [hv]
 refine ⟨h, ?_⟩
 unfold FP.sgN
 rw [h, if_neg (by omega)]
 unfold FP.sgS
 cases s
 ·simp
 ·simp [hv]
theorem acc_step {f b D a t m a' k1 k2 : Nat} (hf : f < 4) (hb : clsF f b = 1 ∨ clsF f b = 2) (ht : t ≤ 12) (hA : Acc f b D a) (hm : mulR f 0 false (pwB f t) b = (m, k1)) (ha : addR f 0 false a m = (a', k2)) (h1 : k1 = 0) (h2 : k2 = 0) :
  Acc f b (D + 2 ^ t) a' := by
 subst h1; subst h2
 have hp := FP.fP_ge hf
 obtain ⟨i1, v1⟩ := pwB_val hf ht
 obtain ⟨p1, p2, p3⟩ := num_mk hf false i1
 obtain ⟨b0, b1⟩ := cls_pos hf hb
 have hv := val_pos hf b0
 have hP := FP.two_pow_pos t
 unfold pwB at hm
 rw [mulR_numb p1 (by omega), p2, p3] at hm
 have hs : (false != FP.sgn f b) = FP.sgn f b := by cases FP.sgn f b <;> rfl
 rw [hs] at hm
 obtain ⟨e1, e2⟩ := Prod.mk.inj hm
 obtain ⟨q, k, hq⟩ : ∃ q k, FP.mulC f 0 false (FP.sgn f b) (FP.oneC f + t * 2 ^ (FP.fP f - 1)) (FP.cod f b) = (q, k) := ⟨_, _, rfl⟩
 rw [hq] at e1 e2
 simp only at e1 e2
 subst e2
 obtain ⟨q1, q2⟩ := FP.roundC_flag0 hp (FP.two_pow_pos _) hq
 have vq : FP.val f q = 2 ^ t * FP.val f (FP.cod f b) := by
  apply Nat.eq_of_mul_eq_mul_right (FP.two_pow_pos (FP.fU f))
  rw [show FP.val f q * 2 ^ FP.fU f = _ from q2.symm, v1]; ac_rfl
 have q0 : 0 < FP.val f q := by rw [vq]; exact Nat.mul_pos hP hv
 obtain ⟨m1, m2, m3⟩ := num_mk hf (FP.sgn f b) q1
 rw [← e1] at ha
 right
 refine ⟨by omega, ?_⟩
 rcases hA with ⟨hD, rfl⟩ | ⟨hD, e, he, rfl, ve⟩
 ·subst hD
  obtain ⟨z1, z2, z3⟩ := num_mk (c := 0) hf false (FP.inf_pos f)
  rw [addR_nums z1 m1, z2, z3, m2, m3] at ha
  obtain ⟨e3, e4⟩ := Prod.mk.inj ha
  obtain ⟨r, k', hr⟩ : ∃ r k, FP.addC f 0 false false (FP.sgn f b) 0 q = (r, k) := ⟨_, _, rfl⟩
  rw [hr] at e3 e4
  simp only at e3 e4
  subst e4
  obtain ⟨r1, r2⟩ := FP.roundC_flag0 hp (by decide) hr
  obtain ⟨s1, s2⟩ := sgV_nought (s := FP.sgn f b) q0 0
  rw [show FP.val f 0 = 0 from val_zero f, s1, Nat.mul_one] at r2
  have hN : FP.addN f 0 false (FP.sgn f b) 0 q = FP.sgn f b := by unfold FP.addN; rw [show FP.val f 0 = 0 from val_zero f]; exact s2
  rw [hN] at e3
  exact ⟨r, r1, e3.symm, by rw [show FP.val f r = FP.val f q from r2.symm, vq, Nat.zero_add]⟩
 ·obtain ⟨z1, z2, z3⟩ := num_mk hf (FP.sgn f b) he
  rw [addR_nums z1 m1, z2, z3, m2, m3] at ha
  obtain ⟨e3, e4⟩ := Prod.mk.inj ha
  obtain ⟨r, k', hr⟩ : ∃ r k, FP.addC f 0 false (FP.sgn f b) (FP.sgn f b) e q = (r, k) := ⟨_, _, rfl⟩
  rw [hr] at e3 e4
  simp only at e3 e4
  subst e4
  obtain ⟨r1, r2⟩ := FP.roundC_flag0 hp (by decide) hr
  rw [FP.sgV_same, Nat.mul_one] at r2
  have hN : FP.addN f 0 (FP.sgn f b) (FP.sgn f b) e q = FP.sgn f b := by unfold FP.addN; rw [FP.sgN_same]
  rw [hN] at e3
  exact ⟨r, r1, e3.symm, by rw [show FP.val f r = FP.val f e + FP.val f q from r2.symm, vq, ve, Nat.add_mul]⟩
theorem acc_rem {f b D a : Nat} (hf : f < 4) (hb : clsF f b = 1 ∨ clsF f b = 2) (hA : Acc f b D a) (hD : 0 < D) : remR f a b = (FP.mk f (FP.sgn f a) 0, 0) := by
 obtain ⟨b0, b1⟩ := cls_pos hf hb
 have hv := val_pos hf b0
 rcases hA with ⟨h, _⟩ | ⟨_, e, he, rfl, ve⟩
 ·omega
 ·obtain ⟨z1, z2, z3⟩ := num_mk hf (FP.sgn f b) he
  have hmod : D * FP.val f (FP.cod f b) % FP.val f (FP.cod f b) = 0 := Nat.mul_mod_left _ _
  have hT : FP.remT (D * FP.val f (FP.cod f b)) (FP.val f (FP.cod f b)) = false := by
   unfold FP.remT
   rw [hmod]
   simp only [Nat.mul_zero, Bool.or_eq_false_iff, decide_eq_false_iff_not, Bool.and_eq_false_iff]
   exact ⟨by omega, .inl (by omega)⟩
  have hV : FP.remV (D * FP.val f (FP.cod f b)) (FP.val f (FP.cod f b)) = 0 := by unfold FP.remV; rw [if_neg (by rw [hT]; decide), hmod]
  obtain ⟨u1, u2, u3⟩ := FP.remC_val (c := e) hf he b0 b1
  rw [ve, hV] at u2
  have hc : FP.remC f e (FP.cod f b) = 0 := val_inj hf (by rw [u2]; exact (val_zero f).symm)
  rw [remR_gen hf z1 hb, z2, z3, ve, hT, hc, Bool.false_and, bne_false']
theorem acc_nil (f b : Nat) : Acc f b 0 (FP.mk f false 0) := .inl ⟨rfl, rfl⟩
end Go.Proofs.YtkfbdlidigmfbaaGreatDoor
