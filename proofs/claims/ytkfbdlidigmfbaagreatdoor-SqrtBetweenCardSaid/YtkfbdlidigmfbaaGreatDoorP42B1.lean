import Derived.Test.YtkfbdlidigmfbaaGreatDoorRDB1
import Derived.Test.YtkfbdlidigmfbaaGreatDoorZQB1
import Derived.Test.YtkfbdlidigmfbaaGreatDoorZGB1
namespace Go.Proofs.YtkfbdlidigmfbaaGreatDoor
set_option linter.unusedVariables false
set_option linter.unusedSimpArgs false
namespace FP
theorem val_field {f E r : Nat} (hf : f < 4) (hE : 1 ≤ E) (hr : r < 2 ^ (fP f - 1)) : val f (E * 2 ^ (fP f - 1) + r) = (2 ^ (fP f - 1) + r) * 2 ^ (E - 1) := by
 have hp := fP_ge hf
 have e : E * 2 ^ (fP f - 1) + r = (E - 1) * 2 ^ (fP f - 1) + (2 ^ (fP f - 1) + r) := by
  obtain ⟨k, rfl⟩ : ∃ k, E = k + 1 := ⟨E - 1, by omega⟩
  rw [Nat.add_sub_cancel, Nat.add_mul]; omega
 rw [e]
 have h2 : 2 ^ fP f = 2 ^ (fP f - 1) + 2 ^ (fP f - 1) := by rw [← Nat.two_mul, ← Nat.pow_succ']; congr 1; omega
 exact cval_of hp (by omega) (fun _ => by omega)
theorem val_low {f x : Nat} (hf : f < 4) (hx : x < 2 ^ (fP f - 1)) : val f x = x := by
 have hp := fP_ge hf
 have h2 : 2 ^ fP f = 2 ^ (fP f - 1) + 2 ^ (fP f - 1) := by rw [← Nat.two_mul, ← Nat.pow_succ']; congr 1; omega
 have := cval_of (p := fP f) (s := 0) (q := x) hp (by omega) (fun h => absurd rfl h)
 rw [Nat.zero_mul, Nat.zero_add, Nat.pow_zero, Nat.mul_one] at this
 exact this
theorem nxt {f : Nat} (hf : f < 3) : ∃ j g, fP (f + 1) = fP f + j ∧ fE (f + 1) = fE f + g ∧ 1 ≤ fP f ∧ 1 ≤ fE f ∧ fU f = fE f + fP f - 2 ∧ fU (f + 1) = fU f + j + g ∧ 2 ≤ fP f ∧ 2 ≤ fE f := by
 rcases (show f = 0 ∨ f = 1 ∨ f = 2 by omega) with rfl | rfl | rfl
 ·exact ⟨13, 112, by decide, by decide, by decide, by decide, by decide, by decide, by decide, by decide⟩
 ·exact ⟨29, 896, by decide, by decide, by decide, by decide, by decide, by decide, by decide, by decide⟩
 ·exact ⟨60, 15360, by decide, by decide, by decide, by decide, by decide, by decide, by decide, by decide⟩
end FP
theorem wide_norm {f x d : Nat} (hf : f < 3) (hx : x < FP.inf f) (hE : 1 ≤ x / 2 ^ (FP.fP f - 1)) (hd : d < FP.inf (f + 1)) (h : FP.val f x * 2 ^ FP.fU (f + 1) = FP.val (f + 1) d * 2 ^ FP.fU f) :
  makeN (f + 1) false (((x / 2 ^ (FP.fP f - 1) : Nat) : Int) - (FP.fE f : Int) + (FP.fE (f + 1) : Int)) (x % 2 ^ (FP.fP f - 1) * 2 ^ (FP.fP (f + 1) - FP.fP f)) = FP.mk (f + 1) false d := by
 have hf4 : f < 4 := by omega
 have hg4 : f + 1 < 4 := by omega
 obtain ⟨j, g, hj, hg, p1, e1, u1, u2, p2, e2⟩ := FP.nxt hf
 obtain ⟨m1, m2, m3, m4, m5, m6, m7, m8, m9⟩ := FP.fmtN hg4
 have hH := FP.two_pow_pos (FP.fP f - 1)
 have hE2 : x / 2 ^ (FP.fP f - 1) < 2 * FP.fE f + 1 := by rw [Nat.div_lt_iff_lt_mul hH]; exact hx
 have hxe := Nat.div_add_mod x (2 ^ (FP.fP f - 1))
 have hr := Nat.mod_lt x hH
 generalize x / 2 ^ (FP.fP f - 1) = E at *
 generalize x % 2 ^ (FP.fP f - 1) = r at *
 have hv : FP.val f x = (2 ^ (FP.fP f - 1) + r) * 2 ^ (E - 1) := by rw [← hxe, Nat.mul_comm]; exact FP.val_field hf4 hE hr
 have hP1 : FP.fP (f + 1) - 1 = FP.fP f - 1 + j := by omega
 have hr2 : r * 2 ^ j < 2 ^ (FP.fP (f + 1) - 1) := by rw [hP1, Nat.pow_add]; exact Nat.mul_lt_mul_of_pos_right hr (FP.two_pow_pos j)
 have hv2 := FP.val_field (f := f + 1) (E := E + g) hg4 (by omega) hr2
 have hm : makeN (f + 1) false ((E : Int) - (FP.fE f : Int) + (FP.fE (f + 1) : Int)) (r * 2 ^ (FP.fP (f + 1) - FP.fP f)) = FP.mk (f + 1) false ((E + g) * 2 ^ (FP.fP (f + 1) - 1) + r * 2 ^ j) := by
  unfold makeN
  rw [show FP.fP (f + 1) - FP.fP f = j by omega, if_neg (by omega), show ((E : Int) - (FP.fE f : Int) + (FP.fE (f + 1) : Int)).toNat = E + g by omega, Nat.mod_eq_of_lt (by omega), Nat.mod_eq_of_lt hr2]
 rw [hm]
 congr 1
 apply FP.cval_inj (FP.fP_ge hg4)
 apply Nat.eq_of_mul_eq_mul_right (FP.two_pow_pos (FP.fU f))
 show FP.val (f + 1) ((E + g) * 2 ^ (FP.fP (f + 1) - 1) + r * 2 ^ j) * 2 ^ FP.fU f = FP.val (f + 1) d * 2 ^ FP.fU f
 rw [← h, hv, hv2, hP1, Nat.pow_add, ← Nat.add_mul, u2]
 rw [Nat.mul_assoc, Nat.mul_assoc, Nat.mul_assoc, ← Nat.pow_add, ← Nat.pow_add, ← Nat.pow_add]
 congr 2; omega
theorem mk_fin {f c : Nat} (hf : f < 4) (s : Bool) (hc : c < FP.inf f) : clsF f (FP.mk f s c) < 3 ∧ FP.sgn f (FP.mk f s c) = s ∧ FP.cod f (FP.mk f s c) = c := by
 have hl := Nat.lt_trans hc (inf_lt hf)
 exact ⟨by rw [clsF_mk hf _ hl]; exact FP.clsC_fin.2 hc, FP.sgn_mk _ hl, FP.cod_mk _ hl⟩
theorem mulR_nums {f : Nat} (hf : f < 4) (m : Nat) (t : Bool) {c d z : Nat} (hc : c < FP.inf f) (hd : d < FP.inf f) (hz : z < FP.inf f) (h : FP.val f c * FP.val f d = FP.val f z * 2 ^ FP.fU f) :
  mulR f m t (FP.mk f false c) (FP.mk f false d) = (FP.mk f false z, 0) := by
 obtain ⟨a1, a2, a3⟩ := mk_fin hf false hc
 obtain ⟨b1, b2, b3⟩ := mk_fin hf false hd
 unfold mulR
 rw [if_neg (by omega), if_neg (by omega), if_neg (by unfold badC; simp; omega), if_neg (by omega), a2, a3, b2, b3]
 have hm : FP.mulC f m t false c d = (z, 0) := by
  unfold FP.mulC
  exact FP.roundC_exact (FP.fP_ge hf) (FP.two_pow_pos _) hz h
 simp only [bne_self_eq_false, hm]
theorem addR_less {f : Nat} (hf : f < 4) (m : Nat) (t : Bool) {c d z : Nat} (hc : c < FP.inf f) (hd : d < FP.inf f) (hz : z < FP.inf f) (hz0 : 0 < FP.val f z) (h : FP.val f c = FP.val f d + FP.val f z) :
  addR f m t (FP.mk f false c) (FP.mk f true d) = (FP.mk f false z, 0) := by
 obtain ⟨a1, a2, a3⟩ := mk_fin hf false hc
 obtain ⟨b1, b2, b3⟩ := mk_fin hf true hd
 have hI : ¬ addI f (FP.mk f false c) (FP.mk f true d) = true := by
  unfold addI; simp only [Bool.and_eq_true, decide_eq_true_iff]; omega
 unfold addR
 rw [if_neg (by omega), if_neg (by omega), if_neg hI, if_neg (by omega), if_neg (by omega), a2, a3, b2, b3]
 have hV : FP.sgV false true (FP.val f c) (FP.val f d) = FP.val f z := by
  unfold FP.sgV; rw [if_neg (by decide), if_neg (by omega)]; omega
 have hN : FP.addN f m false true c d = false := by
  unfold FP.addN FP.sgN
  rw [hV, if_neg (by omega)]
  unfold FP.sgS; rw [if_neg (by decide), if_neg (by omega)]
 have hm : FP.addC f m t false true c d = (z, 0) := by
  unfold FP.addC
  rw [hV]
  exact FP.roundC_exact (FP.fP_ge hf) (by decide) hz (Nat.mul_one _).symm
 rw [hN, hm]
theorem wide_low {f x d : Nat} (hf : f < 3) (x0 : 0 < x) (hx : x < 2 ^ (FP.fP f - 1)) (hd : d < FP.inf (f + 1)) (h : FP.val f x * 2 ^ FP.fU (f + 1) = FP.val (f + 1) d * 2 ^ FP.fU f) :
  makeN (f + 1) false (FP.fE (f + 1) : Int) (x * 2 ^ (FP.fP (f + 1) - FP.fP f)) = FP.mk (f + 1) false (FP.oneC (f + 1) + x * 2 ^ (FP.fP (f + 1) - FP.fP f)) ∧
  makeN (f + 1) false (FP.fE (f + 1) : Int) 0 = FP.mk (f + 1) false (FP.oneC (f + 1)) ∧
  ∃ z, z < FP.inf (f + 1) ∧ addR (f + 1) 0 false (FP.mk (f + 1) false (FP.oneC (f + 1) + x * 2 ^ (FP.fP (f + 1) - FP.fP f))) (FP.mk (f + 1) true (FP.oneC (f + 1))) = (FP.mk (f + 1) false z, 0) ∧
   mulR (f + 1) 0 false (FP.mk (f + 1) false z) (makeN (f + 1) false (1 - (FP.fE f : Int) + (FP.fE (f + 1) : Int)) 0) = (FP.mk (f + 1) false d, 0) := by
 have hf4 : f < 4 := by omega
 have hg4 : f + 1 < 4 := by omega
 obtain ⟨j, g, hj, hg, p1, e1, u1, u2, p2, e2⟩ := FP.nxt hf
 obtain ⟨m1, m2, m3, m4, m5, m6, m7, m8, m9⟩ := FP.fmtN hg4
 have hv := FP.val_low hf4 hx
 have hP1 : FP.fP (f + 1) - 1 = FP.fP f - 1 + j := by omega
 have hjj : FP.fP (f + 1) - FP.fP f = j := by omega
 have hr2 : x * 2 ^ j < 2 ^ (FP.fP (f + 1) - 1) := by rw [hP1, Nat.pow_add]; exact Nat.mul_lt_mul_of_pos_right hx (FP.two_pow_pos j)
 have hH' := FP.two_pow_pos (FP.fP (f + 1) - 1)
 have hone : FP.oneC (f + 1) = FP.fE (f + 1) * 2 ^ (FP.fP (f + 1) - 1) := rfl
 have hinf : FP.inf (f + 1) = (2 * FP.fE (f + 1) + 1) * 2 ^ (FP.fP (f + 1) - 1) := rfl
 have hmk : ∀ K r : Nat, K ≤ 2 * FP.fE (f + 1) → r < 2 ^ (FP.fP (f + 1) - 1) → makeN (f + 1) false (K : Int) r = FP.mk (f + 1) false (K * 2 ^ (FP.fP (f + 1) - 1) + r) := fun K r hK hr => by
  unfold makeN
  rw [if_neg (by omega), Int.toNat_natCast, Nat.mod_eq_of_lt (by omega), Nat.mod_eq_of_lt hr]
 have hlt : ∀ K r : Nat, K ≤ 2 * FP.fE (f + 1) → r < 2 ^ (FP.fP (f + 1) - 1) → K * 2 ^ (FP.fP (f + 1) - 1) + r < FP.inf (f + 1) := fun K r hK hr => by
  rw [hinf]
  have := Nat.mul_le_mul_right (2 ^ (FP.fP (f + 1) - 1)) hK
  rw [Nat.add_mul, Nat.one_mul]; omega
 have vA := FP.val_field (f := f + 1) (E := FP.fE (f + 1)) hg4 (by omega) hr2
 have vO := FP.val_field (f := f + 1) (E := FP.fE (f + 1)) (r := 0) hg4 (by omega) hH'
 have vK := FP.val_field (f := f + 1) (E := 1 + g) (r := 0) hg4 (by omega) hH'
 have hxP : x < 2 ^ FP.fP (f + 1) := Nat.lt_of_lt_of_le hx (Nat.pow_le_pow_right (by decide) (by omega))
 obtain ⟨z, hz⟩ := FP.rep (P := FP.fP (f + 1)) (q := x) (k := j + (FP.fE (f + 1) - 1)) (FP.fP_ge hg4) hxP
 have hz' : FP.val (f + 1) z = x * 2 ^ (j + (FP.fE (f + 1) - 1)) := hz
 have lA := hlt (FP.fE (f + 1)) (x * 2 ^ j) (by omega) hr2
 have lO := hlt (FP.fE (f + 1)) 0 (by omega) hH'
 have lK := hlt (1 + g) 0 (by omega) hH'
 have hzO : z < FP.fE (f + 1) * 2 ^ (FP.fP (f + 1) - 1) + 0 := by
  apply Nat.lt_of_not_le; intro hle
  have h1 := (FP.cval_le (FP.fP_ge hg4)).2 hle
  have h2 : FP.val (f + 1) (FP.fE (f + 1) * 2 ^ (FP.fP (f + 1) - 1) + 0) ≤ FP.val (f + 1) z := h1
  rw [vO, hz', Nat.add_zero, Nat.pow_add, ← Nat.mul_assoc] at h2
  have := Nat.mul_lt_mul_of_pos_right hr2 (FP.two_pow_pos (FP.fE (f + 1) - 1))
  omega
 have hzi : z < FP.inf (f + 1) := Nat.lt_trans hzO lO
 have hz0 : 0 < FP.val (f + 1) z := by rw [hz']; exact Nat.mul_pos x0 (FP.two_pow_pos _)
 rw [hjj, hone]
 simp only [Nat.add_zero] at vO vK lO lK hzO
 refine ⟨hmk _ _ (by omega) hr2, (hmk _ 0 (by omega) hH').trans (by simp only [Nat.add_zero]), z, hzi, addR_less hg4 0 false lA lO hzi hz0 ?_, ?_⟩
 ·rw [vA, vO, hz', Nat.add_mul, Nat.pow_add, Nat.mul_assoc]
 ·rw [show (1 - (FP.fE f : Int) + (FP.fE (f + 1) : Int)) = ((1 + g : Nat) : Int) by omega, hmk _ 0 (by omega) hH']
  simp only [Nat.add_zero]
  refine mulR_nums hg4 0 false hzi lK hd ?_
  apply Nat.eq_of_mul_eq_mul_right (FP.two_pow_pos (FP.fU f))
  rw [show FP.val (f + 1) d * 2 ^ FP.fU (f + 1) * 2 ^ FP.fU f = FP.val (f + 1) d * 2 ^ FP.fU f * 2 ^ FP.fU (f + 1) by ac_rfl, ← h, hv, hz', vK]
  simp only [Nat.mul_assoc, ← Nat.pow_add]
  congr 2; omega
theorem wide_sq {f x d : Nat} (hf : f < 3) (hx : x < FP.inf f) (hd : d < FP.inf (f + 1)) (h : FP.val f x * 2 ^ FP.fU (f + 1) = FP.val (f + 1) d * 2 ^ FP.fU f) :
  ∃ z, z < FP.inf (f + 1) ∧ mulR (f + 1) 0 false (FP.mk (f + 1) false d) (FP.mk (f + 1) false d) = (FP.mk (f + 1) false z, 0) ∧ FP.val (f + 1) z * 2 ^ (FP.fU f + FP.fU f) = FP.val f x * FP.val f x * 2 ^ FP.fU (f + 1) := by
 obtain ⟨z, hz, e⟩ := FP.mul_wide hf hx hx
 refine ⟨z, hz, mulR_nums (by omega) 0 false hd hd hz ?_, e⟩
 apply Nat.eq_of_mul_eq_mul_right (Nat.mul_pos (FP.two_pow_pos (FP.fU f)) (FP.two_pow_pos (FP.fU f)))
 rw [show FP.val (f + 1) d * FP.val (f + 1) d * (2 ^ FP.fU f * 2 ^ FP.fU f) = (FP.val (f + 1) d * 2 ^ FP.fU f) * (FP.val (f + 1) d * 2 ^ FP.fU f) by ac_rfl, ← h,
  show FP.val (f + 1) z * 2 ^ FP.fU (f + 1) * (2 ^ FP.fU f * 2 ^ FP.fU f) = FP.val (f + 1) z * 2 ^ (FP.fU f + FP.fU f) * 2 ^ FP.fU (f + 1) by rw [Nat.pow_add]; ac_rfl, e]
 ac_rfl
theorem sq_cmp {f x d c n z : Nat} (hf : f < 3) (h : FP.val f c * 2 ^ FP.fU (f + 1) = FP.val (f + 1) n * 2 ^ FP.fU f) (hz : FP.val (f + 1) z * 2 ^ (FP.fU f + FP.fU f) = FP.val f x * FP.val f x * 2 ^ FP.fU (f + 1)) :
  (z ≤ n ↔ FP.val f x * FP.val f x ≤ FP.val f c * 2 ^ FP.fU f) ∧ (z = n ↔ FP.val f x * FP.val f x = FP.val f c * 2 ^ FP.fU f) := by
 have hp := FP.fP_ge (show f + 1 < 4 by omega)
 have e : FP.val (f + 1) n * 2 ^ (FP.fU f + FP.fU f) = FP.val f c * 2 ^ FP.fU f * 2 ^ FP.fU (f + 1) := by
  rw [Nat.pow_add, ← Nat.mul_assoc, ← h]; ac_rfl
 have key : z ≤ n ↔ FP.val f x * FP.val f x ≤ FP.val f c * 2 ^ FP.fU f := by
  rw [← FP.cval_le hp]
  constructor
  ·intro h1
   have := Nat.mul_le_mul_right (2 ^ (FP.fU f + FP.fU f)) (show FP.val (f + 1) z ≤ FP.val (f + 1) n from h1)
   rw [hz, e] at this
   exact Nat.le_of_mul_le_mul_right this (FP.two_pow_pos _)
  ·intro h1
   have := Nat.mul_le_mul_right (2 ^ FP.fU (f + 1)) h1
   rw [← hz, ← e] at this
   exact Nat.le_of_mul_le_mul_right this (FP.two_pow_pos _)
 refine ⟨key, ?_⟩
 constructor
 ·intro h1
  subst h1
  exact Nat.eq_of_mul_eq_mul_right (FP.two_pow_pos (FP.fU (f + 1))) (by rw [← hz, e])
 ·intro h1
  apply FP.cval_inj hp
  exact Nat.eq_of_mul_eq_mul_right (FP.two_pow_pos (FP.fU f + FP.fU f)) (show FP.val (f + 1) z * _ = FP.val (f + 1) n * _ by rw [hz, e, h1])
end Go.Proofs.YtkfbdlidigmfbaaGreatDoor
