import Derived.Test.YtngiodcdelfdmaaGreatDoorRDR9
namespace Go.Proofs.YtngiodcdelfdmaaGreatDoor
namespace FP
set_option linter.unusedVariables false
set_option linter.unusedSimpArgs false
theorem overC_near (p e : Nat) (n : Bool) : overC p e 0 n = infC p e := rfl
theorem round0 {p e : Nat} {a n a' n' : Bool} {N D N' D' : Nat} (h : fcode p 0 n N D = fcode p 0 n' N' D') : (roundC p e 0 a n N D).1 = (roundC p e 0 a' n' N' D').1 := by
 unfold roundC
 rw [overC_near, overC_near, h]
 split <;> rfl
theorem round_fin {p e : Nat} {a n : Bool} {N D : Nat} (h : (roundC p e 0 a n N D).1 < infC p e) : (roundC p e 0 a n N D).1 = fcode p 0 n N D := by
 unfold roundC at h ⊢
 rw [overC_near] at h ⊢
 by_cases h2 : infC p e ≤ fcode p 0 n N D
 ·rw [if_pos h2] at h; exact absurd h (Nat.lt_irrefl _)
 ·rw [if_neg h2]
def upK (f : Nat) : Nat := fU (f + 1) - fU f
theorem upK_eq {f : Nat} (hf : f < 3) : fU (f + 1) = fU f + upK f ∧ 1 ≤ upK f ∧ fP (f + 1) ≤ upK f + fP f ∧ 2 * fP f + 2 ≤ fP (f + 1) ∧ fE f + 2 ≤ fE (f + 1) := by
 rcases (show f = 0 ∨ f = 1 ∨ f = 2 by omega) with rfl | rfl | rfl <;> decide
theorem val_up {f c x : Nat} (hf : f < 3) (h : val f c * 2 ^ fU (f + 1) = val (f + 1) x * 2 ^ fU f) : val (f + 1) x = val f c * 2 ^ upK f := by
 rw [(upK_eq hf).1, Nat.pow_add, Nat.mul_comm (2 ^ fU f), ← Nat.mul_assoc] at h
 exact (Nat.eq_of_mul_eq_mul_right (two_pow_pos _) h).symm
theorem conv_down {f w : Nat} {a n : Bool} (hf : f < 3) : (convC (f + 1) f 0 a n w).1 = (roundC (fP f) (fE f) 0 a n (val (f + 1) w) (2 ^ upK f)).1 := by
 unfold convC
 rw [roundC_ratio (N2 := val (f + 1) w) (fP_ge (by omega)) (two_pow_pos _) (two_pow_pos (upK f)) (by rw [(upK_eq hf).1, Nat.pow_add]; ac_rfl)]
theorem add_twice {f c d x y : Nat} {s t a n : Bool} (hf : f < 3) (hc : c < inf f) (hd : d < inf f) (ex : val f c * 2 ^ fU (f + 1) = val (f + 1) x * 2 ^ fU f) (ey : val f d * 2 ^ fU (f + 1) = val (f + 1) y * 2 ^ fU f) :
  (addC (f + 1) 0 false s t x y).1 < inf (f + 1) ∧ (convC (f + 1) f 0 a n (addC (f + 1) 0 false s t x y).1).1 = (addC f 0 false s t c d).1 := by
 obtain ⟨u1, u2, u3, u4, u5⟩ := upK_eq hf
 have vx := val_up hf ex
 have vy := val_up hf ey
 have hp := fP_ge (show f < 4 by omega)
 have hV : sgV s t (val (f + 1) x) (val (f + 1) y) = sgV s t (val f c) (val f d) * 2 ^ upK f := by rw [vx, vy, sgV_scale s t _ _ (two_pow_pos _)]
 have hc2 := val_fin (show f < 4 by omega) hc
 have hd2 := val_fin (show f < 4 by omega) hd
 have hle : sgV s t (val f c) (val f d) ≤ 2 ^ (fE f + 2 + fU f) := by
  have e : 2 ^ (fE f + 2 + fU f) = 2 * 2 ^ (fE f + 1 + fU f) := by rw [← Nat.pow_succ']; congr 1; omega
  rcases sgV_parts s t (val f c) (val f d) with h | h | h <;> omega
 have hfar : fcode (fP (f + 1)) 0 (addN (f + 1) 0 s t x y) (sgV s t (val f c) (val f d) * 2 ^ upK f) 1 < infC (fP (f + 1)) (fE (f + 1)) := by
  refine fcode_far (show f + 1 < 4 by omega) (by decide) ?_
  rw [Nat.one_mul]
  refine Nat.le_trans (Nat.mul_le_mul_right _ hle) ?_
  rw [← Nat.pow_add]
  exact Nat.pow_le_pow_right (by decide) (by omega)
 have hA : (addC (f + 1) 0 false s t x y).1 = fcode (fP (f + 1)) 0 (addN (f + 1) 0 s t x y) (sgV s t (val f c) (val f d) * 2 ^ upK f) 1 := by
  unfold addC
  rw [hV]
  unfold roundC
  rw [if_neg (by omega)]
 refine ⟨by rw [hA]; exact hfar, ?_⟩
 rw [conv_down hf]
 refine round0 (n' := addN f 0 s t c d) ?_
 rw [hA]
 exact sum_double (p := fP f) (P := fP (f + 1)) (K := upK f) (neg := n) hp u4 u2
theorem sqrt_twice {f c x : Nat} {a n : Bool} (hf : f < 3) (c0 : 0 < c) (hc : c < inf f) (x0 : 0 < x) (hx : x < inf (f + 1)) (hE : unExp f c = unExp (f + 1) x) (hS : unSig f c = unSig (f + 1) x) :
  (sqrtC (f + 1) 0 false x).1 < inf (f + 1) ∧ (convC (f + 1) f 0 a n (sqrtC (f + 1) 0 false x).1).1 = (sqrtC f 0 false c).1 := by
 obtain ⟨u1, u2, u3, u4, u5⟩ := upK_eq hf
 obtain ⟨k1, k2, k3⟩ := sqrtC_code (m := 0) (after := false) (show f + 1 < 4 by omega) x0 hx
 have hN : sqN (f + 1) x = sqN f c ∧ sqX (f + 1) x = sqX f c := by unfold sqN sqX; rw [hE, hS]; exact ⟨rfl, rfl⟩
 refine ⟨k1, ?_⟩
 rw [conv_down hf, sqrtC_eq f]
 refine round0 (n' := false) ?_
 obtain ⟨n1, n2, n3, n4, n5, n6, n7, n8, n9⟩ := fmtN (show f < 4 by omega)
 obtain ⟨m1, m2, m3, m4, m5, m6, m7, m8, m9⟩ := fmtN (show f + 1 < 4 by omega)
 have hU : (fU f : Int) = fE f + fP f - 2 := by unfold fU; omega
 have hU2 : (fU (f + 1) : Int) = fE (f + 1) + fP (f + 1) - 2 := by unfold fU; omega
 have hA : (sqrtC (f + 1) 0 false x).1 = fcode (fP (f + 1)) 0 false (rtN f c * 2 ^ upK f) (rtD f c) := by
  rw [sqrtC_eq] at k1 ⊢
  rw [round_fin k1]
  refine fcode_ratio (fP_ge (by omega)) (rt_pos _ _) (rt_pos _ _) ?_
  unfold rtN rtD
  rw [hN.1, hN.2]
  simp only [Nat.mul_assoc, ← Nat.pow_add]
  congr 2; omega
 rw [hA]
 exact sqrt_double (neg := false) hf c0 hc u3 u2
end FP
end Go.Proofs.YtngiodcdelfdmaaGreatDoor
