import Derived.Test.YtkfbdlidigmfbaaGreatDoorZQB1
namespace Go.Proofs.YtkfbdlidigmfbaaGreatDoor
namespace FP
set_option linter.unusedVariables false
set_option linter.unusedSimpArgs false
theorem flc_of_cut {p emax : Nat} {after neg : Bool} {N D q k : Nat} (h : roundC p emax 4 after neg N D = (q, k)) (hk : k ≠ 20) : flc p N D = q := by
 unfold roundC at h
 by_cases hi : infC p emax ≤ fcode p 4 neg N D
 ·rw [if_pos hi] at h
  exact absurd (congrArg Prod.snd h).symm hk
 ·rw [if_neg hi] at h
  have hq := congrArg Prod.fst h
  simp only [] at hq
  rw [fcode_flc, upN_zero] at hq
  rw [← hq]; rfl
theorem pow2_lt {x y : Nat} (h : 2 ^ x < 2 ^ y) : x < y := (Nat.pow_lt_pow_iff_right (by decide)).1 h
theorem jam_le {u i σ : Nat} (hσ : σ ≤ 1) (h : u * 2 ^ 100 ≤ i * 2 ^ 100 + σ) : u ≤ i := by
 have : (2 : Nat) ^ 100 = 1267650600228229401496703205376 := by decide
 omega
theorem jam_lt {u i σ : Nat} (h : i * 2 ^ 100 + σ < u * 2 ^ 100) : i < u := by
 have : (2 : Nat) ^ 100 = 1267650600228229401496703205376 := by decide
 omega
theorem jam_eq {u i σ : Nat} (hσ : σ ≤ 1) (h : u * 2 ^ 100 = i * 2 ^ 100 + σ) : u = i ∧ σ = 0 := by
 have : (2 : Nat) ^ 100 = 1267650600228229401496703205376 := by decide
 omega
theorem between_core {N D J a b p s q i S V : Nat} (σ : Nat) (hJ : J = i * 2 ^ 100 + σ) (hσ : σ ≤ 1) (h227 : 2 ^ 227 ≤ J) (hN : N = J * 2 ^ a) (hD : D = 2 ^ b) (hp : p ≤ 113) (hlt : N < D * 2 ^ (p + s))
  (c1 : q * 2 ^ s * D ≤ N) (c2 : N < (q + 1) * 2 ^ s * D) (i1 : i * i ≤ S) (i2 : S < (i + 1) * (i + 1)) (hV : S * 2 ^ (200 + 2 * a) = V * 2 ^ (2 * b)) :
  (q * 2 ^ s) * (q * 2 ^ s) ≤ V ∧ V < ((q + 1) * 2 ^ s) * ((q + 1) * 2 ^ s) ∧ (N = q * 2 ^ s * D → σ = 0 → i * i = S → (q * 2 ^ s) * (q * 2 ^ s) = V) ∧ (N = q * 2 ^ s * D → σ = 0) := by
 have hlo : 2 ^ (227 + a) ≤ N := by rw [hN, Nat.pow_add]; exact Nat.mul_le_mul_right _ h227
 have hx : 227 + a < b + (p + s) := pow2_lt (by rw [Nat.pow_add 2 b]; rw [hD] at hlt; omega)
 obtain ⟨g, hg⟩ : ∃ g, s + b = g + (100 + a) := ⟨s + b - (100 + a), by omega⟩
 have e1 : ∀ x, x * 2 ^ s * 2 ^ b = x * 2 ^ g * 2 ^ 100 * 2 ^ a := fun x => by
  rw [Nat.mul_assoc, ← Nat.pow_add, hg, Nat.pow_add, Nat.pow_add]; ac_rfl
 have e2 : ∀ x, (x * 2 ^ s) * (x * 2 ^ s) * 2 ^ (2 * b) = (x * 2 ^ g) * (x * 2 ^ g) * 2 ^ (200 + 2 * a) := fun x => by
  rw [show (2 : Nat) ^ (2 * b) = 2 ^ b * 2 ^ b by rw [← Nat.pow_add]; congr 1; omega, show (x * 2 ^ s) * (x * 2 ^ s) * (2 ^ b * 2 ^ b) = (x * 2 ^ s * 2 ^ b) * (x * 2 ^ s * 2 ^ b) by ac_rfl, e1,
   show (2 : Nat) ^ (200 + 2 * a) = 2 ^ 100 * 2 ^ 100 * (2 ^ a * 2 ^ a) by rw [← Nat.pow_add, ← Nat.pow_add, ← Nat.pow_add]; congr 1; omega]
  ac_rfl
 rw [hD, hN, e1] at c1 c2
 have d1 := jam_le hσ (by rw [← hJ]; exact Nat.le_of_mul_le_mul_right c1 (two_pow_pos a))
 have d2 := jam_lt (by rw [← hJ]; exact Nat.lt_of_mul_lt_mul_right c2)
 have f1 := Nat.le_trans (Nat.mul_le_mul d1 d1) i1
 have f2 := Nat.lt_of_lt_of_le i2 (Nat.mul_le_mul d2 d2)
 have hB := two_pow_pos (2 * b)
 have hA := two_pow_pos (200 + 2 * a)
 refine ⟨Nat.le_of_mul_le_mul_right (by rw [e2, ← hV]; exact Nat.mul_le_mul_right _ f1) hB, Nat.lt_of_mul_lt_mul_right (a := 2 ^ (2 * b)) (by rw [e2, ← hV]; exact Nat.mul_lt_mul_of_pos_right f2 hA), fun hE h0 hi => ?_, fun hE => ?_⟩
 ·rw [hD, hN, e1] at hE
  have := (jam_eq hσ (by rw [← hJ]; exact (Nat.eq_of_mul_eq_mul_right (two_pow_pos a) hE).symm)).1
  apply Nat.eq_of_mul_eq_mul_right hB
  rw [e2, ← hV, this, hi]
 ·rw [hD, hN, e1] at hE
  exact (jam_eq hσ (by rw [← hJ]; exact (Nat.eq_of_mul_eq_mul_right (two_pow_pos a) hE).symm)).2
theorem root_between {f c : Nat} {after : Bool} (hf : f < 4) (h0 : 0 < c) (h1 : c < inf f) :
  ∃ e k, sqrtC f 4 after c = (e, k) ∧ e < inf f ∧ 2 ^ (fP f - 1) ≤ e ∧ val f e * val f e ≤ val f c * 2 ^ fU f ∧ val f c * 2 ^ fU f < val f (e + 1) * val f (e + 1) ∧ (val f e * val f e = val f c * 2 ^ fU f ↔ k = 0) := by
 obtain ⟨e, k, hek⟩ : ∃ e k, sqrtC f 4 after c = (e, k) := ⟨_, _, rfl⟩
 obtain ⟨ei, en, hk⟩ := sqrtC_code (m := 4) (after := after) hf h0 h1
 rw [hek] at ei en hk
 simp only at ei en hk
 have hR := hek
 rw [sqrtC_eq] at hR
 have hD := rt_pos f c
 have hp := fP_ge hf
 obtain ⟨n1, n2, n3, n4, n5, n6, n7, n8, n9⟩ := fmtN hf
 have hk20 : k ≠ 20 := by rcases hk with h | h <;> omega
 obtain ⟨c1, c2⟩ := roundC_cut hp hD hR hk20
 have he := flc_of_cut hR hk20
 obtain ⟨v1, v2⟩ := flc_val (p := fP f) (N := rtN f c) (D := rtD f c) hp
 have hs := ((fsh_iff (p := fP f) (N := rtN f c) (D := rtD f c) hp hD).1 rfl).1
 rw [he] at v1 v2
 generalize fsh (fP f) (rtN f c) (rtD f c) = s at *
 generalize rtN f c / (rtD f c * 2 ^ s) = q at *
 rw [v1] at c1
 rw [v2] at c2
 obtain ⟨s1, s2⟩ := sqN_rng hf h0 h1
 have hX := sqX_rng hf h0 h1
 have hat := sq_at hf h0 h1
 have hJ := jamR_ge s2 s1
 obtain ⟨i1, i2⟩ := isq_spec s2
 have hU : (fU f : Int) = fE f + fP f - 2 := by unfold fU; omega
 obtain ⟨σ, hσ⟩ : ∃ σ, σ = if isq (sqN f c) * isq (sqN f c) = sqN f c then 0 else 1 := ⟨_, rfl⟩
 have hV : sqN f c * 2 ^ (200 + 2 * (sqX f c + 155 - 255 + fE f + fP f - 2).toNat) = val f c * 2 ^ fU f * 2 ^ (2 * (255 + 2 - (sqX f c + 155) - fE f - fP f : Int).toNat) := by
  apply Nat.eq_of_mul_eq_mul_right (two_pow_pos (255 - fU f + 40000 : Int).toNat)
  rw [show val f c * 2 ^ fU f * 2 ^ (2 * (255 + 2 - (sqX f c + 155) - fE f - fP f : Int).toNat) * 2 ^ (255 - fU f + 40000 : Int).toNat = val f c * 2 ^ (255 - fU f + 40000 : Int).toNat * (2 ^ fU f * 2 ^ (2 * (255 + 2 - (sqX f c + 155) - fE f - fP f : Int).toNat)) by ac_rfl, ← hat, Nat.mul_assoc, Nat.mul_assoc, ← Nat.pow_add, ← Nat.pow_add, ← Nat.pow_add]
  congr 2; omega
 obtain ⟨r1, r2, r3, r4⟩ := between_core (q := q) (s := s) (p := fP f) (N := rtN f c) (D := rtD f c) σ (by rw [hσ]; rfl) (by rw [hσ]; split <;> omega) hJ rfl rfl n2 hs c1 c2 i1 i2 hV
 have w1 : val f e = q * 2 ^ s := v1
 have w2 : val f (e + 1) = (q + 1) * 2 ^ s := v2
 refine ⟨e, k, hek, ei, en, by rw [w1]; exact r1, by rw [w2]; exact r2, fun h => ?_, fun h => ?_⟩
 ·have := sqrtC_square (m := 4) (after := after) hf (show 0 < e by have := two_pow_pos (fP f - 1); omega) ei h0 h1 h
  rw [hek] at this
  exact (Prod.mk.inj this).2
 ·subst h
  have hN := (roundC_flag0 hp hD hR).2
  rw [v1] at hN
  have h00 := r4 hN
  rw [w1]
  refine r3 hN h00 ?_
  rw [h00] at hσ
  by_cases h : isq (sqN f c) * isq (sqN f c) = sqN f c
  ·exact h
  ·rw [if_neg h] at hσ; omega
end FP
end Go.Proofs.YtkfbdlidigmfbaaGreatDoor
