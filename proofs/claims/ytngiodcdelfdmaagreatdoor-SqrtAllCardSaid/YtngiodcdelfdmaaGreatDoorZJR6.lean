import Derived.Test.YtngiodcdelfdmaaGreatDoorZFR6
import Derived.Test.YtngiodcdelfdmaaGreatDoorZQR6
namespace Go.Proofs.YtngiodcdelfdmaaGreatDoor
namespace FP
set_option linter.unusedVariables false
set_option linter.unusedSimpArgs false
def rCut (m : Nat) (neg : Bool) (Q : Nat) (n : Int) : Nat := rdiv m neg (Q * 2 ^ (-n).toNat) (2 ^ n.toNat)
def rRest (Q : Nat) (n : Int) : Nat := restN (Q * 2 ^ (-n).toNat) (2 ^ n.toNat)
def rE (Q : Nat) (E : Int) : Int := (lenN Q : Int) - 1 + E
def rOwn (p m : Nat) (neg : Bool) (Q : Nat) (E : Int) : Int := (lenN (rCut m neg Q ((lenN Q : Int) - p)) : Int) - 1 + rE Q E - (p - 1)
def rUnit (p emax : Nat) (Q : Nat) (E : Int) : Int := max (rE Q E) (1 - emax) - (p - 1)
def rCode (p emax : Nat) (u : Int) (n : Nat) : Nat := if lenN n < p then n else ((lenN n : Int) - 1 + u - (1 - emax) + 1).toNat * 2 ^ (p - 1) + n / 2 ^ (lenN n - p) % 2 ^ (p - 1)
def rTiny (p emax m : Nat) (after neg : Bool) (Q : Nat) (E : Int) : Bool := if after then decide (rOwn p m neg Q E < 1 - emax) else decide (rE Q E < 1 - emax)
def refR (p emax m : Nat) (after neg : Bool) (Q : Nat) (E : Int) : Nat × Nat :=
 if rOwn p m neg Q E > emax then (overC p emax m neg, 20)
 else (rCode p emax (rUnit p emax Q E) (rCut m neg Q (rUnit p emax Q E - E)), if rRest Q (rUnit p emax Q E - E) = 0 then 0 else if rTiny p emax m after neg Q E then 24 else 16)
theorem pow_eq2 (Q : Nat) {a b c d : Nat} (h : a + d = c + b) : Q * 2 ^ a * 2 ^ d = Q * 2 ^ c * 2 ^ b := by
 rw [Nat.mul_assoc, Nat.mul_assoc, ← Nat.pow_add, ← Nat.pow_add, h]
theorem lenN_of {n k : Nat} (h1 : 2 ^ (k - 1) ≤ n) (h2 : n < 2 ^ k) (hk : 1 ≤ k) : lenN n = k := by
 have a := (lenN_iff (n := n) (k := k)).2 h2
 have b : ¬ lenN n ≤ k - 1 := fun h => by have := lenN_iff.1 h; omega
 omega
theorem restN_zero_ratio {N1 D1 N2 D2 : Nat} (h1 : 0 < D1) (h2 : 0 < D2) (h : N1 * D2 = N2 * D1) : restN N1 D1 = 0 ↔ restN N2 D2 = 0 := by
 have a := (divmod_mono h1 h2 (Nat.le_of_eq h)).1
 have b := (divmod_mono h2 h1 (Nat.le_of_eq h.symm)).1
 have e : N1 / D1 = N2 / D2 := Nat.le_antisymm a b
 have c := (divmod_mono h1 h2 (Nat.le_of_eq h)).2 e
 have d := (divmod_mono h2 h1 (Nat.le_of_eq h.symm)).2 e.symm
 rw [restN_zero, restN_zero]
 constructor
 ·intro h0
  rw [h0, Nat.zero_mul] at d
  exact (Nat.mul_eq_zero.1 (Nat.le_zero.1 d)).resolve_right (by omega)
 ·intro h0
  rw [h0, Nat.zero_mul] at c
  exact (Nat.mul_eq_zero.1 (Nat.le_zero.1 c)).resolve_right (by omega)
theorem free_bounds {p m : Nat} {neg : Bool} {Q : Nat} (hp : 2 ≤ p) (hQ : 0 < Q) : 2 ^ (p - 1) ≤ rCut m neg Q ((lenN Q : Int) - p) ∧ rCut m neg Q ((lenN Q : Int) - p) ≤ 2 ^ p := by
 obtain ⟨l1, l2, l3⟩ := lenN_lo (n := Q) (by omega)
 unfold rCut
 generalize hL : lenN Q = L at *
 have key : ∀ k : Nat, 2 ^ k * 2 ^ ((L : Int) - p).toNat = 2 ^ (k + ((L : Int) - p).toNat) := fun k => (Nat.pow_add ..).symm
 constructor
 ·have h := rdiv_mono (m := m) (neg := neg) (N1 := 2 ^ (p - 1) * 2 ^ ((L : Int) - p).toNat) (D1 := 2 ^ ((L : Int) - p).toNat) (N2 := Q * 2 ^ (-((L : Int) - p)).toNat) (D2 := 2 ^ ((L : Int) - p).toNat) (two_pow_pos _) (two_pow_pos _) (Nat.mul_le_mul_right _ (by
   rw [key]
   refine Nat.le_trans ?_ (Nat.mul_le_mul_right _ l1)
   rw [← Nat.pow_add]
   exact Nat.pow_le_pow_right (by decide) (by omega)))
  rwa [rdiv_exact _ _ (two_pow_pos _)] at h
 ·have h := rdiv_mono (m := m) (neg := neg) (N2 := 2 ^ p * 2 ^ ((L : Int) - p).toNat) (D2 := 2 ^ ((L : Int) - p).toNat) (N1 := Q * 2 ^ (-((L : Int) - p)).toNat) (D1 := 2 ^ ((L : Int) - p).toNat) (two_pow_pos _) (two_pow_pos _) (Nat.mul_le_mul_right _ (by
   rw [key]
   refine Nat.le_trans (Nat.mul_le_mul_right _ (Nat.le_of_lt l2)) ?_
   rw [← Nat.pow_add]
   exact Nat.pow_le_pow_right (by decide) (by omega)))
  rwa [rdiv_exact _ _ (two_pow_pos _)] at h
theorem len_free {p n : Nat} (hp : 2 ≤ p) (h1 : 2 ^ (p - 1) ≤ n) (h2 : n ≤ 2 ^ p) : (n < 2 ^ p ∧ lenN n = p) ∨ (n = 2 ^ p ∧ lenN n = p + 1) := by
 rcases Nat.lt_or_ge n (2 ^ p) with h | h
 ·exact .inl ⟨h, lenN_of h1 h (by omega)⟩
 ·have e : n = 2 ^ p := Nat.le_antisymm h2 h
  refine .inr ⟨e, lenN_of (by rw [e]; exact Nat.le_refl _) (by rw [e]; exact Nat.pow_lt_pow_right (by decide) (by omega)) (by omega)⟩
theorem code_norm {p emax s n : Nat} {u : Int} (hp : 2 ≤ p) (hu : u = (s : Int) + (1 - emax) - (p - 1)) (h1 : 2 ^ (p - 1) ≤ n) (h2 : n ≤ 2 ^ p) : rCode p emax u n = s * 2 ^ (p - 1) + n := by
 unfold rCode
 have hh := half_pow hp
 rcases len_free hp h1 h2 with ⟨h3, h4⟩ | ⟨h3, h4⟩
 ·rw [h4, if_neg (Nat.lt_irrefl _), Nat.sub_self, Nat.pow_zero, Nat.div_one, show ((p : Int) - 1 + u - (1 - emax) + 1).toNat = s + 1 by omega, Nat.mod_eq_sub_mod h1, Nat.mod_eq_of_lt (by omega), Nat.add_mul, Nat.one_mul]
  omega
 ·rw [h4, if_neg (by omega), show p + 1 - p = 1 by omega, show (((p + 1 : Nat) : Int) - 1 + u - (1 - emax) + 1).toNat = s + 2 by omega, h3, hh, Nat.pow_one, Nat.mul_div_cancel_left _ (by decide), Nat.mod_self, Nat.add_mul]
  omega
theorem refR_eq {p emax m : Nat} {after neg : Bool} {Q : Nat} {E : Int} (hp : 2 ≤ p) (he : 1 ≤ emax) (hQ : 0 < Q) :
  refR p emax m after neg Q E = roundC p emax m after neg (Q * 2 ^ (E - (2 - emax - p)).toNat) (2 ^ (-(E - (2 - emax - p))).toNat) := by
 obtain ⟨l1, l2, l3⟩ := lenN_lo (n := Q) (by omega)
 have fb := free_bounds (p := p) (m := m) (neg := neg) hp hQ
 have hh := half_pow hp
 generalize hN : Q * 2 ^ (E - (2 - emax - p)).toNat = N
 generalize hD : 2 ^ (-(E - (2 - emax - p))).toNat = D
 have hD0 : 0 < D := by rw [← hD]; exact two_pow_pos _
 have hs : fsh p N D = (max (rE Q E) (1 - emax) - (1 - emax)).toNat := by
  refine (fsh_iff hp hD0).2 ⟨?_, fun h0 => ?_⟩
  ·rw [← hN, ← hD, ← Nat.pow_add]
   refine Nat.lt_of_lt_of_le (Nat.mul_lt_mul_of_pos_right l2 (two_pow_pos _)) ?_
   rw [← Nat.pow_add]
   refine Nat.pow_le_pow_right (by decide) ?_
   unfold rE at *
   omega
  ·rw [← hN, ← hD, ← Nat.pow_add]
   refine Nat.le_trans ?_ (Nat.mul_le_mul_right _ l1)
   rw [← Nat.pow_add]
   refine Nat.pow_le_pow_right (by decide) ?_
   unfold rE at *
   omega
 have hfb := fq_bounds (p := p) (N := N) (D := D) hp
 have hup := up_le m neg N (D * 2 ^ fsh p N D)
 have hn : rCut m neg Q (rUnit p emax Q E - E) = rdiv m neg N (D * 2 ^ fsh p N D) := by
  unfold rCut
  refine rdiv_ratio (two_pow_pos _) (Nat.mul_pos hD0 (two_pow_pos _)) ?_
  rw [hs, ← hN, ← hD, ← Nat.pow_add]
  refine pow_eq2 Q ?_
  unfold rUnit rE
  omega
 have hr : rRest Q (rUnit p emax Q E - E) = 0 ↔ N % (D * 2 ^ fsh p N D) = 0 := by
  rw [← restN_zero]
  unfold rRest
  refine restN_zero_ratio (two_pow_pos _) (Nat.mul_pos hD0 (two_pow_pos _)) ?_
  rw [hs, ← hN, ← hD, ← Nat.pow_add]
  refine pow_eq2 Q ?_
  unfold rUnit rE
  omega
 by_cases hge : 1 - (emax : Int) ≤ rE Q E
 ·-- normal
  have hcut : rCut m neg Q ((lenN Q : Int) - p) = rdiv m neg N (D * 2 ^ fsh p N D) := by
   rw [← hn]; congr 1; unfold rUnit rE at *; omega
  have hbig : D * 2 ^ (p - 1) ≤ N := by
   rw [← hN, ← hD, ← Nat.pow_add]
   refine Nat.le_trans ?_ (Nat.mul_le_mul_right _ l1)
   rw [← Nat.pow_add]
   refine Nat.pow_le_pow_right (by decide) ?_
   unfold rE at hge
   omega
  have ht : (if tinyF p m after neg N D then 24 else 16) = (if rTiny p emax m after neg Q E then 24 else 16) := by
   rw [tiny_false hp hD0 hbig]
   have : rTiny p emax m after neg Q E = false := by
    unfold rTiny
    split
    ·rw [decide_eq_false_iff_not]; unfold rOwn
     rcases len_free hp fb.1 fb.2 with ⟨_, h4⟩ | ⟨_, h4⟩ <;> rw [h4] <;> omega
    ·rw [decide_eq_false_iff_not]; omega
   rw [this]
  rw [hcut] at fb
  unfold refR roundC
  rw [hn, ht]
  have hcode : rCode p emax (rUnit p emax Q E) (rdiv m neg N (D * 2 ^ fsh p N D)) = fcode p m neg N D := by
   unfold fcode
   exact code_norm hp (by rw [hs]; unfold rUnit; omega) fb.1 fb.2
  rw [hcode]
  have hov : rOwn p m neg Q E > emax ↔ infC p emax ≤ fcode p m neg N D := by
   unfold rOwn infC
   rw [hcut]
   have hsI : ((fsh p N D : Nat) : Int) = rE Q E - (1 - emax) := by rw [hs]; omega
   unfold fcode
   rcases len_free hp fb.1 fb.2 with ⟨h3, h4⟩ | ⟨h3, h4⟩
   ·rw [h4]
    constructor
    ·intro h
     have : 2 * emax ≤ fsh p N D := by omega
     have := Nat.mul_le_mul_right (2 ^ (p - 1)) this
     rw [Nat.add_mul, Nat.one_mul]; omega
    ·intro h
     have : ¬ fsh p N D + 2 ≤ 2 * emax + 1 := fun h5 => by
      have := Nat.mul_le_mul_right (2 ^ (p - 1)) h5
      rw [Nat.add_mul (fsh p N D)] at this
      omega
     omega
   ·rw [h4, h3]
    constructor
    ·intro h
     have : 2 * emax + 1 ≤ fsh p N D + 2 := by omega
     have := Nat.mul_le_mul_right (2 ^ (p - 1)) this
     rw [Nat.add_mul (fsh p N D)] at this; omega
    ·intro h
     have : ¬ fsh p N D + 3 ≤ 2 * emax + 1 := fun h5 => by
      have := Nat.mul_le_mul_right (2 ^ (p - 1)) h5
      rw [Nat.add_mul (fsh p N D)] at this
      have := two_pow_pos (p - 1)
      omega
     omega
  by_cases ho : rOwn p m neg Q E > emax
  ·rw [if_pos ho, if_pos (hov.1 ho)]
  ·rw [if_neg ho, if_neg (fun h => ho (hov.2 h))]
   by_cases h0 : N % (D * 2 ^ fsh p N D) = 0
   ·rw [if_pos (hr.2 h0), if_pos h0]
   ·rw [if_neg (fun h => h0 (hr.1 h)), if_neg h0]
 ·-- subnormal
  have hs0 : fsh p N D = 0 := by rw [hs]; omega
  rw [hs0, Nat.pow_zero, Nat.mul_one] at hn hr hup hfb
  have hsm : N < D * 2 ^ (p - 1) := by
   rw [← hN, ← hD, ← Nat.pow_add]
   refine Nat.lt_of_lt_of_le (Nat.mul_lt_mul_of_pos_right l2 (two_pow_pos _)) ?_
   rw [← Nat.pow_add]
   refine Nat.pow_le_pow_right (by decide) ?_
   unfold rE at hge
   omega
  have hnl : rdiv m neg N D ≤ 2 ^ (p - 1) := by
   have := (div_lt_iff' hD0).1 hsm
   omega
  have hfc : fcode p m neg N D = rdiv m neg N D := by unfold fcode; rw [hs0, Nat.pow_zero, Nat.mul_one, Nat.zero_mul, Nat.zero_add]
  have hinf : ¬ infC p emax ≤ fcode p m neg N D := by
   rw [hfc]; unfold infC
   have := Nat.mul_le_mul_right (2 ^ (p - 1)) (show 3 ≤ 2 * emax + 1 by omega)
   have := two_pow_pos (p - 1)
   omega
  have hown : ¬ rOwn p m neg Q E > emax := by
   unfold rOwn
   rcases len_free hp fb.1 fb.2 with ⟨_, h4⟩ | ⟨_, h4⟩ <;> rw [h4] <;> omega
  have hcode : rCode p emax (rUnit p emax Q E) (rdiv m neg N D) = rdiv m neg N D := by
   rcases Nat.lt_or_ge (rdiv m neg N D) (2 ^ (p - 1)) with h | h
   ·unfold rCode; rw [if_pos]
    have := lenN_iff.2 h; omega
   ·have h3 := code_norm (p := p) (emax := emax) (s := 0) (u := rUnit p emax Q E) (n := rdiv m neg N D) hp (by unfold rUnit; omega) h (by omega)
    rw [h3, Nat.zero_mul, Nat.zero_add]
  have ht : rTiny p emax m after neg Q E = tinyF p m after neg N D := by
   unfold rTiny tinyF
   cases after with
   | false =>
    simp only [Bool.false_eq_true, if_false]
    rw [decide_eq_true hsm, decide_eq_true (by omega)]
   | true =>
    simp only [if_true]
    rw [decide_eq_decide]
    by_cases h1 : rE Q E = -(emax : Int)
    ·have e : rCut m neg Q ((lenN Q : Int) - p) = rdiv m neg (2 * N) D := by
      unfold rCut
      refine rdiv_ratio (two_pow_pos _) hD0 ?_
      rw [← hN, ← hD, show 2 * (Q * 2 ^ (E - (2 - emax - p)).toNat) = Q * 2 ^ ((E - (2 - emax - p)).toNat + 1) by rw [Nat.pow_succ]; ac_rfl]
      refine pow_eq2 Q ?_
      unfold rE at h1
      omega
     unfold rOwn
     rw [e] at fb ⊢
     rcases len_free hp fb.1 fb.2 with ⟨h3, h4⟩ | ⟨h3, h4⟩ <;> rw [h4]
     ·exact ⟨fun _ => h3, fun _ => by omega⟩
     ·exact ⟨fun h => by omega, fun h => by omega⟩
    ·have hq : 2 * N < D * 2 ^ (p - 1) := by
      rw [← hN, ← hD, ← Nat.pow_add, show 2 * (Q * 2 ^ (E - (2 - emax - p)).toNat) = Q * 2 ^ ((E - (2 - emax - p)).toNat + 1) by rw [Nat.pow_succ]; ac_rfl]
      refine Nat.lt_of_lt_of_le (Nat.mul_lt_mul_of_pos_right l2 (two_pow_pos _)) ?_
      rw [← Nat.pow_add]
      refine Nat.pow_le_pow_right (by decide) ?_
      unfold rE at hge h1
      omega
     have hq2 := (div_lt_iff' hD0).1 hq
     have hup2 := up_le m neg (2 * N) D
     have hp1 := two_pow_pos (p - 1)
     refine ⟨fun _ => by omega, fun _ => ?_⟩
     unfold rOwn
     rcases len_free hp fb.1 fb.2 with ⟨_, h4⟩ | ⟨_, h4⟩ <;> rw [h4] <;> omega
  unfold refR roundC
  rw [if_neg hown, if_neg hinf, hn, hcode, hfc, hs0, Nat.pow_zero, Nat.mul_one, ht]
  by_cases h0 : N % D = 0
  ·rw [if_pos (hr.2 h0), if_pos h0]
  ·rw [if_neg (fun h => h0 (hr.1 h)), if_neg h0]
end FP
end Go.Proofs.YtngiodcdelfdmaaGreatDoor
namespace Go.Proofs.YtngiodcdelfdmaaGreatDoor
namespace FP
set_option linter.unusedVariables false
set_option linter.unusedSimpArgs false
def restX (Q : Nat) (n : Int) (more : Bool) : Nat :=
 if n ≤ 0 then more.toNat
 else if Q % 2 ^ n.toNat = 0 ∧ more = false then 0
 else if (lenN (Q % 2 ^ n.toNat) : Int) < n then 1
 else if more = false ∧ Q % 2 ^ n.toNat = 2 ^ (n.toNat - 1) then 2 else 3
def floorX (Q : Nat) (n : Int) : Nat := if n ≤ 0 then Q * 2 ^ (-n).toNat else Q / 2 ^ n.toNat
def cutX (m : Nat) (neg : Bool) (Q : Nat) (n : Int) (more : Bool) : Nat := floorX Q n + (!(Nat.beq (restX Q n more) 0) && nextN m neg (oddN (floorX Q n)) (restX Q n more)).toNat
theorem restX_false (Q : Nat) (n : Int) : restX Q n false = rRest Q n := by
 unfold restX rRest
 by_cases h : n ≤ 0
 ·rw [if_pos h, show n.toNat = 0 by omega, Nat.pow_zero]
  unfold restN; rw [Nat.mod_one, if_pos rfl]; rfl
 ·rw [if_neg h, show (-n).toNat = 0 by omega, Nat.pow_zero, Nat.mul_one]
  obtain ⟨k, hk⟩ : ∃ k, n.toNat = k + 1 := ⟨n.toNat - 1, by omega⟩
  have hn : n = ((k + 1 : Nat) : Int) := by omega
  subst hn
  rw [hk]
  unfold restN
  by_cases h0 : Q % 2 ^ (k + 1) = 0
  ·rw [if_pos ⟨h0, rfl⟩, if_pos h0]
  ·rw [if_neg (fun h => h0 h.1), if_neg h0]
   have hl := lenN_iff (n := Q % 2 ^ (k + 1)) (k := k)
   have e : (((lenN (Q % 2 ^ (k + 1)) : Nat) : Int) < ((k + 1 : Nat) : Int)) ↔ 2 * (Q % 2 ^ (k + 1)) < 2 ^ (k + 1) := by
    rw [Nat.pow_succ] at *
    constructor
    ·intro h2; have := hl.1 (by omega); omega
    ·intro h2; have := hl.2 (by omega); omega
   by_cases h1 : 2 * (Q % 2 ^ (k + 1)) < 2 ^ (k + 1)
   ·rw [if_pos (e.2 h1), if_pos h1]
   ·rw [if_neg (fun h2 => h1 (e.1 h2)), if_neg h1, Nat.add_sub_cancel]
    by_cases h2 : Q % 2 ^ (k + 1) = 2 ^ k
    ·rw [if_pos ⟨rfl, h2⟩, if_pos (by rw [h2, Nat.pow_succ]; omega)]
    ·rw [if_neg (fun h3 => h2 h3.2), if_neg (by rw [Nat.pow_succ] at *; omega)]
theorem twice_mod (Q k : Nat) : (2 * Q + 1) % 2 ^ (k + 1) = 2 * (Q % 2 ^ k) + 1 ∧ (2 * Q + 1) / 2 ^ (k + 1) = Q / 2 ^ k := by
 have e := Nat.div_add_mod Q (2 ^ k)
 have hl := Nat.mod_lt Q (two_pow_pos k)
 have e2 : 2 * Q + 1 = (2 * (Q % 2 ^ k) + 1) + 2 ^ (k + 1) * (Q / 2 ^ k) := by rw [Nat.pow_succ, Nat.mul_right_comm]; omega
 have hlt : 2 * (Q % 2 ^ k) + 1 < 2 ^ (k + 1) := by rw [Nat.pow_succ]; omega
 constructor
 ·rw [e2, Nat.add_mul_mod_self_left, Nat.mod_eq_of_lt hlt]
 ·rw [e2, Nat.add_mul_div_left _ _ (two_pow_pos _), Nat.div_eq_of_lt hlt, Nat.zero_add]
theorem restX_true {Q : Nat} {n : Int} (h : 1 ≤ n) : restX Q n true = rRest (2 * Q + 1) (n + 1) := by
 obtain ⟨k, hk⟩ : ∃ k : Nat, n = (k : Int) + 1 := ⟨(n - 1).toNat, by omega⟩
 subst hk
 obtain ⟨t1, t2⟩ := twice_mod Q (k + 1)
 have L : restX Q ((k : Int) + 1) true = if (lenN (Q % 2 ^ (k + 1)) : Int) < (k : Int) + 1 then 1 else 3 := by
  unfold restX
  rw [if_neg (show ¬ ((k : Int) + 1 ≤ 0) by omega), show ((k : Int) + 1).toNat = k + 1 by omega]
  simp only [Bool.true_eq_false, and_false, false_and, if_false]
 have R : rRest (2 * Q + 1) ((k : Int) + 1 + 1) = if 2 * (2 * (Q % 2 ^ (k + 1)) + 1) < 2 ^ (k + 2) then 1 else if 2 * (2 * (Q % 2 ^ (k + 1)) + 1) = 2 ^ (k + 2) then 2 else 3 := by
  unfold rRest restN
  rw [show ((k : Int) + 1 + 1).toNat = k + 2 by omega, show (-((k : Int) + 1 + 1)).toNat = 0 by omega, Nat.pow_zero, Nat.mul_one]
  rw [show k + 1 + 1 = k + 2 from rfl] at t1
  rw [t1, if_neg (show ¬ (2 * (Q % 2 ^ (k + 1)) + 1 = 0) by omega)]
 rw [L, R]
 have hl := lenN_iff (n := Q % 2 ^ (k + 1)) (k := k)
 have p1 : 2 ^ (k + 2) = 4 * 2 ^ k := by rw [Nat.pow_succ, Nat.pow_succ]; omega
 have hle : (lenN (Q % 2 ^ (k + 1)) : Int) < (k : Int) + 1 ↔ Q % 2 ^ (k + 1) < 2 ^ k := by rw [← hl]; omega
 generalize Q % 2 ^ (k + 1) = r at *
 by_cases h1 : r < 2 ^ k
 ·rw [if_pos (hle.2 h1), if_pos (by omega)]
 ·rw [if_neg (fun h3 => h1 (hle.1 h3)), if_neg (by omega), if_neg (by omega)]
theorem cutX_false (m : Nat) (neg : Bool) (Q : Nat) (n : Int) : cutX m neg Q n false = rCut m neg Q n := by
 unfold cutX rCut rdiv upN
 rw [restX_false]
 have hf : floorX Q n = Q * 2 ^ (-n).toNat / 2 ^ n.toNat := by
  unfold floorX
  by_cases h : n ≤ 0
  ·rw [if_pos h, show n.toNat = 0 by omega, Nat.pow_zero, Nat.div_one]
  ·rw [if_neg h, show (-n).toNat = 0 by omega, Nat.pow_zero, Nat.mul_one]
 rw [hf]; rfl
theorem cutX_true (m : Nat) (neg : Bool) {Q : Nat} {n : Int} (h : 1 ≤ n) : cutX m neg Q n true = rCut m neg (2 * Q + 1) (n + 1) := by
 have hr := restX_true (Q := Q) h
 unfold cutX rCut rdiv upN
 rw [hr]
 have hf : floorX Q n = (2 * Q + 1) * 2 ^ (-(n + 1)).toNat / 2 ^ (n + 1).toNat := by
  unfold floorX
  rw [if_neg (by omega), show (-(n + 1)).toNat = 0 by omega, Nat.pow_zero, Nat.mul_one, show (n + 1).toNat = n.toNat + 1 by omega, (twice_mod Q n.toNat).2]
 rw [hf]; rfl
def ownX (p m : Nat) (neg : Bool) (Q : Nat) (E : Int) (more : Bool) : Int := (lenN (cutX m neg Q ((lenN Q : Int) - p) more) : Int) - 1 + rE Q E - (p - 1)
def refX (p emax m : Nat) (after neg : Bool) (Q : Nat) (E : Int) (more : Bool) : Nat × Nat :=
 if ownX p m neg Q E more > emax then (overC p emax m neg, 20)
 else (rCode p emax (rUnit p emax Q E) (cutX m neg Q (rUnit p emax Q E - E) more), if restX Q (rUnit p emax Q E - E) more = 0 then 0 else if (if after then decide (ownX p m neg Q E more < 1 - emax) else decide (rE Q E < 1 - emax)) then 24 else 16)
theorem refX_false (p emax m : Nat) (after neg : Bool) (Q : Nat) (E : Int) : refX p emax m after neg Q E false = refR p emax m after neg Q E := by
 unfold refX refR ownX rOwn rTiny rOwn
 rw [cutX_false, cutX_false, restX_false]
theorem lenN_twice (Q : Nat) (h : 0 < Q) : lenN (2 * Q + 1) = lenN Q + 1 := by
 obtain ⟨l1, l2, l3⟩ := lenN_lo (n := Q) (by omega)
 refine lenN_of ?_ ?_ (by omega)
 ·rw [Nat.add_sub_cancel, show lenN Q = (lenN Q - 1) + 1 by omega, Nat.pow_succ]; omega
 ·rw [Nat.pow_succ]; omega
theorem refX_true {p emax m : Nat} {after neg : Bool} {Q : Nat} {E : Int} (hp : 2 ≤ p) (hQ : 2 ^ p ≤ Q) : refX p emax m after neg Q E true = refR p emax m after neg (2 * Q + 1) (E - 1) := by
 have hQ0 : 0 < Q := Nat.lt_of_lt_of_le (two_pow_pos p) hQ
 have hl : p < lenN Q := Nat.lt_of_not_le fun h => by have := lenN_iff.1 h; omega
 have ht := lenN_twice Q hQ0
 have hE : rE (2 * Q + 1) (E - 1) = rE Q E := by unfold rE; rw [ht]; omega
 have hU : rUnit p emax (2 * Q + 1) (E - 1) = rUnit p emax Q E := by unfold rUnit; rw [hE]
 have c1 : cutX m neg Q ((lenN Q : Int) - p) true = rCut m neg (2 * Q + 1) ((lenN (2 * Q + 1) : Int) - p) := by
  rw [cutX_true m neg (by omega), ht]; congr 1; omega
 have hge : 1 ≤ rUnit p emax Q E - E := by unfold rUnit rE; omega
 have c2 : cutX m neg Q (rUnit p emax Q E - E) true = rCut m neg (2 * Q + 1) (rUnit p emax Q E - (E - 1)) := by
  rw [cutX_true m neg hge]; congr 1; omega
 have c3 : restX Q (rUnit p emax Q E - E) true = rRest (2 * Q + 1) (rUnit p emax Q E - (E - 1)) := by
  rw [restX_true hge]; congr 1; omega
 have hO : ownX p m neg Q E true = rOwn p m neg (2 * Q + 1) (E - 1) := by unfold ownX rOwn; rw [c1, hE]
 unfold refX refR rTiny
 rw [hO, hU, c2, c3, hE]
theorem refX_ratio {p emax m : Nat} {after neg : Bool} {Q : Nat} {E : Int} {N D : Nat} (hp : 2 ≤ p) (he : 1 ≤ emax) (hQ : 0 < Q) (hD : 0 < D) (h : Q * 2 ^ (E - (2 - emax - p)).toNat * D = N * 2 ^ (-(E - (2 - emax - p))).toNat) :
  refX p emax m after neg Q E false = roundC p emax m after neg N D := by
 rw [refX_false, refR_eq hp he hQ]
 exact roundC_ratio hp (two_pow_pos _) hD h
def vM (f c : Nat) : Nat := if c / 2 ^ (fP f - 1) = 0 then c % 2 ^ (fP f - 1) else c % 2 ^ (fP f - 1) + 2 ^ (fP f - 1)
def vE (f c : Nat) : Int := if c / 2 ^ (fP f - 1) = 0 then 1 - (fE f : Int) - (fP f - 1) else ((c / 2 ^ (fP f - 1) : Nat) : Int) - fE f - (fP f - 1)
theorem vM_val {f : Nat} (hf : f < 4) (c : Nat) : 0 ≤ vE f c + fU f ∧ val f c = vM f c * 2 ^ (vE f c + fU f).toNat := by
 obtain ⟨n1, n2, n3, n4, n5, n6, n7, n8, n9⟩ := fmtN hf
 have hU : (fU f : Int) = fE f + fP f - 2 := by unfold fU; omega
 unfold vE vM
 by_cases h : c / 2 ^ (fP f - 1) = 0
 ·have hlt : c < 2 ^ (fP f - 1) := (Nat.div_eq_zero_iff.1 h).resolve_left (by have := two_pow_pos (fP f - 1); omega)
  obtain ⟨s1, s2⟩ := sub_code (f := f) hlt
  rw [if_pos h, if_pos h, Nat.mod_eq_of_lt hlt]
  refine ⟨by omega, ?_⟩
  unfold val cval
  rw [s1, s2]; congr 2; omega
 ·have hge : ¬ c < 2 ^ (fP f - 1) := fun h2 => h (Nat.div_eq_of_lt h2)
  obtain ⟨s1, s2⟩ := norm_code (f := f) hge
  rw [if_neg h, if_neg h]
  refine ⟨by omega, ?_⟩
  unfold val cval
  rw [s2, Nat.add_comm (2 ^ (fP f - 1))]; congr 2; omega
theorem vM_pos {f c : Nat} (h : 0 < c) : 0 < vM f c := by
 unfold vM
 have hp := two_pow_pos (fP f - 1)
 split
 ·rename_i h0
  have hlt : c < 2 ^ (fP f - 1) := (Nat.div_eq_zero_iff.1 h0).resolve_left (by omega)
  rw [Nat.mod_eq_of_lt hlt]; exact h
 ·omega
theorem vM_lt {f : Nat} (hf : f < 4) (c : Nat) : vM f c < 2 ^ fP f := by
 have hh := half_pow (fP_ge hf)
 have := Nat.mod_lt c (two_pow_pos (fP f - 1))
 unfold vM; split <;> omega
theorem vE_rng {f c : Nat} (hf : f < 4) (hc : c < inf f) : -17000 ≤ vE f c ∧ vE f c ≤ 17000 := by
 obtain ⟨n1, n2, n3, n4, n5, n6, n7, n8, n9⟩ := fmtN hf
 have h1 : c / 2 ^ (fP f - 1) < 2 * fE f + 1 := by
  rw [Nat.div_lt_iff_lt_mul (two_pow_pos _)]; exact hc
 unfold vE
 generalize c / 2 ^ (fP f - 1) = q at *
 split <;> omega
theorem fU_eq {f : Nat} (hf : f < 4) : ((2 : Int) - fE f - fP f) = -(fU f : Int) := by
 obtain ⟨n1, n2, n3, n4, n5, n6, n7, n8, n9⟩ := fmtN hf
 unfold fU; omega
end FP
end Go.Proofs.YtngiodcdelfdmaaGreatDoor
namespace Go.Proofs.YtngiodcdelfdmaaGreatDoor
namespace FP
set_option linter.unusedVariables false
set_option exponentiation.threshold 500
set_option linter.unusedSimpArgs false
end FP
end Go.Proofs.YtngiodcdelfdmaaGreatDoor
namespace Go.Proofs.YtngiodcdelfdmaaGreatDoor
namespace FP
set_option linter.unusedVariables false
set_option exponentiation.threshold 500
set_option linter.unusedSimpArgs false
theorem sq_lt {a b : Nat} (h : a * a < b * b) : a < b := Nat.lt_of_not_le fun h2 => by have := Nat.mul_le_mul h2 h2; omega
theorem two_sq (j : Nat) : 2 ^ j * 2 ^ j = 2 ^ (2 * j) := by rw [← Nat.pow_add]; congr 1; omega
theorem root_scale {f c q far : Nat} {e : Int} (hf : f < 4) (h0 : 0 < c) (h1 : c < inf f) (hf1 : 300 ≤ far) (hf2 : far ≤ 301) (he : 2 * e = vE f c - far)
  (hq1 : q * q ≤ vM f c * 2 ^ far) (hq2 : vM f c * 2 ^ far < (q + 1) * (q + 1)) :
  ∃ j : Nat, sqX f c - e = (j : Int) ∧ vM f c * 2 ^ far = sqN f c * 2 ^ (2 * j) ∧ q / 2 ^ j = isq (sqN f c) ∧ (q * q = vM f c * 2 ^ far → q = isq (sqN f c) * 2 ^ j ∧ isq (sqN f c) * isq (sqN f c) = sqN f c) ∧ (isq (sqN f c) * isq (sqN f c) = sqN f c → q * q = vM f c * 2 ^ far) := by
 obtain ⟨s1, s2⟩ := sqN_rng hf h0 h1
 obtain ⟨i1, i2⟩ := isq_spec s2
 have ha := sq_at hf h0 h1
 obtain ⟨v1, v2⟩ := vM_val hf c
 obtain ⟨x1, x2⟩ := sqX_rng hf h0 h1
 obtain ⟨r1, r2⟩ := vE_rng hf h1
 obtain ⟨n1, n2, n3, n4, n5, n6, n7, n8, n9⟩ := fmtN hf
 have hU : (fU f : Int) = fE f + fP f - 2 := by unfold fU; omega
 have hM := vM_pos (f := f) h0
 have hn : 2 ^ 300 ≤ vM f c * 2 ^ far := Nat.le_trans (Nat.pow_le_pow_right (by decide) hf1) (Nat.le_mul_of_pos_left _ hM)
 have key : vM f c * 2 ^ far * 2 ^ (2 * e + 40255).toNat = sqN f c * 2 ^ (2 * sqX f c + 40255).toNat := by
  rw [ha, v2, Nat.mul_assoc, Nat.mul_assoc, ← Nat.pow_add, ← Nat.pow_add]; congr 2; omega
 generalize sqN f c = s at *
 generalize hnn : vM f c * 2 ^ far = n at *
 have hx : e ≤ sqX f c := by
  apply Int.not_lt.1
  intro hlt
  have h2 : n * 2 ^ ((2 * e + 40255).toNat - (2 * sqX f c + 40255).toNat) = s := by
   apply Nat.eq_of_mul_eq_mul_right (two_pow_pos (2 * sqX f c + 40255).toNat)
   rw [← key, Nat.mul_assoc, ← Nat.pow_add]; congr 2; omega
  have h3 : n ≤ s := by rw [← h2]; exact Nat.le_mul_of_pos_right _ (two_pow_pos _)
  have h4 : (2 : Nat) ^ 256 ≤ 2 ^ 300 := Nat.pow_le_pow_right (by decide) (by decide)
  omega
 have hj : n = s * 2 ^ (2 * (sqX f c - e).toNat) := by
  apply Nat.eq_of_mul_eq_mul_right (two_pow_pos (2 * e + 40255).toNat)
  rw [key, Nat.mul_assoc, ← Nat.pow_add]; congr 2; omega
 obtain ⟨j, hjj⟩ : ∃ j : Nat, sqX f c - e = (j : Int) := ⟨(sqX f c - e).toNat, by omega⟩
 rw [hjj, Int.toNat_natCast] at hj
 have hp := two_pow_pos j
 generalize isq s = i at *
 have a1 : i * 2 ^ j * (i * 2 ^ j) = i * i * 2 ^ (2 * j) := by rw [← two_sq]; ac_rfl
 have a2 : (i + 1) * 2 ^ j * ((i + 1) * 2 ^ j) = (i + 1) * (i + 1) * 2 ^ (2 * j) := by rw [← two_sq]; ac_rfl
 have b1 : i * 2 ^ j ≤ q := by
  apply Nat.le_of_lt_succ
  apply sq_lt
  rw [a1]
  exact Nat.lt_of_le_of_lt (Nat.mul_le_mul_right _ i1) (by rw [← hj]; exact hq2)
 have b2 : q < (i + 1) * 2 ^ j := by
  apply sq_lt
  rw [a2]
  exact Nat.lt_of_le_of_lt hq1 (by rw [hj]; exact Nat.mul_lt_mul_of_pos_right i2 (two_pow_pos _))
 have hdiv : q / 2 ^ j = i := by
  apply Nat.le_antisymm
  ·apply Nat.le_of_lt_succ; rw [Nat.div_lt_iff_lt_mul hp]; exact b2
  ·rw [Nat.le_div_iff_mul_le hp]; exact b1
 refine ⟨j, hjj, hj, hdiv, fun h => ?_, fun h => ?_⟩
 ·have hd : (2 ^ j) ^ 2 ∣ q ^ 2 := ⟨s, by rw [Nat.pow_two, h, hj, Nat.pow_two, two_sq, Nat.mul_comm]⟩
  obtain ⟨k, hk⟩ := (Nat.pow_dvd_pow_iff (by decide)).1 hd
  have hk2 : q = i * 2 ^ j := by
   rw [← hdiv, hk, Nat.mul_div_cancel_left _ hp, Nat.mul_comm]
  refine ⟨hk2, ?_⟩
  apply Nat.eq_of_mul_eq_mul_right (two_pow_pos (2 * j))
  rw [← a1, ← hk2, h, hj]
 ·have hk2 : q = i * 2 ^ j := by
   apply Nat.le_antisymm _ b1
   apply Nat.le_of_not_lt
   intro hlt
   have h2 : (i * 2 ^ j + 1) * (i * 2 ^ j + 1) ≤ q * q := Nat.mul_le_mul hlt hlt
   have h3 : i * 2 ^ j * (i * 2 ^ j) = n := by rw [a1, h, ← hj]
   rw [Nat.add_mul, Nat.mul_add] at h2
   omega
  rw [hk2, a1, h, ← hj]
theorem ref_sqrt {f m : Nat} {after : Bool} {c q far : Nat} {e : Int} (hf : f < 4) (h0 : 0 < c) (h1 : c < inf f) (hf1 : 300 ≤ far) (hf2 : far ≤ 301) (he : 2 * e = vE f c - far)
  (hq1 : q * q ≤ vM f c * 2 ^ far) (hq2 : vM f c * 2 ^ far < (q + 1) * (q + 1)) :
  refX (fP f) (fE f) m after false q e (decide (q * q < vM f c * 2 ^ far)) = sqrtC f m after c := by
 obtain ⟨j, hj, hn, hdiv, ex1, ex2⟩ := root_scale hf h0 h1 hf1 hf2 he hq1 hq2
 obtain ⟨s1, s2⟩ := sqN_rng hf h0 h1
 have hi127 := isq_ge (k := 127) s2 s1
 obtain ⟨n1, n2, n3, n4, n5, n6, n7, n8, n9⟩ := fmtN hf
 have hU : (fU f : Int) = fE f + fP f - 2 := by unfold fU; omega
 have hM := vM_pos (f := f) h0
 have hq150 : 2 ^ 127 ≤ q := Nat.le_trans hi127 (by rw [← hdiv]; exact Nat.div_le_self _ _)
 rw [sqrtC_eq]
 have eN : rtN f c = jamR (sqN f c) * 2 ^ (sqX f c - 100 + fU f).toNat := by unfold rtN; congr 2; omega
 have eD : rtD f c = 2 ^ (-(sqX f c - 100 + fU f)).toNat := by unfold rtD; congr 1; omega
 rw [eN, eD]
 generalize hs : sqN f c = s at *
 generalize hx : sqX f c = x at *
 by_cases h : q * q = vM f c * 2 ^ far
 ·obtain ⟨e1, e2⟩ := ex1 h
  rw [decide_eq_false (by omega)]
  have hJ : jamR s = isq s * 2 ^ 100 := by unfold jamR; rw [if_pos e2, Nat.add_zero]
  refine refX_ratio (fP_ge hf) (fE_ge hf) (by omega) (two_pow_pos _) ?_
  rw [hJ, fU_eq hf, e1]
  generalize isq s = i at *
  simp only [Nat.mul_assoc, ← Nat.pow_add]
  congr 2; omega
 ·have hne : isq s * isq s ≠ s := fun h2 => h (ex2 h2)
  have hJ : jamR s = isq s * 2 ^ 100 + 1 := by unfold jamR; rw [if_neg hne]
  have hp2 : 2 ^ fP f ≤ q := Nat.le_trans (Nat.pow_le_pow_right (by decide) (by omega)) hq150
  rw [decide_eq_true (by omega), refX_true (fP_ge hf) hp2, refR_eq (fP_ge hf) (fE_ge hf) (by omega), fU_eq hf, hJ]
  generalize isq s = i at *
  have d1 : (2 * q + 1) * 2 ^ (e - 1 - -(fU f : Int)).toNat / (2 * 2 ^ j * 2 ^ (e - 1 - -(fU f : Int)).toNat) = i := by
   rw [Nat.mul_div_mul_right _ _ (two_pow_pos _), ← Nat.div_div_eq_div_mul, show (2 * q + 1) / 2 = q by omega, hdiv]
  have d2 : (i * 2 ^ 100 + 1) * 2 ^ (x - 100 + fU f).toNat / (2 ^ 100 * 2 ^ (x - 100 + fU f).toNat) = i := by
   rw [Nat.mul_div_mul_right _ _ (two_pow_pos _), Nat.mul_comm i, Nat.mul_add_div (two_pow_pos _), Nat.div_eq_of_lt (Nat.one_lt_two_pow (by decide)), Nat.add_zero]
  refine roundC_agree (G1 := 2 * 2 ^ j * 2 ^ (e - 1 - -(fU f : Int)).toNat) (G2 := 2 ^ 100 * 2 ^ (x - 100 + fU f).toNat) (a := (x + fU f).toNat) (b := (-(x + fU f)).toNat) (fP_ge hf) (two_pow_pos _) (two_pow_pos _) (Nat.mul_pos (Nat.mul_pos (by decide) (two_pow_pos _)) (two_pow_pos _)) (Nat.mul_pos (two_pow_pos _) (two_pow_pos _)) ?_ ?_ ?_ ?_ ?_
  ·rw [← Nat.pow_succ', ← Nat.pow_add, ← Nat.pow_add, ← Nat.pow_add]; congr 1; omega
  ·rw [← Nat.pow_add, ← Nat.pow_add, ← Nat.pow_add]; congr 1; omega
  ·rw [d1, d2]
  ·have z1 : (2 * q + 1) % (2 * 2 ^ j) ≠ 0 := fun h2 => by
    have h3 := Nat.dvd_of_mod_eq_zero h2
    have h4 : 2 ∣ 2 * q + 1 := Nat.dvd_trans ⟨2 ^ j, rfl⟩ h3
    omega
   have z2 : (i * 2 ^ 100 + 1) % 2 ^ 100 ≠ 0 := by
    rw [Nat.mul_comm i, Nat.mul_add_mod, Nat.mod_eq_of_lt (Nat.one_lt_two_pow (by decide))]; decide
   rw [Nat.mul_mod_mul_right, Nat.mul_mod_mul_right]
   constructor
   ·intro h2; exact absurd ((Nat.mul_eq_zero.1 h2).resolve_right (Nat.ne_of_gt (two_pow_pos _))) z1
   ·intro h2; exact absurd ((Nat.mul_eq_zero.1 h2).resolve_right (Nat.ne_of_gt (two_pow_pos _))) z2
  ·rw [d1]; exact Nat.le_trans (Nat.pow_le_pow_right (by decide) (by omega)) hi127
end FP
end Go.Proofs.YtngiodcdelfdmaaGreatDoor
