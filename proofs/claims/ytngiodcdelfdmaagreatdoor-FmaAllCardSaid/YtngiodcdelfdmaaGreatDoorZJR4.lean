import Derived.Test.YtngiodcdelfdmaaGreatDoorZFR4
import Derived.Test.YtngiodcdelfdmaaGreatDoorZQR4
namespace Go.Proofs.YtngiodcdelfdmaaGreatDoor
namespace FP
set_option linter.unusedVariables false
set_option linter.unusedSimpArgs false
def rCut (m : Nat) (neg : Bool) (Q : Nat) (n : Int) : Nat := rdiv m neg (Q * 2 ^ (-n).toNat) (2 ^ n.toNat)
def rRest (Q : Nat) (n : Int) : Nat := restN (Q * 2 ^ (-n).toNat) (2 ^ n.toNat)
def rE (Q : Nat) (E : Int) : Int := (lenN Q : Int) - 1 + E
def rOwn (p m : Nat) (neg : Bool) (Q : Nat) (E : Int) : Int := (lenN (rCut m neg Q ((lenN Q : Int) - p)) : Int) - 1 + rE Q E - (p - 1)
def rUnit (p emax : Nat) (Q : Nat) (E : Int) : Int := max (rE Q E) (1 - emax) - (p - 1)
def rCode (p emax : Nat) (u : Int) (n : Nat) : Nat := if lenN n < p then n else ((lenN n : Int) - 1 + u - (1 - emax) + 1).toNat * 2 ^ (p - 1) + n / 2 ^ (lenN n - p) % 2 ^ (p - 1)
def rTiny (p emax m : Nat) (after neg : Bool) (Q : Nat) (E : Int) : Bool := if after then decide (rOwn p m neg Q E < 1 - emax) else decide (rE Q E < 1 - emax)
def refR (p emax m : Nat) (after neg : Bool) (Q : Nat) (E : Int) : Nat × Nat :=
 if rOwn p m neg Q E > emax then (overC p emax m neg, 20)
 else (rCode p emax (rUnit p emax Q E) (rCut m neg Q (rUnit p emax Q E - E)), if rRest Q (rUnit p emax Q E - E) = 0 then 0 else if rTiny p emax m after neg Q E then 24 else 16)
theorem pow_eq2 (Q : Nat) {a b c d : Nat} (h : a + d = c + b) : Q * 2 ^ a * 2 ^ d = Q * 2 ^ c * 2 ^ b := by
 rw [Nat.mul_assoc, Nat.mul_assoc, ← Nat.pow_add, ← Nat.pow_add, h]
theorem lenN_of {n k : Nat} (h1 : 2 ^ (k - 1) ≤ n) (h2 : n < 2 ^ k) (hk : 1 ≤ k) : lenN n = k := by
 have a := (lenN_iff (n := n) (k := k)).2 h2
 have b : ¬ lenN n ≤ k - 1 := fun h => by have := lenN_iff.1 h; omega
 omega
theorem restN_zero_ratio {N1 D1 N2 D2 : Nat} (h1 : 0 < D1) (h2 : 0 < D2) (h : N1 * D2 = N2 * D1) : restN N1 D1 = 0 ↔ restN N2 D2 = 0 := by
 have a := (divmod_mono h1 h2 (Nat.le_of_eq h)).1
 have b := (divmod_mono h2 h1 (Nat.le_of_eq h.symm)).1
 have e : N1 / D1 = N2 / D2 := Nat.le_antisymm a b
 have c := (divmod_mono h1 h2 (Nat.le_of_eq h)).2 e
 have d := (divmod_mono h2 h1 (Nat.le_of_eq h.symm)).2 e.symm
 rw [restN_zero, restN_zero]
 constructor
 ·intro h0
  rw [h0, Nat.zero_mul] at d
  exact (Nat.mul_eq_zero.1 (Nat.le_zero.1 d)).resolve_right (by omega)
 ·intro h0
  rw [h0, Nat.zero_mul] at c
  exact (Nat.mul_eq_zero.1 (Nat.le_zero.1 c)).resolve_right (by omega)
theorem free_bounds {p m : Nat} {neg : Bool} {Q : Nat} (hp : 2 ≤ p) (hQ : 0 < Q) : 2 ^ (p - 1) ≤ rCut m neg Q ((lenN Q : Int) - p) ∧ rCut m neg Q ((lenN Q : Int) - p) ≤ 2 ^ p := by
 obtain ⟨l1, l2, l3⟩ := lenN_lo (n := Q) (by omega)
 unfold rCut
 generalize hL : lenN Q = L at *
 have key : ∀ k : Nat, 2 ^ k * 2 ^ ((L : Int) - p).toNat = 2 ^ (k + ((L : Int) - p).toNat) := fun k => (Nat.pow_add ..).symm
 constructor
 ·have h := rdiv_mono (m := m) (neg := neg) (N1 := 2 ^ (p - 1) * 2 ^ ((L : Int) - p).toNat) (D1 := 2 ^ ((L : Int) - p).toNat) (N2 := Q * 2 ^ (-((L : Int) - p)).toNat) (D2 := 2 ^ ((L : Int) - p).toNat) (two_pow_pos _) (two_pow_pos _) (Nat.mul_le_mul_right _ (by
   rw [key]
   refine Nat.le_trans ?_ (Nat.mul_le_mul_right _ l1)
   rw [← Nat.pow_add]
   exact Nat.pow_le_pow_right (by decide) (by omega)))
  rwa [rdiv_exact _ _ (two_pow_pos _)] at h
 ·have h := rdiv_mono (m := m) (neg := neg) (N2 := 2 ^ p * 2 ^ ((L : Int) - p).toNat) (D2 := 2 ^ ((L : Int) - p).toNat) (N1 := Q * 2 ^ (-((L : Int) - p)).toNat) (D1 := 2 ^ ((L : Int) - p).toNat) (two_pow_pos _) (two_pow_pos _) (Nat.mul_le_mul_right _ (by
   rw [key]
   refine Nat.le_trans (Nat.mul_le_mul_right _ (Nat.le_of_lt l2)) ?_
   rw [← Nat.pow_add]
   exact Nat.pow_le_pow_right (by decide) (by omega)))
  rwa [rdiv_exact _ _ (two_pow_pos _)] at h
theorem len_free {p n : Nat} (hp : 2 ≤ p) (h1 : 2 ^ (p - 1) ≤ n) (h2 : n ≤ 2 ^ p) : (n < 2 ^ p ∧ lenN n = p) ∨ (n = 2 ^ p ∧ lenN n = p + 1) := by
 rcases Nat.lt_or_ge n (2 ^ p) with h | h
 ·exact .inl ⟨h, lenN_of h1 h (by omega)⟩
 ·have e : n = 2 ^ p := Nat.le_antisymm h2 h
  refine .inr ⟨e, lenN_of (by rw [e]; exact Nat.le_refl _) (by rw [e]; exact Nat.pow_lt_pow_right (by decide) (by omega)) (by omega)⟩
theorem code_norm {p emax s n : Nat} {u : Int} (hp : 2 ≤ p) (hu : u = (s : Int) + (1 - emax) - (p - 1)) (h1 : 2 ^ (p - 1) ≤ n) (h2 : n ≤ 2 ^ p) : rCode p emax u n = s * 2 ^ (p - 1) + n := by
 unfold rCode
 have hh := half_pow hp
 rcases len_free hp h1 h2 with ⟨h3, h4⟩ | ⟨h3, h4⟩
 ·rw [h4, if_neg (Nat.lt_irrefl _), Nat.sub_self, Nat.pow_zero, Nat.div_one, show ((p : Int) - 1 + u - (1 - emax) + 1).toNat = s + 1 by omega, Nat.mod_eq_sub_mod h1, Nat.mod_eq_of_lt (by omega), Nat.add_mul, Nat.one_mul]
  omega
 ·rw [h4, if_neg (by omega), show p + 1 - p = 1 by omega, show (((p + 1 : Nat) : Int) - 1 + u - (1 - emax) + 1).toNat = s + 2 by omega, h3, hh, Nat.pow_one, Nat.mul_div_cancel_left _ (by decide), Nat.mod_self, Nat.add_mul]
  omega
theorem refR_eq {p emax m : Nat} {after neg : Bool} {Q : Nat} {E : Int} (hp : 2 ≤ p) (he : 1 ≤ emax) (hQ : 0 < Q) :
  refR p emax m after neg Q E = roundC p emax m after neg (Q * 2 ^ (E - (2 - emax - p)).toNat) (2 ^ (-(E - (2 - emax - p))).toNat) := by
 obtain ⟨l1, l2, l3⟩ := lenN_lo (n := Q) (by omega)
 have fb := free_bounds (p := p) (m := m) (neg := neg) hp hQ
 have hh := half_pow hp
 generalize hN : Q * 2 ^ (E - (2 - emax - p)).toNat = N
 generalize hD : 2 ^ (-(E - (2 - emax - p))).toNat = D
 have hD0 : 0 < D := by rw [← hD]; exact two_pow_pos _
 have hs : fsh p N D = (max (rE Q E) (1 - emax) - (1 - emax)).toNat := by
  refine (fsh_iff hp hD0).2 ⟨?_, fun h0 => ?_⟩
  ·rw [← hN, ← hD, ← Nat.pow_add]
   refine Nat.lt_of_lt_of_le (Nat.mul_lt_mul_of_pos_right l2 (two_pow_pos _)) ?_
   rw [← Nat.pow_add]
   refine Nat.pow_le_pow_right (by decide) ?_
   unfold rE at *
   omega
  ·rw [← hN, ← hD, ← Nat.pow_add]
   refine Nat.le_trans ?_ (Nat.mul_le_mul_right _ l1)
   rw [← Nat.pow_add]
   refine Nat.pow_le_pow_right (by decide) ?_
   unfold rE at *
   omega
 have hfb := fq_bounds (p := p) (N := N) (D := D) hp
 have hup := up_le m neg N (D * 2 ^ fsh p N D)
 have hn : rCut m neg Q (rUnit p emax Q E - E) = rdiv m neg N (D * 2 ^ fsh p N D) := by
  unfold rCut
  refine rdiv_ratio (two_pow_pos _) (Nat.mul_pos hD0 (two_pow_pos _)) ?_
  rw [hs, ← hN, ← hD, ← Nat.pow_add]
  refine pow_eq2 Q ?_
  unfold rUnit rE
  omega
 have hr : rRest Q (rUnit p emax Q E - E) = 0 ↔ N % (D * 2 ^ fsh p N D) = 0 := by
  rw [← restN_zero]
  unfold rRest
  refine restN_zero_ratio (two_pow_pos _) (Nat.mul_pos hD0 (two_pow_pos _)) ?_
  rw [hs, ← hN, ← hD, ← Nat.pow_add]
  refine pow_eq2 Q ?_
  unfold rUnit rE
  omega
 by_cases hge : 1 - (emax : Int) ≤ rE Q E
 ·-- normal
  have hcut : rCut m neg Q ((lenN Q : Int) - p) = rdiv m neg N (D * 2 ^ fsh p N D) := by
   rw [← hn]; congr 1; unfold rUnit rE at *; omega
  have hbig : D * 2 ^ (p - 1) ≤ N := by
   rw [← hN, ← hD, ← Nat.pow_add]
   refine Nat.le_trans ?_ (Nat.mul_le_mul_right _ l1)
   rw [← Nat.pow_add]
   refine Nat.pow_le_pow_right (by decide) ?_
   unfold rE at hge
   omega
  have ht : (if tinyF p m after neg N D then 24 else 16) = (if rTiny p emax m after neg Q E then 24 else 16) := by
   rw [tiny_false hp hD0 hbig]
   have : rTiny p emax m after neg Q E = false := by
    unfold rTiny
    split
    ·rw [decide_eq_false_iff_not]; unfold rOwn
     rcases len_free hp fb.1 fb.2 with ⟨_, h4⟩ | ⟨_, h4⟩ <;> rw [h4] <;> omega
    ·rw [decide_eq_false_iff_not]; omega
   rw [this]
  rw [hcut] at fb
  unfold refR roundC
  rw [hn, ht]
  have hcode : rCode p emax (rUnit p emax Q E) (rdiv m neg N (D * 2 ^ fsh p N D)) = fcode p m neg N D := by
   unfold fcode
   exact code_norm hp (by rw [hs]; unfold rUnit; omega) fb.1 fb.2
  rw [hcode]
  have hov : rOwn p m neg Q E > emax ↔ infC p emax ≤ fcode p m neg N D := by
   unfold rOwn infC
   rw [hcut]
   have hsI : ((fsh p N D : Nat) : Int) = rE Q E - (1 - emax) := by rw [hs]; omega
   unfold fcode
   rcases len_free hp fb.1 fb.2 with ⟨h3, h4⟩ | ⟨h3, h4⟩
   ·rw [h4]
    constructor
    ·intro h
     have : 2 * emax ≤ fsh p N D := by omega
     have := Nat.mul_le_mul_right (2 ^ (p - 1)) this
     rw [Nat.add_mul, Nat.one_mul]; omega
    ·intro h
     have : ¬ fsh p N D + 2 ≤ 2 * emax + 1 := fun h5 => by
      have := Nat.mul_le_mul_right (2 ^ (p - 1)) h5
      rw [Nat.add_mul (fsh p N D)] at this
      omega
     omega
   ·rw [h4, h3]
    constructor
    ·intro h
     have : 2 * emax + 1 ≤ fsh p N D + 2 := by omega
     have := Nat.mul_le_mul_right (2 ^ (p - 1)) this
     rw [Nat.add_mul (fsh p N D)] at this; omega
    ·intro h
     have : ¬ fsh p N D + 3 ≤ 2 * emax + 1 := fun h5 => by
      have := Nat.mul_le_mul_right (2 ^ (p - 1)) h5
      rw [Nat.add_mul (fsh p N D)] at this
      have := two_pow_pos (p - 1)
      omega
     omega
  by_cases ho : rOwn p m neg Q E > emax
  ·rw [if_pos ho, if_pos (hov.1 ho)]
  ·rw [if_neg ho, if_neg (fun h => ho (hov.2 h))]
   by_cases h0 : N % (D * 2 ^ fsh p N D) = 0
   ·rw [if_pos (hr.2 h0), if_pos h0]
   ·rw [if_neg (fun h => h0 (hr.1 h)), if_neg h0]
 ·-- subnormal
  have hs0 : fsh p N D = 0 := by rw [hs]; omega
  rw [hs0, Nat.pow_zero, Nat.mul_one] at hn hr hup hfb
  have hsm : N < D * 2 ^ (p - 1) := by
   rw [← hN, ← hD, ← Nat.pow_add]
   refine Nat.lt_of_lt_of_le (Nat.mul_lt_mul_of_pos_right l2 (two_pow_pos _)) ?_
   rw [← Nat.pow_add]
   refine Nat.pow_le_pow_right (by decide) ?_
   unfold rE at hge
   omega
  have hnl : rdiv m neg N D ≤ 2 ^ (p - 1) := by
   have := (div_lt_iff' hD0).1 hsm
   omega
  have hfc : fcode p m neg N D = rdiv m neg N D := by unfold fcode; rw [hs0, Nat.pow_zero, Nat.mul_one, Nat.zero_mul, Nat.zero_add]
  have hinf : ¬ infC p emax ≤ fcode p m neg N D := by
   rw [hfc]; unfold infC
   have := Nat.mul_le_mul_right (2 ^ (p - 1)) (show 3 ≤ 2 * emax + 1 by omega)
   have := two_pow_pos (p - 1)
   omega
  have hown : ¬ rOwn p m neg Q E > emax := by
   unfold rOwn
   rcases len_free hp fb.1 fb.2 with ⟨_, h4⟩ | ⟨_, h4⟩ <;> rw [h4] <;> omega
  have hcode : rCode p emax (rUnit p emax Q E) (rdiv m neg N D) = rdiv m neg N D := by
   rcases Nat.lt_or_ge (rdiv m neg N D) (2 ^ (p - 1)) with h | h
   ·unfold rCode; rw [if_pos]
    have := lenN_iff.2 h; omega
   ·have h3 := code_norm (p := p) (emax := emax) (s := 0) (u := rUnit p emax Q E) (n := rdiv m neg N D) hp (by unfold rUnit; omega) h (by omega)
    rw [h3, Nat.zero_mul, Nat.zero_add]
  have ht : rTiny p emax m after neg Q E = tinyF p m after neg N D := by
   unfold rTiny tinyF
   cases after with
   | false =>
    simp only [Bool.false_eq_true, if_false]
    rw [decide_eq_true hsm, decide_eq_true (by omega)]
   | true =>
    simp only [if_true]
    rw [decide_eq_decide]
    by_cases h1 : rE Q E = -(emax : Int)
    ·have e : rCut m neg Q ((lenN Q : Int) - p) = rdiv m neg (2 * N) D := by
      unfold rCut
      refine rdiv_ratio (two_pow_pos _) hD0 ?_
      rw [← hN, ← hD, show 2 * (Q * 2 ^ (E - (2 - emax - p)).toNat) = Q * 2 ^ ((E - (2 - emax - p)).toNat + 1) by rw [Nat.pow_succ]; ac_rfl]
      refine pow_eq2 Q ?_
      unfold rE at h1
      omega
     unfold rOwn
     rw [e] at fb ⊢
     rcases len_free hp fb.1 fb.2 with ⟨h3, h4⟩ | ⟨h3, h4⟩ <;> rw [h4]
     ·exact ⟨fun _ => h3, fun _ => by omega⟩
     ·exact ⟨fun h => by omega, fun h => by omega⟩
    ·have hq : 2 * N < D * 2 ^ (p - 1) := by
      rw [← hN, ← hD, ← Nat.pow_add, show 2 * (Q * 2 ^ (E - (2 - emax - p)).toNat) = Q * 2 ^ ((E - (2 - emax - p)).toNat + 1) by rw [Nat.pow_succ]; ac_rfl]
      refine Nat.lt_of_lt_of_le (Nat.mul_lt_mul_of_pos_right l2 (two_pow_pos _)) ?_
      rw [← Nat.pow_add]
      refine Nat.pow_le_pow_right (by decide) ?_
      unfold rE at hge h1
      omega
     have hq2 := (div_lt_iff' hD0).1 hq
     have hup2 := up_le m neg (2 * N) D
     have hp1 := two_pow_pos (p - 1)
     refine ⟨fun _ => by omega, fun _ => ?_⟩
     unfold rOwn
     rcases len_free hp fb.1 fb.2 with ⟨_, h4⟩ | ⟨_, h4⟩ <;> rw [h4] <;> omega
  unfold refR roundC
  rw [if_neg hown, if_neg hinf, hn, hcode, hfc, hs0, Nat.pow_zero, Nat.mul_one, ht]
  by_cases h0 : N % D = 0
  ·rw [if_pos (hr.2 h0), if_pos h0]
  ·rw [if_neg (fun h => h0 (hr.1 h)), if_neg h0]
end FP
end Go.Proofs.YtngiodcdelfdmaaGreatDoor
namespace Go.Proofs.YtngiodcdelfdmaaGreatDoor
namespace FP
set_option linter.unusedVariables false
set_option linter.unusedSimpArgs false
def restX (Q : Nat) (n : Int) (more : Bool) : Nat :=
 if n ≤ 0 then more.toNat
 else if Q % 2 ^ n.toNat = 0 ∧ more = false then 0
 else if (lenN (Q % 2 ^ n.toNat) : Int) < n then 1
 else if more = false ∧ Q % 2 ^ n.toNat = 2 ^ (n.toNat - 1) then 2 else 3
def floorX (Q : Nat) (n : Int) : Nat := if n ≤ 0 then Q * 2 ^ (-n).toNat else Q / 2 ^ n.toNat
def cutX (m : Nat) (neg : Bool) (Q : Nat) (n : Int) (more : Bool) : Nat := floorX Q n + (!(Nat.beq (restX Q n more) 0) && nextN m neg (oddN (floorX Q n)) (restX Q n more)).toNat
theorem restX_false (Q : Nat) (n : Int) : restX Q n false = rRest Q n := by
 unfold restX rRest
 by_cases h : n ≤ 0
 ·rw [if_pos h, show n.toNat = 0 by omega, Nat.pow_zero]
  unfold restN; rw [Nat.mod_one, if_pos rfl]; rfl
 ·rw [if_neg h, show (-n).toNat = 0 by omega, Nat.pow_zero, Nat.mul_one]
  obtain ⟨k, hk⟩ : ∃ k, n.toNat = k + 1 := ⟨n.toNat - 1, by omega⟩
  have hn : n = ((k + 1 : Nat) : Int) := by omega
  subst hn
  rw [hk]
  unfold restN
  by_cases h0 : Q % 2 ^ (k + 1) = 0
  ·rw [if_pos ⟨h0, rfl⟩, if_pos h0]
  ·rw [if_neg (fun h => h0 h.1), if_neg h0]
   have hl := lenN_iff (n := Q % 2 ^ (k + 1)) (k := k)
   have e : (((lenN (Q % 2 ^ (k + 1)) : Nat) : Int) < ((k + 1 : Nat) : Int)) ↔ 2 * (Q % 2 ^ (k + 1)) < 2 ^ (k + 1) := by
    rw [Nat.pow_succ] at *
    constructor
    ·intro h2; have := hl.1 (by omega); omega
    ·intro h2; have := hl.2 (by omega); omega
   by_cases h1 : 2 * (Q % 2 ^ (k + 1)) < 2 ^ (k + 1)
   ·rw [if_pos (e.2 h1), if_pos h1]
   ·rw [if_neg (fun h2 => h1 (e.1 h2)), if_neg h1, Nat.add_sub_cancel]
    by_cases h2 : Q % 2 ^ (k + 1) = 2 ^ k
    ·rw [if_pos ⟨rfl, h2⟩, if_pos (by rw [h2, Nat.pow_succ]; omega)]
    ·rw [if_neg (fun h3 => h2 h3.2), if_neg (by rw [Nat.pow_succ] at *; omega)]
theorem cutX_false (m : Nat) (neg : Bool) (Q : Nat) (n : Int) : cutX m neg Q n false = rCut m neg Q n := by
 unfold cutX rCut rdiv upN
 rw [restX_false]
 have hf : floorX Q n = Q * 2 ^ (-n).toNat / 2 ^ n.toNat := by
  unfold floorX
  by_cases h : n ≤ 0
  ·rw [if_pos h, show n.toNat = 0 by omega, Nat.pow_zero, Nat.div_one]
  ·rw [if_neg h, show (-n).toNat = 0 by omega, Nat.pow_zero, Nat.mul_one]
 rw [hf]; rfl
def ownX (p m : Nat) (neg : Bool) (Q : Nat) (E : Int) (more : Bool) : Int := (lenN (cutX m neg Q ((lenN Q : Int) - p) more) : Int) - 1 + rE Q E - (p - 1)
def refX (p emax m : Nat) (after neg : Bool) (Q : Nat) (E : Int) (more : Bool) : Nat × Nat :=
 if ownX p m neg Q E more > emax then (overC p emax m neg, 20)
 else (rCode p emax (rUnit p emax Q E) (cutX m neg Q (rUnit p emax Q E - E) more), if restX Q (rUnit p emax Q E - E) more = 0 then 0 else if (if after then decide (ownX p m neg Q E more < 1 - emax) else decide (rE Q E < 1 - emax)) then 24 else 16)
theorem refX_false (p emax m : Nat) (after neg : Bool) (Q : Nat) (E : Int) : refX p emax m after neg Q E false = refR p emax m after neg Q E := by
 unfold refX refR ownX rOwn rTiny rOwn
 rw [cutX_false, cutX_false, restX_false]
theorem refX_ratio {p emax m : Nat} {after neg : Bool} {Q : Nat} {E : Int} {N D : Nat} (hp : 2 ≤ p) (he : 1 ≤ emax) (hQ : 0 < Q) (hD : 0 < D) (h : Q * 2 ^ (E - (2 - emax - p)).toNat * D = N * 2 ^ (-(E - (2 - emax - p))).toNat) :
  refX p emax m after neg Q E false = roundC p emax m after neg N D := by
 rw [refX_false, refR_eq hp he hQ]
 exact roundC_ratio hp (two_pow_pos _) hD h
def vM (f c : Nat) : Nat := if c / 2 ^ (fP f - 1) = 0 then c % 2 ^ (fP f - 1) else c % 2 ^ (fP f - 1) + 2 ^ (fP f - 1)
def vE (f c : Nat) : Int := if c / 2 ^ (fP f - 1) = 0 then 1 - (fE f : Int) - (fP f - 1) else ((c / 2 ^ (fP f - 1) : Nat) : Int) - fE f - (fP f - 1)
theorem vM_val {f : Nat} (hf : f < 4) (c : Nat) : 0 ≤ vE f c + fU f ∧ val f c = vM f c * 2 ^ (vE f c + fU f).toNat := by
 obtain ⟨n1, n2, n3, n4, n5, n6, n7, n8, n9⟩ := fmtN hf
 have hU : (fU f : Int) = fE f + fP f - 2 := by unfold fU; omega
 unfold vE vM
 by_cases h : c / 2 ^ (fP f - 1) = 0
 ·have hlt : c < 2 ^ (fP f - 1) := (Nat.div_eq_zero_iff.1 h).resolve_left (by have := two_pow_pos (fP f - 1); omega)
  obtain ⟨s1, s2⟩ := sub_code (f := f) hlt
  rw [if_pos h, if_pos h, Nat.mod_eq_of_lt hlt]
  refine ⟨by omega, ?_⟩
  unfold val cval
  rw [s1, s2]; congr 2; omega
 ·have hge : ¬ c < 2 ^ (fP f - 1) := fun h2 => h (Nat.div_eq_of_lt h2)
  obtain ⟨s1, s2⟩ := norm_code (f := f) hge
  rw [if_neg h, if_neg h]
  refine ⟨by omega, ?_⟩
  unfold val cval
  rw [s2, Nat.add_comm (2 ^ (fP f - 1))]; congr 2; omega
theorem vM_lt {f : Nat} (hf : f < 4) (c : Nat) : vM f c < 2 ^ fP f := by
 have hh := half_pow (fP_ge hf)
 have := Nat.mod_lt c (two_pow_pos (fP f - 1))
 unfold vM; split <;> omega
theorem vE_rng {f c : Nat} (hf : f < 4) (hc : c < inf f) : -17000 ≤ vE f c ∧ vE f c ≤ 17000 := by
 obtain ⟨n1, n2, n3, n4, n5, n6, n7, n8, n9⟩ := fmtN hf
 have h1 : c / 2 ^ (fP f - 1) < 2 * fE f + 1 := by
  rw [Nat.div_lt_iff_lt_mul (two_pow_pos _)]; exact hc
 unfold vE
 generalize c / 2 ^ (fP f - 1) = q at *
 split <;> omega
theorem fU_eq {f : Nat} (hf : f < 4) : ((2 : Int) - fE f - fP f) = -(fU f : Int) := by
 obtain ⟨n1, n2, n3, n4, n5, n6, n7, n8, n9⟩ := fmtN hf
 unfold fU; omega
theorem sgV_mul (s t : Bool) (A B k : Nat) (hk : 0 < k) : sgV s t (A * k) (B * k) = sgV s t A B * k ∧ sgS s t (A * k) (B * k) = sgS s t A B := by
 have h : A * k < B * k ↔ A < B := Nat.mul_lt_mul_right hk
 unfold sgV sgS
 by_cases h1 : s = t
 ·rw [if_pos h1, if_pos h1, if_pos h1, if_pos h1, Nat.add_mul]; exact ⟨rfl, rfl⟩
 ·rw [if_neg h1, if_neg h1, if_neg h1, if_neg h1]
  by_cases h2 : A < B
  ·rw [if_pos h2, if_pos (h.2 h2), if_pos h2, if_pos (h.2 h2), Nat.sub_mul]; exact ⟨rfl, rfl⟩
  ·rw [if_neg h2, if_neg (fun h3 => h2 (h.1 h3)), if_neg h2, if_neg (fun h3 => h2 (h.1 h3)), Nat.sub_mul]; exact ⟨rfl, rfl⟩
theorem ref_sum {p emax m : Nat} {after neg s t : Bool} {x y A B k : Nat} {e : Int} {D : Nat} (hp : 2 ≤ p) (he : 1 ≤ emax) (hx : A = x * 2 ^ k) (hy : B = y * 2 ^ k) (hD : 0 < D) (hk : ∃ j : Nat, D = 2 ^ j ∧ e - (2 - emax - p) = (k : Int) - j) (h0 : 0 < sgV s t x y) :
  refX p emax m after neg (sgV s t x y) e false = roundC p emax m after neg (sgV s t A B) D := by
 obtain ⟨j, rfl, hj⟩ := hk
 refine refX_ratio hp he h0 hD ?_
 rw [hj, hx, hy, (sgV_mul s t x y (2 ^ k) (two_pow_pos k)).1]
 refine pow_eq2 _ ?_
 omega
end FP
end Go.Proofs.YtngiodcdelfdmaaGreatDoor
namespace Go.Proofs.YtngiodcdelfdmaaGreatDoor
namespace FP
set_option linter.unusedVariables false
set_option linter.unusedSimpArgs false
theorem scale_to {M : Nat} {E e : Int} {u : Nat} (h : e ≤ E) (hu : 0 ≤ e + u) : M * 2 ^ (E + u).toNat = M * 2 ^ (E - e).toNat * 2 ^ (e + u).toNat := by
 rw [Nat.mul_assoc, ← Nat.pow_add]; congr 2; omega
def sumQ (s t : Bool) (M : Nat) (E : Int) (N : Nat) (F : Int) : Nat := sgV s t (M * 2 ^ (E - min E F).toNat) (N * 2 ^ (F - min E F).toNat)
def sumS (s t : Bool) (M : Nat) (E : Int) (N : Nat) (F : Int) : Bool := sgS s t (M * 2 ^ (E - min E F).toNat) (N * 2 ^ (F - min E F).toNat)
theorem ref_signed {f m : Nat} {after s t : Bool} {M N A B j : Nat} {E F : Int} (hf : f < 4) (u : Nat) (hu : u = fU f + j) (hE : 0 ≤ E + u) (hF : 0 ≤ F + u) (hA : A = M * 2 ^ (E + u).toNat) (hB : B = N * 2 ^ (F + u).toNat) :
  (sumQ s t M E N F = 0 ↔ sgV s t A B = 0) ∧ sumS s t M E N F = sgS s t A B ∧ (0 < sumQ s t M E N F → ∀ neg, refX (fP f) (fE f) m after neg (sumQ s t M E N F) (min E F) false = roundC (fP f) (fE f) m after neg (sgV s t A B) (2 ^ j)) := by
 have hm1 : min E F ≤ E := by omega
 have hm2 : min E F ≤ F := by omega
 have hm3 : 0 ≤ min E F + u := by omega
 have eA : A = M * 2 ^ (E - min E F).toNat * 2 ^ (min E F + u).toNat := by rw [hA]; exact scale_to hm1 hm3
 have eB : B = N * 2 ^ (F - min E F).toNat * 2 ^ (min E F + u).toNat := by rw [hB]; exact scale_to hm2 hm3
 obtain ⟨k1, k2⟩ := sgV_mul s t (M * 2 ^ (E - min E F).toNat) (N * 2 ^ (F - min E F).toNat) (2 ^ (min E F + u).toNat) (two_pow_pos _)
 rw [← eA, ← eB] at k1 k2
 refine ⟨?_, k2.symm, fun h0 neg => ?_⟩
 ·rw [k1]
  have := two_pow_pos (min E F + u).toNat
  constructor
  ·intro h; show sumQ s t M E N F * _ = 0; rw [h, Nat.zero_mul]
  ·intro h; exact (Nat.mul_eq_zero.1 h).resolve_right (by omega)
 ·exact ref_sum (fP_ge hf) (fE_ge hf) eA eB (two_pow_pos _) ⟨j, rfl, by rw [fU_eq hf]; omega⟩ h0
theorem ref_fma {f m : Nat} {after s t : Bool} {c d e : Nat} (hf : f < 4) :
  (sumQ s t (vM f c * vM f d) (vE f c + vE f d) (vM f e) (vE f e) = 0 ↔ sgV s t (val f c * val f d) (val f e * 2 ^ fU f) = 0) ∧ sumS s t (vM f c * vM f d) (vE f c + vE f d) (vM f e) (vE f e) = sgS s t (val f c * val f d) (val f e * 2 ^ fU f) ∧
  (0 < sumQ s t (vM f c * vM f d) (vE f c + vE f d) (vM f e) (vE f e) → ∀ neg, refX (fP f) (fE f) m after neg (sumQ s t (vM f c * vM f d) (vE f c + vE f d) (vM f e) (vE f e)) (min (vE f c + vE f d) (vE f e)) false = roundC (fP f) (fE f) m after neg (sgV s t (val f c * val f d) (val f e * 2 ^ fU f)) (2 ^ fU f)) := by
 obtain ⟨v1, v2⟩ := vM_val hf c
 obtain ⟨w1, w2⟩ := vM_val hf d
 obtain ⟨x1, x2⟩ := vM_val hf e
 refine ref_signed (j := fU f) hf (fU f + fU f) rfl (by omega) (by omega) ?_ ?_
 ·rw [v2, w2, show vM f c * 2 ^ (vE f c + fU f).toNat * (vM f d * 2 ^ (vE f d + fU f).toNat) = vM f c * vM f d * (2 ^ (vE f c + fU f).toNat * 2 ^ (vE f d + fU f).toNat) by ac_rfl, ← Nat.pow_add]
  congr 2; omega
 ·rw [x2, Nat.mul_assoc, ← Nat.pow_add]; congr 2; omega
end FP
end Go.Proofs.YtngiodcdelfdmaaGreatDoor
namespace Go.Proofs.YtngiodcdelfdmaaGreatDoor
namespace FP
set_option linter.unusedVariables false
set_option linter.unusedSimpArgs false
end FP
end Go.Proofs.YtngiodcdelfdmaaGreatDoor
