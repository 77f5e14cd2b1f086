import Derived.Test.YtngiodcdelfdmaaGreatDoorZGR9
namespace Go.Proofs.YtngiodcdelfdmaaGreatDoor.FP
set_option linter.unusedVariables false
set_option linter.unusedSimpArgs false
theorem cross_eq {N1 D1 N2 D2 : Nat} (h1 : 0 < D1) (h2 : 0 < D2) (h : N1 * D2 = N2 * D1) : N1 / D1 = N2 / D2 ∧ (N1 % D1 = 0 ↔ N2 % D2 = 0) := by
 obtain ⟨a1, a2⟩ := divmod_mono h1 h2 (Nat.le_of_eq h)
 obtain ⟨b1, b2⟩ := divmod_mono h2 h1 (Nat.le_of_eq h.symm)
 have hq := Nat.le_antisymm a1 b1
 have c1 := a2 hq
 have c2 := b2 hq.symm
 refine ⟨hq, fun hz => ?_, fun hz => ?_⟩
 ·rw [hz, Nat.zero_mul] at c2
  rcases Nat.mul_eq_zero.1 (Nat.le_zero.1 c2) with h | h
  ·exact h
  ·omega
 ·rw [hz, Nat.zero_mul] at c1
  rcases Nat.mul_eq_zero.1 (Nat.le_zero.1 c1) with h | h
  ·exact h
  ·omega
def divC (f m : Nat) (after neg : Bool) (c d : Nat) : Nat × Nat := roundC (fP f) (fE f) m after neg (val f c * 2 ^ fU f) (val f d)
theorem round_div {f m : Nat} {after neg : Bool} {c d n : Nat} (hf : f < 4) (h0 : 0 < c) (h1 : c < inf f) (h2 : 0 < d) (h3 : d < inf f)
  (hn : n / 2 ^ 100 = unSig f c * 2 ^ 128 / unSig f d) (hz : n % 2 ^ 100 = 0 ↔ unSig f c * 2 ^ 128 % unSig f d = 0) :
  roundE (fP f) (fE f) m after neg (unExp f c - unExp f d + 27) n = divC f m after neg c d := by
 have hv := un_val hf h0 h1
 have hw := un_val hf h2 h3
 have hr := un_exp hf h1
 have hr2 := un_exp hf h3
 obtain ⟨s1, s2⟩ := un_sig hf h0 h1
 obtain ⟨t1, t2⟩ := un_sig hf h2 h3
 obtain ⟨n1, n2, n3, n4, n5, n6, n7, n8, n9⟩ := fmtN hf
 have dpos : 0 < val f d := cval_pos (fP_ge hf) h2
 have zpos : 0 < unSig f d := Nat.lt_of_lt_of_le (two_pow_pos 127) t1
 unfold roundE divC
 generalize unExp f c = e at *
 generalize unExp f d = g at *
 generalize unSig f c = x at *
 generalize unSig f d = y at *
 generalize val f c = C at *
 generalize val f d = D at *
 have key : C * 2 ^ fU f * 2 ^ (128 - e + g - fU f : Int).toNat * y = x * 2 ^ 128 * (D * 2 ^ (e - g - 128 + fU f : Int).toNat) := by
  apply Nat.eq_of_mul_eq_mul_right (Nat.mul_pos (two_pow_pos (127 - e - fU f : Int).toNat) (two_pow_pos (g - 127 + fU f : Int).toNat))
  rw [show C * 2 ^ fU f * 2 ^ (128 - e + g - fU f : Int).toNat * y * (2 ^ (127 - e - fU f : Int).toNat * 2 ^ (g - 127 + fU f : Int).toNat) = C * 2 ^ (127 - e - fU f : Int).toNat * (y * 2 ^ (g - 127 + fU f : Int).toNat) * (2 ^ fU f * 2 ^ (128 - e + g - fU f : Int).toNat) by ac_rfl, ← hv, hw]
  rw [show x * 2 ^ (e - 127 + fU f : Int).toNat * (D * 2 ^ (127 - g - fU f : Int).toNat) * (2 ^ fU f * 2 ^ (128 - e + g - fU f : Int).toNat) = x * D * (2 ^ (e - 127 + fU f : Int).toNat * 2 ^ (127 - g - fU f : Int).toNat * 2 ^ fU f * 2 ^ (128 - e + g - fU f : Int).toNat) by ac_rfl]
  rw [show x * 2 ^ 128 * (D * 2 ^ (e - g - 128 + fU f : Int).toNat) * (2 ^ (127 - e - fU f : Int).toNat * 2 ^ (g - 127 + fU f : Int).toNat) = x * D * (2 ^ 128 * 2 ^ (e - g - 128 + fU f : Int).toNat * 2 ^ (127 - e - fU f : Int).toNat * 2 ^ (g - 127 + fU f : Int).toNat) by ac_rfl]
  rw [← Nat.pow_add, ← Nat.pow_add, ← Nat.pow_add, ← Nat.pow_add, ← Nat.pow_add, ← Nat.pow_add]
  congr 2
  omega
 have gpos : 0 < D * 2 ^ (e - g - 128 + fU f : Int).toNat := Nat.mul_pos dpos (two_pow_pos _)
 obtain ⟨k1, k2⟩ := cross_eq gpos zpos key
 have scale : roundC (fP f) (fE f) m after neg (C * 2 ^ fU f) D = roundC (fP f) (fE f) m after neg (C * 2 ^ fU f * 2 ^ (128 - e + g - fU f : Int).toNat) (D * 2 ^ (128 - e + g - fU f : Int).toNat) :=
  roundC_ratio n1 dpos (Nat.mul_pos dpos (two_pow_pos _)) (by ac_rfl)
 rw [scale]
 have q1 : n * 2 ^ (e - g + 27 - 255 + fE f + fP f - 2 : Int).toNat / 2 ^ (100 + (e - g + 27 - 255 + fE f + fP f - 2 : Int).toNat) = n / 2 ^ 100 := by
  rw [Nat.pow_add, Nat.mul_div_mul_right _ _ (two_pow_pos _)]
 have q2 : n * 2 ^ (e - g + 27 - 255 + fE f + fP f - 2 : Int).toNat % 2 ^ (100 + (e - g + 27 - 255 + fE f + fP f - 2 : Int).toNat) = 0 ↔ n % 2 ^ 100 = 0 := by
  rw [Nat.pow_add, Nat.mul_mod_mul_right]
  have := two_pow_pos (e - g + 27 - 255 + fE f + fP f - 2 : Int).toNat
  constructor
  ·intro h
   rcases Nat.mul_eq_zero.1 h with h | h
   ·exact h
   ·omega
  ·intro h; rw [h, Nat.zero_mul]
 refine roundC_agree (G1 := 2 ^ (100 + (e - g + 27 - 255 + fE f + fP f - 2 : Int).toNat)) (G2 := D * 2 ^ (e - g - 128 + fU f : Int).toNat) (a := (e - g - 128 + fU f : Int).toNat) (b := (128 - e + g - fU f : Int).toNat) n1 (two_pow_pos _) (Nat.mul_pos dpos (two_pow_pos _)) (two_pow_pos _) gpos ?_ (by ac_rfl) ?_ ?_ ?_
 ·rw [← Nat.pow_add, ← Nat.pow_add]
  congr 1
  unfold fU at *
  omega
 ·rw [q1, hn, k1]
 ·rw [q2, hz, k2]
 ·rw [q1, hn, Nat.le_div_iff_mul_le zpos]
  have p1 : 2 ^ (fP f + 1) ≤ 2 ^ 127 := Nat.pow_le_pow_right (by decide) (by omega)
  have p2 : 2 ^ (fP f + 1) * y ≤ 2 ^ 127 * 2 ^ 128 := Nat.mul_le_mul p1 (Nat.le_of_lt t2)
  exact Nat.le_trans p2 (Nat.mul_le_mul_right _ s1)
def isqGo (n : Nat) : Nat → Nat → Nat
 | 0, r => r
 | k + 1, r => isqGo n k (if (r + 2 ^ k) * (r + 2 ^ k) ≤ n then r + 2 ^ k else r)
def isq (n : Nat) : Nat := isqGo n 128 0
theorem isqGo_spec (n : Nat) : ∀ (k r : Nat), r * r ≤ n → n < (r + 2 ^ k) * (r + 2 ^ k) → isqGo n k r * isqGo n k r ≤ n ∧ n < (isqGo n k r + 1) * (isqGo n k r + 1)
 | 0, r, h1, h2 => ⟨h1, h2⟩
 | k + 1, r, h1, h2 => by
  unfold isqGo
  split
  ·rename_i h
   refine isqGo_spec n k _ h ?_
   rw [Nat.add_assoc, ← Nat.mul_two, ← Nat.pow_succ]; exact h2
  ·rename_i h
   exact isqGo_spec n k _ h1 (by omega)
theorem isq_spec {n : Nat} (h : n < 2 ^ 256) : isq n * isq n ≤ n ∧ n < (isq n + 1) * (isq n + 1) :=
 isqGo_spec n 128 0 (Nat.zero_le _) (by rw [Nat.zero_add, ← Nat.pow_add]; exact h)
theorem sq_le {a b : Nat} (h : a * a < b * b) : a < b := by
 apply Nat.lt_of_not_le; intro hle
 have := Nat.mul_le_mul hle hle
 omega
theorem isq_lt {n : Nat} (h : n < 2 ^ 256) : isq n < 2 ^ 128 := by
 apply sq_le
 rw [← Nat.pow_add]
 exact Nat.lt_of_le_of_lt (isq_spec h).1 h
theorem isq_ge {n k : Nat} (h : n < 2 ^ 256) (h2 : 2 ^ (2 * k) ≤ n) : 2 ^ k ≤ isq n := by
 apply Nat.le_of_lt_succ
 apply sq_le
 refine Nat.lt_of_le_of_lt ?_ (isq_spec h).2
 rw [← Nat.pow_add, show k + k = 2 * k by omega]; exact h2
def jamR (n : Nat) : Nat := isq n * 2 ^ 100 + if isq n * isq n = n then 0 else 1
theorem jamR_lt {n : Nat} (h : n < 2 ^ 256) : jamR n < 2 ^ 228 := by
 have := Nat.mul_le_mul_right (2 ^ 100) (isq_lt h)
 rw [← Nat.pow_add, Nat.succ_mul, show (2 : Nat) ^ (128 + 100) = 2 ^ 228 from rfl] at this
 unfold jamR
 have p : (1 : Nat) < 2 ^ 100 := by decide
 generalize (2 : Nat) ^ 100 = P at *
 generalize (2 : Nat) ^ 228 = Q at *
 split <;> omega
theorem jamR_ge {n : Nat} (h : n < 2 ^ 256) (h2 : 2 ^ 254 ≤ n) : 2 ^ 227 ≤ jamR n := by
 have := Nat.mul_le_mul_right (2 ^ 100) (isq_ge (k := 127) h h2)
 rw [← Nat.pow_add, show (2 : Nat) ^ (127 + 100) = 2 ^ 227 from rfl] at this
 unfold jamR
 exact Nat.le_trans this (Nat.le_add_right _ _)
def sqN (f c : Nat) : Nat := if (unExp f c - 255) % 2 = 0 then unSig f c * 2 ^ 128 else unSig f c * 2 ^ 127
def sqX (f c : Nat) : Int := if (unExp f c - 255) % 2 = 0 then (unExp f c - 255) / 2 else (unExp f c - 254) / 2
def sqrtC (f m : Nat) (after : Bool) (c : Nat) : Nat × Nat := roundE (fP f) (fE f) m after false (sqX f c + 155) (jamR (sqN f c))
theorem sqN_rng {f c : Nat} (hf : f < 4) (h0 : 0 < c) (h1 : c < inf f) : 2 ^ 254 ≤ sqN f c ∧ sqN f c < 2 ^ 256 := by
 obtain ⟨s1, s2⟩ := un_sig hf h0 h1
 unfold sqN
 generalize unSig f c = x at *
 have a1 := Nat.mul_le_mul_right (2 ^ 127) s1
 have a2 := Nat.mul_lt_mul_of_pos_right s2 (two_pow_pos 127)
 have a3 : x * 2 ^ 128 = x * 2 ^ 127 * 2 := by rw [Nat.mul_assoc]
 rw [← Nat.pow_add] at a1 a2
 split
 ·constructor
  ·rw [a3]; omega
  ·rw [a3, show (256 : Nat) = 255 + 1 from rfl, Nat.pow_succ]; omega
 ·exact ⟨a1, Nat.lt_trans a2 (by decide)⟩
theorem roundE_jam {p emax m : Nat} {after neg : Bool} {e : Int} {j L M : Nat} (hp : 2 ≤ p) (hq : L / 2 = M / 2 ^ (j + 1)) (hz : L % 2 = 0 ↔ M % 2 ^ (j + 1) = 0) (hbig : 2 ^ (p + 1) ≤ L / 2) :
  roundE p emax m after neg (e + j) L = roundE p emax m after neg e M := by
 unfold roundE
 obtain ⟨P1, hP1⟩ : ∃ k, (e + j - 255 + emax + p - 2 : Int).toNat = k := ⟨_, rfl⟩
 obtain ⟨Q1, hQ1⟩ : ∃ k, (255 + 2 - (e + j) - emax - p : Int).toNat = k := ⟨_, rfl⟩
 obtain ⟨P2, hP2⟩ : ∃ k, (e - 255 + emax + p - 2 : Int).toNat = k := ⟨_, rfl⟩
 obtain ⟨Q2, hQ2⟩ : ∃ k, (255 + 2 - e - emax - p : Int).toNat = k := ⟨_, rfl⟩
 rw [hP1, hQ1, hP2, hQ2]
 have div1 : ∀ (x k P : Nat), x * 2 ^ P / 2 ^ (k + P) = x / 2 ^ k := fun x k P => by rw [Nat.pow_add, Nat.mul_div_mul_right _ _ (two_pow_pos _)]
 have mod1 : ∀ (x k P : Nat), x * 2 ^ P % 2 ^ (k + P) = 0 ↔ x % 2 ^ k = 0 := fun x k P => by
  rw [Nat.pow_add, Nat.mul_mod_mul_right]
  have := two_pow_pos P
  constructor
  ·intro h
   rcases Nat.mul_eq_zero.1 h with h | h
   ·exact h
   ·omega
  ·intro h; rw [h, Nat.zero_mul]
 refine roundC_agree (G1 := 2 ^ (1 + P1)) (G2 := 2 ^ (j + 1 + P2)) (a := (e + j - 255 + emax + p - 1 : Int).toNat) (b := (255 + 1 - (e + j) - emax - p : Int).toNat) hp (two_pow_pos _) (two_pow_pos _) (two_pow_pos _) (two_pow_pos _) ?_ ?_ ?_ ?_ ?_
 ·rw [← Nat.pow_add, ← Nat.pow_add]; congr 1; omega
 ·rw [← Nat.pow_add, ← Nat.pow_add]; congr 1; omega
 ·rw [div1, div1, Nat.pow_one]; exact hq
 ·rw [mod1, mod1, Nat.pow_one]; exact hz
 ·rw [div1, Nat.pow_one]; exact hbig
theorem roundE_shift {p emax m : Nat} {after neg : Bool} {e : Int} {j L : Nat} (hp : 2 ≤ p) :
  roundE p emax m after neg (e + j) L = roundE p emax m after neg e (L * 2 ^ j) := by
 unfold roundE
 apply roundC_ratio hp (two_pow_pos _) (two_pow_pos _)
 rw [Nat.mul_assoc L, ← Nat.pow_add, Nat.mul_assoc, Nat.mul_assoc, ← Nat.pow_add, ← Nat.pow_add]
 congr 2
 omega
def okT (s : Nat) : Prop := s % 2 ^ 30 = 0 ∧ (s = 0 ∨ 2 ^ 253 ≤ s) ∧ s < 2 ^ 256
theorem mod_low {s k n : Nat} (h : s % 2 ^ n = 0) (hk : k ≤ n) : s % 2 ^ k = 0 := by
 have e : s % 2 ^ n % 2 ^ k = s % 2 ^ k := Nat.mod_mod_of_dvd s (Nat.pow_dvd_pow 2 hk)
 rw [h, Nat.zero_mod] at e; exact e.symm
theorem jam_exact {s j : Nat} (h : s % 2 ^ j = 0) : jam s j = s / 2 ^ j := by unfold jam; rw [if_pos h]
theorem jam_zero (j : Nat) : jam 0 j = 0 := by unfold jam; simp
theorem sumE {p emax m : Nat} {after neg : Bool} {e : Int} {d s t : Nat} (hp : 2 ≤ p) (hp2 : p ≤ 240) (hs : okT s) (hs0 : s ≠ 0) :
  roundE p emax m after neg (e + (d + 1 : Nat)) (jam s 1 + jam t (d + 1)) = roundE p emax m after neg e (s * 2 ^ d + t) := by
 obtain ⟨h1, h2, h3⟩ := hs
 have h4 : s % 4 = 0 := mod_low (k := 2) h1 (by decide)
 obtain ⟨q, rfl⟩ : ∃ q, s = 4 * q := ⟨s / 4, by omega⟩
 have hj : jam (4 * q) 1 = 2 * q := by rw [jam_exact (by omega)]; omega
 obtain ⟨g1, g2⟩ := jam_half t (d + 1)
 rw [hj]
 generalize jam t (d + 1) = J at *
 have hpow : 2 ^ (d + 1 + 1) = 4 * 2 ^ d := by rw [Nat.pow_succ, Nat.pow_succ]; omega
 have hM : 4 * q * 2 ^ d + t = 2 ^ (d + 1 + 1) * q + t := by
  rw [hpow, Nat.mul_right_comm]
 refine roundE_jam hp ?_ ?_ ?_
 ·rw [hM, Nat.mul_add_div (two_pow_pos _), ← g1]; omega
 ·rw [hM, Nat.mul_add_mod, Nat.mul_add_mod]; exact g2
 ·have : 2 ^ (p + 1) ≤ 2 ^ 251 := Nat.pow_le_pow_right (by decide) (by omega)
  have : 2 ^ 253 = 4 * 2 ^ 251 := by decide
  omega
theorem diffE {p emax m : Nat} {after neg : Bool} {e : Int} {d s t : Nat} (hp : 2 ≤ p) (hp2 : p ≤ 240) (hs : okT s) (ht : okT t) (hs0 : s ≠ 0) (hle : t ≤ s * 2 ^ d) :
  roundE p emax m after neg (e + d) (s - jam t d) = roundE p emax m after neg e (s * 2 ^ d - t) := by
 by_cases hx : t % 2 ^ d = 0
 ·rw [jam_exact hx, roundE_shift hp]
  congr 1
  rw [Nat.sub_mul, Nat.div_mul_cancel (Nat.dvd_of_mod_eq_zero hx)]
 obtain ⟨h1, h2, h3⟩ := hs
 obtain ⟨k1, k2, k3⟩ := ht
 have hd : 30 < d := by
  apply Nat.lt_of_not_le; intro h
  exact hx (mod_low k1 h)
 have h4 : s % 4 = 0 := mod_low (k := 2) h1 (by decide)
 obtain ⟨q, rfl⟩ : ∃ q, s = 4 * q := ⟨s / 4, by omega⟩
 have hj : jam t d = 2 * (t / 2 ^ (d + 1)) + 1 := by
  unfold jam; rw [if_neg hx, Nat.div_div_eq_div_mul, ← Nat.pow_succ, Nat.mul_comm 2]
 have hsmall : t / 2 ^ (d + 1) < 2 ^ 225 := by
  rw [Nat.div_lt_iff_lt_mul (two_pow_pos _), ← Nat.pow_add]
  exact Nat.lt_of_lt_of_le k3 (Nat.pow_le_pow_right (by decide) (by omega))
 have hx2 : t % 2 ^ (d + 1) ≠ 0 := fun h => hx (mod_low h (by omega))
 have hdm := Nat.div_add_mod t (2 ^ (d + 1))
 have hml := Nat.mod_lt t (two_pow_pos (d + 1))
 rw [hj]
 generalize t / 2 ^ (d + 1) = u at *
 generalize t % 2 ^ (d + 1) = r at *
 have big : 2 ^ 253 ≤ 4 * q := by omega
 have c1 : 2 ^ 253 = 2 ^ 225 * 2 ^ 28 := by rw [← Nat.pow_add]
 have c2 : 2 ^ 251 = 2 ^ 225 * 2 ^ 26 := by rw [← Nat.pow_add]
 have hM : 4 * q * 2 ^ d - t = 2 ^ (d + 1) * (2 * q - u - 1) + (2 ^ (d + 1) - r) := by
  have e1 : 4 * q * 2 ^ d = 2 ^ (d + 1) * (2 * q) := by
   rw [Nat.pow_succ, show 4 * q = 2 * (2 * q) by omega]; ac_rfl
  have e2 : 2 ^ (d + 1) * (2 * q) = 2 ^ (d + 1) * (2 * q - u - 1) + 2 ^ (d + 1) * u + 2 ^ (d + 1) := by
   rw [← Nat.mul_add, ← Nat.mul_succ]; congr 1; omega
  omega
 have hl : 2 ^ (d + 1) - r < 2 ^ (d + 1) := Nat.sub_lt (two_pow_pos _) (by omega)
 have hl0 : 2 ^ (d + 1) - r ≠ 0 := by omega
 refine roundE_jam hp ?_ ?_ ?_
 ·rw [hM, Nat.mul_add_div (two_pow_pos _), Nat.div_eq_of_lt hl]; omega
 ·rw [hM, Nat.mul_add_mod, Nat.mod_eq_of_lt hl]
  constructor
  ·intro h; omega
  ·intro h; exact absurd h hl0
 ·have : 2 ^ (p + 1) ≤ 2 ^ 241 := Nat.pow_le_pow_right (by decide) (by omega)
  have : 2 ^ 241 = 2 ^ 225 * 2 ^ 16 := by rw [← Nat.pow_add]
  omega
def lvl (ea : Int) (sa : Nat) (eb : Int) (sb : Nat) : Int := if sa = 0 ∧ sb ≠ 0 then eb else if sb = 0 ∧ sa ≠ 0 then ea else max ea eb
def sumT (ea : Int) (sa : Nat) (eb : Int) (sb : Nat) : Int × Nat :=
 (lvl ea sa eb sb + 1, jam sa (lvl ea sa eb sb + 1 - ea).toNat + jam sb (lvl ea sa eb sb + 1 - eb).toNat)
def difT (ea : Int) (sa : Nat) (eb : Int) (sb : Nat) : Int × Nat :=
 (lvl ea sa eb sb, jam sa (lvl ea sa eb sb - ea).toNat - jam sb (lvl ea sa eb sb - eb).toNat)
def cmpT (ea : Int) (sa : Nat) (eb : Int) (sb : Nat) : Int :=
 if sa / 2 ^ (max ea eb - ea).toNat < sb / 2 ^ (max ea eb - eb).toNat then -1
 else if sb / 2 ^ (max ea eb - eb).toNat < sa / 2 ^ (max ea eb - ea).toNat then 1
 else if sa % 2 ^ (max ea eb - ea).toNat ≠ 0 then 1 else if sb % 2 ^ (max ea eb - eb).toNat ≠ 0 then -1 else 0
theorem jam0 (s : Nat) : jam s 0 = s := by unfold jam; rw [Nat.pow_zero, Nat.mod_one, if_pos rfl, Nat.div_one]
theorem roundE_zero {p emax m : Nat} {after neg : Bool} {e : Int} : roundE p emax m after neg e 0 = (0, 0) := by unfold roundE; rw [Nat.zero_mul, roundC_zero]
theorem roundE_low {p emax m : Nat} {after neg : Bool} {e L : Int} {s : Nat} (hp : 2 ≤ p) (h : L ≤ e) : roundE p emax m after neg e s = roundE p emax m after neg L (s * 2 ^ (e - L).toNat) := by
 have := roundE_shift (p := p) (emax := emax) (m := m) (after := after) (neg := neg) (e := L) (j := (e - L).toNat) (L := s) hp
 rw [← this]; congr 1; omega
theorem pow_split {a b L : Int} (h1 : b ≤ a) (h2 : L ≤ b) : 2 ^ (a - b).toNat * 2 ^ (b - L).toNat = 2 ^ (a - L).toNat := by rw [← Nat.pow_add]; congr 1; omega
theorem sum_round {p emax m : Nat} {after neg : Bool} {ea eb L : Int} {sa sb : Nat} (hp : 2 ≤ p) (hp2 : p ≤ 240) (ha : okT sa) (hb : okT sb) (hLa : L ≤ ea) (hLb : L ≤ eb) :
  roundE p emax m after neg (sumT ea sa eb sb).1 (sumT ea sa eb sb).2 = roundE p emax m after neg L (sa * 2 ^ (ea - L).toNat + sb * 2 ^ (eb - L).toNat) := by
 unfold sumT
 simp only []
 by_cases za : sa = 0
 ·subst za
  by_cases zb : sb = 0
  ·subst zb
   rw [jam_zero, jam_zero, Nat.zero_mul, Nat.zero_mul, Nat.add_zero, roundE_zero, roundE_zero]
  ·have hl : lvl ea 0 eb sb = eb := by unfold lvl; rw [if_pos ⟨rfl, zb⟩]
   have := sumE (p := p) (emax := emax) (m := m) (after := after) (neg := neg) (e := eb) (d := 0) (s := sb) (t := 0) hp hp2 hb zb
   rw [jam_zero, Nat.pow_zero, Nat.mul_one] at this
   rw [hl, jam_zero, Nat.zero_mul, Nat.zero_add, Nat.zero_add, ← roundE_low hp hLb, show (eb + 1 - eb).toNat = 1 by omega]
   exact this
 ·by_cases zb : sb = 0
  ·subst zb
   have hl : lvl ea sa eb 0 = ea := by unfold lvl; rw [if_neg (fun h => h.2 rfl), if_pos ⟨rfl, za⟩]
   have := sumE (p := p) (emax := emax) (m := m) (after := after) (neg := neg) (e := ea) (d := 0) (s := sa) (t := 0) hp hp2 ha za
   rw [jam_zero, Nat.pow_zero, Nat.mul_one] at this
   rw [hl, jam_zero, Nat.zero_mul, Nat.add_zero, Nat.add_zero, ← roundE_low hp hLa, show (ea + 1 - ea).toNat = 1 by omega]
   exact this
  ·have hl : lvl ea sa eb sb = max ea eb := by unfold lvl; rw [if_neg (fun h => za h.1), if_neg (fun h => zb h.1)]
   rw [hl]
   by_cases hle : eb ≤ ea
   ·have := sumE (p := p) (emax := emax) (m := m) (after := after) (neg := neg) (e := eb) (d := (ea - eb).toNat) (s := sa) (t := sb) hp hp2 ha za
    rw [show (max ea eb + 1 - ea).toNat = 1 by omega, show (max ea eb + 1 - eb).toNat = (ea - eb).toNat + 1 by omega, show max ea eb + 1 = eb + (((ea - eb).toNat + 1 : Nat) : Int) by omega, this, roundE_low hp hLb, Nat.add_mul, Nat.mul_assoc, pow_split hle hLb]
   ·have := sumE (p := p) (emax := emax) (m := m) (after := after) (neg := neg) (e := ea) (d := (eb - ea).toNat) (s := sb) (t := sa) hp hp2 hb zb
    rw [show (max ea eb + 1 - eb).toNat = 1 by omega, show (max ea eb + 1 - ea).toNat = (eb - ea).toNat + 1 by omega, show max ea eb + 1 = ea + (((eb - ea).toNat + 1 : Nat) : Int) by omega, Nat.add_comm (jam sa _), this, roundE_low hp hLa, Nat.add_mul, Nat.mul_assoc, pow_split (by omega) hLa, Nat.add_comm]
theorem dif_round {p emax m : Nat} {after neg : Bool} {ea eb L : Int} {sa sb : Nat} (hp : 2 ≤ p) (hp2 : p ≤ 240) (ha : okT sa) (hb : okT sb) (hLa : L ≤ ea) (hLb : L ≤ eb) (hle : sb * 2 ^ (eb - L).toNat ≤ sa * 2 ^ (ea - L).toNat) :
  roundE p emax m after neg (difT ea sa eb sb).1 (difT ea sa eb sb).2 = roundE p emax m after neg L (sa * 2 ^ (ea - L).toNat - sb * 2 ^ (eb - L).toNat) := by
 unfold difT
 simp only []
 by_cases zb : sb = 0
 ·subst zb
  by_cases za : sa = 0
  ·subst za
   rw [jam_zero, jam_zero, Nat.zero_mul, Nat.zero_mul, Nat.sub_zero, roundE_zero, roundE_zero]
  ·have hl : lvl ea sa eb 0 = ea := by unfold lvl; rw [if_neg (fun h => h.2 rfl), if_pos ⟨rfl, za⟩]
   rw [hl, jam_zero, Nat.zero_mul, Nat.sub_zero, Nat.sub_zero, ← roundE_low hp hLa, show (ea - ea).toNat = 0 by omega, jam0]
 ·have za : sa ≠ 0 := by
   intro za; subst za
   rw [Nat.zero_mul] at hle
   have := Nat.mul_pos (Nat.pos_of_ne_zero zb) (two_pow_pos (eb - L).toNat)
   omega
  have hl : lvl ea sa eb sb = max ea eb := by unfold lvl; rw [if_neg (fun h => za h.1), if_neg (fun h => zb h.1)]
  rw [hl]
  by_cases hee : eb ≤ ea
  ·have hle2 : sb ≤ sa * 2 ^ (ea - eb).toNat := by
    rw [← pow_split hee hLb, ← Nat.mul_assoc] at hle
    exact Nat.le_of_mul_le_mul_right hle (two_pow_pos _)
   have := diffE (p := p) (emax := emax) (m := m) (after := after) (neg := neg) (e := eb) (d := (ea - eb).toNat) (s := sa) (t := sb) hp hp2 ha hb za hle2
   rw [show (max ea eb - ea).toNat = 0 by omega, jam0, show (max ea eb - eb).toNat = (ea - eb).toNat by omega, show max ea eb = eb + ((ea - eb).toNat : Int) by omega, this, roundE_low hp hLb, Nat.sub_mul, Nat.mul_assoc, pow_split hee hLb]
  ·have hle2 : sb * 2 ^ (eb - ea).toNat ≤ sa := by
    rw [← pow_split (show ea ≤ eb by omega) hLa, ← Nat.mul_assoc] at hle
    exact Nat.le_of_mul_le_mul_right hle (two_pow_pos _)
   have hd : (eb - ea).toNat ≤ 2 := by
    apply Nat.le_of_not_lt; intro h
    have h1 : 2 ^ 253 * 2 ^ 3 ≤ sb * 2 ^ (eb - ea).toNat := Nat.mul_le_mul (hb.2.1.resolve_left zb) (Nat.pow_le_pow_right (by decide) h)
    have h2 := ha.2.2
    rw [← Nat.pow_add] at h1
    exact absurd (Nat.lt_of_le_of_lt (Nat.le_trans h1 hle2) h2) (by decide)
   have hx : sa % 2 ^ (eb - ea).toNat = 0 := mod_low ha.1 (by omega)
   rw [show (max ea eb - eb).toNat = 0 by omega, jam0, show (max ea eb - ea).toNat = (eb - ea).toNat by omega, jam_exact hx, show max ea eb = eb by omega]
   rw [roundE_low hp hLb, Nat.sub_mul]
   congr 2
   rw [← pow_split (show ea ≤ eb by omega) hLa, ← Nat.mul_assoc, Nat.div_mul_cancel (Nat.dvd_of_mod_eq_zero hx)]
theorem cmp_key {x y d : Nat} : (x < y / 2 ^ d ∨ (x = y / 2 ^ d ∧ y % 2 ^ d ≠ 0)) ↔ x * 2 ^ d < y := by
 have h1 := Nat.div_add_mod y (2 ^ d)
 have h2 := Nat.mod_lt y (two_pow_pos d)
 rw [Nat.mul_comm] at h1
 generalize y / 2 ^ d = q at *
 generalize y % 2 ^ d = r at *
 generalize 2 ^ d = D at *
 constructor
 ·rintro (h | ⟨rfl, h⟩)
  ·have := Nat.mul_le_mul_right D h
   rw [Nat.succ_mul] at this; omega
  ·omega
 ·intro h
  rcases Nat.lt_trichotomy x q with hl | he | hg
  ·exact .inl hl
  ·subst he; exact .inr ⟨rfl, by omega⟩
  ·have := Nat.mul_le_mul_right D hg
   rw [Nat.succ_mul] at this; omega
theorem cmp_key2 {x y d : Nat} : y / 2 ^ d < x ↔ y < x * 2 ^ d := Nat.div_lt_iff_lt_mul (two_pow_pos d)
theorem cmpT_lt {ea eb L : Int} {sa sb : Nat} (hLa : L ≤ ea) (hLb : L ≤ eb) : cmpT ea sa eb sb < 0 ↔ sa * 2 ^ (ea - L).toNat < sb * 2 ^ (eb - L).toNat := by
 unfold cmpT
 by_cases hle : eb ≤ ea
 ·rw [show (max ea eb - ea).toNat = 0 by omega, show (max ea eb - eb).toNat = (ea - eb).toNat by omega, Nat.pow_zero, Nat.div_one, Nat.mod_one, ← pow_split hle hLb, ← Nat.mul_assoc]
  rw [show (sa * 2 ^ (ea - eb).toNat * 2 ^ (eb - L).toNat < sb * 2 ^ (eb - L).toNat) ↔ sa * 2 ^ (ea - eb).toNat < sb from Nat.mul_lt_mul_right (two_pow_pos _), ← cmp_key]
  split
  ·rename_i h; exact ⟨fun _ => .inl h, fun _ => by omega⟩
  ·rename_i h
   split
   ·rename_i h2; exact ⟨fun h3 => by omega, fun h3 => by omega⟩
   ·rename_i h2
    rw [if_neg (by omega)]
    split
    ·rename_i h3; exact ⟨fun _ => .inr ⟨by omega, h3⟩, fun _ => by omega⟩
    ·rename_i h3; exact ⟨fun h4 => by omega, fun h4 => by omega⟩
 ·rw [show (max ea eb - eb).toNat = 0 by omega, show (max ea eb - ea).toNat = (eb - ea).toNat by omega, Nat.pow_zero, Nat.div_one, Nat.mod_one, ← pow_split (show ea ≤ eb by omega) hLa, ← Nat.mul_assoc]
  rw [show (sa * 2 ^ (ea - L).toNat < sb * 2 ^ (eb - ea).toNat * 2 ^ (ea - L).toNat) ↔ sa < sb * 2 ^ (eb - ea).toNat from Nat.mul_lt_mul_right (two_pow_pos _), ← cmp_key2]
  split
  ·rename_i h; exact ⟨fun _ => h, fun _ => by omega⟩
  ·rename_i h
   split
   ·exact ⟨fun h3 => by omega, fun h3 => by omega⟩
   ·split
    ·exact ⟨fun h3 => by omega, fun h3 => by omega⟩
    ·rw [if_neg (by omega)]; exact ⟨fun h3 => by omega, fun h3 => by omega⟩
theorem un_low {f c : Nat} (hf : f < 4) : unSig f c % 2 ^ 15 = 0 := by
 obtain ⟨n1, n2, _⟩ := fmtN hf
 unfold unSig
 split
 ·rename_i h
  by_cases h0 : c = 0
  ·subst h0; rw [Nat.zero_mul]
  have hl : lenN c ≤ fP f - 1 := lenN_iff.2 h
  rw [show 128 - lenN c = 15 + (113 - lenN c) by omega, Nat.pow_add, ← Nat.mul_assoc, Nat.mul_right_comm, Nat.mul_mod_left]
 ·rw [show 128 - fP f = 15 + (113 - fP f) by omega, Nat.pow_add, ← Nat.mul_assoc, Nat.mul_right_comm, Nat.mul_mod_left]
theorem okT_num {f c : Nat} (hf : f < 4) (h0 : 0 < c) (h1 : c < inf f) : okT (unSig f c * 2 ^ 128) := by
 obtain ⟨s1, s2⟩ := un_sig hf h0 h1
 refine ⟨?_, .inr ?_, ?_⟩
 ·rw [show (128 : Nat) = 30 + 98 from rfl, Nat.pow_add, ← Nat.mul_assoc, Nat.mul_right_comm, Nat.mul_mod_left]
 ·have := Nat.mul_le_mul_right (2 ^ 128) s1
  rw [← Nat.pow_add] at this
  exact Nat.le_trans (by decide) this
 ·have := Nat.mul_lt_mul_of_pos_right s2 (two_pow_pos 128)
  rw [← Nat.pow_add] at this; exact this
theorem okT_prod {f c d : Nat} (hf : f < 4) (h0 : 0 < c) (h1 : c < inf f) (h2 : 0 < d) (h3 : d < inf f) : okT (unSig f c * unSig f d) := by
 obtain ⟨s1, s2⟩ := un_sig hf h0 h1
 obtain ⟨t1, t2⟩ := un_sig hf h2 h3
 refine ⟨?_, .inr ?_, ?_⟩
 ·obtain ⟨x, hx⟩ := Nat.dvd_of_mod_eq_zero (un_low (c := c) hf)
  obtain ⟨y, hy⟩ := Nat.dvd_of_mod_eq_zero (un_low (c := d) hf)
  rw [hx, hy, show 2 ^ 15 * x * (2 ^ 15 * y) = 2 ^ 30 * (x * y) by rw [show (2 : Nat) ^ 30 = 2 ^ 15 * 2 ^ 15 from rfl]; ac_rfl, Nat.mul_mod_right]
 ·have := Nat.mul_le_mul s1 t1
  rw [← Nat.pow_add] at this
  exact Nat.le_trans (by decide) this
 ·have := Nat.mul_lt_mul'' s2 t2
  rw [← Nat.pow_add] at this; exact this
theorem okT_zero : okT 0 := ⟨rfl, .inl rfl, two_pow_pos 256⟩
theorem at_num {f c : Nat} (hf : f < 4) (h0 : 0 < c) (h1 : c < inf f) : unSig f c * 2 ^ 128 * 2 ^ (unExp f c + 40000).toNat = val f c * 2 ^ (255 - fU f + 40000 : Int).toNat := by
 have hv := un_val hf h0 h1
 have hr := un_exp hf h1
 obtain ⟨n1, n2, n3, n4, n5, n6, n7, n8, n9⟩ := fmtN hf
 have hU : fU f ≤ 16500 := by unfold fU; omega
 generalize unExp f c = e at *
 generalize unSig f c = x at *
 generalize val f c = C at *
 apply Nat.eq_of_mul_eq_mul_right (two_pow_pos (127 - e - fU f : Int).toNat)
 rw [Nat.mul_right_comm C, ← hv, Nat.mul_assoc x, Nat.mul_assoc x, Nat.mul_assoc x, ← Nat.pow_add, ← Nat.pow_add, ← Nat.pow_add]
 congr 2
 omega
theorem at_prod {f c d : Nat} (hf : f < 4) (h0 : 0 < c) (h1 : c < inf f) (h2 : 0 < d) (h3 : d < inf f) :
  unSig f c * unSig f d * 2 ^ (unExp f c + unExp f d + 1 + 40000).toNat = val f c * val f d * 2 ^ (255 - fU f - fU f + 40000 : Int).toNat := by
 have hv := un_val hf h0 h1
 have hw := un_val hf h2 h3
 have hr := un_exp hf h1
 have hr2 := un_exp hf h3
 obtain ⟨n1, n2, n3, n4, n5, n6, n7, n8, n9⟩ := fmtN hf
 have hU : fU f ≤ 16500 := by unfold fU; omega
 generalize unExp f c = e at *
 generalize unSig f c = x at *
 generalize val f c = C at *
 generalize unExp f d = g at *
 generalize unSig f d = y at *
 generalize val f d = D at *
 apply Nat.eq_of_mul_eq_mul_right (Nat.mul_pos (two_pow_pos (127 - e - fU f : Int).toNat) (two_pow_pos (127 - g - fU f : Int).toNat))
 rw [show C * D * 2 ^ (255 - fU f - fU f + 40000 : Int).toNat * (2 ^ (127 - e - fU f : Int).toNat * 2 ^ (127 - g - fU f : Int).toNat) = C * 2 ^ (127 - e - fU f : Int).toNat * (D * 2 ^ (127 - g - fU f : Int).toNat) * 2 ^ (255 - fU f - fU f + 40000 : Int).toNat by ac_rfl, ← hv, ← hw]
 rw [show x * 2 ^ (e - 127 + fU f : Int).toNat * (y * 2 ^ (g - 127 + fU f : Int).toNat) * 2 ^ (255 - fU f - fU f + 40000 : Int).toNat = x * y * (2 ^ (e - 127 + fU f : Int).toNat * 2 ^ (g - 127 + fU f : Int).toNat * 2 ^ (255 - fU f - fU f + 40000 : Int).toNat) by ac_rfl]
 rw [show x * y * 2 ^ (e + g + 1 + 40000).toNat * (2 ^ (127 - e - fU f : Int).toNat * 2 ^ (127 - g - fU f : Int).toNat) = x * y * (2 ^ (e + g + 1 + 40000).toNat * 2 ^ (127 - e - fU f : Int).toNat * 2 ^ (127 - g - fU f : Int).toNat) by ac_rfl]
 rw [← Nat.pow_add, ← Nat.pow_add, ← Nat.pow_add, ← Nat.pow_add]
 congr 2
 omega
theorem round_units {f m : Nat} {after neg : Bool} {V : Nat} (hf : f < 4) : roundE (fP f) (fE f) m after neg (-40000) (V * 2 ^ (255 - fU f + 40000 : Int).toNat) = roundC (fP f) (fE f) m after neg V 1 := by
 obtain ⟨n1, n2, n3, n4, n5, n6, n7, n8, n9⟩ := fmtN hf
 apply roundE_ratio n1 (by decide)
 have hU : fU f = fE f + fP f - 2 := rfl
 rw [Nat.mul_one, Nat.mul_assoc, ← Nat.pow_add]
 congr 2
 omega
theorem round_units2 {f m : Nat} {after neg : Bool} {V : Nat} (hf : f < 4) : roundE (fP f) (fE f) m after neg (-40000) (V * 2 ^ (255 - fU f - fU f + 40000 : Int).toNat) = roundC (fP f) (fE f) m after neg V (2 ^ fU f) := by
 obtain ⟨n1, n2, n3, n4, n5, n6, n7, n8, n9⟩ := fmtN hf
 apply roundE_ratio n1 (two_pow_pos _)
 have hU : fU f = fE f + fP f - 2 := rfl
 rw [Nat.mul_assoc, Nat.mul_assoc, ← Nat.pow_add, ← Nat.pow_add]
 congr 2
 omega
def sgV (s t : Bool) (A B : Nat) : Nat := if s = t then A + B else if A < B then B - A else A - B
def sgS (s t : Bool) (A B : Nat) : Bool := if s = t then s else if A < B then t else s
def sgN (m : Nat) (s t : Bool) (A B : Nat) : Bool := if sgV s t A B = 0 then (if s = t then s else decide (m = 3)) else sgS s t A B
theorem sgV_scale (s t : Bool) (A B : Nat) {k : Nat} (hk : 0 < k) : sgV s t (A * k) (B * k) = sgV s t A B * k := by
 unfold sgV
 have hl : (A * k < B * k) ↔ A < B := Nat.mul_lt_mul_right hk
 by_cases hst : s = t
 ·rw [if_pos hst, if_pos hst, Nat.add_mul]
 ·rw [if_neg hst, if_neg hst]
  by_cases h : A < B
  ·rw [if_pos h, if_pos (hl.2 h), Nat.sub_mul]
  ·rw [if_neg h, if_neg (fun h2 => h (hl.1 h2)), Nat.sub_mul]
theorem sgS_scale (s t : Bool) (A B : Nat) {k : Nat} (hk : 0 < k) : sgS s t (A * k) (B * k) = sgS s t A B := by
 unfold sgS
 have hl : (A * k < B * k) ↔ A < B := Nat.mul_lt_mul_right hk
 by_cases hst : s = t
 ·rw [if_pos hst, if_pos hst]
 ·rw [if_neg hst, if_neg hst]
  by_cases h : A < B
  ·rw [if_pos h, if_pos (hl.2 h)]
  ·rw [if_neg h, if_neg (fun h2 => h (hl.1 h2))]
theorem sgN_scale (m : Nat) (s t : Bool) (A B : Nat) {k : Nat} (hk : 0 < k) : sgN m s t (A * k) (B * k) = sgN m s t A B := by
 unfold sgN
 rw [sgV_scale s t A B hk, sgS_scale s t A B hk]
 have : sgV s t A B * k = 0 ↔ sgV s t A B = 0 := by
  constructor
  ·intro h
   rcases Nat.mul_eq_zero.1 h with h | h
   ·exact h
   ·omega
  ·intro h; rw [h, Nat.zero_mul]
 by_cases h : sgV s t A B = 0
 ·rw [if_pos (this.2 h), if_pos h]
 ·rw [if_neg (fun h2 => h (this.1 h2)), if_neg h]
def resT (s t : Bool) (ea : Int) (sa : Nat) (eb : Int) (sb : Nat) : Int × Nat :=
 if s = t then sumT ea sa eb sb else if cmpT ea sa eb sb < 0 then difT eb sb ea sa else difT ea sa eb sb
def resS (s t : Bool) (ea : Int) (sa : Nat) (eb : Int) (sb : Nat) : Bool := if s = t then s else if cmpT ea sa eb sb < 0 then t else s
theorem roundE_nought {p emax m : Nat} {after neg : Bool} {e : Int} {s : Nat} (hp : 2 ≤ p) (h : roundE p emax m after neg e s = (0, 0)) : s = 0 := by
 unfold roundE at h
 have hD := two_pow_pos (255 + 2 - e - emax - p : Int).toNat
 obtain ⟨c, hc, hv⟩ := roundC_flags hp hD (by rw [h])
 have h2 := roundC_exact (m := m) (after := after) (neg := neg) hp hD hc hv
 rw [h] at h2
 have hc0 : c = 0 := (congrArg Prod.fst h2).symm
 rw [hc0, cval_zero, Nat.zero_mul] at hv
 rcases Nat.mul_eq_zero.1 hv with h | h
 ·exact h
 ·have := two_pow_pos (e - 255 + emax + p - 2 : Int).toNat; omega
theorem roundE_nought_iff {p emax m : Nat} {after neg : Bool} {e e2 : Int} {s s2 : Nat} (hp : 2 ≤ p) (h : roundE p emax m after neg e s = roundE p emax m after neg e2 s2) : s = 0 ↔ s2 = 0 := by
 constructor
 ·intro h0; rw [h0, roundE_zero] at h; exact roundE_nought hp h.symm
 ·intro h0; rw [h0, roundE_zero] at h; exact roundE_nought hp h
theorem res_round {p emax m : Nat} {after neg : Bool} {ea eb : Int} {sa sb A B k : Nat} (hp : 2 ≤ p) (hp2 : p ≤ 240) (ha : okT sa) (hb : okT sb) (hLa : -40000 ≤ ea) (hLb : -40000 ≤ eb)
  (hA : sa * 2 ^ (ea + 40000).toNat = A * 2 ^ k) (hB : sb * 2 ^ (eb + 40000).toNat = B * 2 ^ k) (s t : Bool) :
  roundE p emax m after neg (resT s t ea sa eb sb).1 (resT s t ea sa eb sb).2 = roundE p emax m after neg (-40000) (sgV s t A B * 2 ^ k) ∧ resS s t ea sa eb sb = sgS s t A B := by
 have e1 : (ea - -40000).toNat = (ea + 40000).toNat := by congr 1
 have e2 : (eb - -40000).toNat = (eb + 40000).toNat := by congr 1
 have hc := cmpT_lt (ea := ea) (eb := eb) (L := -40000) (sa := sa) (sb := sb) hLa hLb
 rw [e1, e2, hA, hB, show (A * 2 ^ k < B * 2 ^ k) ↔ A < B from Nat.mul_lt_mul_right (two_pow_pos k)] at hc
 unfold resT resS sgV sgS
 by_cases hst : s = t
 ·rw [if_pos hst, if_pos hst, if_pos hst, if_pos hst]
  refine ⟨?_, rfl⟩
  rw [sum_round hp hp2 ha hb hLa hLb, e1, e2, hA, hB, Nat.add_mul]
 ·rw [if_neg hst, if_neg hst, if_neg hst, if_neg hst]
  by_cases hl : A < B
  ·rw [if_pos (hc.2 hl), if_pos (hc.2 hl), if_pos hl, if_pos hl]
   refine ⟨?_, rfl⟩
   rw [dif_round hp hp2 hb ha hLb hLa (by rw [e1, e2, hA, hB]; exact Nat.mul_le_mul_right _ (Nat.le_of_lt hl)), e1, e2, hA, hB, Nat.sub_mul]
  ·rw [if_neg (fun h => hl (hc.1 h)), if_neg (fun h => hl (hc.1 h)), if_neg hl, if_neg hl]
   refine ⟨?_, rfl⟩
   rw [dif_round hp hp2 ha hb hLa hLb (by rw [e1, e2, hA, hB]; exact Nat.mul_le_mul_right _ (by omega)), e1, e2, hA, hB, Nat.sub_mul]
theorem res_full {p emax m : Nat} {after : Bool} {ea eb : Int} {sa sb A B k : Nat} (hp : 2 ≤ p) (hp2 : p ≤ 240) (ha : okT sa) (hb : okT sb) (hLa : -40000 ≤ ea) (hLb : -40000 ≤ eb)
  (hA : sa * 2 ^ (ea + 40000).toNat = A * 2 ^ k) (hB : sb * 2 ^ (eb + 40000).toNat = B * 2 ^ k) (s t : Bool) :
  (if (resT s t ea sa eb sb).2 = 0 then (if s = t then s else decide (m = 3)) else resS s t ea sa eb sb) = sgN m s t A B ∧
  roundE p emax m after (sgN m s t A B) (resT s t ea sa eb sb).1 (resT s t ea sa eb sb).2 = roundE p emax m after (sgN m s t A B) (-40000) (sgV s t A B * 2 ^ k) := by
 obtain ⟨h1, h2⟩ := res_round (emax := emax) (m := m) (after := after) (neg := sgN m s t A B) hp hp2 ha hb hLa hLb hA hB s t
 refine ⟨?_, h1⟩
 have hz := roundE_nought_iff hp h1
 have hz2 : sgV s t A B * 2 ^ k = 0 ↔ sgV s t A B = 0 := by
  have := two_pow_pos k
  constructor
  ·intro h
   rcases Nat.mul_eq_zero.1 h with h | h
   ·exact h
   ·omega
  ·intro h; rw [h, Nat.zero_mul]
 rw [h2]
 unfold sgN
 by_cases h : sgV s t A B = 0
 ·rw [if_pos h, if_pos (hz.2 (hz2.2 h))]
 ·rw [if_neg h, if_neg (fun h3 => h (hz2.1 (hz.1 h3)))]
def tmE (f c : Nat) : Int := if c = 0 then 0 else unExp f c
def tmS (f c : Nat) : Nat := if c = 0 then 0 else unSig f c * 2 ^ 128
def tpE (f c d : Nat) : Int := if c = 0 ∨ d = 0 then 0 else unExp f c + unExp f d + 1
def tpS (f c d : Nat) : Nat := if c = 0 ∨ d = 0 then 0 else unSig f c * unSig f d
theorem fU_le {f : Nat} (hf : f < 4) : fU f ≤ 16500 := by
 obtain ⟨n1, n2, n3, n4, n5, n6, n7, n8, n9⟩ := fmtN hf
 unfold fU; omega
theorem tm_ok {f c : Nat} (hf : f < 4) (hc : c < inf f) : okT (tmS f c) ∧ -40000 ≤ tmE f c ∧ tmS f c * 2 ^ (tmE f c + 40000).toNat = val f c * 2 ^ (255 - fU f + 40000 : Int).toNat := by
 unfold tmS tmE
 by_cases h : c = 0
 ·rw [if_pos h, if_pos h, h]
  refine ⟨okT_zero, by omega, ?_⟩
  unfold val
  rw [cval_zero, Nat.zero_mul, Nat.zero_mul]
 ·rw [if_neg h, if_neg h]
  have := un_exp hf hc
  exact ⟨okT_num hf (by omega) hc, by omega, at_num hf (by omega) hc⟩
theorem tp_ok {f c d : Nat} (hf : f < 4) (hc : c < inf f) (hd : d < inf f) : okT (tpS f c d) ∧ -40000 ≤ tpE f c d ∧ tpS f c d * 2 ^ (tpE f c d + 40000).toNat = val f c * val f d * 2 ^ (255 - fU f - fU f + 40000 : Int).toNat := by
 unfold tpS tpE
 by_cases h : c = 0 ∨ d = 0
 ·rw [if_pos h, if_pos h]
  refine ⟨okT_zero, by omega, ?_⟩
  have : val f c * val f d = 0 := by
   unfold val
   rcases h with h | h <;> rw [h, cval_zero]
   ·rw [Nat.zero_mul]
   ·rw [Nat.mul_zero]
  rw [this, Nat.zero_mul, Nat.zero_mul]
 ·rw [if_neg h, if_neg h]
  have := un_exp hf hc
  have := un_exp hf hd
  exact ⟨okT_prod hf (by omega) hc (by omega) hd, by omega, at_prod hf (by omega) hc (by omega) hd⟩
theorem tm_ok2 {f c : Nat} (hf : f < 4) (hc : c < inf f) : tmS f c * 2 ^ (tmE f c + 40000).toNat = val f c * 2 ^ fU f * 2 ^ (255 - fU f - fU f + 40000 : Int).toNat := by
 rw [(tm_ok hf hc).2.2, Nat.mul_assoc, ← Nat.pow_add]
 have := fU_le hf
 congr 2
 omega
def addN (f m : Nat) (s t : Bool) (c d : Nat) : Bool := sgN m s t (val f c) (val f d)
def addC (f m : Nat) (after s t : Bool) (c d : Nat) : Nat × Nat := roundC (fP f) (fE f) m after (addN f m s t c d) (sgV s t (val f c) (val f d)) 1
def fmaN (f m : Nat) (s t : Bool) (c d e : Nat) : Bool := sgN m s t (val f c * val f d) (val f e * 2 ^ fU f)
def fmaC (f m : Nat) (after s t : Bool) (c d e : Nat) : Nat × Nat := roundC (fP f) (fE f) m after (fmaN f m s t c d e) (sgV s t (val f c * val f d) (val f e * 2 ^ fU f)) (2 ^ fU f)
theorem fP_240 {f : Nat} (hf : f < 4) : fP f ≤ 240 := by have := fP_le hf; omega
theorem add_res {f m c d : Nat} {after : Bool} (hf : f < 4) (hc : c < inf f) (hd : d < inf f) (s t : Bool) :
  (if (resT s t (tmE f c) (tmS f c) (tmE f d) (tmS f d)).2 = 0 then (if s = t then s else decide (m = 3)) else resS s t (tmE f c) (tmS f c) (tmE f d) (tmS f d)) = addN f m s t c d ∧
  roundE (fP f) (fE f) m after (addN f m s t c d) (resT s t (tmE f c) (tmS f c) (tmE f d) (tmS f d)).1 (resT s t (tmE f c) (tmS f c) (tmE f d) (tmS f d)).2 = addC f m after s t c d := by
 obtain ⟨a1, a2, a3⟩ := tm_ok hf hc
 obtain ⟨b1, b2, b3⟩ := tm_ok hf hd
 obtain ⟨h1, h2⟩ := res_full (emax := fE f) (m := m) (after := after) (fP_ge hf) (fP_240 hf) a1 b1 a2 b2 a3 b3 s t
 exact ⟨h1, h2.trans (round_units hf)⟩
theorem fma_res {f m c d e : Nat} {after : Bool} (hf : f < 4) (hc : c < inf f) (hd : d < inf f) (he : e < inf f) (s t : Bool) :
  (if (resT s t (tpE f c d) (tpS f c d) (tmE f e) (tmS f e)).2 = 0 then (if s = t then s else decide (m = 3)) else resS s t (tpE f c d) (tpS f c d) (tmE f e) (tmS f e)) = fmaN f m s t c d e ∧
  roundE (fP f) (fE f) m after (fmaN f m s t c d e) (resT s t (tpE f c d) (tpS f c d) (tmE f e) (tmS f e)).1 (resT s t (tpE f c d) (tpS f c d) (tmE f e) (tmS f e)).2 = fmaC f m after s t c d e := by
 obtain ⟨a1, a2, a3⟩ := tp_ok hf hc hd
 obtain ⟨b1, b2, b3⟩ := tm_ok hf he
 obtain ⟨h1, h2⟩ := res_full (emax := fE f) (m := m) (after := after) (fP_ge hf) (fP_240 hf) a1 b1 a2 b2 a3 (tm_ok2 hf he) s t
 exact ⟨h1, h2.trans (round_units2 hf)⟩
theorem upN_zero (neg : Bool) (N D : Nat) : upN 4 neg N D = false := by
 unfold upN; rw [show nextN 4 neg (oddN (N / D)) (restN N D) = false from rfl, Bool.and_false]
theorem roundC_cut {p emax : Nat} {after neg : Bool} {N D q k : Nat} (hp : 2 ≤ p) (hD : 0 < D) (h : roundC p emax 4 after neg N D = (q, k)) (hk : k ≠ 20) : cval p q * D ≤ N ∧ N < cval p (q + 1) * D := by
 unfold roundC at h
 by_cases hi : infC p emax ≤ fcode p 4 neg N D
 ·rw [if_pos hi] at h
  exact absurd (congrArg Prod.snd h).symm hk
 ·rw [if_neg hi] at h
  have hq := congrArg Prod.fst h
  simp only [] at hq
  rw [fcode_flc, upN_zero] at hq
  have e : flc p N D = q := by rw [← hq]; rfl
  rw [← e]
  exact flc_between hp hD
theorem rdiv_near {m : Nat} (hm : m = 0 ∨ m = 1) (neg : Bool) {N E : Nat} (hE : 0 < E) : 2 * N ≤ (2 * rdiv m neg N E + 1) * E ∧ 2 * rdiv m neg N E * E ≤ 2 * N + E := by
 have e := Nat.div_add_mod N E
 have l := Nat.mod_lt N hE
 have key : ∀ q r : Nat, E * q + r = N → (2 * q + 1) * E = 2 * N + E - 2 * r ∧ 2 * r ≤ 2 * N + E ∧ 2 * q * E = 2 * N - 2 * r ∧ (2 * (q + 1) + 1) * E = 2 * N + 3 * E - 2 * r ∧ 2 * (q + 1) * E = 2 * N + 2 * E - 2 * r := by
  intro q r h
  have e1 : (2 * q + 1) * E = 2 * (E * q) + E := by rw [Nat.add_mul, Nat.one_mul, Nat.mul_comm E q, Nat.mul_assoc]
  have e2 : 2 * q * E = 2 * (E * q) := by rw [Nat.mul_comm E q, Nat.mul_assoc]
  have e3 : (2 * (q + 1) + 1) * E = 2 * (E * q) + 3 * E := by rw [show 2 * (q + 1) + 1 = 2 * q + 3 by omega, Nat.add_mul, Nat.mul_comm E q, Nat.mul_assoc]
  have e4 : 2 * (q + 1) * E = 2 * (E * q) + 2 * E := by rw [show 2 * (q + 1) = 2 * q + 2 by omega, Nat.add_mul, Nat.mul_comm E q, Nat.mul_assoc]
  rw [e1, e2, e3, e4]
  omega
 obtain ⟨k1, k2, k3, k4, k5⟩ := key (N / E) (N % E) e
 unfold rdiv upN
 unfold restN
 have h0 : N % E = 0 ∨ N % E ≠ 0 := by omega
 rcases h0 with h0 | h0
 ·rw [if_pos h0, show (!Nat.beq 0 0) = false from rfl, Bool.false_and, show Bool.toNat false = 0 from rfl, Nat.add_zero (N / E), k1, k3]
  omega
 rw [if_neg h0]
 by_cases h1 : 2 * (N % E) < E
 ·rw [if_pos h1]
  have hn : nextN m neg (oddN (N / E)) 1 = false := by rcases hm with rfl | rfl <;> rfl
  rw [hn, Bool.and_false, show Bool.toNat false = 0 from rfl, Nat.add_zero (N / E), k1, k3]
  omega
 rw [if_neg h1]
 by_cases h2 : 2 * (N % E) = E
 ·rw [if_pos h2]
  cases (!Nat.beq 2 0 && nextN m neg (oddN (N / E)) 2) with
  | true => rw [show Bool.toNat true = 1 from rfl, k4, k5]; omega
  | false => rw [show Bool.toNat false = 0 from rfl, Nat.add_zero (N / E), k1, k3]; omega
 ·rw [if_neg h2]
  have hn : (!Nat.beq 3 0 && nextN m neg (oddN (N / E)) 3) = true := by rcases hm with rfl | rfl <;> rfl
  rw [hn, show Bool.toNat true = 1 from rfl, k4, k5]; omega
theorem un_lo {f c : Nat} (hf : f < 4) (h0 : 0 < c) (h1 : c < inf f) : 2 - (fE f : Int) - fP f ≤ unExp f c ∧ unExp f c ≤ fE f := by
 obtain ⟨n1, n2, n3, n4, n5, n6, n7, n8, n9⟩ := fmtN hf
 unfold unExp
 by_cases h : c < 2 ^ (fP f - 1)
 ·rw [if_pos h]
  have := lenN_iff.2 h
  have := (lenN_lo (show c ≠ 0 by omega)).2.2
  omega
 ·rw [if_neg h]
  have : c / 2 ^ (fP f - 1) < 2 * fE f + 1 := by
   rw [Nat.div_lt_iff_lt_mul (two_pow_pos _)]; exact h1
  generalize c / 2 ^ (fP f - 1) = k at *
  omega
theorem fE_big {f : Nat} (hf : f < 4) : fP f + 4 ≤ fE f ∧ 15 ≤ fE f := by rcases f4 hf with rfl | rfl | rfl | rfl <;> decide
def rtN (f c : Nat) : Nat := jamR (sqN f c) * 2 ^ (sqX f c + 155 - 255 + fE f + fP f - 2).toNat
def rtD (f c : Nat) : Nat := 2 ^ (255 + 2 - (sqX f c + 155) - fE f - fP f).toNat
theorem sqrtC_eq (f m : Nat) (after : Bool) (c : Nat) : sqrtC f m after c = roundC (fP f) (fE f) m after false (rtN f c) (rtD f c) := rfl
theorem rt_pos (f c : Nat) : 0 < rtD f c := two_pow_pos _
theorem sqX_rng {f c : Nat} (hf : f < 4) (h0 : 0 < c) (h1 : c < inf f) : -126 - (fE f : Int) ≤ sqX f c ∧ sqX f c ≤ (fE f : Int) - 130 := by
 have := un_lo hf h0 h1
 have := fE_big hf
 unfold sqX
 split <;> omega
theorem rt_rng {f c : Nat} (hf : f < 4) (h0 : 0 < c) (h1 : c < inf f) : rtD f c * 2 ^ (fP f - 1) ≤ rtN f c ∧ 2 * rtN f c ≤ rtD f c * 2 ^ (fE f + fU f) := by
 have hr := sqX_rng hf h0 h1
 obtain ⟨q1, q2⟩ := sqN_rng hf h0 h1
 have j1 := jamR_lt q2
 have j2 := jamR_ge q2 q1
 obtain ⟨n1, n2, n3, n4, n5, n6, n7, n8, n9⟩ := fmtN hf
 unfold rtN rtD
 generalize jamR (sqN f c) = J at *
 generalize sqX f c = X at *
 constructor
 ·have := Nat.mul_le_mul_right (2 ^ (X + 155 - 255 + fE f + fP f - 2).toNat) j2
  rw [← Nat.pow_add] at this
  refine Nat.le_trans ?_ this
  rw [← Nat.pow_add]
  exact Nat.pow_le_pow_right (by decide) (by omega)
 ·have := Nat.mul_le_mul_right (2 ^ (X + 155 - 255 + fE f + fP f - 2).toNat) (Nat.mul_le_mul_left 2 (Nat.le_of_lt j1))
  rw [Nat.mul_assoc] at this
  refine Nat.le_trans this ?_
  rw [show (2 : Nat) * 2 ^ 228 = 2 ^ 229 from rfl, ← Nat.pow_add, ← Nat.pow_add]
  exact Nat.pow_le_pow_right (by decide) (by unfold fU; omega)
theorem fcode_far {f m : Nat} {neg : Bool} {N D : Nat} (hf : f < 4) (hD : 0 < D) (h : N ≤ D * 2 ^ (fE f + fU f)) : fcode (fP f) m neg N D < infC (fP f) (fE f) := by
 have hp := fP_ge hf
 have hb := fE_big hf
 have hv : val f (2 * fE f * 2 ^ (fP f - 1)) = 2 ^ (fE f + fU f) := by
  rw [val_pow hf (by omega)]; congr 1; unfold fU; omega
 have e : fcode (fP f) m neg (2 ^ (fE f + fU f)) 1 = 2 * fE f * 2 ^ (fP f - 1) := fcode_exact hp (by decide) (by rw [← hv, Nat.mul_one])
 have := fcode_mono (p := fP f) (m := m) (neg := neg) (N1 := N) (D1 := D) (N2 := 2 ^ (fE f + fU f)) (D2 := 1) hp hD (by decide) (by rw [Nat.mul_one, Nat.mul_comm]; exact h)
 rw [e] at this
 refine Nat.lt_of_le_of_lt this ?_
 unfold infC
 exact Nat.mul_lt_mul_of_pos_right (by omega) (two_pow_pos _)
theorem sqrtC_code {f m c : Nat} {after : Bool} (hf : f < 4) (h0 : 0 < c) (h1 : c < inf f) : (sqrtC f m after c).1 < inf f ∧ 2 ^ (fP f - 1) ≤ (sqrtC f m after c).1 ∧ ((sqrtC f m after c).2 = 0 ∨ (sqrtC f m after c).2 = 16) := by
 obtain ⟨r1, r2⟩ := rt_rng hf h0 h1
 have hp := fP_ge hf
 have hD := rt_pos f c
 have hi := fcode_far (m := m) (neg := false) hf hD (show rtN f c ≤ rtD f c * 2 ^ (fE f + fU f) by omega)
 have ht : tinyF (fP f) m after false (rtN f c) (rtD f c) = false := tiny_false hp hD r1
 have hlo : 2 ^ (fP f - 1) ≤ fcode (fP f) m false (rtN f c) (rtD f c) := by
  have hv : cval (fP f) (2 ^ (fP f - 1)) = 2 ^ (fP f - 1) := by
   have := cval_of (p := fP f) (s := 0) (q := 2 ^ (fP f - 1)) hp (by have := half_pow hp; omega) (fun h => absurd rfl h)
   rw [Nat.zero_mul, Nat.zero_add, Nat.pow_zero, Nat.mul_one] at this; exact this
  have e : fcode (fP f) m false (2 ^ (fP f - 1)) 1 = 2 ^ (fP f - 1) := fcode_exact hp (by decide) (by rw [hv, Nat.mul_one])
  have := fcode_mono (p := fP f) (m := m) (neg := false) (N1 := 2 ^ (fP f - 1)) (D1 := 1) (N2 := rtN f c) (D2 := rtD f c) hp (by decide) hD (by rw [Nat.mul_one, Nat.mul_comm]; exact r1)
  rw [e] at this; exact this
 rw [sqrtC_eq]
 unfold roundC
 rw [if_neg (by omega), ht]
 refine ⟨hi, hlo, ?_⟩
 simp only []
 split <;> simp
end Go.Proofs.YtngiodcdelfdmaaGreatDoor.FP
namespace Go.Proofs.YtngiodcdelfdmaaGreatDoor
set_option linter.unusedVariables false
set_option linter.unusedSimpArgs false
set_option maxRecDepth 100000
open Go.RowKit
def likeC (x y : Nat) : Bool := decide (x = y) && (decide (x = 3) || decide (x = 0))
def divS (f m : Nat) (after neg : Bool) (c d : Nat) : Nat × Nat :=
 if FP.clsC f c = 3 then (FP.inf f, 0) else if FP.clsC f d = 3 ∨ FP.clsC f c = 0 then (0, 0) else if FP.clsC f d = 0 then (FP.inf f, 2) else FP.divC f m after neg c d
def divR (f m : Nat) (after : Bool) (a b : Nat) : Nat × Nat :=
 if 4 ≤ clsF f a then (quN f a, nanFlag f a b) else if 4 ≤ clsF f b then (quN f b, nanFlag f a b)
 else if likeC (clsF f a) (clsF f b) = true then (dfl f, 1)
 else (FP.mk f (FP.sgn f a != FP.sgn f b) (divS f m after (FP.sgn f a != FP.sgn f b) (FP.cod f a) (FP.cod f b)).1, (divS f m after (FP.sgn f a != FP.sgn f b) (FP.cod f a) (FP.cod f b)).2)
theorem divR_S {f : Nat} (m : Nat) (after : Bool) {a b : Nat} (ha : ¬ 4 ≤ clsF f a) (hb : ¬ 4 ≤ clsF f b) :
  divR f m after a b = if likeC (clsF f a) (clsF f b) = true then (dfl f, 1) else
   (FP.mk f (FP.sgn f a != FP.sgn f b) (divS f m after (FP.sgn f a != FP.sgn f b) (FP.cod f a) (FP.cod f b)).1, (divS f m after (FP.sgn f a != FP.sgn f b) (FP.cod f a) (FP.cod f b)).2) := by
 unfold divR; rw [if_neg ha, if_neg hb]
theorem divS_le (f m : Nat) (after neg : Bool) (c d : Nat) : (divS f m after neg c d).1 ≤ FP.inf f := by
 unfold divS
 split
 ·exact Nat.le_refl _
 ·split
  ·exact Nat.zero_le _
  ·split
   ·exact Nat.le_refl _
   ·exact FP.roundC_le _ _ _ _ _ _ _
theorem divS_lt {f : Nat} (hf : f < 4) (m : Nat) (after neg : Bool) (c d : Nat) : (divS f m after neg c d).1 < 2 ^ (FP.fW f - 1) :=
 Nat.lt_of_le_of_lt (divS_le _ _ _ _ _ _) (inf_W hf)
theorem divS_flag (f m : Nat) (after neg : Bool) (c d : Nat) : (divS f m after neg c d).2 ≤ 24 := by
 unfold divS
 split
 ·simp
 ·split
  ·simp
  ·split
   ·simp
   ·have := FP.roundC_flag_set (FP.fP f) (FP.fE f) m after neg (FP.val f c * 2 ^ FP.fU f) (FP.val f d)
    unfold FP.divC; omega
theorem divR_lt {f : Nat} (hf : f < 4) (m : Nat) (after : Bool) {a b : Nat} (ha : ¬ 4 ≤ clsF f a) (hb : ¬ 4 ≤ clsF f b) : (divR f m after a b).1 < W128 := by
 rw [divR_S _ _ ha hb]
 split
 ·exact mk_W hf false (dfl_code hf)
 ·exact mk_W hf _ (divS_lt hf _ _ _ _ _)
theorem divR_flag (f : Nat) (m : Nat) (after : Bool) {a b : Nat} (ha : ¬ 4 ≤ clsF f a) (hb : ¬ 4 ≤ clsF f b) : (divR f m after a b).2 ≤ 24 := by
 rw [divR_S _ _ ha hb]
 split
 ·simp
 ·exact divS_flag _ _ _ _ _ _
end Go.Proofs.YtngiodcdelfdmaaGreatDoor
namespace Go.Proofs.YtngiodcdelfdmaaGreatDoor
set_option linter.unusedVariables false
set_option linter.unusedSimpArgs false
set_option maxRecDepth 100000
open Go.RowKit
def addI (f a b : Nat) : Bool := decide (clsF f a = 3) && (decide (clsF f b = 3) && (FP.sgn f a != FP.sgn f b))
def addR (f m : Nat) (after : Bool) (a b : Nat) : Nat × Nat :=
 if 4 ≤ clsF f a then (quN f a, nanFlag f a b) else if 4 ≤ clsF f b then (quN f b, nanFlag f a b)
 else if addI f a b = true then (dfl f, 1)
 else if clsF f a = 3 then (FP.mk f (FP.sgn f a) (FP.inf f), 0)
 else if clsF f b = 3 then (FP.mk f (FP.sgn f b) (FP.inf f), 0)
 else (FP.mk f (FP.addN f m (FP.sgn f a) (FP.sgn f b) (FP.cod f a) (FP.cod f b)) (FP.addC f m after (FP.sgn f a) (FP.sgn f b) (FP.cod f a) (FP.cod f b)).1, (FP.addC f m after (FP.sgn f a) (FP.sgn f b) (FP.cod f a) (FP.cod f b)).2)
def infAB (f a b : Nat) : Bool := decide (clsF f a = 3) || decide (clsF f b = 3)
def fmaI (f a b c : Nat) : Bool := badC (clsF f a) (clsF f b) || (infAB f a b && (decide (clsF f c = 3) && ((FP.sgn f a != FP.sgn f b) != FP.sgn f c)))
def fmaFlag (f a b c : Nat) : Nat := if badC (clsF f a) (clsF f b) = true ∨ clsF f a = 5 ∨ clsF f b = 5 ∨ clsF f c = 5 then 1 else 0
def fmaSg (f m a b c : Nat) : Bool := if infAB f a b = true then (FP.sgn f a != FP.sgn f b) else if clsF f c = 3 then FP.sgn f c else FP.fmaN f m (FP.sgn f a != FP.sgn f b) (FP.sgn f c) (FP.cod f a) (FP.cod f b) (FP.cod f c)
def fmaSc (f m : Nat) (after : Bool) (a b c : Nat) : Nat × Nat := if infAB f a b = true then (FP.inf f, 0) else if clsF f c = 3 then (FP.inf f, 0) else FP.fmaC f m after (FP.sgn f a != FP.sgn f b) (FP.sgn f c) (FP.cod f a) (FP.cod f b) (FP.cod f c)
def fmaR (f m : Nat) (after : Bool) (a b c : Nat) : Nat × Nat :=
 if 4 ≤ clsF f a then (quN f a, fmaFlag f a b c) else if 4 ≤ clsF f b then (quN f b, fmaFlag f a b c) else if 4 ≤ clsF f c then (quN f c, fmaFlag f a b c)
 else if fmaI f a b c = true then (dfl f, 1)
 else (FP.mk f (fmaSg f m a b c) (fmaSc f m after a b c).1, (fmaSc f m after a b c).2)
theorem fmaR_S {f : Nat} (m : Nat) (after : Bool) {a b c : Nat} (ha : ¬ 4 ≤ clsF f a) (hb : ¬ 4 ≤ clsF f b) (hc : ¬ 4 ≤ clsF f c) :
  fmaR f m after a b c = if fmaI f a b c = true then (dfl f, 1) else (FP.mk f (fmaSg f m a b c) (fmaSc f m after a b c).1, (fmaSc f m after a b c).2) := by
 unfold fmaR; rw [if_neg ha, if_neg hb, if_neg hc]
theorem quN_lt {f b : Nat} (hf : f < 4) (h : 4 ≤ clsF f b) : quN f b < W128 ∧ 4 ≤ clsF f (quN f b) ∧ clsF f (quN f b) ≠ 5 := by
 have hcl := FP.cod_lt f b
 have hn : FP.inf f < FP.cod f b := by rw [clsF_cod hf] at h; exact FP.clsC_nan.1 h
 obtain ⟨i1, i2, i3, i4⟩ := inf_gt hf
 have htop := FP.inf_top hf
 have hq : quC f (FP.cod f b) < 2 ^ (FP.fW f - 1) ∧ FP.inf f + 2 ^ (FP.fP f - 2) ≤ quC f (FP.cod f b) := by
  obtain ⟨q4, q5⟩ := cls_nan (c := FP.cod f b) hf
  unfold quC
  by_cases h5 : FP.clsC f (FP.cod f b) = 5
  ·rw [if_pos h5]
   have := q5.1 h5
   omega
  ·rw [if_neg h5]
   refine ⟨hcl, ?_⟩
   apply Nat.le_of_not_lt; intro hlt
   exact h5 (q5.2 ⟨hn, hlt⟩)
 unfold quN
 have hc := clsF_mk hf (FP.sgn f b) hq.1
 have h4 : FP.clsC f (quC f (FP.cod f b)) = 4 := (cls_nan hf).1.2 hq.2
 rw [hc, h4]
 exact ⟨mk_W hf _ hq.1, Nat.le_refl _, by omega⟩
theorem addI_cls {f a b : Nat} (h : addI f a b = true) : clsF f a = 3 ∧ clsF f b = 3 := by
 unfold addI at h
 simp only [Bool.and_eq_true, decide_eq_true_iff] at h
 exact ⟨h.1, h.2.1⟩
theorem addR_lt {f : Nat} (hf : f < 4) (m : Nat) (after : Bool) (a b : Nat) : (addR f m after a b).1 < W128 := by
 unfold addR
 split
 ·rename_i h; exact (quN_lt hf h).1
 ·split
  ·rename_i h; exact (quN_lt hf h).1
  ·split
   ·exact mk_W hf false (dfl_code hf)
   ·split
    ·exact mk_W hf _ (inf_W hf)
    ·split
     ·exact mk_W hf _ (inf_W hf)
     ·exact mk_W hf _ (Nat.lt_of_le_of_lt (FP.roundC_le _ _ _ _ _ _ _) (inf_W hf))
theorem clsC_zero_iff {f k : Nat} : FP.clsC f k = 0 ↔ k = 0 := by
 unfold FP.clsC
 by_cases h : k = 0
 ·rw [if_pos h]; simp [h]
 ·rw [if_neg h]
  constructor
  ·intro h2
   exfalso
   revert h2
   split
   ·simp
   ·split
    ·simp
    ·split
     ·simp
     ·split <;> simp
  ·intro h2; exact absurd h2 h
end Go.Proofs.YtngiodcdelfdmaaGreatDoor
