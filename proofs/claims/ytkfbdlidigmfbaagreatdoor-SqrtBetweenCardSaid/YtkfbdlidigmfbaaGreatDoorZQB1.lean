import Derived.Test.YtkfbdlidigmfbaaGreatDoorZGB1
namespace Go.Proofs.YtkfbdlidigmfbaaGreatDoor.FP
set_option linter.unusedVariables false
set_option linter.unusedSimpArgs false
theorem one_fin {f : Nat} (hf : f < 4) : fE f * 2 ^ (fP f - 1) < inf f := by
 have h1 := fE_ge hf
 unfold inf infC
 exact Nat.mul_lt_mul_of_pos_right (by omega) (two_pow_pos _)
def isqGo (n : Nat) : Nat → Nat → Nat
 | 0, r => r
 | k + 1, r => isqGo n k (if (r + 2 ^ k) * (r + 2 ^ k) ≤ n then r + 2 ^ k else r)
def isq (n : Nat) : Nat := isqGo n 128 0
theorem isqGo_spec (n : Nat) : ∀ (k r : Nat), r * r ≤ n → n < (r + 2 ^ k) * (r + 2 ^ k) → isqGo n k r * isqGo n k r ≤ n ∧ n < (isqGo n k r + 1) * (isqGo n k r + 1)
 | 0, r, h1, h2 => ⟨h1, h2⟩
 | k + 1, r, h1, h2 => by
  unfold isqGo
  split
  ·rename_i h
   refine isqGo_spec n k _ h ?_
   rw [Nat.add_assoc, ← Nat.mul_two, ← Nat.pow_succ]; exact h2
  ·rename_i h
   exact isqGo_spec n k _ h1 (by omega)
theorem isq_spec {n : Nat} (h : n < 2 ^ 256) : isq n * isq n ≤ n ∧ n < (isq n + 1) * (isq n + 1) :=
 isqGo_spec n 128 0 (Nat.zero_le _) (by rw [Nat.zero_add, ← Nat.pow_add]; exact h)
theorem sq_le {a b : Nat} (h : a * a < b * b) : a < b := by
 apply Nat.lt_of_not_le; intro hle
 have := Nat.mul_le_mul hle hle
 omega
theorem isq_uniq {n r : Nat} (h : n < 2 ^ 256) (h1 : r * r ≤ n) (h2 : n < (r + 1) * (r + 1)) : isq n = r := by
 obtain ⟨a, b⟩ := isq_spec h
 have c := sq_le (Nat.lt_of_le_of_lt a h2)
 have d := sq_le (Nat.lt_of_le_of_lt h1 b)
 omega
theorem isq_lt {n : Nat} (h : n < 2 ^ 256) : isq n < 2 ^ 128 := by
 apply sq_le
 rw [← Nat.pow_add]
 exact Nat.lt_of_le_of_lt (isq_spec h).1 h
theorem isq_ge {n k : Nat} (h : n < 2 ^ 256) (h2 : 2 ^ (2 * k) ≤ n) : 2 ^ k ≤ isq n := by
 apply Nat.le_of_lt_succ
 apply sq_le
 refine Nat.lt_of_le_of_lt ?_ (isq_spec h).2
 rw [← Nat.pow_add, show k + k = 2 * k by omega]; exact h2
def jamR (n : Nat) : Nat := isq n * 2 ^ 100 + if isq n * isq n = n then 0 else 1
theorem jamR_lt {n : Nat} (h : n < 2 ^ 256) : jamR n < 2 ^ 228 := by
 have := Nat.mul_le_mul_right (2 ^ 100) (isq_lt h)
 rw [← Nat.pow_add, Nat.succ_mul, show (2 : Nat) ^ (128 + 100) = 2 ^ 228 from rfl] at this
 unfold jamR
 have p : (1 : Nat) < 2 ^ 100 := by decide
 generalize (2 : Nat) ^ 100 = P at *
 generalize (2 : Nat) ^ 228 = Q at *
 split <;> omega
theorem jamR_ge {n : Nat} (h : n < 2 ^ 256) (h2 : 2 ^ 254 ≤ n) : 2 ^ 227 ≤ jamR n := by
 have := Nat.mul_le_mul_right (2 ^ 100) (isq_ge (k := 127) h h2)
 rw [← Nat.pow_add, show (2 : Nat) ^ (127 + 100) = 2 ^ 227 from rfl] at this
 unfold jamR
 exact Nat.le_trans this (Nat.le_add_right _ _)
def sqN (f c : Nat) : Nat := if (unExp f c - 255) % 2 = 0 then unSig f c * 2 ^ 128 else unSig f c * 2 ^ 127
def sqX (f c : Nat) : Int := if (unExp f c - 255) % 2 = 0 then (unExp f c - 255) / 2 else (unExp f c - 254) / 2
def sqrtC (f m : Nat) (after : Bool) (c : Nat) : Nat × Nat := roundE (fP f) (fE f) m after false (sqX f c + 155) (jamR (sqN f c))
theorem sqN_rng {f c : Nat} (hf : f < 4) (h0 : 0 < c) (h1 : c < inf f) : 2 ^ 254 ≤ sqN f c ∧ sqN f c < 2 ^ 256 := by
 obtain ⟨s1, s2⟩ := un_sig hf h0 h1
 unfold sqN
 generalize unSig f c = x at *
 have a1 := Nat.mul_le_mul_right (2 ^ 127) s1
 have a2 := Nat.mul_lt_mul_of_pos_right s2 (two_pow_pos 127)
 have a3 : x * 2 ^ 128 = x * 2 ^ 127 * 2 := by rw [Nat.mul_assoc]
 rw [← Nat.pow_add] at a1 a2
 split
 ·constructor
  ·rw [a3]; omega
  ·rw [a3, show (256 : Nat) = 255 + 1 from rfl, Nat.pow_succ]; omega
 ·exact ⟨a1, Nat.lt_trans a2 (by decide)⟩
theorem roundE_jam {p emax m : Nat} {after neg : Bool} {e : Int} {j L M : Nat} (hp : 2 ≤ p) (hq : L / 2 = M / 2 ^ (j + 1)) (hz : L % 2 = 0 ↔ M % 2 ^ (j + 1) = 0) (hbig : 2 ^ (p + 1) ≤ L / 2) :
  roundE p emax m after neg (e + j) L = roundE p emax m after neg e M := by
 unfold roundE
 obtain ⟨P1, hP1⟩ : ∃ k, (e + j - 255 + emax + p - 2 : Int).toNat = k := ⟨_, rfl⟩
 obtain ⟨Q1, hQ1⟩ : ∃ k, (255 + 2 - (e + j) - emax - p : Int).toNat = k := ⟨_, rfl⟩
 obtain ⟨P2, hP2⟩ : ∃ k, (e - 255 + emax + p - 2 : Int).toNat = k := ⟨_, rfl⟩
 obtain ⟨Q2, hQ2⟩ : ∃ k, (255 + 2 - e - emax - p : Int).toNat = k := ⟨_, rfl⟩
 rw [hP1, hQ1, hP2, hQ2]
 have div1 : ∀ (x k P : Nat), x * 2 ^ P / 2 ^ (k + P) = x / 2 ^ k := fun x k P => by rw [Nat.pow_add, Nat.mul_div_mul_right _ _ (two_pow_pos _)]
 have mod1 : ∀ (x k P : Nat), x * 2 ^ P % 2 ^ (k + P) = 0 ↔ x % 2 ^ k = 0 := fun x k P => by
  rw [Nat.pow_add, Nat.mul_mod_mul_right]
  have := two_pow_pos P
  constructor
  ·intro h
   rcases Nat.mul_eq_zero.1 h with h | h
   ·exact h
   ·omega
  ·intro h; rw [h, Nat.zero_mul]
 refine roundC_agree (G1 := 2 ^ (1 + P1)) (G2 := 2 ^ (j + 1 + P2)) (a := (e + j - 255 + emax + p - 1 : Int).toNat) (b := (255 + 1 - (e + j) - emax - p : Int).toNat) hp (two_pow_pos _) (two_pow_pos _) (two_pow_pos _) (two_pow_pos _) ?_ ?_ ?_ ?_ ?_
 ·rw [← Nat.pow_add, ← Nat.pow_add]; congr 1; omega
 ·rw [← Nat.pow_add, ← Nat.pow_add]; congr 1; omega
 ·rw [div1, div1, Nat.pow_one]; exact hq
 ·rw [mod1, mod1, Nat.pow_one]; exact hz
 ·rw [div1, Nat.pow_one]; exact hbig
theorem roundE_shift {p emax m : Nat} {after neg : Bool} {e : Int} {j L : Nat} (hp : 2 ≤ p) :
  roundE p emax m after neg (e + j) L = roundE p emax m after neg e (L * 2 ^ j) := by
 unfold roundE
 apply roundC_ratio hp (two_pow_pos _) (two_pow_pos _)
 rw [Nat.mul_assoc L, ← Nat.pow_add, Nat.mul_assoc, Nat.mul_assoc, ← Nat.pow_add, ← Nat.pow_add]
 congr 2
 omega
def okT (s : Nat) : Prop := s % 2 ^ 30 = 0 ∧ (s = 0 ∨ 2 ^ 253 ≤ s) ∧ s < 2 ^ 256
theorem mod_low {s k n : Nat} (h : s % 2 ^ n = 0) (hk : k ≤ n) : s % 2 ^ k = 0 := by
 have e : s % 2 ^ n % 2 ^ k = s % 2 ^ k := Nat.mod_mod_of_dvd s (Nat.pow_dvd_pow 2 hk)
 rw [h, Nat.zero_mod] at e; exact e.symm
theorem jam_exact {s j : Nat} (h : s % 2 ^ j = 0) : jam s j = s / 2 ^ j := by unfold jam; rw [if_pos h]
theorem jam_zero (j : Nat) : jam 0 j = 0 := by unfold jam; simp
theorem sumE {p emax m : Nat} {after neg : Bool} {e : Int} {d s t : Nat} (hp : 2 ≤ p) (hp2 : p ≤ 240) (hs : okT s) (hs0 : s ≠ 0) :
  roundE p emax m after neg (e + (d + 1 : Nat)) (jam s 1 + jam t (d + 1)) = roundE p emax m after neg e (s * 2 ^ d + t) := by
 obtain ⟨h1, h2, h3⟩ := hs
 have h4 : s % 4 = 0 := mod_low (k := 2) h1 (by decide)
 obtain ⟨q, rfl⟩ : ∃ q, s = 4 * q := ⟨s / 4, by omega⟩
 have hj : jam (4 * q) 1 = 2 * q := by rw [jam_exact (by omega)]; omega
 obtain ⟨g1, g2⟩ := jam_half t (d + 1)
 rw [hj]
 generalize jam t (d + 1) = J at *
 have hpow : 2 ^ (d + 1 + 1) = 4 * 2 ^ d := by rw [Nat.pow_succ, Nat.pow_succ]; omega
 have hM : 4 * q * 2 ^ d + t = 2 ^ (d + 1 + 1) * q + t := by
  rw [hpow, Nat.mul_right_comm]
 refine roundE_jam hp ?_ ?_ ?_
 ·rw [hM, Nat.mul_add_div (two_pow_pos _), ← g1]; omega
 ·rw [hM, Nat.mul_add_mod, Nat.mul_add_mod]; exact g2
 ·have : 2 ^ (p + 1) ≤ 2 ^ 251 := Nat.pow_le_pow_right (by decide) (by omega)
  have : 2 ^ 253 = 4 * 2 ^ 251 := by decide
  omega
theorem diffE {p emax m : Nat} {after neg : Bool} {e : Int} {d s t : Nat} (hp : 2 ≤ p) (hp2 : p ≤ 240) (hs : okT s) (ht : okT t) (hs0 : s ≠ 0) (hle : t ≤ s * 2 ^ d) :
  roundE p emax m after neg (e + d) (s - jam t d) = roundE p emax m after neg e (s * 2 ^ d - t) := by
 by_cases hx : t % 2 ^ d = 0
 ·rw [jam_exact hx, roundE_shift hp]
  congr 1
  rw [Nat.sub_mul, Nat.div_mul_cancel (Nat.dvd_of_mod_eq_zero hx)]
 obtain ⟨h1, h2, h3⟩ := hs
 obtain ⟨k1, k2, k3⟩ := ht
 have hd : 30 < d := by
  apply Nat.lt_of_not_le; intro h
  exact hx (mod_low k1 h)
 have h4 : s % 4 = 0 := mod_low (k := 2) h1 (by decide)
 obtain ⟨q, rfl⟩ : ∃ q, s = 4 * q := ⟨s / 4, by omega⟩
 have hj : jam t d = 2 * (t / 2 ^ (d + 1)) + 1 := by
  unfold jam; rw [if_neg hx, Nat.div_div_eq_div_mul, ← Nat.pow_succ, Nat.mul_comm 2]
 have hsmall : t / 2 ^ (d + 1) < 2 ^ 225 := by
  rw [Nat.div_lt_iff_lt_mul (two_pow_pos _), ← Nat.pow_add]
  exact Nat.lt_of_lt_of_le k3 (Nat.pow_le_pow_right (by decide) (by omega))
 have hx2 : t % 2 ^ (d + 1) ≠ 0 := fun h => hx (mod_low h (by omega))
 have hdm := Nat.div_add_mod t (2 ^ (d + 1))
 have hml := Nat.mod_lt t (two_pow_pos (d + 1))
 rw [hj]
 generalize t / 2 ^ (d + 1) = u at *
 generalize t % 2 ^ (d + 1) = r at *
 have big : 2 ^ 253 ≤ 4 * q := by omega
 have c1 : 2 ^ 253 = 2 ^ 225 * 2 ^ 28 := by rw [← Nat.pow_add]
 have c2 : 2 ^ 251 = 2 ^ 225 * 2 ^ 26 := by rw [← Nat.pow_add]
 have hM : 4 * q * 2 ^ d - t = 2 ^ (d + 1) * (2 * q - u - 1) + (2 ^ (d + 1) - r) := by
  have e1 : 4 * q * 2 ^ d = 2 ^ (d + 1) * (2 * q) := by
   rw [Nat.pow_succ, show 4 * q = 2 * (2 * q) by omega]; ac_rfl
  have e2 : 2 ^ (d + 1) * (2 * q) = 2 ^ (d + 1) * (2 * q - u - 1) + 2 ^ (d + 1) * u + 2 ^ (d + 1) := by
   rw [← Nat.mul_add, ← Nat.mul_succ]; congr 1; omega
  omega
 have hl : 2 ^ (d + 1) - r < 2 ^ (d + 1) := Nat.sub_lt (two_pow_pos _) (by omega)
 have hl0 : 2 ^ (d + 1) - r ≠ 0 := by omega
 refine roundE_jam hp ?_ ?_ ?_
 ·rw [hM, Nat.mul_add_div (two_pow_pos _), Nat.div_eq_of_lt hl]; omega
 ·rw [hM, Nat.mul_add_mod, Nat.mod_eq_of_lt hl]
  constructor
  ·intro h; omega
  ·intro h; exact absurd h hl0
 ·have : 2 ^ (p + 1) ≤ 2 ^ 241 := Nat.pow_le_pow_right (by decide) (by omega)
  have : 2 ^ 241 = 2 ^ 225 * 2 ^ 16 := by rw [← Nat.pow_add]
  omega
def lvl (ea : Int) (sa : Nat) (eb : Int) (sb : Nat) : Int := if sa = 0 ∧ sb ≠ 0 then eb else if sb = 0 ∧ sa ≠ 0 then ea else max ea eb
def sumT (ea : Int) (sa : Nat) (eb : Int) (sb : Nat) : Int × Nat :=
 (lvl ea sa eb sb + 1, jam sa (lvl ea sa eb sb + 1 - ea).toNat + jam sb (lvl ea sa eb sb + 1 - eb).toNat)
def difT (ea : Int) (sa : Nat) (eb : Int) (sb : Nat) : Int × Nat :=
 (lvl ea sa eb sb, jam sa (lvl ea sa eb sb - ea).toNat - jam sb (lvl ea sa eb sb - eb).toNat)
def cmpT (ea : Int) (sa : Nat) (eb : Int) (sb : Nat) : Int :=
 if sa / 2 ^ (max ea eb - ea).toNat < sb / 2 ^ (max ea eb - eb).toNat then -1
 else if sb / 2 ^ (max ea eb - eb).toNat < sa / 2 ^ (max ea eb - ea).toNat then 1
 else if sa % 2 ^ (max ea eb - ea).toNat ≠ 0 then 1 else if sb % 2 ^ (max ea eb - eb).toNat ≠ 0 then -1 else 0
theorem jam0 (s : Nat) : jam s 0 = s := by unfold jam; rw [Nat.pow_zero, Nat.mod_one, if_pos rfl, Nat.div_one]
theorem roundE_zero {p emax m : Nat} {after neg : Bool} {e : Int} : roundE p emax m after neg e 0 = (0, 0) := by unfold roundE; rw [Nat.zero_mul, roundC_zero]
theorem roundE_low {p emax m : Nat} {after neg : Bool} {e L : Int} {s : Nat} (hp : 2 ≤ p) (h : L ≤ e) : roundE p emax m after neg e s = roundE p emax m after neg L (s * 2 ^ (e - L).toNat) := by
 have := roundE_shift (p := p) (emax := emax) (m := m) (after := after) (neg := neg) (e := L) (j := (e - L).toNat) (L := s) hp
 rw [← this]; congr 1; omega
theorem pow_split {a b L : Int} (h1 : b ≤ a) (h2 : L ≤ b) : 2 ^ (a - b).toNat * 2 ^ (b - L).toNat = 2 ^ (a - L).toNat := by rw [← Nat.pow_add]; congr 1; omega
theorem sum_round {p emax m : Nat} {after neg : Bool} {ea eb L : Int} {sa sb : Nat} (hp : 2 ≤ p) (hp2 : p ≤ 240) (ha : okT sa) (hb : okT sb) (hLa : L ≤ ea) (hLb : L ≤ eb) :
  roundE p emax m after neg (sumT ea sa eb sb).1 (sumT ea sa eb sb).2 = roundE p emax m after neg L (sa * 2 ^ (ea - L).toNat + sb * 2 ^ (eb - L).toNat) := by
 unfold sumT
 simp only []
 by_cases za : sa = 0
 ·subst za
  by_cases zb : sb = 0
  ·subst zb
   rw [jam_zero, jam_zero, Nat.zero_mul, Nat.zero_mul, Nat.add_zero, roundE_zero, roundE_zero]
  ·have hl : lvl ea 0 eb sb = eb := by unfold lvl; rw [if_pos ⟨rfl, zb⟩]
   have := sumE (p := p) (emax := emax) (m := m) (after := after) (neg := neg) (e := eb) (d := 0) (s := sb) (t := 0) hp hp2 hb zb
   rw [jam_zero, Nat.pow_zero, Nat.mul_one] at this
   rw [hl, jam_zero, Nat.zero_mul, Nat.zero_add, Nat.zero_add, ← roundE_low hp hLb, show (eb + 1 - eb).toNat = 1 by omega]
   exact this
 ·by_cases zb : sb = 0
  ·subst zb
   have hl : lvl ea sa eb 0 = ea := by unfold lvl; rw [if_neg (fun h => h.2 rfl), if_pos ⟨rfl, za⟩]
   have := sumE (p := p) (emax := emax) (m := m) (after := after) (neg := neg) (e := ea) (d := 0) (s := sa) (t := 0) hp hp2 ha za
   rw [jam_zero, Nat.pow_zero, Nat.mul_one] at this
   rw [hl, jam_zero, Nat.zero_mul, Nat.add_zero, Nat.add_zero, ← roundE_low hp hLa, show (ea + 1 - ea).toNat = 1 by omega]
   exact this
  ·have hl : lvl ea sa eb sb = max ea eb := by unfold lvl; rw [if_neg (fun h => za h.1), if_neg (fun h => zb h.1)]
   rw [hl]
   by_cases hle : eb ≤ ea
   ·have := sumE (p := p) (emax := emax) (m := m) (after := after) (neg := neg) (e := eb) (d := (ea - eb).toNat) (s := sa) (t := sb) hp hp2 ha za
    rw [show (max ea eb + 1 - ea).toNat = 1 by omega, show (max ea eb + 1 - eb).toNat = (ea - eb).toNat + 1 by omega, show max ea eb + 1 = eb + (((ea - eb).toNat + 1 : Nat) : Int) by omega, this, roundE_low hp hLb, Nat.add_mul, Nat.mul_assoc, pow_split hle hLb]
   ·have := sumE (p := p) (emax := emax) (m := m) (after := after) (neg := neg) (e := ea) (d := (eb - ea).toNat) (s := sb) (t := sa) hp hp2 hb zb
    rw [show (max ea eb + 1 - eb).toNat = 1 by omega, show (max ea eb + 1 - ea).toNat = (eb - ea).toNat + 1 by omega, show max ea eb + 1 = ea + (((eb - ea).toNat + 1 : Nat) : Int) by omega, Nat.add_comm (jam sa _), this, roundE_low hp hLa, Nat.add_mul, Nat.mul_assoc, pow_split (by omega) hLa, Nat.add_comm]
theorem dif_round {p emax m : Nat} {after neg : Bool} {ea eb L : Int} {sa sb : Nat} (hp : 2 ≤ p) (hp2 : p ≤ 240) (ha : okT sa) (hb : okT sb) (hLa : L ≤ ea) (hLb : L ≤ eb) (hle : sb * 2 ^ (eb - L).toNat ≤ sa * 2 ^ (ea - L).toNat) :
  roundE p emax m after neg (difT ea sa eb sb).1 (difT ea sa eb sb).2 = roundE p emax m after neg L (sa * 2 ^ (ea - L).toNat - sb * 2 ^ (eb - L).toNat) := by
 unfold difT
 simp only []
 by_cases zb : sb = 0
 ·subst zb
  by_cases za : sa = 0
  ·subst za
   rw [jam_zero, jam_zero, Nat.zero_mul, Nat.zero_mul, Nat.sub_zero, roundE_zero, roundE_zero]
  ·have hl : lvl ea sa eb 0 = ea := by unfold lvl; rw [if_neg (fun h => h.2 rfl), if_pos ⟨rfl, za⟩]
   rw [hl, jam_zero, Nat.zero_mul, Nat.sub_zero, Nat.sub_zero, ← roundE_low hp hLa, show (ea - ea).toNat = 0 by omega, jam0]
 ·have za : sa ≠ 0 := by
   intro za; subst za
   rw [Nat.zero_mul] at hle
   have := Nat.mul_pos (Nat.pos_of_ne_zero zb) (two_pow_pos (eb - L).toNat)
   omega
  have hl : lvl ea sa eb sb = max ea eb := by unfold lvl; rw [if_neg (fun h => za h.1), if_neg (fun h => zb h.1)]
  rw [hl]
  by_cases hee : eb ≤ ea
  ·have hle2 : sb ≤ sa * 2 ^ (ea - eb).toNat := by
    rw [← pow_split hee hLb, ← Nat.mul_assoc] at hle
    exact Nat.le_of_mul_le_mul_right hle (two_pow_pos _)
   have := diffE (p := p) (emax := emax) (m := m) (after := after) (neg := neg) (e := eb) (d := (ea - eb).toNat) (s := sa) (t := sb) hp hp2 ha hb za hle2
   rw [show (max ea eb - ea).toNat = 0 by omega, jam0, show (max ea eb - eb).toNat = (ea - eb).toNat by omega, show max ea eb = eb + ((ea - eb).toNat : Int) by omega, this, roundE_low hp hLb, Nat.sub_mul, Nat.mul_assoc, pow_split hee hLb]
  ·have hle2 : sb * 2 ^ (eb - ea).toNat ≤ sa := by
    rw [← pow_split (show ea ≤ eb by omega) hLa, ← Nat.mul_assoc] at hle
    exact Nat.le_of_mul_le_mul_right hle (two_pow_pos _)
   have hd : (eb - ea).toNat ≤ 2 := by
    apply Nat.le_of_not_lt; intro h
    have h1 : 2 ^ 253 * 2 ^ 3 ≤ sb * 2 ^ (eb - ea).toNat := Nat.mul_le_mul (hb.2.1.resolve_left zb) (Nat.pow_le_pow_right (by decide) h)
    have h2 := ha.2.2
    rw [← Nat.pow_add] at h1
    exact absurd (Nat.lt_of_le_of_lt (Nat.le_trans h1 hle2) h2) (by decide)
   have hx : sa % 2 ^ (eb - ea).toNat = 0 := mod_low ha.1 (by omega)
   rw [show (max ea eb - eb).toNat = 0 by omega, jam0, show (max ea eb - ea).toNat = (eb - ea).toNat by omega, jam_exact hx, show max ea eb = eb by omega]
   rw [roundE_low hp hLb, Nat.sub_mul]
   congr 2
   rw [← pow_split (show ea ≤ eb by omega) hLa, ← Nat.mul_assoc, Nat.div_mul_cancel (Nat.dvd_of_mod_eq_zero hx)]
theorem cmp_key {x y d : Nat} : (x < y / 2 ^ d ∨ (x = y / 2 ^ d ∧ y % 2 ^ d ≠ 0)) ↔ x * 2 ^ d < y := by
 have h1 := Nat.div_add_mod y (2 ^ d)
 have h2 := Nat.mod_lt y (two_pow_pos d)
 rw [Nat.mul_comm] at h1
 generalize y / 2 ^ d = q at *
 generalize y % 2 ^ d = r at *
 generalize 2 ^ d = D at *
 constructor
 ·rintro (h | ⟨rfl, h⟩)
  ·have := Nat.mul_le_mul_right D h
   rw [Nat.succ_mul] at this; omega
  ·omega
 ·intro h
  rcases Nat.lt_trichotomy x q with hl | he | hg
  ·exact .inl hl
  ·subst he; exact .inr ⟨rfl, by omega⟩
  ·have := Nat.mul_le_mul_right D hg
   rw [Nat.succ_mul] at this; omega
theorem cmp_key2 {x y d : Nat} : y / 2 ^ d < x ↔ y < x * 2 ^ d := Nat.div_lt_iff_lt_mul (two_pow_pos d)
theorem cmpT_lt {ea eb L : Int} {sa sb : Nat} (hLa : L ≤ ea) (hLb : L ≤ eb) : cmpT ea sa eb sb < 0 ↔ sa * 2 ^ (ea - L).toNat < sb * 2 ^ (eb - L).toNat := by
 unfold cmpT
 by_cases hle : eb ≤ ea
 ·rw [show (max ea eb - ea).toNat = 0 by omega, show (max ea eb - eb).toNat = (ea - eb).toNat by omega, Nat.pow_zero, Nat.div_one, Nat.mod_one, ← pow_split hle hLb, ← Nat.mul_assoc]
  rw [show (sa * 2 ^ (ea - eb).toNat * 2 ^ (eb - L).toNat < sb * 2 ^ (eb - L).toNat) ↔ sa * 2 ^ (ea - eb).toNat < sb from Nat.mul_lt_mul_right (two_pow_pos _), ← cmp_key]
  split
  ·rename_i h; exact ⟨fun _ => .inl h, fun _ => by omega⟩
  ·rename_i h
   split
   ·rename_i h2; exact ⟨fun h3 => by omega, fun h3 => by omega⟩
   ·rename_i h2
    rw [if_neg (by omega)]
    split
    ·rename_i h3; exact ⟨fun _ => .inr ⟨by omega, h3⟩, fun _ => by omega⟩
    ·rename_i h3; exact ⟨fun h4 => by omega, fun h4 => by omega⟩
 ·rw [show (max ea eb - eb).toNat = 0 by omega, show (max ea eb - ea).toNat = (eb - ea).toNat by omega, Nat.pow_zero, Nat.div_one, Nat.mod_one, ← pow_split (show ea ≤ eb by omega) hLa, ← Nat.mul_assoc]
  rw [show (sa * 2 ^ (ea - L).toNat < sb * 2 ^ (eb - ea).toNat * 2 ^ (ea - L).toNat) ↔ sa < sb * 2 ^ (eb - ea).toNat from Nat.mul_lt_mul_right (two_pow_pos _), ← cmp_key2]
  split
  ·rename_i h; exact ⟨fun _ => h, fun _ => by omega⟩
  ·rename_i h
   split
   ·exact ⟨fun h3 => by omega, fun h3 => by omega⟩
   ·split
    ·exact ⟨fun h3 => by omega, fun h3 => by omega⟩
    ·rw [if_neg (by omega)]; exact ⟨fun h3 => by omega, fun h3 => by omega⟩
theorem okT_num {f c : Nat} (hf : f < 4) (h0 : 0 < c) (h1 : c < inf f) : okT (unSig f c * 2 ^ 128) := by
 obtain ⟨s1, s2⟩ := un_sig hf h0 h1
 refine ⟨?_, .inr ?_, ?_⟩
 ·rw [show (128 : Nat) = 30 + 98 from rfl, Nat.pow_add, ← Nat.mul_assoc, Nat.mul_right_comm, Nat.mul_mod_left]
 ·have := Nat.mul_le_mul_right (2 ^ 128) s1
  rw [← Nat.pow_add] at this
  exact Nat.le_trans (by decide) this
 ·have := Nat.mul_lt_mul_of_pos_right s2 (two_pow_pos 128)
  rw [← Nat.pow_add] at this; exact this
theorem okT_zero : okT 0 := ⟨rfl, .inl rfl, two_pow_pos 256⟩
theorem at_num {f c : Nat} (hf : f < 4) (h0 : 0 < c) (h1 : c < inf f) : unSig f c * 2 ^ 128 * 2 ^ (unExp f c + 40000).toNat = val f c * 2 ^ (255 - fU f + 40000 : Int).toNat := by
 have hv := un_val hf h0 h1
 have hr := un_exp hf h1
 obtain ⟨n1, n2, n3, n4, n5, n6, n7, n8, n9⟩ := fmtN hf
 have hU : fU f ≤ 16500 := by unfold fU; omega
 generalize unExp f c = e at *
 generalize unSig f c = x at *
 generalize val f c = C at *
 apply Nat.eq_of_mul_eq_mul_right (two_pow_pos (127 - e - fU f : Int).toNat)
 rw [Nat.mul_right_comm C, ← hv, Nat.mul_assoc x, Nat.mul_assoc x, Nat.mul_assoc x, ← Nat.pow_add, ← Nat.pow_add, ← Nat.pow_add]
 congr 2
 omega
theorem round_units {f m : Nat} {after neg : Bool} {V : Nat} (hf : f < 4) : roundE (fP f) (fE f) m after neg (-40000) (V * 2 ^ (255 - fU f + 40000 : Int).toNat) = roundC (fP f) (fE f) m after neg V 1 := by
 obtain ⟨n1, n2, n3, n4, n5, n6, n7, n8, n9⟩ := fmtN hf
 apply roundE_ratio n1 (by decide)
 have hU : fU f = fE f + fP f - 2 := rfl
 rw [Nat.mul_one, Nat.mul_assoc, ← Nat.pow_add]
 congr 2
 omega
def sgV (s t : Bool) (A B : Nat) : Nat := if s = t then A + B else if A < B then B - A else A - B
def sgS (s t : Bool) (A B : Nat) : Bool := if s = t then s else if A < B then t else s
def sgN (m : Nat) (s t : Bool) (A B : Nat) : Bool := if sgV s t A B = 0 then (if s = t then s else decide (m = 3)) else sgS s t A B
def resT (s t : Bool) (ea : Int) (sa : Nat) (eb : Int) (sb : Nat) : Int × Nat :=
 if s = t then sumT ea sa eb sb else if cmpT ea sa eb sb < 0 then difT eb sb ea sa else difT ea sa eb sb
def resS (s t : Bool) (ea : Int) (sa : Nat) (eb : Int) (sb : Nat) : Bool := if s = t then s else if cmpT ea sa eb sb < 0 then t else s
theorem roundE_nought {p emax m : Nat} {after neg : Bool} {e : Int} {s : Nat} (hp : 2 ≤ p) (h : roundE p emax m after neg e s = (0, 0)) : s = 0 := by
 unfold roundE at h
 have hD := two_pow_pos (255 + 2 - e - emax - p : Int).toNat
 obtain ⟨c, hc, hv⟩ := roundC_flags hp hD (by rw [h])
 have h2 := roundC_exact (m := m) (after := after) (neg := neg) hp hD hc hv
 rw [h] at h2
 have hc0 : c = 0 := (congrArg Prod.fst h2).symm
 rw [hc0, cval_zero, Nat.zero_mul] at hv
 rcases Nat.mul_eq_zero.1 hv with h | h
 ·exact h
 ·have := two_pow_pos (e - 255 + emax + p - 2 : Int).toNat; omega
theorem roundE_nought_iff {p emax m : Nat} {after neg : Bool} {e e2 : Int} {s s2 : Nat} (hp : 2 ≤ p) (h : roundE p emax m after neg e s = roundE p emax m after neg e2 s2) : s = 0 ↔ s2 = 0 := by
 constructor
 ·intro h0; rw [h0, roundE_zero] at h; exact roundE_nought hp h.symm
 ·intro h0; rw [h0, roundE_zero] at h; exact roundE_nought hp h
theorem res_round {p emax m : Nat} {after neg : Bool} {ea eb : Int} {sa sb A B k : Nat} (hp : 2 ≤ p) (hp2 : p ≤ 240) (ha : okT sa) (hb : okT sb) (hLa : -40000 ≤ ea) (hLb : -40000 ≤ eb)
  (hA : sa * 2 ^ (ea + 40000).toNat = A * 2 ^ k) (hB : sb * 2 ^ (eb + 40000).toNat = B * 2 ^ k) (s t : Bool) :
  roundE p emax m after neg (resT s t ea sa eb sb).1 (resT s t ea sa eb sb).2 = roundE p emax m after neg (-40000) (sgV s t A B * 2 ^ k) ∧ resS s t ea sa eb sb = sgS s t A B := by
 have e1 : (ea - -40000).toNat = (ea + 40000).toNat := by congr 1
 have e2 : (eb - -40000).toNat = (eb + 40000).toNat := by congr 1
 have hc := cmpT_lt (ea := ea) (eb := eb) (L := -40000) (sa := sa) (sb := sb) hLa hLb
 rw [e1, e2, hA, hB, show (A * 2 ^ k < B * 2 ^ k) ↔ A < B from Nat.mul_lt_mul_right (two_pow_pos k)] at hc
 unfold resT resS sgV sgS
 by_cases hst : s = t
 ·rw [if_pos hst, if_pos hst, if_pos hst, if_pos hst]
  refine ⟨?_, rfl⟩
  rw [sum_round hp hp2 ha hb hLa hLb, e1, e2, hA, hB, Nat.add_mul]
 ·rw [if_neg hst, if_neg hst, if_neg hst, if_neg hst]
  by_cases hl : A < B
  ·rw [if_pos (hc.2 hl), if_pos (hc.2 hl), if_pos hl, if_pos hl]
   refine ⟨?_, rfl⟩
   rw [dif_round hp hp2 hb ha hLb hLa (by rw [e1, e2, hA, hB]; exact Nat.mul_le_mul_right _ (Nat.le_of_lt hl)), e1, e2, hA, hB, Nat.sub_mul]
  ·rw [if_neg (fun h => hl (hc.1 h)), if_neg (fun h => hl (hc.1 h)), if_neg hl, if_neg hl]
   refine ⟨?_, rfl⟩
   rw [dif_round hp hp2 ha hb hLa hLb (by rw [e1, e2, hA, hB]; exact Nat.mul_le_mul_right _ (by omega)), e1, e2, hA, hB, Nat.sub_mul]
theorem res_full {p emax m : Nat} {after : Bool} {ea eb : Int} {sa sb A B k : Nat} (hp : 2 ≤ p) (hp2 : p ≤ 240) (ha : okT sa) (hb : okT sb) (hLa : -40000 ≤ ea) (hLb : -40000 ≤ eb)
  (hA : sa * 2 ^ (ea + 40000).toNat = A * 2 ^ k) (hB : sb * 2 ^ (eb + 40000).toNat = B * 2 ^ k) (s t : Bool) :
  (if (resT s t ea sa eb sb).2 = 0 then (if s = t then s else decide (m = 3)) else resS s t ea sa eb sb) = sgN m s t A B ∧
  roundE p emax m after (sgN m s t A B) (resT s t ea sa eb sb).1 (resT s t ea sa eb sb).2 = roundE p emax m after (sgN m s t A B) (-40000) (sgV s t A B * 2 ^ k) := by
 obtain ⟨h1, h2⟩ := res_round (emax := emax) (m := m) (after := after) (neg := sgN m s t A B) hp hp2 ha hb hLa hLb hA hB s t
 refine ⟨?_, h1⟩
 have hz := roundE_nought_iff hp h1
 have hz2 : sgV s t A B * 2 ^ k = 0 ↔ sgV s t A B = 0 := by
  have := two_pow_pos k
  constructor
  ·intro h
   rcases Nat.mul_eq_zero.1 h with h | h
   ·exact h
   ·omega
  ·intro h; rw [h, Nat.zero_mul]
 rw [h2]
 unfold sgN
 by_cases h : sgV s t A B = 0
 ·rw [if_pos h, if_pos (hz.2 (hz2.2 h))]
 ·rw [if_neg h, if_neg (fun h3 => h (hz2.1 (hz.1 h3)))]
def tmE (f c : Nat) : Int := if c = 0 then 0 else unExp f c
def tmS (f c : Nat) : Nat := if c = 0 then 0 else unSig f c * 2 ^ 128
theorem fU_le {f : Nat} (hf : f < 4) : fU f ≤ 16500 := by
 obtain ⟨n1, n2, n3, n4, n5, n6, n7, n8, n9⟩ := fmtN hf
 unfold fU; omega
theorem tm_ok {f c : Nat} (hf : f < 4) (hc : c < inf f) : okT (tmS f c) ∧ -40000 ≤ tmE f c ∧ tmS f c * 2 ^ (tmE f c + 40000).toNat = val f c * 2 ^ (255 - fU f + 40000 : Int).toNat := by
 unfold tmS tmE
 by_cases h : c = 0
 ·rw [if_pos h, if_pos h, h]
  refine ⟨okT_zero, by omega, ?_⟩
  unfold val
  rw [cval_zero, Nat.zero_mul, Nat.zero_mul]
 ·rw [if_neg h, if_neg h]
  have := un_exp hf hc
  exact ⟨okT_num hf (by omega) hc, by omega, at_num hf (by omega) hc⟩
def addN (f m : Nat) (s t : Bool) (c d : Nat) : Bool := sgN m s t (val f c) (val f d)
def addC (f m : Nat) (after s t : Bool) (c d : Nat) : Nat × Nat := roundC (fP f) (fE f) m after (addN f m s t c d) (sgV s t (val f c) (val f d)) 1
theorem fP_240 {f : Nat} (hf : f < 4) : fP f ≤ 240 := by have := fP_le hf; omega
theorem add_res {f m c d : Nat} {after : Bool} (hf : f < 4) (hc : c < inf f) (hd : d < inf f) (s t : Bool) :
  (if (resT s t (tmE f c) (tmS f c) (tmE f d) (tmS f d)).2 = 0 then (if s = t then s else decide (m = 3)) else resS s t (tmE f c) (tmS f c) (tmE f d) (tmS f d)) = addN f m s t c d ∧
  roundE (fP f) (fE f) m after (addN f m s t c d) (resT s t (tmE f c) (tmS f c) (tmE f d) (tmS f d)).1 (resT s t (tmE f c) (tmS f c) (tmE f d) (tmS f d)).2 = addC f m after s t c d := by
 obtain ⟨a1, a2, a3⟩ := tm_ok hf hc
 obtain ⟨b1, b2, b3⟩ := tm_ok hf hd
 obtain ⟨h1, h2⟩ := res_full (emax := fE f) (m := m) (after := after) (fP_ge hf) (fP_240 hf) a1 b1 a2 b2 a3 b3 s t
 exact ⟨h1, h2.trans (round_units hf)⟩
def oneC (f : Nat) : Nat := fE f * 2 ^ (fP f - 1)
theorem oneC_fin {f : Nat} (hf : f < 4) : oneC f < inf f := one_fin hf
theorem upN_zero (neg : Bool) (N D : Nat) : upN 4 neg N D = false := by
 unfold upN; rw [show nextN 4 neg (oddN (N / D)) (restN N D) = false from rfl, Bool.and_false]
theorem roundC_cut {p emax : Nat} {after neg : Bool} {N D q k : Nat} (hp : 2 ≤ p) (hD : 0 < D) (h : roundC p emax 4 after neg N D = (q, k)) (hk : k ≠ 20) : cval p q * D ≤ N ∧ N < cval p (q + 1) * D := by
 unfold roundC at h
 by_cases hi : infC p emax ≤ fcode p 4 neg N D
 ·rw [if_pos hi] at h
  exact absurd (congrArg Prod.snd h).symm hk
 ·rw [if_neg hi] at h
  have hq := congrArg Prod.fst h
  simp only [] at hq
  rw [fcode_flc, upN_zero] at hq
  have e : flc p N D = q := by rw [← hq]; rfl
  rw [← e]
  exact flc_between hp hD
theorem roundC_flag0 {p emax m : Nat} {after neg : Bool} {N D q : Nat} (hp : 2 ≤ p) (hD : 0 < D) (h : roundC p emax m after neg N D = (q, 0)) : q < infC p emax ∧ N = cval p q * D := by
 obtain ⟨c, hc, hv⟩ := roundC_flags hp hD (by rw [h])
 have h2 := roundC_exact (m := m) (after := after) (neg := neg) hp hD hc hv
 rw [h] at h2
 have e : q = c := congrArg Prod.fst h2
 rw [e]; exact ⟨hc, hv⟩
theorem un_lo {f c : Nat} (hf : f < 4) (h0 : 0 < c) (h1 : c < inf f) : 2 - (fE f : Int) - fP f ≤ unExp f c ∧ unExp f c ≤ fE f := by
 obtain ⟨n1, n2, n3, n4, n5, n6, n7, n8, n9⟩ := fmtN hf
 unfold unExp
 by_cases h : c < 2 ^ (fP f - 1)
 ·rw [if_pos h]
  have := lenN_iff.2 h
  have := (lenN_lo (show c ≠ 0 by omega)).2.2
  omega
 ·rw [if_neg h]
  have : c / 2 ^ (fP f - 1) < 2 * fE f + 1 := by
   rw [Nat.div_lt_iff_lt_mul (two_pow_pos _)]; exact h1
  generalize c / 2 ^ (fP f - 1) = k at *
  omega
theorem fE_big {f : Nat} (hf : f < 4) : fP f + 4 ≤ fE f ∧ 15 ≤ fE f := by rcases f4 hf with rfl | rfl | rfl | rfl <;> decide
def rtN (f c : Nat) : Nat := jamR (sqN f c) * 2 ^ (sqX f c + 155 - 255 + fE f + fP f - 2).toNat
def rtD (f c : Nat) : Nat := 2 ^ (255 + 2 - (sqX f c + 155) - fE f - fP f).toNat
theorem sqrtC_eq (f m : Nat) (after : Bool) (c : Nat) : sqrtC f m after c = roundC (fP f) (fE f) m after false (rtN f c) (rtD f c) := rfl
theorem rt_pos (f c : Nat) : 0 < rtD f c := two_pow_pos _
theorem sqX_rng {f c : Nat} (hf : f < 4) (h0 : 0 < c) (h1 : c < inf f) : -126 - (fE f : Int) ≤ sqX f c ∧ sqX f c ≤ (fE f : Int) - 130 := by
 have := un_lo hf h0 h1
 have := fE_big hf
 unfold sqX
 split <;> omega
theorem rt_rng {f c : Nat} (hf : f < 4) (h0 : 0 < c) (h1 : c < inf f) : rtD f c * 2 ^ (fP f - 1) ≤ rtN f c ∧ 2 * rtN f c ≤ rtD f c * 2 ^ (fE f + fU f) := by
 have hr := sqX_rng hf h0 h1
 obtain ⟨q1, q2⟩ := sqN_rng hf h0 h1
 have j1 := jamR_lt q2
 have j2 := jamR_ge q2 q1
 obtain ⟨n1, n2, n3, n4, n5, n6, n7, n8, n9⟩ := fmtN hf
 unfold rtN rtD
 generalize jamR (sqN f c) = J at *
 generalize sqX f c = X at *
 constructor
 ·have := Nat.mul_le_mul_right (2 ^ (X + 155 - 255 + fE f + fP f - 2).toNat) j2
  rw [← Nat.pow_add] at this
  refine Nat.le_trans ?_ this
  rw [← Nat.pow_add]
  exact Nat.pow_le_pow_right (by decide) (by omega)
 ·have := Nat.mul_le_mul_right (2 ^ (X + 155 - 255 + fE f + fP f - 2).toNat) (Nat.mul_le_mul_left 2 (Nat.le_of_lt j1))
  rw [Nat.mul_assoc] at this
  refine Nat.le_trans this ?_
  rw [show (2 : Nat) * 2 ^ 228 = 2 ^ 229 from rfl, ← Nat.pow_add, ← Nat.pow_add]
  exact Nat.pow_le_pow_right (by decide) (by unfold fU; omega)
theorem fcode_far {f m : Nat} {neg : Bool} {N D : Nat} (hf : f < 4) (hD : 0 < D) (h : N ≤ D * 2 ^ (fE f + fU f)) : fcode (fP f) m neg N D < infC (fP f) (fE f) := by
 have hp := fP_ge hf
 have hb := fE_big hf
 have hv : val f (2 * fE f * 2 ^ (fP f - 1)) = 2 ^ (fE f + fU f) := by
  rw [val_pow hf (by omega)]; congr 1; unfold fU; omega
 have e : fcode (fP f) m neg (2 ^ (fE f + fU f)) 1 = 2 * fE f * 2 ^ (fP f - 1) := fcode_exact hp (by decide) (by rw [← hv, Nat.mul_one])
 have := fcode_mono (p := fP f) (m := m) (neg := neg) (N1 := N) (D1 := D) (N2 := 2 ^ (fE f + fU f)) (D2 := 1) hp hD (by decide) (by rw [Nat.mul_one, Nat.mul_comm]; exact h)
 rw [e] at this
 refine Nat.lt_of_le_of_lt this ?_
 unfold infC
 exact Nat.mul_lt_mul_of_pos_right (by omega) (two_pow_pos _)
theorem sqrtC_code {f m c : Nat} {after : Bool} (hf : f < 4) (h0 : 0 < c) (h1 : c < inf f) : (sqrtC f m after c).1 < inf f ∧ 2 ^ (fP f - 1) ≤ (sqrtC f m after c).1 ∧ ((sqrtC f m after c).2 = 0 ∨ (sqrtC f m after c).2 = 16) := by
 obtain ⟨r1, r2⟩ := rt_rng hf h0 h1
 have hp := fP_ge hf
 have hD := rt_pos f c
 have hi := fcode_far (m := m) (neg := false) hf hD (show rtN f c ≤ rtD f c * 2 ^ (fE f + fU f) by omega)
 have ht : tinyF (fP f) m after false (rtN f c) (rtD f c) = false := tiny_false hp hD r1
 have hlo : 2 ^ (fP f - 1) ≤ fcode (fP f) m false (rtN f c) (rtD f c) := by
  have hv : cval (fP f) (2 ^ (fP f - 1)) = 2 ^ (fP f - 1) := by
   have := cval_of (p := fP f) (s := 0) (q := 2 ^ (fP f - 1)) hp (by have := half_pow hp; omega) (fun h => absurd rfl h)
   rw [Nat.zero_mul, Nat.zero_add, Nat.pow_zero, Nat.mul_one] at this; exact this
  have e : fcode (fP f) m false (2 ^ (fP f - 1)) 1 = 2 ^ (fP f - 1) := fcode_exact hp (by decide) (by rw [hv, Nat.mul_one])
  have := fcode_mono (p := fP f) (m := m) (neg := false) (N1 := 2 ^ (fP f - 1)) (D1 := 1) (N2 := rtN f c) (D2 := rtD f c) hp (by decide) hD (by rw [Nat.mul_one, Nat.mul_comm]; exact r1)
  rw [e] at this; exact this
 rw [sqrtC_eq]
 unfold roundC
 rw [if_neg (by omega), ht]
 refine ⟨hi, hlo, ?_⟩
 simp only []
 split <;> simp
theorem sq_at {f c : Nat} (hf : f < 4) (h0 : 0 < c) (h1 : c < inf f) : sqN f c * 2 ^ (2 * sqX f c + 40255).toNat = val f c * 2 ^ (255 - fU f + 40000 : Int).toNat := by
 have ha := at_num hf h0 h1
 have hr := un_exp hf h1
 rw [← ha]
 unfold sqN sqX
 generalize unExp f c = e at *
 by_cases h : (e - 255) % 2 = 0
 ·rw [if_pos h, if_pos h]; congr 2; omega
 ·rw [if_neg h, if_neg h, Nat.mul_assoc, Nat.mul_assoc, ← Nat.pow_add, ← Nat.pow_add]; congr 2; omega
theorem sqrtC_square {f m c d : Nat} {after : Bool} (hf : f < 4) (c0 : 0 < c) (c1 : c < inf f) (d0 : 0 < d) (d1 : d < inf f) (h : val f c * val f c = val f d * 2 ^ fU f) : sqrtC f m after d = (c, 0) := by
 obtain ⟨q1, q2⟩ := sqN_rng hf d0 d1
 obtain ⟨s1, s2⟩ := un_sig hf c0 c1
 have hr := un_exp hf c1
 have hX := sqX_rng hf d0 d1
 have hU := fU_le hf
 obtain ⟨n1, n2, n3, n4, n5, n6, n7, n8, n9⟩ := fmtN hf
 have ha := at_num hf c0 c1
 have hd := sq_at hf d0 d1
 have t1 := Nat.mul_le_mul s1 s1
 have t2 := Nat.mul_lt_mul'' s2 s2
 rw [← Nat.pow_add] at t1 t2
 have sq : unSig f c * unSig f c * 2 ^ (2 * (unExp f c - 127) + 80510).toNat = sqN f d * 2 ^ (2 * sqX f d + 80510).toNat := by
  obtain ⟨K, hK⟩ : ∃ K : Nat, K = 40255 := ⟨_, rfl⟩
  have e1 : unSig f c * unSig f c * 2 ^ (2 * (unExp f c - 127) + 80510).toNat = (unSig f c * 2 ^ 128 * 2 ^ (unExp f c + 40000).toNat) * (unSig f c * 2 ^ 128 * 2 ^ (unExp f c + 40000).toNat) := by
   rw [show (unSig f c * 2 ^ 128 * 2 ^ (unExp f c + 40000).toNat) * (unSig f c * 2 ^ 128 * 2 ^ (unExp f c + 40000).toNat) = unSig f c * unSig f c * (2 ^ 128 * 2 ^ (unExp f c + 40000).toNat * 2 ^ 128 * 2 ^ (unExp f c + 40000).toNat) by ac_rfl, ← Nat.pow_add, ← Nat.pow_add, ← Nat.pow_add]
   congr 2; omega
  have e2 : sqN f d * 2 ^ (2 * sqX f d + 80510).toNat = sqN f d * 2 ^ (2 * sqX f d + 40255).toNat * 2 ^ K := by
   rw [Nat.mul_assoc, ← Nat.pow_add]; congr 2; omega
  rw [e1, e2, ha, hd, show val f c * 2 ^ (255 - fU f + 40000 : Int).toNat * (val f c * 2 ^ (255 - fU f + 40000 : Int).toNat) = val f c * val f c * (2 ^ (255 - fU f + 40000 : Int).toNat * 2 ^ (255 - fU f + 40000 : Int).toNat) by ac_rfl, h, show val f d * 2 ^ fU f * (2 ^ (255 - fU f + 40000 : Int).toNat * 2 ^ (255 - fU f + 40000 : Int).toNat) = val f d * (2 ^ fU f * 2 ^ (255 - fU f + 40000 : Int).toNat * 2 ^ (255 - fU f + 40000 : Int).toNat) by ac_rfl, Nat.mul_assoc (val f d), ← Nat.pow_add, ← Nat.pow_add, ← Nat.pow_add]
  congr 2; omega
 generalize hS : unSig f c * unSig f c = S at *
 generalize hn0 : sqN f d = n at *
 have hXe : sqX f d = unExp f c - 127 := by
  rcases Int.lt_trichotomy (sqX f d) (unExp f c - 127) with hl | he | hg
  ·exfalso
   obtain ⟨k, hk⟩ : ∃ k, (2 * (unExp f c - 127) + 80510).toNat = (2 * sqX f d + 80510).toNat + (k + 2) := ⟨(2 * (unExp f c - 127 - sqX f d)).toNat - 2, by omega⟩
   rw [hk, Nat.pow_add _ _ (k + 2), ← Nat.mul_assoc, Nat.mul_right_comm] at sq
   have := Nat.eq_of_mul_eq_mul_right (two_pow_pos _) sq
   have p : 2 ^ 2 ≤ 2 ^ (k + 2) := Nat.pow_le_pow_right (by decide) (by omega)
   have := Nat.mul_le_mul t1 p
   rw [← Nat.pow_add] at this
   have e : (2 : Nat) ^ (127 + 127 + 2) = 2 ^ 256 := rfl
   omega
  ·exact he
  ·exfalso
   obtain ⟨k, hk⟩ : ∃ k, (2 * sqX f d + 80510).toNat = (2 * (unExp f c - 127) + 80510).toNat + (k + 2) := ⟨(2 * (sqX f d - (unExp f c - 127))).toNat - 2, by omega⟩
   rw [hk, Nat.pow_add _ _ (k + 2), ← Nat.mul_assoc, Nat.mul_right_comm] at sq
   have := Nat.eq_of_mul_eq_mul_right (two_pow_pos _) sq
   have p : 2 ^ 2 ≤ 2 ^ (k + 2) := Nat.pow_le_pow_right (by decide) (by omega)
   have := Nat.mul_le_mul q1 p
   rw [← Nat.pow_add] at this
   have e : (2 : Nat) ^ (254 + 2) = 2 ^ (128 + 128) := rfl
   omega
 have hn : S = n := by
  rw [hXe] at sq
  exact Nat.eq_of_mul_eq_mul_right (two_pow_pos _) sq
 have hi : isq n = unSig f c := by
  apply isq_uniq q2
  ·rw [hS, hn]; exact Nat.le_refl _
  ·rw [← hn, ← hS]; exact Nat.mul_lt_mul'' (Nat.lt_succ_self _) (Nat.lt_succ_self _)
 have hJ : jamR n = unSig f c * 2 ^ 100 := by
  unfold jamR
  rw [hi, hS, if_pos hn, Nat.add_zero]
 have hfin : sqrtC f m after d = roundE (fP f) (fE f) m after false (unExp f c) (unSig f c * 2 ^ 128) := by
  unfold sqrtC
  rw [hn0, hJ, hXe]
  have := roundE_shift (p := fP f) (emax := fE f) (m := m) (after := after) (neg := false) (e := unExp f c) (j := 28) (L := unSig f c * 2 ^ 100) (fP_ge hf)
  rw [Nat.mul_assoc, ← Nat.pow_add] at this
  rw [← this]
  congr 1; omega
 rw [hfin, round_conv hf hf c0 c1]
 exact convC_fits hf c1 rfl
end Go.Proofs.YtkfbdlidigmfbaaGreatDoor.FP
namespace Go.Proofs.YtkfbdlidigmfbaaGreatDoor
set_option linter.unusedVariables false
set_option linter.unusedSimpArgs false
set_option maxRecDepth 100000
open Go.RowKit
end Go.Proofs.YtkfbdlidigmfbaaGreatDoor
namespace Go.Proofs.YtkfbdlidigmfbaaGreatDoor
set_option linter.unusedVariables false
set_option linter.unusedSimpArgs false
set_option maxRecDepth 100000
open Go.RowKit
def addI (f a b : Nat) : Bool := decide (clsF f a = 3) && (decide (clsF f b = 3) && (FP.sgn f a != FP.sgn f b))
def addR (f m : Nat) (after : Bool) (a b : Nat) : Nat × Nat :=
 if 4 ≤ clsF f a then (quN f a, nanFlag f a b) else if 4 ≤ clsF f b then (quN f b, nanFlag f a b)
 else if addI f a b = true then (dfl f, 1)
 else if clsF f a = 3 then (FP.mk f (FP.sgn f a) (FP.inf f), 0)
 else if clsF f b = 3 then (FP.mk f (FP.sgn f b) (FP.inf f), 0)
 else (FP.mk f (FP.addN f m (FP.sgn f a) (FP.sgn f b) (FP.cod f a) (FP.cod f b)) (FP.addC f m after (FP.sgn f a) (FP.sgn f b) (FP.cod f a) (FP.cod f b)).1, (FP.addC f m after (FP.sgn f a) (FP.sgn f b) (FP.cod f a) (FP.cod f b)).2)
theorem addI_cls {f a b : Nat} (h : addI f a b = true) : clsF f a = 3 ∧ clsF f b = 3 := by
 unfold addI at h
 simp only [Bool.and_eq_true, decide_eq_true_iff] at h
 exact ⟨h.1, h.2.1⟩
theorem nanFlag_le (f a b : Nat) : nanFlag f a b ≤ 1 := by unfold nanFlag; split <;> omega
theorem addR_flag (f m : Nat) (after : Bool) (a b : Nat) : (addR f m after a b).2 ≤ 24 := by
 have := nanFlag_le f a b
 unfold addR
 split
 ·simp only []; omega
 ·split
  ·simp only []; omega
  ·split
   ·simp
   ·split
    ·simp
    ·split
     ·simp
     ·have := FP.roundC_flag_set (FP.fP f) (FP.fE f) m after (FP.addN f m (FP.sgn f a) (FP.sgn f b) (FP.cod f a) (FP.cod f b)) (FP.sgV (FP.sgn f a) (FP.sgn f b) (FP.val f (FP.cod f a)) (FP.val f (FP.cod f b))) 1
      unfold FP.addC; simp only []; omega
theorem clsC_zero_iff {f k : Nat} : FP.clsC f k = 0 ↔ k = 0 := by
 unfold FP.clsC
 by_cases h : k = 0
 ·rw [if_pos h]; simp [h]
 ·rw [if_neg h]
  constructor
  ·intro h2
   exfalso
   revert h2
   split
   ·simp
   ·split
    ·simp
    ·split
     ·simp
     ·split <;> simp
  ·intro h2; exact absurd h2 h
end Go.Proofs.YtkfbdlidigmfbaaGreatDoor
