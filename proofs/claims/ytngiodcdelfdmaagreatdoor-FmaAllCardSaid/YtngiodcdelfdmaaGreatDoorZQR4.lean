import Derived.Test.YtngiodcdelfdmaaGreatDoorZGR4
namespace Go.Proofs.YtngiodcdelfdmaaGreatDoor.FP
set_option linter.unusedVariables false
set_option linter.unusedSimpArgs false
theorem roundE_jam {p emax m : Nat} {after neg : Bool} {e : Int} {j L M : Nat} (hp : 2 ≤ p) (hq : L / 2 = M / 2 ^ (j + 1)) (hz : L % 2 = 0 ↔ M % 2 ^ (j + 1) = 0) (hbig : 2 ^ (p + 1) ≤ L / 2) :
  roundE p emax m after neg (e + j) L = roundE p emax m after neg e M := by
 unfold roundE
 obtain ⟨P1, hP1⟩ : ∃ k, (e + j - 255 + emax + p - 2 : Int).toNat = k := ⟨_, rfl⟩
 obtain ⟨Q1, hQ1⟩ : ∃ k, (255 + 2 - (e + j) - emax - p : Int).toNat = k := ⟨_, rfl⟩
 obtain ⟨P2, hP2⟩ : ∃ k, (e - 255 + emax + p - 2 : Int).toNat = k := ⟨_, rfl⟩
 obtain ⟨Q2, hQ2⟩ : ∃ k, (255 + 2 - e - emax - p : Int).toNat = k := ⟨_, rfl⟩
 rw [hP1, hQ1, hP2, hQ2]
 have div1 : ∀ (x k P : Nat), x * 2 ^ P / 2 ^ (k + P) = x / 2 ^ k := fun x k P => by rw [Nat.pow_add, Nat.mul_div_mul_right _ _ (two_pow_pos _)]
 have mod1 : ∀ (x k P : Nat), x * 2 ^ P % 2 ^ (k + P) = 0 ↔ x % 2 ^ k = 0 := fun x k P => by
  rw [Nat.pow_add, Nat.mul_mod_mul_right]
  have := two_pow_pos P
  constructor
  ·intro h
   rcases Nat.mul_eq_zero.1 h with h | h
   ·exact h
   ·omega
  ·intro h; rw [h, Nat.zero_mul]
 refine roundC_agree (G1 := 2 ^ (1 + P1)) (G2 := 2 ^ (j + 1 + P2)) (a := (e + j - 255 + emax + p - 1 : Int).toNat) (b := (255 + 1 - (e + j) - emax - p : Int).toNat) hp (two_pow_pos _) (two_pow_pos _) (two_pow_pos _) (two_pow_pos _) ?_ ?_ ?_ ?_ ?_
 ·rw [← Nat.pow_add, ← Nat.pow_add]; congr 1; omega
 ·rw [← Nat.pow_add, ← Nat.pow_add]; congr 1; omega
 ·rw [div1, div1, Nat.pow_one]; exact hq
 ·rw [mod1, mod1, Nat.pow_one]; exact hz
 ·rw [div1, Nat.pow_one]; exact hbig
theorem roundE_shift {p emax m : Nat} {after neg : Bool} {e : Int} {j L : Nat} (hp : 2 ≤ p) :
  roundE p emax m after neg (e + j) L = roundE p emax m after neg e (L * 2 ^ j) := by
 unfold roundE
 apply roundC_ratio hp (two_pow_pos _) (two_pow_pos _)
 rw [Nat.mul_assoc L, ← Nat.pow_add, Nat.mul_assoc, Nat.mul_assoc, ← Nat.pow_add, ← Nat.pow_add]
 congr 2
 omega
def okT (s : Nat) : Prop := s % 2 ^ 30 = 0 ∧ (s = 0 ∨ 2 ^ 253 ≤ s) ∧ s < 2 ^ 256
theorem mod_low {s k n : Nat} (h : s % 2 ^ n = 0) (hk : k ≤ n) : s % 2 ^ k = 0 := by
 have e : s % 2 ^ n % 2 ^ k = s % 2 ^ k := Nat.mod_mod_of_dvd s (Nat.pow_dvd_pow 2 hk)
 rw [h, Nat.zero_mod] at e; exact e.symm
theorem jam_exact {s j : Nat} (h : s % 2 ^ j = 0) : jam s j = s / 2 ^ j := by unfold jam; rw [if_pos h]
theorem jam_zero (j : Nat) : jam 0 j = 0 := by unfold jam; simp
theorem sumE {p emax m : Nat} {after neg : Bool} {e : Int} {d s t : Nat} (hp : 2 ≤ p) (hp2 : p ≤ 240) (hs : okT s) (hs0 : s ≠ 0) :
  roundE p emax m after neg (e + (d + 1 : Nat)) (jam s 1 + jam t (d + 1)) = roundE p emax m after neg e (s * 2 ^ d + t) := by
 obtain ⟨h1, h2, h3⟩ := hs
 have h4 : s % 4 = 0 := mod_low (k := 2) h1 (by decide)
 obtain ⟨q, rfl⟩ : ∃ q, s = 4 * q := ⟨s / 4, by omega⟩
 have hj : jam (4 * q) 1 = 2 * q := by rw [jam_exact (by omega)]; omega
 obtain ⟨g1, g2⟩ := jam_half t (d + 1)
 rw [hj]
 generalize jam t (d + 1) = J at *
 have hpow : 2 ^ (d + 1 + 1) = 4 * 2 ^ d := by rw [Nat.pow_succ, Nat.pow_succ]; omega
 have hM : 4 * q * 2 ^ d + t = 2 ^ (d + 1 + 1) * q + t := by
  rw [hpow, Nat.mul_right_comm]
 refine roundE_jam hp ?_ ?_ ?_
 ·rw [hM, Nat.mul_add_div (two_pow_pos _), ← g1]; omega
 ·rw [hM, Nat.mul_add_mod, Nat.mul_add_mod]; exact g2
 ·have : 2 ^ (p + 1) ≤ 2 ^ 251 := Nat.pow_le_pow_right (by decide) (by omega)
  have : 2 ^ 253 = 4 * 2 ^ 251 := by decide
  omega
theorem diffE {p emax m : Nat} {after neg : Bool} {e : Int} {d s t : Nat} (hp : 2 ≤ p) (hp2 : p ≤ 240) (hs : okT s) (ht : okT t) (hs0 : s ≠ 0) (hle : t ≤ s * 2 ^ d) :
  roundE p emax m after neg (e + d) (s - jam t d) = roundE p emax m after neg e (s * 2 ^ d - t) := by
 by_cases hx : t % 2 ^ d = 0
 ·rw [jam_exact hx, roundE_shift hp]
  congr 1
  rw [Nat.sub_mul, Nat.div_mul_cancel (Nat.dvd_of_mod_eq_zero hx)]
 obtain ⟨h1, h2, h3⟩ := hs
 obtain ⟨k1, k2, k3⟩ := ht
 have hd : 30 < d := by
  apply Nat.lt_of_not_le; intro h
  exact hx (mod_low k1 h)
 have h4 : s % 4 = 0 := mod_low (k := 2) h1 (by decide)
 obtain ⟨q, rfl⟩ : ∃ q, s = 4 * q := ⟨s / 4, by omega⟩
 have hj : jam t d = 2 * (t / 2 ^ (d + 1)) + 1 := by
  unfold jam; rw [if_neg hx, Nat.div_div_eq_div_mul, ← Nat.pow_succ, Nat.mul_comm 2]
 have hsmall : t / 2 ^ (d + 1) < 2 ^ 225 := by
  rw [Nat.div_lt_iff_lt_mul (two_pow_pos _), ← Nat.pow_add]
  exact Nat.lt_of_lt_of_le k3 (Nat.pow_le_pow_right (by decide) (by omega))
 have hx2 : t % 2 ^ (d + 1) ≠ 0 := fun h => hx (mod_low h (by omega))
 have hdm := Nat.div_add_mod t (2 ^ (d + 1))
 have hml := Nat.mod_lt t (two_pow_pos (d + 1))
 rw [hj]
 generalize t / 2 ^ (d + 1) = u at *
 generalize t % 2 ^ (d + 1) = r at *
 have big : 2 ^ 253 ≤ 4 * q := by omega
 have c1 : 2 ^ 253 = 2 ^ 225 * 2 ^ 28 := by rw [← Nat.pow_add]
 have c2 : 2 ^ 251 = 2 ^ 225 * 2 ^ 26 := by rw [← Nat.pow_add]
 have hM : 4 * q * 2 ^ d - t = 2 ^ (d + 1) * (2 * q - u - 1) + (2 ^ (d + 1) - r) := by
  have e1 : 4 * q * 2 ^ d = 2 ^ (d + 1) * (2 * q) := by
   rw [Nat.pow_succ, show 4 * q = 2 * (2 * q) by omega]; ac_rfl
  have e2 : 2 ^ (d + 1) * (2 * q) = 2 ^ (d + 1) * (2 * q - u - 1) + 2 ^ (d + 1) * u + 2 ^ (d + 1) := by
   rw [← Nat.mul_add, ← Nat.mul_succ]; congr 1; omega
  omega
 have hl : 2 ^ (d + 1) - r < 2 ^ (d + 1) := Nat.sub_lt (two_pow_pos _) (by omega)
 have hl0 : 2 ^ (d + 1) - r ≠ 0 := by omega
 refine roundE_jam hp ?_ ?_ ?_
 ·rw [hM, Nat.mul_add_div (two_pow_pos _), Nat.div_eq_of_lt hl]; omega
 ·rw [hM, Nat.mul_add_mod, Nat.mod_eq_of_lt hl]
  constructor
  ·intro h; omega
  ·intro h; exact absurd h hl0
 ·have : 2 ^ (p + 1) ≤ 2 ^ 241 := Nat.pow_le_pow_right (by decide) (by omega)
  have : 2 ^ 241 = 2 ^ 225 * 2 ^ 16 := by rw [← Nat.pow_add]
  omega
def lvl (ea : Int) (sa : Nat) (eb : Int) (sb : Nat) : Int := if sa = 0 ∧ sb ≠ 0 then eb else if sb = 0 ∧ sa ≠ 0 then ea else max ea eb
def sumT (ea : Int) (sa : Nat) (eb : Int) (sb : Nat) : Int × Nat :=
 (lvl ea sa eb sb + 1, jam sa (lvl ea sa eb sb + 1 - ea).toNat + jam sb (lvl ea sa eb sb + 1 - eb).toNat)
def difT (ea : Int) (sa : Nat) (eb : Int) (sb : Nat) : Int × Nat :=
 (lvl ea sa eb sb, jam sa (lvl ea sa eb sb - ea).toNat - jam sb (lvl ea sa eb sb - eb).toNat)
def cmpT (ea : Int) (sa : Nat) (eb : Int) (sb : Nat) : Int :=
 if sa / 2 ^ (max ea eb - ea).toNat < sb / 2 ^ (max ea eb - eb).toNat then -1
 else if sb / 2 ^ (max ea eb - eb).toNat < sa / 2 ^ (max ea eb - ea).toNat then 1
 else if sa % 2 ^ (max ea eb - ea).toNat ≠ 0 then 1 else if sb % 2 ^ (max ea eb - eb).toNat ≠ 0 then -1 else 0
theorem jam0 (s : Nat) : jam s 0 = s := by unfold jam; rw [Nat.pow_zero, Nat.mod_one, if_pos rfl, Nat.div_one]
theorem roundE_zero {p emax m : Nat} {after neg : Bool} {e : Int} : roundE p emax m after neg e 0 = (0, 0) := by unfold roundE; rw [Nat.zero_mul, roundC_zero]
theorem roundE_low {p emax m : Nat} {after neg : Bool} {e L : Int} {s : Nat} (hp : 2 ≤ p) (h : L ≤ e) : roundE p emax m after neg e s = roundE p emax m after neg L (s * 2 ^ (e - L).toNat) := by
 have := roundE_shift (p := p) (emax := emax) (m := m) (after := after) (neg := neg) (e := L) (j := (e - L).toNat) (L := s) hp
 rw [← this]; congr 1; omega
theorem pow_split {a b L : Int} (h1 : b ≤ a) (h2 : L ≤ b) : 2 ^ (a - b).toNat * 2 ^ (b - L).toNat = 2 ^ (a - L).toNat := by rw [← Nat.pow_add]; congr 1; omega
theorem sum_round {p emax m : Nat} {after neg : Bool} {ea eb L : Int} {sa sb : Nat} (hp : 2 ≤ p) (hp2 : p ≤ 240) (ha : okT sa) (hb : okT sb) (hLa : L ≤ ea) (hLb : L ≤ eb) :
  roundE p emax m after neg (sumT ea sa eb sb).1 (sumT ea sa eb sb).2 = roundE p emax m after neg L (sa * 2 ^ (ea - L).toNat + sb * 2 ^ (eb - L).toNat) := by
 unfold sumT
 simp only []
 by_cases za : sa = 0
 ·subst za
  by_cases zb : sb = 0
  ·subst zb
   rw [jam_zero, jam_zero, Nat.zero_mul, Nat.zero_mul, Nat.add_zero, roundE_zero, roundE_zero]
  ·have hl : lvl ea 0 eb sb = eb := by unfold lvl; rw [if_pos ⟨rfl, zb⟩]
   have := sumE (p := p) (emax := emax) (m := m) (after := after) (neg := neg) (e := eb) (d := 0) (s := sb) (t := 0) hp hp2 hb zb
   rw [jam_zero, Nat.pow_zero, Nat.mul_one] at this
   rw [hl, jam_zero, Nat.zero_mul, Nat.zero_add, Nat.zero_add, ← roundE_low hp hLb, show (eb + 1 - eb).toNat = 1 by omega]
   exact this
 ·by_cases zb : sb = 0
  ·subst zb
   have hl : lvl ea sa eb 0 = ea := by unfold lvl; rw [if_neg (fun h => h.2 rfl), if_pos ⟨rfl, za⟩]
   have := sumE (p := p) (emax := emax) (m := m) (after := after) (neg := neg) (e := ea) (d := 0) (s := sa) (t := 0) hp hp2 ha za
   rw [jam_zero, Nat.pow_zero, Nat.mul_one] at this
   rw [hl, jam_zero, Nat.zero_mul, Nat.add_zero, Nat.add_zero, ← roundE_low hp hLa, show (ea + 1 - ea).toNat = 1 by omega]
   exact this
  ·have hl : lvl ea sa eb sb = max ea eb := by unfold lvl; rw [if_neg (fun h => za h.1), if_neg (fun h => zb h.1)]
   rw [hl]
   by_cases hle : eb ≤ ea
   ·have := sumE (p := p) (emax := emax) (m := m) (after := after) (neg := neg) (e := eb) (d := (ea - eb).toNat) (s := sa) (t := sb) hp hp2 ha za
    rw [show (max ea eb + 1 - ea).toNat = 1 by omega, show (max ea eb + 1 - eb).toNat = (ea - eb).toNat + 1 by omega, show max ea eb + 1 = eb + (((ea - eb).toNat + 1 : Nat) : Int) by omega, this, roundE_low hp hLb, Nat.add_mul, Nat.mul_assoc, pow_split hle hLb]
   ·have := sumE (p := p) (emax := emax) (m := m) (after := after) (neg := neg) (e := ea) (d := (eb - ea).toNat) (s := sb) (t := sa) hp hp2 hb zb
    rw [show (max ea eb + 1 - eb).toNat = 1 by omega, show (max ea eb + 1 - ea).toNat = (eb - ea).toNat + 1 by omega, show max ea eb + 1 = ea + (((eb - ea).toNat + 1 : Nat) : Int) by omega, Nat.add_comm (jam sa _), this, roundE_low hp hLa, Nat.add_mul, Nat.mul_assoc, pow_split (by omega) hLa, Nat.add_comm]
theorem dif_round {p emax m : Nat} {after neg : Bool} {ea eb L : Int} {sa sb : Nat} (hp : 2 ≤ p) (hp2 : p ≤ 240) (ha : okT sa) (hb : okT sb) (hLa : L ≤ ea) (hLb : L ≤ eb) (hle : sb * 2 ^ (eb - L).toNat ≤ sa * 2 ^ (ea - L).toNat) :
  roundE p emax m after neg (difT ea sa eb sb).1 (difT ea sa eb sb).2 = roundE p emax m after neg L (sa * 2 ^ (ea - L).toNat - sb * 2 ^ (eb - L).toNat) := by
 unfold difT
 simp only []
 by_cases zb : sb = 0
 ·subst zb
  by_cases za : sa = 0
  ·subst za
   rw [jam_zero, jam_zero, Nat.zero_mul, Nat.zero_mul, Nat.sub_zero, roundE_zero, roundE_zero]
  ·have hl : lvl ea sa eb 0 = ea := by unfold lvl; rw [if_neg (fun h => h.2 rfl), if_pos ⟨rfl, za⟩]
   rw [hl, jam_zero, Nat.zero_mul, Nat.sub_zero, Nat.sub_zero, ← roundE_low hp hLa, show (ea - ea).toNat = 0 by omega, jam0]
 ·have za : sa ≠ 0 := by
   intro za; subst za
   rw [Nat.zero_mul] at hle
   have := Nat.mul_pos (Nat.pos_of_ne_zero zb) (two_pow_pos (eb - L).toNat)
   omega
  have hl : lvl ea sa eb sb = max ea eb := by unfold lvl; rw [if_neg (fun h => za h.1), if_neg (fun h => zb h.1)]
  rw [hl]
  by_cases hee : eb ≤ ea
  ·have hle2 : sb ≤ sa * 2 ^ (ea - eb).toNat := by
    rw [← pow_split hee hLb, ← Nat.mul_assoc] at hle
    exact Nat.le_of_mul_le_mul_right hle (two_pow_pos _)
   have := diffE (p := p) (emax := emax) (m := m) (after := after) (neg := neg) (e := eb) (d := (ea - eb).toNat) (s := sa) (t := sb) hp hp2 ha hb za hle2
   rw [show (max ea eb - ea).toNat = 0 by omega, jam0, show (max ea eb - eb).toNat = (ea - eb).toNat by omega, show max ea eb = eb + ((ea - eb).toNat : Int) by omega, this, roundE_low hp hLb, Nat.sub_mul, Nat.mul_assoc, pow_split hee hLb]
  ·have hle2 : sb * 2 ^ (eb - ea).toNat ≤ sa := by
    rw [← pow_split (show ea ≤ eb by omega) hLa, ← Nat.mul_assoc] at hle
    exact Nat.le_of_mul_le_mul_right hle (two_pow_pos _)
   have hd : (eb - ea).toNat ≤ 2 := by
    apply Nat.le_of_not_lt; intro h
    have h1 : 2 ^ 253 * 2 ^ 3 ≤ sb * 2 ^ (eb - ea).toNat := Nat.mul_le_mul (hb.2.1.resolve_left zb) (Nat.pow_le_pow_right (by decide) h)
    have h2 := ha.2.2
    rw [← Nat.pow_add] at h1
    exact absurd (Nat.lt_of_le_of_lt (Nat.le_trans h1 hle2) h2) (by decide)
   have hx : sa % 2 ^ (eb - ea).toNat = 0 := mod_low ha.1 (by omega)
   rw [show (max ea eb - eb).toNat = 0 by omega, jam0, show (max ea eb - ea).toNat = (eb - ea).toNat by omega, jam_exact hx, show max ea eb = eb by omega]
   rw [roundE_low hp hLb, Nat.sub_mul]
   congr 2
   rw [← pow_split (show ea ≤ eb by omega) hLa, ← Nat.mul_assoc, Nat.div_mul_cancel (Nat.dvd_of_mod_eq_zero hx)]
theorem cmp_key {x y d : Nat} : (x < y / 2 ^ d ∨ (x = y / 2 ^ d ∧ y % 2 ^ d ≠ 0)) ↔ x * 2 ^ d < y := by
 have h1 := Nat.div_add_mod y (2 ^ d)
 have h2 := Nat.mod_lt y (two_pow_pos d)
 rw [Nat.mul_comm] at h1
 generalize y / 2 ^ d = q at *
 generalize y % 2 ^ d = r at *
 generalize 2 ^ d = D at *
 constructor
 ·rintro (h | ⟨rfl, h⟩)
  ·have := Nat.mul_le_mul_right D h
   rw [Nat.succ_mul] at this; omega
  ·omega
 ·intro h
  rcases Nat.lt_trichotomy x q with hl | he | hg
  ·exact .inl hl
  ·subst he; exact .inr ⟨rfl, by omega⟩
  ·have := Nat.mul_le_mul_right D hg
   rw [Nat.succ_mul] at this; omega
theorem cmp_key2 {x y d : Nat} : y / 2 ^ d < x ↔ y < x * 2 ^ d := Nat.div_lt_iff_lt_mul (two_pow_pos d)
theorem cmpT_lt {ea eb L : Int} {sa sb : Nat} (hLa : L ≤ ea) (hLb : L ≤ eb) : cmpT ea sa eb sb < 0 ↔ sa * 2 ^ (ea - L).toNat < sb * 2 ^ (eb - L).toNat := by
 unfold cmpT
 by_cases hle : eb ≤ ea
 ·rw [show (max ea eb - ea).toNat = 0 by omega, show (max ea eb - eb).toNat = (ea - eb).toNat by omega, Nat.pow_zero, Nat.div_one, Nat.mod_one, ← pow_split hle hLb, ← Nat.mul_assoc]
  rw [show (sa * 2 ^ (ea - eb).toNat * 2 ^ (eb - L).toNat < sb * 2 ^ (eb - L).toNat) ↔ sa * 2 ^ (ea - eb).toNat < sb from Nat.mul_lt_mul_right (two_pow_pos _), ← cmp_key]
  split
  ·rename_i h; exact ⟨fun _ => .inl h, fun _ => by omega⟩
  ·rename_i h
   split
   ·rename_i h2; exact ⟨fun h3 => by omega, fun h3 => by omega⟩
   ·rename_i h2
    rw [if_neg (by omega)]
    split
    ·rename_i h3; exact ⟨fun _ => .inr ⟨by omega, h3⟩, fun _ => by omega⟩
    ·rename_i h3; exact ⟨fun h4 => by omega, fun h4 => by omega⟩
 ·rw [show (max ea eb - eb).toNat = 0 by omega, show (max ea eb - ea).toNat = (eb - ea).toNat by omega, Nat.pow_zero, Nat.div_one, Nat.mod_one, ← pow_split (show ea ≤ eb by omega) hLa, ← Nat.mul_assoc]
  rw [show (sa * 2 ^ (ea - L).toNat < sb * 2 ^ (eb - ea).toNat * 2 ^ (ea - L).toNat) ↔ sa < sb * 2 ^ (eb - ea).toNat from Nat.mul_lt_mul_right (two_pow_pos _), ← cmp_key2]
  split
  ·rename_i h; exact ⟨fun _ => h, fun _ => by omega⟩
  ·rename_i h
   split
   ·exact ⟨fun h3 => by omega, fun h3 => by omega⟩
   ·split
    ·exact ⟨fun h3 => by omega, fun h3 => by omega⟩
    ·rw [if_neg (by omega)]; exact ⟨fun h3 => by omega, fun h3 => by omega⟩
theorem un_low {f c : Nat} (hf : f < 4) : unSig f c % 2 ^ 15 = 0 := by
 obtain ⟨n1, n2, _⟩ := fmtN hf
 unfold unSig
 split
 ·rename_i h
  by_cases h0 : c = 0
  ·subst h0; rw [Nat.zero_mul]
  have hl : lenN c ≤ fP f - 1 := lenN_iff.2 h
  rw [show 128 - lenN c = 15 + (113 - lenN c) by omega, Nat.pow_add, ← Nat.mul_assoc, Nat.mul_right_comm, Nat.mul_mod_left]
 ·rw [show 128 - fP f = 15 + (113 - fP f) by omega, Nat.pow_add, ← Nat.mul_assoc, Nat.mul_right_comm, Nat.mul_mod_left]
theorem okT_num {f c : Nat} (hf : f < 4) (h0 : 0 < c) (h1 : c < inf f) : okT (unSig f c * 2 ^ 128) := by
 obtain ⟨s1, s2⟩ := un_sig hf h0 h1
 refine ⟨?_, .inr ?_, ?_⟩
 ·rw [show (128 : Nat) = 30 + 98 from rfl, Nat.pow_add, ← Nat.mul_assoc, Nat.mul_right_comm, Nat.mul_mod_left]
 ·have := Nat.mul_le_mul_right (2 ^ 128) s1
  rw [← Nat.pow_add] at this
  exact Nat.le_trans (by decide) this
 ·have := Nat.mul_lt_mul_of_pos_right s2 (two_pow_pos 128)
  rw [← Nat.pow_add] at this; exact this
theorem okT_prod {f c d : Nat} (hf : f < 4) (h0 : 0 < c) (h1 : c < inf f) (h2 : 0 < d) (h3 : d < inf f) : okT (unSig f c * unSig f d) := by
 obtain ⟨s1, s2⟩ := un_sig hf h0 h1
 obtain ⟨t1, t2⟩ := un_sig hf h2 h3
 refine ⟨?_, .inr ?_, ?_⟩
 ·obtain ⟨x, hx⟩ := Nat.dvd_of_mod_eq_zero (un_low (c := c) hf)
  obtain ⟨y, hy⟩ := Nat.dvd_of_mod_eq_zero (un_low (c := d) hf)
  rw [hx, hy, show 2 ^ 15 * x * (2 ^ 15 * y) = 2 ^ 30 * (x * y) by rw [show (2 : Nat) ^ 30 = 2 ^ 15 * 2 ^ 15 from rfl]; ac_rfl, Nat.mul_mod_right]
 ·have := Nat.mul_le_mul s1 t1
  rw [← Nat.pow_add] at this
  exact Nat.le_trans (by decide) this
 ·have := Nat.mul_lt_mul'' s2 t2
  rw [← Nat.pow_add] at this; exact this
theorem okT_zero : okT 0 := ⟨rfl, .inl rfl, two_pow_pos 256⟩
theorem at_num {f c : Nat} (hf : f < 4) (h0 : 0 < c) (h1 : c < inf f) : unSig f c * 2 ^ 128 * 2 ^ (unExp f c + 40000).toNat = val f c * 2 ^ (255 - fU f + 40000 : Int).toNat := by
 have hv := un_val hf h0 h1
 have hr := un_exp hf h1
 obtain ⟨n1, n2, n3, n4, n5, n6, n7, n8, n9⟩ := fmtN hf
 have hU : fU f ≤ 16500 := by unfold fU; omega
 generalize unExp f c = e at *
 generalize unSig f c = x at *
 generalize val f c = C at *
 apply Nat.eq_of_mul_eq_mul_right (two_pow_pos (127 - e - fU f : Int).toNat)
 rw [Nat.mul_right_comm C, ← hv, Nat.mul_assoc x, Nat.mul_assoc x, Nat.mul_assoc x, ← Nat.pow_add, ← Nat.pow_add, ← Nat.pow_add]
 congr 2
 omega
theorem at_prod {f c d : Nat} (hf : f < 4) (h0 : 0 < c) (h1 : c < inf f) (h2 : 0 < d) (h3 : d < inf f) :
  unSig f c * unSig f d * 2 ^ (unExp f c + unExp f d + 1 + 40000).toNat = val f c * val f d * 2 ^ (255 - fU f - fU f + 40000 : Int).toNat := by
 have hv := un_val hf h0 h1
 have hw := un_val hf h2 h3
 have hr := un_exp hf h1
 have hr2 := un_exp hf h3
 obtain ⟨n1, n2, n3, n4, n5, n6, n7, n8, n9⟩ := fmtN hf
 have hU : fU f ≤ 16500 := by unfold fU; omega
 generalize unExp f c = e at *
 generalize unSig f c = x at *
 generalize val f c = C at *
 generalize unExp f d = g at *
 generalize unSig f d = y at *
 generalize val f d = D at *
 apply Nat.eq_of_mul_eq_mul_right (Nat.mul_pos (two_pow_pos (127 - e - fU f : Int).toNat) (two_pow_pos (127 - g - fU f : Int).toNat))
 rw [show C * D * 2 ^ (255 - fU f - fU f + 40000 : Int).toNat * (2 ^ (127 - e - fU f : Int).toNat * 2 ^ (127 - g - fU f : Int).toNat) = C * 2 ^ (127 - e - fU f : Int).toNat * (D * 2 ^ (127 - g - fU f : Int).toNat) * 2 ^ (255 - fU f - fU f + 40000 : Int).toNat by ac_rfl, ← hv, ← hw]
 rw [show x * 2 ^ (e - 127 + fU f : Int).toNat * (y * 2 ^ (g - 127 + fU f : Int).toNat) * 2 ^ (255 - fU f - fU f + 40000 : Int).toNat = x * y * (2 ^ (e - 127 + fU f : Int).toNat * 2 ^ (g - 127 + fU f : Int).toNat * 2 ^ (255 - fU f - fU f + 40000 : Int).toNat) by ac_rfl]
 rw [show x * y * 2 ^ (e + g + 1 + 40000).toNat * (2 ^ (127 - e - fU f : Int).toNat * 2 ^ (127 - g - fU f : Int).toNat) = x * y * (2 ^ (e + g + 1 + 40000).toNat * 2 ^ (127 - e - fU f : Int).toNat * 2 ^ (127 - g - fU f : Int).toNat) by ac_rfl]
 rw [← Nat.pow_add, ← Nat.pow_add, ← Nat.pow_add, ← Nat.pow_add]
 congr 2
 omega
theorem round_units2 {f m : Nat} {after neg : Bool} {V : Nat} (hf : f < 4) : roundE (fP f) (fE f) m after neg (-40000) (V * 2 ^ (255 - fU f - fU f + 40000 : Int).toNat) = roundC (fP f) (fE f) m after neg V (2 ^ fU f) := by
 obtain ⟨n1, n2, n3, n4, n5, n6, n7, n8, n9⟩ := fmtN hf
 apply roundE_ratio n1 (two_pow_pos _)
 have hU : fU f = fE f + fP f - 2 := rfl
 rw [Nat.mul_assoc, Nat.mul_assoc, ← Nat.pow_add, ← Nat.pow_add]
 congr 2
 omega
def sgV (s t : Bool) (A B : Nat) : Nat := if s = t then A + B else if A < B then B - A else A - B
def sgS (s t : Bool) (A B : Nat) : Bool := if s = t then s else if A < B then t else s
def sgN (m : Nat) (s t : Bool) (A B : Nat) : Bool := if sgV s t A B = 0 then (if s = t then s else decide (m = 3)) else sgS s t A B
def resT (s t : Bool) (ea : Int) (sa : Nat) (eb : Int) (sb : Nat) : Int × Nat :=
 if s = t then sumT ea sa eb sb else if cmpT ea sa eb sb < 0 then difT eb sb ea sa else difT ea sa eb sb
def resS (s t : Bool) (ea : Int) (sa : Nat) (eb : Int) (sb : Nat) : Bool := if s = t then s else if cmpT ea sa eb sb < 0 then t else s
theorem roundE_nought {p emax m : Nat} {after neg : Bool} {e : Int} {s : Nat} (hp : 2 ≤ p) (h : roundE p emax m after neg e s = (0, 0)) : s = 0 := by
 unfold roundE at h
 have hD := two_pow_pos (255 + 2 - e - emax - p : Int).toNat
 obtain ⟨c, hc, hv⟩ := roundC_flags hp hD (by rw [h])
 have h2 := roundC_exact (m := m) (after := after) (neg := neg) hp hD hc hv
 rw [h] at h2
 have hc0 : c = 0 := (congrArg Prod.fst h2).symm
 rw [hc0, cval_zero, Nat.zero_mul] at hv
 rcases Nat.mul_eq_zero.1 hv with h | h
 ·exact h
 ·have := two_pow_pos (e - 255 + emax + p - 2 : Int).toNat; omega
theorem roundE_nought_iff {p emax m : Nat} {after neg : Bool} {e e2 : Int} {s s2 : Nat} (hp : 2 ≤ p) (h : roundE p emax m after neg e s = roundE p emax m after neg e2 s2) : s = 0 ↔ s2 = 0 := by
 constructor
 ·intro h0; rw [h0, roundE_zero] at h; exact roundE_nought hp h.symm
 ·intro h0; rw [h0, roundE_zero] at h; exact roundE_nought hp h
theorem res_round {p emax m : Nat} {after neg : Bool} {ea eb : Int} {sa sb A B k : Nat} (hp : 2 ≤ p) (hp2 : p ≤ 240) (ha : okT sa) (hb : okT sb) (hLa : -40000 ≤ ea) (hLb : -40000 ≤ eb)
  (hA : sa * 2 ^ (ea + 40000).toNat = A * 2 ^ k) (hB : sb * 2 ^ (eb + 40000).toNat = B * 2 ^ k) (s t : Bool) :
  roundE p emax m after neg (resT s t ea sa eb sb).1 (resT s t ea sa eb sb).2 = roundE p emax m after neg (-40000) (sgV s t A B * 2 ^ k) ∧ resS s t ea sa eb sb = sgS s t A B := by
 have e1 : (ea - -40000).toNat = (ea + 40000).toNat := by congr 1
 have e2 : (eb - -40000).toNat = (eb + 40000).toNat := by congr 1
 have hc := cmpT_lt (ea := ea) (eb := eb) (L := -40000) (sa := sa) (sb := sb) hLa hLb
 rw [e1, e2, hA, hB, show (A * 2 ^ k < B * 2 ^ k) ↔ A < B from Nat.mul_lt_mul_right (two_pow_pos k)] at hc
 unfold resT resS sgV sgS
 by_cases hst : s = t
 ·rw [if_pos hst, if_pos hst, if_pos hst, if_pos hst]
  refine ⟨?_, rfl⟩
  rw [sum_round hp hp2 ha hb hLa hLb, e1, e2, hA, hB, Nat.add_mul]
 ·rw [if_neg hst, if_neg hst, if_neg hst, if_neg hst]
  by_cases hl : A < B
  ·rw [if_pos (hc.2 hl), if_pos (hc.2 hl), if_pos hl, if_pos hl]
   refine ⟨?_, rfl⟩
   rw [dif_round hp hp2 hb ha hLb hLa (by rw [e1, e2, hA, hB]; exact Nat.mul_le_mul_right _ (Nat.le_of_lt hl)), e1, e2, hA, hB, Nat.sub_mul]
  ·rw [if_neg (fun h => hl (hc.1 h)), if_neg (fun h => hl (hc.1 h)), if_neg hl, if_neg hl]
   refine ⟨?_, rfl⟩
   rw [dif_round hp hp2 ha hb hLa hLb (by rw [e1, e2, hA, hB]; exact Nat.mul_le_mul_right _ (by omega)), e1, e2, hA, hB, Nat.sub_mul]
theorem res_full {p emax m : Nat} {after : Bool} {ea eb : Int} {sa sb A B k : Nat} (hp : 2 ≤ p) (hp2 : p ≤ 240) (ha : okT sa) (hb : okT sb) (hLa : -40000 ≤ ea) (hLb : -40000 ≤ eb)
  (hA : sa * 2 ^ (ea + 40000).toNat = A * 2 ^ k) (hB : sb * 2 ^ (eb + 40000).toNat = B * 2 ^ k) (s t : Bool) :
  (if (resT s t ea sa eb sb).2 = 0 then (if s = t then s else decide (m = 3)) else resS s t ea sa eb sb) = sgN m s t A B ∧
  roundE p emax m after (sgN m s t A B) (resT s t ea sa eb sb).1 (resT s t ea sa eb sb).2 = roundE p emax m after (sgN m s t A B) (-40000) (sgV s t A B * 2 ^ k) := by
 obtain ⟨h1, h2⟩ := res_round (emax := emax) (m := m) (after := after) (neg := sgN m s t A B) hp hp2 ha hb hLa hLb hA hB s t
 refine ⟨?_, h1⟩
 have hz := roundE_nought_iff hp h1
 have hz2 : sgV s t A B * 2 ^ k = 0 ↔ sgV s t A B = 0 := by
  have := two_pow_pos k
  constructor
  ·intro h
   rcases Nat.mul_eq_zero.1 h with h | h
   ·exact h
   ·omega
  ·intro h; rw [h, Nat.zero_mul]
 rw [h2]
 unfold sgN
 by_cases h : sgV s t A B = 0
 ·rw [if_pos h, if_pos (hz.2 (hz2.2 h))]
 ·rw [if_neg h, if_neg (fun h3 => h (hz2.1 (hz.1 h3)))]
def tmE (f c : Nat) : Int := if c = 0 then 0 else unExp f c
def tmS (f c : Nat) : Nat := if c = 0 then 0 else unSig f c * 2 ^ 128
def tpE (f c d : Nat) : Int := if c = 0 ∨ d = 0 then 0 else unExp f c + unExp f d + 1
def tpS (f c d : Nat) : Nat := if c = 0 ∨ d = 0 then 0 else unSig f c * unSig f d
theorem fU_le {f : Nat} (hf : f < 4) : fU f ≤ 16500 := by
 obtain ⟨n1, n2, n3, n4, n5, n6, n7, n8, n9⟩ := fmtN hf
 unfold fU; omega
theorem tm_ok {f c : Nat} (hf : f < 4) (hc : c < inf f) : okT (tmS f c) ∧ -40000 ≤ tmE f c ∧ tmS f c * 2 ^ (tmE f c + 40000).toNat = val f c * 2 ^ (255 - fU f + 40000 : Int).toNat := by
 unfold tmS tmE
 by_cases h : c = 0
 ·rw [if_pos h, if_pos h, h]
  refine ⟨okT_zero, by omega, ?_⟩
  unfold val
  rw [cval_zero, Nat.zero_mul, Nat.zero_mul]
 ·rw [if_neg h, if_neg h]
  have := un_exp hf hc
  exact ⟨okT_num hf (by omega) hc, by omega, at_num hf (by omega) hc⟩
theorem tp_ok {f c d : Nat} (hf : f < 4) (hc : c < inf f) (hd : d < inf f) : okT (tpS f c d) ∧ -40000 ≤ tpE f c d ∧ tpS f c d * 2 ^ (tpE f c d + 40000).toNat = val f c * val f d * 2 ^ (255 - fU f - fU f + 40000 : Int).toNat := by
 unfold tpS tpE
 by_cases h : c = 0 ∨ d = 0
 ·rw [if_pos h, if_pos h]
  refine ⟨okT_zero, by omega, ?_⟩
  have : val f c * val f d = 0 := by
   unfold val
   rcases h with h | h <;> rw [h, cval_zero]
   ·rw [Nat.zero_mul]
   ·rw [Nat.mul_zero]
  rw [this, Nat.zero_mul, Nat.zero_mul]
 ·rw [if_neg h, if_neg h]
  have := un_exp hf hc
  have := un_exp hf hd
  exact ⟨okT_prod hf (by omega) hc (by omega) hd, by omega, at_prod hf (by omega) hc (by omega) hd⟩
theorem tm_ok2 {f c : Nat} (hf : f < 4) (hc : c < inf f) : tmS f c * 2 ^ (tmE f c + 40000).toNat = val f c * 2 ^ fU f * 2 ^ (255 - fU f - fU f + 40000 : Int).toNat := by
 rw [(tm_ok hf hc).2.2, Nat.mul_assoc, ← Nat.pow_add]
 have := fU_le hf
 congr 2
 omega
def addN (f m : Nat) (s t : Bool) (c d : Nat) : Bool := sgN m s t (val f c) (val f d)
def fmaN (f m : Nat) (s t : Bool) (c d e : Nat) : Bool := sgN m s t (val f c * val f d) (val f e * 2 ^ fU f)
def fmaC (f m : Nat) (after s t : Bool) (c d e : Nat) : Nat × Nat := roundC (fP f) (fE f) m after (fmaN f m s t c d e) (sgV s t (val f c * val f d) (val f e * 2 ^ fU f)) (2 ^ fU f)
theorem fP_240 {f : Nat} (hf : f < 4) : fP f ≤ 240 := by have := fP_le hf; omega
theorem fma_res {f m c d e : Nat} {after : Bool} (hf : f < 4) (hc : c < inf f) (hd : d < inf f) (he : e < inf f) (s t : Bool) :
  (if (resT s t (tpE f c d) (tpS f c d) (tmE f e) (tmS f e)).2 = 0 then (if s = t then s else decide (m = 3)) else resS s t (tpE f c d) (tpS f c d) (tmE f e) (tmS f e)) = fmaN f m s t c d e ∧
  roundE (fP f) (fE f) m after (fmaN f m s t c d e) (resT s t (tpE f c d) (tpS f c d) (tmE f e) (tmS f e)).1 (resT s t (tpE f c d) (tpS f c d) (tmE f e) (tmS f e)).2 = fmaC f m after s t c d e := by
 obtain ⟨a1, a2, a3⟩ := tp_ok hf hc hd
 obtain ⟨b1, b2, b3⟩ := tm_ok hf he
 obtain ⟨h1, h2⟩ := res_full (emax := fE f) (m := m) (after := after) (fP_ge hf) (fP_240 hf) a1 b1 a2 b2 a3 (tm_ok2 hf he) s t
 exact ⟨h1, h2.trans (round_units2 hf)⟩
end Go.Proofs.YtngiodcdelfdmaaGreatDoor.FP
namespace Go.Proofs.YtngiodcdelfdmaaGreatDoor
set_option linter.unusedVariables false
set_option linter.unusedSimpArgs false
set_option maxRecDepth 100000
open Go.RowKit
end Go.Proofs.YtngiodcdelfdmaaGreatDoor
namespace Go.Proofs.YtngiodcdelfdmaaGreatDoor
set_option linter.unusedVariables false
set_option linter.unusedSimpArgs false
set_option maxRecDepth 100000
open Go.RowKit
def infAB (f a b : Nat) : Bool := decide (clsF f a = 3) || decide (clsF f b = 3)
def fmaI (f a b c : Nat) : Bool := badC (clsF f a) (clsF f b) || (infAB f a b && (decide (clsF f c = 3) && ((FP.sgn f a != FP.sgn f b) != FP.sgn f c)))
def fmaFlag (f a b c : Nat) : Nat := if badC (clsF f a) (clsF f b) = true ∨ clsF f a = 5 ∨ clsF f b = 5 ∨ clsF f c = 5 then 1 else 0
def fmaSg (f m a b c : Nat) : Bool := if infAB f a b = true then (FP.sgn f a != FP.sgn f b) else if clsF f c = 3 then FP.sgn f c else FP.fmaN f m (FP.sgn f a != FP.sgn f b) (FP.sgn f c) (FP.cod f a) (FP.cod f b) (FP.cod f c)
def fmaSc (f m : Nat) (after : Bool) (a b c : Nat) : Nat × Nat := if infAB f a b = true then (FP.inf f, 0) else if clsF f c = 3 then (FP.inf f, 0) else FP.fmaC f m after (FP.sgn f a != FP.sgn f b) (FP.sgn f c) (FP.cod f a) (FP.cod f b) (FP.cod f c)
def fmaR (f m : Nat) (after : Bool) (a b c : Nat) : Nat × Nat :=
 if 4 ≤ clsF f a then (quN f a, fmaFlag f a b c) else if 4 ≤ clsF f b then (quN f b, fmaFlag f a b c) else if 4 ≤ clsF f c then (quN f c, fmaFlag f a b c)
 else if fmaI f a b c = true then (dfl f, 1)
 else (FP.mk f (fmaSg f m a b c) (fmaSc f m after a b c).1, (fmaSc f m after a b c).2)
theorem fmaR_S {f : Nat} (m : Nat) (after : Bool) {a b c : Nat} (ha : ¬ 4 ≤ clsF f a) (hb : ¬ 4 ≤ clsF f b) (hc : ¬ 4 ≤ clsF f c) :
  fmaR f m after a b c = if fmaI f a b c = true then (dfl f, 1) else (FP.mk f (fmaSg f m a b c) (fmaSc f m after a b c).1, (fmaSc f m after a b c).2) := by
 unfold fmaR; rw [if_neg ha, if_neg hb, if_neg hc]
end Go.Proofs.YtngiodcdelfdmaaGreatDoor
