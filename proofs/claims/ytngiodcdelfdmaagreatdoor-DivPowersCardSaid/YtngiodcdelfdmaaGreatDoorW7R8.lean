import Derived.Test.YtngiodcdelfdmaaGreatDoorW6R8
import Derived.Test.YtngiodcdelfdmaaGreatDoorW7aR8
namespace Go.Proofs.YtngiodcdelfdmaaGreatDoor
set_option linter.unusedVariables false
open Go.RowKit Go.Shelf
theorem or_add (a i : Nat) : a * 2 ^ (i + 1) ||| 2 ^ i = a * 2 ^ (i + 1) + 2 ^ i := by
 have h := Nat.two_pow_add_eq_or_of_lt (i := i + 1) (b := 2 ^ i) (Nat.pow_lt_pow_right (by decide) (by omega)) a
 rw [Nat.mul_comm a]; exact h.symm
theorem stD_eq {nx : Nat → Int → Nat → Nat × Bool} {s d : Nat} (hs : s < 2 ^ 256) (hd : 0 < d) (hx : ∀ r x : Nat, r < d → x < 2 → nx r (x : Int) d = nxN r x d) :
  ∀ k, k ≤ 256 → stD nx s d (downto k) = (s / 2 ^ (256 - k) / d * 2 ^ (256 - k), s / 2 ^ (256 - k) % d)
 | 0, _ => by
  rw [show downto 0 = [] from rfl, show stD nx s d [] = (0, 0) from rfl, show 256 - 0 = 256 from rfl, Nat.div_eq_of_lt hs, Nat.zero_div, Nat.zero_mul, Nat.zero_mod]
 | k + 1, h => by
  have hk : k < 256 := by omega
  rw [downto_succ hk, stD_snoc, stD_eq hs hd hx k (by omega)]
  simp only []
  rw [bitE_eq s k hk]
  obtain ⟨i, hi⟩ : ∃ i, 255 - k = i := ⟨_, rfl⟩
  rw [show 256 - k = i + 1 by omega, show 256 - (k + 1) = i by omega, hi]
  have hb : s / 2 ^ i % 2 < 2 := Nat.mod_lt _ (by decide)
  have hr := Nat.mod_lt (s / 2 ^ (i + 1)) hd
  rw [hx _ _ hr hb]
  have e1 : s / 2 ^ i = 2 * (s / 2 ^ (i + 1)) + s / 2 ^ i % 2 := by
   rw [Nat.pow_succ, ← Nat.div_div_eq_div_mul]; omega
  have e2 := Nat.div_add_mod (s / 2 ^ (i + 1)) d
  generalize s / 2 ^ i % 2 = b at *
  generalize s / 2 ^ (i + 1) = A at *
  rw [e1]
  generalize A / d = Q at *
  generalize A % d = R at *
  unfold nxN
  have ex : 2 * A + b = d * (2 * Q) + (2 * R + b) := by
   rw [← e2, Nat.mul_add]
   have : 2 * (d * Q) = d * (2 * Q) := by ac_rfl
   omega
  by_cases hle : d ≤ 2 * R + b
  ·rw [if_pos hle]
   simp only [if_true]
   have q1 : (2 * A + b) / d = 2 * Q + 1 := by
    have o : (2 * R + b) / d = 1 := Nat.div_eq_of_lt_le (by omega) (by omega)
    rw [ex, Nat.mul_add_div hd, o]
   have q2 : (2 * A + b) % d = 2 * R + b - d := by
    rw [ex, Nat.mul_add_mod, Nat.mod_eq_sub_mod hle, Nat.mod_eq_of_lt (by omega)]
   rw [q1, q2, or_add, Nat.pow_succ]
   congr 1
   rw [Nat.add_mul, Nat.one_mul]
   have : Q * (2 ^ i * 2) = 2 * Q * 2 ^ i := by ac_rfl
   omega
  ·rw [if_neg hle]
   simp only [Bool.false_eq_true, if_false]
   have q1 : (2 * A + b) / d = 2 * Q := by
    rw [ex, Nat.mul_add_div hd, Nat.div_eq_of_lt (by omega)]; omega
   have q2 : (2 * A + b) % d = 2 * R + b := by
    rw [ex, Nat.mul_add_mod, Nat.mod_eq_of_lt (by omega)]
   rw [q1, q2, Nat.pow_succ]
   congr 1
   ac_rfl
theorem stD_all {nx : Nat → Int → Nat → Nat × Bool} {s d : Nat} (hs : s < 2 ^ 256) (hd : 0 < d) (hx : ∀ r x : Nat, r < d → x < 2 → nx r (x : Int) d = nxN r x d) :
  stD nx s d (downto 256) = (s / d, s % d) := by
 rw [stD_eq hs hd hx 256 (Nat.le_refl _), Nat.sub_self, Nat.pow_zero, Nat.div_one, Nat.mul_one]
end Go.Proofs.YtngiodcdelfdmaaGreatDoor
