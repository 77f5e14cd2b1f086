/- Words of numbers: joined, cut. No function of the program. -/
import Derived.Test.YtikjbocagnolmaaDoorNum
namespace Go.Proofs.YtikjbocagnolmaaDoor
set_option linter.unusedVariables false
theorem pw_two : W64 ^ 2 = W128 := by decide
theorem pw_four : W64 ^ 4 = W256 := by decide
theorem wd_lt {a m : Nat} (i : Nat) (ha : a < W64 ^ m) (h : m ≤ i) : wd a i = 0 := by
  unfold wd
  rw [Nat.div_eq_of_lt (Nat.lt_of_lt_of_le ha (Nat.pow_le_pow_right W64_pos h))]; rfl
theorem wd_lt2 {a : Nat} (ha : a < W128) : wd a 2 = 0 ∧ wd a 3 = 0 := by
  rw [← pw_two] at ha; exact ⟨wd_lt 2 ha (by omega), wd_lt 3 ha (by omega)⟩
theorem wd_div (a i j : Nat) : wd (a / W64 ^ i) j = wd a (i + j) := by
  unfold wd; rw [Nat.div_div_eq_div_mul, ← Nat.pow_add]
theorem wd_div128 (a j : Nat) : wd (a / W128) j = wd a (2 + j) := by rw [← pw_two, wd_div]
theorem wd_mod128 (a j : Nat) (h : j < 2) : wd (a % W128) j = wd a j := by rw [← pw_two, wd_mod _ _ _ h]
theorem div128_lt {a : Nat} (ha : a < W256) : a / W128 < W128 := by
  rw [Nat.div_lt_iff_lt_mul W128_pos]; exact ha
theorem join_lt {h l : Nat} (hh : h < W128) (hl : l < W128) : h * W128 + l < W256 := by
  unfold W256
  calc h * W128 + l < h * W128 + W128 := by omega
    _ = (h + 1) * W128 := by rw [Nat.add_mul, Nat.one_mul]
    _ ≤ W128 * W128 := Nat.mul_le_mul_right _ hh
theorem join_div {h l : Nat} (hl : l < W128) : (h * W128 + l) / W128 = h := by
  rw [Nat.add_comm, Nat.add_mul_div_right _ _ W128_pos, Nat.div_eq_of_lt hl, Nat.zero_add]
theorem join_mod {h l : Nat} (hl : l < W128) : (h * W128 + l) % W128 = l := by
  rw [Nat.add_comm, Nat.add_mul_mod_self_right, Nat.mod_eq_of_lt hl]
theorem join_words {h l : Nat} (hl : l < W128) : wd (h * W128 + l) 0 = wd l 0 ∧ wd (h * W128 + l) 1 = wd l 1 ∧ wd (h * W128 + l) 2 = wd h 0 ∧ wd (h * W128 + l) 3 = wd h 1 := by
  refine ⟨?_, ?_, ?_, ?_⟩
  · rw [← wd_mod128 (h * W128 + l) 0 (by omega), join_mod hl]
  · rw [← wd_mod128 (h * W128 + l) 1 (by omega), join_mod hl]
  · rw [← wd_div128 _ 0, join_div hl]
  · rw [← wd_div128 _ 1, join_div hl]
theorem eq_zero4 {a : Nat} (ha : a < W256) : (wd a 0 = 0 ∧ wd a 1 = 0 ∧ wd a 2 = 0 ∧ wd a 3 = 0) ↔ a = 0 := by
  constructor
  · rintro ⟨h0, h1, h2, h3⟩; exact wd_ext4 ha (by decide) (by rw [h0, wd_zero]) (by rw [h1, wd_zero]) (by rw [h2, wd_zero]) (by rw [h3, wd_zero])
  · rintro rfl; exact ⟨wd_zero _, wd_zero _, wd_zero _, wd_zero _⟩
end Go.Proofs.YtikjbocagnolmaaDoor
