/- Words of numbers: 64 bits each, as the program's values hold them. No function of the program. -/
import Derived.Laws.BitsAllLaws
import Derived.WalkKit
namespace Go.Proofs.YtikjbocagnolmaaDoor
set_option linter.unusedVariables false

/-- 2 to the power of 64, behind a name (a long numeral would be counted up). -/
def W64 : Nat := 18446744073709551616
theorem W64_pos : 0 < W64 := by decide
theorem W64_pow : W64 = 2 ^ 64 := by decide
/-- the i-th word of a number -/
def wd (n i : Nat) : Int := ((n / W64 ^ i % W64 : Nat) : Int)
/-- a value of 64 bits -/
def U64 (x : Int) : Prop := 0 ≤ x ∧ x < (W64 : Int)
theorem wd_u64 (n i : Nat) : U64 (wd n i) := by
  unfold U64 wd
  exact ⟨Int.natCast_nonneg _, Int.ofNat_lt.2 (Nat.mod_lt _ W64_pos)⟩
theorem wd_nonneg (n i : Nat) : 0 ≤ wd n i := (wd_u64 n i).1
theorem U64.nat {x : Int} (h : U64 x) : ∃ n : Nat, x = (n : Int) ∧ n < W64 := ⟨x.toNat, (Int.toNat_of_nonneg h.1).symm, by have := h.2; have := h.1; omega⟩
/-- 128 bits; 256 bits -/
abbrev vB (n : Nat) : Value := .agg #[.int .u64 (wd n 1), .int .u64 (wd n 0)]
abbrev vW (n : Nat) : Value := .agg #[.int .u64 (wd n 0), .int .u64 (wd n 1), .int .u64 (wd n 2), .int .u64 (wd n 3)]
/-- of words their number -/
def mk2 (h l : Nat) : Nat := h * W64 + l
theorem wd_mk2_0 {h l : Nat} (hl : l < W64) : wd (mk2 h l) 0 = (l : Int) := by
  unfold wd mk2; rw [Nat.pow_zero, Nat.div_one, Nat.add_comm, Nat.add_mul_mod_self_right, Nat.mod_eq_of_lt hl]
theorem wd_mk2_1 {h l : Nat} (hh : h < W64) (hl : l < W64) : wd (mk2 h l) 1 = (h : Int) := by
  unfold wd mk2
  rw [Nat.pow_one, Nat.add_comm, Nat.add_mul_div_right _ _ W64_pos, Nat.div_eq_of_lt hl, Nat.zero_add, Nat.mod_eq_of_lt hh]

/-! sums and differences of words, with what is carried -/
def addw (x y c : Int) : Int := (x + y + c) % (W64 : Int)
def addc (x y c : Int) : Int := (x + y + c) / (W64 : Int)
def subw (x y c : Int) : Int := (x + (W64 : Int) - y - c) % (W64 : Int)
def subc (x y c : Int) : Int := if x < y + c then 1 else 0
def W128 : Nat := W64 * W64
def W256 : Nat := W128 * W128
theorem W128_pow : W128 = 2 ^ 128 := by decide
theorem W256_pow : W256 = 2 ^ 256 := by decide
theorem W128_pos : 0 < W128 := by decide
theorem W256_pos : 0 < W256 := by decide
/-- the words below place i, as a number -/
theorem low_succ (n i : Nat) : n % W64 ^ (i + 1) = n % W64 ^ i + W64 ^ i * (n / W64 ^ i % W64) := by
  rw [Nat.pow_succ, Nat.mod_mul]
/-- the carry into place i -/
def cin (a b i : Nat) : Nat := (a % W64 ^ i + b % W64 ^ i) / W64 ^ i
theorem cin_zero (a b : Nat) : cin a b 0 = 0 := by simp [cin, Nat.mod_one]
theorem pw_pos (i : Nat) : 0 < W64 ^ i := Nat.pow_pos W64_pos
theorem cin_le (a b i : Nat) : cin a b i ≤ 1 := by
  have h1 := Nat.mod_lt a (pw_pos i)
  have h2 := Nat.mod_lt b (pw_pos i)
  unfold cin
  have : (a % W64 ^ i + b % W64 ^ i) / W64 ^ i < 2 := by rw [Nat.div_lt_iff_lt_mul (pw_pos i)]; omega
  omega
theorem add_div_pow (a b i : Nat) : (a + b) / W64 ^ i = a / W64 ^ i + b / W64 ^ i + cin a b i := by
  have hp := pw_pos i
  have ha := Nat.div_add_mod a (W64 ^ i)
  have hb := Nat.div_add_mod b (W64 ^ i)
  unfold cin
  generalize W64 ^ i = p at *
  generalize a / p = x at *; generalize b / p = y at *; generalize a % p = r at *; generalize b % p = s at *
  have : a + b = (r + s) + p * (x + y) := by rw [← ha, ← hb, Nat.mul_add]; omega
  rw [this, Nat.add_mul_div_left _ _ hp]; omega
theorem addw_wd (a b i : Nat) : addw (wd a i) (wd b i) (cin a b i : Int) = wd (a + b) i := by
  unfold addw wd
  rw [add_div_pow, ← Int.natCast_add, ← Int.natCast_add, ← Int.natCast_emod]
  congr 1
  simp [Nat.add_mod]
theorem addc_wd (a b i : Nat) : addc (wd a i) (wd b i) (cin a b i : Int) = (cin a b (i + 1) : Int) := by
  unfold addc wd
  rw [← Int.natCast_add, ← Int.natCast_add, ← Int.natCast_ediv]
  congr 1
  have hp := pw_pos i
  have e : cin a b (i + 1) = (a % W64 ^ i + b % W64 ^ i + W64 ^ i * (a / W64 ^ i % W64 + b / W64 ^ i % W64)) / W64 ^ i / W64 := by
    unfold cin
    rw [low_succ, low_succ, Nat.div_div_eq_div_mul, ← Nat.pow_succ]
    congr 1
    rw [Nat.mul_add]; omega
  rw [e, Nat.add_mul_div_left _ _ hp]
  unfold cin
  congr 1; omega
theorem cin_end {a b i : Nat} (ha : a < W64 ^ i) (hb : b < W64 ^ i) : cin a b i = if W64 ^ i ≤ a + b then 1 else 0 := by
  unfold cin
  rw [Nat.mod_eq_of_lt ha, Nat.mod_eq_of_lt hb]
  split
  · have : (a + b) / W64 ^ i = 1 := by rw [Nat.div_eq_iff (pw_pos i)]; constructor <;> omega
    exact this
  · exact Nat.div_eq_of_lt (by omega)
/-- the borrow into place i -/
def bin (a b i : Nat) : Nat := if a % W64 ^ i < b % W64 ^ i then 1 else 0
theorem bin_zero (a b : Nat) : bin a b 0 = 0 := by simp [bin, Nat.mod_one]
theorem bin_le (a b i : Nat) : bin a b i ≤ 1 := by unfold bin; split <;> omega
theorem bin_end {a b i : Nat} (ha : a < W64 ^ i) (hb : b < W64 ^ i) : bin a b i = if a < b then 1 else 0 := by
  unfold bin; rw [Nat.mod_eq_of_lt ha, Nat.mod_eq_of_lt hb]
theorem subc_wd (a b i : Nat) : subc (wd a i) (wd b i) (bin a b i : Int) = (bin a b (i + 1) : Int) := by
  have hp := pw_pos i
  have h1 := Nat.mod_lt a hp
  have h2 := Nat.mod_lt b hp
  have h3 : bin a b (i + 1) = if a / W64 ^ i % W64 < b / W64 ^ i % W64 + bin a b i then 1 else 0 := by
    unfold bin
    rw [low_succ, low_succ]
    generalize W64 ^ i = p at *
    generalize a / p % W64 = x; generalize b / p % W64 = y; generalize a % p = r at *; generalize b % p = s at *
    by_cases hrs : r < s
    · simp only [hrs, if_true]
      by_cases hxy : x < y + 1
      · rw [if_pos hxy, if_pos]
        have : p * x ≤ p * y := Nat.mul_le_mul_left _ (by omega)
        omega
      · rw [if_neg hxy, if_neg]
        have : p * (y + 1) ≤ p * x := Nat.mul_le_mul_left _ (by omega)
        rw [Nat.mul_add] at this; omega
    · simp only [hrs, if_false, Nat.add_zero]
      by_cases hxy : x < y
      · rw [if_pos hxy, if_pos]
        have : p * (x + 1) ≤ p * y := Nat.mul_le_mul_left _ (by omega)
        rw [Nat.mul_add] at this; omega
      · rw [if_neg hxy, if_neg]
        have : p * y ≤ p * x := Nat.mul_le_mul_left _ (by omega)
        omega
  unfold subc wd
  rw [h3, ← Int.natCast_add]
  simp only [Int.ofNat_lt]
  split <;> rfl
/-- the difference, at whatever size that holds it -/
theorem subw_wd (a b i m : Nat) (hm : i < m) (hb : b ≤ a + W64 ^ m) : subw (wd a i) (wd b i) (bin a b i : Int) = wd (a + W64 ^ m - b) i := by
  have hp := pw_pos i
  have h1 := Nat.mod_lt a hp
  have h2 := Nat.mod_lt b hp
  have e1 := Nat.div_add_mod a (W64 ^ i)
  have e2 := Nat.div_add_mod b (W64 ^ i)
  have e3 : W64 ^ m = W64 ^ i * (W64 * W64 ^ (m - i - 1)) := by
    rw [← Nat.pow_succ', ← Nat.pow_add]; congr 1; omega
  have e4 : (a + W64 ^ m - b) / W64 ^ i = a / W64 ^ i + W64 * W64 ^ (m - i - 1) - b / W64 ^ i - bin a b i := by
    rw [e3] at hb ⊢
    unfold bin
    generalize W64 ^ i = p at *
    generalize W64 * W64 ^ (m - i - 1) = q at *
    generalize a / p = x at *; generalize b / p = y at *; generalize a % p = r at *; generalize b % p = s at *
    have hxy : p * y ≤ p * (x + q) + r := by rw [Nat.mul_add]; omega
    by_cases hrs : r < s
    · simp only [hrs, if_true]
      have hlt : y < x + q := by
        apply Classical.byContradiction
        intro hn
        have : p * (x + q) ≤ p * y := Nat.mul_le_mul_left _ (by omega)
        have : p * y + s ≤ p * (x + q) + r := by rw [Nat.mul_add]; omega
        omega
      have e : a + p * q - b = (p + r - s) + p * (x + q - y - 1) := by
        have : p * (x + q) = p * (x + q - y - 1) + p * y + p := by
          rw [show x + q = (x + q - y - 1) + y + 1 by omega, Nat.mul_add, Nat.mul_add, Nat.mul_one]
          rw [show x + q - y - 1 + y + 1 - y - 1 = x + q - y - 1 by omega]
        rw [Nat.mul_add] at this; omega
      rw [e, Nat.add_mul_div_left _ _ hp, Nat.div_eq_of_lt (by omega)]; omega
    · simp only [hrs, if_false, Nat.sub_zero]
      have hle : y ≤ x + q := by
        apply Classical.byContradiction
        intro hn
        have : p * (x + q + 1) ≤ p * y := Nat.mul_le_mul_left _ (by omega)
        rw [Nat.mul_add] at this; omega
      have e : a + p * q - b = (r - s) + p * (x + q - y) := by
        have : p * (x + q) = p * (x + q - y) + p * y := by rw [← Nat.mul_add]; congr 1; omega
        rw [Nat.mul_add] at this; omega
      rw [e, Nat.add_mul_div_left _ _ hp, Nat.div_eq_of_lt (by omega)]; omega
  have hle : b / W64 ^ i + bin a b i ≤ a / W64 ^ i + W64 * W64 ^ (m - i - 1) := by
    rw [e3] at hb
    unfold bin
    generalize W64 ^ i = p at *
    generalize W64 * W64 ^ (m - i - 1) = q at *
    generalize a / p = x at *; generalize b / p = y at *; generalize a % p = r at *; generalize b % p = s at *
    apply Classical.byContradiction
    intro hn
    split at hn
    · have : p * (x + q) ≤ p * y := Nat.mul_le_mul_left _ (by omega)
      rw [Nat.mul_add] at this; omega
    · have : p * (x + q + 1) ≤ p * y := Nat.mul_le_mul_left _ (by omega)
      rw [Nat.mul_add, Nat.mul_add] at this; omega
  unfold subw wd
  rw [e4]
  generalize a / W64 ^ i = x at *; generalize b / W64 ^ i = y at *; generalize bin a b i = c at *
  generalize W64 ^ (m - i - 1) = t at *
  have hw := W64_pos
  generalize W64 = z at *
  rw [Int.natCast_emod, Int.natCast_emod, Int.natCast_emod]
  rw [show ((x + z * t - y - c : Nat) : Int) = (x : Int) + (z : Int) * (t : Int) - (y : Int) - (c : Int) by
    have : ((z * t : Nat) : Int) = (z : Int) * (t : Int) := Int.natCast_mul z t
    omega]
  have e5 := Int.emod_add_mul_ediv (x : Int) (z : Int)
  have e6 := Int.emod_add_mul_ediv (y : Int) (z : Int)
  have e7 : (x : Int) % (z : Int) + (z : Int) - (y : Int) % (z : Int) - (c : Int) = ((x : Int) + (z : Int) * (t : Int) - (y : Int) - (c : Int)) + (z : Int) * (1 - (t : Int) - (x : Int) / (z : Int) + (y : Int) / (z : Int)) := by
    simp only [Int.mul_add, Int.mul_sub, Int.mul_one]; omega
  rw [e7, Int.add_mul_emod_self_left]

/-! bits of words -/
theorem wd_testBit (a j k : Nat) (hk : k < 64) : (a / W64 ^ j % W64).testBit k = a.testBit (64 * j + k) := by
  rw [W64_pow, ← Nat.pow_mul, Nat.testBit_mod_two_pow, Nat.testBit_div_two_pow]
  simp [hk, Nat.add_comm]
theorem wd_bit (a j k : Nat) (hk : k < 64) : (bits .and .u64 (wd a j / 2 ^ k) 1 == 1) = a.testBit (64 * j + k) := by
  have hlt : a / W64 ^ j % W64 < 18446744073709551616 := Nat.mod_lt _ W64_pos
  have e : wd a j / 2 ^ k = ((a / W64 ^ j % W64 / 2 ^ k : Nat) : Int) := by unfold wd; rw [Int.natCast_ediv]; simp
  have h1 := u64_and_nat (a / W64 ^ j % W64 / 2 ^ k) 1 (Nat.lt_of_le_of_lt (Nat.div_le_self _ _) hlt) (by decide)
  rw [e, show (1 : Int) = ((1 : Nat) : Int) from rfl, h1, nat_mask1, ← wd_testBit a j k hk, Nat.testBit_eq_decide_div_mod_eq]
  rw [Bool.eq_iff_iff, beq_iff_eq, decide_eq_true_eq]
  omega
/-- is bit i 1? (of an int) -/
def bitB (a : Nat) (i : Int) : Bool := decide (0 ≤ i) && a.testBit i.toNat
theorem bitB_neg {a : Nat} {i : Int} (h : i < 0) : bitB a i = false := by simp [bitB]; omega
theorem bitB_nat (a i : Nat) : bitB a (i : Int) = a.testBit i := by simp [bitB]
theorem bitB_big {a : Nat} (ha : a < W128) {i : Int} (h : 127 < i) : bitB a i = false := by
  have : a.testBit i.toNat = false := Nat.testBit_lt_two_pow (Nat.lt_of_lt_of_le ha (by rw [W128_pow]; exact Nat.pow_le_pow_right (by decide) (by omega)))
  simp [bitB, this]
theorem bitB_hi {a : Nat} {i : Int} (h0 : 63 < i) (h1 : i ≤ 127) : (bits .and .u64 (wd a 1 / 2 ^ (i - 64).toNat) 1 == 1) = bitB a i := by
  rw [wd_bit a 1 _ (by omega), bitB, show 64 * 1 + (i - 64).toNat = i.toNat by omega]
  simp; omega
theorem bitB_lo {a : Nat} {i : Int} (h0 : 0 ≤ i) (h1 : i ≤ 63) : (bits .and .u64 (wd a 0 / 2 ^ i.toNat) 1 == 1) = bitB a i := by
  rw [wd_bit a 0 _ (by omega), bitB, show 64 * 0 + i.toNat = i.toNat by omega]
  simp [h0]
/-! words and their number -/
theorem wd_mod (n i j : Nat) (h : i < j) : wd (n % W64 ^ j) i = wd n i := by
  unfold wd
  congr 1
  have e : W64 ^ j = W64 ^ i * (W64 * W64 ^ (j - i - 1)) := by rw [← Nat.pow_succ', ← Nat.pow_add]; congr 1; omega
  rw [e, Nat.mod_mul_right_div_self, Nat.mod_mul_right_mod]
theorem num_succ (n i : Nat) : n % W64 ^ (i + 1) = n % W64 ^ i + W64 ^ i * (wd n i).toNat := by
  rw [low_succ]; unfold wd; rw [Int.toNat_natCast]
theorem wd_ext {a b : Nat} (m : Nat) (h : ∀ i, i < m → wd a i = wd b i) : a % W64 ^ m = b % W64 ^ m := by
  induction m with
  | zero => simp [Nat.mod_one]
  | succ m ih => rw [num_succ, num_succ, ih (fun i hi => h i (by omega)), h m (by omega)]
theorem wd_ext2 {a b : Nat} (ha : a < W128) (hb : b < W128) (h0 : wd a 0 = wd b 0) (h1 : wd a 1 = wd b 1) : a = b := by
  have := wd_ext (a := a) (b := b) 2 (fun i hi => by
    have : i = 0 ∨ i = 1 := by omega
    rcases this with rfl | rfl <;> assumption)
  rw [show W64 ^ 2 = W128 by decide, Nat.mod_eq_of_lt ha, Nat.mod_eq_of_lt hb] at this
  exact this
theorem wd_ext4 {a b : Nat} (ha : a < W256) (hb : b < W256) (h0 : wd a 0 = wd b 0) (h1 : wd a 1 = wd b 1) (h2 : wd a 2 = wd b 2) (h3 : wd a 3 = wd b 3) : a = b := by
  have := wd_ext (a := a) (b := b) 4 (fun i hi => by
    have : i = 0 ∨ i = 1 ∨ i = 2 ∨ i = 3 := by omega
    rcases this with rfl | rfl | rfl | rfl <;> assumption)
  rw [show W64 ^ 4 = W256 by decide, Nat.mod_eq_of_lt ha, Nat.mod_eq_of_lt hb] at this
  exact this
/-- every pair of values of 64 bits is a number's words -/
theorem words2 {h l : Int} (hh : U64 h) (hl : U64 l) : ∃ n : Nat, n < W128 ∧ h = wd n 1 ∧ l = wd n 0 := by
  obtain ⟨h, rfl, hh'⟩ := hh.nat
  obtain ⟨l, rfl, hl'⟩ := hl.nat
  refine ⟨mk2 h l, ?_, (wd_mk2_1 hh' hl').symm, (wd_mk2_0 hl').symm⟩
  unfold mk2 W128
  calc h * W64 + l < h * W64 + W64 := by omega
    _ = (h + 1) * W64 := by rw [Nat.add_mul, Nat.one_mul]
    _ ≤ W64 * W64 := Nat.mul_le_mul_right _ hh'
theorem wd_zero (i : Nat) : wd 0 i = 0 := by simp [wd]
theorem eq_zero2 {a : Nat} (ha : a < W128) : (wd a 1 = 0 ∧ wd a 0 = 0) ↔ a = 0 := by
  constructor
  · rintro ⟨h1, h0⟩; exact wd_ext2 ha (by decide) (by rw [h0, wd_zero]) (by rw [h1, wd_zero])
  · rintro rfl; exact ⟨wd_zero _, wd_zero _⟩
end Go.Proofs.YtikjbocagnolmaaDoor
