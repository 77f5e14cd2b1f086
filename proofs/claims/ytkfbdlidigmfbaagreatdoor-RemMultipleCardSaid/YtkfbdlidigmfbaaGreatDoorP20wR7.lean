import Derived.Test.YtkfbdlidigmfbaaGreatDoorP18aR7
import Derived.Test.YtkfbdlidigmfbaaGreatDoorP20R7
namespace Go.Proofs.YtkfbdlidigmfbaaGreatDoor
set_option linter.unusedVariables false
set_option linter.unusedSimpArgs false
set_option maxRecDepth 100000
open Go.RowKit
theorem wd_add_128 {n i : Nat} (hi : i < 2) : wd (n + W128) i = wd n i := by
 unfold wd
 rcases (show i = 0 ∨ i = 1 by omega) with rfl | rfl
 ·rw [Nat.pow_zero, Nat.div_one, Nat.div_one, show W128 = W64 * W64 from rfl, Nat.add_mul_mod_self_left]
 ·rw [Nat.pow_one, show W128 = W64 * W64 from rfl, Nat.add_mul_div_left _ _ W64_pos, Nat.add_mod_right]
theorem wd_sub_128 {p q i : Nat} (h : q ≤ p) (hi : i < 2) : wd (p + W128 - q) i = wd (p - q) i := by
 rw [show p + W128 - q = (p - q) + W128 by omega]; exact wd_add_128 hi
theorem wd_add_256 {n i : Nat} (hi : i < 4) : wd (n + W256) i = wd n i := by
 unfold wd
 have e : W256 = W64 ^ i * (W64 * W64 ^ (3 - i)) := by
  rcases (show i = 0 ∨ i = 1 ∨ i = 2 ∨ i = 3 by omega) with rfl | rfl | rfl | rfl <;> decide
 rw [e, Nat.add_mul_div_left _ _ (Nat.pow_pos W64_pos), Nat.add_mul_mod_self_left]
theorem wd_sub_256 {p q i : Nat} (h : q ≤ p) (hi : i < 4) : wd (p + W256 - q) i = wd (p - q) i := by
 rw [show p + W256 - q = (p - q) + W256 by omega]; exact wd_add_256 hi
theorem k_wordSub {p q : Nat} (hp : p < W128) (hq : q < W128) : F_word_Sub [wd p 1, wd p 0, wd q 1, wd q 0] = [wd (p + W128 - q) 1, wd (p + W128 - q) 0, b2i (decide (p < q))] := by
 rw [s_word_Sub, nB_small hp, nB_small hq]
theorem k_wordSubLe {p q : Nat} (hp : p < W128) (h : q ≤ p) : F_word_Sub [wd p 1, wd p 0, wd q 1, wd q 0] = [wd (p - q) 1, wd (p - q) 0, 0] := by
 rw [k_wordSub hp (by omega), wd_sub_128 h (by decide), wd_sub_128 h (by decide), decide_eq_false (by omega)]; rfl
theorem k_wordCmp {p q : Nat} (hp : p < W128) (hq : q < W128) : F_word_Cmp [wd p 1, wd p 0, wd q 1, wd q 0] = [nCmp p q] := by
 rw [s_word_Cmp, nB_small hp, nB_small hq]
theorem k_wideOf {p : Nat} (hp : p < W128) : F_wide_Of [wd p 1, wd p 0] = [wd p 0, wd p 1, wd p 2, wd p 3] := by
 rw [s_wide_Of, nB_small hp, oW_eq]
theorem k_wideZero {p : Nat} (hp : p < W256) : F_wide_Zero [wd p 0, wd p 1, wd p 2, wd p 3] = [b2i (decide (p = 0))] := by
 rw [s_wide_Zero, nW_small hp]
theorem w4_nW (l : List Int) (i : Nat) : w4 l i = nW (getI l i) (getI l (i + 1)) (getI l (i + 2)) (getI l (i + 3)) := by
 unfold w4 nW; generalize (u64 (getI l i)).toNat = a; generalize (u64 (getI l (i + 1))).toNat = b; generalize (u64 (getI l (i + 2))).toNat = c; generalize (u64 (getI l (i + 3))).toNat = d
 rfl
theorem k_wideSub {p q : Nat} (hp : p < W256) (h : q ≤ p) : fWideSub [wd p 0, wd p 1, wd p 2, wd p 3, wd q 0, wd q 1, wd q 2, wd q 3] = [wd (p - q) 0, wd (p - q) 1, wd (p - q) 2, wd (p - q) 3, 0] := by
 have e1 : w4 [wd p 0, wd p 1, wd p 2, wd p 3, wd q 0, wd q 1, wd q 2, wd q 3] 0 = p := by rw [w4_nW]; exact nW_small hp
 have e2 : w4 [wd p 0, wd p 1, wd p 2, wd p 3, wd q 0, wd q 1, wd q 2, wd q 3] 4 = q := by rw [w4_nW]; exact nW_small (by omega)
 have hb : Nat.blt p q = false := by rw [Bool.eq_false_iff]; intro h2; rw [Nat.blt_eq] at h2; omega
 rw [fWideSub, e1, e2, hb, fWide_eq, wd_sub_256 h (by decide), wd_sub_256 h (by decide), wd_sub_256 h (by decide), wd_sub_256 h (by decide)]; rfl
theorem k_wideAdd {p q : Nat} (h : p + q < W256) : fWideAdd [wd p 0, wd p 1, wd p 2, wd p 3, wd q 0, wd q 1, wd q 2, wd q 3] = [wd (p + q) 0, wd (p + q) 1, wd (p + q) 2, wd (p + q) 3, 0] := by
 have e1 : w4 [wd p 0, wd p 1, wd p 2, wd p 3, wd q 0, wd q 1, wd q 2, wd q 3] 0 = p := by rw [w4_nW]; exact nW_small (by omega)
 have e2 : w4 [wd p 0, wd p 1, wd p 2, wd p 3, wd q 0, wd q 1, wd q 2, wd q 3] 4 = q := by rw [w4_nW]; exact nW_small (by omega)
 have hb : Nat.ble W256 (p + q) = false := by rw [Bool.eq_false_iff]; intro h2; have := Nat.le_of_ble_eq_true h2; omega
 rw [fWideAdd, e1, e2, hb, fWide_eq]; rfl
theorem nCmp_gt {p q : Nat} : decide (nCmp p q > 0) = decide (q < p) := by
 rw [decide_eq_decide]; unfold nCmp
 by_cases h1 : p < q
 ·rw [if_pos h1]; omega
 ·rw [if_neg h1]
  by_cases h2 : q < p
  ·rw [if_pos h2]; omega
  ·rw [if_neg h2]; omega
theorem nCmp_eq {p q : Nat} : (nCmp p q == 0) = decide (p = q) := by
 rw [Bool.eq_iff_iff, beq_iff_eq, decide_eq_true_iff]; unfold nCmp
 by_cases h1 : p < q
 ·rw [if_pos h1]; omega
 ·rw [if_neg h1]
  by_cases h2 : q < p
  ·rw [if_pos h2]; omega
  ·rw [if_neg h2]; omega
theorem nCmp_i64 (p q : Nat) : i64 (nCmp p q) = nCmp p q := by
 unfold nCmp
 by_cases h1 : p < q
 ·rw [if_pos h1]; rfl
 ·rw [if_neg h1]
  by_cases h2 : q < p
  ·rw [if_pos h2]; rfl
  ·rw [if_neg h2]; rfl
end Go.Proofs.YtkfbdlidigmfbaaGreatDoor
