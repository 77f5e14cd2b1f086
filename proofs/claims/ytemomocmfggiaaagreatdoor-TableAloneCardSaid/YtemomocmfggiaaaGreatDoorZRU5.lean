import Derived.Test.YtemomocmfggiaaaGreatDoorZ1U5
import Derived.Test.YtemomocmfggiaaaGreatDoorZNU5
namespace Go.Proofs.YtemomocmfggiaaaGreatDoor
set_option linter.unusedVariables false
set_option linter.unusedSimpArgs false
set_option maxRecDepth 100000
open Go.RowKit
theorem nCmp_hi {x y m : Nat} (hm : 0 < m) (h : ¬ x / m = y / m) : nCmp (x / m) (y / m) = nCmp x y := by
 have h1 : x / m < y / m → x < y := fun h => Nat.lt_of_div_lt_div h
 have h2 : y / m < x / m → y < x := fun h => Nat.lt_of_div_lt_div h
 unfold nCmp
 by_cases h3 : x / m < y / m
 ·rw [if_pos h3, if_pos (h1 h3)]
 ·have h4 : y / m < x / m := by omega
  have h5 := h2 h4
  rw [if_neg h3, if_pos h4, if_neg (by omega), if_pos h5]
theorem nCmp_lo {x y m : Nat} (hm : 0 < m) (h : x / m = y / m) : nCmp (x % m) (y % m) = nCmp x y := by
 have e1 := Nat.div_add_mod x m
 have e2 := Nat.div_add_mod y m
 rw [← h] at e2
 generalize m * (x / m) = q at *
 unfold nCmp
 by_cases h3 : x % m < y % m
 ·rw [if_pos h3, if_pos (by omega)]
 ·by_cases h4 : y % m < x % m
  ·rw [if_neg h3, if_pos h4, if_neg (by omega), if_pos (by omega)]
  ·rw [if_neg h3, if_neg h4, if_neg (by omega), if_neg (by omega)]
theorem s_wide_Cmp (a b c d e f g h : Int) : F_wide_Cmp [a, b, c, d, e, f, g, h] = [nCmp (nW a b c d) (nW e f g h)] := by
 have hx := nW_lt a b c d
 have hy := nW_lt e f g h
 have cx : nW (u64 a) (u64 b) (u64 c) (u64 d) = nW a b c d := nW_u _ _ _ _
 have cy : nW (u64 e) (u64 f) (u64 g) (u64 h) = nW e f g h := nW_u _ _ _ _
 have H1 : F_wide_High [u64 a, u64 b, u64 c, u64 d] = [wd (nW a b c d / W128) 1, wd (nW a b c d / W128) 0] := by rw [s_wide_High, cx, oB_eq]
 have H2 : F_wide_High [u64 e, u64 f, u64 g, u64 h] = [wd (nW e f g h / W128) 1, wd (nW e f g h / W128) 0] := by rw [s_wide_High, cy, oB_eq]
 have L1 : F_wide_Low [u64 a, u64 b, u64 c, u64 d] = [wd (nW a b c d) 1, wd (nW a b c d) 0] := by rw [s_wide_Low, cx, oB_eq]
 have L2 : F_wide_Low [u64 e, u64 f, u64 g, u64 h] = [wd (nW e f g h) 1, wd (nW e f g h) 0] := by rw [s_wide_Low, cy, oB_eq]
 generalize nW a b c d = x at *
 generalize nW e f g h = y at *
 rw [F_wide_Cmp, t_wide_Cmp]
 refine (treeF_call (r := [wd (x / W128) 1, wd (x / W128) 0]) (by simp only [sxs, ph_A0_wide_High]; exact H1) (by rfl)).trans ?_
 refine (treeF_call (r := [wd (y / W128) 1, wd (y / W128) 0]) (by simp only [sxs, ph_A0_wide_High]; exact H2) (by rfl)).trans ?_
 refine (treeF_call (r := [nCmp (x / W128) (y / W128)]) (by simp only [sxs, ph_A0_word_Cmp]; exact k_wordCmp (div128_lt hx) (div128_lt hy)) (by rfl)).trans ?_
 refine tI (¬ x / W128 = y / W128) (by simp only [sxs, nCmp_i64]; show (!(nCmp _ _ == 0)) = _; rw [nCmp_eq]; exact (decide_not).symm) (fun h1 => ?_) (fun h1 => ?_)
 ·rw [treeF_leaf rfl]
  simp only [sxs, nCmp_i64]
  rw [nCmp_hi W128_pos h1]
 replace h1 := Decidable.not_not.1 h1
 refine (treeF_call (r := [wd x 1, wd x 0]) (by simp only [sxs, ph_A0_wide_Low]; exact L1) (by rfl)).trans ?_
 refine (treeF_call (r := [wd y 1, wd y 0]) (by simp only [sxs, ph_A0_wide_Low]; exact L2) (by rfl)).trans ?_
 refine (treeF_call (r := [nCmp x y]) (by simp only [sxs, ph_A0_word_Cmp]; rw [s_word_Cmp, nB_mod, nB_mod, nCmp_lo W128_pos h1]) (by rfl)).trans ?_
 rw [treeF_leaf rfl]
 simp only [sxs, nCmp_i64]
end Go.Proofs.YtemomocmfggiaaaGreatDoor
