import Derived.Test.YtkfbdlidigmfbaaGreatDoorZNR7
import Derived.Test.YtkfbdlidigmfbaaGreatDoorZQR7
import Derived.Test.YtkfbdlidigmfbaaGreatDoorP20wR7
namespace Go.Proofs.YtkfbdlidigmfbaaGreatDoor
set_option linter.unusedVariables false
set_option linter.unusedSimpArgs false
set_option maxRecDepth 100000
open Go.RowKit
theorem nCmp_hi {x y m : Nat} (hm : 0 < m) (h : ¬ x / m = y / m) : nCmp (x / m) (y / m) = nCmp x y := by
 have h1 : x / m < y / m → x < y := fun h => Nat.lt_of_div_lt_div h
 have h2 : y / m < x / m → y < x := fun h => Nat.lt_of_div_lt_div h
 unfold nCmp
 by_cases h3 : x / m < y / m
 ·rw [if_pos h3, if_pos (h1 h3)]
 ·have h4 : y / m < x / m := by omega
  have h5 := h2 h4
  rw [if_neg h3, if_pos h4, if_neg (by omega), if_pos h5]
theorem nCmp_lo {x y m : Nat} (hm : 0 < m) (h : x / m = y / m) : nCmp (x % m) (y % m) = nCmp x y := by
 have e1 := Nat.div_add_mod x m
 have e2 := Nat.div_add_mod y m
 rw [← h] at e2
 generalize m * (x / m) = q at *
 unfold nCmp
 by_cases h3 : x % m < y % m
 ·rw [if_pos h3, if_pos (by omega)]
 ·by_cases h4 : y % m < x % m
  ·rw [if_neg h3, if_pos h4, if_neg (by omega), if_pos (by omega)]
  ·rw [if_neg h3, if_neg h4, if_neg (by omega), if_neg (by omega)]
theorem s_wide_Cmp (a b c d e f g h : Int) : F_wide_Cmp [a, b, c, d, e, f, g, h] = [nCmp (nW a b c d) (nW e f g h)] := by
 have hx := nW_lt a b c d
 have hy := nW_lt e f g h
 have cx : nW (u64 a) (u64 b) (u64 c) (u64 d) = nW a b c d := nW_u _ _ _ _
 have cy : nW (u64 e) (u64 f) (u64 g) (u64 h) = nW e f g h := nW_u _ _ _ _
 have H1 : F_wide_High [u64 a, u64 b, u64 c, u64 d] = [wd (nW a b c d / W128) 1, wd (nW a b c d / W128) 0] := by rw [s_wide_High, cx, oB_eq]
 have H2 : F_wide_High [u64 e, u64 f, u64 g, u64 h] = [wd (nW e f g h / W128) 1, wd (nW e f g h / W128) 0] := by rw [s_wide_High, cy, oB_eq]
 have L1 : F_wide_Low [u64 a, u64 b, u64 c, u64 d] = [wd (nW a b c d) 1, wd (nW a b c d) 0] := by rw [s_wide_Low, cx, oB_eq]
 have L2 : F_wide_Low [u64 e, u64 f, u64 g, u64 h] = [wd (nW e f g h) 1, wd (nW e f g h) 0] := by rw [s_wide_Low, cy, oB_eq]
 generalize nW a b c d = x at *
 generalize nW e f g h = y at *
 rw [F_wide_Cmp, t_wide_Cmp]
 refine (treeF_call (r := [wd (x / W128) 1, wd (x / W128) 0]) (by simp only [sxs, ph_A0_wide_High]; exact H1) (by rfl)).trans ?_
 refine (treeF_call (r := [wd (y / W128) 1, wd (y / W128) 0]) (by simp only [sxs, ph_A0_wide_High]; exact H2) (by rfl)).trans ?_
 refine (treeF_call (r := [nCmp (x / W128) (y / W128)]) (by simp only [sxs, ph_A0_word_Cmp]; exact k_wordCmp (div128_lt hx) (div128_lt hy)) (by rfl)).trans ?_
 refine tI (¬ x / W128 = y / W128) (by simp only [sxs, nCmp_i64]; show (!(nCmp _ _ == 0)) = _; rw [nCmp_eq]; exact (decide_not).symm) (fun h1 => ?_) (fun h1 => ?_)
 ·rw [treeF_leaf rfl]
  simp only [sxs, nCmp_i64]
  rw [nCmp_hi W128_pos h1]
 replace h1 := Decidable.not_not.1 h1
 refine (treeF_call (r := [wd x 1, wd x 0]) (by simp only [sxs, ph_A0_wide_Low]; exact L1) (by rfl)).trans ?_
 refine (treeF_call (r := [wd y 1, wd y 0]) (by simp only [sxs, ph_A0_wide_Low]; exact L2) (by rfl)).trans ?_
 refine (treeF_call (r := [nCmp x y]) (by simp only [sxs, ph_A0_word_Cmp]; rw [s_word_Cmp, nB_mod, nB_mod, nCmp_lo W128_pos h1]) (by rfl)).trans ?_
 rw [treeF_leaf rfl]
 simp only [sxs, nCmp_i64]
theorem k_wideCmp {p q : Nat} (hp : p < W256) (hq : q < W256) : F_wide_Cmp [wd p 0, wd p 1, wd p 2, wd p 3, wd q 0, wd q 1, wd q 2, wd q 3] = [nCmp p q] := by
 rw [s_wide_Cmp, nW_small hp, nW_small hq]
end Go.Proofs.YtkfbdlidigmfbaaGreatDoor
namespace Go.Proofs.YtkfbdlidigmfbaaGreatDoor
set_option linter.unusedVariables false
set_option linter.unusedSimpArgs false
set_option maxRecDepth 100000
open Go.RowKit
def exR (e : Int) : Prop := -1000000000 ≤ e ∧ e ≤ 1000000000
theorem exC {e : Int} (h : exR e) : max (-1099511627776) (min e 1099511627776) = e := by unfold exR at h; omega
theorem exI {e : Int} (h : exR e) : i64 e = e := by unfold exR at h; exact i64_id (by omega) (by omega)
theorem k_mag_level {ea eb : Int} {x y : Nat} (ha : exR ea) (hb : exR eb) (hx : x < W256) (hy : y < W256) : F_mag_level [ea, wd x 0, wd x 1, wd x 2, wd x 3, eb, wd y 0, wd y 1, wd y 2, wd y 3] = [FP.lvl ea x eb y] := by
 have zX : F_wide_Zero [wd x 0, wd x 1, wd x 2, wd x 3] = [b2i (decide (x = 0))] := k_wideZero hx
 have zY : F_wide_Zero [wd y 0, wd y 1, wd y 2, wd y 3] = [b2i (decide (y = 0))] := k_wideZero hy
 have iA := exI ha
 have iB := exI hb
 have cA := exC ha
 have cB := exC hb
 have pX : FP.lvl ea x eb y = if x = 0 ∧ y ≠ 0 then eb else if y = 0 ∧ x ≠ 0 then ea else max ea eb := rfl
 generalize FP.lvl ea x eb y = L at *
 rw [F_mag_level, t_mag_level]
 refine (treeF_call (r := [b2i (decide (x = 0))]) (by simp only [sxs, ph_A0_wide_Zero]; exact zX) (by rfl)).trans ?_
 refine tI (x = 0) (by simp only [sxs]) (fun h1 => ?_) (fun h1 => ?_)
 ·refine (treeF_call (r := [b2i (decide (y = 0))]) (by simp only [sxs, ph_A0_wide_Zero]; exact zY) (by rfl)).trans ?_
  refine tI (¬ y = 0) (by simp only [sxs]; exact (decide_not).symm) (fun h2 => ?_) (fun h2 => ?_)
  ·rw [treeF_leaf rfl]; simp only [sxs, iA, iB, cA, cB]; rw [pX, if_pos ⟨h1, h2⟩]
  replace h2 := Decidable.not_not.1 h2
  refine (treeF_call (r := [b2i (decide (y = 0))]) (by simp only [sxs, ph_A0_wide_Zero]; exact zY) (by rfl)).trans ?_
  refine tI (y = 0) (by simp only [sxs]) (fun h3 => ?_) (fun h3 => absurd h2 h3)
  refine (treeF_call (r := [b2i (decide (x = 0))]) (by simp only [sxs, ph_A0_wide_Zero]; exact zX) (by rfl)).trans ?_
  refine tI (¬ x = 0) (by simp only [sxs]; exact (decide_not).symm) (fun h4 => absurd h1 h4) (fun h4 => ?_)
  rw [treeF_leaf rfl]; simp only [sxs, iA, iB, cA, cB]; rw [pX, if_neg (fun h => h.2 h2), if_neg (fun h => h.2 h1)]
 ·refine (treeF_call (r := [b2i (decide (y = 0))]) (by simp only [sxs, ph_A0_wide_Zero]; exact zY) (by rfl)).trans ?_
  refine tI (y = 0) (by simp only [sxs]) (fun h3 => ?_) (fun h3 => ?_)
  ·refine (treeF_call (r := [b2i (decide (x = 0))]) (by simp only [sxs, ph_A0_wide_Zero]; exact zX) (by rfl)).trans ?_
   refine tI (¬ x = 0) (by simp only [sxs]; exact (decide_not).symm) (fun h4 => ?_) (fun h4 => absurd h1 h4)
   rw [treeF_leaf rfl]; simp only [sxs, iA, iB, cA, cB]; rw [pX, if_neg (fun h => h1 h.1), if_pos ⟨h3, h1⟩]
  ·rw [treeF_leaf rfl]; simp only [sxs, iA, iB, cA, cB]; rw [pX, if_neg (fun h => h1 h.1), if_neg (fun h => h3 h.1)]
theorem k_WideJam {x : Nat} {e : Int} (hx : x < W256) (he : exR e) : F_shift_WideJam [wd x 0, wd x 1, wd x 2, wd x 3, e] = [wd (FP.jam x e.toNat) 0, wd (FP.jam x e.toNat) 1, wd (FP.jam x e.toNat) 2, wd (FP.jam x e.toNat) 3] := by
 rw [s_shift_WideJam, nW_small hx, exI he, oW_eq]
theorem k_WideRight {x : Nat} {e : Int} (hx : x < W256) (he : exR e) : F_shift_WideRight [wd x 0, wd x 1, wd x 2, wd x 3, e] = [wd (x / 2 ^ e.toNat) 0, wd (x / 2 ^ e.toNat) 1, wd (x / 2 ^ e.toNat) 2, wd (x / 2 ^ e.toNat) 3] := by
 rw [s_shift_WideRight, nW_small hx, exI he, oW_eq]
theorem k_Lost {x : Nat} {e : Int} (hx : x < W256) (he : exR e) : F_shift_Lost [wd x 0, wd x 1, wd x 2, wd x 3, e] = [b2i (decide (¬ x % 2 ^ e.toNat = 0))] := by
 rw [s_shift_Lost, nW_small hx, exI he]
def exS (e : Int) : Prop := -400000000 ≤ e ∧ e ≤ 400000000
theorem exS_R {e : Int} (h : exS e) : exR e := by unfold exS at h; unfold exR; omega
theorem exS_max {a b : Int} (ha : exS a) (hb : exS b) : exR (max a b - a) ∧ exR (max a b - b) := by unfold exS at *; unfold exR; omega
theorem lvl_S {ea eb : Int} (x y : Nat) (ha : exS ea) (hb : exS eb) : exR (FP.lvl ea x eb y + 1 - ea) ∧ exR (FP.lvl ea x eb y + 1 - eb) ∧ exR (FP.lvl ea x eb y - ea) ∧ exR (FP.lvl ea x eb y - eb) ∧ exR (FP.lvl ea x eb y + 1) ∧ exR (FP.lvl ea x eb y) := by
 unfold exS at *
 unfold exR FP.lvl
 split
 ·omega
 ·split
  ·omega
  ·omega
theorem cmpT_eq (ea : Int) (x : Nat) (eb : Int) (y : Nat) : FP.cmpT ea x eb y = if x / 2 ^ (max ea eb - ea).toNat = y / 2 ^ (max ea eb - eb).toNat then (if ¬ x % 2 ^ (max ea eb - ea).toNat = 0 then 1 else if ¬ y % 2 ^ (max ea eb - eb).toNat = 0 then -1 else 0) else nCmp (x / 2 ^ (max ea eb - ea).toNat) (y / 2 ^ (max ea eb - eb).toNat) := by
 unfold FP.cmpT nCmp
 generalize x / 2 ^ (max ea eb - ea).toNat = p
 generalize y / 2 ^ (max ea eb - eb).toNat = q
 by_cases h : p = q
 ·rw [if_pos h, if_neg (by omega), if_neg (by omega)]
 ·rw [if_neg h]
  by_cases h2 : p < q
  ·rw [if_pos h2, if_pos h2]
  ·rw [if_neg h2, if_neg h2, if_pos (by omega), if_pos (by omega)]
theorem div_W256 {x n : Nat} (h : x < W256) : x / 2 ^ n < W256 := Nat.lt_of_le_of_lt (Nat.div_le_self _ _) h
theorem k_mag_Cmp {ea eb : Int} {x y : Nat} (ha : exS ea) (hb : exS eb) (hx : x < W256) (hy : y < W256) : F_mag_Cmp [ea, wd x 0, wd x 1, wd x 2, wd x 3, eb, wd y 0, wd y 1, wd y 2, wd y 3] = [FP.cmpT ea x eb y] := by
 obtain ⟨r1, r2⟩ := exS_max ha hb
 have R1 := k_WideRight hx r1
 have R2 := k_WideRight hy r2
 have L1 := k_Lost hx r1
 have L2 := k_Lost hy r2
 have iA := exI (exS_R ha)
 have iB := exI (exS_R hb)
 have cA := exC (exS_R ha)
 have cB := exC (exS_R hb)
 have d1 := exI r1
 have d2 := exI r2
 have C := k_wideCmp (div_W256 (n := (max ea eb - ea).toNat) hx) (div_W256 (n := (max ea eb - eb).toNat) hy)
 have hT := cmpT_eq ea x eb y
 generalize FP.cmpT ea x eb y = T at *
 generalize x / 2 ^ (max ea eb - ea).toNat = p at *
 generalize y / 2 ^ (max ea eb - eb).toNat = q at *
 generalize x % 2 ^ (max ea eb - ea).toNat = p' at *
 generalize y % 2 ^ (max ea eb - eb).toNat = q' at *
 rw [F_mag_Cmp, t_mag_Cmp]
 refine (treeF_call (r := [wd p 0, wd p 1, wd p 2, wd p 3]) (by simp only [sxs, ph_A1_shift_WideRight, iA, iB, cA, cB, d1, d2]; exact R1) (by rfl)).trans ?_
 refine (treeF_call (r := [b2i (decide (¬ p' = 0))]) (by simp only [sxs, ph_A1_shift_Lost, iA, iB, cA, cB, d1, d2]; exact L1) (by rfl)).trans ?_
 refine (treeF_call (r := [wd q 0, wd q 1, wd q 2, wd q 3]) (by simp only [sxs, ph_A1_shift_WideRight, iA, iB, cA, cB, d1, d2]; exact R2) (by rfl)).trans ?_
 refine (treeF_call (r := [b2i (decide (¬ q' = 0))]) (by simp only [sxs, ph_A1_shift_Lost, iA, iB, cA, cB, d1, d2]; exact L2) (by rfl)).trans ?_
 refine (treeF_call (r := [nCmp p q]) (by simp only [sxs, ph_A1_wide_Cmp]; exact C) (by rfl)).trans ?_
 refine tI (p = q) (by simp only [sxs, nCmp_i64]; exact nCmp_eq) (fun h1 => ?_) (fun h1 => ?_)
 ·rw [if_pos h1] at hT
  refine tI (¬ p' = 0) (by simp only [sxs]) (fun h2 => ?_) (fun h2 => ?_)
  ·rw [treeF_leaf rfl]; simp only [sxs]; rw [hT, if_pos h2]
  ·refine tI (¬ q' = 0) (by simp only [sxs]) (fun h3 => ?_) (fun h3 => ?_)
   ·rw [treeF_leaf rfl]; simp only [sxs]; rw [hT, if_neg h2, if_pos h3]
   ·rw [treeF_leaf rfl]; simp only [sxs, nCmp_i64]; rw [hT, if_neg h2, if_neg h3, h1]; unfold nCmp; rw [if_neg (Nat.lt_irrefl _), if_neg (Nat.lt_irrefl _)]
 ·rw [if_neg h1] at hT
  rw [treeF_leaf rfl]; simp only [sxs, nCmp_i64]; rw [hT]
theorem jam_half_lt {x n : Nat} (hx : x < W256) (hn : 1 ≤ n) : 2 * FP.jam x n < W256 + 2 := by
 have h := (FP.jam_half x n).1
 have h2 : x / 2 ^ (n + 1) * 4 ≤ x := by
  have h3 : 4 ≤ 2 ^ (n + 1) := by
   have : 2 ^ 2 ≤ 2 ^ (n + 1) := Nat.pow_le_pow_right (by decide) (by omega)
   simpa using this
  exact Nat.le_trans (Nat.mul_le_mul_left _ h3) (Nat.div_mul_le_self _ _)
 have h4 : W256 % 4 = 0 := by decide
 generalize W256 = w at *
 generalize x / 2 ^ (n + 1) = k at *
 omega
theorem jam_even_top {x n : Nat} (hx : x < W256) (hn : 1 ≤ n) : 2 * FP.jam x n < W256 := by
 have h := jam_half_lt hx hn
 have h5 : W256 % 4 = 0 := by decide
 have h1 := (FP.jam_half x n).1
 have h2 : x / 2 ^ (n + 1) * 4 ≤ x := by
  have h3 : 4 ≤ 2 ^ (n + 1) := by
   have : 2 ^ 2 ≤ 2 ^ (n + 1) := Nat.pow_le_pow_right (by decide) (by omega)
   simpa using this
  exact Nat.le_trans (Nat.mul_le_mul_left _ h3) (Nat.div_mul_le_self _ _)
 generalize W256 = w at *
 generalize x / 2 ^ (n + 1) = k at *
 omega
theorem sum_lt {ea eb : Int} {x y : Nat} (hx : x < W256) (hy : y < W256) : (FP.sumT ea x eb y).2 < W256 := by
 unfold FP.sumT
 simp only []
 by_cases h0 : x = 0
 ·have jx : ∀ n, FP.jam x n = 0 := fun n => by rw [h0]; exact FP.jam_zero n
  rw [jx, Nat.zero_add]
  exact jam_lt hy
 ·by_cases h1 : y = 0
  ·have jy : ∀ n, FP.jam y n = 0 := fun n => by rw [h1]; exact FP.jam_zero n
   rw [jy, Nat.add_zero]
   exact jam_lt hx
  ·have e1 : FP.lvl ea x eb y = max ea eb := by unfold FP.lvl; rw [if_neg (fun h => h0 h.1), if_neg (fun h => h1 h.1)]
   rw [e1]
   have a := jam_even_top (n := (max ea eb + 1 - ea).toNat) hx (by omega)
   have b := jam_even_top (n := (max ea eb + 1 - eb).toNat) hy (by omega)
   generalize W256 = w at *
   omega
theorem k_mag_Sum {ea eb : Int} {x y : Nat} (ha : exS ea) (hb : exS eb) (hx : x < W256) (hy : y < W256) : F_mag_Sum [ea, wd x 0, wd x 1, wd x 2, wd x 3, eb, wd y 0, wd y 1, wd y 2, wd y 3] = [(FP.sumT ea x eb y).1, wd (FP.sumT ea x eb y).2 0, wd (FP.sumT ea x eb y).2 1, wd (FP.sumT ea x eb y).2 2, wd (FP.sumT ea x eb y).2 3] := by
 obtain ⟨l1, l2, l3, l4, l5, l6⟩ := lvl_S x y ha hb
 have L := k_mag_level (exS_R ha) (exS_R hb) hx hy
 have J1 := k_WideJam hx l1
 have J2 := k_WideJam hy l2
 have iA := exI (exS_R ha)
 have iB := exI (exS_R hb)
 have cA := exC (exS_R ha)
 have cB := exC (exS_R hb)
 have i1 := exI l1
 have i2 := exI l2
 have i5 := exI l5
 have i6 := exI l6
 have S := sum_lt (ea := ea) (eb := eb) hx hy
 unfold FP.sumT at S ⊢
 simp only [] at S ⊢
 generalize FP.lvl ea x eb y = l at *
 generalize FP.jam x (l + 1 - ea).toNat = p at *
 generalize FP.jam y (l + 1 - eb).toNat = q at *
 rw [F_mag_Sum, t_mag_Sum]
 refine (treeF_call (r := [l]) (by simp only [sxs, ph_A1_mag_level, iA, iB]; exact L) (by rfl)).trans ?_
 refine (treeF_call (r := [wd p 0, wd p 1, wd p 2, wd p 3]) (by simp only [sxs, ph_A1_shift_WideJam, iA, iB, cA, cB, i1, i2, i5, i6]; exact J1) (by rfl)).trans ?_
 refine (treeF_call (r := [wd q 0, wd q 1, wd q 2, wd q 3]) (by simp only [sxs, ph_A1_shift_WideJam, iA, iB, cA, cB, i1, i2, i5, i6]; exact J2) (by rfl)).trans ?_
 refine (treeF_call (r := [wd (p + q) 0, wd (p + q) 1, wd (p + q) 2, wd (p + q) 3, 0]) (by simp only [sxs, ph_A1_wide_Add]; exact k_wideAdd S) (by rfl)).trans ?_
 rw [treeF_leaf rfl]; simp only [sxs, i5, i6]
theorem jam_le_jam {ea eb : Int} {x y : Nat} (h : ¬ FP.cmpT ea x eb y < 0) : FP.jam y (FP.lvl ea x eb y - eb).toNat ≤ FP.jam x (FP.lvl ea x eb y - ea).toNat := by
 by_cases h1 : y = 0
 ·have : FP.jam y (FP.lvl ea x eb y - eb).toNat = 0 := by rw [h1]; exact FP.jam_zero _
  omega
 have hL := FP.cmpT_lt (ea := ea) (eb := eb) (L := min ea eb) (sa := x) (sb := y) (by omega) (by omega)
 rw [hL] at h
 have h := Nat.le_of_not_lt h
 by_cases h0 : x = 0
 ·exfalso
  rw [h0, Nat.zero_mul] at h
  have := FP.two_pow_pos (eb - min ea eb).toNat
  rcases Nat.mul_eq_zero.1 (Nat.le_zero.1 h) with h | h
  ·exact h1 h
  ·omega
 have e1 : FP.lvl ea x eb y = max ea eb := by unfold FP.lvl; rw [if_neg (fun h => h0 h.1), if_neg (fun h => h1 h.1)]
 rw [e1]
 by_cases hle : eb ≤ ea
 ·obtain ⟨d, hd⟩ : ∃ d, d = (ea - eb).toNat := ⟨_, rfl⟩
  rw [show (max ea eb - ea).toNat = 0 by omega, show (max ea eb - eb).toNat = d by omega, FP.jam0]
  rw [show (ea - min ea eb).toNat = d by omega, show (eb - min ea eb).toNat = 0 by omega, Nat.pow_zero, Nat.mul_one] at h
  have hp := FP.two_pow_pos d
  have q1 : y / 2 ^ d ≤ x := Nat.div_le_of_le_mul (by rw [Nat.mul_comm]; exact h)
  unfold FP.jam
  split
  ·exact q1
  ·rename_i hz
   have e := Nat.div_add_mod y (2 ^ d)
   have q2 : y / 2 ^ d ≠ x := by
    intro e2
    rw [e2, Nat.mul_comm] at e
    omega
   omega
 ·obtain ⟨d, hd⟩ : ∃ d, d = (eb - ea).toNat := ⟨_, rfl⟩
  rw [show (max ea eb - eb).toNat = 0 by omega, show (max ea eb - ea).toNat = d by omega, FP.jam0]
  rw [show (eb - min ea eb).toNat = d by omega, show (ea - min ea eb).toNat = 0 by omega, Nat.pow_zero, Nat.mul_one] at h
  have hp := FP.two_pow_pos d
  have q1 : y ≤ x / 2 ^ d := (Nat.le_div_iff_mul_le hp).2 h
  unfold FP.jam
  split
  ·exact q1
  ·omega
theorem lvl_comm (ea : Int) (x : Nat) (eb : Int) (y : Nat) : FP.lvl eb y ea x = FP.lvl ea x eb y := by
 unfold FP.lvl
 by_cases h1 : x = 0 ∧ y ≠ 0
 ·rw [if_pos h1, if_neg (fun h => h1.2 h.1), if_pos h1]
 ·rw [if_neg h1]
  by_cases h2 : y = 0 ∧ x ≠ 0
  ·rw [if_pos h2, if_neg h1, if_pos h2]
  ·rw [if_neg h2, if_neg h1, if_neg h2]; omega
def dfT (ea : Int) (x : Nat) (eb : Int) (y : Nat) : Int × Nat := if FP.cmpT ea x eb y < 0 then FP.difT eb y ea x else FP.difT ea x eb y
theorem dfT_lt {ea eb : Int} {x y : Nat} (hx : x < W256) (hy : y < W256) : (dfT ea x eb y).2 < W256 := by
 unfold dfT FP.difT
 split
 ·exact Nat.lt_of_le_of_lt (Nat.sub_le _ _) (jam_lt hy)
 ·exact Nat.lt_of_le_of_lt (Nat.sub_le _ _) (jam_lt hx)
theorem cmpT_rng (ea : Int) (x : Nat) (eb : Int) (y : Nat) : exR (FP.cmpT ea x eb y) := by
 unfold exR FP.cmpT
 split
 ·omega
 ·split
  ·omega
  ·split
   ·omega
   ·split <;> omega
theorem cmp_swap {ea eb : Int} {x y : Nat} (h : FP.cmpT ea x eb y < 0) : ¬ FP.cmpT eb y ea x < 0 := by
 rw [FP.cmpT_lt (L := min ea eb) (by omega) (by omega)] at h
 rw [FP.cmpT_lt (L := min ea eb) (by omega) (by omega)]
 omega
theorem k_mag_Diff {ea eb : Int} {x y : Nat} (ha : exS ea) (hb : exS eb) (hx : x < W256) (hy : y < W256) : F_mag_Diff [ea, wd x 0, wd x 1, wd x 2, wd x 3, eb, wd y 0, wd y 1, wd y 2, wd y 3] =
  [(dfT ea x eb y).1, wd (dfT ea x eb y).2 0, wd (dfT ea x eb y).2 1, wd (dfT ea x eb y).2 2, wd (dfT ea x eb y).2 3, b2i (decide (FP.cmpT ea x eb y < 0))] := by
 obtain ⟨l1, l2, l3, l4, l5, l6⟩ := lvl_S x y ha hb
 have L := k_mag_level (exS_R ha) (exS_R hb) hx hy
 have L' := k_mag_level (exS_R hb) (exS_R ha) hy hx
 have C := k_mag_Cmp ha hb hx hy
 have J1 := k_WideJam hx l3
 have J2 := k_WideJam hy l4
 have iA := exI (exS_R ha)
 have iB := exI (exS_R hb)
 have cA := exC (exS_R ha)
 have cB := exC (exS_R hb)
 have i3 := exI l3
 have i4 := exI l4
 have i6 := exI l6
 have hT := exI (cmpT_rng ea x eb y)
 have P1 : ¬ FP.cmpT ea x eb y < 0 → FP.jam y (FP.lvl ea x eb y - eb).toNat ≤ FP.jam x (FP.lvl ea x eb y - ea).toNat := fun h => jam_le_jam h
 have P2 : FP.cmpT ea x eb y < 0 → FP.jam x (FP.lvl ea x eb y - ea).toNat ≤ FP.jam y (FP.lvl ea x eb y - eb).toNat := fun h => by
  have := jam_le_jam (cmp_swap h)
  rw [lvl_comm] at this; exact this
 have px : FP.jam x (FP.lvl ea x eb y - ea).toNat < W256 := jam_lt hx
 have py : FP.jam y (FP.lvl ea x eb y - eb).toNat < W256 := jam_lt hy
 unfold dfT FP.difT
 rw [lvl_comm] at L'
 rw [lvl_comm ea x eb y]
 generalize FP.lvl ea x eb y = l at *
 generalize FP.jam x (l - ea).toNat = p at *
 generalize FP.jam y (l - eb).toNat = q at *
 generalize FP.cmpT ea x eb y = T at *
 rw [F_mag_Diff, t_mag_Diff]
 refine (treeF_call (r := [T]) (by simp only [sxs, ph_A2_mag_Cmp, iA, iB]; exact C) (by rfl)).trans ?_
 refine tI (T < 0) (by simp only [sxs, hT]) (fun h1 => ?_) (fun h1 => ?_)
 ·refine (treeF_call (r := [l]) (by simp only [sxs, ph_A2_mag_level, iA, iB]; exact L') (by rfl)).trans ?_
  refine (treeF_call (r := [wd q 0, wd q 1, wd q 2, wd q 3]) (by simp only [sxs, ph_A2_shift_WideJam, iA, iB, cA, cB, i3, i4, i6, Int.add_zero]; exact J2) (by rfl)).trans ?_
  refine (treeF_call (r := [wd p 0, wd p 1, wd p 2, wd p 3]) (by simp only [sxs, ph_A2_shift_WideJam, iA, iB, cA, cB, i3, i4, i6, Int.add_zero]; exact J1) (by rfl)).trans ?_
  refine (treeF_call (r := [wd (q - p) 0, wd (q - p) 1, wd (q - p) 2, wd (q - p) 3, 0]) (by simp only [sxs, ph_A2_wide_Sub]; exact k_wideSub py (P2 h1)) (by rfl)).trans ?_
  rw [treeF_leaf rfl]; simp only [sxs, i6, hT, Int.add_zero]; rw [if_pos h1]
 ·refine (treeF_call (r := [l]) (by simp only [sxs, ph_A2_mag_level, iA, iB]; exact L) (by rfl)).trans ?_
  refine (treeF_call (r := [wd p 0, wd p 1, wd p 2, wd p 3]) (by simp only [sxs, ph_A2_shift_WideJam, iA, iB, cA, cB, i3, i4, i6, Int.add_zero]; exact J1) (by rfl)).trans ?_
  refine (treeF_call (r := [wd q 0, wd q 1, wd q 2, wd q 3]) (by simp only [sxs, ph_A2_shift_WideJam, iA, iB, cA, cB, i3, i4, i6, Int.add_zero]; exact J2) (by rfl)).trans ?_
  refine (treeF_call (r := [wd (p - q) 0, wd (p - q) 1, wd (p - q) 2, wd (p - q) 3, 0]) (by simp only [sxs, ph_A2_wide_Sub]; exact k_wideSub px (P1 h1)) (by rfl)).trans ?_
  rw [treeF_leaf rfl]; simp only [sxs, i6, hT, Int.add_zero]; rw [if_neg h1]
end Go.Proofs.YtkfbdlidigmfbaaGreatDoor
