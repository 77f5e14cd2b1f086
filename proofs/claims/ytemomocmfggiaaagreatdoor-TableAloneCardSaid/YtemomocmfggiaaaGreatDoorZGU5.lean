import Derived.Test.YtemomocmfggiaaaGreatDoorZDU5
import Derived.Test.YtemomocmfggiaaaGreatDoorZEU5
import Derived.Test.YtemomocmfggiaaaGreatDoorZFU5
namespace Go.Proofs.YtemomocmfggiaaaGreatDoor
set_option linter.unusedVariables false
set_option linter.unusedSimpArgs false
set_option maxRecDepth 100000
open Go.RowKit
theorem l_an {α : Type} (l : List α) : l ++ [] = l := by rw [List.append_nil]
theorem l_ca {α : Type} (a : α) (l m : List α) : (a :: l) ++ m = a :: (l ++ m) := by rw [List.cons_append]
theorem l_na {α : Type} (l : List α) : [] ++ l = l := by rw [List.nil_append]
theorem l_mc {α β : Type} (f : α → β) (a : α) (l : List α) : List.map f (a :: l) = f a :: List.map f l := by rw [List.map_cons]
theorem l_mn {α β : Type} (f : α → β) : List.map f [] = [] := by rw [List.map_nil]
theorem getI_0 (x : Int) (l : List Int) : getI (x :: l) 0 = x := by rw [getI]
theorem getI_s (x : Int) (l : List Int) (n : Nat) : getI (x :: l) (n + 1) = getI l n := by rw [getI]
theorem evs_ev {β : Sort _} (l : List Int) : ∀ (xs : List X) (K : List Int → β), evs l xs K = K (xs.map (X.ev l))
 | [], K => rfl
 | x :: xs, K => by rw [evs, forceInt_eq, evs_ev l xs]; rfl
theorem treeF_leaf {Φ : Phi} {ct : Ct} {a : SV} {l : List Int} {xs : List X} (h : flats ct.r (unres ct.r a) = some xs) : treeF Φ ct (.leaf a) l = xs.map (X.ev l) := by
 unfold treeF; simp only [evalL, h, evs_ev, id]
theorem treeF_ite {Φ : Phi} {ct : Ct} {c : X} {a b : Tr' SV} {l : List Int} : treeF Φ ct (.ite c a b) l = if iNz (c.ev l) = true then treeF Φ ct a l else treeF Φ ct b l := by
 unfold treeF
 simp only [evalL]
 cases iNz (c.ev l) <;> rfl
theorem treeF_call {Φ : Phi} {ct : Ct} {f : Nat} {args : List X} {base n : Nat} {t : Tr' SV} {l : List Int} {r : List Int} (h : Φ f (args.map (X.ev l)) = r) (hn : r.length = n) : treeF Φ ct (.call f args base n t) l = treeF Φ ct t (l ++ r) := by
 unfold treeF
 simp only [evalL, evs_ev, h]
 rw [show Nat.beq r.length n = true by rw [hn]; exact Nat.beq_refl n]
theorem iNz_b2i (b : Bool) : iNz (b2i b) = b := by cases b <;> rfl
def i64 (n : Int) : Int := wrapC .i64 n
def u8 (n : Int) : Int := wrapC .u8 n
theorem i64_rng (n : Int) : -9223372036854775808 ≤ i64 n ∧ i64 n ≤ 9223372036854775807 := by unfold i64; rw [wrapC_eq]; exact wrap_lo .i64 n
theorem u8_rng (n : Int) : 0 ≤ u8 n ∧ u8 n ≤ 255 := by unfold u8; rw [wrapC_eq]; exact wrap_lo .u8 n
theorem i64_id {n : Int} (h1 : -9223372036854775808 ≤ n) (h2 : n ≤ 9223372036854775807) : i64 n = n := by unfold i64; rw [wrapC_eq]; exact wrap_id h1 h2
theorem u8_id {n : Int} (h1 : 0 ≤ n) (h2 : n ≤ 255) : u8 n = n := by unfold u8; rw [wrapC_eq]; exact wrap_id h1 h2
theorem w64_i (n : Int) : IntKind.i64.wrap n = i64 n := by unfold i64; rw [wrapC_eq]
theorem w64_u (n : Int) : IntKind.u64.wrap n = u64 n := by unfold u64; rw [wrapC_eq]
theorem w8_u (n : Int) : IntKind.u8.wrap n = u8 n := by unfold u8; rw [wrapC_eq]
theorem i64_i64 (n : Int) : i64 (i64 n) = i64 n := i64_id (i64_rng n).1 (i64_rng n).2
theorem u64_u64 (n : Int) : u64 (u64 n) = u64 n := u64_idem (u64_U n)
theorem u8_u8 (n : Int) : u8 (u8 n) = u8 n := u8_id (u8_rng n).1 (u8_rng n).2
theorem u64_nat' (n : Nat) (h : n < W64) : u64 (n : Int) = n := u64_idem ⟨Int.natCast_nonneg _, by exact_mod_cast h⟩
theorem u64_wd (n i : Nat) : u64 (wd n i) = wd n i := u64_idem (wd_u64 _ _)
def nB (h l : Int) : Nat := (u64 h).toNat * W64 + (u64 l).toNat
def nW (a b c d : Int) : Nat := (u64 a).toNat + W64 * ((u64 b).toNat + W64 * ((u64 c).toNat + W64 * (u64 d).toNat))
def oB (n : Nat) : List Int := [wd n 1, wd n 0]
def oW (n : Nat) : List Int := [wd n 0, wd n 1, wd n 2, wd n 3]
theorem oB_eq (n : Nat) : oB n = [wd n 1, wd n 0] := by rw [oB]
theorem oW_eq (n : Nat) : oW n = [wd n 0, wd n 1, wd n 2, wd n 3] := by rw [oW]
theorem W64_val : W64 = 18446744073709551616 := rfl
theorem W128_val : W128 = 340282366920938463463374607431768211456 := by decide
theorem nB_lt (h l : Int) : nB h l < W128 := by
 unfold nB
 have h1 := (u64_nat h).2; have h2 := (u64_nat l).2
 rw [W64_val] at *; rw [W128_val]; omega
theorem nB_words (h l : Int) : u64 h = wd (nB h l) 1 ∧ u64 l = wd (nB h l) 0 := by
 have h1 := (u64_nat h); have h2 := (u64_nat l)
 have e0 := wd_mk2_0 (h := (u64 h).toNat) h2.2
 have e1 := wd_mk2_1 h1.2 h2.2
 unfold mk2 at e0 e1
 unfold nB
 rw [e0, e1]
 exact ⟨h1.1.symm, h2.1.symm⟩
theorem nB_oB {n : Nat} (h : n < W128) : nB (wd n 1) (wd n 0) = n := by
 have := nB_words (wd n 1) (wd n 0)
 rw [u64_idem (wd_u64 _ _), u64_idem (wd_u64 _ _)] at this
 exact (wd_ext2 h (nB_lt _ _) this.2 this.1).symm
theorem nB_mod (n : Nat) : nB (wd n 1) (wd n 0) = n % W128 := by
 have := nB_oB (n := n % W128) (Nat.mod_lt _ W128_pos)
 rw [wd_mod128 n 1 (by decide), wd_mod128 n 0 (by decide)] at this
 exact this
theorem nW_words (a b c d : Int) : u64 a = wd (nW a b c d) 0 ∧ u64 b = wd (nW a b c d) 1 ∧ u64 c = wd (nW a b c d) 2 ∧ u64 d = wd (nW a b c d) 3 ∧ nW a b c d < W256 := by
 obtain ⟨h0, h1, h2, h3, h4⟩ := words4 _ _ _ _ (u64_nat a).2 (u64_nat b).2 (u64_nat c).2 (u64_nat d).2
 unfold nW
 rw [h0, h1, h2, h3, (u64_nat _).1, (u64_nat _).1, (u64_nat _).1, (u64_nat _).1]
 exact ⟨rfl, rfl, rfl, rfl, h4⟩
theorem nW_lt (a b c d : Int) : nW a b c d < W256 := (nW_words a b c d).2.2.2.2
theorem nW_oW {n : Nat} (h : n < W256) : nW (wd n 0) (wd n 1) (wd n 2) (wd n 3) = n := by
 obtain ⟨h0, h1, h2, h3, h4⟩ := nW_words (wd n 0) (wd n 1) (wd n 2) (wd n 3)
 rw [u64_idem (wd_u64 _ _)] at h0 h1 h2 h3
 exact (wd_ext4 h h4 h0 h1 h2 h3).symm
theorem bits_in (h l : Int) : ∃ n : Nat, n < W128 ∧ nB h l = n ∧ u64 h = wd n 1 ∧ u64 l = wd n 0 := ⟨nB h l, nB_lt h l, rfl, (nB_words h l).1, (nB_words h l).2⟩
theorem wide_in (a b c d : Int) : ∃ n : Nat, n < W256 ∧ nW a b c d = n ∧ u64 a = wd n 0 ∧ u64 b = wd n 1 ∧ u64 c = wd n 2 ∧ u64 d = wd n 3 := by
 obtain ⟨h0, h1, h2, h3, h4⟩ := nW_words a b c d
 exact ⟨_, h4, rfl, h0, h1, h2, h3⟩
theorem wd_cast (n i : Nat) : wd n i = ((n / W64 ^ i % W64 : Nat) : Int) := rfl
theorem word_bit (a j k : Nat) : (a / W64 ^ j % W64).testBit k = (decide (k < 64) && a.testBit (64 * j + k)) := by
 by_cases hk : k < 64
 ·rw [wd_testBit a j k hk]; simp [hk]
 ·rw [W64_pow, Nat.testBit_mod_two_pow]; simp [hk]
theorem word_shl (a r j : Nat) (hr : r < 64) : a * 2 ^ r / W64 ^ j % W64 = (a / W64 ^ j % W64 * 2 ^ r % W64) ||| (if j = 0 then 0 else a / W64 ^ (j - 1) % W64 / 2 ^ (64 - r)) := by
 apply Nat.eq_of_testBit_eq
 intro k
 have e : W64 = 2 ^ 64 := W64_pow
 rw [word_bit, Nat.testBit_or, show a / W64 ^ j % W64 * 2 ^ r % W64 = a / W64 ^ j % W64 * 2 ^ r % 2 ^ 64 by rw [← e], Nat.testBit_mod_two_pow, Nat.testBit_mul_two_pow, Nat.testBit_mul_two_pow, word_bit]
 by_cases hk : k < 64
 ·by_cases hj : j = 0
  ·subst hj
   by_cases h : r ≤ k
   ·simp [hk, h]; intro; omega
   ·simp [hk, h]
  ·rw [if_neg hj, Nat.testBit_div_two_pow, word_bit]
   by_cases h : r ≤ k
   ·have h2 : ¬ (64 - r + k < 64) := by omega
    have h3 : k - r < 64 := by omega
    simp [hk, h, h3, show r ≤ 64 * j + k by omega, show 64 * j + k - r = 64 * j + (k - r) by omega, show ¬ (k + (64 - r) < 64) by omega]
   ·simp [hk, h, show r ≤ 64 * j + k by omega, show k + (64 - r) < 64 by omega, show 64 * j + k - r = 64 * (j - 1) + (k + (64 - r)) by omega]
 ·by_cases hj : j = 0
  ·subst hj; simp [hk]
  ·rw [if_neg hj, Nat.testBit_div_two_pow, word_bit]
   simp [hk]
   intro h; omega
theorem wd_shl (a r j : Nat) (hr : r < 64) : wd (a * 2 ^ r) j = ((((wd a j).toNat * 2 ^ r % W64) ||| (if j = 0 then 0 else (wd a (j - 1)).toNat / 2 ^ (64 - r)) : Nat) : Int) := by
 rw [wd_cast, word_shl a r j hr, wd_cast, wd_cast, Int.toNat_natCast, Int.toNat_natCast]
theorem wd_mulW (a w i : Nat) : wd (a * W64 ^ w) i = if i < w then 0 else wd a (i - w) := by
 rw [wd_cast, wd_cast]
 split
 ·rename_i h
  obtain ⟨d, rfl⟩ : ∃ d, w = i + 1 + d := ⟨w - i - 1, by omega⟩
  rw [show a * W64 ^ (i + 1 + d) = a * W64 ^ d * W64 * W64 ^ i by rw [Nat.pow_add, Nat.pow_add, Nat.pow_one]; ac_rfl, Nat.mul_div_cancel _ (pw_pos i), Nat.mul_mod_left]; rfl
 ·rename_i h
  obtain ⟨d, rfl⟩ : ∃ d, i = w + d := ⟨i - w, by omega⟩
  rw [Nat.pow_add, ← Nat.div_div_eq_div_mul, Nat.mul_div_cancel _ (pw_pos w), show w + d - w = d by omega]
theorem lor_cast (x y : Nat) (hx : x < W64) (hy : y < W64) : iOp .or .u64 (x : Int) (y : Int) = ((x ||| y : Nat) : Int) := by
 have e : W64 = 2 ^ 64 := W64_pow
 rw [← fold_eq]
 simp only [fold]
 have h1 : toBits .u64 (x : Int) = x := by show x % kMod .u64 = x; rw [show kMod .u64 = W64 from rfl, Nat.mod_eq_of_lt hx]
 have h2 : toBits .u64 (y : Int) = y := by show y % kMod .u64 = y; rw [show kMod .u64 = W64 from rfl, Nat.mod_eq_of_lt hy]
 rw [h1, h2]
 have : x ||| y < W64 := by rw [e] at *; exact Nat.or_lt_two_pow hx hy
 exact u64_nat' _ this
theorem shl_cast (x r : Nat) (hr : r ≤ 64) : iOp .shl .u64 (x : Int) (r : Int) = ((x * 2 ^ r % W64 : Nat) : Int) := by
 simp only [iOp, Int.toNat_natCast, IntKind.bits, Nat.min_eq_left hr]
 rw [show ((x : Int) * 2 ^ r) = ((x * 2 ^ r : Nat) : Int) by push_cast; rfl, w64_u]
 unfold u64
 rw [wrapC_eq]
 unfold IntKind.wrap IntKind.bits IntKind.signed
 simp [W64_val]
theorem shr_cast (x r : Nat) (hr : r ≤ 64) : iOp .shr .u64 (x : Int) (r : Int) = ((x / 2 ^ r : Nat) : Int) := by
 simp only [iOp, Int.toNat_natCast, IntKind.bits, Nat.min_eq_left hr]
 rw [Int.fdiv_eq_ediv_of_nonneg _ (Int.pow_nonneg (by decide))]; simp
theorem and63i (m : Int) : iOp .and .i64 m 63 = m % 64 := by
 rw [← fold_eq]
 simp only [fold]
 have h2 : toBits .i64 63 = 63 := by decide
 have h1 := toBits_emod .i64 m
 have h3 : Nat.land (toBits .i64 m) 63 = toBits .i64 m % 64 := Nat.and_two_pow_sub_one_eq_mod (n := 6) (x := toBits .i64 m)
 rw [h2, wrapC_eq, h3, show Int.ofNat (toBits .i64 m % 64) = ((toBits .i64 m % 64 : Nat) : Int) from rfl, w64_i, i64_id (by omega) (by omega)]
 show ((toBits .i64 m % 64 : Nat) : Int) = m % 64
 have h4 : ((toBits .i64 m % 64 : Nat) : Int) = (toBits .i64 m : Int) % 64 := by simp
 rw [h4, h1]
 show m % 18446744073709551616 % 64 = m % 64
 omega
theorem ev_lit (l : List Int) (n : Int) : X.ev l (.lit n) = n := by rw [X.ev]
theorem ev_bin (l : List Int) (op : BinOp) (k : IntKind) (a b : X) : X.ev l (.bin op k a b) = iOp op k (a.ev l) (b.ev l) := by rw [X.ev, fold_eq]
theorem ev_conv (l : List Int) (k : IntKind) (a : X) : X.ev l (.conv k a) = k.wrap (a.ev l) := by rw [X.ev, wrapC_eq]
theorem ev_not (l : List Int) (a : X) : X.ev l (.not a) = b2i (!iNz (a.ev l)) := by rw [X.ev, bNot_eq]
theorem ev_and (l : List Int) (a b : X) : X.ev l (.and a b) = b2i (iNz (a.ev l) && iNz (b.ev l)) := by
 rw [X.ev]; cases iNz (a.ev l) <;> rfl
theorem ev_beq (l : List Int) (a b : X) : X.ev l (.beq a b) = b2i (iNz (a.ev l) == iNz (b.ev l)) := by
 rw [X.ev]; cases iNz (a.ev l) <;> cases iNz (b.ev l) <;> rfl
theorem ev_min (l : List Int) (a b : X) : X.ev l (.min a b) = min (a.ev l) (b.ev l) := by
 rw [X.ev, iLt_eq]
 by_cases h : b.ev l < a.ev l
 ·rw [decide_eq_true h, Int.min_eq_right (by omega)]
 ·rw [decide_eq_false h, Int.min_eq_left (by omega)]
theorem ev_max (l : List Int) (a b : X) : X.ev l (.max a b) = max (a.ev l) (b.ev l) := by
 rw [X.ev, iLt_eq]
 by_cases h : a.ev l < b.ev l
 ·rw [decide_eq_true h, Int.max_eq_right (by omega)]
 ·rw [decide_eq_false h, Int.max_eq_left (by omega)]
theorem ev_ite (l : List Int) (c a b : X) : X.ev l (.ite c a b) = if iNz (c.ev l) = true then a.ev l else b.ev l := by
 rw [X.ev]; cases iNz (c.ev l) <;> rfl
theorem ev_var_u (l : List Int) (i : Nat) : X.ev l (.var kU i) = u64 (getI l i) := by rw [X.ev]; rfl
theorem ev_var_i (l : List Int) (i : Nat) : X.ev l (.var kI i) = i64 (getI l i) := by rw [X.ev]; rfl
theorem ev_var_8 (l : List Int) (i : Nat) : X.ev l (.var kB i) = u8 (getI l i) := by rw [X.ev]; rfl
theorem ev_var_b (l : List Int) (i : Nat) : X.ev l (.var .bool i) = b2i (iNz (getI l i)) := by rw [X.ev]; rfl
theorem ev_var_t (l : List Int) (i : Nat) : X.ev l (.var .bit i) = b2i (iNz (getI l i)) := by rw [X.ev]; rfl
theorem op_eql (k : IntKind) (a b : Int) : iOp .eql k a b = b2i (a == b) := by rw [iOp]
theorem op_neq (k : IntKind) (a b : Int) : iOp .neq k a b = b2i (a != b) := by rw [iOp]
theorem op_lss (k : IntKind) (a b : Int) : iOp .lss k a b = b2i (decide (a < b)) := by rw [iOp]
theorem op_leq (k : IntKind) (a b : Int) : iOp .leq k a b = b2i (decide (a ≤ b)) := by rw [iOp]
theorem op_gtr (k : IntKind) (a b : Int) : iOp .gtr k a b = b2i (decide (a > b)) := by rw [iOp]
theorem op_geq (k : IntKind) (a b : Int) : iOp .geq k a b = b2i (decide (a ≥ b)) := by rw [iOp]
theorem op_add (a b : Int) : iOp .add .i64 a b = i64 (a + b) := w64_i _
theorem op_sub (a b : Int) : iOp .sub .i64 a b = i64 (a - b) := w64_i _
theorem op_subu (a b : Int) : iOp .sub .u64 a b = u64 (a - b) := w64_u _
theorem part_val (p q r : Nat) (hp : p < W64) (hq : q < W64) (hr : r < 64) : iOp .or .u64 (iOp .shl .u64 (p : Int) (u64 (r : Int))) (iOp .shr .u64 (iOp .shr .u64 (q : Int) 1) (iOp .sub .u64 63 (u64 (r : Int)))) = ((p * 2 ^ r % W64 ||| q / 2 ^ (64 - r) : Nat) : Int) := by
 have e1 : u64 (r : Int) = (r : Int) := u64_nat' r (by rw [W64_val]; omega)
 rw [e1, op_subu, show (63 : Int) - (r : Int) = ((63 - r : Nat) : Int) by omega, u64_nat' (63 - r) (by rw [W64_val]; omega), shl_cast p r (by omega), show (1 : Int) = ((1 : Nat) : Int) from rfl, shr_cast q 1 (by omega), shr_cast _ (63 - r) (by omega)]
 have e2 : q / 2 ^ 1 / 2 ^ (63 - r) = q / 2 ^ (64 - r) := by rw [Nat.div_div_eq_div_mul, ← Nat.pow_add]; congr 2; omega
 rw [e2]
 exact lor_cast _ _ (Nat.mod_lt _ W64_pos) (Nat.lt_of_le_of_lt (Nat.div_le_self _ _) hq)
set_option linter.defProp false in
def sxs := And.intro @l_an (And.intro @l_ca (And.intro @l_na (And.intro @l_mc (And.intro @l_mn (And.intro @getI_0 (And.intro @getI_s (And.intro @oB_eq (And.intro @oW_eq (And.intro @ev_bin (And.intro @ev_conv (And.intro @ev_ite (And.intro @ev_lit (And.intro @ev_var_u (And.intro @ev_var_i (And.intro @ev_var_8 (And.intro @ev_var_b (And.intro @ev_var_t (And.intro @ev_not (And.intro @ev_and (And.intro @ev_beq (And.intro @ev_max (And.intro @ev_min (And.intro @op_eql (And.intro @op_neq (And.intro @op_lss (And.intro @op_leq (And.intro @op_gtr (And.intro @op_geq (And.intro @op_add (And.intro @op_sub (And.intro @iNz_b2i (And.intro @w64_u (And.intro @w64_i (And.intro @w8_u (And.intro @u64_wd (And.intro @u64_u64 (And.intro @i64_i64 (@u8_u8))))))))))))))))))))))))))))))))))))))
end Go.Proofs.YtemomocmfggiaaaGreatDoor
namespace Go.Proofs.YtemomocmfggiaaaGreatDoor
set_option linter.unusedVariables false
set_option linter.unusedSimpArgs false
set_option maxRecDepth 100000
open Go.RowKit
theorem clampL (c : Int) (M : Nat) : ∃ m : Nat, max (-(M : Int)) (min (max (i64 c) 0) (M : Int)) = (m : Int) ∧ m = min (i64 c).toNat M := ⟨min (i64 c).toNat M, by omega, rfl⟩
theorem fdiv64 (m : Int) : iOp .shr .i64 m 6 = m / 64 := by
 simp only [iOp, IntKind.bits]
 rw [show min ((6 : Int).toNat) 64 = 6 by decide, Int.fdiv_eq_ediv_of_nonneg _ (by decide)]; rfl
theorem i64_small {n : Int} (h1 : -1000 ≤ n) (h2 : n ≤ 1000) : i64 n = n := i64_id (by omega) (by omega)
theorem part_wd (n j r : Nat) (hr : r < 64) : iOp .or .u64 (iOp .shl .u64 (wd n (j + 1)) (u64 (r : Int))) (iOp .shr .u64 (iOp .shr .u64 (wd n j) 1) (iOp .sub .u64 63 (u64 (r : Int)))) = wd (n * 2 ^ r) (j + 1) := by
 rw [wd_shl n r (j + 1) hr, if_neg (by omega), show j + 1 - 1 = j by omega, wd_cast, wd_cast, part_val _ _ r (Nat.mod_lt _ W64_pos) (Nat.mod_lt _ W64_pos) hr, Int.toNat_natCast, Int.toNat_natCast]
theorem part_wd0 (n r : Nat) (hr : r < 64) : iOp .or .u64 (iOp .shl .u64 (wd n 0) (u64 (r : Int))) (iOp .shr .u64 0 (iOp .sub .u64 63 (u64 (r : Int)))) = wd (n * 2 ^ r) 0 := by
 have := part_val (n / W64 ^ 0 % W64) 0 r (Nat.mod_lt _ W64_pos) W64_pos hr
 rw [wd_shl n r 0 hr, if_pos rfl, wd_cast, Int.toNat_natCast]
 simp only [Nat.zero_div] at this
 rw [← this]
 congr 1
theorem part_wd0' (n r : Nat) (hr : r < 64) : iOp .or .u64 (iOp .shl .u64 (wd n 0) (u64 (r : Int))) (iOp .shr .u64 (iOp .shr .u64 0 1) (iOp .sub .u64 63 (u64 (r : Int)))) = wd (n * 2 ^ r) 0 := by
 have := part_val (n / W64 ^ 0 % W64) 0 r (Nat.mod_lt _ W64_pos) W64_pos hr
 rw [wd_shl n r 0 hr, if_pos rfl, wd_cast, Int.toNat_natCast]
 simp only [Nat.zero_div] at this
 rw [← this]
 congr 1
theorem part_0 (r : Nat) (hr : r < 64) : iOp .or .u64 (iOp .shl .u64 0 (u64 (r : Int))) (iOp .shr .u64 0 (iOp .sub .u64 63 (u64 (r : Int)))) = 0 := by
 have := part_wd0 0 r hr; simp only [wd_zero, Nat.zero_mul] at this; exact this
theorem part_0' (r : Nat) (hr : r < 64) : iOp .or .u64 (iOp .shl .u64 0 (u64 (r : Int))) (iOp .shr .u64 (iOp .shr .u64 0 1) (iOp .sub .u64 63 (u64 (r : Int)))) = 0 := by
 have := part_wd0' 0 r hr; simp only [wd_zero, Nat.zero_mul] at this; exact this
theorem shl_words2 (n m : Nat) : wd (n * 2 ^ m) 0 = (if m / 64 = 0 then wd (n * 2 ^ (m % 64)) 0 else 0) ∧ wd (n * 2 ^ m) 1 = (if m / 64 = 0 then wd (n * 2 ^ (m % 64)) 1 else if m / 64 = 1 then wd (n * 2 ^ (m % 64)) 0 else 0) := by
 have e : n * 2 ^ m = n * 2 ^ (m % 64) * W64 ^ (m / 64) := by
  conv => lhs; rw [← Nat.div_add_mod m 64, Nat.pow_add, Nat.pow_mul, ← W64_pow]
  ac_rfl
 rw [e, wd_mulW, wd_mulW]
 constructor
 ·by_cases h : m / 64 = 0
  ·rw [h, if_neg (by omega), if_pos rfl]
  ·rw [if_pos (by omega), if_neg h]
 ·by_cases h : m / 64 = 0
  ·rw [h, if_neg (by omega), if_pos rfl]
  ·by_cases h1 : m / 64 = 1
   ·rw [h1, if_neg (by omega), if_neg (by omega), if_pos rfl]
   ·rw [if_pos (by omega), if_neg h, if_neg h1]
theorem s_shift_Left (a b c : Int) : F_shift_Left [a, b, c] = oB (nB a b * 2 ^ (i64 c).toNat % W128) := by
 obtain ⟨n, hn, e, h1, h0⟩ := bits_in a b
 obtain ⟨m, hm, hm2⟩ := clampL c 128
 rw [F_shift_Left, t_shift_Left, treeF_leaf rfl, e]
 simp only [l_an, l_ca, l_na, l_mc, l_mn, getI_0, getI_s, ev_bin, ev_conv, ev_ite, ev_lit, ev_var_u, ev_var_i, ev_max, ev_min, h1, h0, w64_u]
 have hm' : max (-128) (min (max (i64 c) 0) 128) = (m : Int) := hm
 rw [hm', fdiv64, and63i, op_sub, op_sub, op_sub]
 have hpow : n * 2 ^ (i64 c).toNat % W128 = n * 2 ^ m % W128 := by
  by_cases h : (i64 c).toNat ≤ 128
  ·rw [hm2, Nat.min_eq_left h]
  ·rw [hm2, Nat.min_eq_right (by omega), W128_pow, Nat.mul_mod_left]
   obtain ⟨d, hd⟩ : ∃ d, (i64 c).toNat = 128 + d := ⟨(i64 c).toNat - 128, by omega⟩
   rw [hd, Nat.pow_add, show n * (2 ^ 128 * 2 ^ d) = n * 2 ^ d * 2 ^ 128 by ac_rfl, Nat.mul_mod_left]
 rw [hpow]
 unfold oB
 rw [wd_mod128 _ 1 (by decide), wd_mod128 _ 0 (by decide), (shl_words2 n m).1, (shl_words2 n m).2]
 have hr : m % 64 < 64 := Nat.mod_lt _ (by decide)
 have hc : ((m : Int) % 64) = ((m % 64 : Nat) : Int) := by simp
 have hd : ((m : Int) / 64) = ((m / 64 : Nat) : Int) := by simp
 have hle : m / 64 ≤ 2 := by omega
 rw [hc, hd]
 generalize m / 64 = w at *
 generalize m % 64 = r at *
 rcases (show w = 0 ∨ w = 1 ∨ w = 2 by omega) with rfl | rfl | rfl <;>
  simp [op_lss, op_eql, iNz_b2i, i64_small, part_wd, part_wd0, part_wd0', part_0, part_0', hr]
end Go.Proofs.YtemomocmfggiaaaGreatDoor
namespace Go.Proofs.YtemomocmfggiaaaGreatDoor
set_option linter.unusedVariables false
set_option linter.unusedSimpArgs false
set_option maxRecDepth 100000
open Go.RowKit
theorem s_word_Zero (a b : Int) : F_word_Zero [a, b] = [b2i (decide (nB a b = 0))] := by
 obtain ⟨n, hn, e, h1, h0⟩ := bits_in a b
 rw [F_word_Zero, t_word_Zero, treeF_leaf rfl, e]
 simp only [sxs, h1, h0, show iNz 1 = true from rfl, Bool.and_true]
 congr 2
 rw [Bool.eq_iff_iff]
 simp only [Bool.and_eq_true, beq_iff_eq, decide_eq_true_iff]
 exact eq_zero2 hn
theorem s_word_Add (a b c d : Int) : F_word_Add [a, b, c, d] = [wd (nB a b + nB c d) 1, wd (nB a b + nB c d) 0, b2i (decide (W128 ≤ nB a b + nB c d))] := by
 obtain ⟨x, hx, e, h1, h0⟩ := bits_in a b
 obtain ⟨y, hy, e', h1', h0'⟩ := bits_in c d
 rw [e, e', F_word_Add, t_word_Add]
 have z0 : bitN 0 = ((cin x y 0 : Nat) : Int) := by rw [cin_zero]; rfl
 have z1 : bitN ((cin x y 1 : Nat) : Int) = ((cin x y 1 : Nat) : Int) := by unfold bitN; rw [iNz_eq]; exact bit_id (cin_c x y 1)
 refine (treeF_call (r := [wd (x + y) 0, ((cin x y 1 : Nat) : Int)]) ?_ rfl).trans ?_
 ·simp only [sxs, ph_E0_math_bits_Add64, fAdd64, h1, h0, h1', h0', z0]
  rw [addw_wd, addc_wd]
 refine (treeF_call (r := [wd (x + y) 1, ((cin x y 2 : Nat) : Int)]) ?_ rfl).trans ?_
 ·simp only [sxs, ph_E0_math_bits_Add64, fAdd64, h1, h0, h1', h0']
  rw [show b2i (iNz ((cin x y 1 : Nat) : Int)) = bitN ((cin x y 1 : Nat) : Int) from rfl, z1, z1, addw_wd, addc_wd]
 rw [treeF_leaf rfl]
 simp only [sxs]
 congr 3
 rw [cin_end (i := 2) (by rw [pw_two]; exact hx) (by rw [pw_two]; exact hy), pw_two]
 by_cases h : W128 ≤ x + y
 ·rw [if_pos h, decide_eq_true h]; rfl
 ·rw [if_neg h, decide_eq_false h]; rfl
theorem s_word_Sub (a b c d : Int) : F_word_Sub [a, b, c, d] = [wd (nB a b + W128 - nB c d) 1, wd (nB a b + W128 - nB c d) 0, b2i (decide (nB a b < nB c d))] := by
 obtain ⟨x, hx, e, h1, h0⟩ := bits_in a b
 obtain ⟨y, hy, e', h1', h0'⟩ := bits_in c d
 rw [e, e', F_word_Sub, t_word_Sub]
 have z0 : bitN 0 = ((bin x y 0 : Nat) : Int) := by rw [bin_zero]; rfl
 have z1 : bitN ((bin x y 1 : Nat) : Int) = ((bin x y 1 : Nat) : Int) := by unfold bitN; rw [iNz_eq]; exact bit_id (bin_c x y 1)
 have hle : y ≤ x + W64 ^ 2 := by rw [pw_two]; omega
 refine (treeF_call (r := [wd (x + W128 - y) 0, ((bin x y 1 : Nat) : Int)]) ?_ rfl).trans ?_
 ·simp only [sxs, ph_E0_math_bits_Sub64, fSub64, h1, h0, h1', h0', z0]
  rw [subw_wd x y 0 2 (by decide) hle, subc_wd, pw_two]
 refine (treeF_call (r := [wd (x + W128 - y) 1, ((bin x y 2 : Nat) : Int)]) ?_ rfl).trans ?_
 ·simp only [sxs, ph_E0_math_bits_Sub64, fSub64, h1, h0, h1', h0']
  rw [show b2i (iNz ((bin x y 1 : Nat) : Int)) = bitN ((bin x y 1 : Nat) : Int) from rfl, z1, z1, subw_wd x y 1 2 (by decide) hle, subc_wd, pw_two]
 rw [treeF_leaf rfl]
 simp only [sxs]
 congr 3
 rw [bin_end (i := 2) (by rw [pw_two]; exact hx) (by rw [pw_two]; exact hy)]
 by_cases h : x < y
 ·rw [if_pos h, decide_eq_true h]; rfl
 ·rw [if_neg h, decide_eq_false h]; rfl
theorem s_word_Mul (a b : Int) : F_word_Mul [a, b] = oB ((u64 a).toNat * (u64 b).toNat) := by
 rw [F_word_Mul, t_word_Mul]
 have h := mul_words (u64_nat a).2 (u64_nat b).2
 rw [(u64_nat a).1, (u64_nat b).1] at h
 refine (treeF_call (r := oB ((u64 a).toNat * (u64 b).toNat)) ?_ rfl).trans ?_
 ·simp only [sxs, ph_E0_math_bits_Mul64, fMul64]
  rw [h.1, h.2]
 rw [treeF_leaf rfl]
 simp only [sxs]
theorem s_wide_Join (a b c d : Int) : F_wide_Join [a, b, c, d] = oW (nB a b * W128 + nB c d) := by
 obtain ⟨x, hx, e, h1, h0⟩ := bits_in a b
 obtain ⟨y, hy, e', h1', h0'⟩ := bits_in c d
 rw [e, e', F_wide_Join, t_wide_Join, treeF_leaf rfl]
 obtain ⟨j0, j1, j2, j3⟩ := join_words (h := x) hy
 simp only [sxs, h1, h0, h1', h0', j0, j1, j2, j3]
theorem s_wide_High (a b c d : Int) : F_wide_High [a, b, c, d] = oB (nW a b c d / W128) := by
 obtain ⟨n, hn, e, h0, h1, h2, h3⟩ := wide_in a b c d
 rw [e, F_wide_High, t_wide_High, treeF_leaf rfl]
 simp only [sxs, h2, h3, wd_div128]
theorem s_wide_Low (a b c d : Int) : F_wide_Low [a, b, c, d] = oB (nW a b c d) := by
 obtain ⟨n, hn, e, h0, h1, h2, h3⟩ := wide_in a b c d
 rw [e, F_wide_Low, t_wide_Low, treeF_leaf rfl]
 simp only [sxs, h0, h1]
def len (n : Nat) : Nat := if n = 0 then 0 else Nat.log2 n + 1
end Go.Proofs.YtemomocmfggiaaaGreatDoor
namespace Go.Proofs.YtemomocmfggiaaaGreatDoor
set_option linter.unusedVariables false
set_option linter.unusedSimpArgs false
set_option maxRecDepth 100000
open Go.RowKit
theorem nW_u (a b c d : Int) : nW (u64 a) (u64 b) (u64 c) (u64 d) = nW a b c d := by unfold nW; rw [u64_u64, u64_u64, u64_u64, u64_u64]
theorem nW_mod (n : Nat) : nW (wd n 0) (wd n 1) (wd n 2) (wd n 3) = n % W256 := by
 have := nW_oW (n := n % W256) (Nat.mod_lt _ W256_pos)
 rw [← pw_four, wd_mod _ _ _ (by decide), wd_mod _ _ _ (by decide), wd_mod _ _ _ (by decide), wd_mod _ _ _ (by decide), pw_four] at this
 exact this
theorem W256_sq : W256 = W128 * W128 := by unfold W256; rfl
end Go.Proofs.YtemomocmfggiaaaGreatDoor
namespace Go.Proofs.YtemomocmfggiaaaGreatDoor
set_option linter.unusedVariables false
set_option linter.unusedSimpArgs false
set_option maxRecDepth 100000
open Go.RowKit
def rW (n : Nat) : List Int := oW n
theorem rW_eq (n : Nat) : rW n = oW n := rfl
theorem nB_small {n : Nat} (h : n < W128) : nB (wd n 1) (wd n 0) = n := by rw [nB_mod, Nat.mod_eq_of_lt h]
end Go.Proofs.YtemomocmfggiaaaGreatDoor
namespace Go.Proofs.YtemomocmfggiaaaGreatDoor
set_option linter.unusedVariables false
set_option linter.unusedSimpArgs false
set_option maxRecDepth 100000
open Go.RowKit
theorem nW_small {n : Nat} (h : n < W256) : nW (wd n 0) (wd n 1) (wd n 2) (wd n 3) = n := by rw [nW_mod, Nat.mod_eq_of_lt h]
end Go.Proofs.YtemomocmfggiaaaGreatDoor
namespace Go.Proofs.YtemomocmfggiaaaGreatDoor
set_option linter.unusedVariables false
set_option linter.unusedSimpArgs false
set_option maxRecDepth 100000
open Go.RowKit
end Go.Proofs.YtemomocmfggiaaaGreatDoor
namespace Go.Proofs.YtemomocmfggiaaaGreatDoor
set_option linter.unusedVariables false
set_option linter.unusedSimpArgs false
set_option maxRecDepth 100000
open Go.RowKit
end Go.Proofs.YtemomocmfggiaaaGreatDoor
namespace Go.Proofs.YtemomocmfggiaaaGreatDoor
set_option linter.unusedVariables false
set_option linter.unusedSimpArgs false
set_option maxRecDepth 100000
open Go.RowKit
end Go.Proofs.YtemomocmfggiaaaGreatDoor
namespace Go.Proofs.YtemomocmfggiaaaGreatDoor
set_option linter.unusedVariables false
set_option linter.unusedSimpArgs false
set_option maxRecDepth 100000
open Go.RowKit
theorem wideAdd_w (a b c d e f g h : Int) : fWideAdd [a, b, c, d, e, f, g, h] = fWide (nW a b c d + nW e f g h) (Nat.ble W256 (nW a b c d + nW e f g h)) := rfl
theorem fWide_eq (s : Nat) (b : Bool) : fWide s b = [wd s 0, wd s 1, wd s 2, wd s 3, b2i b] := rfl
theorem nW_mid {p : Nat} (h : p < W128) : nW 0 (wd p 0) (wd p 1) 0 = p * W64 := by
 have := nB_small h
 unfold nB at this
 rw [u64_wd, u64_wd] at this
 unfold nW
 rw [show u64 0 = 0 by decide, u64_wd, u64_wd, show (0 : Int).toNat = 0 from rfl, Nat.mul_zero, Nat.add_zero, Nat.zero_add, Nat.mul_comm W64]
 congr 1
 rw [Nat.mul_comm W64, Nat.add_comm]; exact this
theorem mul_lt2' {a b : Nat} (ha : a < W64) (hb : b < W64) : a * b < W128 := Nat.mul_lt_mul'' ha hb
theorem mul_parts (a1 a0 b1 b0 : Nat) : (a1 * W64 + a0) * (b1 * W64 + b0) = a1 * b1 * W128 + a0 * b0 + a1 * b0 * W64 + a0 * b1 * W64 := by
 have e : W128 = W64 * W64 := W128.eq_1
 rw [e]
 generalize W64 = w
 rw [Nat.add_mul, Nat.mul_add, Nat.mul_add]
 have h1 : a1 * w * (b1 * w) = a1 * b1 * (w * w) := by ac_rfl
 have h2 : a1 * w * b0 = a1 * b0 * w := by ac_rfl
 have h3 : a0 * (b1 * w) = a0 * b1 * w := by ac_rfl
 rw [h1, h2, h3]; omega
theorem s_wide_Mul (a b c d : Int) : F_wide_Mul [a, b, c, d] = oW (nB a b * nB c d) := by
 refine Eq.trans ?_ (rW_eq _)
 have ha := (u64_nat a).2; have hb := (u64_nat b).2; have hc := (u64_nat c).2; have hd := (u64_nat d).2
 have hab := nB_lt a b; have hcd := nB_lt c d
 have hprod : nB a b * nB c d < W256 := by
  have := Nat.mul_lt_mul'' hab hcd
  rw [W256_sq]; exact this
 have e0 : nB a b * nB c d = (u64 a).toNat * (u64 c).toNat * W128 + (u64 b).toNat * (u64 d).toNat + (u64 a).toNat * (u64 d).toNat * W64 + (u64 b).toNat * (u64 c).toNat * W64 := mul_parts _ _ _ _
 rw [e0] at hprod ⊢
 rw [F_wide_Mul, t_wide_Mul]
 refine (treeF_call (by simp only [sxs, ph_E1_word_Mul]; exact s_word_Mul _ _) (by rfl)).trans ?_
 refine (treeF_call (by simp only [sxs, ph_E1_word_Mul]; exact s_word_Mul _ _) (by rfl)).trans ?_
 rw [u64_u64, u64_u64, u64_u64, u64_u64]
 have l11 := mul_lt2' ha hc; have l00 := mul_lt2' hb hd; have l10 := mul_lt2' ha hd; have l01 := mul_lt2' hb hc
 generalize (u64 a).toNat * (u64 c).toNat = p11 at *
 generalize (u64 b).toNat * (u64 d).toNat = p00 at *
 refine (treeF_call (r := oW (p11 * W128 + p00)) ?_ rfl).trans ?_
 ·simp only [sxs, ph_E1_wide_Join]; rw [s_wide_Join, nB_small l11, nB_small l00, oW_eq]
 refine (treeF_call (by simp only [sxs, ph_E1_word_Mul]; exact s_word_Mul _ _) (by rfl)).trans ?_
 refine (treeF_call (by simp only [sxs, ph_E1_word_Mul]; exact s_word_Mul _ _) (by rfl)).trans ?_
 rw [u64_u64, u64_u64, u64_u64, u64_u64]
 generalize (u64 a).toNat * (u64 d).toNat = p10 at *
 generalize (u64 b).toNat * (u64 c).toNat = p01 at *
 refine (treeF_call (r := fWide (p11 * W128 + p00 + p10 * W64) (Nat.ble W256 (p11 * W128 + p00 + p10 * W64))) ?_ rfl).trans ?_
 ·simp only [sxs, ph_E1_wide_Add]; rw [wideAdd_w, nW_small (by omega), nW_mid l10]
 refine (treeF_call (r := fWide (p11 * W128 + p00 + p10 * W64 + p01 * W64) (Nat.ble W256 (p11 * W128 + p00 + p10 * W64 + p01 * W64))) ?_ rfl).trans ?_
 ·simp only [sxs, fWide_eq, ph_E1_wide_Add]; rw [wideAdd_w, nW_small (by omega), nW_mid l01, fWide_eq]
 rw [treeF_leaf rfl]
 simp only [sxs, fWide_eq]
 rfl
end Go.Proofs.YtemomocmfggiaaaGreatDoor
namespace Go.Proofs.YtemomocmfggiaaaGreatDoor
set_option linter.unusedVariables false
set_option linter.unusedSimpArgs false
set_option maxRecDepth 100000
open Go.RowKit
theorem wd_or (x y i : Nat) : iOp .or .u64 (wd x i) (wd y i) = wd (x ||| y) i := by
 rw [wd_cast, wd_cast, lor_cast _ _ (Nat.mod_lt _ W64_pos) (Nat.mod_lt _ W64_pos), wd_cast]
 congr 1
 apply Nat.eq_of_testBit_eq
 intro k
 rw [Nat.testBit_or, word_bit, word_bit, word_bit, Nat.testBit_or]
 cases decide (k < 64) <;> simp
end Go.Proofs.YtemomocmfggiaaaGreatDoor
namespace Go.Proofs.YtemomocmfggiaaaGreatDoor
set_option linter.unusedVariables false
set_option linter.unusedSimpArgs false
set_option maxRecDepth 100000
open Go.RowKit
theorem or_lt {x i n : Nat} (h : x < 2 ^ n) (hi : i < n) : (x ||| 2 ^ i) < 2 ^ n := Nat.or_lt_two_pow h (Nat.pow_lt_pow_right (by decide) hi)
end Go.Proofs.YtemomocmfggiaaaGreatDoor
namespace Go.Proofs.YtemomocmfggiaaaGreatDoor
set_option linter.unusedVariables false
set_option linter.unusedSimpArgs false
set_option maxRecDepth 100000
open Go.RowKit
namespace FP
end FP
end Go.Proofs.YtemomocmfggiaaaGreatDoor
namespace Go.Proofs.YtemomocmfggiaaaGreatDoor
set_option linter.unusedVariables false
set_option linter.unusedSimpArgs false
set_option maxRecDepth 100000
open Go.RowKit
end Go.Proofs.YtemomocmfggiaaaGreatDoor
