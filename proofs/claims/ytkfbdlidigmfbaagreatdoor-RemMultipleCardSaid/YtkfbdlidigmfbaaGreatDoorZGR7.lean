import Derived.Test.YtkfbdlidigmfbaaGreatDoorZDR7
import Derived.Test.YtkfbdlidigmfbaaGreatDoorZER7
import Derived.Test.YtkfbdlidigmfbaaGreatDoorZFR7
namespace Go.Proofs.YtkfbdlidigmfbaaGreatDoor
set_option linter.unusedVariables false
set_option linter.unusedSimpArgs false
set_option maxRecDepth 100000
open Go.RowKit
theorem l_an {α : Type} (l : List α) : l ++ [] = l := by rw [List.append_nil]
theorem l_ca {α : Type} (a : α) (l m : List α) : (a :: l) ++ m = a :: (l ++ m) := by rw [List.cons_append]
theorem l_na {α : Type} (l : List α) : [] ++ l = l := by rw [List.nil_append]
theorem l_mc {α β : Type} (f : α → β) (a : α) (l : List α) : List.map f (a :: l) = f a :: List.map f l := by rw [List.map_cons]
theorem l_mn {α β : Type} (f : α → β) : List.map f [] = [] := by rw [List.map_nil]
theorem getI_0 (x : Int) (l : List Int) : getI (x :: l) 0 = x := by rw [getI]
theorem getI_s (x : Int) (l : List Int) (n : Nat) : getI (x :: l) (n + 1) = getI l n := by rw [getI]
theorem evs_ev {β : Sort _} (l : List Int) : ∀ (xs : List X) (K : List Int → β), evs l xs K = K (xs.map (X.ev l))
 | [], K => rfl
 | x :: xs, K => by rw [evs, forceInt_eq, evs_ev l xs]; rfl
theorem treeF_leaf {Φ : Phi} {ct : Ct} {a : SV} {l : List Int} {xs : List X} (h : flats ct.r (unres ct.r a) = some xs) : treeF Φ ct (.leaf a) l = xs.map (X.ev l) := by
 unfold treeF; simp only [evalL, h, evs_ev, id]
theorem treeF_ite {Φ : Phi} {ct : Ct} {c : X} {a b : Tr' SV} {l : List Int} : treeF Φ ct (.ite c a b) l = if iNz (c.ev l) = true then treeF Φ ct a l else treeF Φ ct b l := by
 unfold treeF
 simp only [evalL]
 cases iNz (c.ev l) <;> rfl
theorem treeF_call {Φ : Phi} {ct : Ct} {f : Nat} {args : List X} {base n : Nat} {t : Tr' SV} {l : List Int} {r : List Int} (h : Φ f (args.map (X.ev l)) = r) (hn : r.length = n) : treeF Φ ct (.call f args base n t) l = treeF Φ ct t (l ++ r) := by
 unfold treeF
 simp only [evalL, evs_ev, h]
 rw [show Nat.beq r.length n = true by rw [hn]; exact Nat.beq_refl n]
theorem iNz_b2i (b : Bool) : iNz (b2i b) = b := by cases b <;> rfl
def i64 (n : Int) : Int := wrapC .i64 n
def u8 (n : Int) : Int := wrapC .u8 n
theorem i64_rng (n : Int) : -9223372036854775808 ≤ i64 n ∧ i64 n ≤ 9223372036854775807 := by unfold i64; rw [wrapC_eq]; exact wrap_lo .i64 n
theorem u8_rng (n : Int) : 0 ≤ u8 n ∧ u8 n ≤ 255 := by unfold u8; rw [wrapC_eq]; exact wrap_lo .u8 n
theorem i64_id {n : Int} (h1 : -9223372036854775808 ≤ n) (h2 : n ≤ 9223372036854775807) : i64 n = n := by unfold i64; rw [wrapC_eq]; exact wrap_id h1 h2
theorem u8_id {n : Int} (h1 : 0 ≤ n) (h2 : n ≤ 255) : u8 n = n := by unfold u8; rw [wrapC_eq]; exact wrap_id h1 h2
theorem w64_i (n : Int) : IntKind.i64.wrap n = i64 n := by unfold i64; rw [wrapC_eq]
theorem w64_u (n : Int) : IntKind.u64.wrap n = u64 n := by unfold u64; rw [wrapC_eq]
theorem w8_u (n : Int) : IntKind.u8.wrap n = u8 n := by unfold u8; rw [wrapC_eq]
theorem wC_u (n : Int) : wrapC .u64 n = u64 n := rfl
theorem wC_8 (n : Int) : wrapC .u8 n = u8 n := rfl
theorem i64_i64 (n : Int) : i64 (i64 n) = i64 n := i64_id (i64_rng n).1 (i64_rng n).2
theorem u64_u64 (n : Int) : u64 (u64 n) = u64 n := u64_idem (u64_U n)
theorem u8_u8 (n : Int) : u8 (u8 n) = u8 n := u8_id (u8_rng n).1 (u8_rng n).2
theorem u64_nat' (n : Nat) (h : n < W64) : u64 (n : Int) = n := u64_idem ⟨Int.natCast_nonneg _, by exact_mod_cast h⟩
theorem u64_wd (n i : Nat) : u64 (wd n i) = wd n i := u64_idem (wd_u64 _ _)
abbrev fN (a : Int) : Nat := (u8 a).toNat
theorem fN_u (a : Int) : fN (u8 a) = fN a := by unfold fN; rw [u8_u8]
def nB (h l : Int) : Nat := (u64 h).toNat * W64 + (u64 l).toNat
def nW (a b c d : Int) : Nat := (u64 a).toNat + W64 * ((u64 b).toNat + W64 * ((u64 c).toNat + W64 * (u64 d).toNat))
def oB (n : Nat) : List Int := [wd n 1, wd n 0]
def oW (n : Nat) : List Int := [wd n 0, wd n 1, wd n 2, wd n 3]
theorem oB_eq (n : Nat) : oB n = [wd n 1, wd n 0] := by rw [oB]
theorem oW_eq (n : Nat) : oW n = [wd n 0, wd n 1, wd n 2, wd n 3] := by rw [oW]
theorem W64_val : W64 = 18446744073709551616 := rfl
theorem W128_val : W128 = 340282366920938463463374607431768211456 := by decide
theorem nB_lt (h l : Int) : nB h l < W128 := by
 unfold nB
 have h1 := (u64_nat h).2; have h2 := (u64_nat l).2
 rw [W64_val] at *; rw [W128_val]; omega
theorem nB_words (h l : Int) : u64 h = wd (nB h l) 1 ∧ u64 l = wd (nB h l) 0 := by
 have h1 := (u64_nat h); have h2 := (u64_nat l)
 have e0 := wd_mk2_0 (h := (u64 h).toNat) h2.2
 have e1 := wd_mk2_1 h1.2 h2.2
 unfold mk2 at e0 e1
 unfold nB
 rw [e0, e1]
 exact ⟨h1.1.symm, h2.1.symm⟩
theorem nB_oB {n : Nat} (h : n < W128) : nB (wd n 1) (wd n 0) = n := by
 have := nB_words (wd n 1) (wd n 0)
 rw [u64_idem (wd_u64 _ _), u64_idem (wd_u64 _ _)] at this
 exact (wd_ext2 h (nB_lt _ _) this.2 this.1).symm
theorem nB_mod (n : Nat) : nB (wd n 1) (wd n 0) = n % W128 := by
 have := nB_oB (n := n % W128) (Nat.mod_lt _ W128_pos)
 rw [wd_mod128 n 1 (by decide), wd_mod128 n 0 (by decide)] at this
 exact this
theorem nW_words (a b c d : Int) : u64 a = wd (nW a b c d) 0 ∧ u64 b = wd (nW a b c d) 1 ∧ u64 c = wd (nW a b c d) 2 ∧ u64 d = wd (nW a b c d) 3 ∧ nW a b c d < W256 := by
 obtain ⟨h0, h1, h2, h3, h4⟩ := words4 _ _ _ _ (u64_nat a).2 (u64_nat b).2 (u64_nat c).2 (u64_nat d).2
 unfold nW
 rw [h0, h1, h2, h3, (u64_nat _).1, (u64_nat _).1, (u64_nat _).1, (u64_nat _).1]
 exact ⟨rfl, rfl, rfl, rfl, h4⟩
theorem nW_lt (a b c d : Int) : nW a b c d < W256 := (nW_words a b c d).2.2.2.2
theorem nW_oW {n : Nat} (h : n < W256) : nW (wd n 0) (wd n 1) (wd n 2) (wd n 3) = n := by
 obtain ⟨h0, h1, h2, h3, h4⟩ := nW_words (wd n 0) (wd n 1) (wd n 2) (wd n 3)
 rw [u64_idem (wd_u64 _ _)] at h0 h1 h2 h3
 exact (wd_ext4 h h4 h0 h1 h2 h3).symm
theorem bits_in (h l : Int) : ∃ n : Nat, n < W128 ∧ nB h l = n ∧ u64 h = wd n 1 ∧ u64 l = wd n 0 := ⟨nB h l, nB_lt h l, rfl, (nB_words h l).1, (nB_words h l).2⟩
theorem wide_in (a b c d : Int) : ∃ n : Nat, n < W256 ∧ nW a b c d = n ∧ u64 a = wd n 0 ∧ u64 b = wd n 1 ∧ u64 c = wd n 2 ∧ u64 d = wd n 3 := by
 obtain ⟨h0, h1, h2, h3, h4⟩ := nW_words a b c d
 exact ⟨_, h4, rfl, h0, h1, h2, h3⟩
theorem wd_cast (n i : Nat) : wd n i = ((n / W64 ^ i % W64 : Nat) : Int) := rfl
theorem W64_pw (i : Nat) : W64 ^ i = 2 ^ (64 * i) := by rw [W64_pow, ← Nat.pow_mul]
theorem word_bit (a j k : Nat) : (a / W64 ^ j % W64).testBit k = (decide (k < 64) && a.testBit (64 * j + k)) := by
 by_cases hk : k < 64
 ·rw [wd_testBit a j k hk]; simp [hk]
 ·rw [W64_pow, Nat.testBit_mod_two_pow]; simp [hk]
theorem word_shl (a r j : Nat) (hr : r < 64) : a * 2 ^ r / W64 ^ j % W64 = (a / W64 ^ j % W64 * 2 ^ r % W64) ||| (if j = 0 then 0 else a / W64 ^ (j - 1) % W64 / 2 ^ (64 - r)) := by
 apply Nat.eq_of_testBit_eq
 intro k
 have e : W64 = 2 ^ 64 := W64_pow
 rw [word_bit, Nat.testBit_or, show a / W64 ^ j % W64 * 2 ^ r % W64 = a / W64 ^ j % W64 * 2 ^ r % 2 ^ 64 by rw [← e], Nat.testBit_mod_two_pow, Nat.testBit_mul_two_pow, Nat.testBit_mul_two_pow, word_bit]
 by_cases hk : k < 64
 ·by_cases hj : j = 0
  ·subst hj
   by_cases h : r ≤ k
   ·simp [hk, h]; intro; omega
   ·simp [hk, h]
  ·rw [if_neg hj, Nat.testBit_div_two_pow, word_bit]
   by_cases h : r ≤ k
   ·have h2 : ¬ (64 - r + k < 64) := by omega
    have h3 : k - r < 64 := by omega
    simp [hk, h, h3, show r ≤ 64 * j + k by omega, show 64 * j + k - r = 64 * j + (k - r) by omega, show ¬ (k + (64 - r) < 64) by omega]
   ·simp [hk, h, show r ≤ 64 * j + k by omega, show k + (64 - r) < 64 by omega, show 64 * j + k - r = 64 * (j - 1) + (k + (64 - r)) by omega]
 ·by_cases hj : j = 0
  ·subst hj; simp [hk]
  ·rw [if_neg hj, Nat.testBit_div_two_pow, word_bit]
   simp [hk]
   intro h; omega
theorem wd_shl (a r j : Nat) (hr : r < 64) : wd (a * 2 ^ r) j = ((((wd a j).toNat * 2 ^ r % W64) ||| (if j = 0 then 0 else (wd a (j - 1)).toNat / 2 ^ (64 - r)) : Nat) : Int) := by
 rw [wd_cast, word_shl a r j hr, wd_cast, wd_cast, Int.toNat_natCast, Int.toNat_natCast]
theorem wd_mulW (a w i : Nat) : wd (a * W64 ^ w) i = if i < w then 0 else wd a (i - w) := by
 rw [wd_cast, wd_cast]
 split
 ·rename_i h
  obtain ⟨d, rfl⟩ : ∃ d, w = i + 1 + d := ⟨w - i - 1, by omega⟩
  rw [show a * W64 ^ (i + 1 + d) = a * W64 ^ d * W64 * W64 ^ i by rw [Nat.pow_add, Nat.pow_add, Nat.pow_one]; ac_rfl, Nat.mul_div_cancel _ (pw_pos i), Nat.mul_mod_left]; rfl
 ·rename_i h
  obtain ⟨d, rfl⟩ : ∃ d, i = w + d := ⟨i - w, by omega⟩
  rw [Nat.pow_add, ← Nat.div_div_eq_div_mul, Nat.mul_div_cancel _ (pw_pos w), show w + d - w = d by omega]
theorem lor_cast (x y : Nat) (hx : x < W64) (hy : y < W64) : iOp .or .u64 (x : Int) (y : Int) = ((x ||| y : Nat) : Int) := by
 have e : W64 = 2 ^ 64 := W64_pow
 rw [← fold_eq]
 simp only [fold]
 have h1 : toBits .u64 (x : Int) = x := by show x % kMod .u64 = x; rw [show kMod .u64 = W64 from rfl, Nat.mod_eq_of_lt hx]
 have h2 : toBits .u64 (y : Int) = y := by show y % kMod .u64 = y; rw [show kMod .u64 = W64 from rfl, Nat.mod_eq_of_lt hy]
 rw [h1, h2]
 have : x ||| y < W64 := by rw [e] at *; exact Nat.or_lt_two_pow hx hy
 exact u64_nat' _ this
theorem shl_cast (x r : Nat) (hr : r ≤ 64) : iOp .shl .u64 (x : Int) (r : Int) = ((x * 2 ^ r % W64 : Nat) : Int) := by
 simp only [iOp, Int.toNat_natCast, IntKind.bits, Nat.min_eq_left hr]
 rw [show ((x : Int) * 2 ^ r) = ((x * 2 ^ r : Nat) : Int) by push_cast; rfl, w64_u]
 unfold u64
 rw [wrapC_eq]
 unfold IntKind.wrap IntKind.bits IntKind.signed
 simp [W64_val]
theorem shr_cast (x r : Nat) (hr : r ≤ 64) : iOp .shr .u64 (x : Int) (r : Int) = ((x / 2 ^ r : Nat) : Int) := by
 simp only [iOp, Int.toNat_natCast, IntKind.bits, Nat.min_eq_left hr]
 rw [Int.fdiv_eq_ediv_of_nonneg _ (Int.pow_nonneg (by decide))]; simp
theorem and63i (m : Int) : iOp .and .i64 m 63 = m % 64 := by
 rw [← fold_eq]
 simp only [fold]
 have h2 : toBits .i64 63 = 63 := by decide
 have h1 := toBits_emod .i64 m
 have h3 : Nat.land (toBits .i64 m) 63 = toBits .i64 m % 64 := Nat.and_two_pow_sub_one_eq_mod (n := 6) (x := toBits .i64 m)
 rw [h2, wrapC_eq, h3, show Int.ofNat (toBits .i64 m % 64) = ((toBits .i64 m % 64 : Nat) : Int) from rfl, w64_i, i64_id (by omega) (by omega)]
 show ((toBits .i64 m % 64 : Nat) : Int) = m % 64
 have h4 : ((toBits .i64 m % 64 : Nat) : Int) = (toBits .i64 m : Int) % 64 := by simp
 rw [h4, h1]
 show m % 18446744073709551616 % 64 = m % 64
 omega
theorem and63 (m : Nat) : iOp .and .i64 (m : Int) 63 = ((m % 64 : Nat) : Int) := by
 rw [← fold_eq]
 simp only [fold]
 have h2 : toBits .i64 63 = 63 := by decide
 rw [h2, wrapC_eq]
 have h1 : toBits .i64 (m : Int) % 64 = m % 64 := by
  show m % kMod .i64 % 64 = m % 64
  rw [show kMod .i64 = 64 * 288230376151711744 from rfl, Nat.mod_mul_right_mod]
 have h3 : Nat.land (toBits .i64 (m : Int)) 63 = m % 64 := by
  rw [← h1]; exact Nat.and_two_pow_sub_one_eq_mod (n := 6) (x := toBits .i64 (m : Int))
 rw [h3, show Int.ofNat (m % 64) = ((m % 64 : Nat) : Int) from rfl, w64_i]
 exact i64_id (by omega) (by omega)
theorem ev_lit (l : List Int) (n : Int) : X.ev l (.lit n) = n := by rw [X.ev]
theorem ev_bin (l : List Int) (op : BinOp) (k : IntKind) (a b : X) : X.ev l (.bin op k a b) = iOp op k (a.ev l) (b.ev l) := by rw [X.ev, fold_eq]
theorem ev_conv (l : List Int) (k : IntKind) (a : X) : X.ev l (.conv k a) = k.wrap (a.ev l) := by rw [X.ev, wrapC_eq]
theorem ev_not (l : List Int) (a : X) : X.ev l (.not a) = b2i (!iNz (a.ev l)) := by rw [X.ev, bNot_eq]
theorem ev_and (l : List Int) (a b : X) : X.ev l (.and a b) = b2i (iNz (a.ev l) && iNz (b.ev l)) := by
 rw [X.ev]; cases iNz (a.ev l) <;> rfl
theorem ev_beq (l : List Int) (a b : X) : X.ev l (.beq a b) = b2i (iNz (a.ev l) == iNz (b.ev l)) := by
 rw [X.ev]; cases iNz (a.ev l) <;> cases iNz (b.ev l) <;> rfl
theorem ev_min (l : List Int) (a b : X) : X.ev l (.min a b) = min (a.ev l) (b.ev l) := by
 rw [X.ev, iLt_eq]
 by_cases h : b.ev l < a.ev l
 ·rw [decide_eq_true h, Int.min_eq_right (by omega)]
 ·rw [decide_eq_false h, Int.min_eq_left (by omega)]
theorem ev_max (l : List Int) (a b : X) : X.ev l (.max a b) = max (a.ev l) (b.ev l) := by
 rw [X.ev, iLt_eq]
 by_cases h : a.ev l < b.ev l
 ·rw [decide_eq_true h, Int.max_eq_right (by omega)]
 ·rw [decide_eq_false h, Int.max_eq_left (by omega)]
theorem ev_ite (l : List Int) (c a b : X) : X.ev l (.ite c a b) = if iNz (c.ev l) = true then a.ev l else b.ev l := by
 rw [X.ev]; cases iNz (c.ev l) <;> rfl
theorem ev_var_u (l : List Int) (i : Nat) : X.ev l (.var kU i) = u64 (getI l i) := by rw [X.ev]; rfl
theorem ev_var_i (l : List Int) (i : Nat) : X.ev l (.var kI i) = i64 (getI l i) := by rw [X.ev]; rfl
theorem ev_var_8 (l : List Int) (i : Nat) : X.ev l (.var kB i) = u8 (getI l i) := by rw [X.ev]; rfl
theorem ev_var_b (l : List Int) (i : Nat) : X.ev l (.var .bool i) = b2i (iNz (getI l i)) := by rw [X.ev]; rfl
theorem ev_var_t (l : List Int) (i : Nat) : X.ev l (.var .bit i) = b2i (iNz (getI l i)) := by rw [X.ev]; rfl
theorem op_eql (k : IntKind) (a b : Int) : iOp .eql k a b = b2i (a == b) := by rw [iOp]
theorem op_neq (k : IntKind) (a b : Int) : iOp .neq k a b = b2i (a != b) := by rw [iOp]
theorem op_lss (k : IntKind) (a b : Int) : iOp .lss k a b = b2i (decide (a < b)) := by rw [iOp]
theorem op_leq (k : IntKind) (a b : Int) : iOp .leq k a b = b2i (decide (a ≤ b)) := by rw [iOp]
theorem op_gtr (k : IntKind) (a b : Int) : iOp .gtr k a b = b2i (decide (a > b)) := by rw [iOp]
theorem op_geq (k : IntKind) (a b : Int) : iOp .geq k a b = b2i (decide (a ≥ b)) := by rw [iOp]
theorem op_add (a b : Int) : iOp .add .i64 a b = i64 (a + b) := w64_i _
theorem op_sub (a b : Int) : iOp .sub .i64 a b = i64 (a - b) := w64_i _
theorem op_subu (a b : Int) : iOp .sub .u64 a b = u64 (a - b) := w64_u _
theorem part_val (p q r : Nat) (hp : p < W64) (hq : q < W64) (hr : r < 64) : iOp .or .u64 (iOp .shl .u64 (p : Int) (u64 (r : Int))) (iOp .shr .u64 (iOp .shr .u64 (q : Int) 1) (iOp .sub .u64 63 (u64 (r : Int)))) = ((p * 2 ^ r % W64 ||| q / 2 ^ (64 - r) : Nat) : Int) := by
 have e1 : u64 (r : Int) = (r : Int) := u64_nat' r (by rw [W64_val]; omega)
 rw [e1, op_subu, show (63 : Int) - (r : Int) = ((63 - r : Nat) : Int) by omega, u64_nat' (63 - r) (by rw [W64_val]; omega), shl_cast p r (by omega), show (1 : Int) = ((1 : Nat) : Int) from rfl, shr_cast q 1 (by omega), shr_cast _ (63 - r) (by omega)]
 have e2 : q / 2 ^ 1 / 2 ^ (63 - r) = q / 2 ^ (64 - r) := by rw [Nat.div_div_eq_div_mul, ← Nat.pow_add]; congr 2; omega
 rw [e2]
 exact lor_cast _ _ (Nat.mod_lt _ W64_pos) (Nat.lt_of_le_of_lt (Nat.div_le_self _ _) hq)
set_option linter.defProp false in
def sxs := And.intro @l_an (And.intro @l_ca (And.intro @l_na (And.intro @l_mc (And.intro @l_mn (And.intro @getI_0 (And.intro @getI_s (And.intro @oB_eq (And.intro @oW_eq (And.intro @ev_bin (And.intro @ev_conv (And.intro @ev_ite (And.intro @ev_lit (And.intro @ev_var_u (And.intro @ev_var_i (And.intro @ev_var_8 (And.intro @ev_var_b (And.intro @ev_var_t (And.intro @ev_not (And.intro @ev_and (And.intro @ev_beq (And.intro @ev_max (And.intro @ev_min (And.intro @op_eql (And.intro @op_neq (And.intro @op_lss (And.intro @op_leq (And.intro @op_gtr (And.intro @op_geq (And.intro @op_add (And.intro @op_sub (And.intro @iNz_b2i (And.intro @w64_u (And.intro @w64_i (And.intro @w8_u (And.intro @u64_wd (And.intro @u64_u64 (And.intro @i64_i64 (@u8_u8))))))))))))))))))))))))))))))))))))))
end Go.Proofs.YtkfbdlidigmfbaaGreatDoor
namespace Go.Proofs.YtkfbdlidigmfbaaGreatDoor
set_option linter.unusedVariables false
set_option linter.unusedSimpArgs false
set_option maxRecDepth 100000
open Go.RowKit
theorem clampL (c : Int) (M : Nat) : ∃ m : Nat, max (-(M : Int)) (min (max (i64 c) 0) (M : Int)) = (m : Int) ∧ m = min (i64 c).toNat M := ⟨min (i64 c).toNat M, by omega, rfl⟩
theorem clampR (c : Int) (M : Nat) : ∃ m : Nat, max (-(M : Int)) (min (0 - min (max (i64 c) 0) (M : Int)) (M : Int)) = -(m : Int) ∧ m = min (i64 c).toNat M := ⟨min (i64 c).toNat M, by omega, rfl⟩
theorem fdiv64 (m : Int) : iOp .shr .i64 m 6 = m / 64 := by
 simp only [iOp, IntKind.bits]
 rw [show min ((6 : Int).toNat) 64 = 6 by decide, Int.fdiv_eq_ediv_of_nonneg _ (by decide)]; rfl
theorem i64_small {n : Int} (h1 : -1000 ≤ n) (h2 : n ≤ 1000) : i64 n = n := i64_id (by omega) (by omega)
theorem part_wd (n j r : Nat) (hr : r < 64) : iOp .or .u64 (iOp .shl .u64 (wd n (j + 1)) (u64 (r : Int))) (iOp .shr .u64 (iOp .shr .u64 (wd n j) 1) (iOp .sub .u64 63 (u64 (r : Int)))) = wd (n * 2 ^ r) (j + 1) := by
 rw [wd_shl n r (j + 1) hr, if_neg (by omega), show j + 1 - 1 = j by omega, wd_cast, wd_cast, part_val _ _ r (Nat.mod_lt _ W64_pos) (Nat.mod_lt _ W64_pos) hr, Int.toNat_natCast, Int.toNat_natCast]
theorem part_wd0 (n r : Nat) (hr : r < 64) : iOp .or .u64 (iOp .shl .u64 (wd n 0) (u64 (r : Int))) (iOp .shr .u64 0 (iOp .sub .u64 63 (u64 (r : Int)))) = wd (n * 2 ^ r) 0 := by
 have := part_val (n / W64 ^ 0 % W64) 0 r (Nat.mod_lt _ W64_pos) W64_pos hr
 rw [wd_shl n r 0 hr, if_pos rfl, wd_cast, Int.toNat_natCast]
 simp only [Nat.zero_div] at this
 rw [← this]
 congr 1
theorem part_wd0' (n r : Nat) (hr : r < 64) : iOp .or .u64 (iOp .shl .u64 (wd n 0) (u64 (r : Int))) (iOp .shr .u64 (iOp .shr .u64 0 1) (iOp .sub .u64 63 (u64 (r : Int)))) = wd (n * 2 ^ r) 0 := by
 have := part_val (n / W64 ^ 0 % W64) 0 r (Nat.mod_lt _ W64_pos) W64_pos hr
 rw [wd_shl n r 0 hr, if_pos rfl, wd_cast, Int.toNat_natCast]
 simp only [Nat.zero_div] at this
 rw [← this]
 congr 1
theorem part_top (n j r : Nat) (hr : r < 64) (h : wd n (j + 1) = 0) : iOp .or .u64 (iOp .shl .u64 0 (u64 (r : Int))) (iOp .shr .u64 (iOp .shr .u64 (wd n j) 1) (iOp .sub .u64 63 (u64 (r : Int)))) = wd (n * 2 ^ r) (j + 1) := by
 have := part_wd n j r hr; rw [h] at this; exact this
theorem part_0 (r : Nat) (hr : r < 64) : iOp .or .u64 (iOp .shl .u64 0 (u64 (r : Int))) (iOp .shr .u64 0 (iOp .sub .u64 63 (u64 (r : Int)))) = 0 := by
 have := part_wd0 0 r hr; simp only [wd_zero, Nat.zero_mul] at this; exact this
theorem part_0' (r : Nat) (hr : r < 64) : iOp .or .u64 (iOp .shl .u64 0 (u64 (r : Int))) (iOp .shr .u64 (iOp .shr .u64 0 1) (iOp .sub .u64 63 (u64 (r : Int)))) = 0 := by
 have := part_wd0' 0 r hr; simp only [wd_zero, Nat.zero_mul] at this; exact this
theorem shl_words2 (n m : Nat) : wd (n * 2 ^ m) 0 = (if m / 64 = 0 then wd (n * 2 ^ (m % 64)) 0 else 0) ∧ wd (n * 2 ^ m) 1 = (if m / 64 = 0 then wd (n * 2 ^ (m % 64)) 1 else if m / 64 = 1 then wd (n * 2 ^ (m % 64)) 0 else 0) := by
 have e : n * 2 ^ m = n * 2 ^ (m % 64) * W64 ^ (m / 64) := by
  conv => lhs; rw [← Nat.div_add_mod m 64, Nat.pow_add, Nat.pow_mul, ← W64_pow]
  ac_rfl
 rw [e, wd_mulW, wd_mulW]
 constructor
 ·by_cases h : m / 64 = 0
  ·rw [h, if_neg (by omega), if_pos rfl]
  ·rw [if_pos (by omega), if_neg h]
 ·by_cases h : m / 64 = 0
  ·rw [h, if_neg (by omega), if_pos rfl]
  ·by_cases h1 : m / 64 = 1
   ·rw [h1, if_neg (by omega), if_neg (by omega), if_pos rfl]
   ·rw [if_pos (by omega), if_neg h, if_neg h1]
theorem s_shift_Left (a b c : Int) : F_shift_Left [a, b, c] = oB (nB a b * 2 ^ (i64 c).toNat % W128) := by
 obtain ⟨n, hn, e, h1, h0⟩ := bits_in a b
 obtain ⟨m, hm, hm2⟩ := clampL c 128
 rw [F_shift_Left, t_shift_Left, treeF_leaf rfl, e]
 simp only [l_an, l_ca, l_na, l_mc, l_mn, getI_0, getI_s, ev_bin, ev_conv, ev_ite, ev_lit, ev_var_u, ev_var_i, ev_max, ev_min, h1, h0, w64_u]
 have hm' : max (-128) (min (max (i64 c) 0) 128) = (m : Int) := hm
 rw [hm', fdiv64, and63i, op_sub, op_sub, op_sub]
 have hpow : n * 2 ^ (i64 c).toNat % W128 = n * 2 ^ m % W128 := by
  by_cases h : (i64 c).toNat ≤ 128
  ·rw [hm2, Nat.min_eq_left h]
  ·rw [hm2, Nat.min_eq_right (by omega), W128_pow, Nat.mul_mod_left]
   obtain ⟨d, hd⟩ : ∃ d, (i64 c).toNat = 128 + d := ⟨(i64 c).toNat - 128, by omega⟩
   rw [hd, Nat.pow_add, show n * (2 ^ 128 * 2 ^ d) = n * 2 ^ d * 2 ^ 128 by ac_rfl, Nat.mul_mod_left]
 rw [hpow]
 unfold oB
 rw [wd_mod128 _ 1 (by decide), wd_mod128 _ 0 (by decide), (shl_words2 n m).1, (shl_words2 n m).2]
 have hr : m % 64 < 64 := Nat.mod_lt _ (by decide)
 have hc : ((m : Int) % 64) = ((m % 64 : Nat) : Int) := by simp
 have hd : ((m : Int) / 64) = ((m / 64 : Nat) : Int) := by simp
 have hle : m / 64 ≤ 2 := by omega
 rw [hc, hd]
 generalize m / 64 = w at *
 generalize m % 64 = r at *
 rcases (show w = 0 ∨ w = 1 ∨ w = 2 by omega) with rfl | rfl | rfl <;>
  simp [op_lss, op_eql, iNz_b2i, i64_small, part_wd, part_wd0, part_wd0', part_0, part_0', hr]
theorem wd_shl_gen (n m i : Nat) : wd (n * 2 ^ m) i = if i < m / 64 then 0 else wd (n * 2 ^ (m % 64)) (i - m / 64) := by
 have e : n * 2 ^ m = n * 2 ^ (m % 64) * W64 ^ (m / 64) := by
  conv => lhs; rw [← Nat.div_add_mod m 64, Nat.pow_add, Nat.pow_mul, ← W64_pow]
  ac_rfl
 rw [e, wd_mulW]
theorem wd_shr_gen (n k r w i : Nat) (h : k + r = 64 * w) : wd (n / 2 ^ k) i = wd (n * 2 ^ r) (w + i) := by
 rw [← wd_div, W64_pw, ← h, Nat.pow_add, Nat.mul_comm (2 ^ k), ← Nat.div_div_eq_div_mul, Nat.mul_div_cancel _ (FP.two_pow_pos r)]
theorem pow_clip {n c M W : Nat} (hW : W = 2 ^ M) : n * 2 ^ c % W = n * 2 ^ (min c M) % W := by
 by_cases h : c ≤ M
 ·rw [Nat.min_eq_left h]
 ·rw [Nat.min_eq_right (by omega), hW, Nat.mul_mod_left]
  obtain ⟨d, hd⟩ : ∃ d, c = M + d := ⟨c - M, by omega⟩
  rw [hd, Nat.pow_add, show n * (2 ^ M * 2 ^ d) = n * 2 ^ d * 2 ^ M by ac_rfl, Nat.mul_mod_left]
theorem div_clip {n c M W : Nat} (hW : W = 2 ^ M) (hn : n < W) : n / 2 ^ c = n / 2 ^ (min c M) := by
 by_cases h : c ≤ M
 ·rw [Nat.min_eq_left h]
 ·rw [hW] at hn
  have h2 : n < 2 ^ c := Nat.lt_of_lt_of_le hn (Nat.pow_le_pow_right (by decide) (by omega))
  rw [Nat.min_eq_right (by omega), Nat.div_eq_of_lt hn, Nat.div_eq_of_lt h2]
theorem wd_top (n r i j : Nat) (hr : r < 64) (hn : n < W64 ^ j) (hi : j + 1 ≤ i) : wd (n * 2 ^ r) i = 0 := by
 refine wd_lt (m := j + 1) i ?_ hi
 rw [Nat.pow_succ]
 refine Nat.lt_of_lt_of_le (Nat.mul_lt_mul_of_pos_right hn (FP.two_pow_pos r)) ?_
 rw [W64_pow]
 exact Nat.mul_le_mul_left _ (Nat.pow_le_pow_right (by decide) (by omega))
theorem s_shift_Right (a b c : Int) : F_shift_Right [a, b, c] = oB (nB a b / 2 ^ (i64 c).toNat) := by
 obtain ⟨n, hn, e, h1, h0⟩ := bits_in a b
 obtain ⟨k, hk, hk2⟩ := clampR c 128
 rw [F_shift_Right, t_shift_Right, treeF_leaf rfl, e]
 simp only [l_an, l_ca, l_na, l_mc, l_mn, getI_0, getI_s, ev_bin, ev_conv, ev_ite, ev_lit, ev_var_u, ev_var_i, ev_max, ev_min, h1, h0, w64_u]
 have hs : iOp .sub .i64 0 (min (max (i64 c) 0) 128) = 0 - min (max (i64 c) 0) 128 := by rw [op_sub]; exact i64_small (by omega) (by omega)
 have hk' : max (-128) (min (0 - min (max (i64 c) 0) 128) 128) = -(k : Int) := hk
 rw [hs, hk', fdiv64, and63i]
 simp only [op_sub]
 rw [div_clip W128_pow hn, ← hk2]
 obtain ⟨w, r, hw, hr, hw2⟩ : ∃ w r : Nat, k + r = 64 * w ∧ r < 64 ∧ w ≤ 2 := ⟨(k + 63) / 64, 64 * ((k + 63) / 64) - k, by omega, by omega, by omega⟩
 have hc : (-(k : Int)) % 64 = ((r : Nat) : Int) := by omega
 have hd : (-(k : Int)) / 64 = -((w : Nat) : Int) := by omega
 rw [hc, hd]
 unfold oB
 rw [wd_shr_gen n k r w 0 hw, wd_shr_gen n k r w 1 hw]
 have z2 := (wd_lt2 hn).1
 have t2 := part_top n 1 r hr z2
 have t3 := wd_top n r 3 2 hr (by rw [pw_two]; exact hn) (by decide)
 rcases (show w = 0 ∨ w = 1 ∨ w = 2 by omega) with rfl | rfl | rfl <;>
  simp [op_lss, op_eql, op_geq, iNz_b2i, i64_small, part_wd, part_wd0, part_wd0', part_0, part_0', hr, t2, t3]
theorem s_shift_WideLeft (a b c d x : Int) : F_shift_WideLeft [a, b, c, d, x] = oW (nW a b c d * 2 ^ (i64 x).toNat % W256) := by
 obtain ⟨n, hn, e, h0, h1, h2, h3⟩ := wide_in a b c d
 obtain ⟨m, hm, hm2⟩ := clampL x 256
 rw [F_shift_WideLeft, t_shift_WideLeft, treeF_leaf rfl, e]
 simp only [l_an, l_ca, l_na, l_mc, l_mn, getI_0, getI_s, ev_bin, ev_conv, ev_ite, ev_lit, ev_var_u, ev_var_i, ev_max, ev_min, h0, h1, h2, h3, w64_u]
 have hm' : max (-256) (min (max (i64 x) 0) 256) = (m : Int) := hm
 rw [hm', fdiv64, and63i]
 simp only [op_sub]
 rw [pow_clip W256_pow, ← hm2]
 unfold oW
 rw [← pw_four, wd_mod _ _ _ (by decide), wd_mod _ _ _ (by decide), wd_mod _ _ _ (by decide), wd_mod _ _ _ (by decide), wd_shl_gen n m 0, wd_shl_gen n m 1, wd_shl_gen n m 2, wd_shl_gen n m 3]
 have hr : m % 64 < 64 := Nat.mod_lt _ (by decide)
 have hc : ((m : Int) % 64) = ((m % 64 : Nat) : Int) := by simp
 have hd : ((m : Int) / 64) = ((m / 64 : Nat) : Int) := by simp
 have hle : m / 64 ≤ 4 := by omega
 rw [hc, hd]
 generalize m / 64 = w at *
 generalize m % 64 = r at *
 rcases (show w = 0 ∨ w = 1 ∨ w = 2 ∨ w = 3 ∨ w = 4 by omega) with rfl | rfl | rfl | rfl | rfl <;>
  simp [op_lss, op_eql, op_geq, iNz_b2i, i64_small, part_wd, part_wd0, part_wd0', part_0, part_0', hr]
theorem s_shift_WideRight (a b c d x : Int) : F_shift_WideRight [a, b, c, d, x] = oW (nW a b c d / 2 ^ (i64 x).toNat) := by
 obtain ⟨n, hn, e, h0, h1, h2, h3⟩ := wide_in a b c d
 obtain ⟨k, hk, hk2⟩ := clampR x 256
 rw [F_shift_WideRight, t_shift_WideRight, treeF_leaf rfl, e]
 simp only [l_an, l_ca, l_na, l_mc, l_mn, getI_0, getI_s, ev_bin, ev_conv, ev_ite, ev_lit, ev_var_u, ev_var_i, ev_max, ev_min, h0, h1, h2, h3, w64_u]
 have hs : iOp .sub .i64 0 (min (max (i64 x) 0) 256) = 0 - min (max (i64 x) 0) 256 := by rw [op_sub]; exact i64_small (by omega) (by omega)
 have hk' : max (-256) (min (0 - min (max (i64 x) 0) 256) 256) = -(k : Int) := hk
 rw [hs, hk', fdiv64, and63i]
 simp only [op_sub]
 rw [div_clip W256_pow hn, ← hk2]
 obtain ⟨w, r, hw, hr, hw2⟩ : ∃ w r : Nat, k + r = 64 * w ∧ r < 64 ∧ w ≤ 4 := ⟨(k + 63) / 64, 64 * ((k + 63) / 64) - k, by omega, by omega, by omega⟩
 have hc : (-(k : Int)) % 64 = ((r : Nat) : Int) := by omega
 have hd : (-(k : Int)) / 64 = -((w : Nat) : Int) := by omega
 rw [hc, hd]
 unfold oW
 rw [wd_shr_gen n k r w 0 hw, wd_shr_gen n k r w 1 hw, wd_shr_gen n k r w 2 hw, wd_shr_gen n k r w 3 hw]
 have hn4 : n < W64 ^ 4 := by rw [pw_four]; exact hn
 have z4 : wd n 4 = 0 := wd_lt (m := 4) 4 hn4 (by decide)
 have t4 := part_top n 3 r hr z4
 have t5 := wd_top n r 5 4 hr hn4 (by decide)
 have t6 := wd_top n r 6 4 hr hn4 (by decide)
 have t7 := wd_top n r 7 4 hr hn4 (by decide)
 rcases (show w = 0 ∨ w = 1 ∨ w = 2 ∨ w = 3 ∨ w = 4 by omega) with rfl | rfl | rfl | rfl | rfl <;>
  simp [op_lss, op_eql, op_geq, iNz_b2i, i64_small, part_wd, part_wd0, part_wd0', part_0, part_0', hr, t4, t5, t6, t7]
end Go.Proofs.YtkfbdlidigmfbaaGreatDoor
namespace Go.Proofs.YtkfbdlidigmfbaaGreatDoor
set_option linter.unusedVariables false
set_option linter.unusedSimpArgs false
set_option maxRecDepth 100000
open Go.RowKit
theorem and1 (x : Nat) (hx : x < W64) : iOp .and .u64 (x : Int) 1 = ((x % 2 : Nat) : Int) := by
 rw [← fold_eq]
 simp only [fold]
 have h1 : toBits .u64 (x : Int) = x := by show x % kMod .u64 = x; rw [show kMod .u64 = W64 from rfl, Nat.mod_eq_of_lt hx]
 have h2 : toBits .u64 1 = 1 := by decide
 have h3 : Nat.land x 1 = x % 2 := Nat.and_two_pow_sub_one_eq_mod (n := 1) (x := x)
 rw [h1, h2, h3, show Int.ofNat (x % 2) = ((x % 2 : Nat) : Int) from rfl, wC_u]
 exact u64_nat' _ (by rw [W64_val]; omega)
theorem bit_val (n j k : Nat) (hk : k < 64) : (iOp .and .u64 (iOp .shr .u64 (wd n j) (k : Int)) 1 == 1) = n.testBit (64 * j + k) := by
 rw [wd_cast, shr_cast _ k (by omega), and1 _ (Nat.lt_of_le_of_lt (Nat.div_le_self _ _) (Nat.mod_lt _ W64_pos)), ← wd_testBit n j k hk, Nat.testBit_eq_decide_div_mod_eq, Bool.eq_iff_iff, beq_iff_eq, decide_eq_true_iff]
 generalize n / W64 ^ j % W64 / 2 ^ k = y
 omega
theorem s_word_Zero (a b : Int) : F_word_Zero [a, b] = [b2i (decide (nB a b = 0))] := by
 obtain ⟨n, hn, e, h1, h0⟩ := bits_in a b
 rw [F_word_Zero, t_word_Zero, treeF_leaf rfl, e]
 simp only [sxs, h1, h0, show iNz 1 = true from rfl, Bool.and_true]
 congr 2
 rw [Bool.eq_iff_iff]
 simp only [Bool.and_eq_true, beq_iff_eq, decide_eq_true_iff]
 exact eq_zero2 hn
theorem s_word_Bit (a b c : Int) : F_word_Bit [a, b, c] = [b2i (bitB (nB a b) (i64 c))] := by
 obtain ⟨n, hn, e, h1, h0⟩ := bits_in a b
 rw [F_word_Bit, t_word_Bit, e]
 simp only [treeF_ite, sxs, h1, h0, decide_eq_true_iff]
 generalize hi : i64 c = i
 by_cases h2 : i < 0
 ·rw [if_pos h2, treeF_leaf rfl, bitB_neg h2]; rfl
 rw [if_neg h2]
 by_cases h3 : i > 127
 ·rw [if_pos h3, treeF_leaf rfl, bitB_big hn h3]; rfl
 rw [if_neg h3]
 obtain ⟨m, rfl⟩ : ∃ m : Nat, i = (m : Int) := ⟨i.toNat, by omega⟩
 rw [bitB_nat]
 by_cases h4 : (m : Int) > 63
 ·rw [if_pos h4, treeF_leaf rfl]
  simp only [sxs, h1, h0, hi]
  rw [show i64 ((m : Int) - 64) = ((m - 64 : Nat) : Int) by rw [i64_id (by omega) (by omega)]; omega, bit_val n 1 (m - 64) (by omega), show 64 * 1 + (m - 64) = m by omega]
 ·rw [if_neg h4, treeF_leaf rfl]
  simp only [sxs, h1, h0, hi]
  rw [bit_val n 0 m (by omega)]; simp
theorem s_word_Add (a b c d : Int) : F_word_Add [a, b, c, d] = [wd (nB a b + nB c d) 1, wd (nB a b + nB c d) 0, b2i (decide (W128 ≤ nB a b + nB c d))] := by
 obtain ⟨x, hx, e, h1, h0⟩ := bits_in a b
 obtain ⟨y, hy, e', h1', h0'⟩ := bits_in c d
 rw [e, e', F_word_Add, t_word_Add]
 have z0 : bitN 0 = ((cin x y 0 : Nat) : Int) := by rw [cin_zero]; rfl
 have z1 : bitN ((cin x y 1 : Nat) : Int) = ((cin x y 1 : Nat) : Int) := by unfold bitN; rw [iNz_eq]; exact bit_id (cin_c x y 1)
 refine (treeF_call (r := [wd (x + y) 0, ((cin x y 1 : Nat) : Int)]) ?_ rfl).trans ?_
 ·simp only [sxs, ph_E0_math_bits_Add64, fAdd64, h1, h0, h1', h0', z0]
  rw [addw_wd, addc_wd]
 refine (treeF_call (r := [wd (x + y) 1, ((cin x y 2 : Nat) : Int)]) ?_ rfl).trans ?_
 ·simp only [sxs, ph_E0_math_bits_Add64, fAdd64, h1, h0, h1', h0']
  rw [show b2i (iNz ((cin x y 1 : Nat) : Int)) = bitN ((cin x y 1 : Nat) : Int) from rfl, z1, z1, addw_wd, addc_wd]
 rw [treeF_leaf rfl]
 simp only [sxs]
 congr 3
 rw [cin_end (i := 2) (by rw [pw_two]; exact hx) (by rw [pw_two]; exact hy), pw_two]
 by_cases h : W128 ≤ x + y
 ·rw [if_pos h, decide_eq_true h]; rfl
 ·rw [if_neg h, decide_eq_false h]; rfl
theorem s_word_Sub (a b c d : Int) : F_word_Sub [a, b, c, d] = [wd (nB a b + W128 - nB c d) 1, wd (nB a b + W128 - nB c d) 0, b2i (decide (nB a b < nB c d))] := by
 obtain ⟨x, hx, e, h1, h0⟩ := bits_in a b
 obtain ⟨y, hy, e', h1', h0'⟩ := bits_in c d
 rw [e, e', F_word_Sub, t_word_Sub]
 have z0 : bitN 0 = ((bin x y 0 : Nat) : Int) := by rw [bin_zero]; rfl
 have z1 : bitN ((bin x y 1 : Nat) : Int) = ((bin x y 1 : Nat) : Int) := by unfold bitN; rw [iNz_eq]; exact bit_id (bin_c x y 1)
 have hle : y ≤ x + W64 ^ 2 := by rw [pw_two]; omega
 refine (treeF_call (r := [wd (x + W128 - y) 0, ((bin x y 1 : Nat) : Int)]) ?_ rfl).trans ?_
 ·simp only [sxs, ph_E0_math_bits_Sub64, fSub64, h1, h0, h1', h0', z0]
  rw [subw_wd x y 0 2 (by decide) hle, subc_wd, pw_two]
 refine (treeF_call (r := [wd (x + W128 - y) 1, ((bin x y 2 : Nat) : Int)]) ?_ rfl).trans ?_
 ·simp only [sxs, ph_E0_math_bits_Sub64, fSub64, h1, h0, h1', h0']
  rw [show b2i (iNz ((bin x y 1 : Nat) : Int)) = bitN ((bin x y 1 : Nat) : Int) from rfl, z1, z1, subw_wd x y 1 2 (by decide) hle, subc_wd, pw_two]
 rw [treeF_leaf rfl]
 simp only [sxs]
 congr 3
 rw [bin_end (i := 2) (by rw [pw_two]; exact hx) (by rw [pw_two]; exact hy)]
 by_cases h : x < y
 ·rw [if_pos h, decide_eq_true h]; rfl
 ·rw [if_neg h, decide_eq_false h]; rfl
theorem s_word_Mul (a b : Int) : F_word_Mul [a, b] = oB ((u64 a).toNat * (u64 b).toNat) := by
 rw [F_word_Mul, t_word_Mul]
 have h := mul_words (u64_nat a).2 (u64_nat b).2
 rw [(u64_nat a).1, (u64_nat b).1] at h
 refine (treeF_call (r := oB ((u64 a).toNat * (u64 b).toNat)) ?_ rfl).trans ?_
 ·simp only [sxs, ph_E0_math_bits_Mul64, fMul64]
  rw [h.1, h.2]
 rw [treeF_leaf rfl]
 simp only [sxs]
theorem s_wide_Join (a b c d : Int) : F_wide_Join [a, b, c, d] = oW (nB a b * W128 + nB c d) := by
 obtain ⟨x, hx, e, h1, h0⟩ := bits_in a b
 obtain ⟨y, hy, e', h1', h0'⟩ := bits_in c d
 rw [e, e', F_wide_Join, t_wide_Join, treeF_leaf rfl]
 obtain ⟨j0, j1, j2, j3⟩ := join_words (h := x) hy
 simp only [sxs, h1, h0, h1', h0', j0, j1, j2, j3]
theorem s_wide_Of (a b : Int) : F_wide_Of [a, b] = oW (nB a b) := by
 obtain ⟨x, hx, e, h1, h0⟩ := bits_in a b
 rw [e, F_wide_Of, t_wide_Of, treeF_leaf rfl]
 simp only [sxs, h1, h0, (wd_lt2 hx).1, (wd_lt2 hx).2]
theorem s_wide_High (a b c d : Int) : F_wide_High [a, b, c, d] = oB (nW a b c d / W128) := by
 obtain ⟨n, hn, e, h0, h1, h2, h3⟩ := wide_in a b c d
 rw [e, F_wide_High, t_wide_High, treeF_leaf rfl]
 simp only [sxs, h2, h3, wd_div128]
theorem s_wide_Low (a b c d : Int) : F_wide_Low [a, b, c, d] = oB (nW a b c d) := by
 obtain ⟨n, hn, e, h0, h1, h2, h3⟩ := wide_in a b c d
 rw [e, F_wide_Low, t_wide_Low, treeF_leaf rfl]
 simp only [sxs, h0, h1]
theorem s_wide_Zero (a b c d : Int) : F_wide_Zero [a, b, c, d] = [b2i (decide (nW a b c d = 0))] := by
 obtain ⟨n, hn, e, h0, h1, h2, h3⟩ := wide_in a b c d
 rw [e, F_wide_Zero, t_wide_Zero, treeF_leaf rfl]
 simp only [sxs, h0, h1, h2, h3, show iNz 1 = true from rfl, Bool.and_true]
 congr 2
 rw [Bool.eq_iff_iff]
 simp only [Bool.and_eq_true, beq_iff_eq, decide_eq_true_iff]
 exact eq_zero4 hn
def len (n : Nat) : Nat := if n = 0 then 0 else Nat.log2 n + 1
theorem len_iff {n k : Nat} : len n ≤ k ↔ n < 2 ^ k := by
 unfold len
 split
 ·rename_i h; subst h; simp [FP.two_pow_pos]
 ·rename_i h; rw [← Nat.log2_lt h]; omega
theorem len_unique {n k : Nat} (h0 : n ≠ 0) (h1 : 2 ^ k ≤ n) (h2 : n < 2 ^ (k + 1)) : len n = k + 1 := by
 unfold len; rw [if_neg h0]
 have a := (Nat.log2_lt h0).2 h2
 have b : ¬ Nat.log2 n < k := fun h => by have := (Nat.log2_lt h0).1 h; omega
 omega
theorem bitLen_len (w : Nat) (hw : w < W64) : Lib.bitLen w = len w := by
  have key : ∀ f x, x < 2 ^ f → Lib.bitLenAux f x = len x := by
    intro f
    induction f with
    | zero => intro x hx; have : x = 0 := by simpa using hx
              subst this; rfl
    | succ f ih =>
      intro x hx
      unfold Lib.bitLenAux
      split
      · rename_i h; subst h; rfl
      · rename_i h
        have hx2 : x < 2 ^ f * 2 := by rw [← Nat.pow_succ]; exact hx
        rw [ih (x / 2) (by omega)]
        by_cases h1 : x / 2 = 0
        · have : x = 1 := by omega
          subst this; decide
        · obtain ⟨b1, b2⟩ := FP.log2_bounds h1
          have e1 : len (x / 2) = Nat.log2 (x / 2) + 1 := by unfold len; rw [if_neg h1]
          rw [e1, len_unique (k := Nat.log2 (x / 2) + 1) h (by rw [Nat.pow_succ]; omega) (by rw [Nat.pow_succ]; omega)]; omega
  unfold Lib.bitLen
  exact key 64 w (by rw [← W64_pow]; exact hw)
theorem len_word {n j : Nat} (h0 : (wd n j) ≠ 0) (h1 : n < W64 ^ (j + 1)) : len n = 64 * j + len (wd n j).toNat := by
 have hw : (wd n j).toNat = n / W64 ^ j := by
  rw [wd_cast, Int.toNat_natCast, Nat.mod_eq_of_lt]
  rw [Nat.div_lt_iff_lt_mul (pw_pos j), Nat.mul_comm, ← Nat.pow_succ]; exact h1
 have hne : n / W64 ^ j ≠ 0 := by
  intro h; apply h0
  rw [wd_cast, h]; rfl
 have hn : n ≠ 0 := by intro h; subst h; simp at hne
 rw [hw]
 obtain ⟨b1, b2⟩ := FP.log2_bounds hne
 have e1 : len (n / W64 ^ j) = Nat.log2 (n / W64 ^ j) + 1 := by unfold len; rw [if_neg hne]
 rw [e1, ← Nat.add_assoc]
 generalize Nat.log2 (n / W64 ^ j) = k at *
 rw [Nat.le_div_iff_mul_le (pw_pos j), W64_pw, ← Nat.pow_add] at b1
 rw [Nat.div_lt_iff_lt_mul (pw_pos j), W64_pw, ← Nat.pow_add] at b2
 refine len_unique hn (by rw [Nat.add_comm]; exact b1) ?_
 rw [show 64 * j + k + 1 = k + 1 + 64 * j by omega]
 exact b2
theorem s_count_WideLen (a b c d : Int) : F_count_WideLen [a, b, c, d] = [((len (nW a b c d) : Nat) : Int)] := by
 obtain ⟨n, hn, e, h0, h1, h2, h3⟩ := wide_in a b c d
 rw [e, F_count_WideLen, t_count_WideLen]
 have hn4 : n < W64 ^ 4 := by rw [pw_four]; exact hn
 have hl : len n ≤ 256 := len_iff.2 (by rw [← W256_pow]; exact hn)
 have wl : ∀ j, (wd n j).toNat < W64 := fun j => by have := (wd_u64 n j).2; have := (wd_u64 n j).1; omega
 have low : ∀ j, n < W64 ^ (j + 1) → wd n j = 0 → n < W64 ^ j := by
  intro j hlt hz
  have : n / W64 ^ j % W64 = 0 := by rw [wd_cast] at hz; omega
  rw [Nat.mod_eq_of_lt (by rw [Nat.div_lt_iff_lt_mul (pw_pos j), Nat.mul_comm, ← Nat.pow_succ]; exact hlt)] at this
  rcases Nat.div_eq_zero_iff.1 this with h | h
  ·have := pw_pos j; omega
  ·exact h
 simp only [treeF_ite, sxs, h0, h1, h2, h3, bne_iff_ne]
 by_cases z3 : wd n 3 = 0
 ·rw [if_neg (by simp [z3])]
  have l3 := low 3 hn4 z3
  by_cases z2 : wd n 2 = 0
  ·rw [if_neg (by simp [z2])]
   have l2 := low 2 l3 z2
   by_cases z1 : wd n 1 = 0
   ·rw [if_neg (by simp [z1])]
    have l1 := low 1 l2 z1
    by_cases z0 : wd n 0 = 0
    ·rw [if_neg (by simp [z0])]
     have l0 := low 0 l1 z0
     have : n = 0 := by simpa using l0
     subst this
     rw [treeF_leaf rfl]; rfl
    ·rw [if_pos z0]
     refine (treeF_call (r := [((len (wd n 0).toNat : Nat) : Int)]) ?_ rfl).trans ?_
     ·simp only [sxs, ph_E0_math_bits_Len64, fLen64, h0]; rw [bitLen_len _ (wl 0)]
     rw [treeF_leaf rfl]
     simp only [sxs]
     have := len_word z0 l1
     have hw := len_iff.2 (show (wd n 0).toNat < 2 ^ 64 by rw [← W64_pow]; exact wl 0)
     rw [i64_small (n := ((len (wd n 0).toNat : Nat) : Int)) (by omega) (by omega), i64_small (by omega) (by omega), this]; simp
   ·rw [if_pos z1]
    refine (treeF_call (r := [((len (wd n 1).toNat : Nat) : Int)]) ?_ rfl).trans ?_
    ·simp only [sxs, ph_E0_math_bits_Len64, fLen64, h1]; rw [bitLen_len _ (wl 1)]
    rw [treeF_leaf rfl]
    simp only [sxs]
    have := len_word z1 l2
    rw [i64_small (n := ((len (wd n 1).toNat : Nat) : Int)) (by omega) (by omega), i64_small (by omega) (by omega), this]; simp
  ·rw [if_pos z2]
   refine (treeF_call (r := [((len (wd n 2).toNat : Nat) : Int)]) ?_ rfl).trans ?_
   ·simp only [sxs, ph_E0_math_bits_Len64, fLen64, h2]; rw [bitLen_len _ (wl 2)]
   rw [treeF_leaf rfl]
   simp only [sxs]
   have := len_word z2 l3
   rw [i64_small (n := ((len (wd n 2).toNat : Nat) : Int)) (by omega) (by omega), i64_small (by omega) (by omega), this]; simp
 ·rw [if_pos z3]
  refine (treeF_call (r := [((len (wd n 3).toNat : Nat) : Int)]) ?_ rfl).trans ?_
  ·simp only [sxs, ph_E0_math_bits_Len64, fLen64, h3]; rw [bitLen_len _ (wl 3)]
  rw [treeF_leaf rfl]
  simp only [sxs]
  have := len_word z3 hn4
  rw [i64_small (n := ((len (wd n 3).toNat : Nat) : Int)) (by omega) (by omega), i64_small (by omega) (by omega), this]; simp
theorem s_format_of (a : Int) : F_format_of [a] = [(FP.fW (fN a) : Int), (FP.fP (fN a) : Int), (FP.fE (fN a) : Int)] := by
 unfold fN
 rw [F_format_of, t_format_of]
 obtain ⟨h1, h2⟩ := u8_rng a
 simp only [treeF_ite, sxs, Bool.not_eq_true', decide_eq_false_iff_not, decide_eq_true_iff, beq_iff_eq]
 generalize hf : u8 a = f at *
 by_cases h4 : f < 4
 ·rw [if_neg (by omega)]
  rcases (show f = 0 ∨ f = 1 ∨ f = 2 ∨ f = 3 by omega) with rfl | rfl | rfl | rfl
  ·rw [if_pos rfl, treeF_leaf rfl]; rfl
  ·rw [if_neg (by decide), if_pos rfl, treeF_leaf rfl]; rfl
  ·rw [if_neg (by decide), if_neg (by decide), if_pos rfl, treeF_leaf rfl]; rfl
  ·rw [if_neg (by decide), if_neg (by decide), if_neg (by decide), treeF_leaf rfl]; rfl
 ·rw [if_pos h4, treeF_leaf rfl]
  obtain ⟨m, rfl⟩ : ∃ m : Nat, f = ((m + 4 : Nat) : Int) := ⟨(f - 4).toNat, by omega⟩
  rw [Int.toNat_natCast]; rfl
theorem nextB_N {m r : Int} (hm : 0 ≤ m) (hr : 0 < r) (hr3 : r ≤ 3) (neg odd : Bool) : nextB m neg odd r = FP.nextN m.toNat neg odd r.toNat := by
 unfold nextB
 rw [decide_eq_true (show r > 0 from hr), decide_eq_true hr3, Bool.true_and, Bool.true_and]
 rcases (show r = 1 ∨ r = 2 ∨ r = 3 by omega) with rfl | rfl | rfl <;>
 ·by_cases h0 : m = 0
  ·subst h0; rfl
  rw [if_neg h0]
  by_cases h1 : m = 1
  ·subst h1; rfl
  rw [if_neg h1]
  by_cases h2 : m = 2
  ·subst h2; rfl
  rw [if_neg h2]
  by_cases h3 : m = 3
  ·subst h3; rfl
  rw [if_neg h3]
  obtain ⟨k, rfl⟩ : ∃ k : Nat, m = ((k + 4 : Nat) : Int) := ⟨(m - 4).toNat, by omega⟩
  rw [Int.toNat_natCast]; rfl
theorem s_mode_Infinite (a b : Int) : F_mode_Infinite [a, b] = [b2i (FP.nextN (u8 a).toNat (iNz b) true 3)] := by
 rw [F_mode_Infinite, t_mode_Infinite]
 refine (treeF_call (r := [b2i (FP.nextN (u8 a).toNat (iNz b) true 3)]) ?_ rfl).trans ?_
 ·simp only [sxs, ph_E0_mode_Next, fNext, wC_8]
  rw [show u8 3 = 3 by decide, show iNz 1 = true from rfl, nextB_N (u8_rng a).1 (by decide) (by decide)]; rfl
 rw [treeF_leaf rfl]
 simp only [sxs]
end Go.Proofs.YtkfbdlidigmfbaaGreatDoor
namespace Go.Proofs.YtkfbdlidigmfbaaGreatDoor
set_option linter.unusedVariables false
set_option linter.unusedSimpArgs false
set_option maxRecDepth 100000
open Go.RowKit
theorem fE_le (f : Nat) : FP.fE f ≤ 16383 := by unfold FP.fE; split <;> decide
theorem fP_le (f : Nat) : FP.fP f ≤ 113 := by unfold FP.fP; split <;> decide
theorem fW_le (f : Nat) : FP.fW f ≤ 128 := by unfold FP.fW; split <;> decide
theorem i64_small' {n : Int} (h1 : -17000 ≤ n) (h2 : n ≤ 17000) : i64 n = n := i64_id (by omega) (by omega)
theorem i64_nat {n : Nat} (h : n ≤ 1000000000000) : i64 (n : Int) = n := i64_id (by omega) (by omega)
theorem i64_fE (f : Nat) : i64 (FP.fE f : Int) = FP.fE f := i64_nat (by have := fE_le f; omega)
theorem i64_fP (f : Nat) : i64 (FP.fP f : Int) = FP.fP f := i64_nat (by have := fP_le f; omega)
theorem i64_fW (f : Nat) : i64 (FP.fW f : Int) = FP.fW f := i64_nat (by have := fW_le f; omega)
theorem s_format_Emax (a : Int) : F_format_Emax [a] = [(FP.fE (fN a) : Int)] := by
 rw [F_format_Emax, t_format_Emax]
 refine (treeF_call (by simp only [sxs, ph_E1_format_of]; exact s_format_of _) (by rfl)).trans ?_
 rw [treeF_leaf rfl]; simp only [sxs, fN_u, i64_fE]
theorem s_format_Prec (a : Int) : F_format_Prec [a] = [(FP.fP (fN a) : Int)] := by
 rw [F_format_Prec, t_format_Prec]
 refine (treeF_call (by simp only [sxs, ph_E1_format_of]; exact s_format_of _) (by rfl)).trans ?_
 rw [treeF_leaf rfl]; simp only [sxs, fN_u, i64_fP]
theorem s_format_Width (a : Int) : F_format_Width [a] = [(FP.fW (fN a) : Int)] := by
 rw [F_format_Width, t_format_Width]
 refine (treeF_call (by simp only [sxs, ph_E1_format_of]; exact s_format_of _) (by rfl)).trans ?_
 rw [treeF_leaf rfl]; simp only [sxs, fN_u, i64_fW]
theorem low_bits {x k : Nat} (h : k ≤ 128) : x * 2 ^ (128 - k) % W128 / 2 ^ (128 - k) = x % 2 ^ k := by
 rw [W128_pow]
 conv => lhs; rw [show (2 : Nat) ^ 128 = 2 ^ k * 2 ^ (128 - k) by rw [← Nat.pow_add]; congr 1; omega]
 rw [Nat.mul_mod_mul_right, Nat.mul_div_cancel _ (FP.two_pow_pos _)]
theorem s_format_low (a b c : Int) (h1 : 0 ≤ i64 c) (h2 : i64 c ≤ 128) : F_format_low [a, b, c] = oB (nB a b % 2 ^ (i64 c).toNat) := by
 rw [F_format_low, t_format_low]
 have e : i64 (128 - i64 c) = ((128 - (i64 c).toNat : Nat) : Int) := by rw [i64_small (by omega) (by omega)]; omega
 have e2 : i64 ((128 - (i64 c).toNat : Nat) : Int) = ((128 - (i64 c).toNat : Nat) : Int) := i64_nat (by omega)
 have e3 : nB (u64 a) (u64 b) = nB a b := by unfold nB; rw [u64_u64, u64_u64]
 refine (treeF_call (by simp only [sxs, ph_E1_shift_Left, e]; exact s_shift_Left _ _ _ ) (by rfl)).trans ?_
 refine (treeF_call (by simp only [sxs, ph_E1_shift_Right, e, e2, nB_mod, Int.toNat_natCast]; exact s_shift_Right _ _ _ ) (by rfl)).trans ?_
 rw [treeF_leaf rfl]
 simp only [sxs, nB_mod, e2, Int.toNat_natCast, Nat.mod_mod, e3]
 rw [low_bits (by omega)]
theorem nB_u (a b : Int) : nB (u64 a) (u64 b) = nB a b := by unfold nB; rw [u64_u64, u64_u64]
theorem nW_u (a b c d : Int) : nW (u64 a) (u64 b) (u64 c) (u64 d) = nW a b c d := by unfold nW; rw [u64_u64, u64_u64, u64_u64, u64_u64]
theorem nW_mod (n : Nat) : nW (wd n 0) (wd n 1) (wd n 2) (wd n 3) = n % W256 := by
 have := nW_oW (n := n % W256) (Nat.mod_lt _ W256_pos)
 rw [← pw_four, wd_mod _ _ _ (by decide), wd_mod _ _ _ (by decide), wd_mod _ _ _ (by decide), wd_mod _ _ _ (by decide), pw_four] at this
 exact this
theorem len_shl {n k : Nat} (h : n ≠ 0) : len (n * 2 ^ k) = len n + k := by
 obtain ⟨b1, b2⟩ := FP.log2_bounds h
 have e1 : len n = Nat.log2 n + 1 := by unfold len; rw [if_neg h]
 rw [e1, show Nat.log2 n + 1 + k = (Nat.log2 n + k) + 1 by omega]
 refine len_unique (Nat.ne_of_gt (Nat.mul_pos (Nat.pos_of_ne_zero h) (FP.two_pow_pos k))) ?_ ?_
 ·rw [Nat.pow_add]; exact Nat.mul_le_mul_right _ b1
 ·rw [show Nat.log2 n + k + 1 = Nat.log2 n + 1 + k by omega, Nat.pow_add]; exact Nat.mul_lt_mul_of_pos_right b2 (FP.two_pow_pos k)
theorem len_zero {n : Nat} : len n = 0 ↔ n = 0 := by unfold len; split <;> omega
theorem raise_lt {n k : Nat} (h : len n ≤ k) : n * 2 ^ (k - len n) < 2 ^ k := by
 have := len_iff.1 (Nat.le_refl (len n))
 have h2 := Nat.mul_lt_mul_of_pos_right this (FP.two_pow_pos (k - len n))
 rw [← Nat.pow_add, show len n + (k - len n) = k by omega] at h2; exact h2
def raiseBy (k n : Nat) : Nat := if n = 0 then 0 else k - len n
theorem s_count_WideRaise (a b c d : Int) : F_count_WideRaise [a, b, c, d] = oW (nW a b c d * 2 ^ raiseBy 256 (nW a b c d)) ++ [((raiseBy 256 (nW a b c d) : Nat) : Int)] := by
 rw [F_count_WideRaise, t_count_WideRaise]
 have hn := nW_lt a b c d
 obtain ⟨h0, h1, h2, h3, _⟩ := nW_words a b c d
 have hl : len (nW a b c d) ≤ 256 := len_iff.2 (by rw [← W256_pow]; exact hn)
 refine (treeF_call (by simp only [sxs, ph_E1_count_WideLen]; exact s_count_WideLen _ _ _ _) (by rfl)).trans ?_
 rw [treeF_ite]
 simp only [sxs, nW_u, beq_iff_eq]
 rw [i64_nat (show len (nW a b c d) ≤ 1000000000000 by omega)]
 by_cases hz : nW a b c d = 0
 ·rw [if_pos (by rw [len_zero.2 hz]; rfl), treeF_leaf rfl]
  simp only [sxs, h0, h1, h2, h3, raiseBy, if_pos hz, Nat.pow_zero, Nat.mul_one]; rfl
 ·rw [if_neg (by have := mt len_zero.1 hz; omega)]
  have e : i64 (256 - ((len (nW a b c d) : Nat) : Int)) = ((256 - len (nW a b c d) : Nat) : Int) := by rw [i64_small (by omega) (by omega)]; omega
  have e2 : i64 ((256 - len (nW a b c d) : Nat) : Int) = ((256 - len (nW a b c d) : Nat) : Int) := i64_nat (by omega)
  have e4 := i64_nat (show len (nW a b c d) ≤ 1000000000000 by omega)
  refine (treeF_call (by simp only [sxs, ph_E1_shift_WideLeft, nW_u, e4, e]; exact s_shift_WideLeft _ _ _ _ _ ) (by rfl)).trans ?_
  rw [treeF_leaf rfl]
  simp only [sxs, nW_u, e, e2, e4, Int.toNat_natCast, raiseBy, if_neg hz]
  rw [Nat.mod_eq_of_lt (show _ < W256 by rw [W256_pow]; exact raise_lt hl)]
theorem W256_sq : W256 = W128 * W128 := by unfold W256; rfl
theorem mul_W {n : Nat} (h : n < W128) : n * W128 < W256 := by rw [W256_sq]; exact Nat.mul_lt_mul_of_pos_right h W128_pos
theorem s_count_Raise (a b : Int) : F_count_Raise [a, b] = oB (nB a b * 2 ^ raiseBy 128 (nB a b)) ++ [((raiseBy 128 (nB a b) : Nat) : Int)] := by
 rw [F_count_Raise, t_count_Raise]
 have hn := nB_lt a b
 have hl : len (nB a b) ≤ 128 := len_iff.2 (by rw [← W128_pow]; exact hn)
 have z : nB 0 0 = 0 := by decide
 refine (treeF_call (by simp only [sxs, ph_E1_wide_Join]; exact s_wide_Join _ _ _ _) (by rfl)).trans ?_
 rw [nB_u, z, Nat.add_zero]
 have hw : nB a b * W128 < W256 := mul_W hn
 have hw2 : nB a b * W128 % W256 = nB a b * W128 := Nat.mod_eq_of_lt hw
 have hlen : len (nB a b * W128) = if nB a b = 0 then 0 else len (nB a b) + 128 := by
  split
  ·rename_i h; rw [h]; rfl
  ·rename_i h; rw [W128_pow, len_shl h]
 have hi : i64 ((len (nB a b * W128) : Nat) : Int) = ((len (nB a b * W128) : Nat) : Int) := i64_nat (by rw [hlen]; split <;> omega)
 refine (treeF_call (by simp only [sxs, ph_E1_count_WideLen, nW_mod, hw2]; exact s_count_WideLen _ _ _ _ ) (by rfl)).trans ?_
 rw [treeF_ite]
 simp only [sxs, nW_mod, hw2, hi, beq_iff_eq]
 by_cases hz : nB a b = 0
 ·rw [if_pos (by rw [hlen, if_pos hz]; rfl)]
  refine (treeF_call (by simp only [sxs, ph_E1_wide_High, nW_mod, hw2]; exact s_wide_High _ _ _ _ ) (by rfl)).trans ?_
  rw [treeF_leaf rfl]
  simp only [sxs, raiseBy, if_pos hz, nW_mod, hw2, Nat.pow_zero, Nat.mul_one, Nat.mul_div_cancel _ W128_pos]; rfl
 ·rw [hlen, if_neg hz]
  rw [if_neg (by omega)]
  have e : i64 (256 - ((len (nB a b) + 128 : Nat) : Int)) = ((128 - len (nB a b) : Nat) : Int) := by rw [i64_small (by omega) (by omega)]; omega
  have e2 : i64 ((128 - len (nB a b) : Nat) : Int) = ((128 - len (nB a b) : Nat) : Int) := i64_nat (by omega)
  have e4 := i64_nat (show len (nB a b) + 128 ≤ 1000000000000 by omega)
  have hr := raise_lt hl
  have big : nB a b * W128 * 2 ^ (128 - len (nB a b)) = nB a b * 2 ^ (128 - len (nB a b)) * W128 := by ac_rfl
  have hbig : nB a b * 2 ^ (128 - len (nB a b)) * W128 < W256 := mul_W (by rw [W128_pow]; exact hr)
  refine (treeF_call (by simp only [sxs, ph_E1_shift_WideLeft, nW_mod, hw2, e4, e]; exact s_shift_WideLeft _ _ _ _ _ ) (by rfl)).trans ?_
  rw [e2, Int.toNat_natCast, nW_mod, hw2, big, Nat.mod_eq_of_lt hbig]
  refine (treeF_call (by simp only [sxs, ph_E1_wide_High, nW_mod, Nat.mod_eq_of_lt hbig]; exact s_wide_High _ _ _ _ ) (by rfl)).trans ?_
  rw [treeF_leaf rfl]
  simp only [sxs, nW_mod, Nat.mod_eq_of_lt hbig, Nat.mul_div_cancel _ W128_pos, e, e2, e4, raiseBy, if_neg hz]
theorem s_shift_Lost (a b c d x : Int) : F_shift_Lost [a, b, c, d, x] = [b2i (decide (nW a b c d % 2 ^ (i64 x).toNat ≠ 0))] := by
 rw [F_shift_Lost, t_shift_Lost]
 have hn := nW_lt a b c d
 obtain ⟨h0, h1, h2, h3, _⟩ := nW_words a b c d
 have hd : nW a b c d / 2 ^ (i64 x).toNat < W256 := Nat.lt_of_le_of_lt (Nat.div_le_self _ _) hn
 have hd2 : nW a b c d / 2 ^ (i64 x).toNat * 2 ^ (i64 x).toNat < W256 := Nat.lt_of_le_of_lt (Nat.div_mul_le_self _ _) hn
 refine (treeF_call (by simp only [sxs, ph_E1_shift_WideRight]; exact s_shift_WideRight _ _ _ _ _) (by rfl)).trans ?_
 simp only [nW_u, i64_i64]
 refine (treeF_call (by simp only [sxs, ph_E1_shift_WideLeft]; exact s_shift_WideLeft _ _ _ _ _) (by rfl)).trans ?_
 simp only [nW_mod, i64_i64, Nat.mod_eq_of_lt hd, Nat.mod_eq_of_lt hd2]
 rw [treeF_leaf rfl]
 simp only [sxs, h0, h1, h2, h3, show iNz 1 = true from rfl, Bool.and_true]
 rw [eqW_dec _ _ hd2 hn]
 congr 2
 rw [Bool.eq_iff_iff]
 simp only [Bool.not_eq_true', decide_eq_false_iff_not, decide_eq_true_iff]
 have := Nat.div_add_mod (nW a b c d) (2 ^ (i64 x).toNat)
 rw [Nat.mul_comm] at this
 omega
end Go.Proofs.YtkfbdlidigmfbaaGreatDoor
namespace Go.Proofs.YtkfbdlidigmfbaaGreatDoor
set_option linter.unusedVariables false
set_option linter.unusedSimpArgs false
set_option maxRecDepth 100000
open Go.RowKit
theorem toNat_c (n : Nat) : ((n : Nat) : Int).toNat = n := by omega
theorem mod_lt128 (x : Nat) {k : Nat} (h : k ≤ 128) : x % 2 ^ k < W128 := by
 rw [W128_pow]
 exact Nat.lt_of_lt_of_le (Nat.mod_lt _ (FP.two_pow_pos k)) (Nat.pow_le_pow_right (by decide) h)
theorem s_format_Cut (f a b : Int) : F_format_Cut [f, a, b] = oB (nB a b % 2 ^ FP.fW (fN f)) := by
 rw [F_format_Cut, t_format_Cut]
 refine (treeF_call (by simp only [sxs, ph_E2_format_Width]; exact s_format_Width _) (by rfl)).trans ?_
 have hl := fW_le (fN f)
 have h1 : i64 (FP.fW (fN f) : Int) = FP.fW (fN f) := i64_fW _
 refine (treeF_call (r := oB (nB a b % 2 ^ FP.fW (fN f))) ?_ rfl).trans ?_
 ·simp only [sxs, ph_E2_format_low, fN_u]
  rw [s_format_low _ _ _ (by rw [i64_i64, h1]; omega) (by rw [i64_i64, h1]; omega), i64_i64, h1, toNat_c, nB_u]; rfl
 rw [treeF_leaf rfl]; simp only [sxs]
def makeN (f : Nat) (neg : Bool) (e : Int) (frac : Nat) : Nat :=
 FP.mk f neg ((if e < 0 ∨ e > 1048576 then 0 else e.toNat) % 2 ^ (FP.fW f - FP.fP f) * 2 ^ (FP.fP f - 1) + frac % 2 ^ (FP.fP f - 1))
theorem fmt_nums {f : Nat} (h : f < 4) : 2 ≤ FP.fP f ∧ FP.fP f ≤ 113 ∧ FP.fP f < FP.fW f ∧ FP.fW f ≤ 128 ∧ 16 ≤ FP.fW f ∧ 1 ≤ FP.fE f ∧ FP.fE f ≤ 16383 ∧ FP.fW f - FP.fP f ≤ 15 := by
 rcases FP.f4 h with rfl | rfl | rfl | rfl <;> decide
theorem code_lt {f e frac : Nat} (h : f < 4) : e % 2 ^ (FP.fW f - FP.fP f) * 2 ^ (FP.fP f - 1) + frac % 2 ^ (FP.fP f - 1) < 2 ^ (FP.fW f - 1) := by
 obtain ⟨h1, h2, h3, h4, _⟩ := fmt_nums h
 have a := Nat.mod_lt e (FP.two_pow_pos (FP.fW f - FP.fP f))
 have b := Nat.mod_lt frac (FP.two_pow_pos (FP.fP f - 1))
 have e1 : 2 ^ (FP.fW f - 1) = 2 ^ (FP.fW f - FP.fP f) * 2 ^ (FP.fP f - 1) := by rw [← Nat.pow_add]; congr 1; omega
 rw [e1]
 have := Nat.mul_le_mul_right (2 ^ (FP.fP f - 1)) (show e % 2 ^ (FP.fW f - FP.fP f) + 1 ≤ 2 ^ (FP.fW f - FP.fP f) from a)
 rw [Nat.add_mul, Nat.one_mul] at this
 omega
theorem pow_le128 {k : Nat} (h : k ≤ 128) : 2 ^ k ≤ W128 := by rw [W128_pow]; exact Nat.pow_le_pow_right (by decide) h
def rB (n : Nat) : List Int := oB n
theorem rB_eq (n : Nat) : rB n = oB n := rfl
def rW (n : Nat) : List Int := oW n
theorem rW_eq (n : Nat) : rW n = oW n := rfl
theorem nB_small {n : Nat} (h : n < W128) : nB (wd n 1) (wd n 0) = n := by rw [nB_mod, Nat.mod_eq_of_lt h]
theorem i64_sub {a b : Nat} (h : b ≤ a) (h2 : a ≤ 1000000) : i64 ((a : Int) - (b : Int)) = ((a - b : Nat) : Int) := by rw [i64_id (by omega) (by omega)]; omega
theorem s_low' (x : Nat) {k : Nat} (hx : x < W128) (hk : k ≤ 128) : F_format_low [wd x 1, wd x 0, (k : Int)] = oB (x % 2 ^ k) := by
 rw [s_format_low _ _ _ (by rw [i64_nat (by omega)]; omega) (by rw [i64_nat (by omega)]; omega), i64_nat (by omega), toNat_c, nB_small hx]
theorem s_Left' (x : Nat) {k : Nat} (hx : x < W128) (hk : k ≤ 1000) (h : x * 2 ^ k < W128) : F_shift_Left [wd x 1, wd x 0, (k : Int)] = oB (x * 2 ^ k) := by
 rw [s_shift_Left, i64_nat (by omega), toNat_c, nB_small hx, Nat.mod_eq_of_lt h]
theorem s_Right' (x : Nat) {k : Nat} (hx : x < W128) (hk : k ≤ 1000) : F_shift_Right [wd x 1, wd x 0, (k : Int)] = oB (x / 2 ^ k) := by
 rw [s_shift_Right, i64_nat (by omega), toNat_c, nB_small hx]
theorem s_Add' (x y : Nat) (h : x + y < W128) : F_word_Add [wd x 1, wd x 0, wd y 1, wd y 0] = [wd (x + y) 1, wd (x + y) 0, 0] := by
 rw [s_word_Add, nB_small (by omega), nB_small (by omega), decide_eq_false (by omega)]; rfl
theorem wd1 : wd 1 1 = 0 ∧ wd 1 0 = 1 := by decide
theorem wd00 (i : Nat) : wd 0 i = 0 := wd_zero i
theorem s_format_Make (f n e c d : Int) : F_format_Make [f, n, e, c, d] = oB (if fN f < 4 then makeN (fN f) (iNz n) (i64 e) (nB c d) else 0) := by
 refine Eq.trans ?_ (rB_eq _)
 rw [F_format_Make, t_format_Make]
 have hW := i64_fW (fN f)
 have hP := i64_fP (fN f)
 refine (treeF_call (by simp only [sxs, ph_E2_format_of]; exact s_format_of _) (by rfl)).trans ?_
 simp only [fN_u]
 rw [treeF_ite]
 simp only [sxs, hW, beq_iff_eq]
 by_cases hf : ¬ fN f < 4
 ·have : FP.fW (fN f) = 0 := by
   obtain ⟨m, hm⟩ : ∃ m, fN f = m + 4 := ⟨fN f - 4, by omega⟩
   rw [hm]; rfl
  rw [if_pos (by rw [this]; rfl), treeF_leaf rfl, if_neg hf]; rfl
 have hf := Classical.not_not.1 hf
 obtain ⟨h1, h2, h3, h4, h5, _, _, h8⟩ := fmt_nums hf
 rw [if_neg (by omega), if_pos hf]
 have eW : i64 ((FP.fW (fN f) : Int) - (FP.fP (fN f) : Int)) = ((FP.fW (fN f) - FP.fP (fN f) : Nat) : Int) := i64_sub (by omega) (by omega)
 have eP : i64 ((FP.fP (fN f) : Int) - 1) = ((FP.fP (fN f) - 1 : Nat) : Int) := i64_sub (b := 1) (by omega) (by omega)
 have eS : i64 ((FP.fW (fN f) : Int) - 1) = ((FP.fW (fN f) - 1 : Nat) : Int) := i64_sub (b := 1) (by omega) (by omega)
 obtain ⟨z, hz, ez, hc, hd⟩ := bits_in c d
 have field : ∃ ex : Nat, ex < W128 ∧ (if i64 e < 0 ∨ i64 e > 1048576 then 0 else (i64 e).toNat) = ex ∧ ((i64 e < 0 ∨ i64 e > 1048576) → ex = 0) ∧ (¬ (i64 e < 0 ∨ i64 e > 1048576) → u64 (i64 e) = wd ex 0 ∧ wd ex 1 = 0) := by
  by_cases h : i64 e < 0 ∨ i64 e > 1048576
  ·exact ⟨0, W128_pos, if_pos h, fun _ => rfl, fun h2 => absurd h h2⟩
  ·have hlt : (i64 e).toNat < W64 := by rw [W64_val]; omega
   have hi : (i64 e) = (((i64 e).toNat : Nat) : Int) := by omega
   refine ⟨(i64 e).toNat, by rw [W128_val]; omega, if_neg h, fun h2 => absurd h2 h, fun _ => ⟨?_, ?_⟩⟩
   ·conv => lhs; rw [hi]
    rw [u64_nat' _ hlt, wd_cast, Nat.pow_zero, Nat.div_one, Nat.mod_eq_of_lt hlt]
   ·exact wd_lt (m := 1) 1 (by rw [Nat.pow_one]; exact hlt) (by decide)
 obtain ⟨ex, hex, hex1, hex2, hex3⟩ := field
 unfold makeN
 rw [hex1, ez]
 have hcode := code_lt (e := ex) (frac := z) hf
 have hpw := pow_le128 (show FP.fW (fN f) - 1 ≤ 128 by omega)
 have hpw2 := pow_le128 (show FP.fW (fN f) ≤ 128 by omega)
 have hq := mod_lt128 ex (show FP.fW (fN f) - FP.fP (fN f) ≤ 128 by omega)
 have hr := mod_lt128 z (show FP.fP (fN f) - 1 ≤ 128 by omega)
 have hmk := FP.mk_lt (c := ex % 2 ^ (FP.fW (fN f) - FP.fP (fN f)) * 2 ^ (FP.fP (fN f) - 1) + z % 2 ^ (FP.fP (fN f) - 1)) hf (iNz n) hcode
 have e1 : 1 * 2 ^ (FP.fW (fN f) - 1) < W128 := by
  rw [Nat.one_mul, W128_pow]; exact Nat.pow_lt_pow_right (by decide) (by omega)
 have first : ∀ (x y : X) (L : List Int), L = [f, n, e, c, d, (FP.fW (fN f) : Int), (FP.fP (fN f) : Int), (FP.fE (fN f) : Int)] → X.ev L x = wd ex 1 → X.ev L y = wd ex 0 →
   phiE E2 43 (List.map (X.ev L) [x, y, .bin .sub .i64 (.var kI 5) (.var kI 6)]) = oB (ex % 2 ^ (FP.fW (fN f) - FP.fP (fN f))) := by
  intro x y L hL hx hy
  simp only [List.map_cons, List.map_nil, hx, hy]
  rw [ph_E2_format_low, hL]
  simp only [sxs, hW, hP, eW]
  exact s_low' _ hex (by omega)
 rw [treeF_ite]
 simp only [ev_bin, op_lss, ev_var_i, ev_lit, iNz_b2i, l_an, l_ca, l_na, l_mc, l_mn, getI_0, getI_s, decide_eq_true_iff]
 by_cases hlt : i64 e < 0
 ·rw [if_pos hlt]
  refine (treeF_call (first _ _ _ rfl (by rw [hex2 (.inl hlt), wd00]; rfl) (by rw [hex2 (.inl hlt), wd00]; rfl)) rfl).trans ?_
  refine (treeF_call (by simp only [sxs, ph_E2_shift_Left, hP, eP]; exact s_Left' _ hq (by omega) (by omega) ) (by rfl)).trans ?_
  refine (treeF_call (by simp only [sxs, ph_E2_format_low, hc, hd, hP, eP]; exact s_low' _ hz (by omega) ) (by rfl)).trans ?_
  refine (treeF_call (by simp only [sxs, ph_E2_word_Add]; exact s_Add' _ _ (by omega)) (by rfl)).trans ?_
  rw [treeF_ite]
  simp only [sxs]
  unfold FP.mk
  unfold FP.mk at hmk
  cases hn : iNz n with
  | true =>
   rw [hn] at hmk
   rw [if_pos rfl]
   have l1 : F_shift_Left [0, 1, ((FP.fW (fN f) - 1 : Nat) : Int)] = oB (1 * 2 ^ (FP.fW (fN f) - 1)) := by
    have := s_Left' 1 (k := FP.fW (fN f) - 1) (by decide) (by omega) e1
    rw [wd1.1, wd1.2] at this; exact this
   refine (treeF_call (by simp only [sxs, ph_E2_shift_Left, hW, eS]; exact l1) (by rfl)).trans ?_
   refine (treeF_call (by simp only [sxs, ph_E2_word_Add]; exact s_Add' _ _ (by rw [show Bool.toNat true = 1 from rfl] at hmk; omega)) (by rfl)).trans ?_
   rw [treeF_leaf rfl]
   simp only [sxs]
   rfl
  | false =>
   rw [if_neg (by decide), treeF_leaf rfl]
   simp only [sxs]
   rw [show Bool.toNat false = 0 from rfl, Nat.zero_mul, Nat.add_zero]; rfl
 rw [if_neg hlt, treeF_ite]
 simp only [ev_bin, op_gtr, ev_var_i, ev_lit, iNz_b2i, l_an, l_ca, l_na, l_mc, l_mn, getI_0, getI_s, decide_eq_true_iff]
 by_cases hgt : i64 e > 1048576
 ·rw [if_pos hgt]
  refine (treeF_call (first _ _ _ rfl (by rw [hex2 (.inr hgt), wd00]; rfl) (by rw [hex2 (.inr hgt), wd00]; rfl)) rfl).trans ?_
  refine (treeF_call (by simp only [sxs, ph_E2_shift_Left, hP, eP]; exact s_Left' _ hq (by omega) (by omega) ) (by rfl)).trans ?_
  refine (treeF_call (by simp only [sxs, ph_E2_format_low, hc, hd, hP, eP]; exact s_low' _ hz (by omega) ) (by rfl)).trans ?_
  refine (treeF_call (by simp only [sxs, ph_E2_word_Add]; exact s_Add' _ _ (by omega)) (by rfl)).trans ?_
  rw [treeF_ite]
  simp only [sxs]
  unfold FP.mk
  unfold FP.mk at hmk
  cases hn : iNz n with
  | true =>
   rw [hn] at hmk
   rw [if_pos rfl]
   have l1 : F_shift_Left [0, 1, ((FP.fW (fN f) - 1 : Nat) : Int)] = oB (1 * 2 ^ (FP.fW (fN f) - 1)) := by
    have := s_Left' 1 (k := FP.fW (fN f) - 1) (by decide) (by omega) e1
    rw [wd1.1, wd1.2] at this; exact this
   refine (treeF_call (by simp only [sxs, ph_E2_shift_Left, hW, eS]; exact l1) (by rfl)).trans ?_
   refine (treeF_call (by simp only [sxs, ph_E2_word_Add]; exact s_Add' _ _ (by rw [show Bool.toNat true = 1 from rfl] at hmk; omega)) (by rfl)).trans ?_
   rw [treeF_leaf rfl]
   simp only [sxs]
   rfl
  | false =>
   rw [if_neg (by decide), treeF_leaf rfl]
   simp only [sxs]
   rw [show Bool.toNat false = 0 from rfl, Nat.zero_mul, Nat.add_zero]; rfl
 ·rw [if_neg hgt]
  obtain ⟨f1, f2⟩ := hex3 (by omega)
  refine (treeF_call (first _ _ _ rfl (by rw [f2]; rfl) (by simp only [sxs]; exact f1)) rfl).trans ?_
  refine (treeF_call (by simp only [sxs, ph_E2_shift_Left, hP, eP]; exact s_Left' _ hq (by omega) (by omega) ) (by rfl)).trans ?_
  refine (treeF_call (by simp only [sxs, ph_E2_format_low, hc, hd, hP, eP]; exact s_low' _ hz (by omega) ) (by rfl)).trans ?_
  refine (treeF_call (by simp only [sxs, ph_E2_word_Add]; exact s_Add' _ _ (by omega)) (by rfl)).trans ?_
  rw [treeF_ite]
  simp only [sxs]
  unfold FP.mk
  unfold FP.mk at hmk
  cases hn : iNz n with
  | true =>
   rw [hn] at hmk
   rw [if_pos rfl]
   have l1 : F_shift_Left [0, 1, ((FP.fW (fN f) - 1 : Nat) : Int)] = oB (1 * 2 ^ (FP.fW (fN f) - 1)) := by
    have := s_Left' 1 (k := FP.fW (fN f) - 1) (by decide) (by omega) e1
    rw [wd1.1, wd1.2] at this; exact this
   refine (treeF_call (by simp only [sxs, ph_E2_shift_Left, hW, eS]; exact l1) (by rfl)).trans ?_
   refine (treeF_call (by simp only [sxs, ph_E2_word_Add]; exact s_Add' _ _ (by rw [show Bool.toNat true = 1 from rfl] at hmk; omega)) (by rfl)).trans ?_
   rw [treeF_leaf rfl]
   simp only [sxs]
   rfl
  | false =>
   rw [if_neg (by decide), treeF_leaf rfl]
   simp only [sxs]
   rw [show Bool.toNat false = 0 from rfl, Nat.zero_mul, Nat.add_zero]; rfl
end Go.Proofs.YtkfbdlidigmfbaaGreatDoor
namespace Go.Proofs.YtkfbdlidigmfbaaGreatDoor
set_option linter.unusedVariables false
set_option linter.unusedSimpArgs false
set_option maxRecDepth 100000
open Go.RowKit
theorem s_over_Beyond (f e : Int) : F_over_Beyond [f, e] = [b2i (decide (fN f < 4) && decide ((FP.fE (fN f) : Int) < i64 e))] := by
 rw [F_over_Beyond, t_over_Beyond, treeF_ite]
 simp only [sxs, decide_eq_true_iff]
 have h := u8_rng f
 by_cases hf : u8 f < 4
 ·rw [if_pos hf, decide_eq_true (show fN f < 4 by unfold fN; omega), Bool.true_and]
  refine (treeF_call (by simp only [sxs, ph_E2_format_Emax]; exact s_format_Emax _) (by rfl)).trans ?_
  rw [treeF_leaf rfl]; simp only [sxs, fN_u, i64_fE, gt_iff_lt]
 ·rw [if_neg hf, decide_eq_false (show ¬ fN f < 4 by unfold fN; omega), Bool.false_and, treeF_leaf rfl]; rfl
theorem nW_small {n : Nat} (h : n < W256) : nW (wd n 0) (wd n 1) (wd n 2) (wd n 3) = n := by rw [nW_mod, Nat.mod_eq_of_lt h]
theorem or1 (x : Nat) : iOp .or .u64 (wd x 0) 1 = wd (x / 2 * 2 + 1) 0 := by
 rw [wd_cast, wd_cast, show (1 : Int) = ((1 : Nat) : Int) from rfl, lor_cast _ _ (Nat.mod_lt _ W64_pos) (by decide)]
 congr 1
 rw [Nat.pow_zero, Nat.div_one, Nat.div_one]
 have h : ∀ y : Nat, y ||| 1 = y / 2 * 2 + 1 := by
  intro y
  apply Nat.eq_of_testBit_eq
  intro i
  rw [Nat.testBit_or]
  cases i with
  | zero => rw [Nat.testBit_zero, Nat.testBit_zero, Nat.testBit_zero, show (y / 2 * 2 + 1) % 2 = 1 by omega]; simp
  | succ i => rw [Nat.testBit_succ, Nat.testBit_succ, Nat.testBit_succ, show (y / 2 * 2 + 1) / 2 = y / 2 by omega]; simp
 rw [h]
 rw [W64_val]; omega
theorem wd_odd (x i : Nat) : wd (x / 2 * 2 + 1) (i + 1) = wd x (i + 1) := by
 have e : (x / 2 * 2 + 1) / W64 = x / W64 := by rw [W64_val]; omega
 have h : ∀ y, wd y (i + 1) = wd (y / W64) i := fun y => by rw [wd_cast, wd_cast, Nat.pow_succ, Nat.mul_comm, Nat.div_div_eq_div_mul]
 rw [h, h, e]
theorem jam_lt {a k : Nat} (h : a < W256) : FP.jam a k < W256 := by
 unfold FP.jam
 have h1 := Nat.div_le_self a (2 ^ k)
 have h2 : W256 % 2 = 0 := by decide
 split
 ·omega
 ·generalize a / 2 ^ k = y at *; generalize W256 = W at *; omega
theorem s_shift_WideJam (a b c d x : Int) : F_shift_WideJam [a, b, c, d, x] = oW (FP.jam (nW a b c d) (i64 x).toNat) := by
 refine Eq.trans ?_ (rW_eq _)
 have hn := nW_lt a b c d
 have hd : nW a b c d / 2 ^ (i64 x).toNat < W256 := Nat.lt_of_le_of_lt (Nat.div_le_self _ _) hn
 rw [F_shift_WideJam, t_shift_WideJam]
 refine (treeF_call (by simp only [sxs, ph_E2_shift_WideRight]; exact s_shift_WideRight _ _ _ _ _) (by rfl)).trans ?_
 rw [nW_u, i64_i64]
 refine (treeF_call (by simp only [sxs, ph_E2_shift_Lost]; exact s_shift_Lost _ _ _ _ _) (by rfl)).trans ?_
 rw [nW_u, i64_i64, treeF_ite]
 simp only [sxs]
 by_cases hz : nW a b c d % 2 ^ (i64 x).toNat = 0
 ·rw [decide_eq_false (by simpa using hz), if_neg (by decide), treeF_leaf rfl]
  simp only [sxs]
  unfold FP.jam; rw [if_pos hz]; rfl
 ·rw [decide_eq_true hz, if_pos rfl, treeF_leaf rfl]
  simp only [sxs, or1]
  unfold FP.jam; rw [if_neg hz]
  unfold rW oW
  rw [wd_odd, wd_odd, wd_odd]
theorem s_round_Rest (a b c d k : Int) (h0 : 0 ≤ i64 k) (h1 : i64 k ≤ 127) : F_round_Rest [a, b, c, d, k] = [((FP.restN (nW a b c d) (2 ^ (256 - (i64 k).toNat)) : Nat) : Int)] := by
 obtain ⟨n, hn, e, w0, w1, w2, w3⟩ := wide_in a b c d
 obtain ⟨m, hm⟩ : ∃ m : Nat, i64 k = (m : Int) := ⟨(i64 k).toNat, by omega⟩
 rw [F_round_Rest, t_round_Rest, treeF_ite]
 simp only [sxs, decide_eq_true_iff]
 rw [if_neg (by omega), treeF_ite]
 simp only [sxs, decide_eq_true_iff]
 rw [if_neg (by omega)]
 have e1 : i64 (255 - i64 k) = ((255 - m : Nat) : Int) := by rw [hm, i64_small (by omega) (by omega)]; omega
 have e2 : i64 ((255 - m : Nat) : Int) = ((255 - m : Nat) : Int) := i64_nat (by omega)
 refine (treeF_call (by simp only [sxs, ph_E2_shift_Lost, e1]; exact s_shift_Lost _ _ _ _ _ ) (by rfl)).trans ?_
 rw [nW_u, e, e2, toNat_c, treeF_leaf rfl]
 simp only [sxs, e1, fdiv64, and63, w2, w3, beq_iff_eq]
 have hm2 : m ≤ 127 := by omega
 have hsh : ((255 - m : Nat) : Int) / 64 = (((255 - m) / 64 : Nat) : Int) := by simp
 rw [hsh, bit_val n 2 ((255 - m) % 64) (Nat.mod_lt _ (by decide)), bit_val n 3 ((255 - m) % 64) (Nat.mod_lt _ (by decide))]
 have hb : (if (((255 - m) / 64 : Nat) : Int) = 2 then b2i (n.testBit (64 * 2 + (255 - m) % 64)) else b2i (n.testBit (64 * 3 + (255 - m) % 64))) = b2i (n.testBit (255 - m)) := by
  split
  ·congr 2; omega
  ·congr 2; omega
 rw [hb, iNz_b2i]
 have hE : 2 ^ (256 - (i64 k).toNat) = 2 ^ (255 - m) * 2 := by rw [hm, toNat_c, ← Nat.pow_succ]; congr 1; omega
 rw [hE]
 obtain ⟨r, _⟩ := FP.restN_half (N := n) (E := 2 ^ (255 - m) * 2) (Nat.mul_pos (FP.two_pow_pos _) (by decide))
 rw [r, Nat.mul_comm (2 ^ (255 - m)) 2, Nat.mul_div_mul_left _ _ (by decide), Nat.mul_mod_mul_left]
 rw [Nat.testBit_eq_decide_div_mod_eq]
 rcases Nat.mod_two_eq_zero_or_one (n / 2 ^ (255 - m)) with h2 | h2
 ·rw [h2]
  by_cases hz : n % 2 ^ (255 - m) = 0
  ·simp [hz]
  ·have h2z : ¬ 2 * (n % 2 ^ (255 - m)) = 0 := by omega
   rw [if_neg h2z]; simp [hz]
 ·rw [h2]
  by_cases hz : n % 2 ^ (255 - m) = 0
  ·simp [hz]
  ·have h2z : ¬ 2 * (n % 2 ^ (255 - m)) = 0 := by omega
   rw [if_neg h2z]; simp [hz]
theorem s_round_Cut (a b c d k m g : Int) (h0 : 0 ≤ i64 k) (h1 : i64 k ≤ 127) (hm : u8 m ≤ 4) :
  F_round_Cut [a, b, c, d, k, m, g] = oB (FP.rdiv (u8 m).toNat (iNz g) (nW a b c d) (2 ^ (256 - (i64 k).toNat))) ++ [b2i (decide (nW a b c d % 2 ^ (256 - (i64 k).toNat) ≠ 0))] := by
 have hn := nW_lt a b c d
 obtain ⟨j, hj⟩ : ∃ j : Nat, i64 k = (j : Int) := ⟨(i64 k).toNat, by omega⟩
 have hr8 := u8_rng m
 rw [F_round_Cut, t_round_Cut, treeF_ite]
 simp only [ev_bin, op_lss, ev_var_i, ev_lit, iNz_b2i, l_an, l_ca, l_na, l_mc, l_mn, getI_0, getI_s, decide_eq_true_iff]
 rw [if_neg (by omega), treeF_ite]
 simp only [ev_bin, op_gtr, ev_var_i, ev_lit, iNz_b2i, l_an, l_ca, l_na, l_mc, l_mn, getI_0, getI_s, decide_eq_true_iff]
 rw [if_neg (by omega), treeF_ite]
 simp only [ev_bin, ev_not, op_leq, ev_var_8, ev_lit, iNz_b2i, l_an, l_ca, l_na, l_mc, l_mn, getI_0, getI_s, Bool.not_eq_true', decide_eq_false_iff_not]
 rw [if_neg (by omega)]
 have e1 : i64 (256 - i64 k) = ((256 - j : Nat) : Int) := by rw [hj, i64_small (by omega) (by omega)]; omega
 have e2 : i64 ((256 - j : Nat) : Int) = ((256 - j : Nat) : Int) := i64_nat (by omega)
 rw [hj, toNat_c]
 have hj2 : j ≤ 127 := by omega
 generalize hN : nW a b c d = N at *
 have hq : N / 2 ^ (256 - j) < W128 := by
  rw [Nat.div_lt_iff_lt_mul (FP.two_pow_pos _), W128_pow, ← Nat.pow_add]
  rw [W256_pow] at hn
  exact Nat.lt_of_lt_of_le hn (Nat.pow_le_pow_right (by decide) (by omega))
 have hq1 : N / 2 ^ (256 - j) + 1 < W128 := by
  have : N / 2 ^ (256 - j) < 2 ^ 127 := by
   rw [Nat.div_lt_iff_lt_mul (FP.two_pow_pos _), ← Nat.pow_add]
   rw [W256_pow] at hn
   exact Nat.lt_of_lt_of_le hn (Nat.pow_le_pow_right (by decide) (by omega))
  rw [W128_val]; omega
 have hqW : N / 2 ^ (256 - j) < W256 := Nat.lt_of_le_of_lt (Nat.div_le_self _ _) hn
 refine (treeF_call (r := oW (N / 2 ^ (256 - j))) ?_ rfl).trans ?_
 ·simp only [sxs, ph_E3_shift_WideRight, e1]; rw [s_shift_WideRight, nW_u, hN, e2, toNat_c]; rfl
 refine (treeF_call (r := oB (N / 2 ^ (256 - j))) ?_ rfl).trans ?_
 ·simp only [sxs, ph_E3_wide_Low]; rw [s_wide_Low, nW_small hqW]; rfl
 refine (treeF_call (r := [((FP.restN N (2 ^ (256 - j)) : Nat) : Int)]) ?_ rfl).trans ?_
 ·simp only [sxs, ph_E3_round_Rest]; rw [s_round_Rest _ _ _ _ _ (by rw [i64_i64, hj]; omega) (by rw [i64_i64, hj]; omega), nW_u, hN, i64_i64, hj, toNat_c]
 have hrest := FP.restN_le N (2 ^ (256 - j))
 have hz := FP.restN_zero N (2 ^ (256 - j))
 have u8r : u8 ((FP.restN N (2 ^ (256 - j)) : Nat) : Int) = ((FP.restN N (2 ^ (256 - j)) : Nat) : Int) := u8_id (by omega) (by omega)
 refine (treeF_call (r := [b2i (FP.upN (u8 m).toNat (iNz g) N (2 ^ (256 - j)))]) ?_ rfl).trans ?_
 ·simp only [sxs, ph_E3_mode_Next, fNext, wC_8, u8r]
  congr 2
  have hodd : (iOp .and .u64 (wd (N / 2 ^ (256 - j)) 0) 1 == 1) = FP.oddN (N / 2 ^ (256 - j)) := by
   rw [wd_cast, and1 _ (Nat.mod_lt _ W64_pos)]
   unfold FP.oddN
   rw [Nat.pow_zero, Nat.div_one, W64_val]
   generalize N / 2 ^ (256 - j) = y
   rw [Bool.eq_iff_iff, beq_iff_eq, Nat.beq_eq]
   omega
  rw [hodd]
  unfold FP.upN
  rcases Nat.eq_zero_or_pos (FP.restN N (2 ^ (256 - j))) with h | h
  ·rw [h]; rfl
  ·rw [nextB_N hr8.1 (by omega) (by omega), toNat_c]
   rw [show Nat.beq (FP.restN N (2 ^ (256 - j))) 0 = false by cases hb : Nat.beq (FP.restN N (2 ^ (256 - j))) 0 with
    | false => rfl
    | true => have := Nat.eq_of_beq_eq_true hb; omega]
   rfl
 rw [treeF_ite]
 simp only [ev_var_b, l_an, l_ca, l_na, l_mc, l_mn, getI_0, getI_s, oW, oB, iNz_b2i]
 have hne : ((((FP.restN N (2 ^ (256 - j)) : Nat) : Int) != 0) : Bool) = decide (N % 2 ^ (256 - j) ≠ 0) := by
  rw [Bool.eq_iff_iff, bne_iff_ne, decide_eq_true_iff]; omega
 unfold FP.rdiv
 cases hu : FP.upN (u8 m).toNat (iNz g) N (2 ^ (256 - j)) with
 | true =>
  rw [if_pos rfl]
  have l1 : F_word_Add [wd (N / 2 ^ (256 - j)) 1, wd (N / 2 ^ (256 - j)) 0, 0, 1] = [wd (N / 2 ^ (256 - j) + 1) 1, wd (N / 2 ^ (256 - j) + 1) 0, 0] := by
   have := s_Add' (N / 2 ^ (256 - j)) 1 hq1
   rw [wd1.1, wd1.2] at this; exact this
  refine (treeF_call (by simp only [sxs, ph_E3_word_Add]; exact l1) (by rfl)).trans ?_
  rw [treeF_leaf rfl]
  simp only [sxs, u8r, hne]; rfl
 | false =>
  rw [if_neg (by decide), treeF_leaf rfl]
  simp only [sxs, u8r, hne]; rfl
theorem s_format_Nought (f n : Int) : F_format_Nought [f, n] = oB (if fN f < 4 then FP.mk (fN f) (iNz n) 0 else 0) := by
 refine Eq.trans ?_ (rB_eq _)
 rw [F_format_Nought, t_format_Nought]
 refine (treeF_call (by simp only [sxs, ph_E3_format_Make]; exact s_format_Make _ _ _ _ _) (by rfl)).trans ?_
 rw [fN_u, treeF_leaf rfl]
 simp only [sxs, show nB 0 0 = 0 by decide, show i64 0 = 0 by decide]
 unfold makeN
 simp only [Nat.zero_mod, Nat.zero_mul, Nat.add_zero, Int.lt_irrefl, false_or, show ¬ ((0 : Int) > 1048576) by decide, if_false, Int.toNat_zero]
 rfl
theorem inf_field {f : Nat} (h : f < 4) : (2 * FP.fE f + 1) % 2 ^ (FP.fW f - FP.fP f) = 2 * FP.fE f + 1 ∧ 2 * FP.fE f % 2 ^ (FP.fW f - FP.fP f) = 2 * FP.fE f := by
 rcases FP.f4 h with rfl | rfl | rfl | rfl <;> decide
theorem mul2 (e : Int) (h0 : 0 ≤ e) (h1 : e ≤ 1000000) : iOp .mul .i64 2 e = 2 * e := by
 show IntKind.i64.wrap (2 * e) = 2 * e
 rw [w64_i]; exact i64_id (by omega) (by omega)
theorem make_inf {f : Nat} (h : f < 4) (neg : Bool) (frac : Nat) : makeN f neg ((2 * FP.fE f + 1 : Nat) : Int) frac = FP.mk f neg (FP.inf f + frac % 2 ^ (FP.fP f - 1)) := by
 have hl := fE_le f
 unfold makeN
 rw [if_neg (by omega), toNat_c, (inf_field h).1]; rfl
theorem inf_gt {f : Nat} (h : f < 4) : 2 ^ (FP.fP f - 1) ≤ FP.inf f ∧ FP.inf f + 2 ^ (FP.fP f - 2) < 2 ^ (FP.fW f - 1) ∧ 2 ^ (FP.fP f - 2) < 2 ^ (FP.fP f - 1) ∧ 2 ^ (FP.fP f - 1) = 2 * 2 ^ (FP.fP f - 2) := by
 rcases FP.f4 h with rfl | rfl | rfl | rfl <;> decide
theorem inf_lt {f : Nat} (h : f < 4) : FP.inf f < 2 ^ (FP.fW f - 1) := by have := inf_gt h; omega
theorem s_format_Inf (f n : Int) : F_format_Inf [f, n] = oB (if fN f < 4 then FP.mk (fN f) (iNz n) (FP.inf (fN f)) else 0) := by
 refine Eq.trans ?_ (rB_eq _)
 have hl := fE_le (fN f)
 rw [F_format_Inf, t_format_Inf]
 refine (treeF_call (by simp only [sxs, ph_E3_format_Emax]; exact s_format_Emax _) (by rfl)).trans ?_
 rw [fN_u]
 have e1 : i64 (iOp .mul .i64 2 (FP.fE (fN f) : Int) + 1) = ((2 * FP.fE (fN f) + 1 : Nat) : Int) := by rw [mul2 _ (by omega) (by omega), i64_id (by omega) (by omega)]; omega
 refine (treeF_call (by simp only [sxs, ph_E3_format_Make, i64_fE, e1]; exact s_format_Make _ _ _ _ _ ) (by rfl)).trans ?_
 rw [fN_u, treeF_leaf rfl, i64_nat (by omega)]
 simp only [sxs, show nB 0 0 = 0 by decide]
 by_cases hf : fN f < 4
 ·rw [if_pos hf, if_pos hf, make_inf hf, Nat.zero_mod, Nat.add_zero]; rfl
 ·rw [if_neg hf, if_neg hf]; rfl
theorem s_format_Max (f n : Int) : F_format_Max [f, n] = oB (if fN f < 4 then FP.mk (fN f) (iNz n) (FP.inf (fN f) - 1) else 0) := by
 refine Eq.trans ?_ (rB_eq _)
 have hl := fE_le (fN f)
 rw [F_format_Max, t_format_Max]
 refine (treeF_call (by simp only [sxs, ph_E3_format_Emax]; exact s_format_Emax _) (by rfl)).trans ?_
 rw [fN_u]
 have e1 : iOp .mul .i64 2 (FP.fE (fN f) : Int) = ((2 * FP.fE (fN f) : Nat) : Int) := by rw [mul2 _ (by omega) (by omega)]; omega
 refine (treeF_call (by simp only [sxs, ph_E3_format_Make, i64_fE, e1]; exact s_format_Make _ _ _ _ _ ) (by rfl)).trans ?_
 rw [fN_u, treeF_leaf rfl, i64_nat (by omega)]
 simp only [sxs]
 by_cases hf : fN f < 4
 ·rw [if_pos hf, if_pos hf]
  have e : makeN (fN f) (iNz n) ((2 * FP.fE (fN f) : Nat) : Int) (nB 18446744073709551615 18446744073709551615) = FP.mk (fN f) (iNz n) (FP.inf (fN f) - 1) := by
   unfold makeN
   rw [if_neg (by omega), toNat_c, (inf_field hf).2]
   unfold FP.inf FP.infC
   have hall : nB 18446744073709551615 18446744073709551615 % 2 ^ (FP.fP (fN f) - 1) = 2 ^ (FP.fP (fN f) - 1) - 1 := by
    rcases FP.f4 hf with h | h | h | h <;> rw [h] <;> decide
   rw [hall, Nat.add_mul, Nat.one_mul]
   have := FP.two_pow_pos (FP.fP (fN f) - 1)
   congr 1
   omega
  rw [e]; rfl
 ·rw [if_neg hf, if_neg hf]; rfl
theorem s_format_Split (f a b : Int) : F_format_Split [f, a, b] = (if fN f < 4 then [b2i (FP.sgn (fN f) (nB a b)), ((FP.cod (fN f) (nB a b) / 2 ^ (FP.fP (fN f) - 1) : Nat) : Int)] ++ oB (FP.cod (fN f) (nB a b) % 2 ^ (FP.fP (fN f) - 1)) else [0, 0, 0, 0]) := by
 rw [F_format_Split, t_format_Split]
 have hW := i64_fW (fN f)
 have hP := i64_fP (fN f)
 refine (treeF_call (by simp only [sxs, ph_E3_format_of]; exact s_format_of _) (by rfl)).trans ?_
 rw [fN_u, treeF_ite]
 simp only [sxs, hW, beq_iff_eq]
 by_cases hf : ¬ fN f < 4
 ·have : FP.fW (fN f) = 0 := by
   obtain ⟨m, hm⟩ : ∃ m, fN f = m + 4 := ⟨fN f - 4, by omega⟩
   rw [hm]; rfl
  rw [if_pos (by rw [this]; rfl), treeF_leaf rfl, if_neg hf]; rfl
 have hf := Classical.not_not.1 hf
 obtain ⟨h1, h2, h3, h4, h5, _, _, h8⟩ := fmt_nums hf
 rw [if_neg (by omega), if_pos hf]
 have eW : i64 ((FP.fW (fN f) : Int) - (FP.fP (fN f) : Int)) = ((FP.fW (fN f) - FP.fP (fN f) : Nat) : Int) := i64_sub (by omega) (by omega)
 have eP : i64 ((FP.fP (fN f) : Int) - 1) = ((FP.fP (fN f) - 1 : Nat) : Int) := i64_sub (b := 1) (by omega) (by omega)
 have eS : i64 ((FP.fW (fN f) : Int) - 1) = ((FP.fW (fN f) - 1 : Nat) : Int) := i64_sub (b := 1) (by omega) (by omega)
 obtain ⟨z, hz, ez, hc, hd⟩ := bits_in a b
 have hcut := mod_lt128 z (show FP.fW (fN f) ≤ 128 by omega)
 rw [ez]
 refine (treeF_call (r := oB (z % 2 ^ FP.fW (fN f))) ?_ rfl).trans ?_
 ·simp only [sxs, ph_E3_format_Cut]; rw [s_format_Cut, nB_u, ez, fN_u]; rfl
 refine (treeF_call (by simp only [sxs, ph_E3_shift_Right, hP, eP]; exact s_Right' _ hcut (by omega) ) (by rfl)).trans ?_
 have eS2 : i64 ((FP.fW (fN f) - 1 : Nat) : Int) = ((FP.fW (fN f) - 1 : Nat) : Int) := i64_nat (by omega)
 refine (treeF_call (r := [b2i (FP.sgn (fN f) z)]) ?_ rfl).trans ?_
 ·simp only [sxs, ph_E3_word_Bit, hW, eS]
  rw [s_word_Bit, nB_u, ez, eS2, bitB_nat]; rfl
 have hq : z % 2 ^ FP.fW (fN f) / 2 ^ (FP.fP (fN f) - 1) < W128 := Nat.lt_of_le_of_lt (Nat.div_le_self _ _) hcut
 refine (treeF_call (by simp only [sxs, ph_E3_format_low, hW, hP, eW]; exact s_low' _ hq (by omega) ) (by rfl)).trans ?_
 refine (treeF_call (by simp only [sxs, ph_E3_format_low, hP, eP, hc, hd]; exact s_low' _ hz (by omega) ) (by rfl)).trans ?_
 rw [treeF_leaf rfl]
 simp only [sxs]
 have hcod : z % 2 ^ FP.fW (fN f) / 2 ^ (FP.fP (fN f) - 1) % 2 ^ (FP.fW (fN f) - FP.fP (fN f)) = FP.cod (fN f) z / 2 ^ (FP.fP (fN f) - 1) := by
  unfold FP.cod
  have e1 : 2 ^ (FP.fW (fN f) - 1) = 2 ^ (FP.fP (fN f) - 1) * 2 ^ (FP.fW (fN f) - FP.fP (fN f)) := by rw [← Nat.pow_add]; congr 1; omega
  have e2 : 2 ^ FP.fW (fN f) = 2 ^ (FP.fP (fN f) - 1) * 2 ^ (FP.fW (fN f) - FP.fP (fN f)) * 2 := by rw [← e1, ← Nat.pow_succ]; congr 1; omega
  rw [e1, Nat.mod_mul_right_div_self, e2, Nat.mul_assoc, Nat.mod_mul_right_div_self, Nat.mod_mul_right_mod]
 have hfrac : z % 2 ^ (FP.fP (fN f) - 1) = FP.cod (fN f) z % 2 ^ (FP.fP (fN f) - 1) := by
  unfold FP.cod
  have e1 : 2 ^ (FP.fW (fN f) - 1) = 2 ^ (FP.fP (fN f) - 1) * 2 ^ (FP.fW (fN f) - FP.fP (fN f)) := by rw [← Nat.pow_add]; congr 1; omega
  rw [e1, Nat.mod_mul_right_mod]
 have hsm : z % 2 ^ FP.fW (fN f) / 2 ^ (FP.fP (fN f) - 1) % 2 ^ (FP.fW (fN f) - FP.fP (fN f)) < 32768 := by
  refine Nat.lt_of_lt_of_le (Nat.mod_lt _ (FP.two_pow_pos _)) ?_
  exact (show 2 ^ (FP.fW (fN f) - FP.fP (fN f)) ≤ 2 ^ 15 from Nat.pow_le_pow_right (by decide) h8)
 have hw0 : wd (z % 2 ^ FP.fW (fN f) / 2 ^ (FP.fP (fN f) - 1) % 2 ^ (FP.fW (fN f) - FP.fP (fN f))) 0 = ((z % 2 ^ FP.fW (fN f) / 2 ^ (FP.fP (fN f) - 1) % 2 ^ (FP.fW (fN f) - FP.fP (fN f)) : Nat) : Int) := by
  rw [wd_cast, Nat.pow_zero, Nat.div_one, Nat.mod_eq_of_lt (by rw [W64_val]; omega)]
 rw [hw0, i64_nat (by omega), hcod, ← hfrac]
end Go.Proofs.YtkfbdlidigmfbaaGreatDoor
namespace Go.Proofs.YtkfbdlidigmfbaaGreatDoor
set_option linter.unusedVariables false
set_option linter.unusedSimpArgs false
set_option maxRecDepth 100000
open Go.RowKit
theorem u8_lt4 (f : Int) : (u8 f < 4) ↔ fN f < 4 := by have := u8_rng f; unfold fN; omega
theorem clsC_u8 (f c : Nat) : u8 (FP.clsC f c : Int) = FP.clsC f c := u8_id (by omega) (by have := FP.clsC_le f c; omega)
theorem bit_top {c H K i : Nat} (hp0 : 0 < K) (hH : H = 2 * K) (hcm : c = i + c % H) (hl : c % H < H) : c % H / K % 2 = 1 ↔ i + K ≤ c := by
 generalize c % H = r at *
 have h2 : r / K < 2 := by rw [Nat.div_lt_iff_lt_mul hp0]; omega
 have h1 : 1 ≤ r / K ↔ K ≤ r := by rw [Nat.le_div_iff_mul_le hp0, Nat.one_mul]
 generalize r / K = y at *
 omega
theorem s_class_Of (f a b : Int) : F_class_Of [f, a, b] = if fN f < 4 then [((FP.cls (fN f) (nB a b) : Nat) : Int), b2i (FP.sgn (fN f) (nB a b))] else [0, 0] := by
 rw [F_class_Of, t_class_Of, treeF_ite]
 simp only [sxs, Bool.not_eq_true', decide_eq_false_iff_not, u8_lt4]
 by_cases hf : ¬ fN f < 4
 ·rw [if_pos hf, if_neg hf, treeF_leaf rfl]; rfl
 rw [if_neg hf]
 have hf := Classical.not_not.1 hf
 rw [if_pos hf]
 obtain ⟨n1, n2, n3, n4, n5, n6, n7, n8, n9⟩ := FP.fmtN hf
 have hcl := FP.cod_lt (fN f) (nB a b)
 refine (treeF_call (r := [b2i (FP.sgn (fN f) (nB a b)), ((FP.cod (fN f) (nB a b) / 2 ^ (FP.fP (fN f) - 1) : Nat) : Int)] ++ oB (FP.cod (fN f) (nB a b) % 2 ^ (FP.fP (fN f) - 1))) ?_ rfl).trans ?_
 ·simp only [sxs, ph_E4_format_Split]; rw [s_format_Split, fN_u, if_pos hf, nB_u]; rfl
 unfold FP.cls
 generalize FP.sgn (fN f) (nB a b) = s
 generalize FP.cod (fN f) (nB a b) = c at *
 generalize hH : 2 ^ (FP.fP (fN f) - 1) = H at *
 have hH0 : 0 < H := by rw [← hH]; exact FP.two_pow_pos _
 have hHW : H ≤ W128 := by rw [← hH]; exact pow_le128 (by omega)
 have hfr : c % H < W128 := Nat.lt_of_lt_of_le (Nat.mod_lt _ hH0) hHW
 refine (treeF_call (r := [b2i (decide (c % H = 0))]) ?_ rfl).trans ?_
 ·simp only [sxs, ph_E4_word_Zero]; rw [s_word_Zero, nB_small hfr]
 refine (treeF_call (by simp only [sxs, ph_E4_format_Emax]; exact s_format_Emax _) (by rfl)).trans ?_
 rw [fN_u]
 have hc128 : c / H < 1000000 := by
  rw [Nat.div_lt_iff_lt_mul hH0]
  have e1 : 2 ^ (FP.fW (fN f) - 1) = 2 ^ (FP.fW (fN f) - FP.fP (fN f)) * H := by rw [← hH, ← Nat.pow_add]; congr 1; omega
  rw [e1] at hcl
  refine Nat.lt_of_lt_of_le hcl (Nat.mul_le_mul_right _ ?_)
  rw [← n9]; omega
 have htop : 2 ^ (FP.fW (fN f) - 1) = FP.inf (fN f) + H := by rw [← hH]; exact FP.inf_top hf
 have hinf : FP.inf (fN f) = (2 * FP.fE (fN f) + 1) * H := by rw [← hH]; rfl
 have hdm := Nat.div_add_mod c H
 have hml := Nat.mod_lt c hH0
 have e1 : i64 ((c / H : Nat) : Int) = ((c / H : Nat) : Int) := i64_nat (by omega)
 have e2 : i64 (iOp .mul .i64 2 (FP.fE (fN f) : Int) + 1) = ((2 * FP.fE (fN f) + 1 : Nat) : Int) := by rw [mul2 _ (by omega) (by omega), i64_id (by omega) (by omega)]; omega
 rw [treeF_ite]
 simp only [sxs, e1, beq_iff_eq]
 have cls0 : c = 0 → FP.clsC (fN f) c = 0 := fun h => by unfold FP.clsC; rw [if_pos h]
 have cls1 : c ≠ 0 → c < H → FP.clsC (fN f) c = 1 := fun h h2 => by unfold FP.clsC; rw [if_neg h, hH, if_pos h2]
 have cls2 : c ≠ 0 → ¬ c < H → c < FP.inf (fN f) → FP.clsC (fN f) c = 2 := fun h h2 h3 => by unfold FP.clsC; rw [if_neg h, hH, if_neg h2, if_pos h3]
 have cls3 : c ≠ 0 → ¬ c < H → c = FP.inf (fN f) → FP.clsC (fN f) c = 3 := fun h h2 h3 => by unfold FP.clsC; rw [if_neg h, hH, if_neg h2, if_neg (by omega), if_pos h3]
 have cls45 : c ≠ 0 → ¬ c < H → ¬ c < FP.inf (fN f) → c ≠ FP.inf (fN f) → FP.clsC (fN f) c = if FP.inf (fN f) + 2 ^ (FP.fP (fN f) - 2) ≤ c then 4 else 5 := fun h h2 h3 h4 => by unfold FP.clsC; rw [if_neg h, hH, if_neg h2, if_neg h3, if_neg h4]
 by_cases hz : c / H = 0
 ·rw [if_pos (by omega), treeF_ite]
  simp only [sxs, decide_eq_true_iff]
  have hlt : c < H := (Nat.div_eq_zero_iff_lt hH0).1 hz
  have hcm : c % H = c := Nat.mod_eq_of_lt hlt
  rw [hcm]
  by_cases h0 : c = 0
  ·rw [if_pos h0]; rw [treeF_leaf rfl, show FP.clsC (fN f) c = 0 from cls0 h0]; (simp only [sxs]) <;> rfl
  ·rw [if_neg h0]; rw [treeF_leaf rfl, show FP.clsC (fN f) c = 1 from cls1 h0 hlt]; (simp only [sxs]) <;> rfl
 ·have hge : ¬ c < H := fun h => hz (Nat.div_eq_of_lt h)
  have h0 : c ≠ 0 := by omega
  rw [if_neg (by omega), treeF_ite]
  simp only [sxs, e1, i64_fE, e2, decide_eq_true_iff]
  have hcmp : (((c / H : Nat) : Int) < ((2 * FP.fE (fN f) + 1 : Nat) : Int)) ↔ c < FP.inf (fN f) := by
   rw [hinf, ← Nat.div_lt_iff_lt_mul hH0]; omega
  by_cases h1 : c < FP.inf (fN f)
  ·rw [if_pos (hcmp.2 h1)]; rw [treeF_leaf rfl, show FP.clsC (fN f) c = 2 from cls2 h0 hge h1]; (simp only [sxs]) <;> rfl
  ·rw [if_neg (fun h => h1 (hcmp.1 h)), treeF_ite]
   simp only [sxs, decide_eq_true_iff]
   have hq : c / H = 2 * FP.fE (fN f) + 1 := by
    apply Nat.le_antisymm
    ·have : c / H < 2 * FP.fE (fN f) + 2 := by
      rw [Nat.div_lt_iff_lt_mul hH0, show (2 * FP.fE (fN f) + 2) * H = FP.inf (fN f) + H by rw [hinf, ← Nat.succ_mul], ← htop]; exact hcl
     omega
    ·rw [Nat.le_div_iff_mul_le hH0, ← hinf]; omega
   have hcm : c = FP.inf (fN f) + c % H := by rw [hinf, ← hq, Nat.mul_comm]; exact hdm.symm
   by_cases h2 : c % H = 0
   ·rw [if_pos h2]; rw [treeF_leaf rfl, show FP.clsC (fN f) c = 3 from cls3 h0 hge (by omega)]; (simp only [sxs]) <;> rfl
   ·rw [if_neg h2]
    have c45 := cls45 h0 hge h1 (by omega)
    refine (treeF_call (by simp only [sxs, ph_E4_format_Prec]; exact s_format_Prec _) (by rfl)).trans ?_
    rw [fN_u]
    have eP : i64 ((FP.fP (fN f) : Int) - 2) = ((FP.fP (fN f) - 2 : Nat) : Int) := i64_sub (b := 2) (by omega) (by omega)
    have hHH : H = 2 * 2 ^ (FP.fP (fN f) - 2) := by rw [← hH, ← Nat.pow_succ']; congr 1; omega
    have hbit : (c % H).testBit (FP.fP (fN f) - 2) = decide (FP.inf (fN f) + 2 ^ (FP.fP (fN f) - 2) ≤ c) := by
     rw [Nat.testBit_eq_decide_div_mod_eq, decide_eq_decide]
     have hp0 := FP.two_pow_pos (FP.fP (fN f) - 2)
     exact bit_top hp0 hHH hcm (Nat.mod_lt c hH0)
    refine (treeF_call (r := [b2i (decide (FP.inf (fN f) + 2 ^ (FP.fP (fN f) - 2) ≤ c))]) ?_ rfl).trans ?_
    ·simp only [sxs, ph_E4_word_Bit, i64_fP, eP]
     rw [s_word_Bit, nB_small hfr, i64_nat (by omega), bitB_nat, hbit]
    rw [treeF_ite]
    simp only [sxs, decide_eq_true_iff]
    by_cases h3 : FP.inf (fN f) + 2 ^ (FP.fP (fN f) - 2) ≤ c
    ·rw [if_pos h3]; rw [treeF_leaf rfl, show FP.clsC (fN f) c = 4 by rw [c45, if_pos h3]]; (simp only [sxs]) <;> rfl
    ·rw [if_neg h3]; rw [treeF_leaf rfl, show FP.clsC (fN f) c = 5 by rw [c45, if_neg h3]]; (simp only [sxs]) <;> rfl
def clsF (f b : Nat) : Nat := if f < 4 then FP.cls f b else 0
def sgnF (f b : Nat) : Bool := decide (f < 4) && FP.sgn f b
def codF (f b : Nat) : Nat := if f < 4 then FP.cod f b else 0
theorem s_Of' (f a b : Int) : F_class_Of [f, a, b] = [((clsF (fN f) (nB a b) : Nat) : Int), b2i (sgnF (fN f) (nB a b))] := by
 rw [s_class_Of]; unfold clsF sgnF
 by_cases hf : fN f < 4
 ·rw [if_pos hf, if_pos hf, decide_eq_true hf, Bool.true_and]
 ·rw [if_neg hf, if_neg hf, decide_eq_false hf]; rfl
theorem s_Split' (f a b : Int) : F_format_Split [f, a, b] = [b2i (sgnF (fN f) (nB a b)), ((codF (fN f) (nB a b) / 2 ^ (FP.fP (fN f) - 1) : Nat) : Int)] ++ oB (codF (fN f) (nB a b) % 2 ^ (FP.fP (fN f) - 1)) := by
 rw [s_format_Split]; unfold codF sgnF
 by_cases hf : fN f < 4
 ·rw [if_pos hf, if_pos hf, decide_eq_true hf, Bool.true_and]
 ·rw [if_neg hf, if_neg hf, decide_eq_false hf, Nat.zero_div, Nat.zero_mod]; rfl
theorem clsF_u8 (f b : Nat) : u8 (clsF f b : Int) = clsF f b := by unfold clsF; split
                                                                   · exact clsC_u8 _ _
                                                                   · rfl
theorem s_class_NaN (f a b : Int) : F_class_NaN [f, a, b] = [b2i (decide (4 ≤ clsF (fN f) (nB a b)))] := by
 rw [F_class_NaN, t_class_NaN]
 refine (treeF_call (by simp only [sxs, ph_E5_class_Of]; exact s_Of' _ _ _) (by rfl)).trans ?_
 rw [fN_u, nB_u, treeF_leaf rfl]
 simp only [sxs, clsF_u8]
 congr 2
 rw [decide_eq_decide]; omega
theorem s_class_Signaling (f a b : Int) : F_class_Signaling [f, a, b] = [b2i (decide (clsF (fN f) (nB a b) = 5))] := by
 rw [F_class_Signaling, t_class_Signaling]
 refine (treeF_call (by simp only [sxs, ph_E5_class_Of]; exact s_Of' _ _ _) (by rfl)).trans ?_
 rw [fN_u, nB_u, treeF_leaf rfl]
 simp only [sxs, clsF_u8]
 congr 2
 rw [Bool.eq_iff_iff, beq_iff_eq, decide_eq_true_iff]; omega
theorem cod_field {f c : Nat} (hf : f < 4) (hcl : c < 2 ^ (FP.fW f - 1)) : c / 2 ^ (FP.fP f - 1) < 2 ^ (FP.fW f - FP.fP f) ∧ c / 2 ^ (FP.fP f - 1) < 1000000 := by
 obtain ⟨n1, n2, n3, n4, n5, n6, n7, n8, n9⟩ := FP.fmtN hf
 have hq : c / 2 ^ (FP.fP f - 1) < 2 ^ (FP.fW f - FP.fP f) := by
  rw [Nat.div_lt_iff_lt_mul (FP.two_pow_pos _), ← Nat.pow_add, show FP.fW f - FP.fP f + (FP.fP f - 1) = FP.fW f - 1 by omega]; exact hcl
 refine ⟨hq, ?_⟩
 rw [← n9] at hq
 generalize c / 2 ^ (FP.fP f - 1) = q at *
 omega
end Go.Proofs.YtkfbdlidigmfbaaGreatDoor
namespace Go.Proofs.YtkfbdlidigmfbaaGreatDoor
set_option linter.unusedVariables false
set_option linter.unusedSimpArgs false
set_option maxRecDepth 100000
open Go.RowKit
theorem len_N (n : Nat) : len n = FP.lenN n := rfl
theorem raise_N (k n : Nat) (h : n ≠ 0) : raiseBy k n = k - FP.lenN n := by unfold raiseBy; rw [if_neg h, len_N]
theorem s_nan_Default (f : Int) : F_nan_Default [f] = oB (if fN f < 4 then FP.mk (fN f) false (FP.inf (fN f) + 2 ^ (FP.fP (fN f) - 2)) else 0) := by
 refine Eq.trans ?_ (rB_eq _)
 have hl := fE_le (fN f)
 rw [F_nan_Default, t_nan_Default]
 refine (treeF_call (by simp only [sxs, ph_E3_format_Emax]; exact s_format_Emax _) (by rfl)).trans ?_
 refine (treeF_call (by simp only [sxs, ph_E3_format_Prec]; exact s_format_Prec _) (by rfl)).trans ?_
 rw [fN_u]
 by_cases hf : fN f < 4
 ·obtain ⟨n1, n2, n3, n4, n5, n6, n7, n8, n9⟩ := FP.fmtN hf
  have eP : i64 ((FP.fP (fN f) : Int) - 2) = ((FP.fP (fN f) - 2 : Nat) : Int) := i64_sub (b := 2) (by omega) (by omega)
  have hK : 1 * 2 ^ (FP.fP (fN f) - 2) < W128 := by
   rw [Nat.one_mul, W128_pow]; exact Nat.pow_lt_pow_right (by decide) (by omega)
  have l1 : F_shift_Left [0, 1, ((FP.fP (fN f) - 2 : Nat) : Int)] = oB (1 * 2 ^ (FP.fP (fN f) - 2)) := by
   have := s_Left' 1 (k := FP.fP (fN f) - 2) (by decide) (by omega) hK
   rw [wd1.1, wd1.2] at this; exact this
  refine (treeF_call (by simp only [sxs, ph_E3_shift_Left, i64_fP, eP]; exact l1) (by rfl)).trans ?_
  have e1 : i64 (iOp .mul .i64 2 (FP.fE (fN f) : Int) + 1) = ((2 * FP.fE (fN f) + 1 : Nat) : Int) := by rw [mul2 _ (by omega) (by omega), i64_id (by omega) (by omega)]; omega
  refine (treeF_call (r := oB (FP.mk (fN f) false (FP.inf (fN f) + 2 ^ (FP.fP (fN f) - 2)))) ?_ rfl).trans ?_
  ·simp only [sxs, ph_E3_format_Make, i64_fE, e1]
   rw [s_format_Make, fN_u, if_pos hf, nB_small hK, i64_nat (by omega), show iNz 0 = false from rfl, make_inf hf, Nat.one_mul, Nat.mod_eq_of_lt (inf_gt hf).2.2.1, oB_eq]
  rw [treeF_leaf rfl]
  simp only [sxs, if_pos hf]; rfl
 ·rw [if_neg hf]
  refine (treeF_call (by simp only [sxs, ph_E3_shift_Left]; exact s_shift_Left _ _ _) (by rfl)).trans ?_
  refine (treeF_call (by simp only [sxs, ph_E3_format_Make]; exact s_format_Make _ _ _ _ _) (by rfl)).trans ?_
  rw [fN_u, if_neg hf, treeF_leaf rfl]; rfl
theorem s_over_Over (f m n : Int) (hf : fN f < 4) (hm : u8 m ≤ 4) : F_over_Over [f, m, n] = oB (FP.mk (fN f) (iNz n) (FP.overC (FP.fP (fN f)) (FP.fE (fN f)) (u8 m).toNat (iNz n))) ++ [20] := by
 have hf2 := (u8_lt4 f).2 hf
 rw [F_over_Over, t_over_Over, treeF_ite]
 simp only [ev_bin, ev_not, op_lss, ev_var_8, ev_lit, iNz_b2i, l_an, l_ca, l_na, l_mc, l_mn, getI_0, getI_s, Bool.not_eq_true', decide_eq_false_iff_not]
 rw [if_neg (by omega), treeF_ite]
 simp only [ev_bin, ev_not, op_leq, ev_var_8, ev_lit, iNz_b2i, l_an, l_ca, l_na, l_mc, l_mn, getI_0, getI_s, Bool.not_eq_true', decide_eq_false_iff_not]
 rw [if_neg (by omega)]
 refine (treeF_call (by simp only [sxs, ph_E4_mode_Infinite]; exact s_mode_Infinite _ _) (by rfl)).trans ?_
 rw [u8_u8, iNz_b2i, treeF_ite]
 simp only [sxs]
 unfold FP.overC
 cases hi : FP.nextN (u8 m).toNat (iNz n) true 3 with
 | true =>
  rw [if_pos rfl, if_pos rfl]
  refine (treeF_call (by simp only [sxs, ph_E4_format_Inf]; exact s_format_Inf _ _) (by rfl)).trans ?_
  rw [fN_u, if_pos hf, iNz_b2i, treeF_leaf rfl]
  simp only [sxs]; rfl
 | false =>
  rw [if_neg (by decide), if_neg (by decide)]
  refine (treeF_call (by simp only [sxs, ph_E4_format_Max]; exact s_format_Max _ _) (by rfl)).trans ?_
  rw [fN_u, if_pos hf, iNz_b2i, treeF_leaf rfl]
  simp only [sxs]; rfl
theorem s_pack_put (f n e c d : Int) (hf : fN f < 4) : F_pack_put [f, n, e, c, d] = oB (makeN (fN f) (iNz n) (if i64 e = 0 ∧ (nB c d).testBit (FP.fP (fN f) - 1) = true then 1 else i64 e) (nB c d)) := by
 refine Eq.trans ?_ (rB_eq _)
 obtain ⟨n1, n2, n3, n4, n5, n6, n7, n8, n9⟩ := FP.fmtN hf
 have eP : i64 ((FP.fP (fN f) : Int) - 1) = ((FP.fP (fN f) - 1 : Nat) : Int) := i64_sub (b := 1) (by omega) (by omega)
 rw [F_pack_put, t_pack_put, treeF_ite]
 simp only [ev_bin, op_eql, ev_var_i, ev_lit, iNz_b2i, l_an, l_ca, l_na, l_mc, l_mn, getI_0, getI_s, beq_iff_eq]
 by_cases he : i64 e = 0
 ·rw [if_pos he]
  refine (treeF_call (by simp only [sxs, ph_E3_format_Prec]; exact s_format_Prec _) (by rfl)).trans ?_
  rw [fN_u]
  refine (treeF_call (r := [b2i ((nB c d).testBit (FP.fP (fN f) - 1))]) ?_ rfl).trans ?_
  ·simp only [sxs, ph_E3_word_Bit, i64_fP, eP]; rw [s_word_Bit, nB_u, i64_nat (by omega), bitB_nat]
  rw [treeF_ite]
  simp only [sxs]
  cases hb : (nB c d).testBit (FP.fP (fN f) - 1) with
  | true =>
   rw [if_pos rfl, if_pos ⟨he, rfl⟩]
   refine (treeF_call (by simp only [sxs, ph_E3_format_Make]; exact s_format_Make _ _ _ _ _) (by rfl)).trans ?_
   rw [fN_u, if_pos hf, nB_u, iNz_b2i, show i64 1 = 1 by decide, treeF_leaf rfl]
   simp only [sxs]; rfl
  | false =>
   rw [if_neg (by decide), if_neg (by simp)]
   refine (treeF_call (by simp only [sxs, ph_E3_format_Make]; exact s_format_Make _ _ _ _ _) (by rfl)).trans ?_
   rw [fN_u, if_pos hf, nB_u, iNz_b2i, i64_i64, treeF_leaf rfl]
   simp only [sxs]; rfl
 ·rw [if_neg he, if_neg (fun h => he h.1)]
  refine (treeF_call (by simp only [sxs, ph_E3_format_Make]; exact s_format_Make _ _ _ _ _) (by rfl)).trans ?_
  rw [fN_u, if_pos hf, nB_u, iNz_b2i, i64_i64, treeF_leaf rfl]
  simp only [sxs]; rfl
def unE (f b : Nat) : Int := if clsF f b = 1 ∨ clsF f b = 2 then FP.unExp f (FP.cod f b) else 0
def unS (f b : Nat) : Nat := if clsF f b = 1 ∨ clsF f b = 2 then FP.unSig f (FP.cod f b) else 0
theorem cls_codes {f c : Nat} (hf : f < 4) : (FP.clsC f c = 1 ↔ 0 < c ∧ c < 2 ^ (FP.fP f - 1)) ∧ (FP.clsC f c = 2 ↔ ¬ c < 2 ^ (FP.fP f - 1) ∧ c < FP.inf f) := by
 have h := (inf_gt hf).1
 have hp := FP.two_pow_pos (FP.fP f - 1)
 unfold FP.clsC
 by_cases h0 : c = 0
 ·rw [if_pos h0]; omega
 rw [if_neg h0]
 by_cases h1 : c < 2 ^ (FP.fP f - 1)
 ·rw [if_pos h1]; omega
 rw [if_neg h1]
 by_cases h2 : c < FP.inf f
 ·rw [if_pos h2]; omega
 rw [if_neg h2]
 by_cases h3 : c = FP.inf f
 ·rw [if_pos h3]; omega
 rw [if_neg h3]
 split <;> omega
theorem un_lt (f b : Nat) : unS f b < W128 := by
 unfold unS
 split
 ·rename_i h
  have hf : f < 4 := by
   apply Classical.byContradiction; intro hf
   unfold clsF at h; rw [if_neg hf] at h; omega
  unfold clsF at h
  rw [if_pos hf] at h
  obtain ⟨c1, c2⟩ := cls_codes (c := FP.cod f b) hf
  have hin := (inf_gt hf).1
  have hp := FP.two_pow_pos (FP.fP f - 1)
  have hb : 0 < FP.cod f b ∧ FP.cod f b < FP.inf f := by
   rcases h with h | h
   ·have := c1.1 h; omega
   ·have := c2.1 h; omega
  rw [W128_pow]
  exact (FP.un_sig hf hb.1 hb.2).2
 ·exact W128_pos
theorem s_fields_Unpack (f a b : Int) : F_fields_Unpack [f, a, b] = [b2i (sgnF (fN f) (nB a b)), ((clsF (fN f) (nB a b) : Nat) : Int), unE (fN f) (nB a b)] ++ oB (unS (fN f) (nB a b)) := by
 rw [F_fields_Unpack, t_fields_Unpack]
 refine (treeF_call (by simp only [sxs, ph_E5_class_Of]; exact s_Of' _ _ _) (by rfl)).trans ?_
 rw [fN_u, nB_u]
 refine (treeF_call (by simp only [sxs, ph_E5_format_Prec]; exact s_format_Prec _) (by rfl)).trans ?_
 refine (treeF_call (by simp only [sxs, ph_E5_format_Emax]; exact s_format_Emax _) (by rfl)).trans ?_
 rw [fN_u]
 refine (treeF_call (by simp only [sxs, ph_E5_format_Split]; exact s_Split' _ _ _) (by rfl)).trans ?_
 rw [fN_u, nB_u, treeF_ite]
 simp only [sxs, clsF_u8, beq_iff_eq]
 by_cases hf : ¬ fN f < 4
 ·have h0 : clsF (fN f) (nB a b) = 0 := by unfold clsF; rw [if_neg hf]
  rw [h0, if_neg (by decide), treeF_ite]
  simp only [sxs, beq_iff_eq, show u8 ((0 : Nat) : Int) = 0 by decide]
  rw [if_neg (by decide), treeF_leaf rfl]
  unfold unE unS
  rw [h0, if_neg (by decide), if_neg (by decide)]
  simp only [sxs]; rfl
 have hf := Classical.not_not.1 hf
 obtain ⟨n1, n2, n3, n4, n5, n6, n7, n8, n9⟩ := FP.fmtN hf
 have hS : codF (fN f) (nB a b) = FP.cod (fN f) (nB a b) := by unfold codF; rw [if_pos hf]
 have hC : clsF (fN f) (nB a b) = FP.clsC (fN f) (FP.cod (fN f) (nB a b)) := by unfold clsF FP.cls; rw [if_pos hf]
 have hcl := FP.cod_lt (fN f) (nB a b)
 unfold unE unS
 rw [hS, hC]
 generalize FP.cod (fN f) (nB a b) = c at *
 obtain ⟨c1, c2⟩ := cls_codes (c := c) hf
 have hk5 := FP.clsC_le (fN f) c
 have hin := (inf_gt hf).1
 have hp0 := FP.two_pow_pos (FP.fP (fN f) - 1)
 have hfr : c % 2 ^ (FP.fP (fN f) - 1) < W128 := mod_lt128 _ (by omega)
 have hq2 := (cod_field hf hcl).2
 have e0 : u8 ((FP.clsC (fN f) c : Nat) : Int) = ((FP.clsC (fN f) c : Nat) : Int) := clsC_u8 _ _
 by_cases h2 : FP.clsC (fN f) c = 2
 ·rw [if_pos (by omega), if_pos (.inr h2), if_pos (.inr h2)]
  obtain ⟨hn, hlt⟩ := c2.1 h2
  have hs := FP.un_sig hf (by omega) hlt
  have hx := FP.un_exp hf hlt
  have e1 : i64 (128 - (FP.fP (fN f) : Int)) = ((128 - FP.fP (fN f) : Nat) : Int) := i64_sub (a := 128) (by omega) (by omega)
  have hpw : 2 ^ 128 = 2 ^ (FP.fP (fN f)) * 2 ^ (128 - FP.fP (fN f)) := by rw [← Nat.pow_add]; congr 1; omega
  have hpw2 : (2 : Nat) ^ 127 = 2 ^ (FP.fP (fN f) - 1) * 2 ^ (128 - FP.fP (fN f)) := by rw [← Nat.pow_add]; congr 1; omega
  have hh := FP.half_pow n1
  have hml := Nat.mod_lt c hp0
  have hq0 := FP.two_pow_pos (128 - FP.fP (fN f))
  have hb : c % 2 ^ (FP.fP (fN f) - 1) * 2 ^ (128 - FP.fP (fN f)) < 2 ^ 127 := by rw [hpw2]; exact Nat.mul_lt_mul_of_pos_right hml hq0
  have hbW : c % 2 ^ (FP.fP (fN f) - 1) * 2 ^ (128 - FP.fP (fN f)) < W128 := by rw [W128_val]; omega
  refine (treeF_call (by simp only [sxs, ph_E5_shift_Left, i64_fP, e1]; exact s_Left' _ hfr (by omega) hbW ) (by rfl)).trans ?_
  have l1 : F_word_Add [wd (c % 2 ^ (FP.fP (fN f) - 1) * 2 ^ (128 - FP.fP (fN f))) 1, wd (c % 2 ^ (FP.fP (fN f) - 1) * 2 ^ (128 - FP.fP (fN f))) 0, 9223372036854775808, 0] =
    [wd (c % 2 ^ (FP.fP (fN f) - 1) * 2 ^ (128 - FP.fP (fN f)) + 2 ^ 127) 1, wd (c % 2 ^ (FP.fP (fN f) - 1) * 2 ^ (128 - FP.fP (fN f)) + 2 ^ 127) 0, 0] := by
   have := s_Add' (c % 2 ^ (FP.fP (fN f) - 1) * 2 ^ (128 - FP.fP (fN f))) (2 ^ 127) (by rw [W128_val]; omega)
   rw [show wd (2 ^ 127) 1 = 9223372036854775808 by decide, show wd (2 ^ 127) 0 = 0 by decide] at this; exact this
  refine (treeF_call (by simp only [sxs, ph_E5_word_Add]; exact l1) (by rfl)).trans ?_
  rw [treeF_leaf rfl]
  have eS : c % 2 ^ (FP.fP (fN f) - 1) * 2 ^ (128 - FP.fP (fN f)) + 2 ^ 127 = FP.unSig (fN f) c := by
   unfold FP.unSig; rw [if_neg hn, hpw2, Nat.add_mul, Nat.add_comm]
  have eE : i64 (((c / 2 ^ (FP.fP (fN f) - 1) : Nat) : Int) - (FP.fE (fN f) : Int)) = FP.unExp (fN f) c := by
   unfold FP.unExp at hx ⊢; rw [if_neg hn] at hx ⊢
   exact i64_small' hx.1 hx.2
  have e5 : i64 ((c / 2 ^ (FP.fP (fN f) - 1) : Nat) : Int) = ((c / 2 ^ (FP.fP (fN f) - 1) : Nat) : Int) := i64_nat (by omega)
  rw [eS]
  simp only [sxs, e0, e5, i64_fE, eE]
 ·rw [if_neg (by omega), treeF_ite]
  simp only [sxs, e0, beq_iff_eq]
  by_cases h1 : FP.clsC (fN f) c = 1
  ·rw [if_pos (by omega), if_pos (.inl h1), if_pos (.inl h1)]
   obtain ⟨hpos, hlt⟩ := c1.1 h1
   have hx := FP.un_exp hf (show c < FP.inf (fN f) by omega)
   have hcm : c % 2 ^ (FP.fP (fN f) - 1) = c := Nat.mod_eq_of_lt hlt
   have hcW : c < W128 := by rw [← hcm]; exact hfr
   have hr := raise_N 128 c (by omega)
   have hle : raiseBy 128 c ≤ 128 := by rw [hr]; omega
   refine (treeF_call (r := oB (c * 2 ^ raiseBy 128 c) ++ [((raiseBy 128 c : Nat) : Int)]) ?_ rfl).trans ?_
   ·simp only [sxs, ph_E5_count_Raise, hcm]
    rw [s_count_Raise, nB_small hcW, oB_eq]; rfl
   rw [treeF_leaf rfl]
   have eS : c * 2 ^ raiseBy 128 c = FP.unSig (fN f) c := by unfold FP.unSig; rw [if_pos hlt, hr]
   have eE : i64 (i64 (i64 (i64 (1 - (FP.fE (fN f) : Int)) + 128) - (FP.fP (fN f) : Int)) - ((raiseBy 128 c : Nat) : Int)) = FP.unExp (fN f) c := by
    unfold FP.unExp at hx ⊢; rw [if_pos hlt] at hx ⊢
    rw [i64_small' (n := 1 - (FP.fE (fN f) : Int)) (by omega) (by omega), i64_small' (n := 1 - (FP.fE (fN f) : Int) + 128) (by omega) (by omega), i64_small' (n := 1 - (FP.fE (fN f) : Int) + 128 - (FP.fP (fN f) : Int)) (by omega) (by omega), hr]
    exact i64_small' hx.1 hx.2
   have e5 : i64 ((raiseBy 128 c : Nat) : Int) = ((raiseBy 128 c : Nat) : Int) := i64_nat (by omega)
   rw [eS]
   simp only [sxs, e0, e5, i64_fE, i64_fP, eE]
  ·rw [if_neg (by omega), if_neg (by omega), if_neg (by omega), treeF_leaf rfl]
   simp only [sxs, e0]; rfl
end Go.Proofs.YtkfbdlidigmfbaaGreatDoor
namespace Go.Proofs.YtkfbdlidigmfbaaGreatDoor
set_option linter.unusedVariables false
set_option linter.unusedSimpArgs false
set_option maxRecDepth 100000
open Go.RowKit
def goEnd (P E m : Nat) (neg after : Bool) (ne e : Int) (up b : Nat) : Nat × Nat :=
 if (E : Int) < e then (FP.overC P E m neg, 20) else
 let tiny := decide (ne < 1 - E) && (!after || decide (e < 1 - E))
 if ne < 1 - E then
  let w := FP.jam up (1 - E - ne).toNat
  (FP.rdiv m neg w (2 ^ (256 - P)), if w % 2 ^ (256 - P) = 0 then 0 else if tiny then 24 else 16)
 else ((ne - (1 - E)).toNat * 2 ^ (P - 1) + b, if up % 2 ^ (256 - P) = 0 then 0 else if tiny then 24 else 16)
theorem goRound_end {P E m : Nat} {after neg : Bool} {exp : Int} {sig : Nat} (h : sig ≠ 0) : FP.goRound P E m after neg exp sig =
  goEnd P E m neg after (exp - ((255 - Nat.log2 sig : Nat) : Int)) (if FP.rdiv m neg (sig * 2 ^ (255 - Nat.log2 sig)) (2 ^ (256 - P)) = 2 ^ P then exp - ((255 - Nat.log2 sig : Nat) : Int) + 1 else exp - ((255 - Nat.log2 sig : Nat) : Int)) (sig * 2 ^ (255 - Nat.log2 sig)) (FP.rdiv m neg (sig * 2 ^ (255 - Nat.log2 sig)) (2 ^ (256 - P))) := by
 unfold FP.goRound goEnd
 rw [if_neg h]
theorem goEnd_over {P E m : Nat} {neg after : Bool} {ne e : Int} {up b : Nat} (h : (E : Int) < e) : goEnd P E m neg after ne e up b = (FP.overC P E m neg, 20) := by unfold goEnd; rw [if_pos h]
theorem goEnd_far {P E m : Nat} {neg after : Bool} {ne e : Int} {up b j : Nat} (h : ¬ (E : Int) < e) (h2 : ne < 1 - E) (hj : 1 - (E : Int) - ne = (j : Int)) :
  goEnd P E m neg after ne e up b = (FP.rdiv m neg (FP.jam up j) (2 ^ (256 - P)), if FP.jam up j % 2 ^ (256 - P) = 0 then 0 else if (!after || decide (e < 1 - E)) then 24 else 16) := by
 unfold goEnd; rw [if_neg h, if_pos h2, hj, toNat_c, decide_eq_true h2, Bool.true_and]
theorem goEnd_hi {P E m : Nat} {neg after : Bool} {ne e : Int} {up b k : Nat} (h : ¬ (E : Int) < e) (h2 : ¬ ne < 1 - E) (hk : ne - (1 - (E : Int)) = (k : Int)) :
  goEnd P E m neg after ne e up b = (k * 2 ^ (P - 1) + b, if up % 2 ^ (256 - P) = 0 then 0 else 16) := by
 unfold goEnd; rw [if_neg h, if_neg h2, hk, toNat_c, decide_eq_false h2, Bool.false_and]; rfl
theorem put_low {f b : Nat} {neg : Bool} (hf : f < 4) (h : b ≤ 2 ^ (FP.fP f - 1)) : makeN f neg (if i64 0 = 0 ∧ b.testBit (FP.fP f - 1) = true then 1 else i64 0) b = FP.mk f neg b := by
 obtain ⟨n1, n2, n3, n4, n5, n6, n7, n8, n9⟩ := FP.fmtN hf
 have hp := FP.two_pow_pos (FP.fP f - 1)
 have e0 : i64 0 = 0 := by decide
 rw [e0, Nat.testBit_eq_decide_div_mod_eq]
 rcases Nat.eq_or_lt_of_le h with h | h
 ·subst h
  rw [if_pos ⟨rfl, by rw [Nat.div_self hp]; rfl⟩]
  unfold makeN
  rw [if_neg (by decide), show (1 : Int).toNat = 1 from rfl, Nat.mod_self, Nat.add_zero, Nat.mod_eq_of_lt (by omega), Nat.one_mul]
 ·rw [if_neg (by rw [Nat.div_eq_of_lt h]; decide)]
  unfold makeN
  rw [if_neg (by decide), show (0 : Int).toNat = 0 from rfl, Nat.zero_mod, Nat.zero_mul, Nat.zero_add, Nat.mod_eq_of_lt h]
theorem put_high {f b k : Nat} {neg : Bool} (hf : f < 4) (h1 : 2 ^ (FP.fP f - 1) ≤ b) (h2 : b ≤ 2 ^ FP.fP f) (t : Nat) (ht : t = if b = 2 ^ FP.fP f then 2 else 1) (hk : k + t < 2 * FP.fE f + 2) :
  makeN f neg (if ((k + t : Nat) : Int) = 0 ∧ b.testBit (FP.fP f - 1) = true then 1 else ((k + t : Nat) : Int)) b = FP.mk f neg (k * 2 ^ (FP.fP f - 1) + b) := by
 obtain ⟨n1, n2, n3, n4, n5, n6, n7, n8, n9⟩ := FP.fmtN hf
 have hp := FP.two_pow_pos (FP.fP f - 1)
 have hh := FP.half_pow n1
 have ht0 : 0 < t := by rw [ht]; split <;> omega
 rw [if_neg (fun h => by have := h.1; omega)]
 unfold makeN
 rw [if_neg (by omega), toNat_c, Nat.mod_eq_of_lt (by omega)]
 congr 1
 by_cases hb : b = 2 ^ FP.fP f
 ·rw [if_pos hb] at ht; subst ht
  rw [hb, hh, Nat.mul_mod_left, Nat.add_mul]; omega
 ·rw [if_neg hb] at ht; subst ht
  rw [Nat.mod_eq_sub_mod h1, Nat.mod_eq_of_lt (by omega), Nat.add_mul]; omega
def clipE (e : Int) : Int := max (-1099511627776) (min e 1099511627776)
theorem s_pack_Round (f m t n e a b c d : Int) (hf : fN f < 4) (hm : u8 m ≤ 4) : F_pack_Round [f, m, t, n, e, a, b, c, d] =
  oB (FP.mk (fN f) (iNz n) (FP.roundE (FP.fP (fN f)) (FP.fE (fN f)) (u8 m).toNat (iNz t) (iNz n) (clipE (i64 e)) (nW a b c d)).1) ++ [(((FP.roundE (FP.fP (fN f)) (FP.fE (fN f)) (u8 m).toNat (iNz t) (iNz n) (clipE (i64 e)) (nW a b c d)).2 : Nat) : Int)] := by
 obtain ⟨n1, n2, n3, n4, n5, n6, n7, n8, n9⟩ := FP.fmtN hf
 have hf2 := (u8_lt4 f).2 hf
 have hm0 := u8_rng m
 have hS := nW_lt a b c d
 rw [← FP.goRound_eq n1 (by omega) n6 (iNz t) (iNz n) (clipE (i64 e)) (by rw [← W256_pow]; exact hS)]
 rw [F_pack_Round, t_pack_Round, treeF_ite]
 simp only [l_an, l_ca, l_na, l_mc, l_mn, getI_0, getI_s, ev_bin, ev_not, op_lss, ev_var_8, ev_lit, iNz_b2i, Bool.not_eq_true', decide_eq_false_iff_not]
 rw [if_neg (by omega), treeF_ite]
 simp only [l_an, l_ca, l_na, l_mc, l_mn, getI_0, getI_s, ev_bin, ev_not, op_leq, ev_var_8, ev_lit, iNz_b2i, Bool.not_eq_true', decide_eq_false_iff_not]
 rw [if_neg (by omega)]
 refine (treeF_call (by simp only [sxs, ph_E5_wide_Zero]; exact s_wide_Zero _ _ _ _) (by rfl)).trans ?_
 rw [nW_u, treeF_ite]
 simp only [l_an, l_ca, l_na, l_mc, l_mn, getI_0, getI_s, ev_var_b, iNz_b2i, decide_eq_true_iff]
 by_cases hz : nW a b c d = 0
 ·rw [if_pos hz]
  refine (treeF_call (by simp only [sxs, ph_E5_format_Nought]; exact s_format_Nought _ _) (by rfl)).trans ?_
  rw [fN_u, if_pos hf, iNz_b2i, treeF_leaf rfl, hz]
  simp only [sxs]; rfl
 rw [if_neg hz]
 rw [goRound_end hz]
 have hlog : Nat.log2 (nW a b c d) < 256 := (FP.log2_lt hz).2 (by rw [← W256_pow]; exact hS)
 have hby : raiseBy 256 (nW a b c d) = 255 - Nat.log2 (nW a b c d) := by rw [raise_N 256 _ hz]; unfold FP.lenN; rw [if_neg hz]; omega
 obtain ⟨l1, l2⟩ := FP.log2_bounds hz
 have hby2 : 255 - Nat.log2 (nW a b c d) ≤ 255 := by omega
 have hup1 : 2 ^ 255 ≤ nW a b c d * 2 ^ (255 - Nat.log2 (nW a b c d)) := by
  have := Nat.mul_le_mul_right (2 ^ (255 - Nat.log2 (nW a b c d))) l1
  rw [← Nat.pow_add, show Nat.log2 (nW a b c d) + (255 - Nat.log2 (nW a b c d)) = 255 by omega] at this; exact this
 have hup2 : nW a b c d * 2 ^ (255 - Nat.log2 (nW a b c d)) < 2 ^ 256 := by
  have := Nat.mul_lt_mul_of_pos_right l2 (FP.two_pow_pos (255 - Nat.log2 (nW a b c d)))
  rw [← Nat.pow_add, show Nat.log2 (nW a b c d) + 1 + (255 - Nat.log2 (nW a b c d)) = 256 by omega] at this; exact this
 refine (treeF_call (r := oW (nW a b c d * 2 ^ (255 - Nat.log2 (nW a b c d))) ++ [((255 - Nat.log2 (nW a b c d) : Nat) : Int)]) ?_ rfl).trans ?_
 ·simp only [sxs, ph_E5_count_WideRaise]; rw [s_count_WideRaise, nW_u, hby, oW_eq]; rfl
 generalize nW a b c d * 2 ^ (255 - Nat.log2 (nW a b c d)) = up at *
 generalize 255 - Nat.log2 (nW a b c d) = sh at *
 have hupW : up < W256 := by rw [W256_pow]; exact hup2
 have hclip : -1099511627776 ≤ clipE (i64 e) ∧ clipE (i64 e) ≤ 1099511627776 := by unfold clipE; omega
 have ecl : max (-1099511627776) (min (i64 e) 1099511627776) = clipE (i64 e) := rfl
 generalize clipE (i64 e) = cl at *
 have e5 : i64 ((sh : Nat) : Int) = ((sh : Nat) : Int) := i64_nat (by omega)
 have eNe : i64 (cl - (sh : Int)) = cl - (sh : Int) := i64_id (by omega) (by omega)
 generalize hne : cl - (sh : Int) = ne at *
 have hneb : -1099511628100 ≤ ne ∧ ne ≤ 1099511628100 := by omega
 have eLeast : i64 (1 - (FP.fE (fN f) : Int)) = 1 - (FP.fE (fN f) : Int) := i64_small' (by omega) (by omega)
 refine (treeF_call (by simp only [sxs, ph_E5_format_Prec]; exact s_format_Prec _) (by rfl)).trans ?_
 refine (treeF_call (by simp only [sxs, ph_E5_format_Emax]; exact s_format_Emax _) (by rfl)).trans ?_
 rw [fN_u]
 obtain ⟨b1, b2⟩ := FP.raised_b n1 (by omega) hup1 hup2 (u8 m).toNat (iNz n)
 have hbW : FP.rdiv (u8 m).toNat (iNz n) up (2 ^ (256 - FP.fP (fN f))) < W128 := by
  rw [W128_pow]; exact Nat.lt_of_le_of_lt b2 (Nat.pow_lt_pow_right (by decide) (by omega))
 refine (treeF_call (r := oB (FP.rdiv (u8 m).toNat (iNz n) up (2 ^ (256 - FP.fP (fN f)))) ++ [b2i (decide (up % 2 ^ (256 - FP.fP (fN f)) ≠ 0))]) ?_ rfl).trans ?_
 ·simp only [sxs, ph_E5_round_Cut, i64_fP]
  rw [s_round_Cut _ _ _ _ _ _ _ (by rw [i64_fP]; omega) (by rw [i64_fP]; omega) (by rw [u8_u8]; exact hm), nW_small hupW, i64_fP, toNat_c, u8_u8, iNz_b2i, oB_eq]; rfl
 have hh := FP.half_pow n1
 have hH0 := FP.two_pow_pos (FP.fP (fN f) - 1)
 have hHW : 2 ^ (FP.fP (fN f) - 1) < W128 := by rw [W128_pow]; exact Nat.pow_lt_pow_right (by decide) (by omega)
 generalize hB : FP.rdiv (u8 m).toNat (iNz n) up (2 ^ (256 - FP.fP (fN f))) = B at *
 refine (treeF_call (r := [b2i (decide (B = 2 ^ FP.fP (fN f)))]) ?_ rfl).trans ?_
 ·simp only [sxs, ph_E5_word_Bit, i64_fP]
  rw [s_word_Bit, nB_small hbW, i64_fP, bitB_nat, Nat.testBit_eq_decide_div_mod_eq]
  congr 2
  rw [decide_eq_decide]
  have hp := FP.two_pow_pos (FP.fP (fN f))
  constructor
  ·intro h
   apply Classical.byContradiction; intro hne2
   rw [Nat.div_eq_of_lt (by omega)] at h; omega
  ·intro h; rw [h, Nat.div_self hp]
 rw [treeF_ite]
 simp only [l_an, l_ca, l_na, l_mc, l_mn, getI_0, getI_s, oW_eq, oB_eq, ev_var_b, iNz_b2i, decide_eq_true_iff]
 have stepO : ∀ q : Int, iNz q = iNz n → F_over_Over [u8 f, u8 m, q] = oB (FP.mk (fN f) (iNz n) (FP.overC (FP.fP (fN f)) (FP.fE (fN f)) (u8 m).toNat (iNz n))) ++ [20] := by
  intro q hq
  rw [s_over_Over _ _ _ (by rw [fN_u]; exact hf) (by rw [u8_u8]; exact hm), fN_u, u8_u8, hq]
 by_cases hb : B = 2 ^ FP.fP (fN f)
 ·rw [if_pos hb, if_pos hb]
  have eE : i64 (ne + 1) = ne + 1 := i64_id (by omega) (by omega)
  refine (treeF_call (r := [b2i (decide ((FP.fE (fN f) : Int) < (ne + 1)))]) ?_ rfl).trans ?_
  ·simp only [sxs, ph_E5_over_Beyond, i64_fE, e5, ecl, hne, eNe, eE]
   rw [s_over_Beyond, fN_u, decide_eq_true hf, Bool.true_and, eE]
  rw [treeF_ite]
  simp only [l_an, l_ca, l_na, l_mc, l_mn, getI_0, getI_s, oW_eq, oB_eq, ev_var_b, iNz_b2i, decide_eq_true_iff]
  by_cases ho : (FP.fE (fN f) : Int) < (ne + 1)
  ·rw [if_pos ho, goEnd_over ho]
   refine (treeF_call (by simp only [sxs, ph_E5_over_Over]; exact stepO _ (iNz_b2i _)) (by rfl)).trans ?_
   rw [treeF_leaf rfl]
   (simp only [sxs]) <;> rfl
  rw [if_neg ho, treeF_ite]
  simp only [l_an, l_ca, l_na, l_mc, l_mn, getI_0, getI_s, oW_eq, oB_eq, ev_bin, ev_max, ev_min, ev_var_i, ev_lit, op_sub, op_lss, i64_i64, i64_fE, e5, eLeast, ecl, hne, eNe, iNz_b2i, decide_eq_true_iff]
  by_cases hlt : ne < 1 - (FP.fE (fN f) : Int)
  ·rw [if_pos hlt]
   obtain ⟨j, hj⟩ : ∃ j : Nat, 1 - (FP.fE (fN f) : Int) - ne = (j : Int) := ⟨(1 - (FP.fE (fN f) : Int) - ne).toNat, by omega⟩
   have hjam := jam_lt (k := j) hupW
   have hb2 : FP.rdiv (u8 m).toNat (iNz n) (FP.jam up j) (2 ^ (256 - FP.fP (fN f))) ≤ 2 ^ (FP.fP (fN f) - 1) := by
    rw [(FP.jam_rdiv (p := FP.fP (fN f)) (j := j) (by omega) up _ _).1]
    exact (FP.raised_down n1 (by omega) (by omega) hup2 _ _).2.2
   have hb2W : FP.rdiv (u8 m).toNat (iNz n) (FP.jam up j) (2 ^ (256 - FP.fP (fN f))) < W128 := Nat.lt_of_le_of_lt hb2 hHW
   have ej : i64 (1 - (FP.fE (fN f) : Int) - ne) = (j : Int) := by rw [hj]; exact i64_id (by omega) (by omega)
   have stepJ : F_shift_WideJam [wd up 0, wd up 1, wd up 2, wd up 3, (j : Int)] = oW (FP.jam up j) := by
    rw [s_shift_WideJam, nW_small hupW, i64_id (by omega) (by omega), toNat_c]
   have stepC : ∀ q : Int, iNz q = iNz n → F_round_Cut [wd (FP.jam up j) 0, wd (FP.jam up j) 1, wd (FP.jam up j) 2, wd (FP.jam up j) 3, (FP.fP (fN f) : Int), u8 m, q] = oB (FP.rdiv (u8 m).toNat (iNz n) (FP.jam up j) (2 ^ (256 - FP.fP (fN f)))) ++ [b2i (decide (FP.jam up j % 2 ^ (256 - FP.fP (fN f)) ≠ 0))] := by
    intro q hq
    rw [s_round_Cut _ _ _ _ _ _ _ (by rw [i64_fP]; omega) (by rw [i64_fP]; omega) (by rw [u8_u8]; exact hm), nW_small hjam, i64_fP, toNat_c, u8_u8, hq]
   have stepP : ∀ q : Int, iNz q = iNz n → F_pack_put [u8 f, q, 0, wd (FP.rdiv (u8 m).toNat (iNz n) (FP.jam up j) (2 ^ (256 - FP.fP (fN f)))) 1, wd (FP.rdiv (u8 m).toNat (iNz n) (FP.jam up j) (2 ^ (256 - FP.fP (fN f)))) 0] = oB (FP.mk (fN f) (iNz n) (FP.rdiv (u8 m).toNat (iNz n) (FP.jam up j) (2 ^ (256 - FP.fP (fN f))))) := by
    intro q hq
    rw [s_pack_put _ _ _ _ _ (by rw [fN_u]; exact hf), fN_u, nB_small hb2W, hq, put_low hf hb2]
   rw [goEnd_far ho hlt hj, treeF_ite]
   simp only [l_an, l_ca, l_na, l_mc, l_mn, getI_0, getI_s, ev_not, ev_var_b, iNz_b2i]
   cases hA : iNz t with
   | false =>
    rw [if_pos (by decide)]
    refine (treeF_call (by simp only [sxs, ph_E5_shift_WideJam, i64_fE, e5, eLeast, ecl, hne, eNe, ej]; exact stepJ) (by rfl)).trans ?_
    refine (treeF_call (by simp only [sxs, ph_E5_round_Cut, i64_fP]; exact stepC _ (iNz_b2i _)) (by rfl)).trans ?_
    refine (treeF_call (by simp only [sxs, ph_E5_pack_put]; exact stepP _ (iNz_b2i _)) (by rfl)).trans ?_
    rw [treeF_ite]
    simp only [l_an, l_ca, l_na, l_mc, l_mn, getI_0, getI_s, oW_eq, oB_eq, ev_var_b, iNz_b2i, decide_eq_true_iff]
    by_cases hz2 : FP.jam up j % 2 ^ (256 - FP.fP (fN f)) = 0
    ·rw [if_neg (fun h => h hz2), treeF_leaf rfl, if_pos hz2]
     (simp only [sxs]) <;> rfl
    ·rw [if_pos hz2, if_neg hz2]
     rw [treeF_leaf rfl]
     (simp only [sxs]) <;> rfl
   | true =>
    rw [if_neg (by decide)]
    refine (treeF_call (by simp only [sxs, ph_E5_shift_WideJam, i64_fE, e5, eLeast, ecl, hne, eNe, ej]; exact stepJ) (by rfl)).trans ?_
    refine (treeF_call (by simp only [sxs, ph_E5_round_Cut, i64_fP]; exact stepC _ (iNz_b2i _)) (by rfl)).trans ?_
    refine (treeF_call (by simp only [sxs, ph_E5_pack_put]; exact stepP _ (iNz_b2i _)) (by rfl)).trans ?_
    rw [treeF_ite]
    simp only [l_an, l_ca, l_na, l_mc, l_mn, getI_0, getI_s, oW_eq, oB_eq, ev_var_b, iNz_b2i, decide_eq_true_iff]
    by_cases hz2 : FP.jam up j % 2 ^ (256 - FP.fP (fN f)) = 0
    ·rw [if_neg (fun h => h hz2), treeF_leaf rfl, if_pos hz2]
     (simp only [sxs]) <;> rfl
    ·rw [if_pos hz2, if_neg hz2]
     rw [treeF_ite]
     simp only [l_an, l_ca, l_na, l_mc, l_mn, getI_0, getI_s, oW_eq, oB_eq, ev_bin, ev_max, ev_min, ev_var_i, ev_lit, op_add, op_sub, op_lss, i64_i64, i64_fE, e5, eLeast, ecl, hne, eNe, eE, iNz_b2i, decide_eq_true_iff]
     by_cases hx : (ne + 1) < 1 - (FP.fE (fN f) : Int)
     ·rw [if_pos hx, treeF_leaf rfl, decide_eq_true hx]
      (simp only [sxs]) <;> rfl
     ·rw [if_neg hx, treeF_leaf rfl, decide_eq_false hx]
      (simp only [sxs]) <;> rfl
  ·rw [if_neg hlt]
   obtain ⟨k, hk⟩ : ∃ k : Nat, ne - (1 - (FP.fE (fN f) : Int)) = (k : Int) := ⟨(ne - (1 - (FP.fE (fN f) : Int))).toNat, by omega⟩
   rw [goEnd_hi ho hlt hk]
   have efield : i64 (i64 (ne + 1 - (1 - (FP.fE (fN f) : Int))) + 1) = ((k + 2 : Nat) : Int) := by rw [i64_id (n := ne + 1 - (1 - (FP.fE (fN f) : Int))) (by omega) (by omega), i64_id (by omega) (by omega)]; omega
   have ek : i64 ((k + 2 : Nat) : Int) = ((k + 2 : Nat) : Int) := i64_nat (by omega)
   have stepP : ∀ q : Int, iNz q = iNz n → F_pack_put [u8 f, q, ((k + 2 : Nat) : Int), wd B 1, wd B 0] = oB (FP.mk (fN f) (iNz n) (k * 2 ^ (FP.fP (fN f) - 1) + B)) := by
    intro q hq
    rw [s_pack_put _ _ _ _ _ (by rw [fN_u]; exact hf), fN_u, nB_small hbW, hq, ek, put_high hf b1 b2 2 (by rw [if_pos hb]) (by omega)]
   refine (treeF_call (by simp only [sxs, ph_E5_pack_put, i64_fE, e5, eLeast, ecl, hne, eNe, eE, efield]; exact stepP _ (iNz_b2i _)) (by rfl)).trans ?_
   rw [treeF_ite]
   simp only [l_an, l_ca, l_na, l_mc, l_mn, getI_0, getI_s, oW_eq, oB_eq, ev_var_b, iNz_b2i, decide_eq_true_iff]
   by_cases hz2 : up % 2 ^ (256 - FP.fP (fN f)) = 0
   ·rw [if_neg (fun h => h hz2), treeF_leaf rfl, if_pos hz2]
    (simp only [sxs]) <;> rfl
   ·rw [if_pos hz2, if_neg hz2, treeF_leaf rfl]
    (simp only [sxs]) <;> rfl
 ·rw [if_neg hb, if_neg hb]
  refine (treeF_call (r := [b2i (decide ((FP.fE (fN f) : Int) < ne))]) ?_ rfl).trans ?_
  ·simp only [sxs, ph_E5_over_Beyond, i64_fE, e5, ecl, hne, eNe]
   rw [s_over_Beyond, fN_u, decide_eq_true hf, Bool.true_and, eNe]
  rw [treeF_ite]
  simp only [l_an, l_ca, l_na, l_mc, l_mn, getI_0, getI_s, oW_eq, oB_eq, ev_var_b, iNz_b2i, decide_eq_true_iff]
  by_cases ho : (FP.fE (fN f) : Int) < ne
  ·rw [if_pos ho, goEnd_over ho]
   refine (treeF_call (by simp only [sxs, ph_E5_over_Over]; exact stepO _ (iNz_b2i _)) (by rfl)).trans ?_
   rw [treeF_leaf rfl]
   (simp only [sxs]) <;> rfl
  rw [if_neg ho, treeF_ite]
  simp only [l_an, l_ca, l_na, l_mc, l_mn, getI_0, getI_s, oW_eq, oB_eq, ev_bin, ev_max, ev_min, ev_var_i, ev_lit, op_sub, op_lss, i64_i64, i64_fE, e5, eLeast, ecl, hne, eNe, iNz_b2i, decide_eq_true_iff]
  by_cases hlt : ne < 1 - (FP.fE (fN f) : Int)
  ·rw [if_pos hlt]
   obtain ⟨j, hj⟩ : ∃ j : Nat, 1 - (FP.fE (fN f) : Int) - ne = (j : Int) := ⟨(1 - (FP.fE (fN f) : Int) - ne).toNat, by omega⟩
   have hjam := jam_lt (k := j) hupW
   have hb2 : FP.rdiv (u8 m).toNat (iNz n) (FP.jam up j) (2 ^ (256 - FP.fP (fN f))) ≤ 2 ^ (FP.fP (fN f) - 1) := by
    rw [(FP.jam_rdiv (p := FP.fP (fN f)) (j := j) (by omega) up _ _).1]
    exact (FP.raised_down n1 (by omega) (by omega) hup2 _ _).2.2
   have hb2W : FP.rdiv (u8 m).toNat (iNz n) (FP.jam up j) (2 ^ (256 - FP.fP (fN f))) < W128 := Nat.lt_of_le_of_lt hb2 hHW
   have ej : i64 (1 - (FP.fE (fN f) : Int) - ne) = (j : Int) := by rw [hj]; exact i64_id (by omega) (by omega)
   have stepJ : F_shift_WideJam [wd up 0, wd up 1, wd up 2, wd up 3, (j : Int)] = oW (FP.jam up j) := by
    rw [s_shift_WideJam, nW_small hupW, i64_id (by omega) (by omega), toNat_c]
   have stepC : ∀ q : Int, iNz q = iNz n → F_round_Cut [wd (FP.jam up j) 0, wd (FP.jam up j) 1, wd (FP.jam up j) 2, wd (FP.jam up j) 3, (FP.fP (fN f) : Int), u8 m, q] = oB (FP.rdiv (u8 m).toNat (iNz n) (FP.jam up j) (2 ^ (256 - FP.fP (fN f)))) ++ [b2i (decide (FP.jam up j % 2 ^ (256 - FP.fP (fN f)) ≠ 0))] := by
    intro q hq
    rw [s_round_Cut _ _ _ _ _ _ _ (by rw [i64_fP]; omega) (by rw [i64_fP]; omega) (by rw [u8_u8]; exact hm), nW_small hjam, i64_fP, toNat_c, u8_u8, hq]
   have stepP : ∀ q : Int, iNz q = iNz n → F_pack_put [u8 f, q, 0, wd (FP.rdiv (u8 m).toNat (iNz n) (FP.jam up j) (2 ^ (256 - FP.fP (fN f)))) 1, wd (FP.rdiv (u8 m).toNat (iNz n) (FP.jam up j) (2 ^ (256 - FP.fP (fN f)))) 0] = oB (FP.mk (fN f) (iNz n) (FP.rdiv (u8 m).toNat (iNz n) (FP.jam up j) (2 ^ (256 - FP.fP (fN f))))) := by
    intro q hq
    rw [s_pack_put _ _ _ _ _ (by rw [fN_u]; exact hf), fN_u, nB_small hb2W, hq, put_low hf hb2]
   rw [goEnd_far ho hlt hj, treeF_ite]
   simp only [l_an, l_ca, l_na, l_mc, l_mn, getI_0, getI_s, ev_not, ev_var_b, iNz_b2i]
   cases hA : iNz t with
   | false =>
    rw [if_pos (by decide)]
    refine (treeF_call (by simp only [sxs, ph_E5_shift_WideJam, i64_fE, e5, eLeast, ecl, hne, eNe, ej]; exact stepJ) (by rfl)).trans ?_
    refine (treeF_call (by simp only [sxs, ph_E5_round_Cut, i64_fP]; exact stepC _ (iNz_b2i _)) (by rfl)).trans ?_
    refine (treeF_call (by simp only [sxs, ph_E5_pack_put]; exact stepP _ (iNz_b2i _)) (by rfl)).trans ?_
    rw [treeF_ite]
    simp only [l_an, l_ca, l_na, l_mc, l_mn, getI_0, getI_s, oW_eq, oB_eq, ev_var_b, iNz_b2i, decide_eq_true_iff]
    by_cases hz2 : FP.jam up j % 2 ^ (256 - FP.fP (fN f)) = 0
    ·rw [if_neg (fun h => h hz2), treeF_leaf rfl, if_pos hz2]
     (simp only [sxs]) <;> rfl
    ·rw [if_pos hz2, if_neg hz2]
     rw [treeF_leaf rfl]
     (simp only [sxs]) <;> rfl
   | true =>
    rw [if_neg (by decide)]
    refine (treeF_call (by simp only [sxs, ph_E5_shift_WideJam, i64_fE, e5, eLeast, ecl, hne, eNe, ej]; exact stepJ) (by rfl)).trans ?_
    refine (treeF_call (by simp only [sxs, ph_E5_round_Cut, i64_fP]; exact stepC _ (iNz_b2i _)) (by rfl)).trans ?_
    refine (treeF_call (by simp only [sxs, ph_E5_pack_put]; exact stepP _ (iNz_b2i _)) (by rfl)).trans ?_
    rw [treeF_ite]
    simp only [l_an, l_ca, l_na, l_mc, l_mn, getI_0, getI_s, oW_eq, oB_eq, ev_var_b, iNz_b2i, decide_eq_true_iff]
    by_cases hz2 : FP.jam up j % 2 ^ (256 - FP.fP (fN f)) = 0
    ·rw [if_neg (fun h => h hz2), treeF_leaf rfl, if_pos hz2]
     (simp only [sxs]) <;> rfl
    ·rw [if_pos hz2, if_neg hz2]
     rw [treeF_leaf rfl, decide_eq_true hlt]
     (simp only [sxs]) <;> rfl
  ·rw [if_neg hlt]
   obtain ⟨k, hk⟩ : ∃ k : Nat, ne - (1 - (FP.fE (fN f) : Int)) = (k : Int) := ⟨(ne - (1 - (FP.fE (fN f) : Int))).toNat, by omega⟩
   rw [goEnd_hi ho hlt hk]
   have efield : i64 (i64 (ne - (1 - (FP.fE (fN f) : Int))) + 1) = ((k + 1 : Nat) : Int) := by rw [i64_id (n := ne - (1 - (FP.fE (fN f) : Int))) (by omega) (by omega), i64_id (by omega) (by omega)]; omega
   have ek : i64 ((k + 1 : Nat) : Int) = ((k + 1 : Nat) : Int) := i64_nat (by omega)
   have stepP : ∀ q : Int, iNz q = iNz n → F_pack_put [u8 f, q, ((k + 1 : Nat) : Int), wd B 1, wd B 0] = oB (FP.mk (fN f) (iNz n) (k * 2 ^ (FP.fP (fN f) - 1) + B)) := by
    intro q hq
    rw [s_pack_put _ _ _ _ _ (by rw [fN_u]; exact hf), fN_u, nB_small hbW, hq, ek, put_high hf b1 b2 1 (by rw [if_neg hb]) (by omega)]
   refine (treeF_call (by simp only [sxs, ph_E5_pack_put, i64_fE, e5, eLeast, ecl, hne, eNe, efield]; exact stepP _ (iNz_b2i _)) (by rfl)).trans ?_
   rw [treeF_ite]
   simp only [l_an, l_ca, l_na, l_mc, l_mn, getI_0, getI_s, oW_eq, oB_eq, ev_var_b, iNz_b2i, decide_eq_true_iff]
   by_cases hz2 : up % 2 ^ (256 - FP.fP (fN f)) = 0
   ·rw [if_neg (fun h => h hz2), treeF_leaf rfl, if_pos hz2]
    (simp only [sxs]) <;> rfl
   ·rw [if_pos hz2, if_neg hz2, treeF_leaf rfl]
    (simp only [sxs]) <;> rfl
end Go.Proofs.YtkfbdlidigmfbaaGreatDoor
namespace Go.Proofs.YtkfbdlidigmfbaaGreatDoor
set_option linter.unusedVariables false
set_option linter.unusedSimpArgs false
set_option maxRecDepth 100000
open Go.RowKit
theorem wideAdd_w (a b c d e f g h : Int) : fWideAdd [a, b, c, d, e, f, g, h] = fWide (nW a b c d + nW e f g h) (Nat.ble W256 (nW a b c d + nW e f g h)) := rfl
theorem fWide_eq (s : Nat) (b : Bool) : fWide s b = [wd s 0, wd s 1, wd s 2, wd s 3, b2i b] := rfl
theorem nW_mid {p : Nat} (h : p < W128) : nW 0 (wd p 0) (wd p 1) 0 = p * W64 := by
 have := nB_small h
 unfold nB at this
 rw [u64_wd, u64_wd] at this
 unfold nW
 rw [show u64 0 = 0 by decide, u64_wd, u64_wd, show (0 : Int).toNat = 0 from rfl, Nat.mul_zero, Nat.add_zero, Nat.zero_add, Nat.mul_comm W64]
 congr 1
 rw [Nat.mul_comm W64, Nat.add_comm]; exact this
theorem mul_lt2' {a b : Nat} (ha : a < W64) (hb : b < W64) : a * b < W128 := Nat.mul_lt_mul'' ha hb
theorem mul_parts (a1 a0 b1 b0 : Nat) : (a1 * W64 + a0) * (b1 * W64 + b0) = a1 * b1 * W128 + a0 * b0 + a1 * b0 * W64 + a0 * b1 * W64 := by
 have e : W128 = W64 * W64 := W128.eq_1
 rw [e]
 generalize W64 = w
 rw [Nat.add_mul, Nat.mul_add, Nat.mul_add]
 have h1 : a1 * w * (b1 * w) = a1 * b1 * (w * w) := by ac_rfl
 have h2 : a1 * w * b0 = a1 * b0 * w := by ac_rfl
 have h3 : a0 * (b1 * w) = a0 * b1 * w := by ac_rfl
 rw [h1, h2, h3]; omega
theorem s_wide_Mul (a b c d : Int) : F_wide_Mul [a, b, c, d] = oW (nB a b * nB c d) := by
 refine Eq.trans ?_ (rW_eq _)
 have ha := (u64_nat a).2; have hb := (u64_nat b).2; have hc := (u64_nat c).2; have hd := (u64_nat d).2
 have hab := nB_lt a b; have hcd := nB_lt c d
 have hprod : nB a b * nB c d < W256 := by
  have := Nat.mul_lt_mul'' hab hcd
  rw [W256_sq]; exact this
 have e0 : nB a b * nB c d = (u64 a).toNat * (u64 c).toNat * W128 + (u64 b).toNat * (u64 d).toNat + (u64 a).toNat * (u64 d).toNat * W64 + (u64 b).toNat * (u64 c).toNat * W64 := mul_parts _ _ _ _
 rw [e0] at hprod ⊢
 rw [F_wide_Mul, t_wide_Mul]
 refine (treeF_call (by simp only [sxs, ph_E1_word_Mul]; exact s_word_Mul _ _) (by rfl)).trans ?_
 refine (treeF_call (by simp only [sxs, ph_E1_word_Mul]; exact s_word_Mul _ _) (by rfl)).trans ?_
 rw [u64_u64, u64_u64, u64_u64, u64_u64]
 have l11 := mul_lt2' ha hc; have l00 := mul_lt2' hb hd; have l10 := mul_lt2' ha hd; have l01 := mul_lt2' hb hc
 generalize (u64 a).toNat * (u64 c).toNat = p11 at *
 generalize (u64 b).toNat * (u64 d).toNat = p00 at *
 refine (treeF_call (r := oW (p11 * W128 + p00)) ?_ rfl).trans ?_
 ·simp only [sxs, ph_E1_wide_Join]; rw [s_wide_Join, nB_small l11, nB_small l00, oW_eq]
 refine (treeF_call (by simp only [sxs, ph_E1_word_Mul]; exact s_word_Mul _ _) (by rfl)).trans ?_
 refine (treeF_call (by simp only [sxs, ph_E1_word_Mul]; exact s_word_Mul _ _) (by rfl)).trans ?_
 rw [u64_u64, u64_u64, u64_u64, u64_u64]
 generalize (u64 a).toNat * (u64 d).toNat = p10 at *
 generalize (u64 b).toNat * (u64 c).toNat = p01 at *
 refine (treeF_call (r := fWide (p11 * W128 + p00 + p10 * W64) (Nat.ble W256 (p11 * W128 + p00 + p10 * W64))) ?_ rfl).trans ?_
 ·simp only [sxs, ph_E1_wide_Add]; rw [wideAdd_w, nW_small (by omega), nW_mid l10]
 refine (treeF_call (r := fWide (p11 * W128 + p00 + p10 * W64 + p01 * W64) (Nat.ble W256 (p11 * W128 + p00 + p10 * W64 + p01 * W64))) ?_ rfl).trans ?_
 ·simp only [sxs, fWide_eq, ph_E1_wide_Add]; rw [wideAdd_w, nW_small (by omega), nW_mid l01, fWide_eq]
 rw [treeF_leaf rfl]
 simp only [sxs, fWide_eq]
 rfl
def badC (x y : Nat) : Bool := (decide (x = 0) || decide (y = 0)) && (decide (x = 3) || decide (y = 3))
theorem s_mul_Bad (n c e h l n' c' e' h' l' : Int) : F_mul_Bad [n, c, e, h, l, n', c', e', h', l'] = [b2i (badC (u8 c).toNat (u8 c').toNat)] := by
 have h1 := u8_rng c; have h2 := u8_rng c'
 rw [F_mul_Bad, t_mul_Bad, treeF_ite]
 simp only [sxs, beq_iff_eq, decide_eq_true_iff]
 unfold badC
 obtain ⟨i, hi⟩ : ∃ i : Nat, u8 c = (i : Int) := ⟨(u8 c).toNat, by omega⟩
 obtain ⟨j, hj⟩ : ∃ j : Nat, u8 c' = (j : Int) := ⟨(u8 c').toNat, by omega⟩
 rw [hi, hj, toNat_c, toNat_c]
 by_cases hz : i = 0 ∨ j = 0
 ·have hz2 : (decide (i = 0) || decide (j = 0)) = true := by rw [Bool.or_eq_true, decide_eq_true_iff, decide_eq_true_iff]; exact hz
  rw [if_pos (by rcases hz with h | h <;> subst h <;> simp <;> (try split) <;> omega), treeF_leaf rfl, hz2, Bool.true_and]
  simp only [sxs, beq_iff_eq, hi, hj]
  congr 2
  rw [Bool.eq_iff_iff, decide_eq_true_iff, Bool.or_eq_true, decide_eq_true_iff, decide_eq_true_iff]
  split
  ·omega
  ·split <;> omega
 ·have hz2 : (decide (i = 0) || decide (j = 0)) = false := by
   cases hb : (decide (i = 0) || decide (j = 0)) with
   | false => rfl
   | true => rw [Bool.or_eq_true, decide_eq_true_iff, decide_eq_true_iff] at hb; exact absurd hb hz
  rw [if_neg (by rw [if_neg (by omega), if_neg (by omega)]; decide), treeF_leaf rfl, hz2, Bool.false_and]; rfl
end Go.Proofs.YtkfbdlidigmfbaaGreatDoor
namespace Go.Proofs.YtkfbdlidigmfbaaGreatDoor
set_option linter.unusedVariables false
set_option linter.unusedSimpArgs false
set_option maxRecDepth 100000
open Go.RowKit
theorem s_mul_Term (n c e h l n' c' e' h' l' : Int) : F_mul_Term [n, c, e, h, l, n', c', e', h', l'] =
  if (u8 c = 1 ∨ u8 c = 2) ∧ (u8 c' = 1 ∨ u8 c' = 2) then [i64 (i64 (i64 e + i64 e') + 1)] ++ oW (nB h l * nB h' l') else [0, 0, 0, 0, 0] := by
 have hm : F_wide_Mul [u64 h, u64 l, u64 h', u64 l'] = oW (nB h l * nB h' l') := by rw [s_wide_Mul, nB_u, nB_u]
 have go : ∀ L : List Int, L = [n, c, e, h, l, n', c', e', h', l'] → phiE E2 72 (List.map (X.ev L) [(.var kU 3), (.var kU 4), (.var kU 8), (.var kU 9)]) = oW (nB h l * nB h' l') := by
  intro L hL; subst hL
  rw [ph_E2_wide_Mul, ← hm]
  simp only [sxs]
 have fin : ∀ L : List Int, L = [n, c, e, h, l, n', c', e', h', l'] → treeF (phiE E2) c_mul_Term (.leaf (.tup [(.int .i64 (.bin .add .i64 (.bin .add .i64 (.var kI 2) (.var kI 7)) (.lit 1))), (.agg [(.int .u64 (.var kU 10)), (.int .u64 (.var kU 11)), (.int .u64 (.var kU 12)), (.int .u64 (.var kU 13))])])) (L ++ oW (nB h l * nB h' l')) = [i64 (i64 (i64 e + i64 e') + 1)] ++ oW (nB h l * nB h' l') := by
  intro L hL; subst hL
  rw [treeF_leaf rfl]
  simp only [sxs]
 have zer : ∀ L : List Int, treeF (phiE E2) c_mul_Term (.leaf (.tup [(.int .i64 (.lit 0)), (.agg [(.int .u64 (.lit 0)), (.int .u64 (.lit 0)), (.int .u64 (.lit 0)), (.int .u64 (.lit 0))])])) L = [0, 0, 0, 0, 0] := by
  intro L; rw [treeF_leaf rfl]; rfl
 rw [F_mul_Term, t_mul_Term]
 simp only [treeF_ite, l_an, l_ca, l_na, l_mc, l_mn, getI_0, getI_s, ev_bin, ev_var_8, ev_lit, op_neq, iNz_b2i, bne_iff_ne, ne_eq, zer]
 have call : treeF (phiE E2) c_mul_Term (.call 72 [(.var kU 3), (.var kU 4), (.var kU 8), (.var kU 9)] 10 4 (.leaf (.tup [(.int .i64 (.bin .add .i64 (.bin .add .i64 (.var kI 2) (.var kI 7)) (.lit 1))), (.agg [(.int .u64 (.var kU 10)), (.int .u64 (.var kU 11)), (.int .u64 (.var kU 12)), (.int .u64 (.var kU 13))])]))) [n, c, e, h, l, n', c', e', h', l'] = [i64 (i64 (i64 e + i64 e') + 1)] ++ oW (nB h l * nB h' l') :=
  (treeF_call (go _ rfl) rfl).trans (fin _ rfl)
 rw [call]
 by_cases a1 : u8 c = 1
 ·rw [if_neg (fun h => h a1)]
  by_cases b1 : u8 c' = 1
  ·rw [if_neg (fun h => h b1), if_pos ⟨.inl a1, .inl b1⟩]; rfl
  ·rw [if_pos b1]
   by_cases b2 : u8 c' = 2
   ·rw [if_neg (fun h => h b2), if_pos ⟨.inl a1, .inr b2⟩]; rfl
   ·rw [if_pos b2, if_neg (fun h => h.2.elim b1 b2)]
 ·rw [if_pos a1]
  by_cases a2 : u8 c = 2
  ·rw [if_neg (fun h => h a2)]
   by_cases b1 : u8 c' = 1
   ·rw [if_neg (fun h => h b1), if_pos ⟨.inr a2, .inl b1⟩]; rfl
   ·rw [if_pos b1]
    by_cases b2 : u8 c' = 2
    ·rw [if_neg (fun h => h b2), if_pos ⟨.inr a2, .inr b2⟩]; rfl
    ·rw [if_pos b2, if_neg (fun h => h.2.elim b1 b2)]
  ·rw [if_pos a2, if_neg (fun h => h.1.elim a1 a2)]
theorem or_pow (x i : Nat) : x ||| 2 ^ i = if x.testBit i then x else x + 2 ^ i := by
 by_cases h : x.testBit i
 ·rw [if_pos h]
  apply Nat.eq_of_testBit_eq
  intro k
  rw [Nat.testBit_or, Nat.testBit_two_pow]
  by_cases hk : i = k
  ·subst hk; simp [h]
  ·simp [hk]
 ·rw [if_neg h]
  have h0 : x / 2 ^ i % 2 = 0 := by
   rw [Nat.testBit_eq_decide_div_mod_eq] at h
   simp at h; exact h
  have hp := FP.two_pow_pos i
  have hx : x = 2 ^ (i + 1) * (x / 2 ^ (i + 1)) + x % 2 ^ i := by
   have e1 := Nat.div_add_mod x (2 ^ (i + 1))
   have e2 : x % 2 ^ (i + 1) = x % 2 ^ i + 2 ^ i * (x / 2 ^ i % 2) := by rw [Nat.pow_succ, Nat.mod_mul]
   rw [e2, h0] at e1; omega
  have hr : x % 2 ^ i < 2 ^ i := Nat.mod_lt _ hp
  generalize x / 2 ^ (i + 1) = q at *
  generalize x % 2 ^ i = r at *
  have hr2 : r < 2 ^ (i + 1) := by rw [Nat.pow_succ]; omega
  have hr3 : 2 ^ i + r < 2 ^ (i + 1) := by rw [Nat.pow_succ]; omega
  rw [hx, show 2 ^ (i + 1) * q + r + 2 ^ i = 2 ^ (i + 1) * q + (2 ^ i + r) by omega, Nat.two_pow_add_eq_or_of_lt hr2, Nat.two_pow_add_eq_or_of_lt hr3]
  have h3 : 2 ^ i + r = 2 ^ i ||| r := by
   have := Nat.two_pow_add_eq_or_of_lt hr 1
   rw [Nat.mul_one] at this; exact this
  rw [h3, Nat.or_assoc, Nat.or_comm r]
theorem wd_or (x y i : Nat) : iOp .or .u64 (wd x i) (wd y i) = wd (x ||| y) i := by
 rw [wd_cast, wd_cast, lor_cast _ _ (Nat.mod_lt _ W64_pos) (Nat.mod_lt _ W64_pos), wd_cast]
 congr 1
 apply Nat.eq_of_testBit_eq
 intro k
 rw [Nat.testBit_or, word_bit, word_bit, word_bit, Nat.testBit_or]
 cases decide (k < 64) <;> simp
def quC (f c : Nat) : Nat := if FP.clsC f c = 5 then c + 2 ^ (FP.fP f - 2) else c
theorem cls_nan {f c : Nat} (hf : f < 4) : (FP.clsC f c = 4 ↔ FP.inf f + 2 ^ (FP.fP f - 2) ≤ c) ∧ (FP.clsC f c = 5 ↔ FP.inf f < c ∧ c < FP.inf f + 2 ^ (FP.fP f - 2)) := by
 have h := inf_gt hf
 have hp := FP.two_pow_pos (FP.fP f - 2)
 have hp1 := FP.two_pow_pos (FP.fP f - 1)
 unfold FP.clsC
 by_cases h0 : c = 0
 ·rw [if_pos h0]; omega
 rw [if_neg h0]
 by_cases h1 : c < 2 ^ (FP.fP f - 1)
 ·rw [if_pos h1]; omega
 rw [if_neg h1]
 by_cases h2 : c < FP.inf f
 ·rw [if_pos h2]; omega
 rw [if_neg h2]
 by_cases h3 : c = FP.inf f
 ·rw [if_pos h3]; omega
 rw [if_neg h3]
 by_cases h4 : FP.inf f + 2 ^ (FP.fP f - 2) ≤ c
 ·rw [if_pos h4]; omega
 ·rw [if_neg h4]; omega
theorem nan_bit {f c : Nat} (hf : f < 4) (hc : c < 2 ^ (FP.fW f - 1)) (hn : FP.inf f < c) (neg : Bool) : (FP.mk f neg c).testBit (FP.fP f - 2) = decide (FP.inf f + 2 ^ (FP.fP f - 2) ≤ c) := by
 obtain ⟨n1, n2, n3, n4, n5, n6, n7, n8, n9⟩ := FP.fmtN hf
 obtain ⟨i1, i2, i3, i4⟩ := inf_gt hf
 have htop := FP.inf_top hf
 have hp := FP.two_pow_pos (FP.fP f - 2)
 have hp1 := FP.two_pow_pos (FP.fP f - 1)
 have hW : 2 ^ (FP.fW f - 1) = 2 ^ (FP.fP f - 1) * 2 ^ (FP.fW f - FP.fP f) := by rw [← Nat.pow_add]; congr 1; omega
 have hinf : FP.inf f = 2 ^ (FP.fP f - 1) * (2 * FP.fE f + 1) := by unfold FP.inf FP.infC; rw [Nat.mul_comm]
 have hr : c = FP.inf f + c % 2 ^ (FP.fP f - 1) := by
  have h1 : c % 2 ^ (FP.fP f - 1) = c - FP.inf f := by
   obtain ⟨r, rfl⟩ : ∃ r, c = FP.inf f + r := ⟨c - FP.inf f, by omega⟩
   rw [hinf, Nat.mul_add_mod, Nat.mod_eq_of_lt (by omega)]; omega
  omega
 rw [Nat.testBit_eq_decide_div_mod_eq, decide_eq_decide]
 have key : FP.mk f neg c / 2 ^ (FP.fP f - 2) % 2 = c % 2 ^ (FP.fP f - 1) / 2 ^ (FP.fP f - 2) % 2 := by
  have e1 : FP.mk f neg c % 2 ^ (FP.fP f - 1) = c % 2 ^ (FP.fP f - 1) := by
   unfold FP.mk
   rw [hW, show neg.toNat * (2 ^ (FP.fP f - 1) * 2 ^ (FP.fW f - FP.fP f)) = 2 ^ (FP.fP f - 1) * (neg.toNat * 2 ^ (FP.fW f - FP.fP f)) by ac_rfl, Nat.add_mul_mod_self_left]
  rw [← e1, i4, Nat.mul_comm 2, Nat.mod_mul_right_div_self, Nat.mod_mod]
 rw [key]
 exact bit_top hp i4 hr (Nat.mod_lt _ hp1)
theorem mk_add (f c d : Nat) (neg : Bool) : FP.mk f neg (c + d) = FP.mk f neg c + d := by unfold FP.mk; omega
theorem s_nan_Quiet (f a b : Int) (hf : fN f < 4) (hn : 4 ≤ clsF (fN f) (nB a b)) : F_nan_Quiet [f, a, b] = oB (FP.mk (fN f) (FP.sgn (fN f) (nB a b)) (quC (fN f) (FP.cod (fN f) (nB a b)))) := by
 refine Eq.trans ?_ (rB_eq _)
 obtain ⟨n1, n2, n3, n4, n5, n6, n7, n8, n9⟩ := FP.fmtN hf
 have hcl := FP.cod_lt (fN f) (nB a b)
 have hcut := FP.mk_cut hf (nB a b)
 have hlt := FP.mk_lt hf (FP.sgn (fN f) (nB a b)) hcl
 have hW : FP.mk (fN f) (FP.sgn (fN f) (nB a b)) (FP.cod (fN f) (nB a b)) < W128 := Nat.lt_of_lt_of_le hlt (pow_le128 (by omega))
 rw [F_nan_Quiet, t_nan_Quiet]
 refine (treeF_call (r := oB (FP.mk (fN f) (FP.sgn (fN f) (nB a b)) (FP.cod (fN f) (nB a b)))) ?_ rfl).trans ?_
 ·simp only [sxs, ph_E6_format_Cut]; rw [s_format_Cut, fN_u, nB_u, hcut, oB_eq]
 have hcls : clsF (fN f) (nB a b) = FP.clsC (fN f) (FP.cod (fN f) (nB a b)) := by unfold clsF FP.cls; rw [if_pos hf]
 rw [hcls] at hn
 generalize FP.sgn (fN f) (nB a b) = s at *
 generalize FP.cod (fN f) (nB a b) = c at *
 have hc2 : clsF (fN f) (FP.mk (fN f) s c) = FP.clsC (fN f) c := by unfold clsF FP.cls; rw [if_pos hf, FP.cod_mk s hcl]
 refine (treeF_call (r := [1]) ?_ rfl).trans ?_
 ·simp only [sxs, ph_E6_class_NaN]; rw [s_class_NaN, fN_u, nB_small hW, hc2, decide_eq_true hn]; rfl
 rw [treeF_ite]
 simp only [l_an, l_ca, l_na, l_mc, l_mn, getI_0, getI_s, oB_eq, ev_var_b, show iNz 1 = true from rfl, show iNz (b2i true) = true from rfl]
 rw [if_pos (by trivial)]
 refine (treeF_call (by simp only [sxs, ph_E6_format_Prec]; exact s_format_Prec _) (by rfl)).trans ?_
 rw [fN_u]
 have eP : i64 ((FP.fP (fN f) : Int) - 2) = ((FP.fP (fN f) - 2 : Nat) : Int) := i64_sub (b := 2) (by omega) (by omega)
 have hK : 1 * 2 ^ (FP.fP (fN f) - 2) < W128 := by
  rw [Nat.one_mul, W128_pow]; exact Nat.pow_lt_pow_right (by decide) (by omega)
 have l1 : F_shift_Left [0, 1, ((FP.fP (fN f) - 2 : Nat) : Int)] = oB (1 * 2 ^ (FP.fP (fN f) - 2)) := by
  have := s_Left' 1 (k := FP.fP (fN f) - 2) (by decide) (by omega) hK
  rw [wd1.1, wd1.2] at this; exact this
 refine (treeF_call (by simp only [sxs, ph_E6_shift_Left, i64_fP, eP]; exact l1) (by rfl)).trans ?_
 rw [treeF_leaf rfl]
 simp only [sxs, wd_or, Nat.one_mul]
 have hnan : FP.inf (fN f) < c := FP.clsC_nan.1 hn
 obtain ⟨q4, q5⟩ := cls_nan (c := c) hf
 have hor : FP.mk (fN f) s c ||| 2 ^ (FP.fP (fN f) - 2) = FP.mk (fN f) s (quC (fN f) c) := by
  rw [or_pow, nan_bit hf hcl hnan]
  unfold quC
  by_cases h : FP.inf (fN f) + 2 ^ (FP.fP (fN f) - 2) ≤ c
  ·rw [decide_eq_true h, if_pos rfl, if_neg (fun h5 => by have := q5.1 h5; omega)]
  ·rw [decide_eq_false h, if_neg (by decide), if_pos (q5.2 ⟨hnan, by omega⟩), mk_add]
 rw [hor]
 rfl
def nanFlag (f a b : Nat) : Nat := if clsF f a = 5 ∨ clsF f b = 5 then 1 else 0
def quN (f b : Nat) : Nat := FP.mk f (FP.sgn f b) (quC f (FP.cod f b))
def dfl (f : Nat) : Nat := FP.mk f false (FP.inf f + 2 ^ (FP.fP f - 2))
def mulR (f m : Nat) (after : Bool) (a b : Nat) : Nat × Nat :=
 if 4 ≤ clsF f a then (quN f a, nanFlag f a b) else if 4 ≤ clsF f b then (quN f b, nanFlag f a b)
 else if badC (clsF f a) (clsF f b) = true then (dfl f, 1)
 else if clsF f a = 3 ∨ clsF f b = 3 then (FP.mk f (FP.sgn f a != FP.sgn f b) (FP.inf f), 0)
 else (FP.mk f (FP.sgn f a != FP.sgn f b) (FP.mulC f m after (FP.sgn f a != FP.sgn f b) (FP.cod f a) (FP.cod f b)).1, (FP.mulC f m after (FP.sgn f a != FP.sgn f b) (FP.cod f a) (FP.cod f b)).2)
def oR (p : Nat × Nat) : List Int := oB p.1 ++ [(p.2 : Int)]
theorem oR_eq (n k : Nat) : oR (n, k) = [wd n 1, wd n 0, (k : Int)] := by unfold oR; rw [oB_eq]; rfl
theorem unE_rng {f b : Nat} : -17000 ≤ unE f b ∧ unE f b ≤ 17000 := by
 unfold unE
 split
 ·rename_i h
  have hf : f < 4 := by
   apply Classical.byContradiction; intro hf
   unfold clsF at h; rw [if_neg hf] at h; omega
  unfold clsF at h; rw [if_pos hf] at h
  refine FP.un_exp hf (FP.clsC_fin.1 ?_)
  unfold FP.cls at h; omega
 ·omega
theorem clip_id {x : Int} (h : -1000000 ≤ x) (h2 : x ≤ 1000000) : clipE x = x := by unfold clipE; omega
theorem cls_fin {f b : Nat} (hf : f < 4) (h : clsF f b < 3) : FP.cod f b < FP.inf f ∧ (clsF f b = 0 ↔ FP.cod f b = 0) ∧ ((clsF f b = 1 ∨ clsF f b = 2) ↔ FP.cod f b ≠ 0) := by
 unfold clsF at *
 rw [if_pos hf] at *
 unfold FP.cls at *
 have h1 := FP.clsC_fin.1 h
 have h2 : FP.clsC f (FP.cod f b) = 0 ↔ FP.cod f b = 0 := by
  unfold FP.clsC
  by_cases h0 : FP.cod f b = 0
  ·rw [if_pos h0]; omega
  ·rw [if_neg h0]
   by_cases h3 : FP.cod f b < 2 ^ (FP.fP f - 1)
   ·rw [if_pos h3]; omega
   ·rw [if_neg h3, if_pos h1]; omega
 exact ⟨h1, h2, by omega⟩
theorem mul_fin {f m a b : Nat} {after neg : Bool} (hf : f < 4) (ha : clsF f a < 3) (hb : clsF f b < 3) :
  FP.roundE (FP.fP f) (FP.fE f) m after neg (clipE (i64 (if (clsF f a = 1 ∨ clsF f a = 2) ∧ (clsF f b = 1 ∨ clsF f b = 2) then i64 (i64 (unE f a + unE f b) + 1) else 0))) (if (clsF f a = 1 ∨ clsF f a = 2) ∧ (clsF f b = 1 ∨ clsF f b = 2) then unS f a * unS f b else 0)
   = FP.mulC f m after neg (FP.cod f a) (FP.cod f b) := by
 obtain ⟨a1, a2, a3⟩ := cls_fin hf ha
 obtain ⟨b1, b2, b3⟩ := cls_fin hf hb
 have ra := unE_rng (f := f) (b := a)
 have rb := unE_rng (f := f) (b := b)
 by_cases hz : FP.cod f a = 0 ∨ FP.cod f b = 0
 ·rw [if_neg (fun h => hz.elim (a3.1 h.1) (b3.1 h.2)), if_neg (fun h => hz.elim (a3.1 h.1) (b3.1 h.2))]
  unfold FP.roundE FP.mulC
  have : FP.val f (FP.cod f a) * FP.val f (FP.cod f b) = 0 := by
   rcases hz with h | h <;> rw [h] <;> unfold FP.val <;> rw [FP.cval_zero] <;> simp
  rw [this, Nat.zero_mul, FP.roundC_zero, FP.roundC_zero]
 ·have hab : (clsF f a = 1 ∨ clsF f a = 2) ∧ (clsF f b = 1 ∨ clsF f b = 2) := ⟨a3.2 (fun h => hz (.inl h)), b3.2 (fun h => hz (.inr h))⟩
  rw [if_pos hab, if_pos hab]
  rw [i64_id (n := unE f a + unE f b) (by omega) (by omega), i64_id (n := unE f a + unE f b + 1) (by omega) (by omega), i64_id (by omega) (by omega), clip_id (by omega) (by omega)]
  unfold unE unS
  rw [if_pos hab.1, if_pos hab.2, if_pos hab.1, if_pos hab.2]
  exact FP.round_mul hf (by omega) a1 (by omega) b1
theorem s_mul_Mul (f m t a1 a0 b1 b0 : Int) (hf : fN f < 4) (hm : u8 m ≤ 4) : F_mul_Mul [f, m, t, a1, a0, b1, b0] = oR (mulR (fN f) (u8 m).toNat (iNz t) (nB a1 a0) (nB b1 b0)) := by
 have hf2 := (u8_lt4 f).2 hf
 have hf3 : fN (u8 f) < 4 := by rw [fN_u]; exact hf
 have hm3 : u8 (u8 m) ≤ 4 := by rw [u8_u8]; exact hm
 rw [F_mul_Mul, t_mul_Mul, treeF_ite]
 simp only [l_an, l_ca, l_na, l_mc, l_mn, getI_0, getI_s, ev_bin, ev_not, op_lss, ev_var_8, ev_lit, iNz_b2i, Bool.not_eq_true', decide_eq_false_iff_not]
 rw [if_neg (by omega), treeF_ite]
 simp only [l_an, l_ca, l_na, l_mc, l_mn, getI_0, getI_s, ev_bin, ev_not, op_leq, ev_var_8, ev_lit, iNz_b2i, Bool.not_eq_true', decide_eq_false_iff_not]
 rw [if_neg (by omega)]
 refine (treeF_call (by simp only [sxs, ph_E7_fields_Unpack]; exact s_fields_Unpack _ _ _) (by rfl)).trans ?_
 refine (treeF_call (by simp only [sxs, ph_E7_fields_Unpack]; exact s_fields_Unpack _ _ _) (by rfl)).trans ?_
 rw [fN_u, nB_u, nB_u]
 have sg : ∀ x, sgnF (fN f) x = FP.sgn (fN f) x := fun x => by unfold sgnF; rw [decide_eq_true hf, Bool.true_and]
 rw [sg, sg]
 have ca := clsF_u8 (fN f) (nB a1 a0)
 have cb := clsF_u8 (fN f) (nB b1 b0)
 refine (treeF_call (r := [b2i (badC (clsF (fN f) (nB a1 a0)) (clsF (fN f) (nB b1 b0)))]) ?_ rfl).trans ?_
 ·simp only [sxs, ph_E7_mul_Bad, ca, cb]; rw [s_mul_Bad, ca, cb, toNat_c, toNat_c]
 unfold mulR nanFlag
 generalize hbad : badC (clsF (fN f) (nB a1 a0)) (clsF (fN f) (nB b1 b0)) = bad
 have sigA : F_class_Signaling [u8 f, u64 a1, u64 a0] = [b2i (decide (clsF (fN f) (nB a1 a0) = 5))] := by rw [s_class_Signaling, fN_u, nB_u]
 have sigB : F_class_Signaling [u8 f, u64 b1, u64 b0] = [b2i (decide (clsF (fN f) (nB b1 b0) = 5))] := by rw [s_class_Signaling, fN_u, nB_u]
 have dflt : F_nan_Default [u8 f] = oB (dfl (fN f)) := by rw [s_nan_Default, fN_u, if_pos hf]; rfl
 refine (treeF_call (r := [b2i (decide (4 ≤ clsF (fN f) (nB a1 a0)))]) ?_ rfl).trans ?_
 ·simp only [sxs, ph_E7_class_NaN]; rw [s_class_NaN, fN_u, nB_u]
 rw [treeF_ite]
 simp only [l_an, l_ca, l_na, l_mc, l_mn, getI_0, getI_s, oB_eq, ev_var_b, iNz_b2i, decide_eq_true_iff]
 by_cases na : 4 ≤ clsF (fN f) (nB a1 a0)
 ·rw [if_pos na, if_pos na]
  have hb0 : bad = false := by
   rw [← hbad]; unfold badC
   cases h1 : (decide (clsF (fN f) (nB a1 a0) = 0) || decide (clsF (fN f) (nB b1 b0) = 0)) with
   | false => rfl
   | true =>
    rw [Bool.true_and]
    rw [Bool.or_eq_true, decide_eq_true_iff, decide_eq_true_iff] at h1
    rw [decide_eq_false (by omega), decide_eq_false (by omega)]; rfl
  have quA : F_nan_Quiet [u8 f, u64 a1, u64 a0] = oB (quN (fN f) (nB a1 a0)) := by rw [s_nan_Quiet _ _ _ hf3 (by rw [fN_u, nB_u]; exact na), fN_u, nB_u]; rfl
  refine (treeF_call (by simp only [sxs, ph_E7_nan_Default]; exact dflt) (by rfl)).trans ?_
  refine (treeF_call (by simp only [sxs, ph_E7_nan_Quiet]; exact quA) (by rfl)).trans ?_
  rw [treeF_ite]
  simp only [l_an, l_ca, l_na, l_mc, l_mn, getI_0, getI_s, oB_eq, ev_var_b, iNz_b2i, hb0]
  rw [if_neg (by decide)]
  refine (treeF_call (by simp only [sxs, ph_E7_class_Signaling]; exact sigA) (by rfl)).trans ?_
  rw [treeF_ite]
  simp only [l_an, l_ca, l_na, l_mc, l_mn, getI_0, getI_s, oB_eq, ev_var_b, iNz_b2i, decide_eq_true_iff]
  by_cases s1 : clsF (fN f) (nB a1 a0) = 5
  ·rw [if_pos s1, if_pos (.inl s1), treeF_leaf rfl, oR_eq]
   (simp only [sxs]) <;> rfl
  rw [if_neg s1]
  refine (treeF_call (by simp only [sxs, ph_E7_class_Signaling]; exact sigB) (by rfl)).trans ?_
  rw [treeF_ite]
  simp only [l_an, l_ca, l_na, l_mc, l_mn, getI_0, getI_s, oB_eq, ev_var_b, iNz_b2i, decide_eq_true_iff]
  by_cases s2 : clsF (fN f) (nB b1 b0) = 5
  ·rw [if_pos s2, if_pos (.inr s2), treeF_leaf rfl, oR_eq]
   (simp only [sxs]) <;> rfl
  ·rw [if_neg s2, if_neg (fun h => h.elim s1 s2), treeF_leaf rfl, oR_eq]
   (simp only [sxs]) <;> rfl
 rw [if_neg na, if_neg na]
 refine (treeF_call (r := [b2i (decide (4 ≤ clsF (fN f) (nB b1 b0)))]) ?_ rfl).trans ?_
 ·simp only [sxs, ph_E7_class_NaN]; rw [s_class_NaN, fN_u, nB_u]
 rw [treeF_ite]
 simp only [l_an, l_ca, l_na, l_mc, l_mn, getI_0, getI_s, oB_eq, ev_var_b, iNz_b2i, decide_eq_true_iff]
 by_cases nb : 4 ≤ clsF (fN f) (nB b1 b0)
 ·rw [if_pos nb, if_pos nb]
  have hb0 : bad = false := by
   rw [← hbad]; unfold badC
   cases h1 : (decide (clsF (fN f) (nB a1 a0) = 0) || decide (clsF (fN f) (nB b1 b0) = 0)) with
   | false => rfl
   | true =>
    rw [Bool.true_and]
    rw [Bool.or_eq_true, decide_eq_true_iff, decide_eq_true_iff] at h1
    rw [decide_eq_false (by omega), decide_eq_false (by omega)]; rfl
  have quB : F_nan_Quiet [u8 f, u64 b1, u64 b0] = oB (quN (fN f) (nB b1 b0)) := by rw [s_nan_Quiet _ _ _ hf3 (by rw [fN_u, nB_u]; exact nb), fN_u, nB_u]; rfl
  refine (treeF_call (by simp only [sxs, ph_E7_nan_Default]; exact dflt) (by rfl)).trans ?_
  refine (treeF_call (by simp only [sxs, ph_E7_nan_Quiet]; exact quB) (by rfl)).trans ?_
  rw [treeF_ite]
  simp only [l_an, l_ca, l_na, l_mc, l_mn, getI_0, getI_s, oB_eq, ev_var_b, iNz_b2i, hb0]
  rw [if_neg (by decide)]
  refine (treeF_call (by simp only [sxs, ph_E7_class_Signaling]; exact sigA) (by rfl)).trans ?_
  rw [treeF_ite]
  simp only [l_an, l_ca, l_na, l_mc, l_mn, getI_0, getI_s, oB_eq, ev_var_b, iNz_b2i, decide_eq_true_iff]
  by_cases s1 : clsF (fN f) (nB a1 a0) = 5
  ·rw [if_pos s1, if_pos (.inl s1), treeF_leaf rfl, oR_eq]
   (simp only [sxs]) <;> rfl
  rw [if_neg s1]
  refine (treeF_call (by simp only [sxs, ph_E7_class_Signaling]; exact sigB) (by rfl)).trans ?_
  rw [treeF_ite]
  simp only [l_an, l_ca, l_na, l_mc, l_mn, getI_0, getI_s, oB_eq, ev_var_b, iNz_b2i, decide_eq_true_iff]
  by_cases s2 : clsF (fN f) (nB b1 b0) = 5
  ·rw [if_pos s2, if_pos (.inr s2), treeF_leaf rfl, oR_eq]
   (simp only [sxs]) <;> rfl
  ·rw [if_neg s2, if_neg (fun h => h.elim s1 s2), treeF_leaf rfl, oR_eq]
   (simp only [sxs]) <;> rfl
 rw [if_neg nb, if_neg nb, treeF_ite]
 simp only [l_an, l_ca, l_na, l_mc, l_mn, getI_0, getI_s, oB_eq, ev_not, ev_var_b, iNz_b2i, Bool.not_eq_true']
 cases bad with
 | true =>
  rw [if_neg (by decide), if_pos rfl]
  refine (treeF_call (by simp only [sxs, ph_E7_nan_Default]; exact dflt) (by rfl)).trans ?_
  rw [treeF_leaf rfl, oR_eq]
  (simp only [sxs]) <;> rfl
 | false =>
  rw [if_pos rfl, if_neg (by decide), treeF_ite]
  simp only [l_an, l_ca, l_na, l_mc, l_mn, getI_0, getI_s, oB_eq, ev_bin, ev_ite, ev_var_8, ev_lit, op_eql, op_geq, iNz_b2i, ca, cb, beq_iff_eq, decide_eq_true_iff]
  have hor : ((if ((clsF (fN f) (nB a1 a0) : Nat) : Int) = 3 then (0 : Int) else if ((clsF (fN f) (nB b1 b0) : Nat) : Int) = 3 then 1 else -1) ≥ 0) ↔ (clsF (fN f) (nB a1 a0) = 3 ∨ clsF (fN f) (nB b1 b0) = 3) := by
   by_cases h3 : clsF (fN f) (nB a1 a0) = 3
   ·rw [if_pos (by omega)]; simp [h3]
   ·rw [if_neg (by omega)]
    by_cases h4 : clsF (fN f) (nB b1 b0) = 3
    ·rw [if_pos (by omega)]; simp [h4]
    ·rw [if_neg (by omega)]; simp [h3, h4]
  by_cases hi : clsF (fN f) (nB a1 a0) = 3 ∨ clsF (fN f) (nB b1 b0) = 3
  ·rw [if_pos (hor.2 hi), if_pos hi]
   refine (treeF_call (r := oB (FP.mk (fN f) (FP.sgn (fN f) (nB a1 a0) != FP.sgn (fN f) (nB b1 b0)) (FP.inf (fN f)))) ?_ rfl).trans ?_
   ·simp only [sxs, ph_E7_format_Inf]; rw [s_format_Inf, fN_u, if_pos hf, iNz_b2i, oB_eq]; rfl
   rw [treeF_leaf rfl, oR_eq]
   (simp only [sxs]) <;> rfl
  ·rw [if_neg (fun h => hi (hor.1 h)), if_neg hi]
   have ha3 : clsF (fN f) (nB a1 a0) < 3 := by omega
   have hb3 : clsF (fN f) (nB b1 b0) < 3 := by omega
   have eu : ∀ x, i64 (unE (fN f) x) = unE (fN f) x := fun x => by have := unE_rng (f := fN f) (b := x); exact i64_small' this.1 this.2
   have hcond : ∀ x, (((clsF (fN f) x : Nat) : Int) = 1 ∨ ((clsF (fN f) x : Nat) : Int) = 2) ↔ (clsF (fN f) x = 1 ∨ clsF (fN f) x = 2) := fun x => by omega
   refine (treeF_call (r := (if (clsF (fN f) (nB a1 a0) = 1 ∨ clsF (fN f) (nB a1 a0) = 2) ∧ (clsF (fN f) (nB b1 b0) = 1 ∨ clsF (fN f) (nB b1 b0) = 2) then i64 (i64 (unE (fN f) (nB a1 a0) + unE (fN f) (nB b1 b0)) + 1) else 0) :: oW (if (clsF (fN f) (nB a1 a0) = 1 ∨ clsF (fN f) (nB a1 a0) = 2) ∧ (clsF (fN f) (nB b1 b0) = 1 ∨ clsF (fN f) (nB b1 b0) = 2) then unS (fN f) (nB a1 a0) * unS (fN f) (nB b1 b0) else 0)) ?_ rfl).trans ?_
   ·simp only [sxs, ph_E7_mul_Term, ca, cb]
    rw [s_mul_Term, ca, cb, nB_small (un_lt _ _), nB_small (un_lt _ _), i64_i64, i64_i64, eu, eu]
    by_cases hc : (clsF (fN f) (nB a1 a0) = 1 ∨ clsF (fN f) (nB a1 a0) = 2) ∧ (clsF (fN f) (nB b1 b0) = 1 ∨ clsF (fN f) (nB b1 b0) = 2)
    ·rw [if_pos ⟨(hcond _).2 hc.1, (hcond _).2 hc.2⟩, if_pos hc, if_pos hc, oW_eq]; rfl
    ·rw [if_neg (fun h => hc ⟨(hcond _).1 h.1, (hcond _).1 h.2⟩), if_neg hc, if_neg hc]; rfl
   have hlt : (if (clsF (fN f) (nB a1 a0) = 1 ∨ clsF (fN f) (nB a1 a0) = 2) ∧ (clsF (fN f) (nB b1 b0) = 1 ∨ clsF (fN f) (nB b1 b0) = 2) then unS (fN f) (nB a1 a0) * unS (fN f) (nB b1 b0) else 0) < W256 := by
    split
    ·rw [W256_sq]; exact Nat.mul_lt_mul'' (un_lt _ _) (un_lt _ _)
    ·exact W256_pos
   have key := mul_fin (m := (u8 m).toNat) (after := iNz t) (neg := FP.sgn (fN f) (nB a1 a0) != FP.sgn (fN f) (nB b1 b0)) hf ha3 hb3
   refine (treeF_call (r := oR (FP.mk (fN f) (FP.sgn (fN f) (nB a1 a0) != FP.sgn (fN f) (nB b1 b0)) (FP.mulC (fN f) (u8 m).toNat (iNz t) (FP.sgn (fN f) (nB a1 a0) != FP.sgn (fN f) (nB b1 b0)) (FP.cod (fN f) (nB a1 a0)) (FP.cod (fN f) (nB b1 b0))).1, (FP.mulC (fN f) (u8 m).toNat (iNz t) (FP.sgn (fN f) (nB a1 a0) != FP.sgn (fN f) (nB b1 b0)) (FP.cod (fN f) (nB a1 a0)) (FP.cod (fN f) (nB b1 b0))).2)) ?_ rfl).trans ?_
   ·simp only [sxs, ph_E7_pack_Round]
    rw [s_pack_Round _ _ _ _ _ _ _ _ _ hf3 hm3, fN_u, u8_u8, iNz_b2i, iNz_b2i, nW_small hlt, i64_i64]
    rw [show (!(FP.sgn (fN f) (nB a1 a0) == FP.sgn (fN f) (nB b1 b0))) = (FP.sgn (fN f) (nB a1 a0) != FP.sgn (fN f) (nB b1 b0)) from rfl, key]; rfl
   have h8 : ∀ p : Nat × Nat, p.2 = (FP.mulC (fN f) (u8 m).toNat (iNz t) (FP.sgn (fN f) (nB a1 a0) != FP.sgn (fN f) (nB b1 b0)) (FP.cod (fN f) (nB a1 a0)) (FP.cod (fN f) (nB b1 b0))).2 → u8 (p.2 : Int) = (p.2 : Int) := by
    intro p hp
    have := FP.roundC_flag_set (FP.fP (fN f)) (FP.fE (fN f)) (u8 m).toNat (iNz t) (FP.sgn (fN f) (nB a1 a0) != FP.sgn (fN f) (nB b1 b0)) (FP.val (fN f) (FP.cod (fN f) (nB a1 a0)) * FP.val (fN f) (FP.cod (fN f) (nB b1 b0))) (2 ^ FP.fU (fN f))
    rw [hp]
    unfold FP.mulC
    exact u8_id (by omega) (by omega)
   rw [treeF_leaf rfl, oR_eq]
   simp only [sxs, h8 _ rfl]
end Go.Proofs.YtkfbdlidigmfbaaGreatDoor
namespace Go.Proofs.YtkfbdlidigmfbaaGreatDoor
set_option linter.unusedVariables false
set_option linter.unusedSimpArgs false
set_option maxRecDepth 100000
open Go.RowKit
end Go.Proofs.YtkfbdlidigmfbaaGreatDoor
namespace Go.Proofs.YtkfbdlidigmfbaaGreatDoor
set_option linter.unusedVariables false
set_option linter.unusedSimpArgs false
set_option maxRecDepth 100000
open Go.RowKit
namespace FP
end FP
theorem clsF_mk {f c : Nat} (hf : f < 4) (s : Bool) (hc : c < 2 ^ (FP.fW f - 1)) : clsF f (FP.mk f s c) = FP.clsC f c := by
 unfold clsF FP.cls; rw [if_pos hf, FP.cod_mk _ hc]
theorem clsF_cod {f : Nat} (hf : f < 4) (b : Nat) : clsF f b = FP.clsC f (FP.cod f b) := by
 unfold clsF FP.cls; rw [if_pos hf]
theorem mk_W {f c : Nat} (hf : f < 4) (s : Bool) (hc : c < 2 ^ (FP.fW f - 1)) : FP.mk f s c < W128 := by
 have := FP.fW_le hf
 exact Nat.lt_of_lt_of_le (FP.mk_lt hf _ hc) (pow_le128 (by omega))
theorem inf_W {t : Nat} (ht : t < 4) : FP.inf t < 2 ^ (FP.fW t - 1) := by
 have := FP.inf_top ht
 have := FP.two_pow_pos (FP.fP t - 1)
 omega
def mulS (f m : Nat) (after neg : Bool) (c d : Nat) : Nat × Nat :=
 if FP.clsC f c = 3 ∨ FP.clsC f d = 3 then (FP.inf f, 0) else FP.mulC f m after neg c d
theorem mulR_S {f : Nat} (hf : f < 4) (m : Nat) (after : Bool) {a b : Nat} (ha : ¬ 4 ≤ clsF f a) (hb : ¬ 4 ≤ clsF f b) :
  mulR f m after a b = if badC (clsF f a) (clsF f b) = true then (dfl f, 1) else
   (FP.mk f (FP.sgn f a != FP.sgn f b) (mulS f m after (FP.sgn f a != FP.sgn f b) (FP.cod f a) (FP.cod f b)).1, (mulS f m after (FP.sgn f a != FP.sgn f b) (FP.cod f a) (FP.cod f b)).2) := by
 unfold mulR mulS
 rw [if_neg ha, if_neg hb, clsF_cod hf, clsF_cod hf]
 split
 ·rfl
 ·split <;> rfl
theorem mulS_le (f m : Nat) (after neg : Bool) (c d : Nat) : (mulS f m after neg c d).1 ≤ FP.inf f := by
 unfold mulS
 split
 ·exact Nat.le_refl _
 ·exact FP.roundC_le _ _ _ _ _ _ _
theorem mulS_lt {f : Nat} (hf : f < 4) (m : Nat) (after neg : Bool) (c d : Nat) : (mulS f m after neg c d).1 < 2 ^ (FP.fW f - 1) :=
 Nat.lt_of_le_of_lt (mulS_le _ _ _ _ _ _) (inf_W hf)
theorem mulS_flag (f m : Nat) (after neg : Bool) (c d : Nat) : (mulS f m after neg c d).2 ≤ 24 := by
 unfold mulS
 split
 ·simp
 ·have := FP.roundC_flag_set (FP.fP f) (FP.fE f) m after neg (FP.val f c * FP.val f d) (2 ^ FP.fU f)
  unfold FP.mulC; omega
theorem dfl_code {f : Nat} (hf : f < 4) : FP.inf f + 2 ^ (FP.fP f - 2) < 2 ^ (FP.fW f - 1) := (inf_gt hf).2.1
theorem mulR_lt {f : Nat} (hf : f < 4) (m : Nat) (after : Bool) {a b : Nat} (ha : ¬ 4 ≤ clsF f a) (hb : ¬ 4 ≤ clsF f b) : (mulR f m after a b).1 < W128 := by
 rw [mulR_S hf _ _ ha hb]
 split
 ·exact mk_W hf _ (dfl_code hf)
 ·exact mk_W hf _ (mulS_lt hf _ _ _ _ _)
theorem mulR_flag {f : Nat} (hf : f < 4) (m : Nat) (after : Bool) {a b : Nat} (ha : ¬ 4 ≤ clsF f a) (hb : ¬ 4 ≤ clsF f b) : (mulR f m after a b).2 ≤ 24 := by
 rw [mulR_S hf _ _ ha hb]
 split
 ·simp
 ·exact mulS_flag _ _ _ _ _ _
end Go.Proofs.YtkfbdlidigmfbaaGreatDoor
namespace Go.Proofs.YtkfbdlidigmfbaaGreatDoor
set_option linter.unusedVariables false
set_option linter.unusedSimpArgs false
set_option maxRecDepth 100000
open Go.RowKit
end Go.Proofs.YtkfbdlidigmfbaaGreatDoor
