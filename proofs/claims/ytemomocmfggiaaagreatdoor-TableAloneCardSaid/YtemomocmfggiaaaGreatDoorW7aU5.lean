import Derived.Test.YtemomocmfggiaaaGreatDoorW7bU5
import Derived.Test.YtemomocmfggiaaaGreatDoorZGU5
namespace Go.Proofs.YtemomocmfggiaaaGreatDoor
set_option linter.unusedVariables false
set_option linter.unusedSimpArgs false
set_option maxRecDepth 100000
open Go.RowKit
def nxN (r x d : Nat) : Nat × Bool := if d ≤ 2 * r + x then (2 * r + x - d, true) else (2 * r + x, false)
theorem or_bit (n x : Nat) (hn : n % 2 = 0) (hx : x < 2) : n ||| x = n + x := by
 rcases (show x = 0 ∨ x = 1 by omega) with rfl | rfl
 ·simp
 ·have := Nat.two_pow_add_eq_or_of_lt (i := 1) (b := 1) (by decide) (n / 2)
  rw [show 2 ^ 1 * (n / 2) = n by rw [Nat.pow_one]; omega] at this
  exact this.symm
theorem s_quot_next (r x d : Nat) (hd : d < W128) (hr : r < d) (hx : x < 2) : F_quot_next [wd r 1, wd r 0, (x : Int), wd d 1, wd d 0] = oB (nxN r x d).1 ++ [b2i (nxN r x d).2] := by
 refine Eq.trans ?_ (show (fun p : Nat × Bool => oB p.1 ++ [b2i p.2]) (nxN r x d) = _ from rfl)
 have hrW : r < W128 := Nat.lt_trans hr hd
 have w64 := W64_val
 have ux : u64 (x : Int) = (x : Int) := u64_nat' x (by omega)
 have hor : iOp .or .u64 (wd (r + r) 0) (x : Int) = wd (r + r + x) 0 := by
  rw [wd_cast, wd_cast, lor_cast _ _ (Nat.mod_lt _ W64_pos) (by omega), Nat.pow_zero, Nat.div_one, Nat.div_one, or_bit _ _ (by rw [w64]; omega) hx]
  congr 1
  rw [w64]; omega
 have hhi : wd (r + r) 1 = wd (r + r + x) 1 := by
  rw [wd_cast, wd_cast, Nat.pow_one]
  congr 2
  rw [w64]; omega
 have hT : nB (wd (r + r) 1) (wd (r + r + x) 0) = (r + r + x) % W128 := by rw [hhi, nB_mod]
 rw [F_quot_next, t_quot_next]
 refine (treeF_call (r := [wd (r + r) 1, wd (r + r) 0, b2i (decide (W128 ≤ r + r))]) ?_ rfl).trans ?_
 ·simp only [sxs, ph_E1_word_Add]; rw [s_word_Add, nB_small hrW]
 refine (treeF_call (r := [wd ((r + r + x) % W128 + W128 - d) 1, wd ((r + r + x) % W128 + W128 - d) 0, b2i (decide ((r + r + x) % W128 < d))]) ?_ rfl).trans ?_
 ·simp only [sxs, ph_E1_word_Sub, ux, hor]; rw [s_word_Sub, hT, nB_small hd]
 rw [treeF_ite]
 simp only [l_an, l_ca, l_na, l_mc, l_mn, getI_0, getI_s, ev_var_b, iNz_b2i, decide_eq_true_iff]
 have w128 := W128_val
 have hd' : d < 340282366920938463463374607431768211456 := by rw [← w128]; exact hd
 have key : ∀ {a b : Nat}, a % W128 = b % W128 → oB a = oB b := fun {a b} h => by
  rw [oB_eq, oB_eq, wd_mod128 a 1 (by decide) |>.symm, wd_mod128 a 0 (by decide) |>.symm, h, wd_mod128 b 1 (by decide), wd_mod128 b 0 (by decide)]
 unfold nxN
 by_cases hle : d ≤ 2 * r + x
 ·rw [if_pos hle]
  have e : oB ((r + r + x) % W128 + W128 - d) = oB (2 * r + x - d) := key (by rw [w128]; omega)
  rw [oB_eq, oB_eq] at e
  by_cases hc : W128 ≤ r + r
  ·rw [if_pos hc, treeF_leaf rfl]
   simp only [sxs]
   simp only [List.cons.injEq] at e
   rw [e.1, e.2.1]; rfl
  ·rw [if_neg hc, treeF_ite]
   simp only [l_an, l_ca, l_na, l_mc, l_mn, getI_0, getI_s, ev_not, ev_var_b, iNz_b2i, Bool.not_eq_true', decide_eq_false_iff_not]
   rw [if_pos (by rw [Nat.mod_eq_of_lt (by omega)]; omega), treeF_leaf rfl]
   simp only [sxs]
   simp only [List.cons.injEq] at e
   rw [e.1, e.2.1]; rfl
 ·rw [if_neg hle]
  rw [if_neg (show ¬ W128 ≤ r + r by omega), treeF_ite]
  simp only [l_an, l_ca, l_na, l_mc, l_mn, getI_0, getI_s, ev_not, ev_var_b, iNz_b2i, Bool.not_eq_true', decide_eq_false_iff_not]
  rw [if_neg (by rw [Nat.mod_eq_of_lt (by omega)]; omega), treeF_leaf rfl]
  simp only [sxs, ux, hor]
  rw [hhi, show 2 * r + x = r + r + x by omega]; rfl
theorem next_in (m r d : Nat) (w : World) (hG : Gl gG w) (hr : r < d) (hd : d < W128) : CallsIn Fence.wide m Tryz.prog 217 #[vB r, .int .u64 0, vB d] w fun e w' => e = .returned (.tuple #[vB (nxN r 0 d).1, .bool (nxN r 0 d).2]) ∧ Bel w w' := callsIn_wide.2 (by
 have h := calls_of_pc (e_quot_next [wd r 1, wd r 0, ((0 : Nat) : Int), wd d 1, wd d 0] rfl).2 Tryz.func217 (by kernel_rfl) (by kernel_rfl) w hG
 simp only [] at h
 rw [s_quot_next r 0 d hd hr (by decide), oB_eq] at h
 have ux : u64 ((0 : Nat) : Int) = 0 := by decide
 simpa only [c_quot_next, valsS, val1, valXs, valX, Sh.kinds, List.drop_succ_cons, List.drop_zero, List.length_cons, List.length_nil, w64_u, u64_wd, ux, resVal, b2i_ne, l_ca, l_na] using h)
end Go.Proofs.YtemomocmfggiaaaGreatDoor
