import Derived.Test.YtngiodcdelfdmaaGreatDoorP38R8
import Derived.Test.YtngiodcdelfdmaaGreatDoorP19R8
import Derived.Test.YtngiodcdelfdmaaGreatDoorP32R8
import Derived.Test.YtngiodcdelfdmaaGreatDoorDPR8
namespace Go.Proofs.YtngiodcdelfdmaaGreatDoor
set_option linter.unusedVariables false
set_option linter.unusedSimpArgs false
set_option maxRecDepth 100000
open Go.RowKit
theorem ev_var_s (l : List Int) (i : Nat) : X.ev l (.var (.int .i16) i) = IntKind.i16.wrap (getI l i) := by rw [X.ev, normC_eq]; rfl
theorem op_remS (a b : Int) : iOp .rem .i64 a b = a.tmod b := rfl
theorem mulR_W1 {f : Nat} (hf : f < 4) (m : Nat) (t : Bool) (a b : Nat) : (mulR f m t a b).1 < W128 := by
 unfold mulR
 split
 ·rename_i h; exact (quN_lt hf h).1
 ·split
  ·rename_i h; exact (quN_lt hf h).1
  ·rename_i ha hb
   have := mulR_lt hf m t ha hb
   unfold mulR at this
   rw [if_neg ha, if_neg hb] at this
   exact this
theorem mulR_8 {f m : Nat} {t : Bool} {a b : Nat} (ha : ¬ 4 ≤ clsF f a) (hb : ¬ 4 ≤ clsF f b) (hf : f < 4) : (mulR f m t a b).2 < 256 := by
 have := mulR_flag hf m t ha hb; omega
theorem true_DivPowers (l : List Int) (h : l.length = 6) : F_law21_DivPowers l = [1] := by
 match l, h with
 | [f, m, t, a1, a0, p], _ =>
 rw [F_law21_DivPowers, t_law21_DivPowers]
 by_cases hf : fN f < 4
 ·by_cases hm : u8 m ≤ 4
  ·have known := known_f hf
   have knownm := known_m hm
   by_cases na : 4 ≤ clsF (fN f) (nB a1 a0)
   ·skip
    refine tF (by simp only [sxs]; exact known) ?_
    refine tF (by simp only [sxs]; exact knownm) ?_
    refine (treeF_call (r := [b2i (decide (4 ≤ clsF (fN f) (nB a1 a0)))]) (by simp only [sxs, ph_DP_class_NaN]; exact k_class_NaN (fN_u f) (nB_u _ _)) (by rfl)).trans ?_
    refine tT (by simp only [sxs]; exact decide_eq_true (na)) ?_
    rw [treeF_leaf rfl]; rfl
   ·obtain ⟨n1, n2, n3, n4, n5, n6, n7, n8, n9⟩ := FP.fmtN hf
    obtain ⟨k, j, hk, hj, hkj, e1, e2⟩ := pw_exp (E := FP.fE (fN f)) (by omega) (by omega) (IntKind.i16.wrap p)
    have lx := mk_W hf false (pow_bits hf hk (by omega)).1
    have ly := mk_W hf false (pow_bits hf hj (by omega)).1
    have ny : ¬ 4 ≤ clsF (fN f) (FP.mk (fN f) false (j * 2 ^ (FP.fP (fN f) - 1))) := by rw [(pow_bits hf hj (by omega)).2.1]; omega
    have heq := divR_power hf (u8 m).toNat (iNz t) na hk hj hkj
    have hlt := mulR_W1 hf (u8 m).toNat (iNz t) (nB a1 a0) (FP.mk (fN f) false (j * 2 ^ (FP.fP (fN f) - 1)))
    have hfl := mulR_8 (m := (u8 m).toNat) (t := iNz t) na ny hf
    generalize hX : FP.mk (fN f) false (k * 2 ^ (FP.fP (fN f) - 1)) = X at *
    generalize hY : FP.mk (fN f) false (j * 2 ^ (FP.fP (fN f) - 1)) = Y at *
    obtain ⟨r, g, k2⟩ : ∃ r g, mulR (fN f) (u8 m).toNat (iNz t) (nB a1 a0) Y = (r, g) := ⟨_, _, rfl⟩
    have k1 := heq.trans k2
    rw [k2] at hlt hfl
    simp only at hlt hfl
    refine tF (by simp only [sxs]; exact known) ?_
    refine tF (by simp only [sxs]; exact knownm) ?_
    refine (treeF_call (r := [b2i (decide (4 ≤ clsF (fN f) (nB a1 a0)))]) (by simp only [sxs, ph_DP_class_NaN]; exact k_class_NaN (fN_u f) (nB_u _ _)) (by rfl)).trans ?_
    refine tF (by simp only [sxs]; exact decide_eq_false (na)) ?_
    refine (treeF_call (r := [((FP.fE (fN f) : Nat) : Int)]) (by simp only [sxs, ph_DP_format_Emax]; exact k_format_Emax (fN_u f)) (by rfl)).trans ?_
    refine tF (by simp only [sxs]; rw [i64_nat (by omega)]; exact beq_eq_false_iff_ne.2 (by omega)) ?_
    refine (treeF_call (r := [wd (X) 1, wd (X) 0]) (by simp only [sxs, ph_DP_format_Make]; exact (k_pow (fN_u f) hf hk (by omega) (by rw [ev_var_s, op_remS]; exact e1)).trans (by rw [hX])) (by rfl)).trans ?_
    refine (treeF_call (r := [wd (Y) 1, wd (Y) 0]) (by simp only [sxs, ph_DP_format_Make]; exact (k_pow (fN_u f) hf hj (by omega) (by rw [ev_var_s, op_remS]; exact e2)).trans (by rw [hY])) (by rfl)).trans ?_
    refine (treeF_call (r := [wd (r) 1, wd (r) 0, ((g : Nat) : Int)]) (by simp only [sxs, ph_DP_div_Div]; exact (k_div_Div (fN_u f) hf ((md_u hm).1) ((md_u hm).2) (iNz_b2i _) (nB_u _ _) (nB_small (lx))).trans (by rw [k1]; try rfl)) (by rfl)).trans ?_
    refine (treeF_call (r := [wd (r) 1, wd (r) 0, ((g : Nat) : Int)]) (by simp only [sxs, ph_DP_mul_Mul]; exact (k_mul_Mul (fN_u f) hf ((md_u hm).1) ((md_u hm).2) (iNz_b2i _) (nB_u _ _) (nB_small (ly))).trans (by rw [k2]; try rfl)) (by rfl)).trans ?_
    refine tT (by simp only [sxs]; simp only [beq_self_eq_true, Bool.and_true, Bool.and_self, bt1, bt0]) ?_
    rw [treeF_leaf rfl]; rfl
  ·have known := known_f hf
   refine tF (by simp only [sxs]; exact known) ?_
   refine tT (by simp only [sxs]; rw [decide_eq_false hm]; rfl) ?_
   rw [treeF_leaf rfl]; rfl
 ·skip
  refine tT (by simp only [sxs]; rw [decide_eq_false (fun h => hf ((u8_lt4 f).1 h))]; rfl) ?_
  rw [treeF_leaf rfl]; rfl
end Go.Proofs.YtngiodcdelfdmaaGreatDoor
