import Derived.Test.YtkfbdlidigmfbaaGreatDoorP45B1
import Derived.Test.YtkfbdlidigmfbaaGreatDoorT16B1
import Derived.Test.YtkfbdlidigmfbaaGreatDoorSBB1
namespace Go.Proofs.YtkfbdlidigmfbaaGreatDoor
set_option linter.unusedVariables false
set_option linter.unusedSimpArgs false
set_option maxRecDepth 100000
open Go.RowKit
theorem k_widened {F b1 b0 : Int} {φ x d : Nat} (hF : fN F = φ) (h2 : φ ≤ 2) (hx0 : 0 < x) (hx : x < FP.inf φ) (hb : nB b1 b0 = FP.mk φ false x) (hv : FP.val φ x * 2 ^ FP.fU (φ + 1) = FP.val (φ + 1) d * 2 ^ FP.fU φ) :
  F_law22_widened [F, b1, b0] = [wd (FP.mk (φ + 1) false d) 1, wd (FP.mk (φ + 1) false d) 0] := by
 subst hF
 obtain ⟨d', h3, h4, h5⟩ := widened_any h2 hx0 hx hb
 have e : d' = d := by
  apply FP.cval_inj (FP.fP_ge (show fN F + 1 < 4 by omega))
  exact Nat.eq_of_mul_eq_mul_right (FP.two_pow_pos (FP.fU (fN F))) (h4.symm.trans hv)
 rw [← e]; exact h5
theorem k_square {F b1 b0 : Int} {φ x d z : Nat} (hF : fN F = φ) (h2 : φ ≤ 2) (hx0 : 0 < x) (hx : x < FP.inf φ) (hb : nB b1 b0 = FP.mk φ false x) (hd : d < FP.inf (φ + 1)) (hv : FP.val φ x * 2 ^ FP.fU (φ + 1) = FP.val (φ + 1) d * 2 ^ FP.fU φ)
  (hz : mulR (φ + 1) 0 false (FP.mk (φ + 1) false d) (FP.mk (φ + 1) false d) = (FP.mk (φ + 1) false z, 0)) (hzi : z < FP.inf (φ + 1)) : F_law22_square [F, b1, b0] = [wd (FP.mk (φ + 1) false z) 1, wd (FP.mk (φ + 1) false z) 0] := by
 subst hF
 have hg : fN F + 1 < 4 := by omega
 have ld : FP.mk (fN F + 1) false d < W128 := mk_W hg false (Nat.lt_trans hd (inf_lt hg))
 rw [F_law22_square, t_law22_square]
 refine (treeF_call (r := [wd (FP.mk (fN F + 1) false d) 1, wd (FP.mk (fN F + 1) false d) 0]) (by simp only [sxs, ph_SB1_law22_widened]; exact k_widened (fN_u F) h2 hx0 hx ((nB_u _ _).trans hb) hv) rfl).trans ?_
 refine (treeF_call (r := [wd (FP.mk (fN F + 1) false z) 1, wd (FP.mk (fN F + 1) false z) 0, 0]) (by simp only [sxs, ph_SB1_mul_Mul]; exact (k_mul_Mul (fN_succ3 h2) hg ((md_lit 0 (by decide)).1) ((md_lit 0 (by decide)).2) (show iNz 0 = false from rfl) (nB_small ld) (nB_small ld)).trans (by rw [hz]; rfl)) rfl).trans ?_
 rw [treeF_leaf rfl]; simp only [sxs]
theorem k_next {x y : Nat} (hx : x < W128) (h : x + 1 = y) (hy : y < W128) : F_word_Add [wd x 1, wd x 0, 0, 1] = [wd y 1, wd y 0, 0] := by
 rw [s_word_Add, nB_small hx, show nB 0 1 = 1 by unfold nB; rw [show u64 0 = 0 by decide, show u64 1 = 1 by decide]; rfl, h, decide_eq_false (by omega)]; rfl
theorem nCmp_w64 (p q : Nat) : i64 (nCmp p q) = nCmp p q := by
 unfold nCmp; split
 ·decide
 ·split <;> decide
theorem mk_self2 (f c : Nat) : FP.mk f false c = c := by unfold FP.mk; simp
theorem op_rem8b (a b : Int) : iOp .rem .u8 a b = a.tmod b := rfl
theorem true_SqrtBetween (l : List Int) (h : l.length = 5) : F_law22_SqrtBetween l = [1] := by
 match l, h with
 | [f, m, t, a1, a0], _ =>
 rw [F_law22_SqrtBetween, t_law22_SqrtBetween]
 by_cases h2 : fN f ≤ 2
 ·have hf : fN f < 4 := by omega
  have hf3 : fN f < 3 := by omega
  have hg : fN f + 1 < 4 := by omega
  have hcl := FP.cod_lt (fN f) (nB a1 a0)
  by_cases hc : clsF (fN f) (sizeN (fN f) (nB a1 a0)) = 1 ∨ clsF (fN f) (sizeN (fN f) (nB a1 a0)) = 2
  ·have hS : sizeN (fN f) (nB a1 a0) = FP.mk (fN f) false (FP.cod (fN f) (nB a1 a0)) := rfl
   have hcc := hc
   rw [hS, clsF_mk hf _ hcl] at hcc
   have c1 : FP.cod (fN f) (nB a1 a0) < FP.inf (fN f) := FP.clsC_fin.1 (by omega)
   have c0 : 0 < FP.cod (fN f) (nB a1 a0) := Nat.pos_of_ne_zero fun h0 => by
    have := (clsC_zero_iff (f := fN f)).2 h0; omega
   obtain ⟨n, hn, hnv⟩ := FP.fits_wider (f := fN f) (t := fN f + 1) (by omega) hg c1
   obtain ⟨e, k, hR, e0, eI, hk, hZ1, hZ2⟩ := root_law hf3 c0 c1 hnv
   rw [← hS] at hR
   have hR0 := sqrtR_pos (m := (u8 m).toNat % 5) (t := iNz t) hf c0 c1
   have hG0 := (FP.sqrtC_code (m := (u8 m).toNat % 5) (after := iNz t) hf c0 c1).2.2
   have hI0 := (FP.sqrtC_code (m := (u8 m).toNat % 5) (after := iNz t) hf c0 c1).1
   obtain ⟨r0, g0, hrg⟩ : ∃ r g, FP.sqrtC (fN f) ((u8 m).toNat % 5) (iNz t) (FP.cod (fN f) (nB a1 a0)) = (r, g) := ⟨_, _, rfl⟩
   rw [hrg] at hR0 hG0 hI0
   simp only at hR0 hG0 hI0
   rw [← hS] at hR0
   have eI0 : e < FP.inf (fN f) := by omega
   obtain ⟨d1, hd1, hv1⟩ := FP.fits_wider (f := fN f) (t := fN f + 1) (by omega) hg eI0
   obtain ⟨d2, hd2, hv2⟩ := FP.fits_wider (f := fN f) (t := fN f + 1) (by omega) hg eI
   obtain ⟨z1, hz1, hm1, hq1⟩ := wide_sq hf3 eI0 hd1 hv1
   obtain ⟨z2, hz2, hm2, hq2⟩ := wide_sq hf3 eI hd2 hv2
   obtain ⟨hle, hiff⟩ := hZ1 z1 hq1
   have hgt := hZ2 z2 hq2
   have lE : FP.mk (fN f) false e < W128 := mk_W hf false (Nat.lt_trans eI0 (inf_lt hf))
   have lE1 : FP.mk (fN f) false (e + 1) < W128 := mk_W hf false (Nat.lt_trans eI (inf_lt hf))
   have lZ1 : FP.mk (fN f + 1) false z1 < W128 := mk_W hg false (Nat.lt_trans hz1 (inf_lt hg))
   have lZ2 : FP.mk (fN f + 1) false z2 < W128 := mk_W hg false (Nat.lt_trans hz2 (inf_lt hg))
   have lN : FP.mk (fN f + 1) false n < W128 := mk_W hg false (Nat.lt_trans hn (inf_lt hg))
   have lR0 : FP.mk (fN f) false r0 < W128 := mk_W hf false (Nat.lt_trans hI0 (inf_lt hf))
   have hS1 : FP.mk (fN f) false e + 1 = FP.mk (fN f) false (e + 1) := by rw [mk_self2, mk_self2]
   have lS : sizeN (fN f) (nB a1 a0) < W128 := size_lt hf _
   have k8 : u8 ((k : Nat) : Int) = (k : Int) := u8_flag (by omega)
   have hle' : FP.mk (fN f + 1) false z1 ≤ FP.mk (fN f + 1) false n := by rw [mk_self2, mk_self2]; exact hle
   have hgt' : FP.mk (fN f + 1) false n < FP.mk (fN f + 1) false z2 := by rw [mk_self2, mk_self2]; exact hgt
   have hiff' : FP.mk (fN f + 1) false z1 = FP.mk (fN f + 1) false n ↔ k = 0 := by rw [mk_self2, mk_self2]; exact hiff
   rcases hc with hc | hc
   ·skip
    refine (treeF_call (r := [wd (sizeN (fN f) (nB a1 a0)) 1, wd (sizeN (fN f) (nB a1 a0)) 0]) (by simp only [sxs, ph_SB_law22_size, op_rem8b]; exact k_law22_size (fN_u f) hf (nB_u _ _)) (by rfl)).trans ?_
    refine (treeF_call (r := [((clsF (fN f) (sizeN (fN f) (nB a1 a0)) : Nat) : Int), b2i (FP.sgn (fN f) (sizeN (fN f) (nB a1 a0)))]) (by simp only [sxs, ph_SB_class_Of, op_rem8b]; exact k_class_Of (fN_u f) hf (nB_small (lS))) (by rfl)).trans ?_
    refine tF (by simp only [sxs, op_rem8b]; have hu := u8_rng f; unfold fN at h2; exact decide_eq_false (by omega)) ?_
    refine tF (by simp only [sxs, op_rem8b]; rw [clsF_u8, hc]; rfl) ?_
    refine (treeF_call (r := [wd (FP.mk (fN f) false r0) 1, wd (FP.mk (fN f) false r0) 0, ((g0 : Nat) : Int)]) (by simp only [sxs, ph_SB_sqrt_Sqrt, op_rem8b]; exact (k_sqrt_Sqrt (fN_u f) hf ((md_rem m).1) ((md_rem m).2) (iNz_b2i _) (nB_small (lS))).trans (by rw [hR0]; try rfl)) (by rfl)).trans ?_
    refine tF (by simp only [sxs, op_rem8b]; rcases hG0 with h | h <;> rw [h] <;> rfl) ?_
    refine (treeF_call (r := [wd (FP.mk (fN f) false e) 1, wd (FP.mk (fN f) false e) 0, ((k : Nat) : Int)]) (by simp only [sxs, ph_SB_sqrt_Sqrt, op_rem8b]; exact (k_sqrt_Sqrt (fN_u f) hf ((md_lit 4 (by decide)).1) ((md_lit 4 (by decide)).2) (show iNz 0 = false from rfl) (nB_small (lS))).trans (by rw [hR]; try rfl)) (by rfl)).trans ?_
    refine (treeF_call (r := [wd (FP.mk (fN f) false (e + 1)) 1, wd (FP.mk (fN f) false (e + 1)) 0, (0 : Int)]) (by simp only [sxs, ph_SB_word_Add, op_rem8b]; exact k_next lE hS1 lE1) (by rfl)).trans ?_
    refine (treeF_call (r := [wd (FP.mk (fN f + 1) false z1) 1, wd (FP.mk (fN f + 1) false z1) 0]) (by simp only [sxs, ph_SB_law22_square, op_rem8b]; exact k_square (fN_u f) h2 e0 eI0 (nB_small (lE)) hd1 hv1 hm1 hz1) (by rfl)).trans ?_
    refine (treeF_call (r := [wd (FP.mk (fN f + 1) false z2) 1, wd (FP.mk (fN f + 1) false z2) 0]) (by simp only [sxs, ph_SB_law22_square, op_rem8b]; exact k_square (fN_u f) h2 (Nat.succ_pos _) eI (nB_small (lE1)) hd2 hv2 hm2 hz2) (by rfl)).trans ?_
    refine (treeF_call (r := [wd (FP.mk (fN f + 1) false n) 1, wd (FP.mk (fN f + 1) false n) 0]) (by simp only [sxs, ph_SB_law22_widened, op_rem8b]; exact k_widened (fN_u f) h2 c0 c1 (nB_small (lS)) hnv) (by rfl)).trans ?_
    refine (treeF_call (r := [nCmp (FP.mk (fN f + 1) false z1) (FP.mk (fN f + 1) false n)]) (by simp only [sxs, ph_SB_word_Cmp, op_rem8b]; exact k_wordCmp (lZ1) (lN)) (by rfl)).trans ?_
    refine tT (by simp only [sxs, op_rem8b]; rw [nCmp_w64, nCmp_le0]; exact decide_eq_true hle') ?_
    refine (treeF_call (r := [nCmp (FP.mk (fN f + 1) false z2) (FP.mk (fN f + 1) false n)]) (by simp only [sxs, ph_SB_word_Cmp, op_rem8b]; exact k_wordCmp (lZ2) (lN)) (by rfl)).trans ?_
    refine tT (by simp only [sxs, op_rem8b]; rw [nCmp_w64, nCmp_gt0]; exact decide_eq_true hgt') ?_
    refine tT (by simp only [sxs, op_rem8b]; rw [nCmp_w64, nCmp_eq0, k8, beq_nk0]; rw [show decide (FP.mk (fN f + 1) false z1 = FP.mk (fN f + 1) false n) = decide (k = 0) from decide_eq_decide.2 hiff']; exact beq_self_eq_true _) ?_
    rw [treeF_leaf rfl]; rfl
   ·skip
    refine (treeF_call (r := [wd (sizeN (fN f) (nB a1 a0)) 1, wd (sizeN (fN f) (nB a1 a0)) 0]) (by simp only [sxs, ph_SB_law22_size, op_rem8b]; exact k_law22_size (fN_u f) hf (nB_u _ _)) (by rfl)).trans ?_
    refine (treeF_call (r := [((clsF (fN f) (sizeN (fN f) (nB a1 a0)) : Nat) : Int), b2i (FP.sgn (fN f) (sizeN (fN f) (nB a1 a0)))]) (by simp only [sxs, ph_SB_class_Of, op_rem8b]; exact k_class_Of (fN_u f) hf (nB_small (lS))) (by rfl)).trans ?_
    refine tF (by simp only [sxs, op_rem8b]; have hu := u8_rng f; unfold fN at h2; exact decide_eq_false (by omega)) ?_
    refine tT (by simp only [sxs, op_rem8b]; rw [clsF_u8, hc]; rfl) ?_
    refine tF (by simp only [sxs, op_rem8b]; rw [clsF_u8, hc]; rfl) ?_
    refine (treeF_call (r := [wd (FP.mk (fN f) false r0) 1, wd (FP.mk (fN f) false r0) 0, ((g0 : Nat) : Int)]) (by simp only [sxs, ph_SB_sqrt_Sqrt, op_rem8b]; exact (k_sqrt_Sqrt (fN_u f) hf ((md_rem m).1) ((md_rem m).2) (iNz_b2i _) (nB_small (lS))).trans (by rw [hR0]; try rfl)) (by rfl)).trans ?_
    refine tF (by simp only [sxs, op_rem8b]; rcases hG0 with h | h <;> rw [h] <;> rfl) ?_
    refine (treeF_call (r := [wd (FP.mk (fN f) false e) 1, wd (FP.mk (fN f) false e) 0, ((k : Nat) : Int)]) (by simp only [sxs, ph_SB_sqrt_Sqrt, op_rem8b]; exact (k_sqrt_Sqrt (fN_u f) hf ((md_lit 4 (by decide)).1) ((md_lit 4 (by decide)).2) (show iNz 0 = false from rfl) (nB_small (lS))).trans (by rw [hR]; try rfl)) (by rfl)).trans ?_
    refine (treeF_call (r := [wd (FP.mk (fN f) false (e + 1)) 1, wd (FP.mk (fN f) false (e + 1)) 0, (0 : Int)]) (by simp only [sxs, ph_SB_word_Add, op_rem8b]; exact k_next lE hS1 lE1) (by rfl)).trans ?_
    refine (treeF_call (r := [wd (FP.mk (fN f + 1) false z1) 1, wd (FP.mk (fN f + 1) false z1) 0]) (by simp only [sxs, ph_SB_law22_square, op_rem8b]; exact k_square (fN_u f) h2 e0 eI0 (nB_small (lE)) hd1 hv1 hm1 hz1) (by rfl)).trans ?_
    refine (treeF_call (r := [wd (FP.mk (fN f + 1) false z2) 1, wd (FP.mk (fN f + 1) false z2) 0]) (by simp only [sxs, ph_SB_law22_square, op_rem8b]; exact k_square (fN_u f) h2 (Nat.succ_pos _) eI (nB_small (lE1)) hd2 hv2 hm2 hz2) (by rfl)).trans ?_
    refine (treeF_call (r := [wd (FP.mk (fN f + 1) false n) 1, wd (FP.mk (fN f + 1) false n) 0]) (by simp only [sxs, ph_SB_law22_widened, op_rem8b]; exact k_widened (fN_u f) h2 c0 c1 (nB_small (lS)) hnv) (by rfl)).trans ?_
    refine (treeF_call (r := [nCmp (FP.mk (fN f + 1) false z1) (FP.mk (fN f + 1) false n)]) (by simp only [sxs, ph_SB_word_Cmp, op_rem8b]; exact k_wordCmp (lZ1) (lN)) (by rfl)).trans ?_
    refine tT (by simp only [sxs, op_rem8b]; rw [nCmp_w64, nCmp_le0]; exact decide_eq_true hle') ?_
    refine (treeF_call (r := [nCmp (FP.mk (fN f + 1) false z2) (FP.mk (fN f + 1) false n)]) (by simp only [sxs, ph_SB_word_Cmp, op_rem8b]; exact k_wordCmp (lZ2) (lN)) (by rfl)).trans ?_
    refine tT (by simp only [sxs, op_rem8b]; rw [nCmp_w64, nCmp_gt0]; exact decide_eq_true hgt') ?_
    refine tT (by simp only [sxs, op_rem8b]; rw [nCmp_w64, nCmp_eq0, k8, beq_nk0]; rw [show decide (FP.mk (fN f + 1) false z1 = FP.mk (fN f + 1) false n) = decide (k = 0) from decide_eq_decide.2 hiff']; exact beq_self_eq_true _) ?_
    rw [treeF_leaf rfl]; rfl
  ·have lS : sizeN (fN f) (nB a1 a0) < W128 := size_lt hf _
   refine (treeF_call (r := [wd (sizeN (fN f) (nB a1 a0)) 1, wd (sizeN (fN f) (nB a1 a0)) 0]) (by simp only [sxs, ph_SB_law22_size, op_rem8b]; exact k_law22_size (fN_u f) hf (nB_u _ _)) (by rfl)).trans ?_
   refine (treeF_call (r := [((clsF (fN f) (sizeN (fN f) (nB a1 a0)) : Nat) : Int), b2i (FP.sgn (fN f) (sizeN (fN f) (nB a1 a0)))]) (by simp only [sxs, ph_SB_class_Of, op_rem8b]; exact k_class_Of (fN_u f) hf (nB_small (lS))) (by rfl)).trans ?_
   refine tF (by simp only [sxs, op_rem8b]; have hu := u8_rng f; unfold fN at h2; exact decide_eq_false (by omega)) ?_
   refine tT (by simp only [sxs, op_rem8b]; rw [clsF_u8]; exact bne_iff_ne.2 (by omega)) ?_
   refine tT (by simp only [sxs, op_rem8b]; rw [clsF_u8]; exact bne_iff_ne.2 (by omega)) ?_
   rw [treeF_leaf rfl]; rfl
 ·by_cases hf : fN f < 4
  ·have lS : sizeN (fN f) (nB a1 a0) < W128 := size_lt hf _
   refine (treeF_call (r := [wd (sizeN (fN f) (nB a1 a0)) 1, wd (sizeN (fN f) (nB a1 a0)) 0]) (by simp only [sxs, ph_SB_law22_size, op_rem8b]; exact k_law22_size (fN_u f) hf (nB_u _ _)) (by rfl)).trans ?_
   refine (treeF_call (r := [((clsF (fN f) (sizeN (fN f) (nB a1 a0)) : Nat) : Int), b2i (FP.sgn (fN f) (sizeN (fN f) (nB a1 a0)))]) (by simp only [sxs, ph_SB_class_Of, op_rem8b]; exact k_class_Of (fN_u f) hf (nB_small (lS))) (by rfl)).trans ?_
   refine tT (by simp only [sxs, op_rem8b]; have hu := u8_rng f; unfold fN at h2; exact decide_eq_true (by omega)) ?_
   rw [treeF_leaf rfl]; rfl
  ·skip
   refine (treeF_call (r := [(0 : Int), (0 : Int)]) (by simp only [sxs, ph_SB_law22_size, op_rem8b]; exact k_law22_size0 (by rw [fN_u]; exact hf)) (by rfl)).trans ?_
   refine (treeF_call (r := [(0 : Int), (0 : Int)]) (by simp only [sxs, ph_SB_class_Of, op_rem8b]; exact (s_class_Of _ _ _).trans (by rw [fN_u, if_neg hf])) (by rfl)).trans ?_
   refine tT (by simp only [sxs, op_rem8b]; have hu := u8_rng f; unfold fN at h2; exact decide_eq_true (by omega)) ?_
   rw [treeF_leaf rfl]; rfl
end Go.Proofs.YtkfbdlidigmfbaaGreatDoor
